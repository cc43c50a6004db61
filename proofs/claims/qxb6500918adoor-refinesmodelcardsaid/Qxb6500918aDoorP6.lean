/-
  Clone of the store. (Made by program: a symbolic walk that prints its steps.)
-/
import Derived.Test.Qxb6500918aDoorKS
import Derived.Test.Qxb6500918aDoorKT
import Derived.Test.Qxb6500918aDoorSxR
namespace Go.Proofs.Qxb6500918aDoor
open Go.Sx Go.Kn
set_option maxRecDepth 100000
set_option maxHeartbeats 4000000
set_option linter.unusedVariables false
set_option linter.unusedSimpArgs false

theorem splice_full : ∀ {vs X : List Value}, vs.length = X.length → splice X 0 vs = vs
  | [], [], _ => rfl
  | v :: vs, x :: X, h => by
    have h1 := splice_app_right vs [v] X 0
    show splice ([v] ++ X) 1 vs = _
    rw [show (1 : Nat) = [v].length + 0 from rfl, h1, splice_full (by simpa using h)]; rfl

theorem cells_whole {w : World} {b ty : Nat} {cs : List Value} {ro : Bool} (hb : w.heap[b]? = some (Blk.obj ⟨cs, ty, ro⟩)) : CellsAt w b 0 cs := by
  intro j v hj
  unfold World.cell?
  rw [hb]
  simp only [Blk.obj, Nat.zero_add]
  simpa using hj

theorem storeClone_ok (bo : Nat) (E : Nat → Ent) (w : World) (hb : w.heap[bo]? = some (Blk.obj ⟨stC E, 131, false⟩)) :
    Calls Tryd.prog 64 #[.pointer (some ⟨bo, 0, none⟩)] w fun e w' => ∃ b, e = .returned (.pointer (some ⟨b, 0, none⟩)) ∧ w'.heap[b]? = some (Blk.obj ⟨stC E, 131, false⟩) ∧ w.heap.size ≤ b ∧ Fr [] w w' := by
  refine enter0 (n := 7) (K := []) (T := [(0, .pointer (some ⟨bo, 0, none⟩))]) (L := [(bo, ⟨stC E, 131, true⟩)]) (args := [.pointer (some ⟨bo, 0, none⟩)]) Tryd.func64 rfl rfl rfl rfl (kcons hb knil) (by simp) (kcons (by intro hq; cases hq) knil) ?_
  intro a h
  refine wp_seq_k fun K1 hK1 => ?_
  refine nd_start (l := [0]) rfl ?_
  refine nd_batch tabOk tabZ_ok [(0, {})] [0, 2] (T' := [(0, .pointer (some ⟨bo, 0, none⟩)), (2, .pointer none)]) (φ := True) (rest := []) h (by kernel_rfl) rfl trivial fun a2 h3 => ?_
  clear h
  refine nd_done ?_
  refine hK1 _ _ ?_
  clear hK1
  refine wp_seq_k fun K4 hK4 => ?_
  refine nd_start (l := [0, 1, 2, 3, 4]) rfl ?_
  refine nd_batch tabOk tabZ_ok [(0, {}), (1, {})] [0, 2, 5] (T' := [(0, .pointer (some ⟨bo, 0, none⟩)), (2, .pointer none), (5, .pointer (some ⟨bo, 0, none⟩))]) (φ := True) (rest := [2, 3, 4]) h3 (by kernel_rfl) rfl trivial fun a5 h6 => ?_
  clear h3
  refine nd_op ?_
  refine op_loadx tabOk (vs := stC E) h6 rfl rfl rfl rfl rfl rfl st_len.symm (cells_whole (h6.kn (k := 0) (blk := ⟨stC E, 131, true⟩) rfl)) ?_
  have h7 := h6.put (d := some 6) (v := .agg (stC E).toArray) (T' := [(6, .agg (stC E).toArray), (0, .pointer (some ⟨bo, 0, none⟩)), (2, .pointer none), (5, .pointer (some ⟨bo, 0, none⟩))]) rfl
  clear h6
  refine nd_op ?_
  refine op_new tabOk (cells := (vcells z131)) (ty := 131) (ln := none) (L1 := fun b8 => [(bo, ⟨stC E, 131, true⟩), (b8, ⟨(vcells z131), 131, false⟩)]) h7 rfl rfl rfl rfl (by kernel_rfl) (fun _ => rfl) fun b8 w9 a10 h11 hf12 hn13 => ?_
  clear h7
  refine nd_op ?_
  refine op_store tabOk {k := 1, m := 1, vs := stC E} (L' := [(bo, ⟨stC E, 131, true⟩), (b8, ⟨stC E, 131, false⟩)]) (φ := b8 = b8 ∧ Nat.ble (0 + 1028) (vcells z131).length = true ∧ splice (vcells z131) 0 (stC E) = stC E) h11 rfl rfl rfl (by kernel_rfl) ⟨rfl, by kernel_rfl, splice_full (by rw [st_len]; kernel_rfl)⟩ fun w14 h15 => ?_
  clear h11
  refine nd_done ?_
  refine hK4 _ _ ?_
  clear hK4
  refine wp_seq_k fun K16 hK16 => ?_
  refine nd_start (l := [0]) rfl ?_
  refine nd_batch tabOk tabZ_ok [(0, {})] [3, 0, 2] (T' := [(3, .pointer (some ⟨b8, 0, none⟩)), (0, .pointer (some ⟨bo, 0, none⟩)), (2, .pointer (some ⟨b8, 0, none⟩))]) (φ := True) (rest := []) h15 (by kernel_rfl) rfl trivial fun a17 h18 => ?_
  clear h15
  refine nd_done ?_
  refine hK16 _ _ ?_
  clear hK16
  refine wp_ret ?_
  try simp only [Exit.then, Exit.inBlock]
  try rw [if_pos trivial]
  exact s_ret tabOk tabZ_ok h18 [(.tmp 2, {})] (vs := [.pointer (some ⟨b8, 0, none⟩)]) (φ := True) rfl (by kernel_rfl) trivial ⟨b8, rfl, h18.kn (k := 1) rfl, (st_ky h18 (k := 1) rfl rfl).resolve_left (fun hq => by cases hq), h18.frame⟩

end Go.Proofs.Qxb6500918aDoor
