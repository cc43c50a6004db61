/-
  slices.Clone over references. (Made by program: a symbolic walk that prints its steps.)
-/
import Derived.Test.Qxb6500918aDoorP4
import Derived.Laws.Cover3
namespace Go.Proofs.Qxb6500918aDoor
open Go.Sx Go.Kn
set_option maxRecDepth 100000
set_option maxHeartbeats 4000000
set_option linter.unusedVariables false
set_option linter.unusedSimpArgs false

theorem allOne_rf : ∀ rs : List Rf, allOne (rs.flatMap rfC) = true
  | [] => rfl
  | r :: rs => by rw [List.flatMap_cons]; exact allOne_rf rs

theorem op_new0 {P : Program} {tab : Tab} {C : Ctx} {T : Slots} {L : Mem} {w : World} {a : Act} {ops : List Oper} {Q : Exit → Act → World → Prop} {Kc : Act → World → Prop} (ht : TabOk P tab) {i : Nat} {o : Oper} {t e : TypeId} {ti te : TI} {d : Nat} {L1 : Nat → Mem} (hst : St C T L a w) (hi : nth ops i = some o) (hw : wantE ops T o.guard = some true)
    (hd : o.dst = some d) (hdn : Nat.blt d C.n = true) (hop : o.op = .buildSlice t 0 #[]) (hti : Sx.look tab t = some ti) (hdd : ti.desc = .slice e) (hte : Sx.look tab e = some te) (hL : ∀ b, L ++ [(b, ⟨[], e, false⟩)] = L1 b)
    (hn : ∀ b w' a', St C ((d, newV b (some 0)) :: T) (L1 b) a' w' → Fr [] w w' → w.heap.size ≤ b → Kc a' w') : wpOp P ops.toArray Q i Kc a w := by
  have hrun : (execOp a.eval o).run P w = .ok (.value (newV w.heap.size (some 0))) (w.alloc (Blk.obj ⟨[], e, false⟩)) := by
    have h1 : (underlying t).run P w = .ok (.slice e) w := by rw [run_und ht hti (by rw [hdd]; intro fs h; cases h), hdd]
    simp only [execOp, hop, Instr.buildSlice, Sem.run_bind, h1, Result.andThen_ok, run_size ht hte, Nat.zero_mul, Array.map_empty]
    rw [if_neg (by decide), if_pos trivial]
    simp only [Sem.run_bind, Result.andThen_ok, Sem.run_pure]
    have hz : ∀ f : Nat → Value, Array.map f (Array.range 0) = #[] := fun f => by simp
    simp only [hz, Instr.fill, newRow, Sem.run_bind, run_newObj, Result.andThen_ok, Sem.run_pure, newV, Blk.obj]
    rfl
  unfold wpOp
  rw [nth_eq] at hi
  simp only [List.getElem?_toArray, hi, wantE_spec hst.slots hw, if_true]
  left
  simp only [Oper.wp, hrun, Oper.upon]
  refine hn w.heap.size _ _ ?_ (fr_alloc [] w _) (Nat.le_refl _)
  rw [← hL, hd]
  exact (hst.fresh (fr_alloc [] w _) (Nat.le_refl _) (heap_alloc_new w _)).put (by simp [putS, hdn])

theorem pure_slicenil {T : Slots} {a : Act} {o : Oper} {x : Operand} {b : Option Addr} {n c : Nat} {v : Bool} (hs : SlotsOk T a) (hop : o.op = .binOp .eql 51 x (.const (.slice none 0 0)) 51) (hx : evO T x = some (.slice b n c)) (hv : b.isNone = v) : Pure Tryd.prog a o (.bool v) := by
  intro w
  have e2 : a.eval (.const (.slice none 0 0)) = .slice none 0 0 := rfl
  have hq := run_equal_slice_nil (P := Tryd.prog) w 51 39 b n c Tryd.underlying51
  subst hv
  simp only [execOp, hop, evO_eval hs hx, e2, Sem.run_bind, eqGuard, binOp, Sem.run_pure]
  simp [hq]

theorem cloneR_some (rs : List Rf) (hl : rs.length ≤ 1000) (b c : Nat) (F : List Nat) (w : World) (hrow : Row w (some ⟨b, 0, none⟩) rs.length c 39 2 (rs.flatMap rfC) F) :
    Calls Tryd.prog 24 #[.slice (some ⟨b, 0, none⟩) rs.length c] w fun e w' => ∃ o' c' F', e = .returned (.slice o' rs.length c') ∧ (rl rfC 39 2 rs o' c' F').at w' ∧ Fr [] w w' ∧ ∀ b ∈ F', w.heap.size ≤ b := by
  refine enter0 (n := 8) (K := []) (T := [(0, .slice (some ⟨b, 0, none⟩) rs.length c)]) (L := []) (args := [.slice (some ⟨b, 0, none⟩) rs.length c]) Tryd.func24 rfl rfl rfl rfl knil (by simp) knil ?_
  intro a h
  refine wp_seq_k fun K1 hK1 => ?_
  refine nd_start (l := [0]) rfl ?_
  refine nd_batch tabOk tabZ_ok [(0, {})] [0, 2] (T' := [(0, .slice (some ⟨b, 0, none⟩) rs.length c), (2, .slice none 0 0)]) (φ := True) (rest := []) h (by kernel_rfl) rfl trivial fun a2 h3 => ?_
  clear h
  refine nd_done ?_
  refine hK1 _ _ ?_
  clear hK1
  refine wp_seq_k fun K4 hK4 => ?_
  refine wp_seq_k fun K5 hK5 => ?_
  refine nd_start (l := [0, 1]) rfl ?_
  refine nd_batch tabOk tabZ_ok [(0, {})] [0, 2, 3] (T' := [(0, .slice (some ⟨b, 0, none⟩) rs.length c), (2, .slice none 0 0), (3, .slice (some ⟨b, 0, none⟩) rs.length c)]) (φ := True) (rest := [1]) h3 (by kernel_rfl) rfl trivial fun a6 h7 => ?_
  clear h3
  refine nd_op ?_
  refine op_pure (v := .bool false) h7 rfl rfl (pure_slicenil h7.slots rfl rfl rfl) ?_
  have h8 := h7.put (d := some 4) (v := .bool false) (T' := [(4, .bool false), (0, .slice (some ⟨b, 0, none⟩) rs.length c), (2, .slice none 0 0), (3, .slice (some ⟨b, 0, none⟩) rs.length c)]) rfl
  clear h7
  refine nd_done ?_
  refine hK5 _ _ ?_
  clear hK5
  refine c_false h8 rfl ?_
  refine wp_skip ?_
  refine hK4 _ _ ?_
  clear hK4
  refine wp_seq_k fun K9 hK9 => ?_
  refine nd_start (l := [0, 1, 2, 3]) rfl ?_
  refine nd_op ?_
  refine op_new0 tabOk (L1 := fun b10 => [(b10, ⟨[], 39, false⟩)]) h8 rfl rfl rfl rfl rfl rfl rfl rfl (fun _ => rfl) fun b10 w11 a12 h13 hf14 hn15 => ?_
  clear h8
  refine nd_batch tabOk tabZ_ok [(1, {})] [5, 0, 2, 6] (T' := [(5, .slice (some ⟨b10, 0, none⟩) 0 0), (0, .slice (some ⟨b, 0, none⟩) rs.length c), (2, .slice none 0 0), (6, .slice (some ⟨b, 0, none⟩) rs.length c)]) (φ := True) (rest := [2, 3]) h13 (by kernel_rfl) rfl trivial fun a16 h17 => ?_
  clear h13
  refine nd_op ?_
  have hrw := Row.fr hrow h17.frame (fun _ _ hq => by cases hq)
  have hnb := h17.newer (k := 0) rfl rfl
  have hsz := h17.frame.size
  refine op_append tabOk (e := 39) (so := some ⟨b10, 0, none⟩) (n := 0) (c := 0) (xo := some ⟨b, 0, none⟩) (m := rs.length) (cx := c) (vals := []) (vs := rs.flatMap rfC) (F := [b10]) h17 rfl rfl rfl rfl rfl rfl rfl rfl rfl rfl rfl rfl ⟨rfl, .inr ⟨b10, [], rfl, h17.kn (k := 0) (blk := ⟨[], 39, false⟩) rfl, rfl, Nat.le_refl _, rfl, rfl⟩⟩ (src_row hrw) (by omega) (allOne_rf rs) ?_
  intro o18 c19 F20 w21 hr22 hf23 hF24
  rw [Nat.zero_add] at hr22 ⊢
  have h25 := ((h17.memMono (L' := []) (List.Sublist.cons _ List.Sublist.slnil)).turn (L' := []) (A' := fun _ => True) (F' := []) hf23 (fun x hx => .inr (by simp at hx; rw [hx]; exact hnb)) rfl knil trivial (fun _ _ _ _ => trivial) (fun _ hq => by cases hq) (fun _ hq => by cases hq)).put (d := some 7) (v := .slice o18 rs.length c19) (T' := [(7, .slice o18 rs.length c19), (5, .slice (some ⟨b10, 0, none⟩) 0 0), (0, .slice (some ⟨b, 0, none⟩) rs.length c), (2, .slice none 0 0), (6, .slice (some ⟨b, 0, none⟩) rs.length c)]) rfl
  clear h17
  refine nd_batch tabOk tabZ_ok [(3, {})] [0, 2] (T' := [(0, .slice (some ⟨b, 0, none⟩) rs.length c), (2, .slice o18 rs.length c19)]) (φ := True) (rest := []) h25 (by kernel_rfl) rfl trivial fun a26 h27 => ?_
  clear h25
  refine nd_done ?_
  refine hK9 _ _ ?_
  clear hK9
  refine wp_ret ?_
  try simp only [Exit.then, Exit.inBlock]
  try rw [if_pos trivial]
  exact s_ret tabOk tabZ_ok h27 [(.tmp 2, {})] (vs := [.slice o18 rs.length c19]) (φ := True) rfl (by kernel_rfl) trivial ⟨o18, c19, F20, rfl, hr22, h27.frame, fun x hx => (hF24 x hx).elim (fun h => by simp at h; rw [h]; exact hnb) (fun h => Nat.le_trans hsz h)⟩

theorem cloneR_none (w : World) :
    Calls Tryd.prog 24 #[.slice none 0 0] w fun e w' => ∃ o' c' F', e = .returned (.slice o' 0 c') ∧ (rl rfC 39 2 [] o' c' F').at w' ∧ Fr [] w w' ∧ ∀ b ∈ F', w.heap.size ≤ b := by
  refine enter0 (n := 8) (K := []) (T := [(0, .slice none 0 0)]) (L := []) (args := [.slice none 0 0]) Tryd.func24 rfl rfl rfl rfl knil (by simp) knil ?_
  intro a h
  refine wp_seq_k fun K1 hK1 => ?_
  refine nd_start (l := [0]) rfl ?_
  refine nd_batch tabOk tabZ_ok [(0, {})] [0, 2] (T' := [(0, .slice none 0 0), (2, .slice none 0 0)]) (φ := True) (rest := []) h (by kernel_rfl) rfl trivial fun a2 h3 => ?_
  clear h
  refine nd_done ?_
  refine hK1 _ _ ?_
  clear hK1
  refine wp_seq_k fun K4 hK4 => ?_
  refine wp_seq_k fun K5 hK5 => ?_
  refine nd_start (l := [0, 1]) rfl ?_
  refine nd_batch tabOk tabZ_ok [(0, {})] [0, 2, 3] (T' := [(0, .slice none 0 0), (2, .slice none 0 0), (3, .slice none 0 0)]) (φ := True) (rest := [1]) h3 (by kernel_rfl) rfl trivial fun a6 h7 => ?_
  clear h3
  refine nd_op ?_
  refine op_pure (v := .bool true) h7 rfl rfl (pure_slicenil h7.slots rfl rfl rfl) ?_
  have h8 := h7.put (d := some 4) (v := .bool true) (T' := [(4, .bool true), (0, .slice none 0 0), (2, .slice none 0 0), (3, .slice none 0 0)]) rfl
  clear h7
  refine nd_done ?_
  refine hK5 _ _ ?_
  clear hK5
  refine c_true h8 rfl ?_
  refine wp_seq_k fun K9 hK9 => ?_
  refine nd_start (l := [0]) rfl ?_
  refine nd_batch tabOk tabZ_ok [(0, {})] [0, 2] (T' := [(0, .slice none 0 0), (2, .slice none 0 0)]) (φ := True) (rest := []) h8 (by kernel_rfl) rfl trivial fun a10 h11 => ?_
  clear h8
  refine nd_done ?_
  refine hK9 _ _ ?_
  clear hK9
  refine wp_ret ?_
  try simp only [Exit.then, Exit.inBlock]
  try rw [if_pos trivial]
  exact s_ret tabOk tabZ_ok h11 [(.tmp 2, {})] (vs := [.slice none 0 0]) (φ := True) rfl (by kernel_rfl) trivial ⟨none, 0, [], rfl, rl_nil _ _ _ _, h11.frame, fun _ hq => by cases hq⟩

theorem cloneR_ok (rs : List Rf) (hl : rs.length ≤ 1000) (o : Option Addr) (c : Nat) (F : List Nat) (w : World) (hrow : (rl rfC 39 2 rs o c F).at w) :
    Calls Tryd.prog 24 #[.slice o rs.length c] w fun e w' => ∃ o' c' F', e = .returned (.slice o' rs.length c') ∧ (rl rfC 39 2 rs o' c' F').at w' ∧ Fr [] w w' ∧ ∀ b ∈ F', w.heap.size ≤ b := by
  rcases hrow.2 with ⟨e1, e2, e3, _⟩ | ⟨b, cs, e1, _⟩
  · have e1' : o = none := e1
    have e2' : rs.length = 0 := e2
    have e3' : c = 0 := e3
    obtain rfl := List.length_eq_zero_iff.1 e2'
    subst e1' e3'
    exact cloneR_none w
  · have e1' : o = some ⟨b, 0, none⟩ := e1
    subst e1'
    exact cloneR_some rs hl b c F w hrow

end Go.Proofs.Qxb6500918aDoor
