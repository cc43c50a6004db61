/-
  bytes.Equal. (Made by program: a symbolic walk that prints its steps.)
-/
import Derived.Test.Qxb6500918aDoorKU
import Derived.Laws.BytesString
namespace Go.Proofs.Qxb6500918aDoor
open Go.Sx Go.Kn
set_option maxRecDepth 100000
set_option maxHeartbeats 4000000
set_option linter.unusedVariables false
set_option linter.unusedSimpArgs false

def strOf (xs : List Int) : ByteArray := xs.foldl (fun r n => r.push (UInt8.ofNat n.toNat)) ByteArray.empty

theorem u44s : Tryd.prog.underlying 44 = some (.slice 5) := by kernel_rfl
theorem u5s : Tryd.prog.underlying 5 = some (.int .u8) := by kernel_rfl

theorem pure_eqt {T : Slots} {a : Act} {o : Oper} {x y : Operand} {t t' : TypeId} {s : ByteArray} (hs : SlotsOk T a) (hop : o.op = .binOp .eql t x y t') (hx : evO T x = some (.string s)) (hy : evO T y = some (.string s)) : Pure Tryd.prog a o (.bool true) := by
  have hq := pure_eql (P := Tryd.prog) hs hop hx hy
  rw [beq_self_eq_true] at hq
  exact hq

theorem u8_map : ∀ xs : List Int, xs.flatMap u8C = xs.map (Value.int .u8)
  | [] => rfl
  | y :: ys => by rw [List.flatMap_cons, u8_map ys]; rfl

theorem run_conv {T : Slots} {a : Act} {w : World} {o : Oper} {x : Operand} {xs : List Int} {so : Option Addr} {c : Nat} {F : List Nat} (hs : SlotsOk T a) (hop : o.op = .convert 44 9 x) (hx : evO T x = some (.slice so xs.length c)) (hr : (rl u8C 5 1 xs so c F).at w) (h0 : 0 < xs.length) :
    (execOp a.eval o).run Tryd.prog w = .ok (.value (.string (strOf xs))) w := by
  obtain ⟨b, cs, rfl, hb, hl, hn, ht, hF⟩ := Row.open_ hr h0
  have e1 := evO_eval hs hx
  have hc : cellsAre cs 0 (xs.map (Value.int .u8)) := by
    refine cellsAre_of_take _ _ ?_
    rw [List.drop_zero, List.length_map]
    have h1 : cs.take (xs.length * 1) = xs.flatMap u8C := ht
    rw [Nat.mul_one] at h1
    rw [h1, u8_map]
  have hld : (loadCells ⟨b, 0, none⟩ xs.length).run Tryd.prog w = .ok (xs.map (Value.int .u8)).toArray w := by
    have h2 := run_loadCells_list (P := Tryd.prog) w ⟨b, 0, none⟩ (xs.map (Value.int .u8)) (fun j v hj => by
      have h3 := cellsAt_blk hb hc j v hj
      rw [addr_add]; exact h3)
    rw [List.length_map] at h2
    exact h2
  simp only [execOp, hop, e1, Sem.run_bind, run_convert_bytes_string w 44 9 5 _ _ _ u44s u5s Tryd.underlying9, run_bytesToString w _ _ _ xs hld, Result.andThen_ok, Sem.run_pure]
  rfl

theorem equal_ok (xs : List Int) (h0 : 0 < xs.length) (o1 o2 : Option Addr) (c1 c2 : Nat) (F1 F2 : List Nat) (w : World) (h1 : (rl u8C 5 1 xs o1 c1 F1).at w) (h2 : (rl u8C 5 1 xs o2 c2 F2).at w) :
    Calls Tryd.prog 17 #[.slice o1 xs.length c1, .slice o2 xs.length c2] w fun e w' => e = .returned (.bool true) ∧ Fr [] w w' := by
  refine enter0 (n := 10) (K := []) (T := [(0, .slice o1 xs.length c1), (1, .slice o2 xs.length c2)]) (L := []) (args := [.slice o1 xs.length c1, .slice o2 xs.length c2]) Tryd.func17 rfl rfl rfl rfl knil (by simp) knil ?_
  intro a h
  refine wp_seq_k fun K1 hK1 => ?_
  refine nd_start (l := [0]) rfl ?_
  refine nd_batch tabOk tabZ_ok [(0, {})] [0, 1, 4] (T' := [(0, .slice o1 xs.length c1), (1, .slice o2 xs.length c2), (4, .bool false)]) (φ := True) (rest := []) h (by kernel_rfl) rfl trivial fun a2 h3 => ?_
  clear h
  refine nd_done ?_
  refine hK1 _ _ ?_
  clear hK1
  refine wp_seq_k fun K4 hK4 => ?_
  refine nd_start (l := [0, 1, 2, 3, 4, 5]) rfl ?_
  refine nd_batch tabOk tabZ_ok [(0, {})] [0, 1, 4, 5] (T' := [(0, .slice o1 xs.length c1), (1, .slice o2 xs.length c2), (4, .bool false), (5, .slice o1 xs.length c1)]) (φ := True) (rest := [1, 2, 3, 4, 5]) h3 (by kernel_rfl) rfl trivial fun a5 h6 => ?_
  clear h3
  refine nd_op ?_
  refine op_now (v := .string (strOf xs)) h6 rfl rfl (run_conv h6.slots rfl rfl h1 h0) ?_
  have h7 := h6.put (d := some 6) (v := .string (strOf xs)) (T' := [(6, .string (strOf xs)), (0, .slice o1 xs.length c1), (1, .slice o2 xs.length c2), (4, .bool false), (5, .slice o1 xs.length c1)]) rfl
  clear h6
  refine nd_batch tabOk tabZ_ok [(2, {})] [6, 0, 1, 4, 7] (T' := [(6, .string (strOf xs)), (0, .slice o1 xs.length c1), (1, .slice o2 xs.length c2), (4, .bool false), (7, .slice o2 xs.length c2)]) (φ := True) (rest := [3, 4, 5]) h7 (by kernel_rfl) rfl trivial fun a8 h9 => ?_
  clear h7
  refine nd_op ?_
  refine op_now (v := .string (strOf xs)) h9 rfl rfl (run_conv h9.slots rfl rfl h2 h0) ?_
  have h10 := h9.put (d := some 8) (v := .string (strOf xs)) (T' := [(8, .string (strOf xs)), (6, .string (strOf xs)), (0, .slice o1 xs.length c1), (1, .slice o2 xs.length c2), (4, .bool false), (7, .slice o2 xs.length c2)]) rfl
  clear h9
  have h11 := h10.slotsMono (restr_spec (keep := [8, 6, 0, 1, 4, 7]) rfl)
  clear h10
  refine nd_op ?_
  refine op_pure (v := .bool true) h11 rfl rfl (pure_eqt h11.slots rfl rfl rfl) ?_
  have h12 := h11.put (d := some 9) (v := .bool true) (T' := [(9, .bool true), (8, .string (strOf xs)), (6, .string (strOf xs)), (0, .slice o1 xs.length c1), (1, .slice o2 xs.length c2), (4, .bool false), (7, .slice o2 xs.length c2)]) rfl
  clear h11
  refine nd_batch tabOk tabZ_ok [(5, {})] [0, 1, 4] (T' := [(0, .slice o1 xs.length c1), (1, .slice o2 xs.length c2), (4, .bool true)]) (φ := True) (rest := []) h12 (by kernel_rfl) rfl trivial fun a13 h14 => ?_
  clear h12
  refine nd_done ?_
  refine hK4 _ _ ?_
  clear hK4
  refine wp_ret ?_
  try simp only [Exit.then, Exit.inBlock]
  try rw [if_pos trivial]
  exact s_ret tabOk tabZ_ok h14 [(.tmp 4, {})] (vs := [.bool true]) (φ := True) rfl (by kernel_rfl) trivial ⟨rfl, h14.frame⟩

end Go.Proofs.Qxb6500918aDoor
