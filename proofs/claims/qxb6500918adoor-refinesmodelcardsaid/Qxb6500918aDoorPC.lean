/-
  Equality of capabilities and messages; padded. (Made by program: a symbolic walk that prints its steps.)
-/
import Derived.Test.Qxb6500918aDoorPA
import Derived.Test.Qxb6500918aDoorOh
import Derived.Test.Qxb6500918aDoorEq
namespace Go.Proofs.Qxb6500918aDoor
open Go.Sx Go.Kn
set_option maxRecDepth 100000
set_option maxHeartbeats 4000000
set_option linter.unusedVariables false
set_option linter.unusedSimpArgs false

theorem rl_F {w : World} {b k c : Nat} {xs : List Rf} {F : List Nat} {o : Option Addr} (h : (rl rfC 39 2 xs o c F).at w) (ho : o = some ⟨b, k, none⟩) : F = [b] := by
  rcases h.2 with ⟨e, _⟩ | ⟨b2, cs, e, _, _, _, _, e2⟩
  · have e' : o = none := e
    rw [e'] at ho; cases ho
  · have e' : o = some ⟨b2, 0, none⟩ := e
    rw [e'] at ho; cases ho; exact e2

theorem equalP {w : World} {xs : List Rf} (hl : xs.length ≤ 1000) {o1 o2 : Option Addr} {c1 c2 : Nat} {F1 F2 : List Nat} (h1 : (rl rfC 39 2 xs o1 c1 F1).at w) (h2 : (rl rfC 39 2 xs o2 c2 F2).at w) (hd : ∀ b ∈ F1, b ∉ F2) :
    Calls Tryd.prog 23 #[.slice o1 xs.length c1, .slice o2 xs.length c2] w fun e w' => e = .returned (.bool true) ∧ Fr [] w w' := by
  refine equalR_ok xs hl o1 o2 c1 c2 w (refsIn_row h1) (refsIn_row h2) (fun _ b k b' k' e1 e2 he => ?_)
  have f1 := rl_F h1 e1
  have f2 := rl_F h2 e2
  subst he
  exact hd b (by rw [f1]; simp) (by rw [f2]; simp)

theorem runCpS (a : Cp) : EqRun Tryd.prog 49 (.agg #[.int .u8 a.ty, .int .u16 a.obj.idx, .int .u32 a.obj.gen, .int .u8 a.rights, .int .u64 a.badge]) (.agg #[.int .u8 a.ty, .int .u16 a.obj.idx, .int .u32 a.obj.gen, .int .u8 a.rights, .int .u64 a.badge]) true := by
  have h : ((a.ty == a.ty) && (decide (a.obj = a.obj) && ((a.rights == a.rights) && ((a.badge == a.badge) && true)))) = true := by simp
  rw [← h]
  exact eqRun_of Tryd.eqGuardType49 (eqI_struct Tryd.underlying49 Tryd.stoodInHeld49
    (eqF_cons (by decide) (partC Tryd.isAgg32 rfl) (partC Tryd.isAgg32 rfl) (eqI_int Tryd.underlying32)
    (eqF_cons (by decide) (partG Tryd.isAgg39 Tryd.sizeOf39 rfl) (partG Tryd.isAgg39 Tryd.sizeOf39 rfl) (eqRf a.obj a.obj)
    (eqF_cons (by decide) (partC Tryd.isAgg5 rfl) (partC Tryd.isAgg5 rfl) (eqI_int Tryd.underlying5)
    (eqF_cons (by decide) (partC Tryd.isAgg31 rfl) (partC Tryd.isAgg31 rfl) (eqI_int Tryd.underlying31) eqF_nil)))))

theorem runMsg (a b c d : Int) : EqRun Tryd.prog 40 (.agg #[.int .u64 a, .int .u64 b, .int .u64 c, .int .u64 d]) (.agg #[.int .u64 a, .int .u64 b, .int .u64 c, .int .u64 d]) true := by
  have h : ((a == a) && ((b == b) && ((c == c) && ((d == d) && true)))) = true := by simp
  rw [← h]
  exact eqRun_of Tryd.eqGuardType40 (eqI_array (i := _) (c := 1) Tryd.underlying40 rfl rfl rfl
    (eqA_cons (partC Tryd.isAgg31 rfl) (partC Tryd.isAgg31 rfl) (eqI_int Tryd.underlying31)
    (eqA_cons (partC Tryd.isAgg31 rfl) (partC Tryd.isAgg31 rfl) (eqI_int Tryd.underlying31)
    (eqA_cons (partC Tryd.isAgg31 rfl) (partC Tryd.isAgg31 rfl) (eqI_int Tryd.underlying31)
    (eqA_cons (partC Tryd.isAgg31 rfl) (partC Tryd.isAgg31 rfl) (eqI_int Tryd.underlying31) eqA_nil)))))

def msgC (x : Tcb) : List Value := [.int .u64 x.m0, .int .u64 x.m1, .int .u64 x.m2, .int .u64 x.m3]
theorem splice_pad {ws : List Int} (h : ws.length ≤ 4) : splice [.int .u64 0, .int .u64 0, .int .u64 0, .int .u64 0] 0 (ws.map wdV) = msgC (putMsg noT ws) := by
  match ws, h with
  | [], _ => rfl
  | [a], _ => rfl
  | [a, b], _ => rfl
  | [a, b, c], _ => rfl
  | [a, b, c, d], _ => rfl
  | a :: b :: c :: d :: e :: r, h => simp at h

theorem padded_ok (xo : Option Addr) (cx : Nat) (ws : List Int) (hwl : ws.length ≤ 4) (w : World) (hws : WordsAt [] w xo ws) :
    Calls Tryd.prog 26 #[.slice xo ws.length cx] w fun e w' => e = .returned (.agg (msgC (putMsg noT ws)).toArray) ∧ Fr [] w w' := by
  refine enter0 (n := 7) (K := []) (T := [(0, .slice xo ws.length cx)]) (L := []) (args := [.slice xo ws.length cx]) Tryd.func26 rfl rfl rfl rfl knil (by simp) knil ?_
  intro a h
  refine wp_seq_k fun K1 hK1 => ?_
  refine nd_start (l := [0]) rfl ?_
  refine nd_op ?_
  refine op_new tabOk (cells := [.int .u64 0, .int .u64 0, .int .u64 0, .int .u64 0]) (ty := 40) (ln := none) (L1 := fun b2 => [(b2, ⟨[.int .u64 0, .int .u64 0, .int .u64 0, .int .u64 0], 40, false⟩)]) h rfl rfl rfl rfl (by kernel_rfl) (fun _ => rfl) fun b2 w3 a4 h5 hf6 hn7 => ?_
  clear h
  refine nd_done ?_
  refine hK1 _ _ ?_
  clear hK1
  refine wp_seq_k fun K8 hK8 => ?_
  refine nd_start (l := [0, 1, 2]) rfl ?_
  refine nd_op ?_
  refine op_pure (v := .slice (some ⟨b2, 0, none⟩) 4 4) h5 rfl rfl (pure_arrslice tabOk h5.slots rfl rfl rfl rfl rfl) ?_
  have h9 := h5.put (d := some 3) (v := .slice (some ⟨b2, 0, none⟩) 4 4) (T' := [(3, .slice (some ⟨b2, 0, none⟩) 4 4), (2, .pointer (some ⟨b2, 0, none⟩)), (0, .slice xo ws.length cx)]) rfl
  clear h5
  refine nd_batch tabOk tabZ_ok [(1, {})] [3, 2, 0, 4] (T' := [(3, .slice (some ⟨b2, 0, none⟩) 4 4), (2, .pointer (some ⟨b2, 0, none⟩)), (0, .slice xo ws.length cx), (4, .slice xo ws.length cx)]) (φ := True) (rest := [2]) h9 (by kernel_rfl) rfl trivial fun a10 h11 => ?_
  clear h9
  refine nd_op ?_
  refine op_copy tabOk (k := 0) (vs := ws.map wdV) h11 rfl rfl rfl rfl rfl rfl rfl rfl rfl rfl rfl (hws.fr h11.frame).src hwl (by rw [List.length_map]; show 0 + ws.length ≤ 4; omega) (words_one ws) fun w12 h13 => ?_
  have h14 := (h13.castL (L' := [(b2, ⟨[.int .u64 ((putMsg noT ws).m0), .int .u64 ((putMsg noT ws).m1), .int .u64 ((putMsg noT ws).m2), .int .u64 ((putMsg noT ws).m3)], 40, false⟩)]) (by show ([(b2, (⟨splice [.int .u64 0, .int .u64 0, .int .u64 0, .int .u64 0] 0 (ws.map wdV), 40, false⟩ : Blk))] : Mem) = _; rw [splice_pad hwl]; rfl)).put (d := some 5) (v := .int .i64 ((ws.length : Nat) : Int)) (T' := [(5, .int .i64 ((ws.length : Nat) : Int)), (3, .slice (some ⟨b2, 0, none⟩) 4 4), (2, .pointer (some ⟨b2, 0, none⟩)), (0, .slice xo ws.length cx), (4, .slice xo ws.length cx)]) rfl
  clear h11 h13
  refine nd_done ?_
  refine hK8 _ _ ?_
  clear hK8
  refine wp_seq_k fun K15 hK15 => ?_
  refine nd_start (l := [0, 1]) rfl ?_
  refine nd_batch tabOk tabZ_ok [(0, {k := 0})] [2, 0, 6] (T' := [(2, .pointer (some ⟨b2, 0, none⟩)), (0, .slice xo ws.length cx), (6, .agg #[.int .u64 ((putMsg noT ws).m0), .int .u64 ((putMsg noT ws).m1), .int .u64 ((putMsg noT ws).m2), .int .u64 ((putMsg noT ws).m3)])]) (φ := (b2 = b2 ∧ Nat.ble (0 + 4) 4 = true) ∧ True) (rest := [1]) h14 (by kernel_rfl) rfl ⟨⟨rfl, rfl⟩, trivial⟩ fun a16 h17 => ?_
  clear h14
  refine nd_op ?_
  refine op_store tabOk {k := 0} (L' := [(b2, ⟨[.int .u64 ((putMsg noT ws).m0), .int .u64 ((putMsg noT ws).m1), .int .u64 ((putMsg noT ws).m2), .int .u64 ((putMsg noT ws).m3)], 40, false⟩)]) (φ := b2 = b2 ∧ Nat.ble (0 + 4) 4 = true) h17 rfl rfl rfl (by kernel_rfl) ⟨rfl, rfl⟩ fun w18 h19 => ?_
  clear h17
  refine nd_done ?_
  refine hK15 _ _ ?_
  clear hK15
  refine wp_ret ?_
  try simp only [Exit.then, Exit.inBlock]
  try rw [if_pos trivial]
  exact s_ret tabOk tabZ_ok h19 [(.cell 2 40, {k := 0})] (vs := [.agg #[.int .u64 ((putMsg noT ws).m0), .int .u64 ((putMsg noT ws).m1), .int .u64 ((putMsg noT ws).m2), .int .u64 ((putMsg noT ws).m3)]]) (φ := (b2 = b2 ∧ Nat.ble (0 + 4) 4 = true) ∧ True) rfl (by kernel_rfl) ⟨⟨rfl, rfl⟩, trivial⟩ ⟨rfl, h19.frame⟩

theorem equalTailP {w : World} {b c : Nat} {x : Rf} {rs : List Rf} {F : List Nat} {o : Option Addr} {c2 : Nat} {F2 : List Nat} (hrl : rs.length ≤ 1000) (h1 : (rl rfC 39 2 (x :: rs) (some ⟨b, 0, none⟩) c F).at w) (h2 : (rl rfC 39 2 rs o c2 F2).at w) (hd : ∀ b ∈ F, b ∉ F2) :
    Calls Tryd.prog 23 #[.slice o rs.length c2, .slice (sliceBase (some ⟨b, 0, none⟩) c 1 2) ((x :: rs).length - 1) (c - 1)] w fun e w' => e = .returned (.bool true) ∧ Fr [] w w' := by
  refine equalR_ok rs hrl o _ c2 (c - 1) w (refsIn_row h2) (refsIn_base h1) (fun hn b1 k1 b2 k2 e1 e2 => ?_)
  have f1 := rl_F h1 rfl
  have f2 := rl_F h2 e1
  have hb : b1 ≠ b := fun e => hd b (by rw [f1]; simp) (by rw [f2, e]; simp)
  unfold sliceBase at e2
  split at e2
  · cases e2; exact hb
  · cases e2; exact hb

theorem capAt_R {S : KP} {C : CP} (h : XC C) (r : Rf) (ad : Int) : CapR (capAtP S C r ad) := by
  unfold capAtP
  split
  · split
    · exact h _
    · exact cp0_R
  · exact cp0_R

theorem thread_tok {S : KP} (hR : RI S) {E : Nat → Ent} {r : Rf} (hr : 0 ≤ r.idx ∧ r.idx < 256) {t : Tcb} (h : threadP S E r = (t, true)) : TOk t := by
  unfold threadP at h
  split at h
  · simp only [Prod.mk.injEq, and_true] at h
    rw [← h]; exact hR.t (by omega)
  · simp at h

end Go.Proofs.Qxb6500918aDoor
