/-
  The model: Step. (Made by program: a symbolic walk that prints its steps.)
-/
import Derived.Test.Qxb6500918aDoorUz
namespace Go.Proofs.Qxb6500918aDoor
open Go.Sx Go.Kn
set_option maxRecDepth 100000
set_option maxHeartbeats 4000000
set_option linter.unusedVariables false
set_option linter.unusedSimpArgs false

theorem MP.signal {Z : MZ} {R : MR} {a : AK} (h : MP Z a) (hk : MK Z R) {i : Nat} (hi : i ∈ sl Z.ql) {b : Int} : MP Z (signalA a (Z.ky i) b) := by
  unfold signalA
  split
  · rename_i hn
    obtain ⟨y, h1, h2, _, _⟩ := h.old (g := (Z.ky i).gen) (hk.qx i hi) (by rw [← hk.kx i (hk.qx i hi)]) hn
    rw [h1, Int.toNat_natCast]
    exact (h.like (x := y) (y := { a.th y with badge := b }) rfl rfl rfl).wake hk h2
  · exact h.same rfl rfl rfl

theorem step0I (mb : Nat) (Z : MZ) (R : MR) (a : AK) (C : CP) (hI : MI Z a C) (ev : Ev) (he : EvOk ev) (xo : Option Addr) (cx : Nat) (hc0 : a.cur = -1) (w : World) (hH : MH mb Z R a C w) (hws : WordsAt (mdF mb Z R C) w xo ev.ws) :
    Calls Tryd.prog 15 #[.pointer (some ⟨mb, 0, none⟩), .agg #[.int .u8 0, .int .u32 ev.pick, .int .u64 ev.draw, .int .u32 ev.addr, .int .u32 ev.node, .int .u32 ev.dst, .int .u32 ev.xfer, .int .u8 ev.ty, .int .u64 ev.arg, .int .u64 ev.badge, .slice xo ev.ws.length cx]] w fun e w' => ∃ Z' R', e = .returned (.agg #[.int .u8 0, .int .u16 ((curR Z' (schedA { a with now := IntKind.wrap .u64 (a.now + 1) } ev.pick)).idx), .int .u32 ((curR Z' (schedA { a with now := IntKind.wrap .u64 (a.now + 1) } ev.pick)).gen), .int .u64 0, .int .u64 0, .int .u64 0, .int .u64 0, .int .u64 0, .int .u8 0, .int .u8 0]) ∧ MG mb Z R C w Z' R' (schedA { a with now := IntKind.wrap .u64 (a.now + 1) } ev.pick) C w' ∧ Z' = Z := by
  have hP := hI.mp
  have hcx : curR Z a = ⟨0, 0⟩ := by unfold curR; rw [if_pos hc0]
  obtain ⟨ty3, hg3⟩ := hH.g3
  have hho := hH.ho
  have hkk := hH.md.k
  refine enter (n := 154) (K := mdF mb Z R C) (A := MD (mdF mb Z R C) w.heap.size mb Z R a C) (F := mdF mb Z R C) (T := [(0, .pointer (some ⟨mb, 0, none⟩)), (1, .agg #[.int .u8 0, .int .u32 ev.pick, .int .u64 ev.draw, .int .u32 ev.addr, .int .u32 ev.node, .int .u32 ev.dst, .int .u32 ev.xfer, .int .u8 ev.ty, .int .u64 ev.arg, .int .u64 ev.badge, .slice xo ev.ws.length cx])]) (L := [(3, ⟨[.int .u16 0, .int .u32 0], ty3, true⟩)]) (args := [.pointer (some ⟨mb, 0, none⟩), .agg #[.int .u8 0, .int .u32 ev.pick, .int .u64 ev.draw, .int .u32 ev.addr, .int .u32 ev.node, .int .u32 ev.dst, .int .u32 ev.xfer, .int .u8 ev.ty, .int .u64 ev.arg, .int .u64 ev.badge, .slice xo ev.ws.length cx]]) Tryd.func15 rfl rfl rfl rfl (kcons hg3 knil) (by simp) (kcons (by intro hq; cases hq) knil) hH.mD MD.stable hH.md.low (kcons (by intro hq; cases hq) knil) ?_
  intro ac h
  refine wp_seq_k fun K1 hK1 => ?_
  refine nd_start (l := [0, 1]) rfl ?_
  refine nd_op ?_
  refine op_new tabOk2 (cells := [.int .u8 0, .int .u32 ev.pick, .int .u64 ev.draw, .int .u32 ev.addr, .int .u32 ev.node, .int .u32 ev.dst, .int .u32 ev.xfer, .int .u8 ev.ty, .int .u64 ev.arg, .int .u64 ev.badge, .slice xo ev.ws.length cx]) (ty := 35) (ln := none) (L1 := fun b2 => [(3, ⟨[.int .u16 0, .int .u32 0], ty3, true⟩), (b2, ⟨[.int .u8 0, .int .u32 ev.pick, .int .u64 ev.draw, .int .u32 ev.addr, .int .u32 ev.node, .int .u32 ev.dst, .int .u32 ev.xfer, .int .u8 ev.ty, .int .u64 ev.arg, .int .u64 ev.badge, .slice xo ev.ws.length cx], 35, false⟩)]) h rfl rfl rfl rfl (by kernel_rfl) (fun _ => rfl) fun b2 w3 a4 h5 hf6 hn7 => ?_
  clear h
  refine nd_op ?_
  refine op_new tabOk2 (cells := [.int .u8 0, .int .u16 0, .int .u32 0, .int .u64 0, .int .u64 0, .int .u64 0, .int .u64 0, .int .u64 0, .int .u8 0, .int .u8 0]) (ty := 42) (ln := none) (L1 := fun b8 => [(3, ⟨[.int .u16 0, .int .u32 0], ty3, true⟩), (b2, ⟨[.int .u8 0, .int .u32 ev.pick, .int .u64 ev.draw, .int .u32 ev.addr, .int .u32 ev.node, .int .u32 ev.dst, .int .u32 ev.xfer, .int .u8 ev.ty, .int .u64 ev.arg, .int .u64 ev.badge, .slice xo ev.ws.length cx], 35, false⟩), (b8, ⟨[.int .u8 0, .int .u16 0, .int .u32 0, .int .u64 0, .int .u64 0, .int .u64 0, .int .u64 0, .int .u64 0, .int .u8 0, .int .u8 0], 42, false⟩)]) h5 rfl rfl rfl rfl (by kernel_rfl) (fun _ => rfl) fun b8 w9 a10 h11 hf12 hn13 => ?_
  clear h5
  refine nd_done ?_
  refine hK1 _ _ ?_
  clear hK1
  refine wp_seq_k fun K14 hK14 => ?_
  refine nd_start (l := [0]) rfl ?_
  refine nd_op ?_
  refine op_new tabOk2 (cells := [.int .u8 0, .int .u16 0, .int .u32 0, .int .u64 0, .int .u64 0, .int .u64 0, .int .u64 0, .int .u64 0, .int .u8 0, .int .u8 0]) (ty := 42) (ln := none) (L1 := fun b15 => [(3, ⟨[.int .u16 0, .int .u32 0], ty3, true⟩), (b2, ⟨[.int .u8 0, .int .u32 ev.pick, .int .u64 ev.draw, .int .u32 ev.addr, .int .u32 ev.node, .int .u32 ev.dst, .int .u32 ev.xfer, .int .u8 ev.ty, .int .u64 ev.arg, .int .u64 ev.badge, .slice xo ev.ws.length cx], 35, false⟩), (b8, ⟨[.int .u8 0, .int .u16 0, .int .u32 0, .int .u64 0, .int .u64 0, .int .u64 0, .int .u64 0, .int .u64 0, .int .u8 0, .int .u8 0], 42, false⟩), (b15, ⟨[.int .u8 0, .int .u16 0, .int .u32 0, .int .u64 0, .int .u64 0, .int .u64 0, .int .u64 0, .int .u64 0, .int .u8 0, .int .u8 0], 42, false⟩)]) h11 rfl rfl rfl rfl (by kernel_rfl) (fun _ => rfl) fun b15 w16 a17 h18 hf19 hn20 => ?_
  clear h11
  refine nd_done ?_
  refine hK14 _ _ ?_
  clear hK14
  refine wp_seq_k fun K21 hK21 => ?_
  refine wp_block ?_
  refine wp_seq_k fun K22 hK22 => ?_
  refine nd_start (l := [0, 1, 2, 3]) rfl ?_
  refine nd_batch tabOk2 tabZ_ok2 [(0, {}), (1, {k := 1}), (2, {}), (3, {})] [5, 4, 3, 0, 1, 45] (T' := [(5, .pointer (some ⟨b15, 0, none⟩)), (4, .pointer (some ⟨b8, 0, none⟩)), (3, .pointer (some ⟨b2, 0, none⟩)), (0, .pointer (some ⟨mb, 0, none⟩)), (1, .agg #[.int .u8 0, .int .u32 ev.pick, .int .u64 ev.draw, .int .u32 ev.addr, .int .u32 ev.node, .int .u32 ev.dst, .int .u32 ev.xfer, .int .u8 ev.ty, .int .u64 ev.arg, .int .u64 ev.badge, .slice xo ev.ws.length cx]), (45, .bool true)]) (φ := (b2 = b2 ∧ Nat.ble (0 + 1) 11 = true) ∧ True) (rest := []) h18 (by kernel_rfl) rfl ⟨⟨rfl, rfl⟩, trivial⟩ fun a23 h24 => ?_
  clear h18
  refine nd_done ?_
  refine hK22 _ _ ?_
  clear hK22
  refine c_true h24 rfl ?_
  refine wp_seq_k fun K25 hK25 => ?_
  refine nd_start (l := [0, 1, 2, 3, 4, 5, 6, 7]) rfl ?_
  refine nd_batch tabOk2 tabZ_ok2 [(0, {}), (1, {}), (2, {})] [5, 4, 3, 0, 1, 49, 51] (T' := [(5, .pointer (some ⟨b15, 0, none⟩)), (4, .pointer (some ⟨b8, 0, none⟩)), (3, .pointer (some ⟨b2, 0, none⟩)), (0, .pointer (some ⟨mb, 0, none⟩)), (1, .agg #[.int .u8 0, .int .u32 ev.pick, .int .u64 ev.draw, .int .u32 ev.addr, .int .u32 ev.node, .int .u32 ev.dst, .int .u32 ev.xfer, .int .u8 ev.ty, .int .u64 ev.arg, .int .u64 ev.badge, .slice xo ev.ws.length cx]), (49, .pointer (some ⟨mb, 0, none⟩)), (51, .pointer (some ⟨mb, 79, none⟩))]) (φ := True) (rest := [3, 4, 5, 6, 7]) h24 (by kernel_rfl) rfl trivial fun a26 h27 => ?_
  clear h24
  refine nd_op ?_
  refine op_read (b := mb) (v := .int .u64 a.now) h27 rfl rfl (rd_m h27 (k := 79) (v := .int .u64 a.now) rfl rfl rfl rfl md_now) ?_
  have h28 := h27.put (d := some 52) (v := .int .u64 a.now) (T' := [(52, .int .u64 a.now), (5, .pointer (some ⟨b15, 0, none⟩)), (4, .pointer (some ⟨b8, 0, none⟩)), (3, .pointer (some ⟨b2, 0, none⟩)), (0, .pointer (some ⟨mb, 0, none⟩)), (1, .agg #[.int .u8 0, .int .u32 ev.pick, .int .u64 ev.draw, .int .u32 ev.addr, .int .u32 ev.node, .int .u32 ev.dst, .int .u32 ev.xfer, .int .u8 ev.ty, .int .u64 ev.arg, .int .u64 ev.badge, .slice xo ev.ws.length cx]), (49, .pointer (some ⟨mb, 0, none⟩)), (51, .pointer (some ⟨mb, 79, none⟩))]) rfl
  clear h27
  refine nd_batch tabOk2 tabZ_ok2 [(4, {m := 1}), (5, {}), (6, {})] [5, 4, 3, 0, 1, 53, 55] (T' := [(5, .pointer (some ⟨b15, 0, none⟩)), (4, .pointer (some ⟨b8, 0, none⟩)), (3, .pointer (some ⟨b2, 0, none⟩)), (0, .pointer (some ⟨mb, 0, none⟩)), (1, .agg #[.int .u8 0, .int .u32 ev.pick, .int .u64 ev.draw, .int .u32 ev.addr, .int .u32 ev.node, .int .u32 ev.dst, .int .u32 ev.xfer, .int .u8 ev.ty, .int .u64 ev.arg, .int .u64 ev.badge, .slice xo ev.ws.length cx]), (53, .int .u64 (IntKind.wrap .u64 (a.now + 1))), (55, .pointer (some ⟨mb, 79, none⟩))]) (φ := True) (rest := [7]) h28 (by kernel_rfl) rfl trivial fun a29 h30 => ?_
  clear h28
  refine nd_op ?_
  refine op_mM (off := 79) (v := .int .u64 (IntKind.wrap .u64 (a.now + 1))) (a' := { a with now := IntKind.wrap .u64 (a.now + 1) }) h30 rfl rfl rfl rfl rfl rfl rfl rfl rfl (by show 79 + 1 ≤ 80; omega) (md_now_w (IntKind.wrap .u64 (a.now + 1))) rfl rfl rfl (kcons (fun _ => rfl) (kcons (fun hq => by cases hq) (kcons (fun hq => by cases hq) (kcons (fun hq => by cases hq) knil)))) fun w31 hf32 h33 => ?_
  obtain ⟨a34, ea34⟩ : ∃ z : AK, z = { a with now := IntKind.wrap .u64 (a.now + 1) } := ⟨_, rfl⟩
  rw [← ea34] at h33
  have hc035 : curR Z a34 = ⟨0, 0⟩ := by rw [ea34] <;> exact hcx
  clear h30
  have hP36 : MP Z a34 := by rw [ea34]; exact MP.same hP rfl rfl rfl
  refine nd_done ?_
  refine hK25 _ _ ?_
  clear hK25
  refine wp_seq_k fun K37 hK37 => ?_
  refine dr_start (KB := [3, b2, b8, b15, mb]) (Bi := [[0, 1, 2, 3, 4], [0, 1, 2, 3, 4], [0, 1, 2, 3, 4], [0, 1, 2, 3, 4], [0, 1, 2, 3, 4], [0, 1, 2, 3, 4]]) mixed h33 fun w38 h39 => ?_
  clear h33
  refine dr_batch tabOk2 tabZ_ok2 (by repeat (first | with_reducible exact PF.body | with_reducible apply PF.inB | with_reducible apply PF.next)) [(0, {}), (1, {}), (2, {})] [5, 4, 3, 0, 1, 58] (T' := [(5, .pointer (some ⟨b15, 0, none⟩)), (4, .pointer (some ⟨b8, 0, none⟩)), (3, .pointer (some ⟨b2, 0, none⟩)), (0, .pointer (some ⟨mb, 0, none⟩)), (1, .agg #[.int .u8 0, .int .u32 ev.pick, .int .u64 ev.draw, .int .u32 ev.addr, .int .u32 ev.node, .int .u32 ev.dst, .int .u32 ev.xfer, .int .u8 ev.ty, .int .u64 ev.arg, .int .u64 ev.badge, .slice xo ev.ws.length cx]), (58, .pointer (some ⟨mb, 13, none⟩))]) (φ := True) (fuel := 3) h39 (by kernel_rfl) rfl (by kernel_rfl) (by kernel_rfl) ⟨trivial, trivial, trivial, trivial⟩ trivial fun a41 h42 => ?_
  clear h39
  refine dr_read (i := 3) (b := mb) (p := 4) (v := .agg #[.int .u16 0, .int .u32 0]) (fuel := 2) (by repeat (first | with_reducible exact PF.body | with_reducible apply PF.inB | with_reducible apply PF.next)) h42 rfl rfl rfl (by kernel_rfl) (by kernel_rfl) (by kernel_rfl) rfl (rd_mA h42 (k := 13) (vs := [.int .u16 0, .int .u32 0]) rfl rfl rfl rfl rfl (by have hq9 := md_cur (Z := Z) (R := R) (a := a34); rw [hc035] at hq9; exact hq9)) ?_
  have h43 := h42.put (d := some 59) (v := .agg #[.int .u16 0, .int .u32 0]) (T' := [(59, .agg #[.int .u16 0, .int .u32 0]), (5, .pointer (some ⟨b15, 0, none⟩)), (4, .pointer (some ⟨b8, 0, none⟩)), (3, .pointer (some ⟨b2, 0, none⟩)), (0, .pointer (some ⟨mb, 0, none⟩)), (1, .agg #[.int .u8 0, .int .u32 ev.pick, .int .u64 ev.draw, .int .u32 ev.addr, .int .u32 ev.node, .int .u32 ev.dst, .int .u32 ev.xfer, .int .u8 ev.ty, .int .u64 ev.arg, .int .u64 ev.badge, .slice xo ev.ws.length cx]), (58, .pointer (some ⟨mb, 13, none⟩))]) rfl
  clear h42
  refine dr_batch tabOk2 tabZ_ok2 (by repeat (first | with_reducible exact PF.body | with_reducible apply PF.inB | with_reducible apply PF.next)) [(4, {k := 0, p := 0}), (5, {f := 1})] [5, 4, 3, 0, 1, 61] (T' := [(5, .pointer (some ⟨b15, 0, none⟩)), (4, .pointer (some ⟨b8, 0, none⟩)), (3, .pointer (some ⟨b2, 0, none⟩)), (0, .pointer (some ⟨mb, 0, none⟩)), (1, .agg #[.int .u8 0, .int .u32 ev.pick, .int .u64 ev.draw, .int .u32 ev.addr, .int .u32 ev.node, .int .u32 ev.dst, .int .u32 ev.xfer, .int .u8 ev.ty, .int .u64 ev.arg, .int .u64 ev.badge, .slice xo ev.ws.length cx]), (61, .bool false)]) (φ := (3 = 3 ∧ Nat.ble (0 + 2) 2 = true) ∧ EqRun Tryd.prog 39 (.agg #[.int .u16 0, .int .u32 0]) (.agg #[.int .u16 0, .int .u32 0]) true ∧ True) (fuel := 0) h43 (by kernel_rfl) rfl (by kernel_rfl) (by kernel_rfl) ⟨rfl, trivial, trivial⟩ ⟨⟨rfl, rfl⟩, (by have hq := runRf (⟨0, 0⟩ : Rf) (⟨0, 0⟩ : Rf); rw [show decide ((⟨0, 0⟩ : Rf) = (⟨0, 0⟩ : Rf)) = true from decide_eq_true rfl] at hq; exact hq), trivial⟩ fun a44 h45 => ?_
  clear h43
  refine wpAnyK_done (by kernel_rfl) ?_ _
  refine hK37 _ _ ?_
  clear hK37
  refine c_false h45 rfl ?_
  refine wp_skip ?_
  refine hK21 _ _ ?_
  clear hK21
  refine wp_seq_k fun K46 hK46 => ?_
  refine wp_seq_k fun K47 hK47 => ?_
  refine nd_start (l := [0, 1, 2]) rfl ?_
  refine nd_batch tabOk2 tabZ_ok2 [(0, {}), (1, {k := 3}), (2, {})] [5, 4, 3, 0, 1, 143] (T' := [(5, .pointer (some ⟨b15, 0, none⟩)), (4, .pointer (some ⟨b8, 0, none⟩)), (3, .pointer (some ⟨b2, 0, none⟩)), (0, .pointer (some ⟨mb, 0, none⟩)), (1, .agg #[.int .u8 0, .int .u32 ev.pick, .int .u64 ev.draw, .int .u32 ev.addr, .int .u32 ev.node, .int .u32 ev.dst, .int .u32 ev.xfer, .int .u8 ev.ty, .int .u64 ev.arg, .int .u64 ev.badge, .slice xo ev.ws.length cx]), (143, .bool true)]) (φ := (b15 = b15 ∧ Nat.ble (0 + 1) 10 = true) ∧ True) (rest := []) h45 (by kernel_rfl) rfl ⟨⟨rfl, rfl⟩, trivial⟩ fun a48 h49 => ?_
  clear h45
  refine nd_done ?_
  refine hK47 _ _ ?_
  clear hK47
  refine c_true h49 rfl ?_
  refine nd_start (l := [0, 1, 2, 3]) rfl ?_
  refine nd_batch tabOk2 tabZ_ok2 [(0, {}), (1, {}), (2, {k := 1})] [5, 4, 3, 0, 1, 144, 146] (T' := [(5, .pointer (some ⟨b15, 0, none⟩)), (4, .pointer (some ⟨b8, 0, none⟩)), (3, .pointer (some ⟨b2, 0, none⟩)), (0, .pointer (some ⟨mb, 0, none⟩)), (1, .agg #[.int .u8 0, .int .u32 ev.pick, .int .u64 ev.draw, .int .u32 ev.addr, .int .u32 ev.node, .int .u32 ev.dst, .int .u32 ev.xfer, .int .u8 ev.ty, .int .u64 ev.arg, .int .u64 ev.badge, .slice xo ev.ws.length cx]), (144, .pointer (some ⟨mb, 0, none⟩)), (146, .int .u32 ev.pick)]) (φ := (b2 = b2 ∧ Nat.ble (1 + 1) 11 = true) ∧ True) (rest := [3]) h49 (by kernel_rfl) rfl ⟨⟨rfl, rfl⟩, trivial⟩ fun a50 h51 => ?_
  clear h49
  refine nd_op ?_
  refine op_call h51 rfl rfl rfl (callOk Tryd.func56 (by decide) rfl) (args := [.pointer (some ⟨mb, 0, none⟩), .int .u32 ev.pick]) rfl (choose_ok mb Z _ a34 C ev.pick he.pick hP36 _ (mh_of h51 hho (k := 0) rfl)) ?_
  rintro _ w52 ⟨rfl, R53, hg54⟩
  refine ⟨_, rfl, ?_⟩
  have h55a := st_mg h51 hg54 (kcons (fun _ => rfl) (kcons (fun hq => by cases hq) (kcons (fun hq => by cases hq) (kcons (fun hq => by cases hq) knil))))
  have h55 := h55a.put (d := some 147) (v := .tuple #[]) (T' := [(147, .tuple #[]), (5, .pointer (some ⟨b15, 0, none⟩)), (4, .pointer (some ⟨b8, 0, none⟩)), (3, .pointer (some ⟨b2, 0, none⟩)), (0, .pointer (some ⟨mb, 0, none⟩)), (1, .agg #[.int .u8 0, .int .u32 ev.pick, .int .u64 ev.draw, .int .u32 ev.addr, .int .u32 ev.node, .int .u32 ev.dst, .int .u32 ev.xfer, .int .u8 ev.ty, .int .u64 ev.arg, .int .u64 ev.badge, .slice xo ev.ws.length cx]), (144, .pointer (some ⟨mb, 0, none⟩)), (146, .int .u32 ev.pick)]) rfl
  have hhoh55 := hg54.mh.ho
  obtain ⟨a56, ea56⟩ : ∃ z : AK, z = schedA a34 ev.pick := ⟨_, rfl⟩
  rw [← ea56] at h55
  clear h51 h55a
  refine nd_done ?_
  refine hK46 _ _ ?_
  clear hK46
  refine wp_seq_k fun K57 hK57 => ?_
  refine nd_start (l := [0, 1, 2, 3, 4, 5]) rfl ?_
  refine nd_batch tabOk2 tabZ_ok2 [(0, {}), (1, {}), (2, {})] [5, 4, 3, 0, 1, 150] (T' := [(5, .pointer (some ⟨b15, 0, none⟩)), (4, .pointer (some ⟨b8, 0, none⟩)), (3, .pointer (some ⟨b2, 0, none⟩)), (0, .pointer (some ⟨mb, 0, none⟩)), (1, .agg #[.int .u8 0, .int .u32 ev.pick, .int .u64 ev.draw, .int .u32 ev.addr, .int .u32 ev.node, .int .u32 ev.dst, .int .u32 ev.xfer, .int .u8 ev.ty, .int .u64 ev.arg, .int .u64 ev.badge, .slice xo ev.ws.length cx]), (150, .pointer (some ⟨mb, 13, none⟩))]) (φ := True) (rest := [3, 4, 5]) h55 (by kernel_rfl) rfl trivial fun a58 h59 => ?_
  clear h55
  refine nd_op ?_
  refine op_read (b := mb) (v := .agg #[.int .u16 ((curR Z a56).idx), .int .u32 ((curR Z a56).gen)]) h59 rfl rfl (rd_mA h59 (k := 13) (vs := [.int .u16 ((curR Z a56).idx), .int .u32 ((curR Z a56).gen)]) rfl rfl rfl rfl rfl md_cur) ?_
  have h60 := h59.put (d := some 151) (v := .agg #[.int .u16 ((curR Z a56).idx), .int .u32 ((curR Z a56).gen)]) (T' := [(151, .agg #[.int .u16 ((curR Z a56).idx), .int .u32 ((curR Z a56).gen)]), (5, .pointer (some ⟨b15, 0, none⟩)), (4, .pointer (some ⟨b8, 0, none⟩)), (3, .pointer (some ⟨b2, 0, none⟩)), (0, .pointer (some ⟨mb, 0, none⟩)), (1, .agg #[.int .u8 0, .int .u32 ev.pick, .int .u64 ev.draw, .int .u32 ev.addr, .int .u32 ev.node, .int .u32 ev.dst, .int .u32 ev.xfer, .int .u8 ev.ty, .int .u64 ev.arg, .int .u64 ev.badge, .slice xo ev.ws.length cx]), (150, .pointer (some ⟨mb, 13, none⟩))]) rfl
  clear h59
  refine nd_batch tabOk2 tabZ_ok2 [(4, {})] [151, 5, 4, 3, 0, 1, 152] (T' := [(151, .agg #[.int .u16 ((curR Z a56).idx), .int .u32 ((curR Z a56).gen)]), (5, .pointer (some ⟨b15, 0, none⟩)), (4, .pointer (some ⟨b8, 0, none⟩)), (3, .pointer (some ⟨b2, 0, none⟩)), (0, .pointer (some ⟨mb, 0, none⟩)), (1, .agg #[.int .u8 0, .int .u32 ev.pick, .int .u64 ev.draw, .int .u32 ev.addr, .int .u32 ev.node, .int .u32 ev.dst, .int .u32 ev.xfer, .int .u8 ev.ty, .int .u64 ev.arg, .int .u64 ev.badge, .slice xo ev.ws.length cx]), (152, .pointer (some ⟨b15, 1, none⟩))]) (φ := True) (rest := [5]) h60 (by kernel_rfl) rfl trivial fun a61 h62 => ?_
  clear h60
  refine nd_op ?_
  refine op_store tabOk2 {k := 3} (L' := [(3, ⟨[.int .u16 0, .int .u32 0], ty3, true⟩), (b2, ⟨[.int .u8 0, .int .u32 ev.pick, .int .u64 ev.draw, .int .u32 ev.addr, .int .u32 ev.node, .int .u32 ev.dst, .int .u32 ev.xfer, .int .u8 ev.ty, .int .u64 ev.arg, .int .u64 ev.badge, .slice xo ev.ws.length cx], 35, false⟩), (b8, ⟨[.int .u8 0, .int .u16 0, .int .u32 0, .int .u64 0, .int .u64 0, .int .u64 0, .int .u64 0, .int .u64 0, .int .u8 0, .int .u8 0], 42, false⟩), (b15, ⟨[.int .u8 0, .int .u16 ((curR Z a56).idx), .int .u32 ((curR Z a56).gen), .int .u64 0, .int .u64 0, .int .u64 0, .int .u64 0, .int .u64 0, .int .u8 0, .int .u8 0], 42, false⟩)]) (φ := b15 = b15 ∧ Nat.ble (1 + 2) 10 = true) h62 rfl rfl rfl (by kernel_rfl) ⟨rfl, rfl⟩ fun w63 h64 => ?_
  clear h62
  refine nd_done ?_
  refine hK57 _ _ ?_
  clear hK57
  refine wp_seq_k fun K65 hK65 => ?_
  refine nd_start (l := [0, 1]) rfl ?_
  refine nd_batch tabOk2 tabZ_ok2 [(0, {k := 3})] [5, 4, 3, 0, 1, 153] (T' := [(5, .pointer (some ⟨b15, 0, none⟩)), (4, .pointer (some ⟨b8, 0, none⟩)), (3, .pointer (some ⟨b2, 0, none⟩)), (0, .pointer (some ⟨mb, 0, none⟩)), (1, .agg #[.int .u8 0, .int .u32 ev.pick, .int .u64 ev.draw, .int .u32 ev.addr, .int .u32 ev.node, .int .u32 ev.dst, .int .u32 ev.xfer, .int .u8 ev.ty, .int .u64 ev.arg, .int .u64 ev.badge, .slice xo ev.ws.length cx]), (153, .agg #[.int .u8 0, .int .u16 ((curR Z a56).idx), .int .u32 ((curR Z a56).gen), .int .u64 0, .int .u64 0, .int .u64 0, .int .u64 0, .int .u64 0, .int .u8 0, .int .u8 0])]) (φ := (b15 = b15 ∧ Nat.ble (0 + 10) 10 = true) ∧ True) (rest := [1]) h64 (by kernel_rfl) rfl ⟨⟨rfl, rfl⟩, trivial⟩ fun a66 h67 => ?_
  clear h64
  refine nd_op ?_
  refine op_store tabOk2 {k := 2} (L' := [(3, ⟨[.int .u16 0, .int .u32 0], ty3, true⟩), (b2, ⟨[.int .u8 0, .int .u32 ev.pick, .int .u64 ev.draw, .int .u32 ev.addr, .int .u32 ev.node, .int .u32 ev.dst, .int .u32 ev.xfer, .int .u8 ev.ty, .int .u64 ev.arg, .int .u64 ev.badge, .slice xo ev.ws.length cx], 35, false⟩), (b8, ⟨[.int .u8 0, .int .u16 ((curR Z a56).idx), .int .u32 ((curR Z a56).gen), .int .u64 0, .int .u64 0, .int .u64 0, .int .u64 0, .int .u64 0, .int .u8 0, .int .u8 0], 42, false⟩), (b15, ⟨[.int .u8 0, .int .u16 ((curR Z a56).idx), .int .u32 ((curR Z a56).gen), .int .u64 0, .int .u64 0, .int .u64 0, .int .u64 0, .int .u64 0, .int .u8 0, .int .u8 0], 42, false⟩)]) (φ := b8 = b8 ∧ Nat.ble (0 + 10) 10 = true) h67 rfl rfl rfl (by kernel_rfl) ⟨rfl, rfl⟩ fun w68 h69 => ?_
  clear h67
  refine nd_done ?_
  refine hK65 _ _ ?_
  clear hK65
  refine wp_ret ?_
  try simp only [Exit.then, Exit.inBlock]
  try rw [if_pos trivial]
  exact s_ret tabOk2 tabZ_ok2 h69 [(.cell 4 42, {k := 2})] (vs := [.agg #[.int .u8 0, .int .u16 ((curR Z a56).idx), .int .u32 ((curR Z a56).gen), .int .u64 0, .int .u64 0, .int .u64 0, .int .u64 0, .int .u64 0, .int .u8 0, .int .u8 0]]) (φ := (b8 = b8 ∧ Nat.ble (0 + 10) 10 = true) ∧ True) rfl (by kernel_rfl) ⟨⟨rfl, rfl⟩, trivial⟩ (by subst ea56 ea34; exact ⟨_, _, rfl, mg_end hH h69 hhoh55 rfl, rfl⟩)

theorem step0C (mb : Nat) (Z : MZ) (R : MR) (a : AK) (C : CP) (hI : MI Z a C) (ev : Ev) (he : EvOk ev) (xo : Option Addr) (cx : Nat) (x : Nat) (hx : x ∈ sl Z.tl) (hcu : a.cur = (x : Int)) (w : World) (hH : MH mb Z R a C w) (hws : WordsAt (mdF mb Z R C) w xo ev.ws) :
    Calls Tryd.prog 15 #[.pointer (some ⟨mb, 0, none⟩), .agg #[.int .u8 0, .int .u32 ev.pick, .int .u64 ev.draw, .int .u32 ev.addr, .int .u32 ev.node, .int .u32 ev.dst, .int .u32 ev.xfer, .int .u8 ev.ty, .int .u64 ev.arg, .int .u64 ev.badge, .slice xo ev.ws.length cx]] w fun e w' => ∃ Z' R', e = .returned (.agg #[.int .u8 0, .int .u16 ((curR Z' (schedA (wakeA { a with now := IntKind.wrap .u64 (a.now + 1) } x) ev.pick)).idx), .int .u32 ((curR Z' (schedA (wakeA { a with now := IntKind.wrap .u64 (a.now + 1) } x) ev.pick)).gen), .int .u64 0, .int .u64 0, .int .u64 0, .int .u64 0, .int .u64 0, .int .u8 0, .int .u8 0]) ∧ MG mb Z R C w Z' R' (schedA (wakeA { a with now := IntKind.wrap .u64 (a.now + 1) } x) ev.pick) C w' ∧ Z' = Z := by
  have hP := hI.mp
  have hcx : curR Z a = Z.ky x := curR_of hcu
  obtain ⟨ty3, hg3⟩ := hH.g3
  have hho := hH.ho
  have hkk := hH.md.k
  refine enter (n := 154) (K := mdF mb Z R C) (A := MD (mdF mb Z R C) w.heap.size mb Z R a C) (F := mdF mb Z R C) (T := [(0, .pointer (some ⟨mb, 0, none⟩)), (1, .agg #[.int .u8 0, .int .u32 ev.pick, .int .u64 ev.draw, .int .u32 ev.addr, .int .u32 ev.node, .int .u32 ev.dst, .int .u32 ev.xfer, .int .u8 ev.ty, .int .u64 ev.arg, .int .u64 ev.badge, .slice xo ev.ws.length cx])]) (L := [(3, ⟨[.int .u16 0, .int .u32 0], ty3, true⟩)]) (args := [.pointer (some ⟨mb, 0, none⟩), .agg #[.int .u8 0, .int .u32 ev.pick, .int .u64 ev.draw, .int .u32 ev.addr, .int .u32 ev.node, .int .u32 ev.dst, .int .u32 ev.xfer, .int .u8 ev.ty, .int .u64 ev.arg, .int .u64 ev.badge, .slice xo ev.ws.length cx]]) Tryd.func15 rfl rfl rfl rfl (kcons hg3 knil) (by simp) (kcons (by intro hq; cases hq) knil) hH.mD MD.stable hH.md.low (kcons (by intro hq; cases hq) knil) ?_
  intro ac h
  refine wp_seq_k fun K1 hK1 => ?_
  refine nd_start (l := [0, 1]) rfl ?_
  refine nd_op ?_
  refine op_new tabOk2 (cells := [.int .u8 0, .int .u32 ev.pick, .int .u64 ev.draw, .int .u32 ev.addr, .int .u32 ev.node, .int .u32 ev.dst, .int .u32 ev.xfer, .int .u8 ev.ty, .int .u64 ev.arg, .int .u64 ev.badge, .slice xo ev.ws.length cx]) (ty := 35) (ln := none) (L1 := fun b2 => [(3, ⟨[.int .u16 0, .int .u32 0], ty3, true⟩), (b2, ⟨[.int .u8 0, .int .u32 ev.pick, .int .u64 ev.draw, .int .u32 ev.addr, .int .u32 ev.node, .int .u32 ev.dst, .int .u32 ev.xfer, .int .u8 ev.ty, .int .u64 ev.arg, .int .u64 ev.badge, .slice xo ev.ws.length cx], 35, false⟩)]) h rfl rfl rfl rfl (by kernel_rfl) (fun _ => rfl) fun b2 w3 a4 h5 hf6 hn7 => ?_
  clear h
  refine nd_op ?_
  refine op_new tabOk2 (cells := [.int .u8 0, .int .u16 0, .int .u32 0, .int .u64 0, .int .u64 0, .int .u64 0, .int .u64 0, .int .u64 0, .int .u8 0, .int .u8 0]) (ty := 42) (ln := none) (L1 := fun b8 => [(3, ⟨[.int .u16 0, .int .u32 0], ty3, true⟩), (b2, ⟨[.int .u8 0, .int .u32 ev.pick, .int .u64 ev.draw, .int .u32 ev.addr, .int .u32 ev.node, .int .u32 ev.dst, .int .u32 ev.xfer, .int .u8 ev.ty, .int .u64 ev.arg, .int .u64 ev.badge, .slice xo ev.ws.length cx], 35, false⟩), (b8, ⟨[.int .u8 0, .int .u16 0, .int .u32 0, .int .u64 0, .int .u64 0, .int .u64 0, .int .u64 0, .int .u64 0, .int .u8 0, .int .u8 0], 42, false⟩)]) h5 rfl rfl rfl rfl (by kernel_rfl) (fun _ => rfl) fun b8 w9 a10 h11 hf12 hn13 => ?_
  clear h5
  refine nd_done ?_
  refine hK1 _ _ ?_
  clear hK1
  refine wp_seq_k fun K14 hK14 => ?_
  refine nd_start (l := [0]) rfl ?_
  refine nd_op ?_
  refine op_new tabOk2 (cells := [.int .u8 0, .int .u16 0, .int .u32 0, .int .u64 0, .int .u64 0, .int .u64 0, .int .u64 0, .int .u64 0, .int .u8 0, .int .u8 0]) (ty := 42) (ln := none) (L1 := fun b15 => [(3, ⟨[.int .u16 0, .int .u32 0], ty3, true⟩), (b2, ⟨[.int .u8 0, .int .u32 ev.pick, .int .u64 ev.draw, .int .u32 ev.addr, .int .u32 ev.node, .int .u32 ev.dst, .int .u32 ev.xfer, .int .u8 ev.ty, .int .u64 ev.arg, .int .u64 ev.badge, .slice xo ev.ws.length cx], 35, false⟩), (b8, ⟨[.int .u8 0, .int .u16 0, .int .u32 0, .int .u64 0, .int .u64 0, .int .u64 0, .int .u64 0, .int .u64 0, .int .u8 0, .int .u8 0], 42, false⟩), (b15, ⟨[.int .u8 0, .int .u16 0, .int .u32 0, .int .u64 0, .int .u64 0, .int .u64 0, .int .u64 0, .int .u64 0, .int .u8 0, .int .u8 0], 42, false⟩)]) h11 rfl rfl rfl rfl (by kernel_rfl) (fun _ => rfl) fun b15 w16 a17 h18 hf19 hn20 => ?_
  clear h11
  refine nd_done ?_
  refine hK14 _ _ ?_
  clear hK14
  refine wp_seq_k fun K21 hK21 => ?_
  refine wp_block ?_
  refine wp_seq_k fun K22 hK22 => ?_
  refine nd_start (l := [0, 1, 2, 3]) rfl ?_
  refine nd_batch tabOk2 tabZ_ok2 [(0, {}), (1, {k := 1}), (2, {}), (3, {})] [5, 4, 3, 0, 1, 45] (T' := [(5, .pointer (some ⟨b15, 0, none⟩)), (4, .pointer (some ⟨b8, 0, none⟩)), (3, .pointer (some ⟨b2, 0, none⟩)), (0, .pointer (some ⟨mb, 0, none⟩)), (1, .agg #[.int .u8 0, .int .u32 ev.pick, .int .u64 ev.draw, .int .u32 ev.addr, .int .u32 ev.node, .int .u32 ev.dst, .int .u32 ev.xfer, .int .u8 ev.ty, .int .u64 ev.arg, .int .u64 ev.badge, .slice xo ev.ws.length cx]), (45, .bool true)]) (φ := (b2 = b2 ∧ Nat.ble (0 + 1) 11 = true) ∧ True) (rest := []) h18 (by kernel_rfl) rfl ⟨⟨rfl, rfl⟩, trivial⟩ fun a23 h24 => ?_
  clear h18
  refine nd_done ?_
  refine hK22 _ _ ?_
  clear hK22
  refine c_true h24 rfl ?_
  refine wp_seq_k fun K25 hK25 => ?_
  refine nd_start (l := [0, 1, 2, 3, 4, 5, 6, 7]) rfl ?_
  refine nd_batch tabOk2 tabZ_ok2 [(0, {}), (1, {}), (2, {})] [5, 4, 3, 0, 1, 49, 51] (T' := [(5, .pointer (some ⟨b15, 0, none⟩)), (4, .pointer (some ⟨b8, 0, none⟩)), (3, .pointer (some ⟨b2, 0, none⟩)), (0, .pointer (some ⟨mb, 0, none⟩)), (1, .agg #[.int .u8 0, .int .u32 ev.pick, .int .u64 ev.draw, .int .u32 ev.addr, .int .u32 ev.node, .int .u32 ev.dst, .int .u32 ev.xfer, .int .u8 ev.ty, .int .u64 ev.arg, .int .u64 ev.badge, .slice xo ev.ws.length cx]), (49, .pointer (some ⟨mb, 0, none⟩)), (51, .pointer (some ⟨mb, 79, none⟩))]) (φ := True) (rest := [3, 4, 5, 6, 7]) h24 (by kernel_rfl) rfl trivial fun a26 h27 => ?_
  clear h24
  refine nd_op ?_
  refine op_read (b := mb) (v := .int .u64 a.now) h27 rfl rfl (rd_m h27 (k := 79) (v := .int .u64 a.now) rfl rfl rfl rfl md_now) ?_
  have h28 := h27.put (d := some 52) (v := .int .u64 a.now) (T' := [(52, .int .u64 a.now), (5, .pointer (some ⟨b15, 0, none⟩)), (4, .pointer (some ⟨b8, 0, none⟩)), (3, .pointer (some ⟨b2, 0, none⟩)), (0, .pointer (some ⟨mb, 0, none⟩)), (1, .agg #[.int .u8 0, .int .u32 ev.pick, .int .u64 ev.draw, .int .u32 ev.addr, .int .u32 ev.node, .int .u32 ev.dst, .int .u32 ev.xfer, .int .u8 ev.ty, .int .u64 ev.arg, .int .u64 ev.badge, .slice xo ev.ws.length cx]), (49, .pointer (some ⟨mb, 0, none⟩)), (51, .pointer (some ⟨mb, 79, none⟩))]) rfl
  clear h27
  refine nd_batch tabOk2 tabZ_ok2 [(4, {m := 1}), (5, {}), (6, {})] [5, 4, 3, 0, 1, 53, 55] (T' := [(5, .pointer (some ⟨b15, 0, none⟩)), (4, .pointer (some ⟨b8, 0, none⟩)), (3, .pointer (some ⟨b2, 0, none⟩)), (0, .pointer (some ⟨mb, 0, none⟩)), (1, .agg #[.int .u8 0, .int .u32 ev.pick, .int .u64 ev.draw, .int .u32 ev.addr, .int .u32 ev.node, .int .u32 ev.dst, .int .u32 ev.xfer, .int .u8 ev.ty, .int .u64 ev.arg, .int .u64 ev.badge, .slice xo ev.ws.length cx]), (53, .int .u64 (IntKind.wrap .u64 (a.now + 1))), (55, .pointer (some ⟨mb, 79, none⟩))]) (φ := True) (rest := [7]) h28 (by kernel_rfl) rfl trivial fun a29 h30 => ?_
  clear h28
  refine nd_op ?_
  refine op_mM (off := 79) (v := .int .u64 (IntKind.wrap .u64 (a.now + 1))) (a' := { a with now := IntKind.wrap .u64 (a.now + 1) }) h30 rfl rfl rfl rfl rfl rfl rfl rfl rfl (by show 79 + 1 ≤ 80; omega) (md_now_w (IntKind.wrap .u64 (a.now + 1))) rfl rfl rfl (kcons (fun _ => rfl) (kcons (fun hq => by cases hq) (kcons (fun hq => by cases hq) (kcons (fun hq => by cases hq) knil)))) fun w31 hf32 h33 => ?_
  obtain ⟨a34, ea34⟩ : ∃ z : AK, z = { a with now := IntKind.wrap .u64 (a.now + 1) } := ⟨_, rfl⟩
  rw [← ea34] at h33
  have hcx35 : curR Z a34 = Z.ky x := by rw [ea34] <;> exact hcx
  clear h30
  have ht36 : a34.th x = (a.th x) := by rw [ea34] <;> exact rfl
  have hP37 : MP Z a34 := by rw [ea34]; exact MP.same hP rfl rfl rfl
  refine nd_done ?_
  refine hK25 _ _ ?_
  clear hK25
  refine wp_seq_k fun K38 hK38 => ?_
  refine dr_start (KB := [3, b2, b8, b15, mb]) (Bi := [[0, 1, 2, 3, 4], [0, 1, 2, 3, 4], [0, 1, 2, 3, 4], [0, 1, 2, 3, 4], [0, 1, 2, 3, 4], [0, 1, 2, 3, 4]]) mixed h33 fun w39 h40 => ?_
  clear h33
  refine dr_batch tabOk2 tabZ_ok2 (by repeat (first | with_reducible exact PF.body | with_reducible apply PF.inB | with_reducible apply PF.next)) [(0, {}), (1, {}), (2, {})] [5, 4, 3, 0, 1, 58] (T' := [(5, .pointer (some ⟨b15, 0, none⟩)), (4, .pointer (some ⟨b8, 0, none⟩)), (3, .pointer (some ⟨b2, 0, none⟩)), (0, .pointer (some ⟨mb, 0, none⟩)), (1, .agg #[.int .u8 0, .int .u32 ev.pick, .int .u64 ev.draw, .int .u32 ev.addr, .int .u32 ev.node, .int .u32 ev.dst, .int .u32 ev.xfer, .int .u8 ev.ty, .int .u64 ev.arg, .int .u64 ev.badge, .slice xo ev.ws.length cx]), (58, .pointer (some ⟨mb, 13, none⟩))]) (φ := True) (fuel := 3) h40 (by kernel_rfl) rfl (by kernel_rfl) (by kernel_rfl) ⟨trivial, trivial, trivial, trivial⟩ trivial fun a42 h43 => ?_
  clear h40
  refine dr_read (i := 3) (b := mb) (p := 4) (v := .agg #[.int .u16 ((Z.ky x).idx), .int .u32 ((Z.ky x).gen)]) (fuel := 2) (by repeat (first | with_reducible exact PF.body | with_reducible apply PF.inB | with_reducible apply PF.next)) h43 rfl rfl rfl (by kernel_rfl) (by kernel_rfl) (by kernel_rfl) rfl (rd_mA h43 (k := 13) (vs := [.int .u16 ((Z.ky x).idx), .int .u32 ((Z.ky x).gen)]) rfl rfl rfl rfl rfl (by rw [← hcx35]; exact md_cur)) ?_
  have h44 := h43.put (d := some 59) (v := .agg #[.int .u16 ((Z.ky x).idx), .int .u32 ((Z.ky x).gen)]) (T' := [(59, .agg #[.int .u16 ((Z.ky x).idx), .int .u32 ((Z.ky x).gen)]), (5, .pointer (some ⟨b15, 0, none⟩)), (4, .pointer (some ⟨b8, 0, none⟩)), (3, .pointer (some ⟨b2, 0, none⟩)), (0, .pointer (some ⟨mb, 0, none⟩)), (1, .agg #[.int .u8 0, .int .u32 ev.pick, .int .u64 ev.draw, .int .u32 ev.addr, .int .u32 ev.node, .int .u32 ev.dst, .int .u32 ev.xfer, .int .u8 ev.ty, .int .u64 ev.arg, .int .u64 ev.badge, .slice xo ev.ws.length cx]), (58, .pointer (some ⟨mb, 13, none⟩))]) rfl
  clear h43
  refine dr_batch tabOk2 tabZ_ok2 (by repeat (first | with_reducible exact PF.body | with_reducible apply PF.inB | with_reducible apply PF.next)) [(4, {k := 0, p := 0}), (5, {f := 2})] [5, 4, 3, 0, 1, 61] (T' := [(5, .pointer (some ⟨b15, 0, none⟩)), (4, .pointer (some ⟨b8, 0, none⟩)), (3, .pointer (some ⟨b2, 0, none⟩)), (0, .pointer (some ⟨mb, 0, none⟩)), (1, .agg #[.int .u8 0, .int .u32 ev.pick, .int .u64 ev.draw, .int .u32 ev.addr, .int .u32 ev.node, .int .u32 ev.dst, .int .u32 ev.xfer, .int .u8 ev.ty, .int .u64 ev.arg, .int .u64 ev.badge, .slice xo ev.ws.length cx]), (61, .bool true)]) (φ := (3 = 3 ∧ Nat.ble (0 + 2) 2 = true) ∧ EqRun Tryd.prog 39 (.agg #[.int .u16 ((Z.ky x).idx), .int .u32 ((Z.ky x).gen)]) (.agg #[.int .u16 0, .int .u32 0]) false ∧ True) (fuel := 0) h44 (by kernel_rfl) rfl (by kernel_rfl) (by kernel_rfl) ⟨rfl, trivial, trivial⟩ ⟨⟨rfl, rfl⟩, (by have hq := runRf (Z.ky x) (⟨0, 0⟩ : Rf); rw [show decide (Z.ky x = (⟨0, 0⟩ : Rf)) = false from decide_eq_false (hkk.ne0 (hkk.tx x hx))] at hq; exact hq), trivial⟩ fun a45 h46 => ?_
  clear h44
  refine wpAnyK_done (by kernel_rfl) ?_ _
  refine hK38 _ _ ?_
  clear hK38
  refine c_true h46 rfl ?_
  refine nd_start (l := [0, 1, 2, 3, 4, 5]) rfl ?_
  refine nd_batch tabOk2 tabZ_ok2 [(0, {}), (1, {}), (2, {}), (3, {})] [5, 4, 3, 0, 1, 62, 65] (T' := [(5, .pointer (some ⟨b15, 0, none⟩)), (4, .pointer (some ⟨b8, 0, none⟩)), (3, .pointer (some ⟨b2, 0, none⟩)), (0, .pointer (some ⟨mb, 0, none⟩)), (1, .agg #[.int .u8 0, .int .u32 ev.pick, .int .u64 ev.draw, .int .u32 ev.addr, .int .u32 ev.node, .int .u32 ev.dst, .int .u32 ev.xfer, .int .u8 ev.ty, .int .u64 ev.arg, .int .u64 ev.badge, .slice xo ev.ws.length cx]), (62, .pointer (some ⟨mb, 0, none⟩)), (65, .pointer (some ⟨mb, 13, none⟩))]) (φ := True) (rest := [4, 5]) h46 (by kernel_rfl) rfl trivial fun a47 h48 => ?_
  clear h46
  refine nd_op ?_
  refine op_read (b := mb) (v := .agg #[.int .u16 ((Z.ky x).idx), .int .u32 ((Z.ky x).gen)]) h48 rfl rfl (rd_mA h48 (k := 13) (vs := [.int .u16 ((Z.ky x).idx), .int .u32 ((Z.ky x).gen)]) rfl rfl rfl rfl rfl (by rw [← hcx35]; exact md_cur)) ?_
  have h49 := h48.put (d := some 66) (v := .agg #[.int .u16 ((Z.ky x).idx), .int .u32 ((Z.ky x).gen)]) (T' := [(66, .agg #[.int .u16 ((Z.ky x).idx), .int .u32 ((Z.ky x).gen)]), (5, .pointer (some ⟨b15, 0, none⟩)), (4, .pointer (some ⟨b8, 0, none⟩)), (3, .pointer (some ⟨b2, 0, none⟩)), (0, .pointer (some ⟨mb, 0, none⟩)), (1, .agg #[.int .u8 0, .int .u32 ev.pick, .int .u64 ev.draw, .int .u32 ev.addr, .int .u32 ev.node, .int .u32 ev.dst, .int .u32 ev.xfer, .int .u8 ev.ty, .int .u64 ev.arg, .int .u64 ev.badge, .slice xo ev.ws.length cx]), (62, .pointer (some ⟨mb, 0, none⟩)), (65, .pointer (some ⟨mb, 13, none⟩))]) rfl
  clear h48
  refine nd_op ?_
  refine op_call h49 rfl rfl rfl (callOk Tryd.func52 (by decide) rfl) (args := [.pointer (some ⟨mb, 0, none⟩), .agg #[.int .u16 ((Z.ky x).idx), .int .u32 ((Z.ky x).gen)]]) rfl (mready_ok mb Z _ a34 _ x hx hP37 _ (mh_of h49 hho (k := 0) rfl)) ?_
  rintro _ w50 ⟨rfl, R51, hg52⟩
  refine ⟨_, rfl, ?_⟩
  have h53a := st_mg h49 hg52 (kcons (fun _ => rfl) (kcons (fun hq => by cases hq) (kcons (fun hq => by cases hq) (kcons (fun hq => by cases hq) knil))))
  have h53 := h53a.put (d := some 67) (v := .tuple #[]) (T' := [(67, .tuple #[]), (66, .agg #[.int .u16 ((Z.ky x).idx), .int .u32 ((Z.ky x).gen)]), (5, .pointer (some ⟨b15, 0, none⟩)), (4, .pointer (some ⟨b8, 0, none⟩)), (3, .pointer (some ⟨b2, 0, none⟩)), (0, .pointer (some ⟨mb, 0, none⟩)), (1, .agg #[.int .u8 0, .int .u32 ev.pick, .int .u64 ev.draw, .int .u32 ev.addr, .int .u32 ev.node, .int .u32 ev.dst, .int .u32 ev.xfer, .int .u8 ev.ty, .int .u64 ev.arg, .int .u64 ev.badge, .slice xo ev.ws.length cx]), (62, .pointer (some ⟨mb, 0, none⟩)), (65, .pointer (some ⟨mb, 13, none⟩))]) rfl
  have hhoh53 := hg52.mh.ho
  obtain ⟨a54, ea54⟩ : ∃ z : AK, z = wakeA a34 x := ⟨_, rfl⟩
  rw [← ea54] at h53
  clear h49 h53a
  have ht55 : a54.th x = { a.th x with st := 1, wait := ⟨0, 0⟩ } := by rw [ea54, wake_th, ht36]
  have hP56 : MP Z a54 := by rw [ea54]; exact MP.wake hP37 hkk hx
  refine nd_done ?_
  refine hK21 _ _ ?_
  clear hK21
  refine wp_seq_k fun K57 hK57 => ?_
  refine wp_seq_k fun K58 hK58 => ?_
  refine nd_start (l := [0, 1, 2]) rfl ?_
  refine nd_batch tabOk2 tabZ_ok2 [(0, {}), (1, {k := 3}), (2, {})] [5, 4, 3, 0, 1, 143] (T' := [(5, .pointer (some ⟨b15, 0, none⟩)), (4, .pointer (some ⟨b8, 0, none⟩)), (3, .pointer (some ⟨b2, 0, none⟩)), (0, .pointer (some ⟨mb, 0, none⟩)), (1, .agg #[.int .u8 0, .int .u32 ev.pick, .int .u64 ev.draw, .int .u32 ev.addr, .int .u32 ev.node, .int .u32 ev.dst, .int .u32 ev.xfer, .int .u8 ev.ty, .int .u64 ev.arg, .int .u64 ev.badge, .slice xo ev.ws.length cx]), (143, .bool true)]) (φ := (b15 = b15 ∧ Nat.ble (0 + 1) 10 = true) ∧ True) (rest := []) h53 (by kernel_rfl) rfl ⟨⟨rfl, rfl⟩, trivial⟩ fun a59 h60 => ?_
  clear h53
  refine nd_done ?_
  refine hK58 _ _ ?_
  clear hK58
  refine c_true h60 rfl ?_
  refine nd_start (l := [0, 1, 2, 3]) rfl ?_
  refine nd_batch tabOk2 tabZ_ok2 [(0, {}), (1, {}), (2, {k := 1})] [5, 4, 3, 0, 1, 144, 146] (T' := [(5, .pointer (some ⟨b15, 0, none⟩)), (4, .pointer (some ⟨b8, 0, none⟩)), (3, .pointer (some ⟨b2, 0, none⟩)), (0, .pointer (some ⟨mb, 0, none⟩)), (1, .agg #[.int .u8 0, .int .u32 ev.pick, .int .u64 ev.draw, .int .u32 ev.addr, .int .u32 ev.node, .int .u32 ev.dst, .int .u32 ev.xfer, .int .u8 ev.ty, .int .u64 ev.arg, .int .u64 ev.badge, .slice xo ev.ws.length cx]), (144, .pointer (some ⟨mb, 0, none⟩)), (146, .int .u32 ev.pick)]) (φ := (b2 = b2 ∧ Nat.ble (1 + 1) 11 = true) ∧ True) (rest := [3]) h60 (by kernel_rfl) rfl ⟨⟨rfl, rfl⟩, trivial⟩ fun a61 h62 => ?_
  clear h60
  refine nd_op ?_
  refine op_call h62 rfl rfl rfl (callOk Tryd.func56 (by decide) rfl) (args := [.pointer (some ⟨mb, 0, none⟩), .int .u32 ev.pick]) rfl (choose_ok mb Z _ a54 C ev.pick he.pick hP56 _ (mh_of h62 hhoh53 (k := 0) rfl)) ?_
  rintro _ w63 ⟨rfl, R64, hg65⟩
  refine ⟨_, rfl, ?_⟩
  have h66a := st_mg h62 hg65 (kcons (fun _ => rfl) (kcons (fun hq => by cases hq) (kcons (fun hq => by cases hq) (kcons (fun hq => by cases hq) knil))))
  have h66 := h66a.put (d := some 147) (v := .tuple #[]) (T' := [(147, .tuple #[]), (5, .pointer (some ⟨b15, 0, none⟩)), (4, .pointer (some ⟨b8, 0, none⟩)), (3, .pointer (some ⟨b2, 0, none⟩)), (0, .pointer (some ⟨mb, 0, none⟩)), (1, .agg #[.int .u8 0, .int .u32 ev.pick, .int .u64 ev.draw, .int .u32 ev.addr, .int .u32 ev.node, .int .u32 ev.dst, .int .u32 ev.xfer, .int .u8 ev.ty, .int .u64 ev.arg, .int .u64 ev.badge, .slice xo ev.ws.length cx]), (144, .pointer (some ⟨mb, 0, none⟩)), (146, .int .u32 ev.pick)]) rfl
  have hhoh66 := hg65.mh.ho
  obtain ⟨a67, ea67⟩ : ∃ z : AK, z = schedA a54 ev.pick := ⟨_, rfl⟩
  rw [← ea67] at h66
  clear h62 h66a
  refine nd_done ?_
  refine hK57 _ _ ?_
  clear hK57
  refine wp_seq_k fun K68 hK68 => ?_
  refine nd_start (l := [0, 1, 2, 3, 4, 5]) rfl ?_
  refine nd_batch tabOk2 tabZ_ok2 [(0, {}), (1, {}), (2, {})] [5, 4, 3, 0, 1, 150] (T' := [(5, .pointer (some ⟨b15, 0, none⟩)), (4, .pointer (some ⟨b8, 0, none⟩)), (3, .pointer (some ⟨b2, 0, none⟩)), (0, .pointer (some ⟨mb, 0, none⟩)), (1, .agg #[.int .u8 0, .int .u32 ev.pick, .int .u64 ev.draw, .int .u32 ev.addr, .int .u32 ev.node, .int .u32 ev.dst, .int .u32 ev.xfer, .int .u8 ev.ty, .int .u64 ev.arg, .int .u64 ev.badge, .slice xo ev.ws.length cx]), (150, .pointer (some ⟨mb, 13, none⟩))]) (φ := True) (rest := [3, 4, 5]) h66 (by kernel_rfl) rfl trivial fun a69 h70 => ?_
  clear h66
  refine nd_op ?_
  refine op_read (b := mb) (v := .agg #[.int .u16 ((curR Z a67).idx), .int .u32 ((curR Z a67).gen)]) h70 rfl rfl (rd_mA h70 (k := 13) (vs := [.int .u16 ((curR Z a67).idx), .int .u32 ((curR Z a67).gen)]) rfl rfl rfl rfl rfl md_cur) ?_
  have h71 := h70.put (d := some 151) (v := .agg #[.int .u16 ((curR Z a67).idx), .int .u32 ((curR Z a67).gen)]) (T' := [(151, .agg #[.int .u16 ((curR Z a67).idx), .int .u32 ((curR Z a67).gen)]), (5, .pointer (some ⟨b15, 0, none⟩)), (4, .pointer (some ⟨b8, 0, none⟩)), (3, .pointer (some ⟨b2, 0, none⟩)), (0, .pointer (some ⟨mb, 0, none⟩)), (1, .agg #[.int .u8 0, .int .u32 ev.pick, .int .u64 ev.draw, .int .u32 ev.addr, .int .u32 ev.node, .int .u32 ev.dst, .int .u32 ev.xfer, .int .u8 ev.ty, .int .u64 ev.arg, .int .u64 ev.badge, .slice xo ev.ws.length cx]), (150, .pointer (some ⟨mb, 13, none⟩))]) rfl
  clear h70
  refine nd_batch tabOk2 tabZ_ok2 [(4, {})] [151, 5, 4, 3, 0, 1, 152] (T' := [(151, .agg #[.int .u16 ((curR Z a67).idx), .int .u32 ((curR Z a67).gen)]), (5, .pointer (some ⟨b15, 0, none⟩)), (4, .pointer (some ⟨b8, 0, none⟩)), (3, .pointer (some ⟨b2, 0, none⟩)), (0, .pointer (some ⟨mb, 0, none⟩)), (1, .agg #[.int .u8 0, .int .u32 ev.pick, .int .u64 ev.draw, .int .u32 ev.addr, .int .u32 ev.node, .int .u32 ev.dst, .int .u32 ev.xfer, .int .u8 ev.ty, .int .u64 ev.arg, .int .u64 ev.badge, .slice xo ev.ws.length cx]), (152, .pointer (some ⟨b15, 1, none⟩))]) (φ := True) (rest := [5]) h71 (by kernel_rfl) rfl trivial fun a72 h73 => ?_
  clear h71
  refine nd_op ?_
  refine op_store tabOk2 {k := 3} (L' := [(3, ⟨[.int .u16 0, .int .u32 0], ty3, true⟩), (b2, ⟨[.int .u8 0, .int .u32 ev.pick, .int .u64 ev.draw, .int .u32 ev.addr, .int .u32 ev.node, .int .u32 ev.dst, .int .u32 ev.xfer, .int .u8 ev.ty, .int .u64 ev.arg, .int .u64 ev.badge, .slice xo ev.ws.length cx], 35, false⟩), (b8, ⟨[.int .u8 0, .int .u16 0, .int .u32 0, .int .u64 0, .int .u64 0, .int .u64 0, .int .u64 0, .int .u64 0, .int .u8 0, .int .u8 0], 42, false⟩), (b15, ⟨[.int .u8 0, .int .u16 ((curR Z a67).idx), .int .u32 ((curR Z a67).gen), .int .u64 0, .int .u64 0, .int .u64 0, .int .u64 0, .int .u64 0, .int .u8 0, .int .u8 0], 42, false⟩)]) (φ := b15 = b15 ∧ Nat.ble (1 + 2) 10 = true) h73 rfl rfl rfl (by kernel_rfl) ⟨rfl, rfl⟩ fun w74 h75 => ?_
  clear h73
  refine nd_done ?_
  refine hK68 _ _ ?_
  clear hK68
  refine wp_seq_k fun K76 hK76 => ?_
  refine nd_start (l := [0, 1]) rfl ?_
  refine nd_batch tabOk2 tabZ_ok2 [(0, {k := 3})] [5, 4, 3, 0, 1, 153] (T' := [(5, .pointer (some ⟨b15, 0, none⟩)), (4, .pointer (some ⟨b8, 0, none⟩)), (3, .pointer (some ⟨b2, 0, none⟩)), (0, .pointer (some ⟨mb, 0, none⟩)), (1, .agg #[.int .u8 0, .int .u32 ev.pick, .int .u64 ev.draw, .int .u32 ev.addr, .int .u32 ev.node, .int .u32 ev.dst, .int .u32 ev.xfer, .int .u8 ev.ty, .int .u64 ev.arg, .int .u64 ev.badge, .slice xo ev.ws.length cx]), (153, .agg #[.int .u8 0, .int .u16 ((curR Z a67).idx), .int .u32 ((curR Z a67).gen), .int .u64 0, .int .u64 0, .int .u64 0, .int .u64 0, .int .u64 0, .int .u8 0, .int .u8 0])]) (φ := (b15 = b15 ∧ Nat.ble (0 + 10) 10 = true) ∧ True) (rest := [1]) h75 (by kernel_rfl) rfl ⟨⟨rfl, rfl⟩, trivial⟩ fun a77 h78 => ?_
  clear h75
  refine nd_op ?_
  refine op_store tabOk2 {k := 2} (L' := [(3, ⟨[.int .u16 0, .int .u32 0], ty3, true⟩), (b2, ⟨[.int .u8 0, .int .u32 ev.pick, .int .u64 ev.draw, .int .u32 ev.addr, .int .u32 ev.node, .int .u32 ev.dst, .int .u32 ev.xfer, .int .u8 ev.ty, .int .u64 ev.arg, .int .u64 ev.badge, .slice xo ev.ws.length cx], 35, false⟩), (b8, ⟨[.int .u8 0, .int .u16 ((curR Z a67).idx), .int .u32 ((curR Z a67).gen), .int .u64 0, .int .u64 0, .int .u64 0, .int .u64 0, .int .u64 0, .int .u8 0, .int .u8 0], 42, false⟩), (b15, ⟨[.int .u8 0, .int .u16 ((curR Z a67).idx), .int .u32 ((curR Z a67).gen), .int .u64 0, .int .u64 0, .int .u64 0, .int .u64 0, .int .u64 0, .int .u8 0, .int .u8 0], 42, false⟩)]) (φ := b8 = b8 ∧ Nat.ble (0 + 10) 10 = true) h78 rfl rfl rfl (by kernel_rfl) ⟨rfl, rfl⟩ fun w79 h80 => ?_
  clear h78
  refine nd_done ?_
  refine hK76 _ _ ?_
  clear hK76
  refine wp_ret ?_
  try simp only [Exit.then, Exit.inBlock]
  try rw [if_pos trivial]
  exact s_ret tabOk2 tabZ_ok2 h80 [(.cell 4 42, {k := 2})] (vs := [.agg #[.int .u8 0, .int .u16 ((curR Z a67).idx), .int .u32 ((curR Z a67).gen), .int .u64 0, .int .u64 0, .int .u64 0, .int .u64 0, .int .u64 0, .int .u8 0, .int .u8 0]]) (φ := (b8 = b8 ∧ Nat.ble (0 + 10) 10 = true) ∧ True) rfl (by kernel_rfl) ⟨⟨rfl, rfl⟩, trivial⟩ (by subst ea67 ea54 ea34; exact ⟨_, _, rfl, mg_end hH h80 hhoh66 rfl, rfl⟩)

theorem step1a (mb : Nat) (Z : MZ) (R : MR) (a : AK) (C : CP) (hI : MI Z a C) (ev : Ev) (he : EvOk ev) (xo : Option Addr) (cx : Nat) (hag : ev.arg ≥ 16) (w : World) (hH : MH mb Z R a C w) (hws : WordsAt (mdF mb Z R C) w xo ev.ws) :
    Calls Tryd.prog 15 #[.pointer (some ⟨mb, 0, none⟩), .agg #[.int .u8 1, .int .u32 ev.pick, .int .u64 ev.draw, .int .u32 ev.addr, .int .u32 ev.node, .int .u32 ev.dst, .int .u32 ev.xfer, .int .u8 ev.ty, .int .u64 ev.arg, .int .u64 ev.badge, .slice xo ev.ws.length cx]] w fun e w' => ∃ Z' R', e = .returned (.agg #[.int .u8 8, .int .u16 ((curR Z' a).idx), .int .u32 ((curR Z' a).gen), .int .u64 0, .int .u64 0, .int .u64 0, .int .u64 0, .int .u64 0, .int .u8 0, .int .u8 0]) ∧ MG mb Z R C w Z' R' a C w' ∧ Z' = Z := by
  have hP := hI.mp
  obtain ⟨ty3, hg3⟩ := hH.g3
  have hho := hH.ho
  have hkk := hH.md.k
  refine enter (n := 154) (K := mdF mb Z R C) (A := MD (mdF mb Z R C) w.heap.size mb Z R a C) (F := mdF mb Z R C) (T := [(0, .pointer (some ⟨mb, 0, none⟩)), (1, .agg #[.int .u8 1, .int .u32 ev.pick, .int .u64 ev.draw, .int .u32 ev.addr, .int .u32 ev.node, .int .u32 ev.dst, .int .u32 ev.xfer, .int .u8 ev.ty, .int .u64 ev.arg, .int .u64 ev.badge, .slice xo ev.ws.length cx])]) (L := [(3, ⟨[.int .u16 0, .int .u32 0], ty3, true⟩)]) (args := [.pointer (some ⟨mb, 0, none⟩), .agg #[.int .u8 1, .int .u32 ev.pick, .int .u64 ev.draw, .int .u32 ev.addr, .int .u32 ev.node, .int .u32 ev.dst, .int .u32 ev.xfer, .int .u8 ev.ty, .int .u64 ev.arg, .int .u64 ev.badge, .slice xo ev.ws.length cx]]) Tryd.func15 rfl rfl rfl rfl (kcons hg3 knil) (by simp) (kcons (by intro hq; cases hq) knil) hH.mD MD.stable hH.md.low (kcons (by intro hq; cases hq) knil) ?_
  intro ac h
  refine wp_seq_k fun K1 hK1 => ?_
  refine nd_start (l := [0, 1]) rfl ?_
  refine nd_op ?_
  refine op_new tabOk2 (cells := [.int .u8 1, .int .u32 ev.pick, .int .u64 ev.draw, .int .u32 ev.addr, .int .u32 ev.node, .int .u32 ev.dst, .int .u32 ev.xfer, .int .u8 ev.ty, .int .u64 ev.arg, .int .u64 ev.badge, .slice xo ev.ws.length cx]) (ty := 35) (ln := none) (L1 := fun b2 => [(3, ⟨[.int .u16 0, .int .u32 0], ty3, true⟩), (b2, ⟨[.int .u8 1, .int .u32 ev.pick, .int .u64 ev.draw, .int .u32 ev.addr, .int .u32 ev.node, .int .u32 ev.dst, .int .u32 ev.xfer, .int .u8 ev.ty, .int .u64 ev.arg, .int .u64 ev.badge, .slice xo ev.ws.length cx], 35, false⟩)]) h rfl rfl rfl rfl (by kernel_rfl) (fun _ => rfl) fun b2 w3 a4 h5 hf6 hn7 => ?_
  clear h
  refine nd_op ?_
  refine op_new tabOk2 (cells := [.int .u8 0, .int .u16 0, .int .u32 0, .int .u64 0, .int .u64 0, .int .u64 0, .int .u64 0, .int .u64 0, .int .u8 0, .int .u8 0]) (ty := 42) (ln := none) (L1 := fun b8 => [(3, ⟨[.int .u16 0, .int .u32 0], ty3, true⟩), (b2, ⟨[.int .u8 1, .int .u32 ev.pick, .int .u64 ev.draw, .int .u32 ev.addr, .int .u32 ev.node, .int .u32 ev.dst, .int .u32 ev.xfer, .int .u8 ev.ty, .int .u64 ev.arg, .int .u64 ev.badge, .slice xo ev.ws.length cx], 35, false⟩), (b8, ⟨[.int .u8 0, .int .u16 0, .int .u32 0, .int .u64 0, .int .u64 0, .int .u64 0, .int .u64 0, .int .u64 0, .int .u8 0, .int .u8 0], 42, false⟩)]) h5 rfl rfl rfl rfl (by kernel_rfl) (fun _ => rfl) fun b8 w9 a10 h11 hf12 hn13 => ?_
  clear h5
  refine nd_done ?_
  refine hK1 _ _ ?_
  clear hK1
  refine wp_seq_k fun K14 hK14 => ?_
  refine nd_start (l := [0]) rfl ?_
  refine nd_op ?_
  refine op_new tabOk2 (cells := [.int .u8 0, .int .u16 0, .int .u32 0, .int .u64 0, .int .u64 0, .int .u64 0, .int .u64 0, .int .u64 0, .int .u8 0, .int .u8 0]) (ty := 42) (ln := none) (L1 := fun b15 => [(3, ⟨[.int .u16 0, .int .u32 0], ty3, true⟩), (b2, ⟨[.int .u8 1, .int .u32 ev.pick, .int .u64 ev.draw, .int .u32 ev.addr, .int .u32 ev.node, .int .u32 ev.dst, .int .u32 ev.xfer, .int .u8 ev.ty, .int .u64 ev.arg, .int .u64 ev.badge, .slice xo ev.ws.length cx], 35, false⟩), (b8, ⟨[.int .u8 0, .int .u16 0, .int .u32 0, .int .u64 0, .int .u64 0, .int .u64 0, .int .u64 0, .int .u64 0, .int .u8 0, .int .u8 0], 42, false⟩), (b15, ⟨[.int .u8 0, .int .u16 0, .int .u32 0, .int .u64 0, .int .u64 0, .int .u64 0, .int .u64 0, .int .u64 0, .int .u8 0, .int .u8 0], 42, false⟩)]) h11 rfl rfl rfl rfl (by kernel_rfl) (fun _ => rfl) fun b15 w16 a17 h18 hf19 hn20 => ?_
  clear h11
  refine nd_done ?_
  refine hK14 _ _ ?_
  clear hK14
  refine wp_seq_k fun K21 hK21 => ?_
  refine wp_block ?_
  refine wp_seq_k fun K22 hK22 => ?_
  refine nd_start (l := [0, 1, 2, 3]) rfl ?_
  refine nd_batch tabOk2 tabZ_ok2 [(0, {}), (1, {k := 1}), (2, {}), (3, {})] [5, 4, 3, 0, 1, 45] (T' := [(5, .pointer (some ⟨b15, 0, none⟩)), (4, .pointer (some ⟨b8, 0, none⟩)), (3, .pointer (some ⟨b2, 0, none⟩)), (0, .pointer (some ⟨mb, 0, none⟩)), (1, .agg #[.int .u8 1, .int .u32 ev.pick, .int .u64 ev.draw, .int .u32 ev.addr, .int .u32 ev.node, .int .u32 ev.dst, .int .u32 ev.xfer, .int .u8 ev.ty, .int .u64 ev.arg, .int .u64 ev.badge, .slice xo ev.ws.length cx]), (45, .bool false)]) (φ := (b2 = b2 ∧ Nat.ble (0 + 1) 11 = true) ∧ True) (rest := []) h18 (by kernel_rfl) rfl ⟨⟨rfl, rfl⟩, trivial⟩ fun a23 h24 => ?_
  clear h18
  refine nd_done ?_
  refine hK22 _ _ ?_
  clear hK22
  refine c_false h24 rfl ?_
  refine wp_seq_k fun K25 hK25 => ?_
  refine nd_start (l := [0, 1, 2, 3]) rfl ?_
  refine nd_batch tabOk2 tabZ_ok2 [(0, {}), (1, {k := 1}), (2, {}), (3, {})] [5, 4, 3, 0, 1, 68] (T' := [(5, .pointer (some ⟨b15, 0, none⟩)), (4, .pointer (some ⟨b8, 0, none⟩)), (3, .pointer (some ⟨b2, 0, none⟩)), (0, .pointer (some ⟨mb, 0, none⟩)), (1, .agg #[.int .u8 1, .int .u32 ev.pick, .int .u64 ev.draw, .int .u32 ev.addr, .int .u32 ev.node, .int .u32 ev.dst, .int .u32 ev.xfer, .int .u8 ev.ty, .int .u64 ev.arg, .int .u64 ev.badge, .slice xo ev.ws.length cx]), (68, .bool true)]) (φ := (b2 = b2 ∧ Nat.ble (0 + 1) 11 = true) ∧ True) (rest := []) h24 (by kernel_rfl) rfl ⟨⟨rfl, rfl⟩, trivial⟩ fun a26 h27 => ?_
  clear h24
  refine nd_done ?_
  refine hK25 _ _ ?_
  clear hK25
  refine c_true h27 rfl ?_
  refine wp_block ?_
  refine wp_seq_k fun K28 hK28 => ?_
  refine nd_start (l := [0, 1, 2, 3]) rfl ?_
  refine nd_batch tabOk2 tabZ_ok2 [(0, {}), (1, {k := 1}), (2, {}), (3, {})] [5, 4, 3, 0, 1, 97] (T' := [(5, .pointer (some ⟨b15, 0, none⟩)), (4, .pointer (some ⟨b8, 0, none⟩)), (3, .pointer (some ⟨b2, 0, none⟩)), (0, .pointer (some ⟨mb, 0, none⟩)), (1, .agg #[.int .u8 1, .int .u32 ev.pick, .int .u64 ev.draw, .int .u32 ev.addr, .int .u32 ev.node, .int .u32 ev.dst, .int .u32 ev.xfer, .int .u8 ev.ty, .int .u64 ev.arg, .int .u64 ev.badge, .slice xo ev.ws.length cx]), (97, .bool (decide (ev.arg ≥ 16)))]) (φ := (b2 = b2 ∧ Nat.ble (8 + 1) 11 = true) ∧ True) (rest := []) h27 (by kernel_rfl) rfl ⟨⟨rfl, rfl⟩, trivial⟩ fun a29 h30 => ?_
  clear h27
  refine nd_done ?_
  refine hK28 _ _ ?_
  clear hK28
  refine c_split h30 (b := decide (ev.arg ≥ 16)) rfl (fun hc31 => ?_) (fun hc31 => ?_)
  ·
    have hc31f : ev.arg ≥ 16 := by simpa using hc31
    refine nd_start (l := [0, 1]) rfl ?_
    refine nd_batch tabOk2 tabZ_ok2 [(0, {})] [5, 4, 3, 0, 1, 101] (T' := [(5, .pointer (some ⟨b15, 0, none⟩)), (4, .pointer (some ⟨b8, 0, none⟩)), (3, .pointer (some ⟨b2, 0, none⟩)), (0, .pointer (some ⟨mb, 0, none⟩)), (1, .agg #[.int .u8 1, .int .u32 ev.pick, .int .u64 ev.draw, .int .u32 ev.addr, .int .u32 ev.node, .int .u32 ev.dst, .int .u32 ev.xfer, .int .u8 ev.ty, .int .u64 ev.arg, .int .u64 ev.badge, .slice xo ev.ws.length cx]), (101, .pointer (some ⟨b15, 0, none⟩))]) (φ := True) (rest := [1]) h30 (by kernel_rfl) rfl trivial fun a32 h33 => ?_
    clear h30
    refine nd_op ?_
    refine op_store tabOk2 {k := 3} (L' := [(3, ⟨[.int .u16 0, .int .u32 0], ty3, true⟩), (b2, ⟨[.int .u8 1, .int .u32 ev.pick, .int .u64 ev.draw, .int .u32 ev.addr, .int .u32 ev.node, .int .u32 ev.dst, .int .u32 ev.xfer, .int .u8 ev.ty, .int .u64 ev.arg, .int .u64 ev.badge, .slice xo ev.ws.length cx], 35, false⟩), (b8, ⟨[.int .u8 0, .int .u16 0, .int .u32 0, .int .u64 0, .int .u64 0, .int .u64 0, .int .u64 0, .int .u64 0, .int .u8 0, .int .u8 0], 42, false⟩), (b15, ⟨[.int .u8 8, .int .u16 0, .int .u32 0, .int .u64 0, .int .u64 0, .int .u64 0, .int .u64 0, .int .u64 0, .int .u8 0, .int .u8 0], 42, false⟩)]) (φ := b15 = b15 ∧ Nat.ble (0 + 1) 10 = true) h33 rfl rfl rfl (by kernel_rfl) ⟨rfl, rfl⟩ fun w34 h35 => ?_
    clear h33
    refine nd_done ?_
    refine hK21 _ _ ?_
    clear hK21
    refine wp_seq_k fun K36 hK36 => ?_
    refine wp_seq_k fun K37 hK37 => ?_
    refine nd_start (l := [0, 1, 2]) rfl ?_
    refine nd_batch tabOk2 tabZ_ok2 [(0, {}), (1, {k := 3}), (2, {})] [5, 4, 3, 0, 1, 143] (T' := [(5, .pointer (some ⟨b15, 0, none⟩)), (4, .pointer (some ⟨b8, 0, none⟩)), (3, .pointer (some ⟨b2, 0, none⟩)), (0, .pointer (some ⟨mb, 0, none⟩)), (1, .agg #[.int .u8 1, .int .u32 ev.pick, .int .u64 ev.draw, .int .u32 ev.addr, .int .u32 ev.node, .int .u32 ev.dst, .int .u32 ev.xfer, .int .u8 ev.ty, .int .u64 ev.arg, .int .u64 ev.badge, .slice xo ev.ws.length cx]), (143, .bool false)]) (φ := (b15 = b15 ∧ Nat.ble (0 + 1) 10 = true) ∧ True) (rest := []) h35 (by kernel_rfl) rfl ⟨⟨rfl, rfl⟩, trivial⟩ fun a38 h39 => ?_
    clear h35
    refine nd_done ?_
    refine hK37 _ _ ?_
    clear hK37
    refine c_false h39 rfl ?_
    refine wp_skip ?_
    refine hK36 _ _ ?_
    clear hK36
    refine wp_seq_k fun K40 hK40 => ?_
    refine nd_start (l := [0, 1, 2, 3, 4, 5]) rfl ?_
    refine nd_batch tabOk2 tabZ_ok2 [(0, {}), (1, {}), (2, {})] [5, 4, 3, 0, 1, 150] (T' := [(5, .pointer (some ⟨b15, 0, none⟩)), (4, .pointer (some ⟨b8, 0, none⟩)), (3, .pointer (some ⟨b2, 0, none⟩)), (0, .pointer (some ⟨mb, 0, none⟩)), (1, .agg #[.int .u8 1, .int .u32 ev.pick, .int .u64 ev.draw, .int .u32 ev.addr, .int .u32 ev.node, .int .u32 ev.dst, .int .u32 ev.xfer, .int .u8 ev.ty, .int .u64 ev.arg, .int .u64 ev.badge, .slice xo ev.ws.length cx]), (150, .pointer (some ⟨mb, 13, none⟩))]) (φ := True) (rest := [3, 4, 5]) h39 (by kernel_rfl) rfl trivial fun a41 h42 => ?_
    clear h39
    refine nd_op ?_
    refine op_read (b := mb) (v := .agg #[.int .u16 ((curR Z a).idx), .int .u32 ((curR Z a).gen)]) h42 rfl rfl (rd_mA h42 (k := 13) (vs := [.int .u16 ((curR Z a).idx), .int .u32 ((curR Z a).gen)]) rfl rfl rfl rfl rfl md_cur) ?_
    have h43 := h42.put (d := some 151) (v := .agg #[.int .u16 ((curR Z a).idx), .int .u32 ((curR Z a).gen)]) (T' := [(151, .agg #[.int .u16 ((curR Z a).idx), .int .u32 ((curR Z a).gen)]), (5, .pointer (some ⟨b15, 0, none⟩)), (4, .pointer (some ⟨b8, 0, none⟩)), (3, .pointer (some ⟨b2, 0, none⟩)), (0, .pointer (some ⟨mb, 0, none⟩)), (1, .agg #[.int .u8 1, .int .u32 ev.pick, .int .u64 ev.draw, .int .u32 ev.addr, .int .u32 ev.node, .int .u32 ev.dst, .int .u32 ev.xfer, .int .u8 ev.ty, .int .u64 ev.arg, .int .u64 ev.badge, .slice xo ev.ws.length cx]), (150, .pointer (some ⟨mb, 13, none⟩))]) rfl
    clear h42
    refine nd_batch tabOk2 tabZ_ok2 [(4, {})] [151, 5, 4, 3, 0, 1, 152] (T' := [(151, .agg #[.int .u16 ((curR Z a).idx), .int .u32 ((curR Z a).gen)]), (5, .pointer (some ⟨b15, 0, none⟩)), (4, .pointer (some ⟨b8, 0, none⟩)), (3, .pointer (some ⟨b2, 0, none⟩)), (0, .pointer (some ⟨mb, 0, none⟩)), (1, .agg #[.int .u8 1, .int .u32 ev.pick, .int .u64 ev.draw, .int .u32 ev.addr, .int .u32 ev.node, .int .u32 ev.dst, .int .u32 ev.xfer, .int .u8 ev.ty, .int .u64 ev.arg, .int .u64 ev.badge, .slice xo ev.ws.length cx]), (152, .pointer (some ⟨b15, 1, none⟩))]) (φ := True) (rest := [5]) h43 (by kernel_rfl) rfl trivial fun a44 h45 => ?_
    clear h43
    refine nd_op ?_
    refine op_store tabOk2 {k := 3} (L' := [(3, ⟨[.int .u16 0, .int .u32 0], ty3, true⟩), (b2, ⟨[.int .u8 1, .int .u32 ev.pick, .int .u64 ev.draw, .int .u32 ev.addr, .int .u32 ev.node, .int .u32 ev.dst, .int .u32 ev.xfer, .int .u8 ev.ty, .int .u64 ev.arg, .int .u64 ev.badge, .slice xo ev.ws.length cx], 35, false⟩), (b8, ⟨[.int .u8 0, .int .u16 0, .int .u32 0, .int .u64 0, .int .u64 0, .int .u64 0, .int .u64 0, .int .u64 0, .int .u8 0, .int .u8 0], 42, false⟩), (b15, ⟨[.int .u8 8, .int .u16 ((curR Z a).idx), .int .u32 ((curR Z a).gen), .int .u64 0, .int .u64 0, .int .u64 0, .int .u64 0, .int .u64 0, .int .u8 0, .int .u8 0], 42, false⟩)]) (φ := b15 = b15 ∧ Nat.ble (1 + 2) 10 = true) h45 rfl rfl rfl (by kernel_rfl) ⟨rfl, rfl⟩ fun w46 h47 => ?_
    clear h45
    refine nd_done ?_
    refine hK40 _ _ ?_
    clear hK40
    refine wp_seq_k fun K48 hK48 => ?_
    refine nd_start (l := [0, 1]) rfl ?_
    refine nd_batch tabOk2 tabZ_ok2 [(0, {k := 3})] [5, 4, 3, 0, 1, 153] (T' := [(5, .pointer (some ⟨b15, 0, none⟩)), (4, .pointer (some ⟨b8, 0, none⟩)), (3, .pointer (some ⟨b2, 0, none⟩)), (0, .pointer (some ⟨mb, 0, none⟩)), (1, .agg #[.int .u8 1, .int .u32 ev.pick, .int .u64 ev.draw, .int .u32 ev.addr, .int .u32 ev.node, .int .u32 ev.dst, .int .u32 ev.xfer, .int .u8 ev.ty, .int .u64 ev.arg, .int .u64 ev.badge, .slice xo ev.ws.length cx]), (153, .agg #[.int .u8 8, .int .u16 ((curR Z a).idx), .int .u32 ((curR Z a).gen), .int .u64 0, .int .u64 0, .int .u64 0, .int .u64 0, .int .u64 0, .int .u8 0, .int .u8 0])]) (φ := (b15 = b15 ∧ Nat.ble (0 + 10) 10 = true) ∧ True) (rest := [1]) h47 (by kernel_rfl) rfl ⟨⟨rfl, rfl⟩, trivial⟩ fun a49 h50 => ?_
    clear h47
    refine nd_op ?_
    refine op_store tabOk2 {k := 2} (L' := [(3, ⟨[.int .u16 0, .int .u32 0], ty3, true⟩), (b2, ⟨[.int .u8 1, .int .u32 ev.pick, .int .u64 ev.draw, .int .u32 ev.addr, .int .u32 ev.node, .int .u32 ev.dst, .int .u32 ev.xfer, .int .u8 ev.ty, .int .u64 ev.arg, .int .u64 ev.badge, .slice xo ev.ws.length cx], 35, false⟩), (b8, ⟨[.int .u8 8, .int .u16 ((curR Z a).idx), .int .u32 ((curR Z a).gen), .int .u64 0, .int .u64 0, .int .u64 0, .int .u64 0, .int .u64 0, .int .u8 0, .int .u8 0], 42, false⟩), (b15, ⟨[.int .u8 8, .int .u16 ((curR Z a).idx), .int .u32 ((curR Z a).gen), .int .u64 0, .int .u64 0, .int .u64 0, .int .u64 0, .int .u64 0, .int .u8 0, .int .u8 0], 42, false⟩)]) (φ := b8 = b8 ∧ Nat.ble (0 + 10) 10 = true) h50 rfl rfl rfl (by kernel_rfl) ⟨rfl, rfl⟩ fun w51 h52 => ?_
    clear h50
    refine nd_done ?_
    refine hK48 _ _ ?_
    clear hK48
    refine wp_ret ?_
    try simp only [Exit.then, Exit.inBlock]
    try rw [if_pos trivial]
    exact s_ret tabOk2 tabZ_ok2 h52 [(.cell 4 42, {k := 2})] (vs := [.agg #[.int .u8 8, .int .u16 ((curR Z a).idx), .int .u32 ((curR Z a).gen), .int .u64 0, .int .u64 0, .int .u64 0, .int .u64 0, .int .u64 0, .int .u8 0, .int .u8 0]]) (φ := (b8 = b8 ∧ Nat.ble (0 + 10) 10 = true) ∧ True) rfl (by kernel_rfl) ⟨⟨rfl, rfl⟩, trivial⟩ (by exact ⟨_, _, rfl, mg_end hH h52 hho rfl, rfl⟩)
  ·
    have hc31f : ¬ ev.arg ≥ 16 := by simpa using hc31
    exact absurd (hag) (by first | exact hc31f | (intro hz; exact hc31f hz) | omega | simp_all)

theorem step1n (mb : Nat) (Z : MZ) (R : MR) (a : AK) (C : CP) (hI : MI Z a C) (ev : Ev) (he : EvOk ev) (xo : Option Addr) (cx : Nat) (hag : ¬ ev.arg ≥ 16) (hty : typeOfP C.ent (a.irq ev.arg.toNat).ntfn ≠ 5) (w : World) (hH : MH mb Z R a C w) (hws : WordsAt (mdF mb Z R C) w xo ev.ws) :
    Calls Tryd.prog 15 #[.pointer (some ⟨mb, 0, none⟩), .agg #[.int .u8 1, .int .u32 ev.pick, .int .u64 ev.draw, .int .u32 ev.addr, .int .u32 ev.node, .int .u32 ev.dst, .int .u32 ev.xfer, .int .u8 ev.ty, .int .u64 ev.arg, .int .u64 ev.badge, .slice xo ev.ws.length cx]] w fun e w' => ∃ Z' R', e = .returned (.agg #[.int .u8 14, .int .u16 ((curR Z' a).idx), .int .u32 ((curR Z' a).gen), .int .u64 0, .int .u64 0, .int .u64 0, .int .u64 0, .int .u64 0, .int .u8 0, .int .u8 0]) ∧ MG mb Z R C w Z' R' a C w' ∧ Z' = Z := by
  have hP := hI.mp
  obtain ⟨ty3, hg3⟩ := hH.g3
  have hho := hH.ho
  have hkk := hH.md.k
  refine enter (n := 154) (K := mdF mb Z R C) (A := MD (mdF mb Z R C) w.heap.size mb Z R a C) (F := mdF mb Z R C) (T := [(0, .pointer (some ⟨mb, 0, none⟩)), (1, .agg #[.int .u8 1, .int .u32 ev.pick, .int .u64 ev.draw, .int .u32 ev.addr, .int .u32 ev.node, .int .u32 ev.dst, .int .u32 ev.xfer, .int .u8 ev.ty, .int .u64 ev.arg, .int .u64 ev.badge, .slice xo ev.ws.length cx])]) (L := [(3, ⟨[.int .u16 0, .int .u32 0], ty3, true⟩)]) (args := [.pointer (some ⟨mb, 0, none⟩), .agg #[.int .u8 1, .int .u32 ev.pick, .int .u64 ev.draw, .int .u32 ev.addr, .int .u32 ev.node, .int .u32 ev.dst, .int .u32 ev.xfer, .int .u8 ev.ty, .int .u64 ev.arg, .int .u64 ev.badge, .slice xo ev.ws.length cx]]) Tryd.func15 rfl rfl rfl rfl (kcons hg3 knil) (by simp) (kcons (by intro hq; cases hq) knil) hH.mD MD.stable hH.md.low (kcons (by intro hq; cases hq) knil) ?_
  intro ac h
  refine wp_seq_k fun K1 hK1 => ?_
  refine nd_start (l := [0, 1]) rfl ?_
  refine nd_op ?_
  refine op_new tabOk2 (cells := [.int .u8 1, .int .u32 ev.pick, .int .u64 ev.draw, .int .u32 ev.addr, .int .u32 ev.node, .int .u32 ev.dst, .int .u32 ev.xfer, .int .u8 ev.ty, .int .u64 ev.arg, .int .u64 ev.badge, .slice xo ev.ws.length cx]) (ty := 35) (ln := none) (L1 := fun b2 => [(3, ⟨[.int .u16 0, .int .u32 0], ty3, true⟩), (b2, ⟨[.int .u8 1, .int .u32 ev.pick, .int .u64 ev.draw, .int .u32 ev.addr, .int .u32 ev.node, .int .u32 ev.dst, .int .u32 ev.xfer, .int .u8 ev.ty, .int .u64 ev.arg, .int .u64 ev.badge, .slice xo ev.ws.length cx], 35, false⟩)]) h rfl rfl rfl rfl (by kernel_rfl) (fun _ => rfl) fun b2 w3 a4 h5 hf6 hn7 => ?_
  clear h
  refine nd_op ?_
  refine op_new tabOk2 (cells := [.int .u8 0, .int .u16 0, .int .u32 0, .int .u64 0, .int .u64 0, .int .u64 0, .int .u64 0, .int .u64 0, .int .u8 0, .int .u8 0]) (ty := 42) (ln := none) (L1 := fun b8 => [(3, ⟨[.int .u16 0, .int .u32 0], ty3, true⟩), (b2, ⟨[.int .u8 1, .int .u32 ev.pick, .int .u64 ev.draw, .int .u32 ev.addr, .int .u32 ev.node, .int .u32 ev.dst, .int .u32 ev.xfer, .int .u8 ev.ty, .int .u64 ev.arg, .int .u64 ev.badge, .slice xo ev.ws.length cx], 35, false⟩), (b8, ⟨[.int .u8 0, .int .u16 0, .int .u32 0, .int .u64 0, .int .u64 0, .int .u64 0, .int .u64 0, .int .u64 0, .int .u8 0, .int .u8 0], 42, false⟩)]) h5 rfl rfl rfl rfl (by kernel_rfl) (fun _ => rfl) fun b8 w9 a10 h11 hf12 hn13 => ?_
  clear h5
  refine nd_done ?_
  refine hK1 _ _ ?_
  clear hK1
  refine wp_seq_k fun K14 hK14 => ?_
  refine nd_start (l := [0]) rfl ?_
  refine nd_op ?_
  refine op_new tabOk2 (cells := [.int .u8 0, .int .u16 0, .int .u32 0, .int .u64 0, .int .u64 0, .int .u64 0, .int .u64 0, .int .u64 0, .int .u8 0, .int .u8 0]) (ty := 42) (ln := none) (L1 := fun b15 => [(3, ⟨[.int .u16 0, .int .u32 0], ty3, true⟩), (b2, ⟨[.int .u8 1, .int .u32 ev.pick, .int .u64 ev.draw, .int .u32 ev.addr, .int .u32 ev.node, .int .u32 ev.dst, .int .u32 ev.xfer, .int .u8 ev.ty, .int .u64 ev.arg, .int .u64 ev.badge, .slice xo ev.ws.length cx], 35, false⟩), (b8, ⟨[.int .u8 0, .int .u16 0, .int .u32 0, .int .u64 0, .int .u64 0, .int .u64 0, .int .u64 0, .int .u64 0, .int .u8 0, .int .u8 0], 42, false⟩), (b15, ⟨[.int .u8 0, .int .u16 0, .int .u32 0, .int .u64 0, .int .u64 0, .int .u64 0, .int .u64 0, .int .u64 0, .int .u8 0, .int .u8 0], 42, false⟩)]) h11 rfl rfl rfl rfl (by kernel_rfl) (fun _ => rfl) fun b15 w16 a17 h18 hf19 hn20 => ?_
  clear h11
  refine nd_done ?_
  refine hK14 _ _ ?_
  clear hK14
  refine wp_seq_k fun K21 hK21 => ?_
  refine wp_block ?_
  refine wp_seq_k fun K22 hK22 => ?_
  refine nd_start (l := [0, 1, 2, 3]) rfl ?_
  refine nd_batch tabOk2 tabZ_ok2 [(0, {}), (1, {k := 1}), (2, {}), (3, {})] [5, 4, 3, 0, 1, 45] (T' := [(5, .pointer (some ⟨b15, 0, none⟩)), (4, .pointer (some ⟨b8, 0, none⟩)), (3, .pointer (some ⟨b2, 0, none⟩)), (0, .pointer (some ⟨mb, 0, none⟩)), (1, .agg #[.int .u8 1, .int .u32 ev.pick, .int .u64 ev.draw, .int .u32 ev.addr, .int .u32 ev.node, .int .u32 ev.dst, .int .u32 ev.xfer, .int .u8 ev.ty, .int .u64 ev.arg, .int .u64 ev.badge, .slice xo ev.ws.length cx]), (45, .bool false)]) (φ := (b2 = b2 ∧ Nat.ble (0 + 1) 11 = true) ∧ True) (rest := []) h18 (by kernel_rfl) rfl ⟨⟨rfl, rfl⟩, trivial⟩ fun a23 h24 => ?_
  clear h18
  refine nd_done ?_
  refine hK22 _ _ ?_
  clear hK22
  refine c_false h24 rfl ?_
  refine wp_seq_k fun K25 hK25 => ?_
  refine nd_start (l := [0, 1, 2, 3]) rfl ?_
  refine nd_batch tabOk2 tabZ_ok2 [(0, {}), (1, {k := 1}), (2, {}), (3, {})] [5, 4, 3, 0, 1, 68] (T' := [(5, .pointer (some ⟨b15, 0, none⟩)), (4, .pointer (some ⟨b8, 0, none⟩)), (3, .pointer (some ⟨b2, 0, none⟩)), (0, .pointer (some ⟨mb, 0, none⟩)), (1, .agg #[.int .u8 1, .int .u32 ev.pick, .int .u64 ev.draw, .int .u32 ev.addr, .int .u32 ev.node, .int .u32 ev.dst, .int .u32 ev.xfer, .int .u8 ev.ty, .int .u64 ev.arg, .int .u64 ev.badge, .slice xo ev.ws.length cx]), (68, .bool true)]) (φ := (b2 = b2 ∧ Nat.ble (0 + 1) 11 = true) ∧ True) (rest := []) h24 (by kernel_rfl) rfl ⟨⟨rfl, rfl⟩, trivial⟩ fun a26 h27 => ?_
  clear h24
  refine nd_done ?_
  refine hK25 _ _ ?_
  clear hK25
  refine c_true h27 rfl ?_
  refine wp_block ?_
  refine wp_seq_k fun K28 hK28 => ?_
  refine nd_start (l := [0, 1, 2, 3]) rfl ?_
  refine nd_batch tabOk2 tabZ_ok2 [(0, {}), (1, {k := 1}), (2, {}), (3, {})] [5, 4, 3, 0, 1, 97] (T' := [(5, .pointer (some ⟨b15, 0, none⟩)), (4, .pointer (some ⟨b8, 0, none⟩)), (3, .pointer (some ⟨b2, 0, none⟩)), (0, .pointer (some ⟨mb, 0, none⟩)), (1, .agg #[.int .u8 1, .int .u32 ev.pick, .int .u64 ev.draw, .int .u32 ev.addr, .int .u32 ev.node, .int .u32 ev.dst, .int .u32 ev.xfer, .int .u8 ev.ty, .int .u64 ev.arg, .int .u64 ev.badge, .slice xo ev.ws.length cx]), (97, .bool (decide (ev.arg ≥ 16)))]) (φ := (b2 = b2 ∧ Nat.ble (8 + 1) 11 = true) ∧ True) (rest := []) h27 (by kernel_rfl) rfl ⟨⟨rfl, rfl⟩, trivial⟩ fun a29 h30 => ?_
  clear h27
  refine nd_done ?_
  refine hK28 _ _ ?_
  clear hK28
  refine c_split h30 (b := decide (ev.arg ≥ 16)) rfl (fun hc31 => ?_) (fun hc31 => ?_)
  ·
    have hc31f : ev.arg ≥ 16 := by simpa using hc31
    exact absurd (hag) (by first | exact hc31f | (intro hz; exact hc31f hz) | omega | simp_all)
  ·
    have hc31f : ¬ ev.arg ≥ 16 := by simpa using hc31
    refine wp_seq_k fun K32 hK32 => ?_
    refine dr_start (KB := [3, b2, b8, b15, mb]) (Bi := [[0, 1, 2, 3, 4], [0, 1, 2, 3, 4], [0, 1, 2, 3, 4], [0, 1, 2, 3, 4], [0, 1, 2, 3, 4], [0, 1, 2, 3, 4], [0, 1, 2, 3, 4], [0, 1, 2, 3, 4], [0, 1, 2, 3, 4], [0, 1, 2, 3, 4], [0, 1, 2, 3, 4], [0, 1, 2, 3, 4], [], [0, 1, 2, 3, 4], [0, 1, 2, 3, 4]]) mixed h30 fun w33 h34 => ?_
    clear h30
    refine dr_batch tabOk2 tabZ_ok2 (by repeat (first | with_reducible exact PF.body | with_reducible apply PF.inB | with_reducible apply PF.next)) [(0, {}), (1, {}), (2, {})] [5, 4, 3, 0, 1, 105] (T' := [(5, .pointer (some ⟨b15, 0, none⟩)), (4, .pointer (some ⟨b8, 0, none⟩)), (3, .pointer (some ⟨b2, 0, none⟩)), (0, .pointer (some ⟨mb, 0, none⟩)), (1, .agg #[.int .u8 1, .int .u32 ev.pick, .int .u64 ev.draw, .int .u32 ev.addr, .int .u32 ev.node, .int .u32 ev.dst, .int .u32 ev.xfer, .int .u8 ev.ty, .int .u64 ev.arg, .int .u64 ev.badge, .slice xo ev.ws.length cx]), (105, .pointer (some ⟨mb, 0, none⟩))]) (φ := True) (fuel := 12) h34 (by kernel_rfl) rfl (by kernel_rfl) (by kernel_rfl) ⟨trivial, trivial, trivial, trivial⟩ trivial fun a36 h37 => ?_
    clear h34
    refine dr_read (i := 3) (b := mb) (p := 4) (v := .pointer (some ⟨Z.mo, 0, none⟩)) (fuel := 11) (by repeat (first | with_reducible exact PF.body | with_reducible apply PF.inB | with_reducible apply PF.next)) h37 rfl rfl rfl (by kernel_rfl) (by kernel_rfl) (by kernel_rfl) rfl (rd_m h37 (k := 0) (v := .pointer (some ⟨Z.mo, 0, none⟩)) rfl rfl rfl rfl (md_p ⟨rfl, trivial⟩)) ?_
    have h38 := h37.put (d := some 106) (v := .pointer (some ⟨Z.mo, 0, none⟩)) (T' := [(106, .pointer (some ⟨Z.mo, 0, none⟩)), (5, .pointer (some ⟨b15, 0, none⟩)), (4, .pointer (some ⟨b8, 0, none⟩)), (3, .pointer (some ⟨b2, 0, none⟩)), (0, .pointer (some ⟨mb, 0, none⟩)), (1, .agg #[.int .u8 1, .int .u32 ev.pick, .int .u64 ev.draw, .int .u32 ev.addr, .int .u32 ev.node, .int .u32 ev.dst, .int .u32 ev.xfer, .int .u8 ev.ty, .int .u64 ev.arg, .int .u64 ev.badge, .slice xo ev.ws.length cx]), (105, .pointer (some ⟨mb, 0, none⟩))]) rfl
    clear h37
    refine dr_batch tabOk2 tabZ_ok2 (by repeat (first | with_reducible exact PF.body | with_reducible apply PF.inB | with_reducible apply PF.next)) [(4, {}), (5, {}), (6, {k := 1, p := 1}), (7, {}), (8, {}), (9, {}), (10, {})] [106, 5, 4, 3, 0, 1, 113] (T' := [(106, .pointer (some ⟨Z.mo, 0, none⟩)), (5, .pointer (some ⟨b15, 0, none⟩)), (4, .pointer (some ⟨b8, 0, none⟩)), (3, .pointer (some ⟨b2, 0, none⟩)), (0, .pointer (some ⟨mb, 0, none⟩)), (1, .agg #[.int .u8 1, .int .u32 ev.pick, .int .u64 ev.draw, .int .u32 ev.addr, .int .u32 ev.node, .int .u32 ev.dst, .int .u32 ev.xfer, .int .u8 ev.ty, .int .u64 ev.arg, .int .u64 ev.badge, .slice xo ev.ws.length cx]), (113, .pointer (some ⟨mb, 15 + (ev.arg.toNat * 4), none⟩))]) (φ := (b2 = b2 ∧ Nat.ble (8 + 1) 11 = true) ∧ (0 ≤ ev.arg ∧ ev.arg < 16) ∧ True) (fuel := 4) h38 (by kernel_rfl) rfl (by kernel_rfl) (by kernel_rfl) ⟨trivial, trivial, rfl, trivial, trivial, trivial, trivial, trivial⟩ ⟨⟨rfl, rfl⟩, ⟨by have := he.arg.1; omega, by omega⟩, trivial⟩ fun a39 h40 => ?_
    clear h38
    refine dr_read (i := 11) (b := mb) (p := 4) (v := .agg #[.int .u16 ((a.irq ev.arg.toNat).ntfn.idx), .int .u32 ((a.irq ev.arg.toNat).ntfn.gen)]) (fuel := 3) (by repeat (first | with_reducible exact PF.body | with_reducible apply PF.inB | with_reducible apply PF.next)) h40 rfl rfl rfl (by kernel_rfl) (by kernel_rfl) (by kernel_rfl) rfl (rd_mA h40 (k := 15 + (ev.arg.toNat * 4)) (vs := [.int .u16 ((a.irq ev.arg.toNat).ntfn.idx), .int .u32 ((a.irq ev.arg.toNat).ntfn.gen)]) rfl rfl rfl rfl rfl (md_irq (i := ev.arg.toNat) (k := 0) (by have := he.arg.1; omega) (by omega) ⟨rfl, rfl, trivial⟩)) ?_
    have h41 := h40.put (d := some 114) (v := .agg #[.int .u16 ((a.irq ev.arg.toNat).ntfn.idx), .int .u32 ((a.irq ev.arg.toNat).ntfn.gen)]) (T' := [(114, .agg #[.int .u16 ((a.irq ev.arg.toNat).ntfn.idx), .int .u32 ((a.irq ev.arg.toNat).ntfn.gen)]), (106, .pointer (some ⟨Z.mo, 0, none⟩)), (5, .pointer (some ⟨b15, 0, none⟩)), (4, .pointer (some ⟨b8, 0, none⟩)), (3, .pointer (some ⟨b2, 0, none⟩)), (0, .pointer (some ⟨mb, 0, none⟩)), (1, .agg #[.int .u8 1, .int .u32 ev.pick, .int .u64 ev.draw, .int .u32 ev.addr, .int .u32 ev.node, .int .u32 ev.dst, .int .u32 ev.xfer, .int .u8 ev.ty, .int .u64 ev.arg, .int .u64 ev.badge, .slice xo ev.ws.length cx]), (113, .pointer (some ⟨mb, 15 + (ev.arg.toNat * 4), none⟩))]) rfl
    clear h40
    refine wpAnyK_one (i := 12) (fuel := 2) (by kernel_rfl) ?_
    refine op_call h41 rfl rfl rfl (callOk Tryd.func53 (by decide) rfl) (args := [.pointer (some ⟨Z.mo, 0, none⟩), .agg #[.int .u16 ((a.irq ev.arg.toNat).ntfn.idx), .int .u32 ((a.irq ev.arg.toNat).ntfn.gen)]]) rfl (typeOf_ok Z.mo C.ent (a.irq ev.arg.toNat).ntfn (by have h8 := he.arg.1; have h9 := hI.ir ev.arg.toNat (by omega); omega) _ h41.inv.1.cp.st) ?_
    rintro _ w42 ⟨rfl, hf44⟩
    refine ⟨_, rfl, ?_⟩
    have h43 := (h41.grow hf44).put (d := some 115) (v := .int .u8 (typeOfP C.ent (a.irq ev.arg.toNat).ntfn)) (T' := [(115, .int .u8 (typeOfP C.ent (a.irq ev.arg.toNat).ntfn)), (114, .agg #[.int .u16 ((a.irq ev.arg.toNat).ntfn.idx), .int .u32 ((a.irq ev.arg.toNat).ntfn.gen)]), (106, .pointer (some ⟨Z.mo, 0, none⟩)), (5, .pointer (some ⟨b15, 0, none⟩)), (4, .pointer (some ⟨b8, 0, none⟩)), (3, .pointer (some ⟨b2, 0, none⟩)), (0, .pointer (some ⟨mb, 0, none⟩)), (1, .agg #[.int .u8 1, .int .u32 ev.pick, .int .u64 ev.draw, .int .u32 ev.addr, .int .u32 ev.node, .int .u32 ev.dst, .int .u32 ev.xfer, .int .u8 ev.ty, .int .u64 ev.arg, .int .u64 ev.badge, .slice xo ev.ws.length cx]), (113, .pointer (some ⟨mb, 15 + (ev.arg.toNat * 4), none⟩))]) rfl
    refine ⟨keepNil, ?_⟩
    clear h41
    refine dr_batch tabOk2 tabZ_ok2 (by repeat (first | with_reducible exact PF.body | with_reducible apply PF.inB | with_reducible apply PF.next)) [(13, {}), (14, {})] [5, 4, 3, 0, 1, 102] (T' := [(5, .pointer (some ⟨b15, 0, none⟩)), (4, .pointer (some ⟨b8, 0, none⟩)), (3, .pointer (some ⟨b2, 0, none⟩)), (0, .pointer (some ⟨mb, 0, none⟩)), (1, .agg #[.int .u8 1, .int .u32 ev.pick, .int .u64 ev.draw, .int .u32 ev.addr, .int .u32 ev.node, .int .u32 ev.dst, .int .u32 ev.xfer, .int .u8 ev.ty, .int .u64 ev.arg, .int .u64 ev.badge, .slice xo ev.ws.length cx]), (102, .bool ((typeOfP C.ent (a.irq ev.arg.toNat).ntfn) != 5))]) (φ := True) (fuel := 0) h43 (by kernel_rfl) rfl (by kernel_rfl) (by kernel_rfl) ⟨trivial, trivial, trivial⟩ trivial fun a45 h46 => ?_
    clear h43
    refine wpAnyK_done (by kernel_rfl) ?_ _
    refine hK32 _ _ ?_
    clear hK32
    refine c_split h46 (b := ((typeOfP C.ent (a.irq ev.arg.toNat).ntfn) != 5)) rfl (fun hc47 => ?_) (fun hc47 => ?_)
    ·
      have hc47f : (typeOfP C.ent (a.irq ev.arg.toNat).ntfn) ≠ 5 := by simpa using hc47
      refine nd_start (l := [0, 1]) rfl ?_
      refine nd_batch tabOk2 tabZ_ok2 [(0, {})] [5, 4, 3, 0, 1, 117] (T' := [(5, .pointer (some ⟨b15, 0, none⟩)), (4, .pointer (some ⟨b8, 0, none⟩)), (3, .pointer (some ⟨b2, 0, none⟩)), (0, .pointer (some ⟨mb, 0, none⟩)), (1, .agg #[.int .u8 1, .int .u32 ev.pick, .int .u64 ev.draw, .int .u32 ev.addr, .int .u32 ev.node, .int .u32 ev.dst, .int .u32 ev.xfer, .int .u8 ev.ty, .int .u64 ev.arg, .int .u64 ev.badge, .slice xo ev.ws.length cx]), (117, .pointer (some ⟨b15, 0, none⟩))]) (φ := True) (rest := [1]) h46 (by kernel_rfl) rfl trivial fun a48 h49 => ?_
      clear h46
      refine nd_op ?_
      refine op_store tabOk2 {k := 3} (L' := [(3, ⟨[.int .u16 0, .int .u32 0], ty3, true⟩), (b2, ⟨[.int .u8 1, .int .u32 ev.pick, .int .u64 ev.draw, .int .u32 ev.addr, .int .u32 ev.node, .int .u32 ev.dst, .int .u32 ev.xfer, .int .u8 ev.ty, .int .u64 ev.arg, .int .u64 ev.badge, .slice xo ev.ws.length cx], 35, false⟩), (b8, ⟨[.int .u8 0, .int .u16 0, .int .u32 0, .int .u64 0, .int .u64 0, .int .u64 0, .int .u64 0, .int .u64 0, .int .u8 0, .int .u8 0], 42, false⟩), (b15, ⟨[.int .u8 14, .int .u16 0, .int .u32 0, .int .u64 0, .int .u64 0, .int .u64 0, .int .u64 0, .int .u64 0, .int .u8 0, .int .u8 0], 42, false⟩)]) (φ := b15 = b15 ∧ Nat.ble (0 + 1) 10 = true) h49 rfl rfl rfl (by kernel_rfl) ⟨rfl, rfl⟩ fun w50 h51 => ?_
      clear h49
      refine nd_done ?_
      refine hK21 _ _ ?_
      clear hK21
      refine wp_seq_k fun K52 hK52 => ?_
      refine wp_seq_k fun K53 hK53 => ?_
      refine nd_start (l := [0, 1, 2]) rfl ?_
      refine nd_batch tabOk2 tabZ_ok2 [(0, {}), (1, {k := 3}), (2, {})] [5, 4, 3, 0, 1, 143] (T' := [(5, .pointer (some ⟨b15, 0, none⟩)), (4, .pointer (some ⟨b8, 0, none⟩)), (3, .pointer (some ⟨b2, 0, none⟩)), (0, .pointer (some ⟨mb, 0, none⟩)), (1, .agg #[.int .u8 1, .int .u32 ev.pick, .int .u64 ev.draw, .int .u32 ev.addr, .int .u32 ev.node, .int .u32 ev.dst, .int .u32 ev.xfer, .int .u8 ev.ty, .int .u64 ev.arg, .int .u64 ev.badge, .slice xo ev.ws.length cx]), (143, .bool false)]) (φ := (b15 = b15 ∧ Nat.ble (0 + 1) 10 = true) ∧ True) (rest := []) h51 (by kernel_rfl) rfl ⟨⟨rfl, rfl⟩, trivial⟩ fun a54 h55 => ?_
      clear h51
      refine nd_done ?_
      refine hK53 _ _ ?_
      clear hK53
      refine c_false h55 rfl ?_
      refine wp_skip ?_
      refine hK52 _ _ ?_
      clear hK52
      refine wp_seq_k fun K56 hK56 => ?_
      refine nd_start (l := [0, 1, 2, 3, 4, 5]) rfl ?_
      refine nd_batch tabOk2 tabZ_ok2 [(0, {}), (1, {}), (2, {})] [5, 4, 3, 0, 1, 150] (T' := [(5, .pointer (some ⟨b15, 0, none⟩)), (4, .pointer (some ⟨b8, 0, none⟩)), (3, .pointer (some ⟨b2, 0, none⟩)), (0, .pointer (some ⟨mb, 0, none⟩)), (1, .agg #[.int .u8 1, .int .u32 ev.pick, .int .u64 ev.draw, .int .u32 ev.addr, .int .u32 ev.node, .int .u32 ev.dst, .int .u32 ev.xfer, .int .u8 ev.ty, .int .u64 ev.arg, .int .u64 ev.badge, .slice xo ev.ws.length cx]), (150, .pointer (some ⟨mb, 13, none⟩))]) (φ := True) (rest := [3, 4, 5]) h55 (by kernel_rfl) rfl trivial fun a57 h58 => ?_
      clear h55
      refine nd_op ?_
      refine op_read (b := mb) (v := .agg #[.int .u16 ((curR Z a).idx), .int .u32 ((curR Z a).gen)]) h58 rfl rfl (rd_mA h58 (k := 13) (vs := [.int .u16 ((curR Z a).idx), .int .u32 ((curR Z a).gen)]) rfl rfl rfl rfl rfl md_cur) ?_
      have h59 := h58.put (d := some 151) (v := .agg #[.int .u16 ((curR Z a).idx), .int .u32 ((curR Z a).gen)]) (T' := [(151, .agg #[.int .u16 ((curR Z a).idx), .int .u32 ((curR Z a).gen)]), (5, .pointer (some ⟨b15, 0, none⟩)), (4, .pointer (some ⟨b8, 0, none⟩)), (3, .pointer (some ⟨b2, 0, none⟩)), (0, .pointer (some ⟨mb, 0, none⟩)), (1, .agg #[.int .u8 1, .int .u32 ev.pick, .int .u64 ev.draw, .int .u32 ev.addr, .int .u32 ev.node, .int .u32 ev.dst, .int .u32 ev.xfer, .int .u8 ev.ty, .int .u64 ev.arg, .int .u64 ev.badge, .slice xo ev.ws.length cx]), (150, .pointer (some ⟨mb, 13, none⟩))]) rfl
      clear h58
      refine nd_batch tabOk2 tabZ_ok2 [(4, {})] [151, 5, 4, 3, 0, 1, 152] (T' := [(151, .agg #[.int .u16 ((curR Z a).idx), .int .u32 ((curR Z a).gen)]), (5, .pointer (some ⟨b15, 0, none⟩)), (4, .pointer (some ⟨b8, 0, none⟩)), (3, .pointer (some ⟨b2, 0, none⟩)), (0, .pointer (some ⟨mb, 0, none⟩)), (1, .agg #[.int .u8 1, .int .u32 ev.pick, .int .u64 ev.draw, .int .u32 ev.addr, .int .u32 ev.node, .int .u32 ev.dst, .int .u32 ev.xfer, .int .u8 ev.ty, .int .u64 ev.arg, .int .u64 ev.badge, .slice xo ev.ws.length cx]), (152, .pointer (some ⟨b15, 1, none⟩))]) (φ := True) (rest := [5]) h59 (by kernel_rfl) rfl trivial fun a60 h61 => ?_
      clear h59
      refine nd_op ?_
      refine op_store tabOk2 {k := 3} (L' := [(3, ⟨[.int .u16 0, .int .u32 0], ty3, true⟩), (b2, ⟨[.int .u8 1, .int .u32 ev.pick, .int .u64 ev.draw, .int .u32 ev.addr, .int .u32 ev.node, .int .u32 ev.dst, .int .u32 ev.xfer, .int .u8 ev.ty, .int .u64 ev.arg, .int .u64 ev.badge, .slice xo ev.ws.length cx], 35, false⟩), (b8, ⟨[.int .u8 0, .int .u16 0, .int .u32 0, .int .u64 0, .int .u64 0, .int .u64 0, .int .u64 0, .int .u64 0, .int .u8 0, .int .u8 0], 42, false⟩), (b15, ⟨[.int .u8 14, .int .u16 ((curR Z a).idx), .int .u32 ((curR Z a).gen), .int .u64 0, .int .u64 0, .int .u64 0, .int .u64 0, .int .u64 0, .int .u8 0, .int .u8 0], 42, false⟩)]) (φ := b15 = b15 ∧ Nat.ble (1 + 2) 10 = true) h61 rfl rfl rfl (by kernel_rfl) ⟨rfl, rfl⟩ fun w62 h63 => ?_
      clear h61
      refine nd_done ?_
      refine hK56 _ _ ?_
      clear hK56
      refine wp_seq_k fun K64 hK64 => ?_
      refine nd_start (l := [0, 1]) rfl ?_
      refine nd_batch tabOk2 tabZ_ok2 [(0, {k := 3})] [5, 4, 3, 0, 1, 153] (T' := [(5, .pointer (some ⟨b15, 0, none⟩)), (4, .pointer (some ⟨b8, 0, none⟩)), (3, .pointer (some ⟨b2, 0, none⟩)), (0, .pointer (some ⟨mb, 0, none⟩)), (1, .agg #[.int .u8 1, .int .u32 ev.pick, .int .u64 ev.draw, .int .u32 ev.addr, .int .u32 ev.node, .int .u32 ev.dst, .int .u32 ev.xfer, .int .u8 ev.ty, .int .u64 ev.arg, .int .u64 ev.badge, .slice xo ev.ws.length cx]), (153, .agg #[.int .u8 14, .int .u16 ((curR Z a).idx), .int .u32 ((curR Z a).gen), .int .u64 0, .int .u64 0, .int .u64 0, .int .u64 0, .int .u64 0, .int .u8 0, .int .u8 0])]) (φ := (b15 = b15 ∧ Nat.ble (0 + 10) 10 = true) ∧ True) (rest := [1]) h63 (by kernel_rfl) rfl ⟨⟨rfl, rfl⟩, trivial⟩ fun a65 h66 => ?_
      clear h63
      refine nd_op ?_
      refine op_store tabOk2 {k := 2} (L' := [(3, ⟨[.int .u16 0, .int .u32 0], ty3, true⟩), (b2, ⟨[.int .u8 1, .int .u32 ev.pick, .int .u64 ev.draw, .int .u32 ev.addr, .int .u32 ev.node, .int .u32 ev.dst, .int .u32 ev.xfer, .int .u8 ev.ty, .int .u64 ev.arg, .int .u64 ev.badge, .slice xo ev.ws.length cx], 35, false⟩), (b8, ⟨[.int .u8 14, .int .u16 ((curR Z a).idx), .int .u32 ((curR Z a).gen), .int .u64 0, .int .u64 0, .int .u64 0, .int .u64 0, .int .u64 0, .int .u8 0, .int .u8 0], 42, false⟩), (b15, ⟨[.int .u8 14, .int .u16 ((curR Z a).idx), .int .u32 ((curR Z a).gen), .int .u64 0, .int .u64 0, .int .u64 0, .int .u64 0, .int .u64 0, .int .u8 0, .int .u8 0], 42, false⟩)]) (φ := b8 = b8 ∧ Nat.ble (0 + 10) 10 = true) h66 rfl rfl rfl (by kernel_rfl) ⟨rfl, rfl⟩ fun w67 h68 => ?_
      clear h66
      refine nd_done ?_
      refine hK64 _ _ ?_
      clear hK64
      refine wp_ret ?_
      try simp only [Exit.then, Exit.inBlock]
      try rw [if_pos trivial]
      exact s_ret tabOk2 tabZ_ok2 h68 [(.cell 4 42, {k := 2})] (vs := [.agg #[.int .u8 14, .int .u16 ((curR Z a).idx), .int .u32 ((curR Z a).gen), .int .u64 0, .int .u64 0, .int .u64 0, .int .u64 0, .int .u64 0, .int .u8 0, .int .u8 0]]) (φ := (b8 = b8 ∧ Nat.ble (0 + 10) 10 = true) ∧ True) rfl (by kernel_rfl) ⟨⟨rfl, rfl⟩, trivial⟩ (by exact ⟨_, _, rfl, mg_end hH h68 hho rfl, rfl⟩)
    ·
      have hc47f : (typeOfP C.ent (a.irq ev.arg.toNat).ntfn) = 5 := by simpa using hc47
      exact absurd (hty) (by first | exact hc47f | (intro hz; exact hc47f hz) | omega | simp_all)

theorem step1m (mb : Nat) (Z : MZ) (R : MR) (a : AK) (C : CP) (hI : MI Z a C) (ev : Ev) (he : EvOk ev) (xo : Option Addr) (cx : Nat) (hag : ¬ ev.arg ≥ 16) (nt : Rf) (bd : Int) (hirq : (a.irq ev.arg.toNat) = ⟨nt, bd, true⟩) (hty : typeOfP C.ent nt = 5) (hnt : 0 ≤ nt.idx ∧ nt.idx < 256) (w : World) (hH : MH mb Z R a C w) (hws : WordsAt (mdF mb Z R C) w xo ev.ws) :
    Calls Tryd.prog 15 #[.pointer (some ⟨mb, 0, none⟩), .agg #[.int .u8 1, .int .u32 ev.pick, .int .u64 ev.draw, .int .u32 ev.addr, .int .u32 ev.node, .int .u32 ev.dst, .int .u32 ev.xfer, .int .u8 ev.ty, .int .u64 ev.arg, .int .u64 ev.badge, .slice xo ev.ws.length cx]] w fun e w' => ∃ Z' R', e = .returned (.agg #[.int .u8 15, .int .u16 ((curR Z' a).idx), .int .u32 ((curR Z' a).gen), .int .u64 0, .int .u64 0, .int .u64 0, .int .u64 0, .int .u64 0, .int .u8 0, .int .u8 0]) ∧ MG mb Z R C w Z' R' a C w' ∧ Z' = Z := by
  have hP := hI.mp
  obtain ⟨ty3, hg3⟩ := hH.g3
  have hho := hH.ho
  have hkk := hH.md.k
  refine enter (n := 154) (K := mdF mb Z R C) (A := MD (mdF mb Z R C) w.heap.size mb Z R a C) (F := mdF mb Z R C) (T := [(0, .pointer (some ⟨mb, 0, none⟩)), (1, .agg #[.int .u8 1, .int .u32 ev.pick, .int .u64 ev.draw, .int .u32 ev.addr, .int .u32 ev.node, .int .u32 ev.dst, .int .u32 ev.xfer, .int .u8 ev.ty, .int .u64 ev.arg, .int .u64 ev.badge, .slice xo ev.ws.length cx])]) (L := [(3, ⟨[.int .u16 0, .int .u32 0], ty3, true⟩)]) (args := [.pointer (some ⟨mb, 0, none⟩), .agg #[.int .u8 1, .int .u32 ev.pick, .int .u64 ev.draw, .int .u32 ev.addr, .int .u32 ev.node, .int .u32 ev.dst, .int .u32 ev.xfer, .int .u8 ev.ty, .int .u64 ev.arg, .int .u64 ev.badge, .slice xo ev.ws.length cx]]) Tryd.func15 rfl rfl rfl rfl (kcons hg3 knil) (by simp) (kcons (by intro hq; cases hq) knil) hH.mD MD.stable hH.md.low (kcons (by intro hq; cases hq) knil) ?_
  intro ac h
  refine wp_seq_k fun K1 hK1 => ?_
  refine nd_start (l := [0, 1]) rfl ?_
  refine nd_op ?_
  refine op_new tabOk2 (cells := [.int .u8 1, .int .u32 ev.pick, .int .u64 ev.draw, .int .u32 ev.addr, .int .u32 ev.node, .int .u32 ev.dst, .int .u32 ev.xfer, .int .u8 ev.ty, .int .u64 ev.arg, .int .u64 ev.badge, .slice xo ev.ws.length cx]) (ty := 35) (ln := none) (L1 := fun b2 => [(3, ⟨[.int .u16 0, .int .u32 0], ty3, true⟩), (b2, ⟨[.int .u8 1, .int .u32 ev.pick, .int .u64 ev.draw, .int .u32 ev.addr, .int .u32 ev.node, .int .u32 ev.dst, .int .u32 ev.xfer, .int .u8 ev.ty, .int .u64 ev.arg, .int .u64 ev.badge, .slice xo ev.ws.length cx], 35, false⟩)]) h rfl rfl rfl rfl (by kernel_rfl) (fun _ => rfl) fun b2 w3 a4 h5 hf6 hn7 => ?_
  clear h
  refine nd_op ?_
  refine op_new tabOk2 (cells := [.int .u8 0, .int .u16 0, .int .u32 0, .int .u64 0, .int .u64 0, .int .u64 0, .int .u64 0, .int .u64 0, .int .u8 0, .int .u8 0]) (ty := 42) (ln := none) (L1 := fun b8 => [(3, ⟨[.int .u16 0, .int .u32 0], ty3, true⟩), (b2, ⟨[.int .u8 1, .int .u32 ev.pick, .int .u64 ev.draw, .int .u32 ev.addr, .int .u32 ev.node, .int .u32 ev.dst, .int .u32 ev.xfer, .int .u8 ev.ty, .int .u64 ev.arg, .int .u64 ev.badge, .slice xo ev.ws.length cx], 35, false⟩), (b8, ⟨[.int .u8 0, .int .u16 0, .int .u32 0, .int .u64 0, .int .u64 0, .int .u64 0, .int .u64 0, .int .u64 0, .int .u8 0, .int .u8 0], 42, false⟩)]) h5 rfl rfl rfl rfl (by kernel_rfl) (fun _ => rfl) fun b8 w9 a10 h11 hf12 hn13 => ?_
  clear h5
  refine nd_done ?_
  refine hK1 _ _ ?_
  clear hK1
  refine wp_seq_k fun K14 hK14 => ?_
  refine nd_start (l := [0]) rfl ?_
  refine nd_op ?_
  refine op_new tabOk2 (cells := [.int .u8 0, .int .u16 0, .int .u32 0, .int .u64 0, .int .u64 0, .int .u64 0, .int .u64 0, .int .u64 0, .int .u8 0, .int .u8 0]) (ty := 42) (ln := none) (L1 := fun b15 => [(3, ⟨[.int .u16 0, .int .u32 0], ty3, true⟩), (b2, ⟨[.int .u8 1, .int .u32 ev.pick, .int .u64 ev.draw, .int .u32 ev.addr, .int .u32 ev.node, .int .u32 ev.dst, .int .u32 ev.xfer, .int .u8 ev.ty, .int .u64 ev.arg, .int .u64 ev.badge, .slice xo ev.ws.length cx], 35, false⟩), (b8, ⟨[.int .u8 0, .int .u16 0, .int .u32 0, .int .u64 0, .int .u64 0, .int .u64 0, .int .u64 0, .int .u64 0, .int .u8 0, .int .u8 0], 42, false⟩), (b15, ⟨[.int .u8 0, .int .u16 0, .int .u32 0, .int .u64 0, .int .u64 0, .int .u64 0, .int .u64 0, .int .u64 0, .int .u8 0, .int .u8 0], 42, false⟩)]) h11 rfl rfl rfl rfl (by kernel_rfl) (fun _ => rfl) fun b15 w16 a17 h18 hf19 hn20 => ?_
  clear h11
  refine nd_done ?_
  refine hK14 _ _ ?_
  clear hK14
  refine wp_seq_k fun K21 hK21 => ?_
  refine wp_block ?_
  refine wp_seq_k fun K22 hK22 => ?_
  refine nd_start (l := [0, 1, 2, 3]) rfl ?_
  refine nd_batch tabOk2 tabZ_ok2 [(0, {}), (1, {k := 1}), (2, {}), (3, {})] [5, 4, 3, 0, 1, 45] (T' := [(5, .pointer (some ⟨b15, 0, none⟩)), (4, .pointer (some ⟨b8, 0, none⟩)), (3, .pointer (some ⟨b2, 0, none⟩)), (0, .pointer (some ⟨mb, 0, none⟩)), (1, .agg #[.int .u8 1, .int .u32 ev.pick, .int .u64 ev.draw, .int .u32 ev.addr, .int .u32 ev.node, .int .u32 ev.dst, .int .u32 ev.xfer, .int .u8 ev.ty, .int .u64 ev.arg, .int .u64 ev.badge, .slice xo ev.ws.length cx]), (45, .bool false)]) (φ := (b2 = b2 ∧ Nat.ble (0 + 1) 11 = true) ∧ True) (rest := []) h18 (by kernel_rfl) rfl ⟨⟨rfl, rfl⟩, trivial⟩ fun a23 h24 => ?_
  clear h18
  refine nd_done ?_
  refine hK22 _ _ ?_
  clear hK22
  refine c_false h24 rfl ?_
  refine wp_seq_k fun K25 hK25 => ?_
  refine nd_start (l := [0, 1, 2, 3]) rfl ?_
  refine nd_batch tabOk2 tabZ_ok2 [(0, {}), (1, {k := 1}), (2, {}), (3, {})] [5, 4, 3, 0, 1, 68] (T' := [(5, .pointer (some ⟨b15, 0, none⟩)), (4, .pointer (some ⟨b8, 0, none⟩)), (3, .pointer (some ⟨b2, 0, none⟩)), (0, .pointer (some ⟨mb, 0, none⟩)), (1, .agg #[.int .u8 1, .int .u32 ev.pick, .int .u64 ev.draw, .int .u32 ev.addr, .int .u32 ev.node, .int .u32 ev.dst, .int .u32 ev.xfer, .int .u8 ev.ty, .int .u64 ev.arg, .int .u64 ev.badge, .slice xo ev.ws.length cx]), (68, .bool true)]) (φ := (b2 = b2 ∧ Nat.ble (0 + 1) 11 = true) ∧ True) (rest := []) h24 (by kernel_rfl) rfl ⟨⟨rfl, rfl⟩, trivial⟩ fun a26 h27 => ?_
  clear h24
  refine nd_done ?_
  refine hK25 _ _ ?_
  clear hK25
  refine c_true h27 rfl ?_
  refine wp_block ?_
  refine wp_seq_k fun K28 hK28 => ?_
  refine nd_start (l := [0, 1, 2, 3]) rfl ?_
  refine nd_batch tabOk2 tabZ_ok2 [(0, {}), (1, {k := 1}), (2, {}), (3, {})] [5, 4, 3, 0, 1, 97] (T' := [(5, .pointer (some ⟨b15, 0, none⟩)), (4, .pointer (some ⟨b8, 0, none⟩)), (3, .pointer (some ⟨b2, 0, none⟩)), (0, .pointer (some ⟨mb, 0, none⟩)), (1, .agg #[.int .u8 1, .int .u32 ev.pick, .int .u64 ev.draw, .int .u32 ev.addr, .int .u32 ev.node, .int .u32 ev.dst, .int .u32 ev.xfer, .int .u8 ev.ty, .int .u64 ev.arg, .int .u64 ev.badge, .slice xo ev.ws.length cx]), (97, .bool (decide (ev.arg ≥ 16)))]) (φ := (b2 = b2 ∧ Nat.ble (8 + 1) 11 = true) ∧ True) (rest := []) h27 (by kernel_rfl) rfl ⟨⟨rfl, rfl⟩, trivial⟩ fun a29 h30 => ?_
  clear h27
  refine nd_done ?_
  refine hK28 _ _ ?_
  clear hK28
  refine c_split h30 (b := decide (ev.arg ≥ 16)) rfl (fun hc31 => ?_) (fun hc31 => ?_)
  ·
    have hc31f : ev.arg ≥ 16 := by simpa using hc31
    exact absurd (hag) (by first | exact hc31f | (intro hz; exact hc31f hz) | omega | simp_all)
  ·
    have hc31f : ¬ ev.arg ≥ 16 := by simpa using hc31
    refine wp_seq_k fun K32 hK32 => ?_
    refine dr_start (KB := [3, b2, b8, b15, mb]) (Bi := [[0, 1, 2, 3, 4], [0, 1, 2, 3, 4], [0, 1, 2, 3, 4], [0, 1, 2, 3, 4], [0, 1, 2, 3, 4], [0, 1, 2, 3, 4], [0, 1, 2, 3, 4], [0, 1, 2, 3, 4], [0, 1, 2, 3, 4], [0, 1, 2, 3, 4], [0, 1, 2, 3, 4], [0, 1, 2, 3, 4], [], [0, 1, 2, 3, 4], [0, 1, 2, 3, 4]]) mixed h30 fun w33 h34 => ?_
    clear h30
    refine dr_batch tabOk2 tabZ_ok2 (by repeat (first | with_reducible exact PF.body | with_reducible apply PF.inB | with_reducible apply PF.next)) [(0, {}), (1, {}), (2, {})] [5, 4, 3, 0, 1, 105] (T' := [(5, .pointer (some ⟨b15, 0, none⟩)), (4, .pointer (some ⟨b8, 0, none⟩)), (3, .pointer (some ⟨b2, 0, none⟩)), (0, .pointer (some ⟨mb, 0, none⟩)), (1, .agg #[.int .u8 1, .int .u32 ev.pick, .int .u64 ev.draw, .int .u32 ev.addr, .int .u32 ev.node, .int .u32 ev.dst, .int .u32 ev.xfer, .int .u8 ev.ty, .int .u64 ev.arg, .int .u64 ev.badge, .slice xo ev.ws.length cx]), (105, .pointer (some ⟨mb, 0, none⟩))]) (φ := True) (fuel := 12) h34 (by kernel_rfl) rfl (by kernel_rfl) (by kernel_rfl) ⟨trivial, trivial, trivial, trivial⟩ trivial fun a36 h37 => ?_
    clear h34
    refine dr_read (i := 3) (b := mb) (p := 4) (v := .pointer (some ⟨Z.mo, 0, none⟩)) (fuel := 11) (by repeat (first | with_reducible exact PF.body | with_reducible apply PF.inB | with_reducible apply PF.next)) h37 rfl rfl rfl (by kernel_rfl) (by kernel_rfl) (by kernel_rfl) rfl (rd_m h37 (k := 0) (v := .pointer (some ⟨Z.mo, 0, none⟩)) rfl rfl rfl rfl (md_p ⟨rfl, trivial⟩)) ?_
    have h38 := h37.put (d := some 106) (v := .pointer (some ⟨Z.mo, 0, none⟩)) (T' := [(106, .pointer (some ⟨Z.mo, 0, none⟩)), (5, .pointer (some ⟨b15, 0, none⟩)), (4, .pointer (some ⟨b8, 0, none⟩)), (3, .pointer (some ⟨b2, 0, none⟩)), (0, .pointer (some ⟨mb, 0, none⟩)), (1, .agg #[.int .u8 1, .int .u32 ev.pick, .int .u64 ev.draw, .int .u32 ev.addr, .int .u32 ev.node, .int .u32 ev.dst, .int .u32 ev.xfer, .int .u8 ev.ty, .int .u64 ev.arg, .int .u64 ev.badge, .slice xo ev.ws.length cx]), (105, .pointer (some ⟨mb, 0, none⟩))]) rfl
    clear h37
    refine dr_batch tabOk2 tabZ_ok2 (by repeat (first | with_reducible exact PF.body | with_reducible apply PF.inB | with_reducible apply PF.next)) [(4, {}), (5, {}), (6, {k := 1, p := 1}), (7, {}), (8, {}), (9, {}), (10, {})] [106, 5, 4, 3, 0, 1, 113] (T' := [(106, .pointer (some ⟨Z.mo, 0, none⟩)), (5, .pointer (some ⟨b15, 0, none⟩)), (4, .pointer (some ⟨b8, 0, none⟩)), (3, .pointer (some ⟨b2, 0, none⟩)), (0, .pointer (some ⟨mb, 0, none⟩)), (1, .agg #[.int .u8 1, .int .u32 ev.pick, .int .u64 ev.draw, .int .u32 ev.addr, .int .u32 ev.node, .int .u32 ev.dst, .int .u32 ev.xfer, .int .u8 ev.ty, .int .u64 ev.arg, .int .u64 ev.badge, .slice xo ev.ws.length cx]), (113, .pointer (some ⟨mb, 15 + (ev.arg.toNat * 4), none⟩))]) (φ := (b2 = b2 ∧ Nat.ble (8 + 1) 11 = true) ∧ (0 ≤ ev.arg ∧ ev.arg < 16) ∧ True) (fuel := 4) h38 (by kernel_rfl) rfl (by kernel_rfl) (by kernel_rfl) ⟨trivial, trivial, rfl, trivial, trivial, trivial, trivial, trivial⟩ ⟨⟨rfl, rfl⟩, ⟨by have := he.arg.1; omega, by omega⟩, trivial⟩ fun a39 h40 => ?_
    clear h38
    refine dr_read (i := 11) (b := mb) (p := 4) (v := .agg #[.int .u16 nt.idx, .int .u32 nt.gen]) (fuel := 3) (by repeat (first | with_reducible exact PF.body | with_reducible apply PF.inB | with_reducible apply PF.next)) h40 rfl rfl rfl (by kernel_rfl) (by kernel_rfl) (by kernel_rfl) rfl (rd_mA h40 (k := 15 + (ev.arg.toNat * 4)) (vs := [.int .u16 nt.idx, .int .u32 nt.gen]) rfl rfl rfl rfl rfl (md_irq (i := ev.arg.toNat) (k := 0) (by have := he.arg.1; omega) (by omega) (by rw [hirq]; exact ⟨rfl, rfl, trivial⟩))) ?_
    have h41 := h40.put (d := some 114) (v := .agg #[.int .u16 nt.idx, .int .u32 nt.gen]) (T' := [(114, .agg #[.int .u16 nt.idx, .int .u32 nt.gen]), (106, .pointer (some ⟨Z.mo, 0, none⟩)), (5, .pointer (some ⟨b15, 0, none⟩)), (4, .pointer (some ⟨b8, 0, none⟩)), (3, .pointer (some ⟨b2, 0, none⟩)), (0, .pointer (some ⟨mb, 0, none⟩)), (1, .agg #[.int .u8 1, .int .u32 ev.pick, .int .u64 ev.draw, .int .u32 ev.addr, .int .u32 ev.node, .int .u32 ev.dst, .int .u32 ev.xfer, .int .u8 ev.ty, .int .u64 ev.arg, .int .u64 ev.badge, .slice xo ev.ws.length cx]), (113, .pointer (some ⟨mb, 15 + (ev.arg.toNat * 4), none⟩))]) rfl
    clear h40
    refine wpAnyK_one (i := 12) (fuel := 2) (by kernel_rfl) ?_
    refine op_call h41 rfl rfl rfl (callOk Tryd.func53 (by decide) rfl) (args := [.pointer (some ⟨Z.mo, 0, none⟩), .agg #[.int .u16 nt.idx, .int .u32 nt.gen]]) rfl (by have h9 := typeOf_ok Z.mo C.ent nt (by omega) _ h41.inv.1.cp.st; rw [hty] at h9; exact h9) ?_
    rintro _ w42 ⟨rfl, hf44⟩
    refine ⟨_, rfl, ?_⟩
    have h43 := (h41.grow hf44).put (d := some 115) (v := .int .u8 5) (T' := [(115, .int .u8 5), (114, .agg #[.int .u16 nt.idx, .int .u32 nt.gen]), (106, .pointer (some ⟨Z.mo, 0, none⟩)), (5, .pointer (some ⟨b15, 0, none⟩)), (4, .pointer (some ⟨b8, 0, none⟩)), (3, .pointer (some ⟨b2, 0, none⟩)), (0, .pointer (some ⟨mb, 0, none⟩)), (1, .agg #[.int .u8 1, .int .u32 ev.pick, .int .u64 ev.draw, .int .u32 ev.addr, .int .u32 ev.node, .int .u32 ev.dst, .int .u32 ev.xfer, .int .u8 ev.ty, .int .u64 ev.arg, .int .u64 ev.badge, .slice xo ev.ws.length cx]), (113, .pointer (some ⟨mb, 15 + (ev.arg.toNat * 4), none⟩))]) rfl
    refine ⟨keepNil, ?_⟩
    clear h41
    refine dr_batch tabOk2 tabZ_ok2 (by repeat (first | with_reducible exact PF.body | with_reducible apply PF.inB | with_reducible apply PF.next)) [(13, {}), (14, {})] [5, 4, 3, 0, 1, 102] (T' := [(5, .pointer (some ⟨b15, 0, none⟩)), (4, .pointer (some ⟨b8, 0, none⟩)), (3, .pointer (some ⟨b2, 0, none⟩)), (0, .pointer (some ⟨mb, 0, none⟩)), (1, .agg #[.int .u8 1, .int .u32 ev.pick, .int .u64 ev.draw, .int .u32 ev.addr, .int .u32 ev.node, .int .u32 ev.dst, .int .u32 ev.xfer, .int .u8 ev.ty, .int .u64 ev.arg, .int .u64 ev.badge, .slice xo ev.ws.length cx]), (102, .bool false)]) (φ := True) (fuel := 0) h43 (by kernel_rfl) rfl (by kernel_rfl) (by kernel_rfl) ⟨trivial, trivial, trivial⟩ trivial fun a45 h46 => ?_
    clear h43
    refine wpAnyK_done (by kernel_rfl) ?_ _
    refine hK32 _ _ ?_
    clear hK32
    refine c_false h46 rfl ?_
    refine wp_seq_k fun K47 hK47 => ?_
    refine dr_start (KB := [3, b2, b8, b15, mb]) (Bi := [[0, 1, 2, 3, 4], [0, 1, 2, 3, 4], [0, 1, 2, 3, 4], [0, 1, 2, 3, 4], [0, 1, 2, 3, 4], [0, 1, 2, 3, 4], [0, 1, 2, 3, 4], [0, 1, 2, 3, 4], [0, 1, 2, 3, 4]]) mixed h46 fun w48 h49 => ?_
    clear h46
    refine dr_batch tabOk2 tabZ_ok2 (by repeat (first | with_reducible exact PF.body | with_reducible apply PF.inB | with_reducible apply PF.next)) [(0, {}), (1, {}), (2, {k := 1, p := 1}), (3, {}), (4, {}), (5, {}), (6, {})] [5, 4, 3, 0, 1, 125] (T' := [(5, .pointer (some ⟨b15, 0, none⟩)), (4, .pointer (some ⟨b8, 0, none⟩)), (3, .pointer (some ⟨b2, 0, none⟩)), (0, .pointer (some ⟨mb, 0, none⟩)), (1, .agg #[.int .u8 1, .int .u32 ev.pick, .int .u64 ev.draw, .int .u32 ev.addr, .int .u32 ev.node, .int .u32 ev.dst, .int .u32 ev.xfer, .int .u8 ev.ty, .int .u64 ev.arg, .int .u64 ev.badge, .slice xo ev.ws.length cx]), (125, .pointer (some ⟨mb, 15 + (ev.arg.toNat * 4) + 3, none⟩))]) (φ := (b2 = b2 ∧ Nat.ble (8 + 1) 11 = true) ∧ (0 ≤ ev.arg ∧ ev.arg < 16) ∧ True) (fuel := 2) h49 (by kernel_rfl) rfl (by kernel_rfl) (by kernel_rfl) ⟨trivial, trivial, rfl, trivial, trivial, trivial, trivial, trivial⟩ ⟨⟨rfl, rfl⟩, ⟨by have := he.arg.1; omega, by omega⟩, trivial⟩ fun a51 h52 => ?_
    clear h49
    refine dr_read (i := 7) (b := mb) (p := 4) (v := .bool true) (fuel := 1) (by repeat (first | with_reducible exact PF.body | with_reducible apply PF.inB | with_reducible apply PF.next)) h52 rfl rfl rfl (by kernel_rfl) (by kernel_rfl) (by kernel_rfl) rfl (rd_m h52 (k := 15 + (ev.arg.toNat * 4) + 3) (v := .bool true) rfl rfl rfl rfl (md_irq (i := ev.arg.toNat) (k := 3) (by have := he.arg.1; omega) (by omega) (by rw [hirq]; exact ⟨rfl, trivial⟩))) ?_
    have h53 := h52.put (d := some 126) (v := .bool true) (T' := [(126, .bool true), (5, .pointer (some ⟨b15, 0, none⟩)), (4, .pointer (some ⟨b8, 0, none⟩)), (3, .pointer (some ⟨b2, 0, none⟩)), (0, .pointer (some ⟨mb, 0, none⟩)), (1, .agg #[.int .u8 1, .int .u32 ev.pick, .int .u64 ev.draw, .int .u32 ev.addr, .int .u32 ev.node, .int .u32 ev.dst, .int .u32 ev.xfer, .int .u8 ev.ty, .int .u64 ev.arg, .int .u64 ev.badge, .slice xo ev.ws.length cx]), (125, .pointer (some ⟨mb, 15 + (ev.arg.toNat * 4) + 3, none⟩))]) rfl
    clear h52
    refine dr_batch tabOk2 tabZ_ok2 (by repeat (first | with_reducible exact PF.body | with_reducible apply PF.inB | with_reducible apply PF.next)) [(8, {})] [5, 4, 3, 0, 1, 118] (T' := [(5, .pointer (some ⟨b15, 0, none⟩)), (4, .pointer (some ⟨b8, 0, none⟩)), (3, .pointer (some ⟨b2, 0, none⟩)), (0, .pointer (some ⟨mb, 0, none⟩)), (1, .agg #[.int .u8 1, .int .u32 ev.pick, .int .u64 ev.draw, .int .u32 ev.addr, .int .u32 ev.node, .int .u32 ev.dst, .int .u32 ev.xfer, .int .u8 ev.ty, .int .u64 ev.arg, .int .u64 ev.badge, .slice xo ev.ws.length cx]), (118, .bool true)]) (φ := True) (fuel := 0) h53 (by kernel_rfl) rfl (by kernel_rfl) (by kernel_rfl) ⟨trivial, trivial⟩ trivial fun a54 h55 => ?_
    clear h53
    refine wpAnyK_done (by kernel_rfl) ?_ _
    refine hK47 _ _ ?_
    clear hK47
    refine c_true h55 rfl ?_
    refine nd_start (l := [0, 1]) rfl ?_
    refine nd_batch tabOk2 tabZ_ok2 [(0, {})] [5, 4, 3, 0, 1, 127] (T' := [(5, .pointer (some ⟨b15, 0, none⟩)), (4, .pointer (some ⟨b8, 0, none⟩)), (3, .pointer (some ⟨b2, 0, none⟩)), (0, .pointer (some ⟨mb, 0, none⟩)), (1, .agg #[.int .u8 1, .int .u32 ev.pick, .int .u64 ev.draw, .int .u32 ev.addr, .int .u32 ev.node, .int .u32 ev.dst, .int .u32 ev.xfer, .int .u8 ev.ty, .int .u64 ev.arg, .int .u64 ev.badge, .slice xo ev.ws.length cx]), (127, .pointer (some ⟨b15, 0, none⟩))]) (φ := True) (rest := [1]) h55 (by kernel_rfl) rfl trivial fun a56 h57 => ?_
    clear h55
    refine nd_op ?_
    refine op_store tabOk2 {k := 3} (L' := [(3, ⟨[.int .u16 0, .int .u32 0], ty3, true⟩), (b2, ⟨[.int .u8 1, .int .u32 ev.pick, .int .u64 ev.draw, .int .u32 ev.addr, .int .u32 ev.node, .int .u32 ev.dst, .int .u32 ev.xfer, .int .u8 ev.ty, .int .u64 ev.arg, .int .u64 ev.badge, .slice xo ev.ws.length cx], 35, false⟩), (b8, ⟨[.int .u8 0, .int .u16 0, .int .u32 0, .int .u64 0, .int .u64 0, .int .u64 0, .int .u64 0, .int .u64 0, .int .u8 0, .int .u8 0], 42, false⟩), (b15, ⟨[.int .u8 15, .int .u16 0, .int .u32 0, .int .u64 0, .int .u64 0, .int .u64 0, .int .u64 0, .int .u64 0, .int .u8 0, .int .u8 0], 42, false⟩)]) (φ := b15 = b15 ∧ Nat.ble (0 + 1) 10 = true) h57 rfl rfl rfl (by kernel_rfl) ⟨rfl, rfl⟩ fun w58 h59 => ?_
    clear h57
    refine nd_done ?_
    refine hK21 _ _ ?_
    clear hK21
    refine wp_seq_k fun K60 hK60 => ?_
    refine wp_seq_k fun K61 hK61 => ?_
    refine nd_start (l := [0, 1, 2]) rfl ?_
    refine nd_batch tabOk2 tabZ_ok2 [(0, {}), (1, {k := 3}), (2, {})] [5, 4, 3, 0, 1, 143] (T' := [(5, .pointer (some ⟨b15, 0, none⟩)), (4, .pointer (some ⟨b8, 0, none⟩)), (3, .pointer (some ⟨b2, 0, none⟩)), (0, .pointer (some ⟨mb, 0, none⟩)), (1, .agg #[.int .u8 1, .int .u32 ev.pick, .int .u64 ev.draw, .int .u32 ev.addr, .int .u32 ev.node, .int .u32 ev.dst, .int .u32 ev.xfer, .int .u8 ev.ty, .int .u64 ev.arg, .int .u64 ev.badge, .slice xo ev.ws.length cx]), (143, .bool false)]) (φ := (b15 = b15 ∧ Nat.ble (0 + 1) 10 = true) ∧ True) (rest := []) h59 (by kernel_rfl) rfl ⟨⟨rfl, rfl⟩, trivial⟩ fun a62 h63 => ?_
    clear h59
    refine nd_done ?_
    refine hK61 _ _ ?_
    clear hK61
    refine c_false h63 rfl ?_
    refine wp_skip ?_
    refine hK60 _ _ ?_
    clear hK60
    refine wp_seq_k fun K64 hK64 => ?_
    refine nd_start (l := [0, 1, 2, 3, 4, 5]) rfl ?_
    refine nd_batch tabOk2 tabZ_ok2 [(0, {}), (1, {}), (2, {})] [5, 4, 3, 0, 1, 150] (T' := [(5, .pointer (some ⟨b15, 0, none⟩)), (4, .pointer (some ⟨b8, 0, none⟩)), (3, .pointer (some ⟨b2, 0, none⟩)), (0, .pointer (some ⟨mb, 0, none⟩)), (1, .agg #[.int .u8 1, .int .u32 ev.pick, .int .u64 ev.draw, .int .u32 ev.addr, .int .u32 ev.node, .int .u32 ev.dst, .int .u32 ev.xfer, .int .u8 ev.ty, .int .u64 ev.arg, .int .u64 ev.badge, .slice xo ev.ws.length cx]), (150, .pointer (some ⟨mb, 13, none⟩))]) (φ := True) (rest := [3, 4, 5]) h63 (by kernel_rfl) rfl trivial fun a65 h66 => ?_
    clear h63
    refine nd_op ?_
    refine op_read (b := mb) (v := .agg #[.int .u16 ((curR Z a).idx), .int .u32 ((curR Z a).gen)]) h66 rfl rfl (rd_mA h66 (k := 13) (vs := [.int .u16 ((curR Z a).idx), .int .u32 ((curR Z a).gen)]) rfl rfl rfl rfl rfl md_cur) ?_
    have h67 := h66.put (d := some 151) (v := .agg #[.int .u16 ((curR Z a).idx), .int .u32 ((curR Z a).gen)]) (T' := [(151, .agg #[.int .u16 ((curR Z a).idx), .int .u32 ((curR Z a).gen)]), (5, .pointer (some ⟨b15, 0, none⟩)), (4, .pointer (some ⟨b8, 0, none⟩)), (3, .pointer (some ⟨b2, 0, none⟩)), (0, .pointer (some ⟨mb, 0, none⟩)), (1, .agg #[.int .u8 1, .int .u32 ev.pick, .int .u64 ev.draw, .int .u32 ev.addr, .int .u32 ev.node, .int .u32 ev.dst, .int .u32 ev.xfer, .int .u8 ev.ty, .int .u64 ev.arg, .int .u64 ev.badge, .slice xo ev.ws.length cx]), (150, .pointer (some ⟨mb, 13, none⟩))]) rfl
    clear h66
    refine nd_batch tabOk2 tabZ_ok2 [(4, {})] [151, 5, 4, 3, 0, 1, 152] (T' := [(151, .agg #[.int .u16 ((curR Z a).idx), .int .u32 ((curR Z a).gen)]), (5, .pointer (some ⟨b15, 0, none⟩)), (4, .pointer (some ⟨b8, 0, none⟩)), (3, .pointer (some ⟨b2, 0, none⟩)), (0, .pointer (some ⟨mb, 0, none⟩)), (1, .agg #[.int .u8 1, .int .u32 ev.pick, .int .u64 ev.draw, .int .u32 ev.addr, .int .u32 ev.node, .int .u32 ev.dst, .int .u32 ev.xfer, .int .u8 ev.ty, .int .u64 ev.arg, .int .u64 ev.badge, .slice xo ev.ws.length cx]), (152, .pointer (some ⟨b15, 1, none⟩))]) (φ := True) (rest := [5]) h67 (by kernel_rfl) rfl trivial fun a68 h69 => ?_
    clear h67
    refine nd_op ?_
    refine op_store tabOk2 {k := 3} (L' := [(3, ⟨[.int .u16 0, .int .u32 0], ty3, true⟩), (b2, ⟨[.int .u8 1, .int .u32 ev.pick, .int .u64 ev.draw, .int .u32 ev.addr, .int .u32 ev.node, .int .u32 ev.dst, .int .u32 ev.xfer, .int .u8 ev.ty, .int .u64 ev.arg, .int .u64 ev.badge, .slice xo ev.ws.length cx], 35, false⟩), (b8, ⟨[.int .u8 0, .int .u16 0, .int .u32 0, .int .u64 0, .int .u64 0, .int .u64 0, .int .u64 0, .int .u64 0, .int .u8 0, .int .u8 0], 42, false⟩), (b15, ⟨[.int .u8 15, .int .u16 ((curR Z a).idx), .int .u32 ((curR Z a).gen), .int .u64 0, .int .u64 0, .int .u64 0, .int .u64 0, .int .u64 0, .int .u8 0, .int .u8 0], 42, false⟩)]) (φ := b15 = b15 ∧ Nat.ble (1 + 2) 10 = true) h69 rfl rfl rfl (by kernel_rfl) ⟨rfl, rfl⟩ fun w70 h71 => ?_
    clear h69
    refine nd_done ?_
    refine hK64 _ _ ?_
    clear hK64
    refine wp_seq_k fun K72 hK72 => ?_
    refine nd_start (l := [0, 1]) rfl ?_
    refine nd_batch tabOk2 tabZ_ok2 [(0, {k := 3})] [5, 4, 3, 0, 1, 153] (T' := [(5, .pointer (some ⟨b15, 0, none⟩)), (4, .pointer (some ⟨b8, 0, none⟩)), (3, .pointer (some ⟨b2, 0, none⟩)), (0, .pointer (some ⟨mb, 0, none⟩)), (1, .agg #[.int .u8 1, .int .u32 ev.pick, .int .u64 ev.draw, .int .u32 ev.addr, .int .u32 ev.node, .int .u32 ev.dst, .int .u32 ev.xfer, .int .u8 ev.ty, .int .u64 ev.arg, .int .u64 ev.badge, .slice xo ev.ws.length cx]), (153, .agg #[.int .u8 15, .int .u16 ((curR Z a).idx), .int .u32 ((curR Z a).gen), .int .u64 0, .int .u64 0, .int .u64 0, .int .u64 0, .int .u64 0, .int .u8 0, .int .u8 0])]) (φ := (b15 = b15 ∧ Nat.ble (0 + 10) 10 = true) ∧ True) (rest := [1]) h71 (by kernel_rfl) rfl ⟨⟨rfl, rfl⟩, trivial⟩ fun a73 h74 => ?_
    clear h71
    refine nd_op ?_
    refine op_store tabOk2 {k := 2} (L' := [(3, ⟨[.int .u16 0, .int .u32 0], ty3, true⟩), (b2, ⟨[.int .u8 1, .int .u32 ev.pick, .int .u64 ev.draw, .int .u32 ev.addr, .int .u32 ev.node, .int .u32 ev.dst, .int .u32 ev.xfer, .int .u8 ev.ty, .int .u64 ev.arg, .int .u64 ev.badge, .slice xo ev.ws.length cx], 35, false⟩), (b8, ⟨[.int .u8 15, .int .u16 ((curR Z a).idx), .int .u32 ((curR Z a).gen), .int .u64 0, .int .u64 0, .int .u64 0, .int .u64 0, .int .u64 0, .int .u8 0, .int .u8 0], 42, false⟩), (b15, ⟨[.int .u8 15, .int .u16 ((curR Z a).idx), .int .u32 ((curR Z a).gen), .int .u64 0, .int .u64 0, .int .u64 0, .int .u64 0, .int .u64 0, .int .u8 0, .int .u8 0], 42, false⟩)]) (φ := b8 = b8 ∧ Nat.ble (0 + 10) 10 = true) h74 rfl rfl rfl (by kernel_rfl) ⟨rfl, rfl⟩ fun w75 h76 => ?_
    clear h74
    refine nd_done ?_
    refine hK72 _ _ ?_
    clear hK72
    refine wp_ret ?_
    try simp only [Exit.then, Exit.inBlock]
    try rw [if_pos trivial]
    exact s_ret tabOk2 tabZ_ok2 h76 [(.cell 4 42, {k := 2})] (vs := [.agg #[.int .u8 15, .int .u16 ((curR Z a).idx), .int .u32 ((curR Z a).gen), .int .u64 0, .int .u64 0, .int .u64 0, .int .u64 0, .int .u64 0, .int .u8 0, .int .u8 0]]) (φ := (b8 = b8 ∧ Nat.ble (0 + 10) 10 = true) ∧ True) rfl (by kernel_rfl) ⟨⟨rfl, rfl⟩, trivial⟩ (by exact ⟨_, _, rfl, mg_end hH h76 hho rfl, rfl⟩)

theorem step1g (mb : Nat) (Z : MZ) (R : MR) (a : AK) (C : CP) (hI : MI Z a C) (ev : Ev) (he : EvOk ev) (xo : Option Addr) (cx : Nat) (hag : ¬ ev.arg ≥ 16) (i : Nat) (hi : i ∈ sl Z.ql) (bd : Int) (hirq : (a.irq ev.arg.toNat) = ⟨Z.ky i, bd, false⟩) (hty : typeOfP C.ent (Z.ky i) = 5) (w : World) (hH : MH mb Z R a C w) (hws : WordsAt (mdF mb Z R C) w xo ev.ws) :
    Calls Tryd.prog 15 #[.pointer (some ⟨mb, 0, none⟩), .agg #[.int .u8 1, .int .u32 ev.pick, .int .u64 ev.draw, .int .u32 ev.addr, .int .u32 ev.node, .int .u32 ev.dst, .int .u32 ev.xfer, .int .u8 ev.ty, .int .u64 ev.arg, .int .u64 ev.badge, .slice xo ev.ws.length cx]] w fun e w' => ∃ Z' R', e = .returned (.agg #[.int .u8 0, .int .u16 ((curR Z' (schedA (signalA (a.setI ev.arg.toNat { a.irq ev.arg.toNat with masked := true }) (Z.ky i) bd) ev.pick)).idx), .int .u32 ((curR Z' (schedA (signalA (a.setI ev.arg.toNat { a.irq ev.arg.toNat with masked := true }) (Z.ky i) bd) ev.pick)).gen), .int .u64 0, .int .u64 0, .int .u64 0, .int .u64 0, .int .u64 0, .int .u8 0, .int .u8 0]) ∧ MG mb Z R C w Z' R' (schedA (signalA (a.setI ev.arg.toNat { a.irq ev.arg.toNat with masked := true }) (Z.ky i) bd) ev.pick) C w' ∧ Z' = Z := by
  have hP := hI.mp
  obtain ⟨ty3, hg3⟩ := hH.g3
  have hho := hH.ho
  have hkk := hH.md.k
  refine enter (n := 154) (K := mdF mb Z R C) (A := MD (mdF mb Z R C) w.heap.size mb Z R a C) (F := mdF mb Z R C) (T := [(0, .pointer (some ⟨mb, 0, none⟩)), (1, .agg #[.int .u8 1, .int .u32 ev.pick, .int .u64 ev.draw, .int .u32 ev.addr, .int .u32 ev.node, .int .u32 ev.dst, .int .u32 ev.xfer, .int .u8 ev.ty, .int .u64 ev.arg, .int .u64 ev.badge, .slice xo ev.ws.length cx])]) (L := [(3, ⟨[.int .u16 0, .int .u32 0], ty3, true⟩)]) (args := [.pointer (some ⟨mb, 0, none⟩), .agg #[.int .u8 1, .int .u32 ev.pick, .int .u64 ev.draw, .int .u32 ev.addr, .int .u32 ev.node, .int .u32 ev.dst, .int .u32 ev.xfer, .int .u8 ev.ty, .int .u64 ev.arg, .int .u64 ev.badge, .slice xo ev.ws.length cx]]) Tryd.func15 rfl rfl rfl rfl (kcons hg3 knil) (by simp) (kcons (by intro hq; cases hq) knil) hH.mD MD.stable hH.md.low (kcons (by intro hq; cases hq) knil) ?_
  intro ac h
  refine wp_seq_k fun K1 hK1 => ?_
  refine nd_start (l := [0, 1]) rfl ?_
  refine nd_op ?_
  refine op_new tabOk2 (cells := [.int .u8 1, .int .u32 ev.pick, .int .u64 ev.draw, .int .u32 ev.addr, .int .u32 ev.node, .int .u32 ev.dst, .int .u32 ev.xfer, .int .u8 ev.ty, .int .u64 ev.arg, .int .u64 ev.badge, .slice xo ev.ws.length cx]) (ty := 35) (ln := none) (L1 := fun b2 => [(3, ⟨[.int .u16 0, .int .u32 0], ty3, true⟩), (b2, ⟨[.int .u8 1, .int .u32 ev.pick, .int .u64 ev.draw, .int .u32 ev.addr, .int .u32 ev.node, .int .u32 ev.dst, .int .u32 ev.xfer, .int .u8 ev.ty, .int .u64 ev.arg, .int .u64 ev.badge, .slice xo ev.ws.length cx], 35, false⟩)]) h rfl rfl rfl rfl (by kernel_rfl) (fun _ => rfl) fun b2 w3 a4 h5 hf6 hn7 => ?_
  clear h
  refine nd_op ?_
  refine op_new tabOk2 (cells := [.int .u8 0, .int .u16 0, .int .u32 0, .int .u64 0, .int .u64 0, .int .u64 0, .int .u64 0, .int .u64 0, .int .u8 0, .int .u8 0]) (ty := 42) (ln := none) (L1 := fun b8 => [(3, ⟨[.int .u16 0, .int .u32 0], ty3, true⟩), (b2, ⟨[.int .u8 1, .int .u32 ev.pick, .int .u64 ev.draw, .int .u32 ev.addr, .int .u32 ev.node, .int .u32 ev.dst, .int .u32 ev.xfer, .int .u8 ev.ty, .int .u64 ev.arg, .int .u64 ev.badge, .slice xo ev.ws.length cx], 35, false⟩), (b8, ⟨[.int .u8 0, .int .u16 0, .int .u32 0, .int .u64 0, .int .u64 0, .int .u64 0, .int .u64 0, .int .u64 0, .int .u8 0, .int .u8 0], 42, false⟩)]) h5 rfl rfl rfl rfl (by kernel_rfl) (fun _ => rfl) fun b8 w9 a10 h11 hf12 hn13 => ?_
  clear h5
  refine nd_done ?_
  refine hK1 _ _ ?_
  clear hK1
  refine wp_seq_k fun K14 hK14 => ?_
  refine nd_start (l := [0]) rfl ?_
  refine nd_op ?_
  refine op_new tabOk2 (cells := [.int .u8 0, .int .u16 0, .int .u32 0, .int .u64 0, .int .u64 0, .int .u64 0, .int .u64 0, .int .u64 0, .int .u8 0, .int .u8 0]) (ty := 42) (ln := none) (L1 := fun b15 => [(3, ⟨[.int .u16 0, .int .u32 0], ty3, true⟩), (b2, ⟨[.int .u8 1, .int .u32 ev.pick, .int .u64 ev.draw, .int .u32 ev.addr, .int .u32 ev.node, .int .u32 ev.dst, .int .u32 ev.xfer, .int .u8 ev.ty, .int .u64 ev.arg, .int .u64 ev.badge, .slice xo ev.ws.length cx], 35, false⟩), (b8, ⟨[.int .u8 0, .int .u16 0, .int .u32 0, .int .u64 0, .int .u64 0, .int .u64 0, .int .u64 0, .int .u64 0, .int .u8 0, .int .u8 0], 42, false⟩), (b15, ⟨[.int .u8 0, .int .u16 0, .int .u32 0, .int .u64 0, .int .u64 0, .int .u64 0, .int .u64 0, .int .u64 0, .int .u8 0, .int .u8 0], 42, false⟩)]) h11 rfl rfl rfl rfl (by kernel_rfl) (fun _ => rfl) fun b15 w16 a17 h18 hf19 hn20 => ?_
  clear h11
  refine nd_done ?_
  refine hK14 _ _ ?_
  clear hK14
  refine wp_seq_k fun K21 hK21 => ?_
  refine wp_block ?_
  refine wp_seq_k fun K22 hK22 => ?_
  refine nd_start (l := [0, 1, 2, 3]) rfl ?_
  refine nd_batch tabOk2 tabZ_ok2 [(0, {}), (1, {k := 1}), (2, {}), (3, {})] [5, 4, 3, 0, 1, 45] (T' := [(5, .pointer (some ⟨b15, 0, none⟩)), (4, .pointer (some ⟨b8, 0, none⟩)), (3, .pointer (some ⟨b2, 0, none⟩)), (0, .pointer (some ⟨mb, 0, none⟩)), (1, .agg #[.int .u8 1, .int .u32 ev.pick, .int .u64 ev.draw, .int .u32 ev.addr, .int .u32 ev.node, .int .u32 ev.dst, .int .u32 ev.xfer, .int .u8 ev.ty, .int .u64 ev.arg, .int .u64 ev.badge, .slice xo ev.ws.length cx]), (45, .bool false)]) (φ := (b2 = b2 ∧ Nat.ble (0 + 1) 11 = true) ∧ True) (rest := []) h18 (by kernel_rfl) rfl ⟨⟨rfl, rfl⟩, trivial⟩ fun a23 h24 => ?_
  clear h18
  refine nd_done ?_
  refine hK22 _ _ ?_
  clear hK22
  refine c_false h24 rfl ?_
  refine wp_seq_k fun K25 hK25 => ?_
  refine nd_start (l := [0, 1, 2, 3]) rfl ?_
  refine nd_batch tabOk2 tabZ_ok2 [(0, {}), (1, {k := 1}), (2, {}), (3, {})] [5, 4, 3, 0, 1, 68] (T' := [(5, .pointer (some ⟨b15, 0, none⟩)), (4, .pointer (some ⟨b8, 0, none⟩)), (3, .pointer (some ⟨b2, 0, none⟩)), (0, .pointer (some ⟨mb, 0, none⟩)), (1, .agg #[.int .u8 1, .int .u32 ev.pick, .int .u64 ev.draw, .int .u32 ev.addr, .int .u32 ev.node, .int .u32 ev.dst, .int .u32 ev.xfer, .int .u8 ev.ty, .int .u64 ev.arg, .int .u64 ev.badge, .slice xo ev.ws.length cx]), (68, .bool true)]) (φ := (b2 = b2 ∧ Nat.ble (0 + 1) 11 = true) ∧ True) (rest := []) h24 (by kernel_rfl) rfl ⟨⟨rfl, rfl⟩, trivial⟩ fun a26 h27 => ?_
  clear h24
  refine nd_done ?_
  refine hK25 _ _ ?_
  clear hK25
  refine c_true h27 rfl ?_
  refine wp_block ?_
  refine wp_seq_k fun K28 hK28 => ?_
  refine nd_start (l := [0, 1, 2, 3]) rfl ?_
  refine nd_batch tabOk2 tabZ_ok2 [(0, {}), (1, {k := 1}), (2, {}), (3, {})] [5, 4, 3, 0, 1, 97] (T' := [(5, .pointer (some ⟨b15, 0, none⟩)), (4, .pointer (some ⟨b8, 0, none⟩)), (3, .pointer (some ⟨b2, 0, none⟩)), (0, .pointer (some ⟨mb, 0, none⟩)), (1, .agg #[.int .u8 1, .int .u32 ev.pick, .int .u64 ev.draw, .int .u32 ev.addr, .int .u32 ev.node, .int .u32 ev.dst, .int .u32 ev.xfer, .int .u8 ev.ty, .int .u64 ev.arg, .int .u64 ev.badge, .slice xo ev.ws.length cx]), (97, .bool (decide (ev.arg ≥ 16)))]) (φ := (b2 = b2 ∧ Nat.ble (8 + 1) 11 = true) ∧ True) (rest := []) h27 (by kernel_rfl) rfl ⟨⟨rfl, rfl⟩, trivial⟩ fun a29 h30 => ?_
  clear h27
  refine nd_done ?_
  refine hK28 _ _ ?_
  clear hK28
  refine c_split h30 (b := decide (ev.arg ≥ 16)) rfl (fun hc31 => ?_) (fun hc31 => ?_)
  ·
    have hc31f : ev.arg ≥ 16 := by simpa using hc31
    exact absurd (hag) (by first | exact hc31f | (intro hz; exact hc31f hz) | omega | simp_all)
  ·
    have hc31f : ¬ ev.arg ≥ 16 := by simpa using hc31
    refine wp_seq_k fun K32 hK32 => ?_
    refine dr_start (KB := [3, b2, b8, b15, mb]) (Bi := [[0, 1, 2, 3, 4], [0, 1, 2, 3, 4], [0, 1, 2, 3, 4], [0, 1, 2, 3, 4], [0, 1, 2, 3, 4], [0, 1, 2, 3, 4], [0, 1, 2, 3, 4], [0, 1, 2, 3, 4], [0, 1, 2, 3, 4], [0, 1, 2, 3, 4], [0, 1, 2, 3, 4], [0, 1, 2, 3, 4], [], [0, 1, 2, 3, 4], [0, 1, 2, 3, 4]]) mixed h30 fun w33 h34 => ?_
    clear h30
    refine dr_batch tabOk2 tabZ_ok2 (by repeat (first | with_reducible exact PF.body | with_reducible apply PF.inB | with_reducible apply PF.next)) [(0, {}), (1, {}), (2, {})] [5, 4, 3, 0, 1, 105] (T' := [(5, .pointer (some ⟨b15, 0, none⟩)), (4, .pointer (some ⟨b8, 0, none⟩)), (3, .pointer (some ⟨b2, 0, none⟩)), (0, .pointer (some ⟨mb, 0, none⟩)), (1, .agg #[.int .u8 1, .int .u32 ev.pick, .int .u64 ev.draw, .int .u32 ev.addr, .int .u32 ev.node, .int .u32 ev.dst, .int .u32 ev.xfer, .int .u8 ev.ty, .int .u64 ev.arg, .int .u64 ev.badge, .slice xo ev.ws.length cx]), (105, .pointer (some ⟨mb, 0, none⟩))]) (φ := True) (fuel := 12) h34 (by kernel_rfl) rfl (by kernel_rfl) (by kernel_rfl) ⟨trivial, trivial, trivial, trivial⟩ trivial fun a36 h37 => ?_
    clear h34
    refine dr_read (i := 3) (b := mb) (p := 4) (v := .pointer (some ⟨Z.mo, 0, none⟩)) (fuel := 11) (by repeat (first | with_reducible exact PF.body | with_reducible apply PF.inB | with_reducible apply PF.next)) h37 rfl rfl rfl (by kernel_rfl) (by kernel_rfl) (by kernel_rfl) rfl (rd_m h37 (k := 0) (v := .pointer (some ⟨Z.mo, 0, none⟩)) rfl rfl rfl rfl (md_p ⟨rfl, trivial⟩)) ?_
    have h38 := h37.put (d := some 106) (v := .pointer (some ⟨Z.mo, 0, none⟩)) (T' := [(106, .pointer (some ⟨Z.mo, 0, none⟩)), (5, .pointer (some ⟨b15, 0, none⟩)), (4, .pointer (some ⟨b8, 0, none⟩)), (3, .pointer (some ⟨b2, 0, none⟩)), (0, .pointer (some ⟨mb, 0, none⟩)), (1, .agg #[.int .u8 1, .int .u32 ev.pick, .int .u64 ev.draw, .int .u32 ev.addr, .int .u32 ev.node, .int .u32 ev.dst, .int .u32 ev.xfer, .int .u8 ev.ty, .int .u64 ev.arg, .int .u64 ev.badge, .slice xo ev.ws.length cx]), (105, .pointer (some ⟨mb, 0, none⟩))]) rfl
    clear h37
    refine dr_batch tabOk2 tabZ_ok2 (by repeat (first | with_reducible exact PF.body | with_reducible apply PF.inB | with_reducible apply PF.next)) [(4, {}), (5, {}), (6, {k := 1, p := 1}), (7, {}), (8, {}), (9, {}), (10, {})] [106, 5, 4, 3, 0, 1, 113] (T' := [(106, .pointer (some ⟨Z.mo, 0, none⟩)), (5, .pointer (some ⟨b15, 0, none⟩)), (4, .pointer (some ⟨b8, 0, none⟩)), (3, .pointer (some ⟨b2, 0, none⟩)), (0, .pointer (some ⟨mb, 0, none⟩)), (1, .agg #[.int .u8 1, .int .u32 ev.pick, .int .u64 ev.draw, .int .u32 ev.addr, .int .u32 ev.node, .int .u32 ev.dst, .int .u32 ev.xfer, .int .u8 ev.ty, .int .u64 ev.arg, .int .u64 ev.badge, .slice xo ev.ws.length cx]), (113, .pointer (some ⟨mb, 15 + (ev.arg.toNat * 4), none⟩))]) (φ := (b2 = b2 ∧ Nat.ble (8 + 1) 11 = true) ∧ (0 ≤ ev.arg ∧ ev.arg < 16) ∧ True) (fuel := 4) h38 (by kernel_rfl) rfl (by kernel_rfl) (by kernel_rfl) ⟨trivial, trivial, rfl, trivial, trivial, trivial, trivial, trivial⟩ ⟨⟨rfl, rfl⟩, ⟨by have := he.arg.1; omega, by omega⟩, trivial⟩ fun a39 h40 => ?_
    clear h38
    refine dr_read (i := 11) (b := mb) (p := 4) (v := .agg #[.int .u16 ((Z.ky i).idx), .int .u32 ((Z.ky i).gen)]) (fuel := 3) (by repeat (first | with_reducible exact PF.body | with_reducible apply PF.inB | with_reducible apply PF.next)) h40 rfl rfl rfl (by kernel_rfl) (by kernel_rfl) (by kernel_rfl) rfl (rd_mA h40 (k := 15 + (ev.arg.toNat * 4)) (vs := [.int .u16 ((Z.ky i).idx), .int .u32 ((Z.ky i).gen)]) rfl rfl rfl rfl rfl (md_irq (i := ev.arg.toNat) (k := 0) (by have := he.arg.1; omega) (by omega) (by rw [hirq]; exact ⟨rfl, rfl, trivial⟩))) ?_
    have h41 := h40.put (d := some 114) (v := .agg #[.int .u16 ((Z.ky i).idx), .int .u32 ((Z.ky i).gen)]) (T' := [(114, .agg #[.int .u16 ((Z.ky i).idx), .int .u32 ((Z.ky i).gen)]), (106, .pointer (some ⟨Z.mo, 0, none⟩)), (5, .pointer (some ⟨b15, 0, none⟩)), (4, .pointer (some ⟨b8, 0, none⟩)), (3, .pointer (some ⟨b2, 0, none⟩)), (0, .pointer (some ⟨mb, 0, none⟩)), (1, .agg #[.int .u8 1, .int .u32 ev.pick, .int .u64 ev.draw, .int .u32 ev.addr, .int .u32 ev.node, .int .u32 ev.dst, .int .u32 ev.xfer, .int .u8 ev.ty, .int .u64 ev.arg, .int .u64 ev.badge, .slice xo ev.ws.length cx]), (113, .pointer (some ⟨mb, 15 + (ev.arg.toNat * 4), none⟩))]) rfl
    clear h40
    refine wpAnyK_one (i := 12) (fuel := 2) (by kernel_rfl) ?_
    refine op_call h41 rfl rfl rfl (callOk Tryd.func53 (by decide) rfl) (args := [.pointer (some ⟨Z.mo, 0, none⟩), .agg #[.int .u16 ((Z.ky i).idx), .int .u32 ((Z.ky i).gen)]]) rfl (by have h9 := typeOf_ok Z.mo C.ent (Z.ky i) (by have h8 := hkk.kx i (hkk.qx i hi); have h9 := hkk.qx i hi; omega) _ h41.inv.1.cp.st; rw [hty] at h9; exact h9) ?_
    rintro _ w42 ⟨rfl, hf44⟩
    refine ⟨_, rfl, ?_⟩
    have h43 := (h41.grow hf44).put (d := some 115) (v := .int .u8 5) (T' := [(115, .int .u8 5), (114, .agg #[.int .u16 ((Z.ky i).idx), .int .u32 ((Z.ky i).gen)]), (106, .pointer (some ⟨Z.mo, 0, none⟩)), (5, .pointer (some ⟨b15, 0, none⟩)), (4, .pointer (some ⟨b8, 0, none⟩)), (3, .pointer (some ⟨b2, 0, none⟩)), (0, .pointer (some ⟨mb, 0, none⟩)), (1, .agg #[.int .u8 1, .int .u32 ev.pick, .int .u64 ev.draw, .int .u32 ev.addr, .int .u32 ev.node, .int .u32 ev.dst, .int .u32 ev.xfer, .int .u8 ev.ty, .int .u64 ev.arg, .int .u64 ev.badge, .slice xo ev.ws.length cx]), (113, .pointer (some ⟨mb, 15 + (ev.arg.toNat * 4), none⟩))]) rfl
    refine ⟨keepNil, ?_⟩
    clear h41
    refine dr_batch tabOk2 tabZ_ok2 (by repeat (first | with_reducible exact PF.body | with_reducible apply PF.inB | with_reducible apply PF.next)) [(13, {}), (14, {})] [5, 4, 3, 0, 1, 102] (T' := [(5, .pointer (some ⟨b15, 0, none⟩)), (4, .pointer (some ⟨b8, 0, none⟩)), (3, .pointer (some ⟨b2, 0, none⟩)), (0, .pointer (some ⟨mb, 0, none⟩)), (1, .agg #[.int .u8 1, .int .u32 ev.pick, .int .u64 ev.draw, .int .u32 ev.addr, .int .u32 ev.node, .int .u32 ev.dst, .int .u32 ev.xfer, .int .u8 ev.ty, .int .u64 ev.arg, .int .u64 ev.badge, .slice xo ev.ws.length cx]), (102, .bool false)]) (φ := True) (fuel := 0) h43 (by kernel_rfl) rfl (by kernel_rfl) (by kernel_rfl) ⟨trivial, trivial, trivial⟩ trivial fun a45 h46 => ?_
    clear h43
    refine wpAnyK_done (by kernel_rfl) ?_ _
    refine hK32 _ _ ?_
    clear hK32
    refine c_false h46 rfl ?_
    refine wp_seq_k fun K47 hK47 => ?_
    refine dr_start (KB := [3, b2, b8, b15, mb]) (Bi := [[0, 1, 2, 3, 4], [0, 1, 2, 3, 4], [0, 1, 2, 3, 4], [0, 1, 2, 3, 4], [0, 1, 2, 3, 4], [0, 1, 2, 3, 4], [0, 1, 2, 3, 4], [0, 1, 2, 3, 4], [0, 1, 2, 3, 4]]) mixed h46 fun w48 h49 => ?_
    clear h46
    refine dr_batch tabOk2 tabZ_ok2 (by repeat (first | with_reducible exact PF.body | with_reducible apply PF.inB | with_reducible apply PF.next)) [(0, {}), (1, {}), (2, {k := 1, p := 1}), (3, {}), (4, {}), (5, {}), (6, {})] [5, 4, 3, 0, 1, 125] (T' := [(5, .pointer (some ⟨b15, 0, none⟩)), (4, .pointer (some ⟨b8, 0, none⟩)), (3, .pointer (some ⟨b2, 0, none⟩)), (0, .pointer (some ⟨mb, 0, none⟩)), (1, .agg #[.int .u8 1, .int .u32 ev.pick, .int .u64 ev.draw, .int .u32 ev.addr, .int .u32 ev.node, .int .u32 ev.dst, .int .u32 ev.xfer, .int .u8 ev.ty, .int .u64 ev.arg, .int .u64 ev.badge, .slice xo ev.ws.length cx]), (125, .pointer (some ⟨mb, 15 + (ev.arg.toNat * 4) + 3, none⟩))]) (φ := (b2 = b2 ∧ Nat.ble (8 + 1) 11 = true) ∧ (0 ≤ ev.arg ∧ ev.arg < 16) ∧ True) (fuel := 2) h49 (by kernel_rfl) rfl (by kernel_rfl) (by kernel_rfl) ⟨trivial, trivial, rfl, trivial, trivial, trivial, trivial, trivial⟩ ⟨⟨rfl, rfl⟩, ⟨by have := he.arg.1; omega, by omega⟩, trivial⟩ fun a51 h52 => ?_
    clear h49
    refine dr_read (i := 7) (b := mb) (p := 4) (v := .bool false) (fuel := 1) (by repeat (first | with_reducible exact PF.body | with_reducible apply PF.inB | with_reducible apply PF.next)) h52 rfl rfl rfl (by kernel_rfl) (by kernel_rfl) (by kernel_rfl) rfl (rd_m h52 (k := 15 + (ev.arg.toNat * 4) + 3) (v := .bool false) rfl rfl rfl rfl (md_irq (i := ev.arg.toNat) (k := 3) (by have := he.arg.1; omega) (by omega) (by rw [hirq]; exact ⟨rfl, trivial⟩))) ?_
    have h53 := h52.put (d := some 126) (v := .bool false) (T' := [(126, .bool false), (5, .pointer (some ⟨b15, 0, none⟩)), (4, .pointer (some ⟨b8, 0, none⟩)), (3, .pointer (some ⟨b2, 0, none⟩)), (0, .pointer (some ⟨mb, 0, none⟩)), (1, .agg #[.int .u8 1, .int .u32 ev.pick, .int .u64 ev.draw, .int .u32 ev.addr, .int .u32 ev.node, .int .u32 ev.dst, .int .u32 ev.xfer, .int .u8 ev.ty, .int .u64 ev.arg, .int .u64 ev.badge, .slice xo ev.ws.length cx]), (125, .pointer (some ⟨mb, 15 + (ev.arg.toNat * 4) + 3, none⟩))]) rfl
    clear h52
    refine dr_batch tabOk2 tabZ_ok2 (by repeat (first | with_reducible exact PF.body | with_reducible apply PF.inB | with_reducible apply PF.next)) [(8, {})] [5, 4, 3, 0, 1, 118] (T' := [(5, .pointer (some ⟨b15, 0, none⟩)), (4, .pointer (some ⟨b8, 0, none⟩)), (3, .pointer (some ⟨b2, 0, none⟩)), (0, .pointer (some ⟨mb, 0, none⟩)), (1, .agg #[.int .u8 1, .int .u32 ev.pick, .int .u64 ev.draw, .int .u32 ev.addr, .int .u32 ev.node, .int .u32 ev.dst, .int .u32 ev.xfer, .int .u8 ev.ty, .int .u64 ev.arg, .int .u64 ev.badge, .slice xo ev.ws.length cx]), (118, .bool false)]) (φ := True) (fuel := 0) h53 (by kernel_rfl) rfl (by kernel_rfl) (by kernel_rfl) ⟨trivial, trivial⟩ trivial fun a54 h55 => ?_
    clear h53
    refine wpAnyK_done (by kernel_rfl) ?_ _
    refine hK47 _ _ ?_
    clear hK47
    refine c_false h55 rfl ?_
    refine wp_seq_k fun K56 hK56 => ?_
    refine dr_start (KB := [3, b2, b8, b15]) (Bi := [[0, 1, 2, 3], [0, 1, 2, 3], [0, 1, 2, 3], [0, 1, 2, 3], [0, 1, 2, 3], [0, 1, 2, 3], [0, 1, 2, 3], []]) mixed h55 fun w57 h58 => ?_
    clear h55
    refine dr_batch tabOk2 tabZ_ok2 (by repeat (first | with_reducible exact PF.body | with_reducible apply PF.inB | with_reducible apply PF.next)) [(0, {}), (1, {}), (2, {k := 1, p := 1}), (3, {}), (4, {}), (5, {}), (6, {})] [5, 4, 3, 0, 1, 78] (T' := [(5, .pointer (some ⟨b15, 0, none⟩)), (4, .pointer (some ⟨b8, 0, none⟩)), (3, .pointer (some ⟨b2, 0, none⟩)), (0, .pointer (some ⟨mb, 0, none⟩)), (1, .agg #[.int .u8 1, .int .u32 ev.pick, .int .u64 ev.draw, .int .u32 ev.addr, .int .u32 ev.node, .int .u32 ev.dst, .int .u32 ev.xfer, .int .u8 ev.ty, .int .u64 ev.arg, .int .u64 ev.badge, .slice xo ev.ws.length cx]), (78, .pointer (some ⟨mb, 15 + (ev.arg.toNat * 4) + 3, none⟩))]) (φ := (b2 = b2 ∧ Nat.ble (8 + 1) 11 = true) ∧ (0 ≤ ev.arg ∧ ev.arg < 16) ∧ True) (fuel := 1) h58 (by kernel_rfl) rfl (by kernel_rfl) (by kernel_rfl) ⟨trivial, trivial, rfl, trivial, trivial, trivial, trivial, trivial⟩ ⟨⟨rfl, rfl⟩, ⟨by have := he.arg.1; omega, by omega⟩, trivial⟩ fun a60 h61 => ?_
    clear h58
    refine wpAnyK_one (i := 7) (fuel := 0) (by kernel_rfl) ?_
    refine op_mM (off := 15 + (ev.arg.toNat * 4) + 3) (v := .bool true) (a' := a.setI ev.arg.toNat { a.irq ev.arg.toNat with masked := true }) h61 rfl rfl rfl rfl rfl rfl rfl rfl rfl (by show 15 + (ev.arg.toNat * 4) + 3 + 1 ≤ 80; omega) (md_irq_w (i := ev.arg.toNat) (k := 3) (by have := he.arg.1; omega) (Nat.le_of_ble_eq_true rfl) (by omega) rfl) rfl rfl rfl (kcons (fun _ => rfl) (kcons (fun hq => by cases hq) (kcons (fun hq => by cases hq) (kcons (fun hq => by cases hq) knil)))) fun w62 hf63 h64 => ?_
    obtain ⟨a65, ea65⟩ : ∃ z : AK, z = a.setI ev.arg.toNat { a.irq ev.arg.toNat with masked := true } := ⟨_, rfl⟩
    rw [← ea65] at h64
    have hirq66 : a65.irq ev.arg.toNat = ⟨Z.ky i, bd, true⟩ := by rw [ea65]; show upd a.irq ev.arg.toNat _ ev.arg.toNat = _; rw [upd_same, hirq]
    refine ⟨keepNil, ?_⟩
    clear h61
    have hP67 : MP Z a65 := by rw [ea65]; exact MP.same hP rfl rfl rfl
    refine wpAnyK_done (by kernel_rfl) ?_ _
    refine hK56 _ _ ?_
    clear hK56
    refine dr_start (KB := [3, b2, b8, b15, mb]) (Bi := [[0, 1, 2, 3, 4], [0, 1, 2, 3, 4], [0, 1, 2, 3, 4], [0, 1, 2, 3, 4], [0, 1, 2, 3, 4], [0, 1, 2, 3, 4], [0, 1, 2, 3, 4], [0, 1, 2, 3, 4], [0, 1, 2, 3, 4], [0, 1, 2, 3, 4], [0, 1, 2, 3, 4], [0, 1, 2, 3, 4], [0, 1, 2, 3, 4], [0, 1, 2, 3, 4], [0, 1, 2, 3, 4], [0, 1, 2, 3, 4], [0, 1, 2, 3, 4], []]) mixed h64 fun w68 h69 => ?_
    clear h64
    refine dr_batch tabOk2 tabZ_ok2 (by repeat (first | with_reducible exact PF.body | with_reducible apply PF.inB | with_reducible apply PF.next)) [(0, {}), (1, {}), (2, {}), (3, {k := 1, p := 1}), (4, {}), (5, {}), (6, {}), (7, {})] [5, 4, 3, 0, 1, 79, 86] (T' := [(5, .pointer (some ⟨b15, 0, none⟩)), (4, .pointer (some ⟨b8, 0, none⟩)), (3, .pointer (some ⟨b2, 0, none⟩)), (0, .pointer (some ⟨mb, 0, none⟩)), (1, .agg #[.int .u8 1, .int .u32 ev.pick, .int .u64 ev.draw, .int .u32 ev.addr, .int .u32 ev.node, .int .u32 ev.dst, .int .u32 ev.xfer, .int .u8 ev.ty, .int .u64 ev.arg, .int .u64 ev.badge, .slice xo ev.ws.length cx]), (79, .pointer (some ⟨mb, 0, none⟩)), (86, .pointer (some ⟨mb, 15 + (ev.arg.toNat * 4), none⟩))]) (φ := (b2 = b2 ∧ Nat.ble (8 + 1) 11 = true) ∧ (0 ≤ ev.arg ∧ ev.arg < 16) ∧ True) (fuel := 10) h69 (by kernel_rfl) rfl (by kernel_rfl) (by kernel_rfl) ⟨trivial, trivial, trivial, rfl, trivial, trivial, trivial, trivial, trivial⟩ ⟨⟨rfl, rfl⟩, ⟨by have := he.arg.1; omega, by omega⟩, trivial⟩ fun a71 h72 => ?_
    clear h69
    refine dr_read (i := 8) (b := mb) (p := 4) (v := .agg #[.int .u16 ((Z.ky i).idx), .int .u32 ((Z.ky i).gen)]) (fuel := 9) (by repeat (first | with_reducible exact PF.body | with_reducible apply PF.inB | with_reducible apply PF.next)) h72 rfl rfl rfl (by kernel_rfl) (by kernel_rfl) (by kernel_rfl) rfl (rd_mA h72 (k := 15 + (ev.arg.toNat * 4)) (vs := [.int .u16 ((Z.ky i).idx), .int .u32 ((Z.ky i).gen)]) rfl rfl rfl rfl rfl (md_irq (i := ev.arg.toNat) (k := 0) (by have := he.arg.1; omega) (by omega) (by rw [hirq66]; exact ⟨rfl, rfl, trivial⟩))) ?_
    have h73 := h72.put (d := some 87) (v := .agg #[.int .u16 ((Z.ky i).idx), .int .u32 ((Z.ky i).gen)]) (T' := [(87, .agg #[.int .u16 ((Z.ky i).idx), .int .u32 ((Z.ky i).gen)]), (5, .pointer (some ⟨b15, 0, none⟩)), (4, .pointer (some ⟨b8, 0, none⟩)), (3, .pointer (some ⟨b2, 0, none⟩)), (0, .pointer (some ⟨mb, 0, none⟩)), (1, .agg #[.int .u8 1, .int .u32 ev.pick, .int .u64 ev.draw, .int .u32 ev.addr, .int .u32 ev.node, .int .u32 ev.dst, .int .u32 ev.xfer, .int .u8 ev.ty, .int .u64 ev.arg, .int .u64 ev.badge, .slice xo ev.ws.length cx]), (79, .pointer (some ⟨mb, 0, none⟩)), (86, .pointer (some ⟨mb, 15 + (ev.arg.toNat * 4), none⟩))]) rfl
    clear h72
    refine dr_batch tabOk2 tabZ_ok2 (by repeat (first | with_reducible exact PF.body | with_reducible apply PF.inB | with_reducible apply PF.next)) [(9, {}), (10, {}), (11, {k := 1, p := 1}), (12, {}), (13, {}), (14, {}), (15, {})] [87, 5, 4, 3, 0, 1, 79, 94] (T' := [(87, .agg #[.int .u16 ((Z.ky i).idx), .int .u32 ((Z.ky i).gen)]), (5, .pointer (some ⟨b15, 0, none⟩)), (4, .pointer (some ⟨b8, 0, none⟩)), (3, .pointer (some ⟨b2, 0, none⟩)), (0, .pointer (some ⟨mb, 0, none⟩)), (1, .agg #[.int .u8 1, .int .u32 ev.pick, .int .u64 ev.draw, .int .u32 ev.addr, .int .u32 ev.node, .int .u32 ev.dst, .int .u32 ev.xfer, .int .u8 ev.ty, .int .u64 ev.arg, .int .u64 ev.badge, .slice xo ev.ws.length cx]), (79, .pointer (some ⟨mb, 0, none⟩)), (94, .pointer (some ⟨mb, 15 + (ev.arg.toNat * 4) + 2, none⟩))]) (φ := (b2 = b2 ∧ Nat.ble (8 + 1) 11 = true) ∧ (0 ≤ ev.arg ∧ ev.arg < 16) ∧ True) (fuel := 2) h73 (by kernel_rfl) rfl (by kernel_rfl) (by kernel_rfl) ⟨trivial, trivial, rfl, trivial, trivial, trivial, trivial, trivial⟩ ⟨⟨rfl, rfl⟩, ⟨by have := he.arg.1; omega, by omega⟩, trivial⟩ fun a74 h75 => ?_
    clear h73
    refine dr_read (i := 16) (b := mb) (p := 4) (v := .int .u64 bd) (fuel := 1) (by repeat (first | with_reducible exact PF.body | with_reducible apply PF.inB | with_reducible apply PF.next)) h75 rfl rfl rfl (by kernel_rfl) (by kernel_rfl) (by kernel_rfl) rfl (rd_m h75 (k := 15 + (ev.arg.toNat * 4) + 2) (v := .int .u64 bd) rfl rfl rfl rfl (md_irq (i := ev.arg.toNat) (k := 2) (by have := he.arg.1; omega) (by omega) (by rw [hirq66]; exact ⟨rfl, trivial⟩))) ?_
    have h76 := h75.put (d := some 95) (v := .int .u64 bd) (T' := [(95, .int .u64 bd), (87, .agg #[.int .u16 ((Z.ky i).idx), .int .u32 ((Z.ky i).gen)]), (5, .pointer (some ⟨b15, 0, none⟩)), (4, .pointer (some ⟨b8, 0, none⟩)), (3, .pointer (some ⟨b2, 0, none⟩)), (0, .pointer (some ⟨mb, 0, none⟩)), (1, .agg #[.int .u8 1, .int .u32 ev.pick, .int .u64 ev.draw, .int .u32 ev.addr, .int .u32 ev.node, .int .u32 ev.dst, .int .u32 ev.xfer, .int .u8 ev.ty, .int .u64 ev.arg, .int .u64 ev.badge, .slice xo ev.ws.length cx]), (79, .pointer (some ⟨mb, 0, none⟩)), (94, .pointer (some ⟨mb, 15 + (ev.arg.toNat * 4) + 2, none⟩))]) rfl
    clear h75
    refine wpAnyK_one (i := 17) (fuel := 0) (by kernel_rfl) ?_
    refine op_call h76 rfl rfl rfl (callOk Tryd.func54 (by decide) rfl) (args := [.pointer (some ⟨mb, 0, none⟩), .agg #[.int .u16 ((Z.ky i).idx), .int .u32 ((Z.ky i).gen)], .int .u64 bd]) rfl (msignal_ok mb Z _ a65 C i hi bd hP67 _ (mh_of h76 hho (k := 0) rfl)) ?_
    rintro _ w77 ⟨rfl, R78, hg79⟩
    refine ⟨_, rfl, ?_⟩
    have h80a := st_mg h76 hg79 (kcons (fun _ => rfl) (kcons (fun hq => by cases hq) (kcons (fun hq => by cases hq) (kcons (fun hq => by cases hq) knil))))
    have h80 := h80a.put (d := some 96) (v := .tuple #[]) (T' := [(96, .tuple #[]), (95, .int .u64 bd), (87, .agg #[.int .u16 ((Z.ky i).idx), .int .u32 ((Z.ky i).gen)]), (5, .pointer (some ⟨b15, 0, none⟩)), (4, .pointer (some ⟨b8, 0, none⟩)), (3, .pointer (some ⟨b2, 0, none⟩)), (0, .pointer (some ⟨mb, 0, none⟩)), (1, .agg #[.int .u8 1, .int .u32 ev.pick, .int .u64 ev.draw, .int .u32 ev.addr, .int .u32 ev.node, .int .u32 ev.dst, .int .u32 ev.xfer, .int .u8 ev.ty, .int .u64 ev.arg, .int .u64 ev.badge, .slice xo ev.ws.length cx]), (79, .pointer (some ⟨mb, 0, none⟩)), (94, .pointer (some ⟨mb, 15 + (ev.arg.toNat * 4) + 2, none⟩))]) rfl
    have hhoh80 := hg79.mh.ho
    refine ⟨keepNil, ?_⟩
    obtain ⟨a81, ea81⟩ : ∃ z : AK, z = signalA a65 (Z.ky i) bd := ⟨_, rfl⟩
    rw [← ea81] at h80
    clear h76 h80a
    have hP82 : MP Z a81 := by rw [ea81]; exact MP.signal hP67 hkk hi
    refine wpAnyK_done (by kernel_rfl) ?_ _
    refine hK21 _ _ ?_
    clear hK21
    refine wp_seq_k fun K83 hK83 => ?_
    refine wp_seq_k fun K84 hK84 => ?_
    refine nd_start (l := [0, 1, 2]) rfl ?_
    refine nd_batch tabOk2 tabZ_ok2 [(0, {}), (1, {k := 3}), (2, {})] [5, 4, 3, 0, 1, 143] (T' := [(5, .pointer (some ⟨b15, 0, none⟩)), (4, .pointer (some ⟨b8, 0, none⟩)), (3, .pointer (some ⟨b2, 0, none⟩)), (0, .pointer (some ⟨mb, 0, none⟩)), (1, .agg #[.int .u8 1, .int .u32 ev.pick, .int .u64 ev.draw, .int .u32 ev.addr, .int .u32 ev.node, .int .u32 ev.dst, .int .u32 ev.xfer, .int .u8 ev.ty, .int .u64 ev.arg, .int .u64 ev.badge, .slice xo ev.ws.length cx]), (143, .bool true)]) (φ := (b15 = b15 ∧ Nat.ble (0 + 1) 10 = true) ∧ True) (rest := []) h80 (by kernel_rfl) rfl ⟨⟨rfl, rfl⟩, trivial⟩ fun a85 h86 => ?_
    clear h80
    refine nd_done ?_
    refine hK84 _ _ ?_
    clear hK84
    refine c_true h86 rfl ?_
    refine nd_start (l := [0, 1, 2, 3]) rfl ?_
    refine nd_batch tabOk2 tabZ_ok2 [(0, {}), (1, {}), (2, {k := 1})] [5, 4, 3, 0, 1, 144, 146] (T' := [(5, .pointer (some ⟨b15, 0, none⟩)), (4, .pointer (some ⟨b8, 0, none⟩)), (3, .pointer (some ⟨b2, 0, none⟩)), (0, .pointer (some ⟨mb, 0, none⟩)), (1, .agg #[.int .u8 1, .int .u32 ev.pick, .int .u64 ev.draw, .int .u32 ev.addr, .int .u32 ev.node, .int .u32 ev.dst, .int .u32 ev.xfer, .int .u8 ev.ty, .int .u64 ev.arg, .int .u64 ev.badge, .slice xo ev.ws.length cx]), (144, .pointer (some ⟨mb, 0, none⟩)), (146, .int .u32 ev.pick)]) (φ := (b2 = b2 ∧ Nat.ble (1 + 1) 11 = true) ∧ True) (rest := [3]) h86 (by kernel_rfl) rfl ⟨⟨rfl, rfl⟩, trivial⟩ fun a87 h88 => ?_
    clear h86
    refine nd_op ?_
    refine op_call h88 rfl rfl rfl (callOk Tryd.func56 (by decide) rfl) (args := [.pointer (some ⟨mb, 0, none⟩), .int .u32 ev.pick]) rfl (choose_ok mb Z _ a81 C ev.pick he.pick hP82 _ (mh_of h88 hhoh80 (k := 0) rfl)) ?_
    rintro _ w89 ⟨rfl, R90, hg91⟩
    refine ⟨_, rfl, ?_⟩
    have h92a := st_mg h88 hg91 (kcons (fun _ => rfl) (kcons (fun hq => by cases hq) (kcons (fun hq => by cases hq) (kcons (fun hq => by cases hq) knil))))
    have h92 := h92a.put (d := some 147) (v := .tuple #[]) (T' := [(147, .tuple #[]), (5, .pointer (some ⟨b15, 0, none⟩)), (4, .pointer (some ⟨b8, 0, none⟩)), (3, .pointer (some ⟨b2, 0, none⟩)), (0, .pointer (some ⟨mb, 0, none⟩)), (1, .agg #[.int .u8 1, .int .u32 ev.pick, .int .u64 ev.draw, .int .u32 ev.addr, .int .u32 ev.node, .int .u32 ev.dst, .int .u32 ev.xfer, .int .u8 ev.ty, .int .u64 ev.arg, .int .u64 ev.badge, .slice xo ev.ws.length cx]), (144, .pointer (some ⟨mb, 0, none⟩)), (146, .int .u32 ev.pick)]) rfl
    have hhoh92 := hg91.mh.ho
    obtain ⟨a93, ea93⟩ : ∃ z : AK, z = schedA a81 ev.pick := ⟨_, rfl⟩
    rw [← ea93] at h92
    clear h88 h92a
    refine nd_done ?_
    refine hK83 _ _ ?_
    clear hK83
    refine wp_seq_k fun K94 hK94 => ?_
    refine nd_start (l := [0, 1, 2, 3, 4, 5]) rfl ?_
    refine nd_batch tabOk2 tabZ_ok2 [(0, {}), (1, {}), (2, {})] [5, 4, 3, 0, 1, 150] (T' := [(5, .pointer (some ⟨b15, 0, none⟩)), (4, .pointer (some ⟨b8, 0, none⟩)), (3, .pointer (some ⟨b2, 0, none⟩)), (0, .pointer (some ⟨mb, 0, none⟩)), (1, .agg #[.int .u8 1, .int .u32 ev.pick, .int .u64 ev.draw, .int .u32 ev.addr, .int .u32 ev.node, .int .u32 ev.dst, .int .u32 ev.xfer, .int .u8 ev.ty, .int .u64 ev.arg, .int .u64 ev.badge, .slice xo ev.ws.length cx]), (150, .pointer (some ⟨mb, 13, none⟩))]) (φ := True) (rest := [3, 4, 5]) h92 (by kernel_rfl) rfl trivial fun a95 h96 => ?_
    clear h92
    refine nd_op ?_
    refine op_read (b := mb) (v := .agg #[.int .u16 ((curR Z a93).idx), .int .u32 ((curR Z a93).gen)]) h96 rfl rfl (rd_mA h96 (k := 13) (vs := [.int .u16 ((curR Z a93).idx), .int .u32 ((curR Z a93).gen)]) rfl rfl rfl rfl rfl md_cur) ?_
    have h97 := h96.put (d := some 151) (v := .agg #[.int .u16 ((curR Z a93).idx), .int .u32 ((curR Z a93).gen)]) (T' := [(151, .agg #[.int .u16 ((curR Z a93).idx), .int .u32 ((curR Z a93).gen)]), (5, .pointer (some ⟨b15, 0, none⟩)), (4, .pointer (some ⟨b8, 0, none⟩)), (3, .pointer (some ⟨b2, 0, none⟩)), (0, .pointer (some ⟨mb, 0, none⟩)), (1, .agg #[.int .u8 1, .int .u32 ev.pick, .int .u64 ev.draw, .int .u32 ev.addr, .int .u32 ev.node, .int .u32 ev.dst, .int .u32 ev.xfer, .int .u8 ev.ty, .int .u64 ev.arg, .int .u64 ev.badge, .slice xo ev.ws.length cx]), (150, .pointer (some ⟨mb, 13, none⟩))]) rfl
    clear h96
    refine nd_batch tabOk2 tabZ_ok2 [(4, {})] [151, 5, 4, 3, 0, 1, 152] (T' := [(151, .agg #[.int .u16 ((curR Z a93).idx), .int .u32 ((curR Z a93).gen)]), (5, .pointer (some ⟨b15, 0, none⟩)), (4, .pointer (some ⟨b8, 0, none⟩)), (3, .pointer (some ⟨b2, 0, none⟩)), (0, .pointer (some ⟨mb, 0, none⟩)), (1, .agg #[.int .u8 1, .int .u32 ev.pick, .int .u64 ev.draw, .int .u32 ev.addr, .int .u32 ev.node, .int .u32 ev.dst, .int .u32 ev.xfer, .int .u8 ev.ty, .int .u64 ev.arg, .int .u64 ev.badge, .slice xo ev.ws.length cx]), (152, .pointer (some ⟨b15, 1, none⟩))]) (φ := True) (rest := [5]) h97 (by kernel_rfl) rfl trivial fun a98 h99 => ?_
    clear h97
    refine nd_op ?_
    refine op_store tabOk2 {k := 3} (L' := [(3, ⟨[.int .u16 0, .int .u32 0], ty3, true⟩), (b2, ⟨[.int .u8 1, .int .u32 ev.pick, .int .u64 ev.draw, .int .u32 ev.addr, .int .u32 ev.node, .int .u32 ev.dst, .int .u32 ev.xfer, .int .u8 ev.ty, .int .u64 ev.arg, .int .u64 ev.badge, .slice xo ev.ws.length cx], 35, false⟩), (b8, ⟨[.int .u8 0, .int .u16 0, .int .u32 0, .int .u64 0, .int .u64 0, .int .u64 0, .int .u64 0, .int .u64 0, .int .u8 0, .int .u8 0], 42, false⟩), (b15, ⟨[.int .u8 0, .int .u16 ((curR Z a93).idx), .int .u32 ((curR Z a93).gen), .int .u64 0, .int .u64 0, .int .u64 0, .int .u64 0, .int .u64 0, .int .u8 0, .int .u8 0], 42, false⟩)]) (φ := b15 = b15 ∧ Nat.ble (1 + 2) 10 = true) h99 rfl rfl rfl (by kernel_rfl) ⟨rfl, rfl⟩ fun w100 h101 => ?_
    clear h99
    refine nd_done ?_
    refine hK94 _ _ ?_
    clear hK94
    refine wp_seq_k fun K102 hK102 => ?_
    refine nd_start (l := [0, 1]) rfl ?_
    refine nd_batch tabOk2 tabZ_ok2 [(0, {k := 3})] [5, 4, 3, 0, 1, 153] (T' := [(5, .pointer (some ⟨b15, 0, none⟩)), (4, .pointer (some ⟨b8, 0, none⟩)), (3, .pointer (some ⟨b2, 0, none⟩)), (0, .pointer (some ⟨mb, 0, none⟩)), (1, .agg #[.int .u8 1, .int .u32 ev.pick, .int .u64 ev.draw, .int .u32 ev.addr, .int .u32 ev.node, .int .u32 ev.dst, .int .u32 ev.xfer, .int .u8 ev.ty, .int .u64 ev.arg, .int .u64 ev.badge, .slice xo ev.ws.length cx]), (153, .agg #[.int .u8 0, .int .u16 ((curR Z a93).idx), .int .u32 ((curR Z a93).gen), .int .u64 0, .int .u64 0, .int .u64 0, .int .u64 0, .int .u64 0, .int .u8 0, .int .u8 0])]) (φ := (b15 = b15 ∧ Nat.ble (0 + 10) 10 = true) ∧ True) (rest := [1]) h101 (by kernel_rfl) rfl ⟨⟨rfl, rfl⟩, trivial⟩ fun a103 h104 => ?_
    clear h101
    refine nd_op ?_
    refine op_store tabOk2 {k := 2} (L' := [(3, ⟨[.int .u16 0, .int .u32 0], ty3, true⟩), (b2, ⟨[.int .u8 1, .int .u32 ev.pick, .int .u64 ev.draw, .int .u32 ev.addr, .int .u32 ev.node, .int .u32 ev.dst, .int .u32 ev.xfer, .int .u8 ev.ty, .int .u64 ev.arg, .int .u64 ev.badge, .slice xo ev.ws.length cx], 35, false⟩), (b8, ⟨[.int .u8 0, .int .u16 ((curR Z a93).idx), .int .u32 ((curR Z a93).gen), .int .u64 0, .int .u64 0, .int .u64 0, .int .u64 0, .int .u64 0, .int .u8 0, .int .u8 0], 42, false⟩), (b15, ⟨[.int .u8 0, .int .u16 ((curR Z a93).idx), .int .u32 ((curR Z a93).gen), .int .u64 0, .int .u64 0, .int .u64 0, .int .u64 0, .int .u64 0, .int .u8 0, .int .u8 0], 42, false⟩)]) (φ := b8 = b8 ∧ Nat.ble (0 + 10) 10 = true) h104 rfl rfl rfl (by kernel_rfl) ⟨rfl, rfl⟩ fun w105 h106 => ?_
    clear h104
    refine nd_done ?_
    refine hK102 _ _ ?_
    clear hK102
    refine wp_ret ?_
    try simp only [Exit.then, Exit.inBlock]
    try rw [if_pos trivial]
    exact s_ret tabOk2 tabZ_ok2 h106 [(.cell 4 42, {k := 2})] (vs := [.agg #[.int .u8 0, .int .u16 ((curR Z a93).idx), .int .u32 ((curR Z a93).gen), .int .u64 0, .int .u64 0, .int .u64 0, .int .u64 0, .int .u64 0, .int .u8 0, .int .u8 0]]) (φ := (b8 = b8 ∧ Nat.ble (0 + 10) 10 = true) ∧ True) rfl (by kernel_rfl) ⟨⟨rfl, rfl⟩, trivial⟩ (by subst ea93 ea81 ea65; exact ⟨_, _, rfl, mg_end hH h106 hhoh92 rfl, rfl⟩)

theorem step20 (mb : Nat) (Z : MZ) (R : MR) (a : AK) (C : CP) (hI : MI Z a C) (ev : Ev) (he : EvOk ev) (xo : Option Addr) (cx : Nat) (hk0 : ev.kind ≠ 0) (hk1 : ev.kind ≠ 1) (hk2 : ev.kind ≥ 20) (w : World) (hH : MH mb Z R a C w) (hws : WordsAt (mdF mb Z R C) w xo ev.ws) :
    Calls Tryd.prog 15 #[.pointer (some ⟨mb, 0, none⟩), .agg #[.int .u8 ev.kind, .int .u32 ev.pick, .int .u64 ev.draw, .int .u32 ev.addr, .int .u32 ev.node, .int .u32 ev.dst, .int .u32 ev.xfer, .int .u8 ev.ty, .int .u64 ev.arg, .int .u64 ev.badge, .slice xo ev.ws.length cx]] w fun e w' => ∃ Z' R', e = .returned (.agg #[.int .u8 16, .int .u16 ((curR Z' a).idx), .int .u32 ((curR Z' a).gen), .int .u64 0, .int .u64 0, .int .u64 0, .int .u64 0, .int .u64 0, .int .u8 0, .int .u8 0]) ∧ MG mb Z R C w Z' R' a C w' ∧ Z' = Z := by
  have hP := hI.mp
  obtain ⟨ty3, hg3⟩ := hH.g3
  have hho := hH.ho
  have hkk := hH.md.k
  refine enter (n := 154) (K := mdF mb Z R C) (A := MD (mdF mb Z R C) w.heap.size mb Z R a C) (F := mdF mb Z R C) (T := [(0, .pointer (some ⟨mb, 0, none⟩)), (1, .agg #[.int .u8 ev.kind, .int .u32 ev.pick, .int .u64 ev.draw, .int .u32 ev.addr, .int .u32 ev.node, .int .u32 ev.dst, .int .u32 ev.xfer, .int .u8 ev.ty, .int .u64 ev.arg, .int .u64 ev.badge, .slice xo ev.ws.length cx])]) (L := [(3, ⟨[.int .u16 0, .int .u32 0], ty3, true⟩)]) (args := [.pointer (some ⟨mb, 0, none⟩), .agg #[.int .u8 ev.kind, .int .u32 ev.pick, .int .u64 ev.draw, .int .u32 ev.addr, .int .u32 ev.node, .int .u32 ev.dst, .int .u32 ev.xfer, .int .u8 ev.ty, .int .u64 ev.arg, .int .u64 ev.badge, .slice xo ev.ws.length cx]]) Tryd.func15 rfl rfl rfl rfl (kcons hg3 knil) (by simp) (kcons (by intro hq; cases hq) knil) hH.mD MD.stable hH.md.low (kcons (by intro hq; cases hq) knil) ?_
  intro ac h
  refine wp_seq_k fun K1 hK1 => ?_
  refine nd_start (l := [0, 1]) rfl ?_
  refine nd_op ?_
  refine op_new tabOk2 (cells := [.int .u8 ev.kind, .int .u32 ev.pick, .int .u64 ev.draw, .int .u32 ev.addr, .int .u32 ev.node, .int .u32 ev.dst, .int .u32 ev.xfer, .int .u8 ev.ty, .int .u64 ev.arg, .int .u64 ev.badge, .slice xo ev.ws.length cx]) (ty := 35) (ln := none) (L1 := fun b2 => [(3, ⟨[.int .u16 0, .int .u32 0], ty3, true⟩), (b2, ⟨[.int .u8 ev.kind, .int .u32 ev.pick, .int .u64 ev.draw, .int .u32 ev.addr, .int .u32 ev.node, .int .u32 ev.dst, .int .u32 ev.xfer, .int .u8 ev.ty, .int .u64 ev.arg, .int .u64 ev.badge, .slice xo ev.ws.length cx], 35, false⟩)]) h rfl rfl rfl rfl (by kernel_rfl) (fun _ => rfl) fun b2 w3 a4 h5 hf6 hn7 => ?_
  clear h
  refine nd_op ?_
  refine op_new tabOk2 (cells := [.int .u8 0, .int .u16 0, .int .u32 0, .int .u64 0, .int .u64 0, .int .u64 0, .int .u64 0, .int .u64 0, .int .u8 0, .int .u8 0]) (ty := 42) (ln := none) (L1 := fun b8 => [(3, ⟨[.int .u16 0, .int .u32 0], ty3, true⟩), (b2, ⟨[.int .u8 ev.kind, .int .u32 ev.pick, .int .u64 ev.draw, .int .u32 ev.addr, .int .u32 ev.node, .int .u32 ev.dst, .int .u32 ev.xfer, .int .u8 ev.ty, .int .u64 ev.arg, .int .u64 ev.badge, .slice xo ev.ws.length cx], 35, false⟩), (b8, ⟨[.int .u8 0, .int .u16 0, .int .u32 0, .int .u64 0, .int .u64 0, .int .u64 0, .int .u64 0, .int .u64 0, .int .u8 0, .int .u8 0], 42, false⟩)]) h5 rfl rfl rfl rfl (by kernel_rfl) (fun _ => rfl) fun b8 w9 a10 h11 hf12 hn13 => ?_
  clear h5
  refine nd_done ?_
  refine hK1 _ _ ?_
  clear hK1
  refine wp_seq_k fun K14 hK14 => ?_
  refine nd_start (l := [0]) rfl ?_
  refine nd_op ?_
  refine op_new tabOk2 (cells := [.int .u8 0, .int .u16 0, .int .u32 0, .int .u64 0, .int .u64 0, .int .u64 0, .int .u64 0, .int .u64 0, .int .u8 0, .int .u8 0]) (ty := 42) (ln := none) (L1 := fun b15 => [(3, ⟨[.int .u16 0, .int .u32 0], ty3, true⟩), (b2, ⟨[.int .u8 ev.kind, .int .u32 ev.pick, .int .u64 ev.draw, .int .u32 ev.addr, .int .u32 ev.node, .int .u32 ev.dst, .int .u32 ev.xfer, .int .u8 ev.ty, .int .u64 ev.arg, .int .u64 ev.badge, .slice xo ev.ws.length cx], 35, false⟩), (b8, ⟨[.int .u8 0, .int .u16 0, .int .u32 0, .int .u64 0, .int .u64 0, .int .u64 0, .int .u64 0, .int .u64 0, .int .u8 0, .int .u8 0], 42, false⟩), (b15, ⟨[.int .u8 0, .int .u16 0, .int .u32 0, .int .u64 0, .int .u64 0, .int .u64 0, .int .u64 0, .int .u64 0, .int .u8 0, .int .u8 0], 42, false⟩)]) h11 rfl rfl rfl rfl (by kernel_rfl) (fun _ => rfl) fun b15 w16 a17 h18 hf19 hn20 => ?_
  clear h11
  refine nd_done ?_
  refine hK14 _ _ ?_
  clear hK14
  refine wp_seq_k fun K21 hK21 => ?_
  refine wp_block ?_
  refine wp_seq_k fun K22 hK22 => ?_
  refine nd_start (l := [0, 1, 2, 3]) rfl ?_
  refine nd_batch tabOk2 tabZ_ok2 [(0, {}), (1, {k := 1}), (2, {}), (3, {})] [5, 4, 3, 0, 1, 45] (T' := [(5, .pointer (some ⟨b15, 0, none⟩)), (4, .pointer (some ⟨b8, 0, none⟩)), (3, .pointer (some ⟨b2, 0, none⟩)), (0, .pointer (some ⟨mb, 0, none⟩)), (1, .agg #[.int .u8 ev.kind, .int .u32 ev.pick, .int .u64 ev.draw, .int .u32 ev.addr, .int .u32 ev.node, .int .u32 ev.dst, .int .u32 ev.xfer, .int .u8 ev.ty, .int .u64 ev.arg, .int .u64 ev.badge, .slice xo ev.ws.length cx]), (45, .bool (ev.kind == 0))]) (φ := (b2 = b2 ∧ Nat.ble (0 + 1) 11 = true) ∧ True) (rest := []) h18 (by kernel_rfl) rfl ⟨⟨rfl, rfl⟩, trivial⟩ fun a23 h24 => ?_
  clear h18
  refine nd_done ?_
  refine hK22 _ _ ?_
  clear hK22
  refine c_split h24 (b := (ev.kind == 0)) rfl (fun hc25 => ?_) (fun hc25 => ?_)
  ·
    have hc25f : ev.kind = 0 := by simpa using hc25
    exact absurd (hk0) (by first | exact hc25f | (intro hz; exact hc25f hz) | omega | simp_all)
  ·
    have hc25f : ev.kind ≠ 0 := by simpa using hc25
    refine wp_seq_k fun K26 hK26 => ?_
    refine nd_start (l := [0, 1, 2, 3]) rfl ?_
    refine nd_batch tabOk2 tabZ_ok2 [(0, {}), (1, {k := 1}), (2, {}), (3, {})] [5, 4, 3, 0, 1, 68] (T' := [(5, .pointer (some ⟨b15, 0, none⟩)), (4, .pointer (some ⟨b8, 0, none⟩)), (3, .pointer (some ⟨b2, 0, none⟩)), (0, .pointer (some ⟨mb, 0, none⟩)), (1, .agg #[.int .u8 ev.kind, .int .u32 ev.pick, .int .u64 ev.draw, .int .u32 ev.addr, .int .u32 ev.node, .int .u32 ev.dst, .int .u32 ev.xfer, .int .u8 ev.ty, .int .u64 ev.arg, .int .u64 ev.badge, .slice xo ev.ws.length cx]), (68, .bool (ev.kind == 1))]) (φ := (b2 = b2 ∧ Nat.ble (0 + 1) 11 = true) ∧ True) (rest := []) h24 (by kernel_rfl) rfl ⟨⟨rfl, rfl⟩, trivial⟩ fun a27 h28 => ?_
    clear h24
    refine nd_done ?_
    refine hK26 _ _ ?_
    clear hK26
    refine c_split h28 (b := (ev.kind == 1)) rfl (fun hc29 => ?_) (fun hc29 => ?_)
    ·
      have hc29f : ev.kind = 1 := by simpa using hc29
      exact absurd (hk1) (by first | exact hc29f | (intro hz; exact hc29f hz) | omega | simp_all)
    ·
      have hc29f : ev.kind ≠ 1 := by simpa using hc29
      refine wp_seq_k fun K30 hK30 => ?_
      refine nd_start (l := [0, 1, 2, 3]) rfl ?_
      refine nd_batch tabOk2 tabZ_ok2 [(0, {}), (1, {k := 1}), (2, {}), (3, {})] [5, 4, 3, 0, 1, 128] (T' := [(5, .pointer (some ⟨b15, 0, none⟩)), (4, .pointer (some ⟨b8, 0, none⟩)), (3, .pointer (some ⟨b2, 0, none⟩)), (0, .pointer (some ⟨mb, 0, none⟩)), (1, .agg #[.int .u8 ev.kind, .int .u32 ev.pick, .int .u64 ev.draw, .int .u32 ev.addr, .int .u32 ev.node, .int .u32 ev.dst, .int .u32 ev.xfer, .int .u8 ev.ty, .int .u64 ev.arg, .int .u64 ev.badge, .slice xo ev.ws.length cx]), (128, .bool (decide (ev.kind ≥ 20)))]) (φ := (b2 = b2 ∧ Nat.ble (0 + 1) 11 = true) ∧ True) (rest := []) h28 (by kernel_rfl) rfl ⟨⟨rfl, rfl⟩, trivial⟩ fun a31 h32 => ?_
      clear h28
      refine nd_done ?_
      refine hK30 _ _ ?_
      clear hK30
      refine c_split h32 (b := decide (ev.kind ≥ 20)) rfl (fun hc33 => ?_) (fun hc33 => ?_)
      ·
        have hc33f : ev.kind ≥ 20 := by simpa using hc33
        refine nd_start (l := [0, 1]) rfl ?_
        refine nd_batch tabOk2 tabZ_ok2 [(0, {})] [5, 4, 3, 0, 1, 132] (T' := [(5, .pointer (some ⟨b15, 0, none⟩)), (4, .pointer (some ⟨b8, 0, none⟩)), (3, .pointer (some ⟨b2, 0, none⟩)), (0, .pointer (some ⟨mb, 0, none⟩)), (1, .agg #[.int .u8 ev.kind, .int .u32 ev.pick, .int .u64 ev.draw, .int .u32 ev.addr, .int .u32 ev.node, .int .u32 ev.dst, .int .u32 ev.xfer, .int .u8 ev.ty, .int .u64 ev.arg, .int .u64 ev.badge, .slice xo ev.ws.length cx]), (132, .pointer (some ⟨b15, 0, none⟩))]) (φ := True) (rest := [1]) h32 (by kernel_rfl) rfl trivial fun a34 h35 => ?_
        clear h32
        refine nd_op ?_
        refine op_store tabOk2 {k := 3} (L' := [(3, ⟨[.int .u16 0, .int .u32 0], ty3, true⟩), (b2, ⟨[.int .u8 ev.kind, .int .u32 ev.pick, .int .u64 ev.draw, .int .u32 ev.addr, .int .u32 ev.node, .int .u32 ev.dst, .int .u32 ev.xfer, .int .u8 ev.ty, .int .u64 ev.arg, .int .u64 ev.badge, .slice xo ev.ws.length cx], 35, false⟩), (b8, ⟨[.int .u8 0, .int .u16 0, .int .u32 0, .int .u64 0, .int .u64 0, .int .u64 0, .int .u64 0, .int .u64 0, .int .u8 0, .int .u8 0], 42, false⟩), (b15, ⟨[.int .u8 16, .int .u16 0, .int .u32 0, .int .u64 0, .int .u64 0, .int .u64 0, .int .u64 0, .int .u64 0, .int .u8 0, .int .u8 0], 42, false⟩)]) (φ := b15 = b15 ∧ Nat.ble (0 + 1) 10 = true) h35 rfl rfl rfl (by kernel_rfl) ⟨rfl, rfl⟩ fun w36 h37 => ?_
        clear h35
        refine nd_done ?_
        refine hK21 _ _ ?_
        clear hK21
        refine wp_seq_k fun K38 hK38 => ?_
        refine wp_seq_k fun K39 hK39 => ?_
        refine nd_start (l := [0, 1, 2]) rfl ?_
        refine nd_batch tabOk2 tabZ_ok2 [(0, {}), (1, {k := 3}), (2, {})] [5, 4, 3, 0, 1, 143] (T' := [(5, .pointer (some ⟨b15, 0, none⟩)), (4, .pointer (some ⟨b8, 0, none⟩)), (3, .pointer (some ⟨b2, 0, none⟩)), (0, .pointer (some ⟨mb, 0, none⟩)), (1, .agg #[.int .u8 ev.kind, .int .u32 ev.pick, .int .u64 ev.draw, .int .u32 ev.addr, .int .u32 ev.node, .int .u32 ev.dst, .int .u32 ev.xfer, .int .u8 ev.ty, .int .u64 ev.arg, .int .u64 ev.badge, .slice xo ev.ws.length cx]), (143, .bool false)]) (φ := (b15 = b15 ∧ Nat.ble (0 + 1) 10 = true) ∧ True) (rest := []) h37 (by kernel_rfl) rfl ⟨⟨rfl, rfl⟩, trivial⟩ fun a40 h41 => ?_
        clear h37
        refine nd_done ?_
        refine hK39 _ _ ?_
        clear hK39
        refine c_false h41 rfl ?_
        refine wp_skip ?_
        refine hK38 _ _ ?_
        clear hK38
        refine wp_seq_k fun K42 hK42 => ?_
        refine nd_start (l := [0, 1, 2, 3, 4, 5]) rfl ?_
        refine nd_batch tabOk2 tabZ_ok2 [(0, {}), (1, {}), (2, {})] [5, 4, 3, 0, 1, 150] (T' := [(5, .pointer (some ⟨b15, 0, none⟩)), (4, .pointer (some ⟨b8, 0, none⟩)), (3, .pointer (some ⟨b2, 0, none⟩)), (0, .pointer (some ⟨mb, 0, none⟩)), (1, .agg #[.int .u8 ev.kind, .int .u32 ev.pick, .int .u64 ev.draw, .int .u32 ev.addr, .int .u32 ev.node, .int .u32 ev.dst, .int .u32 ev.xfer, .int .u8 ev.ty, .int .u64 ev.arg, .int .u64 ev.badge, .slice xo ev.ws.length cx]), (150, .pointer (some ⟨mb, 13, none⟩))]) (φ := True) (rest := [3, 4, 5]) h41 (by kernel_rfl) rfl trivial fun a43 h44 => ?_
        clear h41
        refine nd_op ?_
        refine op_read (b := mb) (v := .agg #[.int .u16 ((curR Z a).idx), .int .u32 ((curR Z a).gen)]) h44 rfl rfl (rd_mA h44 (k := 13) (vs := [.int .u16 ((curR Z a).idx), .int .u32 ((curR Z a).gen)]) rfl rfl rfl rfl rfl md_cur) ?_
        have h45 := h44.put (d := some 151) (v := .agg #[.int .u16 ((curR Z a).idx), .int .u32 ((curR Z a).gen)]) (T' := [(151, .agg #[.int .u16 ((curR Z a).idx), .int .u32 ((curR Z a).gen)]), (5, .pointer (some ⟨b15, 0, none⟩)), (4, .pointer (some ⟨b8, 0, none⟩)), (3, .pointer (some ⟨b2, 0, none⟩)), (0, .pointer (some ⟨mb, 0, none⟩)), (1, .agg #[.int .u8 ev.kind, .int .u32 ev.pick, .int .u64 ev.draw, .int .u32 ev.addr, .int .u32 ev.node, .int .u32 ev.dst, .int .u32 ev.xfer, .int .u8 ev.ty, .int .u64 ev.arg, .int .u64 ev.badge, .slice xo ev.ws.length cx]), (150, .pointer (some ⟨mb, 13, none⟩))]) rfl
        clear h44
        refine nd_batch tabOk2 tabZ_ok2 [(4, {})] [151, 5, 4, 3, 0, 1, 152] (T' := [(151, .agg #[.int .u16 ((curR Z a).idx), .int .u32 ((curR Z a).gen)]), (5, .pointer (some ⟨b15, 0, none⟩)), (4, .pointer (some ⟨b8, 0, none⟩)), (3, .pointer (some ⟨b2, 0, none⟩)), (0, .pointer (some ⟨mb, 0, none⟩)), (1, .agg #[.int .u8 ev.kind, .int .u32 ev.pick, .int .u64 ev.draw, .int .u32 ev.addr, .int .u32 ev.node, .int .u32 ev.dst, .int .u32 ev.xfer, .int .u8 ev.ty, .int .u64 ev.arg, .int .u64 ev.badge, .slice xo ev.ws.length cx]), (152, .pointer (some ⟨b15, 1, none⟩))]) (φ := True) (rest := [5]) h45 (by kernel_rfl) rfl trivial fun a46 h47 => ?_
        clear h45
        refine nd_op ?_
        refine op_store tabOk2 {k := 3} (L' := [(3, ⟨[.int .u16 0, .int .u32 0], ty3, true⟩), (b2, ⟨[.int .u8 ev.kind, .int .u32 ev.pick, .int .u64 ev.draw, .int .u32 ev.addr, .int .u32 ev.node, .int .u32 ev.dst, .int .u32 ev.xfer, .int .u8 ev.ty, .int .u64 ev.arg, .int .u64 ev.badge, .slice xo ev.ws.length cx], 35, false⟩), (b8, ⟨[.int .u8 0, .int .u16 0, .int .u32 0, .int .u64 0, .int .u64 0, .int .u64 0, .int .u64 0, .int .u64 0, .int .u8 0, .int .u8 0], 42, false⟩), (b15, ⟨[.int .u8 16, .int .u16 ((curR Z a).idx), .int .u32 ((curR Z a).gen), .int .u64 0, .int .u64 0, .int .u64 0, .int .u64 0, .int .u64 0, .int .u8 0, .int .u8 0], 42, false⟩)]) (φ := b15 = b15 ∧ Nat.ble (1 + 2) 10 = true) h47 rfl rfl rfl (by kernel_rfl) ⟨rfl, rfl⟩ fun w48 h49 => ?_
        clear h47
        refine nd_done ?_
        refine hK42 _ _ ?_
        clear hK42
        refine wp_seq_k fun K50 hK50 => ?_
        refine nd_start (l := [0, 1]) rfl ?_
        refine nd_batch tabOk2 tabZ_ok2 [(0, {k := 3})] [5, 4, 3, 0, 1, 153] (T' := [(5, .pointer (some ⟨b15, 0, none⟩)), (4, .pointer (some ⟨b8, 0, none⟩)), (3, .pointer (some ⟨b2, 0, none⟩)), (0, .pointer (some ⟨mb, 0, none⟩)), (1, .agg #[.int .u8 ev.kind, .int .u32 ev.pick, .int .u64 ev.draw, .int .u32 ev.addr, .int .u32 ev.node, .int .u32 ev.dst, .int .u32 ev.xfer, .int .u8 ev.ty, .int .u64 ev.arg, .int .u64 ev.badge, .slice xo ev.ws.length cx]), (153, .agg #[.int .u8 16, .int .u16 ((curR Z a).idx), .int .u32 ((curR Z a).gen), .int .u64 0, .int .u64 0, .int .u64 0, .int .u64 0, .int .u64 0, .int .u8 0, .int .u8 0])]) (φ := (b15 = b15 ∧ Nat.ble (0 + 10) 10 = true) ∧ True) (rest := [1]) h49 (by kernel_rfl) rfl ⟨⟨rfl, rfl⟩, trivial⟩ fun a51 h52 => ?_
        clear h49
        refine nd_op ?_
        refine op_store tabOk2 {k := 2} (L' := [(3, ⟨[.int .u16 0, .int .u32 0], ty3, true⟩), (b2, ⟨[.int .u8 ev.kind, .int .u32 ev.pick, .int .u64 ev.draw, .int .u32 ev.addr, .int .u32 ev.node, .int .u32 ev.dst, .int .u32 ev.xfer, .int .u8 ev.ty, .int .u64 ev.arg, .int .u64 ev.badge, .slice xo ev.ws.length cx], 35, false⟩), (b8, ⟨[.int .u8 16, .int .u16 ((curR Z a).idx), .int .u32 ((curR Z a).gen), .int .u64 0, .int .u64 0, .int .u64 0, .int .u64 0, .int .u64 0, .int .u8 0, .int .u8 0], 42, false⟩), (b15, ⟨[.int .u8 16, .int .u16 ((curR Z a).idx), .int .u32 ((curR Z a).gen), .int .u64 0, .int .u64 0, .int .u64 0, .int .u64 0, .int .u64 0, .int .u8 0, .int .u8 0], 42, false⟩)]) (φ := b8 = b8 ∧ Nat.ble (0 + 10) 10 = true) h52 rfl rfl rfl (by kernel_rfl) ⟨rfl, rfl⟩ fun w53 h54 => ?_
        clear h52
        refine nd_done ?_
        refine hK50 _ _ ?_
        clear hK50
        refine wp_ret ?_
        try simp only [Exit.then, Exit.inBlock]
        try rw [if_pos trivial]
        exact s_ret tabOk2 tabZ_ok2 h54 [(.cell 4 42, {k := 2})] (vs := [.agg #[.int .u8 16, .int .u16 ((curR Z a).idx), .int .u32 ((curR Z a).gen), .int .u64 0, .int .u64 0, .int .u64 0, .int .u64 0, .int .u64 0, .int .u8 0, .int .u8 0]]) (φ := (b8 = b8 ∧ Nat.ble (0 + 10) 10 = true) ∧ True) rfl (by kernel_rfl) ⟨⟨rfl, rfl⟩, trivial⟩ (by exact ⟨_, _, rfl, mg_end hH h54 hho rfl, rfl⟩)
      ·
        have hc33f : ¬ ev.kind ≥ 20 := by simpa using hc33
        exact absurd (hk2) (by first | exact hc33f | (intro hz; exact hc33f hz) | omega | simp_all)

theorem stepI (mb : Nat) (Z : MZ) (R : MR) (a : AK) (C : CP) (hI : MI Z a C) (ev : Ev) (he : EvOk ev) (xo : Option Addr) (cx : Nat) (hk0 : ev.kind ≠ 0) (hk1 : ev.kind ≠ 1) (hk2 : ¬ ev.kind ≥ 20) (hc0 : a.cur = -1) (w : World) (hH : MH mb Z R a C w) (hws : WordsAt (mdF mb Z R C) w xo ev.ws) :
    Calls Tryd.prog 15 #[.pointer (some ⟨mb, 0, none⟩), .agg #[.int .u8 ev.kind, .int .u32 ev.pick, .int .u64 ev.draw, .int .u32 ev.addr, .int .u32 ev.node, .int .u32 ev.dst, .int .u32 ev.xfer, .int .u8 ev.ty, .int .u64 ev.arg, .int .u64 ev.badge, .slice xo ev.ws.length cx]] w fun e w' => ∃ Z' R', e = .returned (.agg #[.int .u8 1, .int .u16 0, .int .u32 0, .int .u64 0, .int .u64 0, .int .u64 0, .int .u64 0, .int .u64 0, .int .u8 0, .int .u8 0]) ∧ MG mb Z R C w Z' R' a C w' ∧ Z' = Z := by
  have hP := hI.mp
  have hcx : curR Z a = ⟨0, 0⟩ := by unfold curR; rw [if_pos hc0]
  obtain ⟨ty3, hg3⟩ := hH.g3
  have hho := hH.ho
  have hkk := hH.md.k
  refine enter (n := 154) (K := mdF mb Z R C) (A := MD (mdF mb Z R C) w.heap.size mb Z R a C) (F := mdF mb Z R C) (T := [(0, .pointer (some ⟨mb, 0, none⟩)), (1, .agg #[.int .u8 ev.kind, .int .u32 ev.pick, .int .u64 ev.draw, .int .u32 ev.addr, .int .u32 ev.node, .int .u32 ev.dst, .int .u32 ev.xfer, .int .u8 ev.ty, .int .u64 ev.arg, .int .u64 ev.badge, .slice xo ev.ws.length cx])]) (L := [(3, ⟨[.int .u16 0, .int .u32 0], ty3, true⟩)]) (args := [.pointer (some ⟨mb, 0, none⟩), .agg #[.int .u8 ev.kind, .int .u32 ev.pick, .int .u64 ev.draw, .int .u32 ev.addr, .int .u32 ev.node, .int .u32 ev.dst, .int .u32 ev.xfer, .int .u8 ev.ty, .int .u64 ev.arg, .int .u64 ev.badge, .slice xo ev.ws.length cx]]) Tryd.func15 rfl rfl rfl rfl (kcons hg3 knil) (by simp) (kcons (by intro hq; cases hq) knil) hH.mD MD.stable hH.md.low (kcons (by intro hq; cases hq) knil) ?_
  intro ac h
  refine wp_seq_k fun K1 hK1 => ?_
  refine nd_start (l := [0, 1]) rfl ?_
  refine nd_op ?_
  refine op_new tabOk2 (cells := [.int .u8 ev.kind, .int .u32 ev.pick, .int .u64 ev.draw, .int .u32 ev.addr, .int .u32 ev.node, .int .u32 ev.dst, .int .u32 ev.xfer, .int .u8 ev.ty, .int .u64 ev.arg, .int .u64 ev.badge, .slice xo ev.ws.length cx]) (ty := 35) (ln := none) (L1 := fun b2 => [(3, ⟨[.int .u16 0, .int .u32 0], ty3, true⟩), (b2, ⟨[.int .u8 ev.kind, .int .u32 ev.pick, .int .u64 ev.draw, .int .u32 ev.addr, .int .u32 ev.node, .int .u32 ev.dst, .int .u32 ev.xfer, .int .u8 ev.ty, .int .u64 ev.arg, .int .u64 ev.badge, .slice xo ev.ws.length cx], 35, false⟩)]) h rfl rfl rfl rfl (by kernel_rfl) (fun _ => rfl) fun b2 w3 a4 h5 hf6 hn7 => ?_
  clear h
  refine nd_op ?_
  refine op_new tabOk2 (cells := [.int .u8 0, .int .u16 0, .int .u32 0, .int .u64 0, .int .u64 0, .int .u64 0, .int .u64 0, .int .u64 0, .int .u8 0, .int .u8 0]) (ty := 42) (ln := none) (L1 := fun b8 => [(3, ⟨[.int .u16 0, .int .u32 0], ty3, true⟩), (b2, ⟨[.int .u8 ev.kind, .int .u32 ev.pick, .int .u64 ev.draw, .int .u32 ev.addr, .int .u32 ev.node, .int .u32 ev.dst, .int .u32 ev.xfer, .int .u8 ev.ty, .int .u64 ev.arg, .int .u64 ev.badge, .slice xo ev.ws.length cx], 35, false⟩), (b8, ⟨[.int .u8 0, .int .u16 0, .int .u32 0, .int .u64 0, .int .u64 0, .int .u64 0, .int .u64 0, .int .u64 0, .int .u8 0, .int .u8 0], 42, false⟩)]) h5 rfl rfl rfl rfl (by kernel_rfl) (fun _ => rfl) fun b8 w9 a10 h11 hf12 hn13 => ?_
  clear h5
  refine nd_done ?_
  refine hK1 _ _ ?_
  clear hK1
  refine wp_seq_k fun K14 hK14 => ?_
  refine nd_start (l := [0]) rfl ?_
  refine nd_op ?_
  refine op_new tabOk2 (cells := [.int .u8 0, .int .u16 0, .int .u32 0, .int .u64 0, .int .u64 0, .int .u64 0, .int .u64 0, .int .u64 0, .int .u8 0, .int .u8 0]) (ty := 42) (ln := none) (L1 := fun b15 => [(3, ⟨[.int .u16 0, .int .u32 0], ty3, true⟩), (b2, ⟨[.int .u8 ev.kind, .int .u32 ev.pick, .int .u64 ev.draw, .int .u32 ev.addr, .int .u32 ev.node, .int .u32 ev.dst, .int .u32 ev.xfer, .int .u8 ev.ty, .int .u64 ev.arg, .int .u64 ev.badge, .slice xo ev.ws.length cx], 35, false⟩), (b8, ⟨[.int .u8 0, .int .u16 0, .int .u32 0, .int .u64 0, .int .u64 0, .int .u64 0, .int .u64 0, .int .u64 0, .int .u8 0, .int .u8 0], 42, false⟩), (b15, ⟨[.int .u8 0, .int .u16 0, .int .u32 0, .int .u64 0, .int .u64 0, .int .u64 0, .int .u64 0, .int .u64 0, .int .u8 0, .int .u8 0], 42, false⟩)]) h11 rfl rfl rfl rfl (by kernel_rfl) (fun _ => rfl) fun b15 w16 a17 h18 hf19 hn20 => ?_
  clear h11
  refine nd_done ?_
  refine hK14 _ _ ?_
  clear hK14
  refine wp_seq_k fun K21 hK21 => ?_
  refine wp_block ?_
  refine wp_seq_k fun K22 hK22 => ?_
  refine nd_start (l := [0, 1, 2, 3]) rfl ?_
  refine nd_batch tabOk2 tabZ_ok2 [(0, {}), (1, {k := 1}), (2, {}), (3, {})] [5, 4, 3, 0, 1, 45] (T' := [(5, .pointer (some ⟨b15, 0, none⟩)), (4, .pointer (some ⟨b8, 0, none⟩)), (3, .pointer (some ⟨b2, 0, none⟩)), (0, .pointer (some ⟨mb, 0, none⟩)), (1, .agg #[.int .u8 ev.kind, .int .u32 ev.pick, .int .u64 ev.draw, .int .u32 ev.addr, .int .u32 ev.node, .int .u32 ev.dst, .int .u32 ev.xfer, .int .u8 ev.ty, .int .u64 ev.arg, .int .u64 ev.badge, .slice xo ev.ws.length cx]), (45, .bool (ev.kind == 0))]) (φ := (b2 = b2 ∧ Nat.ble (0 + 1) 11 = true) ∧ True) (rest := []) h18 (by kernel_rfl) rfl ⟨⟨rfl, rfl⟩, trivial⟩ fun a23 h24 => ?_
  clear h18
  refine nd_done ?_
  refine hK22 _ _ ?_
  clear hK22
  refine c_split h24 (b := (ev.kind == 0)) rfl (fun hc25 => ?_) (fun hc25 => ?_)
  ·
    have hc25f : ev.kind = 0 := by simpa using hc25
    exact absurd (hk0) (by first | exact hc25f | (intro hz; exact hc25f hz) | omega | simp_all)
  ·
    have hc25f : ev.kind ≠ 0 := by simpa using hc25
    refine wp_seq_k fun K26 hK26 => ?_
    refine nd_start (l := [0, 1, 2, 3]) rfl ?_
    refine nd_batch tabOk2 tabZ_ok2 [(0, {}), (1, {k := 1}), (2, {}), (3, {})] [5, 4, 3, 0, 1, 68] (T' := [(5, .pointer (some ⟨b15, 0, none⟩)), (4, .pointer (some ⟨b8, 0, none⟩)), (3, .pointer (some ⟨b2, 0, none⟩)), (0, .pointer (some ⟨mb, 0, none⟩)), (1, .agg #[.int .u8 ev.kind, .int .u32 ev.pick, .int .u64 ev.draw, .int .u32 ev.addr, .int .u32 ev.node, .int .u32 ev.dst, .int .u32 ev.xfer, .int .u8 ev.ty, .int .u64 ev.arg, .int .u64 ev.badge, .slice xo ev.ws.length cx]), (68, .bool (ev.kind == 1))]) (φ := (b2 = b2 ∧ Nat.ble (0 + 1) 11 = true) ∧ True) (rest := []) h24 (by kernel_rfl) rfl ⟨⟨rfl, rfl⟩, trivial⟩ fun a27 h28 => ?_
    clear h24
    refine nd_done ?_
    refine hK26 _ _ ?_
    clear hK26
    refine c_split h28 (b := (ev.kind == 1)) rfl (fun hc29 => ?_) (fun hc29 => ?_)
    ·
      have hc29f : ev.kind = 1 := by simpa using hc29
      exact absurd (hk1) (by first | exact hc29f | (intro hz; exact hc29f hz) | omega | simp_all)
    ·
      have hc29f : ev.kind ≠ 1 := by simpa using hc29
      refine wp_seq_k fun K30 hK30 => ?_
      refine nd_start (l := [0, 1, 2, 3]) rfl ?_
      refine nd_batch tabOk2 tabZ_ok2 [(0, {}), (1, {k := 1}), (2, {}), (3, {})] [5, 4, 3, 0, 1, 128] (T' := [(5, .pointer (some ⟨b15, 0, none⟩)), (4, .pointer (some ⟨b8, 0, none⟩)), (3, .pointer (some ⟨b2, 0, none⟩)), (0, .pointer (some ⟨mb, 0, none⟩)), (1, .agg #[.int .u8 ev.kind, .int .u32 ev.pick, .int .u64 ev.draw, .int .u32 ev.addr, .int .u32 ev.node, .int .u32 ev.dst, .int .u32 ev.xfer, .int .u8 ev.ty, .int .u64 ev.arg, .int .u64 ev.badge, .slice xo ev.ws.length cx]), (128, .bool (decide (ev.kind ≥ 20)))]) (φ := (b2 = b2 ∧ Nat.ble (0 + 1) 11 = true) ∧ True) (rest := []) h28 (by kernel_rfl) rfl ⟨⟨rfl, rfl⟩, trivial⟩ fun a31 h32 => ?_
      clear h28
      refine nd_done ?_
      refine hK30 _ _ ?_
      clear hK30
      refine c_split h32 (b := decide (ev.kind ≥ 20)) rfl (fun hc33 => ?_) (fun hc33 => ?_)
      ·
        have hc33f : ev.kind ≥ 20 := by simpa using hc33
        exact absurd (hk2) (by first | exact hc33f | (intro hz; exact hc33f hz) | omega | simp_all)
      ·
        have hc33f : ¬ ev.kind ≥ 20 := by simpa using hc33
        refine wp_seq_k fun K34 hK34 => ?_
        refine dr_start (KB := [3, b2, b8, b15, mb]) (Bi := [[0, 1, 2, 3, 4], [0, 1, 2, 3, 4], [0, 1, 2, 3, 4], [0, 1, 2, 3, 4], [0, 1, 2, 3, 4], [0, 1, 2, 3, 4], [0, 1, 2, 3, 4]]) mixed h32 fun w35 h36 => ?_
        clear h32
        refine dr_batch tabOk2 tabZ_ok2 (by repeat (first | with_reducible exact PF.body | with_reducible apply PF.inB | with_reducible apply PF.next)) [(0, {}), (1, {}), (2, {})] [5, 4, 3, 0, 1, 136] (T' := [(5, .pointer (some ⟨b15, 0, none⟩)), (4, .pointer (some ⟨b8, 0, none⟩)), (3, .pointer (some ⟨b2, 0, none⟩)), (0, .pointer (some ⟨mb, 0, none⟩)), (1, .agg #[.int .u8 ev.kind, .int .u32 ev.pick, .int .u64 ev.draw, .int .u32 ev.addr, .int .u32 ev.node, .int .u32 ev.dst, .int .u32 ev.xfer, .int .u8 ev.ty, .int .u64 ev.arg, .int .u64 ev.badge, .slice xo ev.ws.length cx]), (136, .pointer (some ⟨mb, 13, none⟩))]) (φ := True) (fuel := 4) h36 (by kernel_rfl) rfl (by kernel_rfl) (by kernel_rfl) ⟨trivial, trivial, trivial, trivial⟩ trivial fun a38 h39 => ?_
        clear h36
        refine dr_read (i := 3) (b := mb) (p := 4) (v := .agg #[.int .u16 0, .int .u32 0]) (fuel := 3) (by repeat (first | with_reducible exact PF.body | with_reducible apply PF.inB | with_reducible apply PF.next)) h39 rfl rfl rfl (by kernel_rfl) (by kernel_rfl) (by kernel_rfl) rfl (rd_mA h39 (k := 13) (vs := [.int .u16 0, .int .u32 0]) rfl rfl rfl rfl rfl (by have hq9 := md_cur (Z := Z) (R := R) (a := a); rw [hcx] at hq9; exact hq9)) ?_
        have h40 := h39.put (d := some 137) (v := .agg #[.int .u16 0, .int .u32 0]) (T' := [(137, .agg #[.int .u16 0, .int .u32 0]), (5, .pointer (some ⟨b15, 0, none⟩)), (4, .pointer (some ⟨b8, 0, none⟩)), (3, .pointer (some ⟨b2, 0, none⟩)), (0, .pointer (some ⟨mb, 0, none⟩)), (1, .agg #[.int .u8 ev.kind, .int .u32 ev.pick, .int .u64 ev.draw, .int .u32 ev.addr, .int .u32 ev.node, .int .u32 ev.dst, .int .u32 ev.xfer, .int .u8 ev.ty, .int .u64 ev.arg, .int .u64 ev.badge, .slice xo ev.ws.length cx]), (136, .pointer (some ⟨mb, 13, none⟩))]) rfl
        clear h39
        refine dr_batch tabOk2 tabZ_ok2 (by repeat (first | with_reducible exact PF.body | with_reducible apply PF.inB | with_reducible apply PF.next)) [(4, {k := 0, p := 0}), (5, {f := 2}), (6, {})] [5, 4, 3, 0, 1, 133] (T' := [(5, .pointer (some ⟨b15, 0, none⟩)), (4, .pointer (some ⟨b8, 0, none⟩)), (3, .pointer (some ⟨b2, 0, none⟩)), (0, .pointer (some ⟨mb, 0, none⟩)), (1, .agg #[.int .u8 ev.kind, .int .u32 ev.pick, .int .u64 ev.draw, .int .u32 ev.addr, .int .u32 ev.node, .int .u32 ev.dst, .int .u32 ev.xfer, .int .u8 ev.ty, .int .u64 ev.arg, .int .u64 ev.badge, .slice xo ev.ws.length cx]), (133, .bool true)]) (φ := (3 = 3 ∧ Nat.ble (0 + 2) 2 = true) ∧ EqRun Tryd.prog 39 (.agg #[.int .u16 0, .int .u32 0]) (.agg #[.int .u16 0, .int .u32 0]) true ∧ True) (fuel := 0) h40 (by kernel_rfl) rfl (by kernel_rfl) (by kernel_rfl) ⟨rfl, trivial, trivial, trivial⟩ ⟨⟨rfl, rfl⟩, (by have hq := runRf (⟨0, 0⟩ : Rf) (⟨0, 0⟩ : Rf); rw [show decide ((⟨0, 0⟩ : Rf) = (⟨0, 0⟩ : Rf)) = true from decide_eq_true rfl] at hq; exact hq), trivial⟩ fun a41 h42 => ?_
        clear h40
        refine wpAnyK_done (by kernel_rfl) ?_ _
        refine hK34 _ _ ?_
        clear hK34
        refine c_true h42 rfl ?_
        refine nd_start (l := [0, 1]) rfl ?_
        refine nd_batch tabOk2 tabZ_ok2 [(0, {})] [5, 4, 3, 0, 1, 140] (T' := [(5, .pointer (some ⟨b15, 0, none⟩)), (4, .pointer (some ⟨b8, 0, none⟩)), (3, .pointer (some ⟨b2, 0, none⟩)), (0, .pointer (some ⟨mb, 0, none⟩)), (1, .agg #[.int .u8 ev.kind, .int .u32 ev.pick, .int .u64 ev.draw, .int .u32 ev.addr, .int .u32 ev.node, .int .u32 ev.dst, .int .u32 ev.xfer, .int .u8 ev.ty, .int .u64 ev.arg, .int .u64 ev.badge, .slice xo ev.ws.length cx]), (140, .pointer (some ⟨b15, 0, none⟩))]) (φ := True) (rest := [1]) h42 (by kernel_rfl) rfl trivial fun a43 h44 => ?_
        clear h42
        refine nd_op ?_
        refine op_store tabOk2 {k := 3} (L' := [(3, ⟨[.int .u16 0, .int .u32 0], ty3, true⟩), (b2, ⟨[.int .u8 ev.kind, .int .u32 ev.pick, .int .u64 ev.draw, .int .u32 ev.addr, .int .u32 ev.node, .int .u32 ev.dst, .int .u32 ev.xfer, .int .u8 ev.ty, .int .u64 ev.arg, .int .u64 ev.badge, .slice xo ev.ws.length cx], 35, false⟩), (b8, ⟨[.int .u8 0, .int .u16 0, .int .u32 0, .int .u64 0, .int .u64 0, .int .u64 0, .int .u64 0, .int .u64 0, .int .u8 0, .int .u8 0], 42, false⟩), (b15, ⟨[.int .u8 1, .int .u16 0, .int .u32 0, .int .u64 0, .int .u64 0, .int .u64 0, .int .u64 0, .int .u64 0, .int .u8 0, .int .u8 0], 42, false⟩)]) (φ := b15 = b15 ∧ Nat.ble (0 + 1) 10 = true) h44 rfl rfl rfl (by kernel_rfl) ⟨rfl, rfl⟩ fun w45 h46 => ?_
        clear h44
        refine nd_done ?_
        refine hK21 _ _ ?_
        clear hK21
        refine wp_seq_k fun K47 hK47 => ?_
        refine wp_seq_k fun K48 hK48 => ?_
        refine nd_start (l := [0, 1, 2]) rfl ?_
        refine nd_batch tabOk2 tabZ_ok2 [(0, {}), (1, {k := 3}), (2, {})] [5, 4, 3, 0, 1, 143] (T' := [(5, .pointer (some ⟨b15, 0, none⟩)), (4, .pointer (some ⟨b8, 0, none⟩)), (3, .pointer (some ⟨b2, 0, none⟩)), (0, .pointer (some ⟨mb, 0, none⟩)), (1, .agg #[.int .u8 ev.kind, .int .u32 ev.pick, .int .u64 ev.draw, .int .u32 ev.addr, .int .u32 ev.node, .int .u32 ev.dst, .int .u32 ev.xfer, .int .u8 ev.ty, .int .u64 ev.arg, .int .u64 ev.badge, .slice xo ev.ws.length cx]), (143, .bool false)]) (φ := (b15 = b15 ∧ Nat.ble (0 + 1) 10 = true) ∧ True) (rest := []) h46 (by kernel_rfl) rfl ⟨⟨rfl, rfl⟩, trivial⟩ fun a49 h50 => ?_
        clear h46
        refine nd_done ?_
        refine hK48 _ _ ?_
        clear hK48
        refine c_false h50 rfl ?_
        refine wp_skip ?_
        refine hK47 _ _ ?_
        clear hK47
        refine wp_seq_k fun K51 hK51 => ?_
        refine nd_start (l := [0, 1, 2, 3, 4, 5]) rfl ?_
        refine nd_batch tabOk2 tabZ_ok2 [(0, {}), (1, {}), (2, {})] [5, 4, 3, 0, 1, 150] (T' := [(5, .pointer (some ⟨b15, 0, none⟩)), (4, .pointer (some ⟨b8, 0, none⟩)), (3, .pointer (some ⟨b2, 0, none⟩)), (0, .pointer (some ⟨mb, 0, none⟩)), (1, .agg #[.int .u8 ev.kind, .int .u32 ev.pick, .int .u64 ev.draw, .int .u32 ev.addr, .int .u32 ev.node, .int .u32 ev.dst, .int .u32 ev.xfer, .int .u8 ev.ty, .int .u64 ev.arg, .int .u64 ev.badge, .slice xo ev.ws.length cx]), (150, .pointer (some ⟨mb, 13, none⟩))]) (φ := True) (rest := [3, 4, 5]) h50 (by kernel_rfl) rfl trivial fun a52 h53 => ?_
        clear h50
        refine nd_op ?_
        refine op_read (b := mb) (v := .agg #[.int .u16 0, .int .u32 0]) h53 rfl rfl (rd_mA h53 (k := 13) (vs := [.int .u16 0, .int .u32 0]) rfl rfl rfl rfl rfl (by have hq9 := md_cur (Z := Z) (R := R) (a := a); rw [hcx] at hq9; exact hq9)) ?_
        have h54 := h53.put (d := some 151) (v := .agg #[.int .u16 0, .int .u32 0]) (T' := [(151, .agg #[.int .u16 0, .int .u32 0]), (5, .pointer (some ⟨b15, 0, none⟩)), (4, .pointer (some ⟨b8, 0, none⟩)), (3, .pointer (some ⟨b2, 0, none⟩)), (0, .pointer (some ⟨mb, 0, none⟩)), (1, .agg #[.int .u8 ev.kind, .int .u32 ev.pick, .int .u64 ev.draw, .int .u32 ev.addr, .int .u32 ev.node, .int .u32 ev.dst, .int .u32 ev.xfer, .int .u8 ev.ty, .int .u64 ev.arg, .int .u64 ev.badge, .slice xo ev.ws.length cx]), (150, .pointer (some ⟨mb, 13, none⟩))]) rfl
        clear h53
        refine nd_batch tabOk2 tabZ_ok2 [(4, {})] [151, 5, 4, 3, 0, 1, 152] (T' := [(151, .agg #[.int .u16 0, .int .u32 0]), (5, .pointer (some ⟨b15, 0, none⟩)), (4, .pointer (some ⟨b8, 0, none⟩)), (3, .pointer (some ⟨b2, 0, none⟩)), (0, .pointer (some ⟨mb, 0, none⟩)), (1, .agg #[.int .u8 ev.kind, .int .u32 ev.pick, .int .u64 ev.draw, .int .u32 ev.addr, .int .u32 ev.node, .int .u32 ev.dst, .int .u32 ev.xfer, .int .u8 ev.ty, .int .u64 ev.arg, .int .u64 ev.badge, .slice xo ev.ws.length cx]), (152, .pointer (some ⟨b15, 1, none⟩))]) (φ := True) (rest := [5]) h54 (by kernel_rfl) rfl trivial fun a55 h56 => ?_
        clear h54
        refine nd_op ?_
        refine op_store tabOk2 {k := 3} (L' := [(3, ⟨[.int .u16 0, .int .u32 0], ty3, true⟩), (b2, ⟨[.int .u8 ev.kind, .int .u32 ev.pick, .int .u64 ev.draw, .int .u32 ev.addr, .int .u32 ev.node, .int .u32 ev.dst, .int .u32 ev.xfer, .int .u8 ev.ty, .int .u64 ev.arg, .int .u64 ev.badge, .slice xo ev.ws.length cx], 35, false⟩), (b8, ⟨[.int .u8 0, .int .u16 0, .int .u32 0, .int .u64 0, .int .u64 0, .int .u64 0, .int .u64 0, .int .u64 0, .int .u8 0, .int .u8 0], 42, false⟩), (b15, ⟨[.int .u8 1, .int .u16 0, .int .u32 0, .int .u64 0, .int .u64 0, .int .u64 0, .int .u64 0, .int .u64 0, .int .u8 0, .int .u8 0], 42, false⟩)]) (φ := b15 = b15 ∧ Nat.ble (1 + 2) 10 = true) h56 rfl rfl rfl (by kernel_rfl) ⟨rfl, rfl⟩ fun w57 h58 => ?_
        clear h56
        refine nd_done ?_
        refine hK51 _ _ ?_
        clear hK51
        refine wp_seq_k fun K59 hK59 => ?_
        refine nd_start (l := [0, 1]) rfl ?_
        refine nd_batch tabOk2 tabZ_ok2 [(0, {k := 3})] [5, 4, 3, 0, 1, 153] (T' := [(5, .pointer (some ⟨b15, 0, none⟩)), (4, .pointer (some ⟨b8, 0, none⟩)), (3, .pointer (some ⟨b2, 0, none⟩)), (0, .pointer (some ⟨mb, 0, none⟩)), (1, .agg #[.int .u8 ev.kind, .int .u32 ev.pick, .int .u64 ev.draw, .int .u32 ev.addr, .int .u32 ev.node, .int .u32 ev.dst, .int .u32 ev.xfer, .int .u8 ev.ty, .int .u64 ev.arg, .int .u64 ev.badge, .slice xo ev.ws.length cx]), (153, .agg #[.int .u8 1, .int .u16 0, .int .u32 0, .int .u64 0, .int .u64 0, .int .u64 0, .int .u64 0, .int .u64 0, .int .u8 0, .int .u8 0])]) (φ := (b15 = b15 ∧ Nat.ble (0 + 10) 10 = true) ∧ True) (rest := [1]) h58 (by kernel_rfl) rfl ⟨⟨rfl, rfl⟩, trivial⟩ fun a60 h61 => ?_
        clear h58
        refine nd_op ?_
        refine op_store tabOk2 {k := 2} (L' := [(3, ⟨[.int .u16 0, .int .u32 0], ty3, true⟩), (b2, ⟨[.int .u8 ev.kind, .int .u32 ev.pick, .int .u64 ev.draw, .int .u32 ev.addr, .int .u32 ev.node, .int .u32 ev.dst, .int .u32 ev.xfer, .int .u8 ev.ty, .int .u64 ev.arg, .int .u64 ev.badge, .slice xo ev.ws.length cx], 35, false⟩), (b8, ⟨[.int .u8 1, .int .u16 0, .int .u32 0, .int .u64 0, .int .u64 0, .int .u64 0, .int .u64 0, .int .u64 0, .int .u8 0, .int .u8 0], 42, false⟩), (b15, ⟨[.int .u8 1, .int .u16 0, .int .u32 0, .int .u64 0, .int .u64 0, .int .u64 0, .int .u64 0, .int .u64 0, .int .u8 0, .int .u8 0], 42, false⟩)]) (φ := b8 = b8 ∧ Nat.ble (0 + 10) 10 = true) h61 rfl rfl rfl (by kernel_rfl) ⟨rfl, rfl⟩ fun w62 h63 => ?_
        clear h61
        refine nd_done ?_
        refine hK59 _ _ ?_
        clear hK59
        refine wp_ret ?_
        try simp only [Exit.then, Exit.inBlock]
        try rw [if_pos trivial]
        exact s_ret tabOk2 tabZ_ok2 h63 [(.cell 4 42, {k := 2})] (vs := [.agg #[.int .u8 1, .int .u16 0, .int .u32 0, .int .u64 0, .int .u64 0, .int .u64 0, .int .u64 0, .int .u64 0, .int .u8 0, .int .u8 0]]) (φ := (b8 = b8 ∧ Nat.ble (0 + 10) 10 = true) ∧ True) rfl (by kernel_rfl) ⟨⟨rfl, rfl⟩, trivial⟩ (by exact ⟨_, _, rfl, mg_end hH h63 hho rfl, rfl⟩)

theorem stepSr (mb : Nat) (Z : MZ) (R : MR) (a : AK) (C : CP) (hI : MI Z a C) (ev : Ev) (he : EvOk ev) (xo : Option Addr) (cx : Nat) (hk0 : ev.kind ≠ 0) (hk1 : ev.kind ≠ 1) (hk2 : ¬ ev.kind ≥ 20) (x : Nat) (hx : x ∈ sl Z.tl) (hcu : a.cur = (x : Int)) (QZ : MZ → Prop) (k : Int) (a2 : AK) (C2 : CP) (hcall : ∀ w1, MH mb Z R a C w1 → WordsAt (mdF mb Z R C) w1 xo ev.ws → Calls Tryd.prog 55 #[.pointer (some ⟨mb, 0, none⟩), .agg #[.int .u8 ev.kind, .int .u32 ev.pick, .int .u64 ev.draw, .int .u32 ev.addr, .int .u32 ev.node, .int .u32 ev.dst, .int .u32 ev.xfer, .int .u8 ev.ty, .int .u64 ev.arg, .int .u64 ev.badge, .slice xo ev.ws.length cx]] w1 fun e w' => e = .returned (.tuple #[.int .u8 k, .bool false]) ∧ ∃ Z2 R2, MG mb Z R C w1 Z2 R2 a2 C2 w' ∧ MP Z2 a2 ∧ (false = true → Z2 = Z) ∧ QZ Z2) (hkz : k ≠ 0) (w : World) (hH : MH mb Z R a C w) (hws : WordsAt (mdF mb Z R C) w xo ev.ws) :
    Calls Tryd.prog 15 #[.pointer (some ⟨mb, 0, none⟩), .agg #[.int .u8 ev.kind, .int .u32 ev.pick, .int .u64 ev.draw, .int .u32 ev.addr, .int .u32 ev.node, .int .u32 ev.dst, .int .u32 ev.xfer, .int .u8 ev.ty, .int .u64 ev.arg, .int .u64 ev.badge, .slice xo ev.ws.length cx]] w fun e w' => ∃ Z' R', e = .returned (.agg #[.int .u8 k, .int .u16 ((curR Z' a2).idx), .int .u32 ((curR Z' a2).gen), .int .u64 0, .int .u64 0, .int .u64 0, .int .u64 0, .int .u64 0, .int .u8 0, .int .u8 0]) ∧ MG mb Z R C w Z' R' a2 C2 w' ∧ QZ Z' := by
  have hP := hI.mp
  have hcx : curR Z a = Z.ky x := curR_of hcu
  obtain ⟨ty3, hg3⟩ := hH.g3
  have hho := hH.ho
  have hkk := hH.md.k
  refine enter (n := 154) (K := mdF mb Z R C) (A := MD (mdF mb Z R C) w.heap.size mb Z R a C) (F := mdF mb Z R C) (T := [(0, .pointer (some ⟨mb, 0, none⟩)), (1, .agg #[.int .u8 ev.kind, .int .u32 ev.pick, .int .u64 ev.draw, .int .u32 ev.addr, .int .u32 ev.node, .int .u32 ev.dst, .int .u32 ev.xfer, .int .u8 ev.ty, .int .u64 ev.arg, .int .u64 ev.badge, .slice xo ev.ws.length cx])]) (L := [(3, ⟨[.int .u16 0, .int .u32 0], ty3, true⟩)]) (args := [.pointer (some ⟨mb, 0, none⟩), .agg #[.int .u8 ev.kind, .int .u32 ev.pick, .int .u64 ev.draw, .int .u32 ev.addr, .int .u32 ev.node, .int .u32 ev.dst, .int .u32 ev.xfer, .int .u8 ev.ty, .int .u64 ev.arg, .int .u64 ev.badge, .slice xo ev.ws.length cx]]) Tryd.func15 rfl rfl rfl rfl (kcons hg3 knil) (by simp) (kcons (by intro hq; cases hq) knil) hH.mD MD.stable hH.md.low (kcons (by intro hq; cases hq) knil) ?_
  intro ac h
  refine wp_seq_k fun K1 hK1 => ?_
  refine nd_start (l := [0, 1]) rfl ?_
  refine nd_op ?_
  refine op_new tabOk2 (cells := [.int .u8 ev.kind, .int .u32 ev.pick, .int .u64 ev.draw, .int .u32 ev.addr, .int .u32 ev.node, .int .u32 ev.dst, .int .u32 ev.xfer, .int .u8 ev.ty, .int .u64 ev.arg, .int .u64 ev.badge, .slice xo ev.ws.length cx]) (ty := 35) (ln := none) (L1 := fun b2 => [(3, ⟨[.int .u16 0, .int .u32 0], ty3, true⟩), (b2, ⟨[.int .u8 ev.kind, .int .u32 ev.pick, .int .u64 ev.draw, .int .u32 ev.addr, .int .u32 ev.node, .int .u32 ev.dst, .int .u32 ev.xfer, .int .u8 ev.ty, .int .u64 ev.arg, .int .u64 ev.badge, .slice xo ev.ws.length cx], 35, false⟩)]) h rfl rfl rfl rfl (by kernel_rfl) (fun _ => rfl) fun b2 w3 a4 h5 hf6 hn7 => ?_
  clear h
  refine nd_op ?_
  refine op_new tabOk2 (cells := [.int .u8 0, .int .u16 0, .int .u32 0, .int .u64 0, .int .u64 0, .int .u64 0, .int .u64 0, .int .u64 0, .int .u8 0, .int .u8 0]) (ty := 42) (ln := none) (L1 := fun b8 => [(3, ⟨[.int .u16 0, .int .u32 0], ty3, true⟩), (b2, ⟨[.int .u8 ev.kind, .int .u32 ev.pick, .int .u64 ev.draw, .int .u32 ev.addr, .int .u32 ev.node, .int .u32 ev.dst, .int .u32 ev.xfer, .int .u8 ev.ty, .int .u64 ev.arg, .int .u64 ev.badge, .slice xo ev.ws.length cx], 35, false⟩), (b8, ⟨[.int .u8 0, .int .u16 0, .int .u32 0, .int .u64 0, .int .u64 0, .int .u64 0, .int .u64 0, .int .u64 0, .int .u8 0, .int .u8 0], 42, false⟩)]) h5 rfl rfl rfl rfl (by kernel_rfl) (fun _ => rfl) fun b8 w9 a10 h11 hf12 hn13 => ?_
  clear h5
  refine nd_done ?_
  refine hK1 _ _ ?_
  clear hK1
  refine wp_seq_k fun K14 hK14 => ?_
  refine nd_start (l := [0]) rfl ?_
  refine nd_op ?_
  refine op_new tabOk2 (cells := [.int .u8 0, .int .u16 0, .int .u32 0, .int .u64 0, .int .u64 0, .int .u64 0, .int .u64 0, .int .u64 0, .int .u8 0, .int .u8 0]) (ty := 42) (ln := none) (L1 := fun b15 => [(3, ⟨[.int .u16 0, .int .u32 0], ty3, true⟩), (b2, ⟨[.int .u8 ev.kind, .int .u32 ev.pick, .int .u64 ev.draw, .int .u32 ev.addr, .int .u32 ev.node, .int .u32 ev.dst, .int .u32 ev.xfer, .int .u8 ev.ty, .int .u64 ev.arg, .int .u64 ev.badge, .slice xo ev.ws.length cx], 35, false⟩), (b8, ⟨[.int .u8 0, .int .u16 0, .int .u32 0, .int .u64 0, .int .u64 0, .int .u64 0, .int .u64 0, .int .u64 0, .int .u8 0, .int .u8 0], 42, false⟩), (b15, ⟨[.int .u8 0, .int .u16 0, .int .u32 0, .int .u64 0, .int .u64 0, .int .u64 0, .int .u64 0, .int .u64 0, .int .u8 0, .int .u8 0], 42, false⟩)]) h11 rfl rfl rfl rfl (by kernel_rfl) (fun _ => rfl) fun b15 w16 a17 h18 hf19 hn20 => ?_
  clear h11
  refine nd_done ?_
  refine hK14 _ _ ?_
  clear hK14
  refine wp_seq_k fun K21 hK21 => ?_
  refine wp_block ?_
  refine wp_seq_k fun K22 hK22 => ?_
  refine nd_start (l := [0, 1, 2, 3]) rfl ?_
  refine nd_batch tabOk2 tabZ_ok2 [(0, {}), (1, {k := 1}), (2, {}), (3, {})] [5, 4, 3, 0, 1, 45] (T' := [(5, .pointer (some ⟨b15, 0, none⟩)), (4, .pointer (some ⟨b8, 0, none⟩)), (3, .pointer (some ⟨b2, 0, none⟩)), (0, .pointer (some ⟨mb, 0, none⟩)), (1, .agg #[.int .u8 ev.kind, .int .u32 ev.pick, .int .u64 ev.draw, .int .u32 ev.addr, .int .u32 ev.node, .int .u32 ev.dst, .int .u32 ev.xfer, .int .u8 ev.ty, .int .u64 ev.arg, .int .u64 ev.badge, .slice xo ev.ws.length cx]), (45, .bool (ev.kind == 0))]) (φ := (b2 = b2 ∧ Nat.ble (0 + 1) 11 = true) ∧ True) (rest := []) h18 (by kernel_rfl) rfl ⟨⟨rfl, rfl⟩, trivial⟩ fun a23 h24 => ?_
  clear h18
  refine nd_done ?_
  refine hK22 _ _ ?_
  clear hK22
  refine c_split h24 (b := (ev.kind == 0)) rfl (fun hc25 => ?_) (fun hc25 => ?_)
  ·
    have hc25f : ev.kind = 0 := by simpa using hc25
    exact absurd (hk0) (by first | exact hc25f | (intro hz; exact hc25f hz) | omega | simp_all)
  ·
    have hc25f : ev.kind ≠ 0 := by simpa using hc25
    refine wp_seq_k fun K26 hK26 => ?_
    refine nd_start (l := [0, 1, 2, 3]) rfl ?_
    refine nd_batch tabOk2 tabZ_ok2 [(0, {}), (1, {k := 1}), (2, {}), (3, {})] [5, 4, 3, 0, 1, 68] (T' := [(5, .pointer (some ⟨b15, 0, none⟩)), (4, .pointer (some ⟨b8, 0, none⟩)), (3, .pointer (some ⟨b2, 0, none⟩)), (0, .pointer (some ⟨mb, 0, none⟩)), (1, .agg #[.int .u8 ev.kind, .int .u32 ev.pick, .int .u64 ev.draw, .int .u32 ev.addr, .int .u32 ev.node, .int .u32 ev.dst, .int .u32 ev.xfer, .int .u8 ev.ty, .int .u64 ev.arg, .int .u64 ev.badge, .slice xo ev.ws.length cx]), (68, .bool (ev.kind == 1))]) (φ := (b2 = b2 ∧ Nat.ble (0 + 1) 11 = true) ∧ True) (rest := []) h24 (by kernel_rfl) rfl ⟨⟨rfl, rfl⟩, trivial⟩ fun a27 h28 => ?_
    clear h24
    refine nd_done ?_
    refine hK26 _ _ ?_
    clear hK26
    refine c_split h28 (b := (ev.kind == 1)) rfl (fun hc29 => ?_) (fun hc29 => ?_)
    ·
      have hc29f : ev.kind = 1 := by simpa using hc29
      exact absurd (hk1) (by first | exact hc29f | (intro hz; exact hc29f hz) | omega | simp_all)
    ·
      have hc29f : ev.kind ≠ 1 := by simpa using hc29
      refine wp_seq_k fun K30 hK30 => ?_
      refine nd_start (l := [0, 1, 2, 3]) rfl ?_
      refine nd_batch tabOk2 tabZ_ok2 [(0, {}), (1, {k := 1}), (2, {}), (3, {})] [5, 4, 3, 0, 1, 128] (T' := [(5, .pointer (some ⟨b15, 0, none⟩)), (4, .pointer (some ⟨b8, 0, none⟩)), (3, .pointer (some ⟨b2, 0, none⟩)), (0, .pointer (some ⟨mb, 0, none⟩)), (1, .agg #[.int .u8 ev.kind, .int .u32 ev.pick, .int .u64 ev.draw, .int .u32 ev.addr, .int .u32 ev.node, .int .u32 ev.dst, .int .u32 ev.xfer, .int .u8 ev.ty, .int .u64 ev.arg, .int .u64 ev.badge, .slice xo ev.ws.length cx]), (128, .bool (decide (ev.kind ≥ 20)))]) (φ := (b2 = b2 ∧ Nat.ble (0 + 1) 11 = true) ∧ True) (rest := []) h28 (by kernel_rfl) rfl ⟨⟨rfl, rfl⟩, trivial⟩ fun a31 h32 => ?_
      clear h28
      refine nd_done ?_
      refine hK30 _ _ ?_
      clear hK30
      refine c_split h32 (b := decide (ev.kind ≥ 20)) rfl (fun hc33 => ?_) (fun hc33 => ?_)
      ·
        have hc33f : ev.kind ≥ 20 := by simpa using hc33
        exact absurd (hk2) (by first | exact hc33f | (intro hz; exact hc33f hz) | omega | simp_all)
      ·
        have hc33f : ¬ ev.kind ≥ 20 := by simpa using hc33
        refine wp_seq_k fun K34 hK34 => ?_
        refine dr_start (KB := [3, b2, b8, b15, mb]) (Bi := [[0, 1, 2, 3, 4], [0, 1, 2, 3, 4], [0, 1, 2, 3, 4], [0, 1, 2, 3, 4], [0, 1, 2, 3, 4], [0, 1, 2, 3, 4], [0, 1, 2, 3, 4]]) mixed h32 fun w35 h36 => ?_
        clear h32
        refine dr_batch tabOk2 tabZ_ok2 (by repeat (first | with_reducible exact PF.body | with_reducible apply PF.inB | with_reducible apply PF.next)) [(0, {}), (1, {}), (2, {})] [5, 4, 3, 0, 1, 136] (T' := [(5, .pointer (some ⟨b15, 0, none⟩)), (4, .pointer (some ⟨b8, 0, none⟩)), (3, .pointer (some ⟨b2, 0, none⟩)), (0, .pointer (some ⟨mb, 0, none⟩)), (1, .agg #[.int .u8 ev.kind, .int .u32 ev.pick, .int .u64 ev.draw, .int .u32 ev.addr, .int .u32 ev.node, .int .u32 ev.dst, .int .u32 ev.xfer, .int .u8 ev.ty, .int .u64 ev.arg, .int .u64 ev.badge, .slice xo ev.ws.length cx]), (136, .pointer (some ⟨mb, 13, none⟩))]) (φ := True) (fuel := 4) h36 (by kernel_rfl) rfl (by kernel_rfl) (by kernel_rfl) ⟨trivial, trivial, trivial, trivial⟩ trivial fun a38 h39 => ?_
        clear h36
        refine dr_read (i := 3) (b := mb) (p := 4) (v := .agg #[.int .u16 ((Z.ky x).idx), .int .u32 ((Z.ky x).gen)]) (fuel := 3) (by repeat (first | with_reducible exact PF.body | with_reducible apply PF.inB | with_reducible apply PF.next)) h39 rfl rfl rfl (by kernel_rfl) (by kernel_rfl) (by kernel_rfl) rfl (rd_mA h39 (k := 13) (vs := [.int .u16 ((Z.ky x).idx), .int .u32 ((Z.ky x).gen)]) rfl rfl rfl rfl rfl (by rw [← hcx]; exact md_cur)) ?_
        have h40 := h39.put (d := some 137) (v := .agg #[.int .u16 ((Z.ky x).idx), .int .u32 ((Z.ky x).gen)]) (T' := [(137, .agg #[.int .u16 ((Z.ky x).idx), .int .u32 ((Z.ky x).gen)]), (5, .pointer (some ⟨b15, 0, none⟩)), (4, .pointer (some ⟨b8, 0, none⟩)), (3, .pointer (some ⟨b2, 0, none⟩)), (0, .pointer (some ⟨mb, 0, none⟩)), (1, .agg #[.int .u8 ev.kind, .int .u32 ev.pick, .int .u64 ev.draw, .int .u32 ev.addr, .int .u32 ev.node, .int .u32 ev.dst, .int .u32 ev.xfer, .int .u8 ev.ty, .int .u64 ev.arg, .int .u64 ev.badge, .slice xo ev.ws.length cx]), (136, .pointer (some ⟨mb, 13, none⟩))]) rfl
        clear h39
        refine dr_batch tabOk2 tabZ_ok2 (by repeat (first | with_reducible exact PF.body | with_reducible apply PF.inB | with_reducible apply PF.next)) [(4, {k := 0, p := 0}), (5, {f := 1}), (6, {})] [5, 4, 3, 0, 1, 133] (T' := [(5, .pointer (some ⟨b15, 0, none⟩)), (4, .pointer (some ⟨b8, 0, none⟩)), (3, .pointer (some ⟨b2, 0, none⟩)), (0, .pointer (some ⟨mb, 0, none⟩)), (1, .agg #[.int .u8 ev.kind, .int .u32 ev.pick, .int .u64 ev.draw, .int .u32 ev.addr, .int .u32 ev.node, .int .u32 ev.dst, .int .u32 ev.xfer, .int .u8 ev.ty, .int .u64 ev.arg, .int .u64 ev.badge, .slice xo ev.ws.length cx]), (133, .bool false)]) (φ := (3 = 3 ∧ Nat.ble (0 + 2) 2 = true) ∧ EqRun Tryd.prog 39 (.agg #[.int .u16 ((Z.ky x).idx), .int .u32 ((Z.ky x).gen)]) (.agg #[.int .u16 0, .int .u32 0]) false ∧ True) (fuel := 0) h40 (by kernel_rfl) rfl (by kernel_rfl) (by kernel_rfl) ⟨rfl, trivial, trivial, trivial⟩ ⟨⟨rfl, rfl⟩, (by have hq := runRf (Z.ky x) (⟨0, 0⟩ : Rf); rw [show decide (Z.ky x = (⟨0, 0⟩ : Rf)) = false from decide_eq_false (hkk.ne0 (hkk.tx x hx))] at hq; exact hq), trivial⟩ fun a41 h42 => ?_
        clear h40
        refine wpAnyK_done (by kernel_rfl) ?_ _
        refine hK34 _ _ ?_
        clear hK34
        refine c_false h42 rfl ?_
        refine wp_seq_k fun K43 hK43 => ?_
        refine dr_start (KB := [3, b2, b8, b15, mb, Z.tb]) (Bi := [[0, 1, 2, 3, 4, 5], [0, 1, 2, 3, 4, 5], [0, 1, 2, 3, 4, 5], [0, 1, 2, 3, 4, 5], [0, 1, 2, 3, 4, 5], [0, 1, 2, 3, 4, 5], [0, 1, 2, 3, 4, 5], [0, 1, 2, 3, 4, 5], [0, 1, 2, 3, 4, 5], [0, 1, 2, 3, 4, 5]]) mixed h42 fun w44 h45 => ?_
        clear h42
        refine dr_batch tabOk2 tabZ_ok2 (by repeat (first | with_reducible exact PF.body | with_reducible apply PF.inB | with_reducible apply PF.next)) [(0, {}), (1, {}), (2, {})] [5, 4, 3, 0, 1, 10] (T' := [(5, .pointer (some ⟨b15, 0, none⟩)), (4, .pointer (some ⟨b8, 0, none⟩)), (3, .pointer (some ⟨b2, 0, none⟩)), (0, .pointer (some ⟨mb, 0, none⟩)), (1, .agg #[.int .u8 ev.kind, .int .u32 ev.pick, .int .u64 ev.draw, .int .u32 ev.addr, .int .u32 ev.node, .int .u32 ev.dst, .int .u32 ev.xfer, .int .u8 ev.ty, .int .u64 ev.arg, .int .u64 ev.badge, .slice xo ev.ws.length cx]), (10, .pointer (some ⟨mb, 2, none⟩))]) (φ := True) (fuel := 7) h45 (by kernel_rfl) rfl (by kernel_rfl) (by kernel_rfl) ⟨trivial, trivial, trivial, trivial⟩ trivial fun a47 h48 => ?_
        clear h45
        refine dr_read (i := 3) (b := mb) (p := 4) (v := .map (some Z.tb)) (fuel := 6) (by repeat (first | with_reducible exact PF.body | with_reducible apply PF.inB | with_reducible apply PF.next)) h48 rfl rfl rfl (by kernel_rfl) (by kernel_rfl) (by kernel_rfl) rfl (rd_m h48 (k := 2) (v := .map (some Z.tb)) rfl rfl rfl rfl (md_p ⟨rfl, trivial⟩)) ?_
        have h49 := h48.put (d := some 11) (v := .map (some Z.tb)) (T' := [(11, .map (some Z.tb)), (5, .pointer (some ⟨b15, 0, none⟩)), (4, .pointer (some ⟨b8, 0, none⟩)), (3, .pointer (some ⟨b2, 0, none⟩)), (0, .pointer (some ⟨mb, 0, none⟩)), (1, .agg #[.int .u8 ev.kind, .int .u32 ev.pick, .int .u64 ev.draw, .int .u32 ev.addr, .int .u32 ev.node, .int .u32 ev.dst, .int .u32 ev.xfer, .int .u8 ev.ty, .int .u64 ev.arg, .int .u64 ev.badge, .slice xo ev.ws.length cx]), (10, .pointer (some ⟨mb, 2, none⟩))]) rfl
        clear h48
        refine dr_batch tabOk2 tabZ_ok2 (by repeat (first | with_reducible exact PF.body | with_reducible apply PF.inB | with_reducible apply PF.next)) [(4, {}), (5, {}), (6, {})] [11, 5, 4, 3, 0, 1, 14] (T' := [(11, .map (some Z.tb)), (5, .pointer (some ⟨b15, 0, none⟩)), (4, .pointer (some ⟨b8, 0, none⟩)), (3, .pointer (some ⟨b2, 0, none⟩)), (0, .pointer (some ⟨mb, 0, none⟩)), (1, .agg #[.int .u8 ev.kind, .int .u32 ev.pick, .int .u64 ev.draw, .int .u32 ev.addr, .int .u32 ev.node, .int .u32 ev.dst, .int .u32 ev.xfer, .int .u8 ev.ty, .int .u64 ev.arg, .int .u64 ev.badge, .slice xo ev.ws.length cx]), (14, .pointer (some ⟨mb, 13, none⟩))]) (φ := True) (fuel := 3) h49 (by kernel_rfl) rfl (by kernel_rfl) (by kernel_rfl) ⟨trivial, trivial, trivial, trivial⟩ trivial fun a50 h51 => ?_
        clear h49
        refine dr_read (i := 7) (b := mb) (p := 4) (v := .agg #[.int .u16 ((Z.ky x).idx), .int .u32 ((Z.ky x).gen)]) (fuel := 2) (by repeat (first | with_reducible exact PF.body | with_reducible apply PF.inB | with_reducible apply PF.next)) h51 rfl rfl rfl (by kernel_rfl) (by kernel_rfl) (by kernel_rfl) rfl (rd_mA h51 (k := 13) (vs := [.int .u16 ((Z.ky x).idx), .int .u32 ((Z.ky x).gen)]) rfl rfl rfl rfl rfl (by rw [← hcx]; exact md_cur)) ?_
        have h52 := h51.put (d := some 15) (v := .agg #[.int .u16 ((Z.ky x).idx), .int .u32 ((Z.ky x).gen)]) (T' := [(15, .agg #[.int .u16 ((Z.ky x).idx), .int .u32 ((Z.ky x).gen)]), (11, .map (some Z.tb)), (5, .pointer (some ⟨b15, 0, none⟩)), (4, .pointer (some ⟨b8, 0, none⟩)), (3, .pointer (some ⟨b2, 0, none⟩)), (0, .pointer (some ⟨mb, 0, none⟩)), (1, .agg #[.int .u8 ev.kind, .int .u32 ev.pick, .int .u64 ev.draw, .int .u32 ev.addr, .int .u32 ev.node, .int .u32 ev.dst, .int .u32 ev.xfer, .int .u8 ev.ty, .int .u64 ev.arg, .int .u64 ev.badge, .slice xo ev.ws.length cx]), (14, .pointer (some ⟨mb, 13, none⟩))]) rfl
        clear h51
        refine dr_read (i := 8) (b := Z.tb) (p := 5) (v := .pointer (some ⟨(Z.tp x), 0, none⟩)) (fuel := 1) (by repeat (first | with_reducible exact PF.body | with_reducible apply PF.inB | with_reducible apply PF.next)) h52 rfl rfl rfl (by kernel_rfl) (by kernel_rfl) (by kernel_rfl) rfl (rd_T h52 (x := x) hx rfl rfl rfl) ?_
        have h53 := h52.put (d := some 16) (v := .pointer (some ⟨(Z.tp x), 0, none⟩)) (T' := [(16, .pointer (some ⟨(Z.tp x), 0, none⟩)), (15, .agg #[.int .u16 ((Z.ky x).idx), .int .u32 ((Z.ky x).gen)]), (11, .map (some Z.tb)), (5, .pointer (some ⟨b15, 0, none⟩)), (4, .pointer (some ⟨b8, 0, none⟩)), (3, .pointer (some ⟨b2, 0, none⟩)), (0, .pointer (some ⟨mb, 0, none⟩)), (1, .agg #[.int .u8 ev.kind, .int .u32 ev.pick, .int .u64 ev.draw, .int .u32 ev.addr, .int .u32 ev.node, .int .u32 ev.dst, .int .u32 ev.xfer, .int .u8 ev.ty, .int .u64 ev.arg, .int .u64 ev.badge, .slice xo ev.ws.length cx]), (14, .pointer (some ⟨mb, 13, none⟩))]) rfl
        clear h52
        refine dr_batch tabOk2 tabZ_ok2 (by repeat (first | with_reducible exact PF.body | with_reducible apply PF.inB | with_reducible apply PF.next)) [(9, {})] [5, 4, 3, 0, 1, 6] (T' := [(5, .pointer (some ⟨b15, 0, none⟩)), (4, .pointer (some ⟨b8, 0, none⟩)), (3, .pointer (some ⟨b2, 0, none⟩)), (0, .pointer (some ⟨mb, 0, none⟩)), (1, .agg #[.int .u8 ev.kind, .int .u32 ev.pick, .int .u64 ev.draw, .int .u32 ev.addr, .int .u32 ev.node, .int .u32 ev.dst, .int .u32 ev.xfer, .int .u8 ev.ty, .int .u64 ev.arg, .int .u64 ev.badge, .slice xo ev.ws.length cx]), (6, .pointer (some ⟨(Z.tp x), 0, none⟩))]) (φ := True) (fuel := 0) h53 (by kernel_rfl) rfl (by kernel_rfl) (by kernel_rfl) ⟨trivial, trivial⟩ trivial fun a54 h55 => ?_
        clear h53
        refine wpAnyK_done (by kernel_rfl) ?_ _
        refine hK43 _ _ ?_
        clear hK43
        refine wp_seq_k fun K56 hK56 => ?_
        refine nd_start (l := [0]) rfl ?_
        refine nd_batch tabOk2 tabZ_ok2 [(0, {})] [5, 4, 3, 0, 1, 6, 7] (T' := [(5, .pointer (some ⟨b15, 0, none⟩)), (4, .pointer (some ⟨b8, 0, none⟩)), (3, .pointer (some ⟨b2, 0, none⟩)), (0, .pointer (some ⟨mb, 0, none⟩)), (1, .agg #[.int .u8 ev.kind, .int .u32 ev.pick, .int .u64 ev.draw, .int .u32 ev.addr, .int .u32 ev.node, .int .u32 ev.dst, .int .u32 ev.xfer, .int .u8 ev.ty, .int .u64 ev.arg, .int .u64 ev.badge, .slice xo ev.ws.length cx]), (6, .pointer (some ⟨(Z.tp x), 0, none⟩)), (7, .bool false)]) (φ := True) (rest := []) h55 (by kernel_rfl) rfl trivial fun a57 h58 => ?_
        clear h55
        refine nd_done ?_
        refine hK56 _ _ ?_
        clear hK56
        refine wp_seq_k fun K59 hK59 => ?_
        refine nd_start (l := [0, 1, 2, 3, 4, 5, 6, 7, 8]) rfl ?_
        refine nd_batch tabOk2 tabZ_ok2 [(0, {}), (1, {k := 1})] [5, 4, 3, 0, 1, 6, 7, 18, 19] (T' := [(5, .pointer (some ⟨b15, 0, none⟩)), (4, .pointer (some ⟨b8, 0, none⟩)), (3, .pointer (some ⟨b2, 0, none⟩)), (0, .pointer (some ⟨mb, 0, none⟩)), (1, .agg #[.int .u8 ev.kind, .int .u32 ev.pick, .int .u64 ev.draw, .int .u32 ev.addr, .int .u32 ev.node, .int .u32 ev.dst, .int .u32 ev.xfer, .int .u8 ev.ty, .int .u64 ev.arg, .int .u64 ev.badge, .slice xo ev.ws.length cx]), (6, .pointer (some ⟨(Z.tp x), 0, none⟩)), (7, .bool false), (18, .pointer (some ⟨mb, 0, none⟩)), (19, .agg #[.int .u8 ev.kind, .int .u32 ev.pick, .int .u64 ev.draw, .int .u32 ev.addr, .int .u32 ev.node, .int .u32 ev.dst, .int .u32 ev.xfer, .int .u8 ev.ty, .int .u64 ev.arg, .int .u64 ev.badge, .slice xo ev.ws.length cx])]) (φ := (b2 = b2 ∧ Nat.ble (0 + 11) 11 = true) ∧ True) (rest := [2, 3, 4, 5, 6, 7, 8]) h58 (by kernel_rfl) rfl ⟨⟨rfl, rfl⟩, trivial⟩ fun a60 h61 => ?_
        clear h58
        refine nd_op ?_
        refine op_call h61 rfl rfl rfl (callOk Tryd.func55 (by decide) rfl) (args := [.pointer (some ⟨mb, 0, none⟩), .agg #[.int .u8 ev.kind, .int .u32 ev.pick, .int .u64 ev.draw, .int .u32 ev.addr, .int .u32 ev.node, .int .u32 ev.dst, .int .u32 ev.xfer, .int .u8 ev.ty, .int .u64 ev.arg, .int .u64 ev.badge, .slice xo ev.ws.length cx]]) rfl (hcall _ (mh_of h61 hho (k := 0) rfl) (words_now h61 hws)) ?_
        rintro _ w62 ⟨rfl, Z2, R2, hg2, hP2, hz2, hQ2⟩
        refine ⟨_, rfl, ?_⟩
        have h63a := st_mg h61 hg2 (kcons (fun _ => rfl) (kcons (fun hq => by cases hq) (kcons (fun hq => by cases hq) (kcons (fun hq => by cases hq) knil))))
        have h63 := h63a.put (d := some 20) (v := .tuple #[.int .u8 k, .bool false]) (T' := [(20, .tuple #[.int .u8 k, .bool false]), (5, .pointer (some ⟨b15, 0, none⟩)), (4, .pointer (some ⟨b8, 0, none⟩)), (3, .pointer (some ⟨b2, 0, none⟩)), (0, .pointer (some ⟨mb, 0, none⟩)), (1, .agg #[.int .u8 ev.kind, .int .u32 ev.pick, .int .u64 ev.draw, .int .u32 ev.addr, .int .u32 ev.node, .int .u32 ev.dst, .int .u32 ev.xfer, .int .u8 ev.ty, .int .u64 ev.arg, .int .u64 ev.badge, .slice xo ev.ws.length cx]), (6, .pointer (some ⟨(Z.tp x), 0, none⟩)), (7, .bool false), (18, .pointer (some ⟨mb, 0, none⟩)), (19, .agg #[.int .u8 ev.kind, .int .u32 ev.pick, .int .u64 ev.draw, .int .u32 ev.addr, .int .u32 ev.node, .int .u32 ev.dst, .int .u32 ev.xfer, .int .u8 ev.ty, .int .u64 ev.arg, .int .u64 ev.badge, .slice xo ev.ws.length cx])]) rfl
        have hhoh63 := hg2.mh.ho
        clear h61 h63a
        refine nd_batch tabOk2 tabZ_ok2 [(3, {}), (4, {}), (5, {}), (6, {})] [5, 4, 3, 0, 1, 6, 7, 21, 22, 23] (T' := [(5, .pointer (some ⟨b15, 0, none⟩)), (4, .pointer (some ⟨b8, 0, none⟩)), (3, .pointer (some ⟨b2, 0, none⟩)), (0, .pointer (some ⟨mb, 0, none⟩)), (1, .agg #[.int .u8 ev.kind, .int .u32 ev.pick, .int .u64 ev.draw, .int .u32 ev.addr, .int .u32 ev.node, .int .u32 ev.dst, .int .u32 ev.xfer, .int .u8 ev.ty, .int .u64 ev.arg, .int .u64 ev.badge, .slice xo ev.ws.length cx]), (6, .pointer (some ⟨(Z.tp x), 0, none⟩)), (7, .bool false), (21, .int .u8 k), (22, .bool false), (23, .pointer (some ⟨b15, 0, none⟩))]) (φ := True) (rest := [7, 8]) h63 (by kernel_rfl) rfl trivial fun a64 h65 => ?_
        clear h63
        refine nd_op ?_
        refine op_store tabOk2 {k := 3} (L' := [(3, ⟨[.int .u16 0, .int .u32 0], ty3, true⟩), (b2, ⟨[.int .u8 ev.kind, .int .u32 ev.pick, .int .u64 ev.draw, .int .u32 ev.addr, .int .u32 ev.node, .int .u32 ev.dst, .int .u32 ev.xfer, .int .u8 ev.ty, .int .u64 ev.arg, .int .u64 ev.badge, .slice xo ev.ws.length cx], 35, false⟩), (b8, ⟨[.int .u8 0, .int .u16 0, .int .u32 0, .int .u64 0, .int .u64 0, .int .u64 0, .int .u64 0, .int .u64 0, .int .u8 0, .int .u8 0], 42, false⟩), (b15, ⟨[.int .u8 k, .int .u16 0, .int .u32 0, .int .u64 0, .int .u64 0, .int .u64 0, .int .u64 0, .int .u64 0, .int .u8 0, .int .u8 0], 42, false⟩)]) (φ := b15 = b15 ∧ Nat.ble (0 + 1) 10 = true) h65 rfl rfl rfl (by kernel_rfl) ⟨rfl, rfl⟩ fun w66 h67 => ?_
        clear h65
        refine nd_batch tabOk2 tabZ_ok2 [(8, {})] [5, 4, 3, 0, 1, 6, 7] (T' := [(5, .pointer (some ⟨b15, 0, none⟩)), (4, .pointer (some ⟨b8, 0, none⟩)), (3, .pointer (some ⟨b2, 0, none⟩)), (0, .pointer (some ⟨mb, 0, none⟩)), (1, .agg #[.int .u8 ev.kind, .int .u32 ev.pick, .int .u64 ev.draw, .int .u32 ev.addr, .int .u32 ev.node, .int .u32 ev.dst, .int .u32 ev.xfer, .int .u8 ev.ty, .int .u64 ev.arg, .int .u64 ev.badge, .slice xo ev.ws.length cx]), (6, .pointer (some ⟨(Z.tp x), 0, none⟩)), (7, .bool false)]) (φ := True) (rest := []) h67 (by kernel_rfl) rfl trivial fun a68 h69 => ?_
        clear h67
        refine nd_done ?_
        refine hK59 _ _ ?_
        clear hK59
        refine wp_seq_k fun K70 hK70 => ?_
        refine nd_start (l := [0]) rfl ?_
        refine nd_batch tabOk2 tabZ_ok2 [(0, {})] [5, 4, 3, 0, 1, 6, 7, 24] (T' := [(5, .pointer (some ⟨b15, 0, none⟩)), (4, .pointer (some ⟨b8, 0, none⟩)), (3, .pointer (some ⟨b2, 0, none⟩)), (0, .pointer (some ⟨mb, 0, none⟩)), (1, .agg #[.int .u8 ev.kind, .int .u32 ev.pick, .int .u64 ev.draw, .int .u32 ev.addr, .int .u32 ev.node, .int .u32 ev.dst, .int .u32 ev.xfer, .int .u8 ev.ty, .int .u64 ev.arg, .int .u64 ev.badge, .slice xo ev.ws.length cx]), (6, .pointer (some ⟨(Z.tp x), 0, none⟩)), (7, .bool false), (24, .bool false)]) (φ := True) (rest := []) h69 (by kernel_rfl) rfl trivial fun a71 h72 => ?_
        clear h69
        refine nd_done ?_
        refine hK70 _ _ ?_
        clear hK70
        refine c_false h72 rfl ?_
        refine wp_skip ?_
        refine hK21 _ _ ?_
        clear hK21
        refine wp_seq_k fun K73 hK73 => ?_
        refine wp_seq_k fun K74 hK74 => ?_
        refine nd_start (l := [0, 1, 2]) rfl ?_
        refine nd_batch tabOk2 tabZ_ok2 [(0, {}), (1, {k := 3}), (2, {})] [5, 4, 3, 0, 1, 6, 7, 143] (T' := [(5, .pointer (some ⟨b15, 0, none⟩)), (4, .pointer (some ⟨b8, 0, none⟩)), (3, .pointer (some ⟨b2, 0, none⟩)), (0, .pointer (some ⟨mb, 0, none⟩)), (1, .agg #[.int .u8 ev.kind, .int .u32 ev.pick, .int .u64 ev.draw, .int .u32 ev.addr, .int .u32 ev.node, .int .u32 ev.dst, .int .u32 ev.xfer, .int .u8 ev.ty, .int .u64 ev.arg, .int .u64 ev.badge, .slice xo ev.ws.length cx]), (6, .pointer (some ⟨(Z.tp x), 0, none⟩)), (7, .bool false), (143, .bool (k == 0))]) (φ := (b15 = b15 ∧ Nat.ble (0 + 1) 10 = true) ∧ True) (rest := []) h72 (by kernel_rfl) rfl ⟨⟨rfl, rfl⟩, trivial⟩ fun a75 h76 => ?_
        clear h72
        refine nd_done ?_
        refine hK74 _ _ ?_
        clear hK74
        refine c_split h76 (b := (k == 0)) rfl (fun hc77 => ?_) (fun hc77 => ?_)
        ·
          have hc77f : k = 0 := by simpa using hc77
          exact absurd hc77f hkz
        ·
          have hc77f : k ≠ 0 := by simpa using hc77
          refine wp_skip ?_
          refine hK73 _ _ ?_
          clear hK73
          refine wp_seq_k fun K78 hK78 => ?_
          refine nd_start (l := [0, 1, 2, 3, 4, 5]) rfl ?_
          refine nd_batch tabOk2 tabZ_ok2 [(0, {}), (1, {}), (2, {})] [5, 4, 3, 0, 1, 6, 7, 150] (T' := [(5, .pointer (some ⟨b15, 0, none⟩)), (4, .pointer (some ⟨b8, 0, none⟩)), (3, .pointer (some ⟨b2, 0, none⟩)), (0, .pointer (some ⟨mb, 0, none⟩)), (1, .agg #[.int .u8 ev.kind, .int .u32 ev.pick, .int .u64 ev.draw, .int .u32 ev.addr, .int .u32 ev.node, .int .u32 ev.dst, .int .u32 ev.xfer, .int .u8 ev.ty, .int .u64 ev.arg, .int .u64 ev.badge, .slice xo ev.ws.length cx]), (6, .pointer (some ⟨(Z.tp x), 0, none⟩)), (7, .bool false), (150, .pointer (some ⟨mb, 13, none⟩))]) (φ := True) (rest := [3, 4, 5]) h76 (by kernel_rfl) rfl trivial fun a79 h80 => ?_
          clear h76
          refine nd_op ?_
          refine op_read (b := mb) (v := .agg #[.int .u16 ((curR Z2 a2).idx), .int .u32 ((curR Z2 a2).gen)]) h80 rfl rfl (rd_mA h80 (k := 13) (vs := [.int .u16 ((curR Z2 a2).idx), .int .u32 ((curR Z2 a2).gen)]) rfl rfl rfl rfl rfl md_cur) ?_
          have h81 := h80.put (d := some 151) (v := .agg #[.int .u16 ((curR Z2 a2).idx), .int .u32 ((curR Z2 a2).gen)]) (T' := [(151, .agg #[.int .u16 ((curR Z2 a2).idx), .int .u32 ((curR Z2 a2).gen)]), (5, .pointer (some ⟨b15, 0, none⟩)), (4, .pointer (some ⟨b8, 0, none⟩)), (3, .pointer (some ⟨b2, 0, none⟩)), (0, .pointer (some ⟨mb, 0, none⟩)), (1, .agg #[.int .u8 ev.kind, .int .u32 ev.pick, .int .u64 ev.draw, .int .u32 ev.addr, .int .u32 ev.node, .int .u32 ev.dst, .int .u32 ev.xfer, .int .u8 ev.ty, .int .u64 ev.arg, .int .u64 ev.badge, .slice xo ev.ws.length cx]), (6, .pointer (some ⟨(Z.tp x), 0, none⟩)), (7, .bool false), (150, .pointer (some ⟨mb, 13, none⟩))]) rfl
          clear h80
          refine nd_batch tabOk2 tabZ_ok2 [(4, {})] [151, 5, 4, 3, 0, 1, 6, 7, 152] (T' := [(151, .agg #[.int .u16 ((curR Z2 a2).idx), .int .u32 ((curR Z2 a2).gen)]), (5, .pointer (some ⟨b15, 0, none⟩)), (4, .pointer (some ⟨b8, 0, none⟩)), (3, .pointer (some ⟨b2, 0, none⟩)), (0, .pointer (some ⟨mb, 0, none⟩)), (1, .agg #[.int .u8 ev.kind, .int .u32 ev.pick, .int .u64 ev.draw, .int .u32 ev.addr, .int .u32 ev.node, .int .u32 ev.dst, .int .u32 ev.xfer, .int .u8 ev.ty, .int .u64 ev.arg, .int .u64 ev.badge, .slice xo ev.ws.length cx]), (6, .pointer (some ⟨(Z.tp x), 0, none⟩)), (7, .bool false), (152, .pointer (some ⟨b15, 1, none⟩))]) (φ := True) (rest := [5]) h81 (by kernel_rfl) rfl trivial fun a82 h83 => ?_
          clear h81
          refine nd_op ?_
          refine op_store tabOk2 {k := 3} (L' := [(3, ⟨[.int .u16 0, .int .u32 0], ty3, true⟩), (b2, ⟨[.int .u8 ev.kind, .int .u32 ev.pick, .int .u64 ev.draw, .int .u32 ev.addr, .int .u32 ev.node, .int .u32 ev.dst, .int .u32 ev.xfer, .int .u8 ev.ty, .int .u64 ev.arg, .int .u64 ev.badge, .slice xo ev.ws.length cx], 35, false⟩), (b8, ⟨[.int .u8 0, .int .u16 0, .int .u32 0, .int .u64 0, .int .u64 0, .int .u64 0, .int .u64 0, .int .u64 0, .int .u8 0, .int .u8 0], 42, false⟩), (b15, ⟨[.int .u8 k, .int .u16 ((curR Z2 a2).idx), .int .u32 ((curR Z2 a2).gen), .int .u64 0, .int .u64 0, .int .u64 0, .int .u64 0, .int .u64 0, .int .u8 0, .int .u8 0], 42, false⟩)]) (φ := b15 = b15 ∧ Nat.ble (1 + 2) 10 = true) h83 rfl rfl rfl (by kernel_rfl) ⟨rfl, rfl⟩ fun w84 h85 => ?_
          clear h83
          refine nd_done ?_
          refine hK78 _ _ ?_
          clear hK78
          refine wp_seq_k fun K86 hK86 => ?_
          refine nd_start (l := [0, 1]) rfl ?_
          refine nd_batch tabOk2 tabZ_ok2 [(0, {k := 3})] [5, 4, 3, 0, 1, 6, 7, 153] (T' := [(5, .pointer (some ⟨b15, 0, none⟩)), (4, .pointer (some ⟨b8, 0, none⟩)), (3, .pointer (some ⟨b2, 0, none⟩)), (0, .pointer (some ⟨mb, 0, none⟩)), (1, .agg #[.int .u8 ev.kind, .int .u32 ev.pick, .int .u64 ev.draw, .int .u32 ev.addr, .int .u32 ev.node, .int .u32 ev.dst, .int .u32 ev.xfer, .int .u8 ev.ty, .int .u64 ev.arg, .int .u64 ev.badge, .slice xo ev.ws.length cx]), (6, .pointer (some ⟨(Z.tp x), 0, none⟩)), (7, .bool false), (153, .agg #[.int .u8 k, .int .u16 ((curR Z2 a2).idx), .int .u32 ((curR Z2 a2).gen), .int .u64 0, .int .u64 0, .int .u64 0, .int .u64 0, .int .u64 0, .int .u8 0, .int .u8 0])]) (φ := (b15 = b15 ∧ Nat.ble (0 + 10) 10 = true) ∧ True) (rest := [1]) h85 (by kernel_rfl) rfl ⟨⟨rfl, rfl⟩, trivial⟩ fun a87 h88 => ?_
          clear h85
          refine nd_op ?_
          refine op_store tabOk2 {k := 2} (L' := [(3, ⟨[.int .u16 0, .int .u32 0], ty3, true⟩), (b2, ⟨[.int .u8 ev.kind, .int .u32 ev.pick, .int .u64 ev.draw, .int .u32 ev.addr, .int .u32 ev.node, .int .u32 ev.dst, .int .u32 ev.xfer, .int .u8 ev.ty, .int .u64 ev.arg, .int .u64 ev.badge, .slice xo ev.ws.length cx], 35, false⟩), (b8, ⟨[.int .u8 k, .int .u16 ((curR Z2 a2).idx), .int .u32 ((curR Z2 a2).gen), .int .u64 0, .int .u64 0, .int .u64 0, .int .u64 0, .int .u64 0, .int .u8 0, .int .u8 0], 42, false⟩), (b15, ⟨[.int .u8 k, .int .u16 ((curR Z2 a2).idx), .int .u32 ((curR Z2 a2).gen), .int .u64 0, .int .u64 0, .int .u64 0, .int .u64 0, .int .u64 0, .int .u8 0, .int .u8 0], 42, false⟩)]) (φ := b8 = b8 ∧ Nat.ble (0 + 10) 10 = true) h88 rfl rfl rfl (by kernel_rfl) ⟨rfl, rfl⟩ fun w89 h90 => ?_
          clear h88
          refine nd_done ?_
          refine hK86 _ _ ?_
          clear hK86
          refine wp_ret ?_
          try simp only [Exit.then, Exit.inBlock]
          try rw [if_pos trivial]
          exact s_ret tabOk2 tabZ_ok2 h90 [(.cell 4 42, {k := 2})] (vs := [.agg #[.int .u8 k, .int .u16 ((curR Z2 a2).idx), .int .u32 ((curR Z2 a2).gen), .int .u64 0, .int .u64 0, .int .u64 0, .int .u64 0, .int .u64 0, .int .u8 0, .int .u8 0]]) (φ := (b8 = b8 ∧ Nat.ble (0 + 10) 10 = true) ∧ True) rfl (by kernel_rfl) ⟨⟨rfl, rfl⟩, trivial⟩ (by exact ⟨_, _, rfl, mg_end hH h90 hhoh63 rfl, hQ2⟩)

theorem stepSf (mb : Nat) (Z : MZ) (R : MR) (a : AK) (C : CP) (hI : MI Z a C) (ev : Ev) (he : EvOk ev) (xo : Option Addr) (cx : Nat) (hk0 : ev.kind ≠ 0) (hk1 : ev.kind ≠ 1) (hk2 : ¬ ev.kind ≥ 20) (x : Nat) (hx : x ∈ sl Z.tl) (hcu : a.cur = (x : Int)) (QZ : MZ → Prop) (a2 : AK) (C2 : CP) (hcall : ∀ w1, MH mb Z R a C w1 → WordsAt (mdF mb Z R C) w1 xo ev.ws → Calls Tryd.prog 55 #[.pointer (some ⟨mb, 0, none⟩), .agg #[.int .u8 ev.kind, .int .u32 ev.pick, .int .u64 ev.draw, .int .u32 ev.addr, .int .u32 ev.node, .int .u32 ev.dst, .int .u32 ev.xfer, .int .u8 ev.ty, .int .u64 ev.arg, .int .u64 ev.badge, .slice xo ev.ws.length cx]] w1 fun e w' => e = .returned (.tuple #[.int .u8 0, .bool false]) ∧ ∃ Z2 R2, MG mb Z R C w1 Z2 R2 a2 C2 w' ∧ MP Z2 a2 ∧ (false = true → Z2 = Z) ∧ QZ Z2)  (w : World) (hH : MH mb Z R a C w) (hws : WordsAt (mdF mb Z R C) w xo ev.ws) :
    Calls Tryd.prog 15 #[.pointer (some ⟨mb, 0, none⟩), .agg #[.int .u8 ev.kind, .int .u32 ev.pick, .int .u64 ev.draw, .int .u32 ev.addr, .int .u32 ev.node, .int .u32 ev.dst, .int .u32 ev.xfer, .int .u8 ev.ty, .int .u64 ev.arg, .int .u64 ev.badge, .slice xo ev.ws.length cx]] w fun e w' => ∃ Z' R', e = .returned (.agg #[.int .u8 0, .int .u16 ((curR Z' (schedA a2 ev.pick)).idx), .int .u32 ((curR Z' (schedA a2 ev.pick)).gen), .int .u64 0, .int .u64 0, .int .u64 0, .int .u64 0, .int .u64 0, .int .u8 0, .int .u8 0]) ∧ MG mb Z R C w Z' R' (schedA a2 ev.pick) C2 w' ∧ QZ Z' := by
  have hP := hI.mp
  have hcx : curR Z a = Z.ky x := curR_of hcu
  obtain ⟨ty3, hg3⟩ := hH.g3
  have hho := hH.ho
  have hkk := hH.md.k
  refine enter (n := 154) (K := mdF mb Z R C) (A := MD (mdF mb Z R C) w.heap.size mb Z R a C) (F := mdF mb Z R C) (T := [(0, .pointer (some ⟨mb, 0, none⟩)), (1, .agg #[.int .u8 ev.kind, .int .u32 ev.pick, .int .u64 ev.draw, .int .u32 ev.addr, .int .u32 ev.node, .int .u32 ev.dst, .int .u32 ev.xfer, .int .u8 ev.ty, .int .u64 ev.arg, .int .u64 ev.badge, .slice xo ev.ws.length cx])]) (L := [(3, ⟨[.int .u16 0, .int .u32 0], ty3, true⟩)]) (args := [.pointer (some ⟨mb, 0, none⟩), .agg #[.int .u8 ev.kind, .int .u32 ev.pick, .int .u64 ev.draw, .int .u32 ev.addr, .int .u32 ev.node, .int .u32 ev.dst, .int .u32 ev.xfer, .int .u8 ev.ty, .int .u64 ev.arg, .int .u64 ev.badge, .slice xo ev.ws.length cx]]) Tryd.func15 rfl rfl rfl rfl (kcons hg3 knil) (by simp) (kcons (by intro hq; cases hq) knil) hH.mD MD.stable hH.md.low (kcons (by intro hq; cases hq) knil) ?_
  intro ac h
  refine wp_seq_k fun K1 hK1 => ?_
  refine nd_start (l := [0, 1]) rfl ?_
  refine nd_op ?_
  refine op_new tabOk2 (cells := [.int .u8 ev.kind, .int .u32 ev.pick, .int .u64 ev.draw, .int .u32 ev.addr, .int .u32 ev.node, .int .u32 ev.dst, .int .u32 ev.xfer, .int .u8 ev.ty, .int .u64 ev.arg, .int .u64 ev.badge, .slice xo ev.ws.length cx]) (ty := 35) (ln := none) (L1 := fun b2 => [(3, ⟨[.int .u16 0, .int .u32 0], ty3, true⟩), (b2, ⟨[.int .u8 ev.kind, .int .u32 ev.pick, .int .u64 ev.draw, .int .u32 ev.addr, .int .u32 ev.node, .int .u32 ev.dst, .int .u32 ev.xfer, .int .u8 ev.ty, .int .u64 ev.arg, .int .u64 ev.badge, .slice xo ev.ws.length cx], 35, false⟩)]) h rfl rfl rfl rfl (by kernel_rfl) (fun _ => rfl) fun b2 w3 a4 h5 hf6 hn7 => ?_
  clear h
  refine nd_op ?_
  refine op_new tabOk2 (cells := [.int .u8 0, .int .u16 0, .int .u32 0, .int .u64 0, .int .u64 0, .int .u64 0, .int .u64 0, .int .u64 0, .int .u8 0, .int .u8 0]) (ty := 42) (ln := none) (L1 := fun b8 => [(3, ⟨[.int .u16 0, .int .u32 0], ty3, true⟩), (b2, ⟨[.int .u8 ev.kind, .int .u32 ev.pick, .int .u64 ev.draw, .int .u32 ev.addr, .int .u32 ev.node, .int .u32 ev.dst, .int .u32 ev.xfer, .int .u8 ev.ty, .int .u64 ev.arg, .int .u64 ev.badge, .slice xo ev.ws.length cx], 35, false⟩), (b8, ⟨[.int .u8 0, .int .u16 0, .int .u32 0, .int .u64 0, .int .u64 0, .int .u64 0, .int .u64 0, .int .u64 0, .int .u8 0, .int .u8 0], 42, false⟩)]) h5 rfl rfl rfl rfl (by kernel_rfl) (fun _ => rfl) fun b8 w9 a10 h11 hf12 hn13 => ?_
  clear h5
  refine nd_done ?_
  refine hK1 _ _ ?_
  clear hK1
  refine wp_seq_k fun K14 hK14 => ?_
  refine nd_start (l := [0]) rfl ?_
  refine nd_op ?_
  refine op_new tabOk2 (cells := [.int .u8 0, .int .u16 0, .int .u32 0, .int .u64 0, .int .u64 0, .int .u64 0, .int .u64 0, .int .u64 0, .int .u8 0, .int .u8 0]) (ty := 42) (ln := none) (L1 := fun b15 => [(3, ⟨[.int .u16 0, .int .u32 0], ty3, true⟩), (b2, ⟨[.int .u8 ev.kind, .int .u32 ev.pick, .int .u64 ev.draw, .int .u32 ev.addr, .int .u32 ev.node, .int .u32 ev.dst, .int .u32 ev.xfer, .int .u8 ev.ty, .int .u64 ev.arg, .int .u64 ev.badge, .slice xo ev.ws.length cx], 35, false⟩), (b8, ⟨[.int .u8 0, .int .u16 0, .int .u32 0, .int .u64 0, .int .u64 0, .int .u64 0, .int .u64 0, .int .u64 0, .int .u8 0, .int .u8 0], 42, false⟩), (b15, ⟨[.int .u8 0, .int .u16 0, .int .u32 0, .int .u64 0, .int .u64 0, .int .u64 0, .int .u64 0, .int .u64 0, .int .u8 0, .int .u8 0], 42, false⟩)]) h11 rfl rfl rfl rfl (by kernel_rfl) (fun _ => rfl) fun b15 w16 a17 h18 hf19 hn20 => ?_
  clear h11
  refine nd_done ?_
  refine hK14 _ _ ?_
  clear hK14
  refine wp_seq_k fun K21 hK21 => ?_
  refine wp_block ?_
  refine wp_seq_k fun K22 hK22 => ?_
  refine nd_start (l := [0, 1, 2, 3]) rfl ?_
  refine nd_batch tabOk2 tabZ_ok2 [(0, {}), (1, {k := 1}), (2, {}), (3, {})] [5, 4, 3, 0, 1, 45] (T' := [(5, .pointer (some ⟨b15, 0, none⟩)), (4, .pointer (some ⟨b8, 0, none⟩)), (3, .pointer (some ⟨b2, 0, none⟩)), (0, .pointer (some ⟨mb, 0, none⟩)), (1, .agg #[.int .u8 ev.kind, .int .u32 ev.pick, .int .u64 ev.draw, .int .u32 ev.addr, .int .u32 ev.node, .int .u32 ev.dst, .int .u32 ev.xfer, .int .u8 ev.ty, .int .u64 ev.arg, .int .u64 ev.badge, .slice xo ev.ws.length cx]), (45, .bool (ev.kind == 0))]) (φ := (b2 = b2 ∧ Nat.ble (0 + 1) 11 = true) ∧ True) (rest := []) h18 (by kernel_rfl) rfl ⟨⟨rfl, rfl⟩, trivial⟩ fun a23 h24 => ?_
  clear h18
  refine nd_done ?_
  refine hK22 _ _ ?_
  clear hK22
  refine c_split h24 (b := (ev.kind == 0)) rfl (fun hc25 => ?_) (fun hc25 => ?_)
  ·
    have hc25f : ev.kind = 0 := by simpa using hc25
    exact absurd (hk0) (by first | exact hc25f | (intro hz; exact hc25f hz) | omega | simp_all)
  ·
    have hc25f : ev.kind ≠ 0 := by simpa using hc25
    refine wp_seq_k fun K26 hK26 => ?_
    refine nd_start (l := [0, 1, 2, 3]) rfl ?_
    refine nd_batch tabOk2 tabZ_ok2 [(0, {}), (1, {k := 1}), (2, {}), (3, {})] [5, 4, 3, 0, 1, 68] (T' := [(5, .pointer (some ⟨b15, 0, none⟩)), (4, .pointer (some ⟨b8, 0, none⟩)), (3, .pointer (some ⟨b2, 0, none⟩)), (0, .pointer (some ⟨mb, 0, none⟩)), (1, .agg #[.int .u8 ev.kind, .int .u32 ev.pick, .int .u64 ev.draw, .int .u32 ev.addr, .int .u32 ev.node, .int .u32 ev.dst, .int .u32 ev.xfer, .int .u8 ev.ty, .int .u64 ev.arg, .int .u64 ev.badge, .slice xo ev.ws.length cx]), (68, .bool (ev.kind == 1))]) (φ := (b2 = b2 ∧ Nat.ble (0 + 1) 11 = true) ∧ True) (rest := []) h24 (by kernel_rfl) rfl ⟨⟨rfl, rfl⟩, trivial⟩ fun a27 h28 => ?_
    clear h24
    refine nd_done ?_
    refine hK26 _ _ ?_
    clear hK26
    refine c_split h28 (b := (ev.kind == 1)) rfl (fun hc29 => ?_) (fun hc29 => ?_)
    ·
      have hc29f : ev.kind = 1 := by simpa using hc29
      exact absurd (hk1) (by first | exact hc29f | (intro hz; exact hc29f hz) | omega | simp_all)
    ·
      have hc29f : ev.kind ≠ 1 := by simpa using hc29
      refine wp_seq_k fun K30 hK30 => ?_
      refine nd_start (l := [0, 1, 2, 3]) rfl ?_
      refine nd_batch tabOk2 tabZ_ok2 [(0, {}), (1, {k := 1}), (2, {}), (3, {})] [5, 4, 3, 0, 1, 128] (T' := [(5, .pointer (some ⟨b15, 0, none⟩)), (4, .pointer (some ⟨b8, 0, none⟩)), (3, .pointer (some ⟨b2, 0, none⟩)), (0, .pointer (some ⟨mb, 0, none⟩)), (1, .agg #[.int .u8 ev.kind, .int .u32 ev.pick, .int .u64 ev.draw, .int .u32 ev.addr, .int .u32 ev.node, .int .u32 ev.dst, .int .u32 ev.xfer, .int .u8 ev.ty, .int .u64 ev.arg, .int .u64 ev.badge, .slice xo ev.ws.length cx]), (128, .bool (decide (ev.kind ≥ 20)))]) (φ := (b2 = b2 ∧ Nat.ble (0 + 1) 11 = true) ∧ True) (rest := []) h28 (by kernel_rfl) rfl ⟨⟨rfl, rfl⟩, trivial⟩ fun a31 h32 => ?_
      clear h28
      refine nd_done ?_
      refine hK30 _ _ ?_
      clear hK30
      refine c_split h32 (b := decide (ev.kind ≥ 20)) rfl (fun hc33 => ?_) (fun hc33 => ?_)
      ·
        have hc33f : ev.kind ≥ 20 := by simpa using hc33
        exact absurd (hk2) (by first | exact hc33f | (intro hz; exact hc33f hz) | omega | simp_all)
      ·
        have hc33f : ¬ ev.kind ≥ 20 := by simpa using hc33
        refine wp_seq_k fun K34 hK34 => ?_
        refine dr_start (KB := [3, b2, b8, b15, mb]) (Bi := [[0, 1, 2, 3, 4], [0, 1, 2, 3, 4], [0, 1, 2, 3, 4], [0, 1, 2, 3, 4], [0, 1, 2, 3, 4], [0, 1, 2, 3, 4], [0, 1, 2, 3, 4]]) mixed h32 fun w35 h36 => ?_
        clear h32
        refine dr_batch tabOk2 tabZ_ok2 (by repeat (first | with_reducible exact PF.body | with_reducible apply PF.inB | with_reducible apply PF.next)) [(0, {}), (1, {}), (2, {})] [5, 4, 3, 0, 1, 136] (T' := [(5, .pointer (some ⟨b15, 0, none⟩)), (4, .pointer (some ⟨b8, 0, none⟩)), (3, .pointer (some ⟨b2, 0, none⟩)), (0, .pointer (some ⟨mb, 0, none⟩)), (1, .agg #[.int .u8 ev.kind, .int .u32 ev.pick, .int .u64 ev.draw, .int .u32 ev.addr, .int .u32 ev.node, .int .u32 ev.dst, .int .u32 ev.xfer, .int .u8 ev.ty, .int .u64 ev.arg, .int .u64 ev.badge, .slice xo ev.ws.length cx]), (136, .pointer (some ⟨mb, 13, none⟩))]) (φ := True) (fuel := 4) h36 (by kernel_rfl) rfl (by kernel_rfl) (by kernel_rfl) ⟨trivial, trivial, trivial, trivial⟩ trivial fun a38 h39 => ?_
        clear h36
        refine dr_read (i := 3) (b := mb) (p := 4) (v := .agg #[.int .u16 ((Z.ky x).idx), .int .u32 ((Z.ky x).gen)]) (fuel := 3) (by repeat (first | with_reducible exact PF.body | with_reducible apply PF.inB | with_reducible apply PF.next)) h39 rfl rfl rfl (by kernel_rfl) (by kernel_rfl) (by kernel_rfl) rfl (rd_mA h39 (k := 13) (vs := [.int .u16 ((Z.ky x).idx), .int .u32 ((Z.ky x).gen)]) rfl rfl rfl rfl rfl (by rw [← hcx]; exact md_cur)) ?_
        have h40 := h39.put (d := some 137) (v := .agg #[.int .u16 ((Z.ky x).idx), .int .u32 ((Z.ky x).gen)]) (T' := [(137, .agg #[.int .u16 ((Z.ky x).idx), .int .u32 ((Z.ky x).gen)]), (5, .pointer (some ⟨b15, 0, none⟩)), (4, .pointer (some ⟨b8, 0, none⟩)), (3, .pointer (some ⟨b2, 0, none⟩)), (0, .pointer (some ⟨mb, 0, none⟩)), (1, .agg #[.int .u8 ev.kind, .int .u32 ev.pick, .int .u64 ev.draw, .int .u32 ev.addr, .int .u32 ev.node, .int .u32 ev.dst, .int .u32 ev.xfer, .int .u8 ev.ty, .int .u64 ev.arg, .int .u64 ev.badge, .slice xo ev.ws.length cx]), (136, .pointer (some ⟨mb, 13, none⟩))]) rfl
        clear h39
        refine dr_batch tabOk2 tabZ_ok2 (by repeat (first | with_reducible exact PF.body | with_reducible apply PF.inB | with_reducible apply PF.next)) [(4, {k := 0, p := 0}), (5, {f := 1}), (6, {})] [5, 4, 3, 0, 1, 133] (T' := [(5, .pointer (some ⟨b15, 0, none⟩)), (4, .pointer (some ⟨b8, 0, none⟩)), (3, .pointer (some ⟨b2, 0, none⟩)), (0, .pointer (some ⟨mb, 0, none⟩)), (1, .agg #[.int .u8 ev.kind, .int .u32 ev.pick, .int .u64 ev.draw, .int .u32 ev.addr, .int .u32 ev.node, .int .u32 ev.dst, .int .u32 ev.xfer, .int .u8 ev.ty, .int .u64 ev.arg, .int .u64 ev.badge, .slice xo ev.ws.length cx]), (133, .bool false)]) (φ := (3 = 3 ∧ Nat.ble (0 + 2) 2 = true) ∧ EqRun Tryd.prog 39 (.agg #[.int .u16 ((Z.ky x).idx), .int .u32 ((Z.ky x).gen)]) (.agg #[.int .u16 0, .int .u32 0]) false ∧ True) (fuel := 0) h40 (by kernel_rfl) rfl (by kernel_rfl) (by kernel_rfl) ⟨rfl, trivial, trivial, trivial⟩ ⟨⟨rfl, rfl⟩, (by have hq := runRf (Z.ky x) (⟨0, 0⟩ : Rf); rw [show decide (Z.ky x = (⟨0, 0⟩ : Rf)) = false from decide_eq_false (hkk.ne0 (hkk.tx x hx))] at hq; exact hq), trivial⟩ fun a41 h42 => ?_
        clear h40
        refine wpAnyK_done (by kernel_rfl) ?_ _
        refine hK34 _ _ ?_
        clear hK34
        refine c_false h42 rfl ?_
        refine wp_seq_k fun K43 hK43 => ?_
        refine dr_start (KB := [3, b2, b8, b15, mb, Z.tb]) (Bi := [[0, 1, 2, 3, 4, 5], [0, 1, 2, 3, 4, 5], [0, 1, 2, 3, 4, 5], [0, 1, 2, 3, 4, 5], [0, 1, 2, 3, 4, 5], [0, 1, 2, 3, 4, 5], [0, 1, 2, 3, 4, 5], [0, 1, 2, 3, 4, 5], [0, 1, 2, 3, 4, 5], [0, 1, 2, 3, 4, 5]]) mixed h42 fun w44 h45 => ?_
        clear h42
        refine dr_batch tabOk2 tabZ_ok2 (by repeat (first | with_reducible exact PF.body | with_reducible apply PF.inB | with_reducible apply PF.next)) [(0, {}), (1, {}), (2, {})] [5, 4, 3, 0, 1, 10] (T' := [(5, .pointer (some ⟨b15, 0, none⟩)), (4, .pointer (some ⟨b8, 0, none⟩)), (3, .pointer (some ⟨b2, 0, none⟩)), (0, .pointer (some ⟨mb, 0, none⟩)), (1, .agg #[.int .u8 ev.kind, .int .u32 ev.pick, .int .u64 ev.draw, .int .u32 ev.addr, .int .u32 ev.node, .int .u32 ev.dst, .int .u32 ev.xfer, .int .u8 ev.ty, .int .u64 ev.arg, .int .u64 ev.badge, .slice xo ev.ws.length cx]), (10, .pointer (some ⟨mb, 2, none⟩))]) (φ := True) (fuel := 7) h45 (by kernel_rfl) rfl (by kernel_rfl) (by kernel_rfl) ⟨trivial, trivial, trivial, trivial⟩ trivial fun a47 h48 => ?_
        clear h45
        refine dr_read (i := 3) (b := mb) (p := 4) (v := .map (some Z.tb)) (fuel := 6) (by repeat (first | with_reducible exact PF.body | with_reducible apply PF.inB | with_reducible apply PF.next)) h48 rfl rfl rfl (by kernel_rfl) (by kernel_rfl) (by kernel_rfl) rfl (rd_m h48 (k := 2) (v := .map (some Z.tb)) rfl rfl rfl rfl (md_p ⟨rfl, trivial⟩)) ?_
        have h49 := h48.put (d := some 11) (v := .map (some Z.tb)) (T' := [(11, .map (some Z.tb)), (5, .pointer (some ⟨b15, 0, none⟩)), (4, .pointer (some ⟨b8, 0, none⟩)), (3, .pointer (some ⟨b2, 0, none⟩)), (0, .pointer (some ⟨mb, 0, none⟩)), (1, .agg #[.int .u8 ev.kind, .int .u32 ev.pick, .int .u64 ev.draw, .int .u32 ev.addr, .int .u32 ev.node, .int .u32 ev.dst, .int .u32 ev.xfer, .int .u8 ev.ty, .int .u64 ev.arg, .int .u64 ev.badge, .slice xo ev.ws.length cx]), (10, .pointer (some ⟨mb, 2, none⟩))]) rfl
        clear h48
        refine dr_batch tabOk2 tabZ_ok2 (by repeat (first | with_reducible exact PF.body | with_reducible apply PF.inB | with_reducible apply PF.next)) [(4, {}), (5, {}), (6, {})] [11, 5, 4, 3, 0, 1, 14] (T' := [(11, .map (some Z.tb)), (5, .pointer (some ⟨b15, 0, none⟩)), (4, .pointer (some ⟨b8, 0, none⟩)), (3, .pointer (some ⟨b2, 0, none⟩)), (0, .pointer (some ⟨mb, 0, none⟩)), (1, .agg #[.int .u8 ev.kind, .int .u32 ev.pick, .int .u64 ev.draw, .int .u32 ev.addr, .int .u32 ev.node, .int .u32 ev.dst, .int .u32 ev.xfer, .int .u8 ev.ty, .int .u64 ev.arg, .int .u64 ev.badge, .slice xo ev.ws.length cx]), (14, .pointer (some ⟨mb, 13, none⟩))]) (φ := True) (fuel := 3) h49 (by kernel_rfl) rfl (by kernel_rfl) (by kernel_rfl) ⟨trivial, trivial, trivial, trivial⟩ trivial fun a50 h51 => ?_
        clear h49
        refine dr_read (i := 7) (b := mb) (p := 4) (v := .agg #[.int .u16 ((Z.ky x).idx), .int .u32 ((Z.ky x).gen)]) (fuel := 2) (by repeat (first | with_reducible exact PF.body | with_reducible apply PF.inB | with_reducible apply PF.next)) h51 rfl rfl rfl (by kernel_rfl) (by kernel_rfl) (by kernel_rfl) rfl (rd_mA h51 (k := 13) (vs := [.int .u16 ((Z.ky x).idx), .int .u32 ((Z.ky x).gen)]) rfl rfl rfl rfl rfl (by rw [← hcx]; exact md_cur)) ?_
        have h52 := h51.put (d := some 15) (v := .agg #[.int .u16 ((Z.ky x).idx), .int .u32 ((Z.ky x).gen)]) (T' := [(15, .agg #[.int .u16 ((Z.ky x).idx), .int .u32 ((Z.ky x).gen)]), (11, .map (some Z.tb)), (5, .pointer (some ⟨b15, 0, none⟩)), (4, .pointer (some ⟨b8, 0, none⟩)), (3, .pointer (some ⟨b2, 0, none⟩)), (0, .pointer (some ⟨mb, 0, none⟩)), (1, .agg #[.int .u8 ev.kind, .int .u32 ev.pick, .int .u64 ev.draw, .int .u32 ev.addr, .int .u32 ev.node, .int .u32 ev.dst, .int .u32 ev.xfer, .int .u8 ev.ty, .int .u64 ev.arg, .int .u64 ev.badge, .slice xo ev.ws.length cx]), (14, .pointer (some ⟨mb, 13, none⟩))]) rfl
        clear h51
        refine dr_read (i := 8) (b := Z.tb) (p := 5) (v := .pointer (some ⟨(Z.tp x), 0, none⟩)) (fuel := 1) (by repeat (first | with_reducible exact PF.body | with_reducible apply PF.inB | with_reducible apply PF.next)) h52 rfl rfl rfl (by kernel_rfl) (by kernel_rfl) (by kernel_rfl) rfl (rd_T h52 (x := x) hx rfl rfl rfl) ?_
        have h53 := h52.put (d := some 16) (v := .pointer (some ⟨(Z.tp x), 0, none⟩)) (T' := [(16, .pointer (some ⟨(Z.tp x), 0, none⟩)), (15, .agg #[.int .u16 ((Z.ky x).idx), .int .u32 ((Z.ky x).gen)]), (11, .map (some Z.tb)), (5, .pointer (some ⟨b15, 0, none⟩)), (4, .pointer (some ⟨b8, 0, none⟩)), (3, .pointer (some ⟨b2, 0, none⟩)), (0, .pointer (some ⟨mb, 0, none⟩)), (1, .agg #[.int .u8 ev.kind, .int .u32 ev.pick, .int .u64 ev.draw, .int .u32 ev.addr, .int .u32 ev.node, .int .u32 ev.dst, .int .u32 ev.xfer, .int .u8 ev.ty, .int .u64 ev.arg, .int .u64 ev.badge, .slice xo ev.ws.length cx]), (14, .pointer (some ⟨mb, 13, none⟩))]) rfl
        clear h52
        refine dr_batch tabOk2 tabZ_ok2 (by repeat (first | with_reducible exact PF.body | with_reducible apply PF.inB | with_reducible apply PF.next)) [(9, {})] [5, 4, 3, 0, 1, 6] (T' := [(5, .pointer (some ⟨b15, 0, none⟩)), (4, .pointer (some ⟨b8, 0, none⟩)), (3, .pointer (some ⟨b2, 0, none⟩)), (0, .pointer (some ⟨mb, 0, none⟩)), (1, .agg #[.int .u8 ev.kind, .int .u32 ev.pick, .int .u64 ev.draw, .int .u32 ev.addr, .int .u32 ev.node, .int .u32 ev.dst, .int .u32 ev.xfer, .int .u8 ev.ty, .int .u64 ev.arg, .int .u64 ev.badge, .slice xo ev.ws.length cx]), (6, .pointer (some ⟨(Z.tp x), 0, none⟩))]) (φ := True) (fuel := 0) h53 (by kernel_rfl) rfl (by kernel_rfl) (by kernel_rfl) ⟨trivial, trivial⟩ trivial fun a54 h55 => ?_
        clear h53
        refine wpAnyK_done (by kernel_rfl) ?_ _
        refine hK43 _ _ ?_
        clear hK43
        refine wp_seq_k fun K56 hK56 => ?_
        refine nd_start (l := [0]) rfl ?_
        refine nd_batch tabOk2 tabZ_ok2 [(0, {})] [5, 4, 3, 0, 1, 6, 7] (T' := [(5, .pointer (some ⟨b15, 0, none⟩)), (4, .pointer (some ⟨b8, 0, none⟩)), (3, .pointer (some ⟨b2, 0, none⟩)), (0, .pointer (some ⟨mb, 0, none⟩)), (1, .agg #[.int .u8 ev.kind, .int .u32 ev.pick, .int .u64 ev.draw, .int .u32 ev.addr, .int .u32 ev.node, .int .u32 ev.dst, .int .u32 ev.xfer, .int .u8 ev.ty, .int .u64 ev.arg, .int .u64 ev.badge, .slice xo ev.ws.length cx]), (6, .pointer (some ⟨(Z.tp x), 0, none⟩)), (7, .bool false)]) (φ := True) (rest := []) h55 (by kernel_rfl) rfl trivial fun a57 h58 => ?_
        clear h55
        refine nd_done ?_
        refine hK56 _ _ ?_
        clear hK56
        refine wp_seq_k fun K59 hK59 => ?_
        refine nd_start (l := [0, 1, 2, 3, 4, 5, 6, 7, 8]) rfl ?_
        refine nd_batch tabOk2 tabZ_ok2 [(0, {}), (1, {k := 1})] [5, 4, 3, 0, 1, 6, 7, 18, 19] (T' := [(5, .pointer (some ⟨b15, 0, none⟩)), (4, .pointer (some ⟨b8, 0, none⟩)), (3, .pointer (some ⟨b2, 0, none⟩)), (0, .pointer (some ⟨mb, 0, none⟩)), (1, .agg #[.int .u8 ev.kind, .int .u32 ev.pick, .int .u64 ev.draw, .int .u32 ev.addr, .int .u32 ev.node, .int .u32 ev.dst, .int .u32 ev.xfer, .int .u8 ev.ty, .int .u64 ev.arg, .int .u64 ev.badge, .slice xo ev.ws.length cx]), (6, .pointer (some ⟨(Z.tp x), 0, none⟩)), (7, .bool false), (18, .pointer (some ⟨mb, 0, none⟩)), (19, .agg #[.int .u8 ev.kind, .int .u32 ev.pick, .int .u64 ev.draw, .int .u32 ev.addr, .int .u32 ev.node, .int .u32 ev.dst, .int .u32 ev.xfer, .int .u8 ev.ty, .int .u64 ev.arg, .int .u64 ev.badge, .slice xo ev.ws.length cx])]) (φ := (b2 = b2 ∧ Nat.ble (0 + 11) 11 = true) ∧ True) (rest := [2, 3, 4, 5, 6, 7, 8]) h58 (by kernel_rfl) rfl ⟨⟨rfl, rfl⟩, trivial⟩ fun a60 h61 => ?_
        clear h58
        refine nd_op ?_
        refine op_call h61 rfl rfl rfl (callOk Tryd.func55 (by decide) rfl) (args := [.pointer (some ⟨mb, 0, none⟩), .agg #[.int .u8 ev.kind, .int .u32 ev.pick, .int .u64 ev.draw, .int .u32 ev.addr, .int .u32 ev.node, .int .u32 ev.dst, .int .u32 ev.xfer, .int .u8 ev.ty, .int .u64 ev.arg, .int .u64 ev.badge, .slice xo ev.ws.length cx]]) rfl (hcall _ (mh_of h61 hho (k := 0) rfl) (words_now h61 hws)) ?_
        rintro _ w62 ⟨rfl, Z2, R2, hg2, hP2, hz2, hQ2⟩
        refine ⟨_, rfl, ?_⟩
        have h63a := st_mg h61 hg2 (kcons (fun _ => rfl) (kcons (fun hq => by cases hq) (kcons (fun hq => by cases hq) (kcons (fun hq => by cases hq) knil))))
        have h63 := h63a.put (d := some 20) (v := .tuple #[.int .u8 0, .bool false]) (T' := [(20, .tuple #[.int .u8 0, .bool false]), (5, .pointer (some ⟨b15, 0, none⟩)), (4, .pointer (some ⟨b8, 0, none⟩)), (3, .pointer (some ⟨b2, 0, none⟩)), (0, .pointer (some ⟨mb, 0, none⟩)), (1, .agg #[.int .u8 ev.kind, .int .u32 ev.pick, .int .u64 ev.draw, .int .u32 ev.addr, .int .u32 ev.node, .int .u32 ev.dst, .int .u32 ev.xfer, .int .u8 ev.ty, .int .u64 ev.arg, .int .u64 ev.badge, .slice xo ev.ws.length cx]), (6, .pointer (some ⟨(Z.tp x), 0, none⟩)), (7, .bool false), (18, .pointer (some ⟨mb, 0, none⟩)), (19, .agg #[.int .u8 ev.kind, .int .u32 ev.pick, .int .u64 ev.draw, .int .u32 ev.addr, .int .u32 ev.node, .int .u32 ev.dst, .int .u32 ev.xfer, .int .u8 ev.ty, .int .u64 ev.arg, .int .u64 ev.badge, .slice xo ev.ws.length cx])]) rfl
        have hhoh63 := hg2.mh.ho
        clear h61 h63a
        refine nd_batch tabOk2 tabZ_ok2 [(3, {}), (4, {}), (5, {}), (6, {})] [5, 4, 3, 0, 1, 6, 7, 21, 22, 23] (T' := [(5, .pointer (some ⟨b15, 0, none⟩)), (4, .pointer (some ⟨b8, 0, none⟩)), (3, .pointer (some ⟨b2, 0, none⟩)), (0, .pointer (some ⟨mb, 0, none⟩)), (1, .agg #[.int .u8 ev.kind, .int .u32 ev.pick, .int .u64 ev.draw, .int .u32 ev.addr, .int .u32 ev.node, .int .u32 ev.dst, .int .u32 ev.xfer, .int .u8 ev.ty, .int .u64 ev.arg, .int .u64 ev.badge, .slice xo ev.ws.length cx]), (6, .pointer (some ⟨(Z.tp x), 0, none⟩)), (7, .bool false), (21, .int .u8 0), (22, .bool false), (23, .pointer (some ⟨b15, 0, none⟩))]) (φ := True) (rest := [7, 8]) h63 (by kernel_rfl) rfl trivial fun a64 h65 => ?_
        clear h63
        refine nd_op ?_
        refine op_store tabOk2 {k := 3} (L' := [(3, ⟨[.int .u16 0, .int .u32 0], ty3, true⟩), (b2, ⟨[.int .u8 ev.kind, .int .u32 ev.pick, .int .u64 ev.draw, .int .u32 ev.addr, .int .u32 ev.node, .int .u32 ev.dst, .int .u32 ev.xfer, .int .u8 ev.ty, .int .u64 ev.arg, .int .u64 ev.badge, .slice xo ev.ws.length cx], 35, false⟩), (b8, ⟨[.int .u8 0, .int .u16 0, .int .u32 0, .int .u64 0, .int .u64 0, .int .u64 0, .int .u64 0, .int .u64 0, .int .u8 0, .int .u8 0], 42, false⟩), (b15, ⟨[.int .u8 0, .int .u16 0, .int .u32 0, .int .u64 0, .int .u64 0, .int .u64 0, .int .u64 0, .int .u64 0, .int .u8 0, .int .u8 0], 42, false⟩)]) (φ := b15 = b15 ∧ Nat.ble (0 + 1) 10 = true) h65 rfl rfl rfl (by kernel_rfl) ⟨rfl, rfl⟩ fun w66 h67 => ?_
        clear h65
        refine nd_batch tabOk2 tabZ_ok2 [(8, {})] [5, 4, 3, 0, 1, 6, 7] (T' := [(5, .pointer (some ⟨b15, 0, none⟩)), (4, .pointer (some ⟨b8, 0, none⟩)), (3, .pointer (some ⟨b2, 0, none⟩)), (0, .pointer (some ⟨mb, 0, none⟩)), (1, .agg #[.int .u8 ev.kind, .int .u32 ev.pick, .int .u64 ev.draw, .int .u32 ev.addr, .int .u32 ev.node, .int .u32 ev.dst, .int .u32 ev.xfer, .int .u8 ev.ty, .int .u64 ev.arg, .int .u64 ev.badge, .slice xo ev.ws.length cx]), (6, .pointer (some ⟨(Z.tp x), 0, none⟩)), (7, .bool false)]) (φ := True) (rest := []) h67 (by kernel_rfl) rfl trivial fun a68 h69 => ?_
        clear h67
        refine nd_done ?_
        refine hK59 _ _ ?_
        clear hK59
        refine wp_seq_k fun K70 hK70 => ?_
        refine nd_start (l := [0]) rfl ?_
        refine nd_batch tabOk2 tabZ_ok2 [(0, {})] [5, 4, 3, 0, 1, 6, 7, 24] (T' := [(5, .pointer (some ⟨b15, 0, none⟩)), (4, .pointer (some ⟨b8, 0, none⟩)), (3, .pointer (some ⟨b2, 0, none⟩)), (0, .pointer (some ⟨mb, 0, none⟩)), (1, .agg #[.int .u8 ev.kind, .int .u32 ev.pick, .int .u64 ev.draw, .int .u32 ev.addr, .int .u32 ev.node, .int .u32 ev.dst, .int .u32 ev.xfer, .int .u8 ev.ty, .int .u64 ev.arg, .int .u64 ev.badge, .slice xo ev.ws.length cx]), (6, .pointer (some ⟨(Z.tp x), 0, none⟩)), (7, .bool false), (24, .bool false)]) (φ := True) (rest := []) h69 (by kernel_rfl) rfl trivial fun a71 h72 => ?_
        clear h69
        refine nd_done ?_
        refine hK70 _ _ ?_
        clear hK70
        refine c_false h72 rfl ?_
        refine wp_skip ?_
        refine hK21 _ _ ?_
        clear hK21
        refine wp_seq_k fun K73 hK73 => ?_
        refine wp_seq_k fun K74 hK74 => ?_
        refine nd_start (l := [0, 1, 2]) rfl ?_
        refine nd_batch tabOk2 tabZ_ok2 [(0, {}), (1, {k := 3}), (2, {})] [5, 4, 3, 0, 1, 6, 7, 143] (T' := [(5, .pointer (some ⟨b15, 0, none⟩)), (4, .pointer (some ⟨b8, 0, none⟩)), (3, .pointer (some ⟨b2, 0, none⟩)), (0, .pointer (some ⟨mb, 0, none⟩)), (1, .agg #[.int .u8 ev.kind, .int .u32 ev.pick, .int .u64 ev.draw, .int .u32 ev.addr, .int .u32 ev.node, .int .u32 ev.dst, .int .u32 ev.xfer, .int .u8 ev.ty, .int .u64 ev.arg, .int .u64 ev.badge, .slice xo ev.ws.length cx]), (6, .pointer (some ⟨(Z.tp x), 0, none⟩)), (7, .bool false), (143, .bool true)]) (φ := (b15 = b15 ∧ Nat.ble (0 + 1) 10 = true) ∧ True) (rest := []) h72 (by kernel_rfl) rfl ⟨⟨rfl, rfl⟩, trivial⟩ fun a75 h76 => ?_
        clear h72
        refine nd_done ?_
        refine hK74 _ _ ?_
        clear hK74
        refine c_true h76 rfl ?_
        refine nd_start (l := [0, 1, 2, 3]) rfl ?_
        refine nd_batch tabOk2 tabZ_ok2 [(0, {}), (1, {}), (2, {k := 1})] [5, 4, 3, 0, 1, 6, 7, 144, 146] (T' := [(5, .pointer (some ⟨b15, 0, none⟩)), (4, .pointer (some ⟨b8, 0, none⟩)), (3, .pointer (some ⟨b2, 0, none⟩)), (0, .pointer (some ⟨mb, 0, none⟩)), (1, .agg #[.int .u8 ev.kind, .int .u32 ev.pick, .int .u64 ev.draw, .int .u32 ev.addr, .int .u32 ev.node, .int .u32 ev.dst, .int .u32 ev.xfer, .int .u8 ev.ty, .int .u64 ev.arg, .int .u64 ev.badge, .slice xo ev.ws.length cx]), (6, .pointer (some ⟨(Z.tp x), 0, none⟩)), (7, .bool false), (144, .pointer (some ⟨mb, 0, none⟩)), (146, .int .u32 ev.pick)]) (φ := (b2 = b2 ∧ Nat.ble (1 + 1) 11 = true) ∧ True) (rest := [3]) h76 (by kernel_rfl) rfl ⟨⟨rfl, rfl⟩, trivial⟩ fun a77 h78 => ?_
        clear h76
        refine nd_op ?_
        refine op_call h78 rfl rfl rfl (callOk Tryd.func56 (by decide) rfl) (args := [.pointer (some ⟨mb, 0, none⟩), .int .u32 ev.pick]) rfl (choose_ok mb Z2 _ a2 C2 ev.pick he.pick hP2 _ (mh_of h78 hhoh63 (k := 0) rfl)) ?_
        rintro _ w79 ⟨rfl, R80, hg81⟩
        refine ⟨_, rfl, ?_⟩
        have h82a := st_mg h78 hg81 (kcons (fun _ => rfl) (kcons (fun hq => by cases hq) (kcons (fun hq => by cases hq) (kcons (fun hq => by cases hq) knil))))
        have h82 := h82a.put (d := some 147) (v := .tuple #[]) (T' := [(147, .tuple #[]), (5, .pointer (some ⟨b15, 0, none⟩)), (4, .pointer (some ⟨b8, 0, none⟩)), (3, .pointer (some ⟨b2, 0, none⟩)), (0, .pointer (some ⟨mb, 0, none⟩)), (1, .agg #[.int .u8 ev.kind, .int .u32 ev.pick, .int .u64 ev.draw, .int .u32 ev.addr, .int .u32 ev.node, .int .u32 ev.dst, .int .u32 ev.xfer, .int .u8 ev.ty, .int .u64 ev.arg, .int .u64 ev.badge, .slice xo ev.ws.length cx]), (6, .pointer (some ⟨(Z.tp x), 0, none⟩)), (7, .bool false), (144, .pointer (some ⟨mb, 0, none⟩)), (146, .int .u32 ev.pick)]) rfl
        have hhoh82 := hg81.mh.ho
        obtain ⟨a83, ea83⟩ : ∃ z : AK, z = schedA a2 ev.pick := ⟨_, rfl⟩
        rw [← ea83] at h82
        clear h78 h82a
        refine nd_done ?_
        refine hK73 _ _ ?_
        clear hK73
        refine wp_seq_k fun K84 hK84 => ?_
        refine nd_start (l := [0, 1, 2, 3, 4, 5]) rfl ?_
        refine nd_batch tabOk2 tabZ_ok2 [(0, {}), (1, {}), (2, {})] [5, 4, 3, 0, 1, 6, 7, 150] (T' := [(5, .pointer (some ⟨b15, 0, none⟩)), (4, .pointer (some ⟨b8, 0, none⟩)), (3, .pointer (some ⟨b2, 0, none⟩)), (0, .pointer (some ⟨mb, 0, none⟩)), (1, .agg #[.int .u8 ev.kind, .int .u32 ev.pick, .int .u64 ev.draw, .int .u32 ev.addr, .int .u32 ev.node, .int .u32 ev.dst, .int .u32 ev.xfer, .int .u8 ev.ty, .int .u64 ev.arg, .int .u64 ev.badge, .slice xo ev.ws.length cx]), (6, .pointer (some ⟨(Z.tp x), 0, none⟩)), (7, .bool false), (150, .pointer (some ⟨mb, 13, none⟩))]) (φ := True) (rest := [3, 4, 5]) h82 (by kernel_rfl) rfl trivial fun a85 h86 => ?_
        clear h82
        refine nd_op ?_
        refine op_read (b := mb) (v := .agg #[.int .u16 ((curR Z2 a83).idx), .int .u32 ((curR Z2 a83).gen)]) h86 rfl rfl (rd_mA h86 (k := 13) (vs := [.int .u16 ((curR Z2 a83).idx), .int .u32 ((curR Z2 a83).gen)]) rfl rfl rfl rfl rfl md_cur) ?_
        have h87 := h86.put (d := some 151) (v := .agg #[.int .u16 ((curR Z2 a83).idx), .int .u32 ((curR Z2 a83).gen)]) (T' := [(151, .agg #[.int .u16 ((curR Z2 a83).idx), .int .u32 ((curR Z2 a83).gen)]), (5, .pointer (some ⟨b15, 0, none⟩)), (4, .pointer (some ⟨b8, 0, none⟩)), (3, .pointer (some ⟨b2, 0, none⟩)), (0, .pointer (some ⟨mb, 0, none⟩)), (1, .agg #[.int .u8 ev.kind, .int .u32 ev.pick, .int .u64 ev.draw, .int .u32 ev.addr, .int .u32 ev.node, .int .u32 ev.dst, .int .u32 ev.xfer, .int .u8 ev.ty, .int .u64 ev.arg, .int .u64 ev.badge, .slice xo ev.ws.length cx]), (6, .pointer (some ⟨(Z.tp x), 0, none⟩)), (7, .bool false), (150, .pointer (some ⟨mb, 13, none⟩))]) rfl
        clear h86
        refine nd_batch tabOk2 tabZ_ok2 [(4, {})] [151, 5, 4, 3, 0, 1, 6, 7, 152] (T' := [(151, .agg #[.int .u16 ((curR Z2 a83).idx), .int .u32 ((curR Z2 a83).gen)]), (5, .pointer (some ⟨b15, 0, none⟩)), (4, .pointer (some ⟨b8, 0, none⟩)), (3, .pointer (some ⟨b2, 0, none⟩)), (0, .pointer (some ⟨mb, 0, none⟩)), (1, .agg #[.int .u8 ev.kind, .int .u32 ev.pick, .int .u64 ev.draw, .int .u32 ev.addr, .int .u32 ev.node, .int .u32 ev.dst, .int .u32 ev.xfer, .int .u8 ev.ty, .int .u64 ev.arg, .int .u64 ev.badge, .slice xo ev.ws.length cx]), (6, .pointer (some ⟨(Z.tp x), 0, none⟩)), (7, .bool false), (152, .pointer (some ⟨b15, 1, none⟩))]) (φ := True) (rest := [5]) h87 (by kernel_rfl) rfl trivial fun a88 h89 => ?_
        clear h87
        refine nd_op ?_
        refine op_store tabOk2 {k := 3} (L' := [(3, ⟨[.int .u16 0, .int .u32 0], ty3, true⟩), (b2, ⟨[.int .u8 ev.kind, .int .u32 ev.pick, .int .u64 ev.draw, .int .u32 ev.addr, .int .u32 ev.node, .int .u32 ev.dst, .int .u32 ev.xfer, .int .u8 ev.ty, .int .u64 ev.arg, .int .u64 ev.badge, .slice xo ev.ws.length cx], 35, false⟩), (b8, ⟨[.int .u8 0, .int .u16 0, .int .u32 0, .int .u64 0, .int .u64 0, .int .u64 0, .int .u64 0, .int .u64 0, .int .u8 0, .int .u8 0], 42, false⟩), (b15, ⟨[.int .u8 0, .int .u16 ((curR Z2 a83).idx), .int .u32 ((curR Z2 a83).gen), .int .u64 0, .int .u64 0, .int .u64 0, .int .u64 0, .int .u64 0, .int .u8 0, .int .u8 0], 42, false⟩)]) (φ := b15 = b15 ∧ Nat.ble (1 + 2) 10 = true) h89 rfl rfl rfl (by kernel_rfl) ⟨rfl, rfl⟩ fun w90 h91 => ?_
        clear h89
        refine nd_done ?_
        refine hK84 _ _ ?_
        clear hK84
        refine wp_seq_k fun K92 hK92 => ?_
        refine nd_start (l := [0, 1]) rfl ?_
        refine nd_batch tabOk2 tabZ_ok2 [(0, {k := 3})] [5, 4, 3, 0, 1, 6, 7, 153] (T' := [(5, .pointer (some ⟨b15, 0, none⟩)), (4, .pointer (some ⟨b8, 0, none⟩)), (3, .pointer (some ⟨b2, 0, none⟩)), (0, .pointer (some ⟨mb, 0, none⟩)), (1, .agg #[.int .u8 ev.kind, .int .u32 ev.pick, .int .u64 ev.draw, .int .u32 ev.addr, .int .u32 ev.node, .int .u32 ev.dst, .int .u32 ev.xfer, .int .u8 ev.ty, .int .u64 ev.arg, .int .u64 ev.badge, .slice xo ev.ws.length cx]), (6, .pointer (some ⟨(Z.tp x), 0, none⟩)), (7, .bool false), (153, .agg #[.int .u8 0, .int .u16 ((curR Z2 a83).idx), .int .u32 ((curR Z2 a83).gen), .int .u64 0, .int .u64 0, .int .u64 0, .int .u64 0, .int .u64 0, .int .u8 0, .int .u8 0])]) (φ := (b15 = b15 ∧ Nat.ble (0 + 10) 10 = true) ∧ True) (rest := [1]) h91 (by kernel_rfl) rfl ⟨⟨rfl, rfl⟩, trivial⟩ fun a93 h94 => ?_
        clear h91
        refine nd_op ?_
        refine op_store tabOk2 {k := 2} (L' := [(3, ⟨[.int .u16 0, .int .u32 0], ty3, true⟩), (b2, ⟨[.int .u8 ev.kind, .int .u32 ev.pick, .int .u64 ev.draw, .int .u32 ev.addr, .int .u32 ev.node, .int .u32 ev.dst, .int .u32 ev.xfer, .int .u8 ev.ty, .int .u64 ev.arg, .int .u64 ev.badge, .slice xo ev.ws.length cx], 35, false⟩), (b8, ⟨[.int .u8 0, .int .u16 ((curR Z2 a83).idx), .int .u32 ((curR Z2 a83).gen), .int .u64 0, .int .u64 0, .int .u64 0, .int .u64 0, .int .u64 0, .int .u8 0, .int .u8 0], 42, false⟩), (b15, ⟨[.int .u8 0, .int .u16 ((curR Z2 a83).idx), .int .u32 ((curR Z2 a83).gen), .int .u64 0, .int .u64 0, .int .u64 0, .int .u64 0, .int .u64 0, .int .u8 0, .int .u8 0], 42, false⟩)]) (φ := b8 = b8 ∧ Nat.ble (0 + 10) 10 = true) h94 rfl rfl rfl (by kernel_rfl) ⟨rfl, rfl⟩ fun w95 h96 => ?_
        clear h94
        refine nd_done ?_
        refine hK92 _ _ ?_
        clear hK92
        refine wp_ret ?_
        try simp only [Exit.then, Exit.inBlock]
        try rw [if_pos trivial]
        exact s_ret tabOk2 tabZ_ok2 h96 [(.cell 4 42, {k := 2})] (vs := [.agg #[.int .u8 0, .int .u16 ((curR Z2 a83).idx), .int .u32 ((curR Z2 a83).gen), .int .u64 0, .int .u64 0, .int .u64 0, .int .u64 0, .int .u64 0, .int .u8 0, .int .u8 0]]) (φ := (b8 = b8 ∧ Nat.ble (0 + 10) 10 = true) ∧ True) rfl (by kernel_rfl) ⟨⟨rfl, rfl⟩, trivial⟩ (by subst ea83; exact ⟨_, _, rfl, mg_end hH h96 hhoh82 rfl, hQ2⟩)

end Go.Proofs.Qxb6500918aDoor
