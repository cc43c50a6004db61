/-
  The model: yield, draw, signal, wait. (Made by program: a symbolic walk that prints its steps.)
-/
import Derived.Test.Qxb6500918aDoorUm
namespace Go.Proofs.Qxb6500918aDoor
open Go.Sx Go.Kn
set_option maxRecDepth 100000
set_option maxHeartbeats 4000000
set_option linter.unusedVariables false
set_option linter.unusedSimpArgs false

theorem msgA_keep (x : Tcb) (ws : List Int) : (msgA x ws).st = x.st ∧ (msgA x ws).wait = x.wait ∧ (msgA x ws).prio = x.prio := by
  unfold msgA
  rcases ws with _ | ⟨b, _ | ⟨c, _ | ⟨d, _ | ⟨e, r⟩⟩⟩⟩ <;> exact ⟨rfl, rfl, rfl⟩

theorem MP.msg {Z : MZ} {a : AK} (h : MP Z a) {x : Nat} {ws : List Int} : MP Z (a.setT x (msgA (a.th x) ws)) :=
  h.like (msgA_keep _ _).1 (msgA_keep _ _).2.1 (msgA_keep _ _).2.2

theorem call2 (mb : Nat) (Z : MZ) (R : MR) (a : AK) (C : CP) (hI : MI Z a C) (x : Nat) (hx : x ∈ sl Z.tl) (hcu : a.cur = (x : Int)) (ev : Ev) (he : EvOk ev) (xo : Option Addr) (cx : Nat)  (w : World) (hH : MH mb Z R a C w) (hws : WordsAt (mdF mb Z R C) w xo ev.ws) :
    Calls Tryd.prog 55 #[.pointer (some ⟨mb, 0, none⟩), .agg #[.int .u8 2, .int .u32 ev.pick, .int .u64 ev.draw, .int .u32 ev.addr, .int .u32 ev.node, .int .u32 ev.dst, .int .u32 ev.xfer, .int .u8 ev.ty, .int .u64 ev.arg, .int .u64 ev.badge, .slice xo ev.ws.length cx]] w fun e w' => e = .returned (.tuple #[.int .u8 0, .bool false]) ∧ ∃ R', MG mb Z R C w Z R' (wakeA a x) C w' := by
  have hP := hI.mp
  have hcx : curR Z a = Z.ky x := curR_of hcu
  have hcn : a.cur.toNat = x := by rw [hcu]; exact Int.toNat_natCast x
  have hci := (hI.tk x hx).ci
  obtain ⟨ty3, hg3⟩ := hH.g3
  have hho := hH.ho
  have hkk := hH.md.k
  refine enter (n := 628) (K := mdF mb Z R C) (A := MD (mdF mb Z R C) w.heap.size mb Z R a C) (F := mdF mb Z R C) (T := [(0, .pointer (some ⟨mb, 0, none⟩)), (1, .agg #[.int .u8 2, .int .u32 ev.pick, .int .u64 ev.draw, .int .u32 ev.addr, .int .u32 ev.node, .int .u32 ev.dst, .int .u32 ev.xfer, .int .u8 ev.ty, .int .u64 ev.arg, .int .u64 ev.badge, .slice xo ev.ws.length cx])]) (L := [(3, ⟨[.int .u16 0, .int .u32 0], ty3, true⟩)]) (args := [.pointer (some ⟨mb, 0, none⟩), .agg #[.int .u8 2, .int .u32 ev.pick, .int .u64 ev.draw, .int .u32 ev.addr, .int .u32 ev.node, .int .u32 ev.dst, .int .u32 ev.xfer, .int .u8 ev.ty, .int .u64 ev.arg, .int .u64 ev.badge, .slice xo ev.ws.length cx]]) Tryd.func55 rfl rfl rfl rfl (kcons hg3 knil) (by simp) (kcons (by intro hq; cases hq) knil) hH.mD MD.stable hH.md.low (kcons (by intro hq; cases hq) knil) ?_
  intro ac h
  refine wp_seq_k fun K1 hK1 => ?_
  refine nd_start (l := [0, 1, 2]) rfl ?_
  refine nd_op ?_
  refine op_new tabOk2 (cells := [.int .u8 2, .int .u32 ev.pick, .int .u64 ev.draw, .int .u32 ev.addr, .int .u32 ev.node, .int .u32 ev.dst, .int .u32 ev.xfer, .int .u8 ev.ty, .int .u64 ev.arg, .int .u64 ev.badge, .slice xo ev.ws.length cx]) (ty := 35) (ln := none) (L1 := fun b2 => [(3, ⟨[.int .u16 0, .int .u32 0], ty3, true⟩), (b2, ⟨[.int .u8 2, .int .u32 ev.pick, .int .u64 ev.draw, .int .u32 ev.addr, .int .u32 ev.node, .int .u32 ev.dst, .int .u32 ev.xfer, .int .u8 ev.ty, .int .u64 ev.arg, .int .u64 ev.badge, .slice xo ev.ws.length cx], 35, false⟩)]) h rfl rfl rfl rfl (by kernel_rfl) (fun _ => rfl) fun b2 w3 a4 h5 hf6 hn7 => ?_
  clear h
  refine nd_batch tabOk2 tabZ_ok2 [(1, {}), (2, {})] [3, 0, 1, 4, 5] (T' := [(3, .pointer (some ⟨b2, 0, none⟩)), (0, .pointer (some ⟨mb, 0, none⟩)), (1, .agg #[.int .u8 2, .int .u32 ev.pick, .int .u64 ev.draw, .int .u32 ev.addr, .int .u32 ev.node, .int .u32 ev.dst, .int .u32 ev.xfer, .int .u8 ev.ty, .int .u64 ev.arg, .int .u64 ev.badge, .slice xo ev.ws.length cx]), (4, .int .u8 0), (5, .bool false)]) (φ := True) (rest := []) h5 (by kernel_rfl) rfl trivial fun a8 h9 => ?_
  clear h5
  refine nd_done ?_
  refine hK1 _ _ ?_
  clear hK1
  refine wp_seq_k fun K10 hK10 => ?_
  refine nd_start (l := [0, 1, 2, 3, 4, 5]) rfl ?_
  refine nd_batch tabOk2 tabZ_ok2 [(0, {}), (1, {}), (2, {})] [3, 0, 1, 4, 5, 44] (T' := [(3, .pointer (some ⟨b2, 0, none⟩)), (0, .pointer (some ⟨mb, 0, none⟩)), (1, .agg #[.int .u8 2, .int .u32 ev.pick, .int .u64 ev.draw, .int .u32 ev.addr, .int .u32 ev.node, .int .u32 ev.dst, .int .u32 ev.xfer, .int .u8 ev.ty, .int .u64 ev.arg, .int .u64 ev.badge, .slice xo ev.ws.length cx]), (4, .int .u8 0), (5, .bool false), (44, .pointer (some ⟨mb, 13, none⟩))]) (φ := True) (rest := [3, 4, 5]) h9 (by kernel_rfl) rfl trivial fun a11 h12 => ?_
  clear h9
  refine nd_op ?_
  refine op_read (b := mb) (v := .agg #[.int .u16 ((Z.ky x).idx), .int .u32 ((Z.ky x).gen)]) h12 rfl rfl (rd_mA h12 (k := 13) (vs := [.int .u16 ((Z.ky x).idx), .int .u32 ((Z.ky x).gen)]) rfl rfl rfl rfl rfl (by rw [← hcx]; exact md_cur)) ?_
  have h13 := h12.put (d := some 45) (v := .agg #[.int .u16 ((Z.ky x).idx), .int .u32 ((Z.ky x).gen)]) (T' := [(45, .agg #[.int .u16 ((Z.ky x).idx), .int .u32 ((Z.ky x).gen)]), (3, .pointer (some ⟨b2, 0, none⟩)), (0, .pointer (some ⟨mb, 0, none⟩)), (1, .agg #[.int .u8 2, .int .u32 ev.pick, .int .u64 ev.draw, .int .u32 ev.addr, .int .u32 ev.node, .int .u32 ev.dst, .int .u32 ev.xfer, .int .u8 ev.ty, .int .u64 ev.arg, .int .u64 ev.badge, .slice xo ev.ws.length cx]), (4, .int .u8 0), (5, .bool false), (44, .pointer (some ⟨mb, 13, none⟩))]) rfl
  clear h12
  refine nd_op ?_
  refine op_new tabOk2 (cells := [.int .u16 0, .int .u32 0]) (ty := 39) (ln := none) (L1 := fun b14 => [(3, ⟨[.int .u16 0, .int .u32 0], ty3, true⟩), (b2, ⟨[.int .u8 2, .int .u32 ev.pick, .int .u64 ev.draw, .int .u32 ev.addr, .int .u32 ev.node, .int .u32 ev.dst, .int .u32 ev.xfer, .int .u8 ev.ty, .int .u64 ev.arg, .int .u64 ev.badge, .slice xo ev.ws.length cx], 35, false⟩), (b14, ⟨[.int .u16 0, .int .u32 0], 39, false⟩)]) h13 rfl rfl rfl rfl (by kernel_rfl) (fun _ => rfl) fun b14 w15 a16 h17 hf18 hn19 => ?_
  clear h13
  refine nd_op ?_
  refine op_store tabOk2 {k := 2} (L' := [(3, ⟨[.int .u16 0, .int .u32 0], ty3, true⟩), (b2, ⟨[.int .u8 2, .int .u32 ev.pick, .int .u64 ev.draw, .int .u32 ev.addr, .int .u32 ev.node, .int .u32 ev.dst, .int .u32 ev.xfer, .int .u8 ev.ty, .int .u64 ev.arg, .int .u64 ev.badge, .slice xo ev.ws.length cx], 35, false⟩), (b14, ⟨[.int .u16 ((Z.ky x).idx), .int .u32 ((Z.ky x).gen)], 39, false⟩)]) (φ := b14 = b14 ∧ Nat.ble (0 + 2) 2 = true) h17 rfl rfl rfl (by kernel_rfl) ⟨rfl, rfl⟩ fun w20 h21 => ?_
  clear h17
  refine nd_done ?_
  refine hK10 _ _ ?_
  clear hK10
  refine wp_seq_k fun K22 hK22 => ?_
  refine dr_start (KB := [3, b2, b14, mb, Z.tb]) (Bi := [[0, 1, 2, 3, 4], [0, 1, 2, 3, 4], [0, 1, 2, 3, 4], [0, 1, 2, 3, 4], [0, 1, 2, 3, 4], [0, 1, 2, 3, 4], [0, 1, 2, 3, 4]]) mixed h21 fun w23 h24 => ?_
  clear h21
  refine dr_batch tabOk2 tabZ_ok2 (by repeat (first | with_reducible exact PF.body | with_reducible apply PF.inB | with_reducible apply PF.next)) [(0, {}), (1, {}), (2, {})] [6, 3, 0, 1, 4, 5, 48] (T' := [(6, .pointer (some ⟨b14, 0, none⟩)), (3, .pointer (some ⟨b2, 0, none⟩)), (0, .pointer (some ⟨mb, 0, none⟩)), (1, .agg #[.int .u8 2, .int .u32 ev.pick, .int .u64 ev.draw, .int .u32 ev.addr, .int .u32 ev.node, .int .u32 ev.dst, .int .u32 ev.xfer, .int .u8 ev.ty, .int .u64 ev.arg, .int .u64 ev.badge, .slice xo ev.ws.length cx]), (4, .int .u8 0), (5, .bool false), (48, .pointer (some ⟨mb, 2, none⟩))]) (φ := True) (fuel := 4) h24 (by kernel_rfl) rfl (by kernel_rfl) (by kernel_rfl) ⟨trivial, trivial, trivial, trivial⟩ trivial fun a26 h27 => ?_
  clear h24
  refine dr_read (i := 3) (b := mb) (p := 3) (v := .map (some Z.tb)) (fuel := 3) (by repeat (first | with_reducible exact PF.body | with_reducible apply PF.inB | with_reducible apply PF.next)) h27 rfl rfl rfl (by kernel_rfl) (by kernel_rfl) (by kernel_rfl) rfl (rd_m h27 (k := 2) (v := .map (some Z.tb)) rfl rfl rfl rfl (md_p ⟨rfl, trivial⟩)) ?_
  have h28 := h27.put (d := some 49) (v := .map (some Z.tb)) (T' := [(49, .map (some Z.tb)), (6, .pointer (some ⟨b14, 0, none⟩)), (3, .pointer (some ⟨b2, 0, none⟩)), (0, .pointer (some ⟨mb, 0, none⟩)), (1, .agg #[.int .u8 2, .int .u32 ev.pick, .int .u64 ev.draw, .int .u32 ev.addr, .int .u32 ev.node, .int .u32 ev.dst, .int .u32 ev.xfer, .int .u8 ev.ty, .int .u64 ev.arg, .int .u64 ev.badge, .slice xo ev.ws.length cx]), (4, .int .u8 0), (5, .bool false), (48, .pointer (some ⟨mb, 2, none⟩))]) rfl
  clear h27
  refine dr_batch tabOk2 tabZ_ok2 (by repeat (first | with_reducible exact PF.body | with_reducible apply PF.inB | with_reducible apply PF.next)) [(4, {k := 2, p := 2})] [49, 6, 3, 0, 1, 4, 5, 50] (T' := [(49, .map (some Z.tb)), (6, .pointer (some ⟨b14, 0, none⟩)), (3, .pointer (some ⟨b2, 0, none⟩)), (0, .pointer (some ⟨mb, 0, none⟩)), (1, .agg #[.int .u8 2, .int .u32 ev.pick, .int .u64 ev.draw, .int .u32 ev.addr, .int .u32 ev.node, .int .u32 ev.dst, .int .u32 ev.xfer, .int .u8 ev.ty, .int .u64 ev.arg, .int .u64 ev.badge, .slice xo ev.ws.length cx]), (4, .int .u8 0), (5, .bool false), (50, .agg #[.int .u16 ((Z.ky x).idx), .int .u32 ((Z.ky x).gen)])]) (φ := (b14 = b14 ∧ Nat.ble (0 + 2) 2 = true) ∧ True) (fuel := 2) h28 (by kernel_rfl) rfl (by kernel_rfl) (by kernel_rfl) ⟨rfl, trivial⟩ ⟨⟨rfl, rfl⟩, trivial⟩ fun a29 h30 => ?_
  clear h28
  refine dr_read (i := 5) (b := Z.tb) (p := 4) (v := .pointer (some ⟨(Z.tp x), 0, none⟩)) (fuel := 1) (by repeat (first | with_reducible exact PF.body | with_reducible apply PF.inB | with_reducible apply PF.next)) h30 rfl rfl rfl (by kernel_rfl) (by kernel_rfl) (by kernel_rfl) rfl (rd_T h30 (x := x) hx rfl rfl rfl) ?_
  have h31 := h30.put (d := some 51) (v := .pointer (some ⟨(Z.tp x), 0, none⟩)) (T' := [(51, .pointer (some ⟨(Z.tp x), 0, none⟩)), (49, .map (some Z.tb)), (6, .pointer (some ⟨b14, 0, none⟩)), (3, .pointer (some ⟨b2, 0, none⟩)), (0, .pointer (some ⟨mb, 0, none⟩)), (1, .agg #[.int .u8 2, .int .u32 ev.pick, .int .u64 ev.draw, .int .u32 ev.addr, .int .u32 ev.node, .int .u32 ev.dst, .int .u32 ev.xfer, .int .u8 ev.ty, .int .u64 ev.arg, .int .u64 ev.badge, .slice xo ev.ws.length cx]), (4, .int .u8 0), (5, .bool false), (50, .agg #[.int .u16 ((Z.ky x).idx), .int .u32 ((Z.ky x).gen)])]) rfl
  clear h30
  refine dr_batch tabOk2 tabZ_ok2 (by repeat (first | with_reducible exact PF.body | with_reducible apply PF.inB | with_reducible apply PF.next)) [(6, {})] [6, 3, 0, 1, 4, 5, 7] (T' := [(6, .pointer (some ⟨b14, 0, none⟩)), (3, .pointer (some ⟨b2, 0, none⟩)), (0, .pointer (some ⟨mb, 0, none⟩)), (1, .agg #[.int .u8 2, .int .u32 ev.pick, .int .u64 ev.draw, .int .u32 ev.addr, .int .u32 ev.node, .int .u32 ev.dst, .int .u32 ev.xfer, .int .u8 ev.ty, .int .u64 ev.arg, .int .u64 ev.badge, .slice xo ev.ws.length cx]), (4, .int .u8 0), (5, .bool false), (7, .pointer (some ⟨(Z.tp x), 0, none⟩))]) (φ := True) (fuel := 0) h31 (by kernel_rfl) rfl (by kernel_rfl) (by kernel_rfl) ⟨trivial, trivial⟩ trivial fun a32 h33 => ?_
  clear h31
  refine wpAnyK_done (by kernel_rfl) ?_ _
  refine hK22 _ _ ?_
  clear hK22
  refine wp_seq_k fun K34 hK34 => ?_
  refine wp_seq_k fun K35 hK35 => ?_
  refine nd_start (l := [0, 1]) rfl ?_
  refine nd_batch tabOk2 tabZ_ok2 [(0, {}), (1, {k := 1})] [6, 3, 0, 1, 4, 5, 7, 53] (T' := [(6, .pointer (some ⟨b14, 0, none⟩)), (3, .pointer (some ⟨b2, 0, none⟩)), (0, .pointer (some ⟨mb, 0, none⟩)), (1, .agg #[.int .u8 2, .int .u32 ev.pick, .int .u64 ev.draw, .int .u32 ev.addr, .int .u32 ev.node, .int .u32 ev.dst, .int .u32 ev.xfer, .int .u8 ev.ty, .int .u64 ev.arg, .int .u64 ev.badge, .slice xo ev.ws.length cx]), (4, .int .u8 0), (5, .bool false), (7, .pointer (some ⟨(Z.tp x), 0, none⟩)), (53, .int .u8 2)]) (φ := (b2 = b2 ∧ Nat.ble (0 + 1) 11 = true) ∧ True) (rest := []) h33 (by kernel_rfl) rfl ⟨⟨rfl, rfl⟩, trivial⟩ fun a36 h37 => ?_
  clear h33
  refine nd_done ?_
  refine hK35 _ _ ?_
  clear hK35
  refine wp_block ?_
  refine wp_seq_k fun K38 hK38 => ?_
  refine nd_start (l := [0, 1]) rfl ?_
  refine nd_batch tabOk2 tabZ_ok2 [(0, {}), (1, {})] [6, 3, 0, 1, 4, 5, 7, 53, 54] (T' := [(6, .pointer (some ⟨b14, 0, none⟩)), (3, .pointer (some ⟨b2, 0, none⟩)), (0, .pointer (some ⟨mb, 0, none⟩)), (1, .agg #[.int .u8 2, .int .u32 ev.pick, .int .u64 ev.draw, .int .u32 ev.addr, .int .u32 ev.node, .int .u32 ev.dst, .int .u32 ev.xfer, .int .u8 ev.ty, .int .u64 ev.arg, .int .u64 ev.badge, .slice xo ev.ws.length cx]), (4, .int .u8 0), (5, .bool false), (7, .pointer (some ⟨(Z.tp x), 0, none⟩)), (53, .int .u8 2), (54, .bool true)]) (φ := True) (rest := []) h37 (by kernel_rfl) rfl trivial fun a39 h40 => ?_
  clear h37
  refine nd_done ?_
  refine hK38 _ _ ?_
  clear hK38
  refine c_true h40 rfl ?_
  refine wp_seq_k fun K41 hK41 => ?_
  refine nd_start (l := [0, 1, 2]) rfl ?_
  refine nd_batch tabOk2 tabZ_ok2 [(0, {}), (1, {k := 2})] [6, 3, 0, 1, 4, 5, 7, 53, 56, 57] (T' := [(6, .pointer (some ⟨b14, 0, none⟩)), (3, .pointer (some ⟨b2, 0, none⟩)), (0, .pointer (some ⟨mb, 0, none⟩)), (1, .agg #[.int .u8 2, .int .u32 ev.pick, .int .u64 ev.draw, .int .u32 ev.addr, .int .u32 ev.node, .int .u32 ev.dst, .int .u32 ev.xfer, .int .u8 ev.ty, .int .u64 ev.arg, .int .u64 ev.badge, .slice xo ev.ws.length cx]), (4, .int .u8 0), (5, .bool false), (7, .pointer (some ⟨(Z.tp x), 0, none⟩)), (53, .int .u8 2), (56, .pointer (some ⟨mb, 0, none⟩)), (57, .agg #[.int .u16 ((Z.ky x).idx), .int .u32 ((Z.ky x).gen)])]) (φ := (b14 = b14 ∧ Nat.ble (0 + 2) 2 = true) ∧ True) (rest := [2]) h40 (by kernel_rfl) rfl ⟨⟨rfl, rfl⟩, trivial⟩ fun a42 h43 => ?_
  clear h40
  refine nd_op ?_
  refine op_call h43 rfl rfl rfl (callOk Tryd.func52 (by decide) rfl) (args := [.pointer (some ⟨mb, 0, none⟩), .agg #[.int .u16 ((Z.ky x).idx), .int .u32 ((Z.ky x).gen)]]) rfl (mready_ok mb Z _ a _ x hx hP _ (mh_of h43 hho (k := 0) rfl)) ?_
  rintro _ w44 ⟨rfl, R45, hg46⟩
  refine ⟨_, rfl, ?_⟩
  have h47a := st_mg h43 hg46 (kcons (fun _ => rfl) (kcons (fun hq => by cases hq) (kcons (fun hq => by cases hq) knil)))
  have h47 := h47a.put (d := some 58) (v := .tuple #[]) (T' := [(58, .tuple #[]), (6, .pointer (some ⟨b14, 0, none⟩)), (3, .pointer (some ⟨b2, 0, none⟩)), (0, .pointer (some ⟨mb, 0, none⟩)), (1, .agg #[.int .u8 2, .int .u32 ev.pick, .int .u64 ev.draw, .int .u32 ev.addr, .int .u32 ev.node, .int .u32 ev.dst, .int .u32 ev.xfer, .int .u8 ev.ty, .int .u64 ev.arg, .int .u64 ev.badge, .slice xo ev.ws.length cx]), (4, .int .u8 0), (5, .bool false), (7, .pointer (some ⟨(Z.tp x), 0, none⟩)), (53, .int .u8 2), (56, .pointer (some ⟨mb, 0, none⟩)), (57, .agg #[.int .u16 ((Z.ky x).idx), .int .u32 ((Z.ky x).gen)])]) rfl
  have hhoh47 := hg46.mh.ho
  obtain ⟨a48, ea48⟩ : ∃ z : AK, z = wakeA a x := ⟨_, rfl⟩
  rw [← ea48] at h47
  clear h43 h47a
  have ht49 : a48.th x = { a.th x with st := 1, wait := ⟨0, 0⟩ } := by rw [ea48, wake_th]
  have hP50 : MP Z a48 := by rw [ea48]; exact MP.wake hP hkk hx
  refine nd_done ?_
  refine hK41 _ _ ?_
  clear hK41
  refine wp_seq_k fun K51 hK51 => ?_
  refine nd_start (l := [0, 1]) rfl ?_
  refine nd_batch tabOk2 tabZ_ok2 [(0, {}), (1, {})] [6, 3, 0, 1, 7, 53, 4, 5] (T' := [(6, .pointer (some ⟨b14, 0, none⟩)), (3, .pointer (some ⟨b2, 0, none⟩)), (0, .pointer (some ⟨mb, 0, none⟩)), (1, .agg #[.int .u8 2, .int .u32 ev.pick, .int .u64 ev.draw, .int .u32 ev.addr, .int .u32 ev.node, .int .u32 ev.dst, .int .u32 ev.xfer, .int .u8 ev.ty, .int .u64 ev.arg, .int .u64 ev.badge, .slice xo ev.ws.length cx]), (7, .pointer (some ⟨(Z.tp x), 0, none⟩)), (53, .int .u8 2), (4, .int .u8 0), (5, .bool false)]) (φ := True) (rest := []) h47 (by kernel_rfl) rfl trivial fun a52 h53 => ?_
  clear h47
  refine nd_done ?_
  refine hK51 _ _ ?_
  clear hK51
  refine wp_ret ?_
  try simp only [Exit.then, Exit.inBlock]
  try rw [if_pos trivial]
  exact s_ret tabOk2 tabZ_ok2 h53 [(.tmp 4, {}), (.tmp 5, {})] (vs := [.int .u8 0, .bool false]) (φ := True) rfl (by kernel_rfl) trivial ⟨rfl, _, mg_end hH h53 hhoh47 (by subst ea48; simp only [setT_setT])⟩

theorem call3 (mb : Nat) (Z : MZ) (R : MR) (a : AK) (C : CP) (hI : MI Z a C) (x : Nat) (hx : x ∈ sl Z.tl) (hcu : a.cur = (x : Int)) (ev : Ev) (he : EvOk ev) (xo : Option Addr) (cx : Nat)  (w : World) (hH : MH mb Z R a C w) (hws : WordsAt (mdF mb Z R C) w xo ev.ws) :
    Calls Tryd.prog 55 #[.pointer (some ⟨mb, 0, none⟩), .agg #[.int .u8 3, .int .u32 ev.pick, .int .u64 ev.draw, .int .u32 ev.addr, .int .u32 ev.node, .int .u32 ev.dst, .int .u32 ev.xfer, .int .u8 ev.ty, .int .u64 ev.arg, .int .u64 ev.badge, .slice xo ev.ws.length cx]] w fun e w' => e = .returned (.tuple #[.int .u8 0, .bool true]) ∧ ∃ R', MG mb Z R C w Z R' (a.setT x (msgA (a.th x) [ev.draw])) C w' := by
  have hP := hI.mp
  have hcx : curR Z a = Z.ky x := curR_of hcu
  have hcn : a.cur.toNat = x := by rw [hcu]; exact Int.toNat_natCast x
  have hci := (hI.tk x hx).ci
  obtain ⟨ty3, hg3⟩ := hH.g3
  have hho := hH.ho
  have hkk := hH.md.k
  refine enter (n := 628) (K := mdF mb Z R C) (A := MD (mdF mb Z R C) w.heap.size mb Z R a C) (F := mdF mb Z R C) (T := [(0, .pointer (some ⟨mb, 0, none⟩)), (1, .agg #[.int .u8 3, .int .u32 ev.pick, .int .u64 ev.draw, .int .u32 ev.addr, .int .u32 ev.node, .int .u32 ev.dst, .int .u32 ev.xfer, .int .u8 ev.ty, .int .u64 ev.arg, .int .u64 ev.badge, .slice xo ev.ws.length cx])]) (L := [(3, ⟨[.int .u16 0, .int .u32 0], ty3, true⟩)]) (args := [.pointer (some ⟨mb, 0, none⟩), .agg #[.int .u8 3, .int .u32 ev.pick, .int .u64 ev.draw, .int .u32 ev.addr, .int .u32 ev.node, .int .u32 ev.dst, .int .u32 ev.xfer, .int .u8 ev.ty, .int .u64 ev.arg, .int .u64 ev.badge, .slice xo ev.ws.length cx]]) Tryd.func55 rfl rfl rfl rfl (kcons hg3 knil) (by simp) (kcons (by intro hq; cases hq) knil) hH.mD MD.stable hH.md.low (kcons (by intro hq; cases hq) knil) ?_
  intro ac h
  refine wp_seq_k fun K1 hK1 => ?_
  refine nd_start (l := [0, 1, 2]) rfl ?_
  refine nd_op ?_
  refine op_new tabOk2 (cells := [.int .u8 3, .int .u32 ev.pick, .int .u64 ev.draw, .int .u32 ev.addr, .int .u32 ev.node, .int .u32 ev.dst, .int .u32 ev.xfer, .int .u8 ev.ty, .int .u64 ev.arg, .int .u64 ev.badge, .slice xo ev.ws.length cx]) (ty := 35) (ln := none) (L1 := fun b2 => [(3, ⟨[.int .u16 0, .int .u32 0], ty3, true⟩), (b2, ⟨[.int .u8 3, .int .u32 ev.pick, .int .u64 ev.draw, .int .u32 ev.addr, .int .u32 ev.node, .int .u32 ev.dst, .int .u32 ev.xfer, .int .u8 ev.ty, .int .u64 ev.arg, .int .u64 ev.badge, .slice xo ev.ws.length cx], 35, false⟩)]) h rfl rfl rfl rfl (by kernel_rfl) (fun _ => rfl) fun b2 w3 a4 h5 hf6 hn7 => ?_
  clear h
  refine nd_batch tabOk2 tabZ_ok2 [(1, {}), (2, {})] [3, 0, 1, 4, 5] (T' := [(3, .pointer (some ⟨b2, 0, none⟩)), (0, .pointer (some ⟨mb, 0, none⟩)), (1, .agg #[.int .u8 3, .int .u32 ev.pick, .int .u64 ev.draw, .int .u32 ev.addr, .int .u32 ev.node, .int .u32 ev.dst, .int .u32 ev.xfer, .int .u8 ev.ty, .int .u64 ev.arg, .int .u64 ev.badge, .slice xo ev.ws.length cx]), (4, .int .u8 0), (5, .bool false)]) (φ := True) (rest := []) h5 (by kernel_rfl) rfl trivial fun a8 h9 => ?_
  clear h5
  refine nd_done ?_
  refine hK1 _ _ ?_
  clear hK1
  refine wp_seq_k fun K10 hK10 => ?_
  refine nd_start (l := [0, 1, 2, 3, 4, 5]) rfl ?_
  refine nd_batch tabOk2 tabZ_ok2 [(0, {}), (1, {}), (2, {})] [3, 0, 1, 4, 5, 44] (T' := [(3, .pointer (some ⟨b2, 0, none⟩)), (0, .pointer (some ⟨mb, 0, none⟩)), (1, .agg #[.int .u8 3, .int .u32 ev.pick, .int .u64 ev.draw, .int .u32 ev.addr, .int .u32 ev.node, .int .u32 ev.dst, .int .u32 ev.xfer, .int .u8 ev.ty, .int .u64 ev.arg, .int .u64 ev.badge, .slice xo ev.ws.length cx]), (4, .int .u8 0), (5, .bool false), (44, .pointer (some ⟨mb, 13, none⟩))]) (φ := True) (rest := [3, 4, 5]) h9 (by kernel_rfl) rfl trivial fun a11 h12 => ?_
  clear h9
  refine nd_op ?_
  refine op_read (b := mb) (v := .agg #[.int .u16 ((Z.ky x).idx), .int .u32 ((Z.ky x).gen)]) h12 rfl rfl (rd_mA h12 (k := 13) (vs := [.int .u16 ((Z.ky x).idx), .int .u32 ((Z.ky x).gen)]) rfl rfl rfl rfl rfl (by rw [← hcx]; exact md_cur)) ?_
  have h13 := h12.put (d := some 45) (v := .agg #[.int .u16 ((Z.ky x).idx), .int .u32 ((Z.ky x).gen)]) (T' := [(45, .agg #[.int .u16 ((Z.ky x).idx), .int .u32 ((Z.ky x).gen)]), (3, .pointer (some ⟨b2, 0, none⟩)), (0, .pointer (some ⟨mb, 0, none⟩)), (1, .agg #[.int .u8 3, .int .u32 ev.pick, .int .u64 ev.draw, .int .u32 ev.addr, .int .u32 ev.node, .int .u32 ev.dst, .int .u32 ev.xfer, .int .u8 ev.ty, .int .u64 ev.arg, .int .u64 ev.badge, .slice xo ev.ws.length cx]), (4, .int .u8 0), (5, .bool false), (44, .pointer (some ⟨mb, 13, none⟩))]) rfl
  clear h12
  refine nd_op ?_
  refine op_new tabOk2 (cells := [.int .u16 0, .int .u32 0]) (ty := 39) (ln := none) (L1 := fun b14 => [(3, ⟨[.int .u16 0, .int .u32 0], ty3, true⟩), (b2, ⟨[.int .u8 3, .int .u32 ev.pick, .int .u64 ev.draw, .int .u32 ev.addr, .int .u32 ev.node, .int .u32 ev.dst, .int .u32 ev.xfer, .int .u8 ev.ty, .int .u64 ev.arg, .int .u64 ev.badge, .slice xo ev.ws.length cx], 35, false⟩), (b14, ⟨[.int .u16 0, .int .u32 0], 39, false⟩)]) h13 rfl rfl rfl rfl (by kernel_rfl) (fun _ => rfl) fun b14 w15 a16 h17 hf18 hn19 => ?_
  clear h13
  refine nd_op ?_
  refine op_store tabOk2 {k := 2} (L' := [(3, ⟨[.int .u16 0, .int .u32 0], ty3, true⟩), (b2, ⟨[.int .u8 3, .int .u32 ev.pick, .int .u64 ev.draw, .int .u32 ev.addr, .int .u32 ev.node, .int .u32 ev.dst, .int .u32 ev.xfer, .int .u8 ev.ty, .int .u64 ev.arg, .int .u64 ev.badge, .slice xo ev.ws.length cx], 35, false⟩), (b14, ⟨[.int .u16 ((Z.ky x).idx), .int .u32 ((Z.ky x).gen)], 39, false⟩)]) (φ := b14 = b14 ∧ Nat.ble (0 + 2) 2 = true) h17 rfl rfl rfl (by kernel_rfl) ⟨rfl, rfl⟩ fun w20 h21 => ?_
  clear h17
  refine nd_done ?_
  refine hK10 _ _ ?_
  clear hK10
  refine wp_seq_k fun K22 hK22 => ?_
  refine dr_start (KB := [3, b2, b14, mb, Z.tb]) (Bi := [[0, 1, 2, 3, 4], [0, 1, 2, 3, 4], [0, 1, 2, 3, 4], [0, 1, 2, 3, 4], [0, 1, 2, 3, 4], [0, 1, 2, 3, 4], [0, 1, 2, 3, 4]]) mixed h21 fun w23 h24 => ?_
  clear h21
  refine dr_batch tabOk2 tabZ_ok2 (by repeat (first | with_reducible exact PF.body | with_reducible apply PF.inB | with_reducible apply PF.next)) [(0, {}), (1, {}), (2, {})] [6, 3, 0, 1, 4, 5, 48] (T' := [(6, .pointer (some ⟨b14, 0, none⟩)), (3, .pointer (some ⟨b2, 0, none⟩)), (0, .pointer (some ⟨mb, 0, none⟩)), (1, .agg #[.int .u8 3, .int .u32 ev.pick, .int .u64 ev.draw, .int .u32 ev.addr, .int .u32 ev.node, .int .u32 ev.dst, .int .u32 ev.xfer, .int .u8 ev.ty, .int .u64 ev.arg, .int .u64 ev.badge, .slice xo ev.ws.length cx]), (4, .int .u8 0), (5, .bool false), (48, .pointer (some ⟨mb, 2, none⟩))]) (φ := True) (fuel := 4) h24 (by kernel_rfl) rfl (by kernel_rfl) (by kernel_rfl) ⟨trivial, trivial, trivial, trivial⟩ trivial fun a26 h27 => ?_
  clear h24
  refine dr_read (i := 3) (b := mb) (p := 3) (v := .map (some Z.tb)) (fuel := 3) (by repeat (first | with_reducible exact PF.body | with_reducible apply PF.inB | with_reducible apply PF.next)) h27 rfl rfl rfl (by kernel_rfl) (by kernel_rfl) (by kernel_rfl) rfl (rd_m h27 (k := 2) (v := .map (some Z.tb)) rfl rfl rfl rfl (md_p ⟨rfl, trivial⟩)) ?_
  have h28 := h27.put (d := some 49) (v := .map (some Z.tb)) (T' := [(49, .map (some Z.tb)), (6, .pointer (some ⟨b14, 0, none⟩)), (3, .pointer (some ⟨b2, 0, none⟩)), (0, .pointer (some ⟨mb, 0, none⟩)), (1, .agg #[.int .u8 3, .int .u32 ev.pick, .int .u64 ev.draw, .int .u32 ev.addr, .int .u32 ev.node, .int .u32 ev.dst, .int .u32 ev.xfer, .int .u8 ev.ty, .int .u64 ev.arg, .int .u64 ev.badge, .slice xo ev.ws.length cx]), (4, .int .u8 0), (5, .bool false), (48, .pointer (some ⟨mb, 2, none⟩))]) rfl
  clear h27
  refine dr_batch tabOk2 tabZ_ok2 (by repeat (first | with_reducible exact PF.body | with_reducible apply PF.inB | with_reducible apply PF.next)) [(4, {k := 2, p := 2})] [49, 6, 3, 0, 1, 4, 5, 50] (T' := [(49, .map (some Z.tb)), (6, .pointer (some ⟨b14, 0, none⟩)), (3, .pointer (some ⟨b2, 0, none⟩)), (0, .pointer (some ⟨mb, 0, none⟩)), (1, .agg #[.int .u8 3, .int .u32 ev.pick, .int .u64 ev.draw, .int .u32 ev.addr, .int .u32 ev.node, .int .u32 ev.dst, .int .u32 ev.xfer, .int .u8 ev.ty, .int .u64 ev.arg, .int .u64 ev.badge, .slice xo ev.ws.length cx]), (4, .int .u8 0), (5, .bool false), (50, .agg #[.int .u16 ((Z.ky x).idx), .int .u32 ((Z.ky x).gen)])]) (φ := (b14 = b14 ∧ Nat.ble (0 + 2) 2 = true) ∧ True) (fuel := 2) h28 (by kernel_rfl) rfl (by kernel_rfl) (by kernel_rfl) ⟨rfl, trivial⟩ ⟨⟨rfl, rfl⟩, trivial⟩ fun a29 h30 => ?_
  clear h28
  refine dr_read (i := 5) (b := Z.tb) (p := 4) (v := .pointer (some ⟨(Z.tp x), 0, none⟩)) (fuel := 1) (by repeat (first | with_reducible exact PF.body | with_reducible apply PF.inB | with_reducible apply PF.next)) h30 rfl rfl rfl (by kernel_rfl) (by kernel_rfl) (by kernel_rfl) rfl (rd_T h30 (x := x) hx rfl rfl rfl) ?_
  have h31 := h30.put (d := some 51) (v := .pointer (some ⟨(Z.tp x), 0, none⟩)) (T' := [(51, .pointer (some ⟨(Z.tp x), 0, none⟩)), (49, .map (some Z.tb)), (6, .pointer (some ⟨b14, 0, none⟩)), (3, .pointer (some ⟨b2, 0, none⟩)), (0, .pointer (some ⟨mb, 0, none⟩)), (1, .agg #[.int .u8 3, .int .u32 ev.pick, .int .u64 ev.draw, .int .u32 ev.addr, .int .u32 ev.node, .int .u32 ev.dst, .int .u32 ev.xfer, .int .u8 ev.ty, .int .u64 ev.arg, .int .u64 ev.badge, .slice xo ev.ws.length cx]), (4, .int .u8 0), (5, .bool false), (50, .agg #[.int .u16 ((Z.ky x).idx), .int .u32 ((Z.ky x).gen)])]) rfl
  clear h30
  refine dr_batch tabOk2 tabZ_ok2 (by repeat (first | with_reducible exact PF.body | with_reducible apply PF.inB | with_reducible apply PF.next)) [(6, {})] [6, 3, 0, 1, 4, 5, 7] (T' := [(6, .pointer (some ⟨b14, 0, none⟩)), (3, .pointer (some ⟨b2, 0, none⟩)), (0, .pointer (some ⟨mb, 0, none⟩)), (1, .agg #[.int .u8 3, .int .u32 ev.pick, .int .u64 ev.draw, .int .u32 ev.addr, .int .u32 ev.node, .int .u32 ev.dst, .int .u32 ev.xfer, .int .u8 ev.ty, .int .u64 ev.arg, .int .u64 ev.badge, .slice xo ev.ws.length cx]), (4, .int .u8 0), (5, .bool false), (7, .pointer (some ⟨(Z.tp x), 0, none⟩))]) (φ := True) (fuel := 0) h31 (by kernel_rfl) rfl (by kernel_rfl) (by kernel_rfl) ⟨trivial, trivial⟩ trivial fun a32 h33 => ?_
  clear h31
  refine wpAnyK_done (by kernel_rfl) ?_ _
  refine hK22 _ _ ?_
  clear hK22
  refine wp_seq_k fun K34 hK34 => ?_
  refine wp_seq_k fun K35 hK35 => ?_
  refine nd_start (l := [0, 1]) rfl ?_
  refine nd_batch tabOk2 tabZ_ok2 [(0, {}), (1, {k := 1})] [6, 3, 0, 1, 4, 5, 7, 53] (T' := [(6, .pointer (some ⟨b14, 0, none⟩)), (3, .pointer (some ⟨b2, 0, none⟩)), (0, .pointer (some ⟨mb, 0, none⟩)), (1, .agg #[.int .u8 3, .int .u32 ev.pick, .int .u64 ev.draw, .int .u32 ev.addr, .int .u32 ev.node, .int .u32 ev.dst, .int .u32 ev.xfer, .int .u8 ev.ty, .int .u64 ev.arg, .int .u64 ev.badge, .slice xo ev.ws.length cx]), (4, .int .u8 0), (5, .bool false), (7, .pointer (some ⟨(Z.tp x), 0, none⟩)), (53, .int .u8 3)]) (φ := (b2 = b2 ∧ Nat.ble (0 + 1) 11 = true) ∧ True) (rest := []) h33 (by kernel_rfl) rfl ⟨⟨rfl, rfl⟩, trivial⟩ fun a36 h37 => ?_
  clear h33
  refine nd_done ?_
  refine hK35 _ _ ?_
  clear hK35
  refine wp_block ?_
  refine wp_seq_k fun K38 hK38 => ?_
  refine nd_start (l := [0, 1]) rfl ?_
  refine nd_batch tabOk2 tabZ_ok2 [(0, {}), (1, {})] [6, 3, 0, 1, 4, 5, 7, 53, 54] (T' := [(6, .pointer (some ⟨b14, 0, none⟩)), (3, .pointer (some ⟨b2, 0, none⟩)), (0, .pointer (some ⟨mb, 0, none⟩)), (1, .agg #[.int .u8 3, .int .u32 ev.pick, .int .u64 ev.draw, .int .u32 ev.addr, .int .u32 ev.node, .int .u32 ev.dst, .int .u32 ev.xfer, .int .u8 ev.ty, .int .u64 ev.arg, .int .u64 ev.badge, .slice xo ev.ws.length cx]), (4, .int .u8 0), (5, .bool false), (7, .pointer (some ⟨(Z.tp x), 0, none⟩)), (53, .int .u8 3), (54, .bool false)]) (φ := True) (rest := []) h37 (by kernel_rfl) rfl trivial fun a39 h40 => ?_
  clear h37
  refine nd_done ?_
  refine hK38 _ _ ?_
  clear hK38
  refine c_false h40 rfl ?_
  refine wp_seq_k fun K41 hK41 => ?_
  refine nd_start (l := [0, 1]) rfl ?_
  refine nd_batch tabOk2 tabZ_ok2 [(0, {}), (1, {})] [6, 3, 0, 1, 4, 5, 7, 53, 59] (T' := [(6, .pointer (some ⟨b14, 0, none⟩)), (3, .pointer (some ⟨b2, 0, none⟩)), (0, .pointer (some ⟨mb, 0, none⟩)), (1, .agg #[.int .u8 3, .int .u32 ev.pick, .int .u64 ev.draw, .int .u32 ev.addr, .int .u32 ev.node, .int .u32 ev.dst, .int .u32 ev.xfer, .int .u8 ev.ty, .int .u64 ev.arg, .int .u64 ev.badge, .slice xo ev.ws.length cx]), (4, .int .u8 0), (5, .bool false), (7, .pointer (some ⟨(Z.tp x), 0, none⟩)), (53, .int .u8 3), (59, .bool true)]) (φ := True) (rest := []) h40 (by kernel_rfl) rfl trivial fun a42 h43 => ?_
  clear h40
  refine nd_done ?_
  refine hK41 _ _ ?_
  clear hK41
  refine c_true h43 rfl ?_
  refine wp_seq_k fun K44 hK44 => ?_
  refine nd_start (l := [0, 1, 2, 3, 4]) rfl ?_
  refine nd_batch tabOk2 tabZ_ok2 [(0, {}), (1, {}), (2, {k := 1})] [6, 3, 0, 1, 4, 5, 7, 53, 61, 63] (T' := [(6, .pointer (some ⟨b14, 0, none⟩)), (3, .pointer (some ⟨b2, 0, none⟩)), (0, .pointer (some ⟨mb, 0, none⟩)), (1, .agg #[.int .u8 3, .int .u32 ev.pick, .int .u64 ev.draw, .int .u32 ev.addr, .int .u32 ev.node, .int .u32 ev.dst, .int .u32 ev.xfer, .int .u8 ev.ty, .int .u64 ev.arg, .int .u64 ev.badge, .slice xo ev.ws.length cx]), (4, .int .u8 0), (5, .bool false), (7, .pointer (some ⟨(Z.tp x), 0, none⟩)), (53, .int .u8 3), (61, .pointer (some ⟨(Z.tp x), 0, none⟩)), (63, .int .u64 ev.draw)]) (φ := (b2 = b2 ∧ Nat.ble (2 + 1) 11 = true) ∧ True) (rest := [3, 4]) h43 (by kernel_rfl) rfl ⟨⟨rfl, rfl⟩, trivial⟩ fun a45 h46 => ?_
  clear h43
  refine nd_op ?_
  refine op_new tabOk2 (cells := [.int .u64 ev.draw]) (ty := 31) (ln := (some 1)) (L1 := fun b47 => [(3, ⟨[.int .u16 0, .int .u32 0], ty3, true⟩), (b2, ⟨[.int .u8 3, .int .u32 ev.pick, .int .u64 ev.draw, .int .u32 ev.addr, .int .u32 ev.node, .int .u32 ev.dst, .int .u32 ev.xfer, .int .u8 ev.ty, .int .u64 ev.arg, .int .u64 ev.badge, .slice xo ev.ws.length cx], 35, false⟩), (b14, ⟨[.int .u16 ((Z.ky x).idx), .int .u32 ((Z.ky x).gen)], 39, false⟩), (b47, ⟨[.int .u64 ev.draw], 31, false⟩)]) h46 rfl rfl rfl rfl (by kernel_rfl) (fun _ => rfl) fun b47 w48 a49 h50 hf51 hn52 => ?_
  clear h46
  refine nd_op ?_
  refine op_call h50 rfl rfl rfl (callOk Tryd.func89 (by decide) rfl) (args := [.pointer (some ⟨(Z.tp x), 0, none⟩), .slice (some ⟨b47, 0, none⟩) 1 1]) rfl (setMsg_ok mb Z _ a _ x hx _ _ [ev.draw] (by simp) _ (mh_of h50 hho (k := 0) rfl) (words_loc h50 (k := 3) rfl)) ?_
  rintro _ w53 ⟨rfl, hg55⟩
  refine ⟨_, rfl, ?_⟩
  have h56a := st_mg h50 hg55 (kcons (fun _ => rfl) (kcons (fun hq => by cases hq) (kcons (fun hq => by cases hq) (kcons (fun hq => by cases hq) knil))))
  have h56 := h56a.put (d := some 65) (v := .tuple #[]) (T' := [(65, .tuple #[]), (64, .slice (some ⟨b47, 0, none⟩) 1 1), (6, .pointer (some ⟨b14, 0, none⟩)), (3, .pointer (some ⟨b2, 0, none⟩)), (0, .pointer (some ⟨mb, 0, none⟩)), (1, .agg #[.int .u8 3, .int .u32 ev.pick, .int .u64 ev.draw, .int .u32 ev.addr, .int .u32 ev.node, .int .u32 ev.dst, .int .u32 ev.xfer, .int .u8 ev.ty, .int .u64 ev.arg, .int .u64 ev.badge, .slice xo ev.ws.length cx]), (4, .int .u8 0), (5, .bool false), (7, .pointer (some ⟨(Z.tp x), 0, none⟩)), (53, .int .u8 3), (61, .pointer (some ⟨(Z.tp x), 0, none⟩)), (63, .int .u64 ev.draw)]) rfl
  have hhoh56 := hg55.mh.ho
  obtain ⟨a57, ea57⟩ : ∃ z : AK, z = a.setT x (msgA (a.th x) [ev.draw]) := ⟨_, rfl⟩
  rw [← ea57] at h56
  have hcx58 : curR Z a57 = Z.ky x := by rw [ea57] <;> exact hcx
  clear h50 h56a
  have ht59 : a57.th x = (msgA (a.th x) [ev.draw]) := by rw [ea57]; exact (upd_same _ _ _).trans (by first | rfl | rw [rfl])
  have hP60 : MP Z a57 := by rw [ea57]; exact MP.msg hP
  refine nd_done ?_
  refine hK44 _ _ ?_
  clear hK44
  refine wp_seq_k fun K61 hK61 => ?_
  refine nd_start (l := [0, 1]) rfl ?_
  refine nd_batch tabOk2 tabZ_ok2 [(0, {}), (1, {})] [6, 3, 0, 1, 7, 53, 4, 5] (T' := [(6, .pointer (some ⟨b14, 0, none⟩)), (3, .pointer (some ⟨b2, 0, none⟩)), (0, .pointer (some ⟨mb, 0, none⟩)), (1, .agg #[.int .u8 3, .int .u32 ev.pick, .int .u64 ev.draw, .int .u32 ev.addr, .int .u32 ev.node, .int .u32 ev.dst, .int .u32 ev.xfer, .int .u8 ev.ty, .int .u64 ev.arg, .int .u64 ev.badge, .slice xo ev.ws.length cx]), (7, .pointer (some ⟨(Z.tp x), 0, none⟩)), (53, .int .u8 3), (4, .int .u8 0), (5, .bool true)]) (φ := True) (rest := []) h56 (by kernel_rfl) rfl trivial fun a62 h63 => ?_
  clear h56
  refine nd_done ?_
  refine hK61 _ _ ?_
  clear hK61
  refine wp_ret ?_
  try simp only [Exit.then, Exit.inBlock]
  try rw [if_pos trivial]
  exact s_ret tabOk2 tabZ_ok2 h63 [(.tmp 4, {}), (.tmp 5, {})] (vs := [.int .u8 0, .bool true]) (φ := True) rfl (by kernel_rfl) trivial ⟨rfl, _, mg_end hH h63 hhoh56 (by subst ea57; simp only [setT_setT])⟩

theorem call8b (mb : Nat) (Z : MZ) (R : MR) (a : AK) (C : CP) (hI : MI Z a C) (x : Nat) (hx : x ∈ sl Z.tl) (hcu : a.cur = (x : Int)) (ev : Ev) (he : EvOk ev) (xo : Option Addr) (cx : Nat) (c : Cp) (cs0 k : Int) (hf : findA a C ev.addr 5 2 = (c, cs0, k)) (hk0 : k ≠ 0) (w : World) (hH : MH mb Z R a C w) (hws : WordsAt (mdF mb Z R C) w xo ev.ws) :
    Calls Tryd.prog 55 #[.pointer (some ⟨mb, 0, none⟩), .agg #[.int .u8 8, .int .u32 ev.pick, .int .u64 ev.draw, .int .u32 ev.addr, .int .u32 ev.node, .int .u32 ev.dst, .int .u32 ev.xfer, .int .u8 ev.ty, .int .u64 ev.arg, .int .u64 ev.badge, .slice xo ev.ws.length cx]] w fun e w' => e = .returned (.tuple #[.int .u8 k, .bool false]) ∧ ∃ R', MG mb Z R C w Z R' a C w' := by
  have hP := hI.mp
  have hcx : curR Z a = Z.ky x := curR_of hcu
  have hcn : a.cur.toNat = x := by rw [hcu]; exact Int.toNat_natCast x
  have hci := (hI.tk x hx).ci
  obtain ⟨ty3, hg3⟩ := hH.g3
  have hho := hH.ho
  have hkk := hH.md.k
  refine enter (n := 628) (K := mdF mb Z R C) (A := MD (mdF mb Z R C) w.heap.size mb Z R a C) (F := mdF mb Z R C) (T := [(0, .pointer (some ⟨mb, 0, none⟩)), (1, .agg #[.int .u8 8, .int .u32 ev.pick, .int .u64 ev.draw, .int .u32 ev.addr, .int .u32 ev.node, .int .u32 ev.dst, .int .u32 ev.xfer, .int .u8 ev.ty, .int .u64 ev.arg, .int .u64 ev.badge, .slice xo ev.ws.length cx])]) (L := [(3, ⟨[.int .u16 0, .int .u32 0], ty3, true⟩)]) (args := [.pointer (some ⟨mb, 0, none⟩), .agg #[.int .u8 8, .int .u32 ev.pick, .int .u64 ev.draw, .int .u32 ev.addr, .int .u32 ev.node, .int .u32 ev.dst, .int .u32 ev.xfer, .int .u8 ev.ty, .int .u64 ev.arg, .int .u64 ev.badge, .slice xo ev.ws.length cx]]) Tryd.func55 rfl rfl rfl rfl (kcons hg3 knil) (by simp) (kcons (by intro hq; cases hq) knil) hH.mD MD.stable hH.md.low (kcons (by intro hq; cases hq) knil) ?_
  intro ac h
  refine wp_seq_k fun K1 hK1 => ?_
  refine nd_start (l := [0, 1, 2]) rfl ?_
  refine nd_op ?_
  refine op_new tabOk2 (cells := [.int .u8 8, .int .u32 ev.pick, .int .u64 ev.draw, .int .u32 ev.addr, .int .u32 ev.node, .int .u32 ev.dst, .int .u32 ev.xfer, .int .u8 ev.ty, .int .u64 ev.arg, .int .u64 ev.badge, .slice xo ev.ws.length cx]) (ty := 35) (ln := none) (L1 := fun b2 => [(3, ⟨[.int .u16 0, .int .u32 0], ty3, true⟩), (b2, ⟨[.int .u8 8, .int .u32 ev.pick, .int .u64 ev.draw, .int .u32 ev.addr, .int .u32 ev.node, .int .u32 ev.dst, .int .u32 ev.xfer, .int .u8 ev.ty, .int .u64 ev.arg, .int .u64 ev.badge, .slice xo ev.ws.length cx], 35, false⟩)]) h rfl rfl rfl rfl (by kernel_rfl) (fun _ => rfl) fun b2 w3 a4 h5 hf6 hn7 => ?_
  clear h
  refine nd_batch tabOk2 tabZ_ok2 [(1, {}), (2, {})] [3, 0, 1, 4, 5] (T' := [(3, .pointer (some ⟨b2, 0, none⟩)), (0, .pointer (some ⟨mb, 0, none⟩)), (1, .agg #[.int .u8 8, .int .u32 ev.pick, .int .u64 ev.draw, .int .u32 ev.addr, .int .u32 ev.node, .int .u32 ev.dst, .int .u32 ev.xfer, .int .u8 ev.ty, .int .u64 ev.arg, .int .u64 ev.badge, .slice xo ev.ws.length cx]), (4, .int .u8 0), (5, .bool false)]) (φ := True) (rest := []) h5 (by kernel_rfl) rfl trivial fun a8 h9 => ?_
  clear h5
  refine nd_done ?_
  refine hK1 _ _ ?_
  clear hK1
  refine wp_seq_k fun K10 hK10 => ?_
  refine nd_start (l := [0, 1, 2, 3, 4, 5]) rfl ?_
  refine nd_batch tabOk2 tabZ_ok2 [(0, {}), (1, {}), (2, {})] [3, 0, 1, 4, 5, 44] (T' := [(3, .pointer (some ⟨b2, 0, none⟩)), (0, .pointer (some ⟨mb, 0, none⟩)), (1, .agg #[.int .u8 8, .int .u32 ev.pick, .int .u64 ev.draw, .int .u32 ev.addr, .int .u32 ev.node, .int .u32 ev.dst, .int .u32 ev.xfer, .int .u8 ev.ty, .int .u64 ev.arg, .int .u64 ev.badge, .slice xo ev.ws.length cx]), (4, .int .u8 0), (5, .bool false), (44, .pointer (some ⟨mb, 13, none⟩))]) (φ := True) (rest := [3, 4, 5]) h9 (by kernel_rfl) rfl trivial fun a11 h12 => ?_
  clear h9
  refine nd_op ?_
  refine op_read (b := mb) (v := .agg #[.int .u16 ((Z.ky x).idx), .int .u32 ((Z.ky x).gen)]) h12 rfl rfl (rd_mA h12 (k := 13) (vs := [.int .u16 ((Z.ky x).idx), .int .u32 ((Z.ky x).gen)]) rfl rfl rfl rfl rfl (by rw [← hcx]; exact md_cur)) ?_
  have h13 := h12.put (d := some 45) (v := .agg #[.int .u16 ((Z.ky x).idx), .int .u32 ((Z.ky x).gen)]) (T' := [(45, .agg #[.int .u16 ((Z.ky x).idx), .int .u32 ((Z.ky x).gen)]), (3, .pointer (some ⟨b2, 0, none⟩)), (0, .pointer (some ⟨mb, 0, none⟩)), (1, .agg #[.int .u8 8, .int .u32 ev.pick, .int .u64 ev.draw, .int .u32 ev.addr, .int .u32 ev.node, .int .u32 ev.dst, .int .u32 ev.xfer, .int .u8 ev.ty, .int .u64 ev.arg, .int .u64 ev.badge, .slice xo ev.ws.length cx]), (4, .int .u8 0), (5, .bool false), (44, .pointer (some ⟨mb, 13, none⟩))]) rfl
  clear h12
  refine nd_op ?_
  refine op_new tabOk2 (cells := [.int .u16 0, .int .u32 0]) (ty := 39) (ln := none) (L1 := fun b14 => [(3, ⟨[.int .u16 0, .int .u32 0], ty3, true⟩), (b2, ⟨[.int .u8 8, .int .u32 ev.pick, .int .u64 ev.draw, .int .u32 ev.addr, .int .u32 ev.node, .int .u32 ev.dst, .int .u32 ev.xfer, .int .u8 ev.ty, .int .u64 ev.arg, .int .u64 ev.badge, .slice xo ev.ws.length cx], 35, false⟩), (b14, ⟨[.int .u16 0, .int .u32 0], 39, false⟩)]) h13 rfl rfl rfl rfl (by kernel_rfl) (fun _ => rfl) fun b14 w15 a16 h17 hf18 hn19 => ?_
  clear h13
  refine nd_op ?_
  refine op_store tabOk2 {k := 2} (L' := [(3, ⟨[.int .u16 0, .int .u32 0], ty3, true⟩), (b2, ⟨[.int .u8 8, .int .u32 ev.pick, .int .u64 ev.draw, .int .u32 ev.addr, .int .u32 ev.node, .int .u32 ev.dst, .int .u32 ev.xfer, .int .u8 ev.ty, .int .u64 ev.arg, .int .u64 ev.badge, .slice xo ev.ws.length cx], 35, false⟩), (b14, ⟨[.int .u16 ((Z.ky x).idx), .int .u32 ((Z.ky x).gen)], 39, false⟩)]) (φ := b14 = b14 ∧ Nat.ble (0 + 2) 2 = true) h17 rfl rfl rfl (by kernel_rfl) ⟨rfl, rfl⟩ fun w20 h21 => ?_
  clear h17
  refine nd_done ?_
  refine hK10 _ _ ?_
  clear hK10
  refine wp_seq_k fun K22 hK22 => ?_
  refine dr_start (KB := [3, b2, b14, mb, Z.tb]) (Bi := [[0, 1, 2, 3, 4], [0, 1, 2, 3, 4], [0, 1, 2, 3, 4], [0, 1, 2, 3, 4], [0, 1, 2, 3, 4], [0, 1, 2, 3, 4], [0, 1, 2, 3, 4]]) mixed h21 fun w23 h24 => ?_
  clear h21
  refine dr_batch tabOk2 tabZ_ok2 (by repeat (first | with_reducible exact PF.body | with_reducible apply PF.inB | with_reducible apply PF.next)) [(0, {}), (1, {}), (2, {})] [6, 3, 0, 1, 4, 5, 48] (T' := [(6, .pointer (some ⟨b14, 0, none⟩)), (3, .pointer (some ⟨b2, 0, none⟩)), (0, .pointer (some ⟨mb, 0, none⟩)), (1, .agg #[.int .u8 8, .int .u32 ev.pick, .int .u64 ev.draw, .int .u32 ev.addr, .int .u32 ev.node, .int .u32 ev.dst, .int .u32 ev.xfer, .int .u8 ev.ty, .int .u64 ev.arg, .int .u64 ev.badge, .slice xo ev.ws.length cx]), (4, .int .u8 0), (5, .bool false), (48, .pointer (some ⟨mb, 2, none⟩))]) (φ := True) (fuel := 4) h24 (by kernel_rfl) rfl (by kernel_rfl) (by kernel_rfl) ⟨trivial, trivial, trivial, trivial⟩ trivial fun a26 h27 => ?_
  clear h24
  refine dr_read (i := 3) (b := mb) (p := 3) (v := .map (some Z.tb)) (fuel := 3) (by repeat (first | with_reducible exact PF.body | with_reducible apply PF.inB | with_reducible apply PF.next)) h27 rfl rfl rfl (by kernel_rfl) (by kernel_rfl) (by kernel_rfl) rfl (rd_m h27 (k := 2) (v := .map (some Z.tb)) rfl rfl rfl rfl (md_p ⟨rfl, trivial⟩)) ?_
  have h28 := h27.put (d := some 49) (v := .map (some Z.tb)) (T' := [(49, .map (some Z.tb)), (6, .pointer (some ⟨b14, 0, none⟩)), (3, .pointer (some ⟨b2, 0, none⟩)), (0, .pointer (some ⟨mb, 0, none⟩)), (1, .agg #[.int .u8 8, .int .u32 ev.pick, .int .u64 ev.draw, .int .u32 ev.addr, .int .u32 ev.node, .int .u32 ev.dst, .int .u32 ev.xfer, .int .u8 ev.ty, .int .u64 ev.arg, .int .u64 ev.badge, .slice xo ev.ws.length cx]), (4, .int .u8 0), (5, .bool false), (48, .pointer (some ⟨mb, 2, none⟩))]) rfl
  clear h27
  refine dr_batch tabOk2 tabZ_ok2 (by repeat (first | with_reducible exact PF.body | with_reducible apply PF.inB | with_reducible apply PF.next)) [(4, {k := 2, p := 2})] [49, 6, 3, 0, 1, 4, 5, 50] (T' := [(49, .map (some Z.tb)), (6, .pointer (some ⟨b14, 0, none⟩)), (3, .pointer (some ⟨b2, 0, none⟩)), (0, .pointer (some ⟨mb, 0, none⟩)), (1, .agg #[.int .u8 8, .int .u32 ev.pick, .int .u64 ev.draw, .int .u32 ev.addr, .int .u32 ev.node, .int .u32 ev.dst, .int .u32 ev.xfer, .int .u8 ev.ty, .int .u64 ev.arg, .int .u64 ev.badge, .slice xo ev.ws.length cx]), (4, .int .u8 0), (5, .bool false), (50, .agg #[.int .u16 ((Z.ky x).idx), .int .u32 ((Z.ky x).gen)])]) (φ := (b14 = b14 ∧ Nat.ble (0 + 2) 2 = true) ∧ True) (fuel := 2) h28 (by kernel_rfl) rfl (by kernel_rfl) (by kernel_rfl) ⟨rfl, trivial⟩ ⟨⟨rfl, rfl⟩, trivial⟩ fun a29 h30 => ?_
  clear h28
  refine dr_read (i := 5) (b := Z.tb) (p := 4) (v := .pointer (some ⟨(Z.tp x), 0, none⟩)) (fuel := 1) (by repeat (first | with_reducible exact PF.body | with_reducible apply PF.inB | with_reducible apply PF.next)) h30 rfl rfl rfl (by kernel_rfl) (by kernel_rfl) (by kernel_rfl) rfl (rd_T h30 (x := x) hx rfl rfl rfl) ?_
  have h31 := h30.put (d := some 51) (v := .pointer (some ⟨(Z.tp x), 0, none⟩)) (T' := [(51, .pointer (some ⟨(Z.tp x), 0, none⟩)), (49, .map (some Z.tb)), (6, .pointer (some ⟨b14, 0, none⟩)), (3, .pointer (some ⟨b2, 0, none⟩)), (0, .pointer (some ⟨mb, 0, none⟩)), (1, .agg #[.int .u8 8, .int .u32 ev.pick, .int .u64 ev.draw, .int .u32 ev.addr, .int .u32 ev.node, .int .u32 ev.dst, .int .u32 ev.xfer, .int .u8 ev.ty, .int .u64 ev.arg, .int .u64 ev.badge, .slice xo ev.ws.length cx]), (4, .int .u8 0), (5, .bool false), (50, .agg #[.int .u16 ((Z.ky x).idx), .int .u32 ((Z.ky x).gen)])]) rfl
  clear h30
  refine dr_batch tabOk2 tabZ_ok2 (by repeat (first | with_reducible exact PF.body | with_reducible apply PF.inB | with_reducible apply PF.next)) [(6, {})] [6, 3, 0, 1, 4, 5, 7] (T' := [(6, .pointer (some ⟨b14, 0, none⟩)), (3, .pointer (some ⟨b2, 0, none⟩)), (0, .pointer (some ⟨mb, 0, none⟩)), (1, .agg #[.int .u8 8, .int .u32 ev.pick, .int .u64 ev.draw, .int .u32 ev.addr, .int .u32 ev.node, .int .u32 ev.dst, .int .u32 ev.xfer, .int .u8 ev.ty, .int .u64 ev.arg, .int .u64 ev.badge, .slice xo ev.ws.length cx]), (4, .int .u8 0), (5, .bool false), (7, .pointer (some ⟨(Z.tp x), 0, none⟩))]) (φ := True) (fuel := 0) h31 (by kernel_rfl) rfl (by kernel_rfl) (by kernel_rfl) ⟨trivial, trivial⟩ trivial fun a32 h33 => ?_
  clear h31
  refine wpAnyK_done (by kernel_rfl) ?_ _
  refine hK22 _ _ ?_
  clear hK22
  refine wp_seq_k fun K34 hK34 => ?_
  refine wp_seq_k fun K35 hK35 => ?_
  refine nd_start (l := [0, 1]) rfl ?_
  refine nd_batch tabOk2 tabZ_ok2 [(0, {}), (1, {k := 1})] [6, 3, 0, 1, 4, 5, 7, 53] (T' := [(6, .pointer (some ⟨b14, 0, none⟩)), (3, .pointer (some ⟨b2, 0, none⟩)), (0, .pointer (some ⟨mb, 0, none⟩)), (1, .agg #[.int .u8 8, .int .u32 ev.pick, .int .u64 ev.draw, .int .u32 ev.addr, .int .u32 ev.node, .int .u32 ev.dst, .int .u32 ev.xfer, .int .u8 ev.ty, .int .u64 ev.arg, .int .u64 ev.badge, .slice xo ev.ws.length cx]), (4, .int .u8 0), (5, .bool false), (7, .pointer (some ⟨(Z.tp x), 0, none⟩)), (53, .int .u8 8)]) (φ := (b2 = b2 ∧ Nat.ble (0 + 1) 11 = true) ∧ True) (rest := []) h33 (by kernel_rfl) rfl ⟨⟨rfl, rfl⟩, trivial⟩ fun a36 h37 => ?_
  clear h33
  refine nd_done ?_
  refine hK35 _ _ ?_
  clear hK35
  refine wp_block ?_
  refine wp_seq_k fun K38 hK38 => ?_
  refine nd_start (l := [0, 1]) rfl ?_
  refine nd_batch tabOk2 tabZ_ok2 [(0, {}), (1, {})] [6, 3, 0, 1, 4, 5, 7, 53, 54] (T' := [(6, .pointer (some ⟨b14, 0, none⟩)), (3, .pointer (some ⟨b2, 0, none⟩)), (0, .pointer (some ⟨mb, 0, none⟩)), (1, .agg #[.int .u8 8, .int .u32 ev.pick, .int .u64 ev.draw, .int .u32 ev.addr, .int .u32 ev.node, .int .u32 ev.dst, .int .u32 ev.xfer, .int .u8 ev.ty, .int .u64 ev.arg, .int .u64 ev.badge, .slice xo ev.ws.length cx]), (4, .int .u8 0), (5, .bool false), (7, .pointer (some ⟨(Z.tp x), 0, none⟩)), (53, .int .u8 8), (54, .bool false)]) (φ := True) (rest := []) h37 (by kernel_rfl) rfl trivial fun a39 h40 => ?_
  clear h37
  refine nd_done ?_
  refine hK38 _ _ ?_
  clear hK38
  refine c_false h40 rfl ?_
  refine wp_seq_k fun K41 hK41 => ?_
  refine nd_start (l := [0, 1]) rfl ?_
  refine nd_batch tabOk2 tabZ_ok2 [(0, {}), (1, {})] [6, 3, 0, 1, 4, 5, 7, 53, 59] (T' := [(6, .pointer (some ⟨b14, 0, none⟩)), (3, .pointer (some ⟨b2, 0, none⟩)), (0, .pointer (some ⟨mb, 0, none⟩)), (1, .agg #[.int .u8 8, .int .u32 ev.pick, .int .u64 ev.draw, .int .u32 ev.addr, .int .u32 ev.node, .int .u32 ev.dst, .int .u32 ev.xfer, .int .u8 ev.ty, .int .u64 ev.arg, .int .u64 ev.badge, .slice xo ev.ws.length cx]), (4, .int .u8 0), (5, .bool false), (7, .pointer (some ⟨(Z.tp x), 0, none⟩)), (53, .int .u8 8), (59, .bool false)]) (φ := True) (rest := []) h40 (by kernel_rfl) rfl trivial fun a42 h43 => ?_
  clear h40
  refine nd_done ?_
  refine hK41 _ _ ?_
  clear hK41
  refine c_false h43 rfl ?_
  refine wp_seq_k fun K44 hK44 => ?_
  refine wp_seq_k fun K45 hK45 => ?_
  refine nd_start (l := [0, 1]) rfl ?_
  refine nd_batch tabOk2 tabZ_ok2 [(0, {}), (1, {})] [6, 3, 0, 1, 4, 5, 7, 53, 66] (T' := [(6, .pointer (some ⟨b14, 0, none⟩)), (3, .pointer (some ⟨b2, 0, none⟩)), (0, .pointer (some ⟨mb, 0, none⟩)), (1, .agg #[.int .u8 8, .int .u32 ev.pick, .int .u64 ev.draw, .int .u32 ev.addr, .int .u32 ev.node, .int .u32 ev.dst, .int .u32 ev.xfer, .int .u8 ev.ty, .int .u64 ev.arg, .int .u64 ev.badge, .slice xo ev.ws.length cx]), (4, .int .u8 0), (5, .bool false), (7, .pointer (some ⟨(Z.tp x), 0, none⟩)), (53, .int .u8 8), (66, .bool false)]) (φ := True) (rest := []) h43 (by kernel_rfl) rfl trivial fun a46 h47 => ?_
  clear h43
  refine nd_done ?_
  refine hK45 _ _ ?_
  clear hK45
  refine c_false h47 rfl ?_
  refine nd_start (l := [0, 1]) rfl ?_
  refine nd_batch tabOk2 tabZ_ok2 [(0, {}), (1, {})] [6, 3, 0, 1, 4, 5, 7, 53, 66] (T' := [(6, .pointer (some ⟨b14, 0, none⟩)), (3, .pointer (some ⟨b2, 0, none⟩)), (0, .pointer (some ⟨mb, 0, none⟩)), (1, .agg #[.int .u8 8, .int .u32 ev.pick, .int .u64 ev.draw, .int .u32 ev.addr, .int .u32 ev.node, .int .u32 ev.dst, .int .u32 ev.xfer, .int .u8 ev.ty, .int .u64 ev.arg, .int .u64 ev.badge, .slice xo ev.ws.length cx]), (4, .int .u8 0), (5, .bool false), (7, .pointer (some ⟨(Z.tp x), 0, none⟩)), (53, .int .u8 8), (66, .bool false)]) (φ := True) (rest := []) h47 (by kernel_rfl) rfl trivial fun a48 h49 => ?_
  clear h47
  refine nd_done ?_
  refine hK44 _ _ ?_
  clear hK44
  refine c_false h49 rfl ?_
  refine wp_seq_k fun K50 hK50 => ?_
  refine nd_start (l := [0, 1]) rfl ?_
  refine nd_batch tabOk2 tabZ_ok2 [(0, {}), (1, {})] [6, 3, 0, 1, 4, 5, 7, 53, 66, 129] (T' := [(6, .pointer (some ⟨b14, 0, none⟩)), (3, .pointer (some ⟨b2, 0, none⟩)), (0, .pointer (some ⟨mb, 0, none⟩)), (1, .agg #[.int .u8 8, .int .u32 ev.pick, .int .u64 ev.draw, .int .u32 ev.addr, .int .u32 ev.node, .int .u32 ev.dst, .int .u32 ev.xfer, .int .u8 ev.ty, .int .u64 ev.arg, .int .u64 ev.badge, .slice xo ev.ws.length cx]), (4, .int .u8 0), (5, .bool false), (7, .pointer (some ⟨(Z.tp x), 0, none⟩)), (53, .int .u8 8), (66, .bool false), (129, .bool false)]) (φ := True) (rest := []) h49 (by kernel_rfl) rfl trivial fun a51 h52 => ?_
  clear h49
  refine nd_done ?_
  refine hK50 _ _ ?_
  clear hK50
  refine c_false h52 rfl ?_
  refine wp_seq_k fun K53 hK53 => ?_
  refine nd_start (l := [0, 1]) rfl ?_
  refine nd_batch tabOk2 tabZ_ok2 [(0, {}), (1, {})] [6, 3, 0, 1, 4, 5, 7, 53, 66, 165] (T' := [(6, .pointer (some ⟨b14, 0, none⟩)), (3, .pointer (some ⟨b2, 0, none⟩)), (0, .pointer (some ⟨mb, 0, none⟩)), (1, .agg #[.int .u8 8, .int .u32 ev.pick, .int .u64 ev.draw, .int .u32 ev.addr, .int .u32 ev.node, .int .u32 ev.dst, .int .u32 ev.xfer, .int .u8 ev.ty, .int .u64 ev.arg, .int .u64 ev.badge, .slice xo ev.ws.length cx]), (4, .int .u8 0), (5, .bool false), (7, .pointer (some ⟨(Z.tp x), 0, none⟩)), (53, .int .u8 8), (66, .bool false), (165, .bool false)]) (φ := True) (rest := []) h52 (by kernel_rfl) rfl trivial fun a54 h55 => ?_
  clear h52
  refine nd_done ?_
  refine hK53 _ _ ?_
  clear hK53
  refine c_false h55 rfl ?_
  refine wp_seq_k fun K56 hK56 => ?_
  refine nd_start (l := [0, 1]) rfl ?_
  refine nd_batch tabOk2 tabZ_ok2 [(0, {}), (1, {})] [6, 3, 0, 1, 4, 5, 7, 53, 66, 226] (T' := [(6, .pointer (some ⟨b14, 0, none⟩)), (3, .pointer (some ⟨b2, 0, none⟩)), (0, .pointer (some ⟨mb, 0, none⟩)), (1, .agg #[.int .u8 8, .int .u32 ev.pick, .int .u64 ev.draw, .int .u32 ev.addr, .int .u32 ev.node, .int .u32 ev.dst, .int .u32 ev.xfer, .int .u8 ev.ty, .int .u64 ev.arg, .int .u64 ev.badge, .slice xo ev.ws.length cx]), (4, .int .u8 0), (5, .bool false), (7, .pointer (some ⟨(Z.tp x), 0, none⟩)), (53, .int .u8 8), (66, .bool false), (226, .bool true)]) (φ := True) (rest := []) h55 (by kernel_rfl) rfl trivial fun a57 h58 => ?_
  clear h55
  refine nd_done ?_
  refine hK56 _ _ ?_
  clear hK56
  refine c_true h58 rfl ?_
  refine wp_seq_k fun K59 hK59 => ?_
  refine nd_start (l := [0, 1, 2, 3, 4, 5, 6, 7, 8, 9]) rfl ?_
  refine nd_batch tabOk2 tabZ_ok2 [(0, {}), (1, {}), (2, {k := 1})] [6, 3, 0, 1, 4, 5, 7, 53, 66, 229, 231] (T' := [(6, .pointer (some ⟨b14, 0, none⟩)), (3, .pointer (some ⟨b2, 0, none⟩)), (0, .pointer (some ⟨mb, 0, none⟩)), (1, .agg #[.int .u8 8, .int .u32 ev.pick, .int .u64 ev.draw, .int .u32 ev.addr, .int .u32 ev.node, .int .u32 ev.dst, .int .u32 ev.xfer, .int .u8 ev.ty, .int .u64 ev.arg, .int .u64 ev.badge, .slice xo ev.ws.length cx]), (4, .int .u8 0), (5, .bool false), (7, .pointer (some ⟨(Z.tp x), 0, none⟩)), (53, .int .u8 8), (66, .bool false), (229, .pointer (some ⟨mb, 0, none⟩)), (231, .int .u32 ev.addr)]) (φ := (b2 = b2 ∧ Nat.ble (3 + 1) 11 = true) ∧ True) (rest := [3, 4, 5, 6, 7, 8, 9]) h58 (by kernel_rfl) rfl ⟨⟨rfl, rfl⟩, trivial⟩ fun a60 h61 => ?_
  clear h58
  refine nd_op ?_
  refine op_call h61 rfl rfl rfl (callOk Tryd.func90 (by decide) rfl) (args := [.pointer (some ⟨mb, 0, none⟩), .int .u32 ev.addr, .int .u8 5, .int .u8 2]) rfl (capOf_ok mb Z _ a C x hx hcx hci hcn hI.ci ev.addr 5 2 he.addr _ (mh_of h61 hho (k := 0) rfl) hf) ?_
  rintro _ w62 ⟨rfl, hg64⟩
  refine ⟨_, rfl, ?_⟩
  have h65a := st_mg h61 hg64 (kcons (fun _ => rfl) (kcons (fun hq => by cases hq) (kcons (fun hq => by cases hq) knil)))
  have h65 := h65a.put (d := some 232) (v := .tuple #[.agg #[.int .u8 c.ty, .int .u16 c.obj.idx, .int .u32 c.obj.gen, .int .u8 c.rights, .int .u64 c.badge], .int .u8 k]) (T' := [(232, .tuple #[.agg #[.int .u8 c.ty, .int .u16 c.obj.idx, .int .u32 c.obj.gen, .int .u8 c.rights, .int .u64 c.badge], .int .u8 k]), (6, .pointer (some ⟨b14, 0, none⟩)), (3, .pointer (some ⟨b2, 0, none⟩)), (0, .pointer (some ⟨mb, 0, none⟩)), (1, .agg #[.int .u8 8, .int .u32 ev.pick, .int .u64 ev.draw, .int .u32 ev.addr, .int .u32 ev.node, .int .u32 ev.dst, .int .u32 ev.xfer, .int .u8 ev.ty, .int .u64 ev.arg, .int .u64 ev.badge, .slice xo ev.ws.length cx]), (4, .int .u8 0), (5, .bool false), (7, .pointer (some ⟨(Z.tp x), 0, none⟩)), (53, .int .u8 8), (66, .bool false), (229, .pointer (some ⟨mb, 0, none⟩)), (231, .int .u32 ev.addr)]) rfl
  have hhoh65 := hg64.mh.ho
  clear h61 h65a
  refine nd_batch tabOk2 tabZ_ok2 [(4, {}), (5, {}), (6, {})] [6, 3, 0, 1, 4, 5, 7, 53, 66, 233, 234] (T' := [(6, .pointer (some ⟨b14, 0, none⟩)), (3, .pointer (some ⟨b2, 0, none⟩)), (0, .pointer (some ⟨mb, 0, none⟩)), (1, .agg #[.int .u8 8, .int .u32 ev.pick, .int .u64 ev.draw, .int .u32 ev.addr, .int .u32 ev.node, .int .u32 ev.dst, .int .u32 ev.xfer, .int .u8 ev.ty, .int .u64 ev.arg, .int .u64 ev.badge, .slice xo ev.ws.length cx]), (4, .int .u8 0), (5, .bool false), (7, .pointer (some ⟨(Z.tp x), 0, none⟩)), (53, .int .u8 8), (66, .bool false), (233, .agg #[.int .u8 c.ty, .int .u16 c.obj.idx, .int .u32 c.obj.gen, .int .u8 c.rights, .int .u64 c.badge]), (234, .int .u8 k)]) (φ := True) (rest := [7, 8, 9]) h65 (by kernel_rfl) rfl trivial fun a66 h67 => ?_
  clear h65
  refine nd_op ?_
  refine op_new tabOk2 (cells := [.int .u8 0, .int .u16 0, .int .u32 0, .int .u8 0, .int .u64 0]) (ty := 49) (ln := none) (L1 := fun b68 => [(3, ⟨[.int .u16 0, .int .u32 0], ty3, true⟩), (b2, ⟨[.int .u8 8, .int .u32 ev.pick, .int .u64 ev.draw, .int .u32 ev.addr, .int .u32 ev.node, .int .u32 ev.dst, .int .u32 ev.xfer, .int .u8 ev.ty, .int .u64 ev.arg, .int .u64 ev.badge, .slice xo ev.ws.length cx], 35, false⟩), (b14, ⟨[.int .u16 ((Z.ky x).idx), .int .u32 ((Z.ky x).gen)], 39, false⟩), (b68, ⟨[.int .u8 0, .int .u16 0, .int .u32 0, .int .u8 0, .int .u64 0], 49, false⟩)]) h67 rfl rfl rfl rfl (by kernel_rfl) (fun _ => rfl) fun b68 w69 a70 h71 hf72 hn73 => ?_
  clear h67
  refine nd_op ?_
  refine op_store tabOk2 {k := 3} (L' := [(3, ⟨[.int .u16 0, .int .u32 0], ty3, true⟩), (b2, ⟨[.int .u8 8, .int .u32 ev.pick, .int .u64 ev.draw, .int .u32 ev.addr, .int .u32 ev.node, .int .u32 ev.dst, .int .u32 ev.xfer, .int .u8 ev.ty, .int .u64 ev.arg, .int .u64 ev.badge, .slice xo ev.ws.length cx], 35, false⟩), (b14, ⟨[.int .u16 ((Z.ky x).idx), .int .u32 ((Z.ky x).gen)], 39, false⟩), (b68, ⟨[.int .u8 c.ty, .int .u16 c.obj.idx, .int .u32 c.obj.gen, .int .u8 c.rights, .int .u64 c.badge], 49, false⟩)]) (φ := b68 = b68 ∧ Nat.ble (0 + 5) 5 = true) h71 rfl rfl rfl (by kernel_rfl) ⟨rfl, rfl⟩ fun w74 h75 => ?_
  clear h71
  refine nd_batch tabOk2 tabZ_ok2 [(9, {})] [16, 6, 3, 0, 1, 4, 5, 7, 53, 66, 17] (T' := [(16, .pointer (some ⟨b68, 0, none⟩)), (6, .pointer (some ⟨b14, 0, none⟩)), (3, .pointer (some ⟨b2, 0, none⟩)), (0, .pointer (some ⟨mb, 0, none⟩)), (1, .agg #[.int .u8 8, .int .u32 ev.pick, .int .u64 ev.draw, .int .u32 ev.addr, .int .u32 ev.node, .int .u32 ev.dst, .int .u32 ev.xfer, .int .u8 ev.ty, .int .u64 ev.arg, .int .u64 ev.badge, .slice xo ev.ws.length cx]), (4, .int .u8 0), (5, .bool false), (7, .pointer (some ⟨(Z.tp x), 0, none⟩)), (53, .int .u8 8), (66, .bool false), (17, .int .u8 k)]) (φ := True) (rest := []) h75 (by kernel_rfl) rfl trivial fun a76 h77 => ?_
  clear h75
  refine nd_done ?_
  refine hK59 _ _ ?_
  clear hK59
  refine wp_seq_k fun K78 hK78 => ?_
  refine wp_seq_k fun K79 hK79 => ?_
  refine nd_start (l := [0, 1]) rfl ?_
  refine nd_batch tabOk2 tabZ_ok2 [(0, {}), (1, {})] [16, 6, 3, 0, 1, 4, 5, 7, 53, 66, 17, 236] (T' := [(16, .pointer (some ⟨b68, 0, none⟩)), (6, .pointer (some ⟨b14, 0, none⟩)), (3, .pointer (some ⟨b2, 0, none⟩)), (0, .pointer (some ⟨mb, 0, none⟩)), (1, .agg #[.int .u8 8, .int .u32 ev.pick, .int .u64 ev.draw, .int .u32 ev.addr, .int .u32 ev.node, .int .u32 ev.dst, .int .u32 ev.xfer, .int .u8 ev.ty, .int .u64 ev.arg, .int .u64 ev.badge, .slice xo ev.ws.length cx]), (4, .int .u8 0), (5, .bool false), (7, .pointer (some ⟨(Z.tp x), 0, none⟩)), (53, .int .u8 8), (66, .bool false), (17, .int .u8 k), (236, .bool (k == 0))]) (φ := True) (rest := []) h77 (by kernel_rfl) rfl trivial fun a80 h81 => ?_
  clear h77
  refine nd_done ?_
  refine hK79 _ _ ?_
  clear hK79
  refine c_split h81 (b := (k == 0)) rfl (fun hc82 => ?_) (fun hc82 => ?_)
  ·
    have hc82f : k = 0 := by simpa using hc82
    exact absurd hc82f hk0
  ·
    have hc82f : k ≠ 0 := by simpa using hc82
    refine wp_skip ?_
    refine hK78 _ _ ?_
    clear hK78
    refine wp_seq_k fun K83 hK83 => ?_
    refine nd_start (l := [0, 1, 2]) rfl ?_
    refine nd_batch tabOk2 tabZ_ok2 [(0, {}), (1, {}), (2, {})] [16, 6, 3, 0, 1, 7, 53, 66, 17, 4, 5] (T' := [(16, .pointer (some ⟨b68, 0, none⟩)), (6, .pointer (some ⟨b14, 0, none⟩)), (3, .pointer (some ⟨b2, 0, none⟩)), (0, .pointer (some ⟨mb, 0, none⟩)), (1, .agg #[.int .u8 8, .int .u32 ev.pick, .int .u64 ev.draw, .int .u32 ev.addr, .int .u32 ev.node, .int .u32 ev.dst, .int .u32 ev.xfer, .int .u8 ev.ty, .int .u64 ev.arg, .int .u64 ev.badge, .slice xo ev.ws.length cx]), (7, .pointer (some ⟨(Z.tp x), 0, none⟩)), (53, .int .u8 8), (66, .bool false), (17, .int .u8 k), (4, .int .u8 k), (5, .bool false)]) (φ := True) (rest := []) h81 (by kernel_rfl) rfl trivial fun a84 h85 => ?_
    clear h81
    refine nd_done ?_
    refine hK83 _ _ ?_
    clear hK83
    refine wp_ret ?_
    try simp only [Exit.then, Exit.inBlock]
    try rw [if_pos trivial]
    exact s_ret tabOk2 tabZ_ok2 h85 [(.tmp 4, {}), (.tmp 5, {})] (vs := [.int .u8 k, .bool false]) (φ := True) rfl (by kernel_rfl) trivial ⟨rfl, _, mg_end hH h85 hhoh65 rfl⟩

theorem call8g (mb : Nat) (Z : MZ) (R : MR) (a : AK) (C : CP) (hI : MI Z a C) (x : Nat) (hx : x ∈ sl Z.tl) (hcu : a.cur = (x : Int)) (ev : Ev) (he : EvOk ev) (xo : Option Addr) (cx : Nat) (i : Nat) (hi : i ∈ sl Z.ql) (ct rt bd cs0 : Int) (hf : findA a C ev.addr 5 2 = (⟨ct, Z.ky i, rt, bd⟩, cs0, 0)) (w : World) (hH : MH mb Z R a C w) (hws : WordsAt (mdF mb Z R C) w xo ev.ws) :
    Calls Tryd.prog 55 #[.pointer (some ⟨mb, 0, none⟩), .agg #[.int .u8 8, .int .u32 ev.pick, .int .u64 ev.draw, .int .u32 ev.addr, .int .u32 ev.node, .int .u32 ev.dst, .int .u32 ev.xfer, .int .u8 ev.ty, .int .u64 ev.arg, .int .u64 ev.badge, .slice xo ev.ws.length cx]] w fun e w' => e = .returned (.tuple #[.int .u8 0, .bool false]) ∧ ∃ R', MG mb Z R C w Z R' (signalA a (Z.ky i) bd) C w' := by
  have hP := hI.mp
  have hcx : curR Z a = Z.ky x := curR_of hcu
  have hcn : a.cur.toNat = x := by rw [hcu]; exact Int.toNat_natCast x
  have hci := (hI.tk x hx).ci
  obtain ⟨ty3, hg3⟩ := hH.g3
  have hho := hH.ho
  have hkk := hH.md.k
  refine enter (n := 628) (K := mdF mb Z R C) (A := MD (mdF mb Z R C) w.heap.size mb Z R a C) (F := mdF mb Z R C) (T := [(0, .pointer (some ⟨mb, 0, none⟩)), (1, .agg #[.int .u8 8, .int .u32 ev.pick, .int .u64 ev.draw, .int .u32 ev.addr, .int .u32 ev.node, .int .u32 ev.dst, .int .u32 ev.xfer, .int .u8 ev.ty, .int .u64 ev.arg, .int .u64 ev.badge, .slice xo ev.ws.length cx])]) (L := [(3, ⟨[.int .u16 0, .int .u32 0], ty3, true⟩)]) (args := [.pointer (some ⟨mb, 0, none⟩), .agg #[.int .u8 8, .int .u32 ev.pick, .int .u64 ev.draw, .int .u32 ev.addr, .int .u32 ev.node, .int .u32 ev.dst, .int .u32 ev.xfer, .int .u8 ev.ty, .int .u64 ev.arg, .int .u64 ev.badge, .slice xo ev.ws.length cx]]) Tryd.func55 rfl rfl rfl rfl (kcons hg3 knil) (by simp) (kcons (by intro hq; cases hq) knil) hH.mD MD.stable hH.md.low (kcons (by intro hq; cases hq) knil) ?_
  intro ac h
  refine wp_seq_k fun K1 hK1 => ?_
  refine nd_start (l := [0, 1, 2]) rfl ?_
  refine nd_op ?_
  refine op_new tabOk2 (cells := [.int .u8 8, .int .u32 ev.pick, .int .u64 ev.draw, .int .u32 ev.addr, .int .u32 ev.node, .int .u32 ev.dst, .int .u32 ev.xfer, .int .u8 ev.ty, .int .u64 ev.arg, .int .u64 ev.badge, .slice xo ev.ws.length cx]) (ty := 35) (ln := none) (L1 := fun b2 => [(3, ⟨[.int .u16 0, .int .u32 0], ty3, true⟩), (b2, ⟨[.int .u8 8, .int .u32 ev.pick, .int .u64 ev.draw, .int .u32 ev.addr, .int .u32 ev.node, .int .u32 ev.dst, .int .u32 ev.xfer, .int .u8 ev.ty, .int .u64 ev.arg, .int .u64 ev.badge, .slice xo ev.ws.length cx], 35, false⟩)]) h rfl rfl rfl rfl (by kernel_rfl) (fun _ => rfl) fun b2 w3 a4 h5 hf6 hn7 => ?_
  clear h
  refine nd_batch tabOk2 tabZ_ok2 [(1, {}), (2, {})] [3, 0, 1, 4, 5] (T' := [(3, .pointer (some ⟨b2, 0, none⟩)), (0, .pointer (some ⟨mb, 0, none⟩)), (1, .agg #[.int .u8 8, .int .u32 ev.pick, .int .u64 ev.draw, .int .u32 ev.addr, .int .u32 ev.node, .int .u32 ev.dst, .int .u32 ev.xfer, .int .u8 ev.ty, .int .u64 ev.arg, .int .u64 ev.badge, .slice xo ev.ws.length cx]), (4, .int .u8 0), (5, .bool false)]) (φ := True) (rest := []) h5 (by kernel_rfl) rfl trivial fun a8 h9 => ?_
  clear h5
  refine nd_done ?_
  refine hK1 _ _ ?_
  clear hK1
  refine wp_seq_k fun K10 hK10 => ?_
  refine nd_start (l := [0, 1, 2, 3, 4, 5]) rfl ?_
  refine nd_batch tabOk2 tabZ_ok2 [(0, {}), (1, {}), (2, {})] [3, 0, 1, 4, 5, 44] (T' := [(3, .pointer (some ⟨b2, 0, none⟩)), (0, .pointer (some ⟨mb, 0, none⟩)), (1, .agg #[.int .u8 8, .int .u32 ev.pick, .int .u64 ev.draw, .int .u32 ev.addr, .int .u32 ev.node, .int .u32 ev.dst, .int .u32 ev.xfer, .int .u8 ev.ty, .int .u64 ev.arg, .int .u64 ev.badge, .slice xo ev.ws.length cx]), (4, .int .u8 0), (5, .bool false), (44, .pointer (some ⟨mb, 13, none⟩))]) (φ := True) (rest := [3, 4, 5]) h9 (by kernel_rfl) rfl trivial fun a11 h12 => ?_
  clear h9
  refine nd_op ?_
  refine op_read (b := mb) (v := .agg #[.int .u16 ((Z.ky x).idx), .int .u32 ((Z.ky x).gen)]) h12 rfl rfl (rd_mA h12 (k := 13) (vs := [.int .u16 ((Z.ky x).idx), .int .u32 ((Z.ky x).gen)]) rfl rfl rfl rfl rfl (by rw [← hcx]; exact md_cur)) ?_
  have h13 := h12.put (d := some 45) (v := .agg #[.int .u16 ((Z.ky x).idx), .int .u32 ((Z.ky x).gen)]) (T' := [(45, .agg #[.int .u16 ((Z.ky x).idx), .int .u32 ((Z.ky x).gen)]), (3, .pointer (some ⟨b2, 0, none⟩)), (0, .pointer (some ⟨mb, 0, none⟩)), (1, .agg #[.int .u8 8, .int .u32 ev.pick, .int .u64 ev.draw, .int .u32 ev.addr, .int .u32 ev.node, .int .u32 ev.dst, .int .u32 ev.xfer, .int .u8 ev.ty, .int .u64 ev.arg, .int .u64 ev.badge, .slice xo ev.ws.length cx]), (4, .int .u8 0), (5, .bool false), (44, .pointer (some ⟨mb, 13, none⟩))]) rfl
  clear h12
  refine nd_op ?_
  refine op_new tabOk2 (cells := [.int .u16 0, .int .u32 0]) (ty := 39) (ln := none) (L1 := fun b14 => [(3, ⟨[.int .u16 0, .int .u32 0], ty3, true⟩), (b2, ⟨[.int .u8 8, .int .u32 ev.pick, .int .u64 ev.draw, .int .u32 ev.addr, .int .u32 ev.node, .int .u32 ev.dst, .int .u32 ev.xfer, .int .u8 ev.ty, .int .u64 ev.arg, .int .u64 ev.badge, .slice xo ev.ws.length cx], 35, false⟩), (b14, ⟨[.int .u16 0, .int .u32 0], 39, false⟩)]) h13 rfl rfl rfl rfl (by kernel_rfl) (fun _ => rfl) fun b14 w15 a16 h17 hf18 hn19 => ?_
  clear h13
  refine nd_op ?_
  refine op_store tabOk2 {k := 2} (L' := [(3, ⟨[.int .u16 0, .int .u32 0], ty3, true⟩), (b2, ⟨[.int .u8 8, .int .u32 ev.pick, .int .u64 ev.draw, .int .u32 ev.addr, .int .u32 ev.node, .int .u32 ev.dst, .int .u32 ev.xfer, .int .u8 ev.ty, .int .u64 ev.arg, .int .u64 ev.badge, .slice xo ev.ws.length cx], 35, false⟩), (b14, ⟨[.int .u16 ((Z.ky x).idx), .int .u32 ((Z.ky x).gen)], 39, false⟩)]) (φ := b14 = b14 ∧ Nat.ble (0 + 2) 2 = true) h17 rfl rfl rfl (by kernel_rfl) ⟨rfl, rfl⟩ fun w20 h21 => ?_
  clear h17
  refine nd_done ?_
  refine hK10 _ _ ?_
  clear hK10
  refine wp_seq_k fun K22 hK22 => ?_
  refine dr_start (KB := [3, b2, b14, mb, Z.tb]) (Bi := [[0, 1, 2, 3, 4], [0, 1, 2, 3, 4], [0, 1, 2, 3, 4], [0, 1, 2, 3, 4], [0, 1, 2, 3, 4], [0, 1, 2, 3, 4], [0, 1, 2, 3, 4]]) mixed h21 fun w23 h24 => ?_
  clear h21
  refine dr_batch tabOk2 tabZ_ok2 (by repeat (first | with_reducible exact PF.body | with_reducible apply PF.inB | with_reducible apply PF.next)) [(0, {}), (1, {}), (2, {})] [6, 3, 0, 1, 4, 5, 48] (T' := [(6, .pointer (some ⟨b14, 0, none⟩)), (3, .pointer (some ⟨b2, 0, none⟩)), (0, .pointer (some ⟨mb, 0, none⟩)), (1, .agg #[.int .u8 8, .int .u32 ev.pick, .int .u64 ev.draw, .int .u32 ev.addr, .int .u32 ev.node, .int .u32 ev.dst, .int .u32 ev.xfer, .int .u8 ev.ty, .int .u64 ev.arg, .int .u64 ev.badge, .slice xo ev.ws.length cx]), (4, .int .u8 0), (5, .bool false), (48, .pointer (some ⟨mb, 2, none⟩))]) (φ := True) (fuel := 4) h24 (by kernel_rfl) rfl (by kernel_rfl) (by kernel_rfl) ⟨trivial, trivial, trivial, trivial⟩ trivial fun a26 h27 => ?_
  clear h24
  refine dr_read (i := 3) (b := mb) (p := 3) (v := .map (some Z.tb)) (fuel := 3) (by repeat (first | with_reducible exact PF.body | with_reducible apply PF.inB | with_reducible apply PF.next)) h27 rfl rfl rfl (by kernel_rfl) (by kernel_rfl) (by kernel_rfl) rfl (rd_m h27 (k := 2) (v := .map (some Z.tb)) rfl rfl rfl rfl (md_p ⟨rfl, trivial⟩)) ?_
  have h28 := h27.put (d := some 49) (v := .map (some Z.tb)) (T' := [(49, .map (some Z.tb)), (6, .pointer (some ⟨b14, 0, none⟩)), (3, .pointer (some ⟨b2, 0, none⟩)), (0, .pointer (some ⟨mb, 0, none⟩)), (1, .agg #[.int .u8 8, .int .u32 ev.pick, .int .u64 ev.draw, .int .u32 ev.addr, .int .u32 ev.node, .int .u32 ev.dst, .int .u32 ev.xfer, .int .u8 ev.ty, .int .u64 ev.arg, .int .u64 ev.badge, .slice xo ev.ws.length cx]), (4, .int .u8 0), (5, .bool false), (48, .pointer (some ⟨mb, 2, none⟩))]) rfl
  clear h27
  refine dr_batch tabOk2 tabZ_ok2 (by repeat (first | with_reducible exact PF.body | with_reducible apply PF.inB | with_reducible apply PF.next)) [(4, {k := 2, p := 2})] [49, 6, 3, 0, 1, 4, 5, 50] (T' := [(49, .map (some Z.tb)), (6, .pointer (some ⟨b14, 0, none⟩)), (3, .pointer (some ⟨b2, 0, none⟩)), (0, .pointer (some ⟨mb, 0, none⟩)), (1, .agg #[.int .u8 8, .int .u32 ev.pick, .int .u64 ev.draw, .int .u32 ev.addr, .int .u32 ev.node, .int .u32 ev.dst, .int .u32 ev.xfer, .int .u8 ev.ty, .int .u64 ev.arg, .int .u64 ev.badge, .slice xo ev.ws.length cx]), (4, .int .u8 0), (5, .bool false), (50, .agg #[.int .u16 ((Z.ky x).idx), .int .u32 ((Z.ky x).gen)])]) (φ := (b14 = b14 ∧ Nat.ble (0 + 2) 2 = true) ∧ True) (fuel := 2) h28 (by kernel_rfl) rfl (by kernel_rfl) (by kernel_rfl) ⟨rfl, trivial⟩ ⟨⟨rfl, rfl⟩, trivial⟩ fun a29 h30 => ?_
  clear h28
  refine dr_read (i := 5) (b := Z.tb) (p := 4) (v := .pointer (some ⟨(Z.tp x), 0, none⟩)) (fuel := 1) (by repeat (first | with_reducible exact PF.body | with_reducible apply PF.inB | with_reducible apply PF.next)) h30 rfl rfl rfl (by kernel_rfl) (by kernel_rfl) (by kernel_rfl) rfl (rd_T h30 (x := x) hx rfl rfl rfl) ?_
  have h31 := h30.put (d := some 51) (v := .pointer (some ⟨(Z.tp x), 0, none⟩)) (T' := [(51, .pointer (some ⟨(Z.tp x), 0, none⟩)), (49, .map (some Z.tb)), (6, .pointer (some ⟨b14, 0, none⟩)), (3, .pointer (some ⟨b2, 0, none⟩)), (0, .pointer (some ⟨mb, 0, none⟩)), (1, .agg #[.int .u8 8, .int .u32 ev.pick, .int .u64 ev.draw, .int .u32 ev.addr, .int .u32 ev.node, .int .u32 ev.dst, .int .u32 ev.xfer, .int .u8 ev.ty, .int .u64 ev.arg, .int .u64 ev.badge, .slice xo ev.ws.length cx]), (4, .int .u8 0), (5, .bool false), (50, .agg #[.int .u16 ((Z.ky x).idx), .int .u32 ((Z.ky x).gen)])]) rfl
  clear h30
  refine dr_batch tabOk2 tabZ_ok2 (by repeat (first | with_reducible exact PF.body | with_reducible apply PF.inB | with_reducible apply PF.next)) [(6, {})] [6, 3, 0, 1, 4, 5, 7] (T' := [(6, .pointer (some ⟨b14, 0, none⟩)), (3, .pointer (some ⟨b2, 0, none⟩)), (0, .pointer (some ⟨mb, 0, none⟩)), (1, .agg #[.int .u8 8, .int .u32 ev.pick, .int .u64 ev.draw, .int .u32 ev.addr, .int .u32 ev.node, .int .u32 ev.dst, .int .u32 ev.xfer, .int .u8 ev.ty, .int .u64 ev.arg, .int .u64 ev.badge, .slice xo ev.ws.length cx]), (4, .int .u8 0), (5, .bool false), (7, .pointer (some ⟨(Z.tp x), 0, none⟩))]) (φ := True) (fuel := 0) h31 (by kernel_rfl) rfl (by kernel_rfl) (by kernel_rfl) ⟨trivial, trivial⟩ trivial fun a32 h33 => ?_
  clear h31
  refine wpAnyK_done (by kernel_rfl) ?_ _
  refine hK22 _ _ ?_
  clear hK22
  refine wp_seq_k fun K34 hK34 => ?_
  refine wp_seq_k fun K35 hK35 => ?_
  refine nd_start (l := [0, 1]) rfl ?_
  refine nd_batch tabOk2 tabZ_ok2 [(0, {}), (1, {k := 1})] [6, 3, 0, 1, 4, 5, 7, 53] (T' := [(6, .pointer (some ⟨b14, 0, none⟩)), (3, .pointer (some ⟨b2, 0, none⟩)), (0, .pointer (some ⟨mb, 0, none⟩)), (1, .agg #[.int .u8 8, .int .u32 ev.pick, .int .u64 ev.draw, .int .u32 ev.addr, .int .u32 ev.node, .int .u32 ev.dst, .int .u32 ev.xfer, .int .u8 ev.ty, .int .u64 ev.arg, .int .u64 ev.badge, .slice xo ev.ws.length cx]), (4, .int .u8 0), (5, .bool false), (7, .pointer (some ⟨(Z.tp x), 0, none⟩)), (53, .int .u8 8)]) (φ := (b2 = b2 ∧ Nat.ble (0 + 1) 11 = true) ∧ True) (rest := []) h33 (by kernel_rfl) rfl ⟨⟨rfl, rfl⟩, trivial⟩ fun a36 h37 => ?_
  clear h33
  refine nd_done ?_
  refine hK35 _ _ ?_
  clear hK35
  refine wp_block ?_
  refine wp_seq_k fun K38 hK38 => ?_
  refine nd_start (l := [0, 1]) rfl ?_
  refine nd_batch tabOk2 tabZ_ok2 [(0, {}), (1, {})] [6, 3, 0, 1, 4, 5, 7, 53, 54] (T' := [(6, .pointer (some ⟨b14, 0, none⟩)), (3, .pointer (some ⟨b2, 0, none⟩)), (0, .pointer (some ⟨mb, 0, none⟩)), (1, .agg #[.int .u8 8, .int .u32 ev.pick, .int .u64 ev.draw, .int .u32 ev.addr, .int .u32 ev.node, .int .u32 ev.dst, .int .u32 ev.xfer, .int .u8 ev.ty, .int .u64 ev.arg, .int .u64 ev.badge, .slice xo ev.ws.length cx]), (4, .int .u8 0), (5, .bool false), (7, .pointer (some ⟨(Z.tp x), 0, none⟩)), (53, .int .u8 8), (54, .bool false)]) (φ := True) (rest := []) h37 (by kernel_rfl) rfl trivial fun a39 h40 => ?_
  clear h37
  refine nd_done ?_
  refine hK38 _ _ ?_
  clear hK38
  refine c_false h40 rfl ?_
  refine wp_seq_k fun K41 hK41 => ?_
  refine nd_start (l := [0, 1]) rfl ?_
  refine nd_batch tabOk2 tabZ_ok2 [(0, {}), (1, {})] [6, 3, 0, 1, 4, 5, 7, 53, 59] (T' := [(6, .pointer (some ⟨b14, 0, none⟩)), (3, .pointer (some ⟨b2, 0, none⟩)), (0, .pointer (some ⟨mb, 0, none⟩)), (1, .agg #[.int .u8 8, .int .u32 ev.pick, .int .u64 ev.draw, .int .u32 ev.addr, .int .u32 ev.node, .int .u32 ev.dst, .int .u32 ev.xfer, .int .u8 ev.ty, .int .u64 ev.arg, .int .u64 ev.badge, .slice xo ev.ws.length cx]), (4, .int .u8 0), (5, .bool false), (7, .pointer (some ⟨(Z.tp x), 0, none⟩)), (53, .int .u8 8), (59, .bool false)]) (φ := True) (rest := []) h40 (by kernel_rfl) rfl trivial fun a42 h43 => ?_
  clear h40
  refine nd_done ?_
  refine hK41 _ _ ?_
  clear hK41
  refine c_false h43 rfl ?_
  refine wp_seq_k fun K44 hK44 => ?_
  refine wp_seq_k fun K45 hK45 => ?_
  refine nd_start (l := [0, 1]) rfl ?_
  refine nd_batch tabOk2 tabZ_ok2 [(0, {}), (1, {})] [6, 3, 0, 1, 4, 5, 7, 53, 66] (T' := [(6, .pointer (some ⟨b14, 0, none⟩)), (3, .pointer (some ⟨b2, 0, none⟩)), (0, .pointer (some ⟨mb, 0, none⟩)), (1, .agg #[.int .u8 8, .int .u32 ev.pick, .int .u64 ev.draw, .int .u32 ev.addr, .int .u32 ev.node, .int .u32 ev.dst, .int .u32 ev.xfer, .int .u8 ev.ty, .int .u64 ev.arg, .int .u64 ev.badge, .slice xo ev.ws.length cx]), (4, .int .u8 0), (5, .bool false), (7, .pointer (some ⟨(Z.tp x), 0, none⟩)), (53, .int .u8 8), (66, .bool false)]) (φ := True) (rest := []) h43 (by kernel_rfl) rfl trivial fun a46 h47 => ?_
  clear h43
  refine nd_done ?_
  refine hK45 _ _ ?_
  clear hK45
  refine c_false h47 rfl ?_
  refine nd_start (l := [0, 1]) rfl ?_
  refine nd_batch tabOk2 tabZ_ok2 [(0, {}), (1, {})] [6, 3, 0, 1, 4, 5, 7, 53, 66] (T' := [(6, .pointer (some ⟨b14, 0, none⟩)), (3, .pointer (some ⟨b2, 0, none⟩)), (0, .pointer (some ⟨mb, 0, none⟩)), (1, .agg #[.int .u8 8, .int .u32 ev.pick, .int .u64 ev.draw, .int .u32 ev.addr, .int .u32 ev.node, .int .u32 ev.dst, .int .u32 ev.xfer, .int .u8 ev.ty, .int .u64 ev.arg, .int .u64 ev.badge, .slice xo ev.ws.length cx]), (4, .int .u8 0), (5, .bool false), (7, .pointer (some ⟨(Z.tp x), 0, none⟩)), (53, .int .u8 8), (66, .bool false)]) (φ := True) (rest := []) h47 (by kernel_rfl) rfl trivial fun a48 h49 => ?_
  clear h47
  refine nd_done ?_
  refine hK44 _ _ ?_
  clear hK44
  refine c_false h49 rfl ?_
  refine wp_seq_k fun K50 hK50 => ?_
  refine nd_start (l := [0, 1]) rfl ?_
  refine nd_batch tabOk2 tabZ_ok2 [(0, {}), (1, {})] [6, 3, 0, 1, 4, 5, 7, 53, 66, 129] (T' := [(6, .pointer (some ⟨b14, 0, none⟩)), (3, .pointer (some ⟨b2, 0, none⟩)), (0, .pointer (some ⟨mb, 0, none⟩)), (1, .agg #[.int .u8 8, .int .u32 ev.pick, .int .u64 ev.draw, .int .u32 ev.addr, .int .u32 ev.node, .int .u32 ev.dst, .int .u32 ev.xfer, .int .u8 ev.ty, .int .u64 ev.arg, .int .u64 ev.badge, .slice xo ev.ws.length cx]), (4, .int .u8 0), (5, .bool false), (7, .pointer (some ⟨(Z.tp x), 0, none⟩)), (53, .int .u8 8), (66, .bool false), (129, .bool false)]) (φ := True) (rest := []) h49 (by kernel_rfl) rfl trivial fun a51 h52 => ?_
  clear h49
  refine nd_done ?_
  refine hK50 _ _ ?_
  clear hK50
  refine c_false h52 rfl ?_
  refine wp_seq_k fun K53 hK53 => ?_
  refine nd_start (l := [0, 1]) rfl ?_
  refine nd_batch tabOk2 tabZ_ok2 [(0, {}), (1, {})] [6, 3, 0, 1, 4, 5, 7, 53, 66, 165] (T' := [(6, .pointer (some ⟨b14, 0, none⟩)), (3, .pointer (some ⟨b2, 0, none⟩)), (0, .pointer (some ⟨mb, 0, none⟩)), (1, .agg #[.int .u8 8, .int .u32 ev.pick, .int .u64 ev.draw, .int .u32 ev.addr, .int .u32 ev.node, .int .u32 ev.dst, .int .u32 ev.xfer, .int .u8 ev.ty, .int .u64 ev.arg, .int .u64 ev.badge, .slice xo ev.ws.length cx]), (4, .int .u8 0), (5, .bool false), (7, .pointer (some ⟨(Z.tp x), 0, none⟩)), (53, .int .u8 8), (66, .bool false), (165, .bool false)]) (φ := True) (rest := []) h52 (by kernel_rfl) rfl trivial fun a54 h55 => ?_
  clear h52
  refine nd_done ?_
  refine hK53 _ _ ?_
  clear hK53
  refine c_false h55 rfl ?_
  refine wp_seq_k fun K56 hK56 => ?_
  refine nd_start (l := [0, 1]) rfl ?_
  refine nd_batch tabOk2 tabZ_ok2 [(0, {}), (1, {})] [6, 3, 0, 1, 4, 5, 7, 53, 66, 226] (T' := [(6, .pointer (some ⟨b14, 0, none⟩)), (3, .pointer (some ⟨b2, 0, none⟩)), (0, .pointer (some ⟨mb, 0, none⟩)), (1, .agg #[.int .u8 8, .int .u32 ev.pick, .int .u64 ev.draw, .int .u32 ev.addr, .int .u32 ev.node, .int .u32 ev.dst, .int .u32 ev.xfer, .int .u8 ev.ty, .int .u64 ev.arg, .int .u64 ev.badge, .slice xo ev.ws.length cx]), (4, .int .u8 0), (5, .bool false), (7, .pointer (some ⟨(Z.tp x), 0, none⟩)), (53, .int .u8 8), (66, .bool false), (226, .bool true)]) (φ := True) (rest := []) h55 (by kernel_rfl) rfl trivial fun a57 h58 => ?_
  clear h55
  refine nd_done ?_
  refine hK56 _ _ ?_
  clear hK56
  refine c_true h58 rfl ?_
  refine wp_seq_k fun K59 hK59 => ?_
  refine nd_start (l := [0, 1, 2, 3, 4, 5, 6, 7, 8, 9]) rfl ?_
  refine nd_batch tabOk2 tabZ_ok2 [(0, {}), (1, {}), (2, {k := 1})] [6, 3, 0, 1, 4, 5, 7, 53, 66, 229, 231] (T' := [(6, .pointer (some ⟨b14, 0, none⟩)), (3, .pointer (some ⟨b2, 0, none⟩)), (0, .pointer (some ⟨mb, 0, none⟩)), (1, .agg #[.int .u8 8, .int .u32 ev.pick, .int .u64 ev.draw, .int .u32 ev.addr, .int .u32 ev.node, .int .u32 ev.dst, .int .u32 ev.xfer, .int .u8 ev.ty, .int .u64 ev.arg, .int .u64 ev.badge, .slice xo ev.ws.length cx]), (4, .int .u8 0), (5, .bool false), (7, .pointer (some ⟨(Z.tp x), 0, none⟩)), (53, .int .u8 8), (66, .bool false), (229, .pointer (some ⟨mb, 0, none⟩)), (231, .int .u32 ev.addr)]) (φ := (b2 = b2 ∧ Nat.ble (3 + 1) 11 = true) ∧ True) (rest := [3, 4, 5, 6, 7, 8, 9]) h58 (by kernel_rfl) rfl ⟨⟨rfl, rfl⟩, trivial⟩ fun a60 h61 => ?_
  clear h58
  refine nd_op ?_
  refine op_call h61 rfl rfl rfl (callOk Tryd.func90 (by decide) rfl) (args := [.pointer (some ⟨mb, 0, none⟩), .int .u32 ev.addr, .int .u8 5, .int .u8 2]) rfl (capOf_ok mb Z _ a C x hx hcx hci hcn hI.ci ev.addr 5 2 he.addr _ (mh_of h61 hho (k := 0) rfl) hf) ?_
  rintro _ w62 ⟨rfl, hg64⟩
  refine ⟨_, rfl, ?_⟩
  have h65a := st_mg h61 hg64 (kcons (fun _ => rfl) (kcons (fun hq => by cases hq) (kcons (fun hq => by cases hq) knil)))
  have h65 := h65a.put (d := some 232) (v := .tuple #[.agg #[.int .u8 ct, .int .u16 ((Z.ky i).idx), .int .u32 ((Z.ky i).gen), .int .u8 rt, .int .u64 bd], .int .u8 0]) (T' := [(232, .tuple #[.agg #[.int .u8 ct, .int .u16 ((Z.ky i).idx), .int .u32 ((Z.ky i).gen), .int .u8 rt, .int .u64 bd], .int .u8 0]), (6, .pointer (some ⟨b14, 0, none⟩)), (3, .pointer (some ⟨b2, 0, none⟩)), (0, .pointer (some ⟨mb, 0, none⟩)), (1, .agg #[.int .u8 8, .int .u32 ev.pick, .int .u64 ev.draw, .int .u32 ev.addr, .int .u32 ev.node, .int .u32 ev.dst, .int .u32 ev.xfer, .int .u8 ev.ty, .int .u64 ev.arg, .int .u64 ev.badge, .slice xo ev.ws.length cx]), (4, .int .u8 0), (5, .bool false), (7, .pointer (some ⟨(Z.tp x), 0, none⟩)), (53, .int .u8 8), (66, .bool false), (229, .pointer (some ⟨mb, 0, none⟩)), (231, .int .u32 ev.addr)]) rfl
  have hhoh65 := hg64.mh.ho
  clear h61 h65a
  refine nd_batch tabOk2 tabZ_ok2 [(4, {}), (5, {}), (6, {})] [6, 3, 0, 1, 4, 5, 7, 53, 66, 233, 234] (T' := [(6, .pointer (some ⟨b14, 0, none⟩)), (3, .pointer (some ⟨b2, 0, none⟩)), (0, .pointer (some ⟨mb, 0, none⟩)), (1, .agg #[.int .u8 8, .int .u32 ev.pick, .int .u64 ev.draw, .int .u32 ev.addr, .int .u32 ev.node, .int .u32 ev.dst, .int .u32 ev.xfer, .int .u8 ev.ty, .int .u64 ev.arg, .int .u64 ev.badge, .slice xo ev.ws.length cx]), (4, .int .u8 0), (5, .bool false), (7, .pointer (some ⟨(Z.tp x), 0, none⟩)), (53, .int .u8 8), (66, .bool false), (233, .agg #[.int .u8 ct, .int .u16 ((Z.ky i).idx), .int .u32 ((Z.ky i).gen), .int .u8 rt, .int .u64 bd]), (234, .int .u8 0)]) (φ := True) (rest := [7, 8, 9]) h65 (by kernel_rfl) rfl trivial fun a66 h67 => ?_
  clear h65
  refine nd_op ?_
  refine op_new tabOk2 (cells := [.int .u8 0, .int .u16 0, .int .u32 0, .int .u8 0, .int .u64 0]) (ty := 49) (ln := none) (L1 := fun b68 => [(3, ⟨[.int .u16 0, .int .u32 0], ty3, true⟩), (b2, ⟨[.int .u8 8, .int .u32 ev.pick, .int .u64 ev.draw, .int .u32 ev.addr, .int .u32 ev.node, .int .u32 ev.dst, .int .u32 ev.xfer, .int .u8 ev.ty, .int .u64 ev.arg, .int .u64 ev.badge, .slice xo ev.ws.length cx], 35, false⟩), (b14, ⟨[.int .u16 ((Z.ky x).idx), .int .u32 ((Z.ky x).gen)], 39, false⟩), (b68, ⟨[.int .u8 0, .int .u16 0, .int .u32 0, .int .u8 0, .int .u64 0], 49, false⟩)]) h67 rfl rfl rfl rfl (by kernel_rfl) (fun _ => rfl) fun b68 w69 a70 h71 hf72 hn73 => ?_
  clear h67
  refine nd_op ?_
  refine op_store tabOk2 {k := 3} (L' := [(3, ⟨[.int .u16 0, .int .u32 0], ty3, true⟩), (b2, ⟨[.int .u8 8, .int .u32 ev.pick, .int .u64 ev.draw, .int .u32 ev.addr, .int .u32 ev.node, .int .u32 ev.dst, .int .u32 ev.xfer, .int .u8 ev.ty, .int .u64 ev.arg, .int .u64 ev.badge, .slice xo ev.ws.length cx], 35, false⟩), (b14, ⟨[.int .u16 ((Z.ky x).idx), .int .u32 ((Z.ky x).gen)], 39, false⟩), (b68, ⟨[.int .u8 ct, .int .u16 ((Z.ky i).idx), .int .u32 ((Z.ky i).gen), .int .u8 rt, .int .u64 bd], 49, false⟩)]) (φ := b68 = b68 ∧ Nat.ble (0 + 5) 5 = true) h71 rfl rfl rfl (by kernel_rfl) ⟨rfl, rfl⟩ fun w74 h75 => ?_
  clear h71
  refine nd_batch tabOk2 tabZ_ok2 [(9, {})] [16, 6, 3, 0, 1, 4, 5, 7, 53, 66, 17] (T' := [(16, .pointer (some ⟨b68, 0, none⟩)), (6, .pointer (some ⟨b14, 0, none⟩)), (3, .pointer (some ⟨b2, 0, none⟩)), (0, .pointer (some ⟨mb, 0, none⟩)), (1, .agg #[.int .u8 8, .int .u32 ev.pick, .int .u64 ev.draw, .int .u32 ev.addr, .int .u32 ev.node, .int .u32 ev.dst, .int .u32 ev.xfer, .int .u8 ev.ty, .int .u64 ev.arg, .int .u64 ev.badge, .slice xo ev.ws.length cx]), (4, .int .u8 0), (5, .bool false), (7, .pointer (some ⟨(Z.tp x), 0, none⟩)), (53, .int .u8 8), (66, .bool false), (17, .int .u8 0)]) (φ := True) (rest := []) h75 (by kernel_rfl) rfl trivial fun a76 h77 => ?_
  clear h75
  refine nd_done ?_
  refine hK59 _ _ ?_
  clear hK59
  refine wp_seq_k fun K78 hK78 => ?_
  refine wp_seq_k fun K79 hK79 => ?_
  refine nd_start (l := [0, 1]) rfl ?_
  refine nd_batch tabOk2 tabZ_ok2 [(0, {}), (1, {})] [16, 6, 3, 0, 1, 4, 5, 7, 53, 66, 17, 236] (T' := [(16, .pointer (some ⟨b68, 0, none⟩)), (6, .pointer (some ⟨b14, 0, none⟩)), (3, .pointer (some ⟨b2, 0, none⟩)), (0, .pointer (some ⟨mb, 0, none⟩)), (1, .agg #[.int .u8 8, .int .u32 ev.pick, .int .u64 ev.draw, .int .u32 ev.addr, .int .u32 ev.node, .int .u32 ev.dst, .int .u32 ev.xfer, .int .u8 ev.ty, .int .u64 ev.arg, .int .u64 ev.badge, .slice xo ev.ws.length cx]), (4, .int .u8 0), (5, .bool false), (7, .pointer (some ⟨(Z.tp x), 0, none⟩)), (53, .int .u8 8), (66, .bool false), (17, .int .u8 0), (236, .bool true)]) (φ := True) (rest := []) h77 (by kernel_rfl) rfl trivial fun a80 h81 => ?_
  clear h77
  refine nd_done ?_
  refine hK79 _ _ ?_
  clear hK79
  refine c_true h81 rfl ?_
  refine nd_start (l := [0, 1, 2, 3, 4, 5]) rfl ?_
  refine nd_batch tabOk2 tabZ_ok2 [(0, {}), (1, {}), (2, {k := 3}), (3, {}), (4, {k := 3})] [16, 6, 3, 0, 1, 4, 5, 7, 53, 66, 17, 237, 239, 241] (T' := [(16, .pointer (some ⟨b68, 0, none⟩)), (6, .pointer (some ⟨b14, 0, none⟩)), (3, .pointer (some ⟨b2, 0, none⟩)), (0, .pointer (some ⟨mb, 0, none⟩)), (1, .agg #[.int .u8 8, .int .u32 ev.pick, .int .u64 ev.draw, .int .u32 ev.addr, .int .u32 ev.node, .int .u32 ev.dst, .int .u32 ev.xfer, .int .u8 ev.ty, .int .u64 ev.arg, .int .u64 ev.badge, .slice xo ev.ws.length cx]), (4, .int .u8 0), (5, .bool false), (7, .pointer (some ⟨(Z.tp x), 0, none⟩)), (53, .int .u8 8), (66, .bool false), (17, .int .u8 0), (237, .pointer (some ⟨mb, 0, none⟩)), (239, .agg #[.int .u16 ((Z.ky i).idx), .int .u32 ((Z.ky i).gen)]), (241, .int .u64 bd)]) (φ := (b68 = b68 ∧ Nat.ble (1 + 2) 5 = true) ∧ (b68 = b68 ∧ Nat.ble (4 + 1) 5 = true) ∧ True) (rest := [5]) h81 (by kernel_rfl) rfl ⟨⟨rfl, rfl⟩, ⟨rfl, rfl⟩, trivial⟩ fun a82 h83 => ?_
  clear h81
  refine nd_op ?_
  refine op_call h83 rfl rfl rfl (callOk Tryd.func54 (by decide) rfl) (args := [.pointer (some ⟨mb, 0, none⟩), .agg #[.int .u16 ((Z.ky i).idx), .int .u32 ((Z.ky i).gen)], .int .u64 bd]) rfl (msignal_ok mb Z _ a C i hi bd hP _ (mh_of h83 hhoh65 (k := 0) rfl)) ?_
  rintro _ w84 ⟨rfl, R85, hg86⟩
  refine ⟨_, rfl, ?_⟩
  have h87a := st_mg h83 hg86 (kcons (fun _ => rfl) (kcons (fun hq => by cases hq) (kcons (fun hq => by cases hq) (kcons (fun hq => by cases hq) knil))))
  have h87 := h87a.put (d := some 242) (v := .tuple #[]) (T' := [(242, .tuple #[]), (16, .pointer (some ⟨b68, 0, none⟩)), (6, .pointer (some ⟨b14, 0, none⟩)), (3, .pointer (some ⟨b2, 0, none⟩)), (0, .pointer (some ⟨mb, 0, none⟩)), (1, .agg #[.int .u8 8, .int .u32 ev.pick, .int .u64 ev.draw, .int .u32 ev.addr, .int .u32 ev.node, .int .u32 ev.dst, .int .u32 ev.xfer, .int .u8 ev.ty, .int .u64 ev.arg, .int .u64 ev.badge, .slice xo ev.ws.length cx]), (4, .int .u8 0), (5, .bool false), (7, .pointer (some ⟨(Z.tp x), 0, none⟩)), (53, .int .u8 8), (66, .bool false), (17, .int .u8 0), (237, .pointer (some ⟨mb, 0, none⟩)), (239, .agg #[.int .u16 ((Z.ky i).idx), .int .u32 ((Z.ky i).gen)]), (241, .int .u64 bd)]) rfl
  have hhoh87 := hg86.mh.ho
  obtain ⟨a88, ea88⟩ : ∃ z : AK, z = signalA a (Z.ky i) bd := ⟨_, rfl⟩
  rw [← ea88] at h87
  clear h83 h87a
  refine nd_done ?_
  refine hK78 _ _ ?_
  clear hK78
  refine wp_seq_k fun K89 hK89 => ?_
  refine nd_start (l := [0, 1, 2]) rfl ?_
  refine nd_batch tabOk2 tabZ_ok2 [(0, {}), (1, {}), (2, {})] [16, 6, 3, 0, 1, 7, 53, 66, 17, 4, 5] (T' := [(16, .pointer (some ⟨b68, 0, none⟩)), (6, .pointer (some ⟨b14, 0, none⟩)), (3, .pointer (some ⟨b2, 0, none⟩)), (0, .pointer (some ⟨mb, 0, none⟩)), (1, .agg #[.int .u8 8, .int .u32 ev.pick, .int .u64 ev.draw, .int .u32 ev.addr, .int .u32 ev.node, .int .u32 ev.dst, .int .u32 ev.xfer, .int .u8 ev.ty, .int .u64 ev.arg, .int .u64 ev.badge, .slice xo ev.ws.length cx]), (7, .pointer (some ⟨(Z.tp x), 0, none⟩)), (53, .int .u8 8), (66, .bool false), (17, .int .u8 0), (4, .int .u8 0), (5, .bool false)]) (φ := True) (rest := []) h87 (by kernel_rfl) rfl trivial fun a90 h91 => ?_
  clear h87
  refine nd_done ?_
  refine hK89 _ _ ?_
  clear hK89
  refine wp_ret ?_
  try simp only [Exit.then, Exit.inBlock]
  try rw [if_pos trivial]
  exact s_ret tabOk2 tabZ_ok2 h91 [(.tmp 4, {}), (.tmp 5, {})] (vs := [.int .u8 0, .bool false]) (φ := True) rfl (by kernel_rfl) trivial ⟨rfl, _, mg_end hH h91 hhoh87 (by subst ea88; simp only [setT_setT])⟩

theorem call9b (mb : Nat) (Z : MZ) (R : MR) (a : AK) (C : CP) (hI : MI Z a C) (x : Nat) (hx : x ∈ sl Z.tl) (hcu : a.cur = (x : Int)) (ev : Ev) (he : EvOk ev) (xo : Option Addr) (cx : Nat) (c : Cp) (cs0 k : Int) (hf : findA a C ev.addr 5 1 = (c, cs0, k)) (hk0 : k ≠ 0) (w : World) (hH : MH mb Z R a C w) (hws : WordsAt (mdF mb Z R C) w xo ev.ws) :
    Calls Tryd.prog 55 #[.pointer (some ⟨mb, 0, none⟩), .agg #[.int .u8 9, .int .u32 ev.pick, .int .u64 ev.draw, .int .u32 ev.addr, .int .u32 ev.node, .int .u32 ev.dst, .int .u32 ev.xfer, .int .u8 ev.ty, .int .u64 ev.arg, .int .u64 ev.badge, .slice xo ev.ws.length cx]] w fun e w' => e = .returned (.tuple #[.int .u8 k, .bool false]) ∧ ∃ R', MG mb Z R C w Z R' a C w' := by
  have hP := hI.mp
  have hcx : curR Z a = Z.ky x := curR_of hcu
  have hcn : a.cur.toNat = x := by rw [hcu]; exact Int.toNat_natCast x
  have hci := (hI.tk x hx).ci
  obtain ⟨ty3, hg3⟩ := hH.g3
  have hho := hH.ho
  have hkk := hH.md.k
  refine enter (n := 628) (K := mdF mb Z R C) (A := MD (mdF mb Z R C) w.heap.size mb Z R a C) (F := mdF mb Z R C) (T := [(0, .pointer (some ⟨mb, 0, none⟩)), (1, .agg #[.int .u8 9, .int .u32 ev.pick, .int .u64 ev.draw, .int .u32 ev.addr, .int .u32 ev.node, .int .u32 ev.dst, .int .u32 ev.xfer, .int .u8 ev.ty, .int .u64 ev.arg, .int .u64 ev.badge, .slice xo ev.ws.length cx])]) (L := [(3, ⟨[.int .u16 0, .int .u32 0], ty3, true⟩)]) (args := [.pointer (some ⟨mb, 0, none⟩), .agg #[.int .u8 9, .int .u32 ev.pick, .int .u64 ev.draw, .int .u32 ev.addr, .int .u32 ev.node, .int .u32 ev.dst, .int .u32 ev.xfer, .int .u8 ev.ty, .int .u64 ev.arg, .int .u64 ev.badge, .slice xo ev.ws.length cx]]) Tryd.func55 rfl rfl rfl rfl (kcons hg3 knil) (by simp) (kcons (by intro hq; cases hq) knil) hH.mD MD.stable hH.md.low (kcons (by intro hq; cases hq) knil) ?_
  intro ac h
  refine wp_seq_k fun K1 hK1 => ?_
  refine nd_start (l := [0, 1, 2]) rfl ?_
  refine nd_op ?_
  refine op_new tabOk2 (cells := [.int .u8 9, .int .u32 ev.pick, .int .u64 ev.draw, .int .u32 ev.addr, .int .u32 ev.node, .int .u32 ev.dst, .int .u32 ev.xfer, .int .u8 ev.ty, .int .u64 ev.arg, .int .u64 ev.badge, .slice xo ev.ws.length cx]) (ty := 35) (ln := none) (L1 := fun b2 => [(3, ⟨[.int .u16 0, .int .u32 0], ty3, true⟩), (b2, ⟨[.int .u8 9, .int .u32 ev.pick, .int .u64 ev.draw, .int .u32 ev.addr, .int .u32 ev.node, .int .u32 ev.dst, .int .u32 ev.xfer, .int .u8 ev.ty, .int .u64 ev.arg, .int .u64 ev.badge, .slice xo ev.ws.length cx], 35, false⟩)]) h rfl rfl rfl rfl (by kernel_rfl) (fun _ => rfl) fun b2 w3 a4 h5 hf6 hn7 => ?_
  clear h
  refine nd_batch tabOk2 tabZ_ok2 [(1, {}), (2, {})] [3, 0, 1, 4, 5] (T' := [(3, .pointer (some ⟨b2, 0, none⟩)), (0, .pointer (some ⟨mb, 0, none⟩)), (1, .agg #[.int .u8 9, .int .u32 ev.pick, .int .u64 ev.draw, .int .u32 ev.addr, .int .u32 ev.node, .int .u32 ev.dst, .int .u32 ev.xfer, .int .u8 ev.ty, .int .u64 ev.arg, .int .u64 ev.badge, .slice xo ev.ws.length cx]), (4, .int .u8 0), (5, .bool false)]) (φ := True) (rest := []) h5 (by kernel_rfl) rfl trivial fun a8 h9 => ?_
  clear h5
  refine nd_done ?_
  refine hK1 _ _ ?_
  clear hK1
  refine wp_seq_k fun K10 hK10 => ?_
  refine nd_start (l := [0, 1, 2, 3, 4, 5]) rfl ?_
  refine nd_batch tabOk2 tabZ_ok2 [(0, {}), (1, {}), (2, {})] [3, 0, 1, 4, 5, 44] (T' := [(3, .pointer (some ⟨b2, 0, none⟩)), (0, .pointer (some ⟨mb, 0, none⟩)), (1, .agg #[.int .u8 9, .int .u32 ev.pick, .int .u64 ev.draw, .int .u32 ev.addr, .int .u32 ev.node, .int .u32 ev.dst, .int .u32 ev.xfer, .int .u8 ev.ty, .int .u64 ev.arg, .int .u64 ev.badge, .slice xo ev.ws.length cx]), (4, .int .u8 0), (5, .bool false), (44, .pointer (some ⟨mb, 13, none⟩))]) (φ := True) (rest := [3, 4, 5]) h9 (by kernel_rfl) rfl trivial fun a11 h12 => ?_
  clear h9
  refine nd_op ?_
  refine op_read (b := mb) (v := .agg #[.int .u16 ((Z.ky x).idx), .int .u32 ((Z.ky x).gen)]) h12 rfl rfl (rd_mA h12 (k := 13) (vs := [.int .u16 ((Z.ky x).idx), .int .u32 ((Z.ky x).gen)]) rfl rfl rfl rfl rfl (by rw [← hcx]; exact md_cur)) ?_
  have h13 := h12.put (d := some 45) (v := .agg #[.int .u16 ((Z.ky x).idx), .int .u32 ((Z.ky x).gen)]) (T' := [(45, .agg #[.int .u16 ((Z.ky x).idx), .int .u32 ((Z.ky x).gen)]), (3, .pointer (some ⟨b2, 0, none⟩)), (0, .pointer (some ⟨mb, 0, none⟩)), (1, .agg #[.int .u8 9, .int .u32 ev.pick, .int .u64 ev.draw, .int .u32 ev.addr, .int .u32 ev.node, .int .u32 ev.dst, .int .u32 ev.xfer, .int .u8 ev.ty, .int .u64 ev.arg, .int .u64 ev.badge, .slice xo ev.ws.length cx]), (4, .int .u8 0), (5, .bool false), (44, .pointer (some ⟨mb, 13, none⟩))]) rfl
  clear h12
  refine nd_op ?_
  refine op_new tabOk2 (cells := [.int .u16 0, .int .u32 0]) (ty := 39) (ln := none) (L1 := fun b14 => [(3, ⟨[.int .u16 0, .int .u32 0], ty3, true⟩), (b2, ⟨[.int .u8 9, .int .u32 ev.pick, .int .u64 ev.draw, .int .u32 ev.addr, .int .u32 ev.node, .int .u32 ev.dst, .int .u32 ev.xfer, .int .u8 ev.ty, .int .u64 ev.arg, .int .u64 ev.badge, .slice xo ev.ws.length cx], 35, false⟩), (b14, ⟨[.int .u16 0, .int .u32 0], 39, false⟩)]) h13 rfl rfl rfl rfl (by kernel_rfl) (fun _ => rfl) fun b14 w15 a16 h17 hf18 hn19 => ?_
  clear h13
  refine nd_op ?_
  refine op_store tabOk2 {k := 2} (L' := [(3, ⟨[.int .u16 0, .int .u32 0], ty3, true⟩), (b2, ⟨[.int .u8 9, .int .u32 ev.pick, .int .u64 ev.draw, .int .u32 ev.addr, .int .u32 ev.node, .int .u32 ev.dst, .int .u32 ev.xfer, .int .u8 ev.ty, .int .u64 ev.arg, .int .u64 ev.badge, .slice xo ev.ws.length cx], 35, false⟩), (b14, ⟨[.int .u16 ((Z.ky x).idx), .int .u32 ((Z.ky x).gen)], 39, false⟩)]) (φ := b14 = b14 ∧ Nat.ble (0 + 2) 2 = true) h17 rfl rfl rfl (by kernel_rfl) ⟨rfl, rfl⟩ fun w20 h21 => ?_
  clear h17
  refine nd_done ?_
  refine hK10 _ _ ?_
  clear hK10
  refine wp_seq_k fun K22 hK22 => ?_
  refine dr_start (KB := [3, b2, b14, mb, Z.tb]) (Bi := [[0, 1, 2, 3, 4], [0, 1, 2, 3, 4], [0, 1, 2, 3, 4], [0, 1, 2, 3, 4], [0, 1, 2, 3, 4], [0, 1, 2, 3, 4], [0, 1, 2, 3, 4]]) mixed h21 fun w23 h24 => ?_
  clear h21
  refine dr_batch tabOk2 tabZ_ok2 (by repeat (first | with_reducible exact PF.body | with_reducible apply PF.inB | with_reducible apply PF.next)) [(0, {}), (1, {}), (2, {})] [6, 3, 0, 1, 4, 5, 48] (T' := [(6, .pointer (some ⟨b14, 0, none⟩)), (3, .pointer (some ⟨b2, 0, none⟩)), (0, .pointer (some ⟨mb, 0, none⟩)), (1, .agg #[.int .u8 9, .int .u32 ev.pick, .int .u64 ev.draw, .int .u32 ev.addr, .int .u32 ev.node, .int .u32 ev.dst, .int .u32 ev.xfer, .int .u8 ev.ty, .int .u64 ev.arg, .int .u64 ev.badge, .slice xo ev.ws.length cx]), (4, .int .u8 0), (5, .bool false), (48, .pointer (some ⟨mb, 2, none⟩))]) (φ := True) (fuel := 4) h24 (by kernel_rfl) rfl (by kernel_rfl) (by kernel_rfl) ⟨trivial, trivial, trivial, trivial⟩ trivial fun a26 h27 => ?_
  clear h24
  refine dr_read (i := 3) (b := mb) (p := 3) (v := .map (some Z.tb)) (fuel := 3) (by repeat (first | with_reducible exact PF.body | with_reducible apply PF.inB | with_reducible apply PF.next)) h27 rfl rfl rfl (by kernel_rfl) (by kernel_rfl) (by kernel_rfl) rfl (rd_m h27 (k := 2) (v := .map (some Z.tb)) rfl rfl rfl rfl (md_p ⟨rfl, trivial⟩)) ?_
  have h28 := h27.put (d := some 49) (v := .map (some Z.tb)) (T' := [(49, .map (some Z.tb)), (6, .pointer (some ⟨b14, 0, none⟩)), (3, .pointer (some ⟨b2, 0, none⟩)), (0, .pointer (some ⟨mb, 0, none⟩)), (1, .agg #[.int .u8 9, .int .u32 ev.pick, .int .u64 ev.draw, .int .u32 ev.addr, .int .u32 ev.node, .int .u32 ev.dst, .int .u32 ev.xfer, .int .u8 ev.ty, .int .u64 ev.arg, .int .u64 ev.badge, .slice xo ev.ws.length cx]), (4, .int .u8 0), (5, .bool false), (48, .pointer (some ⟨mb, 2, none⟩))]) rfl
  clear h27
  refine dr_batch tabOk2 tabZ_ok2 (by repeat (first | with_reducible exact PF.body | with_reducible apply PF.inB | with_reducible apply PF.next)) [(4, {k := 2, p := 2})] [49, 6, 3, 0, 1, 4, 5, 50] (T' := [(49, .map (some Z.tb)), (6, .pointer (some ⟨b14, 0, none⟩)), (3, .pointer (some ⟨b2, 0, none⟩)), (0, .pointer (some ⟨mb, 0, none⟩)), (1, .agg #[.int .u8 9, .int .u32 ev.pick, .int .u64 ev.draw, .int .u32 ev.addr, .int .u32 ev.node, .int .u32 ev.dst, .int .u32 ev.xfer, .int .u8 ev.ty, .int .u64 ev.arg, .int .u64 ev.badge, .slice xo ev.ws.length cx]), (4, .int .u8 0), (5, .bool false), (50, .agg #[.int .u16 ((Z.ky x).idx), .int .u32 ((Z.ky x).gen)])]) (φ := (b14 = b14 ∧ Nat.ble (0 + 2) 2 = true) ∧ True) (fuel := 2) h28 (by kernel_rfl) rfl (by kernel_rfl) (by kernel_rfl) ⟨rfl, trivial⟩ ⟨⟨rfl, rfl⟩, trivial⟩ fun a29 h30 => ?_
  clear h28
  refine dr_read (i := 5) (b := Z.tb) (p := 4) (v := .pointer (some ⟨(Z.tp x), 0, none⟩)) (fuel := 1) (by repeat (first | with_reducible exact PF.body | with_reducible apply PF.inB | with_reducible apply PF.next)) h30 rfl rfl rfl (by kernel_rfl) (by kernel_rfl) (by kernel_rfl) rfl (rd_T h30 (x := x) hx rfl rfl rfl) ?_
  have h31 := h30.put (d := some 51) (v := .pointer (some ⟨(Z.tp x), 0, none⟩)) (T' := [(51, .pointer (some ⟨(Z.tp x), 0, none⟩)), (49, .map (some Z.tb)), (6, .pointer (some ⟨b14, 0, none⟩)), (3, .pointer (some ⟨b2, 0, none⟩)), (0, .pointer (some ⟨mb, 0, none⟩)), (1, .agg #[.int .u8 9, .int .u32 ev.pick, .int .u64 ev.draw, .int .u32 ev.addr, .int .u32 ev.node, .int .u32 ev.dst, .int .u32 ev.xfer, .int .u8 ev.ty, .int .u64 ev.arg, .int .u64 ev.badge, .slice xo ev.ws.length cx]), (4, .int .u8 0), (5, .bool false), (50, .agg #[.int .u16 ((Z.ky x).idx), .int .u32 ((Z.ky x).gen)])]) rfl
  clear h30
  refine dr_batch tabOk2 tabZ_ok2 (by repeat (first | with_reducible exact PF.body | with_reducible apply PF.inB | with_reducible apply PF.next)) [(6, {})] [6, 3, 0, 1, 4, 5, 7] (T' := [(6, .pointer (some ⟨b14, 0, none⟩)), (3, .pointer (some ⟨b2, 0, none⟩)), (0, .pointer (some ⟨mb, 0, none⟩)), (1, .agg #[.int .u8 9, .int .u32 ev.pick, .int .u64 ev.draw, .int .u32 ev.addr, .int .u32 ev.node, .int .u32 ev.dst, .int .u32 ev.xfer, .int .u8 ev.ty, .int .u64 ev.arg, .int .u64 ev.badge, .slice xo ev.ws.length cx]), (4, .int .u8 0), (5, .bool false), (7, .pointer (some ⟨(Z.tp x), 0, none⟩))]) (φ := True) (fuel := 0) h31 (by kernel_rfl) rfl (by kernel_rfl) (by kernel_rfl) ⟨trivial, trivial⟩ trivial fun a32 h33 => ?_
  clear h31
  refine wpAnyK_done (by kernel_rfl) ?_ _
  refine hK22 _ _ ?_
  clear hK22
  refine wp_seq_k fun K34 hK34 => ?_
  refine wp_seq_k fun K35 hK35 => ?_
  refine nd_start (l := [0, 1]) rfl ?_
  refine nd_batch tabOk2 tabZ_ok2 [(0, {}), (1, {k := 1})] [6, 3, 0, 1, 4, 5, 7, 53] (T' := [(6, .pointer (some ⟨b14, 0, none⟩)), (3, .pointer (some ⟨b2, 0, none⟩)), (0, .pointer (some ⟨mb, 0, none⟩)), (1, .agg #[.int .u8 9, .int .u32 ev.pick, .int .u64 ev.draw, .int .u32 ev.addr, .int .u32 ev.node, .int .u32 ev.dst, .int .u32 ev.xfer, .int .u8 ev.ty, .int .u64 ev.arg, .int .u64 ev.badge, .slice xo ev.ws.length cx]), (4, .int .u8 0), (5, .bool false), (7, .pointer (some ⟨(Z.tp x), 0, none⟩)), (53, .int .u8 9)]) (φ := (b2 = b2 ∧ Nat.ble (0 + 1) 11 = true) ∧ True) (rest := []) h33 (by kernel_rfl) rfl ⟨⟨rfl, rfl⟩, trivial⟩ fun a36 h37 => ?_
  clear h33
  refine nd_done ?_
  refine hK35 _ _ ?_
  clear hK35
  refine wp_block ?_
  refine wp_seq_k fun K38 hK38 => ?_
  refine nd_start (l := [0, 1]) rfl ?_
  refine nd_batch tabOk2 tabZ_ok2 [(0, {}), (1, {})] [6, 3, 0, 1, 4, 5, 7, 53, 54] (T' := [(6, .pointer (some ⟨b14, 0, none⟩)), (3, .pointer (some ⟨b2, 0, none⟩)), (0, .pointer (some ⟨mb, 0, none⟩)), (1, .agg #[.int .u8 9, .int .u32 ev.pick, .int .u64 ev.draw, .int .u32 ev.addr, .int .u32 ev.node, .int .u32 ev.dst, .int .u32 ev.xfer, .int .u8 ev.ty, .int .u64 ev.arg, .int .u64 ev.badge, .slice xo ev.ws.length cx]), (4, .int .u8 0), (5, .bool false), (7, .pointer (some ⟨(Z.tp x), 0, none⟩)), (53, .int .u8 9), (54, .bool false)]) (φ := True) (rest := []) h37 (by kernel_rfl) rfl trivial fun a39 h40 => ?_
  clear h37
  refine nd_done ?_
  refine hK38 _ _ ?_
  clear hK38
  refine c_false h40 rfl ?_
  refine wp_seq_k fun K41 hK41 => ?_
  refine nd_start (l := [0, 1]) rfl ?_
  refine nd_batch tabOk2 tabZ_ok2 [(0, {}), (1, {})] [6, 3, 0, 1, 4, 5, 7, 53, 59] (T' := [(6, .pointer (some ⟨b14, 0, none⟩)), (3, .pointer (some ⟨b2, 0, none⟩)), (0, .pointer (some ⟨mb, 0, none⟩)), (1, .agg #[.int .u8 9, .int .u32 ev.pick, .int .u64 ev.draw, .int .u32 ev.addr, .int .u32 ev.node, .int .u32 ev.dst, .int .u32 ev.xfer, .int .u8 ev.ty, .int .u64 ev.arg, .int .u64 ev.badge, .slice xo ev.ws.length cx]), (4, .int .u8 0), (5, .bool false), (7, .pointer (some ⟨(Z.tp x), 0, none⟩)), (53, .int .u8 9), (59, .bool false)]) (φ := True) (rest := []) h40 (by kernel_rfl) rfl trivial fun a42 h43 => ?_
  clear h40
  refine nd_done ?_
  refine hK41 _ _ ?_
  clear hK41
  refine c_false h43 rfl ?_
  refine wp_seq_k fun K44 hK44 => ?_
  refine wp_seq_k fun K45 hK45 => ?_
  refine nd_start (l := [0, 1]) rfl ?_
  refine nd_batch tabOk2 tabZ_ok2 [(0, {}), (1, {})] [6, 3, 0, 1, 4, 5, 7, 53, 66] (T' := [(6, .pointer (some ⟨b14, 0, none⟩)), (3, .pointer (some ⟨b2, 0, none⟩)), (0, .pointer (some ⟨mb, 0, none⟩)), (1, .agg #[.int .u8 9, .int .u32 ev.pick, .int .u64 ev.draw, .int .u32 ev.addr, .int .u32 ev.node, .int .u32 ev.dst, .int .u32 ev.xfer, .int .u8 ev.ty, .int .u64 ev.arg, .int .u64 ev.badge, .slice xo ev.ws.length cx]), (4, .int .u8 0), (5, .bool false), (7, .pointer (some ⟨(Z.tp x), 0, none⟩)), (53, .int .u8 9), (66, .bool false)]) (φ := True) (rest := []) h43 (by kernel_rfl) rfl trivial fun a46 h47 => ?_
  clear h43
  refine nd_done ?_
  refine hK45 _ _ ?_
  clear hK45
  refine c_false h47 rfl ?_
  refine nd_start (l := [0, 1]) rfl ?_
  refine nd_batch tabOk2 tabZ_ok2 [(0, {}), (1, {})] [6, 3, 0, 1, 4, 5, 7, 53, 66] (T' := [(6, .pointer (some ⟨b14, 0, none⟩)), (3, .pointer (some ⟨b2, 0, none⟩)), (0, .pointer (some ⟨mb, 0, none⟩)), (1, .agg #[.int .u8 9, .int .u32 ev.pick, .int .u64 ev.draw, .int .u32 ev.addr, .int .u32 ev.node, .int .u32 ev.dst, .int .u32 ev.xfer, .int .u8 ev.ty, .int .u64 ev.arg, .int .u64 ev.badge, .slice xo ev.ws.length cx]), (4, .int .u8 0), (5, .bool false), (7, .pointer (some ⟨(Z.tp x), 0, none⟩)), (53, .int .u8 9), (66, .bool false)]) (φ := True) (rest := []) h47 (by kernel_rfl) rfl trivial fun a48 h49 => ?_
  clear h47
  refine nd_done ?_
  refine hK44 _ _ ?_
  clear hK44
  refine c_false h49 rfl ?_
  refine wp_seq_k fun K50 hK50 => ?_
  refine nd_start (l := [0, 1]) rfl ?_
  refine nd_batch tabOk2 tabZ_ok2 [(0, {}), (1, {})] [6, 3, 0, 1, 4, 5, 7, 53, 66, 129] (T' := [(6, .pointer (some ⟨b14, 0, none⟩)), (3, .pointer (some ⟨b2, 0, none⟩)), (0, .pointer (some ⟨mb, 0, none⟩)), (1, .agg #[.int .u8 9, .int .u32 ev.pick, .int .u64 ev.draw, .int .u32 ev.addr, .int .u32 ev.node, .int .u32 ev.dst, .int .u32 ev.xfer, .int .u8 ev.ty, .int .u64 ev.arg, .int .u64 ev.badge, .slice xo ev.ws.length cx]), (4, .int .u8 0), (5, .bool false), (7, .pointer (some ⟨(Z.tp x), 0, none⟩)), (53, .int .u8 9), (66, .bool false), (129, .bool false)]) (φ := True) (rest := []) h49 (by kernel_rfl) rfl trivial fun a51 h52 => ?_
  clear h49
  refine nd_done ?_
  refine hK50 _ _ ?_
  clear hK50
  refine c_false h52 rfl ?_
  refine wp_seq_k fun K53 hK53 => ?_
  refine nd_start (l := [0, 1]) rfl ?_
  refine nd_batch tabOk2 tabZ_ok2 [(0, {}), (1, {})] [6, 3, 0, 1, 4, 5, 7, 53, 66, 165] (T' := [(6, .pointer (some ⟨b14, 0, none⟩)), (3, .pointer (some ⟨b2, 0, none⟩)), (0, .pointer (some ⟨mb, 0, none⟩)), (1, .agg #[.int .u8 9, .int .u32 ev.pick, .int .u64 ev.draw, .int .u32 ev.addr, .int .u32 ev.node, .int .u32 ev.dst, .int .u32 ev.xfer, .int .u8 ev.ty, .int .u64 ev.arg, .int .u64 ev.badge, .slice xo ev.ws.length cx]), (4, .int .u8 0), (5, .bool false), (7, .pointer (some ⟨(Z.tp x), 0, none⟩)), (53, .int .u8 9), (66, .bool false), (165, .bool false)]) (φ := True) (rest := []) h52 (by kernel_rfl) rfl trivial fun a54 h55 => ?_
  clear h52
  refine nd_done ?_
  refine hK53 _ _ ?_
  clear hK53
  refine c_false h55 rfl ?_
  refine wp_seq_k fun K56 hK56 => ?_
  refine nd_start (l := [0, 1]) rfl ?_
  refine nd_batch tabOk2 tabZ_ok2 [(0, {}), (1, {})] [6, 3, 0, 1, 4, 5, 7, 53, 66, 226] (T' := [(6, .pointer (some ⟨b14, 0, none⟩)), (3, .pointer (some ⟨b2, 0, none⟩)), (0, .pointer (some ⟨mb, 0, none⟩)), (1, .agg #[.int .u8 9, .int .u32 ev.pick, .int .u64 ev.draw, .int .u32 ev.addr, .int .u32 ev.node, .int .u32 ev.dst, .int .u32 ev.xfer, .int .u8 ev.ty, .int .u64 ev.arg, .int .u64 ev.badge, .slice xo ev.ws.length cx]), (4, .int .u8 0), (5, .bool false), (7, .pointer (some ⟨(Z.tp x), 0, none⟩)), (53, .int .u8 9), (66, .bool false), (226, .bool false)]) (φ := True) (rest := []) h55 (by kernel_rfl) rfl trivial fun a57 h58 => ?_
  clear h55
  refine nd_done ?_
  refine hK56 _ _ ?_
  clear hK56
  refine c_false h58 rfl ?_
  refine wp_seq_k fun K59 hK59 => ?_
  refine nd_start (l := [0, 1]) rfl ?_
  refine nd_batch tabOk2 tabZ_ok2 [(0, {}), (1, {})] [6, 3, 0, 1, 4, 5, 7, 53, 66, 244] (T' := [(6, .pointer (some ⟨b14, 0, none⟩)), (3, .pointer (some ⟨b2, 0, none⟩)), (0, .pointer (some ⟨mb, 0, none⟩)), (1, .agg #[.int .u8 9, .int .u32 ev.pick, .int .u64 ev.draw, .int .u32 ev.addr, .int .u32 ev.node, .int .u32 ev.dst, .int .u32 ev.xfer, .int .u8 ev.ty, .int .u64 ev.arg, .int .u64 ev.badge, .slice xo ev.ws.length cx]), (4, .int .u8 0), (5, .bool false), (7, .pointer (some ⟨(Z.tp x), 0, none⟩)), (53, .int .u8 9), (66, .bool false), (244, .bool true)]) (φ := True) (rest := []) h58 (by kernel_rfl) rfl trivial fun a60 h61 => ?_
  clear h58
  refine nd_done ?_
  refine hK59 _ _ ?_
  clear hK59
  refine c_true h61 rfl ?_
  refine wp_seq_k fun K62 hK62 => ?_
  refine nd_start (l := [0, 1, 2, 3, 4, 5, 6, 7, 8, 9]) rfl ?_
  refine nd_batch tabOk2 tabZ_ok2 [(0, {}), (1, {}), (2, {k := 1})] [6, 3, 0, 1, 4, 5, 7, 53, 66, 247, 249] (T' := [(6, .pointer (some ⟨b14, 0, none⟩)), (3, .pointer (some ⟨b2, 0, none⟩)), (0, .pointer (some ⟨mb, 0, none⟩)), (1, .agg #[.int .u8 9, .int .u32 ev.pick, .int .u64 ev.draw, .int .u32 ev.addr, .int .u32 ev.node, .int .u32 ev.dst, .int .u32 ev.xfer, .int .u8 ev.ty, .int .u64 ev.arg, .int .u64 ev.badge, .slice xo ev.ws.length cx]), (4, .int .u8 0), (5, .bool false), (7, .pointer (some ⟨(Z.tp x), 0, none⟩)), (53, .int .u8 9), (66, .bool false), (247, .pointer (some ⟨mb, 0, none⟩)), (249, .int .u32 ev.addr)]) (φ := (b2 = b2 ∧ Nat.ble (3 + 1) 11 = true) ∧ True) (rest := [3, 4, 5, 6, 7, 8, 9]) h61 (by kernel_rfl) rfl ⟨⟨rfl, rfl⟩, trivial⟩ fun a63 h64 => ?_
  clear h61
  refine nd_op ?_
  refine op_call h64 rfl rfl rfl (callOk Tryd.func90 (by decide) rfl) (args := [.pointer (some ⟨mb, 0, none⟩), .int .u32 ev.addr, .int .u8 5, .int .u8 1]) rfl (capOf_ok mb Z _ a C x hx hcx hci hcn hI.ci ev.addr 5 1 he.addr _ (mh_of h64 hho (k := 0) rfl) hf) ?_
  rintro _ w65 ⟨rfl, hg67⟩
  refine ⟨_, rfl, ?_⟩
  have h68a := st_mg h64 hg67 (kcons (fun _ => rfl) (kcons (fun hq => by cases hq) (kcons (fun hq => by cases hq) knil)))
  have h68 := h68a.put (d := some 250) (v := .tuple #[.agg #[.int .u8 c.ty, .int .u16 c.obj.idx, .int .u32 c.obj.gen, .int .u8 c.rights, .int .u64 c.badge], .int .u8 k]) (T' := [(250, .tuple #[.agg #[.int .u8 c.ty, .int .u16 c.obj.idx, .int .u32 c.obj.gen, .int .u8 c.rights, .int .u64 c.badge], .int .u8 k]), (6, .pointer (some ⟨b14, 0, none⟩)), (3, .pointer (some ⟨b2, 0, none⟩)), (0, .pointer (some ⟨mb, 0, none⟩)), (1, .agg #[.int .u8 9, .int .u32 ev.pick, .int .u64 ev.draw, .int .u32 ev.addr, .int .u32 ev.node, .int .u32 ev.dst, .int .u32 ev.xfer, .int .u8 ev.ty, .int .u64 ev.arg, .int .u64 ev.badge, .slice xo ev.ws.length cx]), (4, .int .u8 0), (5, .bool false), (7, .pointer (some ⟨(Z.tp x), 0, none⟩)), (53, .int .u8 9), (66, .bool false), (247, .pointer (some ⟨mb, 0, none⟩)), (249, .int .u32 ev.addr)]) rfl
  have hhoh68 := hg67.mh.ho
  clear h64 h68a
  refine nd_batch tabOk2 tabZ_ok2 [(4, {}), (5, {}), (6, {})] [6, 3, 0, 1, 4, 5, 7, 53, 66, 251, 252] (T' := [(6, .pointer (some ⟨b14, 0, none⟩)), (3, .pointer (some ⟨b2, 0, none⟩)), (0, .pointer (some ⟨mb, 0, none⟩)), (1, .agg #[.int .u8 9, .int .u32 ev.pick, .int .u64 ev.draw, .int .u32 ev.addr, .int .u32 ev.node, .int .u32 ev.dst, .int .u32 ev.xfer, .int .u8 ev.ty, .int .u64 ev.arg, .int .u64 ev.badge, .slice xo ev.ws.length cx]), (4, .int .u8 0), (5, .bool false), (7, .pointer (some ⟨(Z.tp x), 0, none⟩)), (53, .int .u8 9), (66, .bool false), (251, .agg #[.int .u8 c.ty, .int .u16 c.obj.idx, .int .u32 c.obj.gen, .int .u8 c.rights, .int .u64 c.badge]), (252, .int .u8 k)]) (φ := True) (rest := [7, 8, 9]) h68 (by kernel_rfl) rfl trivial fun a69 h70 => ?_
  clear h68
  refine nd_op ?_
  refine op_new tabOk2 (cells := [.int .u8 0, .int .u16 0, .int .u32 0, .int .u8 0, .int .u64 0]) (ty := 49) (ln := none) (L1 := fun b71 => [(3, ⟨[.int .u16 0, .int .u32 0], ty3, true⟩), (b2, ⟨[.int .u8 9, .int .u32 ev.pick, .int .u64 ev.draw, .int .u32 ev.addr, .int .u32 ev.node, .int .u32 ev.dst, .int .u32 ev.xfer, .int .u8 ev.ty, .int .u64 ev.arg, .int .u64 ev.badge, .slice xo ev.ws.length cx], 35, false⟩), (b14, ⟨[.int .u16 ((Z.ky x).idx), .int .u32 ((Z.ky x).gen)], 39, false⟩), (b71, ⟨[.int .u8 0, .int .u16 0, .int .u32 0, .int .u8 0, .int .u64 0], 49, false⟩)]) h70 rfl rfl rfl rfl (by kernel_rfl) (fun _ => rfl) fun b71 w72 a73 h74 hf75 hn76 => ?_
  clear h70
  refine nd_op ?_
  refine op_store tabOk2 {k := 3} (L' := [(3, ⟨[.int .u16 0, .int .u32 0], ty3, true⟩), (b2, ⟨[.int .u8 9, .int .u32 ev.pick, .int .u64 ev.draw, .int .u32 ev.addr, .int .u32 ev.node, .int .u32 ev.dst, .int .u32 ev.xfer, .int .u8 ev.ty, .int .u64 ev.arg, .int .u64 ev.badge, .slice xo ev.ws.length cx], 35, false⟩), (b14, ⟨[.int .u16 ((Z.ky x).idx), .int .u32 ((Z.ky x).gen)], 39, false⟩), (b71, ⟨[.int .u8 c.ty, .int .u16 c.obj.idx, .int .u32 c.obj.gen, .int .u8 c.rights, .int .u64 c.badge], 49, false⟩)]) (φ := b71 = b71 ∧ Nat.ble (0 + 5) 5 = true) h74 rfl rfl rfl (by kernel_rfl) ⟨rfl, rfl⟩ fun w77 h78 => ?_
  clear h74
  refine nd_batch tabOk2 tabZ_ok2 [(9, {})] [18, 6, 3, 0, 1, 4, 5, 7, 53, 66, 19] (T' := [(18, .pointer (some ⟨b71, 0, none⟩)), (6, .pointer (some ⟨b14, 0, none⟩)), (3, .pointer (some ⟨b2, 0, none⟩)), (0, .pointer (some ⟨mb, 0, none⟩)), (1, .agg #[.int .u8 9, .int .u32 ev.pick, .int .u64 ev.draw, .int .u32 ev.addr, .int .u32 ev.node, .int .u32 ev.dst, .int .u32 ev.xfer, .int .u8 ev.ty, .int .u64 ev.arg, .int .u64 ev.badge, .slice xo ev.ws.length cx]), (4, .int .u8 0), (5, .bool false), (7, .pointer (some ⟨(Z.tp x), 0, none⟩)), (53, .int .u8 9), (66, .bool false), (19, .int .u8 k)]) (φ := True) (rest := []) h78 (by kernel_rfl) rfl trivial fun a79 h80 => ?_
  clear h78
  refine nd_done ?_
  refine hK62 _ _ ?_
  clear hK62
  refine wp_seq_k fun K81 hK81 => ?_
  refine wp_seq_k fun K82 hK82 => ?_
  refine nd_start (l := [0, 1]) rfl ?_
  refine nd_batch tabOk2 tabZ_ok2 [(0, {}), (1, {})] [18, 6, 3, 0, 1, 4, 5, 7, 53, 66, 19, 254] (T' := [(18, .pointer (some ⟨b71, 0, none⟩)), (6, .pointer (some ⟨b14, 0, none⟩)), (3, .pointer (some ⟨b2, 0, none⟩)), (0, .pointer (some ⟨mb, 0, none⟩)), (1, .agg #[.int .u8 9, .int .u32 ev.pick, .int .u64 ev.draw, .int .u32 ev.addr, .int .u32 ev.node, .int .u32 ev.dst, .int .u32 ev.xfer, .int .u8 ev.ty, .int .u64 ev.arg, .int .u64 ev.badge, .slice xo ev.ws.length cx]), (4, .int .u8 0), (5, .bool false), (7, .pointer (some ⟨(Z.tp x), 0, none⟩)), (53, .int .u8 9), (66, .bool false), (19, .int .u8 k), (254, .bool (k != 0))]) (φ := True) (rest := []) h80 (by kernel_rfl) rfl trivial fun a83 h84 => ?_
  clear h80
  refine nd_done ?_
  refine hK82 _ _ ?_
  clear hK82
  refine c_split h84 (b := (k != 0)) rfl (fun hc85 => ?_) (fun hc85 => ?_)
  ·
    have hc85f : k ≠ 0 := by simpa using hc85
    refine wp_seq_k fun K86 hK86 => ?_
    refine nd_start (l := [0, 1, 2]) rfl ?_
    refine nd_batch tabOk2 tabZ_ok2 [(0, {}), (1, {}), (2, {})] [18, 6, 3, 0, 1, 7, 53, 66, 19, 4, 5] (T' := [(18, .pointer (some ⟨b71, 0, none⟩)), (6, .pointer (some ⟨b14, 0, none⟩)), (3, .pointer (some ⟨b2, 0, none⟩)), (0, .pointer (some ⟨mb, 0, none⟩)), (1, .agg #[.int .u8 9, .int .u32 ev.pick, .int .u64 ev.draw, .int .u32 ev.addr, .int .u32 ev.node, .int .u32 ev.dst, .int .u32 ev.xfer, .int .u8 ev.ty, .int .u64 ev.arg, .int .u64 ev.badge, .slice xo ev.ws.length cx]), (7, .pointer (some ⟨(Z.tp x), 0, none⟩)), (53, .int .u8 9), (66, .bool false), (19, .int .u8 k), (4, .int .u8 k), (5, .bool false)]) (φ := True) (rest := []) h84 (by kernel_rfl) rfl trivial fun a87 h88 => ?_
    clear h84
    refine nd_done ?_
    refine hK86 _ _ ?_
    clear hK86
    refine wp_ret ?_
    try simp only [Exit.then, Exit.inBlock]
    try rw [if_pos trivial]
    exact s_ret tabOk2 tabZ_ok2 h88 [(.tmp 4, {}), (.tmp 5, {})] (vs := [.int .u8 k, .bool false]) (φ := True) rfl (by kernel_rfl) trivial ⟨rfl, _, mg_end hH h88 hhoh68 rfl⟩
  ·
    have hc85f : k = 0 := by simpa using hc85
    exact absurd hc85f hk0

theorem call9w (mb : Nat) (Z : MZ) (R : MR) (a : AK) (C : CP) (hI : MI Z a C) (x : Nat) (hx : x ∈ sl Z.tl) (hcu : a.cur = (x : Int)) (ev : Ev) (he : EvOk ev) (xo : Option Addr) (cx : Nat) (i : Nat) (hi : i ∈ sl Z.ql) (ct rt bd cs0 : Int) (hf : findA a C ev.addr 5 1 = (⟨ct, Z.ky i, rt, bd⟩, cs0, 0)) (hw0 : a.word i = 0) (w : World) (hH : MH mb Z R a C w) (hws : WordsAt (mdF mb Z R C) w xo ev.ws) :
    Calls Tryd.prog 55 #[.pointer (some ⟨mb, 0, none⟩), .agg #[.int .u8 9, .int .u32 ev.pick, .int .u64 ev.draw, .int .u32 ev.addr, .int .u32 ev.node, .int .u32 ev.dst, .int .u32 ev.xfer, .int .u8 ev.ty, .int .u64 ev.arg, .int .u64 ev.badge, .slice xo ev.ws.length cx]] w fun e w' => e = .returned (.tuple #[.int .u8 0, .bool false]) ∧ ∃ R', MG mb Z R C w Z R' (blockA a x 5 (Z.ky i)) C w' := by
  have hP := hI.mp
  have hcx : curR Z a = Z.ky x := curR_of hcu
  have hcn : a.cur.toNat = x := by rw [hcu]; exact Int.toNat_natCast x
  have hci := (hI.tk x hx).ci
  obtain ⟨ty3, hg3⟩ := hH.g3
  have hho := hH.ho
  have hkk := hH.md.k
  refine enter (n := 628) (K := mdF mb Z R C) (A := MD (mdF mb Z R C) w.heap.size mb Z R a C) (F := mdF mb Z R C) (T := [(0, .pointer (some ⟨mb, 0, none⟩)), (1, .agg #[.int .u8 9, .int .u32 ev.pick, .int .u64 ev.draw, .int .u32 ev.addr, .int .u32 ev.node, .int .u32 ev.dst, .int .u32 ev.xfer, .int .u8 ev.ty, .int .u64 ev.arg, .int .u64 ev.badge, .slice xo ev.ws.length cx])]) (L := [(3, ⟨[.int .u16 0, .int .u32 0], ty3, true⟩)]) (args := [.pointer (some ⟨mb, 0, none⟩), .agg #[.int .u8 9, .int .u32 ev.pick, .int .u64 ev.draw, .int .u32 ev.addr, .int .u32 ev.node, .int .u32 ev.dst, .int .u32 ev.xfer, .int .u8 ev.ty, .int .u64 ev.arg, .int .u64 ev.badge, .slice xo ev.ws.length cx]]) Tryd.func55 rfl rfl rfl rfl (kcons hg3 knil) (by simp) (kcons (by intro hq; cases hq) knil) hH.mD MD.stable hH.md.low (kcons (by intro hq; cases hq) knil) ?_
  intro ac h
  refine wp_seq_k fun K1 hK1 => ?_
  refine nd_start (l := [0, 1, 2]) rfl ?_
  refine nd_op ?_
  refine op_new tabOk2 (cells := [.int .u8 9, .int .u32 ev.pick, .int .u64 ev.draw, .int .u32 ev.addr, .int .u32 ev.node, .int .u32 ev.dst, .int .u32 ev.xfer, .int .u8 ev.ty, .int .u64 ev.arg, .int .u64 ev.badge, .slice xo ev.ws.length cx]) (ty := 35) (ln := none) (L1 := fun b2 => [(3, ⟨[.int .u16 0, .int .u32 0], ty3, true⟩), (b2, ⟨[.int .u8 9, .int .u32 ev.pick, .int .u64 ev.draw, .int .u32 ev.addr, .int .u32 ev.node, .int .u32 ev.dst, .int .u32 ev.xfer, .int .u8 ev.ty, .int .u64 ev.arg, .int .u64 ev.badge, .slice xo ev.ws.length cx], 35, false⟩)]) h rfl rfl rfl rfl (by kernel_rfl) (fun _ => rfl) fun b2 w3 a4 h5 hf6 hn7 => ?_
  clear h
  refine nd_batch tabOk2 tabZ_ok2 [(1, {}), (2, {})] [3, 0, 1, 4, 5] (T' := [(3, .pointer (some ⟨b2, 0, none⟩)), (0, .pointer (some ⟨mb, 0, none⟩)), (1, .agg #[.int .u8 9, .int .u32 ev.pick, .int .u64 ev.draw, .int .u32 ev.addr, .int .u32 ev.node, .int .u32 ev.dst, .int .u32 ev.xfer, .int .u8 ev.ty, .int .u64 ev.arg, .int .u64 ev.badge, .slice xo ev.ws.length cx]), (4, .int .u8 0), (5, .bool false)]) (φ := True) (rest := []) h5 (by kernel_rfl) rfl trivial fun a8 h9 => ?_
  clear h5
  refine nd_done ?_
  refine hK1 _ _ ?_
  clear hK1
  refine wp_seq_k fun K10 hK10 => ?_
  refine nd_start (l := [0, 1, 2, 3, 4, 5]) rfl ?_
  refine nd_batch tabOk2 tabZ_ok2 [(0, {}), (1, {}), (2, {})] [3, 0, 1, 4, 5, 44] (T' := [(3, .pointer (some ⟨b2, 0, none⟩)), (0, .pointer (some ⟨mb, 0, none⟩)), (1, .agg #[.int .u8 9, .int .u32 ev.pick, .int .u64 ev.draw, .int .u32 ev.addr, .int .u32 ev.node, .int .u32 ev.dst, .int .u32 ev.xfer, .int .u8 ev.ty, .int .u64 ev.arg, .int .u64 ev.badge, .slice xo ev.ws.length cx]), (4, .int .u8 0), (5, .bool false), (44, .pointer (some ⟨mb, 13, none⟩))]) (φ := True) (rest := [3, 4, 5]) h9 (by kernel_rfl) rfl trivial fun a11 h12 => ?_
  clear h9
  refine nd_op ?_
  refine op_read (b := mb) (v := .agg #[.int .u16 ((Z.ky x).idx), .int .u32 ((Z.ky x).gen)]) h12 rfl rfl (rd_mA h12 (k := 13) (vs := [.int .u16 ((Z.ky x).idx), .int .u32 ((Z.ky x).gen)]) rfl rfl rfl rfl rfl (by rw [← hcx]; exact md_cur)) ?_
  have h13 := h12.put (d := some 45) (v := .agg #[.int .u16 ((Z.ky x).idx), .int .u32 ((Z.ky x).gen)]) (T' := [(45, .agg #[.int .u16 ((Z.ky x).idx), .int .u32 ((Z.ky x).gen)]), (3, .pointer (some ⟨b2, 0, none⟩)), (0, .pointer (some ⟨mb, 0, none⟩)), (1, .agg #[.int .u8 9, .int .u32 ev.pick, .int .u64 ev.draw, .int .u32 ev.addr, .int .u32 ev.node, .int .u32 ev.dst, .int .u32 ev.xfer, .int .u8 ev.ty, .int .u64 ev.arg, .int .u64 ev.badge, .slice xo ev.ws.length cx]), (4, .int .u8 0), (5, .bool false), (44, .pointer (some ⟨mb, 13, none⟩))]) rfl
  clear h12
  refine nd_op ?_
  refine op_new tabOk2 (cells := [.int .u16 0, .int .u32 0]) (ty := 39) (ln := none) (L1 := fun b14 => [(3, ⟨[.int .u16 0, .int .u32 0], ty3, true⟩), (b2, ⟨[.int .u8 9, .int .u32 ev.pick, .int .u64 ev.draw, .int .u32 ev.addr, .int .u32 ev.node, .int .u32 ev.dst, .int .u32 ev.xfer, .int .u8 ev.ty, .int .u64 ev.arg, .int .u64 ev.badge, .slice xo ev.ws.length cx], 35, false⟩), (b14, ⟨[.int .u16 0, .int .u32 0], 39, false⟩)]) h13 rfl rfl rfl rfl (by kernel_rfl) (fun _ => rfl) fun b14 w15 a16 h17 hf18 hn19 => ?_
  clear h13
  refine nd_op ?_
  refine op_store tabOk2 {k := 2} (L' := [(3, ⟨[.int .u16 0, .int .u32 0], ty3, true⟩), (b2, ⟨[.int .u8 9, .int .u32 ev.pick, .int .u64 ev.draw, .int .u32 ev.addr, .int .u32 ev.node, .int .u32 ev.dst, .int .u32 ev.xfer, .int .u8 ev.ty, .int .u64 ev.arg, .int .u64 ev.badge, .slice xo ev.ws.length cx], 35, false⟩), (b14, ⟨[.int .u16 ((Z.ky x).idx), .int .u32 ((Z.ky x).gen)], 39, false⟩)]) (φ := b14 = b14 ∧ Nat.ble (0 + 2) 2 = true) h17 rfl rfl rfl (by kernel_rfl) ⟨rfl, rfl⟩ fun w20 h21 => ?_
  clear h17
  refine nd_done ?_
  refine hK10 _ _ ?_
  clear hK10
  refine wp_seq_k fun K22 hK22 => ?_
  refine dr_start (KB := [3, b2, b14, mb, Z.tb]) (Bi := [[0, 1, 2, 3, 4], [0, 1, 2, 3, 4], [0, 1, 2, 3, 4], [0, 1, 2, 3, 4], [0, 1, 2, 3, 4], [0, 1, 2, 3, 4], [0, 1, 2, 3, 4]]) mixed h21 fun w23 h24 => ?_
  clear h21
  refine dr_batch tabOk2 tabZ_ok2 (by repeat (first | with_reducible exact PF.body | with_reducible apply PF.inB | with_reducible apply PF.next)) [(0, {}), (1, {}), (2, {})] [6, 3, 0, 1, 4, 5, 48] (T' := [(6, .pointer (some ⟨b14, 0, none⟩)), (3, .pointer (some ⟨b2, 0, none⟩)), (0, .pointer (some ⟨mb, 0, none⟩)), (1, .agg #[.int .u8 9, .int .u32 ev.pick, .int .u64 ev.draw, .int .u32 ev.addr, .int .u32 ev.node, .int .u32 ev.dst, .int .u32 ev.xfer, .int .u8 ev.ty, .int .u64 ev.arg, .int .u64 ev.badge, .slice xo ev.ws.length cx]), (4, .int .u8 0), (5, .bool false), (48, .pointer (some ⟨mb, 2, none⟩))]) (φ := True) (fuel := 4) h24 (by kernel_rfl) rfl (by kernel_rfl) (by kernel_rfl) ⟨trivial, trivial, trivial, trivial⟩ trivial fun a26 h27 => ?_
  clear h24
  refine dr_read (i := 3) (b := mb) (p := 3) (v := .map (some Z.tb)) (fuel := 3) (by repeat (first | with_reducible exact PF.body | with_reducible apply PF.inB | with_reducible apply PF.next)) h27 rfl rfl rfl (by kernel_rfl) (by kernel_rfl) (by kernel_rfl) rfl (rd_m h27 (k := 2) (v := .map (some Z.tb)) rfl rfl rfl rfl (md_p ⟨rfl, trivial⟩)) ?_
  have h28 := h27.put (d := some 49) (v := .map (some Z.tb)) (T' := [(49, .map (some Z.tb)), (6, .pointer (some ⟨b14, 0, none⟩)), (3, .pointer (some ⟨b2, 0, none⟩)), (0, .pointer (some ⟨mb, 0, none⟩)), (1, .agg #[.int .u8 9, .int .u32 ev.pick, .int .u64 ev.draw, .int .u32 ev.addr, .int .u32 ev.node, .int .u32 ev.dst, .int .u32 ev.xfer, .int .u8 ev.ty, .int .u64 ev.arg, .int .u64 ev.badge, .slice xo ev.ws.length cx]), (4, .int .u8 0), (5, .bool false), (48, .pointer (some ⟨mb, 2, none⟩))]) rfl
  clear h27
  refine dr_batch tabOk2 tabZ_ok2 (by repeat (first | with_reducible exact PF.body | with_reducible apply PF.inB | with_reducible apply PF.next)) [(4, {k := 2, p := 2})] [49, 6, 3, 0, 1, 4, 5, 50] (T' := [(49, .map (some Z.tb)), (6, .pointer (some ⟨b14, 0, none⟩)), (3, .pointer (some ⟨b2, 0, none⟩)), (0, .pointer (some ⟨mb, 0, none⟩)), (1, .agg #[.int .u8 9, .int .u32 ev.pick, .int .u64 ev.draw, .int .u32 ev.addr, .int .u32 ev.node, .int .u32 ev.dst, .int .u32 ev.xfer, .int .u8 ev.ty, .int .u64 ev.arg, .int .u64 ev.badge, .slice xo ev.ws.length cx]), (4, .int .u8 0), (5, .bool false), (50, .agg #[.int .u16 ((Z.ky x).idx), .int .u32 ((Z.ky x).gen)])]) (φ := (b14 = b14 ∧ Nat.ble (0 + 2) 2 = true) ∧ True) (fuel := 2) h28 (by kernel_rfl) rfl (by kernel_rfl) (by kernel_rfl) ⟨rfl, trivial⟩ ⟨⟨rfl, rfl⟩, trivial⟩ fun a29 h30 => ?_
  clear h28
  refine dr_read (i := 5) (b := Z.tb) (p := 4) (v := .pointer (some ⟨(Z.tp x), 0, none⟩)) (fuel := 1) (by repeat (first | with_reducible exact PF.body | with_reducible apply PF.inB | with_reducible apply PF.next)) h30 rfl rfl rfl (by kernel_rfl) (by kernel_rfl) (by kernel_rfl) rfl (rd_T h30 (x := x) hx rfl rfl rfl) ?_
  have h31 := h30.put (d := some 51) (v := .pointer (some ⟨(Z.tp x), 0, none⟩)) (T' := [(51, .pointer (some ⟨(Z.tp x), 0, none⟩)), (49, .map (some Z.tb)), (6, .pointer (some ⟨b14, 0, none⟩)), (3, .pointer (some ⟨b2, 0, none⟩)), (0, .pointer (some ⟨mb, 0, none⟩)), (1, .agg #[.int .u8 9, .int .u32 ev.pick, .int .u64 ev.draw, .int .u32 ev.addr, .int .u32 ev.node, .int .u32 ev.dst, .int .u32 ev.xfer, .int .u8 ev.ty, .int .u64 ev.arg, .int .u64 ev.badge, .slice xo ev.ws.length cx]), (4, .int .u8 0), (5, .bool false), (50, .agg #[.int .u16 ((Z.ky x).idx), .int .u32 ((Z.ky x).gen)])]) rfl
  clear h30
  refine dr_batch tabOk2 tabZ_ok2 (by repeat (first | with_reducible exact PF.body | with_reducible apply PF.inB | with_reducible apply PF.next)) [(6, {})] [6, 3, 0, 1, 4, 5, 7] (T' := [(6, .pointer (some ⟨b14, 0, none⟩)), (3, .pointer (some ⟨b2, 0, none⟩)), (0, .pointer (some ⟨mb, 0, none⟩)), (1, .agg #[.int .u8 9, .int .u32 ev.pick, .int .u64 ev.draw, .int .u32 ev.addr, .int .u32 ev.node, .int .u32 ev.dst, .int .u32 ev.xfer, .int .u8 ev.ty, .int .u64 ev.arg, .int .u64 ev.badge, .slice xo ev.ws.length cx]), (4, .int .u8 0), (5, .bool false), (7, .pointer (some ⟨(Z.tp x), 0, none⟩))]) (φ := True) (fuel := 0) h31 (by kernel_rfl) rfl (by kernel_rfl) (by kernel_rfl) ⟨trivial, trivial⟩ trivial fun a32 h33 => ?_
  clear h31
  refine wpAnyK_done (by kernel_rfl) ?_ _
  refine hK22 _ _ ?_
  clear hK22
  refine wp_seq_k fun K34 hK34 => ?_
  refine wp_seq_k fun K35 hK35 => ?_
  refine nd_start (l := [0, 1]) rfl ?_
  refine nd_batch tabOk2 tabZ_ok2 [(0, {}), (1, {k := 1})] [6, 3, 0, 1, 4, 5, 7, 53] (T' := [(6, .pointer (some ⟨b14, 0, none⟩)), (3, .pointer (some ⟨b2, 0, none⟩)), (0, .pointer (some ⟨mb, 0, none⟩)), (1, .agg #[.int .u8 9, .int .u32 ev.pick, .int .u64 ev.draw, .int .u32 ev.addr, .int .u32 ev.node, .int .u32 ev.dst, .int .u32 ev.xfer, .int .u8 ev.ty, .int .u64 ev.arg, .int .u64 ev.badge, .slice xo ev.ws.length cx]), (4, .int .u8 0), (5, .bool false), (7, .pointer (some ⟨(Z.tp x), 0, none⟩)), (53, .int .u8 9)]) (φ := (b2 = b2 ∧ Nat.ble (0 + 1) 11 = true) ∧ True) (rest := []) h33 (by kernel_rfl) rfl ⟨⟨rfl, rfl⟩, trivial⟩ fun a36 h37 => ?_
  clear h33
  refine nd_done ?_
  refine hK35 _ _ ?_
  clear hK35
  refine wp_block ?_
  refine wp_seq_k fun K38 hK38 => ?_
  refine nd_start (l := [0, 1]) rfl ?_
  refine nd_batch tabOk2 tabZ_ok2 [(0, {}), (1, {})] [6, 3, 0, 1, 4, 5, 7, 53, 54] (T' := [(6, .pointer (some ⟨b14, 0, none⟩)), (3, .pointer (some ⟨b2, 0, none⟩)), (0, .pointer (some ⟨mb, 0, none⟩)), (1, .agg #[.int .u8 9, .int .u32 ev.pick, .int .u64 ev.draw, .int .u32 ev.addr, .int .u32 ev.node, .int .u32 ev.dst, .int .u32 ev.xfer, .int .u8 ev.ty, .int .u64 ev.arg, .int .u64 ev.badge, .slice xo ev.ws.length cx]), (4, .int .u8 0), (5, .bool false), (7, .pointer (some ⟨(Z.tp x), 0, none⟩)), (53, .int .u8 9), (54, .bool false)]) (φ := True) (rest := []) h37 (by kernel_rfl) rfl trivial fun a39 h40 => ?_
  clear h37
  refine nd_done ?_
  refine hK38 _ _ ?_
  clear hK38
  refine c_false h40 rfl ?_
  refine wp_seq_k fun K41 hK41 => ?_
  refine nd_start (l := [0, 1]) rfl ?_
  refine nd_batch tabOk2 tabZ_ok2 [(0, {}), (1, {})] [6, 3, 0, 1, 4, 5, 7, 53, 59] (T' := [(6, .pointer (some ⟨b14, 0, none⟩)), (3, .pointer (some ⟨b2, 0, none⟩)), (0, .pointer (some ⟨mb, 0, none⟩)), (1, .agg #[.int .u8 9, .int .u32 ev.pick, .int .u64 ev.draw, .int .u32 ev.addr, .int .u32 ev.node, .int .u32 ev.dst, .int .u32 ev.xfer, .int .u8 ev.ty, .int .u64 ev.arg, .int .u64 ev.badge, .slice xo ev.ws.length cx]), (4, .int .u8 0), (5, .bool false), (7, .pointer (some ⟨(Z.tp x), 0, none⟩)), (53, .int .u8 9), (59, .bool false)]) (φ := True) (rest := []) h40 (by kernel_rfl) rfl trivial fun a42 h43 => ?_
  clear h40
  refine nd_done ?_
  refine hK41 _ _ ?_
  clear hK41
  refine c_false h43 rfl ?_
  refine wp_seq_k fun K44 hK44 => ?_
  refine wp_seq_k fun K45 hK45 => ?_
  refine nd_start (l := [0, 1]) rfl ?_
  refine nd_batch tabOk2 tabZ_ok2 [(0, {}), (1, {})] [6, 3, 0, 1, 4, 5, 7, 53, 66] (T' := [(6, .pointer (some ⟨b14, 0, none⟩)), (3, .pointer (some ⟨b2, 0, none⟩)), (0, .pointer (some ⟨mb, 0, none⟩)), (1, .agg #[.int .u8 9, .int .u32 ev.pick, .int .u64 ev.draw, .int .u32 ev.addr, .int .u32 ev.node, .int .u32 ev.dst, .int .u32 ev.xfer, .int .u8 ev.ty, .int .u64 ev.arg, .int .u64 ev.badge, .slice xo ev.ws.length cx]), (4, .int .u8 0), (5, .bool false), (7, .pointer (some ⟨(Z.tp x), 0, none⟩)), (53, .int .u8 9), (66, .bool false)]) (φ := True) (rest := []) h43 (by kernel_rfl) rfl trivial fun a46 h47 => ?_
  clear h43
  refine nd_done ?_
  refine hK45 _ _ ?_
  clear hK45
  refine c_false h47 rfl ?_
  refine nd_start (l := [0, 1]) rfl ?_
  refine nd_batch tabOk2 tabZ_ok2 [(0, {}), (1, {})] [6, 3, 0, 1, 4, 5, 7, 53, 66] (T' := [(6, .pointer (some ⟨b14, 0, none⟩)), (3, .pointer (some ⟨b2, 0, none⟩)), (0, .pointer (some ⟨mb, 0, none⟩)), (1, .agg #[.int .u8 9, .int .u32 ev.pick, .int .u64 ev.draw, .int .u32 ev.addr, .int .u32 ev.node, .int .u32 ev.dst, .int .u32 ev.xfer, .int .u8 ev.ty, .int .u64 ev.arg, .int .u64 ev.badge, .slice xo ev.ws.length cx]), (4, .int .u8 0), (5, .bool false), (7, .pointer (some ⟨(Z.tp x), 0, none⟩)), (53, .int .u8 9), (66, .bool false)]) (φ := True) (rest := []) h47 (by kernel_rfl) rfl trivial fun a48 h49 => ?_
  clear h47
  refine nd_done ?_
  refine hK44 _ _ ?_
  clear hK44
  refine c_false h49 rfl ?_
  refine wp_seq_k fun K50 hK50 => ?_
  refine nd_start (l := [0, 1]) rfl ?_
  refine nd_batch tabOk2 tabZ_ok2 [(0, {}), (1, {})] [6, 3, 0, 1, 4, 5, 7, 53, 66, 129] (T' := [(6, .pointer (some ⟨b14, 0, none⟩)), (3, .pointer (some ⟨b2, 0, none⟩)), (0, .pointer (some ⟨mb, 0, none⟩)), (1, .agg #[.int .u8 9, .int .u32 ev.pick, .int .u64 ev.draw, .int .u32 ev.addr, .int .u32 ev.node, .int .u32 ev.dst, .int .u32 ev.xfer, .int .u8 ev.ty, .int .u64 ev.arg, .int .u64 ev.badge, .slice xo ev.ws.length cx]), (4, .int .u8 0), (5, .bool false), (7, .pointer (some ⟨(Z.tp x), 0, none⟩)), (53, .int .u8 9), (66, .bool false), (129, .bool false)]) (φ := True) (rest := []) h49 (by kernel_rfl) rfl trivial fun a51 h52 => ?_
  clear h49
  refine nd_done ?_
  refine hK50 _ _ ?_
  clear hK50
  refine c_false h52 rfl ?_
  refine wp_seq_k fun K53 hK53 => ?_
  refine nd_start (l := [0, 1]) rfl ?_
  refine nd_batch tabOk2 tabZ_ok2 [(0, {}), (1, {})] [6, 3, 0, 1, 4, 5, 7, 53, 66, 165] (T' := [(6, .pointer (some ⟨b14, 0, none⟩)), (3, .pointer (some ⟨b2, 0, none⟩)), (0, .pointer (some ⟨mb, 0, none⟩)), (1, .agg #[.int .u8 9, .int .u32 ev.pick, .int .u64 ev.draw, .int .u32 ev.addr, .int .u32 ev.node, .int .u32 ev.dst, .int .u32 ev.xfer, .int .u8 ev.ty, .int .u64 ev.arg, .int .u64 ev.badge, .slice xo ev.ws.length cx]), (4, .int .u8 0), (5, .bool false), (7, .pointer (some ⟨(Z.tp x), 0, none⟩)), (53, .int .u8 9), (66, .bool false), (165, .bool false)]) (φ := True) (rest := []) h52 (by kernel_rfl) rfl trivial fun a54 h55 => ?_
  clear h52
  refine nd_done ?_
  refine hK53 _ _ ?_
  clear hK53
  refine c_false h55 rfl ?_
  refine wp_seq_k fun K56 hK56 => ?_
  refine nd_start (l := [0, 1]) rfl ?_
  refine nd_batch tabOk2 tabZ_ok2 [(0, {}), (1, {})] [6, 3, 0, 1, 4, 5, 7, 53, 66, 226] (T' := [(6, .pointer (some ⟨b14, 0, none⟩)), (3, .pointer (some ⟨b2, 0, none⟩)), (0, .pointer (some ⟨mb, 0, none⟩)), (1, .agg #[.int .u8 9, .int .u32 ev.pick, .int .u64 ev.draw, .int .u32 ev.addr, .int .u32 ev.node, .int .u32 ev.dst, .int .u32 ev.xfer, .int .u8 ev.ty, .int .u64 ev.arg, .int .u64 ev.badge, .slice xo ev.ws.length cx]), (4, .int .u8 0), (5, .bool false), (7, .pointer (some ⟨(Z.tp x), 0, none⟩)), (53, .int .u8 9), (66, .bool false), (226, .bool false)]) (φ := True) (rest := []) h55 (by kernel_rfl) rfl trivial fun a57 h58 => ?_
  clear h55
  refine nd_done ?_
  refine hK56 _ _ ?_
  clear hK56
  refine c_false h58 rfl ?_
  refine wp_seq_k fun K59 hK59 => ?_
  refine nd_start (l := [0, 1]) rfl ?_
  refine nd_batch tabOk2 tabZ_ok2 [(0, {}), (1, {})] [6, 3, 0, 1, 4, 5, 7, 53, 66, 244] (T' := [(6, .pointer (some ⟨b14, 0, none⟩)), (3, .pointer (some ⟨b2, 0, none⟩)), (0, .pointer (some ⟨mb, 0, none⟩)), (1, .agg #[.int .u8 9, .int .u32 ev.pick, .int .u64 ev.draw, .int .u32 ev.addr, .int .u32 ev.node, .int .u32 ev.dst, .int .u32 ev.xfer, .int .u8 ev.ty, .int .u64 ev.arg, .int .u64 ev.badge, .slice xo ev.ws.length cx]), (4, .int .u8 0), (5, .bool false), (7, .pointer (some ⟨(Z.tp x), 0, none⟩)), (53, .int .u8 9), (66, .bool false), (244, .bool true)]) (φ := True) (rest := []) h58 (by kernel_rfl) rfl trivial fun a60 h61 => ?_
  clear h58
  refine nd_done ?_
  refine hK59 _ _ ?_
  clear hK59
  refine c_true h61 rfl ?_
  refine wp_seq_k fun K62 hK62 => ?_
  refine nd_start (l := [0, 1, 2, 3, 4, 5, 6, 7, 8, 9]) rfl ?_
  refine nd_batch tabOk2 tabZ_ok2 [(0, {}), (1, {}), (2, {k := 1})] [6, 3, 0, 1, 4, 5, 7, 53, 66, 247, 249] (T' := [(6, .pointer (some ⟨b14, 0, none⟩)), (3, .pointer (some ⟨b2, 0, none⟩)), (0, .pointer (some ⟨mb, 0, none⟩)), (1, .agg #[.int .u8 9, .int .u32 ev.pick, .int .u64 ev.draw, .int .u32 ev.addr, .int .u32 ev.node, .int .u32 ev.dst, .int .u32 ev.xfer, .int .u8 ev.ty, .int .u64 ev.arg, .int .u64 ev.badge, .slice xo ev.ws.length cx]), (4, .int .u8 0), (5, .bool false), (7, .pointer (some ⟨(Z.tp x), 0, none⟩)), (53, .int .u8 9), (66, .bool false), (247, .pointer (some ⟨mb, 0, none⟩)), (249, .int .u32 ev.addr)]) (φ := (b2 = b2 ∧ Nat.ble (3 + 1) 11 = true) ∧ True) (rest := [3, 4, 5, 6, 7, 8, 9]) h61 (by kernel_rfl) rfl ⟨⟨rfl, rfl⟩, trivial⟩ fun a63 h64 => ?_
  clear h61
  refine nd_op ?_
  refine op_call h64 rfl rfl rfl (callOk Tryd.func90 (by decide) rfl) (args := [.pointer (some ⟨mb, 0, none⟩), .int .u32 ev.addr, .int .u8 5, .int .u8 1]) rfl (capOf_ok mb Z _ a C x hx hcx hci hcn hI.ci ev.addr 5 1 he.addr _ (mh_of h64 hho (k := 0) rfl) hf) ?_
  rintro _ w65 ⟨rfl, hg67⟩
  refine ⟨_, rfl, ?_⟩
  have h68a := st_mg h64 hg67 (kcons (fun _ => rfl) (kcons (fun hq => by cases hq) (kcons (fun hq => by cases hq) knil)))
  have h68 := h68a.put (d := some 250) (v := .tuple #[.agg #[.int .u8 ct, .int .u16 ((Z.ky i).idx), .int .u32 ((Z.ky i).gen), .int .u8 rt, .int .u64 bd], .int .u8 0]) (T' := [(250, .tuple #[.agg #[.int .u8 ct, .int .u16 ((Z.ky i).idx), .int .u32 ((Z.ky i).gen), .int .u8 rt, .int .u64 bd], .int .u8 0]), (6, .pointer (some ⟨b14, 0, none⟩)), (3, .pointer (some ⟨b2, 0, none⟩)), (0, .pointer (some ⟨mb, 0, none⟩)), (1, .agg #[.int .u8 9, .int .u32 ev.pick, .int .u64 ev.draw, .int .u32 ev.addr, .int .u32 ev.node, .int .u32 ev.dst, .int .u32 ev.xfer, .int .u8 ev.ty, .int .u64 ev.arg, .int .u64 ev.badge, .slice xo ev.ws.length cx]), (4, .int .u8 0), (5, .bool false), (7, .pointer (some ⟨(Z.tp x), 0, none⟩)), (53, .int .u8 9), (66, .bool false), (247, .pointer (some ⟨mb, 0, none⟩)), (249, .int .u32 ev.addr)]) rfl
  have hhoh68 := hg67.mh.ho
  clear h64 h68a
  refine nd_batch tabOk2 tabZ_ok2 [(4, {}), (5, {}), (6, {})] [6, 3, 0, 1, 4, 5, 7, 53, 66, 251, 252] (T' := [(6, .pointer (some ⟨b14, 0, none⟩)), (3, .pointer (some ⟨b2, 0, none⟩)), (0, .pointer (some ⟨mb, 0, none⟩)), (1, .agg #[.int .u8 9, .int .u32 ev.pick, .int .u64 ev.draw, .int .u32 ev.addr, .int .u32 ev.node, .int .u32 ev.dst, .int .u32 ev.xfer, .int .u8 ev.ty, .int .u64 ev.arg, .int .u64 ev.badge, .slice xo ev.ws.length cx]), (4, .int .u8 0), (5, .bool false), (7, .pointer (some ⟨(Z.tp x), 0, none⟩)), (53, .int .u8 9), (66, .bool false), (251, .agg #[.int .u8 ct, .int .u16 ((Z.ky i).idx), .int .u32 ((Z.ky i).gen), .int .u8 rt, .int .u64 bd]), (252, .int .u8 0)]) (φ := True) (rest := [7, 8, 9]) h68 (by kernel_rfl) rfl trivial fun a69 h70 => ?_
  clear h68
  refine nd_op ?_
  refine op_new tabOk2 (cells := [.int .u8 0, .int .u16 0, .int .u32 0, .int .u8 0, .int .u64 0]) (ty := 49) (ln := none) (L1 := fun b71 => [(3, ⟨[.int .u16 0, .int .u32 0], ty3, true⟩), (b2, ⟨[.int .u8 9, .int .u32 ev.pick, .int .u64 ev.draw, .int .u32 ev.addr, .int .u32 ev.node, .int .u32 ev.dst, .int .u32 ev.xfer, .int .u8 ev.ty, .int .u64 ev.arg, .int .u64 ev.badge, .slice xo ev.ws.length cx], 35, false⟩), (b14, ⟨[.int .u16 ((Z.ky x).idx), .int .u32 ((Z.ky x).gen)], 39, false⟩), (b71, ⟨[.int .u8 0, .int .u16 0, .int .u32 0, .int .u8 0, .int .u64 0], 49, false⟩)]) h70 rfl rfl rfl rfl (by kernel_rfl) (fun _ => rfl) fun b71 w72 a73 h74 hf75 hn76 => ?_
  clear h70
  refine nd_op ?_
  refine op_store tabOk2 {k := 3} (L' := [(3, ⟨[.int .u16 0, .int .u32 0], ty3, true⟩), (b2, ⟨[.int .u8 9, .int .u32 ev.pick, .int .u64 ev.draw, .int .u32 ev.addr, .int .u32 ev.node, .int .u32 ev.dst, .int .u32 ev.xfer, .int .u8 ev.ty, .int .u64 ev.arg, .int .u64 ev.badge, .slice xo ev.ws.length cx], 35, false⟩), (b14, ⟨[.int .u16 ((Z.ky x).idx), .int .u32 ((Z.ky x).gen)], 39, false⟩), (b71, ⟨[.int .u8 ct, .int .u16 ((Z.ky i).idx), .int .u32 ((Z.ky i).gen), .int .u8 rt, .int .u64 bd], 49, false⟩)]) (φ := b71 = b71 ∧ Nat.ble (0 + 5) 5 = true) h74 rfl rfl rfl (by kernel_rfl) ⟨rfl, rfl⟩ fun w77 h78 => ?_
  clear h74
  refine nd_batch tabOk2 tabZ_ok2 [(9, {})] [18, 6, 3, 0, 1, 4, 5, 7, 53, 66, 19] (T' := [(18, .pointer (some ⟨b71, 0, none⟩)), (6, .pointer (some ⟨b14, 0, none⟩)), (3, .pointer (some ⟨b2, 0, none⟩)), (0, .pointer (some ⟨mb, 0, none⟩)), (1, .agg #[.int .u8 9, .int .u32 ev.pick, .int .u64 ev.draw, .int .u32 ev.addr, .int .u32 ev.node, .int .u32 ev.dst, .int .u32 ev.xfer, .int .u8 ev.ty, .int .u64 ev.arg, .int .u64 ev.badge, .slice xo ev.ws.length cx]), (4, .int .u8 0), (5, .bool false), (7, .pointer (some ⟨(Z.tp x), 0, none⟩)), (53, .int .u8 9), (66, .bool false), (19, .int .u8 0)]) (φ := True) (rest := []) h78 (by kernel_rfl) rfl trivial fun a79 h80 => ?_
  clear h78
  refine nd_done ?_
  refine hK62 _ _ ?_
  clear hK62
  refine wp_seq_k fun K81 hK81 => ?_
  refine wp_seq_k fun K82 hK82 => ?_
  refine nd_start (l := [0, 1]) rfl ?_
  refine nd_batch tabOk2 tabZ_ok2 [(0, {}), (1, {})] [18, 6, 3, 0, 1, 4, 5, 7, 53, 66, 19, 254] (T' := [(18, .pointer (some ⟨b71, 0, none⟩)), (6, .pointer (some ⟨b14, 0, none⟩)), (3, .pointer (some ⟨b2, 0, none⟩)), (0, .pointer (some ⟨mb, 0, none⟩)), (1, .agg #[.int .u8 9, .int .u32 ev.pick, .int .u64 ev.draw, .int .u32 ev.addr, .int .u32 ev.node, .int .u32 ev.dst, .int .u32 ev.xfer, .int .u8 ev.ty, .int .u64 ev.arg, .int .u64 ev.badge, .slice xo ev.ws.length cx]), (4, .int .u8 0), (5, .bool false), (7, .pointer (some ⟨(Z.tp x), 0, none⟩)), (53, .int .u8 9), (66, .bool false), (19, .int .u8 0), (254, .bool false)]) (φ := True) (rest := []) h80 (by kernel_rfl) rfl trivial fun a83 h84 => ?_
  clear h80
  refine nd_done ?_
  refine hK82 _ _ ?_
  clear hK82
  refine c_false h84 rfl ?_
  refine wp_skip ?_
  refine hK81 _ _ ?_
  clear hK81
  refine wp_seq_k fun K85 hK85 => ?_
  refine wp_seq_k fun K86 hK86 => ?_
  refine dr_start (KB := [3, b2, b14, b71, mb, Z.wb]) (Bi := [[0, 1, 2, 3, 4, 5], [0, 1, 2, 3, 4, 5], [0, 1, 2, 3, 4, 5], [0, 1, 2, 3, 4, 5], [0, 1, 2, 3, 4, 5], [0, 1, 2, 3, 4, 5], [0, 1, 2, 3, 4, 5], [0, 1, 2, 3, 4, 5]]) mixed h84 fun w87 h88 => ?_
  clear h84
  refine dr_batch tabOk2 tabZ_ok2 (by repeat (first | with_reducible exact PF.body | with_reducible apply PF.inB | with_reducible apply PF.next)) [(0, {}), (1, {}), (2, {})] [18, 6, 3, 0, 1, 4, 5, 7, 53, 66, 19, 258] (T' := [(18, .pointer (some ⟨b71, 0, none⟩)), (6, .pointer (some ⟨b14, 0, none⟩)), (3, .pointer (some ⟨b2, 0, none⟩)), (0, .pointer (some ⟨mb, 0, none⟩)), (1, .agg #[.int .u8 9, .int .u32 ev.pick, .int .u64 ev.draw, .int .u32 ev.addr, .int .u32 ev.node, .int .u32 ev.dst, .int .u32 ev.xfer, .int .u8 ev.ty, .int .u64 ev.arg, .int .u64 ev.badge, .slice xo ev.ws.length cx]), (4, .int .u8 0), (5, .bool false), (7, .pointer (some ⟨(Z.tp x), 0, none⟩)), (53, .int .u8 9), (66, .bool false), (19, .int .u8 0), (258, .pointer (some ⟨mb, 4, none⟩))]) (φ := True) (fuel := 5) h88 (by kernel_rfl) rfl (by kernel_rfl) (by kernel_rfl) ⟨trivial, trivial, trivial, trivial⟩ trivial fun a90 h91 => ?_
  clear h88
  refine dr_read (i := 3) (b := mb) (p := 4) (v := .map (some Z.wb)) (fuel := 4) (by repeat (first | with_reducible exact PF.body | with_reducible apply PF.inB | with_reducible apply PF.next)) h91 rfl rfl rfl (by kernel_rfl) (by kernel_rfl) (by kernel_rfl) rfl (rd_m h91 (k := 4) (v := .map (some Z.wb)) rfl rfl rfl rfl (md_p ⟨rfl, trivial⟩)) ?_
  have h92 := h91.put (d := some 259) (v := .map (some Z.wb)) (T' := [(259, .map (some Z.wb)), (18, .pointer (some ⟨b71, 0, none⟩)), (6, .pointer (some ⟨b14, 0, none⟩)), (3, .pointer (some ⟨b2, 0, none⟩)), (0, .pointer (some ⟨mb, 0, none⟩)), (1, .agg #[.int .u8 9, .int .u32 ev.pick, .int .u64 ev.draw, .int .u32 ev.addr, .int .u32 ev.node, .int .u32 ev.dst, .int .u32 ev.xfer, .int .u8 ev.ty, .int .u64 ev.arg, .int .u64 ev.badge, .slice xo ev.ws.length cx]), (4, .int .u8 0), (5, .bool false), (7, .pointer (some ⟨(Z.tp x), 0, none⟩)), (53, .int .u8 9), (66, .bool false), (19, .int .u8 0), (258, .pointer (some ⟨mb, 4, none⟩))]) rfl
  clear h91
  refine dr_batch tabOk2 tabZ_ok2 (by repeat (first | with_reducible exact PF.body | with_reducible apply PF.inB | with_reducible apply PF.next)) [(4, {}), (5, {k := 3, p := 3})] [259, 18, 6, 3, 0, 1, 4, 5, 7, 53, 66, 19, 261] (T' := [(259, .map (some Z.wb)), (18, .pointer (some ⟨b71, 0, none⟩)), (6, .pointer (some ⟨b14, 0, none⟩)), (3, .pointer (some ⟨b2, 0, none⟩)), (0, .pointer (some ⟨mb, 0, none⟩)), (1, .agg #[.int .u8 9, .int .u32 ev.pick, .int .u64 ev.draw, .int .u32 ev.addr, .int .u32 ev.node, .int .u32 ev.dst, .int .u32 ev.xfer, .int .u8 ev.ty, .int .u64 ev.arg, .int .u64 ev.badge, .slice xo ev.ws.length cx]), (4, .int .u8 0), (5, .bool false), (7, .pointer (some ⟨(Z.tp x), 0, none⟩)), (53, .int .u8 9), (66, .bool false), (19, .int .u8 0), (261, .agg #[.int .u16 ((Z.ky i).idx), .int .u32 ((Z.ky i).gen)])]) (φ := (b71 = b71 ∧ Nat.ble (1 + 2) 5 = true) ∧ True) (fuel := 2) h92 (by kernel_rfl) rfl (by kernel_rfl) (by kernel_rfl) ⟨trivial, rfl, trivial⟩ ⟨⟨rfl, rfl⟩, trivial⟩ fun a93 h94 => ?_
  clear h92
  refine dr_read (i := 6) (b := Z.wb) (p := 5) (v := .int .u64 (a.word i)) (fuel := 1) (by repeat (first | with_reducible exact PF.body | with_reducible apply PF.inB | with_reducible apply PF.next)) h94 rfl rfl rfl (by kernel_rfl) (by kernel_rfl) (by kernel_rfl) rfl (rd_W h94 (x := i) hi rfl rfl rfl) ?_
  have h95 := h94.put (d := some 262) (v := .int .u64 (a.word i)) (T' := [(262, .int .u64 (a.word i)), (259, .map (some Z.wb)), (18, .pointer (some ⟨b71, 0, none⟩)), (6, .pointer (some ⟨b14, 0, none⟩)), (3, .pointer (some ⟨b2, 0, none⟩)), (0, .pointer (some ⟨mb, 0, none⟩)), (1, .agg #[.int .u8 9, .int .u32 ev.pick, .int .u64 ev.draw, .int .u32 ev.addr, .int .u32 ev.node, .int .u32 ev.dst, .int .u32 ev.xfer, .int .u8 ev.ty, .int .u64 ev.arg, .int .u64 ev.badge, .slice xo ev.ws.length cx]), (4, .int .u8 0), (5, .bool false), (7, .pointer (some ⟨(Z.tp x), 0, none⟩)), (53, .int .u8 9), (66, .bool false), (19, .int .u8 0), (261, .agg #[.int .u16 ((Z.ky i).idx), .int .u32 ((Z.ky i).gen)])]) rfl
  clear h94
  refine dr_batch tabOk2 tabZ_ok2 (by repeat (first | with_reducible exact PF.body | with_reducible apply PF.inB | with_reducible apply PF.next)) [(7, {})] [18, 6, 3, 0, 1, 4, 5, 7, 53, 66, 19, 263] (T' := [(18, .pointer (some ⟨b71, 0, none⟩)), (6, .pointer (some ⟨b14, 0, none⟩)), (3, .pointer (some ⟨b2, 0, none⟩)), (0, .pointer (some ⟨mb, 0, none⟩)), (1, .agg #[.int .u8 9, .int .u32 ev.pick, .int .u64 ev.draw, .int .u32 ev.addr, .int .u32 ev.node, .int .u32 ev.dst, .int .u32 ev.xfer, .int .u8 ev.ty, .int .u64 ev.arg, .int .u64 ev.badge, .slice xo ev.ws.length cx]), (4, .int .u8 0), (5, .bool false), (7, .pointer (some ⟨(Z.tp x), 0, none⟩)), (53, .int .u8 9), (66, .bool false), (19, .int .u8 0), (263, .bool ((a.word i) == 0))]) (φ := True) (fuel := 0) h95 (by kernel_rfl) rfl (by kernel_rfl) (by kernel_rfl) ⟨trivial, trivial⟩ trivial fun a96 h97 => ?_
  clear h95
  refine wpAnyK_done (by kernel_rfl) ?_ _
  refine hK86 _ _ ?_
  clear hK86
  refine c_split h97 (b := ((a.word i) == 0)) rfl (fun hc98 => ?_) (fun hc98 => ?_)
  ·
    have hc98f : (a.word i) = 0 := by simpa using hc98
    refine wp_seq_k fun K99 hK99 => ?_
    refine nd_start (l := [0, 1, 2, 3, 4]) rfl ?_
    refine nd_batch tabOk2 tabZ_ok2 [(0, {}), (1, {k := 2}), (2, {}), (3, {k := 3})] [18, 6, 3, 0, 1, 4, 5, 7, 53, 66, 19, 264, 265, 267] (T' := [(18, .pointer (some ⟨b71, 0, none⟩)), (6, .pointer (some ⟨b14, 0, none⟩)), (3, .pointer (some ⟨b2, 0, none⟩)), (0, .pointer (some ⟨mb, 0, none⟩)), (1, .agg #[.int .u8 9, .int .u32 ev.pick, .int .u64 ev.draw, .int .u32 ev.addr, .int .u32 ev.node, .int .u32 ev.dst, .int .u32 ev.xfer, .int .u8 ev.ty, .int .u64 ev.arg, .int .u64 ev.badge, .slice xo ev.ws.length cx]), (4, .int .u8 0), (5, .bool false), (7, .pointer (some ⟨(Z.tp x), 0, none⟩)), (53, .int .u8 9), (66, .bool false), (19, .int .u8 0), (264, .pointer (some ⟨mb, 0, none⟩)), (265, .agg #[.int .u16 ((Z.ky x).idx), .int .u32 ((Z.ky x).gen)]), (267, .agg #[.int .u16 ((Z.ky i).idx), .int .u32 ((Z.ky i).gen)])]) (φ := (b14 = b14 ∧ Nat.ble (0 + 2) 2 = true) ∧ (b71 = b71 ∧ Nat.ble (1 + 2) 5 = true) ∧ True) (rest := [4]) h97 (by kernel_rfl) rfl ⟨⟨rfl, rfl⟩, ⟨rfl, rfl⟩, trivial⟩ fun a100 h101 => ?_
    clear h97
    refine nd_op ?_
    refine op_call h101 rfl rfl rfl (callOk Tryd.func92 (by decide) rfl) (args := [.pointer (some ⟨mb, 0, none⟩), .agg #[.int .u16 ((Z.ky x).idx), .int .u32 ((Z.ky x).gen)], .int .u8 5, .agg #[.int .u16 ((Z.ky i).idx), .int .u32 ((Z.ky i).gen)]]) rfl (queueUp_ok mb Z _ a _ x hx 5 (by decide) i hi hP _ (mh_of h101 hhoh68 (k := 0) rfl)) ?_
    rintro _ w102 ⟨rfl, R103, hg104⟩
    refine ⟨_, rfl, ?_⟩
    have h105a := st_mg h101 hg104 (kcons (fun _ => rfl) (kcons (fun hq => by cases hq) (kcons (fun hq => by cases hq) (kcons (fun hq => by cases hq) knil))))
    have h105 := h105a.put (d := some 268) (v := .tuple #[]) (T' := [(268, .tuple #[]), (18, .pointer (some ⟨b71, 0, none⟩)), (6, .pointer (some ⟨b14, 0, none⟩)), (3, .pointer (some ⟨b2, 0, none⟩)), (0, .pointer (some ⟨mb, 0, none⟩)), (1, .agg #[.int .u8 9, .int .u32 ev.pick, .int .u64 ev.draw, .int .u32 ev.addr, .int .u32 ev.node, .int .u32 ev.dst, .int .u32 ev.xfer, .int .u8 ev.ty, .int .u64 ev.arg, .int .u64 ev.badge, .slice xo ev.ws.length cx]), (4, .int .u8 0), (5, .bool false), (7, .pointer (some ⟨(Z.tp x), 0, none⟩)), (53, .int .u8 9), (66, .bool false), (19, .int .u8 0), (264, .pointer (some ⟨mb, 0, none⟩)), (265, .agg #[.int .u16 ((Z.ky x).idx), .int .u32 ((Z.ky x).gen)]), (267, .agg #[.int .u16 ((Z.ky i).idx), .int .u32 ((Z.ky i).gen)])]) rfl
    have hhoh105 := hg104.mh.ho
    obtain ⟨a106, ea106⟩ : ∃ z : AK, z = blockA a x 5 (Z.ky i) := ⟨_, rfl⟩
    rw [← ea106] at h105
    clear h101 h105a
    have ht107 : a106.th x = { a.th x with st := 5, wait := ⟨(Z.ky i).idx, (Z.ky i).gen⟩ } := by rw [ea106, block_th]
    refine nd_done ?_
    refine hK99 _ _ ?_
    clear hK99
    refine wp_seq_k fun K108 hK108 => ?_
    refine nd_start (l := [0, 1]) rfl ?_
    refine nd_batch tabOk2 tabZ_ok2 [(0, {}), (1, {})] [18, 6, 3, 0, 1, 7, 53, 66, 19, 4, 5] (T' := [(18, .pointer (some ⟨b71, 0, none⟩)), (6, .pointer (some ⟨b14, 0, none⟩)), (3, .pointer (some ⟨b2, 0, none⟩)), (0, .pointer (some ⟨mb, 0, none⟩)), (1, .agg #[.int .u8 9, .int .u32 ev.pick, .int .u64 ev.draw, .int .u32 ev.addr, .int .u32 ev.node, .int .u32 ev.dst, .int .u32 ev.xfer, .int .u8 ev.ty, .int .u64 ev.arg, .int .u64 ev.badge, .slice xo ev.ws.length cx]), (7, .pointer (some ⟨(Z.tp x), 0, none⟩)), (53, .int .u8 9), (66, .bool false), (19, .int .u8 0), (4, .int .u8 0), (5, .bool false)]) (φ := True) (rest := []) h105 (by kernel_rfl) rfl trivial fun a109 h110 => ?_
    clear h105
    refine nd_done ?_
    refine hK108 _ _ ?_
    clear hK108
    refine wp_ret ?_
    try simp only [Exit.then, Exit.inBlock]
    try rw [if_pos trivial]
    exact s_ret tabOk2 tabZ_ok2 h110 [(.tmp 4, {}), (.tmp 5, {})] (vs := [.int .u8 0, .bool false]) (φ := True) rfl (by kernel_rfl) trivial ⟨rfl, _, mg_end hH h110 hhoh105 (by subst ea106; simp only [setT_setT])⟩
  ·
    have hc98f : (a.word i) ≠ 0 := by simpa using hc98
    exact absurd hw0 hc98f

theorem call9g (mb : Nat) (Z : MZ) (R : MR) (a : AK) (C : CP) (hI : MI Z a C) (x : Nat) (hx : x ∈ sl Z.tl) (hcu : a.cur = (x : Int)) (ev : Ev) (he : EvOk ev) (xo : Option Addr) (cx : Nat) (i : Nat) (hi : i ∈ sl Z.ql) (ct rt bd cs0 : Int) (hf : findA a C ev.addr 5 1 = (⟨ct, Z.ky i, rt, bd⟩, cs0, 0)) (hw0 : ¬ a.word i = 0) (w : World) (hH : MH mb Z R a C w) (hws : WordsAt (mdF mb Z R C) w xo ev.ws) :
    Calls Tryd.prog 55 #[.pointer (some ⟨mb, 0, none⟩), .agg #[.int .u8 9, .int .u32 ev.pick, .int .u64 ev.draw, .int .u32 ev.addr, .int .u32 ev.node, .int .u32 ev.dst, .int .u32 ev.xfer, .int .u8 ev.ty, .int .u64 ev.arg, .int .u64 ev.badge, .slice xo ev.ws.length cx]] w fun e w' => e = .returned (.tuple #[.int .u8 0, .bool true]) ∧ ∃ R', MG mb Z R C w Z R' ((a.setT x { a.th x with badge := a.word i }).setW i 0) C w' := by
  have hP := hI.mp
  have hcx : curR Z a = Z.ky x := curR_of hcu
  have hcn : a.cur.toNat = x := by rw [hcu]; exact Int.toNat_natCast x
  have hci := (hI.tk x hx).ci
  obtain ⟨ty3, hg3⟩ := hH.g3
  have hho := hH.ho
  have hkk := hH.md.k
  refine enter (n := 628) (K := mdF mb Z R C) (A := MD (mdF mb Z R C) w.heap.size mb Z R a C) (F := mdF mb Z R C) (T := [(0, .pointer (some ⟨mb, 0, none⟩)), (1, .agg #[.int .u8 9, .int .u32 ev.pick, .int .u64 ev.draw, .int .u32 ev.addr, .int .u32 ev.node, .int .u32 ev.dst, .int .u32 ev.xfer, .int .u8 ev.ty, .int .u64 ev.arg, .int .u64 ev.badge, .slice xo ev.ws.length cx])]) (L := [(3, ⟨[.int .u16 0, .int .u32 0], ty3, true⟩)]) (args := [.pointer (some ⟨mb, 0, none⟩), .agg #[.int .u8 9, .int .u32 ev.pick, .int .u64 ev.draw, .int .u32 ev.addr, .int .u32 ev.node, .int .u32 ev.dst, .int .u32 ev.xfer, .int .u8 ev.ty, .int .u64 ev.arg, .int .u64 ev.badge, .slice xo ev.ws.length cx]]) Tryd.func55 rfl rfl rfl rfl (kcons hg3 knil) (by simp) (kcons (by intro hq; cases hq) knil) hH.mD MD.stable hH.md.low (kcons (by intro hq; cases hq) knil) ?_
  intro ac h
  refine wp_seq_k fun K1 hK1 => ?_
  refine nd_start (l := [0, 1, 2]) rfl ?_
  refine nd_op ?_
  refine op_new tabOk2 (cells := [.int .u8 9, .int .u32 ev.pick, .int .u64 ev.draw, .int .u32 ev.addr, .int .u32 ev.node, .int .u32 ev.dst, .int .u32 ev.xfer, .int .u8 ev.ty, .int .u64 ev.arg, .int .u64 ev.badge, .slice xo ev.ws.length cx]) (ty := 35) (ln := none) (L1 := fun b2 => [(3, ⟨[.int .u16 0, .int .u32 0], ty3, true⟩), (b2, ⟨[.int .u8 9, .int .u32 ev.pick, .int .u64 ev.draw, .int .u32 ev.addr, .int .u32 ev.node, .int .u32 ev.dst, .int .u32 ev.xfer, .int .u8 ev.ty, .int .u64 ev.arg, .int .u64 ev.badge, .slice xo ev.ws.length cx], 35, false⟩)]) h rfl rfl rfl rfl (by kernel_rfl) (fun _ => rfl) fun b2 w3 a4 h5 hf6 hn7 => ?_
  clear h
  refine nd_batch tabOk2 tabZ_ok2 [(1, {}), (2, {})] [3, 0, 1, 4, 5] (T' := [(3, .pointer (some ⟨b2, 0, none⟩)), (0, .pointer (some ⟨mb, 0, none⟩)), (1, .agg #[.int .u8 9, .int .u32 ev.pick, .int .u64 ev.draw, .int .u32 ev.addr, .int .u32 ev.node, .int .u32 ev.dst, .int .u32 ev.xfer, .int .u8 ev.ty, .int .u64 ev.arg, .int .u64 ev.badge, .slice xo ev.ws.length cx]), (4, .int .u8 0), (5, .bool false)]) (φ := True) (rest := []) h5 (by kernel_rfl) rfl trivial fun a8 h9 => ?_
  clear h5
  refine nd_done ?_
  refine hK1 _ _ ?_
  clear hK1
  refine wp_seq_k fun K10 hK10 => ?_
  refine nd_start (l := [0, 1, 2, 3, 4, 5]) rfl ?_
  refine nd_batch tabOk2 tabZ_ok2 [(0, {}), (1, {}), (2, {})] [3, 0, 1, 4, 5, 44] (T' := [(3, .pointer (some ⟨b2, 0, none⟩)), (0, .pointer (some ⟨mb, 0, none⟩)), (1, .agg #[.int .u8 9, .int .u32 ev.pick, .int .u64 ev.draw, .int .u32 ev.addr, .int .u32 ev.node, .int .u32 ev.dst, .int .u32 ev.xfer, .int .u8 ev.ty, .int .u64 ev.arg, .int .u64 ev.badge, .slice xo ev.ws.length cx]), (4, .int .u8 0), (5, .bool false), (44, .pointer (some ⟨mb, 13, none⟩))]) (φ := True) (rest := [3, 4, 5]) h9 (by kernel_rfl) rfl trivial fun a11 h12 => ?_
  clear h9
  refine nd_op ?_
  refine op_read (b := mb) (v := .agg #[.int .u16 ((Z.ky x).idx), .int .u32 ((Z.ky x).gen)]) h12 rfl rfl (rd_mA h12 (k := 13) (vs := [.int .u16 ((Z.ky x).idx), .int .u32 ((Z.ky x).gen)]) rfl rfl rfl rfl rfl (by rw [← hcx]; exact md_cur)) ?_
  have h13 := h12.put (d := some 45) (v := .agg #[.int .u16 ((Z.ky x).idx), .int .u32 ((Z.ky x).gen)]) (T' := [(45, .agg #[.int .u16 ((Z.ky x).idx), .int .u32 ((Z.ky x).gen)]), (3, .pointer (some ⟨b2, 0, none⟩)), (0, .pointer (some ⟨mb, 0, none⟩)), (1, .agg #[.int .u8 9, .int .u32 ev.pick, .int .u64 ev.draw, .int .u32 ev.addr, .int .u32 ev.node, .int .u32 ev.dst, .int .u32 ev.xfer, .int .u8 ev.ty, .int .u64 ev.arg, .int .u64 ev.badge, .slice xo ev.ws.length cx]), (4, .int .u8 0), (5, .bool false), (44, .pointer (some ⟨mb, 13, none⟩))]) rfl
  clear h12
  refine nd_op ?_
  refine op_new tabOk2 (cells := [.int .u16 0, .int .u32 0]) (ty := 39) (ln := none) (L1 := fun b14 => [(3, ⟨[.int .u16 0, .int .u32 0], ty3, true⟩), (b2, ⟨[.int .u8 9, .int .u32 ev.pick, .int .u64 ev.draw, .int .u32 ev.addr, .int .u32 ev.node, .int .u32 ev.dst, .int .u32 ev.xfer, .int .u8 ev.ty, .int .u64 ev.arg, .int .u64 ev.badge, .slice xo ev.ws.length cx], 35, false⟩), (b14, ⟨[.int .u16 0, .int .u32 0], 39, false⟩)]) h13 rfl rfl rfl rfl (by kernel_rfl) (fun _ => rfl) fun b14 w15 a16 h17 hf18 hn19 => ?_
  clear h13
  refine nd_op ?_
  refine op_store tabOk2 {k := 2} (L' := [(3, ⟨[.int .u16 0, .int .u32 0], ty3, true⟩), (b2, ⟨[.int .u8 9, .int .u32 ev.pick, .int .u64 ev.draw, .int .u32 ev.addr, .int .u32 ev.node, .int .u32 ev.dst, .int .u32 ev.xfer, .int .u8 ev.ty, .int .u64 ev.arg, .int .u64 ev.badge, .slice xo ev.ws.length cx], 35, false⟩), (b14, ⟨[.int .u16 ((Z.ky x).idx), .int .u32 ((Z.ky x).gen)], 39, false⟩)]) (φ := b14 = b14 ∧ Nat.ble (0 + 2) 2 = true) h17 rfl rfl rfl (by kernel_rfl) ⟨rfl, rfl⟩ fun w20 h21 => ?_
  clear h17
  refine nd_done ?_
  refine hK10 _ _ ?_
  clear hK10
  refine wp_seq_k fun K22 hK22 => ?_
  refine dr_start (KB := [3, b2, b14, mb, Z.tb]) (Bi := [[0, 1, 2, 3, 4], [0, 1, 2, 3, 4], [0, 1, 2, 3, 4], [0, 1, 2, 3, 4], [0, 1, 2, 3, 4], [0, 1, 2, 3, 4], [0, 1, 2, 3, 4]]) mixed h21 fun w23 h24 => ?_
  clear h21
  refine dr_batch tabOk2 tabZ_ok2 (by repeat (first | with_reducible exact PF.body | with_reducible apply PF.inB | with_reducible apply PF.next)) [(0, {}), (1, {}), (2, {})] [6, 3, 0, 1, 4, 5, 48] (T' := [(6, .pointer (some ⟨b14, 0, none⟩)), (3, .pointer (some ⟨b2, 0, none⟩)), (0, .pointer (some ⟨mb, 0, none⟩)), (1, .agg #[.int .u8 9, .int .u32 ev.pick, .int .u64 ev.draw, .int .u32 ev.addr, .int .u32 ev.node, .int .u32 ev.dst, .int .u32 ev.xfer, .int .u8 ev.ty, .int .u64 ev.arg, .int .u64 ev.badge, .slice xo ev.ws.length cx]), (4, .int .u8 0), (5, .bool false), (48, .pointer (some ⟨mb, 2, none⟩))]) (φ := True) (fuel := 4) h24 (by kernel_rfl) rfl (by kernel_rfl) (by kernel_rfl) ⟨trivial, trivial, trivial, trivial⟩ trivial fun a26 h27 => ?_
  clear h24
  refine dr_read (i := 3) (b := mb) (p := 3) (v := .map (some Z.tb)) (fuel := 3) (by repeat (first | with_reducible exact PF.body | with_reducible apply PF.inB | with_reducible apply PF.next)) h27 rfl rfl rfl (by kernel_rfl) (by kernel_rfl) (by kernel_rfl) rfl (rd_m h27 (k := 2) (v := .map (some Z.tb)) rfl rfl rfl rfl (md_p ⟨rfl, trivial⟩)) ?_
  have h28 := h27.put (d := some 49) (v := .map (some Z.tb)) (T' := [(49, .map (some Z.tb)), (6, .pointer (some ⟨b14, 0, none⟩)), (3, .pointer (some ⟨b2, 0, none⟩)), (0, .pointer (some ⟨mb, 0, none⟩)), (1, .agg #[.int .u8 9, .int .u32 ev.pick, .int .u64 ev.draw, .int .u32 ev.addr, .int .u32 ev.node, .int .u32 ev.dst, .int .u32 ev.xfer, .int .u8 ev.ty, .int .u64 ev.arg, .int .u64 ev.badge, .slice xo ev.ws.length cx]), (4, .int .u8 0), (5, .bool false), (48, .pointer (some ⟨mb, 2, none⟩))]) rfl
  clear h27
  refine dr_batch tabOk2 tabZ_ok2 (by repeat (first | with_reducible exact PF.body | with_reducible apply PF.inB | with_reducible apply PF.next)) [(4, {k := 2, p := 2})] [49, 6, 3, 0, 1, 4, 5, 50] (T' := [(49, .map (some Z.tb)), (6, .pointer (some ⟨b14, 0, none⟩)), (3, .pointer (some ⟨b2, 0, none⟩)), (0, .pointer (some ⟨mb, 0, none⟩)), (1, .agg #[.int .u8 9, .int .u32 ev.pick, .int .u64 ev.draw, .int .u32 ev.addr, .int .u32 ev.node, .int .u32 ev.dst, .int .u32 ev.xfer, .int .u8 ev.ty, .int .u64 ev.arg, .int .u64 ev.badge, .slice xo ev.ws.length cx]), (4, .int .u8 0), (5, .bool false), (50, .agg #[.int .u16 ((Z.ky x).idx), .int .u32 ((Z.ky x).gen)])]) (φ := (b14 = b14 ∧ Nat.ble (0 + 2) 2 = true) ∧ True) (fuel := 2) h28 (by kernel_rfl) rfl (by kernel_rfl) (by kernel_rfl) ⟨rfl, trivial⟩ ⟨⟨rfl, rfl⟩, trivial⟩ fun a29 h30 => ?_
  clear h28
  refine dr_read (i := 5) (b := Z.tb) (p := 4) (v := .pointer (some ⟨(Z.tp x), 0, none⟩)) (fuel := 1) (by repeat (first | with_reducible exact PF.body | with_reducible apply PF.inB | with_reducible apply PF.next)) h30 rfl rfl rfl (by kernel_rfl) (by kernel_rfl) (by kernel_rfl) rfl (rd_T h30 (x := x) hx rfl rfl rfl) ?_
  have h31 := h30.put (d := some 51) (v := .pointer (some ⟨(Z.tp x), 0, none⟩)) (T' := [(51, .pointer (some ⟨(Z.tp x), 0, none⟩)), (49, .map (some Z.tb)), (6, .pointer (some ⟨b14, 0, none⟩)), (3, .pointer (some ⟨b2, 0, none⟩)), (0, .pointer (some ⟨mb, 0, none⟩)), (1, .agg #[.int .u8 9, .int .u32 ev.pick, .int .u64 ev.draw, .int .u32 ev.addr, .int .u32 ev.node, .int .u32 ev.dst, .int .u32 ev.xfer, .int .u8 ev.ty, .int .u64 ev.arg, .int .u64 ev.badge, .slice xo ev.ws.length cx]), (4, .int .u8 0), (5, .bool false), (50, .agg #[.int .u16 ((Z.ky x).idx), .int .u32 ((Z.ky x).gen)])]) rfl
  clear h30
  refine dr_batch tabOk2 tabZ_ok2 (by repeat (first | with_reducible exact PF.body | with_reducible apply PF.inB | with_reducible apply PF.next)) [(6, {})] [6, 3, 0, 1, 4, 5, 7] (T' := [(6, .pointer (some ⟨b14, 0, none⟩)), (3, .pointer (some ⟨b2, 0, none⟩)), (0, .pointer (some ⟨mb, 0, none⟩)), (1, .agg #[.int .u8 9, .int .u32 ev.pick, .int .u64 ev.draw, .int .u32 ev.addr, .int .u32 ev.node, .int .u32 ev.dst, .int .u32 ev.xfer, .int .u8 ev.ty, .int .u64 ev.arg, .int .u64 ev.badge, .slice xo ev.ws.length cx]), (4, .int .u8 0), (5, .bool false), (7, .pointer (some ⟨(Z.tp x), 0, none⟩))]) (φ := True) (fuel := 0) h31 (by kernel_rfl) rfl (by kernel_rfl) (by kernel_rfl) ⟨trivial, trivial⟩ trivial fun a32 h33 => ?_
  clear h31
  refine wpAnyK_done (by kernel_rfl) ?_ _
  refine hK22 _ _ ?_
  clear hK22
  refine wp_seq_k fun K34 hK34 => ?_
  refine wp_seq_k fun K35 hK35 => ?_
  refine nd_start (l := [0, 1]) rfl ?_
  refine nd_batch tabOk2 tabZ_ok2 [(0, {}), (1, {k := 1})] [6, 3, 0, 1, 4, 5, 7, 53] (T' := [(6, .pointer (some ⟨b14, 0, none⟩)), (3, .pointer (some ⟨b2, 0, none⟩)), (0, .pointer (some ⟨mb, 0, none⟩)), (1, .agg #[.int .u8 9, .int .u32 ev.pick, .int .u64 ev.draw, .int .u32 ev.addr, .int .u32 ev.node, .int .u32 ev.dst, .int .u32 ev.xfer, .int .u8 ev.ty, .int .u64 ev.arg, .int .u64 ev.badge, .slice xo ev.ws.length cx]), (4, .int .u8 0), (5, .bool false), (7, .pointer (some ⟨(Z.tp x), 0, none⟩)), (53, .int .u8 9)]) (φ := (b2 = b2 ∧ Nat.ble (0 + 1) 11 = true) ∧ True) (rest := []) h33 (by kernel_rfl) rfl ⟨⟨rfl, rfl⟩, trivial⟩ fun a36 h37 => ?_
  clear h33
  refine nd_done ?_
  refine hK35 _ _ ?_
  clear hK35
  refine wp_block ?_
  refine wp_seq_k fun K38 hK38 => ?_
  refine nd_start (l := [0, 1]) rfl ?_
  refine nd_batch tabOk2 tabZ_ok2 [(0, {}), (1, {})] [6, 3, 0, 1, 4, 5, 7, 53, 54] (T' := [(6, .pointer (some ⟨b14, 0, none⟩)), (3, .pointer (some ⟨b2, 0, none⟩)), (0, .pointer (some ⟨mb, 0, none⟩)), (1, .agg #[.int .u8 9, .int .u32 ev.pick, .int .u64 ev.draw, .int .u32 ev.addr, .int .u32 ev.node, .int .u32 ev.dst, .int .u32 ev.xfer, .int .u8 ev.ty, .int .u64 ev.arg, .int .u64 ev.badge, .slice xo ev.ws.length cx]), (4, .int .u8 0), (5, .bool false), (7, .pointer (some ⟨(Z.tp x), 0, none⟩)), (53, .int .u8 9), (54, .bool false)]) (φ := True) (rest := []) h37 (by kernel_rfl) rfl trivial fun a39 h40 => ?_
  clear h37
  refine nd_done ?_
  refine hK38 _ _ ?_
  clear hK38
  refine c_false h40 rfl ?_
  refine wp_seq_k fun K41 hK41 => ?_
  refine nd_start (l := [0, 1]) rfl ?_
  refine nd_batch tabOk2 tabZ_ok2 [(0, {}), (1, {})] [6, 3, 0, 1, 4, 5, 7, 53, 59] (T' := [(6, .pointer (some ⟨b14, 0, none⟩)), (3, .pointer (some ⟨b2, 0, none⟩)), (0, .pointer (some ⟨mb, 0, none⟩)), (1, .agg #[.int .u8 9, .int .u32 ev.pick, .int .u64 ev.draw, .int .u32 ev.addr, .int .u32 ev.node, .int .u32 ev.dst, .int .u32 ev.xfer, .int .u8 ev.ty, .int .u64 ev.arg, .int .u64 ev.badge, .slice xo ev.ws.length cx]), (4, .int .u8 0), (5, .bool false), (7, .pointer (some ⟨(Z.tp x), 0, none⟩)), (53, .int .u8 9), (59, .bool false)]) (φ := True) (rest := []) h40 (by kernel_rfl) rfl trivial fun a42 h43 => ?_
  clear h40
  refine nd_done ?_
  refine hK41 _ _ ?_
  clear hK41
  refine c_false h43 rfl ?_
  refine wp_seq_k fun K44 hK44 => ?_
  refine wp_seq_k fun K45 hK45 => ?_
  refine nd_start (l := [0, 1]) rfl ?_
  refine nd_batch tabOk2 tabZ_ok2 [(0, {}), (1, {})] [6, 3, 0, 1, 4, 5, 7, 53, 66] (T' := [(6, .pointer (some ⟨b14, 0, none⟩)), (3, .pointer (some ⟨b2, 0, none⟩)), (0, .pointer (some ⟨mb, 0, none⟩)), (1, .agg #[.int .u8 9, .int .u32 ev.pick, .int .u64 ev.draw, .int .u32 ev.addr, .int .u32 ev.node, .int .u32 ev.dst, .int .u32 ev.xfer, .int .u8 ev.ty, .int .u64 ev.arg, .int .u64 ev.badge, .slice xo ev.ws.length cx]), (4, .int .u8 0), (5, .bool false), (7, .pointer (some ⟨(Z.tp x), 0, none⟩)), (53, .int .u8 9), (66, .bool false)]) (φ := True) (rest := []) h43 (by kernel_rfl) rfl trivial fun a46 h47 => ?_
  clear h43
  refine nd_done ?_
  refine hK45 _ _ ?_
  clear hK45
  refine c_false h47 rfl ?_
  refine nd_start (l := [0, 1]) rfl ?_
  refine nd_batch tabOk2 tabZ_ok2 [(0, {}), (1, {})] [6, 3, 0, 1, 4, 5, 7, 53, 66] (T' := [(6, .pointer (some ⟨b14, 0, none⟩)), (3, .pointer (some ⟨b2, 0, none⟩)), (0, .pointer (some ⟨mb, 0, none⟩)), (1, .agg #[.int .u8 9, .int .u32 ev.pick, .int .u64 ev.draw, .int .u32 ev.addr, .int .u32 ev.node, .int .u32 ev.dst, .int .u32 ev.xfer, .int .u8 ev.ty, .int .u64 ev.arg, .int .u64 ev.badge, .slice xo ev.ws.length cx]), (4, .int .u8 0), (5, .bool false), (7, .pointer (some ⟨(Z.tp x), 0, none⟩)), (53, .int .u8 9), (66, .bool false)]) (φ := True) (rest := []) h47 (by kernel_rfl) rfl trivial fun a48 h49 => ?_
  clear h47
  refine nd_done ?_
  refine hK44 _ _ ?_
  clear hK44
  refine c_false h49 rfl ?_
  refine wp_seq_k fun K50 hK50 => ?_
  refine nd_start (l := [0, 1]) rfl ?_
  refine nd_batch tabOk2 tabZ_ok2 [(0, {}), (1, {})] [6, 3, 0, 1, 4, 5, 7, 53, 66, 129] (T' := [(6, .pointer (some ⟨b14, 0, none⟩)), (3, .pointer (some ⟨b2, 0, none⟩)), (0, .pointer (some ⟨mb, 0, none⟩)), (1, .agg #[.int .u8 9, .int .u32 ev.pick, .int .u64 ev.draw, .int .u32 ev.addr, .int .u32 ev.node, .int .u32 ev.dst, .int .u32 ev.xfer, .int .u8 ev.ty, .int .u64 ev.arg, .int .u64 ev.badge, .slice xo ev.ws.length cx]), (4, .int .u8 0), (5, .bool false), (7, .pointer (some ⟨(Z.tp x), 0, none⟩)), (53, .int .u8 9), (66, .bool false), (129, .bool false)]) (φ := True) (rest := []) h49 (by kernel_rfl) rfl trivial fun a51 h52 => ?_
  clear h49
  refine nd_done ?_
  refine hK50 _ _ ?_
  clear hK50
  refine c_false h52 rfl ?_
  refine wp_seq_k fun K53 hK53 => ?_
  refine nd_start (l := [0, 1]) rfl ?_
  refine nd_batch tabOk2 tabZ_ok2 [(0, {}), (1, {})] [6, 3, 0, 1, 4, 5, 7, 53, 66, 165] (T' := [(6, .pointer (some ⟨b14, 0, none⟩)), (3, .pointer (some ⟨b2, 0, none⟩)), (0, .pointer (some ⟨mb, 0, none⟩)), (1, .agg #[.int .u8 9, .int .u32 ev.pick, .int .u64 ev.draw, .int .u32 ev.addr, .int .u32 ev.node, .int .u32 ev.dst, .int .u32 ev.xfer, .int .u8 ev.ty, .int .u64 ev.arg, .int .u64 ev.badge, .slice xo ev.ws.length cx]), (4, .int .u8 0), (5, .bool false), (7, .pointer (some ⟨(Z.tp x), 0, none⟩)), (53, .int .u8 9), (66, .bool false), (165, .bool false)]) (φ := True) (rest := []) h52 (by kernel_rfl) rfl trivial fun a54 h55 => ?_
  clear h52
  refine nd_done ?_
  refine hK53 _ _ ?_
  clear hK53
  refine c_false h55 rfl ?_
  refine wp_seq_k fun K56 hK56 => ?_
  refine nd_start (l := [0, 1]) rfl ?_
  refine nd_batch tabOk2 tabZ_ok2 [(0, {}), (1, {})] [6, 3, 0, 1, 4, 5, 7, 53, 66, 226] (T' := [(6, .pointer (some ⟨b14, 0, none⟩)), (3, .pointer (some ⟨b2, 0, none⟩)), (0, .pointer (some ⟨mb, 0, none⟩)), (1, .agg #[.int .u8 9, .int .u32 ev.pick, .int .u64 ev.draw, .int .u32 ev.addr, .int .u32 ev.node, .int .u32 ev.dst, .int .u32 ev.xfer, .int .u8 ev.ty, .int .u64 ev.arg, .int .u64 ev.badge, .slice xo ev.ws.length cx]), (4, .int .u8 0), (5, .bool false), (7, .pointer (some ⟨(Z.tp x), 0, none⟩)), (53, .int .u8 9), (66, .bool false), (226, .bool false)]) (φ := True) (rest := []) h55 (by kernel_rfl) rfl trivial fun a57 h58 => ?_
  clear h55
  refine nd_done ?_
  refine hK56 _ _ ?_
  clear hK56
  refine c_false h58 rfl ?_
  refine wp_seq_k fun K59 hK59 => ?_
  refine nd_start (l := [0, 1]) rfl ?_
  refine nd_batch tabOk2 tabZ_ok2 [(0, {}), (1, {})] [6, 3, 0, 1, 4, 5, 7, 53, 66, 244] (T' := [(6, .pointer (some ⟨b14, 0, none⟩)), (3, .pointer (some ⟨b2, 0, none⟩)), (0, .pointer (some ⟨mb, 0, none⟩)), (1, .agg #[.int .u8 9, .int .u32 ev.pick, .int .u64 ev.draw, .int .u32 ev.addr, .int .u32 ev.node, .int .u32 ev.dst, .int .u32 ev.xfer, .int .u8 ev.ty, .int .u64 ev.arg, .int .u64 ev.badge, .slice xo ev.ws.length cx]), (4, .int .u8 0), (5, .bool false), (7, .pointer (some ⟨(Z.tp x), 0, none⟩)), (53, .int .u8 9), (66, .bool false), (244, .bool true)]) (φ := True) (rest := []) h58 (by kernel_rfl) rfl trivial fun a60 h61 => ?_
  clear h58
  refine nd_done ?_
  refine hK59 _ _ ?_
  clear hK59
  refine c_true h61 rfl ?_
  refine wp_seq_k fun K62 hK62 => ?_
  refine nd_start (l := [0, 1, 2, 3, 4, 5, 6, 7, 8, 9]) rfl ?_
  refine nd_batch tabOk2 tabZ_ok2 [(0, {}), (1, {}), (2, {k := 1})] [6, 3, 0, 1, 4, 5, 7, 53, 66, 247, 249] (T' := [(6, .pointer (some ⟨b14, 0, none⟩)), (3, .pointer (some ⟨b2, 0, none⟩)), (0, .pointer (some ⟨mb, 0, none⟩)), (1, .agg #[.int .u8 9, .int .u32 ev.pick, .int .u64 ev.draw, .int .u32 ev.addr, .int .u32 ev.node, .int .u32 ev.dst, .int .u32 ev.xfer, .int .u8 ev.ty, .int .u64 ev.arg, .int .u64 ev.badge, .slice xo ev.ws.length cx]), (4, .int .u8 0), (5, .bool false), (7, .pointer (some ⟨(Z.tp x), 0, none⟩)), (53, .int .u8 9), (66, .bool false), (247, .pointer (some ⟨mb, 0, none⟩)), (249, .int .u32 ev.addr)]) (φ := (b2 = b2 ∧ Nat.ble (3 + 1) 11 = true) ∧ True) (rest := [3, 4, 5, 6, 7, 8, 9]) h61 (by kernel_rfl) rfl ⟨⟨rfl, rfl⟩, trivial⟩ fun a63 h64 => ?_
  clear h61
  refine nd_op ?_
  refine op_call h64 rfl rfl rfl (callOk Tryd.func90 (by decide) rfl) (args := [.pointer (some ⟨mb, 0, none⟩), .int .u32 ev.addr, .int .u8 5, .int .u8 1]) rfl (capOf_ok mb Z _ a C x hx hcx hci hcn hI.ci ev.addr 5 1 he.addr _ (mh_of h64 hho (k := 0) rfl) hf) ?_
  rintro _ w65 ⟨rfl, hg67⟩
  refine ⟨_, rfl, ?_⟩
  have h68a := st_mg h64 hg67 (kcons (fun _ => rfl) (kcons (fun hq => by cases hq) (kcons (fun hq => by cases hq) knil)))
  have h68 := h68a.put (d := some 250) (v := .tuple #[.agg #[.int .u8 ct, .int .u16 ((Z.ky i).idx), .int .u32 ((Z.ky i).gen), .int .u8 rt, .int .u64 bd], .int .u8 0]) (T' := [(250, .tuple #[.agg #[.int .u8 ct, .int .u16 ((Z.ky i).idx), .int .u32 ((Z.ky i).gen), .int .u8 rt, .int .u64 bd], .int .u8 0]), (6, .pointer (some ⟨b14, 0, none⟩)), (3, .pointer (some ⟨b2, 0, none⟩)), (0, .pointer (some ⟨mb, 0, none⟩)), (1, .agg #[.int .u8 9, .int .u32 ev.pick, .int .u64 ev.draw, .int .u32 ev.addr, .int .u32 ev.node, .int .u32 ev.dst, .int .u32 ev.xfer, .int .u8 ev.ty, .int .u64 ev.arg, .int .u64 ev.badge, .slice xo ev.ws.length cx]), (4, .int .u8 0), (5, .bool false), (7, .pointer (some ⟨(Z.tp x), 0, none⟩)), (53, .int .u8 9), (66, .bool false), (247, .pointer (some ⟨mb, 0, none⟩)), (249, .int .u32 ev.addr)]) rfl
  have hhoh68 := hg67.mh.ho
  clear h64 h68a
  refine nd_batch tabOk2 tabZ_ok2 [(4, {}), (5, {}), (6, {})] [6, 3, 0, 1, 4, 5, 7, 53, 66, 251, 252] (T' := [(6, .pointer (some ⟨b14, 0, none⟩)), (3, .pointer (some ⟨b2, 0, none⟩)), (0, .pointer (some ⟨mb, 0, none⟩)), (1, .agg #[.int .u8 9, .int .u32 ev.pick, .int .u64 ev.draw, .int .u32 ev.addr, .int .u32 ev.node, .int .u32 ev.dst, .int .u32 ev.xfer, .int .u8 ev.ty, .int .u64 ev.arg, .int .u64 ev.badge, .slice xo ev.ws.length cx]), (4, .int .u8 0), (5, .bool false), (7, .pointer (some ⟨(Z.tp x), 0, none⟩)), (53, .int .u8 9), (66, .bool false), (251, .agg #[.int .u8 ct, .int .u16 ((Z.ky i).idx), .int .u32 ((Z.ky i).gen), .int .u8 rt, .int .u64 bd]), (252, .int .u8 0)]) (φ := True) (rest := [7, 8, 9]) h68 (by kernel_rfl) rfl trivial fun a69 h70 => ?_
  clear h68
  refine nd_op ?_
  refine op_new tabOk2 (cells := [.int .u8 0, .int .u16 0, .int .u32 0, .int .u8 0, .int .u64 0]) (ty := 49) (ln := none) (L1 := fun b71 => [(3, ⟨[.int .u16 0, .int .u32 0], ty3, true⟩), (b2, ⟨[.int .u8 9, .int .u32 ev.pick, .int .u64 ev.draw, .int .u32 ev.addr, .int .u32 ev.node, .int .u32 ev.dst, .int .u32 ev.xfer, .int .u8 ev.ty, .int .u64 ev.arg, .int .u64 ev.badge, .slice xo ev.ws.length cx], 35, false⟩), (b14, ⟨[.int .u16 ((Z.ky x).idx), .int .u32 ((Z.ky x).gen)], 39, false⟩), (b71, ⟨[.int .u8 0, .int .u16 0, .int .u32 0, .int .u8 0, .int .u64 0], 49, false⟩)]) h70 rfl rfl rfl rfl (by kernel_rfl) (fun _ => rfl) fun b71 w72 a73 h74 hf75 hn76 => ?_
  clear h70
  refine nd_op ?_
  refine op_store tabOk2 {k := 3} (L' := [(3, ⟨[.int .u16 0, .int .u32 0], ty3, true⟩), (b2, ⟨[.int .u8 9, .int .u32 ev.pick, .int .u64 ev.draw, .int .u32 ev.addr, .int .u32 ev.node, .int .u32 ev.dst, .int .u32 ev.xfer, .int .u8 ev.ty, .int .u64 ev.arg, .int .u64 ev.badge, .slice xo ev.ws.length cx], 35, false⟩), (b14, ⟨[.int .u16 ((Z.ky x).idx), .int .u32 ((Z.ky x).gen)], 39, false⟩), (b71, ⟨[.int .u8 ct, .int .u16 ((Z.ky i).idx), .int .u32 ((Z.ky i).gen), .int .u8 rt, .int .u64 bd], 49, false⟩)]) (φ := b71 = b71 ∧ Nat.ble (0 + 5) 5 = true) h74 rfl rfl rfl (by kernel_rfl) ⟨rfl, rfl⟩ fun w77 h78 => ?_
  clear h74
  refine nd_batch tabOk2 tabZ_ok2 [(9, {})] [18, 6, 3, 0, 1, 4, 5, 7, 53, 66, 19] (T' := [(18, .pointer (some ⟨b71, 0, none⟩)), (6, .pointer (some ⟨b14, 0, none⟩)), (3, .pointer (some ⟨b2, 0, none⟩)), (0, .pointer (some ⟨mb, 0, none⟩)), (1, .agg #[.int .u8 9, .int .u32 ev.pick, .int .u64 ev.draw, .int .u32 ev.addr, .int .u32 ev.node, .int .u32 ev.dst, .int .u32 ev.xfer, .int .u8 ev.ty, .int .u64 ev.arg, .int .u64 ev.badge, .slice xo ev.ws.length cx]), (4, .int .u8 0), (5, .bool false), (7, .pointer (some ⟨(Z.tp x), 0, none⟩)), (53, .int .u8 9), (66, .bool false), (19, .int .u8 0)]) (φ := True) (rest := []) h78 (by kernel_rfl) rfl trivial fun a79 h80 => ?_
  clear h78
  refine nd_done ?_
  refine hK62 _ _ ?_
  clear hK62
  refine wp_seq_k fun K81 hK81 => ?_
  refine wp_seq_k fun K82 hK82 => ?_
  refine nd_start (l := [0, 1]) rfl ?_
  refine nd_batch tabOk2 tabZ_ok2 [(0, {}), (1, {})] [18, 6, 3, 0, 1, 4, 5, 7, 53, 66, 19, 254] (T' := [(18, .pointer (some ⟨b71, 0, none⟩)), (6, .pointer (some ⟨b14, 0, none⟩)), (3, .pointer (some ⟨b2, 0, none⟩)), (0, .pointer (some ⟨mb, 0, none⟩)), (1, .agg #[.int .u8 9, .int .u32 ev.pick, .int .u64 ev.draw, .int .u32 ev.addr, .int .u32 ev.node, .int .u32 ev.dst, .int .u32 ev.xfer, .int .u8 ev.ty, .int .u64 ev.arg, .int .u64 ev.badge, .slice xo ev.ws.length cx]), (4, .int .u8 0), (5, .bool false), (7, .pointer (some ⟨(Z.tp x), 0, none⟩)), (53, .int .u8 9), (66, .bool false), (19, .int .u8 0), (254, .bool false)]) (φ := True) (rest := []) h80 (by kernel_rfl) rfl trivial fun a83 h84 => ?_
  clear h80
  refine nd_done ?_
  refine hK82 _ _ ?_
  clear hK82
  refine c_false h84 rfl ?_
  refine wp_skip ?_
  refine hK81 _ _ ?_
  clear hK81
  refine wp_seq_k fun K85 hK85 => ?_
  refine wp_seq_k fun K86 hK86 => ?_
  refine dr_start (KB := [3, b2, b14, b71, mb, Z.wb]) (Bi := [[0, 1, 2, 3, 4, 5], [0, 1, 2, 3, 4, 5], [0, 1, 2, 3, 4, 5], [0, 1, 2, 3, 4, 5], [0, 1, 2, 3, 4, 5], [0, 1, 2, 3, 4, 5], [0, 1, 2, 3, 4, 5], [0, 1, 2, 3, 4, 5]]) mixed h84 fun w87 h88 => ?_
  clear h84
  refine dr_batch tabOk2 tabZ_ok2 (by repeat (first | with_reducible exact PF.body | with_reducible apply PF.inB | with_reducible apply PF.next)) [(0, {}), (1, {}), (2, {})] [18, 6, 3, 0, 1, 4, 5, 7, 53, 66, 19, 258] (T' := [(18, .pointer (some ⟨b71, 0, none⟩)), (6, .pointer (some ⟨b14, 0, none⟩)), (3, .pointer (some ⟨b2, 0, none⟩)), (0, .pointer (some ⟨mb, 0, none⟩)), (1, .agg #[.int .u8 9, .int .u32 ev.pick, .int .u64 ev.draw, .int .u32 ev.addr, .int .u32 ev.node, .int .u32 ev.dst, .int .u32 ev.xfer, .int .u8 ev.ty, .int .u64 ev.arg, .int .u64 ev.badge, .slice xo ev.ws.length cx]), (4, .int .u8 0), (5, .bool false), (7, .pointer (some ⟨(Z.tp x), 0, none⟩)), (53, .int .u8 9), (66, .bool false), (19, .int .u8 0), (258, .pointer (some ⟨mb, 4, none⟩))]) (φ := True) (fuel := 5) h88 (by kernel_rfl) rfl (by kernel_rfl) (by kernel_rfl) ⟨trivial, trivial, trivial, trivial⟩ trivial fun a90 h91 => ?_
  clear h88
  refine dr_read (i := 3) (b := mb) (p := 4) (v := .map (some Z.wb)) (fuel := 4) (by repeat (first | with_reducible exact PF.body | with_reducible apply PF.inB | with_reducible apply PF.next)) h91 rfl rfl rfl (by kernel_rfl) (by kernel_rfl) (by kernel_rfl) rfl (rd_m h91 (k := 4) (v := .map (some Z.wb)) rfl rfl rfl rfl (md_p ⟨rfl, trivial⟩)) ?_
  have h92 := h91.put (d := some 259) (v := .map (some Z.wb)) (T' := [(259, .map (some Z.wb)), (18, .pointer (some ⟨b71, 0, none⟩)), (6, .pointer (some ⟨b14, 0, none⟩)), (3, .pointer (some ⟨b2, 0, none⟩)), (0, .pointer (some ⟨mb, 0, none⟩)), (1, .agg #[.int .u8 9, .int .u32 ev.pick, .int .u64 ev.draw, .int .u32 ev.addr, .int .u32 ev.node, .int .u32 ev.dst, .int .u32 ev.xfer, .int .u8 ev.ty, .int .u64 ev.arg, .int .u64 ev.badge, .slice xo ev.ws.length cx]), (4, .int .u8 0), (5, .bool false), (7, .pointer (some ⟨(Z.tp x), 0, none⟩)), (53, .int .u8 9), (66, .bool false), (19, .int .u8 0), (258, .pointer (some ⟨mb, 4, none⟩))]) rfl
  clear h91
  refine dr_batch tabOk2 tabZ_ok2 (by repeat (first | with_reducible exact PF.body | with_reducible apply PF.inB | with_reducible apply PF.next)) [(4, {}), (5, {k := 3, p := 3})] [259, 18, 6, 3, 0, 1, 4, 5, 7, 53, 66, 19, 261] (T' := [(259, .map (some Z.wb)), (18, .pointer (some ⟨b71, 0, none⟩)), (6, .pointer (some ⟨b14, 0, none⟩)), (3, .pointer (some ⟨b2, 0, none⟩)), (0, .pointer (some ⟨mb, 0, none⟩)), (1, .agg #[.int .u8 9, .int .u32 ev.pick, .int .u64 ev.draw, .int .u32 ev.addr, .int .u32 ev.node, .int .u32 ev.dst, .int .u32 ev.xfer, .int .u8 ev.ty, .int .u64 ev.arg, .int .u64 ev.badge, .slice xo ev.ws.length cx]), (4, .int .u8 0), (5, .bool false), (7, .pointer (some ⟨(Z.tp x), 0, none⟩)), (53, .int .u8 9), (66, .bool false), (19, .int .u8 0), (261, .agg #[.int .u16 ((Z.ky i).idx), .int .u32 ((Z.ky i).gen)])]) (φ := (b71 = b71 ∧ Nat.ble (1 + 2) 5 = true) ∧ True) (fuel := 2) h92 (by kernel_rfl) rfl (by kernel_rfl) (by kernel_rfl) ⟨trivial, rfl, trivial⟩ ⟨⟨rfl, rfl⟩, trivial⟩ fun a93 h94 => ?_
  clear h92
  refine dr_read (i := 6) (b := Z.wb) (p := 5) (v := .int .u64 (a.word i)) (fuel := 1) (by repeat (first | with_reducible exact PF.body | with_reducible apply PF.inB | with_reducible apply PF.next)) h94 rfl rfl rfl (by kernel_rfl) (by kernel_rfl) (by kernel_rfl) rfl (rd_W h94 (x := i) hi rfl rfl rfl) ?_
  have h95 := h94.put (d := some 262) (v := .int .u64 (a.word i)) (T' := [(262, .int .u64 (a.word i)), (259, .map (some Z.wb)), (18, .pointer (some ⟨b71, 0, none⟩)), (6, .pointer (some ⟨b14, 0, none⟩)), (3, .pointer (some ⟨b2, 0, none⟩)), (0, .pointer (some ⟨mb, 0, none⟩)), (1, .agg #[.int .u8 9, .int .u32 ev.pick, .int .u64 ev.draw, .int .u32 ev.addr, .int .u32 ev.node, .int .u32 ev.dst, .int .u32 ev.xfer, .int .u8 ev.ty, .int .u64 ev.arg, .int .u64 ev.badge, .slice xo ev.ws.length cx]), (4, .int .u8 0), (5, .bool false), (7, .pointer (some ⟨(Z.tp x), 0, none⟩)), (53, .int .u8 9), (66, .bool false), (19, .int .u8 0), (261, .agg #[.int .u16 ((Z.ky i).idx), .int .u32 ((Z.ky i).gen)])]) rfl
  clear h94
  refine dr_batch tabOk2 tabZ_ok2 (by repeat (first | with_reducible exact PF.body | with_reducible apply PF.inB | with_reducible apply PF.next)) [(7, {})] [18, 6, 3, 0, 1, 4, 5, 7, 53, 66, 19, 263] (T' := [(18, .pointer (some ⟨b71, 0, none⟩)), (6, .pointer (some ⟨b14, 0, none⟩)), (3, .pointer (some ⟨b2, 0, none⟩)), (0, .pointer (some ⟨mb, 0, none⟩)), (1, .agg #[.int .u8 9, .int .u32 ev.pick, .int .u64 ev.draw, .int .u32 ev.addr, .int .u32 ev.node, .int .u32 ev.dst, .int .u32 ev.xfer, .int .u8 ev.ty, .int .u64 ev.arg, .int .u64 ev.badge, .slice xo ev.ws.length cx]), (4, .int .u8 0), (5, .bool false), (7, .pointer (some ⟨(Z.tp x), 0, none⟩)), (53, .int .u8 9), (66, .bool false), (19, .int .u8 0), (263, .bool ((a.word i) == 0))]) (φ := True) (fuel := 0) h95 (by kernel_rfl) rfl (by kernel_rfl) (by kernel_rfl) ⟨trivial, trivial⟩ trivial fun a96 h97 => ?_
  clear h95
  refine wpAnyK_done (by kernel_rfl) ?_ _
  refine hK86 _ _ ?_
  clear hK86
  refine c_split h97 (b := ((a.word i) == 0)) rfl (fun hc98 => ?_) (fun hc98 => ?_)
  ·
    have hc98f : (a.word i) = 0 := by simpa using hc98
    exact absurd hc98f hw0
  ·
    have hc98f : (a.word i) ≠ 0 := by simpa using hc98
    refine wp_skip ?_
    refine hK85 _ _ ?_
    clear hK85
    refine wp_seq_k fun K99 hK99 => ?_
    refine dr_start (KB := [3, b2, b14, b71, mb, Z.wb]) (Bi := [[0, 1, 2, 3, 4, 5], [0, 1, 2, 3, 4, 5], [0, 1, 2, 3, 4, 5], [0, 1, 2, 3, 4, 5], [0, 1, 2, 3, 4, 5], [0, 1, 2, 3, 4, 5], [0, 1, 2, 3, 4, 5], [0, 1, 2, 3, 4, 5], [0, 1, 2, 3, 4, 5], [0, 1, 2, 3, 4, 5], []]) mixed h97 fun w100 h101 => ?_
    clear h97
    refine dr_batch tabOk2 tabZ_ok2 (by repeat (first | with_reducible exact PF.body | with_reducible apply PF.inB | with_reducible apply PF.next)) [(0, {}), (1, {}), (2, {}), (3, {})] [18, 6, 3, 0, 1, 4, 5, 7, 53, 66, 19, 269, 272] (T' := [(18, .pointer (some ⟨b71, 0, none⟩)), (6, .pointer (some ⟨b14, 0, none⟩)), (3, .pointer (some ⟨b2, 0, none⟩)), (0, .pointer (some ⟨mb, 0, none⟩)), (1, .agg #[.int .u8 9, .int .u32 ev.pick, .int .u64 ev.draw, .int .u32 ev.addr, .int .u32 ev.node, .int .u32 ev.dst, .int .u32 ev.xfer, .int .u8 ev.ty, .int .u64 ev.arg, .int .u64 ev.badge, .slice xo ev.ws.length cx]), (4, .int .u8 0), (5, .bool false), (7, .pointer (some ⟨(Z.tp x), 0, none⟩)), (53, .int .u8 9), (66, .bool false), (19, .int .u8 0), (269, .pointer (some ⟨(Z.tp x), 0, none⟩)), (272, .pointer (some ⟨mb, 4, none⟩))]) (φ := True) (fuel := 7) h101 (by kernel_rfl) rfl (by kernel_rfl) (by kernel_rfl) ⟨trivial, trivial, trivial, trivial, trivial⟩ trivial fun a103 h104 => ?_
    clear h101
    refine dr_read (i := 4) (b := mb) (p := 4) (v := .map (some Z.wb)) (fuel := 6) (by repeat (first | with_reducible exact PF.body | with_reducible apply PF.inB | with_reducible apply PF.next)) h104 rfl rfl rfl (by kernel_rfl) (by kernel_rfl) (by kernel_rfl) rfl (rd_m h104 (k := 4) (v := .map (some Z.wb)) rfl rfl rfl rfl (md_p ⟨rfl, trivial⟩)) ?_
    have h105 := h104.put (d := some 273) (v := .map (some Z.wb)) (T' := [(273, .map (some Z.wb)), (18, .pointer (some ⟨b71, 0, none⟩)), (6, .pointer (some ⟨b14, 0, none⟩)), (3, .pointer (some ⟨b2, 0, none⟩)), (0, .pointer (some ⟨mb, 0, none⟩)), (1, .agg #[.int .u8 9, .int .u32 ev.pick, .int .u64 ev.draw, .int .u32 ev.addr, .int .u32 ev.node, .int .u32 ev.dst, .int .u32 ev.xfer, .int .u8 ev.ty, .int .u64 ev.arg, .int .u64 ev.badge, .slice xo ev.ws.length cx]), (4, .int .u8 0), (5, .bool false), (7, .pointer (some ⟨(Z.tp x), 0, none⟩)), (53, .int .u8 9), (66, .bool false), (19, .int .u8 0), (269, .pointer (some ⟨(Z.tp x), 0, none⟩)), (272, .pointer (some ⟨mb, 4, none⟩))]) rfl
    clear h104
    refine dr_batch tabOk2 tabZ_ok2 (by repeat (first | with_reducible exact PF.body | with_reducible apply PF.inB | with_reducible apply PF.next)) [(5, {}), (6, {k := 3, p := 3})] [273, 18, 6, 3, 0, 1, 4, 5, 7, 53, 66, 19, 269, 275] (T' := [(273, .map (some Z.wb)), (18, .pointer (some ⟨b71, 0, none⟩)), (6, .pointer (some ⟨b14, 0, none⟩)), (3, .pointer (some ⟨b2, 0, none⟩)), (0, .pointer (some ⟨mb, 0, none⟩)), (1, .agg #[.int .u8 9, .int .u32 ev.pick, .int .u64 ev.draw, .int .u32 ev.addr, .int .u32 ev.node, .int .u32 ev.dst, .int .u32 ev.xfer, .int .u8 ev.ty, .int .u64 ev.arg, .int .u64 ev.badge, .slice xo ev.ws.length cx]), (4, .int .u8 0), (5, .bool false), (7, .pointer (some ⟨(Z.tp x), 0, none⟩)), (53, .int .u8 9), (66, .bool false), (19, .int .u8 0), (269, .pointer (some ⟨(Z.tp x), 0, none⟩)), (275, .agg #[.int .u16 ((Z.ky i).idx), .int .u32 ((Z.ky i).gen)])]) (φ := (b71 = b71 ∧ Nat.ble (1 + 2) 5 = true) ∧ True) (fuel := 4) h105 (by kernel_rfl) rfl (by kernel_rfl) (by kernel_rfl) ⟨trivial, rfl, trivial⟩ ⟨⟨rfl, rfl⟩, trivial⟩ fun a106 h107 => ?_
    clear h105
    refine dr_read (i := 7) (b := Z.wb) (p := 5) (v := .int .u64 (a.word i)) (fuel := 3) (by repeat (first | with_reducible exact PF.body | with_reducible apply PF.inB | with_reducible apply PF.next)) h107 rfl rfl rfl (by kernel_rfl) (by kernel_rfl) (by kernel_rfl) rfl (rd_W h107 (x := i) hi rfl rfl rfl) ?_
    have h108 := h107.put (d := some 276) (v := .int .u64 (a.word i)) (T' := [(276, .int .u64 (a.word i)), (273, .map (some Z.wb)), (18, .pointer (some ⟨b71, 0, none⟩)), (6, .pointer (some ⟨b14, 0, none⟩)), (3, .pointer (some ⟨b2, 0, none⟩)), (0, .pointer (some ⟨mb, 0, none⟩)), (1, .agg #[.int .u8 9, .int .u32 ev.pick, .int .u64 ev.draw, .int .u32 ev.addr, .int .u32 ev.node, .int .u32 ev.dst, .int .u32 ev.xfer, .int .u8 ev.ty, .int .u64 ev.arg, .int .u64 ev.badge, .slice xo ev.ws.length cx]), (4, .int .u8 0), (5, .bool false), (7, .pointer (some ⟨(Z.tp x), 0, none⟩)), (53, .int .u8 9), (66, .bool false), (19, .int .u8 0), (269, .pointer (some ⟨(Z.tp x), 0, none⟩)), (275, .agg #[.int .u16 ((Z.ky i).idx), .int .u32 ((Z.ky i).gen)])]) rfl
    clear h107
    refine dr_batch tabOk2 tabZ_ok2 (by repeat (first | with_reducible exact PF.body | with_reducible apply PF.inB | with_reducible apply PF.next)) [(8, {}), (9, {})] [276, 18, 6, 3, 0, 1, 4, 5, 7, 53, 66, 19, 278] (T' := [(276, .int .u64 (a.word i)), (18, .pointer (some ⟨b71, 0, none⟩)), (6, .pointer (some ⟨b14, 0, none⟩)), (3, .pointer (some ⟨b2, 0, none⟩)), (0, .pointer (some ⟨mb, 0, none⟩)), (1, .agg #[.int .u8 9, .int .u32 ev.pick, .int .u64 ev.draw, .int .u32 ev.addr, .int .u32 ev.node, .int .u32 ev.dst, .int .u32 ev.xfer, .int .u8 ev.ty, .int .u64 ev.arg, .int .u64 ev.badge, .slice xo ev.ws.length cx]), (4, .int .u8 0), (5, .bool false), (7, .pointer (some ⟨(Z.tp x), 0, none⟩)), (53, .int .u8 9), (66, .bool false), (19, .int .u8 0), (278, .pointer (some ⟨(Z.tp x), 8, none⟩))]) (φ := True) (fuel := 1) h108 (by kernel_rfl) rfl (by kernel_rfl) (by kernel_rfl) ⟨trivial, trivial, trivial⟩ trivial fun a109 h110 => ?_
    clear h108
    refine wpAnyK_one (i := 10) (fuel := 0) (by kernel_rfl) ?_
    refine op_mTh (x := x) (off := 8) (v := .int .u64 (a.word i)) (y := { a.th x with badge := (a.word i) }) h110 rfl rfl rfl rfl rfl rfl rfl rfl rfl hx rfl rfl (kcons (fun _ => rfl) (kcons (fun hq => by cases hq) (kcons (fun hq => by cases hq) (kcons (fun hq => by cases hq) knil)))) fun w111 hf112 h113 => ?_
    obtain ⟨a114, ea114⟩ : ∃ z : AK, z = a.setT x { a.th x with badge := (a.word i) } := ⟨_, rfl⟩
    rw [← ea114] at h113
    have hcx115 : curR Z a114 = Z.ky x := by rw [ea114] <;> exact hcx
    refine ⟨keepNil, ?_⟩
    clear h110
    have ht116 : a114.th x = { a.th x with badge := (a.word i) } := by rw [ea114]; exact upd_same _ _ _
    have hP117 : MP Z a114 := by rw [ea114]; exact MP.like hP rfl rfl rfl
    refine wpAnyK_done (by kernel_rfl) ?_ _
    refine hK99 _ _ ?_
    clear hK99
    refine wp_seq_k fun K118 hK118 => ?_
    refine dr_start (KB := [3, b2, b14, b71, mb]) (Bi := [[0, 1, 2, 3, 4], [0, 1, 2, 3, 4], [0, 1, 2, 3, 4], [0, 1, 2, 3, 4], [0, 1, 2, 3, 4], [0, 1, 2, 3, 4], []]) mixed h113 fun w119 h120 => ?_
    clear h113
    refine dr_batch tabOk2 tabZ_ok2 (by repeat (first | with_reducible exact PF.body | with_reducible apply PF.inB | with_reducible apply PF.next)) [(0, {}), (1, {}), (2, {})] [18, 6, 3, 0, 1, 4, 5, 7, 53, 66, 19, 281] (T' := [(18, .pointer (some ⟨b71, 0, none⟩)), (6, .pointer (some ⟨b14, 0, none⟩)), (3, .pointer (some ⟨b2, 0, none⟩)), (0, .pointer (some ⟨mb, 0, none⟩)), (1, .agg #[.int .u8 9, .int .u32 ev.pick, .int .u64 ev.draw, .int .u32 ev.addr, .int .u32 ev.node, .int .u32 ev.dst, .int .u32 ev.xfer, .int .u8 ev.ty, .int .u64 ev.arg, .int .u64 ev.badge, .slice xo ev.ws.length cx]), (4, .int .u8 0), (5, .bool false), (7, .pointer (some ⟨(Z.tp x), 0, none⟩)), (53, .int .u8 9), (66, .bool false), (19, .int .u8 0), (281, .pointer (some ⟨mb, 4, none⟩))]) (φ := True) (fuel := 4) h120 (by kernel_rfl) rfl (by kernel_rfl) (by kernel_rfl) ⟨trivial, trivial, trivial, trivial⟩ trivial fun a122 h123 => ?_
    clear h120
    refine dr_read (i := 3) (b := mb) (p := 4) (v := .map (some Z.wb)) (fuel := 3) (by repeat (first | with_reducible exact PF.body | with_reducible apply PF.inB | with_reducible apply PF.next)) h123 rfl rfl rfl (by kernel_rfl) (by kernel_rfl) (by kernel_rfl) rfl (rd_m h123 (k := 4) (v := .map (some Z.wb)) rfl rfl rfl rfl (md_p ⟨rfl, trivial⟩)) ?_
    have h124 := h123.put (d := some 282) (v := .map (some Z.wb)) (T' := [(282, .map (some Z.wb)), (18, .pointer (some ⟨b71, 0, none⟩)), (6, .pointer (some ⟨b14, 0, none⟩)), (3, .pointer (some ⟨b2, 0, none⟩)), (0, .pointer (some ⟨mb, 0, none⟩)), (1, .agg #[.int .u8 9, .int .u32 ev.pick, .int .u64 ev.draw, .int .u32 ev.addr, .int .u32 ev.node, .int .u32 ev.dst, .int .u32 ev.xfer, .int .u8 ev.ty, .int .u64 ev.arg, .int .u64 ev.badge, .slice xo ev.ws.length cx]), (4, .int .u8 0), (5, .bool false), (7, .pointer (some ⟨(Z.tp x), 0, none⟩)), (53, .int .u8 9), (66, .bool false), (19, .int .u8 0), (281, .pointer (some ⟨mb, 4, none⟩))]) rfl
    clear h123
    refine dr_batch tabOk2 tabZ_ok2 (by repeat (first | with_reducible exact PF.body | with_reducible apply PF.inB | with_reducible apply PF.next)) [(4, {}), (5, {k := 3, p := 3})] [282, 18, 6, 3, 0, 1, 4, 5, 7, 53, 66, 19, 284] (T' := [(282, .map (some Z.wb)), (18, .pointer (some ⟨b71, 0, none⟩)), (6, .pointer (some ⟨b14, 0, none⟩)), (3, .pointer (some ⟨b2, 0, none⟩)), (0, .pointer (some ⟨mb, 0, none⟩)), (1, .agg #[.int .u8 9, .int .u32 ev.pick, .int .u64 ev.draw, .int .u32 ev.addr, .int .u32 ev.node, .int .u32 ev.dst, .int .u32 ev.xfer, .int .u8 ev.ty, .int .u64 ev.arg, .int .u64 ev.badge, .slice xo ev.ws.length cx]), (4, .int .u8 0), (5, .bool false), (7, .pointer (some ⟨(Z.tp x), 0, none⟩)), (53, .int .u8 9), (66, .bool false), (19, .int .u8 0), (284, .agg #[.int .u16 ((Z.ky i).idx), .int .u32 ((Z.ky i).gen)])]) (φ := (b71 = b71 ∧ Nat.ble (1 + 2) 5 = true) ∧ True) (fuel := 1) h124 (by kernel_rfl) rfl (by kernel_rfl) (by kernel_rfl) ⟨trivial, rfl, trivial⟩ ⟨⟨rfl, rfl⟩, trivial⟩ fun a125 h126 => ?_
    clear h124
    refine wpAnyK_one (i := 6) (fuel := 0) (by kernel_rfl) ?_
    refine op_mW (j := i) (v := 0) h126 rfl rfl rfl rfl rfl rfl hi (kcons (fun _ => rfl) (kcons (fun hq => by cases hq) (kcons (fun hq => by cases hq) (kcons (fun hq => by cases hq) knil)))) fun w127 hf128 h129a => ?_
    have h129 := h129a.put (d := none) (v := undef) (T' := [(282, .map (some Z.wb)), (18, .pointer (some ⟨b71, 0, none⟩)), (6, .pointer (some ⟨b14, 0, none⟩)), (3, .pointer (some ⟨b2, 0, none⟩)), (0, .pointer (some ⟨mb, 0, none⟩)), (1, .agg #[.int .u8 9, .int .u32 ev.pick, .int .u64 ev.draw, .int .u32 ev.addr, .int .u32 ev.node, .int .u32 ev.dst, .int .u32 ev.xfer, .int .u8 ev.ty, .int .u64 ev.arg, .int .u64 ev.badge, .slice xo ev.ws.length cx]), (4, .int .u8 0), (5, .bool false), (7, .pointer (some ⟨(Z.tp x), 0, none⟩)), (53, .int .u8 9), (66, .bool false), (19, .int .u8 0), (284, .agg #[.int .u16 ((Z.ky i).idx), .int .u32 ((Z.ky i).gen)])]) rfl
    obtain ⟨a130, ea130⟩ : ∃ z : AK, z = a114.setW i 0 := ⟨_, rfl⟩
    rw [← ea130] at h129
    have hcx131 : curR Z a130 = Z.ky x := by rw [ea130] <;> exact hcx115
    refine ⟨keepNil, ?_⟩
    have hhoh129 : (R.putW i).ho = none := by unfold MR.putW; split <;> exact hhoh68
    clear h126 h129a
    have ht132 : a130.th x = { a.th x with badge := (a.word i) } := by rw [ea130] <;> exact ht116
    have hP133 : MP Z a130 := by rw [ea130]; exact MP.same hP117 rfl rfl rfl
    refine wpAnyK_done (by kernel_rfl) ?_ _
    refine hK118 _ _ ?_
    clear hK118
    refine wp_seq_k fun K134 hK134 => ?_
    refine nd_start (l := [0, 1]) rfl ?_
    refine nd_batch tabOk2 tabZ_ok2 [(0, {}), (1, {})] [18, 6, 3, 0, 1, 7, 53, 66, 19, 4, 5] (T' := [(18, .pointer (some ⟨b71, 0, none⟩)), (6, .pointer (some ⟨b14, 0, none⟩)), (3, .pointer (some ⟨b2, 0, none⟩)), (0, .pointer (some ⟨mb, 0, none⟩)), (1, .agg #[.int .u8 9, .int .u32 ev.pick, .int .u64 ev.draw, .int .u32 ev.addr, .int .u32 ev.node, .int .u32 ev.dst, .int .u32 ev.xfer, .int .u8 ev.ty, .int .u64 ev.arg, .int .u64 ev.badge, .slice xo ev.ws.length cx]), (7, .pointer (some ⟨(Z.tp x), 0, none⟩)), (53, .int .u8 9), (66, .bool false), (19, .int .u8 0), (4, .int .u8 0), (5, .bool true)]) (φ := True) (rest := []) h129 (by kernel_rfl) rfl trivial fun a135 h136 => ?_
    clear h129
    refine nd_done ?_
    refine hK134 _ _ ?_
    clear hK134
    refine wp_ret ?_
    try simp only [Exit.then, Exit.inBlock]
    try rw [if_pos trivial]
    exact s_ret tabOk2 tabZ_ok2 h136 [(.tmp 4, {}), (.tmp 5, {})] (vs := [.int .u8 0, .bool true]) (φ := True) rfl (by kernel_rfl) trivial ⟨rfl, _, mg_end hH h136 hhoh129 (by subst ea130 ea114; simp only [setT_setT])⟩

end Go.Proofs.Qxb6500918aDoor
