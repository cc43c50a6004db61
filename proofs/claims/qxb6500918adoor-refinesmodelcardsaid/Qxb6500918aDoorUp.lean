/-
  The model: send, call, receive. (Made by program: a symbolic walk that prints its steps.)
-/
import Derived.Test.Qxb6500918aDoorUo
namespace Go.Proofs.Qxb6500918aDoor
open Go.Sx Go.Kn
set_option maxRecDepth 100000
set_option maxHeartbeats 4000000
set_option linter.unusedVariables false
set_option linter.unusedSimpArgs false

theorem call4b (mb : Nat) (Z : MZ) (R : MR) (a : AK) (C : CP) (hI : MI Z a C) (x : Nat) (hx : x ∈ sl Z.tl) (hcu : a.cur = (x : Int)) (ev : Ev) (he : EvOk ev) (xo : Option Addr) (cx : Nat) (c : Cp) (cs0 k : Int) (hf : findA a C ev.addr 4 2 = (c, cs0, k)) (hk0 : k ≠ 0) (w : World) (hH : MH mb Z R a C w) (hws : WordsAt (mdF mb Z R C) w xo ev.ws) :
    Calls Tryd.prog 55 #[.pointer (some ⟨mb, 0, none⟩), .agg #[.int .u8 4, .int .u32 ev.pick, .int .u64 ev.draw, .int .u32 ev.addr, .int .u32 ev.node, .int .u32 ev.dst, .int .u32 ev.xfer, .int .u8 ev.ty, .int .u64 ev.arg, .int .u64 ev.badge, .slice xo ev.ws.length cx]] w fun e w' => e = .returned (.tuple #[.int .u8 k, .bool false]) ∧ ∃ R', MG mb Z R C w Z R' a C w' := by
  have hP := hI.mp
  have hcx : curR Z a = Z.ky x := curR_of hcu
  have hcn : a.cur.toNat = x := by rw [hcu]; exact Int.toNat_natCast x
  have hci := (hI.tk x hx).ci
  obtain ⟨ty3, hg3⟩ := hH.g3
  have hho := hH.ho
  have hkk := hH.md.k
  refine enter (n := 628) (K := mdF mb Z R C) (A := MD (mdF mb Z R C) w.heap.size mb Z R a C) (F := mdF mb Z R C) (T := [(0, .pointer (some ⟨mb, 0, none⟩)), (1, .agg #[.int .u8 4, .int .u32 ev.pick, .int .u64 ev.draw, .int .u32 ev.addr, .int .u32 ev.node, .int .u32 ev.dst, .int .u32 ev.xfer, .int .u8 ev.ty, .int .u64 ev.arg, .int .u64 ev.badge, .slice xo ev.ws.length cx])]) (L := [(3, ⟨[.int .u16 0, .int .u32 0], ty3, true⟩)]) (args := [.pointer (some ⟨mb, 0, none⟩), .agg #[.int .u8 4, .int .u32 ev.pick, .int .u64 ev.draw, .int .u32 ev.addr, .int .u32 ev.node, .int .u32 ev.dst, .int .u32 ev.xfer, .int .u8 ev.ty, .int .u64 ev.arg, .int .u64 ev.badge, .slice xo ev.ws.length cx]]) Tryd.func55 rfl rfl rfl rfl (kcons hg3 knil) (by simp) (kcons (by intro hq; cases hq) knil) hH.mD MD.stable hH.md.low (kcons (by intro hq; cases hq) knil) ?_
  intro ac h
  refine wp_seq_k fun K1 hK1 => ?_
  refine nd_start (l := [0, 1, 2]) rfl ?_
  refine nd_op ?_
  refine op_new tabOk2 (cells := [.int .u8 4, .int .u32 ev.pick, .int .u64 ev.draw, .int .u32 ev.addr, .int .u32 ev.node, .int .u32 ev.dst, .int .u32 ev.xfer, .int .u8 ev.ty, .int .u64 ev.arg, .int .u64 ev.badge, .slice xo ev.ws.length cx]) (ty := 35) (ln := none) (L1 := fun b2 => [(3, ⟨[.int .u16 0, .int .u32 0], ty3, true⟩), (b2, ⟨[.int .u8 4, .int .u32 ev.pick, .int .u64 ev.draw, .int .u32 ev.addr, .int .u32 ev.node, .int .u32 ev.dst, .int .u32 ev.xfer, .int .u8 ev.ty, .int .u64 ev.arg, .int .u64 ev.badge, .slice xo ev.ws.length cx], 35, false⟩)]) h rfl rfl rfl rfl (by kernel_rfl) (fun _ => rfl) fun b2 w3 a4 h5 hf6 hn7 => ?_
  clear h
  refine nd_batch tabOk2 tabZ_ok2 [(1, {}), (2, {})] [3, 0, 1, 4, 5] (T' := [(3, .pointer (some ⟨b2, 0, none⟩)), (0, .pointer (some ⟨mb, 0, none⟩)), (1, .agg #[.int .u8 4, .int .u32 ev.pick, .int .u64 ev.draw, .int .u32 ev.addr, .int .u32 ev.node, .int .u32 ev.dst, .int .u32 ev.xfer, .int .u8 ev.ty, .int .u64 ev.arg, .int .u64 ev.badge, .slice xo ev.ws.length cx]), (4, .int .u8 0), (5, .bool false)]) (φ := True) (rest := []) h5 (by kernel_rfl) rfl trivial fun a8 h9 => ?_
  clear h5
  refine nd_done ?_
  refine hK1 _ _ ?_
  clear hK1
  refine wp_seq_k fun K10 hK10 => ?_
  refine nd_start (l := [0, 1, 2, 3, 4, 5]) rfl ?_
  refine nd_batch tabOk2 tabZ_ok2 [(0, {}), (1, {}), (2, {})] [3, 0, 1, 4, 5, 44] (T' := [(3, .pointer (some ⟨b2, 0, none⟩)), (0, .pointer (some ⟨mb, 0, none⟩)), (1, .agg #[.int .u8 4, .int .u32 ev.pick, .int .u64 ev.draw, .int .u32 ev.addr, .int .u32 ev.node, .int .u32 ev.dst, .int .u32 ev.xfer, .int .u8 ev.ty, .int .u64 ev.arg, .int .u64 ev.badge, .slice xo ev.ws.length cx]), (4, .int .u8 0), (5, .bool false), (44, .pointer (some ⟨mb, 13, none⟩))]) (φ := True) (rest := [3, 4, 5]) h9 (by kernel_rfl) rfl trivial fun a11 h12 => ?_
  clear h9
  refine nd_op ?_
  refine op_read (b := mb) (v := .agg #[.int .u16 ((Z.ky x).idx), .int .u32 ((Z.ky x).gen)]) h12 rfl rfl (rd_mA h12 (k := 13) (vs := [.int .u16 ((Z.ky x).idx), .int .u32 ((Z.ky x).gen)]) rfl rfl rfl rfl rfl (by rw [← hcx]; exact md_cur)) ?_
  have h13 := h12.put (d := some 45) (v := .agg #[.int .u16 ((Z.ky x).idx), .int .u32 ((Z.ky x).gen)]) (T' := [(45, .agg #[.int .u16 ((Z.ky x).idx), .int .u32 ((Z.ky x).gen)]), (3, .pointer (some ⟨b2, 0, none⟩)), (0, .pointer (some ⟨mb, 0, none⟩)), (1, .agg #[.int .u8 4, .int .u32 ev.pick, .int .u64 ev.draw, .int .u32 ev.addr, .int .u32 ev.node, .int .u32 ev.dst, .int .u32 ev.xfer, .int .u8 ev.ty, .int .u64 ev.arg, .int .u64 ev.badge, .slice xo ev.ws.length cx]), (4, .int .u8 0), (5, .bool false), (44, .pointer (some ⟨mb, 13, none⟩))]) rfl
  clear h12
  refine nd_op ?_
  refine op_new tabOk2 (cells := [.int .u16 0, .int .u32 0]) (ty := 39) (ln := none) (L1 := fun b14 => [(3, ⟨[.int .u16 0, .int .u32 0], ty3, true⟩), (b2, ⟨[.int .u8 4, .int .u32 ev.pick, .int .u64 ev.draw, .int .u32 ev.addr, .int .u32 ev.node, .int .u32 ev.dst, .int .u32 ev.xfer, .int .u8 ev.ty, .int .u64 ev.arg, .int .u64 ev.badge, .slice xo ev.ws.length cx], 35, false⟩), (b14, ⟨[.int .u16 0, .int .u32 0], 39, false⟩)]) h13 rfl rfl rfl rfl (by kernel_rfl) (fun _ => rfl) fun b14 w15 a16 h17 hf18 hn19 => ?_
  clear h13
  refine nd_op ?_
  refine op_store tabOk2 {k := 2} (L' := [(3, ⟨[.int .u16 0, .int .u32 0], ty3, true⟩), (b2, ⟨[.int .u8 4, .int .u32 ev.pick, .int .u64 ev.draw, .int .u32 ev.addr, .int .u32 ev.node, .int .u32 ev.dst, .int .u32 ev.xfer, .int .u8 ev.ty, .int .u64 ev.arg, .int .u64 ev.badge, .slice xo ev.ws.length cx], 35, false⟩), (b14, ⟨[.int .u16 ((Z.ky x).idx), .int .u32 ((Z.ky x).gen)], 39, false⟩)]) (φ := b14 = b14 ∧ Nat.ble (0 + 2) 2 = true) h17 rfl rfl rfl (by kernel_rfl) ⟨rfl, rfl⟩ fun w20 h21 => ?_
  clear h17
  refine nd_done ?_
  refine hK10 _ _ ?_
  clear hK10
  refine wp_seq_k fun K22 hK22 => ?_
  refine dr_start (KB := [3, b2, b14, mb, Z.tb]) (Bi := [[0, 1, 2, 3, 4], [0, 1, 2, 3, 4], [0, 1, 2, 3, 4], [0, 1, 2, 3, 4], [0, 1, 2, 3, 4], [0, 1, 2, 3, 4], [0, 1, 2, 3, 4]]) mixed h21 fun w23 h24 => ?_
  clear h21
  refine dr_batch tabOk2 tabZ_ok2 (by repeat (first | with_reducible exact PF.body | with_reducible apply PF.inB | with_reducible apply PF.next)) [(0, {}), (1, {}), (2, {})] [6, 3, 0, 1, 4, 5, 48] (T' := [(6, .pointer (some ⟨b14, 0, none⟩)), (3, .pointer (some ⟨b2, 0, none⟩)), (0, .pointer (some ⟨mb, 0, none⟩)), (1, .agg #[.int .u8 4, .int .u32 ev.pick, .int .u64 ev.draw, .int .u32 ev.addr, .int .u32 ev.node, .int .u32 ev.dst, .int .u32 ev.xfer, .int .u8 ev.ty, .int .u64 ev.arg, .int .u64 ev.badge, .slice xo ev.ws.length cx]), (4, .int .u8 0), (5, .bool false), (48, .pointer (some ⟨mb, 2, none⟩))]) (φ := True) (fuel := 4) h24 (by kernel_rfl) rfl (by kernel_rfl) (by kernel_rfl) ⟨trivial, trivial, trivial, trivial⟩ trivial fun a26 h27 => ?_
  clear h24
  refine dr_read (i := 3) (b := mb) (p := 3) (v := .map (some Z.tb)) (fuel := 3) (by repeat (first | with_reducible exact PF.body | with_reducible apply PF.inB | with_reducible apply PF.next)) h27 rfl rfl rfl (by kernel_rfl) (by kernel_rfl) (by kernel_rfl) rfl (rd_m h27 (k := 2) (v := .map (some Z.tb)) rfl rfl rfl rfl (md_p ⟨rfl, trivial⟩)) ?_
  have h28 := h27.put (d := some 49) (v := .map (some Z.tb)) (T' := [(49, .map (some Z.tb)), (6, .pointer (some ⟨b14, 0, none⟩)), (3, .pointer (some ⟨b2, 0, none⟩)), (0, .pointer (some ⟨mb, 0, none⟩)), (1, .agg #[.int .u8 4, .int .u32 ev.pick, .int .u64 ev.draw, .int .u32 ev.addr, .int .u32 ev.node, .int .u32 ev.dst, .int .u32 ev.xfer, .int .u8 ev.ty, .int .u64 ev.arg, .int .u64 ev.badge, .slice xo ev.ws.length cx]), (4, .int .u8 0), (5, .bool false), (48, .pointer (some ⟨mb, 2, none⟩))]) rfl
  clear h27
  refine dr_batch tabOk2 tabZ_ok2 (by repeat (first | with_reducible exact PF.body | with_reducible apply PF.inB | with_reducible apply PF.next)) [(4, {k := 2, p := 2})] [49, 6, 3, 0, 1, 4, 5, 50] (T' := [(49, .map (some Z.tb)), (6, .pointer (some ⟨b14, 0, none⟩)), (3, .pointer (some ⟨b2, 0, none⟩)), (0, .pointer (some ⟨mb, 0, none⟩)), (1, .agg #[.int .u8 4, .int .u32 ev.pick, .int .u64 ev.draw, .int .u32 ev.addr, .int .u32 ev.node, .int .u32 ev.dst, .int .u32 ev.xfer, .int .u8 ev.ty, .int .u64 ev.arg, .int .u64 ev.badge, .slice xo ev.ws.length cx]), (4, .int .u8 0), (5, .bool false), (50, .agg #[.int .u16 ((Z.ky x).idx), .int .u32 ((Z.ky x).gen)])]) (φ := (b14 = b14 ∧ Nat.ble (0 + 2) 2 = true) ∧ True) (fuel := 2) h28 (by kernel_rfl) rfl (by kernel_rfl) (by kernel_rfl) ⟨rfl, trivial⟩ ⟨⟨rfl, rfl⟩, trivial⟩ fun a29 h30 => ?_
  clear h28
  refine dr_read (i := 5) (b := Z.tb) (p := 4) (v := .pointer (some ⟨(Z.tp x), 0, none⟩)) (fuel := 1) (by repeat (first | with_reducible exact PF.body | with_reducible apply PF.inB | with_reducible apply PF.next)) h30 rfl rfl rfl (by kernel_rfl) (by kernel_rfl) (by kernel_rfl) rfl (rd_T h30 (x := x) hx rfl rfl rfl) ?_
  have h31 := h30.put (d := some 51) (v := .pointer (some ⟨(Z.tp x), 0, none⟩)) (T' := [(51, .pointer (some ⟨(Z.tp x), 0, none⟩)), (49, .map (some Z.tb)), (6, .pointer (some ⟨b14, 0, none⟩)), (3, .pointer (some ⟨b2, 0, none⟩)), (0, .pointer (some ⟨mb, 0, none⟩)), (1, .agg #[.int .u8 4, .int .u32 ev.pick, .int .u64 ev.draw, .int .u32 ev.addr, .int .u32 ev.node, .int .u32 ev.dst, .int .u32 ev.xfer, .int .u8 ev.ty, .int .u64 ev.arg, .int .u64 ev.badge, .slice xo ev.ws.length cx]), (4, .int .u8 0), (5, .bool false), (50, .agg #[.int .u16 ((Z.ky x).idx), .int .u32 ((Z.ky x).gen)])]) rfl
  clear h30
  refine dr_batch tabOk2 tabZ_ok2 (by repeat (first | with_reducible exact PF.body | with_reducible apply PF.inB | with_reducible apply PF.next)) [(6, {})] [6, 3, 0, 1, 4, 5, 7] (T' := [(6, .pointer (some ⟨b14, 0, none⟩)), (3, .pointer (some ⟨b2, 0, none⟩)), (0, .pointer (some ⟨mb, 0, none⟩)), (1, .agg #[.int .u8 4, .int .u32 ev.pick, .int .u64 ev.draw, .int .u32 ev.addr, .int .u32 ev.node, .int .u32 ev.dst, .int .u32 ev.xfer, .int .u8 ev.ty, .int .u64 ev.arg, .int .u64 ev.badge, .slice xo ev.ws.length cx]), (4, .int .u8 0), (5, .bool false), (7, .pointer (some ⟨(Z.tp x), 0, none⟩))]) (φ := True) (fuel := 0) h31 (by kernel_rfl) rfl (by kernel_rfl) (by kernel_rfl) ⟨trivial, trivial⟩ trivial fun a32 h33 => ?_
  clear h31
  refine wpAnyK_done (by kernel_rfl) ?_ _
  refine hK22 _ _ ?_
  clear hK22
  refine wp_seq_k fun K34 hK34 => ?_
  refine wp_seq_k fun K35 hK35 => ?_
  refine nd_start (l := [0, 1]) rfl ?_
  refine nd_batch tabOk2 tabZ_ok2 [(0, {}), (1, {k := 1})] [6, 3, 0, 1, 4, 5, 7, 53] (T' := [(6, .pointer (some ⟨b14, 0, none⟩)), (3, .pointer (some ⟨b2, 0, none⟩)), (0, .pointer (some ⟨mb, 0, none⟩)), (1, .agg #[.int .u8 4, .int .u32 ev.pick, .int .u64 ev.draw, .int .u32 ev.addr, .int .u32 ev.node, .int .u32 ev.dst, .int .u32 ev.xfer, .int .u8 ev.ty, .int .u64 ev.arg, .int .u64 ev.badge, .slice xo ev.ws.length cx]), (4, .int .u8 0), (5, .bool false), (7, .pointer (some ⟨(Z.tp x), 0, none⟩)), (53, .int .u8 4)]) (φ := (b2 = b2 ∧ Nat.ble (0 + 1) 11 = true) ∧ True) (rest := []) h33 (by kernel_rfl) rfl ⟨⟨rfl, rfl⟩, trivial⟩ fun a36 h37 => ?_
  clear h33
  refine nd_done ?_
  refine hK35 _ _ ?_
  clear hK35
  refine wp_block ?_
  refine wp_seq_k fun K38 hK38 => ?_
  refine nd_start (l := [0, 1]) rfl ?_
  refine nd_batch tabOk2 tabZ_ok2 [(0, {}), (1, {})] [6, 3, 0, 1, 4, 5, 7, 53, 54] (T' := [(6, .pointer (some ⟨b14, 0, none⟩)), (3, .pointer (some ⟨b2, 0, none⟩)), (0, .pointer (some ⟨mb, 0, none⟩)), (1, .agg #[.int .u8 4, .int .u32 ev.pick, .int .u64 ev.draw, .int .u32 ev.addr, .int .u32 ev.node, .int .u32 ev.dst, .int .u32 ev.xfer, .int .u8 ev.ty, .int .u64 ev.arg, .int .u64 ev.badge, .slice xo ev.ws.length cx]), (4, .int .u8 0), (5, .bool false), (7, .pointer (some ⟨(Z.tp x), 0, none⟩)), (53, .int .u8 4), (54, .bool false)]) (φ := True) (rest := []) h37 (by kernel_rfl) rfl trivial fun a39 h40 => ?_
  clear h37
  refine nd_done ?_
  refine hK38 _ _ ?_
  clear hK38
  refine c_false h40 rfl ?_
  refine wp_seq_k fun K41 hK41 => ?_
  refine nd_start (l := [0, 1]) rfl ?_
  refine nd_batch tabOk2 tabZ_ok2 [(0, {}), (1, {})] [6, 3, 0, 1, 4, 5, 7, 53, 59] (T' := [(6, .pointer (some ⟨b14, 0, none⟩)), (3, .pointer (some ⟨b2, 0, none⟩)), (0, .pointer (some ⟨mb, 0, none⟩)), (1, .agg #[.int .u8 4, .int .u32 ev.pick, .int .u64 ev.draw, .int .u32 ev.addr, .int .u32 ev.node, .int .u32 ev.dst, .int .u32 ev.xfer, .int .u8 ev.ty, .int .u64 ev.arg, .int .u64 ev.badge, .slice xo ev.ws.length cx]), (4, .int .u8 0), (5, .bool false), (7, .pointer (some ⟨(Z.tp x), 0, none⟩)), (53, .int .u8 4), (59, .bool false)]) (φ := True) (rest := []) h40 (by kernel_rfl) rfl trivial fun a42 h43 => ?_
  clear h40
  refine nd_done ?_
  refine hK41 _ _ ?_
  clear hK41
  refine c_false h43 rfl ?_
  refine wp_seq_k fun K44 hK44 => ?_
  refine wp_seq_k fun K45 hK45 => ?_
  refine nd_start (l := [0, 1]) rfl ?_
  refine nd_batch tabOk2 tabZ_ok2 [(0, {}), (1, {})] [6, 3, 0, 1, 4, 5, 7, 53, 66] (T' := [(6, .pointer (some ⟨b14, 0, none⟩)), (3, .pointer (some ⟨b2, 0, none⟩)), (0, .pointer (some ⟨mb, 0, none⟩)), (1, .agg #[.int .u8 4, .int .u32 ev.pick, .int .u64 ev.draw, .int .u32 ev.addr, .int .u32 ev.node, .int .u32 ev.dst, .int .u32 ev.xfer, .int .u8 ev.ty, .int .u64 ev.arg, .int .u64 ev.badge, .slice xo ev.ws.length cx]), (4, .int .u8 0), (5, .bool false), (7, .pointer (some ⟨(Z.tp x), 0, none⟩)), (53, .int .u8 4), (66, .bool true)]) (φ := True) (rest := []) h43 (by kernel_rfl) rfl trivial fun a46 h47 => ?_
  clear h43
  refine nd_done ?_
  refine hK45 _ _ ?_
  clear hK45
  refine c_true h47 rfl ?_
  refine wp_skip ?_
  refine hK44 _ _ ?_
  clear hK44
  refine c_true h47 rfl ?_
  refine wp_seq_k fun K48 hK48 => ?_
  refine nd_start (l := [0, 1, 2, 3, 4, 5, 6, 7, 8, 9]) rfl ?_
  refine nd_batch tabOk2 tabZ_ok2 [(0, {}), (1, {}), (2, {k := 1})] [6, 3, 0, 1, 4, 5, 7, 53, 66, 70, 72] (T' := [(6, .pointer (some ⟨b14, 0, none⟩)), (3, .pointer (some ⟨b2, 0, none⟩)), (0, .pointer (some ⟨mb, 0, none⟩)), (1, .agg #[.int .u8 4, .int .u32 ev.pick, .int .u64 ev.draw, .int .u32 ev.addr, .int .u32 ev.node, .int .u32 ev.dst, .int .u32 ev.xfer, .int .u8 ev.ty, .int .u64 ev.arg, .int .u64 ev.badge, .slice xo ev.ws.length cx]), (4, .int .u8 0), (5, .bool false), (7, .pointer (some ⟨(Z.tp x), 0, none⟩)), (53, .int .u8 4), (66, .bool true), (70, .pointer (some ⟨mb, 0, none⟩)), (72, .int .u32 ev.addr)]) (φ := (b2 = b2 ∧ Nat.ble (3 + 1) 11 = true) ∧ True) (rest := [3, 4, 5, 6, 7, 8, 9]) h47 (by kernel_rfl) rfl ⟨⟨rfl, rfl⟩, trivial⟩ fun a49 h50 => ?_
  clear h47
  refine nd_op ?_
  refine op_call h50 rfl rfl rfl (callOk Tryd.func90 (by decide) rfl) (args := [.pointer (some ⟨mb, 0, none⟩), .int .u32 ev.addr, .int .u8 4, .int .u8 2]) rfl (capOf_ok mb Z _ a C x hx hcx hci hcn hI.ci ev.addr 4 2 he.addr _ (mh_of h50 hho (k := 0) rfl) hf) ?_
  rintro _ w51 ⟨rfl, hg53⟩
  refine ⟨_, rfl, ?_⟩
  have h54a := st_mg h50 hg53 (kcons (fun _ => rfl) (kcons (fun hq => by cases hq) (kcons (fun hq => by cases hq) knil)))
  have h54 := h54a.put (d := some 73) (v := .tuple #[.agg #[.int .u8 c.ty, .int .u16 c.obj.idx, .int .u32 c.obj.gen, .int .u8 c.rights, .int .u64 c.badge], .int .u8 k]) (T' := [(73, .tuple #[.agg #[.int .u8 c.ty, .int .u16 c.obj.idx, .int .u32 c.obj.gen, .int .u8 c.rights, .int .u64 c.badge], .int .u8 k]), (6, .pointer (some ⟨b14, 0, none⟩)), (3, .pointer (some ⟨b2, 0, none⟩)), (0, .pointer (some ⟨mb, 0, none⟩)), (1, .agg #[.int .u8 4, .int .u32 ev.pick, .int .u64 ev.draw, .int .u32 ev.addr, .int .u32 ev.node, .int .u32 ev.dst, .int .u32 ev.xfer, .int .u8 ev.ty, .int .u64 ev.arg, .int .u64 ev.badge, .slice xo ev.ws.length cx]), (4, .int .u8 0), (5, .bool false), (7, .pointer (some ⟨(Z.tp x), 0, none⟩)), (53, .int .u8 4), (66, .bool true), (70, .pointer (some ⟨mb, 0, none⟩)), (72, .int .u32 ev.addr)]) rfl
  have hhoh54 := hg53.mh.ho
  clear h50 h54a
  refine nd_batch tabOk2 tabZ_ok2 [(4, {}), (5, {}), (6, {})] [6, 3, 0, 1, 4, 5, 7, 53, 66, 74, 75] (T' := [(6, .pointer (some ⟨b14, 0, none⟩)), (3, .pointer (some ⟨b2, 0, none⟩)), (0, .pointer (some ⟨mb, 0, none⟩)), (1, .agg #[.int .u8 4, .int .u32 ev.pick, .int .u64 ev.draw, .int .u32 ev.addr, .int .u32 ev.node, .int .u32 ev.dst, .int .u32 ev.xfer, .int .u8 ev.ty, .int .u64 ev.arg, .int .u64 ev.badge, .slice xo ev.ws.length cx]), (4, .int .u8 0), (5, .bool false), (7, .pointer (some ⟨(Z.tp x), 0, none⟩)), (53, .int .u8 4), (66, .bool true), (74, .agg #[.int .u8 c.ty, .int .u16 c.obj.idx, .int .u32 c.obj.gen, .int .u8 c.rights, .int .u64 c.badge]), (75, .int .u8 k)]) (φ := True) (rest := [7, 8, 9]) h54 (by kernel_rfl) rfl trivial fun a55 h56 => ?_
  clear h54
  refine nd_op ?_
  refine op_new tabOk2 (cells := [.int .u8 0, .int .u16 0, .int .u32 0, .int .u8 0, .int .u64 0]) (ty := 49) (ln := none) (L1 := fun b57 => [(3, ⟨[.int .u16 0, .int .u32 0], ty3, true⟩), (b2, ⟨[.int .u8 4, .int .u32 ev.pick, .int .u64 ev.draw, .int .u32 ev.addr, .int .u32 ev.node, .int .u32 ev.dst, .int .u32 ev.xfer, .int .u8 ev.ty, .int .u64 ev.arg, .int .u64 ev.badge, .slice xo ev.ws.length cx], 35, false⟩), (b14, ⟨[.int .u16 ((Z.ky x).idx), .int .u32 ((Z.ky x).gen)], 39, false⟩), (b57, ⟨[.int .u8 0, .int .u16 0, .int .u32 0, .int .u8 0, .int .u64 0], 49, false⟩)]) h56 rfl rfl rfl rfl (by kernel_rfl) (fun _ => rfl) fun b57 w58 a59 h60 hf61 hn62 => ?_
  clear h56
  refine nd_op ?_
  refine op_store tabOk2 {k := 3} (L' := [(3, ⟨[.int .u16 0, .int .u32 0], ty3, true⟩), (b2, ⟨[.int .u8 4, .int .u32 ev.pick, .int .u64 ev.draw, .int .u32 ev.addr, .int .u32 ev.node, .int .u32 ev.dst, .int .u32 ev.xfer, .int .u8 ev.ty, .int .u64 ev.arg, .int .u64 ev.badge, .slice xo ev.ws.length cx], 35, false⟩), (b14, ⟨[.int .u16 ((Z.ky x).idx), .int .u32 ((Z.ky x).gen)], 39, false⟩), (b57, ⟨[.int .u8 c.ty, .int .u16 c.obj.idx, .int .u32 c.obj.gen, .int .u8 c.rights, .int .u64 c.badge], 49, false⟩)]) (φ := b57 = b57 ∧ Nat.ble (0 + 5) 5 = true) h60 rfl rfl rfl (by kernel_rfl) ⟨rfl, rfl⟩ fun w63 h64 => ?_
  clear h60
  refine nd_batch tabOk2 tabZ_ok2 [(9, {})] [8, 6, 3, 0, 1, 4, 5, 7, 53, 66, 9] (T' := [(8, .pointer (some ⟨b57, 0, none⟩)), (6, .pointer (some ⟨b14, 0, none⟩)), (3, .pointer (some ⟨b2, 0, none⟩)), (0, .pointer (some ⟨mb, 0, none⟩)), (1, .agg #[.int .u8 4, .int .u32 ev.pick, .int .u64 ev.draw, .int .u32 ev.addr, .int .u32 ev.node, .int .u32 ev.dst, .int .u32 ev.xfer, .int .u8 ev.ty, .int .u64 ev.arg, .int .u64 ev.badge, .slice xo ev.ws.length cx]), (4, .int .u8 0), (5, .bool false), (7, .pointer (some ⟨(Z.tp x), 0, none⟩)), (53, .int .u8 4), (66, .bool true), (9, .int .u8 k)]) (φ := True) (rest := []) h64 (by kernel_rfl) rfl trivial fun a65 h66 => ?_
  clear h64
  refine nd_done ?_
  refine hK48 _ _ ?_
  clear hK48
  refine wp_seq_k fun K67 hK67 => ?_
  refine wp_seq_k fun K68 hK68 => ?_
  refine nd_start (l := [0, 1]) rfl ?_
  refine nd_batch tabOk2 tabZ_ok2 [(0, {}), (1, {})] [8, 6, 3, 0, 1, 4, 5, 7, 53, 66, 9, 77] (T' := [(8, .pointer (some ⟨b57, 0, none⟩)), (6, .pointer (some ⟨b14, 0, none⟩)), (3, .pointer (some ⟨b2, 0, none⟩)), (0, .pointer (some ⟨mb, 0, none⟩)), (1, .agg #[.int .u8 4, .int .u32 ev.pick, .int .u64 ev.draw, .int .u32 ev.addr, .int .u32 ev.node, .int .u32 ev.dst, .int .u32 ev.xfer, .int .u8 ev.ty, .int .u64 ev.arg, .int .u64 ev.badge, .slice xo ev.ws.length cx]), (4, .int .u8 0), (5, .bool false), (7, .pointer (some ⟨(Z.tp x), 0, none⟩)), (53, .int .u8 4), (66, .bool true), (9, .int .u8 k), (77, .bool (k != 0))]) (φ := True) (rest := []) h66 (by kernel_rfl) rfl trivial fun a69 h70 => ?_
  clear h66
  refine nd_done ?_
  refine hK68 _ _ ?_
  clear hK68
  refine c_split h70 (b := (k != 0)) rfl (fun hc71 => ?_) (fun hc71 => ?_)
  ·
    have hc71f : k ≠ 0 := by simpa using hc71
    refine wp_seq_k fun K72 hK72 => ?_
    refine nd_start (l := [0, 1, 2]) rfl ?_
    refine nd_batch tabOk2 tabZ_ok2 [(0, {}), (1, {}), (2, {})] [8, 6, 3, 0, 1, 7, 53, 66, 9, 4, 5] (T' := [(8, .pointer (some ⟨b57, 0, none⟩)), (6, .pointer (some ⟨b14, 0, none⟩)), (3, .pointer (some ⟨b2, 0, none⟩)), (0, .pointer (some ⟨mb, 0, none⟩)), (1, .agg #[.int .u8 4, .int .u32 ev.pick, .int .u64 ev.draw, .int .u32 ev.addr, .int .u32 ev.node, .int .u32 ev.dst, .int .u32 ev.xfer, .int .u8 ev.ty, .int .u64 ev.arg, .int .u64 ev.badge, .slice xo ev.ws.length cx]), (7, .pointer (some ⟨(Z.tp x), 0, none⟩)), (53, .int .u8 4), (66, .bool true), (9, .int .u8 k), (4, .int .u8 k), (5, .bool false)]) (φ := True) (rest := []) h70 (by kernel_rfl) rfl trivial fun a73 h74 => ?_
    clear h70
    refine nd_done ?_
    refine hK72 _ _ ?_
    clear hK72
    refine wp_ret ?_
    try simp only [Exit.then, Exit.inBlock]
    try rw [if_pos trivial]
    exact s_ret tabOk2 tabZ_ok2 h74 [(.tmp 4, {}), (.tmp 5, {})] (vs := [.int .u8 k, .bool false]) (φ := True) rfl (by kernel_rfl) trivial ⟨rfl, _, mg_end hH h74 hhoh54 rfl⟩
  ·
    have hc71f : k = 0 := by simpa using hc71
    exact absurd hc71f hk0

theorem call4l (mb : Nat) (Z : MZ) (R : MR) (a : AK) (C : CP) (hI : MI Z a C) (x : Nat) (hx : x ∈ sl Z.tl) (hcu : a.cur = (x : Int)) (ev : Ev) (he : EvOk ev) (xo : Option Addr) (cx : Nat) (i : Nat) (hi : i ∈ sl Z.ql) (ct rt bd cs0 : Int) (hf : findA a C ev.addr 4 2 = (⟨ct, Z.ky i, rt, bd⟩, cs0, 0)) (hwl : (ev.ws.length : Int) > 4) (w : World) (hH : MH mb Z R a C w) (hws : WordsAt (mdF mb Z R C) w xo ev.ws) :
    Calls Tryd.prog 55 #[.pointer (some ⟨mb, 0, none⟩), .agg #[.int .u8 4, .int .u32 ev.pick, .int .u64 ev.draw, .int .u32 ev.addr, .int .u32 ev.node, .int .u32 ev.dst, .int .u32 ev.xfer, .int .u8 ev.ty, .int .u64 ev.arg, .int .u64 ev.badge, .slice xo ev.ws.length cx]] w fun e w' => e = .returned (.tuple #[.int .u8 8, .bool false]) ∧ ∃ R', MG mb Z R C w Z R' a C w' := by
  have hP := hI.mp
  have hcx : curR Z a = Z.ky x := curR_of hcu
  have hcn : a.cur.toNat = x := by rw [hcu]; exact Int.toNat_natCast x
  have hci := (hI.tk x hx).ci
  obtain ⟨ty3, hg3⟩ := hH.g3
  have hho := hH.ho
  have hkk := hH.md.k
  refine enter (n := 628) (K := mdF mb Z R C) (A := MD (mdF mb Z R C) w.heap.size mb Z R a C) (F := mdF mb Z R C) (T := [(0, .pointer (some ⟨mb, 0, none⟩)), (1, .agg #[.int .u8 4, .int .u32 ev.pick, .int .u64 ev.draw, .int .u32 ev.addr, .int .u32 ev.node, .int .u32 ev.dst, .int .u32 ev.xfer, .int .u8 ev.ty, .int .u64 ev.arg, .int .u64 ev.badge, .slice xo ev.ws.length cx])]) (L := [(3, ⟨[.int .u16 0, .int .u32 0], ty3, true⟩)]) (args := [.pointer (some ⟨mb, 0, none⟩), .agg #[.int .u8 4, .int .u32 ev.pick, .int .u64 ev.draw, .int .u32 ev.addr, .int .u32 ev.node, .int .u32 ev.dst, .int .u32 ev.xfer, .int .u8 ev.ty, .int .u64 ev.arg, .int .u64 ev.badge, .slice xo ev.ws.length cx]]) Tryd.func55 rfl rfl rfl rfl (kcons hg3 knil) (by simp) (kcons (by intro hq; cases hq) knil) hH.mD MD.stable hH.md.low (kcons (by intro hq; cases hq) knil) ?_
  intro ac h
  refine wp_seq_k fun K1 hK1 => ?_
  refine nd_start (l := [0, 1, 2]) rfl ?_
  refine nd_op ?_
  refine op_new tabOk2 (cells := [.int .u8 4, .int .u32 ev.pick, .int .u64 ev.draw, .int .u32 ev.addr, .int .u32 ev.node, .int .u32 ev.dst, .int .u32 ev.xfer, .int .u8 ev.ty, .int .u64 ev.arg, .int .u64 ev.badge, .slice xo ev.ws.length cx]) (ty := 35) (ln := none) (L1 := fun b2 => [(3, ⟨[.int .u16 0, .int .u32 0], ty3, true⟩), (b2, ⟨[.int .u8 4, .int .u32 ev.pick, .int .u64 ev.draw, .int .u32 ev.addr, .int .u32 ev.node, .int .u32 ev.dst, .int .u32 ev.xfer, .int .u8 ev.ty, .int .u64 ev.arg, .int .u64 ev.badge, .slice xo ev.ws.length cx], 35, false⟩)]) h rfl rfl rfl rfl (by kernel_rfl) (fun _ => rfl) fun b2 w3 a4 h5 hf6 hn7 => ?_
  clear h
  refine nd_batch tabOk2 tabZ_ok2 [(1, {}), (2, {})] [3, 0, 1, 4, 5] (T' := [(3, .pointer (some ⟨b2, 0, none⟩)), (0, .pointer (some ⟨mb, 0, none⟩)), (1, .agg #[.int .u8 4, .int .u32 ev.pick, .int .u64 ev.draw, .int .u32 ev.addr, .int .u32 ev.node, .int .u32 ev.dst, .int .u32 ev.xfer, .int .u8 ev.ty, .int .u64 ev.arg, .int .u64 ev.badge, .slice xo ev.ws.length cx]), (4, .int .u8 0), (5, .bool false)]) (φ := True) (rest := []) h5 (by kernel_rfl) rfl trivial fun a8 h9 => ?_
  clear h5
  refine nd_done ?_
  refine hK1 _ _ ?_
  clear hK1
  refine wp_seq_k fun K10 hK10 => ?_
  refine nd_start (l := [0, 1, 2, 3, 4, 5]) rfl ?_
  refine nd_batch tabOk2 tabZ_ok2 [(0, {}), (1, {}), (2, {})] [3, 0, 1, 4, 5, 44] (T' := [(3, .pointer (some ⟨b2, 0, none⟩)), (0, .pointer (some ⟨mb, 0, none⟩)), (1, .agg #[.int .u8 4, .int .u32 ev.pick, .int .u64 ev.draw, .int .u32 ev.addr, .int .u32 ev.node, .int .u32 ev.dst, .int .u32 ev.xfer, .int .u8 ev.ty, .int .u64 ev.arg, .int .u64 ev.badge, .slice xo ev.ws.length cx]), (4, .int .u8 0), (5, .bool false), (44, .pointer (some ⟨mb, 13, none⟩))]) (φ := True) (rest := [3, 4, 5]) h9 (by kernel_rfl) rfl trivial fun a11 h12 => ?_
  clear h9
  refine nd_op ?_
  refine op_read (b := mb) (v := .agg #[.int .u16 ((Z.ky x).idx), .int .u32 ((Z.ky x).gen)]) h12 rfl rfl (rd_mA h12 (k := 13) (vs := [.int .u16 ((Z.ky x).idx), .int .u32 ((Z.ky x).gen)]) rfl rfl rfl rfl rfl (by rw [← hcx]; exact md_cur)) ?_
  have h13 := h12.put (d := some 45) (v := .agg #[.int .u16 ((Z.ky x).idx), .int .u32 ((Z.ky x).gen)]) (T' := [(45, .agg #[.int .u16 ((Z.ky x).idx), .int .u32 ((Z.ky x).gen)]), (3, .pointer (some ⟨b2, 0, none⟩)), (0, .pointer (some ⟨mb, 0, none⟩)), (1, .agg #[.int .u8 4, .int .u32 ev.pick, .int .u64 ev.draw, .int .u32 ev.addr, .int .u32 ev.node, .int .u32 ev.dst, .int .u32 ev.xfer, .int .u8 ev.ty, .int .u64 ev.arg, .int .u64 ev.badge, .slice xo ev.ws.length cx]), (4, .int .u8 0), (5, .bool false), (44, .pointer (some ⟨mb, 13, none⟩))]) rfl
  clear h12
  refine nd_op ?_
  refine op_new tabOk2 (cells := [.int .u16 0, .int .u32 0]) (ty := 39) (ln := none) (L1 := fun b14 => [(3, ⟨[.int .u16 0, .int .u32 0], ty3, true⟩), (b2, ⟨[.int .u8 4, .int .u32 ev.pick, .int .u64 ev.draw, .int .u32 ev.addr, .int .u32 ev.node, .int .u32 ev.dst, .int .u32 ev.xfer, .int .u8 ev.ty, .int .u64 ev.arg, .int .u64 ev.badge, .slice xo ev.ws.length cx], 35, false⟩), (b14, ⟨[.int .u16 0, .int .u32 0], 39, false⟩)]) h13 rfl rfl rfl rfl (by kernel_rfl) (fun _ => rfl) fun b14 w15 a16 h17 hf18 hn19 => ?_
  clear h13
  refine nd_op ?_
  refine op_store tabOk2 {k := 2} (L' := [(3, ⟨[.int .u16 0, .int .u32 0], ty3, true⟩), (b2, ⟨[.int .u8 4, .int .u32 ev.pick, .int .u64 ev.draw, .int .u32 ev.addr, .int .u32 ev.node, .int .u32 ev.dst, .int .u32 ev.xfer, .int .u8 ev.ty, .int .u64 ev.arg, .int .u64 ev.badge, .slice xo ev.ws.length cx], 35, false⟩), (b14, ⟨[.int .u16 ((Z.ky x).idx), .int .u32 ((Z.ky x).gen)], 39, false⟩)]) (φ := b14 = b14 ∧ Nat.ble (0 + 2) 2 = true) h17 rfl rfl rfl (by kernel_rfl) ⟨rfl, rfl⟩ fun w20 h21 => ?_
  clear h17
  refine nd_done ?_
  refine hK10 _ _ ?_
  clear hK10
  refine wp_seq_k fun K22 hK22 => ?_
  refine dr_start (KB := [3, b2, b14, mb, Z.tb]) (Bi := [[0, 1, 2, 3, 4], [0, 1, 2, 3, 4], [0, 1, 2, 3, 4], [0, 1, 2, 3, 4], [0, 1, 2, 3, 4], [0, 1, 2, 3, 4], [0, 1, 2, 3, 4]]) mixed h21 fun w23 h24 => ?_
  clear h21
  refine dr_batch tabOk2 tabZ_ok2 (by repeat (first | with_reducible exact PF.body | with_reducible apply PF.inB | with_reducible apply PF.next)) [(0, {}), (1, {}), (2, {})] [6, 3, 0, 1, 4, 5, 48] (T' := [(6, .pointer (some ⟨b14, 0, none⟩)), (3, .pointer (some ⟨b2, 0, none⟩)), (0, .pointer (some ⟨mb, 0, none⟩)), (1, .agg #[.int .u8 4, .int .u32 ev.pick, .int .u64 ev.draw, .int .u32 ev.addr, .int .u32 ev.node, .int .u32 ev.dst, .int .u32 ev.xfer, .int .u8 ev.ty, .int .u64 ev.arg, .int .u64 ev.badge, .slice xo ev.ws.length cx]), (4, .int .u8 0), (5, .bool false), (48, .pointer (some ⟨mb, 2, none⟩))]) (φ := True) (fuel := 4) h24 (by kernel_rfl) rfl (by kernel_rfl) (by kernel_rfl) ⟨trivial, trivial, trivial, trivial⟩ trivial fun a26 h27 => ?_
  clear h24
  refine dr_read (i := 3) (b := mb) (p := 3) (v := .map (some Z.tb)) (fuel := 3) (by repeat (first | with_reducible exact PF.body | with_reducible apply PF.inB | with_reducible apply PF.next)) h27 rfl rfl rfl (by kernel_rfl) (by kernel_rfl) (by kernel_rfl) rfl (rd_m h27 (k := 2) (v := .map (some Z.tb)) rfl rfl rfl rfl (md_p ⟨rfl, trivial⟩)) ?_
  have h28 := h27.put (d := some 49) (v := .map (some Z.tb)) (T' := [(49, .map (some Z.tb)), (6, .pointer (some ⟨b14, 0, none⟩)), (3, .pointer (some ⟨b2, 0, none⟩)), (0, .pointer (some ⟨mb, 0, none⟩)), (1, .agg #[.int .u8 4, .int .u32 ev.pick, .int .u64 ev.draw, .int .u32 ev.addr, .int .u32 ev.node, .int .u32 ev.dst, .int .u32 ev.xfer, .int .u8 ev.ty, .int .u64 ev.arg, .int .u64 ev.badge, .slice xo ev.ws.length cx]), (4, .int .u8 0), (5, .bool false), (48, .pointer (some ⟨mb, 2, none⟩))]) rfl
  clear h27
  refine dr_batch tabOk2 tabZ_ok2 (by repeat (first | with_reducible exact PF.body | with_reducible apply PF.inB | with_reducible apply PF.next)) [(4, {k := 2, p := 2})] [49, 6, 3, 0, 1, 4, 5, 50] (T' := [(49, .map (some Z.tb)), (6, .pointer (some ⟨b14, 0, none⟩)), (3, .pointer (some ⟨b2, 0, none⟩)), (0, .pointer (some ⟨mb, 0, none⟩)), (1, .agg #[.int .u8 4, .int .u32 ev.pick, .int .u64 ev.draw, .int .u32 ev.addr, .int .u32 ev.node, .int .u32 ev.dst, .int .u32 ev.xfer, .int .u8 ev.ty, .int .u64 ev.arg, .int .u64 ev.badge, .slice xo ev.ws.length cx]), (4, .int .u8 0), (5, .bool false), (50, .agg #[.int .u16 ((Z.ky x).idx), .int .u32 ((Z.ky x).gen)])]) (φ := (b14 = b14 ∧ Nat.ble (0 + 2) 2 = true) ∧ True) (fuel := 2) h28 (by kernel_rfl) rfl (by kernel_rfl) (by kernel_rfl) ⟨rfl, trivial⟩ ⟨⟨rfl, rfl⟩, trivial⟩ fun a29 h30 => ?_
  clear h28
  refine dr_read (i := 5) (b := Z.tb) (p := 4) (v := .pointer (some ⟨(Z.tp x), 0, none⟩)) (fuel := 1) (by repeat (first | with_reducible exact PF.body | with_reducible apply PF.inB | with_reducible apply PF.next)) h30 rfl rfl rfl (by kernel_rfl) (by kernel_rfl) (by kernel_rfl) rfl (rd_T h30 (x := x) hx rfl rfl rfl) ?_
  have h31 := h30.put (d := some 51) (v := .pointer (some ⟨(Z.tp x), 0, none⟩)) (T' := [(51, .pointer (some ⟨(Z.tp x), 0, none⟩)), (49, .map (some Z.tb)), (6, .pointer (some ⟨b14, 0, none⟩)), (3, .pointer (some ⟨b2, 0, none⟩)), (0, .pointer (some ⟨mb, 0, none⟩)), (1, .agg #[.int .u8 4, .int .u32 ev.pick, .int .u64 ev.draw, .int .u32 ev.addr, .int .u32 ev.node, .int .u32 ev.dst, .int .u32 ev.xfer, .int .u8 ev.ty, .int .u64 ev.arg, .int .u64 ev.badge, .slice xo ev.ws.length cx]), (4, .int .u8 0), (5, .bool false), (50, .agg #[.int .u16 ((Z.ky x).idx), .int .u32 ((Z.ky x).gen)])]) rfl
  clear h30
  refine dr_batch tabOk2 tabZ_ok2 (by repeat (first | with_reducible exact PF.body | with_reducible apply PF.inB | with_reducible apply PF.next)) [(6, {})] [6, 3, 0, 1, 4, 5, 7] (T' := [(6, .pointer (some ⟨b14, 0, none⟩)), (3, .pointer (some ⟨b2, 0, none⟩)), (0, .pointer (some ⟨mb, 0, none⟩)), (1, .agg #[.int .u8 4, .int .u32 ev.pick, .int .u64 ev.draw, .int .u32 ev.addr, .int .u32 ev.node, .int .u32 ev.dst, .int .u32 ev.xfer, .int .u8 ev.ty, .int .u64 ev.arg, .int .u64 ev.badge, .slice xo ev.ws.length cx]), (4, .int .u8 0), (5, .bool false), (7, .pointer (some ⟨(Z.tp x), 0, none⟩))]) (φ := True) (fuel := 0) h31 (by kernel_rfl) rfl (by kernel_rfl) (by kernel_rfl) ⟨trivial, trivial⟩ trivial fun a32 h33 => ?_
  clear h31
  refine wpAnyK_done (by kernel_rfl) ?_ _
  refine hK22 _ _ ?_
  clear hK22
  refine wp_seq_k fun K34 hK34 => ?_
  refine wp_seq_k fun K35 hK35 => ?_
  refine nd_start (l := [0, 1]) rfl ?_
  refine nd_batch tabOk2 tabZ_ok2 [(0, {}), (1, {k := 1})] [6, 3, 0, 1, 4, 5, 7, 53] (T' := [(6, .pointer (some ⟨b14, 0, none⟩)), (3, .pointer (some ⟨b2, 0, none⟩)), (0, .pointer (some ⟨mb, 0, none⟩)), (1, .agg #[.int .u8 4, .int .u32 ev.pick, .int .u64 ev.draw, .int .u32 ev.addr, .int .u32 ev.node, .int .u32 ev.dst, .int .u32 ev.xfer, .int .u8 ev.ty, .int .u64 ev.arg, .int .u64 ev.badge, .slice xo ev.ws.length cx]), (4, .int .u8 0), (5, .bool false), (7, .pointer (some ⟨(Z.tp x), 0, none⟩)), (53, .int .u8 4)]) (φ := (b2 = b2 ∧ Nat.ble (0 + 1) 11 = true) ∧ True) (rest := []) h33 (by kernel_rfl) rfl ⟨⟨rfl, rfl⟩, trivial⟩ fun a36 h37 => ?_
  clear h33
  refine nd_done ?_
  refine hK35 _ _ ?_
  clear hK35
  refine wp_block ?_
  refine wp_seq_k fun K38 hK38 => ?_
  refine nd_start (l := [0, 1]) rfl ?_
  refine nd_batch tabOk2 tabZ_ok2 [(0, {}), (1, {})] [6, 3, 0, 1, 4, 5, 7, 53, 54] (T' := [(6, .pointer (some ⟨b14, 0, none⟩)), (3, .pointer (some ⟨b2, 0, none⟩)), (0, .pointer (some ⟨mb, 0, none⟩)), (1, .agg #[.int .u8 4, .int .u32 ev.pick, .int .u64 ev.draw, .int .u32 ev.addr, .int .u32 ev.node, .int .u32 ev.dst, .int .u32 ev.xfer, .int .u8 ev.ty, .int .u64 ev.arg, .int .u64 ev.badge, .slice xo ev.ws.length cx]), (4, .int .u8 0), (5, .bool false), (7, .pointer (some ⟨(Z.tp x), 0, none⟩)), (53, .int .u8 4), (54, .bool false)]) (φ := True) (rest := []) h37 (by kernel_rfl) rfl trivial fun a39 h40 => ?_
  clear h37
  refine nd_done ?_
  refine hK38 _ _ ?_
  clear hK38
  refine c_false h40 rfl ?_
  refine wp_seq_k fun K41 hK41 => ?_
  refine nd_start (l := [0, 1]) rfl ?_
  refine nd_batch tabOk2 tabZ_ok2 [(0, {}), (1, {})] [6, 3, 0, 1, 4, 5, 7, 53, 59] (T' := [(6, .pointer (some ⟨b14, 0, none⟩)), (3, .pointer (some ⟨b2, 0, none⟩)), (0, .pointer (some ⟨mb, 0, none⟩)), (1, .agg #[.int .u8 4, .int .u32 ev.pick, .int .u64 ev.draw, .int .u32 ev.addr, .int .u32 ev.node, .int .u32 ev.dst, .int .u32 ev.xfer, .int .u8 ev.ty, .int .u64 ev.arg, .int .u64 ev.badge, .slice xo ev.ws.length cx]), (4, .int .u8 0), (5, .bool false), (7, .pointer (some ⟨(Z.tp x), 0, none⟩)), (53, .int .u8 4), (59, .bool false)]) (φ := True) (rest := []) h40 (by kernel_rfl) rfl trivial fun a42 h43 => ?_
  clear h40
  refine nd_done ?_
  refine hK41 _ _ ?_
  clear hK41
  refine c_false h43 rfl ?_
  refine wp_seq_k fun K44 hK44 => ?_
  refine wp_seq_k fun K45 hK45 => ?_
  refine nd_start (l := [0, 1]) rfl ?_
  refine nd_batch tabOk2 tabZ_ok2 [(0, {}), (1, {})] [6, 3, 0, 1, 4, 5, 7, 53, 66] (T' := [(6, .pointer (some ⟨b14, 0, none⟩)), (3, .pointer (some ⟨b2, 0, none⟩)), (0, .pointer (some ⟨mb, 0, none⟩)), (1, .agg #[.int .u8 4, .int .u32 ev.pick, .int .u64 ev.draw, .int .u32 ev.addr, .int .u32 ev.node, .int .u32 ev.dst, .int .u32 ev.xfer, .int .u8 ev.ty, .int .u64 ev.arg, .int .u64 ev.badge, .slice xo ev.ws.length cx]), (4, .int .u8 0), (5, .bool false), (7, .pointer (some ⟨(Z.tp x), 0, none⟩)), (53, .int .u8 4), (66, .bool true)]) (φ := True) (rest := []) h43 (by kernel_rfl) rfl trivial fun a46 h47 => ?_
  clear h43
  refine nd_done ?_
  refine hK45 _ _ ?_
  clear hK45
  refine c_true h47 rfl ?_
  refine wp_skip ?_
  refine hK44 _ _ ?_
  clear hK44
  refine c_true h47 rfl ?_
  refine wp_seq_k fun K48 hK48 => ?_
  refine nd_start (l := [0, 1, 2, 3, 4, 5, 6, 7, 8, 9]) rfl ?_
  refine nd_batch tabOk2 tabZ_ok2 [(0, {}), (1, {}), (2, {k := 1})] [6, 3, 0, 1, 4, 5, 7, 53, 66, 70, 72] (T' := [(6, .pointer (some ⟨b14, 0, none⟩)), (3, .pointer (some ⟨b2, 0, none⟩)), (0, .pointer (some ⟨mb, 0, none⟩)), (1, .agg #[.int .u8 4, .int .u32 ev.pick, .int .u64 ev.draw, .int .u32 ev.addr, .int .u32 ev.node, .int .u32 ev.dst, .int .u32 ev.xfer, .int .u8 ev.ty, .int .u64 ev.arg, .int .u64 ev.badge, .slice xo ev.ws.length cx]), (4, .int .u8 0), (5, .bool false), (7, .pointer (some ⟨(Z.tp x), 0, none⟩)), (53, .int .u8 4), (66, .bool true), (70, .pointer (some ⟨mb, 0, none⟩)), (72, .int .u32 ev.addr)]) (φ := (b2 = b2 ∧ Nat.ble (3 + 1) 11 = true) ∧ True) (rest := [3, 4, 5, 6, 7, 8, 9]) h47 (by kernel_rfl) rfl ⟨⟨rfl, rfl⟩, trivial⟩ fun a49 h50 => ?_
  clear h47
  refine nd_op ?_
  refine op_call h50 rfl rfl rfl (callOk Tryd.func90 (by decide) rfl) (args := [.pointer (some ⟨mb, 0, none⟩), .int .u32 ev.addr, .int .u8 4, .int .u8 2]) rfl (capOf_ok mb Z _ a C x hx hcx hci hcn hI.ci ev.addr 4 2 he.addr _ (mh_of h50 hho (k := 0) rfl) hf) ?_
  rintro _ w51 ⟨rfl, hg53⟩
  refine ⟨_, rfl, ?_⟩
  have h54a := st_mg h50 hg53 (kcons (fun _ => rfl) (kcons (fun hq => by cases hq) (kcons (fun hq => by cases hq) knil)))
  have h54 := h54a.put (d := some 73) (v := .tuple #[.agg #[.int .u8 ct, .int .u16 ((Z.ky i).idx), .int .u32 ((Z.ky i).gen), .int .u8 rt, .int .u64 bd], .int .u8 0]) (T' := [(73, .tuple #[.agg #[.int .u8 ct, .int .u16 ((Z.ky i).idx), .int .u32 ((Z.ky i).gen), .int .u8 rt, .int .u64 bd], .int .u8 0]), (6, .pointer (some ⟨b14, 0, none⟩)), (3, .pointer (some ⟨b2, 0, none⟩)), (0, .pointer (some ⟨mb, 0, none⟩)), (1, .agg #[.int .u8 4, .int .u32 ev.pick, .int .u64 ev.draw, .int .u32 ev.addr, .int .u32 ev.node, .int .u32 ev.dst, .int .u32 ev.xfer, .int .u8 ev.ty, .int .u64 ev.arg, .int .u64 ev.badge, .slice xo ev.ws.length cx]), (4, .int .u8 0), (5, .bool false), (7, .pointer (some ⟨(Z.tp x), 0, none⟩)), (53, .int .u8 4), (66, .bool true), (70, .pointer (some ⟨mb, 0, none⟩)), (72, .int .u32 ev.addr)]) rfl
  have hhoh54 := hg53.mh.ho
  clear h50 h54a
  refine nd_batch tabOk2 tabZ_ok2 [(4, {}), (5, {}), (6, {})] [6, 3, 0, 1, 4, 5, 7, 53, 66, 74, 75] (T' := [(6, .pointer (some ⟨b14, 0, none⟩)), (3, .pointer (some ⟨b2, 0, none⟩)), (0, .pointer (some ⟨mb, 0, none⟩)), (1, .agg #[.int .u8 4, .int .u32 ev.pick, .int .u64 ev.draw, .int .u32 ev.addr, .int .u32 ev.node, .int .u32 ev.dst, .int .u32 ev.xfer, .int .u8 ev.ty, .int .u64 ev.arg, .int .u64 ev.badge, .slice xo ev.ws.length cx]), (4, .int .u8 0), (5, .bool false), (7, .pointer (some ⟨(Z.tp x), 0, none⟩)), (53, .int .u8 4), (66, .bool true), (74, .agg #[.int .u8 ct, .int .u16 ((Z.ky i).idx), .int .u32 ((Z.ky i).gen), .int .u8 rt, .int .u64 bd]), (75, .int .u8 0)]) (φ := True) (rest := [7, 8, 9]) h54 (by kernel_rfl) rfl trivial fun a55 h56 => ?_
  clear h54
  refine nd_op ?_
  refine op_new tabOk2 (cells := [.int .u8 0, .int .u16 0, .int .u32 0, .int .u8 0, .int .u64 0]) (ty := 49) (ln := none) (L1 := fun b57 => [(3, ⟨[.int .u16 0, .int .u32 0], ty3, true⟩), (b2, ⟨[.int .u8 4, .int .u32 ev.pick, .int .u64 ev.draw, .int .u32 ev.addr, .int .u32 ev.node, .int .u32 ev.dst, .int .u32 ev.xfer, .int .u8 ev.ty, .int .u64 ev.arg, .int .u64 ev.badge, .slice xo ev.ws.length cx], 35, false⟩), (b14, ⟨[.int .u16 ((Z.ky x).idx), .int .u32 ((Z.ky x).gen)], 39, false⟩), (b57, ⟨[.int .u8 0, .int .u16 0, .int .u32 0, .int .u8 0, .int .u64 0], 49, false⟩)]) h56 rfl rfl rfl rfl (by kernel_rfl) (fun _ => rfl) fun b57 w58 a59 h60 hf61 hn62 => ?_
  clear h56
  refine nd_op ?_
  refine op_store tabOk2 {k := 3} (L' := [(3, ⟨[.int .u16 0, .int .u32 0], ty3, true⟩), (b2, ⟨[.int .u8 4, .int .u32 ev.pick, .int .u64 ev.draw, .int .u32 ev.addr, .int .u32 ev.node, .int .u32 ev.dst, .int .u32 ev.xfer, .int .u8 ev.ty, .int .u64 ev.arg, .int .u64 ev.badge, .slice xo ev.ws.length cx], 35, false⟩), (b14, ⟨[.int .u16 ((Z.ky x).idx), .int .u32 ((Z.ky x).gen)], 39, false⟩), (b57, ⟨[.int .u8 ct, .int .u16 ((Z.ky i).idx), .int .u32 ((Z.ky i).gen), .int .u8 rt, .int .u64 bd], 49, false⟩)]) (φ := b57 = b57 ∧ Nat.ble (0 + 5) 5 = true) h60 rfl rfl rfl (by kernel_rfl) ⟨rfl, rfl⟩ fun w63 h64 => ?_
  clear h60
  refine nd_batch tabOk2 tabZ_ok2 [(9, {})] [8, 6, 3, 0, 1, 4, 5, 7, 53, 66, 9] (T' := [(8, .pointer (some ⟨b57, 0, none⟩)), (6, .pointer (some ⟨b14, 0, none⟩)), (3, .pointer (some ⟨b2, 0, none⟩)), (0, .pointer (some ⟨mb, 0, none⟩)), (1, .agg #[.int .u8 4, .int .u32 ev.pick, .int .u64 ev.draw, .int .u32 ev.addr, .int .u32 ev.node, .int .u32 ev.dst, .int .u32 ev.xfer, .int .u8 ev.ty, .int .u64 ev.arg, .int .u64 ev.badge, .slice xo ev.ws.length cx]), (4, .int .u8 0), (5, .bool false), (7, .pointer (some ⟨(Z.tp x), 0, none⟩)), (53, .int .u8 4), (66, .bool true), (9, .int .u8 0)]) (φ := True) (rest := []) h64 (by kernel_rfl) rfl trivial fun a65 h66 => ?_
  clear h64
  refine nd_done ?_
  refine hK48 _ _ ?_
  clear hK48
  refine wp_seq_k fun K67 hK67 => ?_
  refine wp_seq_k fun K68 hK68 => ?_
  refine nd_start (l := [0, 1]) rfl ?_
  refine nd_batch tabOk2 tabZ_ok2 [(0, {}), (1, {})] [8, 6, 3, 0, 1, 4, 5, 7, 53, 66, 9, 77] (T' := [(8, .pointer (some ⟨b57, 0, none⟩)), (6, .pointer (some ⟨b14, 0, none⟩)), (3, .pointer (some ⟨b2, 0, none⟩)), (0, .pointer (some ⟨mb, 0, none⟩)), (1, .agg #[.int .u8 4, .int .u32 ev.pick, .int .u64 ev.draw, .int .u32 ev.addr, .int .u32 ev.node, .int .u32 ev.dst, .int .u32 ev.xfer, .int .u8 ev.ty, .int .u64 ev.arg, .int .u64 ev.badge, .slice xo ev.ws.length cx]), (4, .int .u8 0), (5, .bool false), (7, .pointer (some ⟨(Z.tp x), 0, none⟩)), (53, .int .u8 4), (66, .bool true), (9, .int .u8 0), (77, .bool false)]) (φ := True) (rest := []) h66 (by kernel_rfl) rfl trivial fun a69 h70 => ?_
  clear h66
  refine nd_done ?_
  refine hK68 _ _ ?_
  clear hK68
  refine c_false h70 rfl ?_
  refine wp_skip ?_
  refine hK67 _ _ ?_
  clear hK67
  refine wp_seq_k fun K71 hK71 => ?_
  refine wp_seq_k fun K72 hK72 => ?_
  refine nd_start (l := [0, 1, 2, 3]) rfl ?_
  refine nd_batch tabOk2 tabZ_ok2 [(0, {}), (1, {k := 1}), (2, {}), (3, {})] [8, 6, 3, 0, 1, 4, 5, 7, 53, 66, 9, 82] (T' := [(8, .pointer (some ⟨b57, 0, none⟩)), (6, .pointer (some ⟨b14, 0, none⟩)), (3, .pointer (some ⟨b2, 0, none⟩)), (0, .pointer (some ⟨mb, 0, none⟩)), (1, .agg #[.int .u8 4, .int .u32 ev.pick, .int .u64 ev.draw, .int .u32 ev.addr, .int .u32 ev.node, .int .u32 ev.dst, .int .u32 ev.xfer, .int .u8 ev.ty, .int .u64 ev.arg, .int .u64 ev.badge, .slice xo ev.ws.length cx]), (4, .int .u8 0), (5, .bool false), (7, .pointer (some ⟨(Z.tp x), 0, none⟩)), (53, .int .u8 4), (66, .bool true), (9, .int .u8 0), (82, .bool (decide (((ev.ws.length : Nat) : Int) > 4)))]) (φ := (b2 = b2 ∧ Nat.ble (10 + 1) 11 = true) ∧ True) (rest := []) h70 (by kernel_rfl) rfl ⟨⟨rfl, rfl⟩, trivial⟩ fun a73 h74 => ?_
  clear h70
  refine nd_done ?_
  refine hK72 _ _ ?_
  clear hK72
  refine c_split h74 (b := decide (((ev.ws.length : Nat) : Int) > 4)) rfl (fun hc75 => ?_) (fun hc75 => ?_)
  ·
    have hc75f : ((ev.ws.length : Nat) : Int) > 4 := by simpa using hc75
    refine wp_seq_k fun K76 hK76 => ?_
    refine nd_start (l := [0, 1]) rfl ?_
    refine nd_batch tabOk2 tabZ_ok2 [(0, {}), (1, {})] [8, 6, 3, 0, 1, 7, 53, 66, 9, 4, 5] (T' := [(8, .pointer (some ⟨b57, 0, none⟩)), (6, .pointer (some ⟨b14, 0, none⟩)), (3, .pointer (some ⟨b2, 0, none⟩)), (0, .pointer (some ⟨mb, 0, none⟩)), (1, .agg #[.int .u8 4, .int .u32 ev.pick, .int .u64 ev.draw, .int .u32 ev.addr, .int .u32 ev.node, .int .u32 ev.dst, .int .u32 ev.xfer, .int .u8 ev.ty, .int .u64 ev.arg, .int .u64 ev.badge, .slice xo ev.ws.length cx]), (7, .pointer (some ⟨(Z.tp x), 0, none⟩)), (53, .int .u8 4), (66, .bool true), (9, .int .u8 0), (4, .int .u8 8), (5, .bool false)]) (φ := True) (rest := []) h74 (by kernel_rfl) rfl trivial fun a77 h78 => ?_
    clear h74
    refine nd_done ?_
    refine hK76 _ _ ?_
    clear hK76
    refine wp_ret ?_
    try simp only [Exit.then, Exit.inBlock]
    try rw [if_pos trivial]
    exact s_ret tabOk2 tabZ_ok2 h78 [(.tmp 4, {}), (.tmp 5, {})] (vs := [.int .u8 8, .bool false]) (φ := True) rfl (by kernel_rfl) trivial ⟨rfl, _, mg_end hH h78 hhoh54 rfl⟩
  ·
    have hc75f : ¬ ((ev.ws.length : Nat) : Int) > 4 := by simpa using hc75
    exact absurd (hwl) (by first | exact hc75f | (intro hz; exact hc75f hz) | omega | simp_all)

theorem call4q (mb : Nat) (Z : MZ) (R : MR) (a : AK) (C : CP) (hI : MI Z a C) (x : Nat) (hx : x ∈ sl Z.tl) (hcu : a.cur = (x : Int)) (ev : Ev) (he : EvOk ev) (xo : Option Addr) (cx : Nat) (i : Nat) (hi : i ∈ sl Z.ql) (ct rt bd cs0 : Int) (hf : findA a C ev.addr 4 2 = (⟨ct, Z.ky i, rt, bd⟩, cs0, 0)) (hwl : ¬ (ev.ws.length : Int) > 4) (a5 : AK) (h5 : a5 = a.setT x { msgA (a.th x) ev.ws with badge := bd, xfer := ev.xfer, grant := (bitI .and .u8 rt 4 != 0), call := false }) (ho : oldestA a5 (Z.ky i) 4 = -1) (w : World) (hH : MH mb Z R a C w) (hws : WordsAt (mdF mb Z R C) w xo ev.ws) :
    Calls Tryd.prog 55 #[.pointer (some ⟨mb, 0, none⟩), .agg #[.int .u8 4, .int .u32 ev.pick, .int .u64 ev.draw, .int .u32 ev.addr, .int .u32 ev.node, .int .u32 ev.dst, .int .u32 ev.xfer, .int .u8 ev.ty, .int .u64 ev.arg, .int .u64 ev.badge, .slice xo ev.ws.length cx]] w fun e w' => e = .returned (.tuple #[.int .u8 0, .bool false]) ∧ ∃ R', MG mb Z R C w Z R' (blockA a5 x 3 (Z.ky i)) C w' := by
  have hP := hI.mp
  have hcx : curR Z a = Z.ky x := curR_of hcu
  have hcn : a.cur.toNat = x := by rw [hcu]; exact Int.toNat_natCast x
  have hci := (hI.tk x hx).ci
  have hf5 : firstR Z a5 i 4 = ⟨0, 0⟩ := by rw [firstR_old hH.md.k (hH.md.k.qx i hi), ho]; rfl
  obtain ⟨ty3, hg3⟩ := hH.g3
  have hho := hH.ho
  have hkk := hH.md.k
  refine enter (n := 628) (K := mdF mb Z R C) (A := MD (mdF mb Z R C) w.heap.size mb Z R a C) (F := mdF mb Z R C) (T := [(0, .pointer (some ⟨mb, 0, none⟩)), (1, .agg #[.int .u8 4, .int .u32 ev.pick, .int .u64 ev.draw, .int .u32 ev.addr, .int .u32 ev.node, .int .u32 ev.dst, .int .u32 ev.xfer, .int .u8 ev.ty, .int .u64 ev.arg, .int .u64 ev.badge, .slice xo ev.ws.length cx])]) (L := [(3, ⟨[.int .u16 0, .int .u32 0], ty3, true⟩)]) (args := [.pointer (some ⟨mb, 0, none⟩), .agg #[.int .u8 4, .int .u32 ev.pick, .int .u64 ev.draw, .int .u32 ev.addr, .int .u32 ev.node, .int .u32 ev.dst, .int .u32 ev.xfer, .int .u8 ev.ty, .int .u64 ev.arg, .int .u64 ev.badge, .slice xo ev.ws.length cx]]) Tryd.func55 rfl rfl rfl rfl (kcons hg3 knil) (by simp) (kcons (by intro hq; cases hq) knil) hH.mD MD.stable hH.md.low (kcons (by intro hq; cases hq) knil) ?_
  intro ac h
  refine wp_seq_k fun K1 hK1 => ?_
  refine nd_start (l := [0, 1, 2]) rfl ?_
  refine nd_op ?_
  refine op_new tabOk2 (cells := [.int .u8 4, .int .u32 ev.pick, .int .u64 ev.draw, .int .u32 ev.addr, .int .u32 ev.node, .int .u32 ev.dst, .int .u32 ev.xfer, .int .u8 ev.ty, .int .u64 ev.arg, .int .u64 ev.badge, .slice xo ev.ws.length cx]) (ty := 35) (ln := none) (L1 := fun b2 => [(3, ⟨[.int .u16 0, .int .u32 0], ty3, true⟩), (b2, ⟨[.int .u8 4, .int .u32 ev.pick, .int .u64 ev.draw, .int .u32 ev.addr, .int .u32 ev.node, .int .u32 ev.dst, .int .u32 ev.xfer, .int .u8 ev.ty, .int .u64 ev.arg, .int .u64 ev.badge, .slice xo ev.ws.length cx], 35, false⟩)]) h rfl rfl rfl rfl (by kernel_rfl) (fun _ => rfl) fun b2 w3 a4 h5 hf6 hn7 => ?_
  clear h
  refine nd_batch tabOk2 tabZ_ok2 [(1, {}), (2, {})] [3, 0, 1, 4, 5] (T' := [(3, .pointer (some ⟨b2, 0, none⟩)), (0, .pointer (some ⟨mb, 0, none⟩)), (1, .agg #[.int .u8 4, .int .u32 ev.pick, .int .u64 ev.draw, .int .u32 ev.addr, .int .u32 ev.node, .int .u32 ev.dst, .int .u32 ev.xfer, .int .u8 ev.ty, .int .u64 ev.arg, .int .u64 ev.badge, .slice xo ev.ws.length cx]), (4, .int .u8 0), (5, .bool false)]) (φ := True) (rest := []) h5 (by kernel_rfl) rfl trivial fun a8 h9 => ?_
  clear h5
  refine nd_done ?_
  refine hK1 _ _ ?_
  clear hK1
  refine wp_seq_k fun K10 hK10 => ?_
  refine nd_start (l := [0, 1, 2, 3, 4, 5]) rfl ?_
  refine nd_batch tabOk2 tabZ_ok2 [(0, {}), (1, {}), (2, {})] [3, 0, 1, 4, 5, 44] (T' := [(3, .pointer (some ⟨b2, 0, none⟩)), (0, .pointer (some ⟨mb, 0, none⟩)), (1, .agg #[.int .u8 4, .int .u32 ev.pick, .int .u64 ev.draw, .int .u32 ev.addr, .int .u32 ev.node, .int .u32 ev.dst, .int .u32 ev.xfer, .int .u8 ev.ty, .int .u64 ev.arg, .int .u64 ev.badge, .slice xo ev.ws.length cx]), (4, .int .u8 0), (5, .bool false), (44, .pointer (some ⟨mb, 13, none⟩))]) (φ := True) (rest := [3, 4, 5]) h9 (by kernel_rfl) rfl trivial fun a11 h12 => ?_
  clear h9
  refine nd_op ?_
  refine op_read (b := mb) (v := .agg #[.int .u16 ((Z.ky x).idx), .int .u32 ((Z.ky x).gen)]) h12 rfl rfl (rd_mA h12 (k := 13) (vs := [.int .u16 ((Z.ky x).idx), .int .u32 ((Z.ky x).gen)]) rfl rfl rfl rfl rfl (by rw [← hcx]; exact md_cur)) ?_
  have h13 := h12.put (d := some 45) (v := .agg #[.int .u16 ((Z.ky x).idx), .int .u32 ((Z.ky x).gen)]) (T' := [(45, .agg #[.int .u16 ((Z.ky x).idx), .int .u32 ((Z.ky x).gen)]), (3, .pointer (some ⟨b2, 0, none⟩)), (0, .pointer (some ⟨mb, 0, none⟩)), (1, .agg #[.int .u8 4, .int .u32 ev.pick, .int .u64 ev.draw, .int .u32 ev.addr, .int .u32 ev.node, .int .u32 ev.dst, .int .u32 ev.xfer, .int .u8 ev.ty, .int .u64 ev.arg, .int .u64 ev.badge, .slice xo ev.ws.length cx]), (4, .int .u8 0), (5, .bool false), (44, .pointer (some ⟨mb, 13, none⟩))]) rfl
  clear h12
  refine nd_op ?_
  refine op_new tabOk2 (cells := [.int .u16 0, .int .u32 0]) (ty := 39) (ln := none) (L1 := fun b14 => [(3, ⟨[.int .u16 0, .int .u32 0], ty3, true⟩), (b2, ⟨[.int .u8 4, .int .u32 ev.pick, .int .u64 ev.draw, .int .u32 ev.addr, .int .u32 ev.node, .int .u32 ev.dst, .int .u32 ev.xfer, .int .u8 ev.ty, .int .u64 ev.arg, .int .u64 ev.badge, .slice xo ev.ws.length cx], 35, false⟩), (b14, ⟨[.int .u16 0, .int .u32 0], 39, false⟩)]) h13 rfl rfl rfl rfl (by kernel_rfl) (fun _ => rfl) fun b14 w15 a16 h17 hf18 hn19 => ?_
  clear h13
  refine nd_op ?_
  refine op_store tabOk2 {k := 2} (L' := [(3, ⟨[.int .u16 0, .int .u32 0], ty3, true⟩), (b2, ⟨[.int .u8 4, .int .u32 ev.pick, .int .u64 ev.draw, .int .u32 ev.addr, .int .u32 ev.node, .int .u32 ev.dst, .int .u32 ev.xfer, .int .u8 ev.ty, .int .u64 ev.arg, .int .u64 ev.badge, .slice xo ev.ws.length cx], 35, false⟩), (b14, ⟨[.int .u16 ((Z.ky x).idx), .int .u32 ((Z.ky x).gen)], 39, false⟩)]) (φ := b14 = b14 ∧ Nat.ble (0 + 2) 2 = true) h17 rfl rfl rfl (by kernel_rfl) ⟨rfl, rfl⟩ fun w20 h21 => ?_
  clear h17
  refine nd_done ?_
  refine hK10 _ _ ?_
  clear hK10
  refine wp_seq_k fun K22 hK22 => ?_
  refine dr_start (KB := [3, b2, b14, mb, Z.tb]) (Bi := [[0, 1, 2, 3, 4], [0, 1, 2, 3, 4], [0, 1, 2, 3, 4], [0, 1, 2, 3, 4], [0, 1, 2, 3, 4], [0, 1, 2, 3, 4], [0, 1, 2, 3, 4]]) mixed h21 fun w23 h24 => ?_
  clear h21
  refine dr_batch tabOk2 tabZ_ok2 (by repeat (first | with_reducible exact PF.body | with_reducible apply PF.inB | with_reducible apply PF.next)) [(0, {}), (1, {}), (2, {})] [6, 3, 0, 1, 4, 5, 48] (T' := [(6, .pointer (some ⟨b14, 0, none⟩)), (3, .pointer (some ⟨b2, 0, none⟩)), (0, .pointer (some ⟨mb, 0, none⟩)), (1, .agg #[.int .u8 4, .int .u32 ev.pick, .int .u64 ev.draw, .int .u32 ev.addr, .int .u32 ev.node, .int .u32 ev.dst, .int .u32 ev.xfer, .int .u8 ev.ty, .int .u64 ev.arg, .int .u64 ev.badge, .slice xo ev.ws.length cx]), (4, .int .u8 0), (5, .bool false), (48, .pointer (some ⟨mb, 2, none⟩))]) (φ := True) (fuel := 4) h24 (by kernel_rfl) rfl (by kernel_rfl) (by kernel_rfl) ⟨trivial, trivial, trivial, trivial⟩ trivial fun a26 h27 => ?_
  clear h24
  refine dr_read (i := 3) (b := mb) (p := 3) (v := .map (some Z.tb)) (fuel := 3) (by repeat (first | with_reducible exact PF.body | with_reducible apply PF.inB | with_reducible apply PF.next)) h27 rfl rfl rfl (by kernel_rfl) (by kernel_rfl) (by kernel_rfl) rfl (rd_m h27 (k := 2) (v := .map (some Z.tb)) rfl rfl rfl rfl (md_p ⟨rfl, trivial⟩)) ?_
  have h28 := h27.put (d := some 49) (v := .map (some Z.tb)) (T' := [(49, .map (some Z.tb)), (6, .pointer (some ⟨b14, 0, none⟩)), (3, .pointer (some ⟨b2, 0, none⟩)), (0, .pointer (some ⟨mb, 0, none⟩)), (1, .agg #[.int .u8 4, .int .u32 ev.pick, .int .u64 ev.draw, .int .u32 ev.addr, .int .u32 ev.node, .int .u32 ev.dst, .int .u32 ev.xfer, .int .u8 ev.ty, .int .u64 ev.arg, .int .u64 ev.badge, .slice xo ev.ws.length cx]), (4, .int .u8 0), (5, .bool false), (48, .pointer (some ⟨mb, 2, none⟩))]) rfl
  clear h27
  refine dr_batch tabOk2 tabZ_ok2 (by repeat (first | with_reducible exact PF.body | with_reducible apply PF.inB | with_reducible apply PF.next)) [(4, {k := 2, p := 2})] [49, 6, 3, 0, 1, 4, 5, 50] (T' := [(49, .map (some Z.tb)), (6, .pointer (some ⟨b14, 0, none⟩)), (3, .pointer (some ⟨b2, 0, none⟩)), (0, .pointer (some ⟨mb, 0, none⟩)), (1, .agg #[.int .u8 4, .int .u32 ev.pick, .int .u64 ev.draw, .int .u32 ev.addr, .int .u32 ev.node, .int .u32 ev.dst, .int .u32 ev.xfer, .int .u8 ev.ty, .int .u64 ev.arg, .int .u64 ev.badge, .slice xo ev.ws.length cx]), (4, .int .u8 0), (5, .bool false), (50, .agg #[.int .u16 ((Z.ky x).idx), .int .u32 ((Z.ky x).gen)])]) (φ := (b14 = b14 ∧ Nat.ble (0 + 2) 2 = true) ∧ True) (fuel := 2) h28 (by kernel_rfl) rfl (by kernel_rfl) (by kernel_rfl) ⟨rfl, trivial⟩ ⟨⟨rfl, rfl⟩, trivial⟩ fun a29 h30 => ?_
  clear h28
  refine dr_read (i := 5) (b := Z.tb) (p := 4) (v := .pointer (some ⟨(Z.tp x), 0, none⟩)) (fuel := 1) (by repeat (first | with_reducible exact PF.body | with_reducible apply PF.inB | with_reducible apply PF.next)) h30 rfl rfl rfl (by kernel_rfl) (by kernel_rfl) (by kernel_rfl) rfl (rd_T h30 (x := x) hx rfl rfl rfl) ?_
  have h31 := h30.put (d := some 51) (v := .pointer (some ⟨(Z.tp x), 0, none⟩)) (T' := [(51, .pointer (some ⟨(Z.tp x), 0, none⟩)), (49, .map (some Z.tb)), (6, .pointer (some ⟨b14, 0, none⟩)), (3, .pointer (some ⟨b2, 0, none⟩)), (0, .pointer (some ⟨mb, 0, none⟩)), (1, .agg #[.int .u8 4, .int .u32 ev.pick, .int .u64 ev.draw, .int .u32 ev.addr, .int .u32 ev.node, .int .u32 ev.dst, .int .u32 ev.xfer, .int .u8 ev.ty, .int .u64 ev.arg, .int .u64 ev.badge, .slice xo ev.ws.length cx]), (4, .int .u8 0), (5, .bool false), (50, .agg #[.int .u16 ((Z.ky x).idx), .int .u32 ((Z.ky x).gen)])]) rfl
  clear h30
  refine dr_batch tabOk2 tabZ_ok2 (by repeat (first | with_reducible exact PF.body | with_reducible apply PF.inB | with_reducible apply PF.next)) [(6, {})] [6, 3, 0, 1, 4, 5, 7] (T' := [(6, .pointer (some ⟨b14, 0, none⟩)), (3, .pointer (some ⟨b2, 0, none⟩)), (0, .pointer (some ⟨mb, 0, none⟩)), (1, .agg #[.int .u8 4, .int .u32 ev.pick, .int .u64 ev.draw, .int .u32 ev.addr, .int .u32 ev.node, .int .u32 ev.dst, .int .u32 ev.xfer, .int .u8 ev.ty, .int .u64 ev.arg, .int .u64 ev.badge, .slice xo ev.ws.length cx]), (4, .int .u8 0), (5, .bool false), (7, .pointer (some ⟨(Z.tp x), 0, none⟩))]) (φ := True) (fuel := 0) h31 (by kernel_rfl) rfl (by kernel_rfl) (by kernel_rfl) ⟨trivial, trivial⟩ trivial fun a32 h33 => ?_
  clear h31
  refine wpAnyK_done (by kernel_rfl) ?_ _
  refine hK22 _ _ ?_
  clear hK22
  refine wp_seq_k fun K34 hK34 => ?_
  refine wp_seq_k fun K35 hK35 => ?_
  refine nd_start (l := [0, 1]) rfl ?_
  refine nd_batch tabOk2 tabZ_ok2 [(0, {}), (1, {k := 1})] [6, 3, 0, 1, 4, 5, 7, 53] (T' := [(6, .pointer (some ⟨b14, 0, none⟩)), (3, .pointer (some ⟨b2, 0, none⟩)), (0, .pointer (some ⟨mb, 0, none⟩)), (1, .agg #[.int .u8 4, .int .u32 ev.pick, .int .u64 ev.draw, .int .u32 ev.addr, .int .u32 ev.node, .int .u32 ev.dst, .int .u32 ev.xfer, .int .u8 ev.ty, .int .u64 ev.arg, .int .u64 ev.badge, .slice xo ev.ws.length cx]), (4, .int .u8 0), (5, .bool false), (7, .pointer (some ⟨(Z.tp x), 0, none⟩)), (53, .int .u8 4)]) (φ := (b2 = b2 ∧ Nat.ble (0 + 1) 11 = true) ∧ True) (rest := []) h33 (by kernel_rfl) rfl ⟨⟨rfl, rfl⟩, trivial⟩ fun a36 h37 => ?_
  clear h33
  refine nd_done ?_
  refine hK35 _ _ ?_
  clear hK35
  refine wp_block ?_
  refine wp_seq_k fun K38 hK38 => ?_
  refine nd_start (l := [0, 1]) rfl ?_
  refine nd_batch tabOk2 tabZ_ok2 [(0, {}), (1, {})] [6, 3, 0, 1, 4, 5, 7, 53, 54] (T' := [(6, .pointer (some ⟨b14, 0, none⟩)), (3, .pointer (some ⟨b2, 0, none⟩)), (0, .pointer (some ⟨mb, 0, none⟩)), (1, .agg #[.int .u8 4, .int .u32 ev.pick, .int .u64 ev.draw, .int .u32 ev.addr, .int .u32 ev.node, .int .u32 ev.dst, .int .u32 ev.xfer, .int .u8 ev.ty, .int .u64 ev.arg, .int .u64 ev.badge, .slice xo ev.ws.length cx]), (4, .int .u8 0), (5, .bool false), (7, .pointer (some ⟨(Z.tp x), 0, none⟩)), (53, .int .u8 4), (54, .bool false)]) (φ := True) (rest := []) h37 (by kernel_rfl) rfl trivial fun a39 h40 => ?_
  clear h37
  refine nd_done ?_
  refine hK38 _ _ ?_
  clear hK38
  refine c_false h40 rfl ?_
  refine wp_seq_k fun K41 hK41 => ?_
  refine nd_start (l := [0, 1]) rfl ?_
  refine nd_batch tabOk2 tabZ_ok2 [(0, {}), (1, {})] [6, 3, 0, 1, 4, 5, 7, 53, 59] (T' := [(6, .pointer (some ⟨b14, 0, none⟩)), (3, .pointer (some ⟨b2, 0, none⟩)), (0, .pointer (some ⟨mb, 0, none⟩)), (1, .agg #[.int .u8 4, .int .u32 ev.pick, .int .u64 ev.draw, .int .u32 ev.addr, .int .u32 ev.node, .int .u32 ev.dst, .int .u32 ev.xfer, .int .u8 ev.ty, .int .u64 ev.arg, .int .u64 ev.badge, .slice xo ev.ws.length cx]), (4, .int .u8 0), (5, .bool false), (7, .pointer (some ⟨(Z.tp x), 0, none⟩)), (53, .int .u8 4), (59, .bool false)]) (φ := True) (rest := []) h40 (by kernel_rfl) rfl trivial fun a42 h43 => ?_
  clear h40
  refine nd_done ?_
  refine hK41 _ _ ?_
  clear hK41
  refine c_false h43 rfl ?_
  refine wp_seq_k fun K44 hK44 => ?_
  refine wp_seq_k fun K45 hK45 => ?_
  refine nd_start (l := [0, 1]) rfl ?_
  refine nd_batch tabOk2 tabZ_ok2 [(0, {}), (1, {})] [6, 3, 0, 1, 4, 5, 7, 53, 66] (T' := [(6, .pointer (some ⟨b14, 0, none⟩)), (3, .pointer (some ⟨b2, 0, none⟩)), (0, .pointer (some ⟨mb, 0, none⟩)), (1, .agg #[.int .u8 4, .int .u32 ev.pick, .int .u64 ev.draw, .int .u32 ev.addr, .int .u32 ev.node, .int .u32 ev.dst, .int .u32 ev.xfer, .int .u8 ev.ty, .int .u64 ev.arg, .int .u64 ev.badge, .slice xo ev.ws.length cx]), (4, .int .u8 0), (5, .bool false), (7, .pointer (some ⟨(Z.tp x), 0, none⟩)), (53, .int .u8 4), (66, .bool true)]) (φ := True) (rest := []) h43 (by kernel_rfl) rfl trivial fun a46 h47 => ?_
  clear h43
  refine nd_done ?_
  refine hK45 _ _ ?_
  clear hK45
  refine c_true h47 rfl ?_
  refine wp_skip ?_
  refine hK44 _ _ ?_
  clear hK44
  refine c_true h47 rfl ?_
  refine wp_seq_k fun K48 hK48 => ?_
  refine nd_start (l := [0, 1, 2, 3, 4, 5, 6, 7, 8, 9]) rfl ?_
  refine nd_batch tabOk2 tabZ_ok2 [(0, {}), (1, {}), (2, {k := 1})] [6, 3, 0, 1, 4, 5, 7, 53, 66, 70, 72] (T' := [(6, .pointer (some ⟨b14, 0, none⟩)), (3, .pointer (some ⟨b2, 0, none⟩)), (0, .pointer (some ⟨mb, 0, none⟩)), (1, .agg #[.int .u8 4, .int .u32 ev.pick, .int .u64 ev.draw, .int .u32 ev.addr, .int .u32 ev.node, .int .u32 ev.dst, .int .u32 ev.xfer, .int .u8 ev.ty, .int .u64 ev.arg, .int .u64 ev.badge, .slice xo ev.ws.length cx]), (4, .int .u8 0), (5, .bool false), (7, .pointer (some ⟨(Z.tp x), 0, none⟩)), (53, .int .u8 4), (66, .bool true), (70, .pointer (some ⟨mb, 0, none⟩)), (72, .int .u32 ev.addr)]) (φ := (b2 = b2 ∧ Nat.ble (3 + 1) 11 = true) ∧ True) (rest := [3, 4, 5, 6, 7, 8, 9]) h47 (by kernel_rfl) rfl ⟨⟨rfl, rfl⟩, trivial⟩ fun a49 h50 => ?_
  clear h47
  refine nd_op ?_
  refine op_call h50 rfl rfl rfl (callOk Tryd.func90 (by decide) rfl) (args := [.pointer (some ⟨mb, 0, none⟩), .int .u32 ev.addr, .int .u8 4, .int .u8 2]) rfl (capOf_ok mb Z _ a C x hx hcx hci hcn hI.ci ev.addr 4 2 he.addr _ (mh_of h50 hho (k := 0) rfl) hf) ?_
  rintro _ w51 ⟨rfl, hg53⟩
  refine ⟨_, rfl, ?_⟩
  have h54a := st_mg h50 hg53 (kcons (fun _ => rfl) (kcons (fun hq => by cases hq) (kcons (fun hq => by cases hq) knil)))
  have h54 := h54a.put (d := some 73) (v := .tuple #[.agg #[.int .u8 ct, .int .u16 ((Z.ky i).idx), .int .u32 ((Z.ky i).gen), .int .u8 rt, .int .u64 bd], .int .u8 0]) (T' := [(73, .tuple #[.agg #[.int .u8 ct, .int .u16 ((Z.ky i).idx), .int .u32 ((Z.ky i).gen), .int .u8 rt, .int .u64 bd], .int .u8 0]), (6, .pointer (some ⟨b14, 0, none⟩)), (3, .pointer (some ⟨b2, 0, none⟩)), (0, .pointer (some ⟨mb, 0, none⟩)), (1, .agg #[.int .u8 4, .int .u32 ev.pick, .int .u64 ev.draw, .int .u32 ev.addr, .int .u32 ev.node, .int .u32 ev.dst, .int .u32 ev.xfer, .int .u8 ev.ty, .int .u64 ev.arg, .int .u64 ev.badge, .slice xo ev.ws.length cx]), (4, .int .u8 0), (5, .bool false), (7, .pointer (some ⟨(Z.tp x), 0, none⟩)), (53, .int .u8 4), (66, .bool true), (70, .pointer (some ⟨mb, 0, none⟩)), (72, .int .u32 ev.addr)]) rfl
  have hhoh54 := hg53.mh.ho
  clear h50 h54a
  refine nd_batch tabOk2 tabZ_ok2 [(4, {}), (5, {}), (6, {})] [6, 3, 0, 1, 4, 5, 7, 53, 66, 74, 75] (T' := [(6, .pointer (some ⟨b14, 0, none⟩)), (3, .pointer (some ⟨b2, 0, none⟩)), (0, .pointer (some ⟨mb, 0, none⟩)), (1, .agg #[.int .u8 4, .int .u32 ev.pick, .int .u64 ev.draw, .int .u32 ev.addr, .int .u32 ev.node, .int .u32 ev.dst, .int .u32 ev.xfer, .int .u8 ev.ty, .int .u64 ev.arg, .int .u64 ev.badge, .slice xo ev.ws.length cx]), (4, .int .u8 0), (5, .bool false), (7, .pointer (some ⟨(Z.tp x), 0, none⟩)), (53, .int .u8 4), (66, .bool true), (74, .agg #[.int .u8 ct, .int .u16 ((Z.ky i).idx), .int .u32 ((Z.ky i).gen), .int .u8 rt, .int .u64 bd]), (75, .int .u8 0)]) (φ := True) (rest := [7, 8, 9]) h54 (by kernel_rfl) rfl trivial fun a55 h56 => ?_
  clear h54
  refine nd_op ?_
  refine op_new tabOk2 (cells := [.int .u8 0, .int .u16 0, .int .u32 0, .int .u8 0, .int .u64 0]) (ty := 49) (ln := none) (L1 := fun b57 => [(3, ⟨[.int .u16 0, .int .u32 0], ty3, true⟩), (b2, ⟨[.int .u8 4, .int .u32 ev.pick, .int .u64 ev.draw, .int .u32 ev.addr, .int .u32 ev.node, .int .u32 ev.dst, .int .u32 ev.xfer, .int .u8 ev.ty, .int .u64 ev.arg, .int .u64 ev.badge, .slice xo ev.ws.length cx], 35, false⟩), (b14, ⟨[.int .u16 ((Z.ky x).idx), .int .u32 ((Z.ky x).gen)], 39, false⟩), (b57, ⟨[.int .u8 0, .int .u16 0, .int .u32 0, .int .u8 0, .int .u64 0], 49, false⟩)]) h56 rfl rfl rfl rfl (by kernel_rfl) (fun _ => rfl) fun b57 w58 a59 h60 hf61 hn62 => ?_
  clear h56
  refine nd_op ?_
  refine op_store tabOk2 {k := 3} (L' := [(3, ⟨[.int .u16 0, .int .u32 0], ty3, true⟩), (b2, ⟨[.int .u8 4, .int .u32 ev.pick, .int .u64 ev.draw, .int .u32 ev.addr, .int .u32 ev.node, .int .u32 ev.dst, .int .u32 ev.xfer, .int .u8 ev.ty, .int .u64 ev.arg, .int .u64 ev.badge, .slice xo ev.ws.length cx], 35, false⟩), (b14, ⟨[.int .u16 ((Z.ky x).idx), .int .u32 ((Z.ky x).gen)], 39, false⟩), (b57, ⟨[.int .u8 ct, .int .u16 ((Z.ky i).idx), .int .u32 ((Z.ky i).gen), .int .u8 rt, .int .u64 bd], 49, false⟩)]) (φ := b57 = b57 ∧ Nat.ble (0 + 5) 5 = true) h60 rfl rfl rfl (by kernel_rfl) ⟨rfl, rfl⟩ fun w63 h64 => ?_
  clear h60
  refine nd_batch tabOk2 tabZ_ok2 [(9, {})] [8, 6, 3, 0, 1, 4, 5, 7, 53, 66, 9] (T' := [(8, .pointer (some ⟨b57, 0, none⟩)), (6, .pointer (some ⟨b14, 0, none⟩)), (3, .pointer (some ⟨b2, 0, none⟩)), (0, .pointer (some ⟨mb, 0, none⟩)), (1, .agg #[.int .u8 4, .int .u32 ev.pick, .int .u64 ev.draw, .int .u32 ev.addr, .int .u32 ev.node, .int .u32 ev.dst, .int .u32 ev.xfer, .int .u8 ev.ty, .int .u64 ev.arg, .int .u64 ev.badge, .slice xo ev.ws.length cx]), (4, .int .u8 0), (5, .bool false), (7, .pointer (some ⟨(Z.tp x), 0, none⟩)), (53, .int .u8 4), (66, .bool true), (9, .int .u8 0)]) (φ := True) (rest := []) h64 (by kernel_rfl) rfl trivial fun a65 h66 => ?_
  clear h64
  refine nd_done ?_
  refine hK48 _ _ ?_
  clear hK48
  refine wp_seq_k fun K67 hK67 => ?_
  refine wp_seq_k fun K68 hK68 => ?_
  refine nd_start (l := [0, 1]) rfl ?_
  refine nd_batch tabOk2 tabZ_ok2 [(0, {}), (1, {})] [8, 6, 3, 0, 1, 4, 5, 7, 53, 66, 9, 77] (T' := [(8, .pointer (some ⟨b57, 0, none⟩)), (6, .pointer (some ⟨b14, 0, none⟩)), (3, .pointer (some ⟨b2, 0, none⟩)), (0, .pointer (some ⟨mb, 0, none⟩)), (1, .agg #[.int .u8 4, .int .u32 ev.pick, .int .u64 ev.draw, .int .u32 ev.addr, .int .u32 ev.node, .int .u32 ev.dst, .int .u32 ev.xfer, .int .u8 ev.ty, .int .u64 ev.arg, .int .u64 ev.badge, .slice xo ev.ws.length cx]), (4, .int .u8 0), (5, .bool false), (7, .pointer (some ⟨(Z.tp x), 0, none⟩)), (53, .int .u8 4), (66, .bool true), (9, .int .u8 0), (77, .bool false)]) (φ := True) (rest := []) h66 (by kernel_rfl) rfl trivial fun a69 h70 => ?_
  clear h66
  refine nd_done ?_
  refine hK68 _ _ ?_
  clear hK68
  refine c_false h70 rfl ?_
  refine wp_skip ?_
  refine hK67 _ _ ?_
  clear hK67
  refine wp_seq_k fun K71 hK71 => ?_
  refine wp_seq_k fun K72 hK72 => ?_
  refine nd_start (l := [0, 1, 2, 3]) rfl ?_
  refine nd_batch tabOk2 tabZ_ok2 [(0, {}), (1, {k := 1}), (2, {}), (3, {})] [8, 6, 3, 0, 1, 4, 5, 7, 53, 66, 9, 82] (T' := [(8, .pointer (some ⟨b57, 0, none⟩)), (6, .pointer (some ⟨b14, 0, none⟩)), (3, .pointer (some ⟨b2, 0, none⟩)), (0, .pointer (some ⟨mb, 0, none⟩)), (1, .agg #[.int .u8 4, .int .u32 ev.pick, .int .u64 ev.draw, .int .u32 ev.addr, .int .u32 ev.node, .int .u32 ev.dst, .int .u32 ev.xfer, .int .u8 ev.ty, .int .u64 ev.arg, .int .u64 ev.badge, .slice xo ev.ws.length cx]), (4, .int .u8 0), (5, .bool false), (7, .pointer (some ⟨(Z.tp x), 0, none⟩)), (53, .int .u8 4), (66, .bool true), (9, .int .u8 0), (82, .bool (decide (((ev.ws.length : Nat) : Int) > 4)))]) (φ := (b2 = b2 ∧ Nat.ble (10 + 1) 11 = true) ∧ True) (rest := []) h70 (by kernel_rfl) rfl ⟨⟨rfl, rfl⟩, trivial⟩ fun a73 h74 => ?_
  clear h70
  refine nd_done ?_
  refine hK72 _ _ ?_
  clear hK72
  refine c_split h74 (b := decide (((ev.ws.length : Nat) : Int) > 4)) rfl (fun hc75 => ?_) (fun hc75 => ?_)
  ·
    have hc75f : ((ev.ws.length : Nat) : Int) > 4 := by simpa using hc75
    exact absurd (hwl) (by first | exact hc75f | (intro hz; exact hc75f hz) | omega | simp_all)
  ·
    have hc75f : ¬ ((ev.ws.length : Nat) : Int) > 4 := by simpa using hc75
    refine wp_skip ?_
    refine hK71 _ _ ?_
    clear hK71
    refine wp_seq_k fun K76 hK76 => ?_
    refine nd_start (l := [0, 1, 2, 3]) rfl ?_
    refine nd_batch tabOk2 tabZ_ok2 [(0, {}), (1, {}), (2, {k := 1})] [8, 6, 3, 0, 1, 4, 5, 7, 53, 66, 9, 83, 85] (T' := [(8, .pointer (some ⟨b57, 0, none⟩)), (6, .pointer (some ⟨b14, 0, none⟩)), (3, .pointer (some ⟨b2, 0, none⟩)), (0, .pointer (some ⟨mb, 0, none⟩)), (1, .agg #[.int .u8 4, .int .u32 ev.pick, .int .u64 ev.draw, .int .u32 ev.addr, .int .u32 ev.node, .int .u32 ev.dst, .int .u32 ev.xfer, .int .u8 ev.ty, .int .u64 ev.arg, .int .u64 ev.badge, .slice xo ev.ws.length cx]), (4, .int .u8 0), (5, .bool false), (7, .pointer (some ⟨(Z.tp x), 0, none⟩)), (53, .int .u8 4), (66, .bool true), (9, .int .u8 0), (83, .pointer (some ⟨(Z.tp x), 0, none⟩)), (85, .slice xo ev.ws.length cx)]) (φ := (b2 = b2 ∧ Nat.ble (10 + 1) 11 = true) ∧ True) (rest := [3]) h74 (by kernel_rfl) rfl ⟨⟨rfl, rfl⟩, trivial⟩ fun a77 h78 => ?_
    clear h74
    refine nd_op ?_
    refine op_call h78 rfl rfl rfl (callOk Tryd.func89 (by decide) rfl) (args := [.pointer (some ⟨(Z.tp x), 0, none⟩), .slice xo ev.ws.length cx]) rfl (setMsg_ok mb Z _ a _ x hx _ _ ev.ws (by omega) _ (mh_of h78 hhoh54 (k := 0) rfl) (words_now h78 hws)) ?_
    rintro _ w79 ⟨rfl, hg81⟩
    refine ⟨_, rfl, ?_⟩
    have h82a := st_mg h78 hg81 (kcons (fun _ => rfl) (kcons (fun hq => by cases hq) (kcons (fun hq => by cases hq) (kcons (fun hq => by cases hq) knil))))
    have h82 := h82a.put (d := some 86) (v := .tuple #[]) (T' := [(86, .tuple #[]), (8, .pointer (some ⟨b57, 0, none⟩)), (6, .pointer (some ⟨b14, 0, none⟩)), (3, .pointer (some ⟨b2, 0, none⟩)), (0, .pointer (some ⟨mb, 0, none⟩)), (1, .agg #[.int .u8 4, .int .u32 ev.pick, .int .u64 ev.draw, .int .u32 ev.addr, .int .u32 ev.node, .int .u32 ev.dst, .int .u32 ev.xfer, .int .u8 ev.ty, .int .u64 ev.arg, .int .u64 ev.badge, .slice xo ev.ws.length cx]), (4, .int .u8 0), (5, .bool false), (7, .pointer (some ⟨(Z.tp x), 0, none⟩)), (53, .int .u8 4), (66, .bool true), (9, .int .u8 0), (83, .pointer (some ⟨(Z.tp x), 0, none⟩)), (85, .slice xo ev.ws.length cx)]) rfl
    have hhoh82 := hg81.mh.ho
    obtain ⟨a83, ea83⟩ : ∃ z : AK, z = a.setT x (msgA (a.th x) ev.ws) := ⟨_, rfl⟩
    rw [← ea83] at h82
    have hcx84 : curR Z a83 = Z.ky x := by rw [ea83] <;> exact hcx
    clear h78 h82a
    have ht85 : a83.th x = (msgA (a.th x) ev.ws) := by rw [ea83]; exact (upd_same _ _ _).trans (by first | rfl | rw [rfl])
    have hP86 : MP Z a83 := by rw [ea83]; exact MP.msg hP
    refine nd_done ?_
    refine hK76 _ _ ?_
    clear hK76
    refine wp_seq_k fun K87 hK87 => ?_
    refine dr_start (KB := [3, b2, b14, b57]) (Bi := [[0, 1, 2, 3], [0, 1, 2, 3], [0, 1, 2, 3], [0, 1, 2, 3], [0, 1, 2, 3], [0, 1, 2, 3], [0, 1, 2, 3], [0, 1, 2, 3], [1], [0, 1, 2, 3], [0, 1, 2, 3], []]) mixed h82 fun w88 h89 => ?_
    clear h82
    refine dr_batch tabOk2 tabZ_ok2 (by repeat (first | with_reducible exact PF.body | with_reducible apply PF.inB | with_reducible apply PF.next)) [(0, {}), (1, {}), (2, {}), (3, {k := 3, p := 3}), (4, {}), (5, {k := 1, p := 1}), (6, {}), (7, {})] [8, 6, 3, 0, 1, 4, 5, 7, 53, 66, 9, 88, 90, 92, 94] (T' := [(8, .pointer (some ⟨b57, 0, none⟩)), (6, .pointer (some ⟨b14, 0, none⟩)), (3, .pointer (some ⟨b2, 0, none⟩)), (0, .pointer (some ⟨mb, 0, none⟩)), (1, .agg #[.int .u8 4, .int .u32 ev.pick, .int .u64 ev.draw, .int .u32 ev.addr, .int .u32 ev.node, .int .u32 ev.dst, .int .u32 ev.xfer, .int .u8 ev.ty, .int .u64 ev.arg, .int .u64 ev.badge, .slice xo ev.ws.length cx]), (4, .int .u8 0), (5, .bool false), (7, .pointer (some ⟨(Z.tp x), 0, none⟩)), (53, .int .u8 4), (66, .bool true), (9, .int .u8 0), (88, .pointer (some ⟨(Z.tp x), 0, none⟩)), (90, .int .u64 bd), (92, .int .u32 ev.xfer), (94, .pointer (some ⟨(Z.tp x), 8, none⟩))]) (φ := (b57 = b57 ∧ Nat.ble (4 + 1) 5 = true) ∧ (b2 = b2 ∧ Nat.ble (6 + 1) 11 = true) ∧ True) (fuel := 4) h89 (by kernel_rfl) rfl (by kernel_rfl) (by kernel_rfl) ⟨trivial, trivial, trivial, rfl, trivial, rfl, trivial, trivial, trivial⟩ ⟨⟨rfl, rfl⟩, ⟨rfl, rfl⟩, trivial⟩ fun a91 h92 => ?_
    clear h89
    refine wpAnyK_one (i := 8) (fuel := 3) (by kernel_rfl) ?_
    refine op_mTh (x := x) (off := 8) (v := .int .u64 bd) (y := { msgA (a.th x) ev.ws with badge := bd }) h92 rfl rfl rfl rfl rfl rfl rfl rfl rfl hx rfl (by rw [ht85]; rfl) (kcons (fun _ => rfl) (kcons (fun hq => by cases hq) (kcons (fun hq => by cases hq) (kcons (fun hq => by cases hq) knil)))) fun w93 hf94 h95 => ?_
    obtain ⟨a96, ea96⟩ : ∃ z : AK, z = a83.setT x { msgA (a.th x) ev.ws with badge := bd } := ⟨_, rfl⟩
    rw [← ea96] at h95
    have hcx97 : curR Z a96 = Z.ky x := by rw [ea96] <;> exact hcx84
    refine ⟨(keepCons (kpL h92 h95 (q := 1) (q' := 1) rfl rfl) keepNil), ?_⟩
    clear h92
    have ht98 : a96.th x = { msgA (a.th x) ev.ws with badge := bd } := by rw [ea96]; exact upd_same _ _ _
    have hP99 : MP Z a96 := by rw [ea96]; exact MP.like hP86 (by rw [ht85] <;> rfl) (by rw [ht85] <;> rfl) (by rw [ht85] <;> rfl)
    refine dr_batch tabOk2 tabZ_ok2 (by repeat (first | with_reducible exact PF.body | with_reducible apply PF.inB | with_reducible apply PF.next)) [(9, {}), (10, {})] [8, 6, 3, 0, 1, 4, 5, 7, 53, 66, 9, 92, 96] (T' := [(8, .pointer (some ⟨b57, 0, none⟩)), (6, .pointer (some ⟨b14, 0, none⟩)), (3, .pointer (some ⟨b2, 0, none⟩)), (0, .pointer (some ⟨mb, 0, none⟩)), (1, .agg #[.int .u8 4, .int .u32 ev.pick, .int .u64 ev.draw, .int .u32 ev.addr, .int .u32 ev.node, .int .u32 ev.dst, .int .u32 ev.xfer, .int .u8 ev.ty, .int .u64 ev.arg, .int .u64 ev.badge, .slice xo ev.ws.length cx]), (4, .int .u8 0), (5, .bool false), (7, .pointer (some ⟨(Z.tp x), 0, none⟩)), (53, .int .u8 4), (66, .bool true), (9, .int .u8 0), (92, .int .u32 ev.xfer), (96, .pointer (some ⟨(Z.tp x), 15, none⟩))]) (φ := True) (fuel := 1) h95 (by kernel_rfl) rfl (by kernel_rfl) (by kernel_rfl) ⟨trivial, trivial, trivial⟩ trivial fun a100 h101 => ?_
    clear h95
    refine wpAnyK_one (i := 11) (fuel := 0) (by kernel_rfl) ?_
    refine op_mTh (x := x) (off := 15) (v := .int .u32 ev.xfer) (y := { msgA (a.th x) ev.ws with badge := bd, xfer := ev.xfer }) h101 rfl rfl rfl rfl rfl rfl rfl rfl rfl hx rfl (by rw [ht98]; rfl) (kcons (fun _ => rfl) (kcons (fun hq => by cases hq) (kcons (fun hq => by cases hq) (kcons (fun hq => by cases hq) knil)))) fun w102 hf103 h104 => ?_
    obtain ⟨a105, ea105⟩ : ∃ z : AK, z = a96.setT x { msgA (a.th x) ev.ws with badge := bd, xfer := ev.xfer } := ⟨_, rfl⟩
    rw [← ea105] at h104
    have hcx106 : curR Z a105 = Z.ky x := by rw [ea105] <;> exact hcx97
    refine ⟨keepNil, ?_⟩
    clear h101
    have ht107 : a105.th x = { msgA (a.th x) ev.ws with badge := bd, xfer := ev.xfer } := by rw [ea105]; exact upd_same _ _ _
    have hP108 : MP Z a105 := by rw [ea105]; exact MP.like hP99 (by rw [ht98] <;> rfl) (by rw [ht98] <;> rfl) (by rw [ht98] <;> rfl)
    refine wpAnyK_done (by kernel_rfl) ?_ _
    refine hK87 _ _ ?_
    clear hK87
    refine wp_seq_k fun K109 hK109 => ?_
    refine dr_start (KB := [3, b2, b14, b57]) (Bi := [[0, 1, 2, 3], [0, 1, 2, 3], [0, 1, 2, 3], [0, 1, 2, 3], [0, 1, 2, 3], [0, 1, 2, 3], [0, 1, 2, 3], [0, 1, 2, 3], [0, 1, 2, 3], [0, 1, 2, 3], [0, 1, 2, 3], [1], [0, 1, 2, 3], [0, 1, 2, 3], []]) mixed h104 fun w110 h111 => ?_
    clear h104
    refine dr_batch tabOk2 tabZ_ok2 (by repeat (first | with_reducible exact PF.body | with_reducible apply PF.inB | with_reducible apply PF.next)) [(0, {}), (1, {}), (2, {}), (3, {k := 3, p := 3}), (4, {}), (5, {}), (6, {}), (7, {k := 1, p := 1}), (8, {}), (9, {}), (10, {})] [8, 6, 3, 0, 1, 4, 5, 7, 53, 66, 9, 98, 102, 105, 107] (T' := [(8, .pointer (some ⟨b57, 0, none⟩)), (6, .pointer (some ⟨b14, 0, none⟩)), (3, .pointer (some ⟨b2, 0, none⟩)), (0, .pointer (some ⟨mb, 0, none⟩)), (1, .agg #[.int .u8 4, .int .u32 ev.pick, .int .u64 ev.draw, .int .u32 ev.addr, .int .u32 ev.node, .int .u32 ev.dst, .int .u32 ev.xfer, .int .u8 ev.ty, .int .u64 ev.arg, .int .u64 ev.badge, .slice xo ev.ws.length cx]), (4, .int .u8 0), (5, .bool false), (7, .pointer (some ⟨(Z.tp x), 0, none⟩)), (53, .int .u8 4), (66, .bool true), (9, .int .u8 0), (98, .pointer (some ⟨(Z.tp x), 0, none⟩)), (102, .bool (bitI .and .u8 rt 4 != 0)), (105, .bool false), (107, .pointer (some ⟨(Z.tp x), 17, none⟩))]) (φ := (b57 = b57 ∧ Nat.ble (3 + 1) 5 = true) ∧ (b2 = b2 ∧ Nat.ble (0 + 1) 11 = true) ∧ True) (fuel := 4) h111 (by kernel_rfl) rfl (by kernel_rfl) (by kernel_rfl) ⟨trivial, trivial, trivial, rfl, trivial, trivial, trivial, rfl, trivial, trivial, trivial, trivial⟩ ⟨⟨rfl, rfl⟩, ⟨rfl, rfl⟩, trivial⟩ fun a113 h114 => ?_
    clear h111
    refine wpAnyK_one (i := 11) (fuel := 3) (by kernel_rfl) ?_
    refine op_mTh (x := x) (off := 17) (v := .bool (bitI .and .u8 rt 4 != 0)) (y := { msgA (a.th x) ev.ws with badge := bd, xfer := ev.xfer, grant := (bitI .and .u8 rt 4 != 0) }) h114 rfl rfl rfl rfl rfl rfl rfl rfl rfl hx rfl (by rw [ht107]; rfl) (kcons (fun _ => rfl) (kcons (fun hq => by cases hq) (kcons (fun hq => by cases hq) (kcons (fun hq => by cases hq) knil)))) fun w115 hf116 h117 => ?_
    obtain ⟨a118, ea118⟩ : ∃ z : AK, z = a105.setT x { msgA (a.th x) ev.ws with badge := bd, xfer := ev.xfer, grant := (bitI .and .u8 rt 4 != 0) } := ⟨_, rfl⟩
    rw [← ea118] at h117
    have hcx119 : curR Z a118 = Z.ky x := by rw [ea118] <;> exact hcx106
    refine ⟨(keepCons (kpL h114 h117 (q := 1) (q' := 1) rfl rfl) keepNil), ?_⟩
    clear h114
    have ht120 : a118.th x = { msgA (a.th x) ev.ws with badge := bd, xfer := ev.xfer, grant := (bitI .and .u8 rt 4 != 0) } := by rw [ea118]; exact upd_same _ _ _
    have hP121 : MP Z a118 := by rw [ea118]; exact MP.like hP108 (by rw [ht107] <;> rfl) (by rw [ht107] <;> rfl) (by rw [ht107] <;> rfl)
    refine dr_batch tabOk2 tabZ_ok2 (by repeat (first | with_reducible exact PF.body | with_reducible apply PF.inB | with_reducible apply PF.next)) [(12, {}), (13, {})] [8, 6, 3, 0, 1, 4, 5, 7, 53, 66, 9, 105, 109] (T' := [(8, .pointer (some ⟨b57, 0, none⟩)), (6, .pointer (some ⟨b14, 0, none⟩)), (3, .pointer (some ⟨b2, 0, none⟩)), (0, .pointer (some ⟨mb, 0, none⟩)), (1, .agg #[.int .u8 4, .int .u32 ev.pick, .int .u64 ev.draw, .int .u32 ev.addr, .int .u32 ev.node, .int .u32 ev.dst, .int .u32 ev.xfer, .int .u8 ev.ty, .int .u64 ev.arg, .int .u64 ev.badge, .slice xo ev.ws.length cx]), (4, .int .u8 0), (5, .bool false), (7, .pointer (some ⟨(Z.tp x), 0, none⟩)), (53, .int .u8 4), (66, .bool true), (9, .int .u8 0), (105, .bool false), (109, .pointer (some ⟨(Z.tp x), 18, none⟩))]) (φ := True) (fuel := 1) h117 (by kernel_rfl) rfl (by kernel_rfl) (by kernel_rfl) ⟨trivial, trivial, trivial⟩ trivial fun a122 h123 => ?_
    clear h117
    refine wpAnyK_one (i := 14) (fuel := 0) (by kernel_rfl) ?_
    refine op_mTh (x := x) (off := 18) (v := .bool false) (y := { msgA (a.th x) ev.ws with badge := bd, xfer := ev.xfer, grant := (bitI .and .u8 rt 4 != 0), call := false }) h123 rfl rfl rfl rfl rfl rfl rfl rfl rfl hx rfl (by rw [ht120]; rfl) (kcons (fun _ => rfl) (kcons (fun hq => by cases hq) (kcons (fun hq => by cases hq) (kcons (fun hq => by cases hq) knil)))) fun w124 hf125 h126 => ?_
    obtain ⟨a127, ea127⟩ : ∃ z : AK, z = a118.setT x { msgA (a.th x) ev.ws with badge := bd, xfer := ev.xfer, grant := (bitI .and .u8 rt 4 != 0), call := false } := ⟨_, rfl⟩
    rw [← ea127] at h126
    have hcx128 : curR Z a127 = Z.ky x := by rw [ea127] <;> exact hcx119
    refine ⟨keepNil, ?_⟩
    clear h123
    have ht129 : a127.th x = { msgA (a.th x) ev.ws with badge := bd, xfer := ev.xfer, grant := (bitI .and .u8 rt 4 != 0), call := false } := by rw [ea127]; exact upd_same _ _ _
    have hP130 : MP Z a127 := by rw [ea127]; exact MP.like hP121 (by rw [ht120] <;> rfl) (by rw [ht120] <;> rfl) (by rw [ht120] <;> rfl)
    refine wpAnyK_done (by kernel_rfl) ?_ _
    refine hK109 _ _ ?_
    clear hK109
    refine wp_seq_k fun K131 hK131 => ?_
    refine wp_seq_k fun K132 hK132 => ?_
    refine nd_start (l := [0, 1, 2, 3, 4, 5]) rfl ?_
    refine nd_batch tabOk2 tabZ_ok2 [(0, {}), (1, {}), (2, {k := 3})] [8, 6, 3, 0, 1, 4, 5, 7, 53, 66, 9, 110, 112] (T' := [(8, .pointer (some ⟨b57, 0, none⟩)), (6, .pointer (some ⟨b14, 0, none⟩)), (3, .pointer (some ⟨b2, 0, none⟩)), (0, .pointer (some ⟨mb, 0, none⟩)), (1, .agg #[.int .u8 4, .int .u32 ev.pick, .int .u64 ev.draw, .int .u32 ev.addr, .int .u32 ev.node, .int .u32 ev.dst, .int .u32 ev.xfer, .int .u8 ev.ty, .int .u64 ev.arg, .int .u64 ev.badge, .slice xo ev.ws.length cx]), (4, .int .u8 0), (5, .bool false), (7, .pointer (some ⟨(Z.tp x), 0, none⟩)), (53, .int .u8 4), (66, .bool true), (9, .int .u8 0), (110, .pointer (some ⟨mb, 0, none⟩)), (112, .agg #[.int .u16 ((Z.ky i).idx), .int .u32 ((Z.ky i).gen)])]) (φ := (b57 = b57 ∧ Nat.ble (1 + 2) 5 = true) ∧ True) (rest := [3, 4, 5]) h126 (by kernel_rfl) rfl ⟨⟨rfl, rfl⟩, trivial⟩ fun a133 h134 => ?_
    clear h126
    refine nd_op ?_
    have hA135 : a127 = a5 := by rw [h5]; subst ea127 ea118 ea105 ea96 ea83; simp only [setT_setT]
    have h136 := h134
    rw [hA135] at h136
    clear h134
    have ht137 : a5.th x = { msgA (a.th x) ev.ws with badge := bd, xfer := ev.xfer, grant := (bitI .and .u8 rt 4 != 0), call := false } := by rw [← hA135]; exact ht129
    have hP138 : MP Z a5 := by rw [← hA135]; exact hP130
    refine op_call h136 rfl rfl rfl (callOk Tryd.func88 (by decide) rfl) (args := [.pointer (some ⟨mb, 0, none⟩), .agg #[.int .u16 ((Z.ky i).idx), .int .u32 ((Z.ky i).gen)], .int .u8 4]) rfl (by have hf9 := first_ok mb Z _ a5 _ i hi 4 hP138 _ (mh_of h136 hhoh82 (k := 0) rfl); rw [hf5] at hf9; exact hf9) ?_
    rintro _ w139 ⟨rfl, hg141⟩
    refine ⟨_, rfl, ?_⟩
    have h142a := st_mg h136 hg141 (kcons (fun _ => rfl) (kcons (fun hq => by cases hq) (kcons (fun hq => by cases hq) (kcons (fun hq => by cases hq) knil))))
    have h142 := h142a.put (d := some 113) (v := .agg #[.int .u16 0, .int .u32 0]) (T' := [(113, .agg #[.int .u16 0, .int .u32 0]), (8, .pointer (some ⟨b57, 0, none⟩)), (6, .pointer (some ⟨b14, 0, none⟩)), (3, .pointer (some ⟨b2, 0, none⟩)), (0, .pointer (some ⟨mb, 0, none⟩)), (1, .agg #[.int .u8 4, .int .u32 ev.pick, .int .u64 ev.draw, .int .u32 ev.addr, .int .u32 ev.node, .int .u32 ev.dst, .int .u32 ev.xfer, .int .u8 ev.ty, .int .u64 ev.arg, .int .u64 ev.badge, .slice xo ev.ws.length cx]), (4, .int .u8 0), (5, .bool false), (7, .pointer (some ⟨(Z.tp x), 0, none⟩)), (53, .int .u8 4), (66, .bool true), (9, .int .u8 0), (110, .pointer (some ⟨mb, 0, none⟩)), (112, .agg #[.int .u16 ((Z.ky i).idx), .int .u32 ((Z.ky i).gen)])]) rfl
    have hhoh142 := hg141.mh.ho
    clear h136 h142a
    refine nd_op ?_
    refine op_new tabOk2 (cells := [.int .u16 0, .int .u32 0]) (ty := 39) (ln := none) (L1 := fun b143 => [(3, ⟨[.int .u16 0, .int .u32 0], ty3, true⟩), (b2, ⟨[.int .u8 4, .int .u32 ev.pick, .int .u64 ev.draw, .int .u32 ev.addr, .int .u32 ev.node, .int .u32 ev.dst, .int .u32 ev.xfer, .int .u8 ev.ty, .int .u64 ev.arg, .int .u64 ev.badge, .slice xo ev.ws.length cx], 35, false⟩), (b14, ⟨[.int .u16 ((Z.ky x).idx), .int .u32 ((Z.ky x).gen)], 39, false⟩), (b57, ⟨[.int .u8 ct, .int .u16 ((Z.ky i).idx), .int .u32 ((Z.ky i).gen), .int .u8 rt, .int .u64 bd], 49, false⟩), (b143, ⟨[.int .u16 0, .int .u32 0], 39, false⟩)]) h142 rfl rfl rfl rfl (by kernel_rfl) (fun _ => rfl) fun b143 w144 a145 h146 hf147 hn148 => ?_
    clear h142
    refine nd_op ?_
    refine op_store tabOk2 {k := 4} (L' := [(3, ⟨[.int .u16 0, .int .u32 0], ty3, true⟩), (b2, ⟨[.int .u8 4, .int .u32 ev.pick, .int .u64 ev.draw, .int .u32 ev.addr, .int .u32 ev.node, .int .u32 ev.dst, .int .u32 ev.xfer, .int .u8 ev.ty, .int .u64 ev.arg, .int .u64 ev.badge, .slice xo ev.ws.length cx], 35, false⟩), (b14, ⟨[.int .u16 ((Z.ky x).idx), .int .u32 ((Z.ky x).gen)], 39, false⟩), (b57, ⟨[.int .u8 ct, .int .u16 ((Z.ky i).idx), .int .u32 ((Z.ky i).gen), .int .u8 rt, .int .u64 bd], 49, false⟩), (b143, ⟨[.int .u16 0, .int .u32 0], 39, false⟩)]) (φ := b143 = b143 ∧ Nat.ble (0 + 2) 2 = true) h146 rfl rfl rfl (by kernel_rfl) ⟨rfl, rfl⟩ fun w149 h150 => ?_
    clear h146
    refine nd_done ?_
    refine hK132 _ _ ?_
    clear hK132
    refine wp_seq_k fun K151 hK151 => ?_
    refine nd_start (l := [0, 1, 2]) rfl ?_
    refine nd_batch tabOk2 tabZ_ok2 [(0, {k := 4}), (1, {k := 0}), (2, {f := 1})] [10, 8, 6, 3, 0, 1, 4, 5, 7, 53, 66, 9, 116] (T' := [(10, .pointer (some ⟨b143, 0, none⟩)), (8, .pointer (some ⟨b57, 0, none⟩)), (6, .pointer (some ⟨b14, 0, none⟩)), (3, .pointer (some ⟨b2, 0, none⟩)), (0, .pointer (some ⟨mb, 0, none⟩)), (1, .agg #[.int .u8 4, .int .u32 ev.pick, .int .u64 ev.draw, .int .u32 ev.addr, .int .u32 ev.node, .int .u32 ev.dst, .int .u32 ev.xfer, .int .u8 ev.ty, .int .u64 ev.arg, .int .u64 ev.badge, .slice xo ev.ws.length cx]), (4, .int .u8 0), (5, .bool false), (7, .pointer (some ⟨(Z.tp x), 0, none⟩)), (53, .int .u8 4), (66, .bool true), (9, .int .u8 0), (116, .bool false)]) (φ := (b143 = b143 ∧ Nat.ble (0 + 2) 2 = true) ∧ (3 = 3 ∧ Nat.ble (0 + 2) 2 = true) ∧ EqRun Tryd.prog 39 (.agg #[.int .u16 0, .int .u32 0]) (.agg #[.int .u16 0, .int .u32 0]) true ∧ True) (rest := []) h150 (by kernel_rfl) rfl ⟨⟨rfl, rfl⟩, ⟨rfl, rfl⟩, (by have hq := runRf (⟨0, 0⟩ : Rf) (⟨0, 0⟩ : Rf); rw [show decide ((⟨0, 0⟩ : Rf) = (⟨0, 0⟩ : Rf)) = true from decide_eq_true rfl] at hq; exact hq), trivial⟩ fun a152 h153 => ?_
    clear h150
    refine nd_done ?_
    refine hK151 _ _ ?_
    clear hK151
    refine c_false h153 rfl ?_
    refine nd_start (l := [0, 1, 2, 3, 4]) rfl ?_
    refine nd_batch tabOk2 tabZ_ok2 [(0, {}), (1, {k := 2}), (2, {}), (3, {k := 3})] [10, 8, 6, 3, 0, 1, 4, 5, 7, 53, 66, 9, 124, 125, 127] (T' := [(10, .pointer (some ⟨b143, 0, none⟩)), (8, .pointer (some ⟨b57, 0, none⟩)), (6, .pointer (some ⟨b14, 0, none⟩)), (3, .pointer (some ⟨b2, 0, none⟩)), (0, .pointer (some ⟨mb, 0, none⟩)), (1, .agg #[.int .u8 4, .int .u32 ev.pick, .int .u64 ev.draw, .int .u32 ev.addr, .int .u32 ev.node, .int .u32 ev.dst, .int .u32 ev.xfer, .int .u8 ev.ty, .int .u64 ev.arg, .int .u64 ev.badge, .slice xo ev.ws.length cx]), (4, .int .u8 0), (5, .bool false), (7, .pointer (some ⟨(Z.tp x), 0, none⟩)), (53, .int .u8 4), (66, .bool true), (9, .int .u8 0), (124, .pointer (some ⟨mb, 0, none⟩)), (125, .agg #[.int .u16 ((Z.ky x).idx), .int .u32 ((Z.ky x).gen)]), (127, .agg #[.int .u16 ((Z.ky i).idx), .int .u32 ((Z.ky i).gen)])]) (φ := (b14 = b14 ∧ Nat.ble (0 + 2) 2 = true) ∧ (b57 = b57 ∧ Nat.ble (1 + 2) 5 = true) ∧ True) (rest := [4]) h153 (by kernel_rfl) rfl ⟨⟨rfl, rfl⟩, ⟨rfl, rfl⟩, trivial⟩ fun a154 h155 => ?_
    clear h153
    refine nd_op ?_
    refine op_call h155 rfl rfl rfl (callOk Tryd.func92 (by decide) rfl) (args := [.pointer (some ⟨mb, 0, none⟩), .agg #[.int .u16 ((Z.ky x).idx), .int .u32 ((Z.ky x).gen)], .int .u8 3, .agg #[.int .u16 ((Z.ky i).idx), .int .u32 ((Z.ky i).gen)]]) rfl (queueUp_ok mb Z _ a5 _ x hx 3 (by decide) i hi hP138 _ (mh_of h155 hhoh142 (k := 0) rfl)) ?_
    rintro _ w156 ⟨rfl, R157, hg158⟩
    refine ⟨_, rfl, ?_⟩
    have h159a := st_mg h155 hg158 (kcons (fun _ => rfl) (kcons (fun hq => by cases hq) (kcons (fun hq => by cases hq) (kcons (fun hq => by cases hq) (kcons (fun hq => by cases hq) knil)))))
    have h159 := h159a.put (d := some 128) (v := .tuple #[]) (T' := [(128, .tuple #[]), (10, .pointer (some ⟨b143, 0, none⟩)), (8, .pointer (some ⟨b57, 0, none⟩)), (6, .pointer (some ⟨b14, 0, none⟩)), (3, .pointer (some ⟨b2, 0, none⟩)), (0, .pointer (some ⟨mb, 0, none⟩)), (1, .agg #[.int .u8 4, .int .u32 ev.pick, .int .u64 ev.draw, .int .u32 ev.addr, .int .u32 ev.node, .int .u32 ev.dst, .int .u32 ev.xfer, .int .u8 ev.ty, .int .u64 ev.arg, .int .u64 ev.badge, .slice xo ev.ws.length cx]), (4, .int .u8 0), (5, .bool false), (7, .pointer (some ⟨(Z.tp x), 0, none⟩)), (53, .int .u8 4), (66, .bool true), (9, .int .u8 0), (124, .pointer (some ⟨mb, 0, none⟩)), (125, .agg #[.int .u16 ((Z.ky x).idx), .int .u32 ((Z.ky x).gen)]), (127, .agg #[.int .u16 ((Z.ky i).idx), .int .u32 ((Z.ky i).gen)])]) rfl
    have hhoh159 := hg158.mh.ho
    obtain ⟨a160, ea160⟩ : ∃ z : AK, z = blockA a5 x 3 (Z.ky i) := ⟨_, rfl⟩
    rw [← ea160] at h159
    clear h155 h159a
    have ht161 : a160.th x = { msgA (a.th x) ev.ws with st := 3, wait := ⟨(Z.ky i).idx, (Z.ky i).gen⟩, badge := bd, xfer := ev.xfer, grant := (bitI .and .u8 rt 4 != 0), call := false } := by rw [ea160, block_th, ht137]
    refine nd_done ?_
    refine hK131 _ _ ?_
    clear hK131
    refine wp_seq_k fun K162 hK162 => ?_
    refine nd_start (l := [0, 1]) rfl ?_
    refine nd_batch tabOk2 tabZ_ok2 [(0, {}), (1, {})] [10, 8, 6, 3, 0, 1, 7, 53, 66, 9, 4, 5] (T' := [(10, .pointer (some ⟨b143, 0, none⟩)), (8, .pointer (some ⟨b57, 0, none⟩)), (6, .pointer (some ⟨b14, 0, none⟩)), (3, .pointer (some ⟨b2, 0, none⟩)), (0, .pointer (some ⟨mb, 0, none⟩)), (1, .agg #[.int .u8 4, .int .u32 ev.pick, .int .u64 ev.draw, .int .u32 ev.addr, .int .u32 ev.node, .int .u32 ev.dst, .int .u32 ev.xfer, .int .u8 ev.ty, .int .u64 ev.arg, .int .u64 ev.badge, .slice xo ev.ws.length cx]), (7, .pointer (some ⟨(Z.tp x), 0, none⟩)), (53, .int .u8 4), (66, .bool true), (9, .int .u8 0), (4, .int .u8 0), (5, .bool false)]) (φ := True) (rest := []) h159 (by kernel_rfl) rfl trivial fun a163 h164 => ?_
    clear h159
    refine nd_done ?_
    refine hK162 _ _ ?_
    clear hK162
    refine wp_ret ?_
    try simp only [Exit.then, Exit.inBlock]
    try rw [if_pos trivial]
    exact s_ret tabOk2 tabZ_ok2 h164 [(.tmp 4, {}), (.tmp 5, {})] (vs := [.int .u8 0, .bool false]) (φ := True) rfl (by kernel_rfl) trivial (by subst ea160; exact ⟨rfl, _, mg_end hH h164 hhoh159 rfl⟩)

theorem call4m (mb : Nat) (Z : MZ) (R : MR) (a : AK) (C : CP) (hI : MI Z a C) (x : Nat) (hx : x ∈ sl Z.tl) (hcu : a.cur = (x : Int)) (ev : Ev) (he : EvOk ev) (xo : Option Addr) (cx : Nat) (i : Nat) (hi : i ∈ sl Z.ql) (ct rt bd cs0 : Int) (hf : findA a C ev.addr 4 2 = (⟨ct, Z.ky i, rt, bd⟩, cs0, 0)) (hwl : ¬ (ev.ws.length : Int) > 4) (a5 : AK) (h5 : a5 = a.setT x { msgA (a.th x) ev.ws with badge := bd, xfer := ev.xfer, grant := (bitI .and .u8 rt 4 != 0), call := false }) (y : Nat) (hy : y ∈ sl Z.tl) (hxy : x ≠ y) (ho : oldestA a5 (Z.ky i) 4 = (y : Int)) (htx : TOk ((wakeA a5 y).th x)) (hty : TOk ((wakeA a5 y).th y)) (w : World) (hH : MH mb Z R a C w) (hws : WordsAt (mdF mb Z R C) w xo ev.ws) :
    Calls Tryd.prog 55 #[.pointer (some ⟨mb, 0, none⟩), .agg #[.int .u8 4, .int .u32 ev.pick, .int .u64 ev.draw, .int .u32 ev.addr, .int .u32 ev.node, .int .u32 ev.dst, .int .u32 ev.xfer, .int .u8 ev.ty, .int .u64 ev.arg, .int .u64 ev.badge, .slice xo ev.ws.length cx]] w fun e w' => e = .returned (.tuple #[.int .u8 0, .bool false]) ∧ ∃ R', MG mb Z R C w Z R' (passA Z (deliverA (wakeA a5 y) C x y).1 x y) ((deliverA (wakeA a5 y) C x y).2) w' := by
  have hP := hI.mp
  have hcx : curR Z a = Z.ky x := curR_of hcu
  have hcn : a.cur.toNat = x := by rw [hcu]; exact Int.toNat_natCast x
  have hci := (hI.tk x hx).ci
  have hf5 : firstR Z a5 i 4 = Z.ky y := by rw [firstR_old hH.md.k (hH.md.k.qx i hi), ho, if_neg (by omega), Int.toNat_natCast]
  obtain ⟨ty3, hg3⟩ := hH.g3
  have hho := hH.ho
  have hkk := hH.md.k
  refine enter (n := 628) (K := mdF mb Z R C) (A := MD (mdF mb Z R C) w.heap.size mb Z R a C) (F := mdF mb Z R C) (T := [(0, .pointer (some ⟨mb, 0, none⟩)), (1, .agg #[.int .u8 4, .int .u32 ev.pick, .int .u64 ev.draw, .int .u32 ev.addr, .int .u32 ev.node, .int .u32 ev.dst, .int .u32 ev.xfer, .int .u8 ev.ty, .int .u64 ev.arg, .int .u64 ev.badge, .slice xo ev.ws.length cx])]) (L := [(3, ⟨[.int .u16 0, .int .u32 0], ty3, true⟩)]) (args := [.pointer (some ⟨mb, 0, none⟩), .agg #[.int .u8 4, .int .u32 ev.pick, .int .u64 ev.draw, .int .u32 ev.addr, .int .u32 ev.node, .int .u32 ev.dst, .int .u32 ev.xfer, .int .u8 ev.ty, .int .u64 ev.arg, .int .u64 ev.badge, .slice xo ev.ws.length cx]]) Tryd.func55 rfl rfl rfl rfl (kcons hg3 knil) (by simp) (kcons (by intro hq; cases hq) knil) hH.mD MD.stable hH.md.low (kcons (by intro hq; cases hq) knil) ?_
  intro ac h
  refine wp_seq_k fun K1 hK1 => ?_
  refine nd_start (l := [0, 1, 2]) rfl ?_
  refine nd_op ?_
  refine op_new tabOk2 (cells := [.int .u8 4, .int .u32 ev.pick, .int .u64 ev.draw, .int .u32 ev.addr, .int .u32 ev.node, .int .u32 ev.dst, .int .u32 ev.xfer, .int .u8 ev.ty, .int .u64 ev.arg, .int .u64 ev.badge, .slice xo ev.ws.length cx]) (ty := 35) (ln := none) (L1 := fun b2 => [(3, ⟨[.int .u16 0, .int .u32 0], ty3, true⟩), (b2, ⟨[.int .u8 4, .int .u32 ev.pick, .int .u64 ev.draw, .int .u32 ev.addr, .int .u32 ev.node, .int .u32 ev.dst, .int .u32 ev.xfer, .int .u8 ev.ty, .int .u64 ev.arg, .int .u64 ev.badge, .slice xo ev.ws.length cx], 35, false⟩)]) h rfl rfl rfl rfl (by kernel_rfl) (fun _ => rfl) fun b2 w3 a4 h5 hf6 hn7 => ?_
  clear h
  refine nd_batch tabOk2 tabZ_ok2 [(1, {}), (2, {})] [3, 0, 1, 4, 5] (T' := [(3, .pointer (some ⟨b2, 0, none⟩)), (0, .pointer (some ⟨mb, 0, none⟩)), (1, .agg #[.int .u8 4, .int .u32 ev.pick, .int .u64 ev.draw, .int .u32 ev.addr, .int .u32 ev.node, .int .u32 ev.dst, .int .u32 ev.xfer, .int .u8 ev.ty, .int .u64 ev.arg, .int .u64 ev.badge, .slice xo ev.ws.length cx]), (4, .int .u8 0), (5, .bool false)]) (φ := True) (rest := []) h5 (by kernel_rfl) rfl trivial fun a8 h9 => ?_
  clear h5
  refine nd_done ?_
  refine hK1 _ _ ?_
  clear hK1
  refine wp_seq_k fun K10 hK10 => ?_
  refine nd_start (l := [0, 1, 2, 3, 4, 5]) rfl ?_
  refine nd_batch tabOk2 tabZ_ok2 [(0, {}), (1, {}), (2, {})] [3, 0, 1, 4, 5, 44] (T' := [(3, .pointer (some ⟨b2, 0, none⟩)), (0, .pointer (some ⟨mb, 0, none⟩)), (1, .agg #[.int .u8 4, .int .u32 ev.pick, .int .u64 ev.draw, .int .u32 ev.addr, .int .u32 ev.node, .int .u32 ev.dst, .int .u32 ev.xfer, .int .u8 ev.ty, .int .u64 ev.arg, .int .u64 ev.badge, .slice xo ev.ws.length cx]), (4, .int .u8 0), (5, .bool false), (44, .pointer (some ⟨mb, 13, none⟩))]) (φ := True) (rest := [3, 4, 5]) h9 (by kernel_rfl) rfl trivial fun a11 h12 => ?_
  clear h9
  refine nd_op ?_
  refine op_read (b := mb) (v := .agg #[.int .u16 ((Z.ky x).idx), .int .u32 ((Z.ky x).gen)]) h12 rfl rfl (rd_mA h12 (k := 13) (vs := [.int .u16 ((Z.ky x).idx), .int .u32 ((Z.ky x).gen)]) rfl rfl rfl rfl rfl (by rw [← hcx]; exact md_cur)) ?_
  have h13 := h12.put (d := some 45) (v := .agg #[.int .u16 ((Z.ky x).idx), .int .u32 ((Z.ky x).gen)]) (T' := [(45, .agg #[.int .u16 ((Z.ky x).idx), .int .u32 ((Z.ky x).gen)]), (3, .pointer (some ⟨b2, 0, none⟩)), (0, .pointer (some ⟨mb, 0, none⟩)), (1, .agg #[.int .u8 4, .int .u32 ev.pick, .int .u64 ev.draw, .int .u32 ev.addr, .int .u32 ev.node, .int .u32 ev.dst, .int .u32 ev.xfer, .int .u8 ev.ty, .int .u64 ev.arg, .int .u64 ev.badge, .slice xo ev.ws.length cx]), (4, .int .u8 0), (5, .bool false), (44, .pointer (some ⟨mb, 13, none⟩))]) rfl
  clear h12
  refine nd_op ?_
  refine op_new tabOk2 (cells := [.int .u16 0, .int .u32 0]) (ty := 39) (ln := none) (L1 := fun b14 => [(3, ⟨[.int .u16 0, .int .u32 0], ty3, true⟩), (b2, ⟨[.int .u8 4, .int .u32 ev.pick, .int .u64 ev.draw, .int .u32 ev.addr, .int .u32 ev.node, .int .u32 ev.dst, .int .u32 ev.xfer, .int .u8 ev.ty, .int .u64 ev.arg, .int .u64 ev.badge, .slice xo ev.ws.length cx], 35, false⟩), (b14, ⟨[.int .u16 0, .int .u32 0], 39, false⟩)]) h13 rfl rfl rfl rfl (by kernel_rfl) (fun _ => rfl) fun b14 w15 a16 h17 hf18 hn19 => ?_
  clear h13
  refine nd_op ?_
  refine op_store tabOk2 {k := 2} (L' := [(3, ⟨[.int .u16 0, .int .u32 0], ty3, true⟩), (b2, ⟨[.int .u8 4, .int .u32 ev.pick, .int .u64 ev.draw, .int .u32 ev.addr, .int .u32 ev.node, .int .u32 ev.dst, .int .u32 ev.xfer, .int .u8 ev.ty, .int .u64 ev.arg, .int .u64 ev.badge, .slice xo ev.ws.length cx], 35, false⟩), (b14, ⟨[.int .u16 ((Z.ky x).idx), .int .u32 ((Z.ky x).gen)], 39, false⟩)]) (φ := b14 = b14 ∧ Nat.ble (0 + 2) 2 = true) h17 rfl rfl rfl (by kernel_rfl) ⟨rfl, rfl⟩ fun w20 h21 => ?_
  clear h17
  refine nd_done ?_
  refine hK10 _ _ ?_
  clear hK10
  refine wp_seq_k fun K22 hK22 => ?_
  refine dr_start (KB := [3, b2, b14, mb, Z.tb]) (Bi := [[0, 1, 2, 3, 4], [0, 1, 2, 3, 4], [0, 1, 2, 3, 4], [0, 1, 2, 3, 4], [0, 1, 2, 3, 4], [0, 1, 2, 3, 4], [0, 1, 2, 3, 4]]) mixed h21 fun w23 h24 => ?_
  clear h21
  refine dr_batch tabOk2 tabZ_ok2 (by repeat (first | with_reducible exact PF.body | with_reducible apply PF.inB | with_reducible apply PF.next)) [(0, {}), (1, {}), (2, {})] [6, 3, 0, 1, 4, 5, 48] (T' := [(6, .pointer (some ⟨b14, 0, none⟩)), (3, .pointer (some ⟨b2, 0, none⟩)), (0, .pointer (some ⟨mb, 0, none⟩)), (1, .agg #[.int .u8 4, .int .u32 ev.pick, .int .u64 ev.draw, .int .u32 ev.addr, .int .u32 ev.node, .int .u32 ev.dst, .int .u32 ev.xfer, .int .u8 ev.ty, .int .u64 ev.arg, .int .u64 ev.badge, .slice xo ev.ws.length cx]), (4, .int .u8 0), (5, .bool false), (48, .pointer (some ⟨mb, 2, none⟩))]) (φ := True) (fuel := 4) h24 (by kernel_rfl) rfl (by kernel_rfl) (by kernel_rfl) ⟨trivial, trivial, trivial, trivial⟩ trivial fun a26 h27 => ?_
  clear h24
  refine dr_read (i := 3) (b := mb) (p := 3) (v := .map (some Z.tb)) (fuel := 3) (by repeat (first | with_reducible exact PF.body | with_reducible apply PF.inB | with_reducible apply PF.next)) h27 rfl rfl rfl (by kernel_rfl) (by kernel_rfl) (by kernel_rfl) rfl (rd_m h27 (k := 2) (v := .map (some Z.tb)) rfl rfl rfl rfl (md_p ⟨rfl, trivial⟩)) ?_
  have h28 := h27.put (d := some 49) (v := .map (some Z.tb)) (T' := [(49, .map (some Z.tb)), (6, .pointer (some ⟨b14, 0, none⟩)), (3, .pointer (some ⟨b2, 0, none⟩)), (0, .pointer (some ⟨mb, 0, none⟩)), (1, .agg #[.int .u8 4, .int .u32 ev.pick, .int .u64 ev.draw, .int .u32 ev.addr, .int .u32 ev.node, .int .u32 ev.dst, .int .u32 ev.xfer, .int .u8 ev.ty, .int .u64 ev.arg, .int .u64 ev.badge, .slice xo ev.ws.length cx]), (4, .int .u8 0), (5, .bool false), (48, .pointer (some ⟨mb, 2, none⟩))]) rfl
  clear h27
  refine dr_batch tabOk2 tabZ_ok2 (by repeat (first | with_reducible exact PF.body | with_reducible apply PF.inB | with_reducible apply PF.next)) [(4, {k := 2, p := 2})] [49, 6, 3, 0, 1, 4, 5, 50] (T' := [(49, .map (some Z.tb)), (6, .pointer (some ⟨b14, 0, none⟩)), (3, .pointer (some ⟨b2, 0, none⟩)), (0, .pointer (some ⟨mb, 0, none⟩)), (1, .agg #[.int .u8 4, .int .u32 ev.pick, .int .u64 ev.draw, .int .u32 ev.addr, .int .u32 ev.node, .int .u32 ev.dst, .int .u32 ev.xfer, .int .u8 ev.ty, .int .u64 ev.arg, .int .u64 ev.badge, .slice xo ev.ws.length cx]), (4, .int .u8 0), (5, .bool false), (50, .agg #[.int .u16 ((Z.ky x).idx), .int .u32 ((Z.ky x).gen)])]) (φ := (b14 = b14 ∧ Nat.ble (0 + 2) 2 = true) ∧ True) (fuel := 2) h28 (by kernel_rfl) rfl (by kernel_rfl) (by kernel_rfl) ⟨rfl, trivial⟩ ⟨⟨rfl, rfl⟩, trivial⟩ fun a29 h30 => ?_
  clear h28
  refine dr_read (i := 5) (b := Z.tb) (p := 4) (v := .pointer (some ⟨(Z.tp x), 0, none⟩)) (fuel := 1) (by repeat (first | with_reducible exact PF.body | with_reducible apply PF.inB | with_reducible apply PF.next)) h30 rfl rfl rfl (by kernel_rfl) (by kernel_rfl) (by kernel_rfl) rfl (rd_T h30 (x := x) hx rfl rfl rfl) ?_
  have h31 := h30.put (d := some 51) (v := .pointer (some ⟨(Z.tp x), 0, none⟩)) (T' := [(51, .pointer (some ⟨(Z.tp x), 0, none⟩)), (49, .map (some Z.tb)), (6, .pointer (some ⟨b14, 0, none⟩)), (3, .pointer (some ⟨b2, 0, none⟩)), (0, .pointer (some ⟨mb, 0, none⟩)), (1, .agg #[.int .u8 4, .int .u32 ev.pick, .int .u64 ev.draw, .int .u32 ev.addr, .int .u32 ev.node, .int .u32 ev.dst, .int .u32 ev.xfer, .int .u8 ev.ty, .int .u64 ev.arg, .int .u64 ev.badge, .slice xo ev.ws.length cx]), (4, .int .u8 0), (5, .bool false), (50, .agg #[.int .u16 ((Z.ky x).idx), .int .u32 ((Z.ky x).gen)])]) rfl
  clear h30
  refine dr_batch tabOk2 tabZ_ok2 (by repeat (first | with_reducible exact PF.body | with_reducible apply PF.inB | with_reducible apply PF.next)) [(6, {})] [6, 3, 0, 1, 4, 5, 7] (T' := [(6, .pointer (some ⟨b14, 0, none⟩)), (3, .pointer (some ⟨b2, 0, none⟩)), (0, .pointer (some ⟨mb, 0, none⟩)), (1, .agg #[.int .u8 4, .int .u32 ev.pick, .int .u64 ev.draw, .int .u32 ev.addr, .int .u32 ev.node, .int .u32 ev.dst, .int .u32 ev.xfer, .int .u8 ev.ty, .int .u64 ev.arg, .int .u64 ev.badge, .slice xo ev.ws.length cx]), (4, .int .u8 0), (5, .bool false), (7, .pointer (some ⟨(Z.tp x), 0, none⟩))]) (φ := True) (fuel := 0) h31 (by kernel_rfl) rfl (by kernel_rfl) (by kernel_rfl) ⟨trivial, trivial⟩ trivial fun a32 h33 => ?_
  clear h31
  refine wpAnyK_done (by kernel_rfl) ?_ _
  refine hK22 _ _ ?_
  clear hK22
  refine wp_seq_k fun K34 hK34 => ?_
  refine wp_seq_k fun K35 hK35 => ?_
  refine nd_start (l := [0, 1]) rfl ?_
  refine nd_batch tabOk2 tabZ_ok2 [(0, {}), (1, {k := 1})] [6, 3, 0, 1, 4, 5, 7, 53] (T' := [(6, .pointer (some ⟨b14, 0, none⟩)), (3, .pointer (some ⟨b2, 0, none⟩)), (0, .pointer (some ⟨mb, 0, none⟩)), (1, .agg #[.int .u8 4, .int .u32 ev.pick, .int .u64 ev.draw, .int .u32 ev.addr, .int .u32 ev.node, .int .u32 ev.dst, .int .u32 ev.xfer, .int .u8 ev.ty, .int .u64 ev.arg, .int .u64 ev.badge, .slice xo ev.ws.length cx]), (4, .int .u8 0), (5, .bool false), (7, .pointer (some ⟨(Z.tp x), 0, none⟩)), (53, .int .u8 4)]) (φ := (b2 = b2 ∧ Nat.ble (0 + 1) 11 = true) ∧ True) (rest := []) h33 (by kernel_rfl) rfl ⟨⟨rfl, rfl⟩, trivial⟩ fun a36 h37 => ?_
  clear h33
  refine nd_done ?_
  refine hK35 _ _ ?_
  clear hK35
  refine wp_block ?_
  refine wp_seq_k fun K38 hK38 => ?_
  refine nd_start (l := [0, 1]) rfl ?_
  refine nd_batch tabOk2 tabZ_ok2 [(0, {}), (1, {})] [6, 3, 0, 1, 4, 5, 7, 53, 54] (T' := [(6, .pointer (some ⟨b14, 0, none⟩)), (3, .pointer (some ⟨b2, 0, none⟩)), (0, .pointer (some ⟨mb, 0, none⟩)), (1, .agg #[.int .u8 4, .int .u32 ev.pick, .int .u64 ev.draw, .int .u32 ev.addr, .int .u32 ev.node, .int .u32 ev.dst, .int .u32 ev.xfer, .int .u8 ev.ty, .int .u64 ev.arg, .int .u64 ev.badge, .slice xo ev.ws.length cx]), (4, .int .u8 0), (5, .bool false), (7, .pointer (some ⟨(Z.tp x), 0, none⟩)), (53, .int .u8 4), (54, .bool false)]) (φ := True) (rest := []) h37 (by kernel_rfl) rfl trivial fun a39 h40 => ?_
  clear h37
  refine nd_done ?_
  refine hK38 _ _ ?_
  clear hK38
  refine c_false h40 rfl ?_
  refine wp_seq_k fun K41 hK41 => ?_
  refine nd_start (l := [0, 1]) rfl ?_
  refine nd_batch tabOk2 tabZ_ok2 [(0, {}), (1, {})] [6, 3, 0, 1, 4, 5, 7, 53, 59] (T' := [(6, .pointer (some ⟨b14, 0, none⟩)), (3, .pointer (some ⟨b2, 0, none⟩)), (0, .pointer (some ⟨mb, 0, none⟩)), (1, .agg #[.int .u8 4, .int .u32 ev.pick, .int .u64 ev.draw, .int .u32 ev.addr, .int .u32 ev.node, .int .u32 ev.dst, .int .u32 ev.xfer, .int .u8 ev.ty, .int .u64 ev.arg, .int .u64 ev.badge, .slice xo ev.ws.length cx]), (4, .int .u8 0), (5, .bool false), (7, .pointer (some ⟨(Z.tp x), 0, none⟩)), (53, .int .u8 4), (59, .bool false)]) (φ := True) (rest := []) h40 (by kernel_rfl) rfl trivial fun a42 h43 => ?_
  clear h40
  refine nd_done ?_
  refine hK41 _ _ ?_
  clear hK41
  refine c_false h43 rfl ?_
  refine wp_seq_k fun K44 hK44 => ?_
  refine wp_seq_k fun K45 hK45 => ?_
  refine nd_start (l := [0, 1]) rfl ?_
  refine nd_batch tabOk2 tabZ_ok2 [(0, {}), (1, {})] [6, 3, 0, 1, 4, 5, 7, 53, 66] (T' := [(6, .pointer (some ⟨b14, 0, none⟩)), (3, .pointer (some ⟨b2, 0, none⟩)), (0, .pointer (some ⟨mb, 0, none⟩)), (1, .agg #[.int .u8 4, .int .u32 ev.pick, .int .u64 ev.draw, .int .u32 ev.addr, .int .u32 ev.node, .int .u32 ev.dst, .int .u32 ev.xfer, .int .u8 ev.ty, .int .u64 ev.arg, .int .u64 ev.badge, .slice xo ev.ws.length cx]), (4, .int .u8 0), (5, .bool false), (7, .pointer (some ⟨(Z.tp x), 0, none⟩)), (53, .int .u8 4), (66, .bool true)]) (φ := True) (rest := []) h43 (by kernel_rfl) rfl trivial fun a46 h47 => ?_
  clear h43
  refine nd_done ?_
  refine hK45 _ _ ?_
  clear hK45
  refine c_true h47 rfl ?_
  refine wp_skip ?_
  refine hK44 _ _ ?_
  clear hK44
  refine c_true h47 rfl ?_
  refine wp_seq_k fun K48 hK48 => ?_
  refine nd_start (l := [0, 1, 2, 3, 4, 5, 6, 7, 8, 9]) rfl ?_
  refine nd_batch tabOk2 tabZ_ok2 [(0, {}), (1, {}), (2, {k := 1})] [6, 3, 0, 1, 4, 5, 7, 53, 66, 70, 72] (T' := [(6, .pointer (some ⟨b14, 0, none⟩)), (3, .pointer (some ⟨b2, 0, none⟩)), (0, .pointer (some ⟨mb, 0, none⟩)), (1, .agg #[.int .u8 4, .int .u32 ev.pick, .int .u64 ev.draw, .int .u32 ev.addr, .int .u32 ev.node, .int .u32 ev.dst, .int .u32 ev.xfer, .int .u8 ev.ty, .int .u64 ev.arg, .int .u64 ev.badge, .slice xo ev.ws.length cx]), (4, .int .u8 0), (5, .bool false), (7, .pointer (some ⟨(Z.tp x), 0, none⟩)), (53, .int .u8 4), (66, .bool true), (70, .pointer (some ⟨mb, 0, none⟩)), (72, .int .u32 ev.addr)]) (φ := (b2 = b2 ∧ Nat.ble (3 + 1) 11 = true) ∧ True) (rest := [3, 4, 5, 6, 7, 8, 9]) h47 (by kernel_rfl) rfl ⟨⟨rfl, rfl⟩, trivial⟩ fun a49 h50 => ?_
  clear h47
  refine nd_op ?_
  refine op_call h50 rfl rfl rfl (callOk Tryd.func90 (by decide) rfl) (args := [.pointer (some ⟨mb, 0, none⟩), .int .u32 ev.addr, .int .u8 4, .int .u8 2]) rfl (capOf_ok mb Z _ a C x hx hcx hci hcn hI.ci ev.addr 4 2 he.addr _ (mh_of h50 hho (k := 0) rfl) hf) ?_
  rintro _ w51 ⟨rfl, hg53⟩
  refine ⟨_, rfl, ?_⟩
  have h54a := st_mg h50 hg53 (kcons (fun _ => rfl) (kcons (fun hq => by cases hq) (kcons (fun hq => by cases hq) knil)))
  have h54 := h54a.put (d := some 73) (v := .tuple #[.agg #[.int .u8 ct, .int .u16 ((Z.ky i).idx), .int .u32 ((Z.ky i).gen), .int .u8 rt, .int .u64 bd], .int .u8 0]) (T' := [(73, .tuple #[.agg #[.int .u8 ct, .int .u16 ((Z.ky i).idx), .int .u32 ((Z.ky i).gen), .int .u8 rt, .int .u64 bd], .int .u8 0]), (6, .pointer (some ⟨b14, 0, none⟩)), (3, .pointer (some ⟨b2, 0, none⟩)), (0, .pointer (some ⟨mb, 0, none⟩)), (1, .agg #[.int .u8 4, .int .u32 ev.pick, .int .u64 ev.draw, .int .u32 ev.addr, .int .u32 ev.node, .int .u32 ev.dst, .int .u32 ev.xfer, .int .u8 ev.ty, .int .u64 ev.arg, .int .u64 ev.badge, .slice xo ev.ws.length cx]), (4, .int .u8 0), (5, .bool false), (7, .pointer (some ⟨(Z.tp x), 0, none⟩)), (53, .int .u8 4), (66, .bool true), (70, .pointer (some ⟨mb, 0, none⟩)), (72, .int .u32 ev.addr)]) rfl
  have hhoh54 := hg53.mh.ho
  clear h50 h54a
  refine nd_batch tabOk2 tabZ_ok2 [(4, {}), (5, {}), (6, {})] [6, 3, 0, 1, 4, 5, 7, 53, 66, 74, 75] (T' := [(6, .pointer (some ⟨b14, 0, none⟩)), (3, .pointer (some ⟨b2, 0, none⟩)), (0, .pointer (some ⟨mb, 0, none⟩)), (1, .agg #[.int .u8 4, .int .u32 ev.pick, .int .u64 ev.draw, .int .u32 ev.addr, .int .u32 ev.node, .int .u32 ev.dst, .int .u32 ev.xfer, .int .u8 ev.ty, .int .u64 ev.arg, .int .u64 ev.badge, .slice xo ev.ws.length cx]), (4, .int .u8 0), (5, .bool false), (7, .pointer (some ⟨(Z.tp x), 0, none⟩)), (53, .int .u8 4), (66, .bool true), (74, .agg #[.int .u8 ct, .int .u16 ((Z.ky i).idx), .int .u32 ((Z.ky i).gen), .int .u8 rt, .int .u64 bd]), (75, .int .u8 0)]) (φ := True) (rest := [7, 8, 9]) h54 (by kernel_rfl) rfl trivial fun a55 h56 => ?_
  clear h54
  refine nd_op ?_
  refine op_new tabOk2 (cells := [.int .u8 0, .int .u16 0, .int .u32 0, .int .u8 0, .int .u64 0]) (ty := 49) (ln := none) (L1 := fun b57 => [(3, ⟨[.int .u16 0, .int .u32 0], ty3, true⟩), (b2, ⟨[.int .u8 4, .int .u32 ev.pick, .int .u64 ev.draw, .int .u32 ev.addr, .int .u32 ev.node, .int .u32 ev.dst, .int .u32 ev.xfer, .int .u8 ev.ty, .int .u64 ev.arg, .int .u64 ev.badge, .slice xo ev.ws.length cx], 35, false⟩), (b14, ⟨[.int .u16 ((Z.ky x).idx), .int .u32 ((Z.ky x).gen)], 39, false⟩), (b57, ⟨[.int .u8 0, .int .u16 0, .int .u32 0, .int .u8 0, .int .u64 0], 49, false⟩)]) h56 rfl rfl rfl rfl (by kernel_rfl) (fun _ => rfl) fun b57 w58 a59 h60 hf61 hn62 => ?_
  clear h56
  refine nd_op ?_
  refine op_store tabOk2 {k := 3} (L' := [(3, ⟨[.int .u16 0, .int .u32 0], ty3, true⟩), (b2, ⟨[.int .u8 4, .int .u32 ev.pick, .int .u64 ev.draw, .int .u32 ev.addr, .int .u32 ev.node, .int .u32 ev.dst, .int .u32 ev.xfer, .int .u8 ev.ty, .int .u64 ev.arg, .int .u64 ev.badge, .slice xo ev.ws.length cx], 35, false⟩), (b14, ⟨[.int .u16 ((Z.ky x).idx), .int .u32 ((Z.ky x).gen)], 39, false⟩), (b57, ⟨[.int .u8 ct, .int .u16 ((Z.ky i).idx), .int .u32 ((Z.ky i).gen), .int .u8 rt, .int .u64 bd], 49, false⟩)]) (φ := b57 = b57 ∧ Nat.ble (0 + 5) 5 = true) h60 rfl rfl rfl (by kernel_rfl) ⟨rfl, rfl⟩ fun w63 h64 => ?_
  clear h60
  refine nd_batch tabOk2 tabZ_ok2 [(9, {})] [8, 6, 3, 0, 1, 4, 5, 7, 53, 66, 9] (T' := [(8, .pointer (some ⟨b57, 0, none⟩)), (6, .pointer (some ⟨b14, 0, none⟩)), (3, .pointer (some ⟨b2, 0, none⟩)), (0, .pointer (some ⟨mb, 0, none⟩)), (1, .agg #[.int .u8 4, .int .u32 ev.pick, .int .u64 ev.draw, .int .u32 ev.addr, .int .u32 ev.node, .int .u32 ev.dst, .int .u32 ev.xfer, .int .u8 ev.ty, .int .u64 ev.arg, .int .u64 ev.badge, .slice xo ev.ws.length cx]), (4, .int .u8 0), (5, .bool false), (7, .pointer (some ⟨(Z.tp x), 0, none⟩)), (53, .int .u8 4), (66, .bool true), (9, .int .u8 0)]) (φ := True) (rest := []) h64 (by kernel_rfl) rfl trivial fun a65 h66 => ?_
  clear h64
  refine nd_done ?_
  refine hK48 _ _ ?_
  clear hK48
  refine wp_seq_k fun K67 hK67 => ?_
  refine wp_seq_k fun K68 hK68 => ?_
  refine nd_start (l := [0, 1]) rfl ?_
  refine nd_batch tabOk2 tabZ_ok2 [(0, {}), (1, {})] [8, 6, 3, 0, 1, 4, 5, 7, 53, 66, 9, 77] (T' := [(8, .pointer (some ⟨b57, 0, none⟩)), (6, .pointer (some ⟨b14, 0, none⟩)), (3, .pointer (some ⟨b2, 0, none⟩)), (0, .pointer (some ⟨mb, 0, none⟩)), (1, .agg #[.int .u8 4, .int .u32 ev.pick, .int .u64 ev.draw, .int .u32 ev.addr, .int .u32 ev.node, .int .u32 ev.dst, .int .u32 ev.xfer, .int .u8 ev.ty, .int .u64 ev.arg, .int .u64 ev.badge, .slice xo ev.ws.length cx]), (4, .int .u8 0), (5, .bool false), (7, .pointer (some ⟨(Z.tp x), 0, none⟩)), (53, .int .u8 4), (66, .bool true), (9, .int .u8 0), (77, .bool false)]) (φ := True) (rest := []) h66 (by kernel_rfl) rfl trivial fun a69 h70 => ?_
  clear h66
  refine nd_done ?_
  refine hK68 _ _ ?_
  clear hK68
  refine c_false h70 rfl ?_
  refine wp_skip ?_
  refine hK67 _ _ ?_
  clear hK67
  refine wp_seq_k fun K71 hK71 => ?_
  refine wp_seq_k fun K72 hK72 => ?_
  refine nd_start (l := [0, 1, 2, 3]) rfl ?_
  refine nd_batch tabOk2 tabZ_ok2 [(0, {}), (1, {k := 1}), (2, {}), (3, {})] [8, 6, 3, 0, 1, 4, 5, 7, 53, 66, 9, 82] (T' := [(8, .pointer (some ⟨b57, 0, none⟩)), (6, .pointer (some ⟨b14, 0, none⟩)), (3, .pointer (some ⟨b2, 0, none⟩)), (0, .pointer (some ⟨mb, 0, none⟩)), (1, .agg #[.int .u8 4, .int .u32 ev.pick, .int .u64 ev.draw, .int .u32 ev.addr, .int .u32 ev.node, .int .u32 ev.dst, .int .u32 ev.xfer, .int .u8 ev.ty, .int .u64 ev.arg, .int .u64 ev.badge, .slice xo ev.ws.length cx]), (4, .int .u8 0), (5, .bool false), (7, .pointer (some ⟨(Z.tp x), 0, none⟩)), (53, .int .u8 4), (66, .bool true), (9, .int .u8 0), (82, .bool (decide (((ev.ws.length : Nat) : Int) > 4)))]) (φ := (b2 = b2 ∧ Nat.ble (10 + 1) 11 = true) ∧ True) (rest := []) h70 (by kernel_rfl) rfl ⟨⟨rfl, rfl⟩, trivial⟩ fun a73 h74 => ?_
  clear h70
  refine nd_done ?_
  refine hK72 _ _ ?_
  clear hK72
  refine c_split h74 (b := decide (((ev.ws.length : Nat) : Int) > 4)) rfl (fun hc75 => ?_) (fun hc75 => ?_)
  ·
    have hc75f : ((ev.ws.length : Nat) : Int) > 4 := by simpa using hc75
    exact absurd (hwl) (by first | exact hc75f | (intro hz; exact hc75f hz) | omega | simp_all)
  ·
    have hc75f : ¬ ((ev.ws.length : Nat) : Int) > 4 := by simpa using hc75
    refine wp_skip ?_
    refine hK71 _ _ ?_
    clear hK71
    refine wp_seq_k fun K76 hK76 => ?_
    refine nd_start (l := [0, 1, 2, 3]) rfl ?_
    refine nd_batch tabOk2 tabZ_ok2 [(0, {}), (1, {}), (2, {k := 1})] [8, 6, 3, 0, 1, 4, 5, 7, 53, 66, 9, 83, 85] (T' := [(8, .pointer (some ⟨b57, 0, none⟩)), (6, .pointer (some ⟨b14, 0, none⟩)), (3, .pointer (some ⟨b2, 0, none⟩)), (0, .pointer (some ⟨mb, 0, none⟩)), (1, .agg #[.int .u8 4, .int .u32 ev.pick, .int .u64 ev.draw, .int .u32 ev.addr, .int .u32 ev.node, .int .u32 ev.dst, .int .u32 ev.xfer, .int .u8 ev.ty, .int .u64 ev.arg, .int .u64 ev.badge, .slice xo ev.ws.length cx]), (4, .int .u8 0), (5, .bool false), (7, .pointer (some ⟨(Z.tp x), 0, none⟩)), (53, .int .u8 4), (66, .bool true), (9, .int .u8 0), (83, .pointer (some ⟨(Z.tp x), 0, none⟩)), (85, .slice xo ev.ws.length cx)]) (φ := (b2 = b2 ∧ Nat.ble (10 + 1) 11 = true) ∧ True) (rest := [3]) h74 (by kernel_rfl) rfl ⟨⟨rfl, rfl⟩, trivial⟩ fun a77 h78 => ?_
    clear h74
    refine nd_op ?_
    refine op_call h78 rfl rfl rfl (callOk Tryd.func89 (by decide) rfl) (args := [.pointer (some ⟨(Z.tp x), 0, none⟩), .slice xo ev.ws.length cx]) rfl (setMsg_ok mb Z _ a _ x hx _ _ ev.ws (by omega) _ (mh_of h78 hhoh54 (k := 0) rfl) (words_now h78 hws)) ?_
    rintro _ w79 ⟨rfl, hg81⟩
    refine ⟨_, rfl, ?_⟩
    have h82a := st_mg h78 hg81 (kcons (fun _ => rfl) (kcons (fun hq => by cases hq) (kcons (fun hq => by cases hq) (kcons (fun hq => by cases hq) knil))))
    have h82 := h82a.put (d := some 86) (v := .tuple #[]) (T' := [(86, .tuple #[]), (8, .pointer (some ⟨b57, 0, none⟩)), (6, .pointer (some ⟨b14, 0, none⟩)), (3, .pointer (some ⟨b2, 0, none⟩)), (0, .pointer (some ⟨mb, 0, none⟩)), (1, .agg #[.int .u8 4, .int .u32 ev.pick, .int .u64 ev.draw, .int .u32 ev.addr, .int .u32 ev.node, .int .u32 ev.dst, .int .u32 ev.xfer, .int .u8 ev.ty, .int .u64 ev.arg, .int .u64 ev.badge, .slice xo ev.ws.length cx]), (4, .int .u8 0), (5, .bool false), (7, .pointer (some ⟨(Z.tp x), 0, none⟩)), (53, .int .u8 4), (66, .bool true), (9, .int .u8 0), (83, .pointer (some ⟨(Z.tp x), 0, none⟩)), (85, .slice xo ev.ws.length cx)]) rfl
    have hhoh82 := hg81.mh.ho
    obtain ⟨a83, ea83⟩ : ∃ z : AK, z = a.setT x (msgA (a.th x) ev.ws) := ⟨_, rfl⟩
    rw [← ea83] at h82
    have hcx84 : curR Z a83 = Z.ky x := by rw [ea83] <;> exact hcx
    clear h78 h82a
    have ht85 : a83.th x = (msgA (a.th x) ev.ws) := by rw [ea83]; exact (upd_same _ _ _).trans (by first | rfl | rw [rfl])
    have hP86 : MP Z a83 := by rw [ea83]; exact MP.msg hP
    refine nd_done ?_
    refine hK76 _ _ ?_
    clear hK76
    refine wp_seq_k fun K87 hK87 => ?_
    refine dr_start (KB := [3, b2, b14, b57]) (Bi := [[0, 1, 2, 3], [0, 1, 2, 3], [0, 1, 2, 3], [0, 1, 2, 3], [0, 1, 2, 3], [0, 1, 2, 3], [0, 1, 2, 3], [0, 1, 2, 3], [1], [0, 1, 2, 3], [0, 1, 2, 3], []]) mixed h82 fun w88 h89 => ?_
    clear h82
    refine dr_batch tabOk2 tabZ_ok2 (by repeat (first | with_reducible exact PF.body | with_reducible apply PF.inB | with_reducible apply PF.next)) [(0, {}), (1, {}), (2, {}), (3, {k := 3, p := 3}), (4, {}), (5, {k := 1, p := 1}), (6, {}), (7, {})] [8, 6, 3, 0, 1, 4, 5, 7, 53, 66, 9, 88, 90, 92, 94] (T' := [(8, .pointer (some ⟨b57, 0, none⟩)), (6, .pointer (some ⟨b14, 0, none⟩)), (3, .pointer (some ⟨b2, 0, none⟩)), (0, .pointer (some ⟨mb, 0, none⟩)), (1, .agg #[.int .u8 4, .int .u32 ev.pick, .int .u64 ev.draw, .int .u32 ev.addr, .int .u32 ev.node, .int .u32 ev.dst, .int .u32 ev.xfer, .int .u8 ev.ty, .int .u64 ev.arg, .int .u64 ev.badge, .slice xo ev.ws.length cx]), (4, .int .u8 0), (5, .bool false), (7, .pointer (some ⟨(Z.tp x), 0, none⟩)), (53, .int .u8 4), (66, .bool true), (9, .int .u8 0), (88, .pointer (some ⟨(Z.tp x), 0, none⟩)), (90, .int .u64 bd), (92, .int .u32 ev.xfer), (94, .pointer (some ⟨(Z.tp x), 8, none⟩))]) (φ := (b57 = b57 ∧ Nat.ble (4 + 1) 5 = true) ∧ (b2 = b2 ∧ Nat.ble (6 + 1) 11 = true) ∧ True) (fuel := 4) h89 (by kernel_rfl) rfl (by kernel_rfl) (by kernel_rfl) ⟨trivial, trivial, trivial, rfl, trivial, rfl, trivial, trivial, trivial⟩ ⟨⟨rfl, rfl⟩, ⟨rfl, rfl⟩, trivial⟩ fun a91 h92 => ?_
    clear h89
    refine wpAnyK_one (i := 8) (fuel := 3) (by kernel_rfl) ?_
    refine op_mTh (x := x) (off := 8) (v := .int .u64 bd) (y := { msgA (a.th x) ev.ws with badge := bd }) h92 rfl rfl rfl rfl rfl rfl rfl rfl rfl hx rfl (by rw [ht85]; rfl) (kcons (fun _ => rfl) (kcons (fun hq => by cases hq) (kcons (fun hq => by cases hq) (kcons (fun hq => by cases hq) knil)))) fun w93 hf94 h95 => ?_
    obtain ⟨a96, ea96⟩ : ∃ z : AK, z = a83.setT x { msgA (a.th x) ev.ws with badge := bd } := ⟨_, rfl⟩
    rw [← ea96] at h95
    have hcx97 : curR Z a96 = Z.ky x := by rw [ea96] <;> exact hcx84
    refine ⟨(keepCons (kpL h92 h95 (q := 1) (q' := 1) rfl rfl) keepNil), ?_⟩
    clear h92
    have ht98 : a96.th x = { msgA (a.th x) ev.ws with badge := bd } := by rw [ea96]; exact upd_same _ _ _
    have hP99 : MP Z a96 := by rw [ea96]; exact MP.like hP86 (by rw [ht85] <;> rfl) (by rw [ht85] <;> rfl) (by rw [ht85] <;> rfl)
    refine dr_batch tabOk2 tabZ_ok2 (by repeat (first | with_reducible exact PF.body | with_reducible apply PF.inB | with_reducible apply PF.next)) [(9, {}), (10, {})] [8, 6, 3, 0, 1, 4, 5, 7, 53, 66, 9, 92, 96] (T' := [(8, .pointer (some ⟨b57, 0, none⟩)), (6, .pointer (some ⟨b14, 0, none⟩)), (3, .pointer (some ⟨b2, 0, none⟩)), (0, .pointer (some ⟨mb, 0, none⟩)), (1, .agg #[.int .u8 4, .int .u32 ev.pick, .int .u64 ev.draw, .int .u32 ev.addr, .int .u32 ev.node, .int .u32 ev.dst, .int .u32 ev.xfer, .int .u8 ev.ty, .int .u64 ev.arg, .int .u64 ev.badge, .slice xo ev.ws.length cx]), (4, .int .u8 0), (5, .bool false), (7, .pointer (some ⟨(Z.tp x), 0, none⟩)), (53, .int .u8 4), (66, .bool true), (9, .int .u8 0), (92, .int .u32 ev.xfer), (96, .pointer (some ⟨(Z.tp x), 15, none⟩))]) (φ := True) (fuel := 1) h95 (by kernel_rfl) rfl (by kernel_rfl) (by kernel_rfl) ⟨trivial, trivial, trivial⟩ trivial fun a100 h101 => ?_
    clear h95
    refine wpAnyK_one (i := 11) (fuel := 0) (by kernel_rfl) ?_
    refine op_mTh (x := x) (off := 15) (v := .int .u32 ev.xfer) (y := { msgA (a.th x) ev.ws with badge := bd, xfer := ev.xfer }) h101 rfl rfl rfl rfl rfl rfl rfl rfl rfl hx rfl (by rw [ht98]; rfl) (kcons (fun _ => rfl) (kcons (fun hq => by cases hq) (kcons (fun hq => by cases hq) (kcons (fun hq => by cases hq) knil)))) fun w102 hf103 h104 => ?_
    obtain ⟨a105, ea105⟩ : ∃ z : AK, z = a96.setT x { msgA (a.th x) ev.ws with badge := bd, xfer := ev.xfer } := ⟨_, rfl⟩
    rw [← ea105] at h104
    have hcx106 : curR Z a105 = Z.ky x := by rw [ea105] <;> exact hcx97
    refine ⟨keepNil, ?_⟩
    clear h101
    have ht107 : a105.th x = { msgA (a.th x) ev.ws with badge := bd, xfer := ev.xfer } := by rw [ea105]; exact upd_same _ _ _
    have hP108 : MP Z a105 := by rw [ea105]; exact MP.like hP99 (by rw [ht98] <;> rfl) (by rw [ht98] <;> rfl) (by rw [ht98] <;> rfl)
    refine wpAnyK_done (by kernel_rfl) ?_ _
    refine hK87 _ _ ?_
    clear hK87
    refine wp_seq_k fun K109 hK109 => ?_
    refine dr_start (KB := [3, b2, b14, b57]) (Bi := [[0, 1, 2, 3], [0, 1, 2, 3], [0, 1, 2, 3], [0, 1, 2, 3], [0, 1, 2, 3], [0, 1, 2, 3], [0, 1, 2, 3], [0, 1, 2, 3], [0, 1, 2, 3], [0, 1, 2, 3], [0, 1, 2, 3], [1], [0, 1, 2, 3], [0, 1, 2, 3], []]) mixed h104 fun w110 h111 => ?_
    clear h104
    refine dr_batch tabOk2 tabZ_ok2 (by repeat (first | with_reducible exact PF.body | with_reducible apply PF.inB | with_reducible apply PF.next)) [(0, {}), (1, {}), (2, {}), (3, {k := 3, p := 3}), (4, {}), (5, {}), (6, {}), (7, {k := 1, p := 1}), (8, {}), (9, {}), (10, {})] [8, 6, 3, 0, 1, 4, 5, 7, 53, 66, 9, 98, 102, 105, 107] (T' := [(8, .pointer (some ⟨b57, 0, none⟩)), (6, .pointer (some ⟨b14, 0, none⟩)), (3, .pointer (some ⟨b2, 0, none⟩)), (0, .pointer (some ⟨mb, 0, none⟩)), (1, .agg #[.int .u8 4, .int .u32 ev.pick, .int .u64 ev.draw, .int .u32 ev.addr, .int .u32 ev.node, .int .u32 ev.dst, .int .u32 ev.xfer, .int .u8 ev.ty, .int .u64 ev.arg, .int .u64 ev.badge, .slice xo ev.ws.length cx]), (4, .int .u8 0), (5, .bool false), (7, .pointer (some ⟨(Z.tp x), 0, none⟩)), (53, .int .u8 4), (66, .bool true), (9, .int .u8 0), (98, .pointer (some ⟨(Z.tp x), 0, none⟩)), (102, .bool (bitI .and .u8 rt 4 != 0)), (105, .bool false), (107, .pointer (some ⟨(Z.tp x), 17, none⟩))]) (φ := (b57 = b57 ∧ Nat.ble (3 + 1) 5 = true) ∧ (b2 = b2 ∧ Nat.ble (0 + 1) 11 = true) ∧ True) (fuel := 4) h111 (by kernel_rfl) rfl (by kernel_rfl) (by kernel_rfl) ⟨trivial, trivial, trivial, rfl, trivial, trivial, trivial, rfl, trivial, trivial, trivial, trivial⟩ ⟨⟨rfl, rfl⟩, ⟨rfl, rfl⟩, trivial⟩ fun a113 h114 => ?_
    clear h111
    refine wpAnyK_one (i := 11) (fuel := 3) (by kernel_rfl) ?_
    refine op_mTh (x := x) (off := 17) (v := .bool (bitI .and .u8 rt 4 != 0)) (y := { msgA (a.th x) ev.ws with badge := bd, xfer := ev.xfer, grant := (bitI .and .u8 rt 4 != 0) }) h114 rfl rfl rfl rfl rfl rfl rfl rfl rfl hx rfl (by rw [ht107]; rfl) (kcons (fun _ => rfl) (kcons (fun hq => by cases hq) (kcons (fun hq => by cases hq) (kcons (fun hq => by cases hq) knil)))) fun w115 hf116 h117 => ?_
    obtain ⟨a118, ea118⟩ : ∃ z : AK, z = a105.setT x { msgA (a.th x) ev.ws with badge := bd, xfer := ev.xfer, grant := (bitI .and .u8 rt 4 != 0) } := ⟨_, rfl⟩
    rw [← ea118] at h117
    have hcx119 : curR Z a118 = Z.ky x := by rw [ea118] <;> exact hcx106
    refine ⟨(keepCons (kpL h114 h117 (q := 1) (q' := 1) rfl rfl) keepNil), ?_⟩
    clear h114
    have ht120 : a118.th x = { msgA (a.th x) ev.ws with badge := bd, xfer := ev.xfer, grant := (bitI .and .u8 rt 4 != 0) } := by rw [ea118]; exact upd_same _ _ _
    have hP121 : MP Z a118 := by rw [ea118]; exact MP.like hP108 (by rw [ht107] <;> rfl) (by rw [ht107] <;> rfl) (by rw [ht107] <;> rfl)
    refine dr_batch tabOk2 tabZ_ok2 (by repeat (first | with_reducible exact PF.body | with_reducible apply PF.inB | with_reducible apply PF.next)) [(12, {}), (13, {})] [8, 6, 3, 0, 1, 4, 5, 7, 53, 66, 9, 105, 109] (T' := [(8, .pointer (some ⟨b57, 0, none⟩)), (6, .pointer (some ⟨b14, 0, none⟩)), (3, .pointer (some ⟨b2, 0, none⟩)), (0, .pointer (some ⟨mb, 0, none⟩)), (1, .agg #[.int .u8 4, .int .u32 ev.pick, .int .u64 ev.draw, .int .u32 ev.addr, .int .u32 ev.node, .int .u32 ev.dst, .int .u32 ev.xfer, .int .u8 ev.ty, .int .u64 ev.arg, .int .u64 ev.badge, .slice xo ev.ws.length cx]), (4, .int .u8 0), (5, .bool false), (7, .pointer (some ⟨(Z.tp x), 0, none⟩)), (53, .int .u8 4), (66, .bool true), (9, .int .u8 0), (105, .bool false), (109, .pointer (some ⟨(Z.tp x), 18, none⟩))]) (φ := True) (fuel := 1) h117 (by kernel_rfl) rfl (by kernel_rfl) (by kernel_rfl) ⟨trivial, trivial, trivial⟩ trivial fun a122 h123 => ?_
    clear h117
    refine wpAnyK_one (i := 14) (fuel := 0) (by kernel_rfl) ?_
    refine op_mTh (x := x) (off := 18) (v := .bool false) (y := { msgA (a.th x) ev.ws with badge := bd, xfer := ev.xfer, grant := (bitI .and .u8 rt 4 != 0), call := false }) h123 rfl rfl rfl rfl rfl rfl rfl rfl rfl hx rfl (by rw [ht120]; rfl) (kcons (fun _ => rfl) (kcons (fun hq => by cases hq) (kcons (fun hq => by cases hq) (kcons (fun hq => by cases hq) knil)))) fun w124 hf125 h126 => ?_
    obtain ⟨a127, ea127⟩ : ∃ z : AK, z = a118.setT x { msgA (a.th x) ev.ws with badge := bd, xfer := ev.xfer, grant := (bitI .and .u8 rt 4 != 0), call := false } := ⟨_, rfl⟩
    rw [← ea127] at h126
    have hcx128 : curR Z a127 = Z.ky x := by rw [ea127] <;> exact hcx119
    refine ⟨keepNil, ?_⟩
    clear h123
    have ht129 : a127.th x = { msgA (a.th x) ev.ws with badge := bd, xfer := ev.xfer, grant := (bitI .and .u8 rt 4 != 0), call := false } := by rw [ea127]; exact upd_same _ _ _
    have hP130 : MP Z a127 := by rw [ea127]; exact MP.like hP121 (by rw [ht120] <;> rfl) (by rw [ht120] <;> rfl) (by rw [ht120] <;> rfl)
    refine wpAnyK_done (by kernel_rfl) ?_ _
    refine hK109 _ _ ?_
    clear hK109
    refine wp_seq_k fun K131 hK131 => ?_
    refine wp_seq_k fun K132 hK132 => ?_
    refine nd_start (l := [0, 1, 2, 3, 4, 5]) rfl ?_
    refine nd_batch tabOk2 tabZ_ok2 [(0, {}), (1, {}), (2, {k := 3})] [8, 6, 3, 0, 1, 4, 5, 7, 53, 66, 9, 110, 112] (T' := [(8, .pointer (some ⟨b57, 0, none⟩)), (6, .pointer (some ⟨b14, 0, none⟩)), (3, .pointer (some ⟨b2, 0, none⟩)), (0, .pointer (some ⟨mb, 0, none⟩)), (1, .agg #[.int .u8 4, .int .u32 ev.pick, .int .u64 ev.draw, .int .u32 ev.addr, .int .u32 ev.node, .int .u32 ev.dst, .int .u32 ev.xfer, .int .u8 ev.ty, .int .u64 ev.arg, .int .u64 ev.badge, .slice xo ev.ws.length cx]), (4, .int .u8 0), (5, .bool false), (7, .pointer (some ⟨(Z.tp x), 0, none⟩)), (53, .int .u8 4), (66, .bool true), (9, .int .u8 0), (110, .pointer (some ⟨mb, 0, none⟩)), (112, .agg #[.int .u16 ((Z.ky i).idx), .int .u32 ((Z.ky i).gen)])]) (φ := (b57 = b57 ∧ Nat.ble (1 + 2) 5 = true) ∧ True) (rest := [3, 4, 5]) h126 (by kernel_rfl) rfl ⟨⟨rfl, rfl⟩, trivial⟩ fun a133 h134 => ?_
    clear h126
    refine nd_op ?_
    have hA135 : a127 = a5 := by rw [h5]; subst ea127 ea118 ea105 ea96 ea83; simp only [setT_setT]
    have h136 := h134
    rw [hA135] at h136
    clear h134
    have ht137 : a5.th x = { msgA (a.th x) ev.ws with badge := bd, xfer := ev.xfer, grant := (bitI .and .u8 rt 4 != 0), call := false } := by rw [← hA135]; exact ht129
    have hP138 : MP Z a5 := by rw [← hA135]; exact hP130
    refine op_call h136 rfl rfl rfl (callOk Tryd.func88 (by decide) rfl) (args := [.pointer (some ⟨mb, 0, none⟩), .agg #[.int .u16 ((Z.ky i).idx), .int .u32 ((Z.ky i).gen)], .int .u8 4]) rfl (by have hf9 := first_ok mb Z _ a5 _ i hi 4 hP138 _ (mh_of h136 hhoh82 (k := 0) rfl); rw [hf5] at hf9; exact hf9) ?_
    rintro _ w139 ⟨rfl, hg141⟩
    refine ⟨_, rfl, ?_⟩
    have h142a := st_mg h136 hg141 (kcons (fun _ => rfl) (kcons (fun hq => by cases hq) (kcons (fun hq => by cases hq) (kcons (fun hq => by cases hq) knil))))
    have h142 := h142a.put (d := some 113) (v := .agg #[.int .u16 ((Z.ky y).idx), .int .u32 ((Z.ky y).gen)]) (T' := [(113, .agg #[.int .u16 ((Z.ky y).idx), .int .u32 ((Z.ky y).gen)]), (8, .pointer (some ⟨b57, 0, none⟩)), (6, .pointer (some ⟨b14, 0, none⟩)), (3, .pointer (some ⟨b2, 0, none⟩)), (0, .pointer (some ⟨mb, 0, none⟩)), (1, .agg #[.int .u8 4, .int .u32 ev.pick, .int .u64 ev.draw, .int .u32 ev.addr, .int .u32 ev.node, .int .u32 ev.dst, .int .u32 ev.xfer, .int .u8 ev.ty, .int .u64 ev.arg, .int .u64 ev.badge, .slice xo ev.ws.length cx]), (4, .int .u8 0), (5, .bool false), (7, .pointer (some ⟨(Z.tp x), 0, none⟩)), (53, .int .u8 4), (66, .bool true), (9, .int .u8 0), (110, .pointer (some ⟨mb, 0, none⟩)), (112, .agg #[.int .u16 ((Z.ky i).idx), .int .u32 ((Z.ky i).gen)])]) rfl
    have hhoh142 := hg141.mh.ho
    clear h136 h142a
    refine nd_op ?_
    refine op_new tabOk2 (cells := [.int .u16 0, .int .u32 0]) (ty := 39) (ln := none) (L1 := fun b143 => [(3, ⟨[.int .u16 0, .int .u32 0], ty3, true⟩), (b2, ⟨[.int .u8 4, .int .u32 ev.pick, .int .u64 ev.draw, .int .u32 ev.addr, .int .u32 ev.node, .int .u32 ev.dst, .int .u32 ev.xfer, .int .u8 ev.ty, .int .u64 ev.arg, .int .u64 ev.badge, .slice xo ev.ws.length cx], 35, false⟩), (b14, ⟨[.int .u16 ((Z.ky x).idx), .int .u32 ((Z.ky x).gen)], 39, false⟩), (b57, ⟨[.int .u8 ct, .int .u16 ((Z.ky i).idx), .int .u32 ((Z.ky i).gen), .int .u8 rt, .int .u64 bd], 49, false⟩), (b143, ⟨[.int .u16 0, .int .u32 0], 39, false⟩)]) h142 rfl rfl rfl rfl (by kernel_rfl) (fun _ => rfl) fun b143 w144 a145 h146 hf147 hn148 => ?_
    clear h142
    refine nd_op ?_
    refine op_store tabOk2 {k := 4} (L' := [(3, ⟨[.int .u16 0, .int .u32 0], ty3, true⟩), (b2, ⟨[.int .u8 4, .int .u32 ev.pick, .int .u64 ev.draw, .int .u32 ev.addr, .int .u32 ev.node, .int .u32 ev.dst, .int .u32 ev.xfer, .int .u8 ev.ty, .int .u64 ev.arg, .int .u64 ev.badge, .slice xo ev.ws.length cx], 35, false⟩), (b14, ⟨[.int .u16 ((Z.ky x).idx), .int .u32 ((Z.ky x).gen)], 39, false⟩), (b57, ⟨[.int .u8 ct, .int .u16 ((Z.ky i).idx), .int .u32 ((Z.ky i).gen), .int .u8 rt, .int .u64 bd], 49, false⟩), (b143, ⟨[.int .u16 ((Z.ky y).idx), .int .u32 ((Z.ky y).gen)], 39, false⟩)]) (φ := b143 = b143 ∧ Nat.ble (0 + 2) 2 = true) h146 rfl rfl rfl (by kernel_rfl) ⟨rfl, rfl⟩ fun w149 h150 => ?_
    clear h146
    refine nd_done ?_
    refine hK132 _ _ ?_
    clear hK132
    refine wp_seq_k fun K151 hK151 => ?_
    refine nd_start (l := [0, 1, 2]) rfl ?_
    refine nd_batch tabOk2 tabZ_ok2 [(0, {k := 4}), (1, {k := 0}), (2, {f := 2})] [10, 8, 6, 3, 0, 1, 4, 5, 7, 53, 66, 9, 116] (T' := [(10, .pointer (some ⟨b143, 0, none⟩)), (8, .pointer (some ⟨b57, 0, none⟩)), (6, .pointer (some ⟨b14, 0, none⟩)), (3, .pointer (some ⟨b2, 0, none⟩)), (0, .pointer (some ⟨mb, 0, none⟩)), (1, .agg #[.int .u8 4, .int .u32 ev.pick, .int .u64 ev.draw, .int .u32 ev.addr, .int .u32 ev.node, .int .u32 ev.dst, .int .u32 ev.xfer, .int .u8 ev.ty, .int .u64 ev.arg, .int .u64 ev.badge, .slice xo ev.ws.length cx]), (4, .int .u8 0), (5, .bool false), (7, .pointer (some ⟨(Z.tp x), 0, none⟩)), (53, .int .u8 4), (66, .bool true), (9, .int .u8 0), (116, .bool true)]) (φ := (b143 = b143 ∧ Nat.ble (0 + 2) 2 = true) ∧ (3 = 3 ∧ Nat.ble (0 + 2) 2 = true) ∧ EqRun Tryd.prog 39 (.agg #[.int .u16 ((Z.ky y).idx), .int .u32 ((Z.ky y).gen)]) (.agg #[.int .u16 0, .int .u32 0]) false ∧ True) (rest := []) h150 (by kernel_rfl) rfl ⟨⟨rfl, rfl⟩, ⟨rfl, rfl⟩, (by have hq := runRf (Z.ky y) (⟨0, 0⟩ : Rf); rw [show decide (Z.ky y = (⟨0, 0⟩ : Rf)) = false from decide_eq_false (hkk.ne0 (hkk.tx y hy))] at hq; exact hq), trivial⟩ fun a152 h153 => ?_
    clear h150
    refine nd_done ?_
    refine hK151 _ _ ?_
    clear hK151
    refine c_true h153 rfl ?_
    refine wp_seq_k fun K154 hK154 => ?_
    refine nd_start (l := [0, 1, 2]) rfl ?_
    refine nd_batch tabOk2 tabZ_ok2 [(0, {}), (1, {k := 4})] [10, 8, 6, 3, 0, 1, 4, 5, 7, 53, 66, 9, 117, 118] (T' := [(10, .pointer (some ⟨b143, 0, none⟩)), (8, .pointer (some ⟨b57, 0, none⟩)), (6, .pointer (some ⟨b14, 0, none⟩)), (3, .pointer (some ⟨b2, 0, none⟩)), (0, .pointer (some ⟨mb, 0, none⟩)), (1, .agg #[.int .u8 4, .int .u32 ev.pick, .int .u64 ev.draw, .int .u32 ev.addr, .int .u32 ev.node, .int .u32 ev.dst, .int .u32 ev.xfer, .int .u8 ev.ty, .int .u64 ev.arg, .int .u64 ev.badge, .slice xo ev.ws.length cx]), (4, .int .u8 0), (5, .bool false), (7, .pointer (some ⟨(Z.tp x), 0, none⟩)), (53, .int .u8 4), (66, .bool true), (9, .int .u8 0), (117, .pointer (some ⟨mb, 0, none⟩)), (118, .agg #[.int .u16 ((Z.ky y).idx), .int .u32 ((Z.ky y).gen)])]) (φ := (b143 = b143 ∧ Nat.ble (0 + 2) 2 = true) ∧ True) (rest := [2]) h153 (by kernel_rfl) rfl ⟨⟨rfl, rfl⟩, trivial⟩ fun a155 h156 => ?_
    clear h153
    refine nd_op ?_
    refine op_call h156 rfl rfl rfl (callOk Tryd.func52 (by decide) rfl) (args := [.pointer (some ⟨mb, 0, none⟩), .agg #[.int .u16 ((Z.ky y).idx), .int .u32 ((Z.ky y).gen)]]) rfl (mready_ok mb Z _ a5 _ y hy hP138 _ (mh_of h156 hhoh142 (k := 0) rfl)) ?_
    rintro _ w157 ⟨rfl, R158, hg159⟩
    refine ⟨_, rfl, ?_⟩
    have h160a := st_mg h156 hg159 (kcons (fun _ => rfl) (kcons (fun hq => by cases hq) (kcons (fun hq => by cases hq) (kcons (fun hq => by cases hq) (kcons (fun hq => by cases hq) knil)))))
    have h160 := h160a.put (d := some 119) (v := .tuple #[]) (T' := [(119, .tuple #[]), (10, .pointer (some ⟨b143, 0, none⟩)), (8, .pointer (some ⟨b57, 0, none⟩)), (6, .pointer (some ⟨b14, 0, none⟩)), (3, .pointer (some ⟨b2, 0, none⟩)), (0, .pointer (some ⟨mb, 0, none⟩)), (1, .agg #[.int .u8 4, .int .u32 ev.pick, .int .u64 ev.draw, .int .u32 ev.addr, .int .u32 ev.node, .int .u32 ev.dst, .int .u32 ev.xfer, .int .u8 ev.ty, .int .u64 ev.arg, .int .u64 ev.badge, .slice xo ev.ws.length cx]), (4, .int .u8 0), (5, .bool false), (7, .pointer (some ⟨(Z.tp x), 0, none⟩)), (53, .int .u8 4), (66, .bool true), (9, .int .u8 0), (117, .pointer (some ⟨mb, 0, none⟩)), (118, .agg #[.int .u16 ((Z.ky y).idx), .int .u32 ((Z.ky y).gen)])]) rfl
    have hhoh160 := hg159.mh.ho
    obtain ⟨a161, ea161⟩ : ∃ z : AK, z = wakeA a5 y := ⟨_, rfl⟩
    rw [← ea161] at h160
    clear h156 h160a
    have ht162 : a161.th x = { msgA (a.th x) ev.ws with badge := bd, xfer := ev.xfer, grant := (bitI .and .u8 rt 4 != 0), call := false } := by rw [ea161]; exact (wake_tho hxy).trans ht137
    have hP163 : MP Z a161 := by rw [ea161]; exact MP.wake hP138 hkk hy
    refine nd_done ?_
    refine hK154 _ _ ?_
    clear hK154
    refine nd_start (l := [0, 1, 2, 3]) rfl ?_
    refine nd_batch tabOk2 tabZ_ok2 [(0, {}), (1, {k := 2}), (2, {k := 4})] [10, 8, 6, 3, 0, 1, 4, 5, 7, 53, 66, 9, 120, 121, 122] (T' := [(10, .pointer (some ⟨b143, 0, none⟩)), (8, .pointer (some ⟨b57, 0, none⟩)), (6, .pointer (some ⟨b14, 0, none⟩)), (3, .pointer (some ⟨b2, 0, none⟩)), (0, .pointer (some ⟨mb, 0, none⟩)), (1, .agg #[.int .u8 4, .int .u32 ev.pick, .int .u64 ev.draw, .int .u32 ev.addr, .int .u32 ev.node, .int .u32 ev.dst, .int .u32 ev.xfer, .int .u8 ev.ty, .int .u64 ev.arg, .int .u64 ev.badge, .slice xo ev.ws.length cx]), (4, .int .u8 0), (5, .bool false), (7, .pointer (some ⟨(Z.tp x), 0, none⟩)), (53, .int .u8 4), (66, .bool true), (9, .int .u8 0), (120, .pointer (some ⟨mb, 0, none⟩)), (121, .agg #[.int .u16 ((Z.ky x).idx), .int .u32 ((Z.ky x).gen)]), (122, .agg #[.int .u16 ((Z.ky y).idx), .int .u32 ((Z.ky y).gen)])]) (φ := (b14 = b14 ∧ Nat.ble (0 + 2) 2 = true) ∧ (b143 = b143 ∧ Nat.ble (0 + 2) 2 = true) ∧ True) (rest := [3]) h160 (by kernel_rfl) rfl ⟨⟨rfl, rfl⟩, ⟨rfl, rfl⟩, trivial⟩ fun a164 h165 => ?_
    clear h160
    refine nd_op ?_
    refine op_call h165 rfl rfl rfl (callOk Tryd.func91 (by decide) rfl) (args := [.pointer (some ⟨mb, 0, none⟩), .agg #[.int .u16 ((Z.ky x).idx), .int .u32 ((Z.ky x).gen)], .agg #[.int .u16 ((Z.ky y).idx), .int .u32 ((Z.ky y).gen)]]) rfl (pass_ok mb Z _ a161 C hI.ci x y hx hy hxy (by rw [ea161]; exact htx) (by rw [ea161]; exact hty) hP163 _ (mh_of h165 hhoh160 (k := 0) rfl)) ?_
    rintro _ w166 ⟨rfl, R167, hg168⟩
    refine ⟨_, rfl, ?_⟩
    have h169a := st_mg h165 hg168 (kcons (fun _ => rfl) (kcons (fun hq => by cases hq) (kcons (fun hq => by cases hq) (kcons (fun hq => by cases hq) (kcons (fun hq => by cases hq) knil)))))
    have h169 := h169a.put (d := some 123) (v := .tuple #[]) (T' := [(123, .tuple #[]), (10, .pointer (some ⟨b143, 0, none⟩)), (8, .pointer (some ⟨b57, 0, none⟩)), (6, .pointer (some ⟨b14, 0, none⟩)), (3, .pointer (some ⟨b2, 0, none⟩)), (0, .pointer (some ⟨mb, 0, none⟩)), (1, .agg #[.int .u8 4, .int .u32 ev.pick, .int .u64 ev.draw, .int .u32 ev.addr, .int .u32 ev.node, .int .u32 ev.dst, .int .u32 ev.xfer, .int .u8 ev.ty, .int .u64 ev.arg, .int .u64 ev.badge, .slice xo ev.ws.length cx]), (4, .int .u8 0), (5, .bool false), (7, .pointer (some ⟨(Z.tp x), 0, none⟩)), (53, .int .u8 4), (66, .bool true), (9, .int .u8 0), (120, .pointer (some ⟨mb, 0, none⟩)), (121, .agg #[.int .u16 ((Z.ky x).idx), .int .u32 ((Z.ky x).gen)]), (122, .agg #[.int .u16 ((Z.ky y).idx), .int .u32 ((Z.ky y).gen)])]) rfl
    have hhoh169 := hg168.mh.ho
    clear h165 h169a
    refine nd_done ?_
    refine hK131 _ _ ?_
    clear hK131
    refine wp_seq_k fun K170 hK170 => ?_
    refine nd_start (l := [0, 1]) rfl ?_
    refine nd_batch tabOk2 tabZ_ok2 [(0, {}), (1, {})] [10, 8, 6, 3, 0, 1, 7, 53, 66, 9, 4, 5] (T' := [(10, .pointer (some ⟨b143, 0, none⟩)), (8, .pointer (some ⟨b57, 0, none⟩)), (6, .pointer (some ⟨b14, 0, none⟩)), (3, .pointer (some ⟨b2, 0, none⟩)), (0, .pointer (some ⟨mb, 0, none⟩)), (1, .agg #[.int .u8 4, .int .u32 ev.pick, .int .u64 ev.draw, .int .u32 ev.addr, .int .u32 ev.node, .int .u32 ev.dst, .int .u32 ev.xfer, .int .u8 ev.ty, .int .u64 ev.arg, .int .u64 ev.badge, .slice xo ev.ws.length cx]), (7, .pointer (some ⟨(Z.tp x), 0, none⟩)), (53, .int .u8 4), (66, .bool true), (9, .int .u8 0), (4, .int .u8 0), (5, .bool false)]) (φ := True) (rest := []) h169 (by kernel_rfl) rfl trivial fun a171 h172 => ?_
    clear h169
    refine nd_done ?_
    refine hK170 _ _ ?_
    clear hK170
    refine wp_ret ?_
    try simp only [Exit.then, Exit.inBlock]
    try rw [if_pos trivial]
    exact s_ret tabOk2 tabZ_ok2 h172 [(.tmp 4, {}), (.tmp 5, {})] (vs := [.int .u8 0, .bool false]) (φ := True) rfl (by kernel_rfl) trivial (by subst ea161; exact ⟨rfl, _, mg_end hH h172 hhoh169 rfl⟩)

theorem call5b (mb : Nat) (Z : MZ) (R : MR) (a : AK) (C : CP) (hI : MI Z a C) (x : Nat) (hx : x ∈ sl Z.tl) (hcu : a.cur = (x : Int)) (ev : Ev) (he : EvOk ev) (xo : Option Addr) (cx : Nat) (c : Cp) (cs0 k : Int) (hf : findA a C ev.addr 4 2 = (c, cs0, k)) (hk0 : k ≠ 0) (w : World) (hH : MH mb Z R a C w) (hws : WordsAt (mdF mb Z R C) w xo ev.ws) :
    Calls Tryd.prog 55 #[.pointer (some ⟨mb, 0, none⟩), .agg #[.int .u8 5, .int .u32 ev.pick, .int .u64 ev.draw, .int .u32 ev.addr, .int .u32 ev.node, .int .u32 ev.dst, .int .u32 ev.xfer, .int .u8 ev.ty, .int .u64 ev.arg, .int .u64 ev.badge, .slice xo ev.ws.length cx]] w fun e w' => e = .returned (.tuple #[.int .u8 k, .bool false]) ∧ ∃ R', MG mb Z R C w Z R' a C w' := by
  have hP := hI.mp
  have hcx : curR Z a = Z.ky x := curR_of hcu
  have hcn : a.cur.toNat = x := by rw [hcu]; exact Int.toNat_natCast x
  have hci := (hI.tk x hx).ci
  obtain ⟨ty3, hg3⟩ := hH.g3
  have hho := hH.ho
  have hkk := hH.md.k
  refine enter (n := 628) (K := mdF mb Z R C) (A := MD (mdF mb Z R C) w.heap.size mb Z R a C) (F := mdF mb Z R C) (T := [(0, .pointer (some ⟨mb, 0, none⟩)), (1, .agg #[.int .u8 5, .int .u32 ev.pick, .int .u64 ev.draw, .int .u32 ev.addr, .int .u32 ev.node, .int .u32 ev.dst, .int .u32 ev.xfer, .int .u8 ev.ty, .int .u64 ev.arg, .int .u64 ev.badge, .slice xo ev.ws.length cx])]) (L := [(3, ⟨[.int .u16 0, .int .u32 0], ty3, true⟩)]) (args := [.pointer (some ⟨mb, 0, none⟩), .agg #[.int .u8 5, .int .u32 ev.pick, .int .u64 ev.draw, .int .u32 ev.addr, .int .u32 ev.node, .int .u32 ev.dst, .int .u32 ev.xfer, .int .u8 ev.ty, .int .u64 ev.arg, .int .u64 ev.badge, .slice xo ev.ws.length cx]]) Tryd.func55 rfl rfl rfl rfl (kcons hg3 knil) (by simp) (kcons (by intro hq; cases hq) knil) hH.mD MD.stable hH.md.low (kcons (by intro hq; cases hq) knil) ?_
  intro ac h
  refine wp_seq_k fun K1 hK1 => ?_
  refine nd_start (l := [0, 1, 2]) rfl ?_
  refine nd_op ?_
  refine op_new tabOk2 (cells := [.int .u8 5, .int .u32 ev.pick, .int .u64 ev.draw, .int .u32 ev.addr, .int .u32 ev.node, .int .u32 ev.dst, .int .u32 ev.xfer, .int .u8 ev.ty, .int .u64 ev.arg, .int .u64 ev.badge, .slice xo ev.ws.length cx]) (ty := 35) (ln := none) (L1 := fun b2 => [(3, ⟨[.int .u16 0, .int .u32 0], ty3, true⟩), (b2, ⟨[.int .u8 5, .int .u32 ev.pick, .int .u64 ev.draw, .int .u32 ev.addr, .int .u32 ev.node, .int .u32 ev.dst, .int .u32 ev.xfer, .int .u8 ev.ty, .int .u64 ev.arg, .int .u64 ev.badge, .slice xo ev.ws.length cx], 35, false⟩)]) h rfl rfl rfl rfl (by kernel_rfl) (fun _ => rfl) fun b2 w3 a4 h5 hf6 hn7 => ?_
  clear h
  refine nd_batch tabOk2 tabZ_ok2 [(1, {}), (2, {})] [3, 0, 1, 4, 5] (T' := [(3, .pointer (some ⟨b2, 0, none⟩)), (0, .pointer (some ⟨mb, 0, none⟩)), (1, .agg #[.int .u8 5, .int .u32 ev.pick, .int .u64 ev.draw, .int .u32 ev.addr, .int .u32 ev.node, .int .u32 ev.dst, .int .u32 ev.xfer, .int .u8 ev.ty, .int .u64 ev.arg, .int .u64 ev.badge, .slice xo ev.ws.length cx]), (4, .int .u8 0), (5, .bool false)]) (φ := True) (rest := []) h5 (by kernel_rfl) rfl trivial fun a8 h9 => ?_
  clear h5
  refine nd_done ?_
  refine hK1 _ _ ?_
  clear hK1
  refine wp_seq_k fun K10 hK10 => ?_
  refine nd_start (l := [0, 1, 2, 3, 4, 5]) rfl ?_
  refine nd_batch tabOk2 tabZ_ok2 [(0, {}), (1, {}), (2, {})] [3, 0, 1, 4, 5, 44] (T' := [(3, .pointer (some ⟨b2, 0, none⟩)), (0, .pointer (some ⟨mb, 0, none⟩)), (1, .agg #[.int .u8 5, .int .u32 ev.pick, .int .u64 ev.draw, .int .u32 ev.addr, .int .u32 ev.node, .int .u32 ev.dst, .int .u32 ev.xfer, .int .u8 ev.ty, .int .u64 ev.arg, .int .u64 ev.badge, .slice xo ev.ws.length cx]), (4, .int .u8 0), (5, .bool false), (44, .pointer (some ⟨mb, 13, none⟩))]) (φ := True) (rest := [3, 4, 5]) h9 (by kernel_rfl) rfl trivial fun a11 h12 => ?_
  clear h9
  refine nd_op ?_
  refine op_read (b := mb) (v := .agg #[.int .u16 ((Z.ky x).idx), .int .u32 ((Z.ky x).gen)]) h12 rfl rfl (rd_mA h12 (k := 13) (vs := [.int .u16 ((Z.ky x).idx), .int .u32 ((Z.ky x).gen)]) rfl rfl rfl rfl rfl (by rw [← hcx]; exact md_cur)) ?_
  have h13 := h12.put (d := some 45) (v := .agg #[.int .u16 ((Z.ky x).idx), .int .u32 ((Z.ky x).gen)]) (T' := [(45, .agg #[.int .u16 ((Z.ky x).idx), .int .u32 ((Z.ky x).gen)]), (3, .pointer (some ⟨b2, 0, none⟩)), (0, .pointer (some ⟨mb, 0, none⟩)), (1, .agg #[.int .u8 5, .int .u32 ev.pick, .int .u64 ev.draw, .int .u32 ev.addr, .int .u32 ev.node, .int .u32 ev.dst, .int .u32 ev.xfer, .int .u8 ev.ty, .int .u64 ev.arg, .int .u64 ev.badge, .slice xo ev.ws.length cx]), (4, .int .u8 0), (5, .bool false), (44, .pointer (some ⟨mb, 13, none⟩))]) rfl
  clear h12
  refine nd_op ?_
  refine op_new tabOk2 (cells := [.int .u16 0, .int .u32 0]) (ty := 39) (ln := none) (L1 := fun b14 => [(3, ⟨[.int .u16 0, .int .u32 0], ty3, true⟩), (b2, ⟨[.int .u8 5, .int .u32 ev.pick, .int .u64 ev.draw, .int .u32 ev.addr, .int .u32 ev.node, .int .u32 ev.dst, .int .u32 ev.xfer, .int .u8 ev.ty, .int .u64 ev.arg, .int .u64 ev.badge, .slice xo ev.ws.length cx], 35, false⟩), (b14, ⟨[.int .u16 0, .int .u32 0], 39, false⟩)]) h13 rfl rfl rfl rfl (by kernel_rfl) (fun _ => rfl) fun b14 w15 a16 h17 hf18 hn19 => ?_
  clear h13
  refine nd_op ?_
  refine op_store tabOk2 {k := 2} (L' := [(3, ⟨[.int .u16 0, .int .u32 0], ty3, true⟩), (b2, ⟨[.int .u8 5, .int .u32 ev.pick, .int .u64 ev.draw, .int .u32 ev.addr, .int .u32 ev.node, .int .u32 ev.dst, .int .u32 ev.xfer, .int .u8 ev.ty, .int .u64 ev.arg, .int .u64 ev.badge, .slice xo ev.ws.length cx], 35, false⟩), (b14, ⟨[.int .u16 ((Z.ky x).idx), .int .u32 ((Z.ky x).gen)], 39, false⟩)]) (φ := b14 = b14 ∧ Nat.ble (0 + 2) 2 = true) h17 rfl rfl rfl (by kernel_rfl) ⟨rfl, rfl⟩ fun w20 h21 => ?_
  clear h17
  refine nd_done ?_
  refine hK10 _ _ ?_
  clear hK10
  refine wp_seq_k fun K22 hK22 => ?_
  refine dr_start (KB := [3, b2, b14, mb, Z.tb]) (Bi := [[0, 1, 2, 3, 4], [0, 1, 2, 3, 4], [0, 1, 2, 3, 4], [0, 1, 2, 3, 4], [0, 1, 2, 3, 4], [0, 1, 2, 3, 4], [0, 1, 2, 3, 4]]) mixed h21 fun w23 h24 => ?_
  clear h21
  refine dr_batch tabOk2 tabZ_ok2 (by repeat (first | with_reducible exact PF.body | with_reducible apply PF.inB | with_reducible apply PF.next)) [(0, {}), (1, {}), (2, {})] [6, 3, 0, 1, 4, 5, 48] (T' := [(6, .pointer (some ⟨b14, 0, none⟩)), (3, .pointer (some ⟨b2, 0, none⟩)), (0, .pointer (some ⟨mb, 0, none⟩)), (1, .agg #[.int .u8 5, .int .u32 ev.pick, .int .u64 ev.draw, .int .u32 ev.addr, .int .u32 ev.node, .int .u32 ev.dst, .int .u32 ev.xfer, .int .u8 ev.ty, .int .u64 ev.arg, .int .u64 ev.badge, .slice xo ev.ws.length cx]), (4, .int .u8 0), (5, .bool false), (48, .pointer (some ⟨mb, 2, none⟩))]) (φ := True) (fuel := 4) h24 (by kernel_rfl) rfl (by kernel_rfl) (by kernel_rfl) ⟨trivial, trivial, trivial, trivial⟩ trivial fun a26 h27 => ?_
  clear h24
  refine dr_read (i := 3) (b := mb) (p := 3) (v := .map (some Z.tb)) (fuel := 3) (by repeat (first | with_reducible exact PF.body | with_reducible apply PF.inB | with_reducible apply PF.next)) h27 rfl rfl rfl (by kernel_rfl) (by kernel_rfl) (by kernel_rfl) rfl (rd_m h27 (k := 2) (v := .map (some Z.tb)) rfl rfl rfl rfl (md_p ⟨rfl, trivial⟩)) ?_
  have h28 := h27.put (d := some 49) (v := .map (some Z.tb)) (T' := [(49, .map (some Z.tb)), (6, .pointer (some ⟨b14, 0, none⟩)), (3, .pointer (some ⟨b2, 0, none⟩)), (0, .pointer (some ⟨mb, 0, none⟩)), (1, .agg #[.int .u8 5, .int .u32 ev.pick, .int .u64 ev.draw, .int .u32 ev.addr, .int .u32 ev.node, .int .u32 ev.dst, .int .u32 ev.xfer, .int .u8 ev.ty, .int .u64 ev.arg, .int .u64 ev.badge, .slice xo ev.ws.length cx]), (4, .int .u8 0), (5, .bool false), (48, .pointer (some ⟨mb, 2, none⟩))]) rfl
  clear h27
  refine dr_batch tabOk2 tabZ_ok2 (by repeat (first | with_reducible exact PF.body | with_reducible apply PF.inB | with_reducible apply PF.next)) [(4, {k := 2, p := 2})] [49, 6, 3, 0, 1, 4, 5, 50] (T' := [(49, .map (some Z.tb)), (6, .pointer (some ⟨b14, 0, none⟩)), (3, .pointer (some ⟨b2, 0, none⟩)), (0, .pointer (some ⟨mb, 0, none⟩)), (1, .agg #[.int .u8 5, .int .u32 ev.pick, .int .u64 ev.draw, .int .u32 ev.addr, .int .u32 ev.node, .int .u32 ev.dst, .int .u32 ev.xfer, .int .u8 ev.ty, .int .u64 ev.arg, .int .u64 ev.badge, .slice xo ev.ws.length cx]), (4, .int .u8 0), (5, .bool false), (50, .agg #[.int .u16 ((Z.ky x).idx), .int .u32 ((Z.ky x).gen)])]) (φ := (b14 = b14 ∧ Nat.ble (0 + 2) 2 = true) ∧ True) (fuel := 2) h28 (by kernel_rfl) rfl (by kernel_rfl) (by kernel_rfl) ⟨rfl, trivial⟩ ⟨⟨rfl, rfl⟩, trivial⟩ fun a29 h30 => ?_
  clear h28
  refine dr_read (i := 5) (b := Z.tb) (p := 4) (v := .pointer (some ⟨(Z.tp x), 0, none⟩)) (fuel := 1) (by repeat (first | with_reducible exact PF.body | with_reducible apply PF.inB | with_reducible apply PF.next)) h30 rfl rfl rfl (by kernel_rfl) (by kernel_rfl) (by kernel_rfl) rfl (rd_T h30 (x := x) hx rfl rfl rfl) ?_
  have h31 := h30.put (d := some 51) (v := .pointer (some ⟨(Z.tp x), 0, none⟩)) (T' := [(51, .pointer (some ⟨(Z.tp x), 0, none⟩)), (49, .map (some Z.tb)), (6, .pointer (some ⟨b14, 0, none⟩)), (3, .pointer (some ⟨b2, 0, none⟩)), (0, .pointer (some ⟨mb, 0, none⟩)), (1, .agg #[.int .u8 5, .int .u32 ev.pick, .int .u64 ev.draw, .int .u32 ev.addr, .int .u32 ev.node, .int .u32 ev.dst, .int .u32 ev.xfer, .int .u8 ev.ty, .int .u64 ev.arg, .int .u64 ev.badge, .slice xo ev.ws.length cx]), (4, .int .u8 0), (5, .bool false), (50, .agg #[.int .u16 ((Z.ky x).idx), .int .u32 ((Z.ky x).gen)])]) rfl
  clear h30
  refine dr_batch tabOk2 tabZ_ok2 (by repeat (first | with_reducible exact PF.body | with_reducible apply PF.inB | with_reducible apply PF.next)) [(6, {})] [6, 3, 0, 1, 4, 5, 7] (T' := [(6, .pointer (some ⟨b14, 0, none⟩)), (3, .pointer (some ⟨b2, 0, none⟩)), (0, .pointer (some ⟨mb, 0, none⟩)), (1, .agg #[.int .u8 5, .int .u32 ev.pick, .int .u64 ev.draw, .int .u32 ev.addr, .int .u32 ev.node, .int .u32 ev.dst, .int .u32 ev.xfer, .int .u8 ev.ty, .int .u64 ev.arg, .int .u64 ev.badge, .slice xo ev.ws.length cx]), (4, .int .u8 0), (5, .bool false), (7, .pointer (some ⟨(Z.tp x), 0, none⟩))]) (φ := True) (fuel := 0) h31 (by kernel_rfl) rfl (by kernel_rfl) (by kernel_rfl) ⟨trivial, trivial⟩ trivial fun a32 h33 => ?_
  clear h31
  refine wpAnyK_done (by kernel_rfl) ?_ _
  refine hK22 _ _ ?_
  clear hK22
  refine wp_seq_k fun K34 hK34 => ?_
  refine wp_seq_k fun K35 hK35 => ?_
  refine nd_start (l := [0, 1]) rfl ?_
  refine nd_batch tabOk2 tabZ_ok2 [(0, {}), (1, {k := 1})] [6, 3, 0, 1, 4, 5, 7, 53] (T' := [(6, .pointer (some ⟨b14, 0, none⟩)), (3, .pointer (some ⟨b2, 0, none⟩)), (0, .pointer (some ⟨mb, 0, none⟩)), (1, .agg #[.int .u8 5, .int .u32 ev.pick, .int .u64 ev.draw, .int .u32 ev.addr, .int .u32 ev.node, .int .u32 ev.dst, .int .u32 ev.xfer, .int .u8 ev.ty, .int .u64 ev.arg, .int .u64 ev.badge, .slice xo ev.ws.length cx]), (4, .int .u8 0), (5, .bool false), (7, .pointer (some ⟨(Z.tp x), 0, none⟩)), (53, .int .u8 5)]) (φ := (b2 = b2 ∧ Nat.ble (0 + 1) 11 = true) ∧ True) (rest := []) h33 (by kernel_rfl) rfl ⟨⟨rfl, rfl⟩, trivial⟩ fun a36 h37 => ?_
  clear h33
  refine nd_done ?_
  refine hK35 _ _ ?_
  clear hK35
  refine wp_block ?_
  refine wp_seq_k fun K38 hK38 => ?_
  refine nd_start (l := [0, 1]) rfl ?_
  refine nd_batch tabOk2 tabZ_ok2 [(0, {}), (1, {})] [6, 3, 0, 1, 4, 5, 7, 53, 54] (T' := [(6, .pointer (some ⟨b14, 0, none⟩)), (3, .pointer (some ⟨b2, 0, none⟩)), (0, .pointer (some ⟨mb, 0, none⟩)), (1, .agg #[.int .u8 5, .int .u32 ev.pick, .int .u64 ev.draw, .int .u32 ev.addr, .int .u32 ev.node, .int .u32 ev.dst, .int .u32 ev.xfer, .int .u8 ev.ty, .int .u64 ev.arg, .int .u64 ev.badge, .slice xo ev.ws.length cx]), (4, .int .u8 0), (5, .bool false), (7, .pointer (some ⟨(Z.tp x), 0, none⟩)), (53, .int .u8 5), (54, .bool false)]) (φ := True) (rest := []) h37 (by kernel_rfl) rfl trivial fun a39 h40 => ?_
  clear h37
  refine nd_done ?_
  refine hK38 _ _ ?_
  clear hK38
  refine c_false h40 rfl ?_
  refine wp_seq_k fun K41 hK41 => ?_
  refine nd_start (l := [0, 1]) rfl ?_
  refine nd_batch tabOk2 tabZ_ok2 [(0, {}), (1, {})] [6, 3, 0, 1, 4, 5, 7, 53, 59] (T' := [(6, .pointer (some ⟨b14, 0, none⟩)), (3, .pointer (some ⟨b2, 0, none⟩)), (0, .pointer (some ⟨mb, 0, none⟩)), (1, .agg #[.int .u8 5, .int .u32 ev.pick, .int .u64 ev.draw, .int .u32 ev.addr, .int .u32 ev.node, .int .u32 ev.dst, .int .u32 ev.xfer, .int .u8 ev.ty, .int .u64 ev.arg, .int .u64 ev.badge, .slice xo ev.ws.length cx]), (4, .int .u8 0), (5, .bool false), (7, .pointer (some ⟨(Z.tp x), 0, none⟩)), (53, .int .u8 5), (59, .bool false)]) (φ := True) (rest := []) h40 (by kernel_rfl) rfl trivial fun a42 h43 => ?_
  clear h40
  refine nd_done ?_
  refine hK41 _ _ ?_
  clear hK41
  refine c_false h43 rfl ?_
  refine wp_seq_k fun K44 hK44 => ?_
  refine wp_seq_k fun K45 hK45 => ?_
  refine nd_start (l := [0, 1]) rfl ?_
  refine nd_batch tabOk2 tabZ_ok2 [(0, {}), (1, {})] [6, 3, 0, 1, 4, 5, 7, 53, 66] (T' := [(6, .pointer (some ⟨b14, 0, none⟩)), (3, .pointer (some ⟨b2, 0, none⟩)), (0, .pointer (some ⟨mb, 0, none⟩)), (1, .agg #[.int .u8 5, .int .u32 ev.pick, .int .u64 ev.draw, .int .u32 ev.addr, .int .u32 ev.node, .int .u32 ev.dst, .int .u32 ev.xfer, .int .u8 ev.ty, .int .u64 ev.arg, .int .u64 ev.badge, .slice xo ev.ws.length cx]), (4, .int .u8 0), (5, .bool false), (7, .pointer (some ⟨(Z.tp x), 0, none⟩)), (53, .int .u8 5), (66, .bool false)]) (φ := True) (rest := []) h43 (by kernel_rfl) rfl trivial fun a46 h47 => ?_
  clear h43
  refine nd_done ?_
  refine hK45 _ _ ?_
  clear hK45
  refine c_false h47 rfl ?_
  refine nd_start (l := [0, 1]) rfl ?_
  refine nd_batch tabOk2 tabZ_ok2 [(0, {}), (1, {})] [6, 3, 0, 1, 4, 5, 7, 53, 66] (T' := [(6, .pointer (some ⟨b14, 0, none⟩)), (3, .pointer (some ⟨b2, 0, none⟩)), (0, .pointer (some ⟨mb, 0, none⟩)), (1, .agg #[.int .u8 5, .int .u32 ev.pick, .int .u64 ev.draw, .int .u32 ev.addr, .int .u32 ev.node, .int .u32 ev.dst, .int .u32 ev.xfer, .int .u8 ev.ty, .int .u64 ev.arg, .int .u64 ev.badge, .slice xo ev.ws.length cx]), (4, .int .u8 0), (5, .bool false), (7, .pointer (some ⟨(Z.tp x), 0, none⟩)), (53, .int .u8 5), (66, .bool true)]) (φ := True) (rest := []) h47 (by kernel_rfl) rfl trivial fun a48 h49 => ?_
  clear h47
  refine nd_done ?_
  refine hK44 _ _ ?_
  clear hK44
  refine c_true h49 rfl ?_
  refine wp_seq_k fun K50 hK50 => ?_
  refine nd_start (l := [0, 1, 2, 3, 4, 5, 6, 7, 8, 9]) rfl ?_
  refine nd_batch tabOk2 tabZ_ok2 [(0, {}), (1, {}), (2, {k := 1})] [6, 3, 0, 1, 4, 5, 7, 53, 66, 70, 72] (T' := [(6, .pointer (some ⟨b14, 0, none⟩)), (3, .pointer (some ⟨b2, 0, none⟩)), (0, .pointer (some ⟨mb, 0, none⟩)), (1, .agg #[.int .u8 5, .int .u32 ev.pick, .int .u64 ev.draw, .int .u32 ev.addr, .int .u32 ev.node, .int .u32 ev.dst, .int .u32 ev.xfer, .int .u8 ev.ty, .int .u64 ev.arg, .int .u64 ev.badge, .slice xo ev.ws.length cx]), (4, .int .u8 0), (5, .bool false), (7, .pointer (some ⟨(Z.tp x), 0, none⟩)), (53, .int .u8 5), (66, .bool true), (70, .pointer (some ⟨mb, 0, none⟩)), (72, .int .u32 ev.addr)]) (φ := (b2 = b2 ∧ Nat.ble (3 + 1) 11 = true) ∧ True) (rest := [3, 4, 5, 6, 7, 8, 9]) h49 (by kernel_rfl) rfl ⟨⟨rfl, rfl⟩, trivial⟩ fun a51 h52 => ?_
  clear h49
  refine nd_op ?_
  refine op_call h52 rfl rfl rfl (callOk Tryd.func90 (by decide) rfl) (args := [.pointer (some ⟨mb, 0, none⟩), .int .u32 ev.addr, .int .u8 4, .int .u8 2]) rfl (capOf_ok mb Z _ a C x hx hcx hci hcn hI.ci ev.addr 4 2 he.addr _ (mh_of h52 hho (k := 0) rfl) hf) ?_
  rintro _ w53 ⟨rfl, hg55⟩
  refine ⟨_, rfl, ?_⟩
  have h56a := st_mg h52 hg55 (kcons (fun _ => rfl) (kcons (fun hq => by cases hq) (kcons (fun hq => by cases hq) knil)))
  have h56 := h56a.put (d := some 73) (v := .tuple #[.agg #[.int .u8 c.ty, .int .u16 c.obj.idx, .int .u32 c.obj.gen, .int .u8 c.rights, .int .u64 c.badge], .int .u8 k]) (T' := [(73, .tuple #[.agg #[.int .u8 c.ty, .int .u16 c.obj.idx, .int .u32 c.obj.gen, .int .u8 c.rights, .int .u64 c.badge], .int .u8 k]), (6, .pointer (some ⟨b14, 0, none⟩)), (3, .pointer (some ⟨b2, 0, none⟩)), (0, .pointer (some ⟨mb, 0, none⟩)), (1, .agg #[.int .u8 5, .int .u32 ev.pick, .int .u64 ev.draw, .int .u32 ev.addr, .int .u32 ev.node, .int .u32 ev.dst, .int .u32 ev.xfer, .int .u8 ev.ty, .int .u64 ev.arg, .int .u64 ev.badge, .slice xo ev.ws.length cx]), (4, .int .u8 0), (5, .bool false), (7, .pointer (some ⟨(Z.tp x), 0, none⟩)), (53, .int .u8 5), (66, .bool true), (70, .pointer (some ⟨mb, 0, none⟩)), (72, .int .u32 ev.addr)]) rfl
  have hhoh56 := hg55.mh.ho
  clear h52 h56a
  refine nd_batch tabOk2 tabZ_ok2 [(4, {}), (5, {}), (6, {})] [6, 3, 0, 1, 4, 5, 7, 53, 66, 74, 75] (T' := [(6, .pointer (some ⟨b14, 0, none⟩)), (3, .pointer (some ⟨b2, 0, none⟩)), (0, .pointer (some ⟨mb, 0, none⟩)), (1, .agg #[.int .u8 5, .int .u32 ev.pick, .int .u64 ev.draw, .int .u32 ev.addr, .int .u32 ev.node, .int .u32 ev.dst, .int .u32 ev.xfer, .int .u8 ev.ty, .int .u64 ev.arg, .int .u64 ev.badge, .slice xo ev.ws.length cx]), (4, .int .u8 0), (5, .bool false), (7, .pointer (some ⟨(Z.tp x), 0, none⟩)), (53, .int .u8 5), (66, .bool true), (74, .agg #[.int .u8 c.ty, .int .u16 c.obj.idx, .int .u32 c.obj.gen, .int .u8 c.rights, .int .u64 c.badge]), (75, .int .u8 k)]) (φ := True) (rest := [7, 8, 9]) h56 (by kernel_rfl) rfl trivial fun a57 h58 => ?_
  clear h56
  refine nd_op ?_
  refine op_new tabOk2 (cells := [.int .u8 0, .int .u16 0, .int .u32 0, .int .u8 0, .int .u64 0]) (ty := 49) (ln := none) (L1 := fun b59 => [(3, ⟨[.int .u16 0, .int .u32 0], ty3, true⟩), (b2, ⟨[.int .u8 5, .int .u32 ev.pick, .int .u64 ev.draw, .int .u32 ev.addr, .int .u32 ev.node, .int .u32 ev.dst, .int .u32 ev.xfer, .int .u8 ev.ty, .int .u64 ev.arg, .int .u64 ev.badge, .slice xo ev.ws.length cx], 35, false⟩), (b14, ⟨[.int .u16 ((Z.ky x).idx), .int .u32 ((Z.ky x).gen)], 39, false⟩), (b59, ⟨[.int .u8 0, .int .u16 0, .int .u32 0, .int .u8 0, .int .u64 0], 49, false⟩)]) h58 rfl rfl rfl rfl (by kernel_rfl) (fun _ => rfl) fun b59 w60 a61 h62 hf63 hn64 => ?_
  clear h58
  refine nd_op ?_
  refine op_store tabOk2 {k := 3} (L' := [(3, ⟨[.int .u16 0, .int .u32 0], ty3, true⟩), (b2, ⟨[.int .u8 5, .int .u32 ev.pick, .int .u64 ev.draw, .int .u32 ev.addr, .int .u32 ev.node, .int .u32 ev.dst, .int .u32 ev.xfer, .int .u8 ev.ty, .int .u64 ev.arg, .int .u64 ev.badge, .slice xo ev.ws.length cx], 35, false⟩), (b14, ⟨[.int .u16 ((Z.ky x).idx), .int .u32 ((Z.ky x).gen)], 39, false⟩), (b59, ⟨[.int .u8 c.ty, .int .u16 c.obj.idx, .int .u32 c.obj.gen, .int .u8 c.rights, .int .u64 c.badge], 49, false⟩)]) (φ := b59 = b59 ∧ Nat.ble (0 + 5) 5 = true) h62 rfl rfl rfl (by kernel_rfl) ⟨rfl, rfl⟩ fun w65 h66 => ?_
  clear h62
  refine nd_batch tabOk2 tabZ_ok2 [(9, {})] [8, 6, 3, 0, 1, 4, 5, 7, 53, 66, 9] (T' := [(8, .pointer (some ⟨b59, 0, none⟩)), (6, .pointer (some ⟨b14, 0, none⟩)), (3, .pointer (some ⟨b2, 0, none⟩)), (0, .pointer (some ⟨mb, 0, none⟩)), (1, .agg #[.int .u8 5, .int .u32 ev.pick, .int .u64 ev.draw, .int .u32 ev.addr, .int .u32 ev.node, .int .u32 ev.dst, .int .u32 ev.xfer, .int .u8 ev.ty, .int .u64 ev.arg, .int .u64 ev.badge, .slice xo ev.ws.length cx]), (4, .int .u8 0), (5, .bool false), (7, .pointer (some ⟨(Z.tp x), 0, none⟩)), (53, .int .u8 5), (66, .bool true), (9, .int .u8 k)]) (φ := True) (rest := []) h66 (by kernel_rfl) rfl trivial fun a67 h68 => ?_
  clear h66
  refine nd_done ?_
  refine hK50 _ _ ?_
  clear hK50
  refine wp_seq_k fun K69 hK69 => ?_
  refine wp_seq_k fun K70 hK70 => ?_
  refine nd_start (l := [0, 1]) rfl ?_
  refine nd_batch tabOk2 tabZ_ok2 [(0, {}), (1, {})] [8, 6, 3, 0, 1, 4, 5, 7, 53, 66, 9, 77] (T' := [(8, .pointer (some ⟨b59, 0, none⟩)), (6, .pointer (some ⟨b14, 0, none⟩)), (3, .pointer (some ⟨b2, 0, none⟩)), (0, .pointer (some ⟨mb, 0, none⟩)), (1, .agg #[.int .u8 5, .int .u32 ev.pick, .int .u64 ev.draw, .int .u32 ev.addr, .int .u32 ev.node, .int .u32 ev.dst, .int .u32 ev.xfer, .int .u8 ev.ty, .int .u64 ev.arg, .int .u64 ev.badge, .slice xo ev.ws.length cx]), (4, .int .u8 0), (5, .bool false), (7, .pointer (some ⟨(Z.tp x), 0, none⟩)), (53, .int .u8 5), (66, .bool true), (9, .int .u8 k), (77, .bool (k != 0))]) (φ := True) (rest := []) h68 (by kernel_rfl) rfl trivial fun a71 h72 => ?_
  clear h68
  refine nd_done ?_
  refine hK70 _ _ ?_
  clear hK70
  refine c_split h72 (b := (k != 0)) rfl (fun hc73 => ?_) (fun hc73 => ?_)
  ·
    have hc73f : k ≠ 0 := by simpa using hc73
    refine wp_seq_k fun K74 hK74 => ?_
    refine nd_start (l := [0, 1, 2]) rfl ?_
    refine nd_batch tabOk2 tabZ_ok2 [(0, {}), (1, {}), (2, {})] [8, 6, 3, 0, 1, 7, 53, 66, 9, 4, 5] (T' := [(8, .pointer (some ⟨b59, 0, none⟩)), (6, .pointer (some ⟨b14, 0, none⟩)), (3, .pointer (some ⟨b2, 0, none⟩)), (0, .pointer (some ⟨mb, 0, none⟩)), (1, .agg #[.int .u8 5, .int .u32 ev.pick, .int .u64 ev.draw, .int .u32 ev.addr, .int .u32 ev.node, .int .u32 ev.dst, .int .u32 ev.xfer, .int .u8 ev.ty, .int .u64 ev.arg, .int .u64 ev.badge, .slice xo ev.ws.length cx]), (7, .pointer (some ⟨(Z.tp x), 0, none⟩)), (53, .int .u8 5), (66, .bool true), (9, .int .u8 k), (4, .int .u8 k), (5, .bool false)]) (φ := True) (rest := []) h72 (by kernel_rfl) rfl trivial fun a75 h76 => ?_
    clear h72
    refine nd_done ?_
    refine hK74 _ _ ?_
    clear hK74
    refine wp_ret ?_
    try simp only [Exit.then, Exit.inBlock]
    try rw [if_pos trivial]
    exact s_ret tabOk2 tabZ_ok2 h76 [(.tmp 4, {}), (.tmp 5, {})] (vs := [.int .u8 k, .bool false]) (φ := True) rfl (by kernel_rfl) trivial ⟨rfl, _, mg_end hH h76 hhoh56 rfl⟩
  ·
    have hc73f : k = 0 := by simpa using hc73
    exact absurd hc73f hk0

theorem call5l (mb : Nat) (Z : MZ) (R : MR) (a : AK) (C : CP) (hI : MI Z a C) (x : Nat) (hx : x ∈ sl Z.tl) (hcu : a.cur = (x : Int)) (ev : Ev) (he : EvOk ev) (xo : Option Addr) (cx : Nat) (i : Nat) (hi : i ∈ sl Z.ql) (ct rt bd cs0 : Int) (hf : findA a C ev.addr 4 2 = (⟨ct, Z.ky i, rt, bd⟩, cs0, 0)) (hwl : (ev.ws.length : Int) > 4) (w : World) (hH : MH mb Z R a C w) (hws : WordsAt (mdF mb Z R C) w xo ev.ws) :
    Calls Tryd.prog 55 #[.pointer (some ⟨mb, 0, none⟩), .agg #[.int .u8 5, .int .u32 ev.pick, .int .u64 ev.draw, .int .u32 ev.addr, .int .u32 ev.node, .int .u32 ev.dst, .int .u32 ev.xfer, .int .u8 ev.ty, .int .u64 ev.arg, .int .u64 ev.badge, .slice xo ev.ws.length cx]] w fun e w' => e = .returned (.tuple #[.int .u8 8, .bool false]) ∧ ∃ R', MG mb Z R C w Z R' a C w' := by
  have hP := hI.mp
  have hcx : curR Z a = Z.ky x := curR_of hcu
  have hcn : a.cur.toNat = x := by rw [hcu]; exact Int.toNat_natCast x
  have hci := (hI.tk x hx).ci
  obtain ⟨ty3, hg3⟩ := hH.g3
  have hho := hH.ho
  have hkk := hH.md.k
  refine enter (n := 628) (K := mdF mb Z R C) (A := MD (mdF mb Z R C) w.heap.size mb Z R a C) (F := mdF mb Z R C) (T := [(0, .pointer (some ⟨mb, 0, none⟩)), (1, .agg #[.int .u8 5, .int .u32 ev.pick, .int .u64 ev.draw, .int .u32 ev.addr, .int .u32 ev.node, .int .u32 ev.dst, .int .u32 ev.xfer, .int .u8 ev.ty, .int .u64 ev.arg, .int .u64 ev.badge, .slice xo ev.ws.length cx])]) (L := [(3, ⟨[.int .u16 0, .int .u32 0], ty3, true⟩)]) (args := [.pointer (some ⟨mb, 0, none⟩), .agg #[.int .u8 5, .int .u32 ev.pick, .int .u64 ev.draw, .int .u32 ev.addr, .int .u32 ev.node, .int .u32 ev.dst, .int .u32 ev.xfer, .int .u8 ev.ty, .int .u64 ev.arg, .int .u64 ev.badge, .slice xo ev.ws.length cx]]) Tryd.func55 rfl rfl rfl rfl (kcons hg3 knil) (by simp) (kcons (by intro hq; cases hq) knil) hH.mD MD.stable hH.md.low (kcons (by intro hq; cases hq) knil) ?_
  intro ac h
  refine wp_seq_k fun K1 hK1 => ?_
  refine nd_start (l := [0, 1, 2]) rfl ?_
  refine nd_op ?_
  refine op_new tabOk2 (cells := [.int .u8 5, .int .u32 ev.pick, .int .u64 ev.draw, .int .u32 ev.addr, .int .u32 ev.node, .int .u32 ev.dst, .int .u32 ev.xfer, .int .u8 ev.ty, .int .u64 ev.arg, .int .u64 ev.badge, .slice xo ev.ws.length cx]) (ty := 35) (ln := none) (L1 := fun b2 => [(3, ⟨[.int .u16 0, .int .u32 0], ty3, true⟩), (b2, ⟨[.int .u8 5, .int .u32 ev.pick, .int .u64 ev.draw, .int .u32 ev.addr, .int .u32 ev.node, .int .u32 ev.dst, .int .u32 ev.xfer, .int .u8 ev.ty, .int .u64 ev.arg, .int .u64 ev.badge, .slice xo ev.ws.length cx], 35, false⟩)]) h rfl rfl rfl rfl (by kernel_rfl) (fun _ => rfl) fun b2 w3 a4 h5 hf6 hn7 => ?_
  clear h
  refine nd_batch tabOk2 tabZ_ok2 [(1, {}), (2, {})] [3, 0, 1, 4, 5] (T' := [(3, .pointer (some ⟨b2, 0, none⟩)), (0, .pointer (some ⟨mb, 0, none⟩)), (1, .agg #[.int .u8 5, .int .u32 ev.pick, .int .u64 ev.draw, .int .u32 ev.addr, .int .u32 ev.node, .int .u32 ev.dst, .int .u32 ev.xfer, .int .u8 ev.ty, .int .u64 ev.arg, .int .u64 ev.badge, .slice xo ev.ws.length cx]), (4, .int .u8 0), (5, .bool false)]) (φ := True) (rest := []) h5 (by kernel_rfl) rfl trivial fun a8 h9 => ?_
  clear h5
  refine nd_done ?_
  refine hK1 _ _ ?_
  clear hK1
  refine wp_seq_k fun K10 hK10 => ?_
  refine nd_start (l := [0, 1, 2, 3, 4, 5]) rfl ?_
  refine nd_batch tabOk2 tabZ_ok2 [(0, {}), (1, {}), (2, {})] [3, 0, 1, 4, 5, 44] (T' := [(3, .pointer (some ⟨b2, 0, none⟩)), (0, .pointer (some ⟨mb, 0, none⟩)), (1, .agg #[.int .u8 5, .int .u32 ev.pick, .int .u64 ev.draw, .int .u32 ev.addr, .int .u32 ev.node, .int .u32 ev.dst, .int .u32 ev.xfer, .int .u8 ev.ty, .int .u64 ev.arg, .int .u64 ev.badge, .slice xo ev.ws.length cx]), (4, .int .u8 0), (5, .bool false), (44, .pointer (some ⟨mb, 13, none⟩))]) (φ := True) (rest := [3, 4, 5]) h9 (by kernel_rfl) rfl trivial fun a11 h12 => ?_
  clear h9
  refine nd_op ?_
  refine op_read (b := mb) (v := .agg #[.int .u16 ((Z.ky x).idx), .int .u32 ((Z.ky x).gen)]) h12 rfl rfl (rd_mA h12 (k := 13) (vs := [.int .u16 ((Z.ky x).idx), .int .u32 ((Z.ky x).gen)]) rfl rfl rfl rfl rfl (by rw [← hcx]; exact md_cur)) ?_
  have h13 := h12.put (d := some 45) (v := .agg #[.int .u16 ((Z.ky x).idx), .int .u32 ((Z.ky x).gen)]) (T' := [(45, .agg #[.int .u16 ((Z.ky x).idx), .int .u32 ((Z.ky x).gen)]), (3, .pointer (some ⟨b2, 0, none⟩)), (0, .pointer (some ⟨mb, 0, none⟩)), (1, .agg #[.int .u8 5, .int .u32 ev.pick, .int .u64 ev.draw, .int .u32 ev.addr, .int .u32 ev.node, .int .u32 ev.dst, .int .u32 ev.xfer, .int .u8 ev.ty, .int .u64 ev.arg, .int .u64 ev.badge, .slice xo ev.ws.length cx]), (4, .int .u8 0), (5, .bool false), (44, .pointer (some ⟨mb, 13, none⟩))]) rfl
  clear h12
  refine nd_op ?_
  refine op_new tabOk2 (cells := [.int .u16 0, .int .u32 0]) (ty := 39) (ln := none) (L1 := fun b14 => [(3, ⟨[.int .u16 0, .int .u32 0], ty3, true⟩), (b2, ⟨[.int .u8 5, .int .u32 ev.pick, .int .u64 ev.draw, .int .u32 ev.addr, .int .u32 ev.node, .int .u32 ev.dst, .int .u32 ev.xfer, .int .u8 ev.ty, .int .u64 ev.arg, .int .u64 ev.badge, .slice xo ev.ws.length cx], 35, false⟩), (b14, ⟨[.int .u16 0, .int .u32 0], 39, false⟩)]) h13 rfl rfl rfl rfl (by kernel_rfl) (fun _ => rfl) fun b14 w15 a16 h17 hf18 hn19 => ?_
  clear h13
  refine nd_op ?_
  refine op_store tabOk2 {k := 2} (L' := [(3, ⟨[.int .u16 0, .int .u32 0], ty3, true⟩), (b2, ⟨[.int .u8 5, .int .u32 ev.pick, .int .u64 ev.draw, .int .u32 ev.addr, .int .u32 ev.node, .int .u32 ev.dst, .int .u32 ev.xfer, .int .u8 ev.ty, .int .u64 ev.arg, .int .u64 ev.badge, .slice xo ev.ws.length cx], 35, false⟩), (b14, ⟨[.int .u16 ((Z.ky x).idx), .int .u32 ((Z.ky x).gen)], 39, false⟩)]) (φ := b14 = b14 ∧ Nat.ble (0 + 2) 2 = true) h17 rfl rfl rfl (by kernel_rfl) ⟨rfl, rfl⟩ fun w20 h21 => ?_
  clear h17
  refine nd_done ?_
  refine hK10 _ _ ?_
  clear hK10
  refine wp_seq_k fun K22 hK22 => ?_
  refine dr_start (KB := [3, b2, b14, mb, Z.tb]) (Bi := [[0, 1, 2, 3, 4], [0, 1, 2, 3, 4], [0, 1, 2, 3, 4], [0, 1, 2, 3, 4], [0, 1, 2, 3, 4], [0, 1, 2, 3, 4], [0, 1, 2, 3, 4]]) mixed h21 fun w23 h24 => ?_
  clear h21
  refine dr_batch tabOk2 tabZ_ok2 (by repeat (first | with_reducible exact PF.body | with_reducible apply PF.inB | with_reducible apply PF.next)) [(0, {}), (1, {}), (2, {})] [6, 3, 0, 1, 4, 5, 48] (T' := [(6, .pointer (some ⟨b14, 0, none⟩)), (3, .pointer (some ⟨b2, 0, none⟩)), (0, .pointer (some ⟨mb, 0, none⟩)), (1, .agg #[.int .u8 5, .int .u32 ev.pick, .int .u64 ev.draw, .int .u32 ev.addr, .int .u32 ev.node, .int .u32 ev.dst, .int .u32 ev.xfer, .int .u8 ev.ty, .int .u64 ev.arg, .int .u64 ev.badge, .slice xo ev.ws.length cx]), (4, .int .u8 0), (5, .bool false), (48, .pointer (some ⟨mb, 2, none⟩))]) (φ := True) (fuel := 4) h24 (by kernel_rfl) rfl (by kernel_rfl) (by kernel_rfl) ⟨trivial, trivial, trivial, trivial⟩ trivial fun a26 h27 => ?_
  clear h24
  refine dr_read (i := 3) (b := mb) (p := 3) (v := .map (some Z.tb)) (fuel := 3) (by repeat (first | with_reducible exact PF.body | with_reducible apply PF.inB | with_reducible apply PF.next)) h27 rfl rfl rfl (by kernel_rfl) (by kernel_rfl) (by kernel_rfl) rfl (rd_m h27 (k := 2) (v := .map (some Z.tb)) rfl rfl rfl rfl (md_p ⟨rfl, trivial⟩)) ?_
  have h28 := h27.put (d := some 49) (v := .map (some Z.tb)) (T' := [(49, .map (some Z.tb)), (6, .pointer (some ⟨b14, 0, none⟩)), (3, .pointer (some ⟨b2, 0, none⟩)), (0, .pointer (some ⟨mb, 0, none⟩)), (1, .agg #[.int .u8 5, .int .u32 ev.pick, .int .u64 ev.draw, .int .u32 ev.addr, .int .u32 ev.node, .int .u32 ev.dst, .int .u32 ev.xfer, .int .u8 ev.ty, .int .u64 ev.arg, .int .u64 ev.badge, .slice xo ev.ws.length cx]), (4, .int .u8 0), (5, .bool false), (48, .pointer (some ⟨mb, 2, none⟩))]) rfl
  clear h27
  refine dr_batch tabOk2 tabZ_ok2 (by repeat (first | with_reducible exact PF.body | with_reducible apply PF.inB | with_reducible apply PF.next)) [(4, {k := 2, p := 2})] [49, 6, 3, 0, 1, 4, 5, 50] (T' := [(49, .map (some Z.tb)), (6, .pointer (some ⟨b14, 0, none⟩)), (3, .pointer (some ⟨b2, 0, none⟩)), (0, .pointer (some ⟨mb, 0, none⟩)), (1, .agg #[.int .u8 5, .int .u32 ev.pick, .int .u64 ev.draw, .int .u32 ev.addr, .int .u32 ev.node, .int .u32 ev.dst, .int .u32 ev.xfer, .int .u8 ev.ty, .int .u64 ev.arg, .int .u64 ev.badge, .slice xo ev.ws.length cx]), (4, .int .u8 0), (5, .bool false), (50, .agg #[.int .u16 ((Z.ky x).idx), .int .u32 ((Z.ky x).gen)])]) (φ := (b14 = b14 ∧ Nat.ble (0 + 2) 2 = true) ∧ True) (fuel := 2) h28 (by kernel_rfl) rfl (by kernel_rfl) (by kernel_rfl) ⟨rfl, trivial⟩ ⟨⟨rfl, rfl⟩, trivial⟩ fun a29 h30 => ?_
  clear h28
  refine dr_read (i := 5) (b := Z.tb) (p := 4) (v := .pointer (some ⟨(Z.tp x), 0, none⟩)) (fuel := 1) (by repeat (first | with_reducible exact PF.body | with_reducible apply PF.inB | with_reducible apply PF.next)) h30 rfl rfl rfl (by kernel_rfl) (by kernel_rfl) (by kernel_rfl) rfl (rd_T h30 (x := x) hx rfl rfl rfl) ?_
  have h31 := h30.put (d := some 51) (v := .pointer (some ⟨(Z.tp x), 0, none⟩)) (T' := [(51, .pointer (some ⟨(Z.tp x), 0, none⟩)), (49, .map (some Z.tb)), (6, .pointer (some ⟨b14, 0, none⟩)), (3, .pointer (some ⟨b2, 0, none⟩)), (0, .pointer (some ⟨mb, 0, none⟩)), (1, .agg #[.int .u8 5, .int .u32 ev.pick, .int .u64 ev.draw, .int .u32 ev.addr, .int .u32 ev.node, .int .u32 ev.dst, .int .u32 ev.xfer, .int .u8 ev.ty, .int .u64 ev.arg, .int .u64 ev.badge, .slice xo ev.ws.length cx]), (4, .int .u8 0), (5, .bool false), (50, .agg #[.int .u16 ((Z.ky x).idx), .int .u32 ((Z.ky x).gen)])]) rfl
  clear h30
  refine dr_batch tabOk2 tabZ_ok2 (by repeat (first | with_reducible exact PF.body | with_reducible apply PF.inB | with_reducible apply PF.next)) [(6, {})] [6, 3, 0, 1, 4, 5, 7] (T' := [(6, .pointer (some ⟨b14, 0, none⟩)), (3, .pointer (some ⟨b2, 0, none⟩)), (0, .pointer (some ⟨mb, 0, none⟩)), (1, .agg #[.int .u8 5, .int .u32 ev.pick, .int .u64 ev.draw, .int .u32 ev.addr, .int .u32 ev.node, .int .u32 ev.dst, .int .u32 ev.xfer, .int .u8 ev.ty, .int .u64 ev.arg, .int .u64 ev.badge, .slice xo ev.ws.length cx]), (4, .int .u8 0), (5, .bool false), (7, .pointer (some ⟨(Z.tp x), 0, none⟩))]) (φ := True) (fuel := 0) h31 (by kernel_rfl) rfl (by kernel_rfl) (by kernel_rfl) ⟨trivial, trivial⟩ trivial fun a32 h33 => ?_
  clear h31
  refine wpAnyK_done (by kernel_rfl) ?_ _
  refine hK22 _ _ ?_
  clear hK22
  refine wp_seq_k fun K34 hK34 => ?_
  refine wp_seq_k fun K35 hK35 => ?_
  refine nd_start (l := [0, 1]) rfl ?_
  refine nd_batch tabOk2 tabZ_ok2 [(0, {}), (1, {k := 1})] [6, 3, 0, 1, 4, 5, 7, 53] (T' := [(6, .pointer (some ⟨b14, 0, none⟩)), (3, .pointer (some ⟨b2, 0, none⟩)), (0, .pointer (some ⟨mb, 0, none⟩)), (1, .agg #[.int .u8 5, .int .u32 ev.pick, .int .u64 ev.draw, .int .u32 ev.addr, .int .u32 ev.node, .int .u32 ev.dst, .int .u32 ev.xfer, .int .u8 ev.ty, .int .u64 ev.arg, .int .u64 ev.badge, .slice xo ev.ws.length cx]), (4, .int .u8 0), (5, .bool false), (7, .pointer (some ⟨(Z.tp x), 0, none⟩)), (53, .int .u8 5)]) (φ := (b2 = b2 ∧ Nat.ble (0 + 1) 11 = true) ∧ True) (rest := []) h33 (by kernel_rfl) rfl ⟨⟨rfl, rfl⟩, trivial⟩ fun a36 h37 => ?_
  clear h33
  refine nd_done ?_
  refine hK35 _ _ ?_
  clear hK35
  refine wp_block ?_
  refine wp_seq_k fun K38 hK38 => ?_
  refine nd_start (l := [0, 1]) rfl ?_
  refine nd_batch tabOk2 tabZ_ok2 [(0, {}), (1, {})] [6, 3, 0, 1, 4, 5, 7, 53, 54] (T' := [(6, .pointer (some ⟨b14, 0, none⟩)), (3, .pointer (some ⟨b2, 0, none⟩)), (0, .pointer (some ⟨mb, 0, none⟩)), (1, .agg #[.int .u8 5, .int .u32 ev.pick, .int .u64 ev.draw, .int .u32 ev.addr, .int .u32 ev.node, .int .u32 ev.dst, .int .u32 ev.xfer, .int .u8 ev.ty, .int .u64 ev.arg, .int .u64 ev.badge, .slice xo ev.ws.length cx]), (4, .int .u8 0), (5, .bool false), (7, .pointer (some ⟨(Z.tp x), 0, none⟩)), (53, .int .u8 5), (54, .bool false)]) (φ := True) (rest := []) h37 (by kernel_rfl) rfl trivial fun a39 h40 => ?_
  clear h37
  refine nd_done ?_
  refine hK38 _ _ ?_
  clear hK38
  refine c_false h40 rfl ?_
  refine wp_seq_k fun K41 hK41 => ?_
  refine nd_start (l := [0, 1]) rfl ?_
  refine nd_batch tabOk2 tabZ_ok2 [(0, {}), (1, {})] [6, 3, 0, 1, 4, 5, 7, 53, 59] (T' := [(6, .pointer (some ⟨b14, 0, none⟩)), (3, .pointer (some ⟨b2, 0, none⟩)), (0, .pointer (some ⟨mb, 0, none⟩)), (1, .agg #[.int .u8 5, .int .u32 ev.pick, .int .u64 ev.draw, .int .u32 ev.addr, .int .u32 ev.node, .int .u32 ev.dst, .int .u32 ev.xfer, .int .u8 ev.ty, .int .u64 ev.arg, .int .u64 ev.badge, .slice xo ev.ws.length cx]), (4, .int .u8 0), (5, .bool false), (7, .pointer (some ⟨(Z.tp x), 0, none⟩)), (53, .int .u8 5), (59, .bool false)]) (φ := True) (rest := []) h40 (by kernel_rfl) rfl trivial fun a42 h43 => ?_
  clear h40
  refine nd_done ?_
  refine hK41 _ _ ?_
  clear hK41
  refine c_false h43 rfl ?_
  refine wp_seq_k fun K44 hK44 => ?_
  refine wp_seq_k fun K45 hK45 => ?_
  refine nd_start (l := [0, 1]) rfl ?_
  refine nd_batch tabOk2 tabZ_ok2 [(0, {}), (1, {})] [6, 3, 0, 1, 4, 5, 7, 53, 66] (T' := [(6, .pointer (some ⟨b14, 0, none⟩)), (3, .pointer (some ⟨b2, 0, none⟩)), (0, .pointer (some ⟨mb, 0, none⟩)), (1, .agg #[.int .u8 5, .int .u32 ev.pick, .int .u64 ev.draw, .int .u32 ev.addr, .int .u32 ev.node, .int .u32 ev.dst, .int .u32 ev.xfer, .int .u8 ev.ty, .int .u64 ev.arg, .int .u64 ev.badge, .slice xo ev.ws.length cx]), (4, .int .u8 0), (5, .bool false), (7, .pointer (some ⟨(Z.tp x), 0, none⟩)), (53, .int .u8 5), (66, .bool false)]) (φ := True) (rest := []) h43 (by kernel_rfl) rfl trivial fun a46 h47 => ?_
  clear h43
  refine nd_done ?_
  refine hK45 _ _ ?_
  clear hK45
  refine c_false h47 rfl ?_
  refine nd_start (l := [0, 1]) rfl ?_
  refine nd_batch tabOk2 tabZ_ok2 [(0, {}), (1, {})] [6, 3, 0, 1, 4, 5, 7, 53, 66] (T' := [(6, .pointer (some ⟨b14, 0, none⟩)), (3, .pointer (some ⟨b2, 0, none⟩)), (0, .pointer (some ⟨mb, 0, none⟩)), (1, .agg #[.int .u8 5, .int .u32 ev.pick, .int .u64 ev.draw, .int .u32 ev.addr, .int .u32 ev.node, .int .u32 ev.dst, .int .u32 ev.xfer, .int .u8 ev.ty, .int .u64 ev.arg, .int .u64 ev.badge, .slice xo ev.ws.length cx]), (4, .int .u8 0), (5, .bool false), (7, .pointer (some ⟨(Z.tp x), 0, none⟩)), (53, .int .u8 5), (66, .bool true)]) (φ := True) (rest := []) h47 (by kernel_rfl) rfl trivial fun a48 h49 => ?_
  clear h47
  refine nd_done ?_
  refine hK44 _ _ ?_
  clear hK44
  refine c_true h49 rfl ?_
  refine wp_seq_k fun K50 hK50 => ?_
  refine nd_start (l := [0, 1, 2, 3, 4, 5, 6, 7, 8, 9]) rfl ?_
  refine nd_batch tabOk2 tabZ_ok2 [(0, {}), (1, {}), (2, {k := 1})] [6, 3, 0, 1, 4, 5, 7, 53, 66, 70, 72] (T' := [(6, .pointer (some ⟨b14, 0, none⟩)), (3, .pointer (some ⟨b2, 0, none⟩)), (0, .pointer (some ⟨mb, 0, none⟩)), (1, .agg #[.int .u8 5, .int .u32 ev.pick, .int .u64 ev.draw, .int .u32 ev.addr, .int .u32 ev.node, .int .u32 ev.dst, .int .u32 ev.xfer, .int .u8 ev.ty, .int .u64 ev.arg, .int .u64 ev.badge, .slice xo ev.ws.length cx]), (4, .int .u8 0), (5, .bool false), (7, .pointer (some ⟨(Z.tp x), 0, none⟩)), (53, .int .u8 5), (66, .bool true), (70, .pointer (some ⟨mb, 0, none⟩)), (72, .int .u32 ev.addr)]) (φ := (b2 = b2 ∧ Nat.ble (3 + 1) 11 = true) ∧ True) (rest := [3, 4, 5, 6, 7, 8, 9]) h49 (by kernel_rfl) rfl ⟨⟨rfl, rfl⟩, trivial⟩ fun a51 h52 => ?_
  clear h49
  refine nd_op ?_
  refine op_call h52 rfl rfl rfl (callOk Tryd.func90 (by decide) rfl) (args := [.pointer (some ⟨mb, 0, none⟩), .int .u32 ev.addr, .int .u8 4, .int .u8 2]) rfl (capOf_ok mb Z _ a C x hx hcx hci hcn hI.ci ev.addr 4 2 he.addr _ (mh_of h52 hho (k := 0) rfl) hf) ?_
  rintro _ w53 ⟨rfl, hg55⟩
  refine ⟨_, rfl, ?_⟩
  have h56a := st_mg h52 hg55 (kcons (fun _ => rfl) (kcons (fun hq => by cases hq) (kcons (fun hq => by cases hq) knil)))
  have h56 := h56a.put (d := some 73) (v := .tuple #[.agg #[.int .u8 ct, .int .u16 ((Z.ky i).idx), .int .u32 ((Z.ky i).gen), .int .u8 rt, .int .u64 bd], .int .u8 0]) (T' := [(73, .tuple #[.agg #[.int .u8 ct, .int .u16 ((Z.ky i).idx), .int .u32 ((Z.ky i).gen), .int .u8 rt, .int .u64 bd], .int .u8 0]), (6, .pointer (some ⟨b14, 0, none⟩)), (3, .pointer (some ⟨b2, 0, none⟩)), (0, .pointer (some ⟨mb, 0, none⟩)), (1, .agg #[.int .u8 5, .int .u32 ev.pick, .int .u64 ev.draw, .int .u32 ev.addr, .int .u32 ev.node, .int .u32 ev.dst, .int .u32 ev.xfer, .int .u8 ev.ty, .int .u64 ev.arg, .int .u64 ev.badge, .slice xo ev.ws.length cx]), (4, .int .u8 0), (5, .bool false), (7, .pointer (some ⟨(Z.tp x), 0, none⟩)), (53, .int .u8 5), (66, .bool true), (70, .pointer (some ⟨mb, 0, none⟩)), (72, .int .u32 ev.addr)]) rfl
  have hhoh56 := hg55.mh.ho
  clear h52 h56a
  refine nd_batch tabOk2 tabZ_ok2 [(4, {}), (5, {}), (6, {})] [6, 3, 0, 1, 4, 5, 7, 53, 66, 74, 75] (T' := [(6, .pointer (some ⟨b14, 0, none⟩)), (3, .pointer (some ⟨b2, 0, none⟩)), (0, .pointer (some ⟨mb, 0, none⟩)), (1, .agg #[.int .u8 5, .int .u32 ev.pick, .int .u64 ev.draw, .int .u32 ev.addr, .int .u32 ev.node, .int .u32 ev.dst, .int .u32 ev.xfer, .int .u8 ev.ty, .int .u64 ev.arg, .int .u64 ev.badge, .slice xo ev.ws.length cx]), (4, .int .u8 0), (5, .bool false), (7, .pointer (some ⟨(Z.tp x), 0, none⟩)), (53, .int .u8 5), (66, .bool true), (74, .agg #[.int .u8 ct, .int .u16 ((Z.ky i).idx), .int .u32 ((Z.ky i).gen), .int .u8 rt, .int .u64 bd]), (75, .int .u8 0)]) (φ := True) (rest := [7, 8, 9]) h56 (by kernel_rfl) rfl trivial fun a57 h58 => ?_
  clear h56
  refine nd_op ?_
  refine op_new tabOk2 (cells := [.int .u8 0, .int .u16 0, .int .u32 0, .int .u8 0, .int .u64 0]) (ty := 49) (ln := none) (L1 := fun b59 => [(3, ⟨[.int .u16 0, .int .u32 0], ty3, true⟩), (b2, ⟨[.int .u8 5, .int .u32 ev.pick, .int .u64 ev.draw, .int .u32 ev.addr, .int .u32 ev.node, .int .u32 ev.dst, .int .u32 ev.xfer, .int .u8 ev.ty, .int .u64 ev.arg, .int .u64 ev.badge, .slice xo ev.ws.length cx], 35, false⟩), (b14, ⟨[.int .u16 ((Z.ky x).idx), .int .u32 ((Z.ky x).gen)], 39, false⟩), (b59, ⟨[.int .u8 0, .int .u16 0, .int .u32 0, .int .u8 0, .int .u64 0], 49, false⟩)]) h58 rfl rfl rfl rfl (by kernel_rfl) (fun _ => rfl) fun b59 w60 a61 h62 hf63 hn64 => ?_
  clear h58
  refine nd_op ?_
  refine op_store tabOk2 {k := 3} (L' := [(3, ⟨[.int .u16 0, .int .u32 0], ty3, true⟩), (b2, ⟨[.int .u8 5, .int .u32 ev.pick, .int .u64 ev.draw, .int .u32 ev.addr, .int .u32 ev.node, .int .u32 ev.dst, .int .u32 ev.xfer, .int .u8 ev.ty, .int .u64 ev.arg, .int .u64 ev.badge, .slice xo ev.ws.length cx], 35, false⟩), (b14, ⟨[.int .u16 ((Z.ky x).idx), .int .u32 ((Z.ky x).gen)], 39, false⟩), (b59, ⟨[.int .u8 ct, .int .u16 ((Z.ky i).idx), .int .u32 ((Z.ky i).gen), .int .u8 rt, .int .u64 bd], 49, false⟩)]) (φ := b59 = b59 ∧ Nat.ble (0 + 5) 5 = true) h62 rfl rfl rfl (by kernel_rfl) ⟨rfl, rfl⟩ fun w65 h66 => ?_
  clear h62
  refine nd_batch tabOk2 tabZ_ok2 [(9, {})] [8, 6, 3, 0, 1, 4, 5, 7, 53, 66, 9] (T' := [(8, .pointer (some ⟨b59, 0, none⟩)), (6, .pointer (some ⟨b14, 0, none⟩)), (3, .pointer (some ⟨b2, 0, none⟩)), (0, .pointer (some ⟨mb, 0, none⟩)), (1, .agg #[.int .u8 5, .int .u32 ev.pick, .int .u64 ev.draw, .int .u32 ev.addr, .int .u32 ev.node, .int .u32 ev.dst, .int .u32 ev.xfer, .int .u8 ev.ty, .int .u64 ev.arg, .int .u64 ev.badge, .slice xo ev.ws.length cx]), (4, .int .u8 0), (5, .bool false), (7, .pointer (some ⟨(Z.tp x), 0, none⟩)), (53, .int .u8 5), (66, .bool true), (9, .int .u8 0)]) (φ := True) (rest := []) h66 (by kernel_rfl) rfl trivial fun a67 h68 => ?_
  clear h66
  refine nd_done ?_
  refine hK50 _ _ ?_
  clear hK50
  refine wp_seq_k fun K69 hK69 => ?_
  refine wp_seq_k fun K70 hK70 => ?_
  refine nd_start (l := [0, 1]) rfl ?_
  refine nd_batch tabOk2 tabZ_ok2 [(0, {}), (1, {})] [8, 6, 3, 0, 1, 4, 5, 7, 53, 66, 9, 77] (T' := [(8, .pointer (some ⟨b59, 0, none⟩)), (6, .pointer (some ⟨b14, 0, none⟩)), (3, .pointer (some ⟨b2, 0, none⟩)), (0, .pointer (some ⟨mb, 0, none⟩)), (1, .agg #[.int .u8 5, .int .u32 ev.pick, .int .u64 ev.draw, .int .u32 ev.addr, .int .u32 ev.node, .int .u32 ev.dst, .int .u32 ev.xfer, .int .u8 ev.ty, .int .u64 ev.arg, .int .u64 ev.badge, .slice xo ev.ws.length cx]), (4, .int .u8 0), (5, .bool false), (7, .pointer (some ⟨(Z.tp x), 0, none⟩)), (53, .int .u8 5), (66, .bool true), (9, .int .u8 0), (77, .bool false)]) (φ := True) (rest := []) h68 (by kernel_rfl) rfl trivial fun a71 h72 => ?_
  clear h68
  refine nd_done ?_
  refine hK70 _ _ ?_
  clear hK70
  refine c_false h72 rfl ?_
  refine wp_skip ?_
  refine hK69 _ _ ?_
  clear hK69
  refine wp_seq_k fun K73 hK73 => ?_
  refine wp_seq_k fun K74 hK74 => ?_
  refine nd_start (l := [0, 1, 2, 3]) rfl ?_
  refine nd_batch tabOk2 tabZ_ok2 [(0, {}), (1, {k := 1}), (2, {}), (3, {})] [8, 6, 3, 0, 1, 4, 5, 7, 53, 66, 9, 82] (T' := [(8, .pointer (some ⟨b59, 0, none⟩)), (6, .pointer (some ⟨b14, 0, none⟩)), (3, .pointer (some ⟨b2, 0, none⟩)), (0, .pointer (some ⟨mb, 0, none⟩)), (1, .agg #[.int .u8 5, .int .u32 ev.pick, .int .u64 ev.draw, .int .u32 ev.addr, .int .u32 ev.node, .int .u32 ev.dst, .int .u32 ev.xfer, .int .u8 ev.ty, .int .u64 ev.arg, .int .u64 ev.badge, .slice xo ev.ws.length cx]), (4, .int .u8 0), (5, .bool false), (7, .pointer (some ⟨(Z.tp x), 0, none⟩)), (53, .int .u8 5), (66, .bool true), (9, .int .u8 0), (82, .bool (decide (((ev.ws.length : Nat) : Int) > 4)))]) (φ := (b2 = b2 ∧ Nat.ble (10 + 1) 11 = true) ∧ True) (rest := []) h72 (by kernel_rfl) rfl ⟨⟨rfl, rfl⟩, trivial⟩ fun a75 h76 => ?_
  clear h72
  refine nd_done ?_
  refine hK74 _ _ ?_
  clear hK74
  refine c_split h76 (b := decide (((ev.ws.length : Nat) : Int) > 4)) rfl (fun hc77 => ?_) (fun hc77 => ?_)
  ·
    have hc77f : ((ev.ws.length : Nat) : Int) > 4 := by simpa using hc77
    refine wp_seq_k fun K78 hK78 => ?_
    refine nd_start (l := [0, 1]) rfl ?_
    refine nd_batch tabOk2 tabZ_ok2 [(0, {}), (1, {})] [8, 6, 3, 0, 1, 7, 53, 66, 9, 4, 5] (T' := [(8, .pointer (some ⟨b59, 0, none⟩)), (6, .pointer (some ⟨b14, 0, none⟩)), (3, .pointer (some ⟨b2, 0, none⟩)), (0, .pointer (some ⟨mb, 0, none⟩)), (1, .agg #[.int .u8 5, .int .u32 ev.pick, .int .u64 ev.draw, .int .u32 ev.addr, .int .u32 ev.node, .int .u32 ev.dst, .int .u32 ev.xfer, .int .u8 ev.ty, .int .u64 ev.arg, .int .u64 ev.badge, .slice xo ev.ws.length cx]), (7, .pointer (some ⟨(Z.tp x), 0, none⟩)), (53, .int .u8 5), (66, .bool true), (9, .int .u8 0), (4, .int .u8 8), (5, .bool false)]) (φ := True) (rest := []) h76 (by kernel_rfl) rfl trivial fun a79 h80 => ?_
    clear h76
    refine nd_done ?_
    refine hK78 _ _ ?_
    clear hK78
    refine wp_ret ?_
    try simp only [Exit.then, Exit.inBlock]
    try rw [if_pos trivial]
    exact s_ret tabOk2 tabZ_ok2 h80 [(.tmp 4, {}), (.tmp 5, {})] (vs := [.int .u8 8, .bool false]) (φ := True) rfl (by kernel_rfl) trivial ⟨rfl, _, mg_end hH h80 hhoh56 rfl⟩
  ·
    have hc77f : ¬ ((ev.ws.length : Nat) : Int) > 4 := by simpa using hc77
    exact absurd (hwl) (by first | exact hc77f | (intro hz; exact hc77f hz) | omega | simp_all)

theorem call5q (mb : Nat) (Z : MZ) (R : MR) (a : AK) (C : CP) (hI : MI Z a C) (x : Nat) (hx : x ∈ sl Z.tl) (hcu : a.cur = (x : Int)) (ev : Ev) (he : EvOk ev) (xo : Option Addr) (cx : Nat) (i : Nat) (hi : i ∈ sl Z.ql) (ct rt bd cs0 : Int) (hf : findA a C ev.addr 4 2 = (⟨ct, Z.ky i, rt, bd⟩, cs0, 0)) (hwl : ¬ (ev.ws.length : Int) > 4) (a5 : AK) (h5 : a5 = a.setT x { msgA (a.th x) ev.ws with badge := bd, xfer := ev.xfer, grant := (bitI .and .u8 rt 4 != 0), call := true }) (ho : oldestA a5 (Z.ky i) 4 = -1) (w : World) (hH : MH mb Z R a C w) (hws : WordsAt (mdF mb Z R C) w xo ev.ws) :
    Calls Tryd.prog 55 #[.pointer (some ⟨mb, 0, none⟩), .agg #[.int .u8 5, .int .u32 ev.pick, .int .u64 ev.draw, .int .u32 ev.addr, .int .u32 ev.node, .int .u32 ev.dst, .int .u32 ev.xfer, .int .u8 ev.ty, .int .u64 ev.arg, .int .u64 ev.badge, .slice xo ev.ws.length cx]] w fun e w' => e = .returned (.tuple #[.int .u8 0, .bool false]) ∧ ∃ R', MG mb Z R C w Z R' (blockA a5 x 3 (Z.ky i)) C w' := by
  have hP := hI.mp
  have hcx : curR Z a = Z.ky x := curR_of hcu
  have hcn : a.cur.toNat = x := by rw [hcu]; exact Int.toNat_natCast x
  have hci := (hI.tk x hx).ci
  have hf5 : firstR Z a5 i 4 = ⟨0, 0⟩ := by rw [firstR_old hH.md.k (hH.md.k.qx i hi), ho]; rfl
  obtain ⟨ty3, hg3⟩ := hH.g3
  have hho := hH.ho
  have hkk := hH.md.k
  refine enter (n := 628) (K := mdF mb Z R C) (A := MD (mdF mb Z R C) w.heap.size mb Z R a C) (F := mdF mb Z R C) (T := [(0, .pointer (some ⟨mb, 0, none⟩)), (1, .agg #[.int .u8 5, .int .u32 ev.pick, .int .u64 ev.draw, .int .u32 ev.addr, .int .u32 ev.node, .int .u32 ev.dst, .int .u32 ev.xfer, .int .u8 ev.ty, .int .u64 ev.arg, .int .u64 ev.badge, .slice xo ev.ws.length cx])]) (L := [(3, ⟨[.int .u16 0, .int .u32 0], ty3, true⟩)]) (args := [.pointer (some ⟨mb, 0, none⟩), .agg #[.int .u8 5, .int .u32 ev.pick, .int .u64 ev.draw, .int .u32 ev.addr, .int .u32 ev.node, .int .u32 ev.dst, .int .u32 ev.xfer, .int .u8 ev.ty, .int .u64 ev.arg, .int .u64 ev.badge, .slice xo ev.ws.length cx]]) Tryd.func55 rfl rfl rfl rfl (kcons hg3 knil) (by simp) (kcons (by intro hq; cases hq) knil) hH.mD MD.stable hH.md.low (kcons (by intro hq; cases hq) knil) ?_
  intro ac h
  refine wp_seq_k fun K1 hK1 => ?_
  refine nd_start (l := [0, 1, 2]) rfl ?_
  refine nd_op ?_
  refine op_new tabOk2 (cells := [.int .u8 5, .int .u32 ev.pick, .int .u64 ev.draw, .int .u32 ev.addr, .int .u32 ev.node, .int .u32 ev.dst, .int .u32 ev.xfer, .int .u8 ev.ty, .int .u64 ev.arg, .int .u64 ev.badge, .slice xo ev.ws.length cx]) (ty := 35) (ln := none) (L1 := fun b2 => [(3, ⟨[.int .u16 0, .int .u32 0], ty3, true⟩), (b2, ⟨[.int .u8 5, .int .u32 ev.pick, .int .u64 ev.draw, .int .u32 ev.addr, .int .u32 ev.node, .int .u32 ev.dst, .int .u32 ev.xfer, .int .u8 ev.ty, .int .u64 ev.arg, .int .u64 ev.badge, .slice xo ev.ws.length cx], 35, false⟩)]) h rfl rfl rfl rfl (by kernel_rfl) (fun _ => rfl) fun b2 w3 a4 h5 hf6 hn7 => ?_
  clear h
  refine nd_batch tabOk2 tabZ_ok2 [(1, {}), (2, {})] [3, 0, 1, 4, 5] (T' := [(3, .pointer (some ⟨b2, 0, none⟩)), (0, .pointer (some ⟨mb, 0, none⟩)), (1, .agg #[.int .u8 5, .int .u32 ev.pick, .int .u64 ev.draw, .int .u32 ev.addr, .int .u32 ev.node, .int .u32 ev.dst, .int .u32 ev.xfer, .int .u8 ev.ty, .int .u64 ev.arg, .int .u64 ev.badge, .slice xo ev.ws.length cx]), (4, .int .u8 0), (5, .bool false)]) (φ := True) (rest := []) h5 (by kernel_rfl) rfl trivial fun a8 h9 => ?_
  clear h5
  refine nd_done ?_
  refine hK1 _ _ ?_
  clear hK1
  refine wp_seq_k fun K10 hK10 => ?_
  refine nd_start (l := [0, 1, 2, 3, 4, 5]) rfl ?_
  refine nd_batch tabOk2 tabZ_ok2 [(0, {}), (1, {}), (2, {})] [3, 0, 1, 4, 5, 44] (T' := [(3, .pointer (some ⟨b2, 0, none⟩)), (0, .pointer (some ⟨mb, 0, none⟩)), (1, .agg #[.int .u8 5, .int .u32 ev.pick, .int .u64 ev.draw, .int .u32 ev.addr, .int .u32 ev.node, .int .u32 ev.dst, .int .u32 ev.xfer, .int .u8 ev.ty, .int .u64 ev.arg, .int .u64 ev.badge, .slice xo ev.ws.length cx]), (4, .int .u8 0), (5, .bool false), (44, .pointer (some ⟨mb, 13, none⟩))]) (φ := True) (rest := [3, 4, 5]) h9 (by kernel_rfl) rfl trivial fun a11 h12 => ?_
  clear h9
  refine nd_op ?_
  refine op_read (b := mb) (v := .agg #[.int .u16 ((Z.ky x).idx), .int .u32 ((Z.ky x).gen)]) h12 rfl rfl (rd_mA h12 (k := 13) (vs := [.int .u16 ((Z.ky x).idx), .int .u32 ((Z.ky x).gen)]) rfl rfl rfl rfl rfl (by rw [← hcx]; exact md_cur)) ?_
  have h13 := h12.put (d := some 45) (v := .agg #[.int .u16 ((Z.ky x).idx), .int .u32 ((Z.ky x).gen)]) (T' := [(45, .agg #[.int .u16 ((Z.ky x).idx), .int .u32 ((Z.ky x).gen)]), (3, .pointer (some ⟨b2, 0, none⟩)), (0, .pointer (some ⟨mb, 0, none⟩)), (1, .agg #[.int .u8 5, .int .u32 ev.pick, .int .u64 ev.draw, .int .u32 ev.addr, .int .u32 ev.node, .int .u32 ev.dst, .int .u32 ev.xfer, .int .u8 ev.ty, .int .u64 ev.arg, .int .u64 ev.badge, .slice xo ev.ws.length cx]), (4, .int .u8 0), (5, .bool false), (44, .pointer (some ⟨mb, 13, none⟩))]) rfl
  clear h12
  refine nd_op ?_
  refine op_new tabOk2 (cells := [.int .u16 0, .int .u32 0]) (ty := 39) (ln := none) (L1 := fun b14 => [(3, ⟨[.int .u16 0, .int .u32 0], ty3, true⟩), (b2, ⟨[.int .u8 5, .int .u32 ev.pick, .int .u64 ev.draw, .int .u32 ev.addr, .int .u32 ev.node, .int .u32 ev.dst, .int .u32 ev.xfer, .int .u8 ev.ty, .int .u64 ev.arg, .int .u64 ev.badge, .slice xo ev.ws.length cx], 35, false⟩), (b14, ⟨[.int .u16 0, .int .u32 0], 39, false⟩)]) h13 rfl rfl rfl rfl (by kernel_rfl) (fun _ => rfl) fun b14 w15 a16 h17 hf18 hn19 => ?_
  clear h13
  refine nd_op ?_
  refine op_store tabOk2 {k := 2} (L' := [(3, ⟨[.int .u16 0, .int .u32 0], ty3, true⟩), (b2, ⟨[.int .u8 5, .int .u32 ev.pick, .int .u64 ev.draw, .int .u32 ev.addr, .int .u32 ev.node, .int .u32 ev.dst, .int .u32 ev.xfer, .int .u8 ev.ty, .int .u64 ev.arg, .int .u64 ev.badge, .slice xo ev.ws.length cx], 35, false⟩), (b14, ⟨[.int .u16 ((Z.ky x).idx), .int .u32 ((Z.ky x).gen)], 39, false⟩)]) (φ := b14 = b14 ∧ Nat.ble (0 + 2) 2 = true) h17 rfl rfl rfl (by kernel_rfl) ⟨rfl, rfl⟩ fun w20 h21 => ?_
  clear h17
  refine nd_done ?_
  refine hK10 _ _ ?_
  clear hK10
  refine wp_seq_k fun K22 hK22 => ?_
  refine dr_start (KB := [3, b2, b14, mb, Z.tb]) (Bi := [[0, 1, 2, 3, 4], [0, 1, 2, 3, 4], [0, 1, 2, 3, 4], [0, 1, 2, 3, 4], [0, 1, 2, 3, 4], [0, 1, 2, 3, 4], [0, 1, 2, 3, 4]]) mixed h21 fun w23 h24 => ?_
  clear h21
  refine dr_batch tabOk2 tabZ_ok2 (by repeat (first | with_reducible exact PF.body | with_reducible apply PF.inB | with_reducible apply PF.next)) [(0, {}), (1, {}), (2, {})] [6, 3, 0, 1, 4, 5, 48] (T' := [(6, .pointer (some ⟨b14, 0, none⟩)), (3, .pointer (some ⟨b2, 0, none⟩)), (0, .pointer (some ⟨mb, 0, none⟩)), (1, .agg #[.int .u8 5, .int .u32 ev.pick, .int .u64 ev.draw, .int .u32 ev.addr, .int .u32 ev.node, .int .u32 ev.dst, .int .u32 ev.xfer, .int .u8 ev.ty, .int .u64 ev.arg, .int .u64 ev.badge, .slice xo ev.ws.length cx]), (4, .int .u8 0), (5, .bool false), (48, .pointer (some ⟨mb, 2, none⟩))]) (φ := True) (fuel := 4) h24 (by kernel_rfl) rfl (by kernel_rfl) (by kernel_rfl) ⟨trivial, trivial, trivial, trivial⟩ trivial fun a26 h27 => ?_
  clear h24
  refine dr_read (i := 3) (b := mb) (p := 3) (v := .map (some Z.tb)) (fuel := 3) (by repeat (first | with_reducible exact PF.body | with_reducible apply PF.inB | with_reducible apply PF.next)) h27 rfl rfl rfl (by kernel_rfl) (by kernel_rfl) (by kernel_rfl) rfl (rd_m h27 (k := 2) (v := .map (some Z.tb)) rfl rfl rfl rfl (md_p ⟨rfl, trivial⟩)) ?_
  have h28 := h27.put (d := some 49) (v := .map (some Z.tb)) (T' := [(49, .map (some Z.tb)), (6, .pointer (some ⟨b14, 0, none⟩)), (3, .pointer (some ⟨b2, 0, none⟩)), (0, .pointer (some ⟨mb, 0, none⟩)), (1, .agg #[.int .u8 5, .int .u32 ev.pick, .int .u64 ev.draw, .int .u32 ev.addr, .int .u32 ev.node, .int .u32 ev.dst, .int .u32 ev.xfer, .int .u8 ev.ty, .int .u64 ev.arg, .int .u64 ev.badge, .slice xo ev.ws.length cx]), (4, .int .u8 0), (5, .bool false), (48, .pointer (some ⟨mb, 2, none⟩))]) rfl
  clear h27
  refine dr_batch tabOk2 tabZ_ok2 (by repeat (first | with_reducible exact PF.body | with_reducible apply PF.inB | with_reducible apply PF.next)) [(4, {k := 2, p := 2})] [49, 6, 3, 0, 1, 4, 5, 50] (T' := [(49, .map (some Z.tb)), (6, .pointer (some ⟨b14, 0, none⟩)), (3, .pointer (some ⟨b2, 0, none⟩)), (0, .pointer (some ⟨mb, 0, none⟩)), (1, .agg #[.int .u8 5, .int .u32 ev.pick, .int .u64 ev.draw, .int .u32 ev.addr, .int .u32 ev.node, .int .u32 ev.dst, .int .u32 ev.xfer, .int .u8 ev.ty, .int .u64 ev.arg, .int .u64 ev.badge, .slice xo ev.ws.length cx]), (4, .int .u8 0), (5, .bool false), (50, .agg #[.int .u16 ((Z.ky x).idx), .int .u32 ((Z.ky x).gen)])]) (φ := (b14 = b14 ∧ Nat.ble (0 + 2) 2 = true) ∧ True) (fuel := 2) h28 (by kernel_rfl) rfl (by kernel_rfl) (by kernel_rfl) ⟨rfl, trivial⟩ ⟨⟨rfl, rfl⟩, trivial⟩ fun a29 h30 => ?_
  clear h28
  refine dr_read (i := 5) (b := Z.tb) (p := 4) (v := .pointer (some ⟨(Z.tp x), 0, none⟩)) (fuel := 1) (by repeat (first | with_reducible exact PF.body | with_reducible apply PF.inB | with_reducible apply PF.next)) h30 rfl rfl rfl (by kernel_rfl) (by kernel_rfl) (by kernel_rfl) rfl (rd_T h30 (x := x) hx rfl rfl rfl) ?_
  have h31 := h30.put (d := some 51) (v := .pointer (some ⟨(Z.tp x), 0, none⟩)) (T' := [(51, .pointer (some ⟨(Z.tp x), 0, none⟩)), (49, .map (some Z.tb)), (6, .pointer (some ⟨b14, 0, none⟩)), (3, .pointer (some ⟨b2, 0, none⟩)), (0, .pointer (some ⟨mb, 0, none⟩)), (1, .agg #[.int .u8 5, .int .u32 ev.pick, .int .u64 ev.draw, .int .u32 ev.addr, .int .u32 ev.node, .int .u32 ev.dst, .int .u32 ev.xfer, .int .u8 ev.ty, .int .u64 ev.arg, .int .u64 ev.badge, .slice xo ev.ws.length cx]), (4, .int .u8 0), (5, .bool false), (50, .agg #[.int .u16 ((Z.ky x).idx), .int .u32 ((Z.ky x).gen)])]) rfl
  clear h30
  refine dr_batch tabOk2 tabZ_ok2 (by repeat (first | with_reducible exact PF.body | with_reducible apply PF.inB | with_reducible apply PF.next)) [(6, {})] [6, 3, 0, 1, 4, 5, 7] (T' := [(6, .pointer (some ⟨b14, 0, none⟩)), (3, .pointer (some ⟨b2, 0, none⟩)), (0, .pointer (some ⟨mb, 0, none⟩)), (1, .agg #[.int .u8 5, .int .u32 ev.pick, .int .u64 ev.draw, .int .u32 ev.addr, .int .u32 ev.node, .int .u32 ev.dst, .int .u32 ev.xfer, .int .u8 ev.ty, .int .u64 ev.arg, .int .u64 ev.badge, .slice xo ev.ws.length cx]), (4, .int .u8 0), (5, .bool false), (7, .pointer (some ⟨(Z.tp x), 0, none⟩))]) (φ := True) (fuel := 0) h31 (by kernel_rfl) rfl (by kernel_rfl) (by kernel_rfl) ⟨trivial, trivial⟩ trivial fun a32 h33 => ?_
  clear h31
  refine wpAnyK_done (by kernel_rfl) ?_ _
  refine hK22 _ _ ?_
  clear hK22
  refine wp_seq_k fun K34 hK34 => ?_
  refine wp_seq_k fun K35 hK35 => ?_
  refine nd_start (l := [0, 1]) rfl ?_
  refine nd_batch tabOk2 tabZ_ok2 [(0, {}), (1, {k := 1})] [6, 3, 0, 1, 4, 5, 7, 53] (T' := [(6, .pointer (some ⟨b14, 0, none⟩)), (3, .pointer (some ⟨b2, 0, none⟩)), (0, .pointer (some ⟨mb, 0, none⟩)), (1, .agg #[.int .u8 5, .int .u32 ev.pick, .int .u64 ev.draw, .int .u32 ev.addr, .int .u32 ev.node, .int .u32 ev.dst, .int .u32 ev.xfer, .int .u8 ev.ty, .int .u64 ev.arg, .int .u64 ev.badge, .slice xo ev.ws.length cx]), (4, .int .u8 0), (5, .bool false), (7, .pointer (some ⟨(Z.tp x), 0, none⟩)), (53, .int .u8 5)]) (φ := (b2 = b2 ∧ Nat.ble (0 + 1) 11 = true) ∧ True) (rest := []) h33 (by kernel_rfl) rfl ⟨⟨rfl, rfl⟩, trivial⟩ fun a36 h37 => ?_
  clear h33
  refine nd_done ?_
  refine hK35 _ _ ?_
  clear hK35
  refine wp_block ?_
  refine wp_seq_k fun K38 hK38 => ?_
  refine nd_start (l := [0, 1]) rfl ?_
  refine nd_batch tabOk2 tabZ_ok2 [(0, {}), (1, {})] [6, 3, 0, 1, 4, 5, 7, 53, 54] (T' := [(6, .pointer (some ⟨b14, 0, none⟩)), (3, .pointer (some ⟨b2, 0, none⟩)), (0, .pointer (some ⟨mb, 0, none⟩)), (1, .agg #[.int .u8 5, .int .u32 ev.pick, .int .u64 ev.draw, .int .u32 ev.addr, .int .u32 ev.node, .int .u32 ev.dst, .int .u32 ev.xfer, .int .u8 ev.ty, .int .u64 ev.arg, .int .u64 ev.badge, .slice xo ev.ws.length cx]), (4, .int .u8 0), (5, .bool false), (7, .pointer (some ⟨(Z.tp x), 0, none⟩)), (53, .int .u8 5), (54, .bool false)]) (φ := True) (rest := []) h37 (by kernel_rfl) rfl trivial fun a39 h40 => ?_
  clear h37
  refine nd_done ?_
  refine hK38 _ _ ?_
  clear hK38
  refine c_false h40 rfl ?_
  refine wp_seq_k fun K41 hK41 => ?_
  refine nd_start (l := [0, 1]) rfl ?_
  refine nd_batch tabOk2 tabZ_ok2 [(0, {}), (1, {})] [6, 3, 0, 1, 4, 5, 7, 53, 59] (T' := [(6, .pointer (some ⟨b14, 0, none⟩)), (3, .pointer (some ⟨b2, 0, none⟩)), (0, .pointer (some ⟨mb, 0, none⟩)), (1, .agg #[.int .u8 5, .int .u32 ev.pick, .int .u64 ev.draw, .int .u32 ev.addr, .int .u32 ev.node, .int .u32 ev.dst, .int .u32 ev.xfer, .int .u8 ev.ty, .int .u64 ev.arg, .int .u64 ev.badge, .slice xo ev.ws.length cx]), (4, .int .u8 0), (5, .bool false), (7, .pointer (some ⟨(Z.tp x), 0, none⟩)), (53, .int .u8 5), (59, .bool false)]) (φ := True) (rest := []) h40 (by kernel_rfl) rfl trivial fun a42 h43 => ?_
  clear h40
  refine nd_done ?_
  refine hK41 _ _ ?_
  clear hK41
  refine c_false h43 rfl ?_
  refine wp_seq_k fun K44 hK44 => ?_
  refine wp_seq_k fun K45 hK45 => ?_
  refine nd_start (l := [0, 1]) rfl ?_
  refine nd_batch tabOk2 tabZ_ok2 [(0, {}), (1, {})] [6, 3, 0, 1, 4, 5, 7, 53, 66] (T' := [(6, .pointer (some ⟨b14, 0, none⟩)), (3, .pointer (some ⟨b2, 0, none⟩)), (0, .pointer (some ⟨mb, 0, none⟩)), (1, .agg #[.int .u8 5, .int .u32 ev.pick, .int .u64 ev.draw, .int .u32 ev.addr, .int .u32 ev.node, .int .u32 ev.dst, .int .u32 ev.xfer, .int .u8 ev.ty, .int .u64 ev.arg, .int .u64 ev.badge, .slice xo ev.ws.length cx]), (4, .int .u8 0), (5, .bool false), (7, .pointer (some ⟨(Z.tp x), 0, none⟩)), (53, .int .u8 5), (66, .bool false)]) (φ := True) (rest := []) h43 (by kernel_rfl) rfl trivial fun a46 h47 => ?_
  clear h43
  refine nd_done ?_
  refine hK45 _ _ ?_
  clear hK45
  refine c_false h47 rfl ?_
  refine nd_start (l := [0, 1]) rfl ?_
  refine nd_batch tabOk2 tabZ_ok2 [(0, {}), (1, {})] [6, 3, 0, 1, 4, 5, 7, 53, 66] (T' := [(6, .pointer (some ⟨b14, 0, none⟩)), (3, .pointer (some ⟨b2, 0, none⟩)), (0, .pointer (some ⟨mb, 0, none⟩)), (1, .agg #[.int .u8 5, .int .u32 ev.pick, .int .u64 ev.draw, .int .u32 ev.addr, .int .u32 ev.node, .int .u32 ev.dst, .int .u32 ev.xfer, .int .u8 ev.ty, .int .u64 ev.arg, .int .u64 ev.badge, .slice xo ev.ws.length cx]), (4, .int .u8 0), (5, .bool false), (7, .pointer (some ⟨(Z.tp x), 0, none⟩)), (53, .int .u8 5), (66, .bool true)]) (φ := True) (rest := []) h47 (by kernel_rfl) rfl trivial fun a48 h49 => ?_
  clear h47
  refine nd_done ?_
  refine hK44 _ _ ?_
  clear hK44
  refine c_true h49 rfl ?_
  refine wp_seq_k fun K50 hK50 => ?_
  refine nd_start (l := [0, 1, 2, 3, 4, 5, 6, 7, 8, 9]) rfl ?_
  refine nd_batch tabOk2 tabZ_ok2 [(0, {}), (1, {}), (2, {k := 1})] [6, 3, 0, 1, 4, 5, 7, 53, 66, 70, 72] (T' := [(6, .pointer (some ⟨b14, 0, none⟩)), (3, .pointer (some ⟨b2, 0, none⟩)), (0, .pointer (some ⟨mb, 0, none⟩)), (1, .agg #[.int .u8 5, .int .u32 ev.pick, .int .u64 ev.draw, .int .u32 ev.addr, .int .u32 ev.node, .int .u32 ev.dst, .int .u32 ev.xfer, .int .u8 ev.ty, .int .u64 ev.arg, .int .u64 ev.badge, .slice xo ev.ws.length cx]), (4, .int .u8 0), (5, .bool false), (7, .pointer (some ⟨(Z.tp x), 0, none⟩)), (53, .int .u8 5), (66, .bool true), (70, .pointer (some ⟨mb, 0, none⟩)), (72, .int .u32 ev.addr)]) (φ := (b2 = b2 ∧ Nat.ble (3 + 1) 11 = true) ∧ True) (rest := [3, 4, 5, 6, 7, 8, 9]) h49 (by kernel_rfl) rfl ⟨⟨rfl, rfl⟩, trivial⟩ fun a51 h52 => ?_
  clear h49
  refine nd_op ?_
  refine op_call h52 rfl rfl rfl (callOk Tryd.func90 (by decide) rfl) (args := [.pointer (some ⟨mb, 0, none⟩), .int .u32 ev.addr, .int .u8 4, .int .u8 2]) rfl (capOf_ok mb Z _ a C x hx hcx hci hcn hI.ci ev.addr 4 2 he.addr _ (mh_of h52 hho (k := 0) rfl) hf) ?_
  rintro _ w53 ⟨rfl, hg55⟩
  refine ⟨_, rfl, ?_⟩
  have h56a := st_mg h52 hg55 (kcons (fun _ => rfl) (kcons (fun hq => by cases hq) (kcons (fun hq => by cases hq) knil)))
  have h56 := h56a.put (d := some 73) (v := .tuple #[.agg #[.int .u8 ct, .int .u16 ((Z.ky i).idx), .int .u32 ((Z.ky i).gen), .int .u8 rt, .int .u64 bd], .int .u8 0]) (T' := [(73, .tuple #[.agg #[.int .u8 ct, .int .u16 ((Z.ky i).idx), .int .u32 ((Z.ky i).gen), .int .u8 rt, .int .u64 bd], .int .u8 0]), (6, .pointer (some ⟨b14, 0, none⟩)), (3, .pointer (some ⟨b2, 0, none⟩)), (0, .pointer (some ⟨mb, 0, none⟩)), (1, .agg #[.int .u8 5, .int .u32 ev.pick, .int .u64 ev.draw, .int .u32 ev.addr, .int .u32 ev.node, .int .u32 ev.dst, .int .u32 ev.xfer, .int .u8 ev.ty, .int .u64 ev.arg, .int .u64 ev.badge, .slice xo ev.ws.length cx]), (4, .int .u8 0), (5, .bool false), (7, .pointer (some ⟨(Z.tp x), 0, none⟩)), (53, .int .u8 5), (66, .bool true), (70, .pointer (some ⟨mb, 0, none⟩)), (72, .int .u32 ev.addr)]) rfl
  have hhoh56 := hg55.mh.ho
  clear h52 h56a
  refine nd_batch tabOk2 tabZ_ok2 [(4, {}), (5, {}), (6, {})] [6, 3, 0, 1, 4, 5, 7, 53, 66, 74, 75] (T' := [(6, .pointer (some ⟨b14, 0, none⟩)), (3, .pointer (some ⟨b2, 0, none⟩)), (0, .pointer (some ⟨mb, 0, none⟩)), (1, .agg #[.int .u8 5, .int .u32 ev.pick, .int .u64 ev.draw, .int .u32 ev.addr, .int .u32 ev.node, .int .u32 ev.dst, .int .u32 ev.xfer, .int .u8 ev.ty, .int .u64 ev.arg, .int .u64 ev.badge, .slice xo ev.ws.length cx]), (4, .int .u8 0), (5, .bool false), (7, .pointer (some ⟨(Z.tp x), 0, none⟩)), (53, .int .u8 5), (66, .bool true), (74, .agg #[.int .u8 ct, .int .u16 ((Z.ky i).idx), .int .u32 ((Z.ky i).gen), .int .u8 rt, .int .u64 bd]), (75, .int .u8 0)]) (φ := True) (rest := [7, 8, 9]) h56 (by kernel_rfl) rfl trivial fun a57 h58 => ?_
  clear h56
  refine nd_op ?_
  refine op_new tabOk2 (cells := [.int .u8 0, .int .u16 0, .int .u32 0, .int .u8 0, .int .u64 0]) (ty := 49) (ln := none) (L1 := fun b59 => [(3, ⟨[.int .u16 0, .int .u32 0], ty3, true⟩), (b2, ⟨[.int .u8 5, .int .u32 ev.pick, .int .u64 ev.draw, .int .u32 ev.addr, .int .u32 ev.node, .int .u32 ev.dst, .int .u32 ev.xfer, .int .u8 ev.ty, .int .u64 ev.arg, .int .u64 ev.badge, .slice xo ev.ws.length cx], 35, false⟩), (b14, ⟨[.int .u16 ((Z.ky x).idx), .int .u32 ((Z.ky x).gen)], 39, false⟩), (b59, ⟨[.int .u8 0, .int .u16 0, .int .u32 0, .int .u8 0, .int .u64 0], 49, false⟩)]) h58 rfl rfl rfl rfl (by kernel_rfl) (fun _ => rfl) fun b59 w60 a61 h62 hf63 hn64 => ?_
  clear h58
  refine nd_op ?_
  refine op_store tabOk2 {k := 3} (L' := [(3, ⟨[.int .u16 0, .int .u32 0], ty3, true⟩), (b2, ⟨[.int .u8 5, .int .u32 ev.pick, .int .u64 ev.draw, .int .u32 ev.addr, .int .u32 ev.node, .int .u32 ev.dst, .int .u32 ev.xfer, .int .u8 ev.ty, .int .u64 ev.arg, .int .u64 ev.badge, .slice xo ev.ws.length cx], 35, false⟩), (b14, ⟨[.int .u16 ((Z.ky x).idx), .int .u32 ((Z.ky x).gen)], 39, false⟩), (b59, ⟨[.int .u8 ct, .int .u16 ((Z.ky i).idx), .int .u32 ((Z.ky i).gen), .int .u8 rt, .int .u64 bd], 49, false⟩)]) (φ := b59 = b59 ∧ Nat.ble (0 + 5) 5 = true) h62 rfl rfl rfl (by kernel_rfl) ⟨rfl, rfl⟩ fun w65 h66 => ?_
  clear h62
  refine nd_batch tabOk2 tabZ_ok2 [(9, {})] [8, 6, 3, 0, 1, 4, 5, 7, 53, 66, 9] (T' := [(8, .pointer (some ⟨b59, 0, none⟩)), (6, .pointer (some ⟨b14, 0, none⟩)), (3, .pointer (some ⟨b2, 0, none⟩)), (0, .pointer (some ⟨mb, 0, none⟩)), (1, .agg #[.int .u8 5, .int .u32 ev.pick, .int .u64 ev.draw, .int .u32 ev.addr, .int .u32 ev.node, .int .u32 ev.dst, .int .u32 ev.xfer, .int .u8 ev.ty, .int .u64 ev.arg, .int .u64 ev.badge, .slice xo ev.ws.length cx]), (4, .int .u8 0), (5, .bool false), (7, .pointer (some ⟨(Z.tp x), 0, none⟩)), (53, .int .u8 5), (66, .bool true), (9, .int .u8 0)]) (φ := True) (rest := []) h66 (by kernel_rfl) rfl trivial fun a67 h68 => ?_
  clear h66
  refine nd_done ?_
  refine hK50 _ _ ?_
  clear hK50
  refine wp_seq_k fun K69 hK69 => ?_
  refine wp_seq_k fun K70 hK70 => ?_
  refine nd_start (l := [0, 1]) rfl ?_
  refine nd_batch tabOk2 tabZ_ok2 [(0, {}), (1, {})] [8, 6, 3, 0, 1, 4, 5, 7, 53, 66, 9, 77] (T' := [(8, .pointer (some ⟨b59, 0, none⟩)), (6, .pointer (some ⟨b14, 0, none⟩)), (3, .pointer (some ⟨b2, 0, none⟩)), (0, .pointer (some ⟨mb, 0, none⟩)), (1, .agg #[.int .u8 5, .int .u32 ev.pick, .int .u64 ev.draw, .int .u32 ev.addr, .int .u32 ev.node, .int .u32 ev.dst, .int .u32 ev.xfer, .int .u8 ev.ty, .int .u64 ev.arg, .int .u64 ev.badge, .slice xo ev.ws.length cx]), (4, .int .u8 0), (5, .bool false), (7, .pointer (some ⟨(Z.tp x), 0, none⟩)), (53, .int .u8 5), (66, .bool true), (9, .int .u8 0), (77, .bool false)]) (φ := True) (rest := []) h68 (by kernel_rfl) rfl trivial fun a71 h72 => ?_
  clear h68
  refine nd_done ?_
  refine hK70 _ _ ?_
  clear hK70
  refine c_false h72 rfl ?_
  refine wp_skip ?_
  refine hK69 _ _ ?_
  clear hK69
  refine wp_seq_k fun K73 hK73 => ?_
  refine wp_seq_k fun K74 hK74 => ?_
  refine nd_start (l := [0, 1, 2, 3]) rfl ?_
  refine nd_batch tabOk2 tabZ_ok2 [(0, {}), (1, {k := 1}), (2, {}), (3, {})] [8, 6, 3, 0, 1, 4, 5, 7, 53, 66, 9, 82] (T' := [(8, .pointer (some ⟨b59, 0, none⟩)), (6, .pointer (some ⟨b14, 0, none⟩)), (3, .pointer (some ⟨b2, 0, none⟩)), (0, .pointer (some ⟨mb, 0, none⟩)), (1, .agg #[.int .u8 5, .int .u32 ev.pick, .int .u64 ev.draw, .int .u32 ev.addr, .int .u32 ev.node, .int .u32 ev.dst, .int .u32 ev.xfer, .int .u8 ev.ty, .int .u64 ev.arg, .int .u64 ev.badge, .slice xo ev.ws.length cx]), (4, .int .u8 0), (5, .bool false), (7, .pointer (some ⟨(Z.tp x), 0, none⟩)), (53, .int .u8 5), (66, .bool true), (9, .int .u8 0), (82, .bool (decide (((ev.ws.length : Nat) : Int) > 4)))]) (φ := (b2 = b2 ∧ Nat.ble (10 + 1) 11 = true) ∧ True) (rest := []) h72 (by kernel_rfl) rfl ⟨⟨rfl, rfl⟩, trivial⟩ fun a75 h76 => ?_
  clear h72
  refine nd_done ?_
  refine hK74 _ _ ?_
  clear hK74
  refine c_split h76 (b := decide (((ev.ws.length : Nat) : Int) > 4)) rfl (fun hc77 => ?_) (fun hc77 => ?_)
  ·
    have hc77f : ((ev.ws.length : Nat) : Int) > 4 := by simpa using hc77
    exact absurd (hwl) (by first | exact hc77f | (intro hz; exact hc77f hz) | omega | simp_all)
  ·
    have hc77f : ¬ ((ev.ws.length : Nat) : Int) > 4 := by simpa using hc77
    refine wp_skip ?_
    refine hK73 _ _ ?_
    clear hK73
    refine wp_seq_k fun K78 hK78 => ?_
    refine nd_start (l := [0, 1, 2, 3]) rfl ?_
    refine nd_batch tabOk2 tabZ_ok2 [(0, {}), (1, {}), (2, {k := 1})] [8, 6, 3, 0, 1, 4, 5, 7, 53, 66, 9, 83, 85] (T' := [(8, .pointer (some ⟨b59, 0, none⟩)), (6, .pointer (some ⟨b14, 0, none⟩)), (3, .pointer (some ⟨b2, 0, none⟩)), (0, .pointer (some ⟨mb, 0, none⟩)), (1, .agg #[.int .u8 5, .int .u32 ev.pick, .int .u64 ev.draw, .int .u32 ev.addr, .int .u32 ev.node, .int .u32 ev.dst, .int .u32 ev.xfer, .int .u8 ev.ty, .int .u64 ev.arg, .int .u64 ev.badge, .slice xo ev.ws.length cx]), (4, .int .u8 0), (5, .bool false), (7, .pointer (some ⟨(Z.tp x), 0, none⟩)), (53, .int .u8 5), (66, .bool true), (9, .int .u8 0), (83, .pointer (some ⟨(Z.tp x), 0, none⟩)), (85, .slice xo ev.ws.length cx)]) (φ := (b2 = b2 ∧ Nat.ble (10 + 1) 11 = true) ∧ True) (rest := [3]) h76 (by kernel_rfl) rfl ⟨⟨rfl, rfl⟩, trivial⟩ fun a79 h80 => ?_
    clear h76
    refine nd_op ?_
    refine op_call h80 rfl rfl rfl (callOk Tryd.func89 (by decide) rfl) (args := [.pointer (some ⟨(Z.tp x), 0, none⟩), .slice xo ev.ws.length cx]) rfl (setMsg_ok mb Z _ a _ x hx _ _ ev.ws (by omega) _ (mh_of h80 hhoh56 (k := 0) rfl) (words_now h80 hws)) ?_
    rintro _ w81 ⟨rfl, hg83⟩
    refine ⟨_, rfl, ?_⟩
    have h84a := st_mg h80 hg83 (kcons (fun _ => rfl) (kcons (fun hq => by cases hq) (kcons (fun hq => by cases hq) (kcons (fun hq => by cases hq) knil))))
    have h84 := h84a.put (d := some 86) (v := .tuple #[]) (T' := [(86, .tuple #[]), (8, .pointer (some ⟨b59, 0, none⟩)), (6, .pointer (some ⟨b14, 0, none⟩)), (3, .pointer (some ⟨b2, 0, none⟩)), (0, .pointer (some ⟨mb, 0, none⟩)), (1, .agg #[.int .u8 5, .int .u32 ev.pick, .int .u64 ev.draw, .int .u32 ev.addr, .int .u32 ev.node, .int .u32 ev.dst, .int .u32 ev.xfer, .int .u8 ev.ty, .int .u64 ev.arg, .int .u64 ev.badge, .slice xo ev.ws.length cx]), (4, .int .u8 0), (5, .bool false), (7, .pointer (some ⟨(Z.tp x), 0, none⟩)), (53, .int .u8 5), (66, .bool true), (9, .int .u8 0), (83, .pointer (some ⟨(Z.tp x), 0, none⟩)), (85, .slice xo ev.ws.length cx)]) rfl
    have hhoh84 := hg83.mh.ho
    obtain ⟨a85, ea85⟩ : ∃ z : AK, z = a.setT x (msgA (a.th x) ev.ws) := ⟨_, rfl⟩
    rw [← ea85] at h84
    have hcx86 : curR Z a85 = Z.ky x := by rw [ea85] <;> exact hcx
    clear h80 h84a
    have ht87 : a85.th x = (msgA (a.th x) ev.ws) := by rw [ea85]; exact (upd_same _ _ _).trans (by first | rfl | rw [rfl])
    have hP88 : MP Z a85 := by rw [ea85]; exact MP.msg hP
    refine nd_done ?_
    refine hK78 _ _ ?_
    clear hK78
    refine wp_seq_k fun K89 hK89 => ?_
    refine dr_start (KB := [3, b2, b14, b59]) (Bi := [[0, 1, 2, 3], [0, 1, 2, 3], [0, 1, 2, 3], [0, 1, 2, 3], [0, 1, 2, 3], [0, 1, 2, 3], [0, 1, 2, 3], [0, 1, 2, 3], [1], [0, 1, 2, 3], [0, 1, 2, 3], []]) mixed h84 fun w90 h91 => ?_
    clear h84
    refine dr_batch tabOk2 tabZ_ok2 (by repeat (first | with_reducible exact PF.body | with_reducible apply PF.inB | with_reducible apply PF.next)) [(0, {}), (1, {}), (2, {}), (3, {k := 3, p := 3}), (4, {}), (5, {k := 1, p := 1}), (6, {}), (7, {})] [8, 6, 3, 0, 1, 4, 5, 7, 53, 66, 9, 88, 90, 92, 94] (T' := [(8, .pointer (some ⟨b59, 0, none⟩)), (6, .pointer (some ⟨b14, 0, none⟩)), (3, .pointer (some ⟨b2, 0, none⟩)), (0, .pointer (some ⟨mb, 0, none⟩)), (1, .agg #[.int .u8 5, .int .u32 ev.pick, .int .u64 ev.draw, .int .u32 ev.addr, .int .u32 ev.node, .int .u32 ev.dst, .int .u32 ev.xfer, .int .u8 ev.ty, .int .u64 ev.arg, .int .u64 ev.badge, .slice xo ev.ws.length cx]), (4, .int .u8 0), (5, .bool false), (7, .pointer (some ⟨(Z.tp x), 0, none⟩)), (53, .int .u8 5), (66, .bool true), (9, .int .u8 0), (88, .pointer (some ⟨(Z.tp x), 0, none⟩)), (90, .int .u64 bd), (92, .int .u32 ev.xfer), (94, .pointer (some ⟨(Z.tp x), 8, none⟩))]) (φ := (b59 = b59 ∧ Nat.ble (4 + 1) 5 = true) ∧ (b2 = b2 ∧ Nat.ble (6 + 1) 11 = true) ∧ True) (fuel := 4) h91 (by kernel_rfl) rfl (by kernel_rfl) (by kernel_rfl) ⟨trivial, trivial, trivial, rfl, trivial, rfl, trivial, trivial, trivial⟩ ⟨⟨rfl, rfl⟩, ⟨rfl, rfl⟩, trivial⟩ fun a93 h94 => ?_
    clear h91
    refine wpAnyK_one (i := 8) (fuel := 3) (by kernel_rfl) ?_
    refine op_mTh (x := x) (off := 8) (v := .int .u64 bd) (y := { msgA (a.th x) ev.ws with badge := bd }) h94 rfl rfl rfl rfl rfl rfl rfl rfl rfl hx rfl (by rw [ht87]; rfl) (kcons (fun _ => rfl) (kcons (fun hq => by cases hq) (kcons (fun hq => by cases hq) (kcons (fun hq => by cases hq) knil)))) fun w95 hf96 h97 => ?_
    obtain ⟨a98, ea98⟩ : ∃ z : AK, z = a85.setT x { msgA (a.th x) ev.ws with badge := bd } := ⟨_, rfl⟩
    rw [← ea98] at h97
    have hcx99 : curR Z a98 = Z.ky x := by rw [ea98] <;> exact hcx86
    refine ⟨(keepCons (kpL h94 h97 (q := 1) (q' := 1) rfl rfl) keepNil), ?_⟩
    clear h94
    have ht100 : a98.th x = { msgA (a.th x) ev.ws with badge := bd } := by rw [ea98]; exact upd_same _ _ _
    have hP101 : MP Z a98 := by rw [ea98]; exact MP.like hP88 (by rw [ht87] <;> rfl) (by rw [ht87] <;> rfl) (by rw [ht87] <;> rfl)
    refine dr_batch tabOk2 tabZ_ok2 (by repeat (first | with_reducible exact PF.body | with_reducible apply PF.inB | with_reducible apply PF.next)) [(9, {}), (10, {})] [8, 6, 3, 0, 1, 4, 5, 7, 53, 66, 9, 92, 96] (T' := [(8, .pointer (some ⟨b59, 0, none⟩)), (6, .pointer (some ⟨b14, 0, none⟩)), (3, .pointer (some ⟨b2, 0, none⟩)), (0, .pointer (some ⟨mb, 0, none⟩)), (1, .agg #[.int .u8 5, .int .u32 ev.pick, .int .u64 ev.draw, .int .u32 ev.addr, .int .u32 ev.node, .int .u32 ev.dst, .int .u32 ev.xfer, .int .u8 ev.ty, .int .u64 ev.arg, .int .u64 ev.badge, .slice xo ev.ws.length cx]), (4, .int .u8 0), (5, .bool false), (7, .pointer (some ⟨(Z.tp x), 0, none⟩)), (53, .int .u8 5), (66, .bool true), (9, .int .u8 0), (92, .int .u32 ev.xfer), (96, .pointer (some ⟨(Z.tp x), 15, none⟩))]) (φ := True) (fuel := 1) h97 (by kernel_rfl) rfl (by kernel_rfl) (by kernel_rfl) ⟨trivial, trivial, trivial⟩ trivial fun a102 h103 => ?_
    clear h97
    refine wpAnyK_one (i := 11) (fuel := 0) (by kernel_rfl) ?_
    refine op_mTh (x := x) (off := 15) (v := .int .u32 ev.xfer) (y := { msgA (a.th x) ev.ws with badge := bd, xfer := ev.xfer }) h103 rfl rfl rfl rfl rfl rfl rfl rfl rfl hx rfl (by rw [ht100]; rfl) (kcons (fun _ => rfl) (kcons (fun hq => by cases hq) (kcons (fun hq => by cases hq) (kcons (fun hq => by cases hq) knil)))) fun w104 hf105 h106 => ?_
    obtain ⟨a107, ea107⟩ : ∃ z : AK, z = a98.setT x { msgA (a.th x) ev.ws with badge := bd, xfer := ev.xfer } := ⟨_, rfl⟩
    rw [← ea107] at h106
    have hcx108 : curR Z a107 = Z.ky x := by rw [ea107] <;> exact hcx99
    refine ⟨keepNil, ?_⟩
    clear h103
    have ht109 : a107.th x = { msgA (a.th x) ev.ws with badge := bd, xfer := ev.xfer } := by rw [ea107]; exact upd_same _ _ _
    have hP110 : MP Z a107 := by rw [ea107]; exact MP.like hP101 (by rw [ht100] <;> rfl) (by rw [ht100] <;> rfl) (by rw [ht100] <;> rfl)
    refine wpAnyK_done (by kernel_rfl) ?_ _
    refine hK89 _ _ ?_
    clear hK89
    refine wp_seq_k fun K111 hK111 => ?_
    refine dr_start (KB := [3, b2, b14, b59]) (Bi := [[0, 1, 2, 3], [0, 1, 2, 3], [0, 1, 2, 3], [0, 1, 2, 3], [0, 1, 2, 3], [0, 1, 2, 3], [0, 1, 2, 3], [0, 1, 2, 3], [0, 1, 2, 3], [0, 1, 2, 3], [0, 1, 2, 3], [1], [0, 1, 2, 3], [0, 1, 2, 3], []]) mixed h106 fun w112 h113 => ?_
    clear h106
    refine dr_batch tabOk2 tabZ_ok2 (by repeat (first | with_reducible exact PF.body | with_reducible apply PF.inB | with_reducible apply PF.next)) [(0, {}), (1, {}), (2, {}), (3, {k := 3, p := 3}), (4, {}), (5, {}), (6, {}), (7, {k := 1, p := 1}), (8, {}), (9, {}), (10, {})] [8, 6, 3, 0, 1, 4, 5, 7, 53, 66, 9, 98, 102, 105, 107] (T' := [(8, .pointer (some ⟨b59, 0, none⟩)), (6, .pointer (some ⟨b14, 0, none⟩)), (3, .pointer (some ⟨b2, 0, none⟩)), (0, .pointer (some ⟨mb, 0, none⟩)), (1, .agg #[.int .u8 5, .int .u32 ev.pick, .int .u64 ev.draw, .int .u32 ev.addr, .int .u32 ev.node, .int .u32 ev.dst, .int .u32 ev.xfer, .int .u8 ev.ty, .int .u64 ev.arg, .int .u64 ev.badge, .slice xo ev.ws.length cx]), (4, .int .u8 0), (5, .bool false), (7, .pointer (some ⟨(Z.tp x), 0, none⟩)), (53, .int .u8 5), (66, .bool true), (9, .int .u8 0), (98, .pointer (some ⟨(Z.tp x), 0, none⟩)), (102, .bool (bitI .and .u8 rt 4 != 0)), (105, .bool true), (107, .pointer (some ⟨(Z.tp x), 17, none⟩))]) (φ := (b59 = b59 ∧ Nat.ble (3 + 1) 5 = true) ∧ (b2 = b2 ∧ Nat.ble (0 + 1) 11 = true) ∧ True) (fuel := 4) h113 (by kernel_rfl) rfl (by kernel_rfl) (by kernel_rfl) ⟨trivial, trivial, trivial, rfl, trivial, trivial, trivial, rfl, trivial, trivial, trivial, trivial⟩ ⟨⟨rfl, rfl⟩, ⟨rfl, rfl⟩, trivial⟩ fun a115 h116 => ?_
    clear h113
    refine wpAnyK_one (i := 11) (fuel := 3) (by kernel_rfl) ?_
    refine op_mTh (x := x) (off := 17) (v := .bool (bitI .and .u8 rt 4 != 0)) (y := { msgA (a.th x) ev.ws with badge := bd, xfer := ev.xfer, grant := (bitI .and .u8 rt 4 != 0) }) h116 rfl rfl rfl rfl rfl rfl rfl rfl rfl hx rfl (by rw [ht109]; rfl) (kcons (fun _ => rfl) (kcons (fun hq => by cases hq) (kcons (fun hq => by cases hq) (kcons (fun hq => by cases hq) knil)))) fun w117 hf118 h119 => ?_
    obtain ⟨a120, ea120⟩ : ∃ z : AK, z = a107.setT x { msgA (a.th x) ev.ws with badge := bd, xfer := ev.xfer, grant := (bitI .and .u8 rt 4 != 0) } := ⟨_, rfl⟩
    rw [← ea120] at h119
    have hcx121 : curR Z a120 = Z.ky x := by rw [ea120] <;> exact hcx108
    refine ⟨(keepCons (kpL h116 h119 (q := 1) (q' := 1) rfl rfl) keepNil), ?_⟩
    clear h116
    have ht122 : a120.th x = { msgA (a.th x) ev.ws with badge := bd, xfer := ev.xfer, grant := (bitI .and .u8 rt 4 != 0) } := by rw [ea120]; exact upd_same _ _ _
    have hP123 : MP Z a120 := by rw [ea120]; exact MP.like hP110 (by rw [ht109] <;> rfl) (by rw [ht109] <;> rfl) (by rw [ht109] <;> rfl)
    refine dr_batch tabOk2 tabZ_ok2 (by repeat (first | with_reducible exact PF.body | with_reducible apply PF.inB | with_reducible apply PF.next)) [(12, {}), (13, {})] [8, 6, 3, 0, 1, 4, 5, 7, 53, 66, 9, 105, 109] (T' := [(8, .pointer (some ⟨b59, 0, none⟩)), (6, .pointer (some ⟨b14, 0, none⟩)), (3, .pointer (some ⟨b2, 0, none⟩)), (0, .pointer (some ⟨mb, 0, none⟩)), (1, .agg #[.int .u8 5, .int .u32 ev.pick, .int .u64 ev.draw, .int .u32 ev.addr, .int .u32 ev.node, .int .u32 ev.dst, .int .u32 ev.xfer, .int .u8 ev.ty, .int .u64 ev.arg, .int .u64 ev.badge, .slice xo ev.ws.length cx]), (4, .int .u8 0), (5, .bool false), (7, .pointer (some ⟨(Z.tp x), 0, none⟩)), (53, .int .u8 5), (66, .bool true), (9, .int .u8 0), (105, .bool true), (109, .pointer (some ⟨(Z.tp x), 18, none⟩))]) (φ := True) (fuel := 1) h119 (by kernel_rfl) rfl (by kernel_rfl) (by kernel_rfl) ⟨trivial, trivial, trivial⟩ trivial fun a124 h125 => ?_
    clear h119
    refine wpAnyK_one (i := 14) (fuel := 0) (by kernel_rfl) ?_
    refine op_mTh (x := x) (off := 18) (v := .bool true) (y := { msgA (a.th x) ev.ws with badge := bd, xfer := ev.xfer, grant := (bitI .and .u8 rt 4 != 0), call := true }) h125 rfl rfl rfl rfl rfl rfl rfl rfl rfl hx rfl (by rw [ht122]; rfl) (kcons (fun _ => rfl) (kcons (fun hq => by cases hq) (kcons (fun hq => by cases hq) (kcons (fun hq => by cases hq) knil)))) fun w126 hf127 h128 => ?_
    obtain ⟨a129, ea129⟩ : ∃ z : AK, z = a120.setT x { msgA (a.th x) ev.ws with badge := bd, xfer := ev.xfer, grant := (bitI .and .u8 rt 4 != 0), call := true } := ⟨_, rfl⟩
    rw [← ea129] at h128
    have hcx130 : curR Z a129 = Z.ky x := by rw [ea129] <;> exact hcx121
    refine ⟨keepNil, ?_⟩
    clear h125
    have ht131 : a129.th x = { msgA (a.th x) ev.ws with badge := bd, xfer := ev.xfer, grant := (bitI .and .u8 rt 4 != 0), call := true } := by rw [ea129]; exact upd_same _ _ _
    have hP132 : MP Z a129 := by rw [ea129]; exact MP.like hP123 (by rw [ht122] <;> rfl) (by rw [ht122] <;> rfl) (by rw [ht122] <;> rfl)
    refine wpAnyK_done (by kernel_rfl) ?_ _
    refine hK111 _ _ ?_
    clear hK111
    refine wp_seq_k fun K133 hK133 => ?_
    refine wp_seq_k fun K134 hK134 => ?_
    refine nd_start (l := [0, 1, 2, 3, 4, 5]) rfl ?_
    refine nd_batch tabOk2 tabZ_ok2 [(0, {}), (1, {}), (2, {k := 3})] [8, 6, 3, 0, 1, 4, 5, 7, 53, 66, 9, 110, 112] (T' := [(8, .pointer (some ⟨b59, 0, none⟩)), (6, .pointer (some ⟨b14, 0, none⟩)), (3, .pointer (some ⟨b2, 0, none⟩)), (0, .pointer (some ⟨mb, 0, none⟩)), (1, .agg #[.int .u8 5, .int .u32 ev.pick, .int .u64 ev.draw, .int .u32 ev.addr, .int .u32 ev.node, .int .u32 ev.dst, .int .u32 ev.xfer, .int .u8 ev.ty, .int .u64 ev.arg, .int .u64 ev.badge, .slice xo ev.ws.length cx]), (4, .int .u8 0), (5, .bool false), (7, .pointer (some ⟨(Z.tp x), 0, none⟩)), (53, .int .u8 5), (66, .bool true), (9, .int .u8 0), (110, .pointer (some ⟨mb, 0, none⟩)), (112, .agg #[.int .u16 ((Z.ky i).idx), .int .u32 ((Z.ky i).gen)])]) (φ := (b59 = b59 ∧ Nat.ble (1 + 2) 5 = true) ∧ True) (rest := [3, 4, 5]) h128 (by kernel_rfl) rfl ⟨⟨rfl, rfl⟩, trivial⟩ fun a135 h136 => ?_
    clear h128
    refine nd_op ?_
    have hA137 : a129 = a5 := by rw [h5]; subst ea129 ea120 ea107 ea98 ea85; simp only [setT_setT]
    have h138 := h136
    rw [hA137] at h138
    clear h136
    have ht139 : a5.th x = { msgA (a.th x) ev.ws with badge := bd, xfer := ev.xfer, grant := (bitI .and .u8 rt 4 != 0), call := true } := by rw [← hA137]; exact ht131
    have hP140 : MP Z a5 := by rw [← hA137]; exact hP132
    refine op_call h138 rfl rfl rfl (callOk Tryd.func88 (by decide) rfl) (args := [.pointer (some ⟨mb, 0, none⟩), .agg #[.int .u16 ((Z.ky i).idx), .int .u32 ((Z.ky i).gen)], .int .u8 4]) rfl (by have hf9 := first_ok mb Z _ a5 _ i hi 4 hP140 _ (mh_of h138 hhoh84 (k := 0) rfl); rw [hf5] at hf9; exact hf9) ?_
    rintro _ w141 ⟨rfl, hg143⟩
    refine ⟨_, rfl, ?_⟩
    have h144a := st_mg h138 hg143 (kcons (fun _ => rfl) (kcons (fun hq => by cases hq) (kcons (fun hq => by cases hq) (kcons (fun hq => by cases hq) knil))))
    have h144 := h144a.put (d := some 113) (v := .agg #[.int .u16 0, .int .u32 0]) (T' := [(113, .agg #[.int .u16 0, .int .u32 0]), (8, .pointer (some ⟨b59, 0, none⟩)), (6, .pointer (some ⟨b14, 0, none⟩)), (3, .pointer (some ⟨b2, 0, none⟩)), (0, .pointer (some ⟨mb, 0, none⟩)), (1, .agg #[.int .u8 5, .int .u32 ev.pick, .int .u64 ev.draw, .int .u32 ev.addr, .int .u32 ev.node, .int .u32 ev.dst, .int .u32 ev.xfer, .int .u8 ev.ty, .int .u64 ev.arg, .int .u64 ev.badge, .slice xo ev.ws.length cx]), (4, .int .u8 0), (5, .bool false), (7, .pointer (some ⟨(Z.tp x), 0, none⟩)), (53, .int .u8 5), (66, .bool true), (9, .int .u8 0), (110, .pointer (some ⟨mb, 0, none⟩)), (112, .agg #[.int .u16 ((Z.ky i).idx), .int .u32 ((Z.ky i).gen)])]) rfl
    have hhoh144 := hg143.mh.ho
    clear h138 h144a
    refine nd_op ?_
    refine op_new tabOk2 (cells := [.int .u16 0, .int .u32 0]) (ty := 39) (ln := none) (L1 := fun b145 => [(3, ⟨[.int .u16 0, .int .u32 0], ty3, true⟩), (b2, ⟨[.int .u8 5, .int .u32 ev.pick, .int .u64 ev.draw, .int .u32 ev.addr, .int .u32 ev.node, .int .u32 ev.dst, .int .u32 ev.xfer, .int .u8 ev.ty, .int .u64 ev.arg, .int .u64 ev.badge, .slice xo ev.ws.length cx], 35, false⟩), (b14, ⟨[.int .u16 ((Z.ky x).idx), .int .u32 ((Z.ky x).gen)], 39, false⟩), (b59, ⟨[.int .u8 ct, .int .u16 ((Z.ky i).idx), .int .u32 ((Z.ky i).gen), .int .u8 rt, .int .u64 bd], 49, false⟩), (b145, ⟨[.int .u16 0, .int .u32 0], 39, false⟩)]) h144 rfl rfl rfl rfl (by kernel_rfl) (fun _ => rfl) fun b145 w146 a147 h148 hf149 hn150 => ?_
    clear h144
    refine nd_op ?_
    refine op_store tabOk2 {k := 4} (L' := [(3, ⟨[.int .u16 0, .int .u32 0], ty3, true⟩), (b2, ⟨[.int .u8 5, .int .u32 ev.pick, .int .u64 ev.draw, .int .u32 ev.addr, .int .u32 ev.node, .int .u32 ev.dst, .int .u32 ev.xfer, .int .u8 ev.ty, .int .u64 ev.arg, .int .u64 ev.badge, .slice xo ev.ws.length cx], 35, false⟩), (b14, ⟨[.int .u16 ((Z.ky x).idx), .int .u32 ((Z.ky x).gen)], 39, false⟩), (b59, ⟨[.int .u8 ct, .int .u16 ((Z.ky i).idx), .int .u32 ((Z.ky i).gen), .int .u8 rt, .int .u64 bd], 49, false⟩), (b145, ⟨[.int .u16 0, .int .u32 0], 39, false⟩)]) (φ := b145 = b145 ∧ Nat.ble (0 + 2) 2 = true) h148 rfl rfl rfl (by kernel_rfl) ⟨rfl, rfl⟩ fun w151 h152 => ?_
    clear h148
    refine nd_done ?_
    refine hK134 _ _ ?_
    clear hK134
    refine wp_seq_k fun K153 hK153 => ?_
    refine nd_start (l := [0, 1, 2]) rfl ?_
    refine nd_batch tabOk2 tabZ_ok2 [(0, {k := 4}), (1, {k := 0}), (2, {f := 1})] [10, 8, 6, 3, 0, 1, 4, 5, 7, 53, 66, 9, 116] (T' := [(10, .pointer (some ⟨b145, 0, none⟩)), (8, .pointer (some ⟨b59, 0, none⟩)), (6, .pointer (some ⟨b14, 0, none⟩)), (3, .pointer (some ⟨b2, 0, none⟩)), (0, .pointer (some ⟨mb, 0, none⟩)), (1, .agg #[.int .u8 5, .int .u32 ev.pick, .int .u64 ev.draw, .int .u32 ev.addr, .int .u32 ev.node, .int .u32 ev.dst, .int .u32 ev.xfer, .int .u8 ev.ty, .int .u64 ev.arg, .int .u64 ev.badge, .slice xo ev.ws.length cx]), (4, .int .u8 0), (5, .bool false), (7, .pointer (some ⟨(Z.tp x), 0, none⟩)), (53, .int .u8 5), (66, .bool true), (9, .int .u8 0), (116, .bool false)]) (φ := (b145 = b145 ∧ Nat.ble (0 + 2) 2 = true) ∧ (3 = 3 ∧ Nat.ble (0 + 2) 2 = true) ∧ EqRun Tryd.prog 39 (.agg #[.int .u16 0, .int .u32 0]) (.agg #[.int .u16 0, .int .u32 0]) true ∧ True) (rest := []) h152 (by kernel_rfl) rfl ⟨⟨rfl, rfl⟩, ⟨rfl, rfl⟩, (by have hq := runRf (⟨0, 0⟩ : Rf) (⟨0, 0⟩ : Rf); rw [show decide ((⟨0, 0⟩ : Rf) = (⟨0, 0⟩ : Rf)) = true from decide_eq_true rfl] at hq; exact hq), trivial⟩ fun a154 h155 => ?_
    clear h152
    refine nd_done ?_
    refine hK153 _ _ ?_
    clear hK153
    refine c_false h155 rfl ?_
    refine nd_start (l := [0, 1, 2, 3, 4]) rfl ?_
    refine nd_batch tabOk2 tabZ_ok2 [(0, {}), (1, {k := 2}), (2, {}), (3, {k := 3})] [10, 8, 6, 3, 0, 1, 4, 5, 7, 53, 66, 9, 124, 125, 127] (T' := [(10, .pointer (some ⟨b145, 0, none⟩)), (8, .pointer (some ⟨b59, 0, none⟩)), (6, .pointer (some ⟨b14, 0, none⟩)), (3, .pointer (some ⟨b2, 0, none⟩)), (0, .pointer (some ⟨mb, 0, none⟩)), (1, .agg #[.int .u8 5, .int .u32 ev.pick, .int .u64 ev.draw, .int .u32 ev.addr, .int .u32 ev.node, .int .u32 ev.dst, .int .u32 ev.xfer, .int .u8 ev.ty, .int .u64 ev.arg, .int .u64 ev.badge, .slice xo ev.ws.length cx]), (4, .int .u8 0), (5, .bool false), (7, .pointer (some ⟨(Z.tp x), 0, none⟩)), (53, .int .u8 5), (66, .bool true), (9, .int .u8 0), (124, .pointer (some ⟨mb, 0, none⟩)), (125, .agg #[.int .u16 ((Z.ky x).idx), .int .u32 ((Z.ky x).gen)]), (127, .agg #[.int .u16 ((Z.ky i).idx), .int .u32 ((Z.ky i).gen)])]) (φ := (b14 = b14 ∧ Nat.ble (0 + 2) 2 = true) ∧ (b59 = b59 ∧ Nat.ble (1 + 2) 5 = true) ∧ True) (rest := [4]) h155 (by kernel_rfl) rfl ⟨⟨rfl, rfl⟩, ⟨rfl, rfl⟩, trivial⟩ fun a156 h157 => ?_
    clear h155
    refine nd_op ?_
    refine op_call h157 rfl rfl rfl (callOk Tryd.func92 (by decide) rfl) (args := [.pointer (some ⟨mb, 0, none⟩), .agg #[.int .u16 ((Z.ky x).idx), .int .u32 ((Z.ky x).gen)], .int .u8 3, .agg #[.int .u16 ((Z.ky i).idx), .int .u32 ((Z.ky i).gen)]]) rfl (queueUp_ok mb Z _ a5 _ x hx 3 (by decide) i hi hP140 _ (mh_of h157 hhoh144 (k := 0) rfl)) ?_
    rintro _ w158 ⟨rfl, R159, hg160⟩
    refine ⟨_, rfl, ?_⟩
    have h161a := st_mg h157 hg160 (kcons (fun _ => rfl) (kcons (fun hq => by cases hq) (kcons (fun hq => by cases hq) (kcons (fun hq => by cases hq) (kcons (fun hq => by cases hq) knil)))))
    have h161 := h161a.put (d := some 128) (v := .tuple #[]) (T' := [(128, .tuple #[]), (10, .pointer (some ⟨b145, 0, none⟩)), (8, .pointer (some ⟨b59, 0, none⟩)), (6, .pointer (some ⟨b14, 0, none⟩)), (3, .pointer (some ⟨b2, 0, none⟩)), (0, .pointer (some ⟨mb, 0, none⟩)), (1, .agg #[.int .u8 5, .int .u32 ev.pick, .int .u64 ev.draw, .int .u32 ev.addr, .int .u32 ev.node, .int .u32 ev.dst, .int .u32 ev.xfer, .int .u8 ev.ty, .int .u64 ev.arg, .int .u64 ev.badge, .slice xo ev.ws.length cx]), (4, .int .u8 0), (5, .bool false), (7, .pointer (some ⟨(Z.tp x), 0, none⟩)), (53, .int .u8 5), (66, .bool true), (9, .int .u8 0), (124, .pointer (some ⟨mb, 0, none⟩)), (125, .agg #[.int .u16 ((Z.ky x).idx), .int .u32 ((Z.ky x).gen)]), (127, .agg #[.int .u16 ((Z.ky i).idx), .int .u32 ((Z.ky i).gen)])]) rfl
    have hhoh161 := hg160.mh.ho
    obtain ⟨a162, ea162⟩ : ∃ z : AK, z = blockA a5 x 3 (Z.ky i) := ⟨_, rfl⟩
    rw [← ea162] at h161
    clear h157 h161a
    have ht163 : a162.th x = { msgA (a.th x) ev.ws with st := 3, wait := ⟨(Z.ky i).idx, (Z.ky i).gen⟩, badge := bd, xfer := ev.xfer, grant := (bitI .and .u8 rt 4 != 0), call := true } := by rw [ea162, block_th, ht139]
    refine nd_done ?_
    refine hK133 _ _ ?_
    clear hK133
    refine wp_seq_k fun K164 hK164 => ?_
    refine nd_start (l := [0, 1]) rfl ?_
    refine nd_batch tabOk2 tabZ_ok2 [(0, {}), (1, {})] [10, 8, 6, 3, 0, 1, 7, 53, 66, 9, 4, 5] (T' := [(10, .pointer (some ⟨b145, 0, none⟩)), (8, .pointer (some ⟨b59, 0, none⟩)), (6, .pointer (some ⟨b14, 0, none⟩)), (3, .pointer (some ⟨b2, 0, none⟩)), (0, .pointer (some ⟨mb, 0, none⟩)), (1, .agg #[.int .u8 5, .int .u32 ev.pick, .int .u64 ev.draw, .int .u32 ev.addr, .int .u32 ev.node, .int .u32 ev.dst, .int .u32 ev.xfer, .int .u8 ev.ty, .int .u64 ev.arg, .int .u64 ev.badge, .slice xo ev.ws.length cx]), (7, .pointer (some ⟨(Z.tp x), 0, none⟩)), (53, .int .u8 5), (66, .bool true), (9, .int .u8 0), (4, .int .u8 0), (5, .bool false)]) (φ := True) (rest := []) h161 (by kernel_rfl) rfl trivial fun a165 h166 => ?_
    clear h161
    refine nd_done ?_
    refine hK164 _ _ ?_
    clear hK164
    refine wp_ret ?_
    try simp only [Exit.then, Exit.inBlock]
    try rw [if_pos trivial]
    exact s_ret tabOk2 tabZ_ok2 h166 [(.tmp 4, {}), (.tmp 5, {})] (vs := [.int .u8 0, .bool false]) (φ := True) rfl (by kernel_rfl) trivial (by subst ea162; exact ⟨rfl, _, mg_end hH h166 hhoh161 rfl⟩)

theorem call5m (mb : Nat) (Z : MZ) (R : MR) (a : AK) (C : CP) (hI : MI Z a C) (x : Nat) (hx : x ∈ sl Z.tl) (hcu : a.cur = (x : Int)) (ev : Ev) (he : EvOk ev) (xo : Option Addr) (cx : Nat) (i : Nat) (hi : i ∈ sl Z.ql) (ct rt bd cs0 : Int) (hf : findA a C ev.addr 4 2 = (⟨ct, Z.ky i, rt, bd⟩, cs0, 0)) (hwl : ¬ (ev.ws.length : Int) > 4) (a5 : AK) (h5 : a5 = a.setT x { msgA (a.th x) ev.ws with badge := bd, xfer := ev.xfer, grant := (bitI .and .u8 rt 4 != 0), call := true }) (y : Nat) (hy : y ∈ sl Z.tl) (hxy : x ≠ y) (ho : oldestA a5 (Z.ky i) 4 = (y : Int)) (htx : TOk ((wakeA a5 y).th x)) (hty : TOk ((wakeA a5 y).th y)) (w : World) (hH : MH mb Z R a C w) (hws : WordsAt (mdF mb Z R C) w xo ev.ws) :
    Calls Tryd.prog 55 #[.pointer (some ⟨mb, 0, none⟩), .agg #[.int .u8 5, .int .u32 ev.pick, .int .u64 ev.draw, .int .u32 ev.addr, .int .u32 ev.node, .int .u32 ev.dst, .int .u32 ev.xfer, .int .u8 ev.ty, .int .u64 ev.arg, .int .u64 ev.badge, .slice xo ev.ws.length cx]] w fun e w' => e = .returned (.tuple #[.int .u8 0, .bool false]) ∧ ∃ R', MG mb Z R C w Z R' (passA Z (deliverA (wakeA a5 y) C x y).1 x y) ((deliverA (wakeA a5 y) C x y).2) w' := by
  have hP := hI.mp
  have hcx : curR Z a = Z.ky x := curR_of hcu
  have hcn : a.cur.toNat = x := by rw [hcu]; exact Int.toNat_natCast x
  have hci := (hI.tk x hx).ci
  have hf5 : firstR Z a5 i 4 = Z.ky y := by rw [firstR_old hH.md.k (hH.md.k.qx i hi), ho, if_neg (by omega), Int.toNat_natCast]
  obtain ⟨ty3, hg3⟩ := hH.g3
  have hho := hH.ho
  have hkk := hH.md.k
  refine enter (n := 628) (K := mdF mb Z R C) (A := MD (mdF mb Z R C) w.heap.size mb Z R a C) (F := mdF mb Z R C) (T := [(0, .pointer (some ⟨mb, 0, none⟩)), (1, .agg #[.int .u8 5, .int .u32 ev.pick, .int .u64 ev.draw, .int .u32 ev.addr, .int .u32 ev.node, .int .u32 ev.dst, .int .u32 ev.xfer, .int .u8 ev.ty, .int .u64 ev.arg, .int .u64 ev.badge, .slice xo ev.ws.length cx])]) (L := [(3, ⟨[.int .u16 0, .int .u32 0], ty3, true⟩)]) (args := [.pointer (some ⟨mb, 0, none⟩), .agg #[.int .u8 5, .int .u32 ev.pick, .int .u64 ev.draw, .int .u32 ev.addr, .int .u32 ev.node, .int .u32 ev.dst, .int .u32 ev.xfer, .int .u8 ev.ty, .int .u64 ev.arg, .int .u64 ev.badge, .slice xo ev.ws.length cx]]) Tryd.func55 rfl rfl rfl rfl (kcons hg3 knil) (by simp) (kcons (by intro hq; cases hq) knil) hH.mD MD.stable hH.md.low (kcons (by intro hq; cases hq) knil) ?_
  intro ac h
  refine wp_seq_k fun K1 hK1 => ?_
  refine nd_start (l := [0, 1, 2]) rfl ?_
  refine nd_op ?_
  refine op_new tabOk2 (cells := [.int .u8 5, .int .u32 ev.pick, .int .u64 ev.draw, .int .u32 ev.addr, .int .u32 ev.node, .int .u32 ev.dst, .int .u32 ev.xfer, .int .u8 ev.ty, .int .u64 ev.arg, .int .u64 ev.badge, .slice xo ev.ws.length cx]) (ty := 35) (ln := none) (L1 := fun b2 => [(3, ⟨[.int .u16 0, .int .u32 0], ty3, true⟩), (b2, ⟨[.int .u8 5, .int .u32 ev.pick, .int .u64 ev.draw, .int .u32 ev.addr, .int .u32 ev.node, .int .u32 ev.dst, .int .u32 ev.xfer, .int .u8 ev.ty, .int .u64 ev.arg, .int .u64 ev.badge, .slice xo ev.ws.length cx], 35, false⟩)]) h rfl rfl rfl rfl (by kernel_rfl) (fun _ => rfl) fun b2 w3 a4 h5 hf6 hn7 => ?_
  clear h
  refine nd_batch tabOk2 tabZ_ok2 [(1, {}), (2, {})] [3, 0, 1, 4, 5] (T' := [(3, .pointer (some ⟨b2, 0, none⟩)), (0, .pointer (some ⟨mb, 0, none⟩)), (1, .agg #[.int .u8 5, .int .u32 ev.pick, .int .u64 ev.draw, .int .u32 ev.addr, .int .u32 ev.node, .int .u32 ev.dst, .int .u32 ev.xfer, .int .u8 ev.ty, .int .u64 ev.arg, .int .u64 ev.badge, .slice xo ev.ws.length cx]), (4, .int .u8 0), (5, .bool false)]) (φ := True) (rest := []) h5 (by kernel_rfl) rfl trivial fun a8 h9 => ?_
  clear h5
  refine nd_done ?_
  refine hK1 _ _ ?_
  clear hK1
  refine wp_seq_k fun K10 hK10 => ?_
  refine nd_start (l := [0, 1, 2, 3, 4, 5]) rfl ?_
  refine nd_batch tabOk2 tabZ_ok2 [(0, {}), (1, {}), (2, {})] [3, 0, 1, 4, 5, 44] (T' := [(3, .pointer (some ⟨b2, 0, none⟩)), (0, .pointer (some ⟨mb, 0, none⟩)), (1, .agg #[.int .u8 5, .int .u32 ev.pick, .int .u64 ev.draw, .int .u32 ev.addr, .int .u32 ev.node, .int .u32 ev.dst, .int .u32 ev.xfer, .int .u8 ev.ty, .int .u64 ev.arg, .int .u64 ev.badge, .slice xo ev.ws.length cx]), (4, .int .u8 0), (5, .bool false), (44, .pointer (some ⟨mb, 13, none⟩))]) (φ := True) (rest := [3, 4, 5]) h9 (by kernel_rfl) rfl trivial fun a11 h12 => ?_
  clear h9
  refine nd_op ?_
  refine op_read (b := mb) (v := .agg #[.int .u16 ((Z.ky x).idx), .int .u32 ((Z.ky x).gen)]) h12 rfl rfl (rd_mA h12 (k := 13) (vs := [.int .u16 ((Z.ky x).idx), .int .u32 ((Z.ky x).gen)]) rfl rfl rfl rfl rfl (by rw [← hcx]; exact md_cur)) ?_
  have h13 := h12.put (d := some 45) (v := .agg #[.int .u16 ((Z.ky x).idx), .int .u32 ((Z.ky x).gen)]) (T' := [(45, .agg #[.int .u16 ((Z.ky x).idx), .int .u32 ((Z.ky x).gen)]), (3, .pointer (some ⟨b2, 0, none⟩)), (0, .pointer (some ⟨mb, 0, none⟩)), (1, .agg #[.int .u8 5, .int .u32 ev.pick, .int .u64 ev.draw, .int .u32 ev.addr, .int .u32 ev.node, .int .u32 ev.dst, .int .u32 ev.xfer, .int .u8 ev.ty, .int .u64 ev.arg, .int .u64 ev.badge, .slice xo ev.ws.length cx]), (4, .int .u8 0), (5, .bool false), (44, .pointer (some ⟨mb, 13, none⟩))]) rfl
  clear h12
  refine nd_op ?_
  refine op_new tabOk2 (cells := [.int .u16 0, .int .u32 0]) (ty := 39) (ln := none) (L1 := fun b14 => [(3, ⟨[.int .u16 0, .int .u32 0], ty3, true⟩), (b2, ⟨[.int .u8 5, .int .u32 ev.pick, .int .u64 ev.draw, .int .u32 ev.addr, .int .u32 ev.node, .int .u32 ev.dst, .int .u32 ev.xfer, .int .u8 ev.ty, .int .u64 ev.arg, .int .u64 ev.badge, .slice xo ev.ws.length cx], 35, false⟩), (b14, ⟨[.int .u16 0, .int .u32 0], 39, false⟩)]) h13 rfl rfl rfl rfl (by kernel_rfl) (fun _ => rfl) fun b14 w15 a16 h17 hf18 hn19 => ?_
  clear h13
  refine nd_op ?_
  refine op_store tabOk2 {k := 2} (L' := [(3, ⟨[.int .u16 0, .int .u32 0], ty3, true⟩), (b2, ⟨[.int .u8 5, .int .u32 ev.pick, .int .u64 ev.draw, .int .u32 ev.addr, .int .u32 ev.node, .int .u32 ev.dst, .int .u32 ev.xfer, .int .u8 ev.ty, .int .u64 ev.arg, .int .u64 ev.badge, .slice xo ev.ws.length cx], 35, false⟩), (b14, ⟨[.int .u16 ((Z.ky x).idx), .int .u32 ((Z.ky x).gen)], 39, false⟩)]) (φ := b14 = b14 ∧ Nat.ble (0 + 2) 2 = true) h17 rfl rfl rfl (by kernel_rfl) ⟨rfl, rfl⟩ fun w20 h21 => ?_
  clear h17
  refine nd_done ?_
  refine hK10 _ _ ?_
  clear hK10
  refine wp_seq_k fun K22 hK22 => ?_
  refine dr_start (KB := [3, b2, b14, mb, Z.tb]) (Bi := [[0, 1, 2, 3, 4], [0, 1, 2, 3, 4], [0, 1, 2, 3, 4], [0, 1, 2, 3, 4], [0, 1, 2, 3, 4], [0, 1, 2, 3, 4], [0, 1, 2, 3, 4]]) mixed h21 fun w23 h24 => ?_
  clear h21
  refine dr_batch tabOk2 tabZ_ok2 (by repeat (first | with_reducible exact PF.body | with_reducible apply PF.inB | with_reducible apply PF.next)) [(0, {}), (1, {}), (2, {})] [6, 3, 0, 1, 4, 5, 48] (T' := [(6, .pointer (some ⟨b14, 0, none⟩)), (3, .pointer (some ⟨b2, 0, none⟩)), (0, .pointer (some ⟨mb, 0, none⟩)), (1, .agg #[.int .u8 5, .int .u32 ev.pick, .int .u64 ev.draw, .int .u32 ev.addr, .int .u32 ev.node, .int .u32 ev.dst, .int .u32 ev.xfer, .int .u8 ev.ty, .int .u64 ev.arg, .int .u64 ev.badge, .slice xo ev.ws.length cx]), (4, .int .u8 0), (5, .bool false), (48, .pointer (some ⟨mb, 2, none⟩))]) (φ := True) (fuel := 4) h24 (by kernel_rfl) rfl (by kernel_rfl) (by kernel_rfl) ⟨trivial, trivial, trivial, trivial⟩ trivial fun a26 h27 => ?_
  clear h24
  refine dr_read (i := 3) (b := mb) (p := 3) (v := .map (some Z.tb)) (fuel := 3) (by repeat (first | with_reducible exact PF.body | with_reducible apply PF.inB | with_reducible apply PF.next)) h27 rfl rfl rfl (by kernel_rfl) (by kernel_rfl) (by kernel_rfl) rfl (rd_m h27 (k := 2) (v := .map (some Z.tb)) rfl rfl rfl rfl (md_p ⟨rfl, trivial⟩)) ?_
  have h28 := h27.put (d := some 49) (v := .map (some Z.tb)) (T' := [(49, .map (some Z.tb)), (6, .pointer (some ⟨b14, 0, none⟩)), (3, .pointer (some ⟨b2, 0, none⟩)), (0, .pointer (some ⟨mb, 0, none⟩)), (1, .agg #[.int .u8 5, .int .u32 ev.pick, .int .u64 ev.draw, .int .u32 ev.addr, .int .u32 ev.node, .int .u32 ev.dst, .int .u32 ev.xfer, .int .u8 ev.ty, .int .u64 ev.arg, .int .u64 ev.badge, .slice xo ev.ws.length cx]), (4, .int .u8 0), (5, .bool false), (48, .pointer (some ⟨mb, 2, none⟩))]) rfl
  clear h27
  refine dr_batch tabOk2 tabZ_ok2 (by repeat (first | with_reducible exact PF.body | with_reducible apply PF.inB | with_reducible apply PF.next)) [(4, {k := 2, p := 2})] [49, 6, 3, 0, 1, 4, 5, 50] (T' := [(49, .map (some Z.tb)), (6, .pointer (some ⟨b14, 0, none⟩)), (3, .pointer (some ⟨b2, 0, none⟩)), (0, .pointer (some ⟨mb, 0, none⟩)), (1, .agg #[.int .u8 5, .int .u32 ev.pick, .int .u64 ev.draw, .int .u32 ev.addr, .int .u32 ev.node, .int .u32 ev.dst, .int .u32 ev.xfer, .int .u8 ev.ty, .int .u64 ev.arg, .int .u64 ev.badge, .slice xo ev.ws.length cx]), (4, .int .u8 0), (5, .bool false), (50, .agg #[.int .u16 ((Z.ky x).idx), .int .u32 ((Z.ky x).gen)])]) (φ := (b14 = b14 ∧ Nat.ble (0 + 2) 2 = true) ∧ True) (fuel := 2) h28 (by kernel_rfl) rfl (by kernel_rfl) (by kernel_rfl) ⟨rfl, trivial⟩ ⟨⟨rfl, rfl⟩, trivial⟩ fun a29 h30 => ?_
  clear h28
  refine dr_read (i := 5) (b := Z.tb) (p := 4) (v := .pointer (some ⟨(Z.tp x), 0, none⟩)) (fuel := 1) (by repeat (first | with_reducible exact PF.body | with_reducible apply PF.inB | with_reducible apply PF.next)) h30 rfl rfl rfl (by kernel_rfl) (by kernel_rfl) (by kernel_rfl) rfl (rd_T h30 (x := x) hx rfl rfl rfl) ?_
  have h31 := h30.put (d := some 51) (v := .pointer (some ⟨(Z.tp x), 0, none⟩)) (T' := [(51, .pointer (some ⟨(Z.tp x), 0, none⟩)), (49, .map (some Z.tb)), (6, .pointer (some ⟨b14, 0, none⟩)), (3, .pointer (some ⟨b2, 0, none⟩)), (0, .pointer (some ⟨mb, 0, none⟩)), (1, .agg #[.int .u8 5, .int .u32 ev.pick, .int .u64 ev.draw, .int .u32 ev.addr, .int .u32 ev.node, .int .u32 ev.dst, .int .u32 ev.xfer, .int .u8 ev.ty, .int .u64 ev.arg, .int .u64 ev.badge, .slice xo ev.ws.length cx]), (4, .int .u8 0), (5, .bool false), (50, .agg #[.int .u16 ((Z.ky x).idx), .int .u32 ((Z.ky x).gen)])]) rfl
  clear h30
  refine dr_batch tabOk2 tabZ_ok2 (by repeat (first | with_reducible exact PF.body | with_reducible apply PF.inB | with_reducible apply PF.next)) [(6, {})] [6, 3, 0, 1, 4, 5, 7] (T' := [(6, .pointer (some ⟨b14, 0, none⟩)), (3, .pointer (some ⟨b2, 0, none⟩)), (0, .pointer (some ⟨mb, 0, none⟩)), (1, .agg #[.int .u8 5, .int .u32 ev.pick, .int .u64 ev.draw, .int .u32 ev.addr, .int .u32 ev.node, .int .u32 ev.dst, .int .u32 ev.xfer, .int .u8 ev.ty, .int .u64 ev.arg, .int .u64 ev.badge, .slice xo ev.ws.length cx]), (4, .int .u8 0), (5, .bool false), (7, .pointer (some ⟨(Z.tp x), 0, none⟩))]) (φ := True) (fuel := 0) h31 (by kernel_rfl) rfl (by kernel_rfl) (by kernel_rfl) ⟨trivial, trivial⟩ trivial fun a32 h33 => ?_
  clear h31
  refine wpAnyK_done (by kernel_rfl) ?_ _
  refine hK22 _ _ ?_
  clear hK22
  refine wp_seq_k fun K34 hK34 => ?_
  refine wp_seq_k fun K35 hK35 => ?_
  refine nd_start (l := [0, 1]) rfl ?_
  refine nd_batch tabOk2 tabZ_ok2 [(0, {}), (1, {k := 1})] [6, 3, 0, 1, 4, 5, 7, 53] (T' := [(6, .pointer (some ⟨b14, 0, none⟩)), (3, .pointer (some ⟨b2, 0, none⟩)), (0, .pointer (some ⟨mb, 0, none⟩)), (1, .agg #[.int .u8 5, .int .u32 ev.pick, .int .u64 ev.draw, .int .u32 ev.addr, .int .u32 ev.node, .int .u32 ev.dst, .int .u32 ev.xfer, .int .u8 ev.ty, .int .u64 ev.arg, .int .u64 ev.badge, .slice xo ev.ws.length cx]), (4, .int .u8 0), (5, .bool false), (7, .pointer (some ⟨(Z.tp x), 0, none⟩)), (53, .int .u8 5)]) (φ := (b2 = b2 ∧ Nat.ble (0 + 1) 11 = true) ∧ True) (rest := []) h33 (by kernel_rfl) rfl ⟨⟨rfl, rfl⟩, trivial⟩ fun a36 h37 => ?_
  clear h33
  refine nd_done ?_
  refine hK35 _ _ ?_
  clear hK35
  refine wp_block ?_
  refine wp_seq_k fun K38 hK38 => ?_
  refine nd_start (l := [0, 1]) rfl ?_
  refine nd_batch tabOk2 tabZ_ok2 [(0, {}), (1, {})] [6, 3, 0, 1, 4, 5, 7, 53, 54] (T' := [(6, .pointer (some ⟨b14, 0, none⟩)), (3, .pointer (some ⟨b2, 0, none⟩)), (0, .pointer (some ⟨mb, 0, none⟩)), (1, .agg #[.int .u8 5, .int .u32 ev.pick, .int .u64 ev.draw, .int .u32 ev.addr, .int .u32 ev.node, .int .u32 ev.dst, .int .u32 ev.xfer, .int .u8 ev.ty, .int .u64 ev.arg, .int .u64 ev.badge, .slice xo ev.ws.length cx]), (4, .int .u8 0), (5, .bool false), (7, .pointer (some ⟨(Z.tp x), 0, none⟩)), (53, .int .u8 5), (54, .bool false)]) (φ := True) (rest := []) h37 (by kernel_rfl) rfl trivial fun a39 h40 => ?_
  clear h37
  refine nd_done ?_
  refine hK38 _ _ ?_
  clear hK38
  refine c_false h40 rfl ?_
  refine wp_seq_k fun K41 hK41 => ?_
  refine nd_start (l := [0, 1]) rfl ?_
  refine nd_batch tabOk2 tabZ_ok2 [(0, {}), (1, {})] [6, 3, 0, 1, 4, 5, 7, 53, 59] (T' := [(6, .pointer (some ⟨b14, 0, none⟩)), (3, .pointer (some ⟨b2, 0, none⟩)), (0, .pointer (some ⟨mb, 0, none⟩)), (1, .agg #[.int .u8 5, .int .u32 ev.pick, .int .u64 ev.draw, .int .u32 ev.addr, .int .u32 ev.node, .int .u32 ev.dst, .int .u32 ev.xfer, .int .u8 ev.ty, .int .u64 ev.arg, .int .u64 ev.badge, .slice xo ev.ws.length cx]), (4, .int .u8 0), (5, .bool false), (7, .pointer (some ⟨(Z.tp x), 0, none⟩)), (53, .int .u8 5), (59, .bool false)]) (φ := True) (rest := []) h40 (by kernel_rfl) rfl trivial fun a42 h43 => ?_
  clear h40
  refine nd_done ?_
  refine hK41 _ _ ?_
  clear hK41
  refine c_false h43 rfl ?_
  refine wp_seq_k fun K44 hK44 => ?_
  refine wp_seq_k fun K45 hK45 => ?_
  refine nd_start (l := [0, 1]) rfl ?_
  refine nd_batch tabOk2 tabZ_ok2 [(0, {}), (1, {})] [6, 3, 0, 1, 4, 5, 7, 53, 66] (T' := [(6, .pointer (some ⟨b14, 0, none⟩)), (3, .pointer (some ⟨b2, 0, none⟩)), (0, .pointer (some ⟨mb, 0, none⟩)), (1, .agg #[.int .u8 5, .int .u32 ev.pick, .int .u64 ev.draw, .int .u32 ev.addr, .int .u32 ev.node, .int .u32 ev.dst, .int .u32 ev.xfer, .int .u8 ev.ty, .int .u64 ev.arg, .int .u64 ev.badge, .slice xo ev.ws.length cx]), (4, .int .u8 0), (5, .bool false), (7, .pointer (some ⟨(Z.tp x), 0, none⟩)), (53, .int .u8 5), (66, .bool false)]) (φ := True) (rest := []) h43 (by kernel_rfl) rfl trivial fun a46 h47 => ?_
  clear h43
  refine nd_done ?_
  refine hK45 _ _ ?_
  clear hK45
  refine c_false h47 rfl ?_
  refine nd_start (l := [0, 1]) rfl ?_
  refine nd_batch tabOk2 tabZ_ok2 [(0, {}), (1, {})] [6, 3, 0, 1, 4, 5, 7, 53, 66] (T' := [(6, .pointer (some ⟨b14, 0, none⟩)), (3, .pointer (some ⟨b2, 0, none⟩)), (0, .pointer (some ⟨mb, 0, none⟩)), (1, .agg #[.int .u8 5, .int .u32 ev.pick, .int .u64 ev.draw, .int .u32 ev.addr, .int .u32 ev.node, .int .u32 ev.dst, .int .u32 ev.xfer, .int .u8 ev.ty, .int .u64 ev.arg, .int .u64 ev.badge, .slice xo ev.ws.length cx]), (4, .int .u8 0), (5, .bool false), (7, .pointer (some ⟨(Z.tp x), 0, none⟩)), (53, .int .u8 5), (66, .bool true)]) (φ := True) (rest := []) h47 (by kernel_rfl) rfl trivial fun a48 h49 => ?_
  clear h47
  refine nd_done ?_
  refine hK44 _ _ ?_
  clear hK44
  refine c_true h49 rfl ?_
  refine wp_seq_k fun K50 hK50 => ?_
  refine nd_start (l := [0, 1, 2, 3, 4, 5, 6, 7, 8, 9]) rfl ?_
  refine nd_batch tabOk2 tabZ_ok2 [(0, {}), (1, {}), (2, {k := 1})] [6, 3, 0, 1, 4, 5, 7, 53, 66, 70, 72] (T' := [(6, .pointer (some ⟨b14, 0, none⟩)), (3, .pointer (some ⟨b2, 0, none⟩)), (0, .pointer (some ⟨mb, 0, none⟩)), (1, .agg #[.int .u8 5, .int .u32 ev.pick, .int .u64 ev.draw, .int .u32 ev.addr, .int .u32 ev.node, .int .u32 ev.dst, .int .u32 ev.xfer, .int .u8 ev.ty, .int .u64 ev.arg, .int .u64 ev.badge, .slice xo ev.ws.length cx]), (4, .int .u8 0), (5, .bool false), (7, .pointer (some ⟨(Z.tp x), 0, none⟩)), (53, .int .u8 5), (66, .bool true), (70, .pointer (some ⟨mb, 0, none⟩)), (72, .int .u32 ev.addr)]) (φ := (b2 = b2 ∧ Nat.ble (3 + 1) 11 = true) ∧ True) (rest := [3, 4, 5, 6, 7, 8, 9]) h49 (by kernel_rfl) rfl ⟨⟨rfl, rfl⟩, trivial⟩ fun a51 h52 => ?_
  clear h49
  refine nd_op ?_
  refine op_call h52 rfl rfl rfl (callOk Tryd.func90 (by decide) rfl) (args := [.pointer (some ⟨mb, 0, none⟩), .int .u32 ev.addr, .int .u8 4, .int .u8 2]) rfl (capOf_ok mb Z _ a C x hx hcx hci hcn hI.ci ev.addr 4 2 he.addr _ (mh_of h52 hho (k := 0) rfl) hf) ?_
  rintro _ w53 ⟨rfl, hg55⟩
  refine ⟨_, rfl, ?_⟩
  have h56a := st_mg h52 hg55 (kcons (fun _ => rfl) (kcons (fun hq => by cases hq) (kcons (fun hq => by cases hq) knil)))
  have h56 := h56a.put (d := some 73) (v := .tuple #[.agg #[.int .u8 ct, .int .u16 ((Z.ky i).idx), .int .u32 ((Z.ky i).gen), .int .u8 rt, .int .u64 bd], .int .u8 0]) (T' := [(73, .tuple #[.agg #[.int .u8 ct, .int .u16 ((Z.ky i).idx), .int .u32 ((Z.ky i).gen), .int .u8 rt, .int .u64 bd], .int .u8 0]), (6, .pointer (some ⟨b14, 0, none⟩)), (3, .pointer (some ⟨b2, 0, none⟩)), (0, .pointer (some ⟨mb, 0, none⟩)), (1, .agg #[.int .u8 5, .int .u32 ev.pick, .int .u64 ev.draw, .int .u32 ev.addr, .int .u32 ev.node, .int .u32 ev.dst, .int .u32 ev.xfer, .int .u8 ev.ty, .int .u64 ev.arg, .int .u64 ev.badge, .slice xo ev.ws.length cx]), (4, .int .u8 0), (5, .bool false), (7, .pointer (some ⟨(Z.tp x), 0, none⟩)), (53, .int .u8 5), (66, .bool true), (70, .pointer (some ⟨mb, 0, none⟩)), (72, .int .u32 ev.addr)]) rfl
  have hhoh56 := hg55.mh.ho
  clear h52 h56a
  refine nd_batch tabOk2 tabZ_ok2 [(4, {}), (5, {}), (6, {})] [6, 3, 0, 1, 4, 5, 7, 53, 66, 74, 75] (T' := [(6, .pointer (some ⟨b14, 0, none⟩)), (3, .pointer (some ⟨b2, 0, none⟩)), (0, .pointer (some ⟨mb, 0, none⟩)), (1, .agg #[.int .u8 5, .int .u32 ev.pick, .int .u64 ev.draw, .int .u32 ev.addr, .int .u32 ev.node, .int .u32 ev.dst, .int .u32 ev.xfer, .int .u8 ev.ty, .int .u64 ev.arg, .int .u64 ev.badge, .slice xo ev.ws.length cx]), (4, .int .u8 0), (5, .bool false), (7, .pointer (some ⟨(Z.tp x), 0, none⟩)), (53, .int .u8 5), (66, .bool true), (74, .agg #[.int .u8 ct, .int .u16 ((Z.ky i).idx), .int .u32 ((Z.ky i).gen), .int .u8 rt, .int .u64 bd]), (75, .int .u8 0)]) (φ := True) (rest := [7, 8, 9]) h56 (by kernel_rfl) rfl trivial fun a57 h58 => ?_
  clear h56
  refine nd_op ?_
  refine op_new tabOk2 (cells := [.int .u8 0, .int .u16 0, .int .u32 0, .int .u8 0, .int .u64 0]) (ty := 49) (ln := none) (L1 := fun b59 => [(3, ⟨[.int .u16 0, .int .u32 0], ty3, true⟩), (b2, ⟨[.int .u8 5, .int .u32 ev.pick, .int .u64 ev.draw, .int .u32 ev.addr, .int .u32 ev.node, .int .u32 ev.dst, .int .u32 ev.xfer, .int .u8 ev.ty, .int .u64 ev.arg, .int .u64 ev.badge, .slice xo ev.ws.length cx], 35, false⟩), (b14, ⟨[.int .u16 ((Z.ky x).idx), .int .u32 ((Z.ky x).gen)], 39, false⟩), (b59, ⟨[.int .u8 0, .int .u16 0, .int .u32 0, .int .u8 0, .int .u64 0], 49, false⟩)]) h58 rfl rfl rfl rfl (by kernel_rfl) (fun _ => rfl) fun b59 w60 a61 h62 hf63 hn64 => ?_
  clear h58
  refine nd_op ?_
  refine op_store tabOk2 {k := 3} (L' := [(3, ⟨[.int .u16 0, .int .u32 0], ty3, true⟩), (b2, ⟨[.int .u8 5, .int .u32 ev.pick, .int .u64 ev.draw, .int .u32 ev.addr, .int .u32 ev.node, .int .u32 ev.dst, .int .u32 ev.xfer, .int .u8 ev.ty, .int .u64 ev.arg, .int .u64 ev.badge, .slice xo ev.ws.length cx], 35, false⟩), (b14, ⟨[.int .u16 ((Z.ky x).idx), .int .u32 ((Z.ky x).gen)], 39, false⟩), (b59, ⟨[.int .u8 ct, .int .u16 ((Z.ky i).idx), .int .u32 ((Z.ky i).gen), .int .u8 rt, .int .u64 bd], 49, false⟩)]) (φ := b59 = b59 ∧ Nat.ble (0 + 5) 5 = true) h62 rfl rfl rfl (by kernel_rfl) ⟨rfl, rfl⟩ fun w65 h66 => ?_
  clear h62
  refine nd_batch tabOk2 tabZ_ok2 [(9, {})] [8, 6, 3, 0, 1, 4, 5, 7, 53, 66, 9] (T' := [(8, .pointer (some ⟨b59, 0, none⟩)), (6, .pointer (some ⟨b14, 0, none⟩)), (3, .pointer (some ⟨b2, 0, none⟩)), (0, .pointer (some ⟨mb, 0, none⟩)), (1, .agg #[.int .u8 5, .int .u32 ev.pick, .int .u64 ev.draw, .int .u32 ev.addr, .int .u32 ev.node, .int .u32 ev.dst, .int .u32 ev.xfer, .int .u8 ev.ty, .int .u64 ev.arg, .int .u64 ev.badge, .slice xo ev.ws.length cx]), (4, .int .u8 0), (5, .bool false), (7, .pointer (some ⟨(Z.tp x), 0, none⟩)), (53, .int .u8 5), (66, .bool true), (9, .int .u8 0)]) (φ := True) (rest := []) h66 (by kernel_rfl) rfl trivial fun a67 h68 => ?_
  clear h66
  refine nd_done ?_
  refine hK50 _ _ ?_
  clear hK50
  refine wp_seq_k fun K69 hK69 => ?_
  refine wp_seq_k fun K70 hK70 => ?_
  refine nd_start (l := [0, 1]) rfl ?_
  refine nd_batch tabOk2 tabZ_ok2 [(0, {}), (1, {})] [8, 6, 3, 0, 1, 4, 5, 7, 53, 66, 9, 77] (T' := [(8, .pointer (some ⟨b59, 0, none⟩)), (6, .pointer (some ⟨b14, 0, none⟩)), (3, .pointer (some ⟨b2, 0, none⟩)), (0, .pointer (some ⟨mb, 0, none⟩)), (1, .agg #[.int .u8 5, .int .u32 ev.pick, .int .u64 ev.draw, .int .u32 ev.addr, .int .u32 ev.node, .int .u32 ev.dst, .int .u32 ev.xfer, .int .u8 ev.ty, .int .u64 ev.arg, .int .u64 ev.badge, .slice xo ev.ws.length cx]), (4, .int .u8 0), (5, .bool false), (7, .pointer (some ⟨(Z.tp x), 0, none⟩)), (53, .int .u8 5), (66, .bool true), (9, .int .u8 0), (77, .bool false)]) (φ := True) (rest := []) h68 (by kernel_rfl) rfl trivial fun a71 h72 => ?_
  clear h68
  refine nd_done ?_
  refine hK70 _ _ ?_
  clear hK70
  refine c_false h72 rfl ?_
  refine wp_skip ?_
  refine hK69 _ _ ?_
  clear hK69
  refine wp_seq_k fun K73 hK73 => ?_
  refine wp_seq_k fun K74 hK74 => ?_
  refine nd_start (l := [0, 1, 2, 3]) rfl ?_
  refine nd_batch tabOk2 tabZ_ok2 [(0, {}), (1, {k := 1}), (2, {}), (3, {})] [8, 6, 3, 0, 1, 4, 5, 7, 53, 66, 9, 82] (T' := [(8, .pointer (some ⟨b59, 0, none⟩)), (6, .pointer (some ⟨b14, 0, none⟩)), (3, .pointer (some ⟨b2, 0, none⟩)), (0, .pointer (some ⟨mb, 0, none⟩)), (1, .agg #[.int .u8 5, .int .u32 ev.pick, .int .u64 ev.draw, .int .u32 ev.addr, .int .u32 ev.node, .int .u32 ev.dst, .int .u32 ev.xfer, .int .u8 ev.ty, .int .u64 ev.arg, .int .u64 ev.badge, .slice xo ev.ws.length cx]), (4, .int .u8 0), (5, .bool false), (7, .pointer (some ⟨(Z.tp x), 0, none⟩)), (53, .int .u8 5), (66, .bool true), (9, .int .u8 0), (82, .bool (decide (((ev.ws.length : Nat) : Int) > 4)))]) (φ := (b2 = b2 ∧ Nat.ble (10 + 1) 11 = true) ∧ True) (rest := []) h72 (by kernel_rfl) rfl ⟨⟨rfl, rfl⟩, trivial⟩ fun a75 h76 => ?_
  clear h72
  refine nd_done ?_
  refine hK74 _ _ ?_
  clear hK74
  refine c_split h76 (b := decide (((ev.ws.length : Nat) : Int) > 4)) rfl (fun hc77 => ?_) (fun hc77 => ?_)
  ·
    have hc77f : ((ev.ws.length : Nat) : Int) > 4 := by simpa using hc77
    exact absurd (hwl) (by first | exact hc77f | (intro hz; exact hc77f hz) | omega | simp_all)
  ·
    have hc77f : ¬ ((ev.ws.length : Nat) : Int) > 4 := by simpa using hc77
    refine wp_skip ?_
    refine hK73 _ _ ?_
    clear hK73
    refine wp_seq_k fun K78 hK78 => ?_
    refine nd_start (l := [0, 1, 2, 3]) rfl ?_
    refine nd_batch tabOk2 tabZ_ok2 [(0, {}), (1, {}), (2, {k := 1})] [8, 6, 3, 0, 1, 4, 5, 7, 53, 66, 9, 83, 85] (T' := [(8, .pointer (some ⟨b59, 0, none⟩)), (6, .pointer (some ⟨b14, 0, none⟩)), (3, .pointer (some ⟨b2, 0, none⟩)), (0, .pointer (some ⟨mb, 0, none⟩)), (1, .agg #[.int .u8 5, .int .u32 ev.pick, .int .u64 ev.draw, .int .u32 ev.addr, .int .u32 ev.node, .int .u32 ev.dst, .int .u32 ev.xfer, .int .u8 ev.ty, .int .u64 ev.arg, .int .u64 ev.badge, .slice xo ev.ws.length cx]), (4, .int .u8 0), (5, .bool false), (7, .pointer (some ⟨(Z.tp x), 0, none⟩)), (53, .int .u8 5), (66, .bool true), (9, .int .u8 0), (83, .pointer (some ⟨(Z.tp x), 0, none⟩)), (85, .slice xo ev.ws.length cx)]) (φ := (b2 = b2 ∧ Nat.ble (10 + 1) 11 = true) ∧ True) (rest := [3]) h76 (by kernel_rfl) rfl ⟨⟨rfl, rfl⟩, trivial⟩ fun a79 h80 => ?_
    clear h76
    refine nd_op ?_
    refine op_call h80 rfl rfl rfl (callOk Tryd.func89 (by decide) rfl) (args := [.pointer (some ⟨(Z.tp x), 0, none⟩), .slice xo ev.ws.length cx]) rfl (setMsg_ok mb Z _ a _ x hx _ _ ev.ws (by omega) _ (mh_of h80 hhoh56 (k := 0) rfl) (words_now h80 hws)) ?_
    rintro _ w81 ⟨rfl, hg83⟩
    refine ⟨_, rfl, ?_⟩
    have h84a := st_mg h80 hg83 (kcons (fun _ => rfl) (kcons (fun hq => by cases hq) (kcons (fun hq => by cases hq) (kcons (fun hq => by cases hq) knil))))
    have h84 := h84a.put (d := some 86) (v := .tuple #[]) (T' := [(86, .tuple #[]), (8, .pointer (some ⟨b59, 0, none⟩)), (6, .pointer (some ⟨b14, 0, none⟩)), (3, .pointer (some ⟨b2, 0, none⟩)), (0, .pointer (some ⟨mb, 0, none⟩)), (1, .agg #[.int .u8 5, .int .u32 ev.pick, .int .u64 ev.draw, .int .u32 ev.addr, .int .u32 ev.node, .int .u32 ev.dst, .int .u32 ev.xfer, .int .u8 ev.ty, .int .u64 ev.arg, .int .u64 ev.badge, .slice xo ev.ws.length cx]), (4, .int .u8 0), (5, .bool false), (7, .pointer (some ⟨(Z.tp x), 0, none⟩)), (53, .int .u8 5), (66, .bool true), (9, .int .u8 0), (83, .pointer (some ⟨(Z.tp x), 0, none⟩)), (85, .slice xo ev.ws.length cx)]) rfl
    have hhoh84 := hg83.mh.ho
    obtain ⟨a85, ea85⟩ : ∃ z : AK, z = a.setT x (msgA (a.th x) ev.ws) := ⟨_, rfl⟩
    rw [← ea85] at h84
    have hcx86 : curR Z a85 = Z.ky x := by rw [ea85] <;> exact hcx
    clear h80 h84a
    have ht87 : a85.th x = (msgA (a.th x) ev.ws) := by rw [ea85]; exact (upd_same _ _ _).trans (by first | rfl | rw [rfl])
    have hP88 : MP Z a85 := by rw [ea85]; exact MP.msg hP
    refine nd_done ?_
    refine hK78 _ _ ?_
    clear hK78
    refine wp_seq_k fun K89 hK89 => ?_
    refine dr_start (KB := [3, b2, b14, b59]) (Bi := [[0, 1, 2, 3], [0, 1, 2, 3], [0, 1, 2, 3], [0, 1, 2, 3], [0, 1, 2, 3], [0, 1, 2, 3], [0, 1, 2, 3], [0, 1, 2, 3], [1], [0, 1, 2, 3], [0, 1, 2, 3], []]) mixed h84 fun w90 h91 => ?_
    clear h84
    refine dr_batch tabOk2 tabZ_ok2 (by repeat (first | with_reducible exact PF.body | with_reducible apply PF.inB | with_reducible apply PF.next)) [(0, {}), (1, {}), (2, {}), (3, {k := 3, p := 3}), (4, {}), (5, {k := 1, p := 1}), (6, {}), (7, {})] [8, 6, 3, 0, 1, 4, 5, 7, 53, 66, 9, 88, 90, 92, 94] (T' := [(8, .pointer (some ⟨b59, 0, none⟩)), (6, .pointer (some ⟨b14, 0, none⟩)), (3, .pointer (some ⟨b2, 0, none⟩)), (0, .pointer (some ⟨mb, 0, none⟩)), (1, .agg #[.int .u8 5, .int .u32 ev.pick, .int .u64 ev.draw, .int .u32 ev.addr, .int .u32 ev.node, .int .u32 ev.dst, .int .u32 ev.xfer, .int .u8 ev.ty, .int .u64 ev.arg, .int .u64 ev.badge, .slice xo ev.ws.length cx]), (4, .int .u8 0), (5, .bool false), (7, .pointer (some ⟨(Z.tp x), 0, none⟩)), (53, .int .u8 5), (66, .bool true), (9, .int .u8 0), (88, .pointer (some ⟨(Z.tp x), 0, none⟩)), (90, .int .u64 bd), (92, .int .u32 ev.xfer), (94, .pointer (some ⟨(Z.tp x), 8, none⟩))]) (φ := (b59 = b59 ∧ Nat.ble (4 + 1) 5 = true) ∧ (b2 = b2 ∧ Nat.ble (6 + 1) 11 = true) ∧ True) (fuel := 4) h91 (by kernel_rfl) rfl (by kernel_rfl) (by kernel_rfl) ⟨trivial, trivial, trivial, rfl, trivial, rfl, trivial, trivial, trivial⟩ ⟨⟨rfl, rfl⟩, ⟨rfl, rfl⟩, trivial⟩ fun a93 h94 => ?_
    clear h91
    refine wpAnyK_one (i := 8) (fuel := 3) (by kernel_rfl) ?_
    refine op_mTh (x := x) (off := 8) (v := .int .u64 bd) (y := { msgA (a.th x) ev.ws with badge := bd }) h94 rfl rfl rfl rfl rfl rfl rfl rfl rfl hx rfl (by rw [ht87]; rfl) (kcons (fun _ => rfl) (kcons (fun hq => by cases hq) (kcons (fun hq => by cases hq) (kcons (fun hq => by cases hq) knil)))) fun w95 hf96 h97 => ?_
    obtain ⟨a98, ea98⟩ : ∃ z : AK, z = a85.setT x { msgA (a.th x) ev.ws with badge := bd } := ⟨_, rfl⟩
    rw [← ea98] at h97
    have hcx99 : curR Z a98 = Z.ky x := by rw [ea98] <;> exact hcx86
    refine ⟨(keepCons (kpL h94 h97 (q := 1) (q' := 1) rfl rfl) keepNil), ?_⟩
    clear h94
    have ht100 : a98.th x = { msgA (a.th x) ev.ws with badge := bd } := by rw [ea98]; exact upd_same _ _ _
    have hP101 : MP Z a98 := by rw [ea98]; exact MP.like hP88 (by rw [ht87] <;> rfl) (by rw [ht87] <;> rfl) (by rw [ht87] <;> rfl)
    refine dr_batch tabOk2 tabZ_ok2 (by repeat (first | with_reducible exact PF.body | with_reducible apply PF.inB | with_reducible apply PF.next)) [(9, {}), (10, {})] [8, 6, 3, 0, 1, 4, 5, 7, 53, 66, 9, 92, 96] (T' := [(8, .pointer (some ⟨b59, 0, none⟩)), (6, .pointer (some ⟨b14, 0, none⟩)), (3, .pointer (some ⟨b2, 0, none⟩)), (0, .pointer (some ⟨mb, 0, none⟩)), (1, .agg #[.int .u8 5, .int .u32 ev.pick, .int .u64 ev.draw, .int .u32 ev.addr, .int .u32 ev.node, .int .u32 ev.dst, .int .u32 ev.xfer, .int .u8 ev.ty, .int .u64 ev.arg, .int .u64 ev.badge, .slice xo ev.ws.length cx]), (4, .int .u8 0), (5, .bool false), (7, .pointer (some ⟨(Z.tp x), 0, none⟩)), (53, .int .u8 5), (66, .bool true), (9, .int .u8 0), (92, .int .u32 ev.xfer), (96, .pointer (some ⟨(Z.tp x), 15, none⟩))]) (φ := True) (fuel := 1) h97 (by kernel_rfl) rfl (by kernel_rfl) (by kernel_rfl) ⟨trivial, trivial, trivial⟩ trivial fun a102 h103 => ?_
    clear h97
    refine wpAnyK_one (i := 11) (fuel := 0) (by kernel_rfl) ?_
    refine op_mTh (x := x) (off := 15) (v := .int .u32 ev.xfer) (y := { msgA (a.th x) ev.ws with badge := bd, xfer := ev.xfer }) h103 rfl rfl rfl rfl rfl rfl rfl rfl rfl hx rfl (by rw [ht100]; rfl) (kcons (fun _ => rfl) (kcons (fun hq => by cases hq) (kcons (fun hq => by cases hq) (kcons (fun hq => by cases hq) knil)))) fun w104 hf105 h106 => ?_
    obtain ⟨a107, ea107⟩ : ∃ z : AK, z = a98.setT x { msgA (a.th x) ev.ws with badge := bd, xfer := ev.xfer } := ⟨_, rfl⟩
    rw [← ea107] at h106
    have hcx108 : curR Z a107 = Z.ky x := by rw [ea107] <;> exact hcx99
    refine ⟨keepNil, ?_⟩
    clear h103
    have ht109 : a107.th x = { msgA (a.th x) ev.ws with badge := bd, xfer := ev.xfer } := by rw [ea107]; exact upd_same _ _ _
    have hP110 : MP Z a107 := by rw [ea107]; exact MP.like hP101 (by rw [ht100] <;> rfl) (by rw [ht100] <;> rfl) (by rw [ht100] <;> rfl)
    refine wpAnyK_done (by kernel_rfl) ?_ _
    refine hK89 _ _ ?_
    clear hK89
    refine wp_seq_k fun K111 hK111 => ?_
    refine dr_start (KB := [3, b2, b14, b59]) (Bi := [[0, 1, 2, 3], [0, 1, 2, 3], [0, 1, 2, 3], [0, 1, 2, 3], [0, 1, 2, 3], [0, 1, 2, 3], [0, 1, 2, 3], [0, 1, 2, 3], [0, 1, 2, 3], [0, 1, 2, 3], [0, 1, 2, 3], [1], [0, 1, 2, 3], [0, 1, 2, 3], []]) mixed h106 fun w112 h113 => ?_
    clear h106
    refine dr_batch tabOk2 tabZ_ok2 (by repeat (first | with_reducible exact PF.body | with_reducible apply PF.inB | with_reducible apply PF.next)) [(0, {}), (1, {}), (2, {}), (3, {k := 3, p := 3}), (4, {}), (5, {}), (6, {}), (7, {k := 1, p := 1}), (8, {}), (9, {}), (10, {})] [8, 6, 3, 0, 1, 4, 5, 7, 53, 66, 9, 98, 102, 105, 107] (T' := [(8, .pointer (some ⟨b59, 0, none⟩)), (6, .pointer (some ⟨b14, 0, none⟩)), (3, .pointer (some ⟨b2, 0, none⟩)), (0, .pointer (some ⟨mb, 0, none⟩)), (1, .agg #[.int .u8 5, .int .u32 ev.pick, .int .u64 ev.draw, .int .u32 ev.addr, .int .u32 ev.node, .int .u32 ev.dst, .int .u32 ev.xfer, .int .u8 ev.ty, .int .u64 ev.arg, .int .u64 ev.badge, .slice xo ev.ws.length cx]), (4, .int .u8 0), (5, .bool false), (7, .pointer (some ⟨(Z.tp x), 0, none⟩)), (53, .int .u8 5), (66, .bool true), (9, .int .u8 0), (98, .pointer (some ⟨(Z.tp x), 0, none⟩)), (102, .bool (bitI .and .u8 rt 4 != 0)), (105, .bool true), (107, .pointer (some ⟨(Z.tp x), 17, none⟩))]) (φ := (b59 = b59 ∧ Nat.ble (3 + 1) 5 = true) ∧ (b2 = b2 ∧ Nat.ble (0 + 1) 11 = true) ∧ True) (fuel := 4) h113 (by kernel_rfl) rfl (by kernel_rfl) (by kernel_rfl) ⟨trivial, trivial, trivial, rfl, trivial, trivial, trivial, rfl, trivial, trivial, trivial, trivial⟩ ⟨⟨rfl, rfl⟩, ⟨rfl, rfl⟩, trivial⟩ fun a115 h116 => ?_
    clear h113
    refine wpAnyK_one (i := 11) (fuel := 3) (by kernel_rfl) ?_
    refine op_mTh (x := x) (off := 17) (v := .bool (bitI .and .u8 rt 4 != 0)) (y := { msgA (a.th x) ev.ws with badge := bd, xfer := ev.xfer, grant := (bitI .and .u8 rt 4 != 0) }) h116 rfl rfl rfl rfl rfl rfl rfl rfl rfl hx rfl (by rw [ht109]; rfl) (kcons (fun _ => rfl) (kcons (fun hq => by cases hq) (kcons (fun hq => by cases hq) (kcons (fun hq => by cases hq) knil)))) fun w117 hf118 h119 => ?_
    obtain ⟨a120, ea120⟩ : ∃ z : AK, z = a107.setT x { msgA (a.th x) ev.ws with badge := bd, xfer := ev.xfer, grant := (bitI .and .u8 rt 4 != 0) } := ⟨_, rfl⟩
    rw [← ea120] at h119
    have hcx121 : curR Z a120 = Z.ky x := by rw [ea120] <;> exact hcx108
    refine ⟨(keepCons (kpL h116 h119 (q := 1) (q' := 1) rfl rfl) keepNil), ?_⟩
    clear h116
    have ht122 : a120.th x = { msgA (a.th x) ev.ws with badge := bd, xfer := ev.xfer, grant := (bitI .and .u8 rt 4 != 0) } := by rw [ea120]; exact upd_same _ _ _
    have hP123 : MP Z a120 := by rw [ea120]; exact MP.like hP110 (by rw [ht109] <;> rfl) (by rw [ht109] <;> rfl) (by rw [ht109] <;> rfl)
    refine dr_batch tabOk2 tabZ_ok2 (by repeat (first | with_reducible exact PF.body | with_reducible apply PF.inB | with_reducible apply PF.next)) [(12, {}), (13, {})] [8, 6, 3, 0, 1, 4, 5, 7, 53, 66, 9, 105, 109] (T' := [(8, .pointer (some ⟨b59, 0, none⟩)), (6, .pointer (some ⟨b14, 0, none⟩)), (3, .pointer (some ⟨b2, 0, none⟩)), (0, .pointer (some ⟨mb, 0, none⟩)), (1, .agg #[.int .u8 5, .int .u32 ev.pick, .int .u64 ev.draw, .int .u32 ev.addr, .int .u32 ev.node, .int .u32 ev.dst, .int .u32 ev.xfer, .int .u8 ev.ty, .int .u64 ev.arg, .int .u64 ev.badge, .slice xo ev.ws.length cx]), (4, .int .u8 0), (5, .bool false), (7, .pointer (some ⟨(Z.tp x), 0, none⟩)), (53, .int .u8 5), (66, .bool true), (9, .int .u8 0), (105, .bool true), (109, .pointer (some ⟨(Z.tp x), 18, none⟩))]) (φ := True) (fuel := 1) h119 (by kernel_rfl) rfl (by kernel_rfl) (by kernel_rfl) ⟨trivial, trivial, trivial⟩ trivial fun a124 h125 => ?_
    clear h119
    refine wpAnyK_one (i := 14) (fuel := 0) (by kernel_rfl) ?_
    refine op_mTh (x := x) (off := 18) (v := .bool true) (y := { msgA (a.th x) ev.ws with badge := bd, xfer := ev.xfer, grant := (bitI .and .u8 rt 4 != 0), call := true }) h125 rfl rfl rfl rfl rfl rfl rfl rfl rfl hx rfl (by rw [ht122]; rfl) (kcons (fun _ => rfl) (kcons (fun hq => by cases hq) (kcons (fun hq => by cases hq) (kcons (fun hq => by cases hq) knil)))) fun w126 hf127 h128 => ?_
    obtain ⟨a129, ea129⟩ : ∃ z : AK, z = a120.setT x { msgA (a.th x) ev.ws with badge := bd, xfer := ev.xfer, grant := (bitI .and .u8 rt 4 != 0), call := true } := ⟨_, rfl⟩
    rw [← ea129] at h128
    have hcx130 : curR Z a129 = Z.ky x := by rw [ea129] <;> exact hcx121
    refine ⟨keepNil, ?_⟩
    clear h125
    have ht131 : a129.th x = { msgA (a.th x) ev.ws with badge := bd, xfer := ev.xfer, grant := (bitI .and .u8 rt 4 != 0), call := true } := by rw [ea129]; exact upd_same _ _ _
    have hP132 : MP Z a129 := by rw [ea129]; exact MP.like hP123 (by rw [ht122] <;> rfl) (by rw [ht122] <;> rfl) (by rw [ht122] <;> rfl)
    refine wpAnyK_done (by kernel_rfl) ?_ _
    refine hK111 _ _ ?_
    clear hK111
    refine wp_seq_k fun K133 hK133 => ?_
    refine wp_seq_k fun K134 hK134 => ?_
    refine nd_start (l := [0, 1, 2, 3, 4, 5]) rfl ?_
    refine nd_batch tabOk2 tabZ_ok2 [(0, {}), (1, {}), (2, {k := 3})] [8, 6, 3, 0, 1, 4, 5, 7, 53, 66, 9, 110, 112] (T' := [(8, .pointer (some ⟨b59, 0, none⟩)), (6, .pointer (some ⟨b14, 0, none⟩)), (3, .pointer (some ⟨b2, 0, none⟩)), (0, .pointer (some ⟨mb, 0, none⟩)), (1, .agg #[.int .u8 5, .int .u32 ev.pick, .int .u64 ev.draw, .int .u32 ev.addr, .int .u32 ev.node, .int .u32 ev.dst, .int .u32 ev.xfer, .int .u8 ev.ty, .int .u64 ev.arg, .int .u64 ev.badge, .slice xo ev.ws.length cx]), (4, .int .u8 0), (5, .bool false), (7, .pointer (some ⟨(Z.tp x), 0, none⟩)), (53, .int .u8 5), (66, .bool true), (9, .int .u8 0), (110, .pointer (some ⟨mb, 0, none⟩)), (112, .agg #[.int .u16 ((Z.ky i).idx), .int .u32 ((Z.ky i).gen)])]) (φ := (b59 = b59 ∧ Nat.ble (1 + 2) 5 = true) ∧ True) (rest := [3, 4, 5]) h128 (by kernel_rfl) rfl ⟨⟨rfl, rfl⟩, trivial⟩ fun a135 h136 => ?_
    clear h128
    refine nd_op ?_
    have hA137 : a129 = a5 := by rw [h5]; subst ea129 ea120 ea107 ea98 ea85; simp only [setT_setT]
    have h138 := h136
    rw [hA137] at h138
    clear h136
    have ht139 : a5.th x = { msgA (a.th x) ev.ws with badge := bd, xfer := ev.xfer, grant := (bitI .and .u8 rt 4 != 0), call := true } := by rw [← hA137]; exact ht131
    have hP140 : MP Z a5 := by rw [← hA137]; exact hP132
    refine op_call h138 rfl rfl rfl (callOk Tryd.func88 (by decide) rfl) (args := [.pointer (some ⟨mb, 0, none⟩), .agg #[.int .u16 ((Z.ky i).idx), .int .u32 ((Z.ky i).gen)], .int .u8 4]) rfl (by have hf9 := first_ok mb Z _ a5 _ i hi 4 hP140 _ (mh_of h138 hhoh84 (k := 0) rfl); rw [hf5] at hf9; exact hf9) ?_
    rintro _ w141 ⟨rfl, hg143⟩
    refine ⟨_, rfl, ?_⟩
    have h144a := st_mg h138 hg143 (kcons (fun _ => rfl) (kcons (fun hq => by cases hq) (kcons (fun hq => by cases hq) (kcons (fun hq => by cases hq) knil))))
    have h144 := h144a.put (d := some 113) (v := .agg #[.int .u16 ((Z.ky y).idx), .int .u32 ((Z.ky y).gen)]) (T' := [(113, .agg #[.int .u16 ((Z.ky y).idx), .int .u32 ((Z.ky y).gen)]), (8, .pointer (some ⟨b59, 0, none⟩)), (6, .pointer (some ⟨b14, 0, none⟩)), (3, .pointer (some ⟨b2, 0, none⟩)), (0, .pointer (some ⟨mb, 0, none⟩)), (1, .agg #[.int .u8 5, .int .u32 ev.pick, .int .u64 ev.draw, .int .u32 ev.addr, .int .u32 ev.node, .int .u32 ev.dst, .int .u32 ev.xfer, .int .u8 ev.ty, .int .u64 ev.arg, .int .u64 ev.badge, .slice xo ev.ws.length cx]), (4, .int .u8 0), (5, .bool false), (7, .pointer (some ⟨(Z.tp x), 0, none⟩)), (53, .int .u8 5), (66, .bool true), (9, .int .u8 0), (110, .pointer (some ⟨mb, 0, none⟩)), (112, .agg #[.int .u16 ((Z.ky i).idx), .int .u32 ((Z.ky i).gen)])]) rfl
    have hhoh144 := hg143.mh.ho
    clear h138 h144a
    refine nd_op ?_
    refine op_new tabOk2 (cells := [.int .u16 0, .int .u32 0]) (ty := 39) (ln := none) (L1 := fun b145 => [(3, ⟨[.int .u16 0, .int .u32 0], ty3, true⟩), (b2, ⟨[.int .u8 5, .int .u32 ev.pick, .int .u64 ev.draw, .int .u32 ev.addr, .int .u32 ev.node, .int .u32 ev.dst, .int .u32 ev.xfer, .int .u8 ev.ty, .int .u64 ev.arg, .int .u64 ev.badge, .slice xo ev.ws.length cx], 35, false⟩), (b14, ⟨[.int .u16 ((Z.ky x).idx), .int .u32 ((Z.ky x).gen)], 39, false⟩), (b59, ⟨[.int .u8 ct, .int .u16 ((Z.ky i).idx), .int .u32 ((Z.ky i).gen), .int .u8 rt, .int .u64 bd], 49, false⟩), (b145, ⟨[.int .u16 0, .int .u32 0], 39, false⟩)]) h144 rfl rfl rfl rfl (by kernel_rfl) (fun _ => rfl) fun b145 w146 a147 h148 hf149 hn150 => ?_
    clear h144
    refine nd_op ?_
    refine op_store tabOk2 {k := 4} (L' := [(3, ⟨[.int .u16 0, .int .u32 0], ty3, true⟩), (b2, ⟨[.int .u8 5, .int .u32 ev.pick, .int .u64 ev.draw, .int .u32 ev.addr, .int .u32 ev.node, .int .u32 ev.dst, .int .u32 ev.xfer, .int .u8 ev.ty, .int .u64 ev.arg, .int .u64 ev.badge, .slice xo ev.ws.length cx], 35, false⟩), (b14, ⟨[.int .u16 ((Z.ky x).idx), .int .u32 ((Z.ky x).gen)], 39, false⟩), (b59, ⟨[.int .u8 ct, .int .u16 ((Z.ky i).idx), .int .u32 ((Z.ky i).gen), .int .u8 rt, .int .u64 bd], 49, false⟩), (b145, ⟨[.int .u16 ((Z.ky y).idx), .int .u32 ((Z.ky y).gen)], 39, false⟩)]) (φ := b145 = b145 ∧ Nat.ble (0 + 2) 2 = true) h148 rfl rfl rfl (by kernel_rfl) ⟨rfl, rfl⟩ fun w151 h152 => ?_
    clear h148
    refine nd_done ?_
    refine hK134 _ _ ?_
    clear hK134
    refine wp_seq_k fun K153 hK153 => ?_
    refine nd_start (l := [0, 1, 2]) rfl ?_
    refine nd_batch tabOk2 tabZ_ok2 [(0, {k := 4}), (1, {k := 0}), (2, {f := 2})] [10, 8, 6, 3, 0, 1, 4, 5, 7, 53, 66, 9, 116] (T' := [(10, .pointer (some ⟨b145, 0, none⟩)), (8, .pointer (some ⟨b59, 0, none⟩)), (6, .pointer (some ⟨b14, 0, none⟩)), (3, .pointer (some ⟨b2, 0, none⟩)), (0, .pointer (some ⟨mb, 0, none⟩)), (1, .agg #[.int .u8 5, .int .u32 ev.pick, .int .u64 ev.draw, .int .u32 ev.addr, .int .u32 ev.node, .int .u32 ev.dst, .int .u32 ev.xfer, .int .u8 ev.ty, .int .u64 ev.arg, .int .u64 ev.badge, .slice xo ev.ws.length cx]), (4, .int .u8 0), (5, .bool false), (7, .pointer (some ⟨(Z.tp x), 0, none⟩)), (53, .int .u8 5), (66, .bool true), (9, .int .u8 0), (116, .bool true)]) (φ := (b145 = b145 ∧ Nat.ble (0 + 2) 2 = true) ∧ (3 = 3 ∧ Nat.ble (0 + 2) 2 = true) ∧ EqRun Tryd.prog 39 (.agg #[.int .u16 ((Z.ky y).idx), .int .u32 ((Z.ky y).gen)]) (.agg #[.int .u16 0, .int .u32 0]) false ∧ True) (rest := []) h152 (by kernel_rfl) rfl ⟨⟨rfl, rfl⟩, ⟨rfl, rfl⟩, (by have hq := runRf (Z.ky y) (⟨0, 0⟩ : Rf); rw [show decide (Z.ky y = (⟨0, 0⟩ : Rf)) = false from decide_eq_false (hkk.ne0 (hkk.tx y hy))] at hq; exact hq), trivial⟩ fun a154 h155 => ?_
    clear h152
    refine nd_done ?_
    refine hK153 _ _ ?_
    clear hK153
    refine c_true h155 rfl ?_
    refine wp_seq_k fun K156 hK156 => ?_
    refine nd_start (l := [0, 1, 2]) rfl ?_
    refine nd_batch tabOk2 tabZ_ok2 [(0, {}), (1, {k := 4})] [10, 8, 6, 3, 0, 1, 4, 5, 7, 53, 66, 9, 117, 118] (T' := [(10, .pointer (some ⟨b145, 0, none⟩)), (8, .pointer (some ⟨b59, 0, none⟩)), (6, .pointer (some ⟨b14, 0, none⟩)), (3, .pointer (some ⟨b2, 0, none⟩)), (0, .pointer (some ⟨mb, 0, none⟩)), (1, .agg #[.int .u8 5, .int .u32 ev.pick, .int .u64 ev.draw, .int .u32 ev.addr, .int .u32 ev.node, .int .u32 ev.dst, .int .u32 ev.xfer, .int .u8 ev.ty, .int .u64 ev.arg, .int .u64 ev.badge, .slice xo ev.ws.length cx]), (4, .int .u8 0), (5, .bool false), (7, .pointer (some ⟨(Z.tp x), 0, none⟩)), (53, .int .u8 5), (66, .bool true), (9, .int .u8 0), (117, .pointer (some ⟨mb, 0, none⟩)), (118, .agg #[.int .u16 ((Z.ky y).idx), .int .u32 ((Z.ky y).gen)])]) (φ := (b145 = b145 ∧ Nat.ble (0 + 2) 2 = true) ∧ True) (rest := [2]) h155 (by kernel_rfl) rfl ⟨⟨rfl, rfl⟩, trivial⟩ fun a157 h158 => ?_
    clear h155
    refine nd_op ?_
    refine op_call h158 rfl rfl rfl (callOk Tryd.func52 (by decide) rfl) (args := [.pointer (some ⟨mb, 0, none⟩), .agg #[.int .u16 ((Z.ky y).idx), .int .u32 ((Z.ky y).gen)]]) rfl (mready_ok mb Z _ a5 _ y hy hP140 _ (mh_of h158 hhoh144 (k := 0) rfl)) ?_
    rintro _ w159 ⟨rfl, R160, hg161⟩
    refine ⟨_, rfl, ?_⟩
    have h162a := st_mg h158 hg161 (kcons (fun _ => rfl) (kcons (fun hq => by cases hq) (kcons (fun hq => by cases hq) (kcons (fun hq => by cases hq) (kcons (fun hq => by cases hq) knil)))))
    have h162 := h162a.put (d := some 119) (v := .tuple #[]) (T' := [(119, .tuple #[]), (10, .pointer (some ⟨b145, 0, none⟩)), (8, .pointer (some ⟨b59, 0, none⟩)), (6, .pointer (some ⟨b14, 0, none⟩)), (3, .pointer (some ⟨b2, 0, none⟩)), (0, .pointer (some ⟨mb, 0, none⟩)), (1, .agg #[.int .u8 5, .int .u32 ev.pick, .int .u64 ev.draw, .int .u32 ev.addr, .int .u32 ev.node, .int .u32 ev.dst, .int .u32 ev.xfer, .int .u8 ev.ty, .int .u64 ev.arg, .int .u64 ev.badge, .slice xo ev.ws.length cx]), (4, .int .u8 0), (5, .bool false), (7, .pointer (some ⟨(Z.tp x), 0, none⟩)), (53, .int .u8 5), (66, .bool true), (9, .int .u8 0), (117, .pointer (some ⟨mb, 0, none⟩)), (118, .agg #[.int .u16 ((Z.ky y).idx), .int .u32 ((Z.ky y).gen)])]) rfl
    have hhoh162 := hg161.mh.ho
    obtain ⟨a163, ea163⟩ : ∃ z : AK, z = wakeA a5 y := ⟨_, rfl⟩
    rw [← ea163] at h162
    clear h158 h162a
    have ht164 : a163.th x = { msgA (a.th x) ev.ws with badge := bd, xfer := ev.xfer, grant := (bitI .and .u8 rt 4 != 0), call := true } := by rw [ea163]; exact (wake_tho hxy).trans ht139
    have hP165 : MP Z a163 := by rw [ea163]; exact MP.wake hP140 hkk hy
    refine nd_done ?_
    refine hK156 _ _ ?_
    clear hK156
    refine nd_start (l := [0, 1, 2, 3]) rfl ?_
    refine nd_batch tabOk2 tabZ_ok2 [(0, {}), (1, {k := 2}), (2, {k := 4})] [10, 8, 6, 3, 0, 1, 4, 5, 7, 53, 66, 9, 120, 121, 122] (T' := [(10, .pointer (some ⟨b145, 0, none⟩)), (8, .pointer (some ⟨b59, 0, none⟩)), (6, .pointer (some ⟨b14, 0, none⟩)), (3, .pointer (some ⟨b2, 0, none⟩)), (0, .pointer (some ⟨mb, 0, none⟩)), (1, .agg #[.int .u8 5, .int .u32 ev.pick, .int .u64 ev.draw, .int .u32 ev.addr, .int .u32 ev.node, .int .u32 ev.dst, .int .u32 ev.xfer, .int .u8 ev.ty, .int .u64 ev.arg, .int .u64 ev.badge, .slice xo ev.ws.length cx]), (4, .int .u8 0), (5, .bool false), (7, .pointer (some ⟨(Z.tp x), 0, none⟩)), (53, .int .u8 5), (66, .bool true), (9, .int .u8 0), (120, .pointer (some ⟨mb, 0, none⟩)), (121, .agg #[.int .u16 ((Z.ky x).idx), .int .u32 ((Z.ky x).gen)]), (122, .agg #[.int .u16 ((Z.ky y).idx), .int .u32 ((Z.ky y).gen)])]) (φ := (b14 = b14 ∧ Nat.ble (0 + 2) 2 = true) ∧ (b145 = b145 ∧ Nat.ble (0 + 2) 2 = true) ∧ True) (rest := [3]) h162 (by kernel_rfl) rfl ⟨⟨rfl, rfl⟩, ⟨rfl, rfl⟩, trivial⟩ fun a166 h167 => ?_
    clear h162
    refine nd_op ?_
    refine op_call h167 rfl rfl rfl (callOk Tryd.func91 (by decide) rfl) (args := [.pointer (some ⟨mb, 0, none⟩), .agg #[.int .u16 ((Z.ky x).idx), .int .u32 ((Z.ky x).gen)], .agg #[.int .u16 ((Z.ky y).idx), .int .u32 ((Z.ky y).gen)]]) rfl (pass_ok mb Z _ a163 C hI.ci x y hx hy hxy (by rw [ea163]; exact htx) (by rw [ea163]; exact hty) hP165 _ (mh_of h167 hhoh162 (k := 0) rfl)) ?_
    rintro _ w168 ⟨rfl, R169, hg170⟩
    refine ⟨_, rfl, ?_⟩
    have h171a := st_mg h167 hg170 (kcons (fun _ => rfl) (kcons (fun hq => by cases hq) (kcons (fun hq => by cases hq) (kcons (fun hq => by cases hq) (kcons (fun hq => by cases hq) knil)))))
    have h171 := h171a.put (d := some 123) (v := .tuple #[]) (T' := [(123, .tuple #[]), (10, .pointer (some ⟨b145, 0, none⟩)), (8, .pointer (some ⟨b59, 0, none⟩)), (6, .pointer (some ⟨b14, 0, none⟩)), (3, .pointer (some ⟨b2, 0, none⟩)), (0, .pointer (some ⟨mb, 0, none⟩)), (1, .agg #[.int .u8 5, .int .u32 ev.pick, .int .u64 ev.draw, .int .u32 ev.addr, .int .u32 ev.node, .int .u32 ev.dst, .int .u32 ev.xfer, .int .u8 ev.ty, .int .u64 ev.arg, .int .u64 ev.badge, .slice xo ev.ws.length cx]), (4, .int .u8 0), (5, .bool false), (7, .pointer (some ⟨(Z.tp x), 0, none⟩)), (53, .int .u8 5), (66, .bool true), (9, .int .u8 0), (120, .pointer (some ⟨mb, 0, none⟩)), (121, .agg #[.int .u16 ((Z.ky x).idx), .int .u32 ((Z.ky x).gen)]), (122, .agg #[.int .u16 ((Z.ky y).idx), .int .u32 ((Z.ky y).gen)])]) rfl
    have hhoh171 := hg170.mh.ho
    clear h167 h171a
    refine nd_done ?_
    refine hK133 _ _ ?_
    clear hK133
    refine wp_seq_k fun K172 hK172 => ?_
    refine nd_start (l := [0, 1]) rfl ?_
    refine nd_batch tabOk2 tabZ_ok2 [(0, {}), (1, {})] [10, 8, 6, 3, 0, 1, 7, 53, 66, 9, 4, 5] (T' := [(10, .pointer (some ⟨b145, 0, none⟩)), (8, .pointer (some ⟨b59, 0, none⟩)), (6, .pointer (some ⟨b14, 0, none⟩)), (3, .pointer (some ⟨b2, 0, none⟩)), (0, .pointer (some ⟨mb, 0, none⟩)), (1, .agg #[.int .u8 5, .int .u32 ev.pick, .int .u64 ev.draw, .int .u32 ev.addr, .int .u32 ev.node, .int .u32 ev.dst, .int .u32 ev.xfer, .int .u8 ev.ty, .int .u64 ev.arg, .int .u64 ev.badge, .slice xo ev.ws.length cx]), (7, .pointer (some ⟨(Z.tp x), 0, none⟩)), (53, .int .u8 5), (66, .bool true), (9, .int .u8 0), (4, .int .u8 0), (5, .bool false)]) (φ := True) (rest := []) h171 (by kernel_rfl) rfl trivial fun a173 h174 => ?_
    clear h171
    refine nd_done ?_
    refine hK172 _ _ ?_
    clear hK172
    refine wp_ret ?_
    try simp only [Exit.then, Exit.inBlock]
    try rw [if_pos trivial]
    exact s_ret tabOk2 tabZ_ok2 h174 [(.tmp 4, {}), (.tmp 5, {})] (vs := [.int .u8 0, .bool false]) (φ := True) rfl (by kernel_rfl) trivial (by subst ea163; exact ⟨rfl, _, mg_end hH h174 hhoh171 rfl⟩)

theorem call6b (mb : Nat) (Z : MZ) (R : MR) (a : AK) (C : CP) (hI : MI Z a C) (x : Nat) (hx : x ∈ sl Z.tl) (hcu : a.cur = (x : Int)) (ev : Ev) (he : EvOk ev) (xo : Option Addr) (cx : Nat) (c : Cp) (cs0 k : Int) (hf : findA a C ev.addr 4 1 = (c, cs0, k)) (hk0 : k ≠ 0) (w : World) (hH : MH mb Z R a C w) (hws : WordsAt (mdF mb Z R C) w xo ev.ws) :
    Calls Tryd.prog 55 #[.pointer (some ⟨mb, 0, none⟩), .agg #[.int .u8 6, .int .u32 ev.pick, .int .u64 ev.draw, .int .u32 ev.addr, .int .u32 ev.node, .int .u32 ev.dst, .int .u32 ev.xfer, .int .u8 ev.ty, .int .u64 ev.arg, .int .u64 ev.badge, .slice xo ev.ws.length cx]] w fun e w' => e = .returned (.tuple #[.int .u8 k, .bool false]) ∧ ∃ R', MG mb Z R C w Z R' a C w' := by
  have hP := hI.mp
  have hcx : curR Z a = Z.ky x := curR_of hcu
  have hcn : a.cur.toNat = x := by rw [hcu]; exact Int.toNat_natCast x
  have hci := (hI.tk x hx).ci
  obtain ⟨ty3, hg3⟩ := hH.g3
  have hho := hH.ho
  have hkk := hH.md.k
  refine enter (n := 628) (K := mdF mb Z R C) (A := MD (mdF mb Z R C) w.heap.size mb Z R a C) (F := mdF mb Z R C) (T := [(0, .pointer (some ⟨mb, 0, none⟩)), (1, .agg #[.int .u8 6, .int .u32 ev.pick, .int .u64 ev.draw, .int .u32 ev.addr, .int .u32 ev.node, .int .u32 ev.dst, .int .u32 ev.xfer, .int .u8 ev.ty, .int .u64 ev.arg, .int .u64 ev.badge, .slice xo ev.ws.length cx])]) (L := [(3, ⟨[.int .u16 0, .int .u32 0], ty3, true⟩)]) (args := [.pointer (some ⟨mb, 0, none⟩), .agg #[.int .u8 6, .int .u32 ev.pick, .int .u64 ev.draw, .int .u32 ev.addr, .int .u32 ev.node, .int .u32 ev.dst, .int .u32 ev.xfer, .int .u8 ev.ty, .int .u64 ev.arg, .int .u64 ev.badge, .slice xo ev.ws.length cx]]) Tryd.func55 rfl rfl rfl rfl (kcons hg3 knil) (by simp) (kcons (by intro hq; cases hq) knil) hH.mD MD.stable hH.md.low (kcons (by intro hq; cases hq) knil) ?_
  intro ac h
  refine wp_seq_k fun K1 hK1 => ?_
  refine nd_start (l := [0, 1, 2]) rfl ?_
  refine nd_op ?_
  refine op_new tabOk2 (cells := [.int .u8 6, .int .u32 ev.pick, .int .u64 ev.draw, .int .u32 ev.addr, .int .u32 ev.node, .int .u32 ev.dst, .int .u32 ev.xfer, .int .u8 ev.ty, .int .u64 ev.arg, .int .u64 ev.badge, .slice xo ev.ws.length cx]) (ty := 35) (ln := none) (L1 := fun b2 => [(3, ⟨[.int .u16 0, .int .u32 0], ty3, true⟩), (b2, ⟨[.int .u8 6, .int .u32 ev.pick, .int .u64 ev.draw, .int .u32 ev.addr, .int .u32 ev.node, .int .u32 ev.dst, .int .u32 ev.xfer, .int .u8 ev.ty, .int .u64 ev.arg, .int .u64 ev.badge, .slice xo ev.ws.length cx], 35, false⟩)]) h rfl rfl rfl rfl (by kernel_rfl) (fun _ => rfl) fun b2 w3 a4 h5 hf6 hn7 => ?_
  clear h
  refine nd_batch tabOk2 tabZ_ok2 [(1, {}), (2, {})] [3, 0, 1, 4, 5] (T' := [(3, .pointer (some ⟨b2, 0, none⟩)), (0, .pointer (some ⟨mb, 0, none⟩)), (1, .agg #[.int .u8 6, .int .u32 ev.pick, .int .u64 ev.draw, .int .u32 ev.addr, .int .u32 ev.node, .int .u32 ev.dst, .int .u32 ev.xfer, .int .u8 ev.ty, .int .u64 ev.arg, .int .u64 ev.badge, .slice xo ev.ws.length cx]), (4, .int .u8 0), (5, .bool false)]) (φ := True) (rest := []) h5 (by kernel_rfl) rfl trivial fun a8 h9 => ?_
  clear h5
  refine nd_done ?_
  refine hK1 _ _ ?_
  clear hK1
  refine wp_seq_k fun K10 hK10 => ?_
  refine nd_start (l := [0, 1, 2, 3, 4, 5]) rfl ?_
  refine nd_batch tabOk2 tabZ_ok2 [(0, {}), (1, {}), (2, {})] [3, 0, 1, 4, 5, 44] (T' := [(3, .pointer (some ⟨b2, 0, none⟩)), (0, .pointer (some ⟨mb, 0, none⟩)), (1, .agg #[.int .u8 6, .int .u32 ev.pick, .int .u64 ev.draw, .int .u32 ev.addr, .int .u32 ev.node, .int .u32 ev.dst, .int .u32 ev.xfer, .int .u8 ev.ty, .int .u64 ev.arg, .int .u64 ev.badge, .slice xo ev.ws.length cx]), (4, .int .u8 0), (5, .bool false), (44, .pointer (some ⟨mb, 13, none⟩))]) (φ := True) (rest := [3, 4, 5]) h9 (by kernel_rfl) rfl trivial fun a11 h12 => ?_
  clear h9
  refine nd_op ?_
  refine op_read (b := mb) (v := .agg #[.int .u16 ((Z.ky x).idx), .int .u32 ((Z.ky x).gen)]) h12 rfl rfl (rd_mA h12 (k := 13) (vs := [.int .u16 ((Z.ky x).idx), .int .u32 ((Z.ky x).gen)]) rfl rfl rfl rfl rfl (by rw [← hcx]; exact md_cur)) ?_
  have h13 := h12.put (d := some 45) (v := .agg #[.int .u16 ((Z.ky x).idx), .int .u32 ((Z.ky x).gen)]) (T' := [(45, .agg #[.int .u16 ((Z.ky x).idx), .int .u32 ((Z.ky x).gen)]), (3, .pointer (some ⟨b2, 0, none⟩)), (0, .pointer (some ⟨mb, 0, none⟩)), (1, .agg #[.int .u8 6, .int .u32 ev.pick, .int .u64 ev.draw, .int .u32 ev.addr, .int .u32 ev.node, .int .u32 ev.dst, .int .u32 ev.xfer, .int .u8 ev.ty, .int .u64 ev.arg, .int .u64 ev.badge, .slice xo ev.ws.length cx]), (4, .int .u8 0), (5, .bool false), (44, .pointer (some ⟨mb, 13, none⟩))]) rfl
  clear h12
  refine nd_op ?_
  refine op_new tabOk2 (cells := [.int .u16 0, .int .u32 0]) (ty := 39) (ln := none) (L1 := fun b14 => [(3, ⟨[.int .u16 0, .int .u32 0], ty3, true⟩), (b2, ⟨[.int .u8 6, .int .u32 ev.pick, .int .u64 ev.draw, .int .u32 ev.addr, .int .u32 ev.node, .int .u32 ev.dst, .int .u32 ev.xfer, .int .u8 ev.ty, .int .u64 ev.arg, .int .u64 ev.badge, .slice xo ev.ws.length cx], 35, false⟩), (b14, ⟨[.int .u16 0, .int .u32 0], 39, false⟩)]) h13 rfl rfl rfl rfl (by kernel_rfl) (fun _ => rfl) fun b14 w15 a16 h17 hf18 hn19 => ?_
  clear h13
  refine nd_op ?_
  refine op_store tabOk2 {k := 2} (L' := [(3, ⟨[.int .u16 0, .int .u32 0], ty3, true⟩), (b2, ⟨[.int .u8 6, .int .u32 ev.pick, .int .u64 ev.draw, .int .u32 ev.addr, .int .u32 ev.node, .int .u32 ev.dst, .int .u32 ev.xfer, .int .u8 ev.ty, .int .u64 ev.arg, .int .u64 ev.badge, .slice xo ev.ws.length cx], 35, false⟩), (b14, ⟨[.int .u16 ((Z.ky x).idx), .int .u32 ((Z.ky x).gen)], 39, false⟩)]) (φ := b14 = b14 ∧ Nat.ble (0 + 2) 2 = true) h17 rfl rfl rfl (by kernel_rfl) ⟨rfl, rfl⟩ fun w20 h21 => ?_
  clear h17
  refine nd_done ?_
  refine hK10 _ _ ?_
  clear hK10
  refine wp_seq_k fun K22 hK22 => ?_
  refine dr_start (KB := [3, b2, b14, mb, Z.tb]) (Bi := [[0, 1, 2, 3, 4], [0, 1, 2, 3, 4], [0, 1, 2, 3, 4], [0, 1, 2, 3, 4], [0, 1, 2, 3, 4], [0, 1, 2, 3, 4], [0, 1, 2, 3, 4]]) mixed h21 fun w23 h24 => ?_
  clear h21
  refine dr_batch tabOk2 tabZ_ok2 (by repeat (first | with_reducible exact PF.body | with_reducible apply PF.inB | with_reducible apply PF.next)) [(0, {}), (1, {}), (2, {})] [6, 3, 0, 1, 4, 5, 48] (T' := [(6, .pointer (some ⟨b14, 0, none⟩)), (3, .pointer (some ⟨b2, 0, none⟩)), (0, .pointer (some ⟨mb, 0, none⟩)), (1, .agg #[.int .u8 6, .int .u32 ev.pick, .int .u64 ev.draw, .int .u32 ev.addr, .int .u32 ev.node, .int .u32 ev.dst, .int .u32 ev.xfer, .int .u8 ev.ty, .int .u64 ev.arg, .int .u64 ev.badge, .slice xo ev.ws.length cx]), (4, .int .u8 0), (5, .bool false), (48, .pointer (some ⟨mb, 2, none⟩))]) (φ := True) (fuel := 4) h24 (by kernel_rfl) rfl (by kernel_rfl) (by kernel_rfl) ⟨trivial, trivial, trivial, trivial⟩ trivial fun a26 h27 => ?_
  clear h24
  refine dr_read (i := 3) (b := mb) (p := 3) (v := .map (some Z.tb)) (fuel := 3) (by repeat (first | with_reducible exact PF.body | with_reducible apply PF.inB | with_reducible apply PF.next)) h27 rfl rfl rfl (by kernel_rfl) (by kernel_rfl) (by kernel_rfl) rfl (rd_m h27 (k := 2) (v := .map (some Z.tb)) rfl rfl rfl rfl (md_p ⟨rfl, trivial⟩)) ?_
  have h28 := h27.put (d := some 49) (v := .map (some Z.tb)) (T' := [(49, .map (some Z.tb)), (6, .pointer (some ⟨b14, 0, none⟩)), (3, .pointer (some ⟨b2, 0, none⟩)), (0, .pointer (some ⟨mb, 0, none⟩)), (1, .agg #[.int .u8 6, .int .u32 ev.pick, .int .u64 ev.draw, .int .u32 ev.addr, .int .u32 ev.node, .int .u32 ev.dst, .int .u32 ev.xfer, .int .u8 ev.ty, .int .u64 ev.arg, .int .u64 ev.badge, .slice xo ev.ws.length cx]), (4, .int .u8 0), (5, .bool false), (48, .pointer (some ⟨mb, 2, none⟩))]) rfl
  clear h27
  refine dr_batch tabOk2 tabZ_ok2 (by repeat (first | with_reducible exact PF.body | with_reducible apply PF.inB | with_reducible apply PF.next)) [(4, {k := 2, p := 2})] [49, 6, 3, 0, 1, 4, 5, 50] (T' := [(49, .map (some Z.tb)), (6, .pointer (some ⟨b14, 0, none⟩)), (3, .pointer (some ⟨b2, 0, none⟩)), (0, .pointer (some ⟨mb, 0, none⟩)), (1, .agg #[.int .u8 6, .int .u32 ev.pick, .int .u64 ev.draw, .int .u32 ev.addr, .int .u32 ev.node, .int .u32 ev.dst, .int .u32 ev.xfer, .int .u8 ev.ty, .int .u64 ev.arg, .int .u64 ev.badge, .slice xo ev.ws.length cx]), (4, .int .u8 0), (5, .bool false), (50, .agg #[.int .u16 ((Z.ky x).idx), .int .u32 ((Z.ky x).gen)])]) (φ := (b14 = b14 ∧ Nat.ble (0 + 2) 2 = true) ∧ True) (fuel := 2) h28 (by kernel_rfl) rfl (by kernel_rfl) (by kernel_rfl) ⟨rfl, trivial⟩ ⟨⟨rfl, rfl⟩, trivial⟩ fun a29 h30 => ?_
  clear h28
  refine dr_read (i := 5) (b := Z.tb) (p := 4) (v := .pointer (some ⟨(Z.tp x), 0, none⟩)) (fuel := 1) (by repeat (first | with_reducible exact PF.body | with_reducible apply PF.inB | with_reducible apply PF.next)) h30 rfl rfl rfl (by kernel_rfl) (by kernel_rfl) (by kernel_rfl) rfl (rd_T h30 (x := x) hx rfl rfl rfl) ?_
  have h31 := h30.put (d := some 51) (v := .pointer (some ⟨(Z.tp x), 0, none⟩)) (T' := [(51, .pointer (some ⟨(Z.tp x), 0, none⟩)), (49, .map (some Z.tb)), (6, .pointer (some ⟨b14, 0, none⟩)), (3, .pointer (some ⟨b2, 0, none⟩)), (0, .pointer (some ⟨mb, 0, none⟩)), (1, .agg #[.int .u8 6, .int .u32 ev.pick, .int .u64 ev.draw, .int .u32 ev.addr, .int .u32 ev.node, .int .u32 ev.dst, .int .u32 ev.xfer, .int .u8 ev.ty, .int .u64 ev.arg, .int .u64 ev.badge, .slice xo ev.ws.length cx]), (4, .int .u8 0), (5, .bool false), (50, .agg #[.int .u16 ((Z.ky x).idx), .int .u32 ((Z.ky x).gen)])]) rfl
  clear h30
  refine dr_batch tabOk2 tabZ_ok2 (by repeat (first | with_reducible exact PF.body | with_reducible apply PF.inB | with_reducible apply PF.next)) [(6, {})] [6, 3, 0, 1, 4, 5, 7] (T' := [(6, .pointer (some ⟨b14, 0, none⟩)), (3, .pointer (some ⟨b2, 0, none⟩)), (0, .pointer (some ⟨mb, 0, none⟩)), (1, .agg #[.int .u8 6, .int .u32 ev.pick, .int .u64 ev.draw, .int .u32 ev.addr, .int .u32 ev.node, .int .u32 ev.dst, .int .u32 ev.xfer, .int .u8 ev.ty, .int .u64 ev.arg, .int .u64 ev.badge, .slice xo ev.ws.length cx]), (4, .int .u8 0), (5, .bool false), (7, .pointer (some ⟨(Z.tp x), 0, none⟩))]) (φ := True) (fuel := 0) h31 (by kernel_rfl) rfl (by kernel_rfl) (by kernel_rfl) ⟨trivial, trivial⟩ trivial fun a32 h33 => ?_
  clear h31
  refine wpAnyK_done (by kernel_rfl) ?_ _
  refine hK22 _ _ ?_
  clear hK22
  refine wp_seq_k fun K34 hK34 => ?_
  refine wp_seq_k fun K35 hK35 => ?_
  refine nd_start (l := [0, 1]) rfl ?_
  refine nd_batch tabOk2 tabZ_ok2 [(0, {}), (1, {k := 1})] [6, 3, 0, 1, 4, 5, 7, 53] (T' := [(6, .pointer (some ⟨b14, 0, none⟩)), (3, .pointer (some ⟨b2, 0, none⟩)), (0, .pointer (some ⟨mb, 0, none⟩)), (1, .agg #[.int .u8 6, .int .u32 ev.pick, .int .u64 ev.draw, .int .u32 ev.addr, .int .u32 ev.node, .int .u32 ev.dst, .int .u32 ev.xfer, .int .u8 ev.ty, .int .u64 ev.arg, .int .u64 ev.badge, .slice xo ev.ws.length cx]), (4, .int .u8 0), (5, .bool false), (7, .pointer (some ⟨(Z.tp x), 0, none⟩)), (53, .int .u8 6)]) (φ := (b2 = b2 ∧ Nat.ble (0 + 1) 11 = true) ∧ True) (rest := []) h33 (by kernel_rfl) rfl ⟨⟨rfl, rfl⟩, trivial⟩ fun a36 h37 => ?_
  clear h33
  refine nd_done ?_
  refine hK35 _ _ ?_
  clear hK35
  refine wp_block ?_
  refine wp_seq_k fun K38 hK38 => ?_
  refine nd_start (l := [0, 1]) rfl ?_
  refine nd_batch tabOk2 tabZ_ok2 [(0, {}), (1, {})] [6, 3, 0, 1, 4, 5, 7, 53, 54] (T' := [(6, .pointer (some ⟨b14, 0, none⟩)), (3, .pointer (some ⟨b2, 0, none⟩)), (0, .pointer (some ⟨mb, 0, none⟩)), (1, .agg #[.int .u8 6, .int .u32 ev.pick, .int .u64 ev.draw, .int .u32 ev.addr, .int .u32 ev.node, .int .u32 ev.dst, .int .u32 ev.xfer, .int .u8 ev.ty, .int .u64 ev.arg, .int .u64 ev.badge, .slice xo ev.ws.length cx]), (4, .int .u8 0), (5, .bool false), (7, .pointer (some ⟨(Z.tp x), 0, none⟩)), (53, .int .u8 6), (54, .bool false)]) (φ := True) (rest := []) h37 (by kernel_rfl) rfl trivial fun a39 h40 => ?_
  clear h37
  refine nd_done ?_
  refine hK38 _ _ ?_
  clear hK38
  refine c_false h40 rfl ?_
  refine wp_seq_k fun K41 hK41 => ?_
  refine nd_start (l := [0, 1]) rfl ?_
  refine nd_batch tabOk2 tabZ_ok2 [(0, {}), (1, {})] [6, 3, 0, 1, 4, 5, 7, 53, 59] (T' := [(6, .pointer (some ⟨b14, 0, none⟩)), (3, .pointer (some ⟨b2, 0, none⟩)), (0, .pointer (some ⟨mb, 0, none⟩)), (1, .agg #[.int .u8 6, .int .u32 ev.pick, .int .u64 ev.draw, .int .u32 ev.addr, .int .u32 ev.node, .int .u32 ev.dst, .int .u32 ev.xfer, .int .u8 ev.ty, .int .u64 ev.arg, .int .u64 ev.badge, .slice xo ev.ws.length cx]), (4, .int .u8 0), (5, .bool false), (7, .pointer (some ⟨(Z.tp x), 0, none⟩)), (53, .int .u8 6), (59, .bool false)]) (φ := True) (rest := []) h40 (by kernel_rfl) rfl trivial fun a42 h43 => ?_
  clear h40
  refine nd_done ?_
  refine hK41 _ _ ?_
  clear hK41
  refine c_false h43 rfl ?_
  refine wp_seq_k fun K44 hK44 => ?_
  refine wp_seq_k fun K45 hK45 => ?_
  refine nd_start (l := [0, 1]) rfl ?_
  refine nd_batch tabOk2 tabZ_ok2 [(0, {}), (1, {})] [6, 3, 0, 1, 4, 5, 7, 53, 66] (T' := [(6, .pointer (some ⟨b14, 0, none⟩)), (3, .pointer (some ⟨b2, 0, none⟩)), (0, .pointer (some ⟨mb, 0, none⟩)), (1, .agg #[.int .u8 6, .int .u32 ev.pick, .int .u64 ev.draw, .int .u32 ev.addr, .int .u32 ev.node, .int .u32 ev.dst, .int .u32 ev.xfer, .int .u8 ev.ty, .int .u64 ev.arg, .int .u64 ev.badge, .slice xo ev.ws.length cx]), (4, .int .u8 0), (5, .bool false), (7, .pointer (some ⟨(Z.tp x), 0, none⟩)), (53, .int .u8 6), (66, .bool false)]) (φ := True) (rest := []) h43 (by kernel_rfl) rfl trivial fun a46 h47 => ?_
  clear h43
  refine nd_done ?_
  refine hK45 _ _ ?_
  clear hK45
  refine c_false h47 rfl ?_
  refine nd_start (l := [0, 1]) rfl ?_
  refine nd_batch tabOk2 tabZ_ok2 [(0, {}), (1, {})] [6, 3, 0, 1, 4, 5, 7, 53, 66] (T' := [(6, .pointer (some ⟨b14, 0, none⟩)), (3, .pointer (some ⟨b2, 0, none⟩)), (0, .pointer (some ⟨mb, 0, none⟩)), (1, .agg #[.int .u8 6, .int .u32 ev.pick, .int .u64 ev.draw, .int .u32 ev.addr, .int .u32 ev.node, .int .u32 ev.dst, .int .u32 ev.xfer, .int .u8 ev.ty, .int .u64 ev.arg, .int .u64 ev.badge, .slice xo ev.ws.length cx]), (4, .int .u8 0), (5, .bool false), (7, .pointer (some ⟨(Z.tp x), 0, none⟩)), (53, .int .u8 6), (66, .bool false)]) (φ := True) (rest := []) h47 (by kernel_rfl) rfl trivial fun a48 h49 => ?_
  clear h47
  refine nd_done ?_
  refine hK44 _ _ ?_
  clear hK44
  refine c_false h49 rfl ?_
  refine wp_seq_k fun K50 hK50 => ?_
  refine nd_start (l := [0, 1]) rfl ?_
  refine nd_batch tabOk2 tabZ_ok2 [(0, {}), (1, {})] [6, 3, 0, 1, 4, 5, 7, 53, 66, 129] (T' := [(6, .pointer (some ⟨b14, 0, none⟩)), (3, .pointer (some ⟨b2, 0, none⟩)), (0, .pointer (some ⟨mb, 0, none⟩)), (1, .agg #[.int .u8 6, .int .u32 ev.pick, .int .u64 ev.draw, .int .u32 ev.addr, .int .u32 ev.node, .int .u32 ev.dst, .int .u32 ev.xfer, .int .u8 ev.ty, .int .u64 ev.arg, .int .u64 ev.badge, .slice xo ev.ws.length cx]), (4, .int .u8 0), (5, .bool false), (7, .pointer (some ⟨(Z.tp x), 0, none⟩)), (53, .int .u8 6), (66, .bool false), (129, .bool true)]) (φ := True) (rest := []) h49 (by kernel_rfl) rfl trivial fun a51 h52 => ?_
  clear h49
  refine nd_done ?_
  refine hK50 _ _ ?_
  clear hK50
  refine c_true h52 rfl ?_
  refine wp_seq_k fun K53 hK53 => ?_
  refine nd_start (l := [0, 1, 2, 3, 4, 5, 6, 7, 8, 9]) rfl ?_
  refine nd_batch tabOk2 tabZ_ok2 [(0, {}), (1, {}), (2, {k := 1})] [6, 3, 0, 1, 4, 5, 7, 53, 66, 132, 134] (T' := [(6, .pointer (some ⟨b14, 0, none⟩)), (3, .pointer (some ⟨b2, 0, none⟩)), (0, .pointer (some ⟨mb, 0, none⟩)), (1, .agg #[.int .u8 6, .int .u32 ev.pick, .int .u64 ev.draw, .int .u32 ev.addr, .int .u32 ev.node, .int .u32 ev.dst, .int .u32 ev.xfer, .int .u8 ev.ty, .int .u64 ev.arg, .int .u64 ev.badge, .slice xo ev.ws.length cx]), (4, .int .u8 0), (5, .bool false), (7, .pointer (some ⟨(Z.tp x), 0, none⟩)), (53, .int .u8 6), (66, .bool false), (132, .pointer (some ⟨mb, 0, none⟩)), (134, .int .u32 ev.addr)]) (φ := (b2 = b2 ∧ Nat.ble (3 + 1) 11 = true) ∧ True) (rest := [3, 4, 5, 6, 7, 8, 9]) h52 (by kernel_rfl) rfl ⟨⟨rfl, rfl⟩, trivial⟩ fun a54 h55 => ?_
  clear h52
  refine nd_op ?_
  refine op_call h55 rfl rfl rfl (callOk Tryd.func90 (by decide) rfl) (args := [.pointer (some ⟨mb, 0, none⟩), .int .u32 ev.addr, .int .u8 4, .int .u8 1]) rfl (capOf_ok mb Z _ a C x hx hcx hci hcn hI.ci ev.addr 4 1 he.addr _ (mh_of h55 hho (k := 0) rfl) hf) ?_
  rintro _ w56 ⟨rfl, hg58⟩
  refine ⟨_, rfl, ?_⟩
  have h59a := st_mg h55 hg58 (kcons (fun _ => rfl) (kcons (fun hq => by cases hq) (kcons (fun hq => by cases hq) knil)))
  have h59 := h59a.put (d := some 135) (v := .tuple #[.agg #[.int .u8 c.ty, .int .u16 c.obj.idx, .int .u32 c.obj.gen, .int .u8 c.rights, .int .u64 c.badge], .int .u8 k]) (T' := [(135, .tuple #[.agg #[.int .u8 c.ty, .int .u16 c.obj.idx, .int .u32 c.obj.gen, .int .u8 c.rights, .int .u64 c.badge], .int .u8 k]), (6, .pointer (some ⟨b14, 0, none⟩)), (3, .pointer (some ⟨b2, 0, none⟩)), (0, .pointer (some ⟨mb, 0, none⟩)), (1, .agg #[.int .u8 6, .int .u32 ev.pick, .int .u64 ev.draw, .int .u32 ev.addr, .int .u32 ev.node, .int .u32 ev.dst, .int .u32 ev.xfer, .int .u8 ev.ty, .int .u64 ev.arg, .int .u64 ev.badge, .slice xo ev.ws.length cx]), (4, .int .u8 0), (5, .bool false), (7, .pointer (some ⟨(Z.tp x), 0, none⟩)), (53, .int .u8 6), (66, .bool false), (132, .pointer (some ⟨mb, 0, none⟩)), (134, .int .u32 ev.addr)]) rfl
  have hhoh59 := hg58.mh.ho
  clear h55 h59a
  refine nd_batch tabOk2 tabZ_ok2 [(4, {}), (5, {}), (6, {})] [6, 3, 0, 1, 4, 5, 7, 53, 66, 136, 137] (T' := [(6, .pointer (some ⟨b14, 0, none⟩)), (3, .pointer (some ⟨b2, 0, none⟩)), (0, .pointer (some ⟨mb, 0, none⟩)), (1, .agg #[.int .u8 6, .int .u32 ev.pick, .int .u64 ev.draw, .int .u32 ev.addr, .int .u32 ev.node, .int .u32 ev.dst, .int .u32 ev.xfer, .int .u8 ev.ty, .int .u64 ev.arg, .int .u64 ev.badge, .slice xo ev.ws.length cx]), (4, .int .u8 0), (5, .bool false), (7, .pointer (some ⟨(Z.tp x), 0, none⟩)), (53, .int .u8 6), (66, .bool false), (136, .agg #[.int .u8 c.ty, .int .u16 c.obj.idx, .int .u32 c.obj.gen, .int .u8 c.rights, .int .u64 c.badge]), (137, .int .u8 k)]) (φ := True) (rest := [7, 8, 9]) h59 (by kernel_rfl) rfl trivial fun a60 h61 => ?_
  clear h59
  refine nd_op ?_
  refine op_new tabOk2 (cells := [.int .u8 0, .int .u16 0, .int .u32 0, .int .u8 0, .int .u64 0]) (ty := 49) (ln := none) (L1 := fun b62 => [(3, ⟨[.int .u16 0, .int .u32 0], ty3, true⟩), (b2, ⟨[.int .u8 6, .int .u32 ev.pick, .int .u64 ev.draw, .int .u32 ev.addr, .int .u32 ev.node, .int .u32 ev.dst, .int .u32 ev.xfer, .int .u8 ev.ty, .int .u64 ev.arg, .int .u64 ev.badge, .slice xo ev.ws.length cx], 35, false⟩), (b14, ⟨[.int .u16 ((Z.ky x).idx), .int .u32 ((Z.ky x).gen)], 39, false⟩), (b62, ⟨[.int .u8 0, .int .u16 0, .int .u32 0, .int .u8 0, .int .u64 0], 49, false⟩)]) h61 rfl rfl rfl rfl (by kernel_rfl) (fun _ => rfl) fun b62 w63 a64 h65 hf66 hn67 => ?_
  clear h61
  refine nd_op ?_
  refine op_store tabOk2 {k := 3} (L' := [(3, ⟨[.int .u16 0, .int .u32 0], ty3, true⟩), (b2, ⟨[.int .u8 6, .int .u32 ev.pick, .int .u64 ev.draw, .int .u32 ev.addr, .int .u32 ev.node, .int .u32 ev.dst, .int .u32 ev.xfer, .int .u8 ev.ty, .int .u64 ev.arg, .int .u64 ev.badge, .slice xo ev.ws.length cx], 35, false⟩), (b14, ⟨[.int .u16 ((Z.ky x).idx), .int .u32 ((Z.ky x).gen)], 39, false⟩), (b62, ⟨[.int .u8 c.ty, .int .u16 c.obj.idx, .int .u32 c.obj.gen, .int .u8 c.rights, .int .u64 c.badge], 49, false⟩)]) (φ := b62 = b62 ∧ Nat.ble (0 + 5) 5 = true) h65 rfl rfl rfl (by kernel_rfl) ⟨rfl, rfl⟩ fun w68 h69 => ?_
  clear h65
  refine nd_batch tabOk2 tabZ_ok2 [(9, {})] [11, 6, 3, 0, 1, 4, 5, 7, 53, 66, 12] (T' := [(11, .pointer (some ⟨b62, 0, none⟩)), (6, .pointer (some ⟨b14, 0, none⟩)), (3, .pointer (some ⟨b2, 0, none⟩)), (0, .pointer (some ⟨mb, 0, none⟩)), (1, .agg #[.int .u8 6, .int .u32 ev.pick, .int .u64 ev.draw, .int .u32 ev.addr, .int .u32 ev.node, .int .u32 ev.dst, .int .u32 ev.xfer, .int .u8 ev.ty, .int .u64 ev.arg, .int .u64 ev.badge, .slice xo ev.ws.length cx]), (4, .int .u8 0), (5, .bool false), (7, .pointer (some ⟨(Z.tp x), 0, none⟩)), (53, .int .u8 6), (66, .bool false), (12, .int .u8 k)]) (φ := True) (rest := []) h69 (by kernel_rfl) rfl trivial fun a70 h71 => ?_
  clear h69
  refine nd_done ?_
  refine hK53 _ _ ?_
  clear hK53
  refine wp_seq_k fun K72 hK72 => ?_
  refine wp_seq_k fun K73 hK73 => ?_
  refine nd_start (l := [0, 1]) rfl ?_
  refine nd_batch tabOk2 tabZ_ok2 [(0, {}), (1, {})] [11, 6, 3, 0, 1, 4, 5, 7, 53, 66, 12, 139] (T' := [(11, .pointer (some ⟨b62, 0, none⟩)), (6, .pointer (some ⟨b14, 0, none⟩)), (3, .pointer (some ⟨b2, 0, none⟩)), (0, .pointer (some ⟨mb, 0, none⟩)), (1, .agg #[.int .u8 6, .int .u32 ev.pick, .int .u64 ev.draw, .int .u32 ev.addr, .int .u32 ev.node, .int .u32 ev.dst, .int .u32 ev.xfer, .int .u8 ev.ty, .int .u64 ev.arg, .int .u64 ev.badge, .slice xo ev.ws.length cx]), (4, .int .u8 0), (5, .bool false), (7, .pointer (some ⟨(Z.tp x), 0, none⟩)), (53, .int .u8 6), (66, .bool false), (12, .int .u8 k), (139, .bool (k != 0))]) (φ := True) (rest := []) h71 (by kernel_rfl) rfl trivial fun a74 h75 => ?_
  clear h71
  refine nd_done ?_
  refine hK73 _ _ ?_
  clear hK73
  refine c_split h75 (b := (k != 0)) rfl (fun hc76 => ?_) (fun hc76 => ?_)
  ·
    have hc76f : k ≠ 0 := by simpa using hc76
    refine wp_seq_k fun K77 hK77 => ?_
    refine nd_start (l := [0, 1, 2]) rfl ?_
    refine nd_batch tabOk2 tabZ_ok2 [(0, {}), (1, {}), (2, {})] [11, 6, 3, 0, 1, 7, 53, 66, 12, 4, 5] (T' := [(11, .pointer (some ⟨b62, 0, none⟩)), (6, .pointer (some ⟨b14, 0, none⟩)), (3, .pointer (some ⟨b2, 0, none⟩)), (0, .pointer (some ⟨mb, 0, none⟩)), (1, .agg #[.int .u8 6, .int .u32 ev.pick, .int .u64 ev.draw, .int .u32 ev.addr, .int .u32 ev.node, .int .u32 ev.dst, .int .u32 ev.xfer, .int .u8 ev.ty, .int .u64 ev.arg, .int .u64 ev.badge, .slice xo ev.ws.length cx]), (7, .pointer (some ⟨(Z.tp x), 0, none⟩)), (53, .int .u8 6), (66, .bool false), (12, .int .u8 k), (4, .int .u8 k), (5, .bool false)]) (φ := True) (rest := []) h75 (by kernel_rfl) rfl trivial fun a78 h79 => ?_
    clear h75
    refine nd_done ?_
    refine hK77 _ _ ?_
    clear hK77
    refine wp_ret ?_
    try simp only [Exit.then, Exit.inBlock]
    try rw [if_pos trivial]
    exact s_ret tabOk2 tabZ_ok2 h79 [(.tmp 4, {}), (.tmp 5, {})] (vs := [.int .u8 k, .bool false]) (φ := True) rfl (by kernel_rfl) trivial ⟨rfl, _, mg_end hH h79 hhoh59 rfl⟩
  ·
    have hc76f : k = 0 := by simpa using hc76
    exact absurd hc76f hk0

theorem call6q (mb : Nat) (Z : MZ) (R : MR) (a : AK) (C : CP) (hI : MI Z a C) (x : Nat) (hx : x ∈ sl Z.tl) (hcu : a.cur = (x : Int)) (ev : Ev) (he : EvOk ev) (xo : Option Addr) (cx : Nat) (i : Nat) (hi : i ∈ sl Z.ql) (ct rt bd cs0 : Int) (hf : findA a C ev.addr 4 1 = (⟨ct, Z.ky i, rt, bd⟩, cs0, 0)) (a5 : AK) (h5 : a5 = a.setT x { a.th x with dst := ev.dst }) (ho : oldestA a5 (Z.ky i) 3 = -1) (w : World) (hH : MH mb Z R a C w) (hws : WordsAt (mdF mb Z R C) w xo ev.ws) :
    Calls Tryd.prog 55 #[.pointer (some ⟨mb, 0, none⟩), .agg #[.int .u8 6, .int .u32 ev.pick, .int .u64 ev.draw, .int .u32 ev.addr, .int .u32 ev.node, .int .u32 ev.dst, .int .u32 ev.xfer, .int .u8 ev.ty, .int .u64 ev.arg, .int .u64 ev.badge, .slice xo ev.ws.length cx]] w fun e w' => e = .returned (.tuple #[.int .u8 0, .bool false]) ∧ ∃ R', MG mb Z R C w Z R' (blockA a5 x 4 (Z.ky i)) C w' := by
  have hP := hI.mp
  have hcx : curR Z a = Z.ky x := curR_of hcu
  have hcn : a.cur.toNat = x := by rw [hcu]; exact Int.toNat_natCast x
  have hci := (hI.tk x hx).ci
  have hf5 : firstR Z a5 i 3 = ⟨0, 0⟩ := by rw [firstR_old hH.md.k (hH.md.k.qx i hi), ho]; rfl
  obtain ⟨ty3, hg3⟩ := hH.g3
  have hho := hH.ho
  have hkk := hH.md.k
  refine enter (n := 628) (K := mdF mb Z R C) (A := MD (mdF mb Z R C) w.heap.size mb Z R a C) (F := mdF mb Z R C) (T := [(0, .pointer (some ⟨mb, 0, none⟩)), (1, .agg #[.int .u8 6, .int .u32 ev.pick, .int .u64 ev.draw, .int .u32 ev.addr, .int .u32 ev.node, .int .u32 ev.dst, .int .u32 ev.xfer, .int .u8 ev.ty, .int .u64 ev.arg, .int .u64 ev.badge, .slice xo ev.ws.length cx])]) (L := [(3, ⟨[.int .u16 0, .int .u32 0], ty3, true⟩)]) (args := [.pointer (some ⟨mb, 0, none⟩), .agg #[.int .u8 6, .int .u32 ev.pick, .int .u64 ev.draw, .int .u32 ev.addr, .int .u32 ev.node, .int .u32 ev.dst, .int .u32 ev.xfer, .int .u8 ev.ty, .int .u64 ev.arg, .int .u64 ev.badge, .slice xo ev.ws.length cx]]) Tryd.func55 rfl rfl rfl rfl (kcons hg3 knil) (by simp) (kcons (by intro hq; cases hq) knil) hH.mD MD.stable hH.md.low (kcons (by intro hq; cases hq) knil) ?_
  intro ac h
  refine wp_seq_k fun K1 hK1 => ?_
  refine nd_start (l := [0, 1, 2]) rfl ?_
  refine nd_op ?_
  refine op_new tabOk2 (cells := [.int .u8 6, .int .u32 ev.pick, .int .u64 ev.draw, .int .u32 ev.addr, .int .u32 ev.node, .int .u32 ev.dst, .int .u32 ev.xfer, .int .u8 ev.ty, .int .u64 ev.arg, .int .u64 ev.badge, .slice xo ev.ws.length cx]) (ty := 35) (ln := none) (L1 := fun b2 => [(3, ⟨[.int .u16 0, .int .u32 0], ty3, true⟩), (b2, ⟨[.int .u8 6, .int .u32 ev.pick, .int .u64 ev.draw, .int .u32 ev.addr, .int .u32 ev.node, .int .u32 ev.dst, .int .u32 ev.xfer, .int .u8 ev.ty, .int .u64 ev.arg, .int .u64 ev.badge, .slice xo ev.ws.length cx], 35, false⟩)]) h rfl rfl rfl rfl (by kernel_rfl) (fun _ => rfl) fun b2 w3 a4 h5 hf6 hn7 => ?_
  clear h
  refine nd_batch tabOk2 tabZ_ok2 [(1, {}), (2, {})] [3, 0, 1, 4, 5] (T' := [(3, .pointer (some ⟨b2, 0, none⟩)), (0, .pointer (some ⟨mb, 0, none⟩)), (1, .agg #[.int .u8 6, .int .u32 ev.pick, .int .u64 ev.draw, .int .u32 ev.addr, .int .u32 ev.node, .int .u32 ev.dst, .int .u32 ev.xfer, .int .u8 ev.ty, .int .u64 ev.arg, .int .u64 ev.badge, .slice xo ev.ws.length cx]), (4, .int .u8 0), (5, .bool false)]) (φ := True) (rest := []) h5 (by kernel_rfl) rfl trivial fun a8 h9 => ?_
  clear h5
  refine nd_done ?_
  refine hK1 _ _ ?_
  clear hK1
  refine wp_seq_k fun K10 hK10 => ?_
  refine nd_start (l := [0, 1, 2, 3, 4, 5]) rfl ?_
  refine nd_batch tabOk2 tabZ_ok2 [(0, {}), (1, {}), (2, {})] [3, 0, 1, 4, 5, 44] (T' := [(3, .pointer (some ⟨b2, 0, none⟩)), (0, .pointer (some ⟨mb, 0, none⟩)), (1, .agg #[.int .u8 6, .int .u32 ev.pick, .int .u64 ev.draw, .int .u32 ev.addr, .int .u32 ev.node, .int .u32 ev.dst, .int .u32 ev.xfer, .int .u8 ev.ty, .int .u64 ev.arg, .int .u64 ev.badge, .slice xo ev.ws.length cx]), (4, .int .u8 0), (5, .bool false), (44, .pointer (some ⟨mb, 13, none⟩))]) (φ := True) (rest := [3, 4, 5]) h9 (by kernel_rfl) rfl trivial fun a11 h12 => ?_
  clear h9
  refine nd_op ?_
  refine op_read (b := mb) (v := .agg #[.int .u16 ((Z.ky x).idx), .int .u32 ((Z.ky x).gen)]) h12 rfl rfl (rd_mA h12 (k := 13) (vs := [.int .u16 ((Z.ky x).idx), .int .u32 ((Z.ky x).gen)]) rfl rfl rfl rfl rfl (by rw [← hcx]; exact md_cur)) ?_
  have h13 := h12.put (d := some 45) (v := .agg #[.int .u16 ((Z.ky x).idx), .int .u32 ((Z.ky x).gen)]) (T' := [(45, .agg #[.int .u16 ((Z.ky x).idx), .int .u32 ((Z.ky x).gen)]), (3, .pointer (some ⟨b2, 0, none⟩)), (0, .pointer (some ⟨mb, 0, none⟩)), (1, .agg #[.int .u8 6, .int .u32 ev.pick, .int .u64 ev.draw, .int .u32 ev.addr, .int .u32 ev.node, .int .u32 ev.dst, .int .u32 ev.xfer, .int .u8 ev.ty, .int .u64 ev.arg, .int .u64 ev.badge, .slice xo ev.ws.length cx]), (4, .int .u8 0), (5, .bool false), (44, .pointer (some ⟨mb, 13, none⟩))]) rfl
  clear h12
  refine nd_op ?_
  refine op_new tabOk2 (cells := [.int .u16 0, .int .u32 0]) (ty := 39) (ln := none) (L1 := fun b14 => [(3, ⟨[.int .u16 0, .int .u32 0], ty3, true⟩), (b2, ⟨[.int .u8 6, .int .u32 ev.pick, .int .u64 ev.draw, .int .u32 ev.addr, .int .u32 ev.node, .int .u32 ev.dst, .int .u32 ev.xfer, .int .u8 ev.ty, .int .u64 ev.arg, .int .u64 ev.badge, .slice xo ev.ws.length cx], 35, false⟩), (b14, ⟨[.int .u16 0, .int .u32 0], 39, false⟩)]) h13 rfl rfl rfl rfl (by kernel_rfl) (fun _ => rfl) fun b14 w15 a16 h17 hf18 hn19 => ?_
  clear h13
  refine nd_op ?_
  refine op_store tabOk2 {k := 2} (L' := [(3, ⟨[.int .u16 0, .int .u32 0], ty3, true⟩), (b2, ⟨[.int .u8 6, .int .u32 ev.pick, .int .u64 ev.draw, .int .u32 ev.addr, .int .u32 ev.node, .int .u32 ev.dst, .int .u32 ev.xfer, .int .u8 ev.ty, .int .u64 ev.arg, .int .u64 ev.badge, .slice xo ev.ws.length cx], 35, false⟩), (b14, ⟨[.int .u16 ((Z.ky x).idx), .int .u32 ((Z.ky x).gen)], 39, false⟩)]) (φ := b14 = b14 ∧ Nat.ble (0 + 2) 2 = true) h17 rfl rfl rfl (by kernel_rfl) ⟨rfl, rfl⟩ fun w20 h21 => ?_
  clear h17
  refine nd_done ?_
  refine hK10 _ _ ?_
  clear hK10
  refine wp_seq_k fun K22 hK22 => ?_
  refine dr_start (KB := [3, b2, b14, mb, Z.tb]) (Bi := [[0, 1, 2, 3, 4], [0, 1, 2, 3, 4], [0, 1, 2, 3, 4], [0, 1, 2, 3, 4], [0, 1, 2, 3, 4], [0, 1, 2, 3, 4], [0, 1, 2, 3, 4]]) mixed h21 fun w23 h24 => ?_
  clear h21
  refine dr_batch tabOk2 tabZ_ok2 (by repeat (first | with_reducible exact PF.body | with_reducible apply PF.inB | with_reducible apply PF.next)) [(0, {}), (1, {}), (2, {})] [6, 3, 0, 1, 4, 5, 48] (T' := [(6, .pointer (some ⟨b14, 0, none⟩)), (3, .pointer (some ⟨b2, 0, none⟩)), (0, .pointer (some ⟨mb, 0, none⟩)), (1, .agg #[.int .u8 6, .int .u32 ev.pick, .int .u64 ev.draw, .int .u32 ev.addr, .int .u32 ev.node, .int .u32 ev.dst, .int .u32 ev.xfer, .int .u8 ev.ty, .int .u64 ev.arg, .int .u64 ev.badge, .slice xo ev.ws.length cx]), (4, .int .u8 0), (5, .bool false), (48, .pointer (some ⟨mb, 2, none⟩))]) (φ := True) (fuel := 4) h24 (by kernel_rfl) rfl (by kernel_rfl) (by kernel_rfl) ⟨trivial, trivial, trivial, trivial⟩ trivial fun a26 h27 => ?_
  clear h24
  refine dr_read (i := 3) (b := mb) (p := 3) (v := .map (some Z.tb)) (fuel := 3) (by repeat (first | with_reducible exact PF.body | with_reducible apply PF.inB | with_reducible apply PF.next)) h27 rfl rfl rfl (by kernel_rfl) (by kernel_rfl) (by kernel_rfl) rfl (rd_m h27 (k := 2) (v := .map (some Z.tb)) rfl rfl rfl rfl (md_p ⟨rfl, trivial⟩)) ?_
  have h28 := h27.put (d := some 49) (v := .map (some Z.tb)) (T' := [(49, .map (some Z.tb)), (6, .pointer (some ⟨b14, 0, none⟩)), (3, .pointer (some ⟨b2, 0, none⟩)), (0, .pointer (some ⟨mb, 0, none⟩)), (1, .agg #[.int .u8 6, .int .u32 ev.pick, .int .u64 ev.draw, .int .u32 ev.addr, .int .u32 ev.node, .int .u32 ev.dst, .int .u32 ev.xfer, .int .u8 ev.ty, .int .u64 ev.arg, .int .u64 ev.badge, .slice xo ev.ws.length cx]), (4, .int .u8 0), (5, .bool false), (48, .pointer (some ⟨mb, 2, none⟩))]) rfl
  clear h27
  refine dr_batch tabOk2 tabZ_ok2 (by repeat (first | with_reducible exact PF.body | with_reducible apply PF.inB | with_reducible apply PF.next)) [(4, {k := 2, p := 2})] [49, 6, 3, 0, 1, 4, 5, 50] (T' := [(49, .map (some Z.tb)), (6, .pointer (some ⟨b14, 0, none⟩)), (3, .pointer (some ⟨b2, 0, none⟩)), (0, .pointer (some ⟨mb, 0, none⟩)), (1, .agg #[.int .u8 6, .int .u32 ev.pick, .int .u64 ev.draw, .int .u32 ev.addr, .int .u32 ev.node, .int .u32 ev.dst, .int .u32 ev.xfer, .int .u8 ev.ty, .int .u64 ev.arg, .int .u64 ev.badge, .slice xo ev.ws.length cx]), (4, .int .u8 0), (5, .bool false), (50, .agg #[.int .u16 ((Z.ky x).idx), .int .u32 ((Z.ky x).gen)])]) (φ := (b14 = b14 ∧ Nat.ble (0 + 2) 2 = true) ∧ True) (fuel := 2) h28 (by kernel_rfl) rfl (by kernel_rfl) (by kernel_rfl) ⟨rfl, trivial⟩ ⟨⟨rfl, rfl⟩, trivial⟩ fun a29 h30 => ?_
  clear h28
  refine dr_read (i := 5) (b := Z.tb) (p := 4) (v := .pointer (some ⟨(Z.tp x), 0, none⟩)) (fuel := 1) (by repeat (first | with_reducible exact PF.body | with_reducible apply PF.inB | with_reducible apply PF.next)) h30 rfl rfl rfl (by kernel_rfl) (by kernel_rfl) (by kernel_rfl) rfl (rd_T h30 (x := x) hx rfl rfl rfl) ?_
  have h31 := h30.put (d := some 51) (v := .pointer (some ⟨(Z.tp x), 0, none⟩)) (T' := [(51, .pointer (some ⟨(Z.tp x), 0, none⟩)), (49, .map (some Z.tb)), (6, .pointer (some ⟨b14, 0, none⟩)), (3, .pointer (some ⟨b2, 0, none⟩)), (0, .pointer (some ⟨mb, 0, none⟩)), (1, .agg #[.int .u8 6, .int .u32 ev.pick, .int .u64 ev.draw, .int .u32 ev.addr, .int .u32 ev.node, .int .u32 ev.dst, .int .u32 ev.xfer, .int .u8 ev.ty, .int .u64 ev.arg, .int .u64 ev.badge, .slice xo ev.ws.length cx]), (4, .int .u8 0), (5, .bool false), (50, .agg #[.int .u16 ((Z.ky x).idx), .int .u32 ((Z.ky x).gen)])]) rfl
  clear h30
  refine dr_batch tabOk2 tabZ_ok2 (by repeat (first | with_reducible exact PF.body | with_reducible apply PF.inB | with_reducible apply PF.next)) [(6, {})] [6, 3, 0, 1, 4, 5, 7] (T' := [(6, .pointer (some ⟨b14, 0, none⟩)), (3, .pointer (some ⟨b2, 0, none⟩)), (0, .pointer (some ⟨mb, 0, none⟩)), (1, .agg #[.int .u8 6, .int .u32 ev.pick, .int .u64 ev.draw, .int .u32 ev.addr, .int .u32 ev.node, .int .u32 ev.dst, .int .u32 ev.xfer, .int .u8 ev.ty, .int .u64 ev.arg, .int .u64 ev.badge, .slice xo ev.ws.length cx]), (4, .int .u8 0), (5, .bool false), (7, .pointer (some ⟨(Z.tp x), 0, none⟩))]) (φ := True) (fuel := 0) h31 (by kernel_rfl) rfl (by kernel_rfl) (by kernel_rfl) ⟨trivial, trivial⟩ trivial fun a32 h33 => ?_
  clear h31
  refine wpAnyK_done (by kernel_rfl) ?_ _
  refine hK22 _ _ ?_
  clear hK22
  refine wp_seq_k fun K34 hK34 => ?_
  refine wp_seq_k fun K35 hK35 => ?_
  refine nd_start (l := [0, 1]) rfl ?_
  refine nd_batch tabOk2 tabZ_ok2 [(0, {}), (1, {k := 1})] [6, 3, 0, 1, 4, 5, 7, 53] (T' := [(6, .pointer (some ⟨b14, 0, none⟩)), (3, .pointer (some ⟨b2, 0, none⟩)), (0, .pointer (some ⟨mb, 0, none⟩)), (1, .agg #[.int .u8 6, .int .u32 ev.pick, .int .u64 ev.draw, .int .u32 ev.addr, .int .u32 ev.node, .int .u32 ev.dst, .int .u32 ev.xfer, .int .u8 ev.ty, .int .u64 ev.arg, .int .u64 ev.badge, .slice xo ev.ws.length cx]), (4, .int .u8 0), (5, .bool false), (7, .pointer (some ⟨(Z.tp x), 0, none⟩)), (53, .int .u8 6)]) (φ := (b2 = b2 ∧ Nat.ble (0 + 1) 11 = true) ∧ True) (rest := []) h33 (by kernel_rfl) rfl ⟨⟨rfl, rfl⟩, trivial⟩ fun a36 h37 => ?_
  clear h33
  refine nd_done ?_
  refine hK35 _ _ ?_
  clear hK35
  refine wp_block ?_
  refine wp_seq_k fun K38 hK38 => ?_
  refine nd_start (l := [0, 1]) rfl ?_
  refine nd_batch tabOk2 tabZ_ok2 [(0, {}), (1, {})] [6, 3, 0, 1, 4, 5, 7, 53, 54] (T' := [(6, .pointer (some ⟨b14, 0, none⟩)), (3, .pointer (some ⟨b2, 0, none⟩)), (0, .pointer (some ⟨mb, 0, none⟩)), (1, .agg #[.int .u8 6, .int .u32 ev.pick, .int .u64 ev.draw, .int .u32 ev.addr, .int .u32 ev.node, .int .u32 ev.dst, .int .u32 ev.xfer, .int .u8 ev.ty, .int .u64 ev.arg, .int .u64 ev.badge, .slice xo ev.ws.length cx]), (4, .int .u8 0), (5, .bool false), (7, .pointer (some ⟨(Z.tp x), 0, none⟩)), (53, .int .u8 6), (54, .bool false)]) (φ := True) (rest := []) h37 (by kernel_rfl) rfl trivial fun a39 h40 => ?_
  clear h37
  refine nd_done ?_
  refine hK38 _ _ ?_
  clear hK38
  refine c_false h40 rfl ?_
  refine wp_seq_k fun K41 hK41 => ?_
  refine nd_start (l := [0, 1]) rfl ?_
  refine nd_batch tabOk2 tabZ_ok2 [(0, {}), (1, {})] [6, 3, 0, 1, 4, 5, 7, 53, 59] (T' := [(6, .pointer (some ⟨b14, 0, none⟩)), (3, .pointer (some ⟨b2, 0, none⟩)), (0, .pointer (some ⟨mb, 0, none⟩)), (1, .agg #[.int .u8 6, .int .u32 ev.pick, .int .u64 ev.draw, .int .u32 ev.addr, .int .u32 ev.node, .int .u32 ev.dst, .int .u32 ev.xfer, .int .u8 ev.ty, .int .u64 ev.arg, .int .u64 ev.badge, .slice xo ev.ws.length cx]), (4, .int .u8 0), (5, .bool false), (7, .pointer (some ⟨(Z.tp x), 0, none⟩)), (53, .int .u8 6), (59, .bool false)]) (φ := True) (rest := []) h40 (by kernel_rfl) rfl trivial fun a42 h43 => ?_
  clear h40
  refine nd_done ?_
  refine hK41 _ _ ?_
  clear hK41
  refine c_false h43 rfl ?_
  refine wp_seq_k fun K44 hK44 => ?_
  refine wp_seq_k fun K45 hK45 => ?_
  refine nd_start (l := [0, 1]) rfl ?_
  refine nd_batch tabOk2 tabZ_ok2 [(0, {}), (1, {})] [6, 3, 0, 1, 4, 5, 7, 53, 66] (T' := [(6, .pointer (some ⟨b14, 0, none⟩)), (3, .pointer (some ⟨b2, 0, none⟩)), (0, .pointer (some ⟨mb, 0, none⟩)), (1, .agg #[.int .u8 6, .int .u32 ev.pick, .int .u64 ev.draw, .int .u32 ev.addr, .int .u32 ev.node, .int .u32 ev.dst, .int .u32 ev.xfer, .int .u8 ev.ty, .int .u64 ev.arg, .int .u64 ev.badge, .slice xo ev.ws.length cx]), (4, .int .u8 0), (5, .bool false), (7, .pointer (some ⟨(Z.tp x), 0, none⟩)), (53, .int .u8 6), (66, .bool false)]) (φ := True) (rest := []) h43 (by kernel_rfl) rfl trivial fun a46 h47 => ?_
  clear h43
  refine nd_done ?_
  refine hK45 _ _ ?_
  clear hK45
  refine c_false h47 rfl ?_
  refine nd_start (l := [0, 1]) rfl ?_
  refine nd_batch tabOk2 tabZ_ok2 [(0, {}), (1, {})] [6, 3, 0, 1, 4, 5, 7, 53, 66] (T' := [(6, .pointer (some ⟨b14, 0, none⟩)), (3, .pointer (some ⟨b2, 0, none⟩)), (0, .pointer (some ⟨mb, 0, none⟩)), (1, .agg #[.int .u8 6, .int .u32 ev.pick, .int .u64 ev.draw, .int .u32 ev.addr, .int .u32 ev.node, .int .u32 ev.dst, .int .u32 ev.xfer, .int .u8 ev.ty, .int .u64 ev.arg, .int .u64 ev.badge, .slice xo ev.ws.length cx]), (4, .int .u8 0), (5, .bool false), (7, .pointer (some ⟨(Z.tp x), 0, none⟩)), (53, .int .u8 6), (66, .bool false)]) (φ := True) (rest := []) h47 (by kernel_rfl) rfl trivial fun a48 h49 => ?_
  clear h47
  refine nd_done ?_
  refine hK44 _ _ ?_
  clear hK44
  refine c_false h49 rfl ?_
  refine wp_seq_k fun K50 hK50 => ?_
  refine nd_start (l := [0, 1]) rfl ?_
  refine nd_batch tabOk2 tabZ_ok2 [(0, {}), (1, {})] [6, 3, 0, 1, 4, 5, 7, 53, 66, 129] (T' := [(6, .pointer (some ⟨b14, 0, none⟩)), (3, .pointer (some ⟨b2, 0, none⟩)), (0, .pointer (some ⟨mb, 0, none⟩)), (1, .agg #[.int .u8 6, .int .u32 ev.pick, .int .u64 ev.draw, .int .u32 ev.addr, .int .u32 ev.node, .int .u32 ev.dst, .int .u32 ev.xfer, .int .u8 ev.ty, .int .u64 ev.arg, .int .u64 ev.badge, .slice xo ev.ws.length cx]), (4, .int .u8 0), (5, .bool false), (7, .pointer (some ⟨(Z.tp x), 0, none⟩)), (53, .int .u8 6), (66, .bool false), (129, .bool true)]) (φ := True) (rest := []) h49 (by kernel_rfl) rfl trivial fun a51 h52 => ?_
  clear h49
  refine nd_done ?_
  refine hK50 _ _ ?_
  clear hK50
  refine c_true h52 rfl ?_
  refine wp_seq_k fun K53 hK53 => ?_
  refine nd_start (l := [0, 1, 2, 3, 4, 5, 6, 7, 8, 9]) rfl ?_
  refine nd_batch tabOk2 tabZ_ok2 [(0, {}), (1, {}), (2, {k := 1})] [6, 3, 0, 1, 4, 5, 7, 53, 66, 132, 134] (T' := [(6, .pointer (some ⟨b14, 0, none⟩)), (3, .pointer (some ⟨b2, 0, none⟩)), (0, .pointer (some ⟨mb, 0, none⟩)), (1, .agg #[.int .u8 6, .int .u32 ev.pick, .int .u64 ev.draw, .int .u32 ev.addr, .int .u32 ev.node, .int .u32 ev.dst, .int .u32 ev.xfer, .int .u8 ev.ty, .int .u64 ev.arg, .int .u64 ev.badge, .slice xo ev.ws.length cx]), (4, .int .u8 0), (5, .bool false), (7, .pointer (some ⟨(Z.tp x), 0, none⟩)), (53, .int .u8 6), (66, .bool false), (132, .pointer (some ⟨mb, 0, none⟩)), (134, .int .u32 ev.addr)]) (φ := (b2 = b2 ∧ Nat.ble (3 + 1) 11 = true) ∧ True) (rest := [3, 4, 5, 6, 7, 8, 9]) h52 (by kernel_rfl) rfl ⟨⟨rfl, rfl⟩, trivial⟩ fun a54 h55 => ?_
  clear h52
  refine nd_op ?_
  refine op_call h55 rfl rfl rfl (callOk Tryd.func90 (by decide) rfl) (args := [.pointer (some ⟨mb, 0, none⟩), .int .u32 ev.addr, .int .u8 4, .int .u8 1]) rfl (capOf_ok mb Z _ a C x hx hcx hci hcn hI.ci ev.addr 4 1 he.addr _ (mh_of h55 hho (k := 0) rfl) hf) ?_
  rintro _ w56 ⟨rfl, hg58⟩
  refine ⟨_, rfl, ?_⟩
  have h59a := st_mg h55 hg58 (kcons (fun _ => rfl) (kcons (fun hq => by cases hq) (kcons (fun hq => by cases hq) knil)))
  have h59 := h59a.put (d := some 135) (v := .tuple #[.agg #[.int .u8 ct, .int .u16 ((Z.ky i).idx), .int .u32 ((Z.ky i).gen), .int .u8 rt, .int .u64 bd], .int .u8 0]) (T' := [(135, .tuple #[.agg #[.int .u8 ct, .int .u16 ((Z.ky i).idx), .int .u32 ((Z.ky i).gen), .int .u8 rt, .int .u64 bd], .int .u8 0]), (6, .pointer (some ⟨b14, 0, none⟩)), (3, .pointer (some ⟨b2, 0, none⟩)), (0, .pointer (some ⟨mb, 0, none⟩)), (1, .agg #[.int .u8 6, .int .u32 ev.pick, .int .u64 ev.draw, .int .u32 ev.addr, .int .u32 ev.node, .int .u32 ev.dst, .int .u32 ev.xfer, .int .u8 ev.ty, .int .u64 ev.arg, .int .u64 ev.badge, .slice xo ev.ws.length cx]), (4, .int .u8 0), (5, .bool false), (7, .pointer (some ⟨(Z.tp x), 0, none⟩)), (53, .int .u8 6), (66, .bool false), (132, .pointer (some ⟨mb, 0, none⟩)), (134, .int .u32 ev.addr)]) rfl
  have hhoh59 := hg58.mh.ho
  clear h55 h59a
  refine nd_batch tabOk2 tabZ_ok2 [(4, {}), (5, {}), (6, {})] [6, 3, 0, 1, 4, 5, 7, 53, 66, 136, 137] (T' := [(6, .pointer (some ⟨b14, 0, none⟩)), (3, .pointer (some ⟨b2, 0, none⟩)), (0, .pointer (some ⟨mb, 0, none⟩)), (1, .agg #[.int .u8 6, .int .u32 ev.pick, .int .u64 ev.draw, .int .u32 ev.addr, .int .u32 ev.node, .int .u32 ev.dst, .int .u32 ev.xfer, .int .u8 ev.ty, .int .u64 ev.arg, .int .u64 ev.badge, .slice xo ev.ws.length cx]), (4, .int .u8 0), (5, .bool false), (7, .pointer (some ⟨(Z.tp x), 0, none⟩)), (53, .int .u8 6), (66, .bool false), (136, .agg #[.int .u8 ct, .int .u16 ((Z.ky i).idx), .int .u32 ((Z.ky i).gen), .int .u8 rt, .int .u64 bd]), (137, .int .u8 0)]) (φ := True) (rest := [7, 8, 9]) h59 (by kernel_rfl) rfl trivial fun a60 h61 => ?_
  clear h59
  refine nd_op ?_
  refine op_new tabOk2 (cells := [.int .u8 0, .int .u16 0, .int .u32 0, .int .u8 0, .int .u64 0]) (ty := 49) (ln := none) (L1 := fun b62 => [(3, ⟨[.int .u16 0, .int .u32 0], ty3, true⟩), (b2, ⟨[.int .u8 6, .int .u32 ev.pick, .int .u64 ev.draw, .int .u32 ev.addr, .int .u32 ev.node, .int .u32 ev.dst, .int .u32 ev.xfer, .int .u8 ev.ty, .int .u64 ev.arg, .int .u64 ev.badge, .slice xo ev.ws.length cx], 35, false⟩), (b14, ⟨[.int .u16 ((Z.ky x).idx), .int .u32 ((Z.ky x).gen)], 39, false⟩), (b62, ⟨[.int .u8 0, .int .u16 0, .int .u32 0, .int .u8 0, .int .u64 0], 49, false⟩)]) h61 rfl rfl rfl rfl (by kernel_rfl) (fun _ => rfl) fun b62 w63 a64 h65 hf66 hn67 => ?_
  clear h61
  refine nd_op ?_
  refine op_store tabOk2 {k := 3} (L' := [(3, ⟨[.int .u16 0, .int .u32 0], ty3, true⟩), (b2, ⟨[.int .u8 6, .int .u32 ev.pick, .int .u64 ev.draw, .int .u32 ev.addr, .int .u32 ev.node, .int .u32 ev.dst, .int .u32 ev.xfer, .int .u8 ev.ty, .int .u64 ev.arg, .int .u64 ev.badge, .slice xo ev.ws.length cx], 35, false⟩), (b14, ⟨[.int .u16 ((Z.ky x).idx), .int .u32 ((Z.ky x).gen)], 39, false⟩), (b62, ⟨[.int .u8 ct, .int .u16 ((Z.ky i).idx), .int .u32 ((Z.ky i).gen), .int .u8 rt, .int .u64 bd], 49, false⟩)]) (φ := b62 = b62 ∧ Nat.ble (0 + 5) 5 = true) h65 rfl rfl rfl (by kernel_rfl) ⟨rfl, rfl⟩ fun w68 h69 => ?_
  clear h65
  refine nd_batch tabOk2 tabZ_ok2 [(9, {})] [11, 6, 3, 0, 1, 4, 5, 7, 53, 66, 12] (T' := [(11, .pointer (some ⟨b62, 0, none⟩)), (6, .pointer (some ⟨b14, 0, none⟩)), (3, .pointer (some ⟨b2, 0, none⟩)), (0, .pointer (some ⟨mb, 0, none⟩)), (1, .agg #[.int .u8 6, .int .u32 ev.pick, .int .u64 ev.draw, .int .u32 ev.addr, .int .u32 ev.node, .int .u32 ev.dst, .int .u32 ev.xfer, .int .u8 ev.ty, .int .u64 ev.arg, .int .u64 ev.badge, .slice xo ev.ws.length cx]), (4, .int .u8 0), (5, .bool false), (7, .pointer (some ⟨(Z.tp x), 0, none⟩)), (53, .int .u8 6), (66, .bool false), (12, .int .u8 0)]) (φ := True) (rest := []) h69 (by kernel_rfl) rfl trivial fun a70 h71 => ?_
  clear h69
  refine nd_done ?_
  refine hK53 _ _ ?_
  clear hK53
  refine wp_seq_k fun K72 hK72 => ?_
  refine wp_seq_k fun K73 hK73 => ?_
  refine nd_start (l := [0, 1]) rfl ?_
  refine nd_batch tabOk2 tabZ_ok2 [(0, {}), (1, {})] [11, 6, 3, 0, 1, 4, 5, 7, 53, 66, 12, 139] (T' := [(11, .pointer (some ⟨b62, 0, none⟩)), (6, .pointer (some ⟨b14, 0, none⟩)), (3, .pointer (some ⟨b2, 0, none⟩)), (0, .pointer (some ⟨mb, 0, none⟩)), (1, .agg #[.int .u8 6, .int .u32 ev.pick, .int .u64 ev.draw, .int .u32 ev.addr, .int .u32 ev.node, .int .u32 ev.dst, .int .u32 ev.xfer, .int .u8 ev.ty, .int .u64 ev.arg, .int .u64 ev.badge, .slice xo ev.ws.length cx]), (4, .int .u8 0), (5, .bool false), (7, .pointer (some ⟨(Z.tp x), 0, none⟩)), (53, .int .u8 6), (66, .bool false), (12, .int .u8 0), (139, .bool false)]) (φ := True) (rest := []) h71 (by kernel_rfl) rfl trivial fun a74 h75 => ?_
  clear h71
  refine nd_done ?_
  refine hK73 _ _ ?_
  clear hK73
  refine c_false h75 rfl ?_
  refine wp_skip ?_
  refine hK72 _ _ ?_
  clear hK72
  refine wp_seq_k fun K76 hK76 => ?_
  refine nd_start (l := [0, 1, 2, 3, 4, 5]) rfl ?_
  refine nd_batch tabOk2 tabZ_ok2 [(0, {}), (1, {}), (2, {k := 1}), (3, {}), (4, {})] [11, 6, 3, 0, 1, 4, 5, 7, 53, 66, 12, 143, 145] (T' := [(11, .pointer (some ⟨b62, 0, none⟩)), (6, .pointer (some ⟨b14, 0, none⟩)), (3, .pointer (some ⟨b2, 0, none⟩)), (0, .pointer (some ⟨mb, 0, none⟩)), (1, .agg #[.int .u8 6, .int .u32 ev.pick, .int .u64 ev.draw, .int .u32 ev.addr, .int .u32 ev.node, .int .u32 ev.dst, .int .u32 ev.xfer, .int .u8 ev.ty, .int .u64 ev.arg, .int .u64 ev.badge, .slice xo ev.ws.length cx]), (4, .int .u8 0), (5, .bool false), (7, .pointer (some ⟨(Z.tp x), 0, none⟩)), (53, .int .u8 6), (66, .bool false), (12, .int .u8 0), (143, .int .u32 ev.dst), (145, .pointer (some ⟨(Z.tp x), 16, none⟩))]) (φ := (b2 = b2 ∧ Nat.ble (5 + 1) 11 = true) ∧ True) (rest := [5]) h75 (by kernel_rfl) rfl ⟨⟨rfl, rfl⟩, trivial⟩ fun a77 h78 => ?_
  clear h75
  refine nd_op ?_
  refine op_mTh (x := x) (off := 16) (v := .int .u32 ev.dst) (y := { a.th x with dst := ev.dst }) h78 rfl rfl rfl rfl rfl rfl rfl rfl rfl hx rfl rfl (kcons (fun _ => rfl) (kcons (fun hq => by cases hq) (kcons (fun hq => by cases hq) (kcons (fun hq => by cases hq) knil)))) fun w79 hf80 h81 => ?_
  obtain ⟨a82, ea82⟩ : ∃ z : AK, z = a.setT x { a.th x with dst := ev.dst } := ⟨_, rfl⟩
  rw [← ea82] at h81
  have hcx83 : curR Z a82 = Z.ky x := by rw [ea82] <;> exact hcx
  clear h78
  have ht84 : a82.th x = { a.th x with dst := ev.dst } := by rw [ea82]; exact upd_same _ _ _
  have hP85 : MP Z a82 := by rw [ea82]; exact MP.like hP rfl rfl rfl
  refine nd_done ?_
  refine hK76 _ _ ?_
  clear hK76
  refine wp_seq_k fun K86 hK86 => ?_
  refine nd_start (l := [0, 1, 2, 3, 4, 5]) rfl ?_
  refine nd_batch tabOk2 tabZ_ok2 [(0, {}), (1, {}), (2, {k := 3})] [11, 6, 3, 0, 1, 4, 5, 7, 53, 66, 12, 146, 148] (T' := [(11, .pointer (some ⟨b62, 0, none⟩)), (6, .pointer (some ⟨b14, 0, none⟩)), (3, .pointer (some ⟨b2, 0, none⟩)), (0, .pointer (some ⟨mb, 0, none⟩)), (1, .agg #[.int .u8 6, .int .u32 ev.pick, .int .u64 ev.draw, .int .u32 ev.addr, .int .u32 ev.node, .int .u32 ev.dst, .int .u32 ev.xfer, .int .u8 ev.ty, .int .u64 ev.arg, .int .u64 ev.badge, .slice xo ev.ws.length cx]), (4, .int .u8 0), (5, .bool false), (7, .pointer (some ⟨(Z.tp x), 0, none⟩)), (53, .int .u8 6), (66, .bool false), (12, .int .u8 0), (146, .pointer (some ⟨mb, 0, none⟩)), (148, .agg #[.int .u16 ((Z.ky i).idx), .int .u32 ((Z.ky i).gen)])]) (φ := (b62 = b62 ∧ Nat.ble (1 + 2) 5 = true) ∧ True) (rest := [3, 4, 5]) h81 (by kernel_rfl) rfl ⟨⟨rfl, rfl⟩, trivial⟩ fun a87 h88 => ?_
  clear h81
  refine nd_op ?_
  have hA89 : a82 = a5 := by rw [h5]; subst ea82; simp only [setT_setT]
  have h90 := h88
  rw [hA89] at h90
  clear h88
  have ht91 : a5.th x = { a.th x with dst := ev.dst } := by rw [← hA89]; exact ht84
  have hP92 : MP Z a5 := by rw [← hA89]; exact hP85
  refine op_call h90 rfl rfl rfl (callOk Tryd.func88 (by decide) rfl) (args := [.pointer (some ⟨mb, 0, none⟩), .agg #[.int .u16 ((Z.ky i).idx), .int .u32 ((Z.ky i).gen)], .int .u8 3]) rfl (by have hf9 := first_ok mb Z _ a5 _ i hi 3 hP92 _ (mh_of h90 hhoh59 (k := 0) rfl); rw [hf5] at hf9; exact hf9) ?_
  rintro _ w93 ⟨rfl, hg95⟩
  refine ⟨_, rfl, ?_⟩
  have h96a := st_mg h90 hg95 (kcons (fun _ => rfl) (kcons (fun hq => by cases hq) (kcons (fun hq => by cases hq) (kcons (fun hq => by cases hq) knil))))
  have h96 := h96a.put (d := some 149) (v := .agg #[.int .u16 0, .int .u32 0]) (T' := [(149, .agg #[.int .u16 0, .int .u32 0]), (11, .pointer (some ⟨b62, 0, none⟩)), (6, .pointer (some ⟨b14, 0, none⟩)), (3, .pointer (some ⟨b2, 0, none⟩)), (0, .pointer (some ⟨mb, 0, none⟩)), (1, .agg #[.int .u8 6, .int .u32 ev.pick, .int .u64 ev.draw, .int .u32 ev.addr, .int .u32 ev.node, .int .u32 ev.dst, .int .u32 ev.xfer, .int .u8 ev.ty, .int .u64 ev.arg, .int .u64 ev.badge, .slice xo ev.ws.length cx]), (4, .int .u8 0), (5, .bool false), (7, .pointer (some ⟨(Z.tp x), 0, none⟩)), (53, .int .u8 6), (66, .bool false), (12, .int .u8 0), (146, .pointer (some ⟨mb, 0, none⟩)), (148, .agg #[.int .u16 ((Z.ky i).idx), .int .u32 ((Z.ky i).gen)])]) rfl
  have hhoh96 := hg95.mh.ho
  clear h90 h96a
  refine nd_op ?_
  refine op_new tabOk2 (cells := [.int .u16 0, .int .u32 0]) (ty := 39) (ln := none) (L1 := fun b97 => [(3, ⟨[.int .u16 0, .int .u32 0], ty3, true⟩), (b2, ⟨[.int .u8 6, .int .u32 ev.pick, .int .u64 ev.draw, .int .u32 ev.addr, .int .u32 ev.node, .int .u32 ev.dst, .int .u32 ev.xfer, .int .u8 ev.ty, .int .u64 ev.arg, .int .u64 ev.badge, .slice xo ev.ws.length cx], 35, false⟩), (b14, ⟨[.int .u16 ((Z.ky x).idx), .int .u32 ((Z.ky x).gen)], 39, false⟩), (b62, ⟨[.int .u8 ct, .int .u16 ((Z.ky i).idx), .int .u32 ((Z.ky i).gen), .int .u8 rt, .int .u64 bd], 49, false⟩), (b97, ⟨[.int .u16 0, .int .u32 0], 39, false⟩)]) h96 rfl rfl rfl rfl (by kernel_rfl) (fun _ => rfl) fun b97 w98 a99 h100 hf101 hn102 => ?_
  clear h96
  refine nd_op ?_
  refine op_store tabOk2 {k := 4} (L' := [(3, ⟨[.int .u16 0, .int .u32 0], ty3, true⟩), (b2, ⟨[.int .u8 6, .int .u32 ev.pick, .int .u64 ev.draw, .int .u32 ev.addr, .int .u32 ev.node, .int .u32 ev.dst, .int .u32 ev.xfer, .int .u8 ev.ty, .int .u64 ev.arg, .int .u64 ev.badge, .slice xo ev.ws.length cx], 35, false⟩), (b14, ⟨[.int .u16 ((Z.ky x).idx), .int .u32 ((Z.ky x).gen)], 39, false⟩), (b62, ⟨[.int .u8 ct, .int .u16 ((Z.ky i).idx), .int .u32 ((Z.ky i).gen), .int .u8 rt, .int .u64 bd], 49, false⟩), (b97, ⟨[.int .u16 0, .int .u32 0], 39, false⟩)]) (φ := b97 = b97 ∧ Nat.ble (0 + 2) 2 = true) h100 rfl rfl rfl (by kernel_rfl) ⟨rfl, rfl⟩ fun w103 h104 => ?_
  clear h100
  refine nd_done ?_
  refine hK86 _ _ ?_
  clear hK86
  refine wp_seq_k fun K105 hK105 => ?_
  refine wp_seq_k fun K106 hK106 => ?_
  refine nd_start (l := [0, 1, 2]) rfl ?_
  refine nd_batch tabOk2 tabZ_ok2 [(0, {k := 4}), (1, {k := 0}), (2, {f := 2})] [13, 11, 6, 3, 0, 1, 4, 5, 7, 53, 66, 12, 152] (T' := [(13, .pointer (some ⟨b97, 0, none⟩)), (11, .pointer (some ⟨b62, 0, none⟩)), (6, .pointer (some ⟨b14, 0, none⟩)), (3, .pointer (some ⟨b2, 0, none⟩)), (0, .pointer (some ⟨mb, 0, none⟩)), (1, .agg #[.int .u8 6, .int .u32 ev.pick, .int .u64 ev.draw, .int .u32 ev.addr, .int .u32 ev.node, .int .u32 ev.dst, .int .u32 ev.xfer, .int .u8 ev.ty, .int .u64 ev.arg, .int .u64 ev.badge, .slice xo ev.ws.length cx]), (4, .int .u8 0), (5, .bool false), (7, .pointer (some ⟨(Z.tp x), 0, none⟩)), (53, .int .u8 6), (66, .bool false), (12, .int .u8 0), (152, .bool true)]) (φ := (b97 = b97 ∧ Nat.ble (0 + 2) 2 = true) ∧ (3 = 3 ∧ Nat.ble (0 + 2) 2 = true) ∧ EqRun Tryd.prog 39 (.agg #[.int .u16 0, .int .u32 0]) (.agg #[.int .u16 0, .int .u32 0]) true ∧ True) (rest := []) h104 (by kernel_rfl) rfl ⟨⟨rfl, rfl⟩, ⟨rfl, rfl⟩, (by have hq := runRf (⟨0, 0⟩ : Rf) (⟨0, 0⟩ : Rf); rw [show decide ((⟨0, 0⟩ : Rf) = (⟨0, 0⟩ : Rf)) = true from decide_eq_true rfl] at hq; exact hq), trivial⟩ fun a107 h108 => ?_
  clear h104
  refine nd_done ?_
  refine hK106 _ _ ?_
  clear hK106
  refine c_true h108 rfl ?_
  refine wp_seq_k fun K109 hK109 => ?_
  refine nd_start (l := [0, 1, 2, 3, 4]) rfl ?_
  refine nd_batch tabOk2 tabZ_ok2 [(0, {}), (1, {k := 2}), (2, {}), (3, {k := 3})] [13, 11, 6, 3, 0, 1, 4, 5, 7, 53, 66, 12, 153, 154, 156] (T' := [(13, .pointer (some ⟨b97, 0, none⟩)), (11, .pointer (some ⟨b62, 0, none⟩)), (6, .pointer (some ⟨b14, 0, none⟩)), (3, .pointer (some ⟨b2, 0, none⟩)), (0, .pointer (some ⟨mb, 0, none⟩)), (1, .agg #[.int .u8 6, .int .u32 ev.pick, .int .u64 ev.draw, .int .u32 ev.addr, .int .u32 ev.node, .int .u32 ev.dst, .int .u32 ev.xfer, .int .u8 ev.ty, .int .u64 ev.arg, .int .u64 ev.badge, .slice xo ev.ws.length cx]), (4, .int .u8 0), (5, .bool false), (7, .pointer (some ⟨(Z.tp x), 0, none⟩)), (53, .int .u8 6), (66, .bool false), (12, .int .u8 0), (153, .pointer (some ⟨mb, 0, none⟩)), (154, .agg #[.int .u16 ((Z.ky x).idx), .int .u32 ((Z.ky x).gen)]), (156, .agg #[.int .u16 ((Z.ky i).idx), .int .u32 ((Z.ky i).gen)])]) (φ := (b14 = b14 ∧ Nat.ble (0 + 2) 2 = true) ∧ (b62 = b62 ∧ Nat.ble (1 + 2) 5 = true) ∧ True) (rest := [4]) h108 (by kernel_rfl) rfl ⟨⟨rfl, rfl⟩, ⟨rfl, rfl⟩, trivial⟩ fun a110 h111 => ?_
  clear h108
  refine nd_op ?_
  refine op_call h111 rfl rfl rfl (callOk Tryd.func92 (by decide) rfl) (args := [.pointer (some ⟨mb, 0, none⟩), .agg #[.int .u16 ((Z.ky x).idx), .int .u32 ((Z.ky x).gen)], .int .u8 4, .agg #[.int .u16 ((Z.ky i).idx), .int .u32 ((Z.ky i).gen)]]) rfl (queueUp_ok mb Z _ a5 _ x hx 4 (by decide) i hi hP92 _ (mh_of h111 hhoh96 (k := 0) rfl)) ?_
  rintro _ w112 ⟨rfl, R113, hg114⟩
  refine ⟨_, rfl, ?_⟩
  have h115a := st_mg h111 hg114 (kcons (fun _ => rfl) (kcons (fun hq => by cases hq) (kcons (fun hq => by cases hq) (kcons (fun hq => by cases hq) (kcons (fun hq => by cases hq) knil)))))
  have h115 := h115a.put (d := some 157) (v := .tuple #[]) (T' := [(157, .tuple #[]), (13, .pointer (some ⟨b97, 0, none⟩)), (11, .pointer (some ⟨b62, 0, none⟩)), (6, .pointer (some ⟨b14, 0, none⟩)), (3, .pointer (some ⟨b2, 0, none⟩)), (0, .pointer (some ⟨mb, 0, none⟩)), (1, .agg #[.int .u8 6, .int .u32 ev.pick, .int .u64 ev.draw, .int .u32 ev.addr, .int .u32 ev.node, .int .u32 ev.dst, .int .u32 ev.xfer, .int .u8 ev.ty, .int .u64 ev.arg, .int .u64 ev.badge, .slice xo ev.ws.length cx]), (4, .int .u8 0), (5, .bool false), (7, .pointer (some ⟨(Z.tp x), 0, none⟩)), (53, .int .u8 6), (66, .bool false), (12, .int .u8 0), (153, .pointer (some ⟨mb, 0, none⟩)), (154, .agg #[.int .u16 ((Z.ky x).idx), .int .u32 ((Z.ky x).gen)]), (156, .agg #[.int .u16 ((Z.ky i).idx), .int .u32 ((Z.ky i).gen)])]) rfl
  have hhoh115 := hg114.mh.ho
  obtain ⟨a116, ea116⟩ : ∃ z : AK, z = blockA a5 x 4 (Z.ky i) := ⟨_, rfl⟩
  rw [← ea116] at h115
  clear h111 h115a
  have ht117 : a116.th x = { a.th x with st := 4, wait := ⟨(Z.ky i).idx, (Z.ky i).gen⟩, dst := ev.dst } := by rw [ea116, block_th, ht91]
  refine nd_done ?_
  refine hK109 _ _ ?_
  clear hK109
  refine wp_seq_k fun K118 hK118 => ?_
  refine nd_start (l := [0, 1]) rfl ?_
  refine nd_batch tabOk2 tabZ_ok2 [(0, {}), (1, {})] [13, 11, 6, 3, 0, 1, 7, 53, 66, 12, 4, 5] (T' := [(13, .pointer (some ⟨b97, 0, none⟩)), (11, .pointer (some ⟨b62, 0, none⟩)), (6, .pointer (some ⟨b14, 0, none⟩)), (3, .pointer (some ⟨b2, 0, none⟩)), (0, .pointer (some ⟨mb, 0, none⟩)), (1, .agg #[.int .u8 6, .int .u32 ev.pick, .int .u64 ev.draw, .int .u32 ev.addr, .int .u32 ev.node, .int .u32 ev.dst, .int .u32 ev.xfer, .int .u8 ev.ty, .int .u64 ev.arg, .int .u64 ev.badge, .slice xo ev.ws.length cx]), (7, .pointer (some ⟨(Z.tp x), 0, none⟩)), (53, .int .u8 6), (66, .bool false), (12, .int .u8 0), (4, .int .u8 0), (5, .bool false)]) (φ := True) (rest := []) h115 (by kernel_rfl) rfl trivial fun a119 h120 => ?_
  clear h115
  refine nd_done ?_
  refine hK118 _ _ ?_
  clear hK118
  refine wp_ret ?_
  try simp only [Exit.then, Exit.inBlock]
  try rw [if_pos trivial]
  exact s_ret tabOk2 tabZ_ok2 h120 [(.tmp 4, {}), (.tmp 5, {})] (vs := [.int .u8 0, .bool false]) (φ := True) rfl (by kernel_rfl) trivial (by subst ea116; exact ⟨rfl, _, mg_end hH h120 hhoh115 rfl⟩)

theorem call6m (mb : Nat) (Z : MZ) (R : MR) (a : AK) (C : CP) (hI : MI Z a C) (x : Nat) (hx : x ∈ sl Z.tl) (hcu : a.cur = (x : Int)) (ev : Ev) (he : EvOk ev) (xo : Option Addr) (cx : Nat) (i : Nat) (hi : i ∈ sl Z.ql) (ct rt bd cs0 : Int) (hf : findA a C ev.addr 4 1 = (⟨ct, Z.ky i, rt, bd⟩, cs0, 0)) (a5 : AK) (h5 : a5 = a.setT x { a.th x with dst := ev.dst }) (y : Nat) (hy : y ∈ sl Z.tl) (hxy : x ≠ y) (ho : oldestA a5 (Z.ky i) 3 = (y : Int)) (htx : TOk ((wakeA a5 y).th x)) (hty : TOk ((wakeA a5 y).th y)) (w : World) (hH : MH mb Z R a C w) (hws : WordsAt (mdF mb Z R C) w xo ev.ws) :
    Calls Tryd.prog 55 #[.pointer (some ⟨mb, 0, none⟩), .agg #[.int .u8 6, .int .u32 ev.pick, .int .u64 ev.draw, .int .u32 ev.addr, .int .u32 ev.node, .int .u32 ev.dst, .int .u32 ev.xfer, .int .u8 ev.ty, .int .u64 ev.arg, .int .u64 ev.badge, .slice xo ev.ws.length cx]] w fun e w' => e = .returned (.tuple #[.int .u8 0, .bool true]) ∧ ∃ R', MG mb Z R C w Z R' (passA Z (deliverA (wakeA a5 y) C y x).1 y x) ((deliverA (wakeA a5 y) C y x).2) w' := by
  have hP := hI.mp
  have hcx : curR Z a = Z.ky x := curR_of hcu
  have hcn : a.cur.toNat = x := by rw [hcu]; exact Int.toNat_natCast x
  have hci := (hI.tk x hx).ci
  have hf5 : firstR Z a5 i 3 = Z.ky y := by rw [firstR_old hH.md.k (hH.md.k.qx i hi), ho, if_neg (by omega), Int.toNat_natCast]
  obtain ⟨ty3, hg3⟩ := hH.g3
  have hho := hH.ho
  have hkk := hH.md.k
  refine enter (n := 628) (K := mdF mb Z R C) (A := MD (mdF mb Z R C) w.heap.size mb Z R a C) (F := mdF mb Z R C) (T := [(0, .pointer (some ⟨mb, 0, none⟩)), (1, .agg #[.int .u8 6, .int .u32 ev.pick, .int .u64 ev.draw, .int .u32 ev.addr, .int .u32 ev.node, .int .u32 ev.dst, .int .u32 ev.xfer, .int .u8 ev.ty, .int .u64 ev.arg, .int .u64 ev.badge, .slice xo ev.ws.length cx])]) (L := [(3, ⟨[.int .u16 0, .int .u32 0], ty3, true⟩)]) (args := [.pointer (some ⟨mb, 0, none⟩), .agg #[.int .u8 6, .int .u32 ev.pick, .int .u64 ev.draw, .int .u32 ev.addr, .int .u32 ev.node, .int .u32 ev.dst, .int .u32 ev.xfer, .int .u8 ev.ty, .int .u64 ev.arg, .int .u64 ev.badge, .slice xo ev.ws.length cx]]) Tryd.func55 rfl rfl rfl rfl (kcons hg3 knil) (by simp) (kcons (by intro hq; cases hq) knil) hH.mD MD.stable hH.md.low (kcons (by intro hq; cases hq) knil) ?_
  intro ac h
  refine wp_seq_k fun K1 hK1 => ?_
  refine nd_start (l := [0, 1, 2]) rfl ?_
  refine nd_op ?_
  refine op_new tabOk2 (cells := [.int .u8 6, .int .u32 ev.pick, .int .u64 ev.draw, .int .u32 ev.addr, .int .u32 ev.node, .int .u32 ev.dst, .int .u32 ev.xfer, .int .u8 ev.ty, .int .u64 ev.arg, .int .u64 ev.badge, .slice xo ev.ws.length cx]) (ty := 35) (ln := none) (L1 := fun b2 => [(3, ⟨[.int .u16 0, .int .u32 0], ty3, true⟩), (b2, ⟨[.int .u8 6, .int .u32 ev.pick, .int .u64 ev.draw, .int .u32 ev.addr, .int .u32 ev.node, .int .u32 ev.dst, .int .u32 ev.xfer, .int .u8 ev.ty, .int .u64 ev.arg, .int .u64 ev.badge, .slice xo ev.ws.length cx], 35, false⟩)]) h rfl rfl rfl rfl (by kernel_rfl) (fun _ => rfl) fun b2 w3 a4 h5 hf6 hn7 => ?_
  clear h
  refine nd_batch tabOk2 tabZ_ok2 [(1, {}), (2, {})] [3, 0, 1, 4, 5] (T' := [(3, .pointer (some ⟨b2, 0, none⟩)), (0, .pointer (some ⟨mb, 0, none⟩)), (1, .agg #[.int .u8 6, .int .u32 ev.pick, .int .u64 ev.draw, .int .u32 ev.addr, .int .u32 ev.node, .int .u32 ev.dst, .int .u32 ev.xfer, .int .u8 ev.ty, .int .u64 ev.arg, .int .u64 ev.badge, .slice xo ev.ws.length cx]), (4, .int .u8 0), (5, .bool false)]) (φ := True) (rest := []) h5 (by kernel_rfl) rfl trivial fun a8 h9 => ?_
  clear h5
  refine nd_done ?_
  refine hK1 _ _ ?_
  clear hK1
  refine wp_seq_k fun K10 hK10 => ?_
  refine nd_start (l := [0, 1, 2, 3, 4, 5]) rfl ?_
  refine nd_batch tabOk2 tabZ_ok2 [(0, {}), (1, {}), (2, {})] [3, 0, 1, 4, 5, 44] (T' := [(3, .pointer (some ⟨b2, 0, none⟩)), (0, .pointer (some ⟨mb, 0, none⟩)), (1, .agg #[.int .u8 6, .int .u32 ev.pick, .int .u64 ev.draw, .int .u32 ev.addr, .int .u32 ev.node, .int .u32 ev.dst, .int .u32 ev.xfer, .int .u8 ev.ty, .int .u64 ev.arg, .int .u64 ev.badge, .slice xo ev.ws.length cx]), (4, .int .u8 0), (5, .bool false), (44, .pointer (some ⟨mb, 13, none⟩))]) (φ := True) (rest := [3, 4, 5]) h9 (by kernel_rfl) rfl trivial fun a11 h12 => ?_
  clear h9
  refine nd_op ?_
  refine op_read (b := mb) (v := .agg #[.int .u16 ((Z.ky x).idx), .int .u32 ((Z.ky x).gen)]) h12 rfl rfl (rd_mA h12 (k := 13) (vs := [.int .u16 ((Z.ky x).idx), .int .u32 ((Z.ky x).gen)]) rfl rfl rfl rfl rfl (by rw [← hcx]; exact md_cur)) ?_
  have h13 := h12.put (d := some 45) (v := .agg #[.int .u16 ((Z.ky x).idx), .int .u32 ((Z.ky x).gen)]) (T' := [(45, .agg #[.int .u16 ((Z.ky x).idx), .int .u32 ((Z.ky x).gen)]), (3, .pointer (some ⟨b2, 0, none⟩)), (0, .pointer (some ⟨mb, 0, none⟩)), (1, .agg #[.int .u8 6, .int .u32 ev.pick, .int .u64 ev.draw, .int .u32 ev.addr, .int .u32 ev.node, .int .u32 ev.dst, .int .u32 ev.xfer, .int .u8 ev.ty, .int .u64 ev.arg, .int .u64 ev.badge, .slice xo ev.ws.length cx]), (4, .int .u8 0), (5, .bool false), (44, .pointer (some ⟨mb, 13, none⟩))]) rfl
  clear h12
  refine nd_op ?_
  refine op_new tabOk2 (cells := [.int .u16 0, .int .u32 0]) (ty := 39) (ln := none) (L1 := fun b14 => [(3, ⟨[.int .u16 0, .int .u32 0], ty3, true⟩), (b2, ⟨[.int .u8 6, .int .u32 ev.pick, .int .u64 ev.draw, .int .u32 ev.addr, .int .u32 ev.node, .int .u32 ev.dst, .int .u32 ev.xfer, .int .u8 ev.ty, .int .u64 ev.arg, .int .u64 ev.badge, .slice xo ev.ws.length cx], 35, false⟩), (b14, ⟨[.int .u16 0, .int .u32 0], 39, false⟩)]) h13 rfl rfl rfl rfl (by kernel_rfl) (fun _ => rfl) fun b14 w15 a16 h17 hf18 hn19 => ?_
  clear h13
  refine nd_op ?_
  refine op_store tabOk2 {k := 2} (L' := [(3, ⟨[.int .u16 0, .int .u32 0], ty3, true⟩), (b2, ⟨[.int .u8 6, .int .u32 ev.pick, .int .u64 ev.draw, .int .u32 ev.addr, .int .u32 ev.node, .int .u32 ev.dst, .int .u32 ev.xfer, .int .u8 ev.ty, .int .u64 ev.arg, .int .u64 ev.badge, .slice xo ev.ws.length cx], 35, false⟩), (b14, ⟨[.int .u16 ((Z.ky x).idx), .int .u32 ((Z.ky x).gen)], 39, false⟩)]) (φ := b14 = b14 ∧ Nat.ble (0 + 2) 2 = true) h17 rfl rfl rfl (by kernel_rfl) ⟨rfl, rfl⟩ fun w20 h21 => ?_
  clear h17
  refine nd_done ?_
  refine hK10 _ _ ?_
  clear hK10
  refine wp_seq_k fun K22 hK22 => ?_
  refine dr_start (KB := [3, b2, b14, mb, Z.tb]) (Bi := [[0, 1, 2, 3, 4], [0, 1, 2, 3, 4], [0, 1, 2, 3, 4], [0, 1, 2, 3, 4], [0, 1, 2, 3, 4], [0, 1, 2, 3, 4], [0, 1, 2, 3, 4]]) mixed h21 fun w23 h24 => ?_
  clear h21
  refine dr_batch tabOk2 tabZ_ok2 (by repeat (first | with_reducible exact PF.body | with_reducible apply PF.inB | with_reducible apply PF.next)) [(0, {}), (1, {}), (2, {})] [6, 3, 0, 1, 4, 5, 48] (T' := [(6, .pointer (some ⟨b14, 0, none⟩)), (3, .pointer (some ⟨b2, 0, none⟩)), (0, .pointer (some ⟨mb, 0, none⟩)), (1, .agg #[.int .u8 6, .int .u32 ev.pick, .int .u64 ev.draw, .int .u32 ev.addr, .int .u32 ev.node, .int .u32 ev.dst, .int .u32 ev.xfer, .int .u8 ev.ty, .int .u64 ev.arg, .int .u64 ev.badge, .slice xo ev.ws.length cx]), (4, .int .u8 0), (5, .bool false), (48, .pointer (some ⟨mb, 2, none⟩))]) (φ := True) (fuel := 4) h24 (by kernel_rfl) rfl (by kernel_rfl) (by kernel_rfl) ⟨trivial, trivial, trivial, trivial⟩ trivial fun a26 h27 => ?_
  clear h24
  refine dr_read (i := 3) (b := mb) (p := 3) (v := .map (some Z.tb)) (fuel := 3) (by repeat (first | with_reducible exact PF.body | with_reducible apply PF.inB | with_reducible apply PF.next)) h27 rfl rfl rfl (by kernel_rfl) (by kernel_rfl) (by kernel_rfl) rfl (rd_m h27 (k := 2) (v := .map (some Z.tb)) rfl rfl rfl rfl (md_p ⟨rfl, trivial⟩)) ?_
  have h28 := h27.put (d := some 49) (v := .map (some Z.tb)) (T' := [(49, .map (some Z.tb)), (6, .pointer (some ⟨b14, 0, none⟩)), (3, .pointer (some ⟨b2, 0, none⟩)), (0, .pointer (some ⟨mb, 0, none⟩)), (1, .agg #[.int .u8 6, .int .u32 ev.pick, .int .u64 ev.draw, .int .u32 ev.addr, .int .u32 ev.node, .int .u32 ev.dst, .int .u32 ev.xfer, .int .u8 ev.ty, .int .u64 ev.arg, .int .u64 ev.badge, .slice xo ev.ws.length cx]), (4, .int .u8 0), (5, .bool false), (48, .pointer (some ⟨mb, 2, none⟩))]) rfl
  clear h27
  refine dr_batch tabOk2 tabZ_ok2 (by repeat (first | with_reducible exact PF.body | with_reducible apply PF.inB | with_reducible apply PF.next)) [(4, {k := 2, p := 2})] [49, 6, 3, 0, 1, 4, 5, 50] (T' := [(49, .map (some Z.tb)), (6, .pointer (some ⟨b14, 0, none⟩)), (3, .pointer (some ⟨b2, 0, none⟩)), (0, .pointer (some ⟨mb, 0, none⟩)), (1, .agg #[.int .u8 6, .int .u32 ev.pick, .int .u64 ev.draw, .int .u32 ev.addr, .int .u32 ev.node, .int .u32 ev.dst, .int .u32 ev.xfer, .int .u8 ev.ty, .int .u64 ev.arg, .int .u64 ev.badge, .slice xo ev.ws.length cx]), (4, .int .u8 0), (5, .bool false), (50, .agg #[.int .u16 ((Z.ky x).idx), .int .u32 ((Z.ky x).gen)])]) (φ := (b14 = b14 ∧ Nat.ble (0 + 2) 2 = true) ∧ True) (fuel := 2) h28 (by kernel_rfl) rfl (by kernel_rfl) (by kernel_rfl) ⟨rfl, trivial⟩ ⟨⟨rfl, rfl⟩, trivial⟩ fun a29 h30 => ?_
  clear h28
  refine dr_read (i := 5) (b := Z.tb) (p := 4) (v := .pointer (some ⟨(Z.tp x), 0, none⟩)) (fuel := 1) (by repeat (first | with_reducible exact PF.body | with_reducible apply PF.inB | with_reducible apply PF.next)) h30 rfl rfl rfl (by kernel_rfl) (by kernel_rfl) (by kernel_rfl) rfl (rd_T h30 (x := x) hx rfl rfl rfl) ?_
  have h31 := h30.put (d := some 51) (v := .pointer (some ⟨(Z.tp x), 0, none⟩)) (T' := [(51, .pointer (some ⟨(Z.tp x), 0, none⟩)), (49, .map (some Z.tb)), (6, .pointer (some ⟨b14, 0, none⟩)), (3, .pointer (some ⟨b2, 0, none⟩)), (0, .pointer (some ⟨mb, 0, none⟩)), (1, .agg #[.int .u8 6, .int .u32 ev.pick, .int .u64 ev.draw, .int .u32 ev.addr, .int .u32 ev.node, .int .u32 ev.dst, .int .u32 ev.xfer, .int .u8 ev.ty, .int .u64 ev.arg, .int .u64 ev.badge, .slice xo ev.ws.length cx]), (4, .int .u8 0), (5, .bool false), (50, .agg #[.int .u16 ((Z.ky x).idx), .int .u32 ((Z.ky x).gen)])]) rfl
  clear h30
  refine dr_batch tabOk2 tabZ_ok2 (by repeat (first | with_reducible exact PF.body | with_reducible apply PF.inB | with_reducible apply PF.next)) [(6, {})] [6, 3, 0, 1, 4, 5, 7] (T' := [(6, .pointer (some ⟨b14, 0, none⟩)), (3, .pointer (some ⟨b2, 0, none⟩)), (0, .pointer (some ⟨mb, 0, none⟩)), (1, .agg #[.int .u8 6, .int .u32 ev.pick, .int .u64 ev.draw, .int .u32 ev.addr, .int .u32 ev.node, .int .u32 ev.dst, .int .u32 ev.xfer, .int .u8 ev.ty, .int .u64 ev.arg, .int .u64 ev.badge, .slice xo ev.ws.length cx]), (4, .int .u8 0), (5, .bool false), (7, .pointer (some ⟨(Z.tp x), 0, none⟩))]) (φ := True) (fuel := 0) h31 (by kernel_rfl) rfl (by kernel_rfl) (by kernel_rfl) ⟨trivial, trivial⟩ trivial fun a32 h33 => ?_
  clear h31
  refine wpAnyK_done (by kernel_rfl) ?_ _
  refine hK22 _ _ ?_
  clear hK22
  refine wp_seq_k fun K34 hK34 => ?_
  refine wp_seq_k fun K35 hK35 => ?_
  refine nd_start (l := [0, 1]) rfl ?_
  refine nd_batch tabOk2 tabZ_ok2 [(0, {}), (1, {k := 1})] [6, 3, 0, 1, 4, 5, 7, 53] (T' := [(6, .pointer (some ⟨b14, 0, none⟩)), (3, .pointer (some ⟨b2, 0, none⟩)), (0, .pointer (some ⟨mb, 0, none⟩)), (1, .agg #[.int .u8 6, .int .u32 ev.pick, .int .u64 ev.draw, .int .u32 ev.addr, .int .u32 ev.node, .int .u32 ev.dst, .int .u32 ev.xfer, .int .u8 ev.ty, .int .u64 ev.arg, .int .u64 ev.badge, .slice xo ev.ws.length cx]), (4, .int .u8 0), (5, .bool false), (7, .pointer (some ⟨(Z.tp x), 0, none⟩)), (53, .int .u8 6)]) (φ := (b2 = b2 ∧ Nat.ble (0 + 1) 11 = true) ∧ True) (rest := []) h33 (by kernel_rfl) rfl ⟨⟨rfl, rfl⟩, trivial⟩ fun a36 h37 => ?_
  clear h33
  refine nd_done ?_
  refine hK35 _ _ ?_
  clear hK35
  refine wp_block ?_
  refine wp_seq_k fun K38 hK38 => ?_
  refine nd_start (l := [0, 1]) rfl ?_
  refine nd_batch tabOk2 tabZ_ok2 [(0, {}), (1, {})] [6, 3, 0, 1, 4, 5, 7, 53, 54] (T' := [(6, .pointer (some ⟨b14, 0, none⟩)), (3, .pointer (some ⟨b2, 0, none⟩)), (0, .pointer (some ⟨mb, 0, none⟩)), (1, .agg #[.int .u8 6, .int .u32 ev.pick, .int .u64 ev.draw, .int .u32 ev.addr, .int .u32 ev.node, .int .u32 ev.dst, .int .u32 ev.xfer, .int .u8 ev.ty, .int .u64 ev.arg, .int .u64 ev.badge, .slice xo ev.ws.length cx]), (4, .int .u8 0), (5, .bool false), (7, .pointer (some ⟨(Z.tp x), 0, none⟩)), (53, .int .u8 6), (54, .bool false)]) (φ := True) (rest := []) h37 (by kernel_rfl) rfl trivial fun a39 h40 => ?_
  clear h37
  refine nd_done ?_
  refine hK38 _ _ ?_
  clear hK38
  refine c_false h40 rfl ?_
  refine wp_seq_k fun K41 hK41 => ?_
  refine nd_start (l := [0, 1]) rfl ?_
  refine nd_batch tabOk2 tabZ_ok2 [(0, {}), (1, {})] [6, 3, 0, 1, 4, 5, 7, 53, 59] (T' := [(6, .pointer (some ⟨b14, 0, none⟩)), (3, .pointer (some ⟨b2, 0, none⟩)), (0, .pointer (some ⟨mb, 0, none⟩)), (1, .agg #[.int .u8 6, .int .u32 ev.pick, .int .u64 ev.draw, .int .u32 ev.addr, .int .u32 ev.node, .int .u32 ev.dst, .int .u32 ev.xfer, .int .u8 ev.ty, .int .u64 ev.arg, .int .u64 ev.badge, .slice xo ev.ws.length cx]), (4, .int .u8 0), (5, .bool false), (7, .pointer (some ⟨(Z.tp x), 0, none⟩)), (53, .int .u8 6), (59, .bool false)]) (φ := True) (rest := []) h40 (by kernel_rfl) rfl trivial fun a42 h43 => ?_
  clear h40
  refine nd_done ?_
  refine hK41 _ _ ?_
  clear hK41
  refine c_false h43 rfl ?_
  refine wp_seq_k fun K44 hK44 => ?_
  refine wp_seq_k fun K45 hK45 => ?_
  refine nd_start (l := [0, 1]) rfl ?_
  refine nd_batch tabOk2 tabZ_ok2 [(0, {}), (1, {})] [6, 3, 0, 1, 4, 5, 7, 53, 66] (T' := [(6, .pointer (some ⟨b14, 0, none⟩)), (3, .pointer (some ⟨b2, 0, none⟩)), (0, .pointer (some ⟨mb, 0, none⟩)), (1, .agg #[.int .u8 6, .int .u32 ev.pick, .int .u64 ev.draw, .int .u32 ev.addr, .int .u32 ev.node, .int .u32 ev.dst, .int .u32 ev.xfer, .int .u8 ev.ty, .int .u64 ev.arg, .int .u64 ev.badge, .slice xo ev.ws.length cx]), (4, .int .u8 0), (5, .bool false), (7, .pointer (some ⟨(Z.tp x), 0, none⟩)), (53, .int .u8 6), (66, .bool false)]) (φ := True) (rest := []) h43 (by kernel_rfl) rfl trivial fun a46 h47 => ?_
  clear h43
  refine nd_done ?_
  refine hK45 _ _ ?_
  clear hK45
  refine c_false h47 rfl ?_
  refine nd_start (l := [0, 1]) rfl ?_
  refine nd_batch tabOk2 tabZ_ok2 [(0, {}), (1, {})] [6, 3, 0, 1, 4, 5, 7, 53, 66] (T' := [(6, .pointer (some ⟨b14, 0, none⟩)), (3, .pointer (some ⟨b2, 0, none⟩)), (0, .pointer (some ⟨mb, 0, none⟩)), (1, .agg #[.int .u8 6, .int .u32 ev.pick, .int .u64 ev.draw, .int .u32 ev.addr, .int .u32 ev.node, .int .u32 ev.dst, .int .u32 ev.xfer, .int .u8 ev.ty, .int .u64 ev.arg, .int .u64 ev.badge, .slice xo ev.ws.length cx]), (4, .int .u8 0), (5, .bool false), (7, .pointer (some ⟨(Z.tp x), 0, none⟩)), (53, .int .u8 6), (66, .bool false)]) (φ := True) (rest := []) h47 (by kernel_rfl) rfl trivial fun a48 h49 => ?_
  clear h47
  refine nd_done ?_
  refine hK44 _ _ ?_
  clear hK44
  refine c_false h49 rfl ?_
  refine wp_seq_k fun K50 hK50 => ?_
  refine nd_start (l := [0, 1]) rfl ?_
  refine nd_batch tabOk2 tabZ_ok2 [(0, {}), (1, {})] [6, 3, 0, 1, 4, 5, 7, 53, 66, 129] (T' := [(6, .pointer (some ⟨b14, 0, none⟩)), (3, .pointer (some ⟨b2, 0, none⟩)), (0, .pointer (some ⟨mb, 0, none⟩)), (1, .agg #[.int .u8 6, .int .u32 ev.pick, .int .u64 ev.draw, .int .u32 ev.addr, .int .u32 ev.node, .int .u32 ev.dst, .int .u32 ev.xfer, .int .u8 ev.ty, .int .u64 ev.arg, .int .u64 ev.badge, .slice xo ev.ws.length cx]), (4, .int .u8 0), (5, .bool false), (7, .pointer (some ⟨(Z.tp x), 0, none⟩)), (53, .int .u8 6), (66, .bool false), (129, .bool true)]) (φ := True) (rest := []) h49 (by kernel_rfl) rfl trivial fun a51 h52 => ?_
  clear h49
  refine nd_done ?_
  refine hK50 _ _ ?_
  clear hK50
  refine c_true h52 rfl ?_
  refine wp_seq_k fun K53 hK53 => ?_
  refine nd_start (l := [0, 1, 2, 3, 4, 5, 6, 7, 8, 9]) rfl ?_
  refine nd_batch tabOk2 tabZ_ok2 [(0, {}), (1, {}), (2, {k := 1})] [6, 3, 0, 1, 4, 5, 7, 53, 66, 132, 134] (T' := [(6, .pointer (some ⟨b14, 0, none⟩)), (3, .pointer (some ⟨b2, 0, none⟩)), (0, .pointer (some ⟨mb, 0, none⟩)), (1, .agg #[.int .u8 6, .int .u32 ev.pick, .int .u64 ev.draw, .int .u32 ev.addr, .int .u32 ev.node, .int .u32 ev.dst, .int .u32 ev.xfer, .int .u8 ev.ty, .int .u64 ev.arg, .int .u64 ev.badge, .slice xo ev.ws.length cx]), (4, .int .u8 0), (5, .bool false), (7, .pointer (some ⟨(Z.tp x), 0, none⟩)), (53, .int .u8 6), (66, .bool false), (132, .pointer (some ⟨mb, 0, none⟩)), (134, .int .u32 ev.addr)]) (φ := (b2 = b2 ∧ Nat.ble (3 + 1) 11 = true) ∧ True) (rest := [3, 4, 5, 6, 7, 8, 9]) h52 (by kernel_rfl) rfl ⟨⟨rfl, rfl⟩, trivial⟩ fun a54 h55 => ?_
  clear h52
  refine nd_op ?_
  refine op_call h55 rfl rfl rfl (callOk Tryd.func90 (by decide) rfl) (args := [.pointer (some ⟨mb, 0, none⟩), .int .u32 ev.addr, .int .u8 4, .int .u8 1]) rfl (capOf_ok mb Z _ a C x hx hcx hci hcn hI.ci ev.addr 4 1 he.addr _ (mh_of h55 hho (k := 0) rfl) hf) ?_
  rintro _ w56 ⟨rfl, hg58⟩
  refine ⟨_, rfl, ?_⟩
  have h59a := st_mg h55 hg58 (kcons (fun _ => rfl) (kcons (fun hq => by cases hq) (kcons (fun hq => by cases hq) knil)))
  have h59 := h59a.put (d := some 135) (v := .tuple #[.agg #[.int .u8 ct, .int .u16 ((Z.ky i).idx), .int .u32 ((Z.ky i).gen), .int .u8 rt, .int .u64 bd], .int .u8 0]) (T' := [(135, .tuple #[.agg #[.int .u8 ct, .int .u16 ((Z.ky i).idx), .int .u32 ((Z.ky i).gen), .int .u8 rt, .int .u64 bd], .int .u8 0]), (6, .pointer (some ⟨b14, 0, none⟩)), (3, .pointer (some ⟨b2, 0, none⟩)), (0, .pointer (some ⟨mb, 0, none⟩)), (1, .agg #[.int .u8 6, .int .u32 ev.pick, .int .u64 ev.draw, .int .u32 ev.addr, .int .u32 ev.node, .int .u32 ev.dst, .int .u32 ev.xfer, .int .u8 ev.ty, .int .u64 ev.arg, .int .u64 ev.badge, .slice xo ev.ws.length cx]), (4, .int .u8 0), (5, .bool false), (7, .pointer (some ⟨(Z.tp x), 0, none⟩)), (53, .int .u8 6), (66, .bool false), (132, .pointer (some ⟨mb, 0, none⟩)), (134, .int .u32 ev.addr)]) rfl
  have hhoh59 := hg58.mh.ho
  clear h55 h59a
  refine nd_batch tabOk2 tabZ_ok2 [(4, {}), (5, {}), (6, {})] [6, 3, 0, 1, 4, 5, 7, 53, 66, 136, 137] (T' := [(6, .pointer (some ⟨b14, 0, none⟩)), (3, .pointer (some ⟨b2, 0, none⟩)), (0, .pointer (some ⟨mb, 0, none⟩)), (1, .agg #[.int .u8 6, .int .u32 ev.pick, .int .u64 ev.draw, .int .u32 ev.addr, .int .u32 ev.node, .int .u32 ev.dst, .int .u32 ev.xfer, .int .u8 ev.ty, .int .u64 ev.arg, .int .u64 ev.badge, .slice xo ev.ws.length cx]), (4, .int .u8 0), (5, .bool false), (7, .pointer (some ⟨(Z.tp x), 0, none⟩)), (53, .int .u8 6), (66, .bool false), (136, .agg #[.int .u8 ct, .int .u16 ((Z.ky i).idx), .int .u32 ((Z.ky i).gen), .int .u8 rt, .int .u64 bd]), (137, .int .u8 0)]) (φ := True) (rest := [7, 8, 9]) h59 (by kernel_rfl) rfl trivial fun a60 h61 => ?_
  clear h59
  refine nd_op ?_
  refine op_new tabOk2 (cells := [.int .u8 0, .int .u16 0, .int .u32 0, .int .u8 0, .int .u64 0]) (ty := 49) (ln := none) (L1 := fun b62 => [(3, ⟨[.int .u16 0, .int .u32 0], ty3, true⟩), (b2, ⟨[.int .u8 6, .int .u32 ev.pick, .int .u64 ev.draw, .int .u32 ev.addr, .int .u32 ev.node, .int .u32 ev.dst, .int .u32 ev.xfer, .int .u8 ev.ty, .int .u64 ev.arg, .int .u64 ev.badge, .slice xo ev.ws.length cx], 35, false⟩), (b14, ⟨[.int .u16 ((Z.ky x).idx), .int .u32 ((Z.ky x).gen)], 39, false⟩), (b62, ⟨[.int .u8 0, .int .u16 0, .int .u32 0, .int .u8 0, .int .u64 0], 49, false⟩)]) h61 rfl rfl rfl rfl (by kernel_rfl) (fun _ => rfl) fun b62 w63 a64 h65 hf66 hn67 => ?_
  clear h61
  refine nd_op ?_
  refine op_store tabOk2 {k := 3} (L' := [(3, ⟨[.int .u16 0, .int .u32 0], ty3, true⟩), (b2, ⟨[.int .u8 6, .int .u32 ev.pick, .int .u64 ev.draw, .int .u32 ev.addr, .int .u32 ev.node, .int .u32 ev.dst, .int .u32 ev.xfer, .int .u8 ev.ty, .int .u64 ev.arg, .int .u64 ev.badge, .slice xo ev.ws.length cx], 35, false⟩), (b14, ⟨[.int .u16 ((Z.ky x).idx), .int .u32 ((Z.ky x).gen)], 39, false⟩), (b62, ⟨[.int .u8 ct, .int .u16 ((Z.ky i).idx), .int .u32 ((Z.ky i).gen), .int .u8 rt, .int .u64 bd], 49, false⟩)]) (φ := b62 = b62 ∧ Nat.ble (0 + 5) 5 = true) h65 rfl rfl rfl (by kernel_rfl) ⟨rfl, rfl⟩ fun w68 h69 => ?_
  clear h65
  refine nd_batch tabOk2 tabZ_ok2 [(9, {})] [11, 6, 3, 0, 1, 4, 5, 7, 53, 66, 12] (T' := [(11, .pointer (some ⟨b62, 0, none⟩)), (6, .pointer (some ⟨b14, 0, none⟩)), (3, .pointer (some ⟨b2, 0, none⟩)), (0, .pointer (some ⟨mb, 0, none⟩)), (1, .agg #[.int .u8 6, .int .u32 ev.pick, .int .u64 ev.draw, .int .u32 ev.addr, .int .u32 ev.node, .int .u32 ev.dst, .int .u32 ev.xfer, .int .u8 ev.ty, .int .u64 ev.arg, .int .u64 ev.badge, .slice xo ev.ws.length cx]), (4, .int .u8 0), (5, .bool false), (7, .pointer (some ⟨(Z.tp x), 0, none⟩)), (53, .int .u8 6), (66, .bool false), (12, .int .u8 0)]) (φ := True) (rest := []) h69 (by kernel_rfl) rfl trivial fun a70 h71 => ?_
  clear h69
  refine nd_done ?_
  refine hK53 _ _ ?_
  clear hK53
  refine wp_seq_k fun K72 hK72 => ?_
  refine wp_seq_k fun K73 hK73 => ?_
  refine nd_start (l := [0, 1]) rfl ?_
  refine nd_batch tabOk2 tabZ_ok2 [(0, {}), (1, {})] [11, 6, 3, 0, 1, 4, 5, 7, 53, 66, 12, 139] (T' := [(11, .pointer (some ⟨b62, 0, none⟩)), (6, .pointer (some ⟨b14, 0, none⟩)), (3, .pointer (some ⟨b2, 0, none⟩)), (0, .pointer (some ⟨mb, 0, none⟩)), (1, .agg #[.int .u8 6, .int .u32 ev.pick, .int .u64 ev.draw, .int .u32 ev.addr, .int .u32 ev.node, .int .u32 ev.dst, .int .u32 ev.xfer, .int .u8 ev.ty, .int .u64 ev.arg, .int .u64 ev.badge, .slice xo ev.ws.length cx]), (4, .int .u8 0), (5, .bool false), (7, .pointer (some ⟨(Z.tp x), 0, none⟩)), (53, .int .u8 6), (66, .bool false), (12, .int .u8 0), (139, .bool false)]) (φ := True) (rest := []) h71 (by kernel_rfl) rfl trivial fun a74 h75 => ?_
  clear h71
  refine nd_done ?_
  refine hK73 _ _ ?_
  clear hK73
  refine c_false h75 rfl ?_
  refine wp_skip ?_
  refine hK72 _ _ ?_
  clear hK72
  refine wp_seq_k fun K76 hK76 => ?_
  refine nd_start (l := [0, 1, 2, 3, 4, 5]) rfl ?_
  refine nd_batch tabOk2 tabZ_ok2 [(0, {}), (1, {}), (2, {k := 1}), (3, {}), (4, {})] [11, 6, 3, 0, 1, 4, 5, 7, 53, 66, 12, 143, 145] (T' := [(11, .pointer (some ⟨b62, 0, none⟩)), (6, .pointer (some ⟨b14, 0, none⟩)), (3, .pointer (some ⟨b2, 0, none⟩)), (0, .pointer (some ⟨mb, 0, none⟩)), (1, .agg #[.int .u8 6, .int .u32 ev.pick, .int .u64 ev.draw, .int .u32 ev.addr, .int .u32 ev.node, .int .u32 ev.dst, .int .u32 ev.xfer, .int .u8 ev.ty, .int .u64 ev.arg, .int .u64 ev.badge, .slice xo ev.ws.length cx]), (4, .int .u8 0), (5, .bool false), (7, .pointer (some ⟨(Z.tp x), 0, none⟩)), (53, .int .u8 6), (66, .bool false), (12, .int .u8 0), (143, .int .u32 ev.dst), (145, .pointer (some ⟨(Z.tp x), 16, none⟩))]) (φ := (b2 = b2 ∧ Nat.ble (5 + 1) 11 = true) ∧ True) (rest := [5]) h75 (by kernel_rfl) rfl ⟨⟨rfl, rfl⟩, trivial⟩ fun a77 h78 => ?_
  clear h75
  refine nd_op ?_
  refine op_mTh (x := x) (off := 16) (v := .int .u32 ev.dst) (y := { a.th x with dst := ev.dst }) h78 rfl rfl rfl rfl rfl rfl rfl rfl rfl hx rfl rfl (kcons (fun _ => rfl) (kcons (fun hq => by cases hq) (kcons (fun hq => by cases hq) (kcons (fun hq => by cases hq) knil)))) fun w79 hf80 h81 => ?_
  obtain ⟨a82, ea82⟩ : ∃ z : AK, z = a.setT x { a.th x with dst := ev.dst } := ⟨_, rfl⟩
  rw [← ea82] at h81
  have hcx83 : curR Z a82 = Z.ky x := by rw [ea82] <;> exact hcx
  clear h78
  have ht84 : a82.th x = { a.th x with dst := ev.dst } := by rw [ea82]; exact upd_same _ _ _
  have hP85 : MP Z a82 := by rw [ea82]; exact MP.like hP rfl rfl rfl
  refine nd_done ?_
  refine hK76 _ _ ?_
  clear hK76
  refine wp_seq_k fun K86 hK86 => ?_
  refine nd_start (l := [0, 1, 2, 3, 4, 5]) rfl ?_
  refine nd_batch tabOk2 tabZ_ok2 [(0, {}), (1, {}), (2, {k := 3})] [11, 6, 3, 0, 1, 4, 5, 7, 53, 66, 12, 146, 148] (T' := [(11, .pointer (some ⟨b62, 0, none⟩)), (6, .pointer (some ⟨b14, 0, none⟩)), (3, .pointer (some ⟨b2, 0, none⟩)), (0, .pointer (some ⟨mb, 0, none⟩)), (1, .agg #[.int .u8 6, .int .u32 ev.pick, .int .u64 ev.draw, .int .u32 ev.addr, .int .u32 ev.node, .int .u32 ev.dst, .int .u32 ev.xfer, .int .u8 ev.ty, .int .u64 ev.arg, .int .u64 ev.badge, .slice xo ev.ws.length cx]), (4, .int .u8 0), (5, .bool false), (7, .pointer (some ⟨(Z.tp x), 0, none⟩)), (53, .int .u8 6), (66, .bool false), (12, .int .u8 0), (146, .pointer (some ⟨mb, 0, none⟩)), (148, .agg #[.int .u16 ((Z.ky i).idx), .int .u32 ((Z.ky i).gen)])]) (φ := (b62 = b62 ∧ Nat.ble (1 + 2) 5 = true) ∧ True) (rest := [3, 4, 5]) h81 (by kernel_rfl) rfl ⟨⟨rfl, rfl⟩, trivial⟩ fun a87 h88 => ?_
  clear h81
  refine nd_op ?_
  have hA89 : a82 = a5 := by rw [h5]; subst ea82; simp only [setT_setT]
  have h90 := h88
  rw [hA89] at h90
  clear h88
  have ht91 : a5.th x = { a.th x with dst := ev.dst } := by rw [← hA89]; exact ht84
  have hP92 : MP Z a5 := by rw [← hA89]; exact hP85
  refine op_call h90 rfl rfl rfl (callOk Tryd.func88 (by decide) rfl) (args := [.pointer (some ⟨mb, 0, none⟩), .agg #[.int .u16 ((Z.ky i).idx), .int .u32 ((Z.ky i).gen)], .int .u8 3]) rfl (by have hf9 := first_ok mb Z _ a5 _ i hi 3 hP92 _ (mh_of h90 hhoh59 (k := 0) rfl); rw [hf5] at hf9; exact hf9) ?_
  rintro _ w93 ⟨rfl, hg95⟩
  refine ⟨_, rfl, ?_⟩
  have h96a := st_mg h90 hg95 (kcons (fun _ => rfl) (kcons (fun hq => by cases hq) (kcons (fun hq => by cases hq) (kcons (fun hq => by cases hq) knil))))
  have h96 := h96a.put (d := some 149) (v := .agg #[.int .u16 ((Z.ky y).idx), .int .u32 ((Z.ky y).gen)]) (T' := [(149, .agg #[.int .u16 ((Z.ky y).idx), .int .u32 ((Z.ky y).gen)]), (11, .pointer (some ⟨b62, 0, none⟩)), (6, .pointer (some ⟨b14, 0, none⟩)), (3, .pointer (some ⟨b2, 0, none⟩)), (0, .pointer (some ⟨mb, 0, none⟩)), (1, .agg #[.int .u8 6, .int .u32 ev.pick, .int .u64 ev.draw, .int .u32 ev.addr, .int .u32 ev.node, .int .u32 ev.dst, .int .u32 ev.xfer, .int .u8 ev.ty, .int .u64 ev.arg, .int .u64 ev.badge, .slice xo ev.ws.length cx]), (4, .int .u8 0), (5, .bool false), (7, .pointer (some ⟨(Z.tp x), 0, none⟩)), (53, .int .u8 6), (66, .bool false), (12, .int .u8 0), (146, .pointer (some ⟨mb, 0, none⟩)), (148, .agg #[.int .u16 ((Z.ky i).idx), .int .u32 ((Z.ky i).gen)])]) rfl
  have hhoh96 := hg95.mh.ho
  clear h90 h96a
  refine nd_op ?_
  refine op_new tabOk2 (cells := [.int .u16 0, .int .u32 0]) (ty := 39) (ln := none) (L1 := fun b97 => [(3, ⟨[.int .u16 0, .int .u32 0], ty3, true⟩), (b2, ⟨[.int .u8 6, .int .u32 ev.pick, .int .u64 ev.draw, .int .u32 ev.addr, .int .u32 ev.node, .int .u32 ev.dst, .int .u32 ev.xfer, .int .u8 ev.ty, .int .u64 ev.arg, .int .u64 ev.badge, .slice xo ev.ws.length cx], 35, false⟩), (b14, ⟨[.int .u16 ((Z.ky x).idx), .int .u32 ((Z.ky x).gen)], 39, false⟩), (b62, ⟨[.int .u8 ct, .int .u16 ((Z.ky i).idx), .int .u32 ((Z.ky i).gen), .int .u8 rt, .int .u64 bd], 49, false⟩), (b97, ⟨[.int .u16 0, .int .u32 0], 39, false⟩)]) h96 rfl rfl rfl rfl (by kernel_rfl) (fun _ => rfl) fun b97 w98 a99 h100 hf101 hn102 => ?_
  clear h96
  refine nd_op ?_
  refine op_store tabOk2 {k := 4} (L' := [(3, ⟨[.int .u16 0, .int .u32 0], ty3, true⟩), (b2, ⟨[.int .u8 6, .int .u32 ev.pick, .int .u64 ev.draw, .int .u32 ev.addr, .int .u32 ev.node, .int .u32 ev.dst, .int .u32 ev.xfer, .int .u8 ev.ty, .int .u64 ev.arg, .int .u64 ev.badge, .slice xo ev.ws.length cx], 35, false⟩), (b14, ⟨[.int .u16 ((Z.ky x).idx), .int .u32 ((Z.ky x).gen)], 39, false⟩), (b62, ⟨[.int .u8 ct, .int .u16 ((Z.ky i).idx), .int .u32 ((Z.ky i).gen), .int .u8 rt, .int .u64 bd], 49, false⟩), (b97, ⟨[.int .u16 ((Z.ky y).idx), .int .u32 ((Z.ky y).gen)], 39, false⟩)]) (φ := b97 = b97 ∧ Nat.ble (0 + 2) 2 = true) h100 rfl rfl rfl (by kernel_rfl) ⟨rfl, rfl⟩ fun w103 h104 => ?_
  clear h100
  refine nd_done ?_
  refine hK86 _ _ ?_
  clear hK86
  refine wp_seq_k fun K105 hK105 => ?_
  refine wp_seq_k fun K106 hK106 => ?_
  refine nd_start (l := [0, 1, 2]) rfl ?_
  refine nd_batch tabOk2 tabZ_ok2 [(0, {k := 4}), (1, {k := 0}), (2, {f := 1})] [13, 11, 6, 3, 0, 1, 4, 5, 7, 53, 66, 12, 152] (T' := [(13, .pointer (some ⟨b97, 0, none⟩)), (11, .pointer (some ⟨b62, 0, none⟩)), (6, .pointer (some ⟨b14, 0, none⟩)), (3, .pointer (some ⟨b2, 0, none⟩)), (0, .pointer (some ⟨mb, 0, none⟩)), (1, .agg #[.int .u8 6, .int .u32 ev.pick, .int .u64 ev.draw, .int .u32 ev.addr, .int .u32 ev.node, .int .u32 ev.dst, .int .u32 ev.xfer, .int .u8 ev.ty, .int .u64 ev.arg, .int .u64 ev.badge, .slice xo ev.ws.length cx]), (4, .int .u8 0), (5, .bool false), (7, .pointer (some ⟨(Z.tp x), 0, none⟩)), (53, .int .u8 6), (66, .bool false), (12, .int .u8 0), (152, .bool false)]) (φ := (b97 = b97 ∧ Nat.ble (0 + 2) 2 = true) ∧ (3 = 3 ∧ Nat.ble (0 + 2) 2 = true) ∧ EqRun Tryd.prog 39 (.agg #[.int .u16 ((Z.ky y).idx), .int .u32 ((Z.ky y).gen)]) (.agg #[.int .u16 0, .int .u32 0]) false ∧ True) (rest := []) h104 (by kernel_rfl) rfl ⟨⟨rfl, rfl⟩, ⟨rfl, rfl⟩, (by have hq := runRf (Z.ky y) (⟨0, 0⟩ : Rf); rw [show decide (Z.ky y = (⟨0, 0⟩ : Rf)) = false from decide_eq_false (hkk.ne0 (hkk.tx y hy))] at hq; exact hq), trivial⟩ fun a107 h108 => ?_
  clear h104
  refine nd_done ?_
  refine hK106 _ _ ?_
  clear hK106
  refine c_false h108 rfl ?_
  refine wp_skip ?_
  refine hK105 _ _ ?_
  clear hK105
  refine wp_seq_k fun K109 hK109 => ?_
  refine nd_start (l := [0, 1, 2]) rfl ?_
  refine nd_batch tabOk2 tabZ_ok2 [(0, {}), (1, {k := 4})] [13, 11, 6, 3, 0, 1, 4, 5, 7, 53, 66, 12, 158, 159] (T' := [(13, .pointer (some ⟨b97, 0, none⟩)), (11, .pointer (some ⟨b62, 0, none⟩)), (6, .pointer (some ⟨b14, 0, none⟩)), (3, .pointer (some ⟨b2, 0, none⟩)), (0, .pointer (some ⟨mb, 0, none⟩)), (1, .agg #[.int .u8 6, .int .u32 ev.pick, .int .u64 ev.draw, .int .u32 ev.addr, .int .u32 ev.node, .int .u32 ev.dst, .int .u32 ev.xfer, .int .u8 ev.ty, .int .u64 ev.arg, .int .u64 ev.badge, .slice xo ev.ws.length cx]), (4, .int .u8 0), (5, .bool false), (7, .pointer (some ⟨(Z.tp x), 0, none⟩)), (53, .int .u8 6), (66, .bool false), (12, .int .u8 0), (158, .pointer (some ⟨mb, 0, none⟩)), (159, .agg #[.int .u16 ((Z.ky y).idx), .int .u32 ((Z.ky y).gen)])]) (φ := (b97 = b97 ∧ Nat.ble (0 + 2) 2 = true) ∧ True) (rest := [2]) h108 (by kernel_rfl) rfl ⟨⟨rfl, rfl⟩, trivial⟩ fun a110 h111 => ?_
  clear h108
  refine nd_op ?_
  refine op_call h111 rfl rfl rfl (callOk Tryd.func52 (by decide) rfl) (args := [.pointer (some ⟨mb, 0, none⟩), .agg #[.int .u16 ((Z.ky y).idx), .int .u32 ((Z.ky y).gen)]]) rfl (mready_ok mb Z _ a5 _ y hy hP92 _ (mh_of h111 hhoh96 (k := 0) rfl)) ?_
  rintro _ w112 ⟨rfl, R113, hg114⟩
  refine ⟨_, rfl, ?_⟩
  have h115a := st_mg h111 hg114 (kcons (fun _ => rfl) (kcons (fun hq => by cases hq) (kcons (fun hq => by cases hq) (kcons (fun hq => by cases hq) (kcons (fun hq => by cases hq) knil)))))
  have h115 := h115a.put (d := some 160) (v := .tuple #[]) (T' := [(160, .tuple #[]), (13, .pointer (some ⟨b97, 0, none⟩)), (11, .pointer (some ⟨b62, 0, none⟩)), (6, .pointer (some ⟨b14, 0, none⟩)), (3, .pointer (some ⟨b2, 0, none⟩)), (0, .pointer (some ⟨mb, 0, none⟩)), (1, .agg #[.int .u8 6, .int .u32 ev.pick, .int .u64 ev.draw, .int .u32 ev.addr, .int .u32 ev.node, .int .u32 ev.dst, .int .u32 ev.xfer, .int .u8 ev.ty, .int .u64 ev.arg, .int .u64 ev.badge, .slice xo ev.ws.length cx]), (4, .int .u8 0), (5, .bool false), (7, .pointer (some ⟨(Z.tp x), 0, none⟩)), (53, .int .u8 6), (66, .bool false), (12, .int .u8 0), (158, .pointer (some ⟨mb, 0, none⟩)), (159, .agg #[.int .u16 ((Z.ky y).idx), .int .u32 ((Z.ky y).gen)])]) rfl
  have hhoh115 := hg114.mh.ho
  obtain ⟨a116, ea116⟩ : ∃ z : AK, z = wakeA a5 y := ⟨_, rfl⟩
  rw [← ea116] at h115
  clear h111 h115a
  have ht117 : a116.th x = { a.th x with dst := ev.dst } := by rw [ea116]; exact (wake_tho hxy).trans ht91
  have hP118 : MP Z a116 := by rw [ea116]; exact MP.wake hP92 hkk hy
  refine nd_done ?_
  refine hK109 _ _ ?_
  clear hK109
  refine wp_seq_k fun K119 hK119 => ?_
  refine nd_start (l := [0, 1, 2, 3]) rfl ?_
  refine nd_batch tabOk2 tabZ_ok2 [(0, {}), (1, {k := 4}), (2, {k := 2})] [13, 11, 6, 3, 0, 1, 4, 5, 7, 53, 66, 12, 161, 162, 163] (T' := [(13, .pointer (some ⟨b97, 0, none⟩)), (11, .pointer (some ⟨b62, 0, none⟩)), (6, .pointer (some ⟨b14, 0, none⟩)), (3, .pointer (some ⟨b2, 0, none⟩)), (0, .pointer (some ⟨mb, 0, none⟩)), (1, .agg #[.int .u8 6, .int .u32 ev.pick, .int .u64 ev.draw, .int .u32 ev.addr, .int .u32 ev.node, .int .u32 ev.dst, .int .u32 ev.xfer, .int .u8 ev.ty, .int .u64 ev.arg, .int .u64 ev.badge, .slice xo ev.ws.length cx]), (4, .int .u8 0), (5, .bool false), (7, .pointer (some ⟨(Z.tp x), 0, none⟩)), (53, .int .u8 6), (66, .bool false), (12, .int .u8 0), (161, .pointer (some ⟨mb, 0, none⟩)), (162, .agg #[.int .u16 ((Z.ky y).idx), .int .u32 ((Z.ky y).gen)]), (163, .agg #[.int .u16 ((Z.ky x).idx), .int .u32 ((Z.ky x).gen)])]) (φ := (b97 = b97 ∧ Nat.ble (0 + 2) 2 = true) ∧ (b14 = b14 ∧ Nat.ble (0 + 2) 2 = true) ∧ True) (rest := [3]) h115 (by kernel_rfl) rfl ⟨⟨rfl, rfl⟩, ⟨rfl, rfl⟩, trivial⟩ fun a120 h121 => ?_
  clear h115
  refine nd_op ?_
  refine op_call h121 rfl rfl rfl (callOk Tryd.func91 (by decide) rfl) (args := [.pointer (some ⟨mb, 0, none⟩), .agg #[.int .u16 ((Z.ky y).idx), .int .u32 ((Z.ky y).gen)], .agg #[.int .u16 ((Z.ky x).idx), .int .u32 ((Z.ky x).gen)]]) rfl (pass_ok mb Z _ a116 C hI.ci y x hy hx hxy.symm (by rw [ea116]; exact hty) (by rw [ea116]; exact htx) hP118 _ (mh_of h121 hhoh115 (k := 0) rfl)) ?_
  rintro _ w122 ⟨rfl, R123, hg124⟩
  refine ⟨_, rfl, ?_⟩
  have h125a := st_mg h121 hg124 (kcons (fun _ => rfl) (kcons (fun hq => by cases hq) (kcons (fun hq => by cases hq) (kcons (fun hq => by cases hq) (kcons (fun hq => by cases hq) knil)))))
  have h125 := h125a.put (d := some 164) (v := .tuple #[]) (T' := [(164, .tuple #[]), (13, .pointer (some ⟨b97, 0, none⟩)), (11, .pointer (some ⟨b62, 0, none⟩)), (6, .pointer (some ⟨b14, 0, none⟩)), (3, .pointer (some ⟨b2, 0, none⟩)), (0, .pointer (some ⟨mb, 0, none⟩)), (1, .agg #[.int .u8 6, .int .u32 ev.pick, .int .u64 ev.draw, .int .u32 ev.addr, .int .u32 ev.node, .int .u32 ev.dst, .int .u32 ev.xfer, .int .u8 ev.ty, .int .u64 ev.arg, .int .u64 ev.badge, .slice xo ev.ws.length cx]), (4, .int .u8 0), (5, .bool false), (7, .pointer (some ⟨(Z.tp x), 0, none⟩)), (53, .int .u8 6), (66, .bool false), (12, .int .u8 0), (161, .pointer (some ⟨mb, 0, none⟩)), (162, .agg #[.int .u16 ((Z.ky y).idx), .int .u32 ((Z.ky y).gen)]), (163, .agg #[.int .u16 ((Z.ky x).idx), .int .u32 ((Z.ky x).gen)])]) rfl
  have hhoh125 := hg124.mh.ho
  clear h121 h125a
  refine nd_done ?_
  refine hK119 _ _ ?_
  clear hK119
  refine wp_seq_k fun K126 hK126 => ?_
  refine nd_start (l := [0, 1]) rfl ?_
  refine nd_batch tabOk2 tabZ_ok2 [(0, {}), (1, {})] [13, 11, 6, 3, 0, 1, 7, 53, 66, 12, 4, 5] (T' := [(13, .pointer (some ⟨b97, 0, none⟩)), (11, .pointer (some ⟨b62, 0, none⟩)), (6, .pointer (some ⟨b14, 0, none⟩)), (3, .pointer (some ⟨b2, 0, none⟩)), (0, .pointer (some ⟨mb, 0, none⟩)), (1, .agg #[.int .u8 6, .int .u32 ev.pick, .int .u64 ev.draw, .int .u32 ev.addr, .int .u32 ev.node, .int .u32 ev.dst, .int .u32 ev.xfer, .int .u8 ev.ty, .int .u64 ev.arg, .int .u64 ev.badge, .slice xo ev.ws.length cx]), (7, .pointer (some ⟨(Z.tp x), 0, none⟩)), (53, .int .u8 6), (66, .bool false), (12, .int .u8 0), (4, .int .u8 0), (5, .bool true)]) (φ := True) (rest := []) h125 (by kernel_rfl) rfl trivial fun a127 h128 => ?_
  clear h125
  refine nd_done ?_
  refine hK126 _ _ ?_
  clear hK126
  refine wp_ret ?_
  try simp only [Exit.then, Exit.inBlock]
  try rw [if_pos trivial]
  exact s_ret tabOk2 tabZ_ok2 h128 [(.tmp 4, {}), (.tmp 5, {})] (vs := [.int .u8 0, .bool true]) (φ := True) rfl (by kernel_rfl) trivial (by subst ea116; exact ⟨rfl, _, mg_end hH h128 hhoh125 rfl⟩)

end Go.Proofs.Qxb6500918aDoor
