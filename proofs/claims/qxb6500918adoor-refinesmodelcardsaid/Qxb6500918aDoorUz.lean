/-
  The model: delete, revoke. (Made by program: a symbolic walk that prints its steps.)
-/
import Derived.Test.Qxb6500918aDoorUy
namespace Go.Proofs.Qxb6500918aDoor
open Go.Sx Go.Kn
set_option maxRecDepth 100000
set_option maxHeartbeats 4000000
set_option linter.unusedVariables false
set_option linter.unusedSimpArgs false

theorem call12a (mb : Nat) (Z : MZ) (R : MR) (a : AK) (C : CP) (hI : MI Z a C) (x : Nat) (hx : x ∈ sl Z.tl) (hcu : a.cur = (x : Int)) (ev : Ev) (he : EvOk ev) (xo : Option Addr) (cx : Nat) (s1 k1 : Int) (e1 : lookP C.ent (a.th x).cs ev.addr = (s1, k1)) (hk0 : k1 ≠ 0) (w : World) (hH : MH mb Z R a C w) (hws : WordsAt (mdF mb Z R C) w xo ev.ws) :
    Calls Tryd.prog 55 #[.pointer (some ⟨mb, 0, none⟩), .agg #[.int .u8 12, .int .u32 ev.pick, .int .u64 ev.draw, .int .u32 ev.addr, .int .u32 ev.node, .int .u32 ev.dst, .int .u32 ev.xfer, .int .u8 ev.ty, .int .u64 ev.arg, .int .u64 ev.badge, .slice xo ev.ws.length cx]] w fun e w' => e = .returned (.tuple #[.int .u8 k1, .bool false]) ∧ ∃ R', MG mb Z R C w Z R' a C w' := by
  have hP := hI.mp
  have hcx : curR Z a = Z.ky x := curR_of hcu
  have hcn : a.cur.toNat = x := by rw [hcu]; exact Int.toNat_natCast x
  have hci := (hI.tk x hx).ci
  obtain ⟨ty3, hg3⟩ := hH.g3
  have hho := hH.ho
  have hkk := hH.md.k
  refine enter (n := 628) (K := mdF mb Z R C) (A := MD (mdF mb Z R C) w.heap.size mb Z R a C) (F := mdF mb Z R C) (T := [(0, .pointer (some ⟨mb, 0, none⟩)), (1, .agg #[.int .u8 12, .int .u32 ev.pick, .int .u64 ev.draw, .int .u32 ev.addr, .int .u32 ev.node, .int .u32 ev.dst, .int .u32 ev.xfer, .int .u8 ev.ty, .int .u64 ev.arg, .int .u64 ev.badge, .slice xo ev.ws.length cx])]) (L := [(3, ⟨[.int .u16 0, .int .u32 0], ty3, true⟩)]) (args := [.pointer (some ⟨mb, 0, none⟩), .agg #[.int .u8 12, .int .u32 ev.pick, .int .u64 ev.draw, .int .u32 ev.addr, .int .u32 ev.node, .int .u32 ev.dst, .int .u32 ev.xfer, .int .u8 ev.ty, .int .u64 ev.arg, .int .u64 ev.badge, .slice xo ev.ws.length cx]]) Tryd.func55 rfl rfl rfl rfl (kcons hg3 knil) (by simp) (kcons (by intro hq; cases hq) knil) hH.mD MD.stable hH.md.low (kcons (by intro hq; cases hq) knil) ?_
  intro ac h
  refine wp_seq_k fun K1 hK1 => ?_
  refine nd_start (l := [0, 1, 2]) rfl ?_
  refine nd_op ?_
  refine op_new tabOk2 (cells := [.int .u8 12, .int .u32 ev.pick, .int .u64 ev.draw, .int .u32 ev.addr, .int .u32 ev.node, .int .u32 ev.dst, .int .u32 ev.xfer, .int .u8 ev.ty, .int .u64 ev.arg, .int .u64 ev.badge, .slice xo ev.ws.length cx]) (ty := 35) (ln := none) (L1 := fun b2 => [(3, ⟨[.int .u16 0, .int .u32 0], ty3, true⟩), (b2, ⟨[.int .u8 12, .int .u32 ev.pick, .int .u64 ev.draw, .int .u32 ev.addr, .int .u32 ev.node, .int .u32 ev.dst, .int .u32 ev.xfer, .int .u8 ev.ty, .int .u64 ev.arg, .int .u64 ev.badge, .slice xo ev.ws.length cx], 35, false⟩)]) h rfl rfl rfl rfl (by kernel_rfl) (fun _ => rfl) fun b2 w3 a4 h5 hf6 hn7 => ?_
  clear h
  refine nd_batch tabOk2 tabZ_ok2 [(1, {}), (2, {})] [3, 0, 1, 4, 5] (T' := [(3, .pointer (some ⟨b2, 0, none⟩)), (0, .pointer (some ⟨mb, 0, none⟩)), (1, .agg #[.int .u8 12, .int .u32 ev.pick, .int .u64 ev.draw, .int .u32 ev.addr, .int .u32 ev.node, .int .u32 ev.dst, .int .u32 ev.xfer, .int .u8 ev.ty, .int .u64 ev.arg, .int .u64 ev.badge, .slice xo ev.ws.length cx]), (4, .int .u8 0), (5, .bool false)]) (φ := True) (rest := []) h5 (by kernel_rfl) rfl trivial fun a8 h9 => ?_
  clear h5
  refine nd_done ?_
  refine hK1 _ _ ?_
  clear hK1
  refine wp_seq_k fun K10 hK10 => ?_
  refine nd_start (l := [0, 1, 2, 3, 4, 5]) rfl ?_
  refine nd_batch tabOk2 tabZ_ok2 [(0, {}), (1, {}), (2, {})] [3, 0, 1, 4, 5, 44] (T' := [(3, .pointer (some ⟨b2, 0, none⟩)), (0, .pointer (some ⟨mb, 0, none⟩)), (1, .agg #[.int .u8 12, .int .u32 ev.pick, .int .u64 ev.draw, .int .u32 ev.addr, .int .u32 ev.node, .int .u32 ev.dst, .int .u32 ev.xfer, .int .u8 ev.ty, .int .u64 ev.arg, .int .u64 ev.badge, .slice xo ev.ws.length cx]), (4, .int .u8 0), (5, .bool false), (44, .pointer (some ⟨mb, 13, none⟩))]) (φ := True) (rest := [3, 4, 5]) h9 (by kernel_rfl) rfl trivial fun a11 h12 => ?_
  clear h9
  refine nd_op ?_
  refine op_read (b := mb) (v := .agg #[.int .u16 ((Z.ky x).idx), .int .u32 ((Z.ky x).gen)]) h12 rfl rfl (rd_mA h12 (k := 13) (vs := [.int .u16 ((Z.ky x).idx), .int .u32 ((Z.ky x).gen)]) rfl rfl rfl rfl rfl (by rw [← hcx]; exact md_cur)) ?_
  have h13 := h12.put (d := some 45) (v := .agg #[.int .u16 ((Z.ky x).idx), .int .u32 ((Z.ky x).gen)]) (T' := [(45, .agg #[.int .u16 ((Z.ky x).idx), .int .u32 ((Z.ky x).gen)]), (3, .pointer (some ⟨b2, 0, none⟩)), (0, .pointer (some ⟨mb, 0, none⟩)), (1, .agg #[.int .u8 12, .int .u32 ev.pick, .int .u64 ev.draw, .int .u32 ev.addr, .int .u32 ev.node, .int .u32 ev.dst, .int .u32 ev.xfer, .int .u8 ev.ty, .int .u64 ev.arg, .int .u64 ev.badge, .slice xo ev.ws.length cx]), (4, .int .u8 0), (5, .bool false), (44, .pointer (some ⟨mb, 13, none⟩))]) rfl
  clear h12
  refine nd_op ?_
  refine op_new tabOk2 (cells := [.int .u16 0, .int .u32 0]) (ty := 39) (ln := none) (L1 := fun b14 => [(3, ⟨[.int .u16 0, .int .u32 0], ty3, true⟩), (b2, ⟨[.int .u8 12, .int .u32 ev.pick, .int .u64 ev.draw, .int .u32 ev.addr, .int .u32 ev.node, .int .u32 ev.dst, .int .u32 ev.xfer, .int .u8 ev.ty, .int .u64 ev.arg, .int .u64 ev.badge, .slice xo ev.ws.length cx], 35, false⟩), (b14, ⟨[.int .u16 0, .int .u32 0], 39, false⟩)]) h13 rfl rfl rfl rfl (by kernel_rfl) (fun _ => rfl) fun b14 w15 a16 h17 hf18 hn19 => ?_
  clear h13
  refine nd_op ?_
  refine op_store tabOk2 {k := 2} (L' := [(3, ⟨[.int .u16 0, .int .u32 0], ty3, true⟩), (b2, ⟨[.int .u8 12, .int .u32 ev.pick, .int .u64 ev.draw, .int .u32 ev.addr, .int .u32 ev.node, .int .u32 ev.dst, .int .u32 ev.xfer, .int .u8 ev.ty, .int .u64 ev.arg, .int .u64 ev.badge, .slice xo ev.ws.length cx], 35, false⟩), (b14, ⟨[.int .u16 ((Z.ky x).idx), .int .u32 ((Z.ky x).gen)], 39, false⟩)]) (φ := b14 = b14 ∧ Nat.ble (0 + 2) 2 = true) h17 rfl rfl rfl (by kernel_rfl) ⟨rfl, rfl⟩ fun w20 h21 => ?_
  clear h17
  refine nd_done ?_
  refine hK10 _ _ ?_
  clear hK10
  refine wp_seq_k fun K22 hK22 => ?_
  refine dr_start (KB := [3, b2, b14, mb, Z.tb]) (Bi := [[0, 1, 2, 3, 4], [0, 1, 2, 3, 4], [0, 1, 2, 3, 4], [0, 1, 2, 3, 4], [0, 1, 2, 3, 4], [0, 1, 2, 3, 4], [0, 1, 2, 3, 4]]) mixed h21 fun w23 h24 => ?_
  clear h21
  refine dr_batch tabOk2 tabZ_ok2 (by repeat (first | with_reducible exact PF.body | with_reducible apply PF.inB | with_reducible apply PF.next)) [(0, {}), (1, {}), (2, {})] [6, 3, 0, 1, 4, 5, 48] (T' := [(6, .pointer (some ⟨b14, 0, none⟩)), (3, .pointer (some ⟨b2, 0, none⟩)), (0, .pointer (some ⟨mb, 0, none⟩)), (1, .agg #[.int .u8 12, .int .u32 ev.pick, .int .u64 ev.draw, .int .u32 ev.addr, .int .u32 ev.node, .int .u32 ev.dst, .int .u32 ev.xfer, .int .u8 ev.ty, .int .u64 ev.arg, .int .u64 ev.badge, .slice xo ev.ws.length cx]), (4, .int .u8 0), (5, .bool false), (48, .pointer (some ⟨mb, 2, none⟩))]) (φ := True) (fuel := 4) h24 (by kernel_rfl) rfl (by kernel_rfl) (by kernel_rfl) ⟨trivial, trivial, trivial, trivial⟩ trivial fun a26 h27 => ?_
  clear h24
  refine dr_read (i := 3) (b := mb) (p := 3) (v := .map (some Z.tb)) (fuel := 3) (by repeat (first | with_reducible exact PF.body | with_reducible apply PF.inB | with_reducible apply PF.next)) h27 rfl rfl rfl (by kernel_rfl) (by kernel_rfl) (by kernel_rfl) rfl (rd_m h27 (k := 2) (v := .map (some Z.tb)) rfl rfl rfl rfl (md_p ⟨rfl, trivial⟩)) ?_
  have h28 := h27.put (d := some 49) (v := .map (some Z.tb)) (T' := [(49, .map (some Z.tb)), (6, .pointer (some ⟨b14, 0, none⟩)), (3, .pointer (some ⟨b2, 0, none⟩)), (0, .pointer (some ⟨mb, 0, none⟩)), (1, .agg #[.int .u8 12, .int .u32 ev.pick, .int .u64 ev.draw, .int .u32 ev.addr, .int .u32 ev.node, .int .u32 ev.dst, .int .u32 ev.xfer, .int .u8 ev.ty, .int .u64 ev.arg, .int .u64 ev.badge, .slice xo ev.ws.length cx]), (4, .int .u8 0), (5, .bool false), (48, .pointer (some ⟨mb, 2, none⟩))]) rfl
  clear h27
  refine dr_batch tabOk2 tabZ_ok2 (by repeat (first | with_reducible exact PF.body | with_reducible apply PF.inB | with_reducible apply PF.next)) [(4, {k := 2, p := 2})] [49, 6, 3, 0, 1, 4, 5, 50] (T' := [(49, .map (some Z.tb)), (6, .pointer (some ⟨b14, 0, none⟩)), (3, .pointer (some ⟨b2, 0, none⟩)), (0, .pointer (some ⟨mb, 0, none⟩)), (1, .agg #[.int .u8 12, .int .u32 ev.pick, .int .u64 ev.draw, .int .u32 ev.addr, .int .u32 ev.node, .int .u32 ev.dst, .int .u32 ev.xfer, .int .u8 ev.ty, .int .u64 ev.arg, .int .u64 ev.badge, .slice xo ev.ws.length cx]), (4, .int .u8 0), (5, .bool false), (50, .agg #[.int .u16 ((Z.ky x).idx), .int .u32 ((Z.ky x).gen)])]) (φ := (b14 = b14 ∧ Nat.ble (0 + 2) 2 = true) ∧ True) (fuel := 2) h28 (by kernel_rfl) rfl (by kernel_rfl) (by kernel_rfl) ⟨rfl, trivial⟩ ⟨⟨rfl, rfl⟩, trivial⟩ fun a29 h30 => ?_
  clear h28
  refine dr_read (i := 5) (b := Z.tb) (p := 4) (v := .pointer (some ⟨(Z.tp x), 0, none⟩)) (fuel := 1) (by repeat (first | with_reducible exact PF.body | with_reducible apply PF.inB | with_reducible apply PF.next)) h30 rfl rfl rfl (by kernel_rfl) (by kernel_rfl) (by kernel_rfl) rfl (rd_T h30 (x := x) hx rfl rfl rfl) ?_
  have h31 := h30.put (d := some 51) (v := .pointer (some ⟨(Z.tp x), 0, none⟩)) (T' := [(51, .pointer (some ⟨(Z.tp x), 0, none⟩)), (49, .map (some Z.tb)), (6, .pointer (some ⟨b14, 0, none⟩)), (3, .pointer (some ⟨b2, 0, none⟩)), (0, .pointer (some ⟨mb, 0, none⟩)), (1, .agg #[.int .u8 12, .int .u32 ev.pick, .int .u64 ev.draw, .int .u32 ev.addr, .int .u32 ev.node, .int .u32 ev.dst, .int .u32 ev.xfer, .int .u8 ev.ty, .int .u64 ev.arg, .int .u64 ev.badge, .slice xo ev.ws.length cx]), (4, .int .u8 0), (5, .bool false), (50, .agg #[.int .u16 ((Z.ky x).idx), .int .u32 ((Z.ky x).gen)])]) rfl
  clear h30
  refine dr_batch tabOk2 tabZ_ok2 (by repeat (first | with_reducible exact PF.body | with_reducible apply PF.inB | with_reducible apply PF.next)) [(6, {})] [6, 3, 0, 1, 4, 5, 7] (T' := [(6, .pointer (some ⟨b14, 0, none⟩)), (3, .pointer (some ⟨b2, 0, none⟩)), (0, .pointer (some ⟨mb, 0, none⟩)), (1, .agg #[.int .u8 12, .int .u32 ev.pick, .int .u64 ev.draw, .int .u32 ev.addr, .int .u32 ev.node, .int .u32 ev.dst, .int .u32 ev.xfer, .int .u8 ev.ty, .int .u64 ev.arg, .int .u64 ev.badge, .slice xo ev.ws.length cx]), (4, .int .u8 0), (5, .bool false), (7, .pointer (some ⟨(Z.tp x), 0, none⟩))]) (φ := True) (fuel := 0) h31 (by kernel_rfl) rfl (by kernel_rfl) (by kernel_rfl) ⟨trivial, trivial⟩ trivial fun a32 h33 => ?_
  clear h31
  refine wpAnyK_done (by kernel_rfl) ?_ _
  refine hK22 _ _ ?_
  clear hK22
  refine wp_seq_k fun K34 hK34 => ?_
  refine wp_seq_k fun K35 hK35 => ?_
  refine nd_start (l := [0, 1]) rfl ?_
  refine nd_batch tabOk2 tabZ_ok2 [(0, {}), (1, {k := 1})] [6, 3, 0, 1, 4, 5, 7, 53] (T' := [(6, .pointer (some ⟨b14, 0, none⟩)), (3, .pointer (some ⟨b2, 0, none⟩)), (0, .pointer (some ⟨mb, 0, none⟩)), (1, .agg #[.int .u8 12, .int .u32 ev.pick, .int .u64 ev.draw, .int .u32 ev.addr, .int .u32 ev.node, .int .u32 ev.dst, .int .u32 ev.xfer, .int .u8 ev.ty, .int .u64 ev.arg, .int .u64 ev.badge, .slice xo ev.ws.length cx]), (4, .int .u8 0), (5, .bool false), (7, .pointer (some ⟨(Z.tp x), 0, none⟩)), (53, .int .u8 12)]) (φ := (b2 = b2 ∧ Nat.ble (0 + 1) 11 = true) ∧ True) (rest := []) h33 (by kernel_rfl) rfl ⟨⟨rfl, rfl⟩, trivial⟩ fun a36 h37 => ?_
  clear h33
  refine nd_done ?_
  refine hK35 _ _ ?_
  clear hK35
  refine wp_block ?_
  refine wp_seq_k fun K38 hK38 => ?_
  refine nd_start (l := [0, 1]) rfl ?_
  refine nd_batch tabOk2 tabZ_ok2 [(0, {}), (1, {})] [6, 3, 0, 1, 4, 5, 7, 53, 54] (T' := [(6, .pointer (some ⟨b14, 0, none⟩)), (3, .pointer (some ⟨b2, 0, none⟩)), (0, .pointer (some ⟨mb, 0, none⟩)), (1, .agg #[.int .u8 12, .int .u32 ev.pick, .int .u64 ev.draw, .int .u32 ev.addr, .int .u32 ev.node, .int .u32 ev.dst, .int .u32 ev.xfer, .int .u8 ev.ty, .int .u64 ev.arg, .int .u64 ev.badge, .slice xo ev.ws.length cx]), (4, .int .u8 0), (5, .bool false), (7, .pointer (some ⟨(Z.tp x), 0, none⟩)), (53, .int .u8 12), (54, .bool false)]) (φ := True) (rest := []) h37 (by kernel_rfl) rfl trivial fun a39 h40 => ?_
  clear h37
  refine nd_done ?_
  refine hK38 _ _ ?_
  clear hK38
  refine c_false h40 rfl ?_
  refine wp_seq_k fun K41 hK41 => ?_
  refine nd_start (l := [0, 1]) rfl ?_
  refine nd_batch tabOk2 tabZ_ok2 [(0, {}), (1, {})] [6, 3, 0, 1, 4, 5, 7, 53, 59] (T' := [(6, .pointer (some ⟨b14, 0, none⟩)), (3, .pointer (some ⟨b2, 0, none⟩)), (0, .pointer (some ⟨mb, 0, none⟩)), (1, .agg #[.int .u8 12, .int .u32 ev.pick, .int .u64 ev.draw, .int .u32 ev.addr, .int .u32 ev.node, .int .u32 ev.dst, .int .u32 ev.xfer, .int .u8 ev.ty, .int .u64 ev.arg, .int .u64 ev.badge, .slice xo ev.ws.length cx]), (4, .int .u8 0), (5, .bool false), (7, .pointer (some ⟨(Z.tp x), 0, none⟩)), (53, .int .u8 12), (59, .bool false)]) (φ := True) (rest := []) h40 (by kernel_rfl) rfl trivial fun a42 h43 => ?_
  clear h40
  refine nd_done ?_
  refine hK41 _ _ ?_
  clear hK41
  refine c_false h43 rfl ?_
  refine wp_seq_k fun K44 hK44 => ?_
  refine wp_seq_k fun K45 hK45 => ?_
  refine nd_start (l := [0, 1]) rfl ?_
  refine nd_batch tabOk2 tabZ_ok2 [(0, {}), (1, {})] [6, 3, 0, 1, 4, 5, 7, 53, 66] (T' := [(6, .pointer (some ⟨b14, 0, none⟩)), (3, .pointer (some ⟨b2, 0, none⟩)), (0, .pointer (some ⟨mb, 0, none⟩)), (1, .agg #[.int .u8 12, .int .u32 ev.pick, .int .u64 ev.draw, .int .u32 ev.addr, .int .u32 ev.node, .int .u32 ev.dst, .int .u32 ev.xfer, .int .u8 ev.ty, .int .u64 ev.arg, .int .u64 ev.badge, .slice xo ev.ws.length cx]), (4, .int .u8 0), (5, .bool false), (7, .pointer (some ⟨(Z.tp x), 0, none⟩)), (53, .int .u8 12), (66, .bool false)]) (φ := True) (rest := []) h43 (by kernel_rfl) rfl trivial fun a46 h47 => ?_
  clear h43
  refine nd_done ?_
  refine hK45 _ _ ?_
  clear hK45
  refine c_false h47 rfl ?_
  refine nd_start (l := [0, 1]) rfl ?_
  refine nd_batch tabOk2 tabZ_ok2 [(0, {}), (1, {})] [6, 3, 0, 1, 4, 5, 7, 53, 66] (T' := [(6, .pointer (some ⟨b14, 0, none⟩)), (3, .pointer (some ⟨b2, 0, none⟩)), (0, .pointer (some ⟨mb, 0, none⟩)), (1, .agg #[.int .u8 12, .int .u32 ev.pick, .int .u64 ev.draw, .int .u32 ev.addr, .int .u32 ev.node, .int .u32 ev.dst, .int .u32 ev.xfer, .int .u8 ev.ty, .int .u64 ev.arg, .int .u64 ev.badge, .slice xo ev.ws.length cx]), (4, .int .u8 0), (5, .bool false), (7, .pointer (some ⟨(Z.tp x), 0, none⟩)), (53, .int .u8 12), (66, .bool false)]) (φ := True) (rest := []) h47 (by kernel_rfl) rfl trivial fun a48 h49 => ?_
  clear h47
  refine nd_done ?_
  refine hK44 _ _ ?_
  clear hK44
  refine c_false h49 rfl ?_
  refine wp_seq_k fun K50 hK50 => ?_
  refine nd_start (l := [0, 1]) rfl ?_
  refine nd_batch tabOk2 tabZ_ok2 [(0, {}), (1, {})] [6, 3, 0, 1, 4, 5, 7, 53, 66, 129] (T' := [(6, .pointer (some ⟨b14, 0, none⟩)), (3, .pointer (some ⟨b2, 0, none⟩)), (0, .pointer (some ⟨mb, 0, none⟩)), (1, .agg #[.int .u8 12, .int .u32 ev.pick, .int .u64 ev.draw, .int .u32 ev.addr, .int .u32 ev.node, .int .u32 ev.dst, .int .u32 ev.xfer, .int .u8 ev.ty, .int .u64 ev.arg, .int .u64 ev.badge, .slice xo ev.ws.length cx]), (4, .int .u8 0), (5, .bool false), (7, .pointer (some ⟨(Z.tp x), 0, none⟩)), (53, .int .u8 12), (66, .bool false), (129, .bool false)]) (φ := True) (rest := []) h49 (by kernel_rfl) rfl trivial fun a51 h52 => ?_
  clear h49
  refine nd_done ?_
  refine hK50 _ _ ?_
  clear hK50
  refine c_false h52 rfl ?_
  refine wp_seq_k fun K53 hK53 => ?_
  refine nd_start (l := [0, 1]) rfl ?_
  refine nd_batch tabOk2 tabZ_ok2 [(0, {}), (1, {})] [6, 3, 0, 1, 4, 5, 7, 53, 66, 165] (T' := [(6, .pointer (some ⟨b14, 0, none⟩)), (3, .pointer (some ⟨b2, 0, none⟩)), (0, .pointer (some ⟨mb, 0, none⟩)), (1, .agg #[.int .u8 12, .int .u32 ev.pick, .int .u64 ev.draw, .int .u32 ev.addr, .int .u32 ev.node, .int .u32 ev.dst, .int .u32 ev.xfer, .int .u8 ev.ty, .int .u64 ev.arg, .int .u64 ev.badge, .slice xo ev.ws.length cx]), (4, .int .u8 0), (5, .bool false), (7, .pointer (some ⟨(Z.tp x), 0, none⟩)), (53, .int .u8 12), (66, .bool false), (165, .bool false)]) (φ := True) (rest := []) h52 (by kernel_rfl) rfl trivial fun a54 h55 => ?_
  clear h52
  refine nd_done ?_
  refine hK53 _ _ ?_
  clear hK53
  refine c_false h55 rfl ?_
  refine wp_seq_k fun K56 hK56 => ?_
  refine nd_start (l := [0, 1]) rfl ?_
  refine nd_batch tabOk2 tabZ_ok2 [(0, {}), (1, {})] [6, 3, 0, 1, 4, 5, 7, 53, 66, 226] (T' := [(6, .pointer (some ⟨b14, 0, none⟩)), (3, .pointer (some ⟨b2, 0, none⟩)), (0, .pointer (some ⟨mb, 0, none⟩)), (1, .agg #[.int .u8 12, .int .u32 ev.pick, .int .u64 ev.draw, .int .u32 ev.addr, .int .u32 ev.node, .int .u32 ev.dst, .int .u32 ev.xfer, .int .u8 ev.ty, .int .u64 ev.arg, .int .u64 ev.badge, .slice xo ev.ws.length cx]), (4, .int .u8 0), (5, .bool false), (7, .pointer (some ⟨(Z.tp x), 0, none⟩)), (53, .int .u8 12), (66, .bool false), (226, .bool false)]) (φ := True) (rest := []) h55 (by kernel_rfl) rfl trivial fun a57 h58 => ?_
  clear h55
  refine nd_done ?_
  refine hK56 _ _ ?_
  clear hK56
  refine c_false h58 rfl ?_
  refine wp_seq_k fun K59 hK59 => ?_
  refine nd_start (l := [0, 1]) rfl ?_
  refine nd_batch tabOk2 tabZ_ok2 [(0, {}), (1, {})] [6, 3, 0, 1, 4, 5, 7, 53, 66, 244] (T' := [(6, .pointer (some ⟨b14, 0, none⟩)), (3, .pointer (some ⟨b2, 0, none⟩)), (0, .pointer (some ⟨mb, 0, none⟩)), (1, .agg #[.int .u8 12, .int .u32 ev.pick, .int .u64 ev.draw, .int .u32 ev.addr, .int .u32 ev.node, .int .u32 ev.dst, .int .u32 ev.xfer, .int .u8 ev.ty, .int .u64 ev.arg, .int .u64 ev.badge, .slice xo ev.ws.length cx]), (4, .int .u8 0), (5, .bool false), (7, .pointer (some ⟨(Z.tp x), 0, none⟩)), (53, .int .u8 12), (66, .bool false), (244, .bool false)]) (φ := True) (rest := []) h58 (by kernel_rfl) rfl trivial fun a60 h61 => ?_
  clear h58
  refine nd_done ?_
  refine hK59 _ _ ?_
  clear hK59
  refine c_false h61 rfl ?_
  refine wp_seq_k fun K62 hK62 => ?_
  refine nd_start (l := [0, 1]) rfl ?_
  refine nd_batch tabOk2 tabZ_ok2 [(0, {}), (1, {})] [6, 3, 0, 1, 4, 5, 7, 53, 66, 285] (T' := [(6, .pointer (some ⟨b14, 0, none⟩)), (3, .pointer (some ⟨b2, 0, none⟩)), (0, .pointer (some ⟨mb, 0, none⟩)), (1, .agg #[.int .u8 12, .int .u32 ev.pick, .int .u64 ev.draw, .int .u32 ev.addr, .int .u32 ev.node, .int .u32 ev.dst, .int .u32 ev.xfer, .int .u8 ev.ty, .int .u64 ev.arg, .int .u64 ev.badge, .slice xo ev.ws.length cx]), (4, .int .u8 0), (5, .bool false), (7, .pointer (some ⟨(Z.tp x), 0, none⟩)), (53, .int .u8 12), (66, .bool false), (285, .bool false)]) (φ := True) (rest := []) h61 (by kernel_rfl) rfl trivial fun a63 h64 => ?_
  clear h61
  refine nd_done ?_
  refine hK62 _ _ ?_
  clear hK62
  refine c_false h64 rfl ?_
  refine wp_seq_k fun K65 hK65 => ?_
  refine nd_start (l := [0, 1]) rfl ?_
  refine nd_batch tabOk2 tabZ_ok2 [(0, {}), (1, {})] [6, 3, 0, 1, 4, 5, 7, 53, 66, 388] (T' := [(6, .pointer (some ⟨b14, 0, none⟩)), (3, .pointer (some ⟨b2, 0, none⟩)), (0, .pointer (some ⟨mb, 0, none⟩)), (1, .agg #[.int .u8 12, .int .u32 ev.pick, .int .u64 ev.draw, .int .u32 ev.addr, .int .u32 ev.node, .int .u32 ev.dst, .int .u32 ev.xfer, .int .u8 ev.ty, .int .u64 ev.arg, .int .u64 ev.badge, .slice xo ev.ws.length cx]), (4, .int .u8 0), (5, .bool false), (7, .pointer (some ⟨(Z.tp x), 0, none⟩)), (53, .int .u8 12), (66, .bool false), (388, .bool false)]) (φ := True) (rest := []) h64 (by kernel_rfl) rfl trivial fun a66 h67 => ?_
  clear h64
  refine nd_done ?_
  refine hK65 _ _ ?_
  clear hK65
  refine c_false h67 rfl ?_
  refine wp_seq_k fun K68 hK68 => ?_
  refine wp_seq_k fun K69 hK69 => ?_
  refine nd_start (l := [0, 1]) rfl ?_
  refine nd_batch tabOk2 tabZ_ok2 [(0, {}), (1, {})] [6, 3, 0, 1, 4, 5, 7, 53, 66, 437] (T' := [(6, .pointer (some ⟨b14, 0, none⟩)), (3, .pointer (some ⟨b2, 0, none⟩)), (0, .pointer (some ⟨mb, 0, none⟩)), (1, .agg #[.int .u8 12, .int .u32 ev.pick, .int .u64 ev.draw, .int .u32 ev.addr, .int .u32 ev.node, .int .u32 ev.dst, .int .u32 ev.xfer, .int .u8 ev.ty, .int .u64 ev.arg, .int .u64 ev.badge, .slice xo ev.ws.length cx]), (4, .int .u8 0), (5, .bool false), (7, .pointer (some ⟨(Z.tp x), 0, none⟩)), (53, .int .u8 12), (66, .bool false), (437, .bool true)]) (φ := True) (rest := []) h67 (by kernel_rfl) rfl trivial fun a70 h71 => ?_
  clear h67
  refine nd_done ?_
  refine hK69 _ _ ?_
  clear hK69
  refine c_true h71 rfl ?_
  refine wp_skip ?_
  refine hK68 _ _ ?_
  clear hK68
  refine c_true h71 rfl ?_
  refine wp_seq_k fun K72 hK72 => ?_
  refine nd_start (l := [0, 1, 2, 3, 4, 5, 6, 7, 8]) rfl ?_
  refine nd_batch tabOk2 tabZ_ok2 [(0, {}), (1, {}), (2, {k := 1})] [6, 3, 0, 1, 4, 5, 7, 53, 66, 437, 441, 443] (T' := [(6, .pointer (some ⟨b14, 0, none⟩)), (3, .pointer (some ⟨b2, 0, none⟩)), (0, .pointer (some ⟨mb, 0, none⟩)), (1, .agg #[.int .u8 12, .int .u32 ev.pick, .int .u64 ev.draw, .int .u32 ev.addr, .int .u32 ev.node, .int .u32 ev.dst, .int .u32 ev.xfer, .int .u8 ev.ty, .int .u64 ev.arg, .int .u64 ev.badge, .slice xo ev.ws.length cx]), (4, .int .u8 0), (5, .bool false), (7, .pointer (some ⟨(Z.tp x), 0, none⟩)), (53, .int .u8 12), (66, .bool false), (437, .bool true), (441, .pointer (some ⟨mb, 0, none⟩)), (443, .int .u32 ev.addr)]) (φ := (b2 = b2 ∧ Nat.ble (3 + 1) 11 = true) ∧ True) (rest := [3, 4, 5, 6, 7, 8]) h71 (by kernel_rfl) rfl ⟨⟨rfl, rfl⟩, trivial⟩ fun a73 h74 => ?_
  clear h71
  refine nd_op ?_
  refine op_call h74 rfl rfl rfl (callOk Tryd.func93 (by decide) rfl) (args := [.pointer (some ⟨mb, 0, none⟩), .int .u32 ev.addr]) rfl (cellOf_ok mb Z _ a C x hx hcx hci ev.addr he.addr e1 _ (mh_of h74 hho (k := 0) rfl)) ?_
  rintro _ w75 ⟨rfl, hg77⟩
  refine ⟨_, rfl, ?_⟩
  have h78a := st_mg h74 hg77 (kcons (fun _ => rfl) (kcons (fun hq => by cases hq) (kcons (fun hq => by cases hq) knil)))
  have h78 := h78a.put (d := some 444) (v := .tuple #[.int .i64 s1, .int .u8 k1]) (T' := [(444, .tuple #[.int .i64 s1, .int .u8 k1]), (6, .pointer (some ⟨b14, 0, none⟩)), (3, .pointer (some ⟨b2, 0, none⟩)), (0, .pointer (some ⟨mb, 0, none⟩)), (1, .agg #[.int .u8 12, .int .u32 ev.pick, .int .u64 ev.draw, .int .u32 ev.addr, .int .u32 ev.node, .int .u32 ev.dst, .int .u32 ev.xfer, .int .u8 ev.ty, .int .u64 ev.arg, .int .u64 ev.badge, .slice xo ev.ws.length cx]), (4, .int .u8 0), (5, .bool false), (7, .pointer (some ⟨(Z.tp x), 0, none⟩)), (53, .int .u8 12), (66, .bool false), (437, .bool true), (441, .pointer (some ⟨mb, 0, none⟩)), (443, .int .u32 ev.addr)]) rfl
  have hhoh78 := hg77.mh.ho
  clear h74 h78a
  refine nd_batch tabOk2 tabZ_ok2 [(4, {}), (5, {}), (6, {}), (7, {}), (8, {})] [6, 3, 0, 1, 4, 5, 7, 53, 66, 437, 31, 32] (T' := [(6, .pointer (some ⟨b14, 0, none⟩)), (3, .pointer (some ⟨b2, 0, none⟩)), (0, .pointer (some ⟨mb, 0, none⟩)), (1, .agg #[.int .u8 12, .int .u32 ev.pick, .int .u64 ev.draw, .int .u32 ev.addr, .int .u32 ev.node, .int .u32 ev.dst, .int .u32 ev.xfer, .int .u8 ev.ty, .int .u64 ev.arg, .int .u64 ev.badge, .slice xo ev.ws.length cx]), (4, .int .u8 0), (5, .bool false), (7, .pointer (some ⟨(Z.tp x), 0, none⟩)), (53, .int .u8 12), (66, .bool false), (437, .bool true), (31, .int .i64 s1), (32, .int .u8 k1)]) (φ := True) (rest := []) h78 (by kernel_rfl) rfl trivial fun a79 h80 => ?_
  clear h78
  refine nd_done ?_
  refine hK72 _ _ ?_
  clear hK72
  refine wp_seq_k fun K81 hK81 => ?_
  refine wp_seq_k fun K82 hK82 => ?_
  refine nd_start (l := [0, 1]) rfl ?_
  refine nd_batch tabOk2 tabZ_ok2 [(0, {}), (1, {})] [6, 3, 0, 1, 4, 5, 7, 53, 66, 437, 31, 32, 448] (T' := [(6, .pointer (some ⟨b14, 0, none⟩)), (3, .pointer (some ⟨b2, 0, none⟩)), (0, .pointer (some ⟨mb, 0, none⟩)), (1, .agg #[.int .u8 12, .int .u32 ev.pick, .int .u64 ev.draw, .int .u32 ev.addr, .int .u32 ev.node, .int .u32 ev.dst, .int .u32 ev.xfer, .int .u8 ev.ty, .int .u64 ev.arg, .int .u64 ev.badge, .slice xo ev.ws.length cx]), (4, .int .u8 0), (5, .bool false), (7, .pointer (some ⟨(Z.tp x), 0, none⟩)), (53, .int .u8 12), (66, .bool false), (437, .bool true), (31, .int .i64 s1), (32, .int .u8 k1), (448, .bool (k1 != 0))]) (φ := True) (rest := []) h80 (by kernel_rfl) rfl trivial fun a83 h84 => ?_
  clear h80
  refine nd_done ?_
  refine hK82 _ _ ?_
  clear hK82
  refine c_split h84 (b := (k1 != 0)) rfl (fun hc85 => ?_) (fun hc85 => ?_)
  ·
    have hc85f : k1 ≠ 0 := by simpa using hc85
    refine wp_seq_k fun K86 hK86 => ?_
    refine nd_start (l := [0, 1, 2]) rfl ?_
    refine nd_batch tabOk2 tabZ_ok2 [(0, {}), (1, {}), (2, {})] [6, 3, 0, 1, 7, 53, 66, 437, 31, 32, 4, 5] (T' := [(6, .pointer (some ⟨b14, 0, none⟩)), (3, .pointer (some ⟨b2, 0, none⟩)), (0, .pointer (some ⟨mb, 0, none⟩)), (1, .agg #[.int .u8 12, .int .u32 ev.pick, .int .u64 ev.draw, .int .u32 ev.addr, .int .u32 ev.node, .int .u32 ev.dst, .int .u32 ev.xfer, .int .u8 ev.ty, .int .u64 ev.arg, .int .u64 ev.badge, .slice xo ev.ws.length cx]), (7, .pointer (some ⟨(Z.tp x), 0, none⟩)), (53, .int .u8 12), (66, .bool false), (437, .bool true), (31, .int .i64 s1), (32, .int .u8 k1), (4, .int .u8 k1), (5, .bool false)]) (φ := True) (rest := []) h84 (by kernel_rfl) rfl trivial fun a87 h88 => ?_
    clear h84
    refine nd_done ?_
    refine hK86 _ _ ?_
    clear hK86
    refine wp_ret ?_
    try simp only [Exit.then, Exit.inBlock]
    try rw [if_pos trivial]
    exact s_ret tabOk2 tabZ_ok2 h88 [(.tmp 4, {}), (.tmp 5, {})] (vs := [.int .u8 k1, .bool false]) (φ := True) rfl (by kernel_rfl) trivial ⟨rfl, _, mg_end hH h88 hhoh78 rfl⟩
  ·
    have hc85f : k1 = 0 := by simpa using hc85
    exact absurd hc85f hk0

theorem call12z (mb : Nat) (Z : MZ) (R : MR) (a : AK) (C : CP) (hI : MI Z a C) (x : Nat) (hx : x ∈ sl Z.tl) (hcu : a.cur = (x : Int)) (ev : Ev) (he : EvOk ev) (xo : Option Addr) (cx : Nat) (s1 : Int) (e1 : lookP C.ent (a.th x).cs ev.addr = (s1, 0)) (hz2 : (C.cel s1.toNat).cap.ty = 0) (w : World) (hH : MH mb Z R a C w) (hws : WordsAt (mdF mb Z R C) w xo ev.ws) :
    Calls Tryd.prog 55 #[.pointer (some ⟨mb, 0, none⟩), .agg #[.int .u8 12, .int .u32 ev.pick, .int .u64 ev.draw, .int .u32 ev.addr, .int .u32 ev.node, .int .u32 ev.dst, .int .u32 ev.xfer, .int .u8 ev.ty, .int .u64 ev.arg, .int .u64 ev.badge, .slice xo ev.ws.length cx]] w fun e w' => e = .returned (.tuple #[.int .u8 3, .bool false]) ∧ ∃ R', MG mb Z R C w Z R' a C w' := by
  have hP := hI.mp
  have hcx : curR Z a = Z.ky x := curR_of hcu
  have hcn : a.cur.toNat = x := by rw [hcu]; exact Int.toNat_natCast x
  have hci := (hI.tk x hx).ci
  obtain ⟨ty3, hg3⟩ := hH.g3
  have hho := hH.ho
  have hkk := hH.md.k
  refine enter (n := 628) (K := mdF mb Z R C) (A := MD (mdF mb Z R C) w.heap.size mb Z R a C) (F := mdF mb Z R C) (T := [(0, .pointer (some ⟨mb, 0, none⟩)), (1, .agg #[.int .u8 12, .int .u32 ev.pick, .int .u64 ev.draw, .int .u32 ev.addr, .int .u32 ev.node, .int .u32 ev.dst, .int .u32 ev.xfer, .int .u8 ev.ty, .int .u64 ev.arg, .int .u64 ev.badge, .slice xo ev.ws.length cx])]) (L := [(3, ⟨[.int .u16 0, .int .u32 0], ty3, true⟩)]) (args := [.pointer (some ⟨mb, 0, none⟩), .agg #[.int .u8 12, .int .u32 ev.pick, .int .u64 ev.draw, .int .u32 ev.addr, .int .u32 ev.node, .int .u32 ev.dst, .int .u32 ev.xfer, .int .u8 ev.ty, .int .u64 ev.arg, .int .u64 ev.badge, .slice xo ev.ws.length cx]]) Tryd.func55 rfl rfl rfl rfl (kcons hg3 knil) (by simp) (kcons (by intro hq; cases hq) knil) hH.mD MD.stable hH.md.low (kcons (by intro hq; cases hq) knil) ?_
  intro ac h
  refine wp_seq_k fun K1 hK1 => ?_
  refine nd_start (l := [0, 1, 2]) rfl ?_
  refine nd_op ?_
  refine op_new tabOk2 (cells := [.int .u8 12, .int .u32 ev.pick, .int .u64 ev.draw, .int .u32 ev.addr, .int .u32 ev.node, .int .u32 ev.dst, .int .u32 ev.xfer, .int .u8 ev.ty, .int .u64 ev.arg, .int .u64 ev.badge, .slice xo ev.ws.length cx]) (ty := 35) (ln := none) (L1 := fun b2 => [(3, ⟨[.int .u16 0, .int .u32 0], ty3, true⟩), (b2, ⟨[.int .u8 12, .int .u32 ev.pick, .int .u64 ev.draw, .int .u32 ev.addr, .int .u32 ev.node, .int .u32 ev.dst, .int .u32 ev.xfer, .int .u8 ev.ty, .int .u64 ev.arg, .int .u64 ev.badge, .slice xo ev.ws.length cx], 35, false⟩)]) h rfl rfl rfl rfl (by kernel_rfl) (fun _ => rfl) fun b2 w3 a4 h5 hf6 hn7 => ?_
  clear h
  refine nd_batch tabOk2 tabZ_ok2 [(1, {}), (2, {})] [3, 0, 1, 4, 5] (T' := [(3, .pointer (some ⟨b2, 0, none⟩)), (0, .pointer (some ⟨mb, 0, none⟩)), (1, .agg #[.int .u8 12, .int .u32 ev.pick, .int .u64 ev.draw, .int .u32 ev.addr, .int .u32 ev.node, .int .u32 ev.dst, .int .u32 ev.xfer, .int .u8 ev.ty, .int .u64 ev.arg, .int .u64 ev.badge, .slice xo ev.ws.length cx]), (4, .int .u8 0), (5, .bool false)]) (φ := True) (rest := []) h5 (by kernel_rfl) rfl trivial fun a8 h9 => ?_
  clear h5
  refine nd_done ?_
  refine hK1 _ _ ?_
  clear hK1
  refine wp_seq_k fun K10 hK10 => ?_
  refine nd_start (l := [0, 1, 2, 3, 4, 5]) rfl ?_
  refine nd_batch tabOk2 tabZ_ok2 [(0, {}), (1, {}), (2, {})] [3, 0, 1, 4, 5, 44] (T' := [(3, .pointer (some ⟨b2, 0, none⟩)), (0, .pointer (some ⟨mb, 0, none⟩)), (1, .agg #[.int .u8 12, .int .u32 ev.pick, .int .u64 ev.draw, .int .u32 ev.addr, .int .u32 ev.node, .int .u32 ev.dst, .int .u32 ev.xfer, .int .u8 ev.ty, .int .u64 ev.arg, .int .u64 ev.badge, .slice xo ev.ws.length cx]), (4, .int .u8 0), (5, .bool false), (44, .pointer (some ⟨mb, 13, none⟩))]) (φ := True) (rest := [3, 4, 5]) h9 (by kernel_rfl) rfl trivial fun a11 h12 => ?_
  clear h9
  refine nd_op ?_
  refine op_read (b := mb) (v := .agg #[.int .u16 ((Z.ky x).idx), .int .u32 ((Z.ky x).gen)]) h12 rfl rfl (rd_mA h12 (k := 13) (vs := [.int .u16 ((Z.ky x).idx), .int .u32 ((Z.ky x).gen)]) rfl rfl rfl rfl rfl (by rw [← hcx]; exact md_cur)) ?_
  have h13 := h12.put (d := some 45) (v := .agg #[.int .u16 ((Z.ky x).idx), .int .u32 ((Z.ky x).gen)]) (T' := [(45, .agg #[.int .u16 ((Z.ky x).idx), .int .u32 ((Z.ky x).gen)]), (3, .pointer (some ⟨b2, 0, none⟩)), (0, .pointer (some ⟨mb, 0, none⟩)), (1, .agg #[.int .u8 12, .int .u32 ev.pick, .int .u64 ev.draw, .int .u32 ev.addr, .int .u32 ev.node, .int .u32 ev.dst, .int .u32 ev.xfer, .int .u8 ev.ty, .int .u64 ev.arg, .int .u64 ev.badge, .slice xo ev.ws.length cx]), (4, .int .u8 0), (5, .bool false), (44, .pointer (some ⟨mb, 13, none⟩))]) rfl
  clear h12
  refine nd_op ?_
  refine op_new tabOk2 (cells := [.int .u16 0, .int .u32 0]) (ty := 39) (ln := none) (L1 := fun b14 => [(3, ⟨[.int .u16 0, .int .u32 0], ty3, true⟩), (b2, ⟨[.int .u8 12, .int .u32 ev.pick, .int .u64 ev.draw, .int .u32 ev.addr, .int .u32 ev.node, .int .u32 ev.dst, .int .u32 ev.xfer, .int .u8 ev.ty, .int .u64 ev.arg, .int .u64 ev.badge, .slice xo ev.ws.length cx], 35, false⟩), (b14, ⟨[.int .u16 0, .int .u32 0], 39, false⟩)]) h13 rfl rfl rfl rfl (by kernel_rfl) (fun _ => rfl) fun b14 w15 a16 h17 hf18 hn19 => ?_
  clear h13
  refine nd_op ?_
  refine op_store tabOk2 {k := 2} (L' := [(3, ⟨[.int .u16 0, .int .u32 0], ty3, true⟩), (b2, ⟨[.int .u8 12, .int .u32 ev.pick, .int .u64 ev.draw, .int .u32 ev.addr, .int .u32 ev.node, .int .u32 ev.dst, .int .u32 ev.xfer, .int .u8 ev.ty, .int .u64 ev.arg, .int .u64 ev.badge, .slice xo ev.ws.length cx], 35, false⟩), (b14, ⟨[.int .u16 ((Z.ky x).idx), .int .u32 ((Z.ky x).gen)], 39, false⟩)]) (φ := b14 = b14 ∧ Nat.ble (0 + 2) 2 = true) h17 rfl rfl rfl (by kernel_rfl) ⟨rfl, rfl⟩ fun w20 h21 => ?_
  clear h17
  refine nd_done ?_
  refine hK10 _ _ ?_
  clear hK10
  refine wp_seq_k fun K22 hK22 => ?_
  refine dr_start (KB := [3, b2, b14, mb, Z.tb]) (Bi := [[0, 1, 2, 3, 4], [0, 1, 2, 3, 4], [0, 1, 2, 3, 4], [0, 1, 2, 3, 4], [0, 1, 2, 3, 4], [0, 1, 2, 3, 4], [0, 1, 2, 3, 4]]) mixed h21 fun w23 h24 => ?_
  clear h21
  refine dr_batch tabOk2 tabZ_ok2 (by repeat (first | with_reducible exact PF.body | with_reducible apply PF.inB | with_reducible apply PF.next)) [(0, {}), (1, {}), (2, {})] [6, 3, 0, 1, 4, 5, 48] (T' := [(6, .pointer (some ⟨b14, 0, none⟩)), (3, .pointer (some ⟨b2, 0, none⟩)), (0, .pointer (some ⟨mb, 0, none⟩)), (1, .agg #[.int .u8 12, .int .u32 ev.pick, .int .u64 ev.draw, .int .u32 ev.addr, .int .u32 ev.node, .int .u32 ev.dst, .int .u32 ev.xfer, .int .u8 ev.ty, .int .u64 ev.arg, .int .u64 ev.badge, .slice xo ev.ws.length cx]), (4, .int .u8 0), (5, .bool false), (48, .pointer (some ⟨mb, 2, none⟩))]) (φ := True) (fuel := 4) h24 (by kernel_rfl) rfl (by kernel_rfl) (by kernel_rfl) ⟨trivial, trivial, trivial, trivial⟩ trivial fun a26 h27 => ?_
  clear h24
  refine dr_read (i := 3) (b := mb) (p := 3) (v := .map (some Z.tb)) (fuel := 3) (by repeat (first | with_reducible exact PF.body | with_reducible apply PF.inB | with_reducible apply PF.next)) h27 rfl rfl rfl (by kernel_rfl) (by kernel_rfl) (by kernel_rfl) rfl (rd_m h27 (k := 2) (v := .map (some Z.tb)) rfl rfl rfl rfl (md_p ⟨rfl, trivial⟩)) ?_
  have h28 := h27.put (d := some 49) (v := .map (some Z.tb)) (T' := [(49, .map (some Z.tb)), (6, .pointer (some ⟨b14, 0, none⟩)), (3, .pointer (some ⟨b2, 0, none⟩)), (0, .pointer (some ⟨mb, 0, none⟩)), (1, .agg #[.int .u8 12, .int .u32 ev.pick, .int .u64 ev.draw, .int .u32 ev.addr, .int .u32 ev.node, .int .u32 ev.dst, .int .u32 ev.xfer, .int .u8 ev.ty, .int .u64 ev.arg, .int .u64 ev.badge, .slice xo ev.ws.length cx]), (4, .int .u8 0), (5, .bool false), (48, .pointer (some ⟨mb, 2, none⟩))]) rfl
  clear h27
  refine dr_batch tabOk2 tabZ_ok2 (by repeat (first | with_reducible exact PF.body | with_reducible apply PF.inB | with_reducible apply PF.next)) [(4, {k := 2, p := 2})] [49, 6, 3, 0, 1, 4, 5, 50] (T' := [(49, .map (some Z.tb)), (6, .pointer (some ⟨b14, 0, none⟩)), (3, .pointer (some ⟨b2, 0, none⟩)), (0, .pointer (some ⟨mb, 0, none⟩)), (1, .agg #[.int .u8 12, .int .u32 ev.pick, .int .u64 ev.draw, .int .u32 ev.addr, .int .u32 ev.node, .int .u32 ev.dst, .int .u32 ev.xfer, .int .u8 ev.ty, .int .u64 ev.arg, .int .u64 ev.badge, .slice xo ev.ws.length cx]), (4, .int .u8 0), (5, .bool false), (50, .agg #[.int .u16 ((Z.ky x).idx), .int .u32 ((Z.ky x).gen)])]) (φ := (b14 = b14 ∧ Nat.ble (0 + 2) 2 = true) ∧ True) (fuel := 2) h28 (by kernel_rfl) rfl (by kernel_rfl) (by kernel_rfl) ⟨rfl, trivial⟩ ⟨⟨rfl, rfl⟩, trivial⟩ fun a29 h30 => ?_
  clear h28
  refine dr_read (i := 5) (b := Z.tb) (p := 4) (v := .pointer (some ⟨(Z.tp x), 0, none⟩)) (fuel := 1) (by repeat (first | with_reducible exact PF.body | with_reducible apply PF.inB | with_reducible apply PF.next)) h30 rfl rfl rfl (by kernel_rfl) (by kernel_rfl) (by kernel_rfl) rfl (rd_T h30 (x := x) hx rfl rfl rfl) ?_
  have h31 := h30.put (d := some 51) (v := .pointer (some ⟨(Z.tp x), 0, none⟩)) (T' := [(51, .pointer (some ⟨(Z.tp x), 0, none⟩)), (49, .map (some Z.tb)), (6, .pointer (some ⟨b14, 0, none⟩)), (3, .pointer (some ⟨b2, 0, none⟩)), (0, .pointer (some ⟨mb, 0, none⟩)), (1, .agg #[.int .u8 12, .int .u32 ev.pick, .int .u64 ev.draw, .int .u32 ev.addr, .int .u32 ev.node, .int .u32 ev.dst, .int .u32 ev.xfer, .int .u8 ev.ty, .int .u64 ev.arg, .int .u64 ev.badge, .slice xo ev.ws.length cx]), (4, .int .u8 0), (5, .bool false), (50, .agg #[.int .u16 ((Z.ky x).idx), .int .u32 ((Z.ky x).gen)])]) rfl
  clear h30
  refine dr_batch tabOk2 tabZ_ok2 (by repeat (first | with_reducible exact PF.body | with_reducible apply PF.inB | with_reducible apply PF.next)) [(6, {})] [6, 3, 0, 1, 4, 5, 7] (T' := [(6, .pointer (some ⟨b14, 0, none⟩)), (3, .pointer (some ⟨b2, 0, none⟩)), (0, .pointer (some ⟨mb, 0, none⟩)), (1, .agg #[.int .u8 12, .int .u32 ev.pick, .int .u64 ev.draw, .int .u32 ev.addr, .int .u32 ev.node, .int .u32 ev.dst, .int .u32 ev.xfer, .int .u8 ev.ty, .int .u64 ev.arg, .int .u64 ev.badge, .slice xo ev.ws.length cx]), (4, .int .u8 0), (5, .bool false), (7, .pointer (some ⟨(Z.tp x), 0, none⟩))]) (φ := True) (fuel := 0) h31 (by kernel_rfl) rfl (by kernel_rfl) (by kernel_rfl) ⟨trivial, trivial⟩ trivial fun a32 h33 => ?_
  clear h31
  refine wpAnyK_done (by kernel_rfl) ?_ _
  refine hK22 _ _ ?_
  clear hK22
  refine wp_seq_k fun K34 hK34 => ?_
  refine wp_seq_k fun K35 hK35 => ?_
  refine nd_start (l := [0, 1]) rfl ?_
  refine nd_batch tabOk2 tabZ_ok2 [(0, {}), (1, {k := 1})] [6, 3, 0, 1, 4, 5, 7, 53] (T' := [(6, .pointer (some ⟨b14, 0, none⟩)), (3, .pointer (some ⟨b2, 0, none⟩)), (0, .pointer (some ⟨mb, 0, none⟩)), (1, .agg #[.int .u8 12, .int .u32 ev.pick, .int .u64 ev.draw, .int .u32 ev.addr, .int .u32 ev.node, .int .u32 ev.dst, .int .u32 ev.xfer, .int .u8 ev.ty, .int .u64 ev.arg, .int .u64 ev.badge, .slice xo ev.ws.length cx]), (4, .int .u8 0), (5, .bool false), (7, .pointer (some ⟨(Z.tp x), 0, none⟩)), (53, .int .u8 12)]) (φ := (b2 = b2 ∧ Nat.ble (0 + 1) 11 = true) ∧ True) (rest := []) h33 (by kernel_rfl) rfl ⟨⟨rfl, rfl⟩, trivial⟩ fun a36 h37 => ?_
  clear h33
  refine nd_done ?_
  refine hK35 _ _ ?_
  clear hK35
  refine wp_block ?_
  refine wp_seq_k fun K38 hK38 => ?_
  refine nd_start (l := [0, 1]) rfl ?_
  refine nd_batch tabOk2 tabZ_ok2 [(0, {}), (1, {})] [6, 3, 0, 1, 4, 5, 7, 53, 54] (T' := [(6, .pointer (some ⟨b14, 0, none⟩)), (3, .pointer (some ⟨b2, 0, none⟩)), (0, .pointer (some ⟨mb, 0, none⟩)), (1, .agg #[.int .u8 12, .int .u32 ev.pick, .int .u64 ev.draw, .int .u32 ev.addr, .int .u32 ev.node, .int .u32 ev.dst, .int .u32 ev.xfer, .int .u8 ev.ty, .int .u64 ev.arg, .int .u64 ev.badge, .slice xo ev.ws.length cx]), (4, .int .u8 0), (5, .bool false), (7, .pointer (some ⟨(Z.tp x), 0, none⟩)), (53, .int .u8 12), (54, .bool false)]) (φ := True) (rest := []) h37 (by kernel_rfl) rfl trivial fun a39 h40 => ?_
  clear h37
  refine nd_done ?_
  refine hK38 _ _ ?_
  clear hK38
  refine c_false h40 rfl ?_
  refine wp_seq_k fun K41 hK41 => ?_
  refine nd_start (l := [0, 1]) rfl ?_
  refine nd_batch tabOk2 tabZ_ok2 [(0, {}), (1, {})] [6, 3, 0, 1, 4, 5, 7, 53, 59] (T' := [(6, .pointer (some ⟨b14, 0, none⟩)), (3, .pointer (some ⟨b2, 0, none⟩)), (0, .pointer (some ⟨mb, 0, none⟩)), (1, .agg #[.int .u8 12, .int .u32 ev.pick, .int .u64 ev.draw, .int .u32 ev.addr, .int .u32 ev.node, .int .u32 ev.dst, .int .u32 ev.xfer, .int .u8 ev.ty, .int .u64 ev.arg, .int .u64 ev.badge, .slice xo ev.ws.length cx]), (4, .int .u8 0), (5, .bool false), (7, .pointer (some ⟨(Z.tp x), 0, none⟩)), (53, .int .u8 12), (59, .bool false)]) (φ := True) (rest := []) h40 (by kernel_rfl) rfl trivial fun a42 h43 => ?_
  clear h40
  refine nd_done ?_
  refine hK41 _ _ ?_
  clear hK41
  refine c_false h43 rfl ?_
  refine wp_seq_k fun K44 hK44 => ?_
  refine wp_seq_k fun K45 hK45 => ?_
  refine nd_start (l := [0, 1]) rfl ?_
  refine nd_batch tabOk2 tabZ_ok2 [(0, {}), (1, {})] [6, 3, 0, 1, 4, 5, 7, 53, 66] (T' := [(6, .pointer (some ⟨b14, 0, none⟩)), (3, .pointer (some ⟨b2, 0, none⟩)), (0, .pointer (some ⟨mb, 0, none⟩)), (1, .agg #[.int .u8 12, .int .u32 ev.pick, .int .u64 ev.draw, .int .u32 ev.addr, .int .u32 ev.node, .int .u32 ev.dst, .int .u32 ev.xfer, .int .u8 ev.ty, .int .u64 ev.arg, .int .u64 ev.badge, .slice xo ev.ws.length cx]), (4, .int .u8 0), (5, .bool false), (7, .pointer (some ⟨(Z.tp x), 0, none⟩)), (53, .int .u8 12), (66, .bool false)]) (φ := True) (rest := []) h43 (by kernel_rfl) rfl trivial fun a46 h47 => ?_
  clear h43
  refine nd_done ?_
  refine hK45 _ _ ?_
  clear hK45
  refine c_false h47 rfl ?_
  refine nd_start (l := [0, 1]) rfl ?_
  refine nd_batch tabOk2 tabZ_ok2 [(0, {}), (1, {})] [6, 3, 0, 1, 4, 5, 7, 53, 66] (T' := [(6, .pointer (some ⟨b14, 0, none⟩)), (3, .pointer (some ⟨b2, 0, none⟩)), (0, .pointer (some ⟨mb, 0, none⟩)), (1, .agg #[.int .u8 12, .int .u32 ev.pick, .int .u64 ev.draw, .int .u32 ev.addr, .int .u32 ev.node, .int .u32 ev.dst, .int .u32 ev.xfer, .int .u8 ev.ty, .int .u64 ev.arg, .int .u64 ev.badge, .slice xo ev.ws.length cx]), (4, .int .u8 0), (5, .bool false), (7, .pointer (some ⟨(Z.tp x), 0, none⟩)), (53, .int .u8 12), (66, .bool false)]) (φ := True) (rest := []) h47 (by kernel_rfl) rfl trivial fun a48 h49 => ?_
  clear h47
  refine nd_done ?_
  refine hK44 _ _ ?_
  clear hK44
  refine c_false h49 rfl ?_
  refine wp_seq_k fun K50 hK50 => ?_
  refine nd_start (l := [0, 1]) rfl ?_
  refine nd_batch tabOk2 tabZ_ok2 [(0, {}), (1, {})] [6, 3, 0, 1, 4, 5, 7, 53, 66, 129] (T' := [(6, .pointer (some ⟨b14, 0, none⟩)), (3, .pointer (some ⟨b2, 0, none⟩)), (0, .pointer (some ⟨mb, 0, none⟩)), (1, .agg #[.int .u8 12, .int .u32 ev.pick, .int .u64 ev.draw, .int .u32 ev.addr, .int .u32 ev.node, .int .u32 ev.dst, .int .u32 ev.xfer, .int .u8 ev.ty, .int .u64 ev.arg, .int .u64 ev.badge, .slice xo ev.ws.length cx]), (4, .int .u8 0), (5, .bool false), (7, .pointer (some ⟨(Z.tp x), 0, none⟩)), (53, .int .u8 12), (66, .bool false), (129, .bool false)]) (φ := True) (rest := []) h49 (by kernel_rfl) rfl trivial fun a51 h52 => ?_
  clear h49
  refine nd_done ?_
  refine hK50 _ _ ?_
  clear hK50
  refine c_false h52 rfl ?_
  refine wp_seq_k fun K53 hK53 => ?_
  refine nd_start (l := [0, 1]) rfl ?_
  refine nd_batch tabOk2 tabZ_ok2 [(0, {}), (1, {})] [6, 3, 0, 1, 4, 5, 7, 53, 66, 165] (T' := [(6, .pointer (some ⟨b14, 0, none⟩)), (3, .pointer (some ⟨b2, 0, none⟩)), (0, .pointer (some ⟨mb, 0, none⟩)), (1, .agg #[.int .u8 12, .int .u32 ev.pick, .int .u64 ev.draw, .int .u32 ev.addr, .int .u32 ev.node, .int .u32 ev.dst, .int .u32 ev.xfer, .int .u8 ev.ty, .int .u64 ev.arg, .int .u64 ev.badge, .slice xo ev.ws.length cx]), (4, .int .u8 0), (5, .bool false), (7, .pointer (some ⟨(Z.tp x), 0, none⟩)), (53, .int .u8 12), (66, .bool false), (165, .bool false)]) (φ := True) (rest := []) h52 (by kernel_rfl) rfl trivial fun a54 h55 => ?_
  clear h52
  refine nd_done ?_
  refine hK53 _ _ ?_
  clear hK53
  refine c_false h55 rfl ?_
  refine wp_seq_k fun K56 hK56 => ?_
  refine nd_start (l := [0, 1]) rfl ?_
  refine nd_batch tabOk2 tabZ_ok2 [(0, {}), (1, {})] [6, 3, 0, 1, 4, 5, 7, 53, 66, 226] (T' := [(6, .pointer (some ⟨b14, 0, none⟩)), (3, .pointer (some ⟨b2, 0, none⟩)), (0, .pointer (some ⟨mb, 0, none⟩)), (1, .agg #[.int .u8 12, .int .u32 ev.pick, .int .u64 ev.draw, .int .u32 ev.addr, .int .u32 ev.node, .int .u32 ev.dst, .int .u32 ev.xfer, .int .u8 ev.ty, .int .u64 ev.arg, .int .u64 ev.badge, .slice xo ev.ws.length cx]), (4, .int .u8 0), (5, .bool false), (7, .pointer (some ⟨(Z.tp x), 0, none⟩)), (53, .int .u8 12), (66, .bool false), (226, .bool false)]) (φ := True) (rest := []) h55 (by kernel_rfl) rfl trivial fun a57 h58 => ?_
  clear h55
  refine nd_done ?_
  refine hK56 _ _ ?_
  clear hK56
  refine c_false h58 rfl ?_
  refine wp_seq_k fun K59 hK59 => ?_
  refine nd_start (l := [0, 1]) rfl ?_
  refine nd_batch tabOk2 tabZ_ok2 [(0, {}), (1, {})] [6, 3, 0, 1, 4, 5, 7, 53, 66, 244] (T' := [(6, .pointer (some ⟨b14, 0, none⟩)), (3, .pointer (some ⟨b2, 0, none⟩)), (0, .pointer (some ⟨mb, 0, none⟩)), (1, .agg #[.int .u8 12, .int .u32 ev.pick, .int .u64 ev.draw, .int .u32 ev.addr, .int .u32 ev.node, .int .u32 ev.dst, .int .u32 ev.xfer, .int .u8 ev.ty, .int .u64 ev.arg, .int .u64 ev.badge, .slice xo ev.ws.length cx]), (4, .int .u8 0), (5, .bool false), (7, .pointer (some ⟨(Z.tp x), 0, none⟩)), (53, .int .u8 12), (66, .bool false), (244, .bool false)]) (φ := True) (rest := []) h58 (by kernel_rfl) rfl trivial fun a60 h61 => ?_
  clear h58
  refine nd_done ?_
  refine hK59 _ _ ?_
  clear hK59
  refine c_false h61 rfl ?_
  refine wp_seq_k fun K62 hK62 => ?_
  refine nd_start (l := [0, 1]) rfl ?_
  refine nd_batch tabOk2 tabZ_ok2 [(0, {}), (1, {})] [6, 3, 0, 1, 4, 5, 7, 53, 66, 285] (T' := [(6, .pointer (some ⟨b14, 0, none⟩)), (3, .pointer (some ⟨b2, 0, none⟩)), (0, .pointer (some ⟨mb, 0, none⟩)), (1, .agg #[.int .u8 12, .int .u32 ev.pick, .int .u64 ev.draw, .int .u32 ev.addr, .int .u32 ev.node, .int .u32 ev.dst, .int .u32 ev.xfer, .int .u8 ev.ty, .int .u64 ev.arg, .int .u64 ev.badge, .slice xo ev.ws.length cx]), (4, .int .u8 0), (5, .bool false), (7, .pointer (some ⟨(Z.tp x), 0, none⟩)), (53, .int .u8 12), (66, .bool false), (285, .bool false)]) (φ := True) (rest := []) h61 (by kernel_rfl) rfl trivial fun a63 h64 => ?_
  clear h61
  refine nd_done ?_
  refine hK62 _ _ ?_
  clear hK62
  refine c_false h64 rfl ?_
  refine wp_seq_k fun K65 hK65 => ?_
  refine nd_start (l := [0, 1]) rfl ?_
  refine nd_batch tabOk2 tabZ_ok2 [(0, {}), (1, {})] [6, 3, 0, 1, 4, 5, 7, 53, 66, 388] (T' := [(6, .pointer (some ⟨b14, 0, none⟩)), (3, .pointer (some ⟨b2, 0, none⟩)), (0, .pointer (some ⟨mb, 0, none⟩)), (1, .agg #[.int .u8 12, .int .u32 ev.pick, .int .u64 ev.draw, .int .u32 ev.addr, .int .u32 ev.node, .int .u32 ev.dst, .int .u32 ev.xfer, .int .u8 ev.ty, .int .u64 ev.arg, .int .u64 ev.badge, .slice xo ev.ws.length cx]), (4, .int .u8 0), (5, .bool false), (7, .pointer (some ⟨(Z.tp x), 0, none⟩)), (53, .int .u8 12), (66, .bool false), (388, .bool false)]) (φ := True) (rest := []) h64 (by kernel_rfl) rfl trivial fun a66 h67 => ?_
  clear h64
  refine nd_done ?_
  refine hK65 _ _ ?_
  clear hK65
  refine c_false h67 rfl ?_
  refine wp_seq_k fun K68 hK68 => ?_
  refine wp_seq_k fun K69 hK69 => ?_
  refine nd_start (l := [0, 1]) rfl ?_
  refine nd_batch tabOk2 tabZ_ok2 [(0, {}), (1, {})] [6, 3, 0, 1, 4, 5, 7, 53, 66, 437] (T' := [(6, .pointer (some ⟨b14, 0, none⟩)), (3, .pointer (some ⟨b2, 0, none⟩)), (0, .pointer (some ⟨mb, 0, none⟩)), (1, .agg #[.int .u8 12, .int .u32 ev.pick, .int .u64 ev.draw, .int .u32 ev.addr, .int .u32 ev.node, .int .u32 ev.dst, .int .u32 ev.xfer, .int .u8 ev.ty, .int .u64 ev.arg, .int .u64 ev.badge, .slice xo ev.ws.length cx]), (4, .int .u8 0), (5, .bool false), (7, .pointer (some ⟨(Z.tp x), 0, none⟩)), (53, .int .u8 12), (66, .bool false), (437, .bool true)]) (φ := True) (rest := []) h67 (by kernel_rfl) rfl trivial fun a70 h71 => ?_
  clear h67
  refine nd_done ?_
  refine hK69 _ _ ?_
  clear hK69
  refine c_true h71 rfl ?_
  refine wp_skip ?_
  refine hK68 _ _ ?_
  clear hK68
  refine c_true h71 rfl ?_
  refine wp_seq_k fun K72 hK72 => ?_
  refine nd_start (l := [0, 1, 2, 3, 4, 5, 6, 7, 8]) rfl ?_
  refine nd_batch tabOk2 tabZ_ok2 [(0, {}), (1, {}), (2, {k := 1})] [6, 3, 0, 1, 4, 5, 7, 53, 66, 437, 441, 443] (T' := [(6, .pointer (some ⟨b14, 0, none⟩)), (3, .pointer (some ⟨b2, 0, none⟩)), (0, .pointer (some ⟨mb, 0, none⟩)), (1, .agg #[.int .u8 12, .int .u32 ev.pick, .int .u64 ev.draw, .int .u32 ev.addr, .int .u32 ev.node, .int .u32 ev.dst, .int .u32 ev.xfer, .int .u8 ev.ty, .int .u64 ev.arg, .int .u64 ev.badge, .slice xo ev.ws.length cx]), (4, .int .u8 0), (5, .bool false), (7, .pointer (some ⟨(Z.tp x), 0, none⟩)), (53, .int .u8 12), (66, .bool false), (437, .bool true), (441, .pointer (some ⟨mb, 0, none⟩)), (443, .int .u32 ev.addr)]) (φ := (b2 = b2 ∧ Nat.ble (3 + 1) 11 = true) ∧ True) (rest := [3, 4, 5, 6, 7, 8]) h71 (by kernel_rfl) rfl ⟨⟨rfl, rfl⟩, trivial⟩ fun a73 h74 => ?_
  clear h71
  refine nd_op ?_
  refine op_call h74 rfl rfl rfl (callOk Tryd.func93 (by decide) rfl) (args := [.pointer (some ⟨mb, 0, none⟩), .int .u32 ev.addr]) rfl (cellOf_ok mb Z _ a C x hx hcx hci ev.addr he.addr e1 _ (mh_of h74 hho (k := 0) rfl)) ?_
  rintro _ w75 ⟨rfl, hg77⟩
  refine ⟨_, rfl, ?_⟩
  have h78a := st_mg h74 hg77 (kcons (fun _ => rfl) (kcons (fun hq => by cases hq) (kcons (fun hq => by cases hq) knil)))
  have h78 := h78a.put (d := some 444) (v := .tuple #[.int .i64 s1, .int .u8 0]) (T' := [(444, .tuple #[.int .i64 s1, .int .u8 0]), (6, .pointer (some ⟨b14, 0, none⟩)), (3, .pointer (some ⟨b2, 0, none⟩)), (0, .pointer (some ⟨mb, 0, none⟩)), (1, .agg #[.int .u8 12, .int .u32 ev.pick, .int .u64 ev.draw, .int .u32 ev.addr, .int .u32 ev.node, .int .u32 ev.dst, .int .u32 ev.xfer, .int .u8 ev.ty, .int .u64 ev.arg, .int .u64 ev.badge, .slice xo ev.ws.length cx]), (4, .int .u8 0), (5, .bool false), (7, .pointer (some ⟨(Z.tp x), 0, none⟩)), (53, .int .u8 12), (66, .bool false), (437, .bool true), (441, .pointer (some ⟨mb, 0, none⟩)), (443, .int .u32 ev.addr)]) rfl
  have hhoh78 := hg77.mh.ho
  clear h74 h78a
  refine nd_batch tabOk2 tabZ_ok2 [(4, {}), (5, {}), (6, {}), (7, {}), (8, {})] [6, 3, 0, 1, 4, 5, 7, 53, 66, 437, 31, 32] (T' := [(6, .pointer (some ⟨b14, 0, none⟩)), (3, .pointer (some ⟨b2, 0, none⟩)), (0, .pointer (some ⟨mb, 0, none⟩)), (1, .agg #[.int .u8 12, .int .u32 ev.pick, .int .u64 ev.draw, .int .u32 ev.addr, .int .u32 ev.node, .int .u32 ev.dst, .int .u32 ev.xfer, .int .u8 ev.ty, .int .u64 ev.arg, .int .u64 ev.badge, .slice xo ev.ws.length cx]), (4, .int .u8 0), (5, .bool false), (7, .pointer (some ⟨(Z.tp x), 0, none⟩)), (53, .int .u8 12), (66, .bool false), (437, .bool true), (31, .int .i64 s1), (32, .int .u8 0)]) (φ := True) (rest := []) h78 (by kernel_rfl) rfl trivial fun a79 h80 => ?_
  clear h78
  refine nd_done ?_
  refine hK72 _ _ ?_
  clear hK72
  refine wp_seq_k fun K81 hK81 => ?_
  refine wp_seq_k fun K82 hK82 => ?_
  refine nd_start (l := [0, 1]) rfl ?_
  refine nd_batch tabOk2 tabZ_ok2 [(0, {}), (1, {})] [6, 3, 0, 1, 4, 5, 7, 53, 66, 437, 31, 32, 448] (T' := [(6, .pointer (some ⟨b14, 0, none⟩)), (3, .pointer (some ⟨b2, 0, none⟩)), (0, .pointer (some ⟨mb, 0, none⟩)), (1, .agg #[.int .u8 12, .int .u32 ev.pick, .int .u64 ev.draw, .int .u32 ev.addr, .int .u32 ev.node, .int .u32 ev.dst, .int .u32 ev.xfer, .int .u8 ev.ty, .int .u64 ev.arg, .int .u64 ev.badge, .slice xo ev.ws.length cx]), (4, .int .u8 0), (5, .bool false), (7, .pointer (some ⟨(Z.tp x), 0, none⟩)), (53, .int .u8 12), (66, .bool false), (437, .bool true), (31, .int .i64 s1), (32, .int .u8 0), (448, .bool false)]) (φ := True) (rest := []) h80 (by kernel_rfl) rfl trivial fun a83 h84 => ?_
  clear h80
  refine nd_done ?_
  refine hK82 _ _ ?_
  clear hK82
  refine c_false h84 rfl ?_
  refine wp_skip ?_
  refine hK81 _ _ ?_
  clear hK81
  refine wp_seq_k fun K85 hK85 => ?_
  refine wp_seq_k fun K86 hK86 => ?_
  refine nd_start (l := [0, 1, 2, 3, 4, 5, 6, 7]) rfl ?_
  refine nd_batch tabOk2 tabZ_ok2 [(0, {}), (1, {}), (2, {})] [6, 3, 0, 1, 4, 5, 7, 53, 66, 437, 31, 32, 452] (T' := [(6, .pointer (some ⟨b14, 0, none⟩)), (3, .pointer (some ⟨b2, 0, none⟩)), (0, .pointer (some ⟨mb, 0, none⟩)), (1, .agg #[.int .u8 12, .int .u32 ev.pick, .int .u64 ev.draw, .int .u32 ev.addr, .int .u32 ev.node, .int .u32 ev.dst, .int .u32 ev.xfer, .int .u8 ev.ty, .int .u64 ev.arg, .int .u64 ev.badge, .slice xo ev.ws.length cx]), (4, .int .u8 0), (5, .bool false), (7, .pointer (some ⟨(Z.tp x), 0, none⟩)), (53, .int .u8 12), (66, .bool false), (437, .bool true), (31, .int .i64 s1), (32, .int .u8 0), (452, .pointer (some ⟨mb, 1, none⟩))]) (φ := True) (rest := [3, 4, 5, 6, 7]) h84 (by kernel_rfl) rfl trivial fun a87 h88 => ?_
  clear h84
  refine nd_op ?_
  refine op_read (b := mb) (v := .pointer (some ⟨Z.mc, 0, none⟩)) h88 rfl rfl (rd_m h88 (k := 1) (v := .pointer (some ⟨Z.mc, 0, none⟩)) rfl rfl rfl rfl (md_p ⟨rfl, trivial⟩)) ?_
  have h89 := h88.put (d := some 453) (v := .pointer (some ⟨Z.mc, 0, none⟩)) (T' := [(453, .pointer (some ⟨Z.mc, 0, none⟩)), (6, .pointer (some ⟨b14, 0, none⟩)), (3, .pointer (some ⟨b2, 0, none⟩)), (0, .pointer (some ⟨mb, 0, none⟩)), (1, .agg #[.int .u8 12, .int .u32 ev.pick, .int .u64 ev.draw, .int .u32 ev.addr, .int .u32 ev.node, .int .u32 ev.dst, .int .u32 ev.xfer, .int .u8 ev.ty, .int .u64 ev.arg, .int .u64 ev.badge, .slice xo ev.ws.length cx]), (4, .int .u8 0), (5, .bool false), (7, .pointer (some ⟨(Z.tp x), 0, none⟩)), (53, .int .u8 12), (66, .bool false), (437, .bool true), (31, .int .i64 s1), (32, .int .u8 0), (452, .pointer (some ⟨mb, 1, none⟩))]) rfl
  clear h88
  refine nd_batch tabOk2 tabZ_ok2 [(4, {})] [453, 6, 3, 0, 1, 4, 5, 7, 53, 66, 437, 31, 32, 454] (T' := [(453, .pointer (some ⟨Z.mc, 0, none⟩)), (6, .pointer (some ⟨b14, 0, none⟩)), (3, .pointer (some ⟨b2, 0, none⟩)), (0, .pointer (some ⟨mb, 0, none⟩)), (1, .agg #[.int .u8 12, .int .u32 ev.pick, .int .u64 ev.draw, .int .u32 ev.addr, .int .u32 ev.node, .int .u32 ev.dst, .int .u32 ev.xfer, .int .u8 ev.ty, .int .u64 ev.arg, .int .u64 ev.badge, .slice xo ev.ws.length cx]), (4, .int .u8 0), (5, .bool false), (7, .pointer (some ⟨(Z.tp x), 0, none⟩)), (53, .int .u8 12), (66, .bool false), (437, .bool true), (31, .int .i64 s1), (32, .int .u8 0), (454, .int .i64 s1)]) (φ := True) (rest := [5, 6, 7]) h89 (by kernel_rfl) rfl trivial fun a90 h91 => ?_
  clear h89
  refine nd_op ?_
  obtain ⟨i1, j1, hi1, hj1, hp1, hs1⟩ := look_fact hI.ci hci.1 he.addr.1 e1 rfl
  refine op_call h91 rfl rfl rfl (callOk Tryd.func62 (by decide) rfl) (args := [.pointer (some ⟨Z.mc, 0, none⟩), .int .i64 s1]) rfl (atE Z.mo Z.mc Z.nd C hi1 hj1 hp1 hs1 _ h91.inv.1.cp) ?_
  rintro _ w92 ⟨rfl, hf94⟩
  refine ⟨_, rfl, ?_⟩
  have h93 := (h91.grow hf94).put (d := some 455) (v := .agg #[.int .u8 ((C.cel s1.toNat).cap.ty), .int .u16 ((C.cel s1.toNat).cap.obj.idx), .int .u32 ((C.cel s1.toNat).cap.obj.gen), .int .u8 ((C.cel s1.toNat).cap.rights), .int .u64 ((C.cel s1.toNat).cap.badge)]) (T' := [(455, .agg #[.int .u8 ((C.cel s1.toNat).cap.ty), .int .u16 ((C.cel s1.toNat).cap.obj.idx), .int .u32 ((C.cel s1.toNat).cap.obj.gen), .int .u8 ((C.cel s1.toNat).cap.rights), .int .u64 ((C.cel s1.toNat).cap.badge)]), (453, .pointer (some ⟨Z.mc, 0, none⟩)), (6, .pointer (some ⟨b14, 0, none⟩)), (3, .pointer (some ⟨b2, 0, none⟩)), (0, .pointer (some ⟨mb, 0, none⟩)), (1, .agg #[.int .u8 12, .int .u32 ev.pick, .int .u64 ev.draw, .int .u32 ev.addr, .int .u32 ev.node, .int .u32 ev.dst, .int .u32 ev.xfer, .int .u8 ev.ty, .int .u64 ev.arg, .int .u64 ev.badge, .slice xo ev.ws.length cx]), (4, .int .u8 0), (5, .bool false), (7, .pointer (some ⟨(Z.tp x), 0, none⟩)), (53, .int .u8 12), (66, .bool false), (437, .bool true), (31, .int .i64 s1), (32, .int .u8 0), (454, .int .i64 s1)]) rfl
  clear h91
  refine nd_batch tabOk2 tabZ_ok2 [(6, {}), (7, {})] [6, 3, 0, 1, 4, 5, 7, 53, 66, 437, 31, 32, 457] (T' := [(6, .pointer (some ⟨b14, 0, none⟩)), (3, .pointer (some ⟨b2, 0, none⟩)), (0, .pointer (some ⟨mb, 0, none⟩)), (1, .agg #[.int .u8 12, .int .u32 ev.pick, .int .u64 ev.draw, .int .u32 ev.addr, .int .u32 ev.node, .int .u32 ev.dst, .int .u32 ev.xfer, .int .u8 ev.ty, .int .u64 ev.arg, .int .u64 ev.badge, .slice xo ev.ws.length cx]), (4, .int .u8 0), (5, .bool false), (7, .pointer (some ⟨(Z.tp x), 0, none⟩)), (53, .int .u8 12), (66, .bool false), (437, .bool true), (31, .int .i64 s1), (32, .int .u8 0), (457, .bool ((C.cel s1.toNat).cap.ty == 0))]) (φ := True) (rest := []) h93 (by kernel_rfl) rfl trivial fun a95 h96 => ?_
  clear h93
  refine nd_done ?_
  refine hK86 _ _ ?_
  clear hK86
  refine c_split h96 (b := ((C.cel s1.toNat).cap.ty == 0)) rfl (fun hc97 => ?_) (fun hc97 => ?_)
  ·
    have hc97f : (C.cel s1.toNat).cap.ty = 0 := by simpa using hc97
    refine wp_seq_k fun K98 hK98 => ?_
    refine nd_start (l := [0, 1]) rfl ?_
    refine nd_batch tabOk2 tabZ_ok2 [(0, {}), (1, {})] [6, 3, 0, 1, 7, 53, 66, 437, 31, 32, 4, 5] (T' := [(6, .pointer (some ⟨b14, 0, none⟩)), (3, .pointer (some ⟨b2, 0, none⟩)), (0, .pointer (some ⟨mb, 0, none⟩)), (1, .agg #[.int .u8 12, .int .u32 ev.pick, .int .u64 ev.draw, .int .u32 ev.addr, .int .u32 ev.node, .int .u32 ev.dst, .int .u32 ev.xfer, .int .u8 ev.ty, .int .u64 ev.arg, .int .u64 ev.badge, .slice xo ev.ws.length cx]), (7, .pointer (some ⟨(Z.tp x), 0, none⟩)), (53, .int .u8 12), (66, .bool false), (437, .bool true), (31, .int .i64 s1), (32, .int .u8 0), (4, .int .u8 3), (5, .bool false)]) (φ := True) (rest := []) h96 (by kernel_rfl) rfl trivial fun a99 h100 => ?_
    clear h96
    refine nd_done ?_
    refine hK98 _ _ ?_
    clear hK98
    refine wp_ret ?_
    try simp only [Exit.then, Exit.inBlock]
    try rw [if_pos trivial]
    exact s_ret tabOk2 tabZ_ok2 h100 [(.tmp 4, {}), (.tmp 5, {})] (vs := [.int .u8 3, .bool false]) (φ := True) rfl (by kernel_rfl) trivial ⟨rfl, _, mg_end hH h100 hhoh78 rfl⟩
  ·
    have hc97f : (C.cel s1.toNat).cap.ty ≠ 0 := by simpa using hc97
    exact absurd (hz2) (by first | exact hc97f | (intro hz; exact hc97f hz) | omega | simp_all)

theorem call12e (mb : Nat) (Z : MZ) (R : MR) (a : AK) (C : CP) (hI : MI Z a C) (x : Nat) (hx : x ∈ sl Z.tl) (hcu : a.cur = (x : Int)) (ev : Ev) (he : EvOk ev) (xo : Option Addr) (cx : Nat) (s1 : Int) (e1 : lookP C.ent (a.th x).cs ev.addr = (s1, 0)) (hz2 : ¬ (C.cel s1.toNat).cap.ty = 0) (C1 : CP) (dead : List Cp) (hdr : deleteP 4097 C s1.toNat = (C1, dead)) (hdlen : dead.length < 1000000) (hd0 : dead = []) (hfa : FAll C1.ent (Z, a) dead) (w : World) (hH : MH mb Z R a C w) (hws : WordsAt (mdF mb Z R C) w xo ev.ws) :
    Calls Tryd.prog 55 #[.pointer (some ⟨mb, 0, none⟩), .agg #[.int .u8 12, .int .u32 ev.pick, .int .u64 ev.draw, .int .u32 ev.addr, .int .u32 ev.node, .int .u32 ev.dst, .int .u32 ev.xfer, .int .u8 ev.ty, .int .u64 ev.arg, .int .u64 ev.badge, .slice xo ev.ws.length cx]] w fun e w' => e = .returned (.tuple #[.int .u8 0, .bool false]) ∧ ∃ R', MG mb Z R C w (dead.foldl (forgetM C1.ent) (Z, a)).1 R' (dead.foldl (forgetM C1.ent) (Z, a)).2 C1 w' := by
  have hP := hI.mp
  have hcx : curR Z a = Z.ky x := curR_of hcu
  have hcn : a.cur.toNat = x := by rw [hcu]; exact Int.toNat_natCast x
  have hci := (hI.tk x hx).ci
  obtain ⟨ty3, hg3⟩ := hH.g3
  have hho := hH.ho
  have hkk := hH.md.k
  refine enter (n := 628) (K := mdF mb Z R C) (A := MD (mdF mb Z R C) w.heap.size mb Z R a C) (F := mdF mb Z R C) (T := [(0, .pointer (some ⟨mb, 0, none⟩)), (1, .agg #[.int .u8 12, .int .u32 ev.pick, .int .u64 ev.draw, .int .u32 ev.addr, .int .u32 ev.node, .int .u32 ev.dst, .int .u32 ev.xfer, .int .u8 ev.ty, .int .u64 ev.arg, .int .u64 ev.badge, .slice xo ev.ws.length cx])]) (L := [(3, ⟨[.int .u16 0, .int .u32 0], ty3, true⟩)]) (args := [.pointer (some ⟨mb, 0, none⟩), .agg #[.int .u8 12, .int .u32 ev.pick, .int .u64 ev.draw, .int .u32 ev.addr, .int .u32 ev.node, .int .u32 ev.dst, .int .u32 ev.xfer, .int .u8 ev.ty, .int .u64 ev.arg, .int .u64 ev.badge, .slice xo ev.ws.length cx]]) Tryd.func55 rfl rfl rfl rfl (kcons hg3 knil) (by simp) (kcons (by intro hq; cases hq) knil) hH.mD MD.stable hH.md.low (kcons (by intro hq; cases hq) knil) ?_
  intro ac h
  refine wp_seq_k fun K1 hK1 => ?_
  refine nd_start (l := [0, 1, 2]) rfl ?_
  refine nd_op ?_
  refine op_new tabOk2 (cells := [.int .u8 12, .int .u32 ev.pick, .int .u64 ev.draw, .int .u32 ev.addr, .int .u32 ev.node, .int .u32 ev.dst, .int .u32 ev.xfer, .int .u8 ev.ty, .int .u64 ev.arg, .int .u64 ev.badge, .slice xo ev.ws.length cx]) (ty := 35) (ln := none) (L1 := fun b2 => [(3, ⟨[.int .u16 0, .int .u32 0], ty3, true⟩), (b2, ⟨[.int .u8 12, .int .u32 ev.pick, .int .u64 ev.draw, .int .u32 ev.addr, .int .u32 ev.node, .int .u32 ev.dst, .int .u32 ev.xfer, .int .u8 ev.ty, .int .u64 ev.arg, .int .u64 ev.badge, .slice xo ev.ws.length cx], 35, false⟩)]) h rfl rfl rfl rfl (by kernel_rfl) (fun _ => rfl) fun b2 w3 a4 h5 hf6 hn7 => ?_
  clear h
  refine nd_batch tabOk2 tabZ_ok2 [(1, {}), (2, {})] [3, 0, 1, 4, 5] (T' := [(3, .pointer (some ⟨b2, 0, none⟩)), (0, .pointer (some ⟨mb, 0, none⟩)), (1, .agg #[.int .u8 12, .int .u32 ev.pick, .int .u64 ev.draw, .int .u32 ev.addr, .int .u32 ev.node, .int .u32 ev.dst, .int .u32 ev.xfer, .int .u8 ev.ty, .int .u64 ev.arg, .int .u64 ev.badge, .slice xo ev.ws.length cx]), (4, .int .u8 0), (5, .bool false)]) (φ := True) (rest := []) h5 (by kernel_rfl) rfl trivial fun a8 h9 => ?_
  clear h5
  refine nd_done ?_
  refine hK1 _ _ ?_
  clear hK1
  refine wp_seq_k fun K10 hK10 => ?_
  refine nd_start (l := [0, 1, 2, 3, 4, 5]) rfl ?_
  refine nd_batch tabOk2 tabZ_ok2 [(0, {}), (1, {}), (2, {})] [3, 0, 1, 4, 5, 44] (T' := [(3, .pointer (some ⟨b2, 0, none⟩)), (0, .pointer (some ⟨mb, 0, none⟩)), (1, .agg #[.int .u8 12, .int .u32 ev.pick, .int .u64 ev.draw, .int .u32 ev.addr, .int .u32 ev.node, .int .u32 ev.dst, .int .u32 ev.xfer, .int .u8 ev.ty, .int .u64 ev.arg, .int .u64 ev.badge, .slice xo ev.ws.length cx]), (4, .int .u8 0), (5, .bool false), (44, .pointer (some ⟨mb, 13, none⟩))]) (φ := True) (rest := [3, 4, 5]) h9 (by kernel_rfl) rfl trivial fun a11 h12 => ?_
  clear h9
  refine nd_op ?_
  refine op_read (b := mb) (v := .agg #[.int .u16 ((Z.ky x).idx), .int .u32 ((Z.ky x).gen)]) h12 rfl rfl (rd_mA h12 (k := 13) (vs := [.int .u16 ((Z.ky x).idx), .int .u32 ((Z.ky x).gen)]) rfl rfl rfl rfl rfl (by rw [← hcx]; exact md_cur)) ?_
  have h13 := h12.put (d := some 45) (v := .agg #[.int .u16 ((Z.ky x).idx), .int .u32 ((Z.ky x).gen)]) (T' := [(45, .agg #[.int .u16 ((Z.ky x).idx), .int .u32 ((Z.ky x).gen)]), (3, .pointer (some ⟨b2, 0, none⟩)), (0, .pointer (some ⟨mb, 0, none⟩)), (1, .agg #[.int .u8 12, .int .u32 ev.pick, .int .u64 ev.draw, .int .u32 ev.addr, .int .u32 ev.node, .int .u32 ev.dst, .int .u32 ev.xfer, .int .u8 ev.ty, .int .u64 ev.arg, .int .u64 ev.badge, .slice xo ev.ws.length cx]), (4, .int .u8 0), (5, .bool false), (44, .pointer (some ⟨mb, 13, none⟩))]) rfl
  clear h12
  refine nd_op ?_
  refine op_new tabOk2 (cells := [.int .u16 0, .int .u32 0]) (ty := 39) (ln := none) (L1 := fun b14 => [(3, ⟨[.int .u16 0, .int .u32 0], ty3, true⟩), (b2, ⟨[.int .u8 12, .int .u32 ev.pick, .int .u64 ev.draw, .int .u32 ev.addr, .int .u32 ev.node, .int .u32 ev.dst, .int .u32 ev.xfer, .int .u8 ev.ty, .int .u64 ev.arg, .int .u64 ev.badge, .slice xo ev.ws.length cx], 35, false⟩), (b14, ⟨[.int .u16 0, .int .u32 0], 39, false⟩)]) h13 rfl rfl rfl rfl (by kernel_rfl) (fun _ => rfl) fun b14 w15 a16 h17 hf18 hn19 => ?_
  clear h13
  refine nd_op ?_
  refine op_store tabOk2 {k := 2} (L' := [(3, ⟨[.int .u16 0, .int .u32 0], ty3, true⟩), (b2, ⟨[.int .u8 12, .int .u32 ev.pick, .int .u64 ev.draw, .int .u32 ev.addr, .int .u32 ev.node, .int .u32 ev.dst, .int .u32 ev.xfer, .int .u8 ev.ty, .int .u64 ev.arg, .int .u64 ev.badge, .slice xo ev.ws.length cx], 35, false⟩), (b14, ⟨[.int .u16 ((Z.ky x).idx), .int .u32 ((Z.ky x).gen)], 39, false⟩)]) (φ := b14 = b14 ∧ Nat.ble (0 + 2) 2 = true) h17 rfl rfl rfl (by kernel_rfl) ⟨rfl, rfl⟩ fun w20 h21 => ?_
  clear h17
  refine nd_done ?_
  refine hK10 _ _ ?_
  clear hK10
  refine wp_seq_k fun K22 hK22 => ?_
  refine dr_start (KB := [3, b2, b14, mb, Z.tb]) (Bi := [[0, 1, 2, 3, 4], [0, 1, 2, 3, 4], [0, 1, 2, 3, 4], [0, 1, 2, 3, 4], [0, 1, 2, 3, 4], [0, 1, 2, 3, 4], [0, 1, 2, 3, 4]]) mixed h21 fun w23 h24 => ?_
  clear h21
  refine dr_batch tabOk2 tabZ_ok2 (by repeat (first | with_reducible exact PF.body | with_reducible apply PF.inB | with_reducible apply PF.next)) [(0, {}), (1, {}), (2, {})] [6, 3, 0, 1, 4, 5, 48] (T' := [(6, .pointer (some ⟨b14, 0, none⟩)), (3, .pointer (some ⟨b2, 0, none⟩)), (0, .pointer (some ⟨mb, 0, none⟩)), (1, .agg #[.int .u8 12, .int .u32 ev.pick, .int .u64 ev.draw, .int .u32 ev.addr, .int .u32 ev.node, .int .u32 ev.dst, .int .u32 ev.xfer, .int .u8 ev.ty, .int .u64 ev.arg, .int .u64 ev.badge, .slice xo ev.ws.length cx]), (4, .int .u8 0), (5, .bool false), (48, .pointer (some ⟨mb, 2, none⟩))]) (φ := True) (fuel := 4) h24 (by kernel_rfl) rfl (by kernel_rfl) (by kernel_rfl) ⟨trivial, trivial, trivial, trivial⟩ trivial fun a26 h27 => ?_
  clear h24
  refine dr_read (i := 3) (b := mb) (p := 3) (v := .map (some Z.tb)) (fuel := 3) (by repeat (first | with_reducible exact PF.body | with_reducible apply PF.inB | with_reducible apply PF.next)) h27 rfl rfl rfl (by kernel_rfl) (by kernel_rfl) (by kernel_rfl) rfl (rd_m h27 (k := 2) (v := .map (some Z.tb)) rfl rfl rfl rfl (md_p ⟨rfl, trivial⟩)) ?_
  have h28 := h27.put (d := some 49) (v := .map (some Z.tb)) (T' := [(49, .map (some Z.tb)), (6, .pointer (some ⟨b14, 0, none⟩)), (3, .pointer (some ⟨b2, 0, none⟩)), (0, .pointer (some ⟨mb, 0, none⟩)), (1, .agg #[.int .u8 12, .int .u32 ev.pick, .int .u64 ev.draw, .int .u32 ev.addr, .int .u32 ev.node, .int .u32 ev.dst, .int .u32 ev.xfer, .int .u8 ev.ty, .int .u64 ev.arg, .int .u64 ev.badge, .slice xo ev.ws.length cx]), (4, .int .u8 0), (5, .bool false), (48, .pointer (some ⟨mb, 2, none⟩))]) rfl
  clear h27
  refine dr_batch tabOk2 tabZ_ok2 (by repeat (first | with_reducible exact PF.body | with_reducible apply PF.inB | with_reducible apply PF.next)) [(4, {k := 2, p := 2})] [49, 6, 3, 0, 1, 4, 5, 50] (T' := [(49, .map (some Z.tb)), (6, .pointer (some ⟨b14, 0, none⟩)), (3, .pointer (some ⟨b2, 0, none⟩)), (0, .pointer (some ⟨mb, 0, none⟩)), (1, .agg #[.int .u8 12, .int .u32 ev.pick, .int .u64 ev.draw, .int .u32 ev.addr, .int .u32 ev.node, .int .u32 ev.dst, .int .u32 ev.xfer, .int .u8 ev.ty, .int .u64 ev.arg, .int .u64 ev.badge, .slice xo ev.ws.length cx]), (4, .int .u8 0), (5, .bool false), (50, .agg #[.int .u16 ((Z.ky x).idx), .int .u32 ((Z.ky x).gen)])]) (φ := (b14 = b14 ∧ Nat.ble (0 + 2) 2 = true) ∧ True) (fuel := 2) h28 (by kernel_rfl) rfl (by kernel_rfl) (by kernel_rfl) ⟨rfl, trivial⟩ ⟨⟨rfl, rfl⟩, trivial⟩ fun a29 h30 => ?_
  clear h28
  refine dr_read (i := 5) (b := Z.tb) (p := 4) (v := .pointer (some ⟨(Z.tp x), 0, none⟩)) (fuel := 1) (by repeat (first | with_reducible exact PF.body | with_reducible apply PF.inB | with_reducible apply PF.next)) h30 rfl rfl rfl (by kernel_rfl) (by kernel_rfl) (by kernel_rfl) rfl (rd_T h30 (x := x) hx rfl rfl rfl) ?_
  have h31 := h30.put (d := some 51) (v := .pointer (some ⟨(Z.tp x), 0, none⟩)) (T' := [(51, .pointer (some ⟨(Z.tp x), 0, none⟩)), (49, .map (some Z.tb)), (6, .pointer (some ⟨b14, 0, none⟩)), (3, .pointer (some ⟨b2, 0, none⟩)), (0, .pointer (some ⟨mb, 0, none⟩)), (1, .agg #[.int .u8 12, .int .u32 ev.pick, .int .u64 ev.draw, .int .u32 ev.addr, .int .u32 ev.node, .int .u32 ev.dst, .int .u32 ev.xfer, .int .u8 ev.ty, .int .u64 ev.arg, .int .u64 ev.badge, .slice xo ev.ws.length cx]), (4, .int .u8 0), (5, .bool false), (50, .agg #[.int .u16 ((Z.ky x).idx), .int .u32 ((Z.ky x).gen)])]) rfl
  clear h30
  refine dr_batch tabOk2 tabZ_ok2 (by repeat (first | with_reducible exact PF.body | with_reducible apply PF.inB | with_reducible apply PF.next)) [(6, {})] [6, 3, 0, 1, 4, 5, 7] (T' := [(6, .pointer (some ⟨b14, 0, none⟩)), (3, .pointer (some ⟨b2, 0, none⟩)), (0, .pointer (some ⟨mb, 0, none⟩)), (1, .agg #[.int .u8 12, .int .u32 ev.pick, .int .u64 ev.draw, .int .u32 ev.addr, .int .u32 ev.node, .int .u32 ev.dst, .int .u32 ev.xfer, .int .u8 ev.ty, .int .u64 ev.arg, .int .u64 ev.badge, .slice xo ev.ws.length cx]), (4, .int .u8 0), (5, .bool false), (7, .pointer (some ⟨(Z.tp x), 0, none⟩))]) (φ := True) (fuel := 0) h31 (by kernel_rfl) rfl (by kernel_rfl) (by kernel_rfl) ⟨trivial, trivial⟩ trivial fun a32 h33 => ?_
  clear h31
  refine wpAnyK_done (by kernel_rfl) ?_ _
  refine hK22 _ _ ?_
  clear hK22
  refine wp_seq_k fun K34 hK34 => ?_
  refine wp_seq_k fun K35 hK35 => ?_
  refine nd_start (l := [0, 1]) rfl ?_
  refine nd_batch tabOk2 tabZ_ok2 [(0, {}), (1, {k := 1})] [6, 3, 0, 1, 4, 5, 7, 53] (T' := [(6, .pointer (some ⟨b14, 0, none⟩)), (3, .pointer (some ⟨b2, 0, none⟩)), (0, .pointer (some ⟨mb, 0, none⟩)), (1, .agg #[.int .u8 12, .int .u32 ev.pick, .int .u64 ev.draw, .int .u32 ev.addr, .int .u32 ev.node, .int .u32 ev.dst, .int .u32 ev.xfer, .int .u8 ev.ty, .int .u64 ev.arg, .int .u64 ev.badge, .slice xo ev.ws.length cx]), (4, .int .u8 0), (5, .bool false), (7, .pointer (some ⟨(Z.tp x), 0, none⟩)), (53, .int .u8 12)]) (φ := (b2 = b2 ∧ Nat.ble (0 + 1) 11 = true) ∧ True) (rest := []) h33 (by kernel_rfl) rfl ⟨⟨rfl, rfl⟩, trivial⟩ fun a36 h37 => ?_
  clear h33
  refine nd_done ?_
  refine hK35 _ _ ?_
  clear hK35
  refine wp_block ?_
  refine wp_seq_k fun K38 hK38 => ?_
  refine nd_start (l := [0, 1]) rfl ?_
  refine nd_batch tabOk2 tabZ_ok2 [(0, {}), (1, {})] [6, 3, 0, 1, 4, 5, 7, 53, 54] (T' := [(6, .pointer (some ⟨b14, 0, none⟩)), (3, .pointer (some ⟨b2, 0, none⟩)), (0, .pointer (some ⟨mb, 0, none⟩)), (1, .agg #[.int .u8 12, .int .u32 ev.pick, .int .u64 ev.draw, .int .u32 ev.addr, .int .u32 ev.node, .int .u32 ev.dst, .int .u32 ev.xfer, .int .u8 ev.ty, .int .u64 ev.arg, .int .u64 ev.badge, .slice xo ev.ws.length cx]), (4, .int .u8 0), (5, .bool false), (7, .pointer (some ⟨(Z.tp x), 0, none⟩)), (53, .int .u8 12), (54, .bool false)]) (φ := True) (rest := []) h37 (by kernel_rfl) rfl trivial fun a39 h40 => ?_
  clear h37
  refine nd_done ?_
  refine hK38 _ _ ?_
  clear hK38
  refine c_false h40 rfl ?_
  refine wp_seq_k fun K41 hK41 => ?_
  refine nd_start (l := [0, 1]) rfl ?_
  refine nd_batch tabOk2 tabZ_ok2 [(0, {}), (1, {})] [6, 3, 0, 1, 4, 5, 7, 53, 59] (T' := [(6, .pointer (some ⟨b14, 0, none⟩)), (3, .pointer (some ⟨b2, 0, none⟩)), (0, .pointer (some ⟨mb, 0, none⟩)), (1, .agg #[.int .u8 12, .int .u32 ev.pick, .int .u64 ev.draw, .int .u32 ev.addr, .int .u32 ev.node, .int .u32 ev.dst, .int .u32 ev.xfer, .int .u8 ev.ty, .int .u64 ev.arg, .int .u64 ev.badge, .slice xo ev.ws.length cx]), (4, .int .u8 0), (5, .bool false), (7, .pointer (some ⟨(Z.tp x), 0, none⟩)), (53, .int .u8 12), (59, .bool false)]) (φ := True) (rest := []) h40 (by kernel_rfl) rfl trivial fun a42 h43 => ?_
  clear h40
  refine nd_done ?_
  refine hK41 _ _ ?_
  clear hK41
  refine c_false h43 rfl ?_
  refine wp_seq_k fun K44 hK44 => ?_
  refine wp_seq_k fun K45 hK45 => ?_
  refine nd_start (l := [0, 1]) rfl ?_
  refine nd_batch tabOk2 tabZ_ok2 [(0, {}), (1, {})] [6, 3, 0, 1, 4, 5, 7, 53, 66] (T' := [(6, .pointer (some ⟨b14, 0, none⟩)), (3, .pointer (some ⟨b2, 0, none⟩)), (0, .pointer (some ⟨mb, 0, none⟩)), (1, .agg #[.int .u8 12, .int .u32 ev.pick, .int .u64 ev.draw, .int .u32 ev.addr, .int .u32 ev.node, .int .u32 ev.dst, .int .u32 ev.xfer, .int .u8 ev.ty, .int .u64 ev.arg, .int .u64 ev.badge, .slice xo ev.ws.length cx]), (4, .int .u8 0), (5, .bool false), (7, .pointer (some ⟨(Z.tp x), 0, none⟩)), (53, .int .u8 12), (66, .bool false)]) (φ := True) (rest := []) h43 (by kernel_rfl) rfl trivial fun a46 h47 => ?_
  clear h43
  refine nd_done ?_
  refine hK45 _ _ ?_
  clear hK45
  refine c_false h47 rfl ?_
  refine nd_start (l := [0, 1]) rfl ?_
  refine nd_batch tabOk2 tabZ_ok2 [(0, {}), (1, {})] [6, 3, 0, 1, 4, 5, 7, 53, 66] (T' := [(6, .pointer (some ⟨b14, 0, none⟩)), (3, .pointer (some ⟨b2, 0, none⟩)), (0, .pointer (some ⟨mb, 0, none⟩)), (1, .agg #[.int .u8 12, .int .u32 ev.pick, .int .u64 ev.draw, .int .u32 ev.addr, .int .u32 ev.node, .int .u32 ev.dst, .int .u32 ev.xfer, .int .u8 ev.ty, .int .u64 ev.arg, .int .u64 ev.badge, .slice xo ev.ws.length cx]), (4, .int .u8 0), (5, .bool false), (7, .pointer (some ⟨(Z.tp x), 0, none⟩)), (53, .int .u8 12), (66, .bool false)]) (φ := True) (rest := []) h47 (by kernel_rfl) rfl trivial fun a48 h49 => ?_
  clear h47
  refine nd_done ?_
  refine hK44 _ _ ?_
  clear hK44
  refine c_false h49 rfl ?_
  refine wp_seq_k fun K50 hK50 => ?_
  refine nd_start (l := [0, 1]) rfl ?_
  refine nd_batch tabOk2 tabZ_ok2 [(0, {}), (1, {})] [6, 3, 0, 1, 4, 5, 7, 53, 66, 129] (T' := [(6, .pointer (some ⟨b14, 0, none⟩)), (3, .pointer (some ⟨b2, 0, none⟩)), (0, .pointer (some ⟨mb, 0, none⟩)), (1, .agg #[.int .u8 12, .int .u32 ev.pick, .int .u64 ev.draw, .int .u32 ev.addr, .int .u32 ev.node, .int .u32 ev.dst, .int .u32 ev.xfer, .int .u8 ev.ty, .int .u64 ev.arg, .int .u64 ev.badge, .slice xo ev.ws.length cx]), (4, .int .u8 0), (5, .bool false), (7, .pointer (some ⟨(Z.tp x), 0, none⟩)), (53, .int .u8 12), (66, .bool false), (129, .bool false)]) (φ := True) (rest := []) h49 (by kernel_rfl) rfl trivial fun a51 h52 => ?_
  clear h49
  refine nd_done ?_
  refine hK50 _ _ ?_
  clear hK50
  refine c_false h52 rfl ?_
  refine wp_seq_k fun K53 hK53 => ?_
  refine nd_start (l := [0, 1]) rfl ?_
  refine nd_batch tabOk2 tabZ_ok2 [(0, {}), (1, {})] [6, 3, 0, 1, 4, 5, 7, 53, 66, 165] (T' := [(6, .pointer (some ⟨b14, 0, none⟩)), (3, .pointer (some ⟨b2, 0, none⟩)), (0, .pointer (some ⟨mb, 0, none⟩)), (1, .agg #[.int .u8 12, .int .u32 ev.pick, .int .u64 ev.draw, .int .u32 ev.addr, .int .u32 ev.node, .int .u32 ev.dst, .int .u32 ev.xfer, .int .u8 ev.ty, .int .u64 ev.arg, .int .u64 ev.badge, .slice xo ev.ws.length cx]), (4, .int .u8 0), (5, .bool false), (7, .pointer (some ⟨(Z.tp x), 0, none⟩)), (53, .int .u8 12), (66, .bool false), (165, .bool false)]) (φ := True) (rest := []) h52 (by kernel_rfl) rfl trivial fun a54 h55 => ?_
  clear h52
  refine nd_done ?_
  refine hK53 _ _ ?_
  clear hK53
  refine c_false h55 rfl ?_
  refine wp_seq_k fun K56 hK56 => ?_
  refine nd_start (l := [0, 1]) rfl ?_
  refine nd_batch tabOk2 tabZ_ok2 [(0, {}), (1, {})] [6, 3, 0, 1, 4, 5, 7, 53, 66, 226] (T' := [(6, .pointer (some ⟨b14, 0, none⟩)), (3, .pointer (some ⟨b2, 0, none⟩)), (0, .pointer (some ⟨mb, 0, none⟩)), (1, .agg #[.int .u8 12, .int .u32 ev.pick, .int .u64 ev.draw, .int .u32 ev.addr, .int .u32 ev.node, .int .u32 ev.dst, .int .u32 ev.xfer, .int .u8 ev.ty, .int .u64 ev.arg, .int .u64 ev.badge, .slice xo ev.ws.length cx]), (4, .int .u8 0), (5, .bool false), (7, .pointer (some ⟨(Z.tp x), 0, none⟩)), (53, .int .u8 12), (66, .bool false), (226, .bool false)]) (φ := True) (rest := []) h55 (by kernel_rfl) rfl trivial fun a57 h58 => ?_
  clear h55
  refine nd_done ?_
  refine hK56 _ _ ?_
  clear hK56
  refine c_false h58 rfl ?_
  refine wp_seq_k fun K59 hK59 => ?_
  refine nd_start (l := [0, 1]) rfl ?_
  refine nd_batch tabOk2 tabZ_ok2 [(0, {}), (1, {})] [6, 3, 0, 1, 4, 5, 7, 53, 66, 244] (T' := [(6, .pointer (some ⟨b14, 0, none⟩)), (3, .pointer (some ⟨b2, 0, none⟩)), (0, .pointer (some ⟨mb, 0, none⟩)), (1, .agg #[.int .u8 12, .int .u32 ev.pick, .int .u64 ev.draw, .int .u32 ev.addr, .int .u32 ev.node, .int .u32 ev.dst, .int .u32 ev.xfer, .int .u8 ev.ty, .int .u64 ev.arg, .int .u64 ev.badge, .slice xo ev.ws.length cx]), (4, .int .u8 0), (5, .bool false), (7, .pointer (some ⟨(Z.tp x), 0, none⟩)), (53, .int .u8 12), (66, .bool false), (244, .bool false)]) (φ := True) (rest := []) h58 (by kernel_rfl) rfl trivial fun a60 h61 => ?_
  clear h58
  refine nd_done ?_
  refine hK59 _ _ ?_
  clear hK59
  refine c_false h61 rfl ?_
  refine wp_seq_k fun K62 hK62 => ?_
  refine nd_start (l := [0, 1]) rfl ?_
  refine nd_batch tabOk2 tabZ_ok2 [(0, {}), (1, {})] [6, 3, 0, 1, 4, 5, 7, 53, 66, 285] (T' := [(6, .pointer (some ⟨b14, 0, none⟩)), (3, .pointer (some ⟨b2, 0, none⟩)), (0, .pointer (some ⟨mb, 0, none⟩)), (1, .agg #[.int .u8 12, .int .u32 ev.pick, .int .u64 ev.draw, .int .u32 ev.addr, .int .u32 ev.node, .int .u32 ev.dst, .int .u32 ev.xfer, .int .u8 ev.ty, .int .u64 ev.arg, .int .u64 ev.badge, .slice xo ev.ws.length cx]), (4, .int .u8 0), (5, .bool false), (7, .pointer (some ⟨(Z.tp x), 0, none⟩)), (53, .int .u8 12), (66, .bool false), (285, .bool false)]) (φ := True) (rest := []) h61 (by kernel_rfl) rfl trivial fun a63 h64 => ?_
  clear h61
  refine nd_done ?_
  refine hK62 _ _ ?_
  clear hK62
  refine c_false h64 rfl ?_
  refine wp_seq_k fun K65 hK65 => ?_
  refine nd_start (l := [0, 1]) rfl ?_
  refine nd_batch tabOk2 tabZ_ok2 [(0, {}), (1, {})] [6, 3, 0, 1, 4, 5, 7, 53, 66, 388] (T' := [(6, .pointer (some ⟨b14, 0, none⟩)), (3, .pointer (some ⟨b2, 0, none⟩)), (0, .pointer (some ⟨mb, 0, none⟩)), (1, .agg #[.int .u8 12, .int .u32 ev.pick, .int .u64 ev.draw, .int .u32 ev.addr, .int .u32 ev.node, .int .u32 ev.dst, .int .u32 ev.xfer, .int .u8 ev.ty, .int .u64 ev.arg, .int .u64 ev.badge, .slice xo ev.ws.length cx]), (4, .int .u8 0), (5, .bool false), (7, .pointer (some ⟨(Z.tp x), 0, none⟩)), (53, .int .u8 12), (66, .bool false), (388, .bool false)]) (φ := True) (rest := []) h64 (by kernel_rfl) rfl trivial fun a66 h67 => ?_
  clear h64
  refine nd_done ?_
  refine hK65 _ _ ?_
  clear hK65
  refine c_false h67 rfl ?_
  refine wp_seq_k fun K68 hK68 => ?_
  refine wp_seq_k fun K69 hK69 => ?_
  refine nd_start (l := [0, 1]) rfl ?_
  refine nd_batch tabOk2 tabZ_ok2 [(0, {}), (1, {})] [6, 3, 0, 1, 4, 5, 7, 53, 66, 437] (T' := [(6, .pointer (some ⟨b14, 0, none⟩)), (3, .pointer (some ⟨b2, 0, none⟩)), (0, .pointer (some ⟨mb, 0, none⟩)), (1, .agg #[.int .u8 12, .int .u32 ev.pick, .int .u64 ev.draw, .int .u32 ev.addr, .int .u32 ev.node, .int .u32 ev.dst, .int .u32 ev.xfer, .int .u8 ev.ty, .int .u64 ev.arg, .int .u64 ev.badge, .slice xo ev.ws.length cx]), (4, .int .u8 0), (5, .bool false), (7, .pointer (some ⟨(Z.tp x), 0, none⟩)), (53, .int .u8 12), (66, .bool false), (437, .bool true)]) (φ := True) (rest := []) h67 (by kernel_rfl) rfl trivial fun a70 h71 => ?_
  clear h67
  refine nd_done ?_
  refine hK69 _ _ ?_
  clear hK69
  refine c_true h71 rfl ?_
  refine wp_skip ?_
  refine hK68 _ _ ?_
  clear hK68
  refine c_true h71 rfl ?_
  refine wp_seq_k fun K72 hK72 => ?_
  refine nd_start (l := [0, 1, 2, 3, 4, 5, 6, 7, 8]) rfl ?_
  refine nd_batch tabOk2 tabZ_ok2 [(0, {}), (1, {}), (2, {k := 1})] [6, 3, 0, 1, 4, 5, 7, 53, 66, 437, 441, 443] (T' := [(6, .pointer (some ⟨b14, 0, none⟩)), (3, .pointer (some ⟨b2, 0, none⟩)), (0, .pointer (some ⟨mb, 0, none⟩)), (1, .agg #[.int .u8 12, .int .u32 ev.pick, .int .u64 ev.draw, .int .u32 ev.addr, .int .u32 ev.node, .int .u32 ev.dst, .int .u32 ev.xfer, .int .u8 ev.ty, .int .u64 ev.arg, .int .u64 ev.badge, .slice xo ev.ws.length cx]), (4, .int .u8 0), (5, .bool false), (7, .pointer (some ⟨(Z.tp x), 0, none⟩)), (53, .int .u8 12), (66, .bool false), (437, .bool true), (441, .pointer (some ⟨mb, 0, none⟩)), (443, .int .u32 ev.addr)]) (φ := (b2 = b2 ∧ Nat.ble (3 + 1) 11 = true) ∧ True) (rest := [3, 4, 5, 6, 7, 8]) h71 (by kernel_rfl) rfl ⟨⟨rfl, rfl⟩, trivial⟩ fun a73 h74 => ?_
  clear h71
  refine nd_op ?_
  refine op_call h74 rfl rfl rfl (callOk Tryd.func93 (by decide) rfl) (args := [.pointer (some ⟨mb, 0, none⟩), .int .u32 ev.addr]) rfl (cellOf_ok mb Z _ a C x hx hcx hci ev.addr he.addr e1 _ (mh_of h74 hho (k := 0) rfl)) ?_
  rintro _ w75 ⟨rfl, hg77⟩
  refine ⟨_, rfl, ?_⟩
  have h78a := st_mg h74 hg77 (kcons (fun _ => rfl) (kcons (fun hq => by cases hq) (kcons (fun hq => by cases hq) knil)))
  have h78 := h78a.put (d := some 444) (v := .tuple #[.int .i64 s1, .int .u8 0]) (T' := [(444, .tuple #[.int .i64 s1, .int .u8 0]), (6, .pointer (some ⟨b14, 0, none⟩)), (3, .pointer (some ⟨b2, 0, none⟩)), (0, .pointer (some ⟨mb, 0, none⟩)), (1, .agg #[.int .u8 12, .int .u32 ev.pick, .int .u64 ev.draw, .int .u32 ev.addr, .int .u32 ev.node, .int .u32 ev.dst, .int .u32 ev.xfer, .int .u8 ev.ty, .int .u64 ev.arg, .int .u64 ev.badge, .slice xo ev.ws.length cx]), (4, .int .u8 0), (5, .bool false), (7, .pointer (some ⟨(Z.tp x), 0, none⟩)), (53, .int .u8 12), (66, .bool false), (437, .bool true), (441, .pointer (some ⟨mb, 0, none⟩)), (443, .int .u32 ev.addr)]) rfl
  have hhoh78 := hg77.mh.ho
  clear h74 h78a
  refine nd_batch tabOk2 tabZ_ok2 [(4, {}), (5, {}), (6, {}), (7, {}), (8, {})] [6, 3, 0, 1, 4, 5, 7, 53, 66, 437, 31, 32] (T' := [(6, .pointer (some ⟨b14, 0, none⟩)), (3, .pointer (some ⟨b2, 0, none⟩)), (0, .pointer (some ⟨mb, 0, none⟩)), (1, .agg #[.int .u8 12, .int .u32 ev.pick, .int .u64 ev.draw, .int .u32 ev.addr, .int .u32 ev.node, .int .u32 ev.dst, .int .u32 ev.xfer, .int .u8 ev.ty, .int .u64 ev.arg, .int .u64 ev.badge, .slice xo ev.ws.length cx]), (4, .int .u8 0), (5, .bool false), (7, .pointer (some ⟨(Z.tp x), 0, none⟩)), (53, .int .u8 12), (66, .bool false), (437, .bool true), (31, .int .i64 s1), (32, .int .u8 0)]) (φ := True) (rest := []) h78 (by kernel_rfl) rfl trivial fun a79 h80 => ?_
  clear h78
  refine nd_done ?_
  refine hK72 _ _ ?_
  clear hK72
  refine wp_seq_k fun K81 hK81 => ?_
  refine wp_seq_k fun K82 hK82 => ?_
  refine nd_start (l := [0, 1]) rfl ?_
  refine nd_batch tabOk2 tabZ_ok2 [(0, {}), (1, {})] [6, 3, 0, 1, 4, 5, 7, 53, 66, 437, 31, 32, 448] (T' := [(6, .pointer (some ⟨b14, 0, none⟩)), (3, .pointer (some ⟨b2, 0, none⟩)), (0, .pointer (some ⟨mb, 0, none⟩)), (1, .agg #[.int .u8 12, .int .u32 ev.pick, .int .u64 ev.draw, .int .u32 ev.addr, .int .u32 ev.node, .int .u32 ev.dst, .int .u32 ev.xfer, .int .u8 ev.ty, .int .u64 ev.arg, .int .u64 ev.badge, .slice xo ev.ws.length cx]), (4, .int .u8 0), (5, .bool false), (7, .pointer (some ⟨(Z.tp x), 0, none⟩)), (53, .int .u8 12), (66, .bool false), (437, .bool true), (31, .int .i64 s1), (32, .int .u8 0), (448, .bool false)]) (φ := True) (rest := []) h80 (by kernel_rfl) rfl trivial fun a83 h84 => ?_
  clear h80
  refine nd_done ?_
  refine hK82 _ _ ?_
  clear hK82
  refine c_false h84 rfl ?_
  refine wp_skip ?_
  refine hK81 _ _ ?_
  clear hK81
  refine wp_seq_k fun K85 hK85 => ?_
  refine wp_seq_k fun K86 hK86 => ?_
  refine nd_start (l := [0, 1, 2, 3, 4, 5, 6, 7]) rfl ?_
  refine nd_batch tabOk2 tabZ_ok2 [(0, {}), (1, {}), (2, {})] [6, 3, 0, 1, 4, 5, 7, 53, 66, 437, 31, 32, 452] (T' := [(6, .pointer (some ⟨b14, 0, none⟩)), (3, .pointer (some ⟨b2, 0, none⟩)), (0, .pointer (some ⟨mb, 0, none⟩)), (1, .agg #[.int .u8 12, .int .u32 ev.pick, .int .u64 ev.draw, .int .u32 ev.addr, .int .u32 ev.node, .int .u32 ev.dst, .int .u32 ev.xfer, .int .u8 ev.ty, .int .u64 ev.arg, .int .u64 ev.badge, .slice xo ev.ws.length cx]), (4, .int .u8 0), (5, .bool false), (7, .pointer (some ⟨(Z.tp x), 0, none⟩)), (53, .int .u8 12), (66, .bool false), (437, .bool true), (31, .int .i64 s1), (32, .int .u8 0), (452, .pointer (some ⟨mb, 1, none⟩))]) (φ := True) (rest := [3, 4, 5, 6, 7]) h84 (by kernel_rfl) rfl trivial fun a87 h88 => ?_
  clear h84
  refine nd_op ?_
  refine op_read (b := mb) (v := .pointer (some ⟨Z.mc, 0, none⟩)) h88 rfl rfl (rd_m h88 (k := 1) (v := .pointer (some ⟨Z.mc, 0, none⟩)) rfl rfl rfl rfl (md_p ⟨rfl, trivial⟩)) ?_
  have h89 := h88.put (d := some 453) (v := .pointer (some ⟨Z.mc, 0, none⟩)) (T' := [(453, .pointer (some ⟨Z.mc, 0, none⟩)), (6, .pointer (some ⟨b14, 0, none⟩)), (3, .pointer (some ⟨b2, 0, none⟩)), (0, .pointer (some ⟨mb, 0, none⟩)), (1, .agg #[.int .u8 12, .int .u32 ev.pick, .int .u64 ev.draw, .int .u32 ev.addr, .int .u32 ev.node, .int .u32 ev.dst, .int .u32 ev.xfer, .int .u8 ev.ty, .int .u64 ev.arg, .int .u64 ev.badge, .slice xo ev.ws.length cx]), (4, .int .u8 0), (5, .bool false), (7, .pointer (some ⟨(Z.tp x), 0, none⟩)), (53, .int .u8 12), (66, .bool false), (437, .bool true), (31, .int .i64 s1), (32, .int .u8 0), (452, .pointer (some ⟨mb, 1, none⟩))]) rfl
  clear h88
  refine nd_batch tabOk2 tabZ_ok2 [(4, {})] [453, 6, 3, 0, 1, 4, 5, 7, 53, 66, 437, 31, 32, 454] (T' := [(453, .pointer (some ⟨Z.mc, 0, none⟩)), (6, .pointer (some ⟨b14, 0, none⟩)), (3, .pointer (some ⟨b2, 0, none⟩)), (0, .pointer (some ⟨mb, 0, none⟩)), (1, .agg #[.int .u8 12, .int .u32 ev.pick, .int .u64 ev.draw, .int .u32 ev.addr, .int .u32 ev.node, .int .u32 ev.dst, .int .u32 ev.xfer, .int .u8 ev.ty, .int .u64 ev.arg, .int .u64 ev.badge, .slice xo ev.ws.length cx]), (4, .int .u8 0), (5, .bool false), (7, .pointer (some ⟨(Z.tp x), 0, none⟩)), (53, .int .u8 12), (66, .bool false), (437, .bool true), (31, .int .i64 s1), (32, .int .u8 0), (454, .int .i64 s1)]) (φ := True) (rest := [5, 6, 7]) h89 (by kernel_rfl) rfl trivial fun a90 h91 => ?_
  clear h89
  refine nd_op ?_
  obtain ⟨i1, j1, hi1, hj1, hp1, hs1⟩ := look_fact hI.ci hci.1 he.addr.1 e1 rfl
  refine op_call h91 rfl rfl rfl (callOk Tryd.func62 (by decide) rfl) (args := [.pointer (some ⟨Z.mc, 0, none⟩), .int .i64 s1]) rfl (atE Z.mo Z.mc Z.nd C hi1 hj1 hp1 hs1 _ h91.inv.1.cp) ?_
  rintro _ w92 ⟨rfl, hf94⟩
  refine ⟨_, rfl, ?_⟩
  have h93 := (h91.grow hf94).put (d := some 455) (v := .agg #[.int .u8 ((C.cel s1.toNat).cap.ty), .int .u16 ((C.cel s1.toNat).cap.obj.idx), .int .u32 ((C.cel s1.toNat).cap.obj.gen), .int .u8 ((C.cel s1.toNat).cap.rights), .int .u64 ((C.cel s1.toNat).cap.badge)]) (T' := [(455, .agg #[.int .u8 ((C.cel s1.toNat).cap.ty), .int .u16 ((C.cel s1.toNat).cap.obj.idx), .int .u32 ((C.cel s1.toNat).cap.obj.gen), .int .u8 ((C.cel s1.toNat).cap.rights), .int .u64 ((C.cel s1.toNat).cap.badge)]), (453, .pointer (some ⟨Z.mc, 0, none⟩)), (6, .pointer (some ⟨b14, 0, none⟩)), (3, .pointer (some ⟨b2, 0, none⟩)), (0, .pointer (some ⟨mb, 0, none⟩)), (1, .agg #[.int .u8 12, .int .u32 ev.pick, .int .u64 ev.draw, .int .u32 ev.addr, .int .u32 ev.node, .int .u32 ev.dst, .int .u32 ev.xfer, .int .u8 ev.ty, .int .u64 ev.arg, .int .u64 ev.badge, .slice xo ev.ws.length cx]), (4, .int .u8 0), (5, .bool false), (7, .pointer (some ⟨(Z.tp x), 0, none⟩)), (53, .int .u8 12), (66, .bool false), (437, .bool true), (31, .int .i64 s1), (32, .int .u8 0), (454, .int .i64 s1)]) rfl
  clear h91
  refine nd_batch tabOk2 tabZ_ok2 [(6, {}), (7, {})] [6, 3, 0, 1, 4, 5, 7, 53, 66, 437, 31, 32, 457] (T' := [(6, .pointer (some ⟨b14, 0, none⟩)), (3, .pointer (some ⟨b2, 0, none⟩)), (0, .pointer (some ⟨mb, 0, none⟩)), (1, .agg #[.int .u8 12, .int .u32 ev.pick, .int .u64 ev.draw, .int .u32 ev.addr, .int .u32 ev.node, .int .u32 ev.dst, .int .u32 ev.xfer, .int .u8 ev.ty, .int .u64 ev.arg, .int .u64 ev.badge, .slice xo ev.ws.length cx]), (4, .int .u8 0), (5, .bool false), (7, .pointer (some ⟨(Z.tp x), 0, none⟩)), (53, .int .u8 12), (66, .bool false), (437, .bool true), (31, .int .i64 s1), (32, .int .u8 0), (457, .bool ((C.cel s1.toNat).cap.ty == 0))]) (φ := True) (rest := []) h93 (by kernel_rfl) rfl trivial fun a95 h96 => ?_
  clear h93
  refine nd_done ?_
  refine hK86 _ _ ?_
  clear hK86
  refine c_split h96 (b := ((C.cel s1.toNat).cap.ty == 0)) rfl (fun hc97 => ?_) (fun hc97 => ?_)
  ·
    have hc97f : (C.cel s1.toNat).cap.ty = 0 := by simpa using hc97
    exact absurd (hz2) (by first | exact hc97f | (intro hz; exact hc97f hz) | omega | simp_all)
  ·
    have hc97f : (C.cel s1.toNat).cap.ty ≠ 0 := by simpa using hc97
    refine wp_skip ?_
    refine hK85 _ _ ?_
    clear hK85
    refine wp_seq_k fun K98 hK98 => ?_
    refine nd_start (l := [0]) rfl ?_
    refine nd_batch tabOk2 tabZ_ok2 [(0, {})] [6, 3, 0, 1, 4, 5, 7, 53, 66, 437, 31, 32, 33] (T' := [(6, .pointer (some ⟨b14, 0, none⟩)), (3, .pointer (some ⟨b2, 0, none⟩)), (0, .pointer (some ⟨mb, 0, none⟩)), (1, .agg #[.int .u8 12, .int .u32 ev.pick, .int .u64 ev.draw, .int .u32 ev.addr, .int .u32 ev.node, .int .u32 ev.dst, .int .u32 ev.xfer, .int .u8 ev.ty, .int .u64 ev.arg, .int .u64 ev.badge, .slice xo ev.ws.length cx]), (4, .int .u8 0), (5, .bool false), (7, .pointer (some ⟨(Z.tp x), 0, none⟩)), (53, .int .u8 12), (66, .bool false), (437, .bool true), (31, .int .i64 s1), (32, .int .u8 0), (33, .slice none 0 0)]) (φ := True) (rest := []) h96 (by kernel_rfl) rfl trivial fun a99 h100 => ?_
    clear h96
    refine nd_done ?_
    refine hK98 _ _ ?_
    clear hK98
    refine wp_seq_k fun K101 hK101 => ?_
    refine wp_seq_k fun K102 hK102 => ?_
    refine nd_start (l := [0, 1, 2]) rfl ?_
    refine nd_batch tabOk2 tabZ_ok2 [(0, {}), (1, {k := 1}), (2, {})] [6, 3, 0, 1, 4, 5, 7, 53, 66, 437, 31, 32, 33, 460] (T' := [(6, .pointer (some ⟨b14, 0, none⟩)), (3, .pointer (some ⟨b2, 0, none⟩)), (0, .pointer (some ⟨mb, 0, none⟩)), (1, .agg #[.int .u8 12, .int .u32 ev.pick, .int .u64 ev.draw, .int .u32 ev.addr, .int .u32 ev.node, .int .u32 ev.dst, .int .u32 ev.xfer, .int .u8 ev.ty, .int .u64 ev.arg, .int .u64 ev.badge, .slice xo ev.ws.length cx]), (4, .int .u8 0), (5, .bool false), (7, .pointer (some ⟨(Z.tp x), 0, none⟩)), (53, .int .u8 12), (66, .bool false), (437, .bool true), (31, .int .i64 s1), (32, .int .u8 0), (33, .slice none 0 0), (460, .bool true)]) (φ := (b2 = b2 ∧ Nat.ble (0 + 1) 11 = true) ∧ True) (rest := []) h100 (by kernel_rfl) rfl ⟨⟨rfl, rfl⟩, trivial⟩ fun a103 h104 => ?_
    clear h100
    refine nd_done ?_
    refine hK102 _ _ ?_
    clear hK102
    refine c_true h104 rfl ?_
    refine nd_start (l := [0, 1, 2, 3, 4, 5, 6]) rfl ?_
    refine nd_batch tabOk2 tabZ_ok2 [(0, {}), (1, {}), (2, {})] [6, 3, 0, 1, 4, 5, 7, 53, 66, 437, 31, 32, 33, 463] (T' := [(6, .pointer (some ⟨b14, 0, none⟩)), (3, .pointer (some ⟨b2, 0, none⟩)), (0, .pointer (some ⟨mb, 0, none⟩)), (1, .agg #[.int .u8 12, .int .u32 ev.pick, .int .u64 ev.draw, .int .u32 ev.addr, .int .u32 ev.node, .int .u32 ev.dst, .int .u32 ev.xfer, .int .u8 ev.ty, .int .u64 ev.arg, .int .u64 ev.badge, .slice xo ev.ws.length cx]), (4, .int .u8 0), (5, .bool false), (7, .pointer (some ⟨(Z.tp x), 0, none⟩)), (53, .int .u8 12), (66, .bool false), (437, .bool true), (31, .int .i64 s1), (32, .int .u8 0), (33, .slice none 0 0), (463, .pointer (some ⟨mb, 1, none⟩))]) (φ := True) (rest := [3, 4, 5, 6]) h104 (by kernel_rfl) rfl trivial fun a105 h106 => ?_
    clear h104
    refine nd_op ?_
    refine op_read (b := mb) (v := .pointer (some ⟨Z.mc, 0, none⟩)) h106 rfl rfl (rd_m h106 (k := 1) (v := .pointer (some ⟨Z.mc, 0, none⟩)) rfl rfl rfl rfl (md_p ⟨rfl, trivial⟩)) ?_
    have h107 := h106.put (d := some 464) (v := .pointer (some ⟨Z.mc, 0, none⟩)) (T' := [(464, .pointer (some ⟨Z.mc, 0, none⟩)), (6, .pointer (some ⟨b14, 0, none⟩)), (3, .pointer (some ⟨b2, 0, none⟩)), (0, .pointer (some ⟨mb, 0, none⟩)), (1, .agg #[.int .u8 12, .int .u32 ev.pick, .int .u64 ev.draw, .int .u32 ev.addr, .int .u32 ev.node, .int .u32 ev.dst, .int .u32 ev.xfer, .int .u8 ev.ty, .int .u64 ev.arg, .int .u64 ev.badge, .slice xo ev.ws.length cx]), (4, .int .u8 0), (5, .bool false), (7, .pointer (some ⟨(Z.tp x), 0, none⟩)), (53, .int .u8 12), (66, .bool false), (437, .bool true), (31, .int .i64 s1), (32, .int .u8 0), (33, .slice none 0 0), (463, .pointer (some ⟨mb, 1, none⟩))]) rfl
    clear h106
    refine nd_batch tabOk2 tabZ_ok2 [(4, {})] [464, 6, 3, 0, 1, 4, 5, 7, 53, 66, 437, 31, 32, 33, 465] (T' := [(464, .pointer (some ⟨Z.mc, 0, none⟩)), (6, .pointer (some ⟨b14, 0, none⟩)), (3, .pointer (some ⟨b2, 0, none⟩)), (0, .pointer (some ⟨mb, 0, none⟩)), (1, .agg #[.int .u8 12, .int .u32 ev.pick, .int .u64 ev.draw, .int .u32 ev.addr, .int .u32 ev.node, .int .u32 ev.dst, .int .u32 ev.xfer, .int .u8 ev.ty, .int .u64 ev.arg, .int .u64 ev.badge, .slice xo ev.ws.length cx]), (4, .int .u8 0), (5, .bool false), (7, .pointer (some ⟨(Z.tp x), 0, none⟩)), (53, .int .u8 12), (66, .bool false), (437, .bool true), (31, .int .i64 s1), (32, .int .u8 0), (33, .slice none 0 0), (465, .int .i64 s1)]) (φ := True) (rest := [5, 6]) h107 (by kernel_rfl) rfl trivial fun a108 h109 => ?_
    clear h107
    refine nd_op ?_
    refine op_call h109 rfl rfl rfl (callOk Tryd.func95 (by decide) rfl) (args := [.pointer (some ⟨Z.mc, 0, none⟩), .int .i64 s1]) rfl (by have h9 := delete_ok Z.mo Z.mc 4097 Z.nd C s1.toNat hI.ci (by have := cnt_le (C := C); omega) (by rw [hs1]; omega) (by rw [hs1, Int.toNat_natCast, show (i1 * 16 + j1) / 16 = i1 by omega]; exact hp1) _ h109.inv.1.cp; rw [show ((s1.toNat : Nat) : Int) = s1 by omega, hdr] at h9; exact h9) ?_
    rintro _ w113 ⟨o110, c111, F112, rfl, hrow114, hF115, hsub116, hf117⟩
    refine ⟨_, rfl, ?_⟩
    have h118a := st_cap h109 hrow114.cap hf117 (fun b hb => .inl (hsub116 b hb)) (kcons (fun _ => rfl) (kcons (fun hq => by cases hq) (kcons (fun hq => by cases hq) knil)))
    have h118 := h118a.put (d := some 466) (v := .slice o110 dead.length c111) (T' := [(466, .slice o110 dead.length c111), (464, .pointer (some ⟨Z.mc, 0, none⟩)), (6, .pointer (some ⟨b14, 0, none⟩)), (3, .pointer (some ⟨b2, 0, none⟩)), (0, .pointer (some ⟨mb, 0, none⟩)), (1, .agg #[.int .u8 12, .int .u32 ev.pick, .int .u64 ev.draw, .int .u32 ev.addr, .int .u32 ev.node, .int .u32 ev.dst, .int .u32 ev.xfer, .int .u8 ev.ty, .int .u64 ev.arg, .int .u64 ev.badge, .slice xo ev.ws.length cx]), (4, .int .u8 0), (5, .bool false), (7, .pointer (some ⟨(Z.tp x), 0, none⟩)), (53, .int .u8 12), (66, .bool false), (437, .bool true), (31, .int .i64 s1), (32, .int .u8 0), (33, .slice none 0 0), (465, .int .i64 s1)]) rfl
    clear h109 h118a
    refine nd_batch tabOk2 tabZ_ok2 [(6, {})] [6, 3, 0, 1, 4, 5, 7, 53, 66, 437, 31, 32, 33] (T' := [(6, .pointer (some ⟨b14, 0, none⟩)), (3, .pointer (some ⟨b2, 0, none⟩)), (0, .pointer (some ⟨mb, 0, none⟩)), (1, .agg #[.int .u8 12, .int .u32 ev.pick, .int .u64 ev.draw, .int .u32 ev.addr, .int .u32 ev.node, .int .u32 ev.dst, .int .u32 ev.xfer, .int .u8 ev.ty, .int .u64 ev.arg, .int .u64 ev.badge, .slice xo ev.ws.length cx]), (4, .int .u8 0), (5, .bool false), (7, .pointer (some ⟨(Z.tp x), 0, none⟩)), (53, .int .u8 12), (66, .bool false), (437, .bool true), (31, .int .i64 s1), (32, .int .u8 0), (33, .slice o110 dead.length c111)]) (φ := True) (rest := []) h118 (by kernel_rfl) rfl trivial fun a119 h120 => ?_
    clear h118
    refine nd_done ?_
    refine hK101 _ _ ?_
    clear hK101
    refine wp_seq_k fun K121 hK121 => ?_
    refine wp_seq_k fun K122 hK122 => ?_
    refine nd_start (l := [0, 1, 2]) rfl ?_
    refine nd_batch tabOk2 tabZ_ok2 [(0, {}), (1, {}), (2, {})] [6, 3, 0, 1, 4, 5, 7, 53, 66, 437, 31, 32, 33, 473, 474, 475] (T' := [(6, .pointer (some ⟨b14, 0, none⟩)), (3, .pointer (some ⟨b2, 0, none⟩)), (0, .pointer (some ⟨mb, 0, none⟩)), (1, .agg #[.int .u8 12, .int .u32 ev.pick, .int .u64 ev.draw, .int .u32 ev.addr, .int .u32 ev.node, .int .u32 ev.dst, .int .u32 ev.xfer, .int .u8 ev.ty, .int .u64 ev.arg, .int .u64 ev.badge, .slice xo ev.ws.length cx]), (4, .int .u8 0), (5, .bool false), (7, .pointer (some ⟨(Z.tp x), 0, none⟩)), (53, .int .u8 12), (66, .bool false), (437, .bool true), (31, .int .i64 s1), (32, .int .u8 0), (33, .slice o110 dead.length c111), (473, .slice o110 dead.length c111), (474, .int .i64 ((dead.length : Nat) : Int)), (475, .int .i64 0)]) (φ := True) (rest := []) h120 (by kernel_rfl) rfl trivial fun a123 h124 => ?_
    clear h120
    refine nd_done ?_
    refine hK122 _ _ ?_
    clear hK122
    refine wp_block ?_
    have hdl9 : dead.length < 1000000 := hdlen
    refine wp_loop_ghost (fun g ga gw => ∃ (Z1 : MZ) (b1 : AK) (R1 : MR) (m : Nat), (g = dead.length - m) ∧ (m ≤ dead.length) ∧ ((Z1, b1) = (dead.take m).foldl (forgetM C1.ent) (Z, a)) ∧ (R1.ho = none) ∧ (MP Z1 b1) ∧ St (MCx 628 (mdF mb Z R C) w mb Z1 R1 b1 C1) [(0, .pointer (some ⟨mb, 0, none⟩)), (3, .pointer (some ⟨b2, 0, none⟩)), (473, .slice o110 dead.length c111), (474, .int .i64 ((dead.length : Nat) : Int)), (475, .int .i64 ((m : Nat) : Int))] [(3, ⟨[.int .u16 0, .int .u32 0], ty3, true⟩), (b2, ⟨[.int .u8 12, .int .u32 ev.pick, .int .u64 ev.draw, .int .u32 ev.addr, .int .u32 ev.node, .int .u32 ev.dst, .int .u32 ev.xfer, .int .u8 ev.ty, .int .u64 ev.arg, .int .u64 ev.badge, .slice xo ev.ws.length cx], 35, false⟩), (b14, ⟨[.int .u16 ((Z.ky x).idx), .int .u32 ((Z.ky x).gen)], 39, false⟩)] ga gw) dead.length ⟨Z, a, R, 0, by omega, by omega, rfl, hhoh78, hP, (h124.slotsMono (restr_spec (keep := [0, 3, 473, 474, 475]) rfl))⟩ ?_
    clear h124
    rintro g a125 w126 ⟨Z1, b1, R1, m, hi128, hi129, hi130, hi131, hi132, h127⟩
    have hig := hi128
    have hm8 := hi129
    have hb1 := hi130
    have hho1 := hi131
    have hP1 := hi132
    refine wp_seq_k fun K133 hK133 => ?_
    refine nd_start (l := [0]) rfl ?_
    refine nd_batch tabOk2 tabZ_ok2 [(0, {})] [0, 3, 473, 474, 475, 476] (T' := [(0, .pointer (some ⟨mb, 0, none⟩)), (3, .pointer (some ⟨b2, 0, none⟩)), (473, .slice o110 dead.length c111), (474, .int .i64 ((dead.length : Nat) : Int)), (475, .int .i64 ((m : Nat) : Int)), (476, .bool (decide (((m : Nat) : Int) < ((dead.length : Nat) : Int))))]) (φ := True) (rest := []) h127 (by kernel_rfl) rfl trivial fun a134 h135 => ?_
    clear h127
    refine nd_done ?_
    refine hK133 _ _ ?_
    clear hK133
    refine wp_seq_k fun K136 hK136 => ?_
    refine c_split h135 (b := decide (((m : Nat) : Int) < ((dead.length : Nat) : Int))) rfl (fun hc137 => ?_) (fun hc137 => ?_)
    ·
      have hc137f : ((m : Nat) : Int) < ((dead.length : Nat) : Int) := by simpa using hc137
      exact absurd hc137f (by rw [hd0]; show ¬ ((m : Nat) : Int) < 0; omega)
    ·
      have hc137f : ¬ ((m : Nat) : Int) < ((dead.length : Nat) : Int) := by simpa using hc137
      have hm9 : dead.length ≤ m := by omega
      rw [List.take_of_length_le hm9] at hb1
      refine wp_exit ?_
      refine hK121 _ _ ?_
      clear hK121
      refine wp_seq_k fun K138 hK138 => ?_
      refine nd_start (l := [0, 1]) rfl ?_
      refine nd_batch tabOk2 tabZ_ok2 [(0, {}), (1, {})] [0, 3, 473, 474, 475, 4, 5] (T' := [(0, .pointer (some ⟨mb, 0, none⟩)), (3, .pointer (some ⟨b2, 0, none⟩)), (473, .slice o110 dead.length c111), (474, .int .i64 ((dead.length : Nat) : Int)), (475, .int .i64 ((m : Nat) : Int)), (4, .int .u8 0), (5, .bool false)]) (φ := True) (rest := []) h135 (by kernel_rfl) rfl trivial fun a139 h140 => ?_
      clear h135
      refine nd_done ?_
      refine hK138 _ _ ?_
      clear hK138
      refine wp_ret ?_
      try simp only [Exit.then, Exit.inBlock]
      try rw [if_pos trivial]
      exact s_ret tabOk2 tabZ_ok2 h140 [(.tmp 4, {}), (.tmp 5, {})] (vs := [.int .u8 0, .bool false]) (φ := True) rfl (by kernel_rfl) trivial ⟨rfl, R1, (by rw [← hb1]; exact mg_end hH h140 hho1 rfl)⟩

theorem call12n (mb : Nat) (Z : MZ) (R : MR) (a : AK) (C : CP) (hI : MI Z a C) (x : Nat) (hx : x ∈ sl Z.tl) (hcu : a.cur = (x : Int)) (ev : Ev) (he : EvOk ev) (xo : Option Addr) (cx : Nat) (s1 : Int) (e1 : lookP C.ent (a.th x).cs ev.addr = (s1, 0)) (hz2 : ¬ (C.cel s1.toNat).cap.ty = 0) (C1 : CP) (dead : List Cp) (hdr : deleteP 4097 C s1.toNat = (C1, dead)) (hdlen : dead.length < 1000000) (hdl : 0 < dead.length) (hfa : FAll C1.ent (Z, a) dead) (w : World) (hH : MH mb Z R a C w) (hws : WordsAt (mdF mb Z R C) w xo ev.ws) :
    Calls Tryd.prog 55 #[.pointer (some ⟨mb, 0, none⟩), .agg #[.int .u8 12, .int .u32 ev.pick, .int .u64 ev.draw, .int .u32 ev.addr, .int .u32 ev.node, .int .u32 ev.dst, .int .u32 ev.xfer, .int .u8 ev.ty, .int .u64 ev.arg, .int .u64 ev.badge, .slice xo ev.ws.length cx]] w fun e w' => e = .returned (.tuple #[.int .u8 0, .bool false]) ∧ ∃ R', MG mb Z R C w (dead.foldl (forgetM C1.ent) (Z, a)).1 R' (dead.foldl (forgetM C1.ent) (Z, a)).2 C1 w' := by
  have hP := hI.mp
  have hcx : curR Z a = Z.ky x := curR_of hcu
  have hcn : a.cur.toNat = x := by rw [hcu]; exact Int.toNat_natCast x
  have hci := (hI.tk x hx).ci
  obtain ⟨ty3, hg3⟩ := hH.g3
  have hho := hH.ho
  have hkk := hH.md.k
  refine enter (n := 628) (K := mdF mb Z R C) (A := MD (mdF mb Z R C) w.heap.size mb Z R a C) (F := mdF mb Z R C) (T := [(0, .pointer (some ⟨mb, 0, none⟩)), (1, .agg #[.int .u8 12, .int .u32 ev.pick, .int .u64 ev.draw, .int .u32 ev.addr, .int .u32 ev.node, .int .u32 ev.dst, .int .u32 ev.xfer, .int .u8 ev.ty, .int .u64 ev.arg, .int .u64 ev.badge, .slice xo ev.ws.length cx])]) (L := [(3, ⟨[.int .u16 0, .int .u32 0], ty3, true⟩)]) (args := [.pointer (some ⟨mb, 0, none⟩), .agg #[.int .u8 12, .int .u32 ev.pick, .int .u64 ev.draw, .int .u32 ev.addr, .int .u32 ev.node, .int .u32 ev.dst, .int .u32 ev.xfer, .int .u8 ev.ty, .int .u64 ev.arg, .int .u64 ev.badge, .slice xo ev.ws.length cx]]) Tryd.func55 rfl rfl rfl rfl (kcons hg3 knil) (by simp) (kcons (by intro hq; cases hq) knil) hH.mD MD.stable hH.md.low (kcons (by intro hq; cases hq) knil) ?_
  intro ac h
  refine wp_seq_k fun K1 hK1 => ?_
  refine nd_start (l := [0, 1, 2]) rfl ?_
  refine nd_op ?_
  refine op_new tabOk2 (cells := [.int .u8 12, .int .u32 ev.pick, .int .u64 ev.draw, .int .u32 ev.addr, .int .u32 ev.node, .int .u32 ev.dst, .int .u32 ev.xfer, .int .u8 ev.ty, .int .u64 ev.arg, .int .u64 ev.badge, .slice xo ev.ws.length cx]) (ty := 35) (ln := none) (L1 := fun b2 => [(3, ⟨[.int .u16 0, .int .u32 0], ty3, true⟩), (b2, ⟨[.int .u8 12, .int .u32 ev.pick, .int .u64 ev.draw, .int .u32 ev.addr, .int .u32 ev.node, .int .u32 ev.dst, .int .u32 ev.xfer, .int .u8 ev.ty, .int .u64 ev.arg, .int .u64 ev.badge, .slice xo ev.ws.length cx], 35, false⟩)]) h rfl rfl rfl rfl (by kernel_rfl) (fun _ => rfl) fun b2 w3 a4 h5 hf6 hn7 => ?_
  clear h
  refine nd_batch tabOk2 tabZ_ok2 [(1, {}), (2, {})] [3, 0, 1, 4, 5] (T' := [(3, .pointer (some ⟨b2, 0, none⟩)), (0, .pointer (some ⟨mb, 0, none⟩)), (1, .agg #[.int .u8 12, .int .u32 ev.pick, .int .u64 ev.draw, .int .u32 ev.addr, .int .u32 ev.node, .int .u32 ev.dst, .int .u32 ev.xfer, .int .u8 ev.ty, .int .u64 ev.arg, .int .u64 ev.badge, .slice xo ev.ws.length cx]), (4, .int .u8 0), (5, .bool false)]) (φ := True) (rest := []) h5 (by kernel_rfl) rfl trivial fun a8 h9 => ?_
  clear h5
  refine nd_done ?_
  refine hK1 _ _ ?_
  clear hK1
  refine wp_seq_k fun K10 hK10 => ?_
  refine nd_start (l := [0, 1, 2, 3, 4, 5]) rfl ?_
  refine nd_batch tabOk2 tabZ_ok2 [(0, {}), (1, {}), (2, {})] [3, 0, 1, 4, 5, 44] (T' := [(3, .pointer (some ⟨b2, 0, none⟩)), (0, .pointer (some ⟨mb, 0, none⟩)), (1, .agg #[.int .u8 12, .int .u32 ev.pick, .int .u64 ev.draw, .int .u32 ev.addr, .int .u32 ev.node, .int .u32 ev.dst, .int .u32 ev.xfer, .int .u8 ev.ty, .int .u64 ev.arg, .int .u64 ev.badge, .slice xo ev.ws.length cx]), (4, .int .u8 0), (5, .bool false), (44, .pointer (some ⟨mb, 13, none⟩))]) (φ := True) (rest := [3, 4, 5]) h9 (by kernel_rfl) rfl trivial fun a11 h12 => ?_
  clear h9
  refine nd_op ?_
  refine op_read (b := mb) (v := .agg #[.int .u16 ((Z.ky x).idx), .int .u32 ((Z.ky x).gen)]) h12 rfl rfl (rd_mA h12 (k := 13) (vs := [.int .u16 ((Z.ky x).idx), .int .u32 ((Z.ky x).gen)]) rfl rfl rfl rfl rfl (by rw [← hcx]; exact md_cur)) ?_
  have h13 := h12.put (d := some 45) (v := .agg #[.int .u16 ((Z.ky x).idx), .int .u32 ((Z.ky x).gen)]) (T' := [(45, .agg #[.int .u16 ((Z.ky x).idx), .int .u32 ((Z.ky x).gen)]), (3, .pointer (some ⟨b2, 0, none⟩)), (0, .pointer (some ⟨mb, 0, none⟩)), (1, .agg #[.int .u8 12, .int .u32 ev.pick, .int .u64 ev.draw, .int .u32 ev.addr, .int .u32 ev.node, .int .u32 ev.dst, .int .u32 ev.xfer, .int .u8 ev.ty, .int .u64 ev.arg, .int .u64 ev.badge, .slice xo ev.ws.length cx]), (4, .int .u8 0), (5, .bool false), (44, .pointer (some ⟨mb, 13, none⟩))]) rfl
  clear h12
  refine nd_op ?_
  refine op_new tabOk2 (cells := [.int .u16 0, .int .u32 0]) (ty := 39) (ln := none) (L1 := fun b14 => [(3, ⟨[.int .u16 0, .int .u32 0], ty3, true⟩), (b2, ⟨[.int .u8 12, .int .u32 ev.pick, .int .u64 ev.draw, .int .u32 ev.addr, .int .u32 ev.node, .int .u32 ev.dst, .int .u32 ev.xfer, .int .u8 ev.ty, .int .u64 ev.arg, .int .u64 ev.badge, .slice xo ev.ws.length cx], 35, false⟩), (b14, ⟨[.int .u16 0, .int .u32 0], 39, false⟩)]) h13 rfl rfl rfl rfl (by kernel_rfl) (fun _ => rfl) fun b14 w15 a16 h17 hf18 hn19 => ?_
  clear h13
  refine nd_op ?_
  refine op_store tabOk2 {k := 2} (L' := [(3, ⟨[.int .u16 0, .int .u32 0], ty3, true⟩), (b2, ⟨[.int .u8 12, .int .u32 ev.pick, .int .u64 ev.draw, .int .u32 ev.addr, .int .u32 ev.node, .int .u32 ev.dst, .int .u32 ev.xfer, .int .u8 ev.ty, .int .u64 ev.arg, .int .u64 ev.badge, .slice xo ev.ws.length cx], 35, false⟩), (b14, ⟨[.int .u16 ((Z.ky x).idx), .int .u32 ((Z.ky x).gen)], 39, false⟩)]) (φ := b14 = b14 ∧ Nat.ble (0 + 2) 2 = true) h17 rfl rfl rfl (by kernel_rfl) ⟨rfl, rfl⟩ fun w20 h21 => ?_
  clear h17
  refine nd_done ?_
  refine hK10 _ _ ?_
  clear hK10
  refine wp_seq_k fun K22 hK22 => ?_
  refine dr_start (KB := [3, b2, b14, mb, Z.tb]) (Bi := [[0, 1, 2, 3, 4], [0, 1, 2, 3, 4], [0, 1, 2, 3, 4], [0, 1, 2, 3, 4], [0, 1, 2, 3, 4], [0, 1, 2, 3, 4], [0, 1, 2, 3, 4]]) mixed h21 fun w23 h24 => ?_
  clear h21
  refine dr_batch tabOk2 tabZ_ok2 (by repeat (first | with_reducible exact PF.body | with_reducible apply PF.inB | with_reducible apply PF.next)) [(0, {}), (1, {}), (2, {})] [6, 3, 0, 1, 4, 5, 48] (T' := [(6, .pointer (some ⟨b14, 0, none⟩)), (3, .pointer (some ⟨b2, 0, none⟩)), (0, .pointer (some ⟨mb, 0, none⟩)), (1, .agg #[.int .u8 12, .int .u32 ev.pick, .int .u64 ev.draw, .int .u32 ev.addr, .int .u32 ev.node, .int .u32 ev.dst, .int .u32 ev.xfer, .int .u8 ev.ty, .int .u64 ev.arg, .int .u64 ev.badge, .slice xo ev.ws.length cx]), (4, .int .u8 0), (5, .bool false), (48, .pointer (some ⟨mb, 2, none⟩))]) (φ := True) (fuel := 4) h24 (by kernel_rfl) rfl (by kernel_rfl) (by kernel_rfl) ⟨trivial, trivial, trivial, trivial⟩ trivial fun a26 h27 => ?_
  clear h24
  refine dr_read (i := 3) (b := mb) (p := 3) (v := .map (some Z.tb)) (fuel := 3) (by repeat (first | with_reducible exact PF.body | with_reducible apply PF.inB | with_reducible apply PF.next)) h27 rfl rfl rfl (by kernel_rfl) (by kernel_rfl) (by kernel_rfl) rfl (rd_m h27 (k := 2) (v := .map (some Z.tb)) rfl rfl rfl rfl (md_p ⟨rfl, trivial⟩)) ?_
  have h28 := h27.put (d := some 49) (v := .map (some Z.tb)) (T' := [(49, .map (some Z.tb)), (6, .pointer (some ⟨b14, 0, none⟩)), (3, .pointer (some ⟨b2, 0, none⟩)), (0, .pointer (some ⟨mb, 0, none⟩)), (1, .agg #[.int .u8 12, .int .u32 ev.pick, .int .u64 ev.draw, .int .u32 ev.addr, .int .u32 ev.node, .int .u32 ev.dst, .int .u32 ev.xfer, .int .u8 ev.ty, .int .u64 ev.arg, .int .u64 ev.badge, .slice xo ev.ws.length cx]), (4, .int .u8 0), (5, .bool false), (48, .pointer (some ⟨mb, 2, none⟩))]) rfl
  clear h27
  refine dr_batch tabOk2 tabZ_ok2 (by repeat (first | with_reducible exact PF.body | with_reducible apply PF.inB | with_reducible apply PF.next)) [(4, {k := 2, p := 2})] [49, 6, 3, 0, 1, 4, 5, 50] (T' := [(49, .map (some Z.tb)), (6, .pointer (some ⟨b14, 0, none⟩)), (3, .pointer (some ⟨b2, 0, none⟩)), (0, .pointer (some ⟨mb, 0, none⟩)), (1, .agg #[.int .u8 12, .int .u32 ev.pick, .int .u64 ev.draw, .int .u32 ev.addr, .int .u32 ev.node, .int .u32 ev.dst, .int .u32 ev.xfer, .int .u8 ev.ty, .int .u64 ev.arg, .int .u64 ev.badge, .slice xo ev.ws.length cx]), (4, .int .u8 0), (5, .bool false), (50, .agg #[.int .u16 ((Z.ky x).idx), .int .u32 ((Z.ky x).gen)])]) (φ := (b14 = b14 ∧ Nat.ble (0 + 2) 2 = true) ∧ True) (fuel := 2) h28 (by kernel_rfl) rfl (by kernel_rfl) (by kernel_rfl) ⟨rfl, trivial⟩ ⟨⟨rfl, rfl⟩, trivial⟩ fun a29 h30 => ?_
  clear h28
  refine dr_read (i := 5) (b := Z.tb) (p := 4) (v := .pointer (some ⟨(Z.tp x), 0, none⟩)) (fuel := 1) (by repeat (first | with_reducible exact PF.body | with_reducible apply PF.inB | with_reducible apply PF.next)) h30 rfl rfl rfl (by kernel_rfl) (by kernel_rfl) (by kernel_rfl) rfl (rd_T h30 (x := x) hx rfl rfl rfl) ?_
  have h31 := h30.put (d := some 51) (v := .pointer (some ⟨(Z.tp x), 0, none⟩)) (T' := [(51, .pointer (some ⟨(Z.tp x), 0, none⟩)), (49, .map (some Z.tb)), (6, .pointer (some ⟨b14, 0, none⟩)), (3, .pointer (some ⟨b2, 0, none⟩)), (0, .pointer (some ⟨mb, 0, none⟩)), (1, .agg #[.int .u8 12, .int .u32 ev.pick, .int .u64 ev.draw, .int .u32 ev.addr, .int .u32 ev.node, .int .u32 ev.dst, .int .u32 ev.xfer, .int .u8 ev.ty, .int .u64 ev.arg, .int .u64 ev.badge, .slice xo ev.ws.length cx]), (4, .int .u8 0), (5, .bool false), (50, .agg #[.int .u16 ((Z.ky x).idx), .int .u32 ((Z.ky x).gen)])]) rfl
  clear h30
  refine dr_batch tabOk2 tabZ_ok2 (by repeat (first | with_reducible exact PF.body | with_reducible apply PF.inB | with_reducible apply PF.next)) [(6, {})] [6, 3, 0, 1, 4, 5, 7] (T' := [(6, .pointer (some ⟨b14, 0, none⟩)), (3, .pointer (some ⟨b2, 0, none⟩)), (0, .pointer (some ⟨mb, 0, none⟩)), (1, .agg #[.int .u8 12, .int .u32 ev.pick, .int .u64 ev.draw, .int .u32 ev.addr, .int .u32 ev.node, .int .u32 ev.dst, .int .u32 ev.xfer, .int .u8 ev.ty, .int .u64 ev.arg, .int .u64 ev.badge, .slice xo ev.ws.length cx]), (4, .int .u8 0), (5, .bool false), (7, .pointer (some ⟨(Z.tp x), 0, none⟩))]) (φ := True) (fuel := 0) h31 (by kernel_rfl) rfl (by kernel_rfl) (by kernel_rfl) ⟨trivial, trivial⟩ trivial fun a32 h33 => ?_
  clear h31
  refine wpAnyK_done (by kernel_rfl) ?_ _
  refine hK22 _ _ ?_
  clear hK22
  refine wp_seq_k fun K34 hK34 => ?_
  refine wp_seq_k fun K35 hK35 => ?_
  refine nd_start (l := [0, 1]) rfl ?_
  refine nd_batch tabOk2 tabZ_ok2 [(0, {}), (1, {k := 1})] [6, 3, 0, 1, 4, 5, 7, 53] (T' := [(6, .pointer (some ⟨b14, 0, none⟩)), (3, .pointer (some ⟨b2, 0, none⟩)), (0, .pointer (some ⟨mb, 0, none⟩)), (1, .agg #[.int .u8 12, .int .u32 ev.pick, .int .u64 ev.draw, .int .u32 ev.addr, .int .u32 ev.node, .int .u32 ev.dst, .int .u32 ev.xfer, .int .u8 ev.ty, .int .u64 ev.arg, .int .u64 ev.badge, .slice xo ev.ws.length cx]), (4, .int .u8 0), (5, .bool false), (7, .pointer (some ⟨(Z.tp x), 0, none⟩)), (53, .int .u8 12)]) (φ := (b2 = b2 ∧ Nat.ble (0 + 1) 11 = true) ∧ True) (rest := []) h33 (by kernel_rfl) rfl ⟨⟨rfl, rfl⟩, trivial⟩ fun a36 h37 => ?_
  clear h33
  refine nd_done ?_
  refine hK35 _ _ ?_
  clear hK35
  refine wp_block ?_
  refine wp_seq_k fun K38 hK38 => ?_
  refine nd_start (l := [0, 1]) rfl ?_
  refine nd_batch tabOk2 tabZ_ok2 [(0, {}), (1, {})] [6, 3, 0, 1, 4, 5, 7, 53, 54] (T' := [(6, .pointer (some ⟨b14, 0, none⟩)), (3, .pointer (some ⟨b2, 0, none⟩)), (0, .pointer (some ⟨mb, 0, none⟩)), (1, .agg #[.int .u8 12, .int .u32 ev.pick, .int .u64 ev.draw, .int .u32 ev.addr, .int .u32 ev.node, .int .u32 ev.dst, .int .u32 ev.xfer, .int .u8 ev.ty, .int .u64 ev.arg, .int .u64 ev.badge, .slice xo ev.ws.length cx]), (4, .int .u8 0), (5, .bool false), (7, .pointer (some ⟨(Z.tp x), 0, none⟩)), (53, .int .u8 12), (54, .bool false)]) (φ := True) (rest := []) h37 (by kernel_rfl) rfl trivial fun a39 h40 => ?_
  clear h37
  refine nd_done ?_
  refine hK38 _ _ ?_
  clear hK38
  refine c_false h40 rfl ?_
  refine wp_seq_k fun K41 hK41 => ?_
  refine nd_start (l := [0, 1]) rfl ?_
  refine nd_batch tabOk2 tabZ_ok2 [(0, {}), (1, {})] [6, 3, 0, 1, 4, 5, 7, 53, 59] (T' := [(6, .pointer (some ⟨b14, 0, none⟩)), (3, .pointer (some ⟨b2, 0, none⟩)), (0, .pointer (some ⟨mb, 0, none⟩)), (1, .agg #[.int .u8 12, .int .u32 ev.pick, .int .u64 ev.draw, .int .u32 ev.addr, .int .u32 ev.node, .int .u32 ev.dst, .int .u32 ev.xfer, .int .u8 ev.ty, .int .u64 ev.arg, .int .u64 ev.badge, .slice xo ev.ws.length cx]), (4, .int .u8 0), (5, .bool false), (7, .pointer (some ⟨(Z.tp x), 0, none⟩)), (53, .int .u8 12), (59, .bool false)]) (φ := True) (rest := []) h40 (by kernel_rfl) rfl trivial fun a42 h43 => ?_
  clear h40
  refine nd_done ?_
  refine hK41 _ _ ?_
  clear hK41
  refine c_false h43 rfl ?_
  refine wp_seq_k fun K44 hK44 => ?_
  refine wp_seq_k fun K45 hK45 => ?_
  refine nd_start (l := [0, 1]) rfl ?_
  refine nd_batch tabOk2 tabZ_ok2 [(0, {}), (1, {})] [6, 3, 0, 1, 4, 5, 7, 53, 66] (T' := [(6, .pointer (some ⟨b14, 0, none⟩)), (3, .pointer (some ⟨b2, 0, none⟩)), (0, .pointer (some ⟨mb, 0, none⟩)), (1, .agg #[.int .u8 12, .int .u32 ev.pick, .int .u64 ev.draw, .int .u32 ev.addr, .int .u32 ev.node, .int .u32 ev.dst, .int .u32 ev.xfer, .int .u8 ev.ty, .int .u64 ev.arg, .int .u64 ev.badge, .slice xo ev.ws.length cx]), (4, .int .u8 0), (5, .bool false), (7, .pointer (some ⟨(Z.tp x), 0, none⟩)), (53, .int .u8 12), (66, .bool false)]) (φ := True) (rest := []) h43 (by kernel_rfl) rfl trivial fun a46 h47 => ?_
  clear h43
  refine nd_done ?_
  refine hK45 _ _ ?_
  clear hK45
  refine c_false h47 rfl ?_
  refine nd_start (l := [0, 1]) rfl ?_
  refine nd_batch tabOk2 tabZ_ok2 [(0, {}), (1, {})] [6, 3, 0, 1, 4, 5, 7, 53, 66] (T' := [(6, .pointer (some ⟨b14, 0, none⟩)), (3, .pointer (some ⟨b2, 0, none⟩)), (0, .pointer (some ⟨mb, 0, none⟩)), (1, .agg #[.int .u8 12, .int .u32 ev.pick, .int .u64 ev.draw, .int .u32 ev.addr, .int .u32 ev.node, .int .u32 ev.dst, .int .u32 ev.xfer, .int .u8 ev.ty, .int .u64 ev.arg, .int .u64 ev.badge, .slice xo ev.ws.length cx]), (4, .int .u8 0), (5, .bool false), (7, .pointer (some ⟨(Z.tp x), 0, none⟩)), (53, .int .u8 12), (66, .bool false)]) (φ := True) (rest := []) h47 (by kernel_rfl) rfl trivial fun a48 h49 => ?_
  clear h47
  refine nd_done ?_
  refine hK44 _ _ ?_
  clear hK44
  refine c_false h49 rfl ?_
  refine wp_seq_k fun K50 hK50 => ?_
  refine nd_start (l := [0, 1]) rfl ?_
  refine nd_batch tabOk2 tabZ_ok2 [(0, {}), (1, {})] [6, 3, 0, 1, 4, 5, 7, 53, 66, 129] (T' := [(6, .pointer (some ⟨b14, 0, none⟩)), (3, .pointer (some ⟨b2, 0, none⟩)), (0, .pointer (some ⟨mb, 0, none⟩)), (1, .agg #[.int .u8 12, .int .u32 ev.pick, .int .u64 ev.draw, .int .u32 ev.addr, .int .u32 ev.node, .int .u32 ev.dst, .int .u32 ev.xfer, .int .u8 ev.ty, .int .u64 ev.arg, .int .u64 ev.badge, .slice xo ev.ws.length cx]), (4, .int .u8 0), (5, .bool false), (7, .pointer (some ⟨(Z.tp x), 0, none⟩)), (53, .int .u8 12), (66, .bool false), (129, .bool false)]) (φ := True) (rest := []) h49 (by kernel_rfl) rfl trivial fun a51 h52 => ?_
  clear h49
  refine nd_done ?_
  refine hK50 _ _ ?_
  clear hK50
  refine c_false h52 rfl ?_
  refine wp_seq_k fun K53 hK53 => ?_
  refine nd_start (l := [0, 1]) rfl ?_
  refine nd_batch tabOk2 tabZ_ok2 [(0, {}), (1, {})] [6, 3, 0, 1, 4, 5, 7, 53, 66, 165] (T' := [(6, .pointer (some ⟨b14, 0, none⟩)), (3, .pointer (some ⟨b2, 0, none⟩)), (0, .pointer (some ⟨mb, 0, none⟩)), (1, .agg #[.int .u8 12, .int .u32 ev.pick, .int .u64 ev.draw, .int .u32 ev.addr, .int .u32 ev.node, .int .u32 ev.dst, .int .u32 ev.xfer, .int .u8 ev.ty, .int .u64 ev.arg, .int .u64 ev.badge, .slice xo ev.ws.length cx]), (4, .int .u8 0), (5, .bool false), (7, .pointer (some ⟨(Z.tp x), 0, none⟩)), (53, .int .u8 12), (66, .bool false), (165, .bool false)]) (φ := True) (rest := []) h52 (by kernel_rfl) rfl trivial fun a54 h55 => ?_
  clear h52
  refine nd_done ?_
  refine hK53 _ _ ?_
  clear hK53
  refine c_false h55 rfl ?_
  refine wp_seq_k fun K56 hK56 => ?_
  refine nd_start (l := [0, 1]) rfl ?_
  refine nd_batch tabOk2 tabZ_ok2 [(0, {}), (1, {})] [6, 3, 0, 1, 4, 5, 7, 53, 66, 226] (T' := [(6, .pointer (some ⟨b14, 0, none⟩)), (3, .pointer (some ⟨b2, 0, none⟩)), (0, .pointer (some ⟨mb, 0, none⟩)), (1, .agg #[.int .u8 12, .int .u32 ev.pick, .int .u64 ev.draw, .int .u32 ev.addr, .int .u32 ev.node, .int .u32 ev.dst, .int .u32 ev.xfer, .int .u8 ev.ty, .int .u64 ev.arg, .int .u64 ev.badge, .slice xo ev.ws.length cx]), (4, .int .u8 0), (5, .bool false), (7, .pointer (some ⟨(Z.tp x), 0, none⟩)), (53, .int .u8 12), (66, .bool false), (226, .bool false)]) (φ := True) (rest := []) h55 (by kernel_rfl) rfl trivial fun a57 h58 => ?_
  clear h55
  refine nd_done ?_
  refine hK56 _ _ ?_
  clear hK56
  refine c_false h58 rfl ?_
  refine wp_seq_k fun K59 hK59 => ?_
  refine nd_start (l := [0, 1]) rfl ?_
  refine nd_batch tabOk2 tabZ_ok2 [(0, {}), (1, {})] [6, 3, 0, 1, 4, 5, 7, 53, 66, 244] (T' := [(6, .pointer (some ⟨b14, 0, none⟩)), (3, .pointer (some ⟨b2, 0, none⟩)), (0, .pointer (some ⟨mb, 0, none⟩)), (1, .agg #[.int .u8 12, .int .u32 ev.pick, .int .u64 ev.draw, .int .u32 ev.addr, .int .u32 ev.node, .int .u32 ev.dst, .int .u32 ev.xfer, .int .u8 ev.ty, .int .u64 ev.arg, .int .u64 ev.badge, .slice xo ev.ws.length cx]), (4, .int .u8 0), (5, .bool false), (7, .pointer (some ⟨(Z.tp x), 0, none⟩)), (53, .int .u8 12), (66, .bool false), (244, .bool false)]) (φ := True) (rest := []) h58 (by kernel_rfl) rfl trivial fun a60 h61 => ?_
  clear h58
  refine nd_done ?_
  refine hK59 _ _ ?_
  clear hK59
  refine c_false h61 rfl ?_
  refine wp_seq_k fun K62 hK62 => ?_
  refine nd_start (l := [0, 1]) rfl ?_
  refine nd_batch tabOk2 tabZ_ok2 [(0, {}), (1, {})] [6, 3, 0, 1, 4, 5, 7, 53, 66, 285] (T' := [(6, .pointer (some ⟨b14, 0, none⟩)), (3, .pointer (some ⟨b2, 0, none⟩)), (0, .pointer (some ⟨mb, 0, none⟩)), (1, .agg #[.int .u8 12, .int .u32 ev.pick, .int .u64 ev.draw, .int .u32 ev.addr, .int .u32 ev.node, .int .u32 ev.dst, .int .u32 ev.xfer, .int .u8 ev.ty, .int .u64 ev.arg, .int .u64 ev.badge, .slice xo ev.ws.length cx]), (4, .int .u8 0), (5, .bool false), (7, .pointer (some ⟨(Z.tp x), 0, none⟩)), (53, .int .u8 12), (66, .bool false), (285, .bool false)]) (φ := True) (rest := []) h61 (by kernel_rfl) rfl trivial fun a63 h64 => ?_
  clear h61
  refine nd_done ?_
  refine hK62 _ _ ?_
  clear hK62
  refine c_false h64 rfl ?_
  refine wp_seq_k fun K65 hK65 => ?_
  refine nd_start (l := [0, 1]) rfl ?_
  refine nd_batch tabOk2 tabZ_ok2 [(0, {}), (1, {})] [6, 3, 0, 1, 4, 5, 7, 53, 66, 388] (T' := [(6, .pointer (some ⟨b14, 0, none⟩)), (3, .pointer (some ⟨b2, 0, none⟩)), (0, .pointer (some ⟨mb, 0, none⟩)), (1, .agg #[.int .u8 12, .int .u32 ev.pick, .int .u64 ev.draw, .int .u32 ev.addr, .int .u32 ev.node, .int .u32 ev.dst, .int .u32 ev.xfer, .int .u8 ev.ty, .int .u64 ev.arg, .int .u64 ev.badge, .slice xo ev.ws.length cx]), (4, .int .u8 0), (5, .bool false), (7, .pointer (some ⟨(Z.tp x), 0, none⟩)), (53, .int .u8 12), (66, .bool false), (388, .bool false)]) (φ := True) (rest := []) h64 (by kernel_rfl) rfl trivial fun a66 h67 => ?_
  clear h64
  refine nd_done ?_
  refine hK65 _ _ ?_
  clear hK65
  refine c_false h67 rfl ?_
  refine wp_seq_k fun K68 hK68 => ?_
  refine wp_seq_k fun K69 hK69 => ?_
  refine nd_start (l := [0, 1]) rfl ?_
  refine nd_batch tabOk2 tabZ_ok2 [(0, {}), (1, {})] [6, 3, 0, 1, 4, 5, 7, 53, 66, 437] (T' := [(6, .pointer (some ⟨b14, 0, none⟩)), (3, .pointer (some ⟨b2, 0, none⟩)), (0, .pointer (some ⟨mb, 0, none⟩)), (1, .agg #[.int .u8 12, .int .u32 ev.pick, .int .u64 ev.draw, .int .u32 ev.addr, .int .u32 ev.node, .int .u32 ev.dst, .int .u32 ev.xfer, .int .u8 ev.ty, .int .u64 ev.arg, .int .u64 ev.badge, .slice xo ev.ws.length cx]), (4, .int .u8 0), (5, .bool false), (7, .pointer (some ⟨(Z.tp x), 0, none⟩)), (53, .int .u8 12), (66, .bool false), (437, .bool true)]) (φ := True) (rest := []) h67 (by kernel_rfl) rfl trivial fun a70 h71 => ?_
  clear h67
  refine nd_done ?_
  refine hK69 _ _ ?_
  clear hK69
  refine c_true h71 rfl ?_
  refine wp_skip ?_
  refine hK68 _ _ ?_
  clear hK68
  refine c_true h71 rfl ?_
  refine wp_seq_k fun K72 hK72 => ?_
  refine nd_start (l := [0, 1, 2, 3, 4, 5, 6, 7, 8]) rfl ?_
  refine nd_batch tabOk2 tabZ_ok2 [(0, {}), (1, {}), (2, {k := 1})] [6, 3, 0, 1, 4, 5, 7, 53, 66, 437, 441, 443] (T' := [(6, .pointer (some ⟨b14, 0, none⟩)), (3, .pointer (some ⟨b2, 0, none⟩)), (0, .pointer (some ⟨mb, 0, none⟩)), (1, .agg #[.int .u8 12, .int .u32 ev.pick, .int .u64 ev.draw, .int .u32 ev.addr, .int .u32 ev.node, .int .u32 ev.dst, .int .u32 ev.xfer, .int .u8 ev.ty, .int .u64 ev.arg, .int .u64 ev.badge, .slice xo ev.ws.length cx]), (4, .int .u8 0), (5, .bool false), (7, .pointer (some ⟨(Z.tp x), 0, none⟩)), (53, .int .u8 12), (66, .bool false), (437, .bool true), (441, .pointer (some ⟨mb, 0, none⟩)), (443, .int .u32 ev.addr)]) (φ := (b2 = b2 ∧ Nat.ble (3 + 1) 11 = true) ∧ True) (rest := [3, 4, 5, 6, 7, 8]) h71 (by kernel_rfl) rfl ⟨⟨rfl, rfl⟩, trivial⟩ fun a73 h74 => ?_
  clear h71
  refine nd_op ?_
  refine op_call h74 rfl rfl rfl (callOk Tryd.func93 (by decide) rfl) (args := [.pointer (some ⟨mb, 0, none⟩), .int .u32 ev.addr]) rfl (cellOf_ok mb Z _ a C x hx hcx hci ev.addr he.addr e1 _ (mh_of h74 hho (k := 0) rfl)) ?_
  rintro _ w75 ⟨rfl, hg77⟩
  refine ⟨_, rfl, ?_⟩
  have h78a := st_mg h74 hg77 (kcons (fun _ => rfl) (kcons (fun hq => by cases hq) (kcons (fun hq => by cases hq) knil)))
  have h78 := h78a.put (d := some 444) (v := .tuple #[.int .i64 s1, .int .u8 0]) (T' := [(444, .tuple #[.int .i64 s1, .int .u8 0]), (6, .pointer (some ⟨b14, 0, none⟩)), (3, .pointer (some ⟨b2, 0, none⟩)), (0, .pointer (some ⟨mb, 0, none⟩)), (1, .agg #[.int .u8 12, .int .u32 ev.pick, .int .u64 ev.draw, .int .u32 ev.addr, .int .u32 ev.node, .int .u32 ev.dst, .int .u32 ev.xfer, .int .u8 ev.ty, .int .u64 ev.arg, .int .u64 ev.badge, .slice xo ev.ws.length cx]), (4, .int .u8 0), (5, .bool false), (7, .pointer (some ⟨(Z.tp x), 0, none⟩)), (53, .int .u8 12), (66, .bool false), (437, .bool true), (441, .pointer (some ⟨mb, 0, none⟩)), (443, .int .u32 ev.addr)]) rfl
  have hhoh78 := hg77.mh.ho
  clear h74 h78a
  refine nd_batch tabOk2 tabZ_ok2 [(4, {}), (5, {}), (6, {}), (7, {}), (8, {})] [6, 3, 0, 1, 4, 5, 7, 53, 66, 437, 31, 32] (T' := [(6, .pointer (some ⟨b14, 0, none⟩)), (3, .pointer (some ⟨b2, 0, none⟩)), (0, .pointer (some ⟨mb, 0, none⟩)), (1, .agg #[.int .u8 12, .int .u32 ev.pick, .int .u64 ev.draw, .int .u32 ev.addr, .int .u32 ev.node, .int .u32 ev.dst, .int .u32 ev.xfer, .int .u8 ev.ty, .int .u64 ev.arg, .int .u64 ev.badge, .slice xo ev.ws.length cx]), (4, .int .u8 0), (5, .bool false), (7, .pointer (some ⟨(Z.tp x), 0, none⟩)), (53, .int .u8 12), (66, .bool false), (437, .bool true), (31, .int .i64 s1), (32, .int .u8 0)]) (φ := True) (rest := []) h78 (by kernel_rfl) rfl trivial fun a79 h80 => ?_
  clear h78
  refine nd_done ?_
  refine hK72 _ _ ?_
  clear hK72
  refine wp_seq_k fun K81 hK81 => ?_
  refine wp_seq_k fun K82 hK82 => ?_
  refine nd_start (l := [0, 1]) rfl ?_
  refine nd_batch tabOk2 tabZ_ok2 [(0, {}), (1, {})] [6, 3, 0, 1, 4, 5, 7, 53, 66, 437, 31, 32, 448] (T' := [(6, .pointer (some ⟨b14, 0, none⟩)), (3, .pointer (some ⟨b2, 0, none⟩)), (0, .pointer (some ⟨mb, 0, none⟩)), (1, .agg #[.int .u8 12, .int .u32 ev.pick, .int .u64 ev.draw, .int .u32 ev.addr, .int .u32 ev.node, .int .u32 ev.dst, .int .u32 ev.xfer, .int .u8 ev.ty, .int .u64 ev.arg, .int .u64 ev.badge, .slice xo ev.ws.length cx]), (4, .int .u8 0), (5, .bool false), (7, .pointer (some ⟨(Z.tp x), 0, none⟩)), (53, .int .u8 12), (66, .bool false), (437, .bool true), (31, .int .i64 s1), (32, .int .u8 0), (448, .bool false)]) (φ := True) (rest := []) h80 (by kernel_rfl) rfl trivial fun a83 h84 => ?_
  clear h80
  refine nd_done ?_
  refine hK82 _ _ ?_
  clear hK82
  refine c_false h84 rfl ?_
  refine wp_skip ?_
  refine hK81 _ _ ?_
  clear hK81
  refine wp_seq_k fun K85 hK85 => ?_
  refine wp_seq_k fun K86 hK86 => ?_
  refine nd_start (l := [0, 1, 2, 3, 4, 5, 6, 7]) rfl ?_
  refine nd_batch tabOk2 tabZ_ok2 [(0, {}), (1, {}), (2, {})] [6, 3, 0, 1, 4, 5, 7, 53, 66, 437, 31, 32, 452] (T' := [(6, .pointer (some ⟨b14, 0, none⟩)), (3, .pointer (some ⟨b2, 0, none⟩)), (0, .pointer (some ⟨mb, 0, none⟩)), (1, .agg #[.int .u8 12, .int .u32 ev.pick, .int .u64 ev.draw, .int .u32 ev.addr, .int .u32 ev.node, .int .u32 ev.dst, .int .u32 ev.xfer, .int .u8 ev.ty, .int .u64 ev.arg, .int .u64 ev.badge, .slice xo ev.ws.length cx]), (4, .int .u8 0), (5, .bool false), (7, .pointer (some ⟨(Z.tp x), 0, none⟩)), (53, .int .u8 12), (66, .bool false), (437, .bool true), (31, .int .i64 s1), (32, .int .u8 0), (452, .pointer (some ⟨mb, 1, none⟩))]) (φ := True) (rest := [3, 4, 5, 6, 7]) h84 (by kernel_rfl) rfl trivial fun a87 h88 => ?_
  clear h84
  refine nd_op ?_
  refine op_read (b := mb) (v := .pointer (some ⟨Z.mc, 0, none⟩)) h88 rfl rfl (rd_m h88 (k := 1) (v := .pointer (some ⟨Z.mc, 0, none⟩)) rfl rfl rfl rfl (md_p ⟨rfl, trivial⟩)) ?_
  have h89 := h88.put (d := some 453) (v := .pointer (some ⟨Z.mc, 0, none⟩)) (T' := [(453, .pointer (some ⟨Z.mc, 0, none⟩)), (6, .pointer (some ⟨b14, 0, none⟩)), (3, .pointer (some ⟨b2, 0, none⟩)), (0, .pointer (some ⟨mb, 0, none⟩)), (1, .agg #[.int .u8 12, .int .u32 ev.pick, .int .u64 ev.draw, .int .u32 ev.addr, .int .u32 ev.node, .int .u32 ev.dst, .int .u32 ev.xfer, .int .u8 ev.ty, .int .u64 ev.arg, .int .u64 ev.badge, .slice xo ev.ws.length cx]), (4, .int .u8 0), (5, .bool false), (7, .pointer (some ⟨(Z.tp x), 0, none⟩)), (53, .int .u8 12), (66, .bool false), (437, .bool true), (31, .int .i64 s1), (32, .int .u8 0), (452, .pointer (some ⟨mb, 1, none⟩))]) rfl
  clear h88
  refine nd_batch tabOk2 tabZ_ok2 [(4, {})] [453, 6, 3, 0, 1, 4, 5, 7, 53, 66, 437, 31, 32, 454] (T' := [(453, .pointer (some ⟨Z.mc, 0, none⟩)), (6, .pointer (some ⟨b14, 0, none⟩)), (3, .pointer (some ⟨b2, 0, none⟩)), (0, .pointer (some ⟨mb, 0, none⟩)), (1, .agg #[.int .u8 12, .int .u32 ev.pick, .int .u64 ev.draw, .int .u32 ev.addr, .int .u32 ev.node, .int .u32 ev.dst, .int .u32 ev.xfer, .int .u8 ev.ty, .int .u64 ev.arg, .int .u64 ev.badge, .slice xo ev.ws.length cx]), (4, .int .u8 0), (5, .bool false), (7, .pointer (some ⟨(Z.tp x), 0, none⟩)), (53, .int .u8 12), (66, .bool false), (437, .bool true), (31, .int .i64 s1), (32, .int .u8 0), (454, .int .i64 s1)]) (φ := True) (rest := [5, 6, 7]) h89 (by kernel_rfl) rfl trivial fun a90 h91 => ?_
  clear h89
  refine nd_op ?_
  obtain ⟨i1, j1, hi1, hj1, hp1, hs1⟩ := look_fact hI.ci hci.1 he.addr.1 e1 rfl
  refine op_call h91 rfl rfl rfl (callOk Tryd.func62 (by decide) rfl) (args := [.pointer (some ⟨Z.mc, 0, none⟩), .int .i64 s1]) rfl (atE Z.mo Z.mc Z.nd C hi1 hj1 hp1 hs1 _ h91.inv.1.cp) ?_
  rintro _ w92 ⟨rfl, hf94⟩
  refine ⟨_, rfl, ?_⟩
  have h93 := (h91.grow hf94).put (d := some 455) (v := .agg #[.int .u8 ((C.cel s1.toNat).cap.ty), .int .u16 ((C.cel s1.toNat).cap.obj.idx), .int .u32 ((C.cel s1.toNat).cap.obj.gen), .int .u8 ((C.cel s1.toNat).cap.rights), .int .u64 ((C.cel s1.toNat).cap.badge)]) (T' := [(455, .agg #[.int .u8 ((C.cel s1.toNat).cap.ty), .int .u16 ((C.cel s1.toNat).cap.obj.idx), .int .u32 ((C.cel s1.toNat).cap.obj.gen), .int .u8 ((C.cel s1.toNat).cap.rights), .int .u64 ((C.cel s1.toNat).cap.badge)]), (453, .pointer (some ⟨Z.mc, 0, none⟩)), (6, .pointer (some ⟨b14, 0, none⟩)), (3, .pointer (some ⟨b2, 0, none⟩)), (0, .pointer (some ⟨mb, 0, none⟩)), (1, .agg #[.int .u8 12, .int .u32 ev.pick, .int .u64 ev.draw, .int .u32 ev.addr, .int .u32 ev.node, .int .u32 ev.dst, .int .u32 ev.xfer, .int .u8 ev.ty, .int .u64 ev.arg, .int .u64 ev.badge, .slice xo ev.ws.length cx]), (4, .int .u8 0), (5, .bool false), (7, .pointer (some ⟨(Z.tp x), 0, none⟩)), (53, .int .u8 12), (66, .bool false), (437, .bool true), (31, .int .i64 s1), (32, .int .u8 0), (454, .int .i64 s1)]) rfl
  clear h91
  refine nd_batch tabOk2 tabZ_ok2 [(6, {}), (7, {})] [6, 3, 0, 1, 4, 5, 7, 53, 66, 437, 31, 32, 457] (T' := [(6, .pointer (some ⟨b14, 0, none⟩)), (3, .pointer (some ⟨b2, 0, none⟩)), (0, .pointer (some ⟨mb, 0, none⟩)), (1, .agg #[.int .u8 12, .int .u32 ev.pick, .int .u64 ev.draw, .int .u32 ev.addr, .int .u32 ev.node, .int .u32 ev.dst, .int .u32 ev.xfer, .int .u8 ev.ty, .int .u64 ev.arg, .int .u64 ev.badge, .slice xo ev.ws.length cx]), (4, .int .u8 0), (5, .bool false), (7, .pointer (some ⟨(Z.tp x), 0, none⟩)), (53, .int .u8 12), (66, .bool false), (437, .bool true), (31, .int .i64 s1), (32, .int .u8 0), (457, .bool ((C.cel s1.toNat).cap.ty == 0))]) (φ := True) (rest := []) h93 (by kernel_rfl) rfl trivial fun a95 h96 => ?_
  clear h93
  refine nd_done ?_
  refine hK86 _ _ ?_
  clear hK86
  refine c_split h96 (b := ((C.cel s1.toNat).cap.ty == 0)) rfl (fun hc97 => ?_) (fun hc97 => ?_)
  ·
    have hc97f : (C.cel s1.toNat).cap.ty = 0 := by simpa using hc97
    exact absurd (hz2) (by first | exact hc97f | (intro hz; exact hc97f hz) | omega | simp_all)
  ·
    have hc97f : (C.cel s1.toNat).cap.ty ≠ 0 := by simpa using hc97
    refine wp_skip ?_
    refine hK85 _ _ ?_
    clear hK85
    refine wp_seq_k fun K98 hK98 => ?_
    refine nd_start (l := [0]) rfl ?_
    refine nd_batch tabOk2 tabZ_ok2 [(0, {})] [6, 3, 0, 1, 4, 5, 7, 53, 66, 437, 31, 32, 33] (T' := [(6, .pointer (some ⟨b14, 0, none⟩)), (3, .pointer (some ⟨b2, 0, none⟩)), (0, .pointer (some ⟨mb, 0, none⟩)), (1, .agg #[.int .u8 12, .int .u32 ev.pick, .int .u64 ev.draw, .int .u32 ev.addr, .int .u32 ev.node, .int .u32 ev.dst, .int .u32 ev.xfer, .int .u8 ev.ty, .int .u64 ev.arg, .int .u64 ev.badge, .slice xo ev.ws.length cx]), (4, .int .u8 0), (5, .bool false), (7, .pointer (some ⟨(Z.tp x), 0, none⟩)), (53, .int .u8 12), (66, .bool false), (437, .bool true), (31, .int .i64 s1), (32, .int .u8 0), (33, .slice none 0 0)]) (φ := True) (rest := []) h96 (by kernel_rfl) rfl trivial fun a99 h100 => ?_
    clear h96
    refine nd_done ?_
    refine hK98 _ _ ?_
    clear hK98
    refine wp_seq_k fun K101 hK101 => ?_
    refine wp_seq_k fun K102 hK102 => ?_
    refine nd_start (l := [0, 1, 2]) rfl ?_
    refine nd_batch tabOk2 tabZ_ok2 [(0, {}), (1, {k := 1}), (2, {})] [6, 3, 0, 1, 4, 5, 7, 53, 66, 437, 31, 32, 33, 460] (T' := [(6, .pointer (some ⟨b14, 0, none⟩)), (3, .pointer (some ⟨b2, 0, none⟩)), (0, .pointer (some ⟨mb, 0, none⟩)), (1, .agg #[.int .u8 12, .int .u32 ev.pick, .int .u64 ev.draw, .int .u32 ev.addr, .int .u32 ev.node, .int .u32 ev.dst, .int .u32 ev.xfer, .int .u8 ev.ty, .int .u64 ev.arg, .int .u64 ev.badge, .slice xo ev.ws.length cx]), (4, .int .u8 0), (5, .bool false), (7, .pointer (some ⟨(Z.tp x), 0, none⟩)), (53, .int .u8 12), (66, .bool false), (437, .bool true), (31, .int .i64 s1), (32, .int .u8 0), (33, .slice none 0 0), (460, .bool true)]) (φ := (b2 = b2 ∧ Nat.ble (0 + 1) 11 = true) ∧ True) (rest := []) h100 (by kernel_rfl) rfl ⟨⟨rfl, rfl⟩, trivial⟩ fun a103 h104 => ?_
    clear h100
    refine nd_done ?_
    refine hK102 _ _ ?_
    clear hK102
    refine c_true h104 rfl ?_
    refine nd_start (l := [0, 1, 2, 3, 4, 5, 6]) rfl ?_
    refine nd_batch tabOk2 tabZ_ok2 [(0, {}), (1, {}), (2, {})] [6, 3, 0, 1, 4, 5, 7, 53, 66, 437, 31, 32, 33, 463] (T' := [(6, .pointer (some ⟨b14, 0, none⟩)), (3, .pointer (some ⟨b2, 0, none⟩)), (0, .pointer (some ⟨mb, 0, none⟩)), (1, .agg #[.int .u8 12, .int .u32 ev.pick, .int .u64 ev.draw, .int .u32 ev.addr, .int .u32 ev.node, .int .u32 ev.dst, .int .u32 ev.xfer, .int .u8 ev.ty, .int .u64 ev.arg, .int .u64 ev.badge, .slice xo ev.ws.length cx]), (4, .int .u8 0), (5, .bool false), (7, .pointer (some ⟨(Z.tp x), 0, none⟩)), (53, .int .u8 12), (66, .bool false), (437, .bool true), (31, .int .i64 s1), (32, .int .u8 0), (33, .slice none 0 0), (463, .pointer (some ⟨mb, 1, none⟩))]) (φ := True) (rest := [3, 4, 5, 6]) h104 (by kernel_rfl) rfl trivial fun a105 h106 => ?_
    clear h104
    refine nd_op ?_
    refine op_read (b := mb) (v := .pointer (some ⟨Z.mc, 0, none⟩)) h106 rfl rfl (rd_m h106 (k := 1) (v := .pointer (some ⟨Z.mc, 0, none⟩)) rfl rfl rfl rfl (md_p ⟨rfl, trivial⟩)) ?_
    have h107 := h106.put (d := some 464) (v := .pointer (some ⟨Z.mc, 0, none⟩)) (T' := [(464, .pointer (some ⟨Z.mc, 0, none⟩)), (6, .pointer (some ⟨b14, 0, none⟩)), (3, .pointer (some ⟨b2, 0, none⟩)), (0, .pointer (some ⟨mb, 0, none⟩)), (1, .agg #[.int .u8 12, .int .u32 ev.pick, .int .u64 ev.draw, .int .u32 ev.addr, .int .u32 ev.node, .int .u32 ev.dst, .int .u32 ev.xfer, .int .u8 ev.ty, .int .u64 ev.arg, .int .u64 ev.badge, .slice xo ev.ws.length cx]), (4, .int .u8 0), (5, .bool false), (7, .pointer (some ⟨(Z.tp x), 0, none⟩)), (53, .int .u8 12), (66, .bool false), (437, .bool true), (31, .int .i64 s1), (32, .int .u8 0), (33, .slice none 0 0), (463, .pointer (some ⟨mb, 1, none⟩))]) rfl
    clear h106
    refine nd_batch tabOk2 tabZ_ok2 [(4, {})] [464, 6, 3, 0, 1, 4, 5, 7, 53, 66, 437, 31, 32, 33, 465] (T' := [(464, .pointer (some ⟨Z.mc, 0, none⟩)), (6, .pointer (some ⟨b14, 0, none⟩)), (3, .pointer (some ⟨b2, 0, none⟩)), (0, .pointer (some ⟨mb, 0, none⟩)), (1, .agg #[.int .u8 12, .int .u32 ev.pick, .int .u64 ev.draw, .int .u32 ev.addr, .int .u32 ev.node, .int .u32 ev.dst, .int .u32 ev.xfer, .int .u8 ev.ty, .int .u64 ev.arg, .int .u64 ev.badge, .slice xo ev.ws.length cx]), (4, .int .u8 0), (5, .bool false), (7, .pointer (some ⟨(Z.tp x), 0, none⟩)), (53, .int .u8 12), (66, .bool false), (437, .bool true), (31, .int .i64 s1), (32, .int .u8 0), (33, .slice none 0 0), (465, .int .i64 s1)]) (φ := True) (rest := [5, 6]) h107 (by kernel_rfl) rfl trivial fun a108 h109 => ?_
    clear h107
    refine nd_op ?_
    refine op_call h109 rfl rfl rfl (callOk Tryd.func95 (by decide) rfl) (args := [.pointer (some ⟨Z.mc, 0, none⟩), .int .i64 s1]) rfl (by have h9 := delete_ok Z.mo Z.mc 4097 Z.nd C s1.toNat hI.ci (by have := cnt_le (C := C); omega) (by rw [hs1]; omega) (by rw [hs1, Int.toNat_natCast, show (i1 * 16 + j1) / 16 = i1 by omega]; exact hp1) _ h109.inv.1.cp; rw [show ((s1.toNat : Nat) : Int) = s1 by omega, hdr] at h9; exact h9) ?_
    rintro _ w113 ⟨o110, c111, F112, rfl, hrow114, hF115, hsub116, hf117⟩
    refine ⟨_, rfl, ?_⟩
    obtain ⟨rb, rcs, hro, hrb, hrF, hall⟩ := rowC_all hrow114.row hdl
    subst hro hrF
    have h118a : St _ _ [(3, ⟨[.int .u16 0, .int .u32 0], ty3, true⟩), (b2, ⟨[.int .u8 12, .int .u32 ev.pick, .int .u64 ev.draw, .int .u32 ev.addr, .int .u32 ev.node, .int .u32 ev.dst, .int .u32 ev.xfer, .int .u8 ev.ty, .int .u64 ev.arg, .int .u64 ev.badge, .slice xo ev.ws.length cx], 35, false⟩), (b14, ⟨[.int .u16 ((Z.ky x).idx), .int .u32 ((Z.ky x).gen)], 39, false⟩), (rb, ⟨rcs, 49, false⟩)] _ _ := st_capR h109 hrow114.cap hf117 hsub116 (kcons (fun _ => rfl) (kcons (fun hq => by cases hq) (kcons (fun hq => by cases hq) knil))) hrb (hF115 rb (by simp))
    have h118 := h118a.put (d := some 466) (v := .slice (some ⟨rb, 0, none⟩) dead.length c111) (T' := [(466, .slice (some ⟨rb, 0, none⟩) dead.length c111), (464, .pointer (some ⟨Z.mc, 0, none⟩)), (6, .pointer (some ⟨b14, 0, none⟩)), (3, .pointer (some ⟨b2, 0, none⟩)), (0, .pointer (some ⟨mb, 0, none⟩)), (1, .agg #[.int .u8 12, .int .u32 ev.pick, .int .u64 ev.draw, .int .u32 ev.addr, .int .u32 ev.node, .int .u32 ev.dst, .int .u32 ev.xfer, .int .u8 ev.ty, .int .u64 ev.arg, .int .u64 ev.badge, .slice xo ev.ws.length cx]), (4, .int .u8 0), (5, .bool false), (7, .pointer (some ⟨(Z.tp x), 0, none⟩)), (53, .int .u8 12), (66, .bool false), (437, .bool true), (31, .int .i64 s1), (32, .int .u8 0), (33, .slice none 0 0), (465, .int .i64 s1)]) rfl
    clear h109 h118a
    refine nd_batch tabOk2 tabZ_ok2 [(6, {})] [6, 3, 0, 1, 4, 5, 7, 53, 66, 437, 31, 32, 33] (T' := [(6, .pointer (some ⟨b14, 0, none⟩)), (3, .pointer (some ⟨b2, 0, none⟩)), (0, .pointer (some ⟨mb, 0, none⟩)), (1, .agg #[.int .u8 12, .int .u32 ev.pick, .int .u64 ev.draw, .int .u32 ev.addr, .int .u32 ev.node, .int .u32 ev.dst, .int .u32 ev.xfer, .int .u8 ev.ty, .int .u64 ev.arg, .int .u64 ev.badge, .slice xo ev.ws.length cx]), (4, .int .u8 0), (5, .bool false), (7, .pointer (some ⟨(Z.tp x), 0, none⟩)), (53, .int .u8 12), (66, .bool false), (437, .bool true), (31, .int .i64 s1), (32, .int .u8 0), (33, .slice (some ⟨rb, 0, none⟩) dead.length c111)]) (φ := True) (rest := []) h118 (by kernel_rfl) rfl trivial fun a119 h120 => ?_
    clear h118
    refine nd_done ?_
    refine hK101 _ _ ?_
    clear hK101
    refine wp_seq_k fun K121 hK121 => ?_
    refine wp_seq_k fun K122 hK122 => ?_
    refine nd_start (l := [0, 1, 2]) rfl ?_
    refine nd_batch tabOk2 tabZ_ok2 [(0, {}), (1, {}), (2, {})] [6, 3, 0, 1, 4, 5, 7, 53, 66, 437, 31, 32, 33, 473, 474, 475] (T' := [(6, .pointer (some ⟨b14, 0, none⟩)), (3, .pointer (some ⟨b2, 0, none⟩)), (0, .pointer (some ⟨mb, 0, none⟩)), (1, .agg #[.int .u8 12, .int .u32 ev.pick, .int .u64 ev.draw, .int .u32 ev.addr, .int .u32 ev.node, .int .u32 ev.dst, .int .u32 ev.xfer, .int .u8 ev.ty, .int .u64 ev.arg, .int .u64 ev.badge, .slice xo ev.ws.length cx]), (4, .int .u8 0), (5, .bool false), (7, .pointer (some ⟨(Z.tp x), 0, none⟩)), (53, .int .u8 12), (66, .bool false), (437, .bool true), (31, .int .i64 s1), (32, .int .u8 0), (33, .slice (some ⟨rb, 0, none⟩) dead.length c111), (473, .slice (some ⟨rb, 0, none⟩) dead.length c111), (474, .int .i64 ((dead.length : Nat) : Int)), (475, .int .i64 0)]) (φ := True) (rest := []) h120 (by kernel_rfl) rfl trivial fun a123 h124 => ?_
    clear h120
    refine nd_done ?_
    refine hK122 _ _ ?_
    clear hK122
    refine wp_block ?_
    have hdl9 : dead.length < 1000000 := hdlen
    refine wp_loop_ghost (fun g ga gw => ∃ (Z1 : MZ) (b1 : AK) (R1 : MR) (m : Nat), (g = dead.length - m) ∧ (m ≤ dead.length) ∧ ((Z1, b1) = (dead.take m).foldl (forgetM C1.ent) (Z, a)) ∧ (R1.ho = none) ∧ (MP Z1 b1) ∧ St (MCx 628 (mdF mb Z R C) w mb Z1 R1 b1 C1) [(0, .pointer (some ⟨mb, 0, none⟩)), (3, .pointer (some ⟨b2, 0, none⟩)), (473, .slice (some ⟨rb, 0, none⟩) dead.length c111), (474, .int .i64 ((dead.length : Nat) : Int)), (475, .int .i64 ((m : Nat) : Int))] [(3, ⟨[.int .u16 0, .int .u32 0], ty3, true⟩), (b2, ⟨[.int .u8 12, .int .u32 ev.pick, .int .u64 ev.draw, .int .u32 ev.addr, .int .u32 ev.node, .int .u32 ev.dst, .int .u32 ev.xfer, .int .u8 ev.ty, .int .u64 ev.arg, .int .u64 ev.badge, .slice xo ev.ws.length cx], 35, false⟩), (b14, ⟨[.int .u16 ((Z.ky x).idx), .int .u32 ((Z.ky x).gen)], 39, false⟩), (rb, ⟨rcs, 49, false⟩)] ga gw) dead.length ⟨Z, a, R, 0, by omega, by omega, rfl, hhoh78, hP, (h124.slotsMono (restr_spec (keep := [0, 3, 473, 474, 475]) rfl))⟩ ?_
    clear h124
    rintro g a125 w126 ⟨Z1, b1, R1, m, hi128, hi129, hi130, hi131, hi132, h127⟩
    have hig := hi128
    have hm8 := hi129
    have hb1 := hi130
    have hho1 := hi131
    have hP1 := hi132
    refine wp_seq_k fun K133 hK133 => ?_
    refine nd_start (l := [0]) rfl ?_
    refine nd_batch tabOk2 tabZ_ok2 [(0, {})] [0, 3, 473, 474, 475, 476] (T' := [(0, .pointer (some ⟨mb, 0, none⟩)), (3, .pointer (some ⟨b2, 0, none⟩)), (473, .slice (some ⟨rb, 0, none⟩) dead.length c111), (474, .int .i64 ((dead.length : Nat) : Int)), (475, .int .i64 ((m : Nat) : Int)), (476, .bool (decide (((m : Nat) : Int) < ((dead.length : Nat) : Int))))]) (φ := True) (rest := []) h127 (by kernel_rfl) rfl trivial fun a134 h135 => ?_
    clear h127
    refine nd_done ?_
    refine hK133 _ _ ?_
    clear hK133
    refine wp_seq_k fun K136 hK136 => ?_
    refine c_split h135 (b := decide (((m : Nat) : Int) < ((dead.length : Nat) : Int))) rfl (fun hc137 => ?_) (fun hc137 => ?_)
    ·
      have hc137f : ((m : Nat) : Int) < ((dead.length : Nat) : Int) := by simpa using hc137
      obtain ⟨c, hcm⟩ : ∃ c, dead[m]? = some c := ⟨dead[m]'(by omega), by simp⟩
      have hfo : FOk Z1 c := by have h9 := hfa.at hcm; rw [← hb1] at h9; exact h9
      refine wp_skip ?_
      refine hK136 _ _ ?_
      clear hK136
      refine wp_seq_k fun K138 hK138 => ?_
      refine wp_block ?_
      refine wp_seq_k fun K139 hK139 => ?_
      refine nd_start (l := [0, 1, 2, 3]) rfl ?_
      refine nd_batch tabOk2 tabZ_ok2 [(0, {}), (1, {k := 3, m := 1, vs := [.int .u8 c.ty, .int .u16 c.obj.idx, .int .u32 c.obj.gen, .int .u8 c.rights, .int .u64 c.badge]})] [0, 3, 473, 474, 475, 478] (T' := [(0, .pointer (some ⟨mb, 0, none⟩)), (3, .pointer (some ⟨b2, 0, none⟩)), (473, .slice (some ⟨rb, 0, none⟩) dead.length c111), (474, .int .i64 ((dead.length : Nat) : Int)), (475, .int .i64 ((m : Nat) : Int)), (478, .agg #[.int .u8 c.ty, .int .u16 c.obj.idx, .int .u32 c.obj.gen, .int .u8 c.rights, .int .u64 c.badge])]) (φ := (0 ≤ ((m : Nat) : Int) ∧ ((m : Nat) : Int) < ((dead.length : Nat) : Int)) ∧ (rb = rb ∧ cellsAre rcs (0 + (m * 5)) [.int .u8 c.ty, .int .u16 c.obj.idx, .int .u32 c.obj.gen, .int .u8 c.rights, .int .u64 c.badge]) ∧ True) (rest := [2, 3]) h135 (by kernel_rfl) rfl ⟨⟨by omega, by omega⟩, ⟨rfl, (by rw [Nat.zero_add]; exact hall m _ hcm)⟩, trivial⟩ fun a140 h141 => ?_
      clear h135
      refine nd_op ?_
      refine op_new tabOk2 (cells := [.int .u8 0, .int .u16 0, .int .u32 0, .int .u8 0, .int .u64 0]) (ty := 49) (ln := none) (L1 := fun b142 => [(3, ⟨[.int .u16 0, .int .u32 0], ty3, true⟩), (b2, ⟨[.int .u8 12, .int .u32 ev.pick, .int .u64 ev.draw, .int .u32 ev.addr, .int .u32 ev.node, .int .u32 ev.dst, .int .u32 ev.xfer, .int .u8 ev.ty, .int .u64 ev.arg, .int .u64 ev.badge, .slice xo ev.ws.length cx], 35, false⟩), (b14, ⟨[.int .u16 ((Z.ky x).idx), .int .u32 ((Z.ky x).gen)], 39, false⟩), (rb, ⟨rcs, 49, false⟩), (b142, ⟨[.int .u8 0, .int .u16 0, .int .u32 0, .int .u8 0, .int .u64 0], 49, false⟩)]) h141 rfl rfl rfl rfl (by kernel_rfl) (fun _ => rfl) fun b142 w143 a144 h145 hf146 hn147 => ?_
      clear h141
      refine nd_op ?_
      refine op_store tabOk2 {k := 4} (L' := [(3, ⟨[.int .u16 0, .int .u32 0], ty3, true⟩), (b2, ⟨[.int .u8 12, .int .u32 ev.pick, .int .u64 ev.draw, .int .u32 ev.addr, .int .u32 ev.node, .int .u32 ev.dst, .int .u32 ev.xfer, .int .u8 ev.ty, .int .u64 ev.arg, .int .u64 ev.badge, .slice xo ev.ws.length cx], 35, false⟩), (b14, ⟨[.int .u16 ((Z.ky x).idx), .int .u32 ((Z.ky x).gen)], 39, false⟩), (rb, ⟨rcs, 49, false⟩), (b142, ⟨[.int .u8 c.ty, .int .u16 c.obj.idx, .int .u32 c.obj.gen, .int .u8 c.rights, .int .u64 c.badge], 49, false⟩)]) (φ := b142 = b142 ∧ Nat.ble (0 + 5) 5 = true) h145 rfl rfl rfl (by kernel_rfl) ⟨rfl, rfl⟩ fun w148 h149 => ?_
      clear h145
      refine nd_done ?_
      refine hK139 _ _ ?_
      clear hK139
      refine nd_start (l := [0, 1, 2]) rfl ?_
      refine nd_batch tabOk2 tabZ_ok2 [(0, {}), (1, {k := 4})] [35, 0, 3, 473, 474, 475, 479, 480] (T' := [(35, .pointer (some ⟨b142, 0, none⟩)), (0, .pointer (some ⟨mb, 0, none⟩)), (3, .pointer (some ⟨b2, 0, none⟩)), (473, .slice (some ⟨rb, 0, none⟩) dead.length c111), (474, .int .i64 ((dead.length : Nat) : Int)), (475, .int .i64 ((m : Nat) : Int)), (479, .pointer (some ⟨mb, 0, none⟩)), (480, .agg #[.int .u8 c.ty, .int .u16 c.obj.idx, .int .u32 c.obj.gen, .int .u8 c.rights, .int .u64 c.badge])]) (φ := (b142 = b142 ∧ Nat.ble (0 + 5) 5 = true) ∧ True) (rest := [2]) h149 (by kernel_rfl) rfl ⟨⟨rfl, rfl⟩, trivial⟩ fun a150 h151 => ?_
      clear h149
      refine nd_op ?_
      have hk9 := h151.inv.1.k
      refine op_call h151 rfl rfl rfl (callOk Tryd.func97 (by decide) rfl) (args := [.pointer (some ⟨mb, 0, none⟩), .agg #[.int .u8 c.ty, .int .u16 c.obj.idx, .int .u32 c.obj.gen, .int .u8 c.rights, .int .u64 c.badge]]) rfl (forget_ok mb Z1 _ b1 C1 c hfo hP1 _ (mh_of h151 hho1 (k := 0) rfl)) ?_
      rintro _ w152 ⟨rfl, R153, hg154⟩
      refine ⟨_, rfl, ?_⟩
      have h155a := st_mg h151 hg154 (kcons (fun _ => rfl) (kcons (fun hq => by cases hq) (kcons (fun hq => by cases hq) (kcons (fun hq => by cases hq) (kcons (fun hq => by cases hq) knil)))))
      have h155 := h155a.put (d := some 481) (v := .tuple #[]) (T' := [(481, .tuple #[]), (35, .pointer (some ⟨b142, 0, none⟩)), (0, .pointer (some ⟨mb, 0, none⟩)), (3, .pointer (some ⟨b2, 0, none⟩)), (473, .slice (some ⟨rb, 0, none⟩) dead.length c111), (474, .int .i64 ((dead.length : Nat) : Int)), (475, .int .i64 ((m : Nat) : Int)), (479, .pointer (some ⟨mb, 0, none⟩)), (480, .agg #[.int .u8 c.ty, .int .u16 c.obj.idx, .int .u32 c.obj.gen, .int .u8 c.rights, .int .u64 c.badge])]) rfl
      have hhoh155 := hg154.mh.ho
      clear h151 h155a
      refine nd_done ?_
      refine hK138 _ _ ?_
      clear hK138
      refine nd_start (l := [0, 1]) rfl ?_
      refine nd_batch tabOk2 tabZ_ok2 [(0, {}), (1, {})] [35, 0, 3, 473, 474, 475] (T' := [(35, .pointer (some ⟨b142, 0, none⟩)), (0, .pointer (some ⟨mb, 0, none⟩)), (3, .pointer (some ⟨b2, 0, none⟩)), (473, .slice (some ⟨rb, 0, none⟩) dead.length c111), (474, .int .i64 ((dead.length : Nat) : Int)), (475, .int .i64 (((m : Nat) : Int) + 1))]) (φ := inR .i64 (((m : Nat) : Int) + 1) ∧ True) (rest := []) h155 (by kernel_rfl) rfl ⟨⟨by omega, by omega⟩, trivial⟩ fun a156 h157 => ?_
      clear h155
      refine nd_done ?_
      have h158 := h157.memMono (L' := [(3, ⟨[.int .u16 0, .int .u32 0], ty3, true⟩), (b2, ⟨[.int .u8 12, .int .u32 ev.pick, .int .u64 ev.draw, .int .u32 ev.addr, .int .u32 ev.node, .int .u32 ev.dst, .int .u32 ev.xfer, .int .u8 ev.ty, .int .u64 ev.arg, .int .u64 ev.badge, .slice xo ev.ws.length cx], 35, false⟩), (b14, ⟨[.int .u16 ((Z.ky x).idx), .int .u32 ((Z.ky x).gen)], 39, false⟩), (rb, ⟨rcs, 49, false⟩)]) (List.Sublist.cons_cons _ (List.Sublist.cons_cons _ (List.Sublist.cons_cons _ (List.Sublist.cons_cons _ (List.Sublist.cons _ List.Sublist.slnil)))))
      clear h157
      exact ⟨(g - 1), by omega, (forgetM C1.ent (Z1, b1) c).1, (forgetM C1.ent (Z1, b1) c).2, R153, (m + 1), by omega, by omega, (by rw [List.take_add_one, hcm, Option.toList, List.foldl_append, ← hb1]; rfl), hhoh155, (forget_MP hP1 hk9 hfo), (h158.slotsMono (restr_spec (keep := [0, 3, 473, 474, 475]) rfl))⟩
    ·
      have hc137f : ¬ ((m : Nat) : Int) < ((dead.length : Nat) : Int) := by simpa using hc137
      have hm9 : dead.length ≤ m := by omega
      rw [List.take_of_length_le hm9] at hb1
      refine wp_exit ?_
      refine hK121 _ _ ?_
      clear hK121
      refine wp_seq_k fun K159 hK159 => ?_
      refine nd_start (l := [0, 1]) rfl ?_
      refine nd_batch tabOk2 tabZ_ok2 [(0, {}), (1, {})] [0, 3, 473, 474, 475, 4, 5] (T' := [(0, .pointer (some ⟨mb, 0, none⟩)), (3, .pointer (some ⟨b2, 0, none⟩)), (473, .slice (some ⟨rb, 0, none⟩) dead.length c111), (474, .int .i64 ((dead.length : Nat) : Int)), (475, .int .i64 ((m : Nat) : Int)), (4, .int .u8 0), (5, .bool false)]) (φ := True) (rest := []) h135 (by kernel_rfl) rfl trivial fun a160 h161 => ?_
      clear h135
      refine nd_done ?_
      refine hK159 _ _ ?_
      clear hK159
      refine wp_ret ?_
      try simp only [Exit.then, Exit.inBlock]
      try rw [if_pos trivial]
      exact s_ret tabOk2 tabZ_ok2 h161 [(.tmp 4, {}), (.tmp 5, {})] (vs := [.int .u8 0, .bool false]) (φ := True) rfl (by kernel_rfl) trivial ⟨rfl, R1, (by rw [← hb1]; exact mg_end hH h161 hho1 rfl)⟩

theorem call13a (mb : Nat) (Z : MZ) (R : MR) (a : AK) (C : CP) (hI : MI Z a C) (x : Nat) (hx : x ∈ sl Z.tl) (hcu : a.cur = (x : Int)) (ev : Ev) (he : EvOk ev) (xo : Option Addr) (cx : Nat) (s1 k1 : Int) (e1 : lookP C.ent (a.th x).cs ev.addr = (s1, k1)) (hk0 : k1 ≠ 0) (w : World) (hH : MH mb Z R a C w) (hws : WordsAt (mdF mb Z R C) w xo ev.ws) :
    Calls Tryd.prog 55 #[.pointer (some ⟨mb, 0, none⟩), .agg #[.int .u8 13, .int .u32 ev.pick, .int .u64 ev.draw, .int .u32 ev.addr, .int .u32 ev.node, .int .u32 ev.dst, .int .u32 ev.xfer, .int .u8 ev.ty, .int .u64 ev.arg, .int .u64 ev.badge, .slice xo ev.ws.length cx]] w fun e w' => e = .returned (.tuple #[.int .u8 k1, .bool false]) ∧ ∃ R', MG mb Z R C w Z R' a C w' := by
  have hP := hI.mp
  have hcx : curR Z a = Z.ky x := curR_of hcu
  have hcn : a.cur.toNat = x := by rw [hcu]; exact Int.toNat_natCast x
  have hci := (hI.tk x hx).ci
  obtain ⟨ty3, hg3⟩ := hH.g3
  have hho := hH.ho
  have hkk := hH.md.k
  refine enter (n := 628) (K := mdF mb Z R C) (A := MD (mdF mb Z R C) w.heap.size mb Z R a C) (F := mdF mb Z R C) (T := [(0, .pointer (some ⟨mb, 0, none⟩)), (1, .agg #[.int .u8 13, .int .u32 ev.pick, .int .u64 ev.draw, .int .u32 ev.addr, .int .u32 ev.node, .int .u32 ev.dst, .int .u32 ev.xfer, .int .u8 ev.ty, .int .u64 ev.arg, .int .u64 ev.badge, .slice xo ev.ws.length cx])]) (L := [(3, ⟨[.int .u16 0, .int .u32 0], ty3, true⟩)]) (args := [.pointer (some ⟨mb, 0, none⟩), .agg #[.int .u8 13, .int .u32 ev.pick, .int .u64 ev.draw, .int .u32 ev.addr, .int .u32 ev.node, .int .u32 ev.dst, .int .u32 ev.xfer, .int .u8 ev.ty, .int .u64 ev.arg, .int .u64 ev.badge, .slice xo ev.ws.length cx]]) Tryd.func55 rfl rfl rfl rfl (kcons hg3 knil) (by simp) (kcons (by intro hq; cases hq) knil) hH.mD MD.stable hH.md.low (kcons (by intro hq; cases hq) knil) ?_
  intro ac h
  refine wp_seq_k fun K1 hK1 => ?_
  refine nd_start (l := [0, 1, 2]) rfl ?_
  refine nd_op ?_
  refine op_new tabOk2 (cells := [.int .u8 13, .int .u32 ev.pick, .int .u64 ev.draw, .int .u32 ev.addr, .int .u32 ev.node, .int .u32 ev.dst, .int .u32 ev.xfer, .int .u8 ev.ty, .int .u64 ev.arg, .int .u64 ev.badge, .slice xo ev.ws.length cx]) (ty := 35) (ln := none) (L1 := fun b2 => [(3, ⟨[.int .u16 0, .int .u32 0], ty3, true⟩), (b2, ⟨[.int .u8 13, .int .u32 ev.pick, .int .u64 ev.draw, .int .u32 ev.addr, .int .u32 ev.node, .int .u32 ev.dst, .int .u32 ev.xfer, .int .u8 ev.ty, .int .u64 ev.arg, .int .u64 ev.badge, .slice xo ev.ws.length cx], 35, false⟩)]) h rfl rfl rfl rfl (by kernel_rfl) (fun _ => rfl) fun b2 w3 a4 h5 hf6 hn7 => ?_
  clear h
  refine nd_batch tabOk2 tabZ_ok2 [(1, {}), (2, {})] [3, 0, 1, 4, 5] (T' := [(3, .pointer (some ⟨b2, 0, none⟩)), (0, .pointer (some ⟨mb, 0, none⟩)), (1, .agg #[.int .u8 13, .int .u32 ev.pick, .int .u64 ev.draw, .int .u32 ev.addr, .int .u32 ev.node, .int .u32 ev.dst, .int .u32 ev.xfer, .int .u8 ev.ty, .int .u64 ev.arg, .int .u64 ev.badge, .slice xo ev.ws.length cx]), (4, .int .u8 0), (5, .bool false)]) (φ := True) (rest := []) h5 (by kernel_rfl) rfl trivial fun a8 h9 => ?_
  clear h5
  refine nd_done ?_
  refine hK1 _ _ ?_
  clear hK1
  refine wp_seq_k fun K10 hK10 => ?_
  refine nd_start (l := [0, 1, 2, 3, 4, 5]) rfl ?_
  refine nd_batch tabOk2 tabZ_ok2 [(0, {}), (1, {}), (2, {})] [3, 0, 1, 4, 5, 44] (T' := [(3, .pointer (some ⟨b2, 0, none⟩)), (0, .pointer (some ⟨mb, 0, none⟩)), (1, .agg #[.int .u8 13, .int .u32 ev.pick, .int .u64 ev.draw, .int .u32 ev.addr, .int .u32 ev.node, .int .u32 ev.dst, .int .u32 ev.xfer, .int .u8 ev.ty, .int .u64 ev.arg, .int .u64 ev.badge, .slice xo ev.ws.length cx]), (4, .int .u8 0), (5, .bool false), (44, .pointer (some ⟨mb, 13, none⟩))]) (φ := True) (rest := [3, 4, 5]) h9 (by kernel_rfl) rfl trivial fun a11 h12 => ?_
  clear h9
  refine nd_op ?_
  refine op_read (b := mb) (v := .agg #[.int .u16 ((Z.ky x).idx), .int .u32 ((Z.ky x).gen)]) h12 rfl rfl (rd_mA h12 (k := 13) (vs := [.int .u16 ((Z.ky x).idx), .int .u32 ((Z.ky x).gen)]) rfl rfl rfl rfl rfl (by rw [← hcx]; exact md_cur)) ?_
  have h13 := h12.put (d := some 45) (v := .agg #[.int .u16 ((Z.ky x).idx), .int .u32 ((Z.ky x).gen)]) (T' := [(45, .agg #[.int .u16 ((Z.ky x).idx), .int .u32 ((Z.ky x).gen)]), (3, .pointer (some ⟨b2, 0, none⟩)), (0, .pointer (some ⟨mb, 0, none⟩)), (1, .agg #[.int .u8 13, .int .u32 ev.pick, .int .u64 ev.draw, .int .u32 ev.addr, .int .u32 ev.node, .int .u32 ev.dst, .int .u32 ev.xfer, .int .u8 ev.ty, .int .u64 ev.arg, .int .u64 ev.badge, .slice xo ev.ws.length cx]), (4, .int .u8 0), (5, .bool false), (44, .pointer (some ⟨mb, 13, none⟩))]) rfl
  clear h12
  refine nd_op ?_
  refine op_new tabOk2 (cells := [.int .u16 0, .int .u32 0]) (ty := 39) (ln := none) (L1 := fun b14 => [(3, ⟨[.int .u16 0, .int .u32 0], ty3, true⟩), (b2, ⟨[.int .u8 13, .int .u32 ev.pick, .int .u64 ev.draw, .int .u32 ev.addr, .int .u32 ev.node, .int .u32 ev.dst, .int .u32 ev.xfer, .int .u8 ev.ty, .int .u64 ev.arg, .int .u64 ev.badge, .slice xo ev.ws.length cx], 35, false⟩), (b14, ⟨[.int .u16 0, .int .u32 0], 39, false⟩)]) h13 rfl rfl rfl rfl (by kernel_rfl) (fun _ => rfl) fun b14 w15 a16 h17 hf18 hn19 => ?_
  clear h13
  refine nd_op ?_
  refine op_store tabOk2 {k := 2} (L' := [(3, ⟨[.int .u16 0, .int .u32 0], ty3, true⟩), (b2, ⟨[.int .u8 13, .int .u32 ev.pick, .int .u64 ev.draw, .int .u32 ev.addr, .int .u32 ev.node, .int .u32 ev.dst, .int .u32 ev.xfer, .int .u8 ev.ty, .int .u64 ev.arg, .int .u64 ev.badge, .slice xo ev.ws.length cx], 35, false⟩), (b14, ⟨[.int .u16 ((Z.ky x).idx), .int .u32 ((Z.ky x).gen)], 39, false⟩)]) (φ := b14 = b14 ∧ Nat.ble (0 + 2) 2 = true) h17 rfl rfl rfl (by kernel_rfl) ⟨rfl, rfl⟩ fun w20 h21 => ?_
  clear h17
  refine nd_done ?_
  refine hK10 _ _ ?_
  clear hK10
  refine wp_seq_k fun K22 hK22 => ?_
  refine dr_start (KB := [3, b2, b14, mb, Z.tb]) (Bi := [[0, 1, 2, 3, 4], [0, 1, 2, 3, 4], [0, 1, 2, 3, 4], [0, 1, 2, 3, 4], [0, 1, 2, 3, 4], [0, 1, 2, 3, 4], [0, 1, 2, 3, 4]]) mixed h21 fun w23 h24 => ?_
  clear h21
  refine dr_batch tabOk2 tabZ_ok2 (by repeat (first | with_reducible exact PF.body | with_reducible apply PF.inB | with_reducible apply PF.next)) [(0, {}), (1, {}), (2, {})] [6, 3, 0, 1, 4, 5, 48] (T' := [(6, .pointer (some ⟨b14, 0, none⟩)), (3, .pointer (some ⟨b2, 0, none⟩)), (0, .pointer (some ⟨mb, 0, none⟩)), (1, .agg #[.int .u8 13, .int .u32 ev.pick, .int .u64 ev.draw, .int .u32 ev.addr, .int .u32 ev.node, .int .u32 ev.dst, .int .u32 ev.xfer, .int .u8 ev.ty, .int .u64 ev.arg, .int .u64 ev.badge, .slice xo ev.ws.length cx]), (4, .int .u8 0), (5, .bool false), (48, .pointer (some ⟨mb, 2, none⟩))]) (φ := True) (fuel := 4) h24 (by kernel_rfl) rfl (by kernel_rfl) (by kernel_rfl) ⟨trivial, trivial, trivial, trivial⟩ trivial fun a26 h27 => ?_
  clear h24
  refine dr_read (i := 3) (b := mb) (p := 3) (v := .map (some Z.tb)) (fuel := 3) (by repeat (first | with_reducible exact PF.body | with_reducible apply PF.inB | with_reducible apply PF.next)) h27 rfl rfl rfl (by kernel_rfl) (by kernel_rfl) (by kernel_rfl) rfl (rd_m h27 (k := 2) (v := .map (some Z.tb)) rfl rfl rfl rfl (md_p ⟨rfl, trivial⟩)) ?_
  have h28 := h27.put (d := some 49) (v := .map (some Z.tb)) (T' := [(49, .map (some Z.tb)), (6, .pointer (some ⟨b14, 0, none⟩)), (3, .pointer (some ⟨b2, 0, none⟩)), (0, .pointer (some ⟨mb, 0, none⟩)), (1, .agg #[.int .u8 13, .int .u32 ev.pick, .int .u64 ev.draw, .int .u32 ev.addr, .int .u32 ev.node, .int .u32 ev.dst, .int .u32 ev.xfer, .int .u8 ev.ty, .int .u64 ev.arg, .int .u64 ev.badge, .slice xo ev.ws.length cx]), (4, .int .u8 0), (5, .bool false), (48, .pointer (some ⟨mb, 2, none⟩))]) rfl
  clear h27
  refine dr_batch tabOk2 tabZ_ok2 (by repeat (first | with_reducible exact PF.body | with_reducible apply PF.inB | with_reducible apply PF.next)) [(4, {k := 2, p := 2})] [49, 6, 3, 0, 1, 4, 5, 50] (T' := [(49, .map (some Z.tb)), (6, .pointer (some ⟨b14, 0, none⟩)), (3, .pointer (some ⟨b2, 0, none⟩)), (0, .pointer (some ⟨mb, 0, none⟩)), (1, .agg #[.int .u8 13, .int .u32 ev.pick, .int .u64 ev.draw, .int .u32 ev.addr, .int .u32 ev.node, .int .u32 ev.dst, .int .u32 ev.xfer, .int .u8 ev.ty, .int .u64 ev.arg, .int .u64 ev.badge, .slice xo ev.ws.length cx]), (4, .int .u8 0), (5, .bool false), (50, .agg #[.int .u16 ((Z.ky x).idx), .int .u32 ((Z.ky x).gen)])]) (φ := (b14 = b14 ∧ Nat.ble (0 + 2) 2 = true) ∧ True) (fuel := 2) h28 (by kernel_rfl) rfl (by kernel_rfl) (by kernel_rfl) ⟨rfl, trivial⟩ ⟨⟨rfl, rfl⟩, trivial⟩ fun a29 h30 => ?_
  clear h28
  refine dr_read (i := 5) (b := Z.tb) (p := 4) (v := .pointer (some ⟨(Z.tp x), 0, none⟩)) (fuel := 1) (by repeat (first | with_reducible exact PF.body | with_reducible apply PF.inB | with_reducible apply PF.next)) h30 rfl rfl rfl (by kernel_rfl) (by kernel_rfl) (by kernel_rfl) rfl (rd_T h30 (x := x) hx rfl rfl rfl) ?_
  have h31 := h30.put (d := some 51) (v := .pointer (some ⟨(Z.tp x), 0, none⟩)) (T' := [(51, .pointer (some ⟨(Z.tp x), 0, none⟩)), (49, .map (some Z.tb)), (6, .pointer (some ⟨b14, 0, none⟩)), (3, .pointer (some ⟨b2, 0, none⟩)), (0, .pointer (some ⟨mb, 0, none⟩)), (1, .agg #[.int .u8 13, .int .u32 ev.pick, .int .u64 ev.draw, .int .u32 ev.addr, .int .u32 ev.node, .int .u32 ev.dst, .int .u32 ev.xfer, .int .u8 ev.ty, .int .u64 ev.arg, .int .u64 ev.badge, .slice xo ev.ws.length cx]), (4, .int .u8 0), (5, .bool false), (50, .agg #[.int .u16 ((Z.ky x).idx), .int .u32 ((Z.ky x).gen)])]) rfl
  clear h30
  refine dr_batch tabOk2 tabZ_ok2 (by repeat (first | with_reducible exact PF.body | with_reducible apply PF.inB | with_reducible apply PF.next)) [(6, {})] [6, 3, 0, 1, 4, 5, 7] (T' := [(6, .pointer (some ⟨b14, 0, none⟩)), (3, .pointer (some ⟨b2, 0, none⟩)), (0, .pointer (some ⟨mb, 0, none⟩)), (1, .agg #[.int .u8 13, .int .u32 ev.pick, .int .u64 ev.draw, .int .u32 ev.addr, .int .u32 ev.node, .int .u32 ev.dst, .int .u32 ev.xfer, .int .u8 ev.ty, .int .u64 ev.arg, .int .u64 ev.badge, .slice xo ev.ws.length cx]), (4, .int .u8 0), (5, .bool false), (7, .pointer (some ⟨(Z.tp x), 0, none⟩))]) (φ := True) (fuel := 0) h31 (by kernel_rfl) rfl (by kernel_rfl) (by kernel_rfl) ⟨trivial, trivial⟩ trivial fun a32 h33 => ?_
  clear h31
  refine wpAnyK_done (by kernel_rfl) ?_ _
  refine hK22 _ _ ?_
  clear hK22
  refine wp_seq_k fun K34 hK34 => ?_
  refine wp_seq_k fun K35 hK35 => ?_
  refine nd_start (l := [0, 1]) rfl ?_
  refine nd_batch tabOk2 tabZ_ok2 [(0, {}), (1, {k := 1})] [6, 3, 0, 1, 4, 5, 7, 53] (T' := [(6, .pointer (some ⟨b14, 0, none⟩)), (3, .pointer (some ⟨b2, 0, none⟩)), (0, .pointer (some ⟨mb, 0, none⟩)), (1, .agg #[.int .u8 13, .int .u32 ev.pick, .int .u64 ev.draw, .int .u32 ev.addr, .int .u32 ev.node, .int .u32 ev.dst, .int .u32 ev.xfer, .int .u8 ev.ty, .int .u64 ev.arg, .int .u64 ev.badge, .slice xo ev.ws.length cx]), (4, .int .u8 0), (5, .bool false), (7, .pointer (some ⟨(Z.tp x), 0, none⟩)), (53, .int .u8 13)]) (φ := (b2 = b2 ∧ Nat.ble (0 + 1) 11 = true) ∧ True) (rest := []) h33 (by kernel_rfl) rfl ⟨⟨rfl, rfl⟩, trivial⟩ fun a36 h37 => ?_
  clear h33
  refine nd_done ?_
  refine hK35 _ _ ?_
  clear hK35
  refine wp_block ?_
  refine wp_seq_k fun K38 hK38 => ?_
  refine nd_start (l := [0, 1]) rfl ?_
  refine nd_batch tabOk2 tabZ_ok2 [(0, {}), (1, {})] [6, 3, 0, 1, 4, 5, 7, 53, 54] (T' := [(6, .pointer (some ⟨b14, 0, none⟩)), (3, .pointer (some ⟨b2, 0, none⟩)), (0, .pointer (some ⟨mb, 0, none⟩)), (1, .agg #[.int .u8 13, .int .u32 ev.pick, .int .u64 ev.draw, .int .u32 ev.addr, .int .u32 ev.node, .int .u32 ev.dst, .int .u32 ev.xfer, .int .u8 ev.ty, .int .u64 ev.arg, .int .u64 ev.badge, .slice xo ev.ws.length cx]), (4, .int .u8 0), (5, .bool false), (7, .pointer (some ⟨(Z.tp x), 0, none⟩)), (53, .int .u8 13), (54, .bool false)]) (φ := True) (rest := []) h37 (by kernel_rfl) rfl trivial fun a39 h40 => ?_
  clear h37
  refine nd_done ?_
  refine hK38 _ _ ?_
  clear hK38
  refine c_false h40 rfl ?_
  refine wp_seq_k fun K41 hK41 => ?_
  refine nd_start (l := [0, 1]) rfl ?_
  refine nd_batch tabOk2 tabZ_ok2 [(0, {}), (1, {})] [6, 3, 0, 1, 4, 5, 7, 53, 59] (T' := [(6, .pointer (some ⟨b14, 0, none⟩)), (3, .pointer (some ⟨b2, 0, none⟩)), (0, .pointer (some ⟨mb, 0, none⟩)), (1, .agg #[.int .u8 13, .int .u32 ev.pick, .int .u64 ev.draw, .int .u32 ev.addr, .int .u32 ev.node, .int .u32 ev.dst, .int .u32 ev.xfer, .int .u8 ev.ty, .int .u64 ev.arg, .int .u64 ev.badge, .slice xo ev.ws.length cx]), (4, .int .u8 0), (5, .bool false), (7, .pointer (some ⟨(Z.tp x), 0, none⟩)), (53, .int .u8 13), (59, .bool false)]) (φ := True) (rest := []) h40 (by kernel_rfl) rfl trivial fun a42 h43 => ?_
  clear h40
  refine nd_done ?_
  refine hK41 _ _ ?_
  clear hK41
  refine c_false h43 rfl ?_
  refine wp_seq_k fun K44 hK44 => ?_
  refine wp_seq_k fun K45 hK45 => ?_
  refine nd_start (l := [0, 1]) rfl ?_
  refine nd_batch tabOk2 tabZ_ok2 [(0, {}), (1, {})] [6, 3, 0, 1, 4, 5, 7, 53, 66] (T' := [(6, .pointer (some ⟨b14, 0, none⟩)), (3, .pointer (some ⟨b2, 0, none⟩)), (0, .pointer (some ⟨mb, 0, none⟩)), (1, .agg #[.int .u8 13, .int .u32 ev.pick, .int .u64 ev.draw, .int .u32 ev.addr, .int .u32 ev.node, .int .u32 ev.dst, .int .u32 ev.xfer, .int .u8 ev.ty, .int .u64 ev.arg, .int .u64 ev.badge, .slice xo ev.ws.length cx]), (4, .int .u8 0), (5, .bool false), (7, .pointer (some ⟨(Z.tp x), 0, none⟩)), (53, .int .u8 13), (66, .bool false)]) (φ := True) (rest := []) h43 (by kernel_rfl) rfl trivial fun a46 h47 => ?_
  clear h43
  refine nd_done ?_
  refine hK45 _ _ ?_
  clear hK45
  refine c_false h47 rfl ?_
  refine nd_start (l := [0, 1]) rfl ?_
  refine nd_batch tabOk2 tabZ_ok2 [(0, {}), (1, {})] [6, 3, 0, 1, 4, 5, 7, 53, 66] (T' := [(6, .pointer (some ⟨b14, 0, none⟩)), (3, .pointer (some ⟨b2, 0, none⟩)), (0, .pointer (some ⟨mb, 0, none⟩)), (1, .agg #[.int .u8 13, .int .u32 ev.pick, .int .u64 ev.draw, .int .u32 ev.addr, .int .u32 ev.node, .int .u32 ev.dst, .int .u32 ev.xfer, .int .u8 ev.ty, .int .u64 ev.arg, .int .u64 ev.badge, .slice xo ev.ws.length cx]), (4, .int .u8 0), (5, .bool false), (7, .pointer (some ⟨(Z.tp x), 0, none⟩)), (53, .int .u8 13), (66, .bool false)]) (φ := True) (rest := []) h47 (by kernel_rfl) rfl trivial fun a48 h49 => ?_
  clear h47
  refine nd_done ?_
  refine hK44 _ _ ?_
  clear hK44
  refine c_false h49 rfl ?_
  refine wp_seq_k fun K50 hK50 => ?_
  refine nd_start (l := [0, 1]) rfl ?_
  refine nd_batch tabOk2 tabZ_ok2 [(0, {}), (1, {})] [6, 3, 0, 1, 4, 5, 7, 53, 66, 129] (T' := [(6, .pointer (some ⟨b14, 0, none⟩)), (3, .pointer (some ⟨b2, 0, none⟩)), (0, .pointer (some ⟨mb, 0, none⟩)), (1, .agg #[.int .u8 13, .int .u32 ev.pick, .int .u64 ev.draw, .int .u32 ev.addr, .int .u32 ev.node, .int .u32 ev.dst, .int .u32 ev.xfer, .int .u8 ev.ty, .int .u64 ev.arg, .int .u64 ev.badge, .slice xo ev.ws.length cx]), (4, .int .u8 0), (5, .bool false), (7, .pointer (some ⟨(Z.tp x), 0, none⟩)), (53, .int .u8 13), (66, .bool false), (129, .bool false)]) (φ := True) (rest := []) h49 (by kernel_rfl) rfl trivial fun a51 h52 => ?_
  clear h49
  refine nd_done ?_
  refine hK50 _ _ ?_
  clear hK50
  refine c_false h52 rfl ?_
  refine wp_seq_k fun K53 hK53 => ?_
  refine nd_start (l := [0, 1]) rfl ?_
  refine nd_batch tabOk2 tabZ_ok2 [(0, {}), (1, {})] [6, 3, 0, 1, 4, 5, 7, 53, 66, 165] (T' := [(6, .pointer (some ⟨b14, 0, none⟩)), (3, .pointer (some ⟨b2, 0, none⟩)), (0, .pointer (some ⟨mb, 0, none⟩)), (1, .agg #[.int .u8 13, .int .u32 ev.pick, .int .u64 ev.draw, .int .u32 ev.addr, .int .u32 ev.node, .int .u32 ev.dst, .int .u32 ev.xfer, .int .u8 ev.ty, .int .u64 ev.arg, .int .u64 ev.badge, .slice xo ev.ws.length cx]), (4, .int .u8 0), (5, .bool false), (7, .pointer (some ⟨(Z.tp x), 0, none⟩)), (53, .int .u8 13), (66, .bool false), (165, .bool false)]) (φ := True) (rest := []) h52 (by kernel_rfl) rfl trivial fun a54 h55 => ?_
  clear h52
  refine nd_done ?_
  refine hK53 _ _ ?_
  clear hK53
  refine c_false h55 rfl ?_
  refine wp_seq_k fun K56 hK56 => ?_
  refine nd_start (l := [0, 1]) rfl ?_
  refine nd_batch tabOk2 tabZ_ok2 [(0, {}), (1, {})] [6, 3, 0, 1, 4, 5, 7, 53, 66, 226] (T' := [(6, .pointer (some ⟨b14, 0, none⟩)), (3, .pointer (some ⟨b2, 0, none⟩)), (0, .pointer (some ⟨mb, 0, none⟩)), (1, .agg #[.int .u8 13, .int .u32 ev.pick, .int .u64 ev.draw, .int .u32 ev.addr, .int .u32 ev.node, .int .u32 ev.dst, .int .u32 ev.xfer, .int .u8 ev.ty, .int .u64 ev.arg, .int .u64 ev.badge, .slice xo ev.ws.length cx]), (4, .int .u8 0), (5, .bool false), (7, .pointer (some ⟨(Z.tp x), 0, none⟩)), (53, .int .u8 13), (66, .bool false), (226, .bool false)]) (φ := True) (rest := []) h55 (by kernel_rfl) rfl trivial fun a57 h58 => ?_
  clear h55
  refine nd_done ?_
  refine hK56 _ _ ?_
  clear hK56
  refine c_false h58 rfl ?_
  refine wp_seq_k fun K59 hK59 => ?_
  refine nd_start (l := [0, 1]) rfl ?_
  refine nd_batch tabOk2 tabZ_ok2 [(0, {}), (1, {})] [6, 3, 0, 1, 4, 5, 7, 53, 66, 244] (T' := [(6, .pointer (some ⟨b14, 0, none⟩)), (3, .pointer (some ⟨b2, 0, none⟩)), (0, .pointer (some ⟨mb, 0, none⟩)), (1, .agg #[.int .u8 13, .int .u32 ev.pick, .int .u64 ev.draw, .int .u32 ev.addr, .int .u32 ev.node, .int .u32 ev.dst, .int .u32 ev.xfer, .int .u8 ev.ty, .int .u64 ev.arg, .int .u64 ev.badge, .slice xo ev.ws.length cx]), (4, .int .u8 0), (5, .bool false), (7, .pointer (some ⟨(Z.tp x), 0, none⟩)), (53, .int .u8 13), (66, .bool false), (244, .bool false)]) (φ := True) (rest := []) h58 (by kernel_rfl) rfl trivial fun a60 h61 => ?_
  clear h58
  refine nd_done ?_
  refine hK59 _ _ ?_
  clear hK59
  refine c_false h61 rfl ?_
  refine wp_seq_k fun K62 hK62 => ?_
  refine nd_start (l := [0, 1]) rfl ?_
  refine nd_batch tabOk2 tabZ_ok2 [(0, {}), (1, {})] [6, 3, 0, 1, 4, 5, 7, 53, 66, 285] (T' := [(6, .pointer (some ⟨b14, 0, none⟩)), (3, .pointer (some ⟨b2, 0, none⟩)), (0, .pointer (some ⟨mb, 0, none⟩)), (1, .agg #[.int .u8 13, .int .u32 ev.pick, .int .u64 ev.draw, .int .u32 ev.addr, .int .u32 ev.node, .int .u32 ev.dst, .int .u32 ev.xfer, .int .u8 ev.ty, .int .u64 ev.arg, .int .u64 ev.badge, .slice xo ev.ws.length cx]), (4, .int .u8 0), (5, .bool false), (7, .pointer (some ⟨(Z.tp x), 0, none⟩)), (53, .int .u8 13), (66, .bool false), (285, .bool false)]) (φ := True) (rest := []) h61 (by kernel_rfl) rfl trivial fun a63 h64 => ?_
  clear h61
  refine nd_done ?_
  refine hK62 _ _ ?_
  clear hK62
  refine c_false h64 rfl ?_
  refine wp_seq_k fun K65 hK65 => ?_
  refine nd_start (l := [0, 1]) rfl ?_
  refine nd_batch tabOk2 tabZ_ok2 [(0, {}), (1, {})] [6, 3, 0, 1, 4, 5, 7, 53, 66, 388] (T' := [(6, .pointer (some ⟨b14, 0, none⟩)), (3, .pointer (some ⟨b2, 0, none⟩)), (0, .pointer (some ⟨mb, 0, none⟩)), (1, .agg #[.int .u8 13, .int .u32 ev.pick, .int .u64 ev.draw, .int .u32 ev.addr, .int .u32 ev.node, .int .u32 ev.dst, .int .u32 ev.xfer, .int .u8 ev.ty, .int .u64 ev.arg, .int .u64 ev.badge, .slice xo ev.ws.length cx]), (4, .int .u8 0), (5, .bool false), (7, .pointer (some ⟨(Z.tp x), 0, none⟩)), (53, .int .u8 13), (66, .bool false), (388, .bool false)]) (φ := True) (rest := []) h64 (by kernel_rfl) rfl trivial fun a66 h67 => ?_
  clear h64
  refine nd_done ?_
  refine hK65 _ _ ?_
  clear hK65
  refine c_false h67 rfl ?_
  refine wp_seq_k fun K68 hK68 => ?_
  refine wp_seq_k fun K69 hK69 => ?_
  refine nd_start (l := [0, 1]) rfl ?_
  refine nd_batch tabOk2 tabZ_ok2 [(0, {}), (1, {})] [6, 3, 0, 1, 4, 5, 7, 53, 66, 437] (T' := [(6, .pointer (some ⟨b14, 0, none⟩)), (3, .pointer (some ⟨b2, 0, none⟩)), (0, .pointer (some ⟨mb, 0, none⟩)), (1, .agg #[.int .u8 13, .int .u32 ev.pick, .int .u64 ev.draw, .int .u32 ev.addr, .int .u32 ev.node, .int .u32 ev.dst, .int .u32 ev.xfer, .int .u8 ev.ty, .int .u64 ev.arg, .int .u64 ev.badge, .slice xo ev.ws.length cx]), (4, .int .u8 0), (5, .bool false), (7, .pointer (some ⟨(Z.tp x), 0, none⟩)), (53, .int .u8 13), (66, .bool false), (437, .bool false)]) (φ := True) (rest := []) h67 (by kernel_rfl) rfl trivial fun a70 h71 => ?_
  clear h67
  refine nd_done ?_
  refine hK69 _ _ ?_
  clear hK69
  refine c_false h71 rfl ?_
  refine nd_start (l := [0, 1]) rfl ?_
  refine nd_batch tabOk2 tabZ_ok2 [(0, {}), (1, {})] [6, 3, 0, 1, 4, 5, 7, 53, 66, 437] (T' := [(6, .pointer (some ⟨b14, 0, none⟩)), (3, .pointer (some ⟨b2, 0, none⟩)), (0, .pointer (some ⟨mb, 0, none⟩)), (1, .agg #[.int .u8 13, .int .u32 ev.pick, .int .u64 ev.draw, .int .u32 ev.addr, .int .u32 ev.node, .int .u32 ev.dst, .int .u32 ev.xfer, .int .u8 ev.ty, .int .u64 ev.arg, .int .u64 ev.badge, .slice xo ev.ws.length cx]), (4, .int .u8 0), (5, .bool false), (7, .pointer (some ⟨(Z.tp x), 0, none⟩)), (53, .int .u8 13), (66, .bool false), (437, .bool true)]) (φ := True) (rest := []) h71 (by kernel_rfl) rfl trivial fun a72 h73 => ?_
  clear h71
  refine nd_done ?_
  refine hK68 _ _ ?_
  clear hK68
  refine c_true h73 rfl ?_
  refine wp_seq_k fun K74 hK74 => ?_
  refine nd_start (l := [0, 1, 2, 3, 4, 5, 6, 7, 8]) rfl ?_
  refine nd_batch tabOk2 tabZ_ok2 [(0, {}), (1, {}), (2, {k := 1})] [6, 3, 0, 1, 4, 5, 7, 53, 66, 437, 441, 443] (T' := [(6, .pointer (some ⟨b14, 0, none⟩)), (3, .pointer (some ⟨b2, 0, none⟩)), (0, .pointer (some ⟨mb, 0, none⟩)), (1, .agg #[.int .u8 13, .int .u32 ev.pick, .int .u64 ev.draw, .int .u32 ev.addr, .int .u32 ev.node, .int .u32 ev.dst, .int .u32 ev.xfer, .int .u8 ev.ty, .int .u64 ev.arg, .int .u64 ev.badge, .slice xo ev.ws.length cx]), (4, .int .u8 0), (5, .bool false), (7, .pointer (some ⟨(Z.tp x), 0, none⟩)), (53, .int .u8 13), (66, .bool false), (437, .bool true), (441, .pointer (some ⟨mb, 0, none⟩)), (443, .int .u32 ev.addr)]) (φ := (b2 = b2 ∧ Nat.ble (3 + 1) 11 = true) ∧ True) (rest := [3, 4, 5, 6, 7, 8]) h73 (by kernel_rfl) rfl ⟨⟨rfl, rfl⟩, trivial⟩ fun a75 h76 => ?_
  clear h73
  refine nd_op ?_
  refine op_call h76 rfl rfl rfl (callOk Tryd.func93 (by decide) rfl) (args := [.pointer (some ⟨mb, 0, none⟩), .int .u32 ev.addr]) rfl (cellOf_ok mb Z _ a C x hx hcx hci ev.addr he.addr e1 _ (mh_of h76 hho (k := 0) rfl)) ?_
  rintro _ w77 ⟨rfl, hg79⟩
  refine ⟨_, rfl, ?_⟩
  have h80a := st_mg h76 hg79 (kcons (fun _ => rfl) (kcons (fun hq => by cases hq) (kcons (fun hq => by cases hq) knil)))
  have h80 := h80a.put (d := some 444) (v := .tuple #[.int .i64 s1, .int .u8 k1]) (T' := [(444, .tuple #[.int .i64 s1, .int .u8 k1]), (6, .pointer (some ⟨b14, 0, none⟩)), (3, .pointer (some ⟨b2, 0, none⟩)), (0, .pointer (some ⟨mb, 0, none⟩)), (1, .agg #[.int .u8 13, .int .u32 ev.pick, .int .u64 ev.draw, .int .u32 ev.addr, .int .u32 ev.node, .int .u32 ev.dst, .int .u32 ev.xfer, .int .u8 ev.ty, .int .u64 ev.arg, .int .u64 ev.badge, .slice xo ev.ws.length cx]), (4, .int .u8 0), (5, .bool false), (7, .pointer (some ⟨(Z.tp x), 0, none⟩)), (53, .int .u8 13), (66, .bool false), (437, .bool true), (441, .pointer (some ⟨mb, 0, none⟩)), (443, .int .u32 ev.addr)]) rfl
  have hhoh80 := hg79.mh.ho
  clear h76 h80a
  refine nd_batch tabOk2 tabZ_ok2 [(4, {}), (5, {}), (6, {}), (7, {}), (8, {})] [6, 3, 0, 1, 4, 5, 7, 53, 66, 437, 31, 32] (T' := [(6, .pointer (some ⟨b14, 0, none⟩)), (3, .pointer (some ⟨b2, 0, none⟩)), (0, .pointer (some ⟨mb, 0, none⟩)), (1, .agg #[.int .u8 13, .int .u32 ev.pick, .int .u64 ev.draw, .int .u32 ev.addr, .int .u32 ev.node, .int .u32 ev.dst, .int .u32 ev.xfer, .int .u8 ev.ty, .int .u64 ev.arg, .int .u64 ev.badge, .slice xo ev.ws.length cx]), (4, .int .u8 0), (5, .bool false), (7, .pointer (some ⟨(Z.tp x), 0, none⟩)), (53, .int .u8 13), (66, .bool false), (437, .bool true), (31, .int .i64 s1), (32, .int .u8 k1)]) (φ := True) (rest := []) h80 (by kernel_rfl) rfl trivial fun a81 h82 => ?_
  clear h80
  refine nd_done ?_
  refine hK74 _ _ ?_
  clear hK74
  refine wp_seq_k fun K83 hK83 => ?_
  refine wp_seq_k fun K84 hK84 => ?_
  refine nd_start (l := [0, 1]) rfl ?_
  refine nd_batch tabOk2 tabZ_ok2 [(0, {}), (1, {})] [6, 3, 0, 1, 4, 5, 7, 53, 66, 437, 31, 32, 448] (T' := [(6, .pointer (some ⟨b14, 0, none⟩)), (3, .pointer (some ⟨b2, 0, none⟩)), (0, .pointer (some ⟨mb, 0, none⟩)), (1, .agg #[.int .u8 13, .int .u32 ev.pick, .int .u64 ev.draw, .int .u32 ev.addr, .int .u32 ev.node, .int .u32 ev.dst, .int .u32 ev.xfer, .int .u8 ev.ty, .int .u64 ev.arg, .int .u64 ev.badge, .slice xo ev.ws.length cx]), (4, .int .u8 0), (5, .bool false), (7, .pointer (some ⟨(Z.tp x), 0, none⟩)), (53, .int .u8 13), (66, .bool false), (437, .bool true), (31, .int .i64 s1), (32, .int .u8 k1), (448, .bool (k1 != 0))]) (φ := True) (rest := []) h82 (by kernel_rfl) rfl trivial fun a85 h86 => ?_
  clear h82
  refine nd_done ?_
  refine hK84 _ _ ?_
  clear hK84
  refine c_split h86 (b := (k1 != 0)) rfl (fun hc87 => ?_) (fun hc87 => ?_)
  ·
    have hc87f : k1 ≠ 0 := by simpa using hc87
    refine wp_seq_k fun K88 hK88 => ?_
    refine nd_start (l := [0, 1, 2]) rfl ?_
    refine nd_batch tabOk2 tabZ_ok2 [(0, {}), (1, {}), (2, {})] [6, 3, 0, 1, 7, 53, 66, 437, 31, 32, 4, 5] (T' := [(6, .pointer (some ⟨b14, 0, none⟩)), (3, .pointer (some ⟨b2, 0, none⟩)), (0, .pointer (some ⟨mb, 0, none⟩)), (1, .agg #[.int .u8 13, .int .u32 ev.pick, .int .u64 ev.draw, .int .u32 ev.addr, .int .u32 ev.node, .int .u32 ev.dst, .int .u32 ev.xfer, .int .u8 ev.ty, .int .u64 ev.arg, .int .u64 ev.badge, .slice xo ev.ws.length cx]), (7, .pointer (some ⟨(Z.tp x), 0, none⟩)), (53, .int .u8 13), (66, .bool false), (437, .bool true), (31, .int .i64 s1), (32, .int .u8 k1), (4, .int .u8 k1), (5, .bool false)]) (φ := True) (rest := []) h86 (by kernel_rfl) rfl trivial fun a89 h90 => ?_
    clear h86
    refine nd_done ?_
    refine hK88 _ _ ?_
    clear hK88
    refine wp_ret ?_
    try simp only [Exit.then, Exit.inBlock]
    try rw [if_pos trivial]
    exact s_ret tabOk2 tabZ_ok2 h90 [(.tmp 4, {}), (.tmp 5, {})] (vs := [.int .u8 k1, .bool false]) (φ := True) rfl (by kernel_rfl) trivial ⟨rfl, _, mg_end hH h90 hhoh80 rfl⟩
  ·
    have hc87f : k1 = 0 := by simpa using hc87
    exact absurd hc87f hk0

theorem call13z (mb : Nat) (Z : MZ) (R : MR) (a : AK) (C : CP) (hI : MI Z a C) (x : Nat) (hx : x ∈ sl Z.tl) (hcu : a.cur = (x : Int)) (ev : Ev) (he : EvOk ev) (xo : Option Addr) (cx : Nat) (s1 : Int) (e1 : lookP C.ent (a.th x).cs ev.addr = (s1, 0)) (hz2 : (C.cel s1.toNat).cap.ty = 0) (w : World) (hH : MH mb Z R a C w) (hws : WordsAt (mdF mb Z R C) w xo ev.ws) :
    Calls Tryd.prog 55 #[.pointer (some ⟨mb, 0, none⟩), .agg #[.int .u8 13, .int .u32 ev.pick, .int .u64 ev.draw, .int .u32 ev.addr, .int .u32 ev.node, .int .u32 ev.dst, .int .u32 ev.xfer, .int .u8 ev.ty, .int .u64 ev.arg, .int .u64 ev.badge, .slice xo ev.ws.length cx]] w fun e w' => e = .returned (.tuple #[.int .u8 3, .bool false]) ∧ ∃ R', MG mb Z R C w Z R' a C w' := by
  have hP := hI.mp
  have hcx : curR Z a = Z.ky x := curR_of hcu
  have hcn : a.cur.toNat = x := by rw [hcu]; exact Int.toNat_natCast x
  have hci := (hI.tk x hx).ci
  obtain ⟨ty3, hg3⟩ := hH.g3
  have hho := hH.ho
  have hkk := hH.md.k
  refine enter (n := 628) (K := mdF mb Z R C) (A := MD (mdF mb Z R C) w.heap.size mb Z R a C) (F := mdF mb Z R C) (T := [(0, .pointer (some ⟨mb, 0, none⟩)), (1, .agg #[.int .u8 13, .int .u32 ev.pick, .int .u64 ev.draw, .int .u32 ev.addr, .int .u32 ev.node, .int .u32 ev.dst, .int .u32 ev.xfer, .int .u8 ev.ty, .int .u64 ev.arg, .int .u64 ev.badge, .slice xo ev.ws.length cx])]) (L := [(3, ⟨[.int .u16 0, .int .u32 0], ty3, true⟩)]) (args := [.pointer (some ⟨mb, 0, none⟩), .agg #[.int .u8 13, .int .u32 ev.pick, .int .u64 ev.draw, .int .u32 ev.addr, .int .u32 ev.node, .int .u32 ev.dst, .int .u32 ev.xfer, .int .u8 ev.ty, .int .u64 ev.arg, .int .u64 ev.badge, .slice xo ev.ws.length cx]]) Tryd.func55 rfl rfl rfl rfl (kcons hg3 knil) (by simp) (kcons (by intro hq; cases hq) knil) hH.mD MD.stable hH.md.low (kcons (by intro hq; cases hq) knil) ?_
  intro ac h
  refine wp_seq_k fun K1 hK1 => ?_
  refine nd_start (l := [0, 1, 2]) rfl ?_
  refine nd_op ?_
  refine op_new tabOk2 (cells := [.int .u8 13, .int .u32 ev.pick, .int .u64 ev.draw, .int .u32 ev.addr, .int .u32 ev.node, .int .u32 ev.dst, .int .u32 ev.xfer, .int .u8 ev.ty, .int .u64 ev.arg, .int .u64 ev.badge, .slice xo ev.ws.length cx]) (ty := 35) (ln := none) (L1 := fun b2 => [(3, ⟨[.int .u16 0, .int .u32 0], ty3, true⟩), (b2, ⟨[.int .u8 13, .int .u32 ev.pick, .int .u64 ev.draw, .int .u32 ev.addr, .int .u32 ev.node, .int .u32 ev.dst, .int .u32 ev.xfer, .int .u8 ev.ty, .int .u64 ev.arg, .int .u64 ev.badge, .slice xo ev.ws.length cx], 35, false⟩)]) h rfl rfl rfl rfl (by kernel_rfl) (fun _ => rfl) fun b2 w3 a4 h5 hf6 hn7 => ?_
  clear h
  refine nd_batch tabOk2 tabZ_ok2 [(1, {}), (2, {})] [3, 0, 1, 4, 5] (T' := [(3, .pointer (some ⟨b2, 0, none⟩)), (0, .pointer (some ⟨mb, 0, none⟩)), (1, .agg #[.int .u8 13, .int .u32 ev.pick, .int .u64 ev.draw, .int .u32 ev.addr, .int .u32 ev.node, .int .u32 ev.dst, .int .u32 ev.xfer, .int .u8 ev.ty, .int .u64 ev.arg, .int .u64 ev.badge, .slice xo ev.ws.length cx]), (4, .int .u8 0), (5, .bool false)]) (φ := True) (rest := []) h5 (by kernel_rfl) rfl trivial fun a8 h9 => ?_
  clear h5
  refine nd_done ?_
  refine hK1 _ _ ?_
  clear hK1
  refine wp_seq_k fun K10 hK10 => ?_
  refine nd_start (l := [0, 1, 2, 3, 4, 5]) rfl ?_
  refine nd_batch tabOk2 tabZ_ok2 [(0, {}), (1, {}), (2, {})] [3, 0, 1, 4, 5, 44] (T' := [(3, .pointer (some ⟨b2, 0, none⟩)), (0, .pointer (some ⟨mb, 0, none⟩)), (1, .agg #[.int .u8 13, .int .u32 ev.pick, .int .u64 ev.draw, .int .u32 ev.addr, .int .u32 ev.node, .int .u32 ev.dst, .int .u32 ev.xfer, .int .u8 ev.ty, .int .u64 ev.arg, .int .u64 ev.badge, .slice xo ev.ws.length cx]), (4, .int .u8 0), (5, .bool false), (44, .pointer (some ⟨mb, 13, none⟩))]) (φ := True) (rest := [3, 4, 5]) h9 (by kernel_rfl) rfl trivial fun a11 h12 => ?_
  clear h9
  refine nd_op ?_
  refine op_read (b := mb) (v := .agg #[.int .u16 ((Z.ky x).idx), .int .u32 ((Z.ky x).gen)]) h12 rfl rfl (rd_mA h12 (k := 13) (vs := [.int .u16 ((Z.ky x).idx), .int .u32 ((Z.ky x).gen)]) rfl rfl rfl rfl rfl (by rw [← hcx]; exact md_cur)) ?_
  have h13 := h12.put (d := some 45) (v := .agg #[.int .u16 ((Z.ky x).idx), .int .u32 ((Z.ky x).gen)]) (T' := [(45, .agg #[.int .u16 ((Z.ky x).idx), .int .u32 ((Z.ky x).gen)]), (3, .pointer (some ⟨b2, 0, none⟩)), (0, .pointer (some ⟨mb, 0, none⟩)), (1, .agg #[.int .u8 13, .int .u32 ev.pick, .int .u64 ev.draw, .int .u32 ev.addr, .int .u32 ev.node, .int .u32 ev.dst, .int .u32 ev.xfer, .int .u8 ev.ty, .int .u64 ev.arg, .int .u64 ev.badge, .slice xo ev.ws.length cx]), (4, .int .u8 0), (5, .bool false), (44, .pointer (some ⟨mb, 13, none⟩))]) rfl
  clear h12
  refine nd_op ?_
  refine op_new tabOk2 (cells := [.int .u16 0, .int .u32 0]) (ty := 39) (ln := none) (L1 := fun b14 => [(3, ⟨[.int .u16 0, .int .u32 0], ty3, true⟩), (b2, ⟨[.int .u8 13, .int .u32 ev.pick, .int .u64 ev.draw, .int .u32 ev.addr, .int .u32 ev.node, .int .u32 ev.dst, .int .u32 ev.xfer, .int .u8 ev.ty, .int .u64 ev.arg, .int .u64 ev.badge, .slice xo ev.ws.length cx], 35, false⟩), (b14, ⟨[.int .u16 0, .int .u32 0], 39, false⟩)]) h13 rfl rfl rfl rfl (by kernel_rfl) (fun _ => rfl) fun b14 w15 a16 h17 hf18 hn19 => ?_
  clear h13
  refine nd_op ?_
  refine op_store tabOk2 {k := 2} (L' := [(3, ⟨[.int .u16 0, .int .u32 0], ty3, true⟩), (b2, ⟨[.int .u8 13, .int .u32 ev.pick, .int .u64 ev.draw, .int .u32 ev.addr, .int .u32 ev.node, .int .u32 ev.dst, .int .u32 ev.xfer, .int .u8 ev.ty, .int .u64 ev.arg, .int .u64 ev.badge, .slice xo ev.ws.length cx], 35, false⟩), (b14, ⟨[.int .u16 ((Z.ky x).idx), .int .u32 ((Z.ky x).gen)], 39, false⟩)]) (φ := b14 = b14 ∧ Nat.ble (0 + 2) 2 = true) h17 rfl rfl rfl (by kernel_rfl) ⟨rfl, rfl⟩ fun w20 h21 => ?_
  clear h17
  refine nd_done ?_
  refine hK10 _ _ ?_
  clear hK10
  refine wp_seq_k fun K22 hK22 => ?_
  refine dr_start (KB := [3, b2, b14, mb, Z.tb]) (Bi := [[0, 1, 2, 3, 4], [0, 1, 2, 3, 4], [0, 1, 2, 3, 4], [0, 1, 2, 3, 4], [0, 1, 2, 3, 4], [0, 1, 2, 3, 4], [0, 1, 2, 3, 4]]) mixed h21 fun w23 h24 => ?_
  clear h21
  refine dr_batch tabOk2 tabZ_ok2 (by repeat (first | with_reducible exact PF.body | with_reducible apply PF.inB | with_reducible apply PF.next)) [(0, {}), (1, {}), (2, {})] [6, 3, 0, 1, 4, 5, 48] (T' := [(6, .pointer (some ⟨b14, 0, none⟩)), (3, .pointer (some ⟨b2, 0, none⟩)), (0, .pointer (some ⟨mb, 0, none⟩)), (1, .agg #[.int .u8 13, .int .u32 ev.pick, .int .u64 ev.draw, .int .u32 ev.addr, .int .u32 ev.node, .int .u32 ev.dst, .int .u32 ev.xfer, .int .u8 ev.ty, .int .u64 ev.arg, .int .u64 ev.badge, .slice xo ev.ws.length cx]), (4, .int .u8 0), (5, .bool false), (48, .pointer (some ⟨mb, 2, none⟩))]) (φ := True) (fuel := 4) h24 (by kernel_rfl) rfl (by kernel_rfl) (by kernel_rfl) ⟨trivial, trivial, trivial, trivial⟩ trivial fun a26 h27 => ?_
  clear h24
  refine dr_read (i := 3) (b := mb) (p := 3) (v := .map (some Z.tb)) (fuel := 3) (by repeat (first | with_reducible exact PF.body | with_reducible apply PF.inB | with_reducible apply PF.next)) h27 rfl rfl rfl (by kernel_rfl) (by kernel_rfl) (by kernel_rfl) rfl (rd_m h27 (k := 2) (v := .map (some Z.tb)) rfl rfl rfl rfl (md_p ⟨rfl, trivial⟩)) ?_
  have h28 := h27.put (d := some 49) (v := .map (some Z.tb)) (T' := [(49, .map (some Z.tb)), (6, .pointer (some ⟨b14, 0, none⟩)), (3, .pointer (some ⟨b2, 0, none⟩)), (0, .pointer (some ⟨mb, 0, none⟩)), (1, .agg #[.int .u8 13, .int .u32 ev.pick, .int .u64 ev.draw, .int .u32 ev.addr, .int .u32 ev.node, .int .u32 ev.dst, .int .u32 ev.xfer, .int .u8 ev.ty, .int .u64 ev.arg, .int .u64 ev.badge, .slice xo ev.ws.length cx]), (4, .int .u8 0), (5, .bool false), (48, .pointer (some ⟨mb, 2, none⟩))]) rfl
  clear h27
  refine dr_batch tabOk2 tabZ_ok2 (by repeat (first | with_reducible exact PF.body | with_reducible apply PF.inB | with_reducible apply PF.next)) [(4, {k := 2, p := 2})] [49, 6, 3, 0, 1, 4, 5, 50] (T' := [(49, .map (some Z.tb)), (6, .pointer (some ⟨b14, 0, none⟩)), (3, .pointer (some ⟨b2, 0, none⟩)), (0, .pointer (some ⟨mb, 0, none⟩)), (1, .agg #[.int .u8 13, .int .u32 ev.pick, .int .u64 ev.draw, .int .u32 ev.addr, .int .u32 ev.node, .int .u32 ev.dst, .int .u32 ev.xfer, .int .u8 ev.ty, .int .u64 ev.arg, .int .u64 ev.badge, .slice xo ev.ws.length cx]), (4, .int .u8 0), (5, .bool false), (50, .agg #[.int .u16 ((Z.ky x).idx), .int .u32 ((Z.ky x).gen)])]) (φ := (b14 = b14 ∧ Nat.ble (0 + 2) 2 = true) ∧ True) (fuel := 2) h28 (by kernel_rfl) rfl (by kernel_rfl) (by kernel_rfl) ⟨rfl, trivial⟩ ⟨⟨rfl, rfl⟩, trivial⟩ fun a29 h30 => ?_
  clear h28
  refine dr_read (i := 5) (b := Z.tb) (p := 4) (v := .pointer (some ⟨(Z.tp x), 0, none⟩)) (fuel := 1) (by repeat (first | with_reducible exact PF.body | with_reducible apply PF.inB | with_reducible apply PF.next)) h30 rfl rfl rfl (by kernel_rfl) (by kernel_rfl) (by kernel_rfl) rfl (rd_T h30 (x := x) hx rfl rfl rfl) ?_
  have h31 := h30.put (d := some 51) (v := .pointer (some ⟨(Z.tp x), 0, none⟩)) (T' := [(51, .pointer (some ⟨(Z.tp x), 0, none⟩)), (49, .map (some Z.tb)), (6, .pointer (some ⟨b14, 0, none⟩)), (3, .pointer (some ⟨b2, 0, none⟩)), (0, .pointer (some ⟨mb, 0, none⟩)), (1, .agg #[.int .u8 13, .int .u32 ev.pick, .int .u64 ev.draw, .int .u32 ev.addr, .int .u32 ev.node, .int .u32 ev.dst, .int .u32 ev.xfer, .int .u8 ev.ty, .int .u64 ev.arg, .int .u64 ev.badge, .slice xo ev.ws.length cx]), (4, .int .u8 0), (5, .bool false), (50, .agg #[.int .u16 ((Z.ky x).idx), .int .u32 ((Z.ky x).gen)])]) rfl
  clear h30
  refine dr_batch tabOk2 tabZ_ok2 (by repeat (first | with_reducible exact PF.body | with_reducible apply PF.inB | with_reducible apply PF.next)) [(6, {})] [6, 3, 0, 1, 4, 5, 7] (T' := [(6, .pointer (some ⟨b14, 0, none⟩)), (3, .pointer (some ⟨b2, 0, none⟩)), (0, .pointer (some ⟨mb, 0, none⟩)), (1, .agg #[.int .u8 13, .int .u32 ev.pick, .int .u64 ev.draw, .int .u32 ev.addr, .int .u32 ev.node, .int .u32 ev.dst, .int .u32 ev.xfer, .int .u8 ev.ty, .int .u64 ev.arg, .int .u64 ev.badge, .slice xo ev.ws.length cx]), (4, .int .u8 0), (5, .bool false), (7, .pointer (some ⟨(Z.tp x), 0, none⟩))]) (φ := True) (fuel := 0) h31 (by kernel_rfl) rfl (by kernel_rfl) (by kernel_rfl) ⟨trivial, trivial⟩ trivial fun a32 h33 => ?_
  clear h31
  refine wpAnyK_done (by kernel_rfl) ?_ _
  refine hK22 _ _ ?_
  clear hK22
  refine wp_seq_k fun K34 hK34 => ?_
  refine wp_seq_k fun K35 hK35 => ?_
  refine nd_start (l := [0, 1]) rfl ?_
  refine nd_batch tabOk2 tabZ_ok2 [(0, {}), (1, {k := 1})] [6, 3, 0, 1, 4, 5, 7, 53] (T' := [(6, .pointer (some ⟨b14, 0, none⟩)), (3, .pointer (some ⟨b2, 0, none⟩)), (0, .pointer (some ⟨mb, 0, none⟩)), (1, .agg #[.int .u8 13, .int .u32 ev.pick, .int .u64 ev.draw, .int .u32 ev.addr, .int .u32 ev.node, .int .u32 ev.dst, .int .u32 ev.xfer, .int .u8 ev.ty, .int .u64 ev.arg, .int .u64 ev.badge, .slice xo ev.ws.length cx]), (4, .int .u8 0), (5, .bool false), (7, .pointer (some ⟨(Z.tp x), 0, none⟩)), (53, .int .u8 13)]) (φ := (b2 = b2 ∧ Nat.ble (0 + 1) 11 = true) ∧ True) (rest := []) h33 (by kernel_rfl) rfl ⟨⟨rfl, rfl⟩, trivial⟩ fun a36 h37 => ?_
  clear h33
  refine nd_done ?_
  refine hK35 _ _ ?_
  clear hK35
  refine wp_block ?_
  refine wp_seq_k fun K38 hK38 => ?_
  refine nd_start (l := [0, 1]) rfl ?_
  refine nd_batch tabOk2 tabZ_ok2 [(0, {}), (1, {})] [6, 3, 0, 1, 4, 5, 7, 53, 54] (T' := [(6, .pointer (some ⟨b14, 0, none⟩)), (3, .pointer (some ⟨b2, 0, none⟩)), (0, .pointer (some ⟨mb, 0, none⟩)), (1, .agg #[.int .u8 13, .int .u32 ev.pick, .int .u64 ev.draw, .int .u32 ev.addr, .int .u32 ev.node, .int .u32 ev.dst, .int .u32 ev.xfer, .int .u8 ev.ty, .int .u64 ev.arg, .int .u64 ev.badge, .slice xo ev.ws.length cx]), (4, .int .u8 0), (5, .bool false), (7, .pointer (some ⟨(Z.tp x), 0, none⟩)), (53, .int .u8 13), (54, .bool false)]) (φ := True) (rest := []) h37 (by kernel_rfl) rfl trivial fun a39 h40 => ?_
  clear h37
  refine nd_done ?_
  refine hK38 _ _ ?_
  clear hK38
  refine c_false h40 rfl ?_
  refine wp_seq_k fun K41 hK41 => ?_
  refine nd_start (l := [0, 1]) rfl ?_
  refine nd_batch tabOk2 tabZ_ok2 [(0, {}), (1, {})] [6, 3, 0, 1, 4, 5, 7, 53, 59] (T' := [(6, .pointer (some ⟨b14, 0, none⟩)), (3, .pointer (some ⟨b2, 0, none⟩)), (0, .pointer (some ⟨mb, 0, none⟩)), (1, .agg #[.int .u8 13, .int .u32 ev.pick, .int .u64 ev.draw, .int .u32 ev.addr, .int .u32 ev.node, .int .u32 ev.dst, .int .u32 ev.xfer, .int .u8 ev.ty, .int .u64 ev.arg, .int .u64 ev.badge, .slice xo ev.ws.length cx]), (4, .int .u8 0), (5, .bool false), (7, .pointer (some ⟨(Z.tp x), 0, none⟩)), (53, .int .u8 13), (59, .bool false)]) (φ := True) (rest := []) h40 (by kernel_rfl) rfl trivial fun a42 h43 => ?_
  clear h40
  refine nd_done ?_
  refine hK41 _ _ ?_
  clear hK41
  refine c_false h43 rfl ?_
  refine wp_seq_k fun K44 hK44 => ?_
  refine wp_seq_k fun K45 hK45 => ?_
  refine nd_start (l := [0, 1]) rfl ?_
  refine nd_batch tabOk2 tabZ_ok2 [(0, {}), (1, {})] [6, 3, 0, 1, 4, 5, 7, 53, 66] (T' := [(6, .pointer (some ⟨b14, 0, none⟩)), (3, .pointer (some ⟨b2, 0, none⟩)), (0, .pointer (some ⟨mb, 0, none⟩)), (1, .agg #[.int .u8 13, .int .u32 ev.pick, .int .u64 ev.draw, .int .u32 ev.addr, .int .u32 ev.node, .int .u32 ev.dst, .int .u32 ev.xfer, .int .u8 ev.ty, .int .u64 ev.arg, .int .u64 ev.badge, .slice xo ev.ws.length cx]), (4, .int .u8 0), (5, .bool false), (7, .pointer (some ⟨(Z.tp x), 0, none⟩)), (53, .int .u8 13), (66, .bool false)]) (φ := True) (rest := []) h43 (by kernel_rfl) rfl trivial fun a46 h47 => ?_
  clear h43
  refine nd_done ?_
  refine hK45 _ _ ?_
  clear hK45
  refine c_false h47 rfl ?_
  refine nd_start (l := [0, 1]) rfl ?_
  refine nd_batch tabOk2 tabZ_ok2 [(0, {}), (1, {})] [6, 3, 0, 1, 4, 5, 7, 53, 66] (T' := [(6, .pointer (some ⟨b14, 0, none⟩)), (3, .pointer (some ⟨b2, 0, none⟩)), (0, .pointer (some ⟨mb, 0, none⟩)), (1, .agg #[.int .u8 13, .int .u32 ev.pick, .int .u64 ev.draw, .int .u32 ev.addr, .int .u32 ev.node, .int .u32 ev.dst, .int .u32 ev.xfer, .int .u8 ev.ty, .int .u64 ev.arg, .int .u64 ev.badge, .slice xo ev.ws.length cx]), (4, .int .u8 0), (5, .bool false), (7, .pointer (some ⟨(Z.tp x), 0, none⟩)), (53, .int .u8 13), (66, .bool false)]) (φ := True) (rest := []) h47 (by kernel_rfl) rfl trivial fun a48 h49 => ?_
  clear h47
  refine nd_done ?_
  refine hK44 _ _ ?_
  clear hK44
  refine c_false h49 rfl ?_
  refine wp_seq_k fun K50 hK50 => ?_
  refine nd_start (l := [0, 1]) rfl ?_
  refine nd_batch tabOk2 tabZ_ok2 [(0, {}), (1, {})] [6, 3, 0, 1, 4, 5, 7, 53, 66, 129] (T' := [(6, .pointer (some ⟨b14, 0, none⟩)), (3, .pointer (some ⟨b2, 0, none⟩)), (0, .pointer (some ⟨mb, 0, none⟩)), (1, .agg #[.int .u8 13, .int .u32 ev.pick, .int .u64 ev.draw, .int .u32 ev.addr, .int .u32 ev.node, .int .u32 ev.dst, .int .u32 ev.xfer, .int .u8 ev.ty, .int .u64 ev.arg, .int .u64 ev.badge, .slice xo ev.ws.length cx]), (4, .int .u8 0), (5, .bool false), (7, .pointer (some ⟨(Z.tp x), 0, none⟩)), (53, .int .u8 13), (66, .bool false), (129, .bool false)]) (φ := True) (rest := []) h49 (by kernel_rfl) rfl trivial fun a51 h52 => ?_
  clear h49
  refine nd_done ?_
  refine hK50 _ _ ?_
  clear hK50
  refine c_false h52 rfl ?_
  refine wp_seq_k fun K53 hK53 => ?_
  refine nd_start (l := [0, 1]) rfl ?_
  refine nd_batch tabOk2 tabZ_ok2 [(0, {}), (1, {})] [6, 3, 0, 1, 4, 5, 7, 53, 66, 165] (T' := [(6, .pointer (some ⟨b14, 0, none⟩)), (3, .pointer (some ⟨b2, 0, none⟩)), (0, .pointer (some ⟨mb, 0, none⟩)), (1, .agg #[.int .u8 13, .int .u32 ev.pick, .int .u64 ev.draw, .int .u32 ev.addr, .int .u32 ev.node, .int .u32 ev.dst, .int .u32 ev.xfer, .int .u8 ev.ty, .int .u64 ev.arg, .int .u64 ev.badge, .slice xo ev.ws.length cx]), (4, .int .u8 0), (5, .bool false), (7, .pointer (some ⟨(Z.tp x), 0, none⟩)), (53, .int .u8 13), (66, .bool false), (165, .bool false)]) (φ := True) (rest := []) h52 (by kernel_rfl) rfl trivial fun a54 h55 => ?_
  clear h52
  refine nd_done ?_
  refine hK53 _ _ ?_
  clear hK53
  refine c_false h55 rfl ?_
  refine wp_seq_k fun K56 hK56 => ?_
  refine nd_start (l := [0, 1]) rfl ?_
  refine nd_batch tabOk2 tabZ_ok2 [(0, {}), (1, {})] [6, 3, 0, 1, 4, 5, 7, 53, 66, 226] (T' := [(6, .pointer (some ⟨b14, 0, none⟩)), (3, .pointer (some ⟨b2, 0, none⟩)), (0, .pointer (some ⟨mb, 0, none⟩)), (1, .agg #[.int .u8 13, .int .u32 ev.pick, .int .u64 ev.draw, .int .u32 ev.addr, .int .u32 ev.node, .int .u32 ev.dst, .int .u32 ev.xfer, .int .u8 ev.ty, .int .u64 ev.arg, .int .u64 ev.badge, .slice xo ev.ws.length cx]), (4, .int .u8 0), (5, .bool false), (7, .pointer (some ⟨(Z.tp x), 0, none⟩)), (53, .int .u8 13), (66, .bool false), (226, .bool false)]) (φ := True) (rest := []) h55 (by kernel_rfl) rfl trivial fun a57 h58 => ?_
  clear h55
  refine nd_done ?_
  refine hK56 _ _ ?_
  clear hK56
  refine c_false h58 rfl ?_
  refine wp_seq_k fun K59 hK59 => ?_
  refine nd_start (l := [0, 1]) rfl ?_
  refine nd_batch tabOk2 tabZ_ok2 [(0, {}), (1, {})] [6, 3, 0, 1, 4, 5, 7, 53, 66, 244] (T' := [(6, .pointer (some ⟨b14, 0, none⟩)), (3, .pointer (some ⟨b2, 0, none⟩)), (0, .pointer (some ⟨mb, 0, none⟩)), (1, .agg #[.int .u8 13, .int .u32 ev.pick, .int .u64 ev.draw, .int .u32 ev.addr, .int .u32 ev.node, .int .u32 ev.dst, .int .u32 ev.xfer, .int .u8 ev.ty, .int .u64 ev.arg, .int .u64 ev.badge, .slice xo ev.ws.length cx]), (4, .int .u8 0), (5, .bool false), (7, .pointer (some ⟨(Z.tp x), 0, none⟩)), (53, .int .u8 13), (66, .bool false), (244, .bool false)]) (φ := True) (rest := []) h58 (by kernel_rfl) rfl trivial fun a60 h61 => ?_
  clear h58
  refine nd_done ?_
  refine hK59 _ _ ?_
  clear hK59
  refine c_false h61 rfl ?_
  refine wp_seq_k fun K62 hK62 => ?_
  refine nd_start (l := [0, 1]) rfl ?_
  refine nd_batch tabOk2 tabZ_ok2 [(0, {}), (1, {})] [6, 3, 0, 1, 4, 5, 7, 53, 66, 285] (T' := [(6, .pointer (some ⟨b14, 0, none⟩)), (3, .pointer (some ⟨b2, 0, none⟩)), (0, .pointer (some ⟨mb, 0, none⟩)), (1, .agg #[.int .u8 13, .int .u32 ev.pick, .int .u64 ev.draw, .int .u32 ev.addr, .int .u32 ev.node, .int .u32 ev.dst, .int .u32 ev.xfer, .int .u8 ev.ty, .int .u64 ev.arg, .int .u64 ev.badge, .slice xo ev.ws.length cx]), (4, .int .u8 0), (5, .bool false), (7, .pointer (some ⟨(Z.tp x), 0, none⟩)), (53, .int .u8 13), (66, .bool false), (285, .bool false)]) (φ := True) (rest := []) h61 (by kernel_rfl) rfl trivial fun a63 h64 => ?_
  clear h61
  refine nd_done ?_
  refine hK62 _ _ ?_
  clear hK62
  refine c_false h64 rfl ?_
  refine wp_seq_k fun K65 hK65 => ?_
  refine nd_start (l := [0, 1]) rfl ?_
  refine nd_batch tabOk2 tabZ_ok2 [(0, {}), (1, {})] [6, 3, 0, 1, 4, 5, 7, 53, 66, 388] (T' := [(6, .pointer (some ⟨b14, 0, none⟩)), (3, .pointer (some ⟨b2, 0, none⟩)), (0, .pointer (some ⟨mb, 0, none⟩)), (1, .agg #[.int .u8 13, .int .u32 ev.pick, .int .u64 ev.draw, .int .u32 ev.addr, .int .u32 ev.node, .int .u32 ev.dst, .int .u32 ev.xfer, .int .u8 ev.ty, .int .u64 ev.arg, .int .u64 ev.badge, .slice xo ev.ws.length cx]), (4, .int .u8 0), (5, .bool false), (7, .pointer (some ⟨(Z.tp x), 0, none⟩)), (53, .int .u8 13), (66, .bool false), (388, .bool false)]) (φ := True) (rest := []) h64 (by kernel_rfl) rfl trivial fun a66 h67 => ?_
  clear h64
  refine nd_done ?_
  refine hK65 _ _ ?_
  clear hK65
  refine c_false h67 rfl ?_
  refine wp_seq_k fun K68 hK68 => ?_
  refine wp_seq_k fun K69 hK69 => ?_
  refine nd_start (l := [0, 1]) rfl ?_
  refine nd_batch tabOk2 tabZ_ok2 [(0, {}), (1, {})] [6, 3, 0, 1, 4, 5, 7, 53, 66, 437] (T' := [(6, .pointer (some ⟨b14, 0, none⟩)), (3, .pointer (some ⟨b2, 0, none⟩)), (0, .pointer (some ⟨mb, 0, none⟩)), (1, .agg #[.int .u8 13, .int .u32 ev.pick, .int .u64 ev.draw, .int .u32 ev.addr, .int .u32 ev.node, .int .u32 ev.dst, .int .u32 ev.xfer, .int .u8 ev.ty, .int .u64 ev.arg, .int .u64 ev.badge, .slice xo ev.ws.length cx]), (4, .int .u8 0), (5, .bool false), (7, .pointer (some ⟨(Z.tp x), 0, none⟩)), (53, .int .u8 13), (66, .bool false), (437, .bool false)]) (φ := True) (rest := []) h67 (by kernel_rfl) rfl trivial fun a70 h71 => ?_
  clear h67
  refine nd_done ?_
  refine hK69 _ _ ?_
  clear hK69
  refine c_false h71 rfl ?_
  refine nd_start (l := [0, 1]) rfl ?_
  refine nd_batch tabOk2 tabZ_ok2 [(0, {}), (1, {})] [6, 3, 0, 1, 4, 5, 7, 53, 66, 437] (T' := [(6, .pointer (some ⟨b14, 0, none⟩)), (3, .pointer (some ⟨b2, 0, none⟩)), (0, .pointer (some ⟨mb, 0, none⟩)), (1, .agg #[.int .u8 13, .int .u32 ev.pick, .int .u64 ev.draw, .int .u32 ev.addr, .int .u32 ev.node, .int .u32 ev.dst, .int .u32 ev.xfer, .int .u8 ev.ty, .int .u64 ev.arg, .int .u64 ev.badge, .slice xo ev.ws.length cx]), (4, .int .u8 0), (5, .bool false), (7, .pointer (some ⟨(Z.tp x), 0, none⟩)), (53, .int .u8 13), (66, .bool false), (437, .bool true)]) (φ := True) (rest := []) h71 (by kernel_rfl) rfl trivial fun a72 h73 => ?_
  clear h71
  refine nd_done ?_
  refine hK68 _ _ ?_
  clear hK68
  refine c_true h73 rfl ?_
  refine wp_seq_k fun K74 hK74 => ?_
  refine nd_start (l := [0, 1, 2, 3, 4, 5, 6, 7, 8]) rfl ?_
  refine nd_batch tabOk2 tabZ_ok2 [(0, {}), (1, {}), (2, {k := 1})] [6, 3, 0, 1, 4, 5, 7, 53, 66, 437, 441, 443] (T' := [(6, .pointer (some ⟨b14, 0, none⟩)), (3, .pointer (some ⟨b2, 0, none⟩)), (0, .pointer (some ⟨mb, 0, none⟩)), (1, .agg #[.int .u8 13, .int .u32 ev.pick, .int .u64 ev.draw, .int .u32 ev.addr, .int .u32 ev.node, .int .u32 ev.dst, .int .u32 ev.xfer, .int .u8 ev.ty, .int .u64 ev.arg, .int .u64 ev.badge, .slice xo ev.ws.length cx]), (4, .int .u8 0), (5, .bool false), (7, .pointer (some ⟨(Z.tp x), 0, none⟩)), (53, .int .u8 13), (66, .bool false), (437, .bool true), (441, .pointer (some ⟨mb, 0, none⟩)), (443, .int .u32 ev.addr)]) (φ := (b2 = b2 ∧ Nat.ble (3 + 1) 11 = true) ∧ True) (rest := [3, 4, 5, 6, 7, 8]) h73 (by kernel_rfl) rfl ⟨⟨rfl, rfl⟩, trivial⟩ fun a75 h76 => ?_
  clear h73
  refine nd_op ?_
  refine op_call h76 rfl rfl rfl (callOk Tryd.func93 (by decide) rfl) (args := [.pointer (some ⟨mb, 0, none⟩), .int .u32 ev.addr]) rfl (cellOf_ok mb Z _ a C x hx hcx hci ev.addr he.addr e1 _ (mh_of h76 hho (k := 0) rfl)) ?_
  rintro _ w77 ⟨rfl, hg79⟩
  refine ⟨_, rfl, ?_⟩
  have h80a := st_mg h76 hg79 (kcons (fun _ => rfl) (kcons (fun hq => by cases hq) (kcons (fun hq => by cases hq) knil)))
  have h80 := h80a.put (d := some 444) (v := .tuple #[.int .i64 s1, .int .u8 0]) (T' := [(444, .tuple #[.int .i64 s1, .int .u8 0]), (6, .pointer (some ⟨b14, 0, none⟩)), (3, .pointer (some ⟨b2, 0, none⟩)), (0, .pointer (some ⟨mb, 0, none⟩)), (1, .agg #[.int .u8 13, .int .u32 ev.pick, .int .u64 ev.draw, .int .u32 ev.addr, .int .u32 ev.node, .int .u32 ev.dst, .int .u32 ev.xfer, .int .u8 ev.ty, .int .u64 ev.arg, .int .u64 ev.badge, .slice xo ev.ws.length cx]), (4, .int .u8 0), (5, .bool false), (7, .pointer (some ⟨(Z.tp x), 0, none⟩)), (53, .int .u8 13), (66, .bool false), (437, .bool true), (441, .pointer (some ⟨mb, 0, none⟩)), (443, .int .u32 ev.addr)]) rfl
  have hhoh80 := hg79.mh.ho
  clear h76 h80a
  refine nd_batch tabOk2 tabZ_ok2 [(4, {}), (5, {}), (6, {}), (7, {}), (8, {})] [6, 3, 0, 1, 4, 5, 7, 53, 66, 437, 31, 32] (T' := [(6, .pointer (some ⟨b14, 0, none⟩)), (3, .pointer (some ⟨b2, 0, none⟩)), (0, .pointer (some ⟨mb, 0, none⟩)), (1, .agg #[.int .u8 13, .int .u32 ev.pick, .int .u64 ev.draw, .int .u32 ev.addr, .int .u32 ev.node, .int .u32 ev.dst, .int .u32 ev.xfer, .int .u8 ev.ty, .int .u64 ev.arg, .int .u64 ev.badge, .slice xo ev.ws.length cx]), (4, .int .u8 0), (5, .bool false), (7, .pointer (some ⟨(Z.tp x), 0, none⟩)), (53, .int .u8 13), (66, .bool false), (437, .bool true), (31, .int .i64 s1), (32, .int .u8 0)]) (φ := True) (rest := []) h80 (by kernel_rfl) rfl trivial fun a81 h82 => ?_
  clear h80
  refine nd_done ?_
  refine hK74 _ _ ?_
  clear hK74
  refine wp_seq_k fun K83 hK83 => ?_
  refine wp_seq_k fun K84 hK84 => ?_
  refine nd_start (l := [0, 1]) rfl ?_
  refine nd_batch tabOk2 tabZ_ok2 [(0, {}), (1, {})] [6, 3, 0, 1, 4, 5, 7, 53, 66, 437, 31, 32, 448] (T' := [(6, .pointer (some ⟨b14, 0, none⟩)), (3, .pointer (some ⟨b2, 0, none⟩)), (0, .pointer (some ⟨mb, 0, none⟩)), (1, .agg #[.int .u8 13, .int .u32 ev.pick, .int .u64 ev.draw, .int .u32 ev.addr, .int .u32 ev.node, .int .u32 ev.dst, .int .u32 ev.xfer, .int .u8 ev.ty, .int .u64 ev.arg, .int .u64 ev.badge, .slice xo ev.ws.length cx]), (4, .int .u8 0), (5, .bool false), (7, .pointer (some ⟨(Z.tp x), 0, none⟩)), (53, .int .u8 13), (66, .bool false), (437, .bool true), (31, .int .i64 s1), (32, .int .u8 0), (448, .bool false)]) (φ := True) (rest := []) h82 (by kernel_rfl) rfl trivial fun a85 h86 => ?_
  clear h82
  refine nd_done ?_
  refine hK84 _ _ ?_
  clear hK84
  refine c_false h86 rfl ?_
  refine wp_skip ?_
  refine hK83 _ _ ?_
  clear hK83
  refine wp_seq_k fun K87 hK87 => ?_
  refine wp_seq_k fun K88 hK88 => ?_
  refine nd_start (l := [0, 1, 2, 3, 4, 5, 6, 7]) rfl ?_
  refine nd_batch tabOk2 tabZ_ok2 [(0, {}), (1, {}), (2, {})] [6, 3, 0, 1, 4, 5, 7, 53, 66, 437, 31, 32, 452] (T' := [(6, .pointer (some ⟨b14, 0, none⟩)), (3, .pointer (some ⟨b2, 0, none⟩)), (0, .pointer (some ⟨mb, 0, none⟩)), (1, .agg #[.int .u8 13, .int .u32 ev.pick, .int .u64 ev.draw, .int .u32 ev.addr, .int .u32 ev.node, .int .u32 ev.dst, .int .u32 ev.xfer, .int .u8 ev.ty, .int .u64 ev.arg, .int .u64 ev.badge, .slice xo ev.ws.length cx]), (4, .int .u8 0), (5, .bool false), (7, .pointer (some ⟨(Z.tp x), 0, none⟩)), (53, .int .u8 13), (66, .bool false), (437, .bool true), (31, .int .i64 s1), (32, .int .u8 0), (452, .pointer (some ⟨mb, 1, none⟩))]) (φ := True) (rest := [3, 4, 5, 6, 7]) h86 (by kernel_rfl) rfl trivial fun a89 h90 => ?_
  clear h86
  refine nd_op ?_
  refine op_read (b := mb) (v := .pointer (some ⟨Z.mc, 0, none⟩)) h90 rfl rfl (rd_m h90 (k := 1) (v := .pointer (some ⟨Z.mc, 0, none⟩)) rfl rfl rfl rfl (md_p ⟨rfl, trivial⟩)) ?_
  have h91 := h90.put (d := some 453) (v := .pointer (some ⟨Z.mc, 0, none⟩)) (T' := [(453, .pointer (some ⟨Z.mc, 0, none⟩)), (6, .pointer (some ⟨b14, 0, none⟩)), (3, .pointer (some ⟨b2, 0, none⟩)), (0, .pointer (some ⟨mb, 0, none⟩)), (1, .agg #[.int .u8 13, .int .u32 ev.pick, .int .u64 ev.draw, .int .u32 ev.addr, .int .u32 ev.node, .int .u32 ev.dst, .int .u32 ev.xfer, .int .u8 ev.ty, .int .u64 ev.arg, .int .u64 ev.badge, .slice xo ev.ws.length cx]), (4, .int .u8 0), (5, .bool false), (7, .pointer (some ⟨(Z.tp x), 0, none⟩)), (53, .int .u8 13), (66, .bool false), (437, .bool true), (31, .int .i64 s1), (32, .int .u8 0), (452, .pointer (some ⟨mb, 1, none⟩))]) rfl
  clear h90
  refine nd_batch tabOk2 tabZ_ok2 [(4, {})] [453, 6, 3, 0, 1, 4, 5, 7, 53, 66, 437, 31, 32, 454] (T' := [(453, .pointer (some ⟨Z.mc, 0, none⟩)), (6, .pointer (some ⟨b14, 0, none⟩)), (3, .pointer (some ⟨b2, 0, none⟩)), (0, .pointer (some ⟨mb, 0, none⟩)), (1, .agg #[.int .u8 13, .int .u32 ev.pick, .int .u64 ev.draw, .int .u32 ev.addr, .int .u32 ev.node, .int .u32 ev.dst, .int .u32 ev.xfer, .int .u8 ev.ty, .int .u64 ev.arg, .int .u64 ev.badge, .slice xo ev.ws.length cx]), (4, .int .u8 0), (5, .bool false), (7, .pointer (some ⟨(Z.tp x), 0, none⟩)), (53, .int .u8 13), (66, .bool false), (437, .bool true), (31, .int .i64 s1), (32, .int .u8 0), (454, .int .i64 s1)]) (φ := True) (rest := [5, 6, 7]) h91 (by kernel_rfl) rfl trivial fun a92 h93 => ?_
  clear h91
  refine nd_op ?_
  obtain ⟨i1, j1, hi1, hj1, hp1, hs1⟩ := look_fact hI.ci hci.1 he.addr.1 e1 rfl
  refine op_call h93 rfl rfl rfl (callOk Tryd.func62 (by decide) rfl) (args := [.pointer (some ⟨Z.mc, 0, none⟩), .int .i64 s1]) rfl (atE Z.mo Z.mc Z.nd C hi1 hj1 hp1 hs1 _ h93.inv.1.cp) ?_
  rintro _ w94 ⟨rfl, hf96⟩
  refine ⟨_, rfl, ?_⟩
  have h95 := (h93.grow hf96).put (d := some 455) (v := .agg #[.int .u8 ((C.cel s1.toNat).cap.ty), .int .u16 ((C.cel s1.toNat).cap.obj.idx), .int .u32 ((C.cel s1.toNat).cap.obj.gen), .int .u8 ((C.cel s1.toNat).cap.rights), .int .u64 ((C.cel s1.toNat).cap.badge)]) (T' := [(455, .agg #[.int .u8 ((C.cel s1.toNat).cap.ty), .int .u16 ((C.cel s1.toNat).cap.obj.idx), .int .u32 ((C.cel s1.toNat).cap.obj.gen), .int .u8 ((C.cel s1.toNat).cap.rights), .int .u64 ((C.cel s1.toNat).cap.badge)]), (453, .pointer (some ⟨Z.mc, 0, none⟩)), (6, .pointer (some ⟨b14, 0, none⟩)), (3, .pointer (some ⟨b2, 0, none⟩)), (0, .pointer (some ⟨mb, 0, none⟩)), (1, .agg #[.int .u8 13, .int .u32 ev.pick, .int .u64 ev.draw, .int .u32 ev.addr, .int .u32 ev.node, .int .u32 ev.dst, .int .u32 ev.xfer, .int .u8 ev.ty, .int .u64 ev.arg, .int .u64 ev.badge, .slice xo ev.ws.length cx]), (4, .int .u8 0), (5, .bool false), (7, .pointer (some ⟨(Z.tp x), 0, none⟩)), (53, .int .u8 13), (66, .bool false), (437, .bool true), (31, .int .i64 s1), (32, .int .u8 0), (454, .int .i64 s1)]) rfl
  clear h93
  refine nd_batch tabOk2 tabZ_ok2 [(6, {}), (7, {})] [6, 3, 0, 1, 4, 5, 7, 53, 66, 437, 31, 32, 457] (T' := [(6, .pointer (some ⟨b14, 0, none⟩)), (3, .pointer (some ⟨b2, 0, none⟩)), (0, .pointer (some ⟨mb, 0, none⟩)), (1, .agg #[.int .u8 13, .int .u32 ev.pick, .int .u64 ev.draw, .int .u32 ev.addr, .int .u32 ev.node, .int .u32 ev.dst, .int .u32 ev.xfer, .int .u8 ev.ty, .int .u64 ev.arg, .int .u64 ev.badge, .slice xo ev.ws.length cx]), (4, .int .u8 0), (5, .bool false), (7, .pointer (some ⟨(Z.tp x), 0, none⟩)), (53, .int .u8 13), (66, .bool false), (437, .bool true), (31, .int .i64 s1), (32, .int .u8 0), (457, .bool ((C.cel s1.toNat).cap.ty == 0))]) (φ := True) (rest := []) h95 (by kernel_rfl) rfl trivial fun a97 h98 => ?_
  clear h95
  refine nd_done ?_
  refine hK88 _ _ ?_
  clear hK88
  refine c_split h98 (b := ((C.cel s1.toNat).cap.ty == 0)) rfl (fun hc99 => ?_) (fun hc99 => ?_)
  ·
    have hc99f : (C.cel s1.toNat).cap.ty = 0 := by simpa using hc99
    refine wp_seq_k fun K100 hK100 => ?_
    refine nd_start (l := [0, 1]) rfl ?_
    refine nd_batch tabOk2 tabZ_ok2 [(0, {}), (1, {})] [6, 3, 0, 1, 7, 53, 66, 437, 31, 32, 4, 5] (T' := [(6, .pointer (some ⟨b14, 0, none⟩)), (3, .pointer (some ⟨b2, 0, none⟩)), (0, .pointer (some ⟨mb, 0, none⟩)), (1, .agg #[.int .u8 13, .int .u32 ev.pick, .int .u64 ev.draw, .int .u32 ev.addr, .int .u32 ev.node, .int .u32 ev.dst, .int .u32 ev.xfer, .int .u8 ev.ty, .int .u64 ev.arg, .int .u64 ev.badge, .slice xo ev.ws.length cx]), (7, .pointer (some ⟨(Z.tp x), 0, none⟩)), (53, .int .u8 13), (66, .bool false), (437, .bool true), (31, .int .i64 s1), (32, .int .u8 0), (4, .int .u8 3), (5, .bool false)]) (φ := True) (rest := []) h98 (by kernel_rfl) rfl trivial fun a101 h102 => ?_
    clear h98
    refine nd_done ?_
    refine hK100 _ _ ?_
    clear hK100
    refine wp_ret ?_
    try simp only [Exit.then, Exit.inBlock]
    try rw [if_pos trivial]
    exact s_ret tabOk2 tabZ_ok2 h102 [(.tmp 4, {}), (.tmp 5, {})] (vs := [.int .u8 3, .bool false]) (φ := True) rfl (by kernel_rfl) trivial ⟨rfl, _, mg_end hH h102 hhoh80 rfl⟩
  ·
    have hc99f : (C.cel s1.toNat).cap.ty ≠ 0 := by simpa using hc99
    exact absurd (hz2) (by first | exact hc99f | (intro hz; exact hc99f hz) | omega | simp_all)

theorem call13e (mb : Nat) (Z : MZ) (R : MR) (a : AK) (C : CP) (hI : MI Z a C) (x : Nat) (hx : x ∈ sl Z.tl) (hcu : a.cur = (x : Int)) (ev : Ev) (he : EvOk ev) (xo : Option Addr) (cx : Nat) (s1 : Int) (e1 : lookP C.ent (a.th x).cs ev.addr = (s1, 0)) (hz2 : ¬ (C.cel s1.toNat).cap.ty = 0) (C1 : CP) (dead : List Cp) (hdr : revokeP 4097 C s1 [] = (C1, dead)) (hdlen : dead.length < 1000000) (hd0 : dead = []) (hfa : FAll C1.ent (Z, a) dead) (w : World) (hH : MH mb Z R a C w) (hws : WordsAt (mdF mb Z R C) w xo ev.ws) :
    Calls Tryd.prog 55 #[.pointer (some ⟨mb, 0, none⟩), .agg #[.int .u8 13, .int .u32 ev.pick, .int .u64 ev.draw, .int .u32 ev.addr, .int .u32 ev.node, .int .u32 ev.dst, .int .u32 ev.xfer, .int .u8 ev.ty, .int .u64 ev.arg, .int .u64 ev.badge, .slice xo ev.ws.length cx]] w fun e w' => e = .returned (.tuple #[.int .u8 0, .bool false]) ∧ ∃ R', MG mb Z R C w (dead.foldl (forgetM C1.ent) (Z, a)).1 R' (dead.foldl (forgetM C1.ent) (Z, a)).2 C1 w' := by
  have hP := hI.mp
  have hcx : curR Z a = Z.ky x := curR_of hcu
  have hcn : a.cur.toNat = x := by rw [hcu]; exact Int.toNat_natCast x
  have hci := (hI.tk x hx).ci
  obtain ⟨ty3, hg3⟩ := hH.g3
  have hho := hH.ho
  have hkk := hH.md.k
  refine enter (n := 628) (K := mdF mb Z R C) (A := MD (mdF mb Z R C) w.heap.size mb Z R a C) (F := mdF mb Z R C) (T := [(0, .pointer (some ⟨mb, 0, none⟩)), (1, .agg #[.int .u8 13, .int .u32 ev.pick, .int .u64 ev.draw, .int .u32 ev.addr, .int .u32 ev.node, .int .u32 ev.dst, .int .u32 ev.xfer, .int .u8 ev.ty, .int .u64 ev.arg, .int .u64 ev.badge, .slice xo ev.ws.length cx])]) (L := [(3, ⟨[.int .u16 0, .int .u32 0], ty3, true⟩)]) (args := [.pointer (some ⟨mb, 0, none⟩), .agg #[.int .u8 13, .int .u32 ev.pick, .int .u64 ev.draw, .int .u32 ev.addr, .int .u32 ev.node, .int .u32 ev.dst, .int .u32 ev.xfer, .int .u8 ev.ty, .int .u64 ev.arg, .int .u64 ev.badge, .slice xo ev.ws.length cx]]) Tryd.func55 rfl rfl rfl rfl (kcons hg3 knil) (by simp) (kcons (by intro hq; cases hq) knil) hH.mD MD.stable hH.md.low (kcons (by intro hq; cases hq) knil) ?_
  intro ac h
  refine wp_seq_k fun K1 hK1 => ?_
  refine nd_start (l := [0, 1, 2]) rfl ?_
  refine nd_op ?_
  refine op_new tabOk2 (cells := [.int .u8 13, .int .u32 ev.pick, .int .u64 ev.draw, .int .u32 ev.addr, .int .u32 ev.node, .int .u32 ev.dst, .int .u32 ev.xfer, .int .u8 ev.ty, .int .u64 ev.arg, .int .u64 ev.badge, .slice xo ev.ws.length cx]) (ty := 35) (ln := none) (L1 := fun b2 => [(3, ⟨[.int .u16 0, .int .u32 0], ty3, true⟩), (b2, ⟨[.int .u8 13, .int .u32 ev.pick, .int .u64 ev.draw, .int .u32 ev.addr, .int .u32 ev.node, .int .u32 ev.dst, .int .u32 ev.xfer, .int .u8 ev.ty, .int .u64 ev.arg, .int .u64 ev.badge, .slice xo ev.ws.length cx], 35, false⟩)]) h rfl rfl rfl rfl (by kernel_rfl) (fun _ => rfl) fun b2 w3 a4 h5 hf6 hn7 => ?_
  clear h
  refine nd_batch tabOk2 tabZ_ok2 [(1, {}), (2, {})] [3, 0, 1, 4, 5] (T' := [(3, .pointer (some ⟨b2, 0, none⟩)), (0, .pointer (some ⟨mb, 0, none⟩)), (1, .agg #[.int .u8 13, .int .u32 ev.pick, .int .u64 ev.draw, .int .u32 ev.addr, .int .u32 ev.node, .int .u32 ev.dst, .int .u32 ev.xfer, .int .u8 ev.ty, .int .u64 ev.arg, .int .u64 ev.badge, .slice xo ev.ws.length cx]), (4, .int .u8 0), (5, .bool false)]) (φ := True) (rest := []) h5 (by kernel_rfl) rfl trivial fun a8 h9 => ?_
  clear h5
  refine nd_done ?_
  refine hK1 _ _ ?_
  clear hK1
  refine wp_seq_k fun K10 hK10 => ?_
  refine nd_start (l := [0, 1, 2, 3, 4, 5]) rfl ?_
  refine nd_batch tabOk2 tabZ_ok2 [(0, {}), (1, {}), (2, {})] [3, 0, 1, 4, 5, 44] (T' := [(3, .pointer (some ⟨b2, 0, none⟩)), (0, .pointer (some ⟨mb, 0, none⟩)), (1, .agg #[.int .u8 13, .int .u32 ev.pick, .int .u64 ev.draw, .int .u32 ev.addr, .int .u32 ev.node, .int .u32 ev.dst, .int .u32 ev.xfer, .int .u8 ev.ty, .int .u64 ev.arg, .int .u64 ev.badge, .slice xo ev.ws.length cx]), (4, .int .u8 0), (5, .bool false), (44, .pointer (some ⟨mb, 13, none⟩))]) (φ := True) (rest := [3, 4, 5]) h9 (by kernel_rfl) rfl trivial fun a11 h12 => ?_
  clear h9
  refine nd_op ?_
  refine op_read (b := mb) (v := .agg #[.int .u16 ((Z.ky x).idx), .int .u32 ((Z.ky x).gen)]) h12 rfl rfl (rd_mA h12 (k := 13) (vs := [.int .u16 ((Z.ky x).idx), .int .u32 ((Z.ky x).gen)]) rfl rfl rfl rfl rfl (by rw [← hcx]; exact md_cur)) ?_
  have h13 := h12.put (d := some 45) (v := .agg #[.int .u16 ((Z.ky x).idx), .int .u32 ((Z.ky x).gen)]) (T' := [(45, .agg #[.int .u16 ((Z.ky x).idx), .int .u32 ((Z.ky x).gen)]), (3, .pointer (some ⟨b2, 0, none⟩)), (0, .pointer (some ⟨mb, 0, none⟩)), (1, .agg #[.int .u8 13, .int .u32 ev.pick, .int .u64 ev.draw, .int .u32 ev.addr, .int .u32 ev.node, .int .u32 ev.dst, .int .u32 ev.xfer, .int .u8 ev.ty, .int .u64 ev.arg, .int .u64 ev.badge, .slice xo ev.ws.length cx]), (4, .int .u8 0), (5, .bool false), (44, .pointer (some ⟨mb, 13, none⟩))]) rfl
  clear h12
  refine nd_op ?_
  refine op_new tabOk2 (cells := [.int .u16 0, .int .u32 0]) (ty := 39) (ln := none) (L1 := fun b14 => [(3, ⟨[.int .u16 0, .int .u32 0], ty3, true⟩), (b2, ⟨[.int .u8 13, .int .u32 ev.pick, .int .u64 ev.draw, .int .u32 ev.addr, .int .u32 ev.node, .int .u32 ev.dst, .int .u32 ev.xfer, .int .u8 ev.ty, .int .u64 ev.arg, .int .u64 ev.badge, .slice xo ev.ws.length cx], 35, false⟩), (b14, ⟨[.int .u16 0, .int .u32 0], 39, false⟩)]) h13 rfl rfl rfl rfl (by kernel_rfl) (fun _ => rfl) fun b14 w15 a16 h17 hf18 hn19 => ?_
  clear h13
  refine nd_op ?_
  refine op_store tabOk2 {k := 2} (L' := [(3, ⟨[.int .u16 0, .int .u32 0], ty3, true⟩), (b2, ⟨[.int .u8 13, .int .u32 ev.pick, .int .u64 ev.draw, .int .u32 ev.addr, .int .u32 ev.node, .int .u32 ev.dst, .int .u32 ev.xfer, .int .u8 ev.ty, .int .u64 ev.arg, .int .u64 ev.badge, .slice xo ev.ws.length cx], 35, false⟩), (b14, ⟨[.int .u16 ((Z.ky x).idx), .int .u32 ((Z.ky x).gen)], 39, false⟩)]) (φ := b14 = b14 ∧ Nat.ble (0 + 2) 2 = true) h17 rfl rfl rfl (by kernel_rfl) ⟨rfl, rfl⟩ fun w20 h21 => ?_
  clear h17
  refine nd_done ?_
  refine hK10 _ _ ?_
  clear hK10
  refine wp_seq_k fun K22 hK22 => ?_
  refine dr_start (KB := [3, b2, b14, mb, Z.tb]) (Bi := [[0, 1, 2, 3, 4], [0, 1, 2, 3, 4], [0, 1, 2, 3, 4], [0, 1, 2, 3, 4], [0, 1, 2, 3, 4], [0, 1, 2, 3, 4], [0, 1, 2, 3, 4]]) mixed h21 fun w23 h24 => ?_
  clear h21
  refine dr_batch tabOk2 tabZ_ok2 (by repeat (first | with_reducible exact PF.body | with_reducible apply PF.inB | with_reducible apply PF.next)) [(0, {}), (1, {}), (2, {})] [6, 3, 0, 1, 4, 5, 48] (T' := [(6, .pointer (some ⟨b14, 0, none⟩)), (3, .pointer (some ⟨b2, 0, none⟩)), (0, .pointer (some ⟨mb, 0, none⟩)), (1, .agg #[.int .u8 13, .int .u32 ev.pick, .int .u64 ev.draw, .int .u32 ev.addr, .int .u32 ev.node, .int .u32 ev.dst, .int .u32 ev.xfer, .int .u8 ev.ty, .int .u64 ev.arg, .int .u64 ev.badge, .slice xo ev.ws.length cx]), (4, .int .u8 0), (5, .bool false), (48, .pointer (some ⟨mb, 2, none⟩))]) (φ := True) (fuel := 4) h24 (by kernel_rfl) rfl (by kernel_rfl) (by kernel_rfl) ⟨trivial, trivial, trivial, trivial⟩ trivial fun a26 h27 => ?_
  clear h24
  refine dr_read (i := 3) (b := mb) (p := 3) (v := .map (some Z.tb)) (fuel := 3) (by repeat (first | with_reducible exact PF.body | with_reducible apply PF.inB | with_reducible apply PF.next)) h27 rfl rfl rfl (by kernel_rfl) (by kernel_rfl) (by kernel_rfl) rfl (rd_m h27 (k := 2) (v := .map (some Z.tb)) rfl rfl rfl rfl (md_p ⟨rfl, trivial⟩)) ?_
  have h28 := h27.put (d := some 49) (v := .map (some Z.tb)) (T' := [(49, .map (some Z.tb)), (6, .pointer (some ⟨b14, 0, none⟩)), (3, .pointer (some ⟨b2, 0, none⟩)), (0, .pointer (some ⟨mb, 0, none⟩)), (1, .agg #[.int .u8 13, .int .u32 ev.pick, .int .u64 ev.draw, .int .u32 ev.addr, .int .u32 ev.node, .int .u32 ev.dst, .int .u32 ev.xfer, .int .u8 ev.ty, .int .u64 ev.arg, .int .u64 ev.badge, .slice xo ev.ws.length cx]), (4, .int .u8 0), (5, .bool false), (48, .pointer (some ⟨mb, 2, none⟩))]) rfl
  clear h27
  refine dr_batch tabOk2 tabZ_ok2 (by repeat (first | with_reducible exact PF.body | with_reducible apply PF.inB | with_reducible apply PF.next)) [(4, {k := 2, p := 2})] [49, 6, 3, 0, 1, 4, 5, 50] (T' := [(49, .map (some Z.tb)), (6, .pointer (some ⟨b14, 0, none⟩)), (3, .pointer (some ⟨b2, 0, none⟩)), (0, .pointer (some ⟨mb, 0, none⟩)), (1, .agg #[.int .u8 13, .int .u32 ev.pick, .int .u64 ev.draw, .int .u32 ev.addr, .int .u32 ev.node, .int .u32 ev.dst, .int .u32 ev.xfer, .int .u8 ev.ty, .int .u64 ev.arg, .int .u64 ev.badge, .slice xo ev.ws.length cx]), (4, .int .u8 0), (5, .bool false), (50, .agg #[.int .u16 ((Z.ky x).idx), .int .u32 ((Z.ky x).gen)])]) (φ := (b14 = b14 ∧ Nat.ble (0 + 2) 2 = true) ∧ True) (fuel := 2) h28 (by kernel_rfl) rfl (by kernel_rfl) (by kernel_rfl) ⟨rfl, trivial⟩ ⟨⟨rfl, rfl⟩, trivial⟩ fun a29 h30 => ?_
  clear h28
  refine dr_read (i := 5) (b := Z.tb) (p := 4) (v := .pointer (some ⟨(Z.tp x), 0, none⟩)) (fuel := 1) (by repeat (first | with_reducible exact PF.body | with_reducible apply PF.inB | with_reducible apply PF.next)) h30 rfl rfl rfl (by kernel_rfl) (by kernel_rfl) (by kernel_rfl) rfl (rd_T h30 (x := x) hx rfl rfl rfl) ?_
  have h31 := h30.put (d := some 51) (v := .pointer (some ⟨(Z.tp x), 0, none⟩)) (T' := [(51, .pointer (some ⟨(Z.tp x), 0, none⟩)), (49, .map (some Z.tb)), (6, .pointer (some ⟨b14, 0, none⟩)), (3, .pointer (some ⟨b2, 0, none⟩)), (0, .pointer (some ⟨mb, 0, none⟩)), (1, .agg #[.int .u8 13, .int .u32 ev.pick, .int .u64 ev.draw, .int .u32 ev.addr, .int .u32 ev.node, .int .u32 ev.dst, .int .u32 ev.xfer, .int .u8 ev.ty, .int .u64 ev.arg, .int .u64 ev.badge, .slice xo ev.ws.length cx]), (4, .int .u8 0), (5, .bool false), (50, .agg #[.int .u16 ((Z.ky x).idx), .int .u32 ((Z.ky x).gen)])]) rfl
  clear h30
  refine dr_batch tabOk2 tabZ_ok2 (by repeat (first | with_reducible exact PF.body | with_reducible apply PF.inB | with_reducible apply PF.next)) [(6, {})] [6, 3, 0, 1, 4, 5, 7] (T' := [(6, .pointer (some ⟨b14, 0, none⟩)), (3, .pointer (some ⟨b2, 0, none⟩)), (0, .pointer (some ⟨mb, 0, none⟩)), (1, .agg #[.int .u8 13, .int .u32 ev.pick, .int .u64 ev.draw, .int .u32 ev.addr, .int .u32 ev.node, .int .u32 ev.dst, .int .u32 ev.xfer, .int .u8 ev.ty, .int .u64 ev.arg, .int .u64 ev.badge, .slice xo ev.ws.length cx]), (4, .int .u8 0), (5, .bool false), (7, .pointer (some ⟨(Z.tp x), 0, none⟩))]) (φ := True) (fuel := 0) h31 (by kernel_rfl) rfl (by kernel_rfl) (by kernel_rfl) ⟨trivial, trivial⟩ trivial fun a32 h33 => ?_
  clear h31
  refine wpAnyK_done (by kernel_rfl) ?_ _
  refine hK22 _ _ ?_
  clear hK22
  refine wp_seq_k fun K34 hK34 => ?_
  refine wp_seq_k fun K35 hK35 => ?_
  refine nd_start (l := [0, 1]) rfl ?_
  refine nd_batch tabOk2 tabZ_ok2 [(0, {}), (1, {k := 1})] [6, 3, 0, 1, 4, 5, 7, 53] (T' := [(6, .pointer (some ⟨b14, 0, none⟩)), (3, .pointer (some ⟨b2, 0, none⟩)), (0, .pointer (some ⟨mb, 0, none⟩)), (1, .agg #[.int .u8 13, .int .u32 ev.pick, .int .u64 ev.draw, .int .u32 ev.addr, .int .u32 ev.node, .int .u32 ev.dst, .int .u32 ev.xfer, .int .u8 ev.ty, .int .u64 ev.arg, .int .u64 ev.badge, .slice xo ev.ws.length cx]), (4, .int .u8 0), (5, .bool false), (7, .pointer (some ⟨(Z.tp x), 0, none⟩)), (53, .int .u8 13)]) (φ := (b2 = b2 ∧ Nat.ble (0 + 1) 11 = true) ∧ True) (rest := []) h33 (by kernel_rfl) rfl ⟨⟨rfl, rfl⟩, trivial⟩ fun a36 h37 => ?_
  clear h33
  refine nd_done ?_
  refine hK35 _ _ ?_
  clear hK35
  refine wp_block ?_
  refine wp_seq_k fun K38 hK38 => ?_
  refine nd_start (l := [0, 1]) rfl ?_
  refine nd_batch tabOk2 tabZ_ok2 [(0, {}), (1, {})] [6, 3, 0, 1, 4, 5, 7, 53, 54] (T' := [(6, .pointer (some ⟨b14, 0, none⟩)), (3, .pointer (some ⟨b2, 0, none⟩)), (0, .pointer (some ⟨mb, 0, none⟩)), (1, .agg #[.int .u8 13, .int .u32 ev.pick, .int .u64 ev.draw, .int .u32 ev.addr, .int .u32 ev.node, .int .u32 ev.dst, .int .u32 ev.xfer, .int .u8 ev.ty, .int .u64 ev.arg, .int .u64 ev.badge, .slice xo ev.ws.length cx]), (4, .int .u8 0), (5, .bool false), (7, .pointer (some ⟨(Z.tp x), 0, none⟩)), (53, .int .u8 13), (54, .bool false)]) (φ := True) (rest := []) h37 (by kernel_rfl) rfl trivial fun a39 h40 => ?_
  clear h37
  refine nd_done ?_
  refine hK38 _ _ ?_
  clear hK38
  refine c_false h40 rfl ?_
  refine wp_seq_k fun K41 hK41 => ?_
  refine nd_start (l := [0, 1]) rfl ?_
  refine nd_batch tabOk2 tabZ_ok2 [(0, {}), (1, {})] [6, 3, 0, 1, 4, 5, 7, 53, 59] (T' := [(6, .pointer (some ⟨b14, 0, none⟩)), (3, .pointer (some ⟨b2, 0, none⟩)), (0, .pointer (some ⟨mb, 0, none⟩)), (1, .agg #[.int .u8 13, .int .u32 ev.pick, .int .u64 ev.draw, .int .u32 ev.addr, .int .u32 ev.node, .int .u32 ev.dst, .int .u32 ev.xfer, .int .u8 ev.ty, .int .u64 ev.arg, .int .u64 ev.badge, .slice xo ev.ws.length cx]), (4, .int .u8 0), (5, .bool false), (7, .pointer (some ⟨(Z.tp x), 0, none⟩)), (53, .int .u8 13), (59, .bool false)]) (φ := True) (rest := []) h40 (by kernel_rfl) rfl trivial fun a42 h43 => ?_
  clear h40
  refine nd_done ?_
  refine hK41 _ _ ?_
  clear hK41
  refine c_false h43 rfl ?_
  refine wp_seq_k fun K44 hK44 => ?_
  refine wp_seq_k fun K45 hK45 => ?_
  refine nd_start (l := [0, 1]) rfl ?_
  refine nd_batch tabOk2 tabZ_ok2 [(0, {}), (1, {})] [6, 3, 0, 1, 4, 5, 7, 53, 66] (T' := [(6, .pointer (some ⟨b14, 0, none⟩)), (3, .pointer (some ⟨b2, 0, none⟩)), (0, .pointer (some ⟨mb, 0, none⟩)), (1, .agg #[.int .u8 13, .int .u32 ev.pick, .int .u64 ev.draw, .int .u32 ev.addr, .int .u32 ev.node, .int .u32 ev.dst, .int .u32 ev.xfer, .int .u8 ev.ty, .int .u64 ev.arg, .int .u64 ev.badge, .slice xo ev.ws.length cx]), (4, .int .u8 0), (5, .bool false), (7, .pointer (some ⟨(Z.tp x), 0, none⟩)), (53, .int .u8 13), (66, .bool false)]) (φ := True) (rest := []) h43 (by kernel_rfl) rfl trivial fun a46 h47 => ?_
  clear h43
  refine nd_done ?_
  refine hK45 _ _ ?_
  clear hK45
  refine c_false h47 rfl ?_
  refine nd_start (l := [0, 1]) rfl ?_
  refine nd_batch tabOk2 tabZ_ok2 [(0, {}), (1, {})] [6, 3, 0, 1, 4, 5, 7, 53, 66] (T' := [(6, .pointer (some ⟨b14, 0, none⟩)), (3, .pointer (some ⟨b2, 0, none⟩)), (0, .pointer (some ⟨mb, 0, none⟩)), (1, .agg #[.int .u8 13, .int .u32 ev.pick, .int .u64 ev.draw, .int .u32 ev.addr, .int .u32 ev.node, .int .u32 ev.dst, .int .u32 ev.xfer, .int .u8 ev.ty, .int .u64 ev.arg, .int .u64 ev.badge, .slice xo ev.ws.length cx]), (4, .int .u8 0), (5, .bool false), (7, .pointer (some ⟨(Z.tp x), 0, none⟩)), (53, .int .u8 13), (66, .bool false)]) (φ := True) (rest := []) h47 (by kernel_rfl) rfl trivial fun a48 h49 => ?_
  clear h47
  refine nd_done ?_
  refine hK44 _ _ ?_
  clear hK44
  refine c_false h49 rfl ?_
  refine wp_seq_k fun K50 hK50 => ?_
  refine nd_start (l := [0, 1]) rfl ?_
  refine nd_batch tabOk2 tabZ_ok2 [(0, {}), (1, {})] [6, 3, 0, 1, 4, 5, 7, 53, 66, 129] (T' := [(6, .pointer (some ⟨b14, 0, none⟩)), (3, .pointer (some ⟨b2, 0, none⟩)), (0, .pointer (some ⟨mb, 0, none⟩)), (1, .agg #[.int .u8 13, .int .u32 ev.pick, .int .u64 ev.draw, .int .u32 ev.addr, .int .u32 ev.node, .int .u32 ev.dst, .int .u32 ev.xfer, .int .u8 ev.ty, .int .u64 ev.arg, .int .u64 ev.badge, .slice xo ev.ws.length cx]), (4, .int .u8 0), (5, .bool false), (7, .pointer (some ⟨(Z.tp x), 0, none⟩)), (53, .int .u8 13), (66, .bool false), (129, .bool false)]) (φ := True) (rest := []) h49 (by kernel_rfl) rfl trivial fun a51 h52 => ?_
  clear h49
  refine nd_done ?_
  refine hK50 _ _ ?_
  clear hK50
  refine c_false h52 rfl ?_
  refine wp_seq_k fun K53 hK53 => ?_
  refine nd_start (l := [0, 1]) rfl ?_
  refine nd_batch tabOk2 tabZ_ok2 [(0, {}), (1, {})] [6, 3, 0, 1, 4, 5, 7, 53, 66, 165] (T' := [(6, .pointer (some ⟨b14, 0, none⟩)), (3, .pointer (some ⟨b2, 0, none⟩)), (0, .pointer (some ⟨mb, 0, none⟩)), (1, .agg #[.int .u8 13, .int .u32 ev.pick, .int .u64 ev.draw, .int .u32 ev.addr, .int .u32 ev.node, .int .u32 ev.dst, .int .u32 ev.xfer, .int .u8 ev.ty, .int .u64 ev.arg, .int .u64 ev.badge, .slice xo ev.ws.length cx]), (4, .int .u8 0), (5, .bool false), (7, .pointer (some ⟨(Z.tp x), 0, none⟩)), (53, .int .u8 13), (66, .bool false), (165, .bool false)]) (φ := True) (rest := []) h52 (by kernel_rfl) rfl trivial fun a54 h55 => ?_
  clear h52
  refine nd_done ?_
  refine hK53 _ _ ?_
  clear hK53
  refine c_false h55 rfl ?_
  refine wp_seq_k fun K56 hK56 => ?_
  refine nd_start (l := [0, 1]) rfl ?_
  refine nd_batch tabOk2 tabZ_ok2 [(0, {}), (1, {})] [6, 3, 0, 1, 4, 5, 7, 53, 66, 226] (T' := [(6, .pointer (some ⟨b14, 0, none⟩)), (3, .pointer (some ⟨b2, 0, none⟩)), (0, .pointer (some ⟨mb, 0, none⟩)), (1, .agg #[.int .u8 13, .int .u32 ev.pick, .int .u64 ev.draw, .int .u32 ev.addr, .int .u32 ev.node, .int .u32 ev.dst, .int .u32 ev.xfer, .int .u8 ev.ty, .int .u64 ev.arg, .int .u64 ev.badge, .slice xo ev.ws.length cx]), (4, .int .u8 0), (5, .bool false), (7, .pointer (some ⟨(Z.tp x), 0, none⟩)), (53, .int .u8 13), (66, .bool false), (226, .bool false)]) (φ := True) (rest := []) h55 (by kernel_rfl) rfl trivial fun a57 h58 => ?_
  clear h55
  refine nd_done ?_
  refine hK56 _ _ ?_
  clear hK56
  refine c_false h58 rfl ?_
  refine wp_seq_k fun K59 hK59 => ?_
  refine nd_start (l := [0, 1]) rfl ?_
  refine nd_batch tabOk2 tabZ_ok2 [(0, {}), (1, {})] [6, 3, 0, 1, 4, 5, 7, 53, 66, 244] (T' := [(6, .pointer (some ⟨b14, 0, none⟩)), (3, .pointer (some ⟨b2, 0, none⟩)), (0, .pointer (some ⟨mb, 0, none⟩)), (1, .agg #[.int .u8 13, .int .u32 ev.pick, .int .u64 ev.draw, .int .u32 ev.addr, .int .u32 ev.node, .int .u32 ev.dst, .int .u32 ev.xfer, .int .u8 ev.ty, .int .u64 ev.arg, .int .u64 ev.badge, .slice xo ev.ws.length cx]), (4, .int .u8 0), (5, .bool false), (7, .pointer (some ⟨(Z.tp x), 0, none⟩)), (53, .int .u8 13), (66, .bool false), (244, .bool false)]) (φ := True) (rest := []) h58 (by kernel_rfl) rfl trivial fun a60 h61 => ?_
  clear h58
  refine nd_done ?_
  refine hK59 _ _ ?_
  clear hK59
  refine c_false h61 rfl ?_
  refine wp_seq_k fun K62 hK62 => ?_
  refine nd_start (l := [0, 1]) rfl ?_
  refine nd_batch tabOk2 tabZ_ok2 [(0, {}), (1, {})] [6, 3, 0, 1, 4, 5, 7, 53, 66, 285] (T' := [(6, .pointer (some ⟨b14, 0, none⟩)), (3, .pointer (some ⟨b2, 0, none⟩)), (0, .pointer (some ⟨mb, 0, none⟩)), (1, .agg #[.int .u8 13, .int .u32 ev.pick, .int .u64 ev.draw, .int .u32 ev.addr, .int .u32 ev.node, .int .u32 ev.dst, .int .u32 ev.xfer, .int .u8 ev.ty, .int .u64 ev.arg, .int .u64 ev.badge, .slice xo ev.ws.length cx]), (4, .int .u8 0), (5, .bool false), (7, .pointer (some ⟨(Z.tp x), 0, none⟩)), (53, .int .u8 13), (66, .bool false), (285, .bool false)]) (φ := True) (rest := []) h61 (by kernel_rfl) rfl trivial fun a63 h64 => ?_
  clear h61
  refine nd_done ?_
  refine hK62 _ _ ?_
  clear hK62
  refine c_false h64 rfl ?_
  refine wp_seq_k fun K65 hK65 => ?_
  refine nd_start (l := [0, 1]) rfl ?_
  refine nd_batch tabOk2 tabZ_ok2 [(0, {}), (1, {})] [6, 3, 0, 1, 4, 5, 7, 53, 66, 388] (T' := [(6, .pointer (some ⟨b14, 0, none⟩)), (3, .pointer (some ⟨b2, 0, none⟩)), (0, .pointer (some ⟨mb, 0, none⟩)), (1, .agg #[.int .u8 13, .int .u32 ev.pick, .int .u64 ev.draw, .int .u32 ev.addr, .int .u32 ev.node, .int .u32 ev.dst, .int .u32 ev.xfer, .int .u8 ev.ty, .int .u64 ev.arg, .int .u64 ev.badge, .slice xo ev.ws.length cx]), (4, .int .u8 0), (5, .bool false), (7, .pointer (some ⟨(Z.tp x), 0, none⟩)), (53, .int .u8 13), (66, .bool false), (388, .bool false)]) (φ := True) (rest := []) h64 (by kernel_rfl) rfl trivial fun a66 h67 => ?_
  clear h64
  refine nd_done ?_
  refine hK65 _ _ ?_
  clear hK65
  refine c_false h67 rfl ?_
  refine wp_seq_k fun K68 hK68 => ?_
  refine wp_seq_k fun K69 hK69 => ?_
  refine nd_start (l := [0, 1]) rfl ?_
  refine nd_batch tabOk2 tabZ_ok2 [(0, {}), (1, {})] [6, 3, 0, 1, 4, 5, 7, 53, 66, 437] (T' := [(6, .pointer (some ⟨b14, 0, none⟩)), (3, .pointer (some ⟨b2, 0, none⟩)), (0, .pointer (some ⟨mb, 0, none⟩)), (1, .agg #[.int .u8 13, .int .u32 ev.pick, .int .u64 ev.draw, .int .u32 ev.addr, .int .u32 ev.node, .int .u32 ev.dst, .int .u32 ev.xfer, .int .u8 ev.ty, .int .u64 ev.arg, .int .u64 ev.badge, .slice xo ev.ws.length cx]), (4, .int .u8 0), (5, .bool false), (7, .pointer (some ⟨(Z.tp x), 0, none⟩)), (53, .int .u8 13), (66, .bool false), (437, .bool false)]) (φ := True) (rest := []) h67 (by kernel_rfl) rfl trivial fun a70 h71 => ?_
  clear h67
  refine nd_done ?_
  refine hK69 _ _ ?_
  clear hK69
  refine c_false h71 rfl ?_
  refine nd_start (l := [0, 1]) rfl ?_
  refine nd_batch tabOk2 tabZ_ok2 [(0, {}), (1, {})] [6, 3, 0, 1, 4, 5, 7, 53, 66, 437] (T' := [(6, .pointer (some ⟨b14, 0, none⟩)), (3, .pointer (some ⟨b2, 0, none⟩)), (0, .pointer (some ⟨mb, 0, none⟩)), (1, .agg #[.int .u8 13, .int .u32 ev.pick, .int .u64 ev.draw, .int .u32 ev.addr, .int .u32 ev.node, .int .u32 ev.dst, .int .u32 ev.xfer, .int .u8 ev.ty, .int .u64 ev.arg, .int .u64 ev.badge, .slice xo ev.ws.length cx]), (4, .int .u8 0), (5, .bool false), (7, .pointer (some ⟨(Z.tp x), 0, none⟩)), (53, .int .u8 13), (66, .bool false), (437, .bool true)]) (φ := True) (rest := []) h71 (by kernel_rfl) rfl trivial fun a72 h73 => ?_
  clear h71
  refine nd_done ?_
  refine hK68 _ _ ?_
  clear hK68
  refine c_true h73 rfl ?_
  refine wp_seq_k fun K74 hK74 => ?_
  refine nd_start (l := [0, 1, 2, 3, 4, 5, 6, 7, 8]) rfl ?_
  refine nd_batch tabOk2 tabZ_ok2 [(0, {}), (1, {}), (2, {k := 1})] [6, 3, 0, 1, 4, 5, 7, 53, 66, 437, 441, 443] (T' := [(6, .pointer (some ⟨b14, 0, none⟩)), (3, .pointer (some ⟨b2, 0, none⟩)), (0, .pointer (some ⟨mb, 0, none⟩)), (1, .agg #[.int .u8 13, .int .u32 ev.pick, .int .u64 ev.draw, .int .u32 ev.addr, .int .u32 ev.node, .int .u32 ev.dst, .int .u32 ev.xfer, .int .u8 ev.ty, .int .u64 ev.arg, .int .u64 ev.badge, .slice xo ev.ws.length cx]), (4, .int .u8 0), (5, .bool false), (7, .pointer (some ⟨(Z.tp x), 0, none⟩)), (53, .int .u8 13), (66, .bool false), (437, .bool true), (441, .pointer (some ⟨mb, 0, none⟩)), (443, .int .u32 ev.addr)]) (φ := (b2 = b2 ∧ Nat.ble (3 + 1) 11 = true) ∧ True) (rest := [3, 4, 5, 6, 7, 8]) h73 (by kernel_rfl) rfl ⟨⟨rfl, rfl⟩, trivial⟩ fun a75 h76 => ?_
  clear h73
  refine nd_op ?_
  refine op_call h76 rfl rfl rfl (callOk Tryd.func93 (by decide) rfl) (args := [.pointer (some ⟨mb, 0, none⟩), .int .u32 ev.addr]) rfl (cellOf_ok mb Z _ a C x hx hcx hci ev.addr he.addr e1 _ (mh_of h76 hho (k := 0) rfl)) ?_
  rintro _ w77 ⟨rfl, hg79⟩
  refine ⟨_, rfl, ?_⟩
  have h80a := st_mg h76 hg79 (kcons (fun _ => rfl) (kcons (fun hq => by cases hq) (kcons (fun hq => by cases hq) knil)))
  have h80 := h80a.put (d := some 444) (v := .tuple #[.int .i64 s1, .int .u8 0]) (T' := [(444, .tuple #[.int .i64 s1, .int .u8 0]), (6, .pointer (some ⟨b14, 0, none⟩)), (3, .pointer (some ⟨b2, 0, none⟩)), (0, .pointer (some ⟨mb, 0, none⟩)), (1, .agg #[.int .u8 13, .int .u32 ev.pick, .int .u64 ev.draw, .int .u32 ev.addr, .int .u32 ev.node, .int .u32 ev.dst, .int .u32 ev.xfer, .int .u8 ev.ty, .int .u64 ev.arg, .int .u64 ev.badge, .slice xo ev.ws.length cx]), (4, .int .u8 0), (5, .bool false), (7, .pointer (some ⟨(Z.tp x), 0, none⟩)), (53, .int .u8 13), (66, .bool false), (437, .bool true), (441, .pointer (some ⟨mb, 0, none⟩)), (443, .int .u32 ev.addr)]) rfl
  have hhoh80 := hg79.mh.ho
  clear h76 h80a
  refine nd_batch tabOk2 tabZ_ok2 [(4, {}), (5, {}), (6, {}), (7, {}), (8, {})] [6, 3, 0, 1, 4, 5, 7, 53, 66, 437, 31, 32] (T' := [(6, .pointer (some ⟨b14, 0, none⟩)), (3, .pointer (some ⟨b2, 0, none⟩)), (0, .pointer (some ⟨mb, 0, none⟩)), (1, .agg #[.int .u8 13, .int .u32 ev.pick, .int .u64 ev.draw, .int .u32 ev.addr, .int .u32 ev.node, .int .u32 ev.dst, .int .u32 ev.xfer, .int .u8 ev.ty, .int .u64 ev.arg, .int .u64 ev.badge, .slice xo ev.ws.length cx]), (4, .int .u8 0), (5, .bool false), (7, .pointer (some ⟨(Z.tp x), 0, none⟩)), (53, .int .u8 13), (66, .bool false), (437, .bool true), (31, .int .i64 s1), (32, .int .u8 0)]) (φ := True) (rest := []) h80 (by kernel_rfl) rfl trivial fun a81 h82 => ?_
  clear h80
  refine nd_done ?_
  refine hK74 _ _ ?_
  clear hK74
  refine wp_seq_k fun K83 hK83 => ?_
  refine wp_seq_k fun K84 hK84 => ?_
  refine nd_start (l := [0, 1]) rfl ?_
  refine nd_batch tabOk2 tabZ_ok2 [(0, {}), (1, {})] [6, 3, 0, 1, 4, 5, 7, 53, 66, 437, 31, 32, 448] (T' := [(6, .pointer (some ⟨b14, 0, none⟩)), (3, .pointer (some ⟨b2, 0, none⟩)), (0, .pointer (some ⟨mb, 0, none⟩)), (1, .agg #[.int .u8 13, .int .u32 ev.pick, .int .u64 ev.draw, .int .u32 ev.addr, .int .u32 ev.node, .int .u32 ev.dst, .int .u32 ev.xfer, .int .u8 ev.ty, .int .u64 ev.arg, .int .u64 ev.badge, .slice xo ev.ws.length cx]), (4, .int .u8 0), (5, .bool false), (7, .pointer (some ⟨(Z.tp x), 0, none⟩)), (53, .int .u8 13), (66, .bool false), (437, .bool true), (31, .int .i64 s1), (32, .int .u8 0), (448, .bool false)]) (φ := True) (rest := []) h82 (by kernel_rfl) rfl trivial fun a85 h86 => ?_
  clear h82
  refine nd_done ?_
  refine hK84 _ _ ?_
  clear hK84
  refine c_false h86 rfl ?_
  refine wp_skip ?_
  refine hK83 _ _ ?_
  clear hK83
  refine wp_seq_k fun K87 hK87 => ?_
  refine wp_seq_k fun K88 hK88 => ?_
  refine nd_start (l := [0, 1, 2, 3, 4, 5, 6, 7]) rfl ?_
  refine nd_batch tabOk2 tabZ_ok2 [(0, {}), (1, {}), (2, {})] [6, 3, 0, 1, 4, 5, 7, 53, 66, 437, 31, 32, 452] (T' := [(6, .pointer (some ⟨b14, 0, none⟩)), (3, .pointer (some ⟨b2, 0, none⟩)), (0, .pointer (some ⟨mb, 0, none⟩)), (1, .agg #[.int .u8 13, .int .u32 ev.pick, .int .u64 ev.draw, .int .u32 ev.addr, .int .u32 ev.node, .int .u32 ev.dst, .int .u32 ev.xfer, .int .u8 ev.ty, .int .u64 ev.arg, .int .u64 ev.badge, .slice xo ev.ws.length cx]), (4, .int .u8 0), (5, .bool false), (7, .pointer (some ⟨(Z.tp x), 0, none⟩)), (53, .int .u8 13), (66, .bool false), (437, .bool true), (31, .int .i64 s1), (32, .int .u8 0), (452, .pointer (some ⟨mb, 1, none⟩))]) (φ := True) (rest := [3, 4, 5, 6, 7]) h86 (by kernel_rfl) rfl trivial fun a89 h90 => ?_
  clear h86
  refine nd_op ?_
  refine op_read (b := mb) (v := .pointer (some ⟨Z.mc, 0, none⟩)) h90 rfl rfl (rd_m h90 (k := 1) (v := .pointer (some ⟨Z.mc, 0, none⟩)) rfl rfl rfl rfl (md_p ⟨rfl, trivial⟩)) ?_
  have h91 := h90.put (d := some 453) (v := .pointer (some ⟨Z.mc, 0, none⟩)) (T' := [(453, .pointer (some ⟨Z.mc, 0, none⟩)), (6, .pointer (some ⟨b14, 0, none⟩)), (3, .pointer (some ⟨b2, 0, none⟩)), (0, .pointer (some ⟨mb, 0, none⟩)), (1, .agg #[.int .u8 13, .int .u32 ev.pick, .int .u64 ev.draw, .int .u32 ev.addr, .int .u32 ev.node, .int .u32 ev.dst, .int .u32 ev.xfer, .int .u8 ev.ty, .int .u64 ev.arg, .int .u64 ev.badge, .slice xo ev.ws.length cx]), (4, .int .u8 0), (5, .bool false), (7, .pointer (some ⟨(Z.tp x), 0, none⟩)), (53, .int .u8 13), (66, .bool false), (437, .bool true), (31, .int .i64 s1), (32, .int .u8 0), (452, .pointer (some ⟨mb, 1, none⟩))]) rfl
  clear h90
  refine nd_batch tabOk2 tabZ_ok2 [(4, {})] [453, 6, 3, 0, 1, 4, 5, 7, 53, 66, 437, 31, 32, 454] (T' := [(453, .pointer (some ⟨Z.mc, 0, none⟩)), (6, .pointer (some ⟨b14, 0, none⟩)), (3, .pointer (some ⟨b2, 0, none⟩)), (0, .pointer (some ⟨mb, 0, none⟩)), (1, .agg #[.int .u8 13, .int .u32 ev.pick, .int .u64 ev.draw, .int .u32 ev.addr, .int .u32 ev.node, .int .u32 ev.dst, .int .u32 ev.xfer, .int .u8 ev.ty, .int .u64 ev.arg, .int .u64 ev.badge, .slice xo ev.ws.length cx]), (4, .int .u8 0), (5, .bool false), (7, .pointer (some ⟨(Z.tp x), 0, none⟩)), (53, .int .u8 13), (66, .bool false), (437, .bool true), (31, .int .i64 s1), (32, .int .u8 0), (454, .int .i64 s1)]) (φ := True) (rest := [5, 6, 7]) h91 (by kernel_rfl) rfl trivial fun a92 h93 => ?_
  clear h91
  refine nd_op ?_
  obtain ⟨i1, j1, hi1, hj1, hp1, hs1⟩ := look_fact hI.ci hci.1 he.addr.1 e1 rfl
  refine op_call h93 rfl rfl rfl (callOk Tryd.func62 (by decide) rfl) (args := [.pointer (some ⟨Z.mc, 0, none⟩), .int .i64 s1]) rfl (atE Z.mo Z.mc Z.nd C hi1 hj1 hp1 hs1 _ h93.inv.1.cp) ?_
  rintro _ w94 ⟨rfl, hf96⟩
  refine ⟨_, rfl, ?_⟩
  have h95 := (h93.grow hf96).put (d := some 455) (v := .agg #[.int .u8 ((C.cel s1.toNat).cap.ty), .int .u16 ((C.cel s1.toNat).cap.obj.idx), .int .u32 ((C.cel s1.toNat).cap.obj.gen), .int .u8 ((C.cel s1.toNat).cap.rights), .int .u64 ((C.cel s1.toNat).cap.badge)]) (T' := [(455, .agg #[.int .u8 ((C.cel s1.toNat).cap.ty), .int .u16 ((C.cel s1.toNat).cap.obj.idx), .int .u32 ((C.cel s1.toNat).cap.obj.gen), .int .u8 ((C.cel s1.toNat).cap.rights), .int .u64 ((C.cel s1.toNat).cap.badge)]), (453, .pointer (some ⟨Z.mc, 0, none⟩)), (6, .pointer (some ⟨b14, 0, none⟩)), (3, .pointer (some ⟨b2, 0, none⟩)), (0, .pointer (some ⟨mb, 0, none⟩)), (1, .agg #[.int .u8 13, .int .u32 ev.pick, .int .u64 ev.draw, .int .u32 ev.addr, .int .u32 ev.node, .int .u32 ev.dst, .int .u32 ev.xfer, .int .u8 ev.ty, .int .u64 ev.arg, .int .u64 ev.badge, .slice xo ev.ws.length cx]), (4, .int .u8 0), (5, .bool false), (7, .pointer (some ⟨(Z.tp x), 0, none⟩)), (53, .int .u8 13), (66, .bool false), (437, .bool true), (31, .int .i64 s1), (32, .int .u8 0), (454, .int .i64 s1)]) rfl
  clear h93
  refine nd_batch tabOk2 tabZ_ok2 [(6, {}), (7, {})] [6, 3, 0, 1, 4, 5, 7, 53, 66, 437, 31, 32, 457] (T' := [(6, .pointer (some ⟨b14, 0, none⟩)), (3, .pointer (some ⟨b2, 0, none⟩)), (0, .pointer (some ⟨mb, 0, none⟩)), (1, .agg #[.int .u8 13, .int .u32 ev.pick, .int .u64 ev.draw, .int .u32 ev.addr, .int .u32 ev.node, .int .u32 ev.dst, .int .u32 ev.xfer, .int .u8 ev.ty, .int .u64 ev.arg, .int .u64 ev.badge, .slice xo ev.ws.length cx]), (4, .int .u8 0), (5, .bool false), (7, .pointer (some ⟨(Z.tp x), 0, none⟩)), (53, .int .u8 13), (66, .bool false), (437, .bool true), (31, .int .i64 s1), (32, .int .u8 0), (457, .bool ((C.cel s1.toNat).cap.ty == 0))]) (φ := True) (rest := []) h95 (by kernel_rfl) rfl trivial fun a97 h98 => ?_
  clear h95
  refine nd_done ?_
  refine hK88 _ _ ?_
  clear hK88
  refine c_split h98 (b := ((C.cel s1.toNat).cap.ty == 0)) rfl (fun hc99 => ?_) (fun hc99 => ?_)
  ·
    have hc99f : (C.cel s1.toNat).cap.ty = 0 := by simpa using hc99
    exact absurd (hz2) (by first | exact hc99f | (intro hz; exact hc99f hz) | omega | simp_all)
  ·
    have hc99f : (C.cel s1.toNat).cap.ty ≠ 0 := by simpa using hc99
    refine wp_skip ?_
    refine hK87 _ _ ?_
    clear hK87
    refine wp_seq_k fun K100 hK100 => ?_
    refine nd_start (l := [0]) rfl ?_
    refine nd_batch tabOk2 tabZ_ok2 [(0, {})] [6, 3, 0, 1, 4, 5, 7, 53, 66, 437, 31, 32, 33] (T' := [(6, .pointer (some ⟨b14, 0, none⟩)), (3, .pointer (some ⟨b2, 0, none⟩)), (0, .pointer (some ⟨mb, 0, none⟩)), (1, .agg #[.int .u8 13, .int .u32 ev.pick, .int .u64 ev.draw, .int .u32 ev.addr, .int .u32 ev.node, .int .u32 ev.dst, .int .u32 ev.xfer, .int .u8 ev.ty, .int .u64 ev.arg, .int .u64 ev.badge, .slice xo ev.ws.length cx]), (4, .int .u8 0), (5, .bool false), (7, .pointer (some ⟨(Z.tp x), 0, none⟩)), (53, .int .u8 13), (66, .bool false), (437, .bool true), (31, .int .i64 s1), (32, .int .u8 0), (33, .slice none 0 0)]) (φ := True) (rest := []) h98 (by kernel_rfl) rfl trivial fun a101 h102 => ?_
    clear h98
    refine nd_done ?_
    refine hK100 _ _ ?_
    clear hK100
    refine wp_seq_k fun K103 hK103 => ?_
    refine wp_seq_k fun K104 hK104 => ?_
    refine nd_start (l := [0, 1, 2]) rfl ?_
    refine nd_batch tabOk2 tabZ_ok2 [(0, {}), (1, {k := 1}), (2, {})] [6, 3, 0, 1, 4, 5, 7, 53, 66, 437, 31, 32, 33, 460] (T' := [(6, .pointer (some ⟨b14, 0, none⟩)), (3, .pointer (some ⟨b2, 0, none⟩)), (0, .pointer (some ⟨mb, 0, none⟩)), (1, .agg #[.int .u8 13, .int .u32 ev.pick, .int .u64 ev.draw, .int .u32 ev.addr, .int .u32 ev.node, .int .u32 ev.dst, .int .u32 ev.xfer, .int .u8 ev.ty, .int .u64 ev.arg, .int .u64 ev.badge, .slice xo ev.ws.length cx]), (4, .int .u8 0), (5, .bool false), (7, .pointer (some ⟨(Z.tp x), 0, none⟩)), (53, .int .u8 13), (66, .bool false), (437, .bool true), (31, .int .i64 s1), (32, .int .u8 0), (33, .slice none 0 0), (460, .bool false)]) (φ := (b2 = b2 ∧ Nat.ble (0 + 1) 11 = true) ∧ True) (rest := []) h102 (by kernel_rfl) rfl ⟨⟨rfl, rfl⟩, trivial⟩ fun a105 h106 => ?_
    clear h102
    refine nd_done ?_
    refine hK104 _ _ ?_
    clear hK104
    refine c_false h106 rfl ?_
    refine nd_start (l := [0, 1, 2, 3, 4, 5, 6]) rfl ?_
    refine nd_batch tabOk2 tabZ_ok2 [(0, {}), (1, {}), (2, {})] [6, 3, 0, 1, 4, 5, 7, 53, 66, 437, 31, 32, 33, 469] (T' := [(6, .pointer (some ⟨b14, 0, none⟩)), (3, .pointer (some ⟨b2, 0, none⟩)), (0, .pointer (some ⟨mb, 0, none⟩)), (1, .agg #[.int .u8 13, .int .u32 ev.pick, .int .u64 ev.draw, .int .u32 ev.addr, .int .u32 ev.node, .int .u32 ev.dst, .int .u32 ev.xfer, .int .u8 ev.ty, .int .u64 ev.arg, .int .u64 ev.badge, .slice xo ev.ws.length cx]), (4, .int .u8 0), (5, .bool false), (7, .pointer (some ⟨(Z.tp x), 0, none⟩)), (53, .int .u8 13), (66, .bool false), (437, .bool true), (31, .int .i64 s1), (32, .int .u8 0), (33, .slice none 0 0), (469, .pointer (some ⟨mb, 1, none⟩))]) (φ := True) (rest := [3, 4, 5, 6]) h106 (by kernel_rfl) rfl trivial fun a107 h108 => ?_
    clear h106
    refine nd_op ?_
    refine op_read (b := mb) (v := .pointer (some ⟨Z.mc, 0, none⟩)) h108 rfl rfl (rd_m h108 (k := 1) (v := .pointer (some ⟨Z.mc, 0, none⟩)) rfl rfl rfl rfl (md_p ⟨rfl, trivial⟩)) ?_
    have h109 := h108.put (d := some 470) (v := .pointer (some ⟨Z.mc, 0, none⟩)) (T' := [(470, .pointer (some ⟨Z.mc, 0, none⟩)), (6, .pointer (some ⟨b14, 0, none⟩)), (3, .pointer (some ⟨b2, 0, none⟩)), (0, .pointer (some ⟨mb, 0, none⟩)), (1, .agg #[.int .u8 13, .int .u32 ev.pick, .int .u64 ev.draw, .int .u32 ev.addr, .int .u32 ev.node, .int .u32 ev.dst, .int .u32 ev.xfer, .int .u8 ev.ty, .int .u64 ev.arg, .int .u64 ev.badge, .slice xo ev.ws.length cx]), (4, .int .u8 0), (5, .bool false), (7, .pointer (some ⟨(Z.tp x), 0, none⟩)), (53, .int .u8 13), (66, .bool false), (437, .bool true), (31, .int .i64 s1), (32, .int .u8 0), (33, .slice none 0 0), (469, .pointer (some ⟨mb, 1, none⟩))]) rfl
    clear h108
    refine nd_batch tabOk2 tabZ_ok2 [(4, {})] [470, 6, 3, 0, 1, 4, 5, 7, 53, 66, 437, 31, 32, 33, 471] (T' := [(470, .pointer (some ⟨Z.mc, 0, none⟩)), (6, .pointer (some ⟨b14, 0, none⟩)), (3, .pointer (some ⟨b2, 0, none⟩)), (0, .pointer (some ⟨mb, 0, none⟩)), (1, .agg #[.int .u8 13, .int .u32 ev.pick, .int .u64 ev.draw, .int .u32 ev.addr, .int .u32 ev.node, .int .u32 ev.dst, .int .u32 ev.xfer, .int .u8 ev.ty, .int .u64 ev.arg, .int .u64 ev.badge, .slice xo ev.ws.length cx]), (4, .int .u8 0), (5, .bool false), (7, .pointer (some ⟨(Z.tp x), 0, none⟩)), (53, .int .u8 13), (66, .bool false), (437, .bool true), (31, .int .i64 s1), (32, .int .u8 0), (33, .slice none 0 0), (471, .int .i64 s1)]) (φ := True) (rest := [5, 6]) h109 (by kernel_rfl) rfl trivial fun a110 h111 => ?_
    clear h109
    refine nd_op ?_
    refine op_call h111 rfl rfl rfl (callOk Tryd.func96 (by decide) rfl) (args := [.pointer (some ⟨Z.mc, 0, none⟩), .int .i64 s1]) rfl (by have h9 := revoke_ok Z.mo Z.mc Z.nd C hI.ci s1 _ h111.inv.1.cp; rw [hdr] at h9; exact h9) ?_
    rintro _ w115 ⟨o112, c113, F114, rfl, hrow116, hF117, hsub118, hf119⟩
    refine ⟨_, rfl, ?_⟩
    have h120a := st_cap h111 hrow116.cap hf119 (fun b hb => .inl (hsub118 b hb)) (kcons (fun _ => rfl) (kcons (fun hq => by cases hq) (kcons (fun hq => by cases hq) knil)))
    have h120 := h120a.put (d := some 472) (v := .slice o112 dead.length c113) (T' := [(472, .slice o112 dead.length c113), (470, .pointer (some ⟨Z.mc, 0, none⟩)), (6, .pointer (some ⟨b14, 0, none⟩)), (3, .pointer (some ⟨b2, 0, none⟩)), (0, .pointer (some ⟨mb, 0, none⟩)), (1, .agg #[.int .u8 13, .int .u32 ev.pick, .int .u64 ev.draw, .int .u32 ev.addr, .int .u32 ev.node, .int .u32 ev.dst, .int .u32 ev.xfer, .int .u8 ev.ty, .int .u64 ev.arg, .int .u64 ev.badge, .slice xo ev.ws.length cx]), (4, .int .u8 0), (5, .bool false), (7, .pointer (some ⟨(Z.tp x), 0, none⟩)), (53, .int .u8 13), (66, .bool false), (437, .bool true), (31, .int .i64 s1), (32, .int .u8 0), (33, .slice none 0 0), (471, .int .i64 s1)]) rfl
    clear h111 h120a
    refine nd_batch tabOk2 tabZ_ok2 [(6, {})] [6, 3, 0, 1, 4, 5, 7, 53, 66, 437, 31, 32, 33] (T' := [(6, .pointer (some ⟨b14, 0, none⟩)), (3, .pointer (some ⟨b2, 0, none⟩)), (0, .pointer (some ⟨mb, 0, none⟩)), (1, .agg #[.int .u8 13, .int .u32 ev.pick, .int .u64 ev.draw, .int .u32 ev.addr, .int .u32 ev.node, .int .u32 ev.dst, .int .u32 ev.xfer, .int .u8 ev.ty, .int .u64 ev.arg, .int .u64 ev.badge, .slice xo ev.ws.length cx]), (4, .int .u8 0), (5, .bool false), (7, .pointer (some ⟨(Z.tp x), 0, none⟩)), (53, .int .u8 13), (66, .bool false), (437, .bool true), (31, .int .i64 s1), (32, .int .u8 0), (33, .slice o112 dead.length c113)]) (φ := True) (rest := []) h120 (by kernel_rfl) rfl trivial fun a121 h122 => ?_
    clear h120
    refine nd_done ?_
    refine hK103 _ _ ?_
    clear hK103
    refine wp_seq_k fun K123 hK123 => ?_
    refine wp_seq_k fun K124 hK124 => ?_
    refine nd_start (l := [0, 1, 2]) rfl ?_
    refine nd_batch tabOk2 tabZ_ok2 [(0, {}), (1, {}), (2, {})] [6, 3, 0, 1, 4, 5, 7, 53, 66, 437, 31, 32, 33, 473, 474, 475] (T' := [(6, .pointer (some ⟨b14, 0, none⟩)), (3, .pointer (some ⟨b2, 0, none⟩)), (0, .pointer (some ⟨mb, 0, none⟩)), (1, .agg #[.int .u8 13, .int .u32 ev.pick, .int .u64 ev.draw, .int .u32 ev.addr, .int .u32 ev.node, .int .u32 ev.dst, .int .u32 ev.xfer, .int .u8 ev.ty, .int .u64 ev.arg, .int .u64 ev.badge, .slice xo ev.ws.length cx]), (4, .int .u8 0), (5, .bool false), (7, .pointer (some ⟨(Z.tp x), 0, none⟩)), (53, .int .u8 13), (66, .bool false), (437, .bool true), (31, .int .i64 s1), (32, .int .u8 0), (33, .slice o112 dead.length c113), (473, .slice o112 dead.length c113), (474, .int .i64 ((dead.length : Nat) : Int)), (475, .int .i64 0)]) (φ := True) (rest := []) h122 (by kernel_rfl) rfl trivial fun a125 h126 => ?_
    clear h122
    refine nd_done ?_
    refine hK124 _ _ ?_
    clear hK124
    refine wp_block ?_
    have hdl9 : dead.length < 1000000 := hdlen
    refine wp_loop_ghost (fun g ga gw => ∃ (Z1 : MZ) (b1 : AK) (R1 : MR) (m : Nat), (g = dead.length - m) ∧ (m ≤ dead.length) ∧ ((Z1, b1) = (dead.take m).foldl (forgetM C1.ent) (Z, a)) ∧ (R1.ho = none) ∧ (MP Z1 b1) ∧ St (MCx 628 (mdF mb Z R C) w mb Z1 R1 b1 C1) [(0, .pointer (some ⟨mb, 0, none⟩)), (3, .pointer (some ⟨b2, 0, none⟩)), (473, .slice o112 dead.length c113), (474, .int .i64 ((dead.length : Nat) : Int)), (475, .int .i64 ((m : Nat) : Int))] [(3, ⟨[.int .u16 0, .int .u32 0], ty3, true⟩), (b2, ⟨[.int .u8 13, .int .u32 ev.pick, .int .u64 ev.draw, .int .u32 ev.addr, .int .u32 ev.node, .int .u32 ev.dst, .int .u32 ev.xfer, .int .u8 ev.ty, .int .u64 ev.arg, .int .u64 ev.badge, .slice xo ev.ws.length cx], 35, false⟩), (b14, ⟨[.int .u16 ((Z.ky x).idx), .int .u32 ((Z.ky x).gen)], 39, false⟩)] ga gw) dead.length ⟨Z, a, R, 0, by omega, by omega, rfl, hhoh80, hP, (h126.slotsMono (restr_spec (keep := [0, 3, 473, 474, 475]) rfl))⟩ ?_
    clear h126
    rintro g a127 w128 ⟨Z1, b1, R1, m, hi130, hi131, hi132, hi133, hi134, h129⟩
    have hig := hi130
    have hm8 := hi131
    have hb1 := hi132
    have hho1 := hi133
    have hP1 := hi134
    refine wp_seq_k fun K135 hK135 => ?_
    refine nd_start (l := [0]) rfl ?_
    refine nd_batch tabOk2 tabZ_ok2 [(0, {})] [0, 3, 473, 474, 475, 476] (T' := [(0, .pointer (some ⟨mb, 0, none⟩)), (3, .pointer (some ⟨b2, 0, none⟩)), (473, .slice o112 dead.length c113), (474, .int .i64 ((dead.length : Nat) : Int)), (475, .int .i64 ((m : Nat) : Int)), (476, .bool (decide (((m : Nat) : Int) < ((dead.length : Nat) : Int))))]) (φ := True) (rest := []) h129 (by kernel_rfl) rfl trivial fun a136 h137 => ?_
    clear h129
    refine nd_done ?_
    refine hK135 _ _ ?_
    clear hK135
    refine wp_seq_k fun K138 hK138 => ?_
    refine c_split h137 (b := decide (((m : Nat) : Int) < ((dead.length : Nat) : Int))) rfl (fun hc139 => ?_) (fun hc139 => ?_)
    ·
      have hc139f : ((m : Nat) : Int) < ((dead.length : Nat) : Int) := by simpa using hc139
      exact absurd hc139f (by rw [hd0]; show ¬ ((m : Nat) : Int) < 0; omega)
    ·
      have hc139f : ¬ ((m : Nat) : Int) < ((dead.length : Nat) : Int) := by simpa using hc139
      have hm9 : dead.length ≤ m := by omega
      rw [List.take_of_length_le hm9] at hb1
      refine wp_exit ?_
      refine hK123 _ _ ?_
      clear hK123
      refine wp_seq_k fun K140 hK140 => ?_
      refine nd_start (l := [0, 1]) rfl ?_
      refine nd_batch tabOk2 tabZ_ok2 [(0, {}), (1, {})] [0, 3, 473, 474, 475, 4, 5] (T' := [(0, .pointer (some ⟨mb, 0, none⟩)), (3, .pointer (some ⟨b2, 0, none⟩)), (473, .slice o112 dead.length c113), (474, .int .i64 ((dead.length : Nat) : Int)), (475, .int .i64 ((m : Nat) : Int)), (4, .int .u8 0), (5, .bool false)]) (φ := True) (rest := []) h137 (by kernel_rfl) rfl trivial fun a141 h142 => ?_
      clear h137
      refine nd_done ?_
      refine hK140 _ _ ?_
      clear hK140
      refine wp_ret ?_
      try simp only [Exit.then, Exit.inBlock]
      try rw [if_pos trivial]
      exact s_ret tabOk2 tabZ_ok2 h142 [(.tmp 4, {}), (.tmp 5, {})] (vs := [.int .u8 0, .bool false]) (φ := True) rfl (by kernel_rfl) trivial ⟨rfl, R1, (by rw [← hb1]; exact mg_end hH h142 hho1 rfl)⟩

theorem call13n (mb : Nat) (Z : MZ) (R : MR) (a : AK) (C : CP) (hI : MI Z a C) (x : Nat) (hx : x ∈ sl Z.tl) (hcu : a.cur = (x : Int)) (ev : Ev) (he : EvOk ev) (xo : Option Addr) (cx : Nat) (s1 : Int) (e1 : lookP C.ent (a.th x).cs ev.addr = (s1, 0)) (hz2 : ¬ (C.cel s1.toNat).cap.ty = 0) (C1 : CP) (dead : List Cp) (hdr : revokeP 4097 C s1 [] = (C1, dead)) (hdlen : dead.length < 1000000) (hdl : 0 < dead.length) (hfa : FAll C1.ent (Z, a) dead) (w : World) (hH : MH mb Z R a C w) (hws : WordsAt (mdF mb Z R C) w xo ev.ws) :
    Calls Tryd.prog 55 #[.pointer (some ⟨mb, 0, none⟩), .agg #[.int .u8 13, .int .u32 ev.pick, .int .u64 ev.draw, .int .u32 ev.addr, .int .u32 ev.node, .int .u32 ev.dst, .int .u32 ev.xfer, .int .u8 ev.ty, .int .u64 ev.arg, .int .u64 ev.badge, .slice xo ev.ws.length cx]] w fun e w' => e = .returned (.tuple #[.int .u8 0, .bool false]) ∧ ∃ R', MG mb Z R C w (dead.foldl (forgetM C1.ent) (Z, a)).1 R' (dead.foldl (forgetM C1.ent) (Z, a)).2 C1 w' := by
  have hP := hI.mp
  have hcx : curR Z a = Z.ky x := curR_of hcu
  have hcn : a.cur.toNat = x := by rw [hcu]; exact Int.toNat_natCast x
  have hci := (hI.tk x hx).ci
  obtain ⟨ty3, hg3⟩ := hH.g3
  have hho := hH.ho
  have hkk := hH.md.k
  refine enter (n := 628) (K := mdF mb Z R C) (A := MD (mdF mb Z R C) w.heap.size mb Z R a C) (F := mdF mb Z R C) (T := [(0, .pointer (some ⟨mb, 0, none⟩)), (1, .agg #[.int .u8 13, .int .u32 ev.pick, .int .u64 ev.draw, .int .u32 ev.addr, .int .u32 ev.node, .int .u32 ev.dst, .int .u32 ev.xfer, .int .u8 ev.ty, .int .u64 ev.arg, .int .u64 ev.badge, .slice xo ev.ws.length cx])]) (L := [(3, ⟨[.int .u16 0, .int .u32 0], ty3, true⟩)]) (args := [.pointer (some ⟨mb, 0, none⟩), .agg #[.int .u8 13, .int .u32 ev.pick, .int .u64 ev.draw, .int .u32 ev.addr, .int .u32 ev.node, .int .u32 ev.dst, .int .u32 ev.xfer, .int .u8 ev.ty, .int .u64 ev.arg, .int .u64 ev.badge, .slice xo ev.ws.length cx]]) Tryd.func55 rfl rfl rfl rfl (kcons hg3 knil) (by simp) (kcons (by intro hq; cases hq) knil) hH.mD MD.stable hH.md.low (kcons (by intro hq; cases hq) knil) ?_
  intro ac h
  refine wp_seq_k fun K1 hK1 => ?_
  refine nd_start (l := [0, 1, 2]) rfl ?_
  refine nd_op ?_
  refine op_new tabOk2 (cells := [.int .u8 13, .int .u32 ev.pick, .int .u64 ev.draw, .int .u32 ev.addr, .int .u32 ev.node, .int .u32 ev.dst, .int .u32 ev.xfer, .int .u8 ev.ty, .int .u64 ev.arg, .int .u64 ev.badge, .slice xo ev.ws.length cx]) (ty := 35) (ln := none) (L1 := fun b2 => [(3, ⟨[.int .u16 0, .int .u32 0], ty3, true⟩), (b2, ⟨[.int .u8 13, .int .u32 ev.pick, .int .u64 ev.draw, .int .u32 ev.addr, .int .u32 ev.node, .int .u32 ev.dst, .int .u32 ev.xfer, .int .u8 ev.ty, .int .u64 ev.arg, .int .u64 ev.badge, .slice xo ev.ws.length cx], 35, false⟩)]) h rfl rfl rfl rfl (by kernel_rfl) (fun _ => rfl) fun b2 w3 a4 h5 hf6 hn7 => ?_
  clear h
  refine nd_batch tabOk2 tabZ_ok2 [(1, {}), (2, {})] [3, 0, 1, 4, 5] (T' := [(3, .pointer (some ⟨b2, 0, none⟩)), (0, .pointer (some ⟨mb, 0, none⟩)), (1, .agg #[.int .u8 13, .int .u32 ev.pick, .int .u64 ev.draw, .int .u32 ev.addr, .int .u32 ev.node, .int .u32 ev.dst, .int .u32 ev.xfer, .int .u8 ev.ty, .int .u64 ev.arg, .int .u64 ev.badge, .slice xo ev.ws.length cx]), (4, .int .u8 0), (5, .bool false)]) (φ := True) (rest := []) h5 (by kernel_rfl) rfl trivial fun a8 h9 => ?_
  clear h5
  refine nd_done ?_
  refine hK1 _ _ ?_
  clear hK1
  refine wp_seq_k fun K10 hK10 => ?_
  refine nd_start (l := [0, 1, 2, 3, 4, 5]) rfl ?_
  refine nd_batch tabOk2 tabZ_ok2 [(0, {}), (1, {}), (2, {})] [3, 0, 1, 4, 5, 44] (T' := [(3, .pointer (some ⟨b2, 0, none⟩)), (0, .pointer (some ⟨mb, 0, none⟩)), (1, .agg #[.int .u8 13, .int .u32 ev.pick, .int .u64 ev.draw, .int .u32 ev.addr, .int .u32 ev.node, .int .u32 ev.dst, .int .u32 ev.xfer, .int .u8 ev.ty, .int .u64 ev.arg, .int .u64 ev.badge, .slice xo ev.ws.length cx]), (4, .int .u8 0), (5, .bool false), (44, .pointer (some ⟨mb, 13, none⟩))]) (φ := True) (rest := [3, 4, 5]) h9 (by kernel_rfl) rfl trivial fun a11 h12 => ?_
  clear h9
  refine nd_op ?_
  refine op_read (b := mb) (v := .agg #[.int .u16 ((Z.ky x).idx), .int .u32 ((Z.ky x).gen)]) h12 rfl rfl (rd_mA h12 (k := 13) (vs := [.int .u16 ((Z.ky x).idx), .int .u32 ((Z.ky x).gen)]) rfl rfl rfl rfl rfl (by rw [← hcx]; exact md_cur)) ?_
  have h13 := h12.put (d := some 45) (v := .agg #[.int .u16 ((Z.ky x).idx), .int .u32 ((Z.ky x).gen)]) (T' := [(45, .agg #[.int .u16 ((Z.ky x).idx), .int .u32 ((Z.ky x).gen)]), (3, .pointer (some ⟨b2, 0, none⟩)), (0, .pointer (some ⟨mb, 0, none⟩)), (1, .agg #[.int .u8 13, .int .u32 ev.pick, .int .u64 ev.draw, .int .u32 ev.addr, .int .u32 ev.node, .int .u32 ev.dst, .int .u32 ev.xfer, .int .u8 ev.ty, .int .u64 ev.arg, .int .u64 ev.badge, .slice xo ev.ws.length cx]), (4, .int .u8 0), (5, .bool false), (44, .pointer (some ⟨mb, 13, none⟩))]) rfl
  clear h12
  refine nd_op ?_
  refine op_new tabOk2 (cells := [.int .u16 0, .int .u32 0]) (ty := 39) (ln := none) (L1 := fun b14 => [(3, ⟨[.int .u16 0, .int .u32 0], ty3, true⟩), (b2, ⟨[.int .u8 13, .int .u32 ev.pick, .int .u64 ev.draw, .int .u32 ev.addr, .int .u32 ev.node, .int .u32 ev.dst, .int .u32 ev.xfer, .int .u8 ev.ty, .int .u64 ev.arg, .int .u64 ev.badge, .slice xo ev.ws.length cx], 35, false⟩), (b14, ⟨[.int .u16 0, .int .u32 0], 39, false⟩)]) h13 rfl rfl rfl rfl (by kernel_rfl) (fun _ => rfl) fun b14 w15 a16 h17 hf18 hn19 => ?_
  clear h13
  refine nd_op ?_
  refine op_store tabOk2 {k := 2} (L' := [(3, ⟨[.int .u16 0, .int .u32 0], ty3, true⟩), (b2, ⟨[.int .u8 13, .int .u32 ev.pick, .int .u64 ev.draw, .int .u32 ev.addr, .int .u32 ev.node, .int .u32 ev.dst, .int .u32 ev.xfer, .int .u8 ev.ty, .int .u64 ev.arg, .int .u64 ev.badge, .slice xo ev.ws.length cx], 35, false⟩), (b14, ⟨[.int .u16 ((Z.ky x).idx), .int .u32 ((Z.ky x).gen)], 39, false⟩)]) (φ := b14 = b14 ∧ Nat.ble (0 + 2) 2 = true) h17 rfl rfl rfl (by kernel_rfl) ⟨rfl, rfl⟩ fun w20 h21 => ?_
  clear h17
  refine nd_done ?_
  refine hK10 _ _ ?_
  clear hK10
  refine wp_seq_k fun K22 hK22 => ?_
  refine dr_start (KB := [3, b2, b14, mb, Z.tb]) (Bi := [[0, 1, 2, 3, 4], [0, 1, 2, 3, 4], [0, 1, 2, 3, 4], [0, 1, 2, 3, 4], [0, 1, 2, 3, 4], [0, 1, 2, 3, 4], [0, 1, 2, 3, 4]]) mixed h21 fun w23 h24 => ?_
  clear h21
  refine dr_batch tabOk2 tabZ_ok2 (by repeat (first | with_reducible exact PF.body | with_reducible apply PF.inB | with_reducible apply PF.next)) [(0, {}), (1, {}), (2, {})] [6, 3, 0, 1, 4, 5, 48] (T' := [(6, .pointer (some ⟨b14, 0, none⟩)), (3, .pointer (some ⟨b2, 0, none⟩)), (0, .pointer (some ⟨mb, 0, none⟩)), (1, .agg #[.int .u8 13, .int .u32 ev.pick, .int .u64 ev.draw, .int .u32 ev.addr, .int .u32 ev.node, .int .u32 ev.dst, .int .u32 ev.xfer, .int .u8 ev.ty, .int .u64 ev.arg, .int .u64 ev.badge, .slice xo ev.ws.length cx]), (4, .int .u8 0), (5, .bool false), (48, .pointer (some ⟨mb, 2, none⟩))]) (φ := True) (fuel := 4) h24 (by kernel_rfl) rfl (by kernel_rfl) (by kernel_rfl) ⟨trivial, trivial, trivial, trivial⟩ trivial fun a26 h27 => ?_
  clear h24
  refine dr_read (i := 3) (b := mb) (p := 3) (v := .map (some Z.tb)) (fuel := 3) (by repeat (first | with_reducible exact PF.body | with_reducible apply PF.inB | with_reducible apply PF.next)) h27 rfl rfl rfl (by kernel_rfl) (by kernel_rfl) (by kernel_rfl) rfl (rd_m h27 (k := 2) (v := .map (some Z.tb)) rfl rfl rfl rfl (md_p ⟨rfl, trivial⟩)) ?_
  have h28 := h27.put (d := some 49) (v := .map (some Z.tb)) (T' := [(49, .map (some Z.tb)), (6, .pointer (some ⟨b14, 0, none⟩)), (3, .pointer (some ⟨b2, 0, none⟩)), (0, .pointer (some ⟨mb, 0, none⟩)), (1, .agg #[.int .u8 13, .int .u32 ev.pick, .int .u64 ev.draw, .int .u32 ev.addr, .int .u32 ev.node, .int .u32 ev.dst, .int .u32 ev.xfer, .int .u8 ev.ty, .int .u64 ev.arg, .int .u64 ev.badge, .slice xo ev.ws.length cx]), (4, .int .u8 0), (5, .bool false), (48, .pointer (some ⟨mb, 2, none⟩))]) rfl
  clear h27
  refine dr_batch tabOk2 tabZ_ok2 (by repeat (first | with_reducible exact PF.body | with_reducible apply PF.inB | with_reducible apply PF.next)) [(4, {k := 2, p := 2})] [49, 6, 3, 0, 1, 4, 5, 50] (T' := [(49, .map (some Z.tb)), (6, .pointer (some ⟨b14, 0, none⟩)), (3, .pointer (some ⟨b2, 0, none⟩)), (0, .pointer (some ⟨mb, 0, none⟩)), (1, .agg #[.int .u8 13, .int .u32 ev.pick, .int .u64 ev.draw, .int .u32 ev.addr, .int .u32 ev.node, .int .u32 ev.dst, .int .u32 ev.xfer, .int .u8 ev.ty, .int .u64 ev.arg, .int .u64 ev.badge, .slice xo ev.ws.length cx]), (4, .int .u8 0), (5, .bool false), (50, .agg #[.int .u16 ((Z.ky x).idx), .int .u32 ((Z.ky x).gen)])]) (φ := (b14 = b14 ∧ Nat.ble (0 + 2) 2 = true) ∧ True) (fuel := 2) h28 (by kernel_rfl) rfl (by kernel_rfl) (by kernel_rfl) ⟨rfl, trivial⟩ ⟨⟨rfl, rfl⟩, trivial⟩ fun a29 h30 => ?_
  clear h28
  refine dr_read (i := 5) (b := Z.tb) (p := 4) (v := .pointer (some ⟨(Z.tp x), 0, none⟩)) (fuel := 1) (by repeat (first | with_reducible exact PF.body | with_reducible apply PF.inB | with_reducible apply PF.next)) h30 rfl rfl rfl (by kernel_rfl) (by kernel_rfl) (by kernel_rfl) rfl (rd_T h30 (x := x) hx rfl rfl rfl) ?_
  have h31 := h30.put (d := some 51) (v := .pointer (some ⟨(Z.tp x), 0, none⟩)) (T' := [(51, .pointer (some ⟨(Z.tp x), 0, none⟩)), (49, .map (some Z.tb)), (6, .pointer (some ⟨b14, 0, none⟩)), (3, .pointer (some ⟨b2, 0, none⟩)), (0, .pointer (some ⟨mb, 0, none⟩)), (1, .agg #[.int .u8 13, .int .u32 ev.pick, .int .u64 ev.draw, .int .u32 ev.addr, .int .u32 ev.node, .int .u32 ev.dst, .int .u32 ev.xfer, .int .u8 ev.ty, .int .u64 ev.arg, .int .u64 ev.badge, .slice xo ev.ws.length cx]), (4, .int .u8 0), (5, .bool false), (50, .agg #[.int .u16 ((Z.ky x).idx), .int .u32 ((Z.ky x).gen)])]) rfl
  clear h30
  refine dr_batch tabOk2 tabZ_ok2 (by repeat (first | with_reducible exact PF.body | with_reducible apply PF.inB | with_reducible apply PF.next)) [(6, {})] [6, 3, 0, 1, 4, 5, 7] (T' := [(6, .pointer (some ⟨b14, 0, none⟩)), (3, .pointer (some ⟨b2, 0, none⟩)), (0, .pointer (some ⟨mb, 0, none⟩)), (1, .agg #[.int .u8 13, .int .u32 ev.pick, .int .u64 ev.draw, .int .u32 ev.addr, .int .u32 ev.node, .int .u32 ev.dst, .int .u32 ev.xfer, .int .u8 ev.ty, .int .u64 ev.arg, .int .u64 ev.badge, .slice xo ev.ws.length cx]), (4, .int .u8 0), (5, .bool false), (7, .pointer (some ⟨(Z.tp x), 0, none⟩))]) (φ := True) (fuel := 0) h31 (by kernel_rfl) rfl (by kernel_rfl) (by kernel_rfl) ⟨trivial, trivial⟩ trivial fun a32 h33 => ?_
  clear h31
  refine wpAnyK_done (by kernel_rfl) ?_ _
  refine hK22 _ _ ?_
  clear hK22
  refine wp_seq_k fun K34 hK34 => ?_
  refine wp_seq_k fun K35 hK35 => ?_
  refine nd_start (l := [0, 1]) rfl ?_
  refine nd_batch tabOk2 tabZ_ok2 [(0, {}), (1, {k := 1})] [6, 3, 0, 1, 4, 5, 7, 53] (T' := [(6, .pointer (some ⟨b14, 0, none⟩)), (3, .pointer (some ⟨b2, 0, none⟩)), (0, .pointer (some ⟨mb, 0, none⟩)), (1, .agg #[.int .u8 13, .int .u32 ev.pick, .int .u64 ev.draw, .int .u32 ev.addr, .int .u32 ev.node, .int .u32 ev.dst, .int .u32 ev.xfer, .int .u8 ev.ty, .int .u64 ev.arg, .int .u64 ev.badge, .slice xo ev.ws.length cx]), (4, .int .u8 0), (5, .bool false), (7, .pointer (some ⟨(Z.tp x), 0, none⟩)), (53, .int .u8 13)]) (φ := (b2 = b2 ∧ Nat.ble (0 + 1) 11 = true) ∧ True) (rest := []) h33 (by kernel_rfl) rfl ⟨⟨rfl, rfl⟩, trivial⟩ fun a36 h37 => ?_
  clear h33
  refine nd_done ?_
  refine hK35 _ _ ?_
  clear hK35
  refine wp_block ?_
  refine wp_seq_k fun K38 hK38 => ?_
  refine nd_start (l := [0, 1]) rfl ?_
  refine nd_batch tabOk2 tabZ_ok2 [(0, {}), (1, {})] [6, 3, 0, 1, 4, 5, 7, 53, 54] (T' := [(6, .pointer (some ⟨b14, 0, none⟩)), (3, .pointer (some ⟨b2, 0, none⟩)), (0, .pointer (some ⟨mb, 0, none⟩)), (1, .agg #[.int .u8 13, .int .u32 ev.pick, .int .u64 ev.draw, .int .u32 ev.addr, .int .u32 ev.node, .int .u32 ev.dst, .int .u32 ev.xfer, .int .u8 ev.ty, .int .u64 ev.arg, .int .u64 ev.badge, .slice xo ev.ws.length cx]), (4, .int .u8 0), (5, .bool false), (7, .pointer (some ⟨(Z.tp x), 0, none⟩)), (53, .int .u8 13), (54, .bool false)]) (φ := True) (rest := []) h37 (by kernel_rfl) rfl trivial fun a39 h40 => ?_
  clear h37
  refine nd_done ?_
  refine hK38 _ _ ?_
  clear hK38
  refine c_false h40 rfl ?_
  refine wp_seq_k fun K41 hK41 => ?_
  refine nd_start (l := [0, 1]) rfl ?_
  refine nd_batch tabOk2 tabZ_ok2 [(0, {}), (1, {})] [6, 3, 0, 1, 4, 5, 7, 53, 59] (T' := [(6, .pointer (some ⟨b14, 0, none⟩)), (3, .pointer (some ⟨b2, 0, none⟩)), (0, .pointer (some ⟨mb, 0, none⟩)), (1, .agg #[.int .u8 13, .int .u32 ev.pick, .int .u64 ev.draw, .int .u32 ev.addr, .int .u32 ev.node, .int .u32 ev.dst, .int .u32 ev.xfer, .int .u8 ev.ty, .int .u64 ev.arg, .int .u64 ev.badge, .slice xo ev.ws.length cx]), (4, .int .u8 0), (5, .bool false), (7, .pointer (some ⟨(Z.tp x), 0, none⟩)), (53, .int .u8 13), (59, .bool false)]) (φ := True) (rest := []) h40 (by kernel_rfl) rfl trivial fun a42 h43 => ?_
  clear h40
  refine nd_done ?_
  refine hK41 _ _ ?_
  clear hK41
  refine c_false h43 rfl ?_
  refine wp_seq_k fun K44 hK44 => ?_
  refine wp_seq_k fun K45 hK45 => ?_
  refine nd_start (l := [0, 1]) rfl ?_
  refine nd_batch tabOk2 tabZ_ok2 [(0, {}), (1, {})] [6, 3, 0, 1, 4, 5, 7, 53, 66] (T' := [(6, .pointer (some ⟨b14, 0, none⟩)), (3, .pointer (some ⟨b2, 0, none⟩)), (0, .pointer (some ⟨mb, 0, none⟩)), (1, .agg #[.int .u8 13, .int .u32 ev.pick, .int .u64 ev.draw, .int .u32 ev.addr, .int .u32 ev.node, .int .u32 ev.dst, .int .u32 ev.xfer, .int .u8 ev.ty, .int .u64 ev.arg, .int .u64 ev.badge, .slice xo ev.ws.length cx]), (4, .int .u8 0), (5, .bool false), (7, .pointer (some ⟨(Z.tp x), 0, none⟩)), (53, .int .u8 13), (66, .bool false)]) (φ := True) (rest := []) h43 (by kernel_rfl) rfl trivial fun a46 h47 => ?_
  clear h43
  refine nd_done ?_
  refine hK45 _ _ ?_
  clear hK45
  refine c_false h47 rfl ?_
  refine nd_start (l := [0, 1]) rfl ?_
  refine nd_batch tabOk2 tabZ_ok2 [(0, {}), (1, {})] [6, 3, 0, 1, 4, 5, 7, 53, 66] (T' := [(6, .pointer (some ⟨b14, 0, none⟩)), (3, .pointer (some ⟨b2, 0, none⟩)), (0, .pointer (some ⟨mb, 0, none⟩)), (1, .agg #[.int .u8 13, .int .u32 ev.pick, .int .u64 ev.draw, .int .u32 ev.addr, .int .u32 ev.node, .int .u32 ev.dst, .int .u32 ev.xfer, .int .u8 ev.ty, .int .u64 ev.arg, .int .u64 ev.badge, .slice xo ev.ws.length cx]), (4, .int .u8 0), (5, .bool false), (7, .pointer (some ⟨(Z.tp x), 0, none⟩)), (53, .int .u8 13), (66, .bool false)]) (φ := True) (rest := []) h47 (by kernel_rfl) rfl trivial fun a48 h49 => ?_
  clear h47
  refine nd_done ?_
  refine hK44 _ _ ?_
  clear hK44
  refine c_false h49 rfl ?_
  refine wp_seq_k fun K50 hK50 => ?_
  refine nd_start (l := [0, 1]) rfl ?_
  refine nd_batch tabOk2 tabZ_ok2 [(0, {}), (1, {})] [6, 3, 0, 1, 4, 5, 7, 53, 66, 129] (T' := [(6, .pointer (some ⟨b14, 0, none⟩)), (3, .pointer (some ⟨b2, 0, none⟩)), (0, .pointer (some ⟨mb, 0, none⟩)), (1, .agg #[.int .u8 13, .int .u32 ev.pick, .int .u64 ev.draw, .int .u32 ev.addr, .int .u32 ev.node, .int .u32 ev.dst, .int .u32 ev.xfer, .int .u8 ev.ty, .int .u64 ev.arg, .int .u64 ev.badge, .slice xo ev.ws.length cx]), (4, .int .u8 0), (5, .bool false), (7, .pointer (some ⟨(Z.tp x), 0, none⟩)), (53, .int .u8 13), (66, .bool false), (129, .bool false)]) (φ := True) (rest := []) h49 (by kernel_rfl) rfl trivial fun a51 h52 => ?_
  clear h49
  refine nd_done ?_
  refine hK50 _ _ ?_
  clear hK50
  refine c_false h52 rfl ?_
  refine wp_seq_k fun K53 hK53 => ?_
  refine nd_start (l := [0, 1]) rfl ?_
  refine nd_batch tabOk2 tabZ_ok2 [(0, {}), (1, {})] [6, 3, 0, 1, 4, 5, 7, 53, 66, 165] (T' := [(6, .pointer (some ⟨b14, 0, none⟩)), (3, .pointer (some ⟨b2, 0, none⟩)), (0, .pointer (some ⟨mb, 0, none⟩)), (1, .agg #[.int .u8 13, .int .u32 ev.pick, .int .u64 ev.draw, .int .u32 ev.addr, .int .u32 ev.node, .int .u32 ev.dst, .int .u32 ev.xfer, .int .u8 ev.ty, .int .u64 ev.arg, .int .u64 ev.badge, .slice xo ev.ws.length cx]), (4, .int .u8 0), (5, .bool false), (7, .pointer (some ⟨(Z.tp x), 0, none⟩)), (53, .int .u8 13), (66, .bool false), (165, .bool false)]) (φ := True) (rest := []) h52 (by kernel_rfl) rfl trivial fun a54 h55 => ?_
  clear h52
  refine nd_done ?_
  refine hK53 _ _ ?_
  clear hK53
  refine c_false h55 rfl ?_
  refine wp_seq_k fun K56 hK56 => ?_
  refine nd_start (l := [0, 1]) rfl ?_
  refine nd_batch tabOk2 tabZ_ok2 [(0, {}), (1, {})] [6, 3, 0, 1, 4, 5, 7, 53, 66, 226] (T' := [(6, .pointer (some ⟨b14, 0, none⟩)), (3, .pointer (some ⟨b2, 0, none⟩)), (0, .pointer (some ⟨mb, 0, none⟩)), (1, .agg #[.int .u8 13, .int .u32 ev.pick, .int .u64 ev.draw, .int .u32 ev.addr, .int .u32 ev.node, .int .u32 ev.dst, .int .u32 ev.xfer, .int .u8 ev.ty, .int .u64 ev.arg, .int .u64 ev.badge, .slice xo ev.ws.length cx]), (4, .int .u8 0), (5, .bool false), (7, .pointer (some ⟨(Z.tp x), 0, none⟩)), (53, .int .u8 13), (66, .bool false), (226, .bool false)]) (φ := True) (rest := []) h55 (by kernel_rfl) rfl trivial fun a57 h58 => ?_
  clear h55
  refine nd_done ?_
  refine hK56 _ _ ?_
  clear hK56
  refine c_false h58 rfl ?_
  refine wp_seq_k fun K59 hK59 => ?_
  refine nd_start (l := [0, 1]) rfl ?_
  refine nd_batch tabOk2 tabZ_ok2 [(0, {}), (1, {})] [6, 3, 0, 1, 4, 5, 7, 53, 66, 244] (T' := [(6, .pointer (some ⟨b14, 0, none⟩)), (3, .pointer (some ⟨b2, 0, none⟩)), (0, .pointer (some ⟨mb, 0, none⟩)), (1, .agg #[.int .u8 13, .int .u32 ev.pick, .int .u64 ev.draw, .int .u32 ev.addr, .int .u32 ev.node, .int .u32 ev.dst, .int .u32 ev.xfer, .int .u8 ev.ty, .int .u64 ev.arg, .int .u64 ev.badge, .slice xo ev.ws.length cx]), (4, .int .u8 0), (5, .bool false), (7, .pointer (some ⟨(Z.tp x), 0, none⟩)), (53, .int .u8 13), (66, .bool false), (244, .bool false)]) (φ := True) (rest := []) h58 (by kernel_rfl) rfl trivial fun a60 h61 => ?_
  clear h58
  refine nd_done ?_
  refine hK59 _ _ ?_
  clear hK59
  refine c_false h61 rfl ?_
  refine wp_seq_k fun K62 hK62 => ?_
  refine nd_start (l := [0, 1]) rfl ?_
  refine nd_batch tabOk2 tabZ_ok2 [(0, {}), (1, {})] [6, 3, 0, 1, 4, 5, 7, 53, 66, 285] (T' := [(6, .pointer (some ⟨b14, 0, none⟩)), (3, .pointer (some ⟨b2, 0, none⟩)), (0, .pointer (some ⟨mb, 0, none⟩)), (1, .agg #[.int .u8 13, .int .u32 ev.pick, .int .u64 ev.draw, .int .u32 ev.addr, .int .u32 ev.node, .int .u32 ev.dst, .int .u32 ev.xfer, .int .u8 ev.ty, .int .u64 ev.arg, .int .u64 ev.badge, .slice xo ev.ws.length cx]), (4, .int .u8 0), (5, .bool false), (7, .pointer (some ⟨(Z.tp x), 0, none⟩)), (53, .int .u8 13), (66, .bool false), (285, .bool false)]) (φ := True) (rest := []) h61 (by kernel_rfl) rfl trivial fun a63 h64 => ?_
  clear h61
  refine nd_done ?_
  refine hK62 _ _ ?_
  clear hK62
  refine c_false h64 rfl ?_
  refine wp_seq_k fun K65 hK65 => ?_
  refine nd_start (l := [0, 1]) rfl ?_
  refine nd_batch tabOk2 tabZ_ok2 [(0, {}), (1, {})] [6, 3, 0, 1, 4, 5, 7, 53, 66, 388] (T' := [(6, .pointer (some ⟨b14, 0, none⟩)), (3, .pointer (some ⟨b2, 0, none⟩)), (0, .pointer (some ⟨mb, 0, none⟩)), (1, .agg #[.int .u8 13, .int .u32 ev.pick, .int .u64 ev.draw, .int .u32 ev.addr, .int .u32 ev.node, .int .u32 ev.dst, .int .u32 ev.xfer, .int .u8 ev.ty, .int .u64 ev.arg, .int .u64 ev.badge, .slice xo ev.ws.length cx]), (4, .int .u8 0), (5, .bool false), (7, .pointer (some ⟨(Z.tp x), 0, none⟩)), (53, .int .u8 13), (66, .bool false), (388, .bool false)]) (φ := True) (rest := []) h64 (by kernel_rfl) rfl trivial fun a66 h67 => ?_
  clear h64
  refine nd_done ?_
  refine hK65 _ _ ?_
  clear hK65
  refine c_false h67 rfl ?_
  refine wp_seq_k fun K68 hK68 => ?_
  refine wp_seq_k fun K69 hK69 => ?_
  refine nd_start (l := [0, 1]) rfl ?_
  refine nd_batch tabOk2 tabZ_ok2 [(0, {}), (1, {})] [6, 3, 0, 1, 4, 5, 7, 53, 66, 437] (T' := [(6, .pointer (some ⟨b14, 0, none⟩)), (3, .pointer (some ⟨b2, 0, none⟩)), (0, .pointer (some ⟨mb, 0, none⟩)), (1, .agg #[.int .u8 13, .int .u32 ev.pick, .int .u64 ev.draw, .int .u32 ev.addr, .int .u32 ev.node, .int .u32 ev.dst, .int .u32 ev.xfer, .int .u8 ev.ty, .int .u64 ev.arg, .int .u64 ev.badge, .slice xo ev.ws.length cx]), (4, .int .u8 0), (5, .bool false), (7, .pointer (some ⟨(Z.tp x), 0, none⟩)), (53, .int .u8 13), (66, .bool false), (437, .bool false)]) (φ := True) (rest := []) h67 (by kernel_rfl) rfl trivial fun a70 h71 => ?_
  clear h67
  refine nd_done ?_
  refine hK69 _ _ ?_
  clear hK69
  refine c_false h71 rfl ?_
  refine nd_start (l := [0, 1]) rfl ?_
  refine nd_batch tabOk2 tabZ_ok2 [(0, {}), (1, {})] [6, 3, 0, 1, 4, 5, 7, 53, 66, 437] (T' := [(6, .pointer (some ⟨b14, 0, none⟩)), (3, .pointer (some ⟨b2, 0, none⟩)), (0, .pointer (some ⟨mb, 0, none⟩)), (1, .agg #[.int .u8 13, .int .u32 ev.pick, .int .u64 ev.draw, .int .u32 ev.addr, .int .u32 ev.node, .int .u32 ev.dst, .int .u32 ev.xfer, .int .u8 ev.ty, .int .u64 ev.arg, .int .u64 ev.badge, .slice xo ev.ws.length cx]), (4, .int .u8 0), (5, .bool false), (7, .pointer (some ⟨(Z.tp x), 0, none⟩)), (53, .int .u8 13), (66, .bool false), (437, .bool true)]) (φ := True) (rest := []) h71 (by kernel_rfl) rfl trivial fun a72 h73 => ?_
  clear h71
  refine nd_done ?_
  refine hK68 _ _ ?_
  clear hK68
  refine c_true h73 rfl ?_
  refine wp_seq_k fun K74 hK74 => ?_
  refine nd_start (l := [0, 1, 2, 3, 4, 5, 6, 7, 8]) rfl ?_
  refine nd_batch tabOk2 tabZ_ok2 [(0, {}), (1, {}), (2, {k := 1})] [6, 3, 0, 1, 4, 5, 7, 53, 66, 437, 441, 443] (T' := [(6, .pointer (some ⟨b14, 0, none⟩)), (3, .pointer (some ⟨b2, 0, none⟩)), (0, .pointer (some ⟨mb, 0, none⟩)), (1, .agg #[.int .u8 13, .int .u32 ev.pick, .int .u64 ev.draw, .int .u32 ev.addr, .int .u32 ev.node, .int .u32 ev.dst, .int .u32 ev.xfer, .int .u8 ev.ty, .int .u64 ev.arg, .int .u64 ev.badge, .slice xo ev.ws.length cx]), (4, .int .u8 0), (5, .bool false), (7, .pointer (some ⟨(Z.tp x), 0, none⟩)), (53, .int .u8 13), (66, .bool false), (437, .bool true), (441, .pointer (some ⟨mb, 0, none⟩)), (443, .int .u32 ev.addr)]) (φ := (b2 = b2 ∧ Nat.ble (3 + 1) 11 = true) ∧ True) (rest := [3, 4, 5, 6, 7, 8]) h73 (by kernel_rfl) rfl ⟨⟨rfl, rfl⟩, trivial⟩ fun a75 h76 => ?_
  clear h73
  refine nd_op ?_
  refine op_call h76 rfl rfl rfl (callOk Tryd.func93 (by decide) rfl) (args := [.pointer (some ⟨mb, 0, none⟩), .int .u32 ev.addr]) rfl (cellOf_ok mb Z _ a C x hx hcx hci ev.addr he.addr e1 _ (mh_of h76 hho (k := 0) rfl)) ?_
  rintro _ w77 ⟨rfl, hg79⟩
  refine ⟨_, rfl, ?_⟩
  have h80a := st_mg h76 hg79 (kcons (fun _ => rfl) (kcons (fun hq => by cases hq) (kcons (fun hq => by cases hq) knil)))
  have h80 := h80a.put (d := some 444) (v := .tuple #[.int .i64 s1, .int .u8 0]) (T' := [(444, .tuple #[.int .i64 s1, .int .u8 0]), (6, .pointer (some ⟨b14, 0, none⟩)), (3, .pointer (some ⟨b2, 0, none⟩)), (0, .pointer (some ⟨mb, 0, none⟩)), (1, .agg #[.int .u8 13, .int .u32 ev.pick, .int .u64 ev.draw, .int .u32 ev.addr, .int .u32 ev.node, .int .u32 ev.dst, .int .u32 ev.xfer, .int .u8 ev.ty, .int .u64 ev.arg, .int .u64 ev.badge, .slice xo ev.ws.length cx]), (4, .int .u8 0), (5, .bool false), (7, .pointer (some ⟨(Z.tp x), 0, none⟩)), (53, .int .u8 13), (66, .bool false), (437, .bool true), (441, .pointer (some ⟨mb, 0, none⟩)), (443, .int .u32 ev.addr)]) rfl
  have hhoh80 := hg79.mh.ho
  clear h76 h80a
  refine nd_batch tabOk2 tabZ_ok2 [(4, {}), (5, {}), (6, {}), (7, {}), (8, {})] [6, 3, 0, 1, 4, 5, 7, 53, 66, 437, 31, 32] (T' := [(6, .pointer (some ⟨b14, 0, none⟩)), (3, .pointer (some ⟨b2, 0, none⟩)), (0, .pointer (some ⟨mb, 0, none⟩)), (1, .agg #[.int .u8 13, .int .u32 ev.pick, .int .u64 ev.draw, .int .u32 ev.addr, .int .u32 ev.node, .int .u32 ev.dst, .int .u32 ev.xfer, .int .u8 ev.ty, .int .u64 ev.arg, .int .u64 ev.badge, .slice xo ev.ws.length cx]), (4, .int .u8 0), (5, .bool false), (7, .pointer (some ⟨(Z.tp x), 0, none⟩)), (53, .int .u8 13), (66, .bool false), (437, .bool true), (31, .int .i64 s1), (32, .int .u8 0)]) (φ := True) (rest := []) h80 (by kernel_rfl) rfl trivial fun a81 h82 => ?_
  clear h80
  refine nd_done ?_
  refine hK74 _ _ ?_
  clear hK74
  refine wp_seq_k fun K83 hK83 => ?_
  refine wp_seq_k fun K84 hK84 => ?_
  refine nd_start (l := [0, 1]) rfl ?_
  refine nd_batch tabOk2 tabZ_ok2 [(0, {}), (1, {})] [6, 3, 0, 1, 4, 5, 7, 53, 66, 437, 31, 32, 448] (T' := [(6, .pointer (some ⟨b14, 0, none⟩)), (3, .pointer (some ⟨b2, 0, none⟩)), (0, .pointer (some ⟨mb, 0, none⟩)), (1, .agg #[.int .u8 13, .int .u32 ev.pick, .int .u64 ev.draw, .int .u32 ev.addr, .int .u32 ev.node, .int .u32 ev.dst, .int .u32 ev.xfer, .int .u8 ev.ty, .int .u64 ev.arg, .int .u64 ev.badge, .slice xo ev.ws.length cx]), (4, .int .u8 0), (5, .bool false), (7, .pointer (some ⟨(Z.tp x), 0, none⟩)), (53, .int .u8 13), (66, .bool false), (437, .bool true), (31, .int .i64 s1), (32, .int .u8 0), (448, .bool false)]) (φ := True) (rest := []) h82 (by kernel_rfl) rfl trivial fun a85 h86 => ?_
  clear h82
  refine nd_done ?_
  refine hK84 _ _ ?_
  clear hK84
  refine c_false h86 rfl ?_
  refine wp_skip ?_
  refine hK83 _ _ ?_
  clear hK83
  refine wp_seq_k fun K87 hK87 => ?_
  refine wp_seq_k fun K88 hK88 => ?_
  refine nd_start (l := [0, 1, 2, 3, 4, 5, 6, 7]) rfl ?_
  refine nd_batch tabOk2 tabZ_ok2 [(0, {}), (1, {}), (2, {})] [6, 3, 0, 1, 4, 5, 7, 53, 66, 437, 31, 32, 452] (T' := [(6, .pointer (some ⟨b14, 0, none⟩)), (3, .pointer (some ⟨b2, 0, none⟩)), (0, .pointer (some ⟨mb, 0, none⟩)), (1, .agg #[.int .u8 13, .int .u32 ev.pick, .int .u64 ev.draw, .int .u32 ev.addr, .int .u32 ev.node, .int .u32 ev.dst, .int .u32 ev.xfer, .int .u8 ev.ty, .int .u64 ev.arg, .int .u64 ev.badge, .slice xo ev.ws.length cx]), (4, .int .u8 0), (5, .bool false), (7, .pointer (some ⟨(Z.tp x), 0, none⟩)), (53, .int .u8 13), (66, .bool false), (437, .bool true), (31, .int .i64 s1), (32, .int .u8 0), (452, .pointer (some ⟨mb, 1, none⟩))]) (φ := True) (rest := [3, 4, 5, 6, 7]) h86 (by kernel_rfl) rfl trivial fun a89 h90 => ?_
  clear h86
  refine nd_op ?_
  refine op_read (b := mb) (v := .pointer (some ⟨Z.mc, 0, none⟩)) h90 rfl rfl (rd_m h90 (k := 1) (v := .pointer (some ⟨Z.mc, 0, none⟩)) rfl rfl rfl rfl (md_p ⟨rfl, trivial⟩)) ?_
  have h91 := h90.put (d := some 453) (v := .pointer (some ⟨Z.mc, 0, none⟩)) (T' := [(453, .pointer (some ⟨Z.mc, 0, none⟩)), (6, .pointer (some ⟨b14, 0, none⟩)), (3, .pointer (some ⟨b2, 0, none⟩)), (0, .pointer (some ⟨mb, 0, none⟩)), (1, .agg #[.int .u8 13, .int .u32 ev.pick, .int .u64 ev.draw, .int .u32 ev.addr, .int .u32 ev.node, .int .u32 ev.dst, .int .u32 ev.xfer, .int .u8 ev.ty, .int .u64 ev.arg, .int .u64 ev.badge, .slice xo ev.ws.length cx]), (4, .int .u8 0), (5, .bool false), (7, .pointer (some ⟨(Z.tp x), 0, none⟩)), (53, .int .u8 13), (66, .bool false), (437, .bool true), (31, .int .i64 s1), (32, .int .u8 0), (452, .pointer (some ⟨mb, 1, none⟩))]) rfl
  clear h90
  refine nd_batch tabOk2 tabZ_ok2 [(4, {})] [453, 6, 3, 0, 1, 4, 5, 7, 53, 66, 437, 31, 32, 454] (T' := [(453, .pointer (some ⟨Z.mc, 0, none⟩)), (6, .pointer (some ⟨b14, 0, none⟩)), (3, .pointer (some ⟨b2, 0, none⟩)), (0, .pointer (some ⟨mb, 0, none⟩)), (1, .agg #[.int .u8 13, .int .u32 ev.pick, .int .u64 ev.draw, .int .u32 ev.addr, .int .u32 ev.node, .int .u32 ev.dst, .int .u32 ev.xfer, .int .u8 ev.ty, .int .u64 ev.arg, .int .u64 ev.badge, .slice xo ev.ws.length cx]), (4, .int .u8 0), (5, .bool false), (7, .pointer (some ⟨(Z.tp x), 0, none⟩)), (53, .int .u8 13), (66, .bool false), (437, .bool true), (31, .int .i64 s1), (32, .int .u8 0), (454, .int .i64 s1)]) (φ := True) (rest := [5, 6, 7]) h91 (by kernel_rfl) rfl trivial fun a92 h93 => ?_
  clear h91
  refine nd_op ?_
  obtain ⟨i1, j1, hi1, hj1, hp1, hs1⟩ := look_fact hI.ci hci.1 he.addr.1 e1 rfl
  refine op_call h93 rfl rfl rfl (callOk Tryd.func62 (by decide) rfl) (args := [.pointer (some ⟨Z.mc, 0, none⟩), .int .i64 s1]) rfl (atE Z.mo Z.mc Z.nd C hi1 hj1 hp1 hs1 _ h93.inv.1.cp) ?_
  rintro _ w94 ⟨rfl, hf96⟩
  refine ⟨_, rfl, ?_⟩
  have h95 := (h93.grow hf96).put (d := some 455) (v := .agg #[.int .u8 ((C.cel s1.toNat).cap.ty), .int .u16 ((C.cel s1.toNat).cap.obj.idx), .int .u32 ((C.cel s1.toNat).cap.obj.gen), .int .u8 ((C.cel s1.toNat).cap.rights), .int .u64 ((C.cel s1.toNat).cap.badge)]) (T' := [(455, .agg #[.int .u8 ((C.cel s1.toNat).cap.ty), .int .u16 ((C.cel s1.toNat).cap.obj.idx), .int .u32 ((C.cel s1.toNat).cap.obj.gen), .int .u8 ((C.cel s1.toNat).cap.rights), .int .u64 ((C.cel s1.toNat).cap.badge)]), (453, .pointer (some ⟨Z.mc, 0, none⟩)), (6, .pointer (some ⟨b14, 0, none⟩)), (3, .pointer (some ⟨b2, 0, none⟩)), (0, .pointer (some ⟨mb, 0, none⟩)), (1, .agg #[.int .u8 13, .int .u32 ev.pick, .int .u64 ev.draw, .int .u32 ev.addr, .int .u32 ev.node, .int .u32 ev.dst, .int .u32 ev.xfer, .int .u8 ev.ty, .int .u64 ev.arg, .int .u64 ev.badge, .slice xo ev.ws.length cx]), (4, .int .u8 0), (5, .bool false), (7, .pointer (some ⟨(Z.tp x), 0, none⟩)), (53, .int .u8 13), (66, .bool false), (437, .bool true), (31, .int .i64 s1), (32, .int .u8 0), (454, .int .i64 s1)]) rfl
  clear h93
  refine nd_batch tabOk2 tabZ_ok2 [(6, {}), (7, {})] [6, 3, 0, 1, 4, 5, 7, 53, 66, 437, 31, 32, 457] (T' := [(6, .pointer (some ⟨b14, 0, none⟩)), (3, .pointer (some ⟨b2, 0, none⟩)), (0, .pointer (some ⟨mb, 0, none⟩)), (1, .agg #[.int .u8 13, .int .u32 ev.pick, .int .u64 ev.draw, .int .u32 ev.addr, .int .u32 ev.node, .int .u32 ev.dst, .int .u32 ev.xfer, .int .u8 ev.ty, .int .u64 ev.arg, .int .u64 ev.badge, .slice xo ev.ws.length cx]), (4, .int .u8 0), (5, .bool false), (7, .pointer (some ⟨(Z.tp x), 0, none⟩)), (53, .int .u8 13), (66, .bool false), (437, .bool true), (31, .int .i64 s1), (32, .int .u8 0), (457, .bool ((C.cel s1.toNat).cap.ty == 0))]) (φ := True) (rest := []) h95 (by kernel_rfl) rfl trivial fun a97 h98 => ?_
  clear h95
  refine nd_done ?_
  refine hK88 _ _ ?_
  clear hK88
  refine c_split h98 (b := ((C.cel s1.toNat).cap.ty == 0)) rfl (fun hc99 => ?_) (fun hc99 => ?_)
  ·
    have hc99f : (C.cel s1.toNat).cap.ty = 0 := by simpa using hc99
    exact absurd (hz2) (by first | exact hc99f | (intro hz; exact hc99f hz) | omega | simp_all)
  ·
    have hc99f : (C.cel s1.toNat).cap.ty ≠ 0 := by simpa using hc99
    refine wp_skip ?_
    refine hK87 _ _ ?_
    clear hK87
    refine wp_seq_k fun K100 hK100 => ?_
    refine nd_start (l := [0]) rfl ?_
    refine nd_batch tabOk2 tabZ_ok2 [(0, {})] [6, 3, 0, 1, 4, 5, 7, 53, 66, 437, 31, 32, 33] (T' := [(6, .pointer (some ⟨b14, 0, none⟩)), (3, .pointer (some ⟨b2, 0, none⟩)), (0, .pointer (some ⟨mb, 0, none⟩)), (1, .agg #[.int .u8 13, .int .u32 ev.pick, .int .u64 ev.draw, .int .u32 ev.addr, .int .u32 ev.node, .int .u32 ev.dst, .int .u32 ev.xfer, .int .u8 ev.ty, .int .u64 ev.arg, .int .u64 ev.badge, .slice xo ev.ws.length cx]), (4, .int .u8 0), (5, .bool false), (7, .pointer (some ⟨(Z.tp x), 0, none⟩)), (53, .int .u8 13), (66, .bool false), (437, .bool true), (31, .int .i64 s1), (32, .int .u8 0), (33, .slice none 0 0)]) (φ := True) (rest := []) h98 (by kernel_rfl) rfl trivial fun a101 h102 => ?_
    clear h98
    refine nd_done ?_
    refine hK100 _ _ ?_
    clear hK100
    refine wp_seq_k fun K103 hK103 => ?_
    refine wp_seq_k fun K104 hK104 => ?_
    refine nd_start (l := [0, 1, 2]) rfl ?_
    refine nd_batch tabOk2 tabZ_ok2 [(0, {}), (1, {k := 1}), (2, {})] [6, 3, 0, 1, 4, 5, 7, 53, 66, 437, 31, 32, 33, 460] (T' := [(6, .pointer (some ⟨b14, 0, none⟩)), (3, .pointer (some ⟨b2, 0, none⟩)), (0, .pointer (some ⟨mb, 0, none⟩)), (1, .agg #[.int .u8 13, .int .u32 ev.pick, .int .u64 ev.draw, .int .u32 ev.addr, .int .u32 ev.node, .int .u32 ev.dst, .int .u32 ev.xfer, .int .u8 ev.ty, .int .u64 ev.arg, .int .u64 ev.badge, .slice xo ev.ws.length cx]), (4, .int .u8 0), (5, .bool false), (7, .pointer (some ⟨(Z.tp x), 0, none⟩)), (53, .int .u8 13), (66, .bool false), (437, .bool true), (31, .int .i64 s1), (32, .int .u8 0), (33, .slice none 0 0), (460, .bool false)]) (φ := (b2 = b2 ∧ Nat.ble (0 + 1) 11 = true) ∧ True) (rest := []) h102 (by kernel_rfl) rfl ⟨⟨rfl, rfl⟩, trivial⟩ fun a105 h106 => ?_
    clear h102
    refine nd_done ?_
    refine hK104 _ _ ?_
    clear hK104
    refine c_false h106 rfl ?_
    refine nd_start (l := [0, 1, 2, 3, 4, 5, 6]) rfl ?_
    refine nd_batch tabOk2 tabZ_ok2 [(0, {}), (1, {}), (2, {})] [6, 3, 0, 1, 4, 5, 7, 53, 66, 437, 31, 32, 33, 469] (T' := [(6, .pointer (some ⟨b14, 0, none⟩)), (3, .pointer (some ⟨b2, 0, none⟩)), (0, .pointer (some ⟨mb, 0, none⟩)), (1, .agg #[.int .u8 13, .int .u32 ev.pick, .int .u64 ev.draw, .int .u32 ev.addr, .int .u32 ev.node, .int .u32 ev.dst, .int .u32 ev.xfer, .int .u8 ev.ty, .int .u64 ev.arg, .int .u64 ev.badge, .slice xo ev.ws.length cx]), (4, .int .u8 0), (5, .bool false), (7, .pointer (some ⟨(Z.tp x), 0, none⟩)), (53, .int .u8 13), (66, .bool false), (437, .bool true), (31, .int .i64 s1), (32, .int .u8 0), (33, .slice none 0 0), (469, .pointer (some ⟨mb, 1, none⟩))]) (φ := True) (rest := [3, 4, 5, 6]) h106 (by kernel_rfl) rfl trivial fun a107 h108 => ?_
    clear h106
    refine nd_op ?_
    refine op_read (b := mb) (v := .pointer (some ⟨Z.mc, 0, none⟩)) h108 rfl rfl (rd_m h108 (k := 1) (v := .pointer (some ⟨Z.mc, 0, none⟩)) rfl rfl rfl rfl (md_p ⟨rfl, trivial⟩)) ?_
    have h109 := h108.put (d := some 470) (v := .pointer (some ⟨Z.mc, 0, none⟩)) (T' := [(470, .pointer (some ⟨Z.mc, 0, none⟩)), (6, .pointer (some ⟨b14, 0, none⟩)), (3, .pointer (some ⟨b2, 0, none⟩)), (0, .pointer (some ⟨mb, 0, none⟩)), (1, .agg #[.int .u8 13, .int .u32 ev.pick, .int .u64 ev.draw, .int .u32 ev.addr, .int .u32 ev.node, .int .u32 ev.dst, .int .u32 ev.xfer, .int .u8 ev.ty, .int .u64 ev.arg, .int .u64 ev.badge, .slice xo ev.ws.length cx]), (4, .int .u8 0), (5, .bool false), (7, .pointer (some ⟨(Z.tp x), 0, none⟩)), (53, .int .u8 13), (66, .bool false), (437, .bool true), (31, .int .i64 s1), (32, .int .u8 0), (33, .slice none 0 0), (469, .pointer (some ⟨mb, 1, none⟩))]) rfl
    clear h108
    refine nd_batch tabOk2 tabZ_ok2 [(4, {})] [470, 6, 3, 0, 1, 4, 5, 7, 53, 66, 437, 31, 32, 33, 471] (T' := [(470, .pointer (some ⟨Z.mc, 0, none⟩)), (6, .pointer (some ⟨b14, 0, none⟩)), (3, .pointer (some ⟨b2, 0, none⟩)), (0, .pointer (some ⟨mb, 0, none⟩)), (1, .agg #[.int .u8 13, .int .u32 ev.pick, .int .u64 ev.draw, .int .u32 ev.addr, .int .u32 ev.node, .int .u32 ev.dst, .int .u32 ev.xfer, .int .u8 ev.ty, .int .u64 ev.arg, .int .u64 ev.badge, .slice xo ev.ws.length cx]), (4, .int .u8 0), (5, .bool false), (7, .pointer (some ⟨(Z.tp x), 0, none⟩)), (53, .int .u8 13), (66, .bool false), (437, .bool true), (31, .int .i64 s1), (32, .int .u8 0), (33, .slice none 0 0), (471, .int .i64 s1)]) (φ := True) (rest := [5, 6]) h109 (by kernel_rfl) rfl trivial fun a110 h111 => ?_
    clear h109
    refine nd_op ?_
    refine op_call h111 rfl rfl rfl (callOk Tryd.func96 (by decide) rfl) (args := [.pointer (some ⟨Z.mc, 0, none⟩), .int .i64 s1]) rfl (by have h9 := revoke_ok Z.mo Z.mc Z.nd C hI.ci s1 _ h111.inv.1.cp; rw [hdr] at h9; exact h9) ?_
    rintro _ w115 ⟨o112, c113, F114, rfl, hrow116, hF117, hsub118, hf119⟩
    refine ⟨_, rfl, ?_⟩
    obtain ⟨rb, rcs, hro, hrb, hrF, hall⟩ := rowC_all hrow116.row hdl
    subst hro hrF
    have h120a : St _ _ [(3, ⟨[.int .u16 0, .int .u32 0], ty3, true⟩), (b2, ⟨[.int .u8 13, .int .u32 ev.pick, .int .u64 ev.draw, .int .u32 ev.addr, .int .u32 ev.node, .int .u32 ev.dst, .int .u32 ev.xfer, .int .u8 ev.ty, .int .u64 ev.arg, .int .u64 ev.badge, .slice xo ev.ws.length cx], 35, false⟩), (b14, ⟨[.int .u16 ((Z.ky x).idx), .int .u32 ((Z.ky x).gen)], 39, false⟩), (rb, ⟨rcs, 49, false⟩)] _ _ := st_capR h111 hrow116.cap hf119 hsub118 (kcons (fun _ => rfl) (kcons (fun hq => by cases hq) (kcons (fun hq => by cases hq) knil))) hrb (hF117 rb (by simp))
    have h120 := h120a.put (d := some 472) (v := .slice (some ⟨rb, 0, none⟩) dead.length c113) (T' := [(472, .slice (some ⟨rb, 0, none⟩) dead.length c113), (470, .pointer (some ⟨Z.mc, 0, none⟩)), (6, .pointer (some ⟨b14, 0, none⟩)), (3, .pointer (some ⟨b2, 0, none⟩)), (0, .pointer (some ⟨mb, 0, none⟩)), (1, .agg #[.int .u8 13, .int .u32 ev.pick, .int .u64 ev.draw, .int .u32 ev.addr, .int .u32 ev.node, .int .u32 ev.dst, .int .u32 ev.xfer, .int .u8 ev.ty, .int .u64 ev.arg, .int .u64 ev.badge, .slice xo ev.ws.length cx]), (4, .int .u8 0), (5, .bool false), (7, .pointer (some ⟨(Z.tp x), 0, none⟩)), (53, .int .u8 13), (66, .bool false), (437, .bool true), (31, .int .i64 s1), (32, .int .u8 0), (33, .slice none 0 0), (471, .int .i64 s1)]) rfl
    clear h111 h120a
    refine nd_batch tabOk2 tabZ_ok2 [(6, {})] [6, 3, 0, 1, 4, 5, 7, 53, 66, 437, 31, 32, 33] (T' := [(6, .pointer (some ⟨b14, 0, none⟩)), (3, .pointer (some ⟨b2, 0, none⟩)), (0, .pointer (some ⟨mb, 0, none⟩)), (1, .agg #[.int .u8 13, .int .u32 ev.pick, .int .u64 ev.draw, .int .u32 ev.addr, .int .u32 ev.node, .int .u32 ev.dst, .int .u32 ev.xfer, .int .u8 ev.ty, .int .u64 ev.arg, .int .u64 ev.badge, .slice xo ev.ws.length cx]), (4, .int .u8 0), (5, .bool false), (7, .pointer (some ⟨(Z.tp x), 0, none⟩)), (53, .int .u8 13), (66, .bool false), (437, .bool true), (31, .int .i64 s1), (32, .int .u8 0), (33, .slice (some ⟨rb, 0, none⟩) dead.length c113)]) (φ := True) (rest := []) h120 (by kernel_rfl) rfl trivial fun a121 h122 => ?_
    clear h120
    refine nd_done ?_
    refine hK103 _ _ ?_
    clear hK103
    refine wp_seq_k fun K123 hK123 => ?_
    refine wp_seq_k fun K124 hK124 => ?_
    refine nd_start (l := [0, 1, 2]) rfl ?_
    refine nd_batch tabOk2 tabZ_ok2 [(0, {}), (1, {}), (2, {})] [6, 3, 0, 1, 4, 5, 7, 53, 66, 437, 31, 32, 33, 473, 474, 475] (T' := [(6, .pointer (some ⟨b14, 0, none⟩)), (3, .pointer (some ⟨b2, 0, none⟩)), (0, .pointer (some ⟨mb, 0, none⟩)), (1, .agg #[.int .u8 13, .int .u32 ev.pick, .int .u64 ev.draw, .int .u32 ev.addr, .int .u32 ev.node, .int .u32 ev.dst, .int .u32 ev.xfer, .int .u8 ev.ty, .int .u64 ev.arg, .int .u64 ev.badge, .slice xo ev.ws.length cx]), (4, .int .u8 0), (5, .bool false), (7, .pointer (some ⟨(Z.tp x), 0, none⟩)), (53, .int .u8 13), (66, .bool false), (437, .bool true), (31, .int .i64 s1), (32, .int .u8 0), (33, .slice (some ⟨rb, 0, none⟩) dead.length c113), (473, .slice (some ⟨rb, 0, none⟩) dead.length c113), (474, .int .i64 ((dead.length : Nat) : Int)), (475, .int .i64 0)]) (φ := True) (rest := []) h122 (by kernel_rfl) rfl trivial fun a125 h126 => ?_
    clear h122
    refine nd_done ?_
    refine hK124 _ _ ?_
    clear hK124
    refine wp_block ?_
    have hdl9 : dead.length < 1000000 := hdlen
    refine wp_loop_ghost (fun g ga gw => ∃ (Z1 : MZ) (b1 : AK) (R1 : MR) (m : Nat), (g = dead.length - m) ∧ (m ≤ dead.length) ∧ ((Z1, b1) = (dead.take m).foldl (forgetM C1.ent) (Z, a)) ∧ (R1.ho = none) ∧ (MP Z1 b1) ∧ St (MCx 628 (mdF mb Z R C) w mb Z1 R1 b1 C1) [(0, .pointer (some ⟨mb, 0, none⟩)), (3, .pointer (some ⟨b2, 0, none⟩)), (473, .slice (some ⟨rb, 0, none⟩) dead.length c113), (474, .int .i64 ((dead.length : Nat) : Int)), (475, .int .i64 ((m : Nat) : Int))] [(3, ⟨[.int .u16 0, .int .u32 0], ty3, true⟩), (b2, ⟨[.int .u8 13, .int .u32 ev.pick, .int .u64 ev.draw, .int .u32 ev.addr, .int .u32 ev.node, .int .u32 ev.dst, .int .u32 ev.xfer, .int .u8 ev.ty, .int .u64 ev.arg, .int .u64 ev.badge, .slice xo ev.ws.length cx], 35, false⟩), (b14, ⟨[.int .u16 ((Z.ky x).idx), .int .u32 ((Z.ky x).gen)], 39, false⟩), (rb, ⟨rcs, 49, false⟩)] ga gw) dead.length ⟨Z, a, R, 0, by omega, by omega, rfl, hhoh80, hP, (h126.slotsMono (restr_spec (keep := [0, 3, 473, 474, 475]) rfl))⟩ ?_
    clear h126
    rintro g a127 w128 ⟨Z1, b1, R1, m, hi130, hi131, hi132, hi133, hi134, h129⟩
    have hig := hi130
    have hm8 := hi131
    have hb1 := hi132
    have hho1 := hi133
    have hP1 := hi134
    refine wp_seq_k fun K135 hK135 => ?_
    refine nd_start (l := [0]) rfl ?_
    refine nd_batch tabOk2 tabZ_ok2 [(0, {})] [0, 3, 473, 474, 475, 476] (T' := [(0, .pointer (some ⟨mb, 0, none⟩)), (3, .pointer (some ⟨b2, 0, none⟩)), (473, .slice (some ⟨rb, 0, none⟩) dead.length c113), (474, .int .i64 ((dead.length : Nat) : Int)), (475, .int .i64 ((m : Nat) : Int)), (476, .bool (decide (((m : Nat) : Int) < ((dead.length : Nat) : Int))))]) (φ := True) (rest := []) h129 (by kernel_rfl) rfl trivial fun a136 h137 => ?_
    clear h129
    refine nd_done ?_
    refine hK135 _ _ ?_
    clear hK135
    refine wp_seq_k fun K138 hK138 => ?_
    refine c_split h137 (b := decide (((m : Nat) : Int) < ((dead.length : Nat) : Int))) rfl (fun hc139 => ?_) (fun hc139 => ?_)
    ·
      have hc139f : ((m : Nat) : Int) < ((dead.length : Nat) : Int) := by simpa using hc139
      obtain ⟨c, hcm⟩ : ∃ c, dead[m]? = some c := ⟨dead[m]'(by omega), by simp⟩
      have hfo : FOk Z1 c := by have h9 := hfa.at hcm; rw [← hb1] at h9; exact h9
      refine wp_skip ?_
      refine hK138 _ _ ?_
      clear hK138
      refine wp_seq_k fun K140 hK140 => ?_
      refine wp_block ?_
      refine wp_seq_k fun K141 hK141 => ?_
      refine nd_start (l := [0, 1, 2, 3]) rfl ?_
      refine nd_batch tabOk2 tabZ_ok2 [(0, {}), (1, {k := 3, m := 1, vs := [.int .u8 c.ty, .int .u16 c.obj.idx, .int .u32 c.obj.gen, .int .u8 c.rights, .int .u64 c.badge]})] [0, 3, 473, 474, 475, 478] (T' := [(0, .pointer (some ⟨mb, 0, none⟩)), (3, .pointer (some ⟨b2, 0, none⟩)), (473, .slice (some ⟨rb, 0, none⟩) dead.length c113), (474, .int .i64 ((dead.length : Nat) : Int)), (475, .int .i64 ((m : Nat) : Int)), (478, .agg #[.int .u8 c.ty, .int .u16 c.obj.idx, .int .u32 c.obj.gen, .int .u8 c.rights, .int .u64 c.badge])]) (φ := (0 ≤ ((m : Nat) : Int) ∧ ((m : Nat) : Int) < ((dead.length : Nat) : Int)) ∧ (rb = rb ∧ cellsAre rcs (0 + (m * 5)) [.int .u8 c.ty, .int .u16 c.obj.idx, .int .u32 c.obj.gen, .int .u8 c.rights, .int .u64 c.badge]) ∧ True) (rest := [2, 3]) h137 (by kernel_rfl) rfl ⟨⟨by omega, by omega⟩, ⟨rfl, (by rw [Nat.zero_add]; exact hall m _ hcm)⟩, trivial⟩ fun a142 h143 => ?_
      clear h137
      refine nd_op ?_
      refine op_new tabOk2 (cells := [.int .u8 0, .int .u16 0, .int .u32 0, .int .u8 0, .int .u64 0]) (ty := 49) (ln := none) (L1 := fun b144 => [(3, ⟨[.int .u16 0, .int .u32 0], ty3, true⟩), (b2, ⟨[.int .u8 13, .int .u32 ev.pick, .int .u64 ev.draw, .int .u32 ev.addr, .int .u32 ev.node, .int .u32 ev.dst, .int .u32 ev.xfer, .int .u8 ev.ty, .int .u64 ev.arg, .int .u64 ev.badge, .slice xo ev.ws.length cx], 35, false⟩), (b14, ⟨[.int .u16 ((Z.ky x).idx), .int .u32 ((Z.ky x).gen)], 39, false⟩), (rb, ⟨rcs, 49, false⟩), (b144, ⟨[.int .u8 0, .int .u16 0, .int .u32 0, .int .u8 0, .int .u64 0], 49, false⟩)]) h143 rfl rfl rfl rfl (by kernel_rfl) (fun _ => rfl) fun b144 w145 a146 h147 hf148 hn149 => ?_
      clear h143
      refine nd_op ?_
      refine op_store tabOk2 {k := 4} (L' := [(3, ⟨[.int .u16 0, .int .u32 0], ty3, true⟩), (b2, ⟨[.int .u8 13, .int .u32 ev.pick, .int .u64 ev.draw, .int .u32 ev.addr, .int .u32 ev.node, .int .u32 ev.dst, .int .u32 ev.xfer, .int .u8 ev.ty, .int .u64 ev.arg, .int .u64 ev.badge, .slice xo ev.ws.length cx], 35, false⟩), (b14, ⟨[.int .u16 ((Z.ky x).idx), .int .u32 ((Z.ky x).gen)], 39, false⟩), (rb, ⟨rcs, 49, false⟩), (b144, ⟨[.int .u8 c.ty, .int .u16 c.obj.idx, .int .u32 c.obj.gen, .int .u8 c.rights, .int .u64 c.badge], 49, false⟩)]) (φ := b144 = b144 ∧ Nat.ble (0 + 5) 5 = true) h147 rfl rfl rfl (by kernel_rfl) ⟨rfl, rfl⟩ fun w150 h151 => ?_
      clear h147
      refine nd_done ?_
      refine hK141 _ _ ?_
      clear hK141
      refine nd_start (l := [0, 1, 2]) rfl ?_
      refine nd_batch tabOk2 tabZ_ok2 [(0, {}), (1, {k := 4})] [35, 0, 3, 473, 474, 475, 479, 480] (T' := [(35, .pointer (some ⟨b144, 0, none⟩)), (0, .pointer (some ⟨mb, 0, none⟩)), (3, .pointer (some ⟨b2, 0, none⟩)), (473, .slice (some ⟨rb, 0, none⟩) dead.length c113), (474, .int .i64 ((dead.length : Nat) : Int)), (475, .int .i64 ((m : Nat) : Int)), (479, .pointer (some ⟨mb, 0, none⟩)), (480, .agg #[.int .u8 c.ty, .int .u16 c.obj.idx, .int .u32 c.obj.gen, .int .u8 c.rights, .int .u64 c.badge])]) (φ := (b144 = b144 ∧ Nat.ble (0 + 5) 5 = true) ∧ True) (rest := [2]) h151 (by kernel_rfl) rfl ⟨⟨rfl, rfl⟩, trivial⟩ fun a152 h153 => ?_
      clear h151
      refine nd_op ?_
      have hk9 := h153.inv.1.k
      refine op_call h153 rfl rfl rfl (callOk Tryd.func97 (by decide) rfl) (args := [.pointer (some ⟨mb, 0, none⟩), .agg #[.int .u8 c.ty, .int .u16 c.obj.idx, .int .u32 c.obj.gen, .int .u8 c.rights, .int .u64 c.badge]]) rfl (forget_ok mb Z1 _ b1 C1 c hfo hP1 _ (mh_of h153 hho1 (k := 0) rfl)) ?_
      rintro _ w154 ⟨rfl, R155, hg156⟩
      refine ⟨_, rfl, ?_⟩
      have h157a := st_mg h153 hg156 (kcons (fun _ => rfl) (kcons (fun hq => by cases hq) (kcons (fun hq => by cases hq) (kcons (fun hq => by cases hq) (kcons (fun hq => by cases hq) knil)))))
      have h157 := h157a.put (d := some 481) (v := .tuple #[]) (T' := [(481, .tuple #[]), (35, .pointer (some ⟨b144, 0, none⟩)), (0, .pointer (some ⟨mb, 0, none⟩)), (3, .pointer (some ⟨b2, 0, none⟩)), (473, .slice (some ⟨rb, 0, none⟩) dead.length c113), (474, .int .i64 ((dead.length : Nat) : Int)), (475, .int .i64 ((m : Nat) : Int)), (479, .pointer (some ⟨mb, 0, none⟩)), (480, .agg #[.int .u8 c.ty, .int .u16 c.obj.idx, .int .u32 c.obj.gen, .int .u8 c.rights, .int .u64 c.badge])]) rfl
      have hhoh157 := hg156.mh.ho
      clear h153 h157a
      refine nd_done ?_
      refine hK140 _ _ ?_
      clear hK140
      refine nd_start (l := [0, 1]) rfl ?_
      refine nd_batch tabOk2 tabZ_ok2 [(0, {}), (1, {})] [35, 0, 3, 473, 474, 475] (T' := [(35, .pointer (some ⟨b144, 0, none⟩)), (0, .pointer (some ⟨mb, 0, none⟩)), (3, .pointer (some ⟨b2, 0, none⟩)), (473, .slice (some ⟨rb, 0, none⟩) dead.length c113), (474, .int .i64 ((dead.length : Nat) : Int)), (475, .int .i64 (((m : Nat) : Int) + 1))]) (φ := inR .i64 (((m : Nat) : Int) + 1) ∧ True) (rest := []) h157 (by kernel_rfl) rfl ⟨⟨by omega, by omega⟩, trivial⟩ fun a158 h159 => ?_
      clear h157
      refine nd_done ?_
      have h160 := h159.memMono (L' := [(3, ⟨[.int .u16 0, .int .u32 0], ty3, true⟩), (b2, ⟨[.int .u8 13, .int .u32 ev.pick, .int .u64 ev.draw, .int .u32 ev.addr, .int .u32 ev.node, .int .u32 ev.dst, .int .u32 ev.xfer, .int .u8 ev.ty, .int .u64 ev.arg, .int .u64 ev.badge, .slice xo ev.ws.length cx], 35, false⟩), (b14, ⟨[.int .u16 ((Z.ky x).idx), .int .u32 ((Z.ky x).gen)], 39, false⟩), (rb, ⟨rcs, 49, false⟩)]) (List.Sublist.cons_cons _ (List.Sublist.cons_cons _ (List.Sublist.cons_cons _ (List.Sublist.cons_cons _ (List.Sublist.cons _ List.Sublist.slnil)))))
      clear h159
      exact ⟨(g - 1), by omega, (forgetM C1.ent (Z1, b1) c).1, (forgetM C1.ent (Z1, b1) c).2, R155, (m + 1), by omega, by omega, (by rw [List.take_add_one, hcm, Option.toList, List.foldl_append, ← hb1]; rfl), hhoh157, (forget_MP hP1 hk9 hfo), (h160.slotsMono (restr_spec (keep := [0, 3, 473, 474, 475]) rfl))⟩
    ·
      have hc139f : ¬ ((m : Nat) : Int) < ((dead.length : Nat) : Int) := by simpa using hc139
      have hm9 : dead.length ≤ m := by omega
      rw [List.take_of_length_le hm9] at hb1
      refine wp_exit ?_
      refine hK123 _ _ ?_
      clear hK123
      refine wp_seq_k fun K161 hK161 => ?_
      refine nd_start (l := [0, 1]) rfl ?_
      refine nd_batch tabOk2 tabZ_ok2 [(0, {}), (1, {})] [0, 3, 473, 474, 475, 4, 5] (T' := [(0, .pointer (some ⟨mb, 0, none⟩)), (3, .pointer (some ⟨b2, 0, none⟩)), (473, .slice (some ⟨rb, 0, none⟩) dead.length c113), (474, .int .i64 ((dead.length : Nat) : Int)), (475, .int .i64 ((m : Nat) : Int)), (4, .int .u8 0), (5, .bool false)]) (φ := True) (rest := []) h137 (by kernel_rfl) rfl trivial fun a162 h163 => ?_
      clear h137
      refine nd_done ?_
      refine hK161 _ _ ?_
      clear hK161
      refine wp_ret ?_
      try simp only [Exit.then, Exit.inBlock]
      try rw [if_pos trivial]
      exact s_ret tabOk2 tabZ_ok2 h163 [(.tmp 4, {}), (.tmp 5, {})] (vs := [.int .u8 0, .bool false]) (φ := True) rfl (by kernel_rfl) trivial ⟨rfl, R1, (by rw [← hb1]; exact mg_end hH h163 hho1 rfl)⟩

end Go.Proofs.Qxb6500918aDoor
