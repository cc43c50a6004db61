/-
  The model: reply, copy. (Made by program: a symbolic walk that prints its steps.)
-/
import Derived.Test.Qxb6500918aDoorUp
namespace Go.Proofs.Qxb6500918aDoor
open Go.Sx Go.Kn
set_option maxRecDepth 100000
set_option maxHeartbeats 4000000
set_option linter.unusedVariables false
set_option linter.unusedSimpArgs false

theorem call7z (mb : Nat) (Z : MZ) (R : MR) (a : AK) (C : CP) (hI : MI Z a C) (x : Nat) (hx : x ∈ sl Z.tl) (hcu : a.cur = (x : Int)) (ev : Ev) (he : EvOk ev) (xo : Option Addr) (cx : Nat) (hr0 : (a.th x).rep = ⟨0, 0⟩) (w : World) (hH : MH mb Z R a C w) (hws : WordsAt (mdF mb Z R C) w xo ev.ws) :
    Calls Tryd.prog 55 #[.pointer (some ⟨mb, 0, none⟩), .agg #[.int .u8 7, .int .u32 ev.pick, .int .u64 ev.draw, .int .u32 ev.addr, .int .u32 ev.node, .int .u32 ev.dst, .int .u32 ev.xfer, .int .u8 ev.ty, .int .u64 ev.arg, .int .u64 ev.badge, .slice xo ev.ws.length cx]] w fun e w' => e = .returned (.tuple #[.int .u8 12, .bool false]) ∧ ∃ R', MG mb Z R C w Z R' a C w' := by
  have hP := hI.mp
  have hcx : curR Z a = Z.ky x := curR_of hcu
  have hcn : a.cur.toNat = x := by rw [hcu]; exact Int.toNat_natCast x
  have hci := (hI.tk x hx).ci
  obtain ⟨ty3, hg3⟩ := hH.g3
  have hho := hH.ho
  have hkk := hH.md.k
  refine enter (n := 628) (K := mdF mb Z R C) (A := MD (mdF mb Z R C) w.heap.size mb Z R a C) (F := mdF mb Z R C) (T := [(0, .pointer (some ⟨mb, 0, none⟩)), (1, .agg #[.int .u8 7, .int .u32 ev.pick, .int .u64 ev.draw, .int .u32 ev.addr, .int .u32 ev.node, .int .u32 ev.dst, .int .u32 ev.xfer, .int .u8 ev.ty, .int .u64 ev.arg, .int .u64 ev.badge, .slice xo ev.ws.length cx])]) (L := [(3, ⟨[.int .u16 0, .int .u32 0], ty3, true⟩)]) (args := [.pointer (some ⟨mb, 0, none⟩), .agg #[.int .u8 7, .int .u32 ev.pick, .int .u64 ev.draw, .int .u32 ev.addr, .int .u32 ev.node, .int .u32 ev.dst, .int .u32 ev.xfer, .int .u8 ev.ty, .int .u64 ev.arg, .int .u64 ev.badge, .slice xo ev.ws.length cx]]) Tryd.func55 rfl rfl rfl rfl (kcons hg3 knil) (by simp) (kcons (by intro hq; cases hq) knil) hH.mD MD.stable hH.md.low (kcons (by intro hq; cases hq) knil) ?_
  intro ac h
  refine wp_seq_k fun K1 hK1 => ?_
  refine nd_start (l := [0, 1, 2]) rfl ?_
  refine nd_op ?_
  refine op_new tabOk2 (cells := [.int .u8 7, .int .u32 ev.pick, .int .u64 ev.draw, .int .u32 ev.addr, .int .u32 ev.node, .int .u32 ev.dst, .int .u32 ev.xfer, .int .u8 ev.ty, .int .u64 ev.arg, .int .u64 ev.badge, .slice xo ev.ws.length cx]) (ty := 35) (ln := none) (L1 := fun b2 => [(3, ⟨[.int .u16 0, .int .u32 0], ty3, true⟩), (b2, ⟨[.int .u8 7, .int .u32 ev.pick, .int .u64 ev.draw, .int .u32 ev.addr, .int .u32 ev.node, .int .u32 ev.dst, .int .u32 ev.xfer, .int .u8 ev.ty, .int .u64 ev.arg, .int .u64 ev.badge, .slice xo ev.ws.length cx], 35, false⟩)]) h rfl rfl rfl rfl (by kernel_rfl) (fun _ => rfl) fun b2 w3 a4 h5 hf6 hn7 => ?_
  clear h
  refine nd_batch tabOk2 tabZ_ok2 [(1, {}), (2, {})] [3, 0, 1, 4, 5] (T' := [(3, .pointer (some ⟨b2, 0, none⟩)), (0, .pointer (some ⟨mb, 0, none⟩)), (1, .agg #[.int .u8 7, .int .u32 ev.pick, .int .u64 ev.draw, .int .u32 ev.addr, .int .u32 ev.node, .int .u32 ev.dst, .int .u32 ev.xfer, .int .u8 ev.ty, .int .u64 ev.arg, .int .u64 ev.badge, .slice xo ev.ws.length cx]), (4, .int .u8 0), (5, .bool false)]) (φ := True) (rest := []) h5 (by kernel_rfl) rfl trivial fun a8 h9 => ?_
  clear h5
  refine nd_done ?_
  refine hK1 _ _ ?_
  clear hK1
  refine wp_seq_k fun K10 hK10 => ?_
  refine nd_start (l := [0, 1, 2, 3, 4, 5]) rfl ?_
  refine nd_batch tabOk2 tabZ_ok2 [(0, {}), (1, {}), (2, {})] [3, 0, 1, 4, 5, 44] (T' := [(3, .pointer (some ⟨b2, 0, none⟩)), (0, .pointer (some ⟨mb, 0, none⟩)), (1, .agg #[.int .u8 7, .int .u32 ev.pick, .int .u64 ev.draw, .int .u32 ev.addr, .int .u32 ev.node, .int .u32 ev.dst, .int .u32 ev.xfer, .int .u8 ev.ty, .int .u64 ev.arg, .int .u64 ev.badge, .slice xo ev.ws.length cx]), (4, .int .u8 0), (5, .bool false), (44, .pointer (some ⟨mb, 13, none⟩))]) (φ := True) (rest := [3, 4, 5]) h9 (by kernel_rfl) rfl trivial fun a11 h12 => ?_
  clear h9
  refine nd_op ?_
  refine op_read (b := mb) (v := .agg #[.int .u16 ((Z.ky x).idx), .int .u32 ((Z.ky x).gen)]) h12 rfl rfl (rd_mA h12 (k := 13) (vs := [.int .u16 ((Z.ky x).idx), .int .u32 ((Z.ky x).gen)]) rfl rfl rfl rfl rfl (by rw [← hcx]; exact md_cur)) ?_
  have h13 := h12.put (d := some 45) (v := .agg #[.int .u16 ((Z.ky x).idx), .int .u32 ((Z.ky x).gen)]) (T' := [(45, .agg #[.int .u16 ((Z.ky x).idx), .int .u32 ((Z.ky x).gen)]), (3, .pointer (some ⟨b2, 0, none⟩)), (0, .pointer (some ⟨mb, 0, none⟩)), (1, .agg #[.int .u8 7, .int .u32 ev.pick, .int .u64 ev.draw, .int .u32 ev.addr, .int .u32 ev.node, .int .u32 ev.dst, .int .u32 ev.xfer, .int .u8 ev.ty, .int .u64 ev.arg, .int .u64 ev.badge, .slice xo ev.ws.length cx]), (4, .int .u8 0), (5, .bool false), (44, .pointer (some ⟨mb, 13, none⟩))]) rfl
  clear h12
  refine nd_op ?_
  refine op_new tabOk2 (cells := [.int .u16 0, .int .u32 0]) (ty := 39) (ln := none) (L1 := fun b14 => [(3, ⟨[.int .u16 0, .int .u32 0], ty3, true⟩), (b2, ⟨[.int .u8 7, .int .u32 ev.pick, .int .u64 ev.draw, .int .u32 ev.addr, .int .u32 ev.node, .int .u32 ev.dst, .int .u32 ev.xfer, .int .u8 ev.ty, .int .u64 ev.arg, .int .u64 ev.badge, .slice xo ev.ws.length cx], 35, false⟩), (b14, ⟨[.int .u16 0, .int .u32 0], 39, false⟩)]) h13 rfl rfl rfl rfl (by kernel_rfl) (fun _ => rfl) fun b14 w15 a16 h17 hf18 hn19 => ?_
  clear h13
  refine nd_op ?_
  refine op_store tabOk2 {k := 2} (L' := [(3, ⟨[.int .u16 0, .int .u32 0], ty3, true⟩), (b2, ⟨[.int .u8 7, .int .u32 ev.pick, .int .u64 ev.draw, .int .u32 ev.addr, .int .u32 ev.node, .int .u32 ev.dst, .int .u32 ev.xfer, .int .u8 ev.ty, .int .u64 ev.arg, .int .u64 ev.badge, .slice xo ev.ws.length cx], 35, false⟩), (b14, ⟨[.int .u16 ((Z.ky x).idx), .int .u32 ((Z.ky x).gen)], 39, false⟩)]) (φ := b14 = b14 ∧ Nat.ble (0 + 2) 2 = true) h17 rfl rfl rfl (by kernel_rfl) ⟨rfl, rfl⟩ fun w20 h21 => ?_
  clear h17
  refine nd_done ?_
  refine hK10 _ _ ?_
  clear hK10
  refine wp_seq_k fun K22 hK22 => ?_
  refine dr_start (KB := [3, b2, b14, mb, Z.tb]) (Bi := [[0, 1, 2, 3, 4], [0, 1, 2, 3, 4], [0, 1, 2, 3, 4], [0, 1, 2, 3, 4], [0, 1, 2, 3, 4], [0, 1, 2, 3, 4], [0, 1, 2, 3, 4]]) mixed h21 fun w23 h24 => ?_
  clear h21
  refine dr_batch tabOk2 tabZ_ok2 (by repeat (first | with_reducible exact PF.body | with_reducible apply PF.inB | with_reducible apply PF.next)) [(0, {}), (1, {}), (2, {})] [6, 3, 0, 1, 4, 5, 48] (T' := [(6, .pointer (some ⟨b14, 0, none⟩)), (3, .pointer (some ⟨b2, 0, none⟩)), (0, .pointer (some ⟨mb, 0, none⟩)), (1, .agg #[.int .u8 7, .int .u32 ev.pick, .int .u64 ev.draw, .int .u32 ev.addr, .int .u32 ev.node, .int .u32 ev.dst, .int .u32 ev.xfer, .int .u8 ev.ty, .int .u64 ev.arg, .int .u64 ev.badge, .slice xo ev.ws.length cx]), (4, .int .u8 0), (5, .bool false), (48, .pointer (some ⟨mb, 2, none⟩))]) (φ := True) (fuel := 4) h24 (by kernel_rfl) rfl (by kernel_rfl) (by kernel_rfl) ⟨trivial, trivial, trivial, trivial⟩ trivial fun a26 h27 => ?_
  clear h24
  refine dr_read (i := 3) (b := mb) (p := 3) (v := .map (some Z.tb)) (fuel := 3) (by repeat (first | with_reducible exact PF.body | with_reducible apply PF.inB | with_reducible apply PF.next)) h27 rfl rfl rfl (by kernel_rfl) (by kernel_rfl) (by kernel_rfl) rfl (rd_m h27 (k := 2) (v := .map (some Z.tb)) rfl rfl rfl rfl (md_p ⟨rfl, trivial⟩)) ?_
  have h28 := h27.put (d := some 49) (v := .map (some Z.tb)) (T' := [(49, .map (some Z.tb)), (6, .pointer (some ⟨b14, 0, none⟩)), (3, .pointer (some ⟨b2, 0, none⟩)), (0, .pointer (some ⟨mb, 0, none⟩)), (1, .agg #[.int .u8 7, .int .u32 ev.pick, .int .u64 ev.draw, .int .u32 ev.addr, .int .u32 ev.node, .int .u32 ev.dst, .int .u32 ev.xfer, .int .u8 ev.ty, .int .u64 ev.arg, .int .u64 ev.badge, .slice xo ev.ws.length cx]), (4, .int .u8 0), (5, .bool false), (48, .pointer (some ⟨mb, 2, none⟩))]) rfl
  clear h27
  refine dr_batch tabOk2 tabZ_ok2 (by repeat (first | with_reducible exact PF.body | with_reducible apply PF.inB | with_reducible apply PF.next)) [(4, {k := 2, p := 2})] [49, 6, 3, 0, 1, 4, 5, 50] (T' := [(49, .map (some Z.tb)), (6, .pointer (some ⟨b14, 0, none⟩)), (3, .pointer (some ⟨b2, 0, none⟩)), (0, .pointer (some ⟨mb, 0, none⟩)), (1, .agg #[.int .u8 7, .int .u32 ev.pick, .int .u64 ev.draw, .int .u32 ev.addr, .int .u32 ev.node, .int .u32 ev.dst, .int .u32 ev.xfer, .int .u8 ev.ty, .int .u64 ev.arg, .int .u64 ev.badge, .slice xo ev.ws.length cx]), (4, .int .u8 0), (5, .bool false), (50, .agg #[.int .u16 ((Z.ky x).idx), .int .u32 ((Z.ky x).gen)])]) (φ := (b14 = b14 ∧ Nat.ble (0 + 2) 2 = true) ∧ True) (fuel := 2) h28 (by kernel_rfl) rfl (by kernel_rfl) (by kernel_rfl) ⟨rfl, trivial⟩ ⟨⟨rfl, rfl⟩, trivial⟩ fun a29 h30 => ?_
  clear h28
  refine dr_read (i := 5) (b := Z.tb) (p := 4) (v := .pointer (some ⟨(Z.tp x), 0, none⟩)) (fuel := 1) (by repeat (first | with_reducible exact PF.body | with_reducible apply PF.inB | with_reducible apply PF.next)) h30 rfl rfl rfl (by kernel_rfl) (by kernel_rfl) (by kernel_rfl) rfl (rd_T h30 (x := x) hx rfl rfl rfl) ?_
  have h31 := h30.put (d := some 51) (v := .pointer (some ⟨(Z.tp x), 0, none⟩)) (T' := [(51, .pointer (some ⟨(Z.tp x), 0, none⟩)), (49, .map (some Z.tb)), (6, .pointer (some ⟨b14, 0, none⟩)), (3, .pointer (some ⟨b2, 0, none⟩)), (0, .pointer (some ⟨mb, 0, none⟩)), (1, .agg #[.int .u8 7, .int .u32 ev.pick, .int .u64 ev.draw, .int .u32 ev.addr, .int .u32 ev.node, .int .u32 ev.dst, .int .u32 ev.xfer, .int .u8 ev.ty, .int .u64 ev.arg, .int .u64 ev.badge, .slice xo ev.ws.length cx]), (4, .int .u8 0), (5, .bool false), (50, .agg #[.int .u16 ((Z.ky x).idx), .int .u32 ((Z.ky x).gen)])]) rfl
  clear h30
  refine dr_batch tabOk2 tabZ_ok2 (by repeat (first | with_reducible exact PF.body | with_reducible apply PF.inB | with_reducible apply PF.next)) [(6, {})] [6, 3, 0, 1, 4, 5, 7] (T' := [(6, .pointer (some ⟨b14, 0, none⟩)), (3, .pointer (some ⟨b2, 0, none⟩)), (0, .pointer (some ⟨mb, 0, none⟩)), (1, .agg #[.int .u8 7, .int .u32 ev.pick, .int .u64 ev.draw, .int .u32 ev.addr, .int .u32 ev.node, .int .u32 ev.dst, .int .u32 ev.xfer, .int .u8 ev.ty, .int .u64 ev.arg, .int .u64 ev.badge, .slice xo ev.ws.length cx]), (4, .int .u8 0), (5, .bool false), (7, .pointer (some ⟨(Z.tp x), 0, none⟩))]) (φ := True) (fuel := 0) h31 (by kernel_rfl) rfl (by kernel_rfl) (by kernel_rfl) ⟨trivial, trivial⟩ trivial fun a32 h33 => ?_
  clear h31
  refine wpAnyK_done (by kernel_rfl) ?_ _
  refine hK22 _ _ ?_
  clear hK22
  refine wp_seq_k fun K34 hK34 => ?_
  refine wp_seq_k fun K35 hK35 => ?_
  refine nd_start (l := [0, 1]) rfl ?_
  refine nd_batch tabOk2 tabZ_ok2 [(0, {}), (1, {k := 1})] [6, 3, 0, 1, 4, 5, 7, 53] (T' := [(6, .pointer (some ⟨b14, 0, none⟩)), (3, .pointer (some ⟨b2, 0, none⟩)), (0, .pointer (some ⟨mb, 0, none⟩)), (1, .agg #[.int .u8 7, .int .u32 ev.pick, .int .u64 ev.draw, .int .u32 ev.addr, .int .u32 ev.node, .int .u32 ev.dst, .int .u32 ev.xfer, .int .u8 ev.ty, .int .u64 ev.arg, .int .u64 ev.badge, .slice xo ev.ws.length cx]), (4, .int .u8 0), (5, .bool false), (7, .pointer (some ⟨(Z.tp x), 0, none⟩)), (53, .int .u8 7)]) (φ := (b2 = b2 ∧ Nat.ble (0 + 1) 11 = true) ∧ True) (rest := []) h33 (by kernel_rfl) rfl ⟨⟨rfl, rfl⟩, trivial⟩ fun a36 h37 => ?_
  clear h33
  refine nd_done ?_
  refine hK35 _ _ ?_
  clear hK35
  refine wp_block ?_
  refine wp_seq_k fun K38 hK38 => ?_
  refine nd_start (l := [0, 1]) rfl ?_
  refine nd_batch tabOk2 tabZ_ok2 [(0, {}), (1, {})] [6, 3, 0, 1, 4, 5, 7, 53, 54] (T' := [(6, .pointer (some ⟨b14, 0, none⟩)), (3, .pointer (some ⟨b2, 0, none⟩)), (0, .pointer (some ⟨mb, 0, none⟩)), (1, .agg #[.int .u8 7, .int .u32 ev.pick, .int .u64 ev.draw, .int .u32 ev.addr, .int .u32 ev.node, .int .u32 ev.dst, .int .u32 ev.xfer, .int .u8 ev.ty, .int .u64 ev.arg, .int .u64 ev.badge, .slice xo ev.ws.length cx]), (4, .int .u8 0), (5, .bool false), (7, .pointer (some ⟨(Z.tp x), 0, none⟩)), (53, .int .u8 7), (54, .bool false)]) (φ := True) (rest := []) h37 (by kernel_rfl) rfl trivial fun a39 h40 => ?_
  clear h37
  refine nd_done ?_
  refine hK38 _ _ ?_
  clear hK38
  refine c_false h40 rfl ?_
  refine wp_seq_k fun K41 hK41 => ?_
  refine nd_start (l := [0, 1]) rfl ?_
  refine nd_batch tabOk2 tabZ_ok2 [(0, {}), (1, {})] [6, 3, 0, 1, 4, 5, 7, 53, 59] (T' := [(6, .pointer (some ⟨b14, 0, none⟩)), (3, .pointer (some ⟨b2, 0, none⟩)), (0, .pointer (some ⟨mb, 0, none⟩)), (1, .agg #[.int .u8 7, .int .u32 ev.pick, .int .u64 ev.draw, .int .u32 ev.addr, .int .u32 ev.node, .int .u32 ev.dst, .int .u32 ev.xfer, .int .u8 ev.ty, .int .u64 ev.arg, .int .u64 ev.badge, .slice xo ev.ws.length cx]), (4, .int .u8 0), (5, .bool false), (7, .pointer (some ⟨(Z.tp x), 0, none⟩)), (53, .int .u8 7), (59, .bool false)]) (φ := True) (rest := []) h40 (by kernel_rfl) rfl trivial fun a42 h43 => ?_
  clear h40
  refine nd_done ?_
  refine hK41 _ _ ?_
  clear hK41
  refine c_false h43 rfl ?_
  refine wp_seq_k fun K44 hK44 => ?_
  refine wp_seq_k fun K45 hK45 => ?_
  refine nd_start (l := [0, 1]) rfl ?_
  refine nd_batch tabOk2 tabZ_ok2 [(0, {}), (1, {})] [6, 3, 0, 1, 4, 5, 7, 53, 66] (T' := [(6, .pointer (some ⟨b14, 0, none⟩)), (3, .pointer (some ⟨b2, 0, none⟩)), (0, .pointer (some ⟨mb, 0, none⟩)), (1, .agg #[.int .u8 7, .int .u32 ev.pick, .int .u64 ev.draw, .int .u32 ev.addr, .int .u32 ev.node, .int .u32 ev.dst, .int .u32 ev.xfer, .int .u8 ev.ty, .int .u64 ev.arg, .int .u64 ev.badge, .slice xo ev.ws.length cx]), (4, .int .u8 0), (5, .bool false), (7, .pointer (some ⟨(Z.tp x), 0, none⟩)), (53, .int .u8 7), (66, .bool false)]) (φ := True) (rest := []) h43 (by kernel_rfl) rfl trivial fun a46 h47 => ?_
  clear h43
  refine nd_done ?_
  refine hK45 _ _ ?_
  clear hK45
  refine c_false h47 rfl ?_
  refine nd_start (l := [0, 1]) rfl ?_
  refine nd_batch tabOk2 tabZ_ok2 [(0, {}), (1, {})] [6, 3, 0, 1, 4, 5, 7, 53, 66] (T' := [(6, .pointer (some ⟨b14, 0, none⟩)), (3, .pointer (some ⟨b2, 0, none⟩)), (0, .pointer (some ⟨mb, 0, none⟩)), (1, .agg #[.int .u8 7, .int .u32 ev.pick, .int .u64 ev.draw, .int .u32 ev.addr, .int .u32 ev.node, .int .u32 ev.dst, .int .u32 ev.xfer, .int .u8 ev.ty, .int .u64 ev.arg, .int .u64 ev.badge, .slice xo ev.ws.length cx]), (4, .int .u8 0), (5, .bool false), (7, .pointer (some ⟨(Z.tp x), 0, none⟩)), (53, .int .u8 7), (66, .bool false)]) (φ := True) (rest := []) h47 (by kernel_rfl) rfl trivial fun a48 h49 => ?_
  clear h47
  refine nd_done ?_
  refine hK44 _ _ ?_
  clear hK44
  refine c_false h49 rfl ?_
  refine wp_seq_k fun K50 hK50 => ?_
  refine nd_start (l := [0, 1]) rfl ?_
  refine nd_batch tabOk2 tabZ_ok2 [(0, {}), (1, {})] [6, 3, 0, 1, 4, 5, 7, 53, 66, 129] (T' := [(6, .pointer (some ⟨b14, 0, none⟩)), (3, .pointer (some ⟨b2, 0, none⟩)), (0, .pointer (some ⟨mb, 0, none⟩)), (1, .agg #[.int .u8 7, .int .u32 ev.pick, .int .u64 ev.draw, .int .u32 ev.addr, .int .u32 ev.node, .int .u32 ev.dst, .int .u32 ev.xfer, .int .u8 ev.ty, .int .u64 ev.arg, .int .u64 ev.badge, .slice xo ev.ws.length cx]), (4, .int .u8 0), (5, .bool false), (7, .pointer (some ⟨(Z.tp x), 0, none⟩)), (53, .int .u8 7), (66, .bool false), (129, .bool false)]) (φ := True) (rest := []) h49 (by kernel_rfl) rfl trivial fun a51 h52 => ?_
  clear h49
  refine nd_done ?_
  refine hK50 _ _ ?_
  clear hK50
  refine c_false h52 rfl ?_
  refine wp_seq_k fun K53 hK53 => ?_
  refine nd_start (l := [0, 1]) rfl ?_
  refine nd_batch tabOk2 tabZ_ok2 [(0, {}), (1, {})] [6, 3, 0, 1, 4, 5, 7, 53, 66, 165] (T' := [(6, .pointer (some ⟨b14, 0, none⟩)), (3, .pointer (some ⟨b2, 0, none⟩)), (0, .pointer (some ⟨mb, 0, none⟩)), (1, .agg #[.int .u8 7, .int .u32 ev.pick, .int .u64 ev.draw, .int .u32 ev.addr, .int .u32 ev.node, .int .u32 ev.dst, .int .u32 ev.xfer, .int .u8 ev.ty, .int .u64 ev.arg, .int .u64 ev.badge, .slice xo ev.ws.length cx]), (4, .int .u8 0), (5, .bool false), (7, .pointer (some ⟨(Z.tp x), 0, none⟩)), (53, .int .u8 7), (66, .bool false), (165, .bool true)]) (φ := True) (rest := []) h52 (by kernel_rfl) rfl trivial fun a54 h55 => ?_
  clear h52
  refine nd_done ?_
  refine hK53 _ _ ?_
  clear hK53
  refine c_true h55 rfl ?_
  refine wp_seq_k fun K56 hK56 => ?_
  refine wp_seq_k fun K57 hK57 => ?_
  refine dr_start (KB := [3, b2, b14, (Z.tp x)]) (Bi := [[0, 1, 2, 3], [0, 1, 2, 3], [0, 1, 2, 3], [0, 1, 2, 3], [0, 1, 2, 3], [0, 1, 2, 3]]) mixed h55 fun w58 h59 => ?_
  clear h55
  refine dr_batch tabOk2 tabZ_ok2 (by repeat (first | with_reducible exact PF.body | with_reducible apply PF.inB | with_reducible apply PF.next)) [(0, {}), (1, {}), (2, {})] [6, 3, 0, 1, 4, 5, 7, 53, 66, 169] (T' := [(6, .pointer (some ⟨b14, 0, none⟩)), (3, .pointer (some ⟨b2, 0, none⟩)), (0, .pointer (some ⟨mb, 0, none⟩)), (1, .agg #[.int .u8 7, .int .u32 ev.pick, .int .u64 ev.draw, .int .u32 ev.addr, .int .u32 ev.node, .int .u32 ev.dst, .int .u32 ev.xfer, .int .u8 ev.ty, .int .u64 ev.arg, .int .u64 ev.badge, .slice xo ev.ws.length cx]), (4, .int .u8 0), (5, .bool false), (7, .pointer (some ⟨(Z.tp x), 0, none⟩)), (53, .int .u8 7), (66, .bool false), (169, .pointer (some ⟨(Z.tp x), 6, none⟩))]) (φ := True) (fuel := 3) h59 (by kernel_rfl) rfl (by kernel_rfl) (by kernel_rfl) ⟨trivial, trivial, trivial, trivial⟩ trivial fun a61 h62 => ?_
  clear h59
  refine dr_read (i := 3) (b := (Z.tp x)) (p := 3) (v := .agg #[.int .u16 ((a.th x).rep.idx), .int .u32 ((a.th x).rep.gen)]) (fuel := 2) (by repeat (first | with_reducible exact PF.body | with_reducible apply PF.inB | with_reducible apply PF.next)) h62 rfl rfl rfl (by kernel_rfl) (by kernel_rfl) (by kernel_rfl) rfl (rd_thA h62 (x := x) (k := 6) (vs := [.int .u16 ((a.th x).rep.idx), .int .u32 ((a.th x).rep.gen)]) hx rfl rfl rfl rfl rfl ⟨rfl, rfl, trivial⟩) ?_
  have h63 := h62.put (d := some 170) (v := .agg #[.int .u16 ((a.th x).rep.idx), .int .u32 ((a.th x).rep.gen)]) (T' := [(170, .agg #[.int .u16 ((a.th x).rep.idx), .int .u32 ((a.th x).rep.gen)]), (6, .pointer (some ⟨b14, 0, none⟩)), (3, .pointer (some ⟨b2, 0, none⟩)), (0, .pointer (some ⟨mb, 0, none⟩)), (1, .agg #[.int .u8 7, .int .u32 ev.pick, .int .u64 ev.draw, .int .u32 ev.addr, .int .u32 ev.node, .int .u32 ev.dst, .int .u32 ev.xfer, .int .u8 ev.ty, .int .u64 ev.arg, .int .u64 ev.badge, .slice xo ev.ws.length cx]), (4, .int .u8 0), (5, .bool false), (7, .pointer (some ⟨(Z.tp x), 0, none⟩)), (53, .int .u8 7), (66, .bool false), (169, .pointer (some ⟨(Z.tp x), 6, none⟩))]) rfl
  clear h62
  refine dr_batch tabOk2 tabZ_ok2 (by repeat (first | with_reducible exact PF.body | with_reducible apply PF.inB | with_reducible apply PF.next)) [(4, {k := 0, p := 0}), (5, {vs := [.bool (decide ((a.th x).rep = (⟨0, 0⟩ : Rf)))]})] [6, 3, 0, 1, 4, 5, 7, 53, 66, 172] (T' := [(6, .pointer (some ⟨b14, 0, none⟩)), (3, .pointer (some ⟨b2, 0, none⟩)), (0, .pointer (some ⟨mb, 0, none⟩)), (1, .agg #[.int .u8 7, .int .u32 ev.pick, .int .u64 ev.draw, .int .u32 ev.addr, .int .u32 ev.node, .int .u32 ev.dst, .int .u32 ev.xfer, .int .u8 ev.ty, .int .u64 ev.arg, .int .u64 ev.badge, .slice xo ev.ws.length cx]), (4, .int .u8 0), (5, .bool false), (7, .pointer (some ⟨(Z.tp x), 0, none⟩)), (53, .int .u8 7), (66, .bool false), (172, .bool (Bool.xor false (decide ((a.th x).rep = (⟨0, 0⟩ : Rf)))))]) (φ := (3 = 3 ∧ Nat.ble (0 + 2) 2 = true) ∧ EqRun Tryd.prog 39 (.agg #[.int .u16 ((a.th x).rep.idx), .int .u32 ((a.th x).rep.gen)]) (.agg #[.int .u16 0, .int .u32 0]) (decide ((a.th x).rep = (⟨0, 0⟩ : Rf))) ∧ True) (fuel := 0) h63 (by kernel_rfl) rfl (by kernel_rfl) (by kernel_rfl) ⟨rfl, trivial, trivial⟩ ⟨⟨rfl, rfl⟩, (runRf ((a.th x).rep) (⟨0, 0⟩ : Rf)), trivial⟩ fun a64 h65 => ?_
  clear h63
  refine wpAnyK_done (by kernel_rfl) ?_ _
  refine hK57 _ _ ?_
  clear hK57
  refine c_split h65 (b := (Bool.xor false (decide ((a.th x).rep = (⟨0, 0⟩ : Rf))))) rfl (fun hc66 => ?_) (fun hc66 => ?_)
  ·
    have hc66f : (a.th x).rep = (⟨0, 0⟩ : Rf) := by simpa using hc66
    refine wp_seq_k fun K67 hK67 => ?_
    refine nd_start (l := [0, 1]) rfl ?_
    refine nd_batch tabOk2 tabZ_ok2 [(0, {}), (1, {})] [6, 3, 0, 1, 7, 53, 66, 4, 5] (T' := [(6, .pointer (some ⟨b14, 0, none⟩)), (3, .pointer (some ⟨b2, 0, none⟩)), (0, .pointer (some ⟨mb, 0, none⟩)), (1, .agg #[.int .u8 7, .int .u32 ev.pick, .int .u64 ev.draw, .int .u32 ev.addr, .int .u32 ev.node, .int .u32 ev.dst, .int .u32 ev.xfer, .int .u8 ev.ty, .int .u64 ev.arg, .int .u64 ev.badge, .slice xo ev.ws.length cx]), (7, .pointer (some ⟨(Z.tp x), 0, none⟩)), (53, .int .u8 7), (66, .bool false), (4, .int .u8 12), (5, .bool false)]) (φ := True) (rest := []) h65 (by kernel_rfl) rfl trivial fun a68 h69 => ?_
    clear h65
    refine nd_done ?_
    refine hK67 _ _ ?_
    clear hK67
    refine wp_ret ?_
    try simp only [Exit.then, Exit.inBlock]
    try rw [if_pos trivial]
    exact s_ret tabOk2 tabZ_ok2 h69 [(.tmp 4, {}), (.tmp 5, {})] (vs := [.int .u8 12, .bool false]) (φ := True) rfl (by kernel_rfl) trivial (by exact ⟨rfl, _, mg_end hH h69 hho rfl⟩)
  ·
    have hc66f : ¬ ((a.th x).rep = (⟨0, 0⟩ : Rf)) := by simpa using hc66
    exact absurd (hr0) (by first | exact hc66f | (intro hz; exact hc66f hz) | omega | simp_all)

theorem call7l (mb : Nat) (Z : MZ) (R : MR) (a : AK) (C : CP) (hI : MI Z a C) (x : Nat) (hx : x ∈ sl Z.tl) (hcu : a.cur = (x : Int)) (ev : Ev) (he : EvOk ev) (xo : Option Addr) (cx : Nat) (hr0 : ¬ (a.th x).rep = ⟨0, 0⟩) (hwl : (ev.ws.length : Int) > 4) (w : World) (hH : MH mb Z R a C w) (hws : WordsAt (mdF mb Z R C) w xo ev.ws) :
    Calls Tryd.prog 55 #[.pointer (some ⟨mb, 0, none⟩), .agg #[.int .u8 7, .int .u32 ev.pick, .int .u64 ev.draw, .int .u32 ev.addr, .int .u32 ev.node, .int .u32 ev.dst, .int .u32 ev.xfer, .int .u8 ev.ty, .int .u64 ev.arg, .int .u64 ev.badge, .slice xo ev.ws.length cx]] w fun e w' => e = .returned (.tuple #[.int .u8 8, .bool false]) ∧ ∃ R', MG mb Z R C w Z R' a C w' := by
  have hP := hI.mp
  have hcx : curR Z a = Z.ky x := curR_of hcu
  have hcn : a.cur.toNat = x := by rw [hcu]; exact Int.toNat_natCast x
  have hci := (hI.tk x hx).ci
  obtain ⟨ty3, hg3⟩ := hH.g3
  have hho := hH.ho
  have hkk := hH.md.k
  refine enter (n := 628) (K := mdF mb Z R C) (A := MD (mdF mb Z R C) w.heap.size mb Z R a C) (F := mdF mb Z R C) (T := [(0, .pointer (some ⟨mb, 0, none⟩)), (1, .agg #[.int .u8 7, .int .u32 ev.pick, .int .u64 ev.draw, .int .u32 ev.addr, .int .u32 ev.node, .int .u32 ev.dst, .int .u32 ev.xfer, .int .u8 ev.ty, .int .u64 ev.arg, .int .u64 ev.badge, .slice xo ev.ws.length cx])]) (L := [(3, ⟨[.int .u16 0, .int .u32 0], ty3, true⟩)]) (args := [.pointer (some ⟨mb, 0, none⟩), .agg #[.int .u8 7, .int .u32 ev.pick, .int .u64 ev.draw, .int .u32 ev.addr, .int .u32 ev.node, .int .u32 ev.dst, .int .u32 ev.xfer, .int .u8 ev.ty, .int .u64 ev.arg, .int .u64 ev.badge, .slice xo ev.ws.length cx]]) Tryd.func55 rfl rfl rfl rfl (kcons hg3 knil) (by simp) (kcons (by intro hq; cases hq) knil) hH.mD MD.stable hH.md.low (kcons (by intro hq; cases hq) knil) ?_
  intro ac h
  refine wp_seq_k fun K1 hK1 => ?_
  refine nd_start (l := [0, 1, 2]) rfl ?_
  refine nd_op ?_
  refine op_new tabOk2 (cells := [.int .u8 7, .int .u32 ev.pick, .int .u64 ev.draw, .int .u32 ev.addr, .int .u32 ev.node, .int .u32 ev.dst, .int .u32 ev.xfer, .int .u8 ev.ty, .int .u64 ev.arg, .int .u64 ev.badge, .slice xo ev.ws.length cx]) (ty := 35) (ln := none) (L1 := fun b2 => [(3, ⟨[.int .u16 0, .int .u32 0], ty3, true⟩), (b2, ⟨[.int .u8 7, .int .u32 ev.pick, .int .u64 ev.draw, .int .u32 ev.addr, .int .u32 ev.node, .int .u32 ev.dst, .int .u32 ev.xfer, .int .u8 ev.ty, .int .u64 ev.arg, .int .u64 ev.badge, .slice xo ev.ws.length cx], 35, false⟩)]) h rfl rfl rfl rfl (by kernel_rfl) (fun _ => rfl) fun b2 w3 a4 h5 hf6 hn7 => ?_
  clear h
  refine nd_batch tabOk2 tabZ_ok2 [(1, {}), (2, {})] [3, 0, 1, 4, 5] (T' := [(3, .pointer (some ⟨b2, 0, none⟩)), (0, .pointer (some ⟨mb, 0, none⟩)), (1, .agg #[.int .u8 7, .int .u32 ev.pick, .int .u64 ev.draw, .int .u32 ev.addr, .int .u32 ev.node, .int .u32 ev.dst, .int .u32 ev.xfer, .int .u8 ev.ty, .int .u64 ev.arg, .int .u64 ev.badge, .slice xo ev.ws.length cx]), (4, .int .u8 0), (5, .bool false)]) (φ := True) (rest := []) h5 (by kernel_rfl) rfl trivial fun a8 h9 => ?_
  clear h5
  refine nd_done ?_
  refine hK1 _ _ ?_
  clear hK1
  refine wp_seq_k fun K10 hK10 => ?_
  refine nd_start (l := [0, 1, 2, 3, 4, 5]) rfl ?_
  refine nd_batch tabOk2 tabZ_ok2 [(0, {}), (1, {}), (2, {})] [3, 0, 1, 4, 5, 44] (T' := [(3, .pointer (some ⟨b2, 0, none⟩)), (0, .pointer (some ⟨mb, 0, none⟩)), (1, .agg #[.int .u8 7, .int .u32 ev.pick, .int .u64 ev.draw, .int .u32 ev.addr, .int .u32 ev.node, .int .u32 ev.dst, .int .u32 ev.xfer, .int .u8 ev.ty, .int .u64 ev.arg, .int .u64 ev.badge, .slice xo ev.ws.length cx]), (4, .int .u8 0), (5, .bool false), (44, .pointer (some ⟨mb, 13, none⟩))]) (φ := True) (rest := [3, 4, 5]) h9 (by kernel_rfl) rfl trivial fun a11 h12 => ?_
  clear h9
  refine nd_op ?_
  refine op_read (b := mb) (v := .agg #[.int .u16 ((Z.ky x).idx), .int .u32 ((Z.ky x).gen)]) h12 rfl rfl (rd_mA h12 (k := 13) (vs := [.int .u16 ((Z.ky x).idx), .int .u32 ((Z.ky x).gen)]) rfl rfl rfl rfl rfl (by rw [← hcx]; exact md_cur)) ?_
  have h13 := h12.put (d := some 45) (v := .agg #[.int .u16 ((Z.ky x).idx), .int .u32 ((Z.ky x).gen)]) (T' := [(45, .agg #[.int .u16 ((Z.ky x).idx), .int .u32 ((Z.ky x).gen)]), (3, .pointer (some ⟨b2, 0, none⟩)), (0, .pointer (some ⟨mb, 0, none⟩)), (1, .agg #[.int .u8 7, .int .u32 ev.pick, .int .u64 ev.draw, .int .u32 ev.addr, .int .u32 ev.node, .int .u32 ev.dst, .int .u32 ev.xfer, .int .u8 ev.ty, .int .u64 ev.arg, .int .u64 ev.badge, .slice xo ev.ws.length cx]), (4, .int .u8 0), (5, .bool false), (44, .pointer (some ⟨mb, 13, none⟩))]) rfl
  clear h12
  refine nd_op ?_
  refine op_new tabOk2 (cells := [.int .u16 0, .int .u32 0]) (ty := 39) (ln := none) (L1 := fun b14 => [(3, ⟨[.int .u16 0, .int .u32 0], ty3, true⟩), (b2, ⟨[.int .u8 7, .int .u32 ev.pick, .int .u64 ev.draw, .int .u32 ev.addr, .int .u32 ev.node, .int .u32 ev.dst, .int .u32 ev.xfer, .int .u8 ev.ty, .int .u64 ev.arg, .int .u64 ev.badge, .slice xo ev.ws.length cx], 35, false⟩), (b14, ⟨[.int .u16 0, .int .u32 0], 39, false⟩)]) h13 rfl rfl rfl rfl (by kernel_rfl) (fun _ => rfl) fun b14 w15 a16 h17 hf18 hn19 => ?_
  clear h13
  refine nd_op ?_
  refine op_store tabOk2 {k := 2} (L' := [(3, ⟨[.int .u16 0, .int .u32 0], ty3, true⟩), (b2, ⟨[.int .u8 7, .int .u32 ev.pick, .int .u64 ev.draw, .int .u32 ev.addr, .int .u32 ev.node, .int .u32 ev.dst, .int .u32 ev.xfer, .int .u8 ev.ty, .int .u64 ev.arg, .int .u64 ev.badge, .slice xo ev.ws.length cx], 35, false⟩), (b14, ⟨[.int .u16 ((Z.ky x).idx), .int .u32 ((Z.ky x).gen)], 39, false⟩)]) (φ := b14 = b14 ∧ Nat.ble (0 + 2) 2 = true) h17 rfl rfl rfl (by kernel_rfl) ⟨rfl, rfl⟩ fun w20 h21 => ?_
  clear h17
  refine nd_done ?_
  refine hK10 _ _ ?_
  clear hK10
  refine wp_seq_k fun K22 hK22 => ?_
  refine dr_start (KB := [3, b2, b14, mb, Z.tb]) (Bi := [[0, 1, 2, 3, 4], [0, 1, 2, 3, 4], [0, 1, 2, 3, 4], [0, 1, 2, 3, 4], [0, 1, 2, 3, 4], [0, 1, 2, 3, 4], [0, 1, 2, 3, 4]]) mixed h21 fun w23 h24 => ?_
  clear h21
  refine dr_batch tabOk2 tabZ_ok2 (by repeat (first | with_reducible exact PF.body | with_reducible apply PF.inB | with_reducible apply PF.next)) [(0, {}), (1, {}), (2, {})] [6, 3, 0, 1, 4, 5, 48] (T' := [(6, .pointer (some ⟨b14, 0, none⟩)), (3, .pointer (some ⟨b2, 0, none⟩)), (0, .pointer (some ⟨mb, 0, none⟩)), (1, .agg #[.int .u8 7, .int .u32 ev.pick, .int .u64 ev.draw, .int .u32 ev.addr, .int .u32 ev.node, .int .u32 ev.dst, .int .u32 ev.xfer, .int .u8 ev.ty, .int .u64 ev.arg, .int .u64 ev.badge, .slice xo ev.ws.length cx]), (4, .int .u8 0), (5, .bool false), (48, .pointer (some ⟨mb, 2, none⟩))]) (φ := True) (fuel := 4) h24 (by kernel_rfl) rfl (by kernel_rfl) (by kernel_rfl) ⟨trivial, trivial, trivial, trivial⟩ trivial fun a26 h27 => ?_
  clear h24
  refine dr_read (i := 3) (b := mb) (p := 3) (v := .map (some Z.tb)) (fuel := 3) (by repeat (first | with_reducible exact PF.body | with_reducible apply PF.inB | with_reducible apply PF.next)) h27 rfl rfl rfl (by kernel_rfl) (by kernel_rfl) (by kernel_rfl) rfl (rd_m h27 (k := 2) (v := .map (some Z.tb)) rfl rfl rfl rfl (md_p ⟨rfl, trivial⟩)) ?_
  have h28 := h27.put (d := some 49) (v := .map (some Z.tb)) (T' := [(49, .map (some Z.tb)), (6, .pointer (some ⟨b14, 0, none⟩)), (3, .pointer (some ⟨b2, 0, none⟩)), (0, .pointer (some ⟨mb, 0, none⟩)), (1, .agg #[.int .u8 7, .int .u32 ev.pick, .int .u64 ev.draw, .int .u32 ev.addr, .int .u32 ev.node, .int .u32 ev.dst, .int .u32 ev.xfer, .int .u8 ev.ty, .int .u64 ev.arg, .int .u64 ev.badge, .slice xo ev.ws.length cx]), (4, .int .u8 0), (5, .bool false), (48, .pointer (some ⟨mb, 2, none⟩))]) rfl
  clear h27
  refine dr_batch tabOk2 tabZ_ok2 (by repeat (first | with_reducible exact PF.body | with_reducible apply PF.inB | with_reducible apply PF.next)) [(4, {k := 2, p := 2})] [49, 6, 3, 0, 1, 4, 5, 50] (T' := [(49, .map (some Z.tb)), (6, .pointer (some ⟨b14, 0, none⟩)), (3, .pointer (some ⟨b2, 0, none⟩)), (0, .pointer (some ⟨mb, 0, none⟩)), (1, .agg #[.int .u8 7, .int .u32 ev.pick, .int .u64 ev.draw, .int .u32 ev.addr, .int .u32 ev.node, .int .u32 ev.dst, .int .u32 ev.xfer, .int .u8 ev.ty, .int .u64 ev.arg, .int .u64 ev.badge, .slice xo ev.ws.length cx]), (4, .int .u8 0), (5, .bool false), (50, .agg #[.int .u16 ((Z.ky x).idx), .int .u32 ((Z.ky x).gen)])]) (φ := (b14 = b14 ∧ Nat.ble (0 + 2) 2 = true) ∧ True) (fuel := 2) h28 (by kernel_rfl) rfl (by kernel_rfl) (by kernel_rfl) ⟨rfl, trivial⟩ ⟨⟨rfl, rfl⟩, trivial⟩ fun a29 h30 => ?_
  clear h28
  refine dr_read (i := 5) (b := Z.tb) (p := 4) (v := .pointer (some ⟨(Z.tp x), 0, none⟩)) (fuel := 1) (by repeat (first | with_reducible exact PF.body | with_reducible apply PF.inB | with_reducible apply PF.next)) h30 rfl rfl rfl (by kernel_rfl) (by kernel_rfl) (by kernel_rfl) rfl (rd_T h30 (x := x) hx rfl rfl rfl) ?_
  have h31 := h30.put (d := some 51) (v := .pointer (some ⟨(Z.tp x), 0, none⟩)) (T' := [(51, .pointer (some ⟨(Z.tp x), 0, none⟩)), (49, .map (some Z.tb)), (6, .pointer (some ⟨b14, 0, none⟩)), (3, .pointer (some ⟨b2, 0, none⟩)), (0, .pointer (some ⟨mb, 0, none⟩)), (1, .agg #[.int .u8 7, .int .u32 ev.pick, .int .u64 ev.draw, .int .u32 ev.addr, .int .u32 ev.node, .int .u32 ev.dst, .int .u32 ev.xfer, .int .u8 ev.ty, .int .u64 ev.arg, .int .u64 ev.badge, .slice xo ev.ws.length cx]), (4, .int .u8 0), (5, .bool false), (50, .agg #[.int .u16 ((Z.ky x).idx), .int .u32 ((Z.ky x).gen)])]) rfl
  clear h30
  refine dr_batch tabOk2 tabZ_ok2 (by repeat (first | with_reducible exact PF.body | with_reducible apply PF.inB | with_reducible apply PF.next)) [(6, {})] [6, 3, 0, 1, 4, 5, 7] (T' := [(6, .pointer (some ⟨b14, 0, none⟩)), (3, .pointer (some ⟨b2, 0, none⟩)), (0, .pointer (some ⟨mb, 0, none⟩)), (1, .agg #[.int .u8 7, .int .u32 ev.pick, .int .u64 ev.draw, .int .u32 ev.addr, .int .u32 ev.node, .int .u32 ev.dst, .int .u32 ev.xfer, .int .u8 ev.ty, .int .u64 ev.arg, .int .u64 ev.badge, .slice xo ev.ws.length cx]), (4, .int .u8 0), (5, .bool false), (7, .pointer (some ⟨(Z.tp x), 0, none⟩))]) (φ := True) (fuel := 0) h31 (by kernel_rfl) rfl (by kernel_rfl) (by kernel_rfl) ⟨trivial, trivial⟩ trivial fun a32 h33 => ?_
  clear h31
  refine wpAnyK_done (by kernel_rfl) ?_ _
  refine hK22 _ _ ?_
  clear hK22
  refine wp_seq_k fun K34 hK34 => ?_
  refine wp_seq_k fun K35 hK35 => ?_
  refine nd_start (l := [0, 1]) rfl ?_
  refine nd_batch tabOk2 tabZ_ok2 [(0, {}), (1, {k := 1})] [6, 3, 0, 1, 4, 5, 7, 53] (T' := [(6, .pointer (some ⟨b14, 0, none⟩)), (3, .pointer (some ⟨b2, 0, none⟩)), (0, .pointer (some ⟨mb, 0, none⟩)), (1, .agg #[.int .u8 7, .int .u32 ev.pick, .int .u64 ev.draw, .int .u32 ev.addr, .int .u32 ev.node, .int .u32 ev.dst, .int .u32 ev.xfer, .int .u8 ev.ty, .int .u64 ev.arg, .int .u64 ev.badge, .slice xo ev.ws.length cx]), (4, .int .u8 0), (5, .bool false), (7, .pointer (some ⟨(Z.tp x), 0, none⟩)), (53, .int .u8 7)]) (φ := (b2 = b2 ∧ Nat.ble (0 + 1) 11 = true) ∧ True) (rest := []) h33 (by kernel_rfl) rfl ⟨⟨rfl, rfl⟩, trivial⟩ fun a36 h37 => ?_
  clear h33
  refine nd_done ?_
  refine hK35 _ _ ?_
  clear hK35
  refine wp_block ?_
  refine wp_seq_k fun K38 hK38 => ?_
  refine nd_start (l := [0, 1]) rfl ?_
  refine nd_batch tabOk2 tabZ_ok2 [(0, {}), (1, {})] [6, 3, 0, 1, 4, 5, 7, 53, 54] (T' := [(6, .pointer (some ⟨b14, 0, none⟩)), (3, .pointer (some ⟨b2, 0, none⟩)), (0, .pointer (some ⟨mb, 0, none⟩)), (1, .agg #[.int .u8 7, .int .u32 ev.pick, .int .u64 ev.draw, .int .u32 ev.addr, .int .u32 ev.node, .int .u32 ev.dst, .int .u32 ev.xfer, .int .u8 ev.ty, .int .u64 ev.arg, .int .u64 ev.badge, .slice xo ev.ws.length cx]), (4, .int .u8 0), (5, .bool false), (7, .pointer (some ⟨(Z.tp x), 0, none⟩)), (53, .int .u8 7), (54, .bool false)]) (φ := True) (rest := []) h37 (by kernel_rfl) rfl trivial fun a39 h40 => ?_
  clear h37
  refine nd_done ?_
  refine hK38 _ _ ?_
  clear hK38
  refine c_false h40 rfl ?_
  refine wp_seq_k fun K41 hK41 => ?_
  refine nd_start (l := [0, 1]) rfl ?_
  refine nd_batch tabOk2 tabZ_ok2 [(0, {}), (1, {})] [6, 3, 0, 1, 4, 5, 7, 53, 59] (T' := [(6, .pointer (some ⟨b14, 0, none⟩)), (3, .pointer (some ⟨b2, 0, none⟩)), (0, .pointer (some ⟨mb, 0, none⟩)), (1, .agg #[.int .u8 7, .int .u32 ev.pick, .int .u64 ev.draw, .int .u32 ev.addr, .int .u32 ev.node, .int .u32 ev.dst, .int .u32 ev.xfer, .int .u8 ev.ty, .int .u64 ev.arg, .int .u64 ev.badge, .slice xo ev.ws.length cx]), (4, .int .u8 0), (5, .bool false), (7, .pointer (some ⟨(Z.tp x), 0, none⟩)), (53, .int .u8 7), (59, .bool false)]) (φ := True) (rest := []) h40 (by kernel_rfl) rfl trivial fun a42 h43 => ?_
  clear h40
  refine nd_done ?_
  refine hK41 _ _ ?_
  clear hK41
  refine c_false h43 rfl ?_
  refine wp_seq_k fun K44 hK44 => ?_
  refine wp_seq_k fun K45 hK45 => ?_
  refine nd_start (l := [0, 1]) rfl ?_
  refine nd_batch tabOk2 tabZ_ok2 [(0, {}), (1, {})] [6, 3, 0, 1, 4, 5, 7, 53, 66] (T' := [(6, .pointer (some ⟨b14, 0, none⟩)), (3, .pointer (some ⟨b2, 0, none⟩)), (0, .pointer (some ⟨mb, 0, none⟩)), (1, .agg #[.int .u8 7, .int .u32 ev.pick, .int .u64 ev.draw, .int .u32 ev.addr, .int .u32 ev.node, .int .u32 ev.dst, .int .u32 ev.xfer, .int .u8 ev.ty, .int .u64 ev.arg, .int .u64 ev.badge, .slice xo ev.ws.length cx]), (4, .int .u8 0), (5, .bool false), (7, .pointer (some ⟨(Z.tp x), 0, none⟩)), (53, .int .u8 7), (66, .bool false)]) (φ := True) (rest := []) h43 (by kernel_rfl) rfl trivial fun a46 h47 => ?_
  clear h43
  refine nd_done ?_
  refine hK45 _ _ ?_
  clear hK45
  refine c_false h47 rfl ?_
  refine nd_start (l := [0, 1]) rfl ?_
  refine nd_batch tabOk2 tabZ_ok2 [(0, {}), (1, {})] [6, 3, 0, 1, 4, 5, 7, 53, 66] (T' := [(6, .pointer (some ⟨b14, 0, none⟩)), (3, .pointer (some ⟨b2, 0, none⟩)), (0, .pointer (some ⟨mb, 0, none⟩)), (1, .agg #[.int .u8 7, .int .u32 ev.pick, .int .u64 ev.draw, .int .u32 ev.addr, .int .u32 ev.node, .int .u32 ev.dst, .int .u32 ev.xfer, .int .u8 ev.ty, .int .u64 ev.arg, .int .u64 ev.badge, .slice xo ev.ws.length cx]), (4, .int .u8 0), (5, .bool false), (7, .pointer (some ⟨(Z.tp x), 0, none⟩)), (53, .int .u8 7), (66, .bool false)]) (φ := True) (rest := []) h47 (by kernel_rfl) rfl trivial fun a48 h49 => ?_
  clear h47
  refine nd_done ?_
  refine hK44 _ _ ?_
  clear hK44
  refine c_false h49 rfl ?_
  refine wp_seq_k fun K50 hK50 => ?_
  refine nd_start (l := [0, 1]) rfl ?_
  refine nd_batch tabOk2 tabZ_ok2 [(0, {}), (1, {})] [6, 3, 0, 1, 4, 5, 7, 53, 66, 129] (T' := [(6, .pointer (some ⟨b14, 0, none⟩)), (3, .pointer (some ⟨b2, 0, none⟩)), (0, .pointer (some ⟨mb, 0, none⟩)), (1, .agg #[.int .u8 7, .int .u32 ev.pick, .int .u64 ev.draw, .int .u32 ev.addr, .int .u32 ev.node, .int .u32 ev.dst, .int .u32 ev.xfer, .int .u8 ev.ty, .int .u64 ev.arg, .int .u64 ev.badge, .slice xo ev.ws.length cx]), (4, .int .u8 0), (5, .bool false), (7, .pointer (some ⟨(Z.tp x), 0, none⟩)), (53, .int .u8 7), (66, .bool false), (129, .bool false)]) (φ := True) (rest := []) h49 (by kernel_rfl) rfl trivial fun a51 h52 => ?_
  clear h49
  refine nd_done ?_
  refine hK50 _ _ ?_
  clear hK50
  refine c_false h52 rfl ?_
  refine wp_seq_k fun K53 hK53 => ?_
  refine nd_start (l := [0, 1]) rfl ?_
  refine nd_batch tabOk2 tabZ_ok2 [(0, {}), (1, {})] [6, 3, 0, 1, 4, 5, 7, 53, 66, 165] (T' := [(6, .pointer (some ⟨b14, 0, none⟩)), (3, .pointer (some ⟨b2, 0, none⟩)), (0, .pointer (some ⟨mb, 0, none⟩)), (1, .agg #[.int .u8 7, .int .u32 ev.pick, .int .u64 ev.draw, .int .u32 ev.addr, .int .u32 ev.node, .int .u32 ev.dst, .int .u32 ev.xfer, .int .u8 ev.ty, .int .u64 ev.arg, .int .u64 ev.badge, .slice xo ev.ws.length cx]), (4, .int .u8 0), (5, .bool false), (7, .pointer (some ⟨(Z.tp x), 0, none⟩)), (53, .int .u8 7), (66, .bool false), (165, .bool true)]) (φ := True) (rest := []) h52 (by kernel_rfl) rfl trivial fun a54 h55 => ?_
  clear h52
  refine nd_done ?_
  refine hK53 _ _ ?_
  clear hK53
  refine c_true h55 rfl ?_
  refine wp_seq_k fun K56 hK56 => ?_
  refine wp_seq_k fun K57 hK57 => ?_
  refine dr_start (KB := [3, b2, b14, (Z.tp x)]) (Bi := [[0, 1, 2, 3], [0, 1, 2, 3], [0, 1, 2, 3], [0, 1, 2, 3], [0, 1, 2, 3], [0, 1, 2, 3]]) mixed h55 fun w58 h59 => ?_
  clear h55
  refine dr_batch tabOk2 tabZ_ok2 (by repeat (first | with_reducible exact PF.body | with_reducible apply PF.inB | with_reducible apply PF.next)) [(0, {}), (1, {}), (2, {})] [6, 3, 0, 1, 4, 5, 7, 53, 66, 169] (T' := [(6, .pointer (some ⟨b14, 0, none⟩)), (3, .pointer (some ⟨b2, 0, none⟩)), (0, .pointer (some ⟨mb, 0, none⟩)), (1, .agg #[.int .u8 7, .int .u32 ev.pick, .int .u64 ev.draw, .int .u32 ev.addr, .int .u32 ev.node, .int .u32 ev.dst, .int .u32 ev.xfer, .int .u8 ev.ty, .int .u64 ev.arg, .int .u64 ev.badge, .slice xo ev.ws.length cx]), (4, .int .u8 0), (5, .bool false), (7, .pointer (some ⟨(Z.tp x), 0, none⟩)), (53, .int .u8 7), (66, .bool false), (169, .pointer (some ⟨(Z.tp x), 6, none⟩))]) (φ := True) (fuel := 3) h59 (by kernel_rfl) rfl (by kernel_rfl) (by kernel_rfl) ⟨trivial, trivial, trivial, trivial⟩ trivial fun a61 h62 => ?_
  clear h59
  refine dr_read (i := 3) (b := (Z.tp x)) (p := 3) (v := .agg #[.int .u16 ((a.th x).rep.idx), .int .u32 ((a.th x).rep.gen)]) (fuel := 2) (by repeat (first | with_reducible exact PF.body | with_reducible apply PF.inB | with_reducible apply PF.next)) h62 rfl rfl rfl (by kernel_rfl) (by kernel_rfl) (by kernel_rfl) rfl (rd_thA h62 (x := x) (k := 6) (vs := [.int .u16 ((a.th x).rep.idx), .int .u32 ((a.th x).rep.gen)]) hx rfl rfl rfl rfl rfl ⟨rfl, rfl, trivial⟩) ?_
  have h63 := h62.put (d := some 170) (v := .agg #[.int .u16 ((a.th x).rep.idx), .int .u32 ((a.th x).rep.gen)]) (T' := [(170, .agg #[.int .u16 ((a.th x).rep.idx), .int .u32 ((a.th x).rep.gen)]), (6, .pointer (some ⟨b14, 0, none⟩)), (3, .pointer (some ⟨b2, 0, none⟩)), (0, .pointer (some ⟨mb, 0, none⟩)), (1, .agg #[.int .u8 7, .int .u32 ev.pick, .int .u64 ev.draw, .int .u32 ev.addr, .int .u32 ev.node, .int .u32 ev.dst, .int .u32 ev.xfer, .int .u8 ev.ty, .int .u64 ev.arg, .int .u64 ev.badge, .slice xo ev.ws.length cx]), (4, .int .u8 0), (5, .bool false), (7, .pointer (some ⟨(Z.tp x), 0, none⟩)), (53, .int .u8 7), (66, .bool false), (169, .pointer (some ⟨(Z.tp x), 6, none⟩))]) rfl
  clear h62
  refine dr_batch tabOk2 tabZ_ok2 (by repeat (first | with_reducible exact PF.body | with_reducible apply PF.inB | with_reducible apply PF.next)) [(4, {k := 0, p := 0}), (5, {vs := [.bool (decide ((a.th x).rep = (⟨0, 0⟩ : Rf)))]})] [6, 3, 0, 1, 4, 5, 7, 53, 66, 172] (T' := [(6, .pointer (some ⟨b14, 0, none⟩)), (3, .pointer (some ⟨b2, 0, none⟩)), (0, .pointer (some ⟨mb, 0, none⟩)), (1, .agg #[.int .u8 7, .int .u32 ev.pick, .int .u64 ev.draw, .int .u32 ev.addr, .int .u32 ev.node, .int .u32 ev.dst, .int .u32 ev.xfer, .int .u8 ev.ty, .int .u64 ev.arg, .int .u64 ev.badge, .slice xo ev.ws.length cx]), (4, .int .u8 0), (5, .bool false), (7, .pointer (some ⟨(Z.tp x), 0, none⟩)), (53, .int .u8 7), (66, .bool false), (172, .bool (Bool.xor false (decide ((a.th x).rep = (⟨0, 0⟩ : Rf)))))]) (φ := (3 = 3 ∧ Nat.ble (0 + 2) 2 = true) ∧ EqRun Tryd.prog 39 (.agg #[.int .u16 ((a.th x).rep.idx), .int .u32 ((a.th x).rep.gen)]) (.agg #[.int .u16 0, .int .u32 0]) (decide ((a.th x).rep = (⟨0, 0⟩ : Rf))) ∧ True) (fuel := 0) h63 (by kernel_rfl) rfl (by kernel_rfl) (by kernel_rfl) ⟨rfl, trivial, trivial⟩ ⟨⟨rfl, rfl⟩, (runRf ((a.th x).rep) (⟨0, 0⟩ : Rf)), trivial⟩ fun a64 h65 => ?_
  clear h63
  refine wpAnyK_done (by kernel_rfl) ?_ _
  refine hK57 _ _ ?_
  clear hK57
  refine c_split h65 (b := (Bool.xor false (decide ((a.th x).rep = (⟨0, 0⟩ : Rf))))) rfl (fun hc66 => ?_) (fun hc66 => ?_)
  ·
    have hc66f : (a.th x).rep = (⟨0, 0⟩ : Rf) := by simpa using hc66
    exact absurd (hr0) (by first | exact hc66f | (intro hz; exact hc66f hz) | omega | simp_all)
  ·
    have hc66f : ¬ ((a.th x).rep = (⟨0, 0⟩ : Rf)) := by simpa using hc66
    refine wp_skip ?_
    refine hK56 _ _ ?_
    clear hK56
    refine wp_seq_k fun K67 hK67 => ?_
    refine wp_seq_k fun K68 hK68 => ?_
    refine nd_start (l := [0, 1, 2, 3]) rfl ?_
    refine nd_batch tabOk2 tabZ_ok2 [(0, {}), (1, {k := 1}), (2, {}), (3, {})] [6, 3, 0, 1, 4, 5, 7, 53, 66, 176] (T' := [(6, .pointer (some ⟨b14, 0, none⟩)), (3, .pointer (some ⟨b2, 0, none⟩)), (0, .pointer (some ⟨mb, 0, none⟩)), (1, .agg #[.int .u8 7, .int .u32 ev.pick, .int .u64 ev.draw, .int .u32 ev.addr, .int .u32 ev.node, .int .u32 ev.dst, .int .u32 ev.xfer, .int .u8 ev.ty, .int .u64 ev.arg, .int .u64 ev.badge, .slice xo ev.ws.length cx]), (4, .int .u8 0), (5, .bool false), (7, .pointer (some ⟨(Z.tp x), 0, none⟩)), (53, .int .u8 7), (66, .bool false), (176, .bool (decide (((ev.ws.length : Nat) : Int) > 4)))]) (φ := (b2 = b2 ∧ Nat.ble (10 + 1) 11 = true) ∧ True) (rest := []) h65 (by kernel_rfl) rfl ⟨⟨rfl, rfl⟩, trivial⟩ fun a69 h70 => ?_
    clear h65
    refine nd_done ?_
    refine hK68 _ _ ?_
    clear hK68
    refine c_split h70 (b := decide (((ev.ws.length : Nat) : Int) > 4)) rfl (fun hc71 => ?_) (fun hc71 => ?_)
    ·
      have hc71f : ((ev.ws.length : Nat) : Int) > 4 := by simpa using hc71
      refine wp_seq_k fun K72 hK72 => ?_
      refine nd_start (l := [0, 1]) rfl ?_
      refine nd_batch tabOk2 tabZ_ok2 [(0, {}), (1, {})] [6, 3, 0, 1, 7, 53, 66, 4, 5] (T' := [(6, .pointer (some ⟨b14, 0, none⟩)), (3, .pointer (some ⟨b2, 0, none⟩)), (0, .pointer (some ⟨mb, 0, none⟩)), (1, .agg #[.int .u8 7, .int .u32 ev.pick, .int .u64 ev.draw, .int .u32 ev.addr, .int .u32 ev.node, .int .u32 ev.dst, .int .u32 ev.xfer, .int .u8 ev.ty, .int .u64 ev.arg, .int .u64 ev.badge, .slice xo ev.ws.length cx]), (7, .pointer (some ⟨(Z.tp x), 0, none⟩)), (53, .int .u8 7), (66, .bool false), (4, .int .u8 8), (5, .bool false)]) (φ := True) (rest := []) h70 (by kernel_rfl) rfl trivial fun a73 h74 => ?_
      clear h70
      refine nd_done ?_
      refine hK72 _ _ ?_
      clear hK72
      refine wp_ret ?_
      try simp only [Exit.then, Exit.inBlock]
      try rw [if_pos trivial]
      exact s_ret tabOk2 tabZ_ok2 h74 [(.tmp 4, {}), (.tmp 5, {})] (vs := [.int .u8 8, .bool false]) (φ := True) rfl (by kernel_rfl) trivial (by exact ⟨rfl, _, mg_end hH h74 hho rfl⟩)
    ·
      have hc71f : ¬ ((ev.ws.length : Nat) : Int) > 4 := by simpa using hc71
      exact absurd (hwl) (by first | exact hc71f | (intro hz; exact hc71f hz) | omega | simp_all)

theorem call7d (mb : Nat) (Z : MZ) (R : MR) (a : AK) (C : CP) (hI : MI Z a C) (x : Nat) (hx : x ∈ sl Z.tl) (hcu : a.cur = (x : Int)) (ev : Ev) (he : EvOk ev) (xo : Option Addr) (cx : Nat) (hr0 : ¬ (a.th x).rep = ⟨0, 0⟩) (hwl : ¬ (ev.ws.length : Int) > 4) (hdead : ∀ y ∈ sl Z.tl, Z.ky y ≠ (a.th x).rep) (w : World) (hH : MH mb Z R a C w) (hws : WordsAt (mdF mb Z R C) w xo ev.ws) :
    Calls Tryd.prog 55 #[.pointer (some ⟨mb, 0, none⟩), .agg #[.int .u8 7, .int .u32 ev.pick, .int .u64 ev.draw, .int .u32 ev.addr, .int .u32 ev.node, .int .u32 ev.dst, .int .u32 ev.xfer, .int .u8 ev.ty, .int .u64 ev.arg, .int .u64 ev.badge, .slice xo ev.ws.length cx]] w fun e w' => e = .returned (.tuple #[.int .u8 13, .bool false]) ∧ ∃ R', MG mb Z R C w Z R' a C w' := by
  have hP := hI.mp
  have hcx : curR Z a = Z.ky x := curR_of hcu
  have hcn : a.cur.toNat = x := by rw [hcu]; exact Int.toNat_natCast x
  have hci := (hI.tk x hx).ci
  obtain ⟨ty3, hg3⟩ := hH.g3
  have hho := hH.ho
  have hkk := hH.md.k
  refine enter (n := 628) (K := mdF mb Z R C) (A := MD (mdF mb Z R C) w.heap.size mb Z R a C) (F := mdF mb Z R C) (T := [(0, .pointer (some ⟨mb, 0, none⟩)), (1, .agg #[.int .u8 7, .int .u32 ev.pick, .int .u64 ev.draw, .int .u32 ev.addr, .int .u32 ev.node, .int .u32 ev.dst, .int .u32 ev.xfer, .int .u8 ev.ty, .int .u64 ev.arg, .int .u64 ev.badge, .slice xo ev.ws.length cx])]) (L := [(3, ⟨[.int .u16 0, .int .u32 0], ty3, true⟩)]) (args := [.pointer (some ⟨mb, 0, none⟩), .agg #[.int .u8 7, .int .u32 ev.pick, .int .u64 ev.draw, .int .u32 ev.addr, .int .u32 ev.node, .int .u32 ev.dst, .int .u32 ev.xfer, .int .u8 ev.ty, .int .u64 ev.arg, .int .u64 ev.badge, .slice xo ev.ws.length cx]]) Tryd.func55 rfl rfl rfl rfl (kcons hg3 knil) (by simp) (kcons (by intro hq; cases hq) knil) hH.mD MD.stable hH.md.low (kcons (by intro hq; cases hq) knil) ?_
  intro ac h
  refine wp_seq_k fun K1 hK1 => ?_
  refine nd_start (l := [0, 1, 2]) rfl ?_
  refine nd_op ?_
  refine op_new tabOk2 (cells := [.int .u8 7, .int .u32 ev.pick, .int .u64 ev.draw, .int .u32 ev.addr, .int .u32 ev.node, .int .u32 ev.dst, .int .u32 ev.xfer, .int .u8 ev.ty, .int .u64 ev.arg, .int .u64 ev.badge, .slice xo ev.ws.length cx]) (ty := 35) (ln := none) (L1 := fun b2 => [(3, ⟨[.int .u16 0, .int .u32 0], ty3, true⟩), (b2, ⟨[.int .u8 7, .int .u32 ev.pick, .int .u64 ev.draw, .int .u32 ev.addr, .int .u32 ev.node, .int .u32 ev.dst, .int .u32 ev.xfer, .int .u8 ev.ty, .int .u64 ev.arg, .int .u64 ev.badge, .slice xo ev.ws.length cx], 35, false⟩)]) h rfl rfl rfl rfl (by kernel_rfl) (fun _ => rfl) fun b2 w3 a4 h5 hf6 hn7 => ?_
  clear h
  refine nd_batch tabOk2 tabZ_ok2 [(1, {}), (2, {})] [3, 0, 1, 4, 5] (T' := [(3, .pointer (some ⟨b2, 0, none⟩)), (0, .pointer (some ⟨mb, 0, none⟩)), (1, .agg #[.int .u8 7, .int .u32 ev.pick, .int .u64 ev.draw, .int .u32 ev.addr, .int .u32 ev.node, .int .u32 ev.dst, .int .u32 ev.xfer, .int .u8 ev.ty, .int .u64 ev.arg, .int .u64 ev.badge, .slice xo ev.ws.length cx]), (4, .int .u8 0), (5, .bool false)]) (φ := True) (rest := []) h5 (by kernel_rfl) rfl trivial fun a8 h9 => ?_
  clear h5
  refine nd_done ?_
  refine hK1 _ _ ?_
  clear hK1
  refine wp_seq_k fun K10 hK10 => ?_
  refine nd_start (l := [0, 1, 2, 3, 4, 5]) rfl ?_
  refine nd_batch tabOk2 tabZ_ok2 [(0, {}), (1, {}), (2, {})] [3, 0, 1, 4, 5, 44] (T' := [(3, .pointer (some ⟨b2, 0, none⟩)), (0, .pointer (some ⟨mb, 0, none⟩)), (1, .agg #[.int .u8 7, .int .u32 ev.pick, .int .u64 ev.draw, .int .u32 ev.addr, .int .u32 ev.node, .int .u32 ev.dst, .int .u32 ev.xfer, .int .u8 ev.ty, .int .u64 ev.arg, .int .u64 ev.badge, .slice xo ev.ws.length cx]), (4, .int .u8 0), (5, .bool false), (44, .pointer (some ⟨mb, 13, none⟩))]) (φ := True) (rest := [3, 4, 5]) h9 (by kernel_rfl) rfl trivial fun a11 h12 => ?_
  clear h9
  refine nd_op ?_
  refine op_read (b := mb) (v := .agg #[.int .u16 ((Z.ky x).idx), .int .u32 ((Z.ky x).gen)]) h12 rfl rfl (rd_mA h12 (k := 13) (vs := [.int .u16 ((Z.ky x).idx), .int .u32 ((Z.ky x).gen)]) rfl rfl rfl rfl rfl (by rw [← hcx]; exact md_cur)) ?_
  have h13 := h12.put (d := some 45) (v := .agg #[.int .u16 ((Z.ky x).idx), .int .u32 ((Z.ky x).gen)]) (T' := [(45, .agg #[.int .u16 ((Z.ky x).idx), .int .u32 ((Z.ky x).gen)]), (3, .pointer (some ⟨b2, 0, none⟩)), (0, .pointer (some ⟨mb, 0, none⟩)), (1, .agg #[.int .u8 7, .int .u32 ev.pick, .int .u64 ev.draw, .int .u32 ev.addr, .int .u32 ev.node, .int .u32 ev.dst, .int .u32 ev.xfer, .int .u8 ev.ty, .int .u64 ev.arg, .int .u64 ev.badge, .slice xo ev.ws.length cx]), (4, .int .u8 0), (5, .bool false), (44, .pointer (some ⟨mb, 13, none⟩))]) rfl
  clear h12
  refine nd_op ?_
  refine op_new tabOk2 (cells := [.int .u16 0, .int .u32 0]) (ty := 39) (ln := none) (L1 := fun b14 => [(3, ⟨[.int .u16 0, .int .u32 0], ty3, true⟩), (b2, ⟨[.int .u8 7, .int .u32 ev.pick, .int .u64 ev.draw, .int .u32 ev.addr, .int .u32 ev.node, .int .u32 ev.dst, .int .u32 ev.xfer, .int .u8 ev.ty, .int .u64 ev.arg, .int .u64 ev.badge, .slice xo ev.ws.length cx], 35, false⟩), (b14, ⟨[.int .u16 0, .int .u32 0], 39, false⟩)]) h13 rfl rfl rfl rfl (by kernel_rfl) (fun _ => rfl) fun b14 w15 a16 h17 hf18 hn19 => ?_
  clear h13
  refine nd_op ?_
  refine op_store tabOk2 {k := 2} (L' := [(3, ⟨[.int .u16 0, .int .u32 0], ty3, true⟩), (b2, ⟨[.int .u8 7, .int .u32 ev.pick, .int .u64 ev.draw, .int .u32 ev.addr, .int .u32 ev.node, .int .u32 ev.dst, .int .u32 ev.xfer, .int .u8 ev.ty, .int .u64 ev.arg, .int .u64 ev.badge, .slice xo ev.ws.length cx], 35, false⟩), (b14, ⟨[.int .u16 ((Z.ky x).idx), .int .u32 ((Z.ky x).gen)], 39, false⟩)]) (φ := b14 = b14 ∧ Nat.ble (0 + 2) 2 = true) h17 rfl rfl rfl (by kernel_rfl) ⟨rfl, rfl⟩ fun w20 h21 => ?_
  clear h17
  refine nd_done ?_
  refine hK10 _ _ ?_
  clear hK10
  refine wp_seq_k fun K22 hK22 => ?_
  refine dr_start (KB := [3, b2, b14, mb, Z.tb]) (Bi := [[0, 1, 2, 3, 4], [0, 1, 2, 3, 4], [0, 1, 2, 3, 4], [0, 1, 2, 3, 4], [0, 1, 2, 3, 4], [0, 1, 2, 3, 4], [0, 1, 2, 3, 4]]) mixed h21 fun w23 h24 => ?_
  clear h21
  refine dr_batch tabOk2 tabZ_ok2 (by repeat (first | with_reducible exact PF.body | with_reducible apply PF.inB | with_reducible apply PF.next)) [(0, {}), (1, {}), (2, {})] [6, 3, 0, 1, 4, 5, 48] (T' := [(6, .pointer (some ⟨b14, 0, none⟩)), (3, .pointer (some ⟨b2, 0, none⟩)), (0, .pointer (some ⟨mb, 0, none⟩)), (1, .agg #[.int .u8 7, .int .u32 ev.pick, .int .u64 ev.draw, .int .u32 ev.addr, .int .u32 ev.node, .int .u32 ev.dst, .int .u32 ev.xfer, .int .u8 ev.ty, .int .u64 ev.arg, .int .u64 ev.badge, .slice xo ev.ws.length cx]), (4, .int .u8 0), (5, .bool false), (48, .pointer (some ⟨mb, 2, none⟩))]) (φ := True) (fuel := 4) h24 (by kernel_rfl) rfl (by kernel_rfl) (by kernel_rfl) ⟨trivial, trivial, trivial, trivial⟩ trivial fun a26 h27 => ?_
  clear h24
  refine dr_read (i := 3) (b := mb) (p := 3) (v := .map (some Z.tb)) (fuel := 3) (by repeat (first | with_reducible exact PF.body | with_reducible apply PF.inB | with_reducible apply PF.next)) h27 rfl rfl rfl (by kernel_rfl) (by kernel_rfl) (by kernel_rfl) rfl (rd_m h27 (k := 2) (v := .map (some Z.tb)) rfl rfl rfl rfl (md_p ⟨rfl, trivial⟩)) ?_
  have h28 := h27.put (d := some 49) (v := .map (some Z.tb)) (T' := [(49, .map (some Z.tb)), (6, .pointer (some ⟨b14, 0, none⟩)), (3, .pointer (some ⟨b2, 0, none⟩)), (0, .pointer (some ⟨mb, 0, none⟩)), (1, .agg #[.int .u8 7, .int .u32 ev.pick, .int .u64 ev.draw, .int .u32 ev.addr, .int .u32 ev.node, .int .u32 ev.dst, .int .u32 ev.xfer, .int .u8 ev.ty, .int .u64 ev.arg, .int .u64 ev.badge, .slice xo ev.ws.length cx]), (4, .int .u8 0), (5, .bool false), (48, .pointer (some ⟨mb, 2, none⟩))]) rfl
  clear h27
  refine dr_batch tabOk2 tabZ_ok2 (by repeat (first | with_reducible exact PF.body | with_reducible apply PF.inB | with_reducible apply PF.next)) [(4, {k := 2, p := 2})] [49, 6, 3, 0, 1, 4, 5, 50] (T' := [(49, .map (some Z.tb)), (6, .pointer (some ⟨b14, 0, none⟩)), (3, .pointer (some ⟨b2, 0, none⟩)), (0, .pointer (some ⟨mb, 0, none⟩)), (1, .agg #[.int .u8 7, .int .u32 ev.pick, .int .u64 ev.draw, .int .u32 ev.addr, .int .u32 ev.node, .int .u32 ev.dst, .int .u32 ev.xfer, .int .u8 ev.ty, .int .u64 ev.arg, .int .u64 ev.badge, .slice xo ev.ws.length cx]), (4, .int .u8 0), (5, .bool false), (50, .agg #[.int .u16 ((Z.ky x).idx), .int .u32 ((Z.ky x).gen)])]) (φ := (b14 = b14 ∧ Nat.ble (0 + 2) 2 = true) ∧ True) (fuel := 2) h28 (by kernel_rfl) rfl (by kernel_rfl) (by kernel_rfl) ⟨rfl, trivial⟩ ⟨⟨rfl, rfl⟩, trivial⟩ fun a29 h30 => ?_
  clear h28
  refine dr_read (i := 5) (b := Z.tb) (p := 4) (v := .pointer (some ⟨(Z.tp x), 0, none⟩)) (fuel := 1) (by repeat (first | with_reducible exact PF.body | with_reducible apply PF.inB | with_reducible apply PF.next)) h30 rfl rfl rfl (by kernel_rfl) (by kernel_rfl) (by kernel_rfl) rfl (rd_T h30 (x := x) hx rfl rfl rfl) ?_
  have h31 := h30.put (d := some 51) (v := .pointer (some ⟨(Z.tp x), 0, none⟩)) (T' := [(51, .pointer (some ⟨(Z.tp x), 0, none⟩)), (49, .map (some Z.tb)), (6, .pointer (some ⟨b14, 0, none⟩)), (3, .pointer (some ⟨b2, 0, none⟩)), (0, .pointer (some ⟨mb, 0, none⟩)), (1, .agg #[.int .u8 7, .int .u32 ev.pick, .int .u64 ev.draw, .int .u32 ev.addr, .int .u32 ev.node, .int .u32 ev.dst, .int .u32 ev.xfer, .int .u8 ev.ty, .int .u64 ev.arg, .int .u64 ev.badge, .slice xo ev.ws.length cx]), (4, .int .u8 0), (5, .bool false), (50, .agg #[.int .u16 ((Z.ky x).idx), .int .u32 ((Z.ky x).gen)])]) rfl
  clear h30
  refine dr_batch tabOk2 tabZ_ok2 (by repeat (first | with_reducible exact PF.body | with_reducible apply PF.inB | with_reducible apply PF.next)) [(6, {})] [6, 3, 0, 1, 4, 5, 7] (T' := [(6, .pointer (some ⟨b14, 0, none⟩)), (3, .pointer (some ⟨b2, 0, none⟩)), (0, .pointer (some ⟨mb, 0, none⟩)), (1, .agg #[.int .u8 7, .int .u32 ev.pick, .int .u64 ev.draw, .int .u32 ev.addr, .int .u32 ev.node, .int .u32 ev.dst, .int .u32 ev.xfer, .int .u8 ev.ty, .int .u64 ev.arg, .int .u64 ev.badge, .slice xo ev.ws.length cx]), (4, .int .u8 0), (5, .bool false), (7, .pointer (some ⟨(Z.tp x), 0, none⟩))]) (φ := True) (fuel := 0) h31 (by kernel_rfl) rfl (by kernel_rfl) (by kernel_rfl) ⟨trivial, trivial⟩ trivial fun a32 h33 => ?_
  clear h31
  refine wpAnyK_done (by kernel_rfl) ?_ _
  refine hK22 _ _ ?_
  clear hK22
  refine wp_seq_k fun K34 hK34 => ?_
  refine wp_seq_k fun K35 hK35 => ?_
  refine nd_start (l := [0, 1]) rfl ?_
  refine nd_batch tabOk2 tabZ_ok2 [(0, {}), (1, {k := 1})] [6, 3, 0, 1, 4, 5, 7, 53] (T' := [(6, .pointer (some ⟨b14, 0, none⟩)), (3, .pointer (some ⟨b2, 0, none⟩)), (0, .pointer (some ⟨mb, 0, none⟩)), (1, .agg #[.int .u8 7, .int .u32 ev.pick, .int .u64 ev.draw, .int .u32 ev.addr, .int .u32 ev.node, .int .u32 ev.dst, .int .u32 ev.xfer, .int .u8 ev.ty, .int .u64 ev.arg, .int .u64 ev.badge, .slice xo ev.ws.length cx]), (4, .int .u8 0), (5, .bool false), (7, .pointer (some ⟨(Z.tp x), 0, none⟩)), (53, .int .u8 7)]) (φ := (b2 = b2 ∧ Nat.ble (0 + 1) 11 = true) ∧ True) (rest := []) h33 (by kernel_rfl) rfl ⟨⟨rfl, rfl⟩, trivial⟩ fun a36 h37 => ?_
  clear h33
  refine nd_done ?_
  refine hK35 _ _ ?_
  clear hK35
  refine wp_block ?_
  refine wp_seq_k fun K38 hK38 => ?_
  refine nd_start (l := [0, 1]) rfl ?_
  refine nd_batch tabOk2 tabZ_ok2 [(0, {}), (1, {})] [6, 3, 0, 1, 4, 5, 7, 53, 54] (T' := [(6, .pointer (some ⟨b14, 0, none⟩)), (3, .pointer (some ⟨b2, 0, none⟩)), (0, .pointer (some ⟨mb, 0, none⟩)), (1, .agg #[.int .u8 7, .int .u32 ev.pick, .int .u64 ev.draw, .int .u32 ev.addr, .int .u32 ev.node, .int .u32 ev.dst, .int .u32 ev.xfer, .int .u8 ev.ty, .int .u64 ev.arg, .int .u64 ev.badge, .slice xo ev.ws.length cx]), (4, .int .u8 0), (5, .bool false), (7, .pointer (some ⟨(Z.tp x), 0, none⟩)), (53, .int .u8 7), (54, .bool false)]) (φ := True) (rest := []) h37 (by kernel_rfl) rfl trivial fun a39 h40 => ?_
  clear h37
  refine nd_done ?_
  refine hK38 _ _ ?_
  clear hK38
  refine c_false h40 rfl ?_
  refine wp_seq_k fun K41 hK41 => ?_
  refine nd_start (l := [0, 1]) rfl ?_
  refine nd_batch tabOk2 tabZ_ok2 [(0, {}), (1, {})] [6, 3, 0, 1, 4, 5, 7, 53, 59] (T' := [(6, .pointer (some ⟨b14, 0, none⟩)), (3, .pointer (some ⟨b2, 0, none⟩)), (0, .pointer (some ⟨mb, 0, none⟩)), (1, .agg #[.int .u8 7, .int .u32 ev.pick, .int .u64 ev.draw, .int .u32 ev.addr, .int .u32 ev.node, .int .u32 ev.dst, .int .u32 ev.xfer, .int .u8 ev.ty, .int .u64 ev.arg, .int .u64 ev.badge, .slice xo ev.ws.length cx]), (4, .int .u8 0), (5, .bool false), (7, .pointer (some ⟨(Z.tp x), 0, none⟩)), (53, .int .u8 7), (59, .bool false)]) (φ := True) (rest := []) h40 (by kernel_rfl) rfl trivial fun a42 h43 => ?_
  clear h40
  refine nd_done ?_
  refine hK41 _ _ ?_
  clear hK41
  refine c_false h43 rfl ?_
  refine wp_seq_k fun K44 hK44 => ?_
  refine wp_seq_k fun K45 hK45 => ?_
  refine nd_start (l := [0, 1]) rfl ?_
  refine nd_batch tabOk2 tabZ_ok2 [(0, {}), (1, {})] [6, 3, 0, 1, 4, 5, 7, 53, 66] (T' := [(6, .pointer (some ⟨b14, 0, none⟩)), (3, .pointer (some ⟨b2, 0, none⟩)), (0, .pointer (some ⟨mb, 0, none⟩)), (1, .agg #[.int .u8 7, .int .u32 ev.pick, .int .u64 ev.draw, .int .u32 ev.addr, .int .u32 ev.node, .int .u32 ev.dst, .int .u32 ev.xfer, .int .u8 ev.ty, .int .u64 ev.arg, .int .u64 ev.badge, .slice xo ev.ws.length cx]), (4, .int .u8 0), (5, .bool false), (7, .pointer (some ⟨(Z.tp x), 0, none⟩)), (53, .int .u8 7), (66, .bool false)]) (φ := True) (rest := []) h43 (by kernel_rfl) rfl trivial fun a46 h47 => ?_
  clear h43
  refine nd_done ?_
  refine hK45 _ _ ?_
  clear hK45
  refine c_false h47 rfl ?_
  refine nd_start (l := [0, 1]) rfl ?_
  refine nd_batch tabOk2 tabZ_ok2 [(0, {}), (1, {})] [6, 3, 0, 1, 4, 5, 7, 53, 66] (T' := [(6, .pointer (some ⟨b14, 0, none⟩)), (3, .pointer (some ⟨b2, 0, none⟩)), (0, .pointer (some ⟨mb, 0, none⟩)), (1, .agg #[.int .u8 7, .int .u32 ev.pick, .int .u64 ev.draw, .int .u32 ev.addr, .int .u32 ev.node, .int .u32 ev.dst, .int .u32 ev.xfer, .int .u8 ev.ty, .int .u64 ev.arg, .int .u64 ev.badge, .slice xo ev.ws.length cx]), (4, .int .u8 0), (5, .bool false), (7, .pointer (some ⟨(Z.tp x), 0, none⟩)), (53, .int .u8 7), (66, .bool false)]) (φ := True) (rest := []) h47 (by kernel_rfl) rfl trivial fun a48 h49 => ?_
  clear h47
  refine nd_done ?_
  refine hK44 _ _ ?_
  clear hK44
  refine c_false h49 rfl ?_
  refine wp_seq_k fun K50 hK50 => ?_
  refine nd_start (l := [0, 1]) rfl ?_
  refine nd_batch tabOk2 tabZ_ok2 [(0, {}), (1, {})] [6, 3, 0, 1, 4, 5, 7, 53, 66, 129] (T' := [(6, .pointer (some ⟨b14, 0, none⟩)), (3, .pointer (some ⟨b2, 0, none⟩)), (0, .pointer (some ⟨mb, 0, none⟩)), (1, .agg #[.int .u8 7, .int .u32 ev.pick, .int .u64 ev.draw, .int .u32 ev.addr, .int .u32 ev.node, .int .u32 ev.dst, .int .u32 ev.xfer, .int .u8 ev.ty, .int .u64 ev.arg, .int .u64 ev.badge, .slice xo ev.ws.length cx]), (4, .int .u8 0), (5, .bool false), (7, .pointer (some ⟨(Z.tp x), 0, none⟩)), (53, .int .u8 7), (66, .bool false), (129, .bool false)]) (φ := True) (rest := []) h49 (by kernel_rfl) rfl trivial fun a51 h52 => ?_
  clear h49
  refine nd_done ?_
  refine hK50 _ _ ?_
  clear hK50
  refine c_false h52 rfl ?_
  refine wp_seq_k fun K53 hK53 => ?_
  refine nd_start (l := [0, 1]) rfl ?_
  refine nd_batch tabOk2 tabZ_ok2 [(0, {}), (1, {})] [6, 3, 0, 1, 4, 5, 7, 53, 66, 165] (T' := [(6, .pointer (some ⟨b14, 0, none⟩)), (3, .pointer (some ⟨b2, 0, none⟩)), (0, .pointer (some ⟨mb, 0, none⟩)), (1, .agg #[.int .u8 7, .int .u32 ev.pick, .int .u64 ev.draw, .int .u32 ev.addr, .int .u32 ev.node, .int .u32 ev.dst, .int .u32 ev.xfer, .int .u8 ev.ty, .int .u64 ev.arg, .int .u64 ev.badge, .slice xo ev.ws.length cx]), (4, .int .u8 0), (5, .bool false), (7, .pointer (some ⟨(Z.tp x), 0, none⟩)), (53, .int .u8 7), (66, .bool false), (165, .bool true)]) (φ := True) (rest := []) h52 (by kernel_rfl) rfl trivial fun a54 h55 => ?_
  clear h52
  refine nd_done ?_
  refine hK53 _ _ ?_
  clear hK53
  refine c_true h55 rfl ?_
  refine wp_seq_k fun K56 hK56 => ?_
  refine wp_seq_k fun K57 hK57 => ?_
  refine dr_start (KB := [3, b2, b14, (Z.tp x)]) (Bi := [[0, 1, 2, 3], [0, 1, 2, 3], [0, 1, 2, 3], [0, 1, 2, 3], [0, 1, 2, 3], [0, 1, 2, 3]]) mixed h55 fun w58 h59 => ?_
  clear h55
  refine dr_batch tabOk2 tabZ_ok2 (by repeat (first | with_reducible exact PF.body | with_reducible apply PF.inB | with_reducible apply PF.next)) [(0, {}), (1, {}), (2, {})] [6, 3, 0, 1, 4, 5, 7, 53, 66, 169] (T' := [(6, .pointer (some ⟨b14, 0, none⟩)), (3, .pointer (some ⟨b2, 0, none⟩)), (0, .pointer (some ⟨mb, 0, none⟩)), (1, .agg #[.int .u8 7, .int .u32 ev.pick, .int .u64 ev.draw, .int .u32 ev.addr, .int .u32 ev.node, .int .u32 ev.dst, .int .u32 ev.xfer, .int .u8 ev.ty, .int .u64 ev.arg, .int .u64 ev.badge, .slice xo ev.ws.length cx]), (4, .int .u8 0), (5, .bool false), (7, .pointer (some ⟨(Z.tp x), 0, none⟩)), (53, .int .u8 7), (66, .bool false), (169, .pointer (some ⟨(Z.tp x), 6, none⟩))]) (φ := True) (fuel := 3) h59 (by kernel_rfl) rfl (by kernel_rfl) (by kernel_rfl) ⟨trivial, trivial, trivial, trivial⟩ trivial fun a61 h62 => ?_
  clear h59
  refine dr_read (i := 3) (b := (Z.tp x)) (p := 3) (v := .agg #[.int .u16 ((a.th x).rep.idx), .int .u32 ((a.th x).rep.gen)]) (fuel := 2) (by repeat (first | with_reducible exact PF.body | with_reducible apply PF.inB | with_reducible apply PF.next)) h62 rfl rfl rfl (by kernel_rfl) (by kernel_rfl) (by kernel_rfl) rfl (rd_thA h62 (x := x) (k := 6) (vs := [.int .u16 ((a.th x).rep.idx), .int .u32 ((a.th x).rep.gen)]) hx rfl rfl rfl rfl rfl ⟨rfl, rfl, trivial⟩) ?_
  have h63 := h62.put (d := some 170) (v := .agg #[.int .u16 ((a.th x).rep.idx), .int .u32 ((a.th x).rep.gen)]) (T' := [(170, .agg #[.int .u16 ((a.th x).rep.idx), .int .u32 ((a.th x).rep.gen)]), (6, .pointer (some ⟨b14, 0, none⟩)), (3, .pointer (some ⟨b2, 0, none⟩)), (0, .pointer (some ⟨mb, 0, none⟩)), (1, .agg #[.int .u8 7, .int .u32 ev.pick, .int .u64 ev.draw, .int .u32 ev.addr, .int .u32 ev.node, .int .u32 ev.dst, .int .u32 ev.xfer, .int .u8 ev.ty, .int .u64 ev.arg, .int .u64 ev.badge, .slice xo ev.ws.length cx]), (4, .int .u8 0), (5, .bool false), (7, .pointer (some ⟨(Z.tp x), 0, none⟩)), (53, .int .u8 7), (66, .bool false), (169, .pointer (some ⟨(Z.tp x), 6, none⟩))]) rfl
  clear h62
  refine dr_batch tabOk2 tabZ_ok2 (by repeat (first | with_reducible exact PF.body | with_reducible apply PF.inB | with_reducible apply PF.next)) [(4, {k := 0, p := 0}), (5, {vs := [.bool (decide ((a.th x).rep = (⟨0, 0⟩ : Rf)))]})] [6, 3, 0, 1, 4, 5, 7, 53, 66, 172] (T' := [(6, .pointer (some ⟨b14, 0, none⟩)), (3, .pointer (some ⟨b2, 0, none⟩)), (0, .pointer (some ⟨mb, 0, none⟩)), (1, .agg #[.int .u8 7, .int .u32 ev.pick, .int .u64 ev.draw, .int .u32 ev.addr, .int .u32 ev.node, .int .u32 ev.dst, .int .u32 ev.xfer, .int .u8 ev.ty, .int .u64 ev.arg, .int .u64 ev.badge, .slice xo ev.ws.length cx]), (4, .int .u8 0), (5, .bool false), (7, .pointer (some ⟨(Z.tp x), 0, none⟩)), (53, .int .u8 7), (66, .bool false), (172, .bool (Bool.xor false (decide ((a.th x).rep = (⟨0, 0⟩ : Rf)))))]) (φ := (3 = 3 ∧ Nat.ble (0 + 2) 2 = true) ∧ EqRun Tryd.prog 39 (.agg #[.int .u16 ((a.th x).rep.idx), .int .u32 ((a.th x).rep.gen)]) (.agg #[.int .u16 0, .int .u32 0]) (decide ((a.th x).rep = (⟨0, 0⟩ : Rf))) ∧ True) (fuel := 0) h63 (by kernel_rfl) rfl (by kernel_rfl) (by kernel_rfl) ⟨rfl, trivial, trivial⟩ ⟨⟨rfl, rfl⟩, (runRf ((a.th x).rep) (⟨0, 0⟩ : Rf)), trivial⟩ fun a64 h65 => ?_
  clear h63
  refine wpAnyK_done (by kernel_rfl) ?_ _
  refine hK57 _ _ ?_
  clear hK57
  refine c_split h65 (b := (Bool.xor false (decide ((a.th x).rep = (⟨0, 0⟩ : Rf))))) rfl (fun hc66 => ?_) (fun hc66 => ?_)
  ·
    have hc66f : (a.th x).rep = (⟨0, 0⟩ : Rf) := by simpa using hc66
    exact absurd (hr0) (by first | exact hc66f | (intro hz; exact hc66f hz) | omega | simp_all)
  ·
    have hc66f : ¬ ((a.th x).rep = (⟨0, 0⟩ : Rf)) := by simpa using hc66
    refine wp_skip ?_
    refine hK56 _ _ ?_
    clear hK56
    refine wp_seq_k fun K67 hK67 => ?_
    refine wp_seq_k fun K68 hK68 => ?_
    refine nd_start (l := [0, 1, 2, 3]) rfl ?_
    refine nd_batch tabOk2 tabZ_ok2 [(0, {}), (1, {k := 1}), (2, {}), (3, {})] [6, 3, 0, 1, 4, 5, 7, 53, 66, 176] (T' := [(6, .pointer (some ⟨b14, 0, none⟩)), (3, .pointer (some ⟨b2, 0, none⟩)), (0, .pointer (some ⟨mb, 0, none⟩)), (1, .agg #[.int .u8 7, .int .u32 ev.pick, .int .u64 ev.draw, .int .u32 ev.addr, .int .u32 ev.node, .int .u32 ev.dst, .int .u32 ev.xfer, .int .u8 ev.ty, .int .u64 ev.arg, .int .u64 ev.badge, .slice xo ev.ws.length cx]), (4, .int .u8 0), (5, .bool false), (7, .pointer (some ⟨(Z.tp x), 0, none⟩)), (53, .int .u8 7), (66, .bool false), (176, .bool (decide (((ev.ws.length : Nat) : Int) > 4)))]) (φ := (b2 = b2 ∧ Nat.ble (10 + 1) 11 = true) ∧ True) (rest := []) h65 (by kernel_rfl) rfl ⟨⟨rfl, rfl⟩, trivial⟩ fun a69 h70 => ?_
    clear h65
    refine nd_done ?_
    refine hK68 _ _ ?_
    clear hK68
    refine c_split h70 (b := decide (((ev.ws.length : Nat) : Int) > 4)) rfl (fun hc71 => ?_) (fun hc71 => ?_)
    ·
      have hc71f : ((ev.ws.length : Nat) : Int) > 4 := by simpa using hc71
      exact absurd (hwl) (by first | exact hc71f | (intro hz; exact hc71f hz) | omega | simp_all)
    ·
      have hc71f : ¬ ((ev.ws.length : Nat) : Int) > 4 := by simpa using hc71
      refine wp_skip ?_
      refine hK67 _ _ ?_
      clear hK67
      refine wp_seq_k fun K72 hK72 => ?_
      refine dr_start (KB := [3, b2, b14, mb, (Z.tp x), Z.tb]) (Bi := [[0, 1, 2, 3, 4, 5], [0, 1, 2, 3, 4, 5], [0, 1, 2, 3, 4, 5], [0, 1, 2, 3, 4, 5], [0, 1, 2, 3, 4, 5], [0, 1, 2, 3, 4, 5], [0, 1, 2, 3, 4, 5], [0, 1, 2, 3, 4, 5], [0, 1, 2, 3, 4, 5], [0, 1, 2, 3, 4, 5], [0, 1, 2, 3, 4, 5], [0, 1, 2, 3, 4, 5], [0, 1, 2, 3, 4, 5], [0, 1, 2, 3, 4, 5]]) mixed h70 fun w73 h74 => ?_
      clear h70
      refine dr_batch tabOk2 tabZ_ok2 (by repeat (first | with_reducible exact PF.body | with_reducible apply PF.inB | with_reducible apply PF.next)) [(0, {}), (1, {}), (2, {})] [6, 3, 0, 1, 4, 5, 7, 53, 66, 180] (T' := [(6, .pointer (some ⟨b14, 0, none⟩)), (3, .pointer (some ⟨b2, 0, none⟩)), (0, .pointer (some ⟨mb, 0, none⟩)), (1, .agg #[.int .u8 7, .int .u32 ev.pick, .int .u64 ev.draw, .int .u32 ev.addr, .int .u32 ev.node, .int .u32 ev.dst, .int .u32 ev.xfer, .int .u8 ev.ty, .int .u64 ev.arg, .int .u64 ev.badge, .slice xo ev.ws.length cx]), (4, .int .u8 0), (5, .bool false), (7, .pointer (some ⟨(Z.tp x), 0, none⟩)), (53, .int .u8 7), (66, .bool false), (180, .pointer (some ⟨mb, 2, none⟩))]) (φ := True) (fuel := 11) h74 (by kernel_rfl) rfl (by kernel_rfl) (by kernel_rfl) ⟨trivial, trivial, trivial, trivial⟩ trivial fun a76 h77 => ?_
      clear h74
      refine dr_read (i := 3) (b := mb) (p := 3) (v := .map (some Z.tb)) (fuel := 10) (by repeat (first | with_reducible exact PF.body | with_reducible apply PF.inB | with_reducible apply PF.next)) h77 rfl rfl rfl (by kernel_rfl) (by kernel_rfl) (by kernel_rfl) rfl (rd_m h77 (k := 2) (v := .map (some Z.tb)) rfl rfl rfl rfl (md_p ⟨rfl, trivial⟩)) ?_
      have h78 := h77.put (d := some 181) (v := .map (some Z.tb)) (T' := [(181, .map (some Z.tb)), (6, .pointer (some ⟨b14, 0, none⟩)), (3, .pointer (some ⟨b2, 0, none⟩)), (0, .pointer (some ⟨mb, 0, none⟩)), (1, .agg #[.int .u8 7, .int .u32 ev.pick, .int .u64 ev.draw, .int .u32 ev.addr, .int .u32 ev.node, .int .u32 ev.dst, .int .u32 ev.xfer, .int .u8 ev.ty, .int .u64 ev.arg, .int .u64 ev.badge, .slice xo ev.ws.length cx]), (4, .int .u8 0), (5, .bool false), (7, .pointer (some ⟨(Z.tp x), 0, none⟩)), (53, .int .u8 7), (66, .bool false), (180, .pointer (some ⟨mb, 2, none⟩))]) rfl
      clear h77
      refine dr_batch tabOk2 tabZ_ok2 (by repeat (first | with_reducible exact PF.body | with_reducible apply PF.inB | with_reducible apply PF.next)) [(4, {}), (5, {}), (6, {})] [181, 6, 3, 0, 1, 4, 5, 7, 53, 66, 184] (T' := [(181, .map (some Z.tb)), (6, .pointer (some ⟨b14, 0, none⟩)), (3, .pointer (some ⟨b2, 0, none⟩)), (0, .pointer (some ⟨mb, 0, none⟩)), (1, .agg #[.int .u8 7, .int .u32 ev.pick, .int .u64 ev.draw, .int .u32 ev.addr, .int .u32 ev.node, .int .u32 ev.dst, .int .u32 ev.xfer, .int .u8 ev.ty, .int .u64 ev.arg, .int .u64 ev.badge, .slice xo ev.ws.length cx]), (4, .int .u8 0), (5, .bool false), (7, .pointer (some ⟨(Z.tp x), 0, none⟩)), (53, .int .u8 7), (66, .bool false), (184, .pointer (some ⟨(Z.tp x), 6, none⟩))]) (φ := True) (fuel := 7) h78 (by kernel_rfl) rfl (by kernel_rfl) (by kernel_rfl) ⟨trivial, trivial, trivial, trivial⟩ trivial fun a79 h80 => ?_
      clear h78
      refine dr_read (i := 7) (b := (Z.tp x)) (p := 4) (v := .agg #[.int .u16 ((a.th x).rep.idx), .int .u32 ((a.th x).rep.gen)]) (fuel := 6) (by repeat (first | with_reducible exact PF.body | with_reducible apply PF.inB | with_reducible apply PF.next)) h80 rfl rfl rfl (by kernel_rfl) (by kernel_rfl) (by kernel_rfl) rfl (rd_thA h80 (x := x) (k := 6) (vs := [.int .u16 ((a.th x).rep.idx), .int .u32 ((a.th x).rep.gen)]) hx rfl rfl rfl rfl rfl ⟨rfl, rfl, trivial⟩) ?_
      have h81 := h80.put (d := some 185) (v := .agg #[.int .u16 ((a.th x).rep.idx), .int .u32 ((a.th x).rep.gen)]) (T' := [(185, .agg #[.int .u16 ((a.th x).rep.idx), .int .u32 ((a.th x).rep.gen)]), (181, .map (some Z.tb)), (6, .pointer (some ⟨b14, 0, none⟩)), (3, .pointer (some ⟨b2, 0, none⟩)), (0, .pointer (some ⟨mb, 0, none⟩)), (1, .agg #[.int .u8 7, .int .u32 ev.pick, .int .u64 ev.draw, .int .u32 ev.addr, .int .u32 ev.node, .int .u32 ev.dst, .int .u32 ev.xfer, .int .u8 ev.ty, .int .u64 ev.arg, .int .u64 ev.badge, .slice xo ev.ws.length cx]), (4, .int .u8 0), (5, .bool false), (7, .pointer (some ⟨(Z.tp x), 0, none⟩)), (53, .int .u8 7), (66, .bool false), (184, .pointer (some ⟨(Z.tp x), 6, none⟩))]) rfl
      clear h80
      refine dr_read (i := 8) (b := Z.tb) (p := 5) (v := .tuple #[.pointer none, .bool false]) (fuel := 5) (by repeat (first | with_reducible exact PF.body | with_reducible apply PF.inB | with_reducible apply PF.next)) h81 rfl rfl rfl (by kernel_rfl) (by kernel_rfl) (by kernel_rfl) rfl (rd_TN h81 (k := (a.th x).rep) hdead rfl rfl rfl) ?_
      have h82 := h81.put (d := some 186) (v := .tuple #[.pointer none, .bool false]) (T' := [(186, .tuple #[.pointer none, .bool false]), (185, .agg #[.int .u16 ((a.th x).rep.idx), .int .u32 ((a.th x).rep.gen)]), (181, .map (some Z.tb)), (6, .pointer (some ⟨b14, 0, none⟩)), (3, .pointer (some ⟨b2, 0, none⟩)), (0, .pointer (some ⟨mb, 0, none⟩)), (1, .agg #[.int .u8 7, .int .u32 ev.pick, .int .u64 ev.draw, .int .u32 ev.addr, .int .u32 ev.node, .int .u32 ev.dst, .int .u32 ev.xfer, .int .u8 ev.ty, .int .u64 ev.arg, .int .u64 ev.badge, .slice xo ev.ws.length cx]), (4, .int .u8 0), (5, .bool false), (7, .pointer (some ⟨(Z.tp x), 0, none⟩)), (53, .int .u8 7), (66, .bool false), (184, .pointer (some ⟨(Z.tp x), 6, none⟩))]) rfl
      clear h81
      refine dr_batch tabOk2 tabZ_ok2 (by repeat (first | with_reducible exact PF.body | with_reducible apply PF.inB | with_reducible apply PF.next)) [(9, {}), (10, {}), (11, {}), (12, {}), (13, {})] [6, 3, 0, 1, 4, 5, 7, 53, 66, 14, 15] (T' := [(6, .pointer (some ⟨b14, 0, none⟩)), (3, .pointer (some ⟨b2, 0, none⟩)), (0, .pointer (some ⟨mb, 0, none⟩)), (1, .agg #[.int .u8 7, .int .u32 ev.pick, .int .u64 ev.draw, .int .u32 ev.addr, .int .u32 ev.node, .int .u32 ev.dst, .int .u32 ev.xfer, .int .u8 ev.ty, .int .u64 ev.arg, .int .u64 ev.badge, .slice xo ev.ws.length cx]), (4, .int .u8 0), (5, .bool false), (7, .pointer (some ⟨(Z.tp x), 0, none⟩)), (53, .int .u8 7), (66, .bool false), (14, .pointer none), (15, .bool false)]) (φ := True) (fuel := 0) h82 (by kernel_rfl) rfl (by kernel_rfl) (by kernel_rfl) ⟨trivial, trivial, trivial, trivial, trivial, trivial⟩ trivial fun a83 h84 => ?_
      clear h82
      refine wpAnyK_done (by kernel_rfl) ?_ _
      refine hK72 _ _ ?_
      clear hK72
      refine wp_seq_k fun K85 hK85 => ?_
      refine wp_seq_k fun K86 hK86 => ?_
      refine dr_start (KB := [3, b2, b14]) (Bi := [[0, 1, 2], [0, 1, 2], [0, 1, 2], [0, 1, 2], [0, 1, 2], [0, 1, 2], [0, 1, 2], [0, 1, 2], [0, 1, 2], [0, 1, 2], [0, 1, 2], [0, 1, 2], [0, 1, 2], [0, 1, 2], [0, 1, 2], [0, 1, 2], [0, 1, 2]]) mixed h84 fun w87 h88 => ?_
      clear h84
      refine dr_batch tabOk2 tabZ_ok2 (by repeat (first | with_reducible exact PF.body | with_reducible apply PF.inB | with_reducible apply PF.next)) [(0, {}), (1, {}), (2, {}), (3, {}), (4, {}), (5, {}), (6, {k := 0, p := 0}), (7, {}), (8, {}), (9, {}), (10, {}), (11, {}), (12, {}), (13, {k := 0, p := 0}), (14, {k := 0, p := 0}), (15, {}), (16, {})] [6, 3, 0, 1, 4, 5, 7, 53, 66, 14, 15, 205] (T' := [(6, .pointer (some ⟨b14, 0, none⟩)), (3, .pointer (some ⟨b2, 0, none⟩)), (0, .pointer (some ⟨mb, 0, none⟩)), (1, .agg #[.int .u8 7, .int .u32 ev.pick, .int .u64 ev.draw, .int .u32 ev.addr, .int .u32 ev.node, .int .u32 ev.dst, .int .u32 ev.xfer, .int .u8 ev.ty, .int .u64 ev.arg, .int .u64 ev.badge, .slice xo ev.ws.length cx]), (4, .int .u8 0), (5, .bool false), (7, .pointer (some ⟨(Z.tp x), 0, none⟩)), (53, .int .u8 7), (66, .bool false), (14, .pointer none), (15, .bool false), (205, .bool true)]) (φ := True) (fuel := 0) h88 (by kernel_rfl) rfl (by kernel_rfl) (by kernel_rfl) ⟨trivial, trivial, trivial, trivial, trivial, trivial, rfl, trivial, trivial, trivial, trivial, trivial, trivial, rfl, rfl, trivial, trivial, trivial⟩ trivial fun a90 h91 => ?_
      clear h88
      refine wpAnyK_done (by kernel_rfl) ?_ _
      refine hK86 _ _ ?_
      clear hK86
      refine c_true h91 rfl ?_
      refine wp_seq_k fun K92 hK92 => ?_
      refine nd_start (l := [0, 1]) rfl ?_
      refine nd_batch tabOk2 tabZ_ok2 [(0, {}), (1, {})] [6, 3, 0, 1, 7, 53, 66, 14, 15, 4, 5] (T' := [(6, .pointer (some ⟨b14, 0, none⟩)), (3, .pointer (some ⟨b2, 0, none⟩)), (0, .pointer (some ⟨mb, 0, none⟩)), (1, .agg #[.int .u8 7, .int .u32 ev.pick, .int .u64 ev.draw, .int .u32 ev.addr, .int .u32 ev.node, .int .u32 ev.dst, .int .u32 ev.xfer, .int .u8 ev.ty, .int .u64 ev.arg, .int .u64 ev.badge, .slice xo ev.ws.length cx]), (7, .pointer (some ⟨(Z.tp x), 0, none⟩)), (53, .int .u8 7), (66, .bool false), (14, .pointer none), (15, .bool false), (4, .int .u8 13), (5, .bool false)]) (φ := True) (rest := []) h91 (by kernel_rfl) rfl trivial fun a93 h94 => ?_
      clear h91
      refine nd_done ?_
      refine hK92 _ _ ?_
      clear hK92
      refine wp_ret ?_
      try simp only [Exit.then, Exit.inBlock]
      try rw [if_pos trivial]
      exact s_ret tabOk2 tabZ_ok2 h94 [(.tmp 4, {}), (.tmp 5, {})] (vs := [.int .u8 13, .bool false]) (φ := True) rfl (by kernel_rfl) trivial (by exact ⟨rfl, _, mg_end hH h94 hho rfl⟩)

theorem call7s (mb : Nat) (Z : MZ) (R : MR) (a : AK) (C : CP) (hI : MI Z a C) (x : Nat) (hx : x ∈ sl Z.tl) (hcu : a.cur = (x : Int)) (ev : Ev) (he : EvOk ev) (xo : Option Addr) (cx : Nat) (hwl : ¬ (ev.ws.length : Int) > 4) (y : Nat) (hy : y ∈ sl Z.tl) (hrep : (a.th x).rep = Z.ky y) (hs6 : (a.th y).st ≠ 6) (w : World) (hH : MH mb Z R a C w) (hws : WordsAt (mdF mb Z R C) w xo ev.ws) :
    Calls Tryd.prog 55 #[.pointer (some ⟨mb, 0, none⟩), .agg #[.int .u8 7, .int .u32 ev.pick, .int .u64 ev.draw, .int .u32 ev.addr, .int .u32 ev.node, .int .u32 ev.dst, .int .u32 ev.xfer, .int .u8 ev.ty, .int .u64 ev.arg, .int .u64 ev.badge, .slice xo ev.ws.length cx]] w fun e w' => e = .returned (.tuple #[.int .u8 13, .bool false]) ∧ ∃ R', MG mb Z R C w Z R' a C w' := by
  have hP := hI.mp
  have hcx : curR Z a = Z.ky x := curR_of hcu
  have hcn : a.cur.toNat = x := by rw [hcu]; exact Int.toNat_natCast x
  have hci := (hI.tk x hx).ci
  obtain ⟨ty3, hg3⟩ := hH.g3
  have hho := hH.ho
  have hkk := hH.md.k
  refine enter (n := 628) (K := mdF mb Z R C) (A := MD (mdF mb Z R C) w.heap.size mb Z R a C) (F := mdF mb Z R C) (T := [(0, .pointer (some ⟨mb, 0, none⟩)), (1, .agg #[.int .u8 7, .int .u32 ev.pick, .int .u64 ev.draw, .int .u32 ev.addr, .int .u32 ev.node, .int .u32 ev.dst, .int .u32 ev.xfer, .int .u8 ev.ty, .int .u64 ev.arg, .int .u64 ev.badge, .slice xo ev.ws.length cx])]) (L := [(3, ⟨[.int .u16 0, .int .u32 0], ty3, true⟩)]) (args := [.pointer (some ⟨mb, 0, none⟩), .agg #[.int .u8 7, .int .u32 ev.pick, .int .u64 ev.draw, .int .u32 ev.addr, .int .u32 ev.node, .int .u32 ev.dst, .int .u32 ev.xfer, .int .u8 ev.ty, .int .u64 ev.arg, .int .u64 ev.badge, .slice xo ev.ws.length cx]]) Tryd.func55 rfl rfl rfl rfl (kcons hg3 knil) (by simp) (kcons (by intro hq; cases hq) knil) hH.mD MD.stable hH.md.low (kcons (by intro hq; cases hq) knil) ?_
  intro ac h
  refine wp_seq_k fun K1 hK1 => ?_
  refine nd_start (l := [0, 1, 2]) rfl ?_
  refine nd_op ?_
  refine op_new tabOk2 (cells := [.int .u8 7, .int .u32 ev.pick, .int .u64 ev.draw, .int .u32 ev.addr, .int .u32 ev.node, .int .u32 ev.dst, .int .u32 ev.xfer, .int .u8 ev.ty, .int .u64 ev.arg, .int .u64 ev.badge, .slice xo ev.ws.length cx]) (ty := 35) (ln := none) (L1 := fun b2 => [(3, ⟨[.int .u16 0, .int .u32 0], ty3, true⟩), (b2, ⟨[.int .u8 7, .int .u32 ev.pick, .int .u64 ev.draw, .int .u32 ev.addr, .int .u32 ev.node, .int .u32 ev.dst, .int .u32 ev.xfer, .int .u8 ev.ty, .int .u64 ev.arg, .int .u64 ev.badge, .slice xo ev.ws.length cx], 35, false⟩)]) h rfl rfl rfl rfl (by kernel_rfl) (fun _ => rfl) fun b2 w3 a4 h5 hf6 hn7 => ?_
  clear h
  refine nd_batch tabOk2 tabZ_ok2 [(1, {}), (2, {})] [3, 0, 1, 4, 5] (T' := [(3, .pointer (some ⟨b2, 0, none⟩)), (0, .pointer (some ⟨mb, 0, none⟩)), (1, .agg #[.int .u8 7, .int .u32 ev.pick, .int .u64 ev.draw, .int .u32 ev.addr, .int .u32 ev.node, .int .u32 ev.dst, .int .u32 ev.xfer, .int .u8 ev.ty, .int .u64 ev.arg, .int .u64 ev.badge, .slice xo ev.ws.length cx]), (4, .int .u8 0), (5, .bool false)]) (φ := True) (rest := []) h5 (by kernel_rfl) rfl trivial fun a8 h9 => ?_
  clear h5
  refine nd_done ?_
  refine hK1 _ _ ?_
  clear hK1
  refine wp_seq_k fun K10 hK10 => ?_
  refine nd_start (l := [0, 1, 2, 3, 4, 5]) rfl ?_
  refine nd_batch tabOk2 tabZ_ok2 [(0, {}), (1, {}), (2, {})] [3, 0, 1, 4, 5, 44] (T' := [(3, .pointer (some ⟨b2, 0, none⟩)), (0, .pointer (some ⟨mb, 0, none⟩)), (1, .agg #[.int .u8 7, .int .u32 ev.pick, .int .u64 ev.draw, .int .u32 ev.addr, .int .u32 ev.node, .int .u32 ev.dst, .int .u32 ev.xfer, .int .u8 ev.ty, .int .u64 ev.arg, .int .u64 ev.badge, .slice xo ev.ws.length cx]), (4, .int .u8 0), (5, .bool false), (44, .pointer (some ⟨mb, 13, none⟩))]) (φ := True) (rest := [3, 4, 5]) h9 (by kernel_rfl) rfl trivial fun a11 h12 => ?_
  clear h9
  refine nd_op ?_
  refine op_read (b := mb) (v := .agg #[.int .u16 ((Z.ky x).idx), .int .u32 ((Z.ky x).gen)]) h12 rfl rfl (rd_mA h12 (k := 13) (vs := [.int .u16 ((Z.ky x).idx), .int .u32 ((Z.ky x).gen)]) rfl rfl rfl rfl rfl (by rw [← hcx]; exact md_cur)) ?_
  have h13 := h12.put (d := some 45) (v := .agg #[.int .u16 ((Z.ky x).idx), .int .u32 ((Z.ky x).gen)]) (T' := [(45, .agg #[.int .u16 ((Z.ky x).idx), .int .u32 ((Z.ky x).gen)]), (3, .pointer (some ⟨b2, 0, none⟩)), (0, .pointer (some ⟨mb, 0, none⟩)), (1, .agg #[.int .u8 7, .int .u32 ev.pick, .int .u64 ev.draw, .int .u32 ev.addr, .int .u32 ev.node, .int .u32 ev.dst, .int .u32 ev.xfer, .int .u8 ev.ty, .int .u64 ev.arg, .int .u64 ev.badge, .slice xo ev.ws.length cx]), (4, .int .u8 0), (5, .bool false), (44, .pointer (some ⟨mb, 13, none⟩))]) rfl
  clear h12
  refine nd_op ?_
  refine op_new tabOk2 (cells := [.int .u16 0, .int .u32 0]) (ty := 39) (ln := none) (L1 := fun b14 => [(3, ⟨[.int .u16 0, .int .u32 0], ty3, true⟩), (b2, ⟨[.int .u8 7, .int .u32 ev.pick, .int .u64 ev.draw, .int .u32 ev.addr, .int .u32 ev.node, .int .u32 ev.dst, .int .u32 ev.xfer, .int .u8 ev.ty, .int .u64 ev.arg, .int .u64 ev.badge, .slice xo ev.ws.length cx], 35, false⟩), (b14, ⟨[.int .u16 0, .int .u32 0], 39, false⟩)]) h13 rfl rfl rfl rfl (by kernel_rfl) (fun _ => rfl) fun b14 w15 a16 h17 hf18 hn19 => ?_
  clear h13
  refine nd_op ?_
  refine op_store tabOk2 {k := 2} (L' := [(3, ⟨[.int .u16 0, .int .u32 0], ty3, true⟩), (b2, ⟨[.int .u8 7, .int .u32 ev.pick, .int .u64 ev.draw, .int .u32 ev.addr, .int .u32 ev.node, .int .u32 ev.dst, .int .u32 ev.xfer, .int .u8 ev.ty, .int .u64 ev.arg, .int .u64 ev.badge, .slice xo ev.ws.length cx], 35, false⟩), (b14, ⟨[.int .u16 ((Z.ky x).idx), .int .u32 ((Z.ky x).gen)], 39, false⟩)]) (φ := b14 = b14 ∧ Nat.ble (0 + 2) 2 = true) h17 rfl rfl rfl (by kernel_rfl) ⟨rfl, rfl⟩ fun w20 h21 => ?_
  clear h17
  refine nd_done ?_
  refine hK10 _ _ ?_
  clear hK10
  refine wp_seq_k fun K22 hK22 => ?_
  refine dr_start (KB := [3, b2, b14, mb, Z.tb]) (Bi := [[0, 1, 2, 3, 4], [0, 1, 2, 3, 4], [0, 1, 2, 3, 4], [0, 1, 2, 3, 4], [0, 1, 2, 3, 4], [0, 1, 2, 3, 4], [0, 1, 2, 3, 4]]) mixed h21 fun w23 h24 => ?_
  clear h21
  refine dr_batch tabOk2 tabZ_ok2 (by repeat (first | with_reducible exact PF.body | with_reducible apply PF.inB | with_reducible apply PF.next)) [(0, {}), (1, {}), (2, {})] [6, 3, 0, 1, 4, 5, 48] (T' := [(6, .pointer (some ⟨b14, 0, none⟩)), (3, .pointer (some ⟨b2, 0, none⟩)), (0, .pointer (some ⟨mb, 0, none⟩)), (1, .agg #[.int .u8 7, .int .u32 ev.pick, .int .u64 ev.draw, .int .u32 ev.addr, .int .u32 ev.node, .int .u32 ev.dst, .int .u32 ev.xfer, .int .u8 ev.ty, .int .u64 ev.arg, .int .u64 ev.badge, .slice xo ev.ws.length cx]), (4, .int .u8 0), (5, .bool false), (48, .pointer (some ⟨mb, 2, none⟩))]) (φ := True) (fuel := 4) h24 (by kernel_rfl) rfl (by kernel_rfl) (by kernel_rfl) ⟨trivial, trivial, trivial, trivial⟩ trivial fun a26 h27 => ?_
  clear h24
  refine dr_read (i := 3) (b := mb) (p := 3) (v := .map (some Z.tb)) (fuel := 3) (by repeat (first | with_reducible exact PF.body | with_reducible apply PF.inB | with_reducible apply PF.next)) h27 rfl rfl rfl (by kernel_rfl) (by kernel_rfl) (by kernel_rfl) rfl (rd_m h27 (k := 2) (v := .map (some Z.tb)) rfl rfl rfl rfl (md_p ⟨rfl, trivial⟩)) ?_
  have h28 := h27.put (d := some 49) (v := .map (some Z.tb)) (T' := [(49, .map (some Z.tb)), (6, .pointer (some ⟨b14, 0, none⟩)), (3, .pointer (some ⟨b2, 0, none⟩)), (0, .pointer (some ⟨mb, 0, none⟩)), (1, .agg #[.int .u8 7, .int .u32 ev.pick, .int .u64 ev.draw, .int .u32 ev.addr, .int .u32 ev.node, .int .u32 ev.dst, .int .u32 ev.xfer, .int .u8 ev.ty, .int .u64 ev.arg, .int .u64 ev.badge, .slice xo ev.ws.length cx]), (4, .int .u8 0), (5, .bool false), (48, .pointer (some ⟨mb, 2, none⟩))]) rfl
  clear h27
  refine dr_batch tabOk2 tabZ_ok2 (by repeat (first | with_reducible exact PF.body | with_reducible apply PF.inB | with_reducible apply PF.next)) [(4, {k := 2, p := 2})] [49, 6, 3, 0, 1, 4, 5, 50] (T' := [(49, .map (some Z.tb)), (6, .pointer (some ⟨b14, 0, none⟩)), (3, .pointer (some ⟨b2, 0, none⟩)), (0, .pointer (some ⟨mb, 0, none⟩)), (1, .agg #[.int .u8 7, .int .u32 ev.pick, .int .u64 ev.draw, .int .u32 ev.addr, .int .u32 ev.node, .int .u32 ev.dst, .int .u32 ev.xfer, .int .u8 ev.ty, .int .u64 ev.arg, .int .u64 ev.badge, .slice xo ev.ws.length cx]), (4, .int .u8 0), (5, .bool false), (50, .agg #[.int .u16 ((Z.ky x).idx), .int .u32 ((Z.ky x).gen)])]) (φ := (b14 = b14 ∧ Nat.ble (0 + 2) 2 = true) ∧ True) (fuel := 2) h28 (by kernel_rfl) rfl (by kernel_rfl) (by kernel_rfl) ⟨rfl, trivial⟩ ⟨⟨rfl, rfl⟩, trivial⟩ fun a29 h30 => ?_
  clear h28
  refine dr_read (i := 5) (b := Z.tb) (p := 4) (v := .pointer (some ⟨(Z.tp x), 0, none⟩)) (fuel := 1) (by repeat (first | with_reducible exact PF.body | with_reducible apply PF.inB | with_reducible apply PF.next)) h30 rfl rfl rfl (by kernel_rfl) (by kernel_rfl) (by kernel_rfl) rfl (rd_T h30 (x := x) hx rfl rfl rfl) ?_
  have h31 := h30.put (d := some 51) (v := .pointer (some ⟨(Z.tp x), 0, none⟩)) (T' := [(51, .pointer (some ⟨(Z.tp x), 0, none⟩)), (49, .map (some Z.tb)), (6, .pointer (some ⟨b14, 0, none⟩)), (3, .pointer (some ⟨b2, 0, none⟩)), (0, .pointer (some ⟨mb, 0, none⟩)), (1, .agg #[.int .u8 7, .int .u32 ev.pick, .int .u64 ev.draw, .int .u32 ev.addr, .int .u32 ev.node, .int .u32 ev.dst, .int .u32 ev.xfer, .int .u8 ev.ty, .int .u64 ev.arg, .int .u64 ev.badge, .slice xo ev.ws.length cx]), (4, .int .u8 0), (5, .bool false), (50, .agg #[.int .u16 ((Z.ky x).idx), .int .u32 ((Z.ky x).gen)])]) rfl
  clear h30
  refine dr_batch tabOk2 tabZ_ok2 (by repeat (first | with_reducible exact PF.body | with_reducible apply PF.inB | with_reducible apply PF.next)) [(6, {})] [6, 3, 0, 1, 4, 5, 7] (T' := [(6, .pointer (some ⟨b14, 0, none⟩)), (3, .pointer (some ⟨b2, 0, none⟩)), (0, .pointer (some ⟨mb, 0, none⟩)), (1, .agg #[.int .u8 7, .int .u32 ev.pick, .int .u64 ev.draw, .int .u32 ev.addr, .int .u32 ev.node, .int .u32 ev.dst, .int .u32 ev.xfer, .int .u8 ev.ty, .int .u64 ev.arg, .int .u64 ev.badge, .slice xo ev.ws.length cx]), (4, .int .u8 0), (5, .bool false), (7, .pointer (some ⟨(Z.tp x), 0, none⟩))]) (φ := True) (fuel := 0) h31 (by kernel_rfl) rfl (by kernel_rfl) (by kernel_rfl) ⟨trivial, trivial⟩ trivial fun a32 h33 => ?_
  clear h31
  refine wpAnyK_done (by kernel_rfl) ?_ _
  refine hK22 _ _ ?_
  clear hK22
  refine wp_seq_k fun K34 hK34 => ?_
  refine wp_seq_k fun K35 hK35 => ?_
  refine nd_start (l := [0, 1]) rfl ?_
  refine nd_batch tabOk2 tabZ_ok2 [(0, {}), (1, {k := 1})] [6, 3, 0, 1, 4, 5, 7, 53] (T' := [(6, .pointer (some ⟨b14, 0, none⟩)), (3, .pointer (some ⟨b2, 0, none⟩)), (0, .pointer (some ⟨mb, 0, none⟩)), (1, .agg #[.int .u8 7, .int .u32 ev.pick, .int .u64 ev.draw, .int .u32 ev.addr, .int .u32 ev.node, .int .u32 ev.dst, .int .u32 ev.xfer, .int .u8 ev.ty, .int .u64 ev.arg, .int .u64 ev.badge, .slice xo ev.ws.length cx]), (4, .int .u8 0), (5, .bool false), (7, .pointer (some ⟨(Z.tp x), 0, none⟩)), (53, .int .u8 7)]) (φ := (b2 = b2 ∧ Nat.ble (0 + 1) 11 = true) ∧ True) (rest := []) h33 (by kernel_rfl) rfl ⟨⟨rfl, rfl⟩, trivial⟩ fun a36 h37 => ?_
  clear h33
  refine nd_done ?_
  refine hK35 _ _ ?_
  clear hK35
  refine wp_block ?_
  refine wp_seq_k fun K38 hK38 => ?_
  refine nd_start (l := [0, 1]) rfl ?_
  refine nd_batch tabOk2 tabZ_ok2 [(0, {}), (1, {})] [6, 3, 0, 1, 4, 5, 7, 53, 54] (T' := [(6, .pointer (some ⟨b14, 0, none⟩)), (3, .pointer (some ⟨b2, 0, none⟩)), (0, .pointer (some ⟨mb, 0, none⟩)), (1, .agg #[.int .u8 7, .int .u32 ev.pick, .int .u64 ev.draw, .int .u32 ev.addr, .int .u32 ev.node, .int .u32 ev.dst, .int .u32 ev.xfer, .int .u8 ev.ty, .int .u64 ev.arg, .int .u64 ev.badge, .slice xo ev.ws.length cx]), (4, .int .u8 0), (5, .bool false), (7, .pointer (some ⟨(Z.tp x), 0, none⟩)), (53, .int .u8 7), (54, .bool false)]) (φ := True) (rest := []) h37 (by kernel_rfl) rfl trivial fun a39 h40 => ?_
  clear h37
  refine nd_done ?_
  refine hK38 _ _ ?_
  clear hK38
  refine c_false h40 rfl ?_
  refine wp_seq_k fun K41 hK41 => ?_
  refine nd_start (l := [0, 1]) rfl ?_
  refine nd_batch tabOk2 tabZ_ok2 [(0, {}), (1, {})] [6, 3, 0, 1, 4, 5, 7, 53, 59] (T' := [(6, .pointer (some ⟨b14, 0, none⟩)), (3, .pointer (some ⟨b2, 0, none⟩)), (0, .pointer (some ⟨mb, 0, none⟩)), (1, .agg #[.int .u8 7, .int .u32 ev.pick, .int .u64 ev.draw, .int .u32 ev.addr, .int .u32 ev.node, .int .u32 ev.dst, .int .u32 ev.xfer, .int .u8 ev.ty, .int .u64 ev.arg, .int .u64 ev.badge, .slice xo ev.ws.length cx]), (4, .int .u8 0), (5, .bool false), (7, .pointer (some ⟨(Z.tp x), 0, none⟩)), (53, .int .u8 7), (59, .bool false)]) (φ := True) (rest := []) h40 (by kernel_rfl) rfl trivial fun a42 h43 => ?_
  clear h40
  refine nd_done ?_
  refine hK41 _ _ ?_
  clear hK41
  refine c_false h43 rfl ?_
  refine wp_seq_k fun K44 hK44 => ?_
  refine wp_seq_k fun K45 hK45 => ?_
  refine nd_start (l := [0, 1]) rfl ?_
  refine nd_batch tabOk2 tabZ_ok2 [(0, {}), (1, {})] [6, 3, 0, 1, 4, 5, 7, 53, 66] (T' := [(6, .pointer (some ⟨b14, 0, none⟩)), (3, .pointer (some ⟨b2, 0, none⟩)), (0, .pointer (some ⟨mb, 0, none⟩)), (1, .agg #[.int .u8 7, .int .u32 ev.pick, .int .u64 ev.draw, .int .u32 ev.addr, .int .u32 ev.node, .int .u32 ev.dst, .int .u32 ev.xfer, .int .u8 ev.ty, .int .u64 ev.arg, .int .u64 ev.badge, .slice xo ev.ws.length cx]), (4, .int .u8 0), (5, .bool false), (7, .pointer (some ⟨(Z.tp x), 0, none⟩)), (53, .int .u8 7), (66, .bool false)]) (φ := True) (rest := []) h43 (by kernel_rfl) rfl trivial fun a46 h47 => ?_
  clear h43
  refine nd_done ?_
  refine hK45 _ _ ?_
  clear hK45
  refine c_false h47 rfl ?_
  refine nd_start (l := [0, 1]) rfl ?_
  refine nd_batch tabOk2 tabZ_ok2 [(0, {}), (1, {})] [6, 3, 0, 1, 4, 5, 7, 53, 66] (T' := [(6, .pointer (some ⟨b14, 0, none⟩)), (3, .pointer (some ⟨b2, 0, none⟩)), (0, .pointer (some ⟨mb, 0, none⟩)), (1, .agg #[.int .u8 7, .int .u32 ev.pick, .int .u64 ev.draw, .int .u32 ev.addr, .int .u32 ev.node, .int .u32 ev.dst, .int .u32 ev.xfer, .int .u8 ev.ty, .int .u64 ev.arg, .int .u64 ev.badge, .slice xo ev.ws.length cx]), (4, .int .u8 0), (5, .bool false), (7, .pointer (some ⟨(Z.tp x), 0, none⟩)), (53, .int .u8 7), (66, .bool false)]) (φ := True) (rest := []) h47 (by kernel_rfl) rfl trivial fun a48 h49 => ?_
  clear h47
  refine nd_done ?_
  refine hK44 _ _ ?_
  clear hK44
  refine c_false h49 rfl ?_
  refine wp_seq_k fun K50 hK50 => ?_
  refine nd_start (l := [0, 1]) rfl ?_
  refine nd_batch tabOk2 tabZ_ok2 [(0, {}), (1, {})] [6, 3, 0, 1, 4, 5, 7, 53, 66, 129] (T' := [(6, .pointer (some ⟨b14, 0, none⟩)), (3, .pointer (some ⟨b2, 0, none⟩)), (0, .pointer (some ⟨mb, 0, none⟩)), (1, .agg #[.int .u8 7, .int .u32 ev.pick, .int .u64 ev.draw, .int .u32 ev.addr, .int .u32 ev.node, .int .u32 ev.dst, .int .u32 ev.xfer, .int .u8 ev.ty, .int .u64 ev.arg, .int .u64 ev.badge, .slice xo ev.ws.length cx]), (4, .int .u8 0), (5, .bool false), (7, .pointer (some ⟨(Z.tp x), 0, none⟩)), (53, .int .u8 7), (66, .bool false), (129, .bool false)]) (φ := True) (rest := []) h49 (by kernel_rfl) rfl trivial fun a51 h52 => ?_
  clear h49
  refine nd_done ?_
  refine hK50 _ _ ?_
  clear hK50
  refine c_false h52 rfl ?_
  refine wp_seq_k fun K53 hK53 => ?_
  refine nd_start (l := [0, 1]) rfl ?_
  refine nd_batch tabOk2 tabZ_ok2 [(0, {}), (1, {})] [6, 3, 0, 1, 4, 5, 7, 53, 66, 165] (T' := [(6, .pointer (some ⟨b14, 0, none⟩)), (3, .pointer (some ⟨b2, 0, none⟩)), (0, .pointer (some ⟨mb, 0, none⟩)), (1, .agg #[.int .u8 7, .int .u32 ev.pick, .int .u64 ev.draw, .int .u32 ev.addr, .int .u32 ev.node, .int .u32 ev.dst, .int .u32 ev.xfer, .int .u8 ev.ty, .int .u64 ev.arg, .int .u64 ev.badge, .slice xo ev.ws.length cx]), (4, .int .u8 0), (5, .bool false), (7, .pointer (some ⟨(Z.tp x), 0, none⟩)), (53, .int .u8 7), (66, .bool false), (165, .bool true)]) (φ := True) (rest := []) h52 (by kernel_rfl) rfl trivial fun a54 h55 => ?_
  clear h52
  refine nd_done ?_
  refine hK53 _ _ ?_
  clear hK53
  refine c_true h55 rfl ?_
  refine wp_seq_k fun K56 hK56 => ?_
  refine wp_seq_k fun K57 hK57 => ?_
  refine dr_start (KB := [3, b2, b14, (Z.tp x)]) (Bi := [[0, 1, 2, 3], [0, 1, 2, 3], [0, 1, 2, 3], [0, 1, 2, 3], [0, 1, 2, 3], [0, 1, 2, 3]]) mixed h55 fun w58 h59 => ?_
  clear h55
  refine dr_batch tabOk2 tabZ_ok2 (by repeat (first | with_reducible exact PF.body | with_reducible apply PF.inB | with_reducible apply PF.next)) [(0, {}), (1, {}), (2, {})] [6, 3, 0, 1, 4, 5, 7, 53, 66, 169] (T' := [(6, .pointer (some ⟨b14, 0, none⟩)), (3, .pointer (some ⟨b2, 0, none⟩)), (0, .pointer (some ⟨mb, 0, none⟩)), (1, .agg #[.int .u8 7, .int .u32 ev.pick, .int .u64 ev.draw, .int .u32 ev.addr, .int .u32 ev.node, .int .u32 ev.dst, .int .u32 ev.xfer, .int .u8 ev.ty, .int .u64 ev.arg, .int .u64 ev.badge, .slice xo ev.ws.length cx]), (4, .int .u8 0), (5, .bool false), (7, .pointer (some ⟨(Z.tp x), 0, none⟩)), (53, .int .u8 7), (66, .bool false), (169, .pointer (some ⟨(Z.tp x), 6, none⟩))]) (φ := True) (fuel := 3) h59 (by kernel_rfl) rfl (by kernel_rfl) (by kernel_rfl) ⟨trivial, trivial, trivial, trivial⟩ trivial fun a61 h62 => ?_
  clear h59
  refine dr_read (i := 3) (b := (Z.tp x)) (p := 3) (v := .agg #[.int .u16 ((Z.ky y).idx), .int .u32 ((Z.ky y).gen)]) (fuel := 2) (by repeat (first | with_reducible exact PF.body | with_reducible apply PF.inB | with_reducible apply PF.next)) h62 rfl rfl rfl (by kernel_rfl) (by kernel_rfl) (by kernel_rfl) rfl (rd_thA h62 (x := x) (k := 6) (vs := [.int .u16 ((Z.ky y).idx), .int .u32 ((Z.ky y).gen)]) hx rfl rfl rfl rfl rfl (by rw [← hrep]; exact ⟨rfl, rfl, trivial⟩)) ?_
  have h63 := h62.put (d := some 170) (v := .agg #[.int .u16 ((Z.ky y).idx), .int .u32 ((Z.ky y).gen)]) (T' := [(170, .agg #[.int .u16 ((Z.ky y).idx), .int .u32 ((Z.ky y).gen)]), (6, .pointer (some ⟨b14, 0, none⟩)), (3, .pointer (some ⟨b2, 0, none⟩)), (0, .pointer (some ⟨mb, 0, none⟩)), (1, .agg #[.int .u8 7, .int .u32 ev.pick, .int .u64 ev.draw, .int .u32 ev.addr, .int .u32 ev.node, .int .u32 ev.dst, .int .u32 ev.xfer, .int .u8 ev.ty, .int .u64 ev.arg, .int .u64 ev.badge, .slice xo ev.ws.length cx]), (4, .int .u8 0), (5, .bool false), (7, .pointer (some ⟨(Z.tp x), 0, none⟩)), (53, .int .u8 7), (66, .bool false), (169, .pointer (some ⟨(Z.tp x), 6, none⟩))]) rfl
  clear h62
  refine dr_batch tabOk2 tabZ_ok2 (by repeat (first | with_reducible exact PF.body | with_reducible apply PF.inB | with_reducible apply PF.next)) [(4, {k := 0, p := 0}), (5, {vs := [.bool (decide ((Z.ky y) = (⟨0, 0⟩ : Rf)))]})] [6, 3, 0, 1, 4, 5, 7, 53, 66, 172] (T' := [(6, .pointer (some ⟨b14, 0, none⟩)), (3, .pointer (some ⟨b2, 0, none⟩)), (0, .pointer (some ⟨mb, 0, none⟩)), (1, .agg #[.int .u8 7, .int .u32 ev.pick, .int .u64 ev.draw, .int .u32 ev.addr, .int .u32 ev.node, .int .u32 ev.dst, .int .u32 ev.xfer, .int .u8 ev.ty, .int .u64 ev.arg, .int .u64 ev.badge, .slice xo ev.ws.length cx]), (4, .int .u8 0), (5, .bool false), (7, .pointer (some ⟨(Z.tp x), 0, none⟩)), (53, .int .u8 7), (66, .bool false), (172, .bool (Bool.xor false (decide ((Z.ky y) = (⟨0, 0⟩ : Rf)))))]) (φ := (3 = 3 ∧ Nat.ble (0 + 2) 2 = true) ∧ EqRun Tryd.prog 39 (.agg #[.int .u16 ((Z.ky y).idx), .int .u32 ((Z.ky y).gen)]) (.agg #[.int .u16 0, .int .u32 0]) (decide ((Z.ky y) = (⟨0, 0⟩ : Rf))) ∧ True) (fuel := 0) h63 (by kernel_rfl) rfl (by kernel_rfl) (by kernel_rfl) ⟨rfl, trivial, trivial⟩ ⟨⟨rfl, rfl⟩, (runRf (Z.ky y) (⟨0, 0⟩ : Rf)), trivial⟩ fun a64 h65 => ?_
  clear h63
  refine wpAnyK_done (by kernel_rfl) ?_ _
  refine hK57 _ _ ?_
  clear hK57
  refine c_split h65 (b := (Bool.xor false (decide ((Z.ky y) = (⟨0, 0⟩ : Rf))))) rfl (fun hc66 => ?_) (fun hc66 => ?_)
  ·
    have hc66f : (Z.ky y) = (⟨0, 0⟩ : Rf) := by simpa using hc66
    exact absurd hc66f (hkk.ne0 (hkk.tx y hy))
  ·
    have hc66f : ¬ ((Z.ky y) = (⟨0, 0⟩ : Rf)) := by simpa using hc66
    refine wp_skip ?_
    refine hK56 _ _ ?_
    clear hK56
    refine wp_seq_k fun K67 hK67 => ?_
    refine wp_seq_k fun K68 hK68 => ?_
    refine nd_start (l := [0, 1, 2, 3]) rfl ?_
    refine nd_batch tabOk2 tabZ_ok2 [(0, {}), (1, {k := 1}), (2, {}), (3, {})] [6, 3, 0, 1, 4, 5, 7, 53, 66, 176] (T' := [(6, .pointer (some ⟨b14, 0, none⟩)), (3, .pointer (some ⟨b2, 0, none⟩)), (0, .pointer (some ⟨mb, 0, none⟩)), (1, .agg #[.int .u8 7, .int .u32 ev.pick, .int .u64 ev.draw, .int .u32 ev.addr, .int .u32 ev.node, .int .u32 ev.dst, .int .u32 ev.xfer, .int .u8 ev.ty, .int .u64 ev.arg, .int .u64 ev.badge, .slice xo ev.ws.length cx]), (4, .int .u8 0), (5, .bool false), (7, .pointer (some ⟨(Z.tp x), 0, none⟩)), (53, .int .u8 7), (66, .bool false), (176, .bool (decide (((ev.ws.length : Nat) : Int) > 4)))]) (φ := (b2 = b2 ∧ Nat.ble (10 + 1) 11 = true) ∧ True) (rest := []) h65 (by kernel_rfl) rfl ⟨⟨rfl, rfl⟩, trivial⟩ fun a69 h70 => ?_
    clear h65
    refine nd_done ?_
    refine hK68 _ _ ?_
    clear hK68
    refine c_split h70 (b := decide (((ev.ws.length : Nat) : Int) > 4)) rfl (fun hc71 => ?_) (fun hc71 => ?_)
    ·
      have hc71f : ((ev.ws.length : Nat) : Int) > 4 := by simpa using hc71
      exact absurd (hwl) (by first | exact hc71f | (intro hz; exact hc71f hz) | omega | simp_all)
    ·
      have hc71f : ¬ ((ev.ws.length : Nat) : Int) > 4 := by simpa using hc71
      refine wp_skip ?_
      refine hK67 _ _ ?_
      clear hK67
      refine wp_seq_k fun K72 hK72 => ?_
      refine dr_start (KB := [3, b2, b14, mb, (Z.tp x), Z.tb]) (Bi := [[0, 1, 2, 3, 4, 5], [0, 1, 2, 3, 4, 5], [0, 1, 2, 3, 4, 5], [0, 1, 2, 3, 4, 5], [0, 1, 2, 3, 4, 5], [0, 1, 2, 3, 4, 5], [0, 1, 2, 3, 4, 5], [0, 1, 2, 3, 4, 5], [0, 1, 2, 3, 4, 5], [0, 1, 2, 3, 4, 5], [0, 1, 2, 3, 4, 5], [0, 1, 2, 3, 4, 5], [0, 1, 2, 3, 4, 5], [0, 1, 2, 3, 4, 5]]) mixed h70 fun w73 h74 => ?_
      clear h70
      refine dr_batch tabOk2 tabZ_ok2 (by repeat (first | with_reducible exact PF.body | with_reducible apply PF.inB | with_reducible apply PF.next)) [(0, {}), (1, {}), (2, {})] [6, 3, 0, 1, 4, 5, 7, 53, 66, 180] (T' := [(6, .pointer (some ⟨b14, 0, none⟩)), (3, .pointer (some ⟨b2, 0, none⟩)), (0, .pointer (some ⟨mb, 0, none⟩)), (1, .agg #[.int .u8 7, .int .u32 ev.pick, .int .u64 ev.draw, .int .u32 ev.addr, .int .u32 ev.node, .int .u32 ev.dst, .int .u32 ev.xfer, .int .u8 ev.ty, .int .u64 ev.arg, .int .u64 ev.badge, .slice xo ev.ws.length cx]), (4, .int .u8 0), (5, .bool false), (7, .pointer (some ⟨(Z.tp x), 0, none⟩)), (53, .int .u8 7), (66, .bool false), (180, .pointer (some ⟨mb, 2, none⟩))]) (φ := True) (fuel := 11) h74 (by kernel_rfl) rfl (by kernel_rfl) (by kernel_rfl) ⟨trivial, trivial, trivial, trivial⟩ trivial fun a76 h77 => ?_
      clear h74
      refine dr_read (i := 3) (b := mb) (p := 3) (v := .map (some Z.tb)) (fuel := 10) (by repeat (first | with_reducible exact PF.body | with_reducible apply PF.inB | with_reducible apply PF.next)) h77 rfl rfl rfl (by kernel_rfl) (by kernel_rfl) (by kernel_rfl) rfl (rd_m h77 (k := 2) (v := .map (some Z.tb)) rfl rfl rfl rfl (md_p ⟨rfl, trivial⟩)) ?_
      have h78 := h77.put (d := some 181) (v := .map (some Z.tb)) (T' := [(181, .map (some Z.tb)), (6, .pointer (some ⟨b14, 0, none⟩)), (3, .pointer (some ⟨b2, 0, none⟩)), (0, .pointer (some ⟨mb, 0, none⟩)), (1, .agg #[.int .u8 7, .int .u32 ev.pick, .int .u64 ev.draw, .int .u32 ev.addr, .int .u32 ev.node, .int .u32 ev.dst, .int .u32 ev.xfer, .int .u8 ev.ty, .int .u64 ev.arg, .int .u64 ev.badge, .slice xo ev.ws.length cx]), (4, .int .u8 0), (5, .bool false), (7, .pointer (some ⟨(Z.tp x), 0, none⟩)), (53, .int .u8 7), (66, .bool false), (180, .pointer (some ⟨mb, 2, none⟩))]) rfl
      clear h77
      refine dr_batch tabOk2 tabZ_ok2 (by repeat (first | with_reducible exact PF.body | with_reducible apply PF.inB | with_reducible apply PF.next)) [(4, {}), (5, {}), (6, {})] [181, 6, 3, 0, 1, 4, 5, 7, 53, 66, 184] (T' := [(181, .map (some Z.tb)), (6, .pointer (some ⟨b14, 0, none⟩)), (3, .pointer (some ⟨b2, 0, none⟩)), (0, .pointer (some ⟨mb, 0, none⟩)), (1, .agg #[.int .u8 7, .int .u32 ev.pick, .int .u64 ev.draw, .int .u32 ev.addr, .int .u32 ev.node, .int .u32 ev.dst, .int .u32 ev.xfer, .int .u8 ev.ty, .int .u64 ev.arg, .int .u64 ev.badge, .slice xo ev.ws.length cx]), (4, .int .u8 0), (5, .bool false), (7, .pointer (some ⟨(Z.tp x), 0, none⟩)), (53, .int .u8 7), (66, .bool false), (184, .pointer (some ⟨(Z.tp x), 6, none⟩))]) (φ := True) (fuel := 7) h78 (by kernel_rfl) rfl (by kernel_rfl) (by kernel_rfl) ⟨trivial, trivial, trivial, trivial⟩ trivial fun a79 h80 => ?_
      clear h78
      refine dr_read (i := 7) (b := (Z.tp x)) (p := 4) (v := .agg #[.int .u16 ((Z.ky y).idx), .int .u32 ((Z.ky y).gen)]) (fuel := 6) (by repeat (first | with_reducible exact PF.body | with_reducible apply PF.inB | with_reducible apply PF.next)) h80 rfl rfl rfl (by kernel_rfl) (by kernel_rfl) (by kernel_rfl) rfl (rd_thA h80 (x := x) (k := 6) (vs := [.int .u16 ((Z.ky y).idx), .int .u32 ((Z.ky y).gen)]) hx rfl rfl rfl rfl rfl (by rw [← hrep]; exact ⟨rfl, rfl, trivial⟩)) ?_
      have h81 := h80.put (d := some 185) (v := .agg #[.int .u16 ((Z.ky y).idx), .int .u32 ((Z.ky y).gen)]) (T' := [(185, .agg #[.int .u16 ((Z.ky y).idx), .int .u32 ((Z.ky y).gen)]), (181, .map (some Z.tb)), (6, .pointer (some ⟨b14, 0, none⟩)), (3, .pointer (some ⟨b2, 0, none⟩)), (0, .pointer (some ⟨mb, 0, none⟩)), (1, .agg #[.int .u8 7, .int .u32 ev.pick, .int .u64 ev.draw, .int .u32 ev.addr, .int .u32 ev.node, .int .u32 ev.dst, .int .u32 ev.xfer, .int .u8 ev.ty, .int .u64 ev.arg, .int .u64 ev.badge, .slice xo ev.ws.length cx]), (4, .int .u8 0), (5, .bool false), (7, .pointer (some ⟨(Z.tp x), 0, none⟩)), (53, .int .u8 7), (66, .bool false), (184, .pointer (some ⟨(Z.tp x), 6, none⟩))]) rfl
      clear h80
      refine dr_read (i := 8) (b := Z.tb) (p := 5) (v := .tuple #[.pointer (some ⟨(Z.tp y), 0, none⟩), .bool true]) (fuel := 5) (by repeat (first | with_reducible exact PF.body | with_reducible apply PF.inB | with_reducible apply PF.next)) h81 rfl rfl rfl (by kernel_rfl) (by kernel_rfl) (by kernel_rfl) rfl (rd_TB h81 (x := y) hy rfl rfl rfl) ?_
      have h82 := h81.put (d := some 186) (v := .tuple #[.pointer (some ⟨(Z.tp y), 0, none⟩), .bool true]) (T' := [(186, .tuple #[.pointer (some ⟨(Z.tp y), 0, none⟩), .bool true]), (185, .agg #[.int .u16 ((Z.ky y).idx), .int .u32 ((Z.ky y).gen)]), (181, .map (some Z.tb)), (6, .pointer (some ⟨b14, 0, none⟩)), (3, .pointer (some ⟨b2, 0, none⟩)), (0, .pointer (some ⟨mb, 0, none⟩)), (1, .agg #[.int .u8 7, .int .u32 ev.pick, .int .u64 ev.draw, .int .u32 ev.addr, .int .u32 ev.node, .int .u32 ev.dst, .int .u32 ev.xfer, .int .u8 ev.ty, .int .u64 ev.arg, .int .u64 ev.badge, .slice xo ev.ws.length cx]), (4, .int .u8 0), (5, .bool false), (7, .pointer (some ⟨(Z.tp x), 0, none⟩)), (53, .int .u8 7), (66, .bool false), (184, .pointer (some ⟨(Z.tp x), 6, none⟩))]) rfl
      clear h81
      refine dr_batch tabOk2 tabZ_ok2 (by repeat (first | with_reducible exact PF.body | with_reducible apply PF.inB | with_reducible apply PF.next)) [(9, {}), (10, {}), (11, {}), (12, {}), (13, {})] [6, 3, 0, 1, 4, 5, 7, 53, 66, 14, 15] (T' := [(6, .pointer (some ⟨b14, 0, none⟩)), (3, .pointer (some ⟨b2, 0, none⟩)), (0, .pointer (some ⟨mb, 0, none⟩)), (1, .agg #[.int .u8 7, .int .u32 ev.pick, .int .u64 ev.draw, .int .u32 ev.addr, .int .u32 ev.node, .int .u32 ev.dst, .int .u32 ev.xfer, .int .u8 ev.ty, .int .u64 ev.arg, .int .u64 ev.badge, .slice xo ev.ws.length cx]), (4, .int .u8 0), (5, .bool false), (7, .pointer (some ⟨(Z.tp x), 0, none⟩)), (53, .int .u8 7), (66, .bool false), (14, .pointer (some ⟨(Z.tp y), 0, none⟩)), (15, .bool true)]) (φ := True) (fuel := 0) h82 (by kernel_rfl) rfl (by kernel_rfl) (by kernel_rfl) ⟨trivial, trivial, trivial, trivial, trivial, trivial⟩ trivial fun a83 h84 => ?_
      clear h82
      refine wpAnyK_done (by kernel_rfl) ?_ _
      refine hK72 _ _ ?_
      clear hK72
      refine wp_seq_k fun K85 hK85 => ?_
      refine wp_seq_k fun K86 hK86 => ?_
      rcases Bool.eq_false_or_eq_true (((a.th y).st != 6)) with hb87 | hb87
      ·
        have hb87f : (a.th y).st ≠ 6 := by simpa using hb87
        refine dr_start (KB := [3, b2, b14, (Z.tp y)]) (Bi := [[0, 1, 2, 3], [0, 1, 2, 3], [0, 1, 2, 3], [0, 1, 2, 3], [0, 1, 2, 3], [0, 1, 2, 3], [0, 1, 2, 3], [0, 1, 2, 3], [0, 1, 2, 3], [0, 1, 2, 3], [0, 1, 2, 3], [0, 1, 2, 3], [0, 1, 2, 3], [0, 1, 2, 3], [0, 1, 2, 3], [0, 1, 2, 3], [0, 1, 2, 3]]) mixed h84 fun w88 h89 => ?_
        clear h84
        refine dr_batch tabOk2 tabZ_ok2 (by repeat (first | with_reducible exact PF.body | with_reducible apply PF.inB | with_reducible apply PF.next)) [(0, {}), (1, {}), (2, {}), (3, {}), (4, {}), (5, {})] [6, 3, 0, 1, 4, 5, 7, 53, 66, 14, 15, 191, 194] (T' := [(6, .pointer (some ⟨b14, 0, none⟩)), (3, .pointer (some ⟨b2, 0, none⟩)), (0, .pointer (some ⟨mb, 0, none⟩)), (1, .agg #[.int .u8 7, .int .u32 ev.pick, .int .u64 ev.draw, .int .u32 ev.addr, .int .u32 ev.node, .int .u32 ev.dst, .int .u32 ev.xfer, .int .u8 ev.ty, .int .u64 ev.arg, .int .u64 ev.badge, .slice xo ev.ws.length cx]), (4, .int .u8 0), (5, .bool false), (7, .pointer (some ⟨(Z.tp x), 0, none⟩)), (53, .int .u8 7), (66, .bool false), (14, .pointer (some ⟨(Z.tp y), 0, none⟩)), (15, .bool true), (191, .bool false), (194, .pointer (some ⟨(Z.tp y), 0, none⟩))]) (φ := True) (fuel := 11) h89 (by kernel_rfl) rfl (by kernel_rfl) (by kernel_rfl) ⟨trivial, trivial, trivial, trivial, trivial, trivial, trivial⟩ trivial fun a91 h92 => ?_
        clear h89
        refine dr_read (i := 6) (b := (Z.tp y)) (p := 3) (v := .int .u8 ((a.th y).st)) (fuel := 10) (by repeat (first | with_reducible exact PF.body | with_reducible apply PF.inB | with_reducible apply PF.next)) h92 rfl rfl rfl (by kernel_rfl) (by kernel_rfl) (by kernel_rfl) rfl (rd_th h92 (x := y) (k := 0) (v := .int .u8 ((a.th y).st)) hy rfl rfl rfl rfl ⟨rfl, trivial⟩) ?_
        have h93 := h92.put (d := some 195) (v := .int .u8 ((a.th y).st)) (T' := [(195, .int .u8 ((a.th y).st)), (6, .pointer (some ⟨b14, 0, none⟩)), (3, .pointer (some ⟨b2, 0, none⟩)), (0, .pointer (some ⟨mb, 0, none⟩)), (1, .agg #[.int .u8 7, .int .u32 ev.pick, .int .u64 ev.draw, .int .u32 ev.addr, .int .u32 ev.node, .int .u32 ev.dst, .int .u32 ev.xfer, .int .u8 ev.ty, .int .u64 ev.arg, .int .u64 ev.badge, .slice xo ev.ws.length cx]), (4, .int .u8 0), (5, .bool false), (7, .pointer (some ⟨(Z.tp x), 0, none⟩)), (53, .int .u8 7), (66, .bool false), (14, .pointer (some ⟨(Z.tp y), 0, none⟩)), (15, .bool true), (191, .bool false), (194, .pointer (some ⟨(Z.tp y), 0, none⟩))]) rfl
        clear h92
        refine dr_batch tabOk2 tabZ_ok2 (by repeat (first | with_reducible exact PF.body | with_reducible apply PF.inB | with_reducible apply PF.next)) [(7, {f := 2}), (8, {}), (9, {}), (10, {}), (11, {}), (12, {}), (13, {k := 0, p := 0}), (14, {k := 0, p := 0}), (15, {}), (16, {})] [6, 3, 0, 1, 4, 5, 7, 53, 66, 14, 15, 205] (T' := [(6, .pointer (some ⟨b14, 0, none⟩)), (3, .pointer (some ⟨b2, 0, none⟩)), (0, .pointer (some ⟨mb, 0, none⟩)), (1, .agg #[.int .u8 7, .int .u32 ev.pick, .int .u64 ev.draw, .int .u32 ev.addr, .int .u32 ev.node, .int .u32 ev.dst, .int .u32 ev.xfer, .int .u8 ev.ty, .int .u64 ev.arg, .int .u64 ev.badge, .slice xo ev.ws.length cx]), (4, .int .u8 0), (5, .bool false), (7, .pointer (some ⟨(Z.tp x), 0, none⟩)), (53, .int .u8 7), (66, .bool false), (14, .pointer (some ⟨(Z.tp y), 0, none⟩)), (15, .bool true), (205, .bool true)]) (φ := (((a.th y).st != 6)) = true ∧ True) (fuel := 0) h93 (by kernel_rfl) rfl (by kernel_rfl) (by kernel_rfl) ⟨trivial, trivial, trivial, trivial, trivial, trivial, rfl, rfl, trivial, trivial, trivial⟩ ⟨hb87, trivial⟩ fun a94 h95 => ?_
        clear h93
        refine wpAnyK_done (by kernel_rfl) ?_ _
        refine hK86 _ _ ?_
        clear hK86
        refine c_true h95 rfl ?_
        refine wp_seq_k fun K96 hK96 => ?_
        refine nd_start (l := [0, 1]) rfl ?_
        refine nd_batch tabOk2 tabZ_ok2 [(0, {}), (1, {})] [6, 3, 0, 1, 7, 53, 66, 14, 15, 4, 5] (T' := [(6, .pointer (some ⟨b14, 0, none⟩)), (3, .pointer (some ⟨b2, 0, none⟩)), (0, .pointer (some ⟨mb, 0, none⟩)), (1, .agg #[.int .u8 7, .int .u32 ev.pick, .int .u64 ev.draw, .int .u32 ev.addr, .int .u32 ev.node, .int .u32 ev.dst, .int .u32 ev.xfer, .int .u8 ev.ty, .int .u64 ev.arg, .int .u64 ev.badge, .slice xo ev.ws.length cx]), (7, .pointer (some ⟨(Z.tp x), 0, none⟩)), (53, .int .u8 7), (66, .bool false), (14, .pointer (some ⟨(Z.tp y), 0, none⟩)), (15, .bool true), (4, .int .u8 13), (5, .bool false)]) (φ := True) (rest := []) h95 (by kernel_rfl) rfl trivial fun a97 h98 => ?_
        clear h95
        refine nd_done ?_
        refine hK96 _ _ ?_
        clear hK96
        refine wp_ret ?_
        try simp only [Exit.then, Exit.inBlock]
        try rw [if_pos trivial]
        exact s_ret tabOk2 tabZ_ok2 h98 [(.tmp 4, {}), (.tmp 5, {})] (vs := [.int .u8 13, .bool false]) (φ := True) rfl (by kernel_rfl) trivial (by exact ⟨rfl, _, mg_end hH h98 hho rfl⟩)
      ·
        have hb87f : (a.th y).st = 6 := by simpa using hb87
        first | exact absurd hs6 hb87f | exact absurd hb87f hs6

theorem call7v (mb : Nat) (Z : MZ) (R : MR) (a : AK) (C : CP) (hI : MI Z a C) (x : Nat) (hx : x ∈ sl Z.tl) (hcu : a.cur = (x : Int)) (ev : Ev) (he : EvOk ev) (xo : Option Addr) (cx : Nat) (hwl : ¬ (ev.ws.length : Int) > 4) (y : Nat) (hy : y ∈ sl Z.tl) (hrep : (a.th x).rep = Z.ky y) (hs6 : (a.th y).st = 6) (hwt : (a.th y).wait ≠ Z.ky x) (w : World) (hH : MH mb Z R a C w) (hws : WordsAt (mdF mb Z R C) w xo ev.ws) :
    Calls Tryd.prog 55 #[.pointer (some ⟨mb, 0, none⟩), .agg #[.int .u8 7, .int .u32 ev.pick, .int .u64 ev.draw, .int .u32 ev.addr, .int .u32 ev.node, .int .u32 ev.dst, .int .u32 ev.xfer, .int .u8 ev.ty, .int .u64 ev.arg, .int .u64 ev.badge, .slice xo ev.ws.length cx]] w fun e w' => e = .returned (.tuple #[.int .u8 13, .bool false]) ∧ ∃ R', MG mb Z R C w Z R' a C w' := by
  have hP := hI.mp
  have hcx : curR Z a = Z.ky x := curR_of hcu
  have hcn : a.cur.toNat = x := by rw [hcu]; exact Int.toNat_natCast x
  have hci := (hI.tk x hx).ci
  obtain ⟨ty3, hg3⟩ := hH.g3
  have hho := hH.ho
  have hkk := hH.md.k
  refine enter (n := 628) (K := mdF mb Z R C) (A := MD (mdF mb Z R C) w.heap.size mb Z R a C) (F := mdF mb Z R C) (T := [(0, .pointer (some ⟨mb, 0, none⟩)), (1, .agg #[.int .u8 7, .int .u32 ev.pick, .int .u64 ev.draw, .int .u32 ev.addr, .int .u32 ev.node, .int .u32 ev.dst, .int .u32 ev.xfer, .int .u8 ev.ty, .int .u64 ev.arg, .int .u64 ev.badge, .slice xo ev.ws.length cx])]) (L := [(3, ⟨[.int .u16 0, .int .u32 0], ty3, true⟩)]) (args := [.pointer (some ⟨mb, 0, none⟩), .agg #[.int .u8 7, .int .u32 ev.pick, .int .u64 ev.draw, .int .u32 ev.addr, .int .u32 ev.node, .int .u32 ev.dst, .int .u32 ev.xfer, .int .u8 ev.ty, .int .u64 ev.arg, .int .u64 ev.badge, .slice xo ev.ws.length cx]]) Tryd.func55 rfl rfl rfl rfl (kcons hg3 knil) (by simp) (kcons (by intro hq; cases hq) knil) hH.mD MD.stable hH.md.low (kcons (by intro hq; cases hq) knil) ?_
  intro ac h
  refine wp_seq_k fun K1 hK1 => ?_
  refine nd_start (l := [0, 1, 2]) rfl ?_
  refine nd_op ?_
  refine op_new tabOk2 (cells := [.int .u8 7, .int .u32 ev.pick, .int .u64 ev.draw, .int .u32 ev.addr, .int .u32 ev.node, .int .u32 ev.dst, .int .u32 ev.xfer, .int .u8 ev.ty, .int .u64 ev.arg, .int .u64 ev.badge, .slice xo ev.ws.length cx]) (ty := 35) (ln := none) (L1 := fun b2 => [(3, ⟨[.int .u16 0, .int .u32 0], ty3, true⟩), (b2, ⟨[.int .u8 7, .int .u32 ev.pick, .int .u64 ev.draw, .int .u32 ev.addr, .int .u32 ev.node, .int .u32 ev.dst, .int .u32 ev.xfer, .int .u8 ev.ty, .int .u64 ev.arg, .int .u64 ev.badge, .slice xo ev.ws.length cx], 35, false⟩)]) h rfl rfl rfl rfl (by kernel_rfl) (fun _ => rfl) fun b2 w3 a4 h5 hf6 hn7 => ?_
  clear h
  refine nd_batch tabOk2 tabZ_ok2 [(1, {}), (2, {})] [3, 0, 1, 4, 5] (T' := [(3, .pointer (some ⟨b2, 0, none⟩)), (0, .pointer (some ⟨mb, 0, none⟩)), (1, .agg #[.int .u8 7, .int .u32 ev.pick, .int .u64 ev.draw, .int .u32 ev.addr, .int .u32 ev.node, .int .u32 ev.dst, .int .u32 ev.xfer, .int .u8 ev.ty, .int .u64 ev.arg, .int .u64 ev.badge, .slice xo ev.ws.length cx]), (4, .int .u8 0), (5, .bool false)]) (φ := True) (rest := []) h5 (by kernel_rfl) rfl trivial fun a8 h9 => ?_
  clear h5
  refine nd_done ?_
  refine hK1 _ _ ?_
  clear hK1
  refine wp_seq_k fun K10 hK10 => ?_
  refine nd_start (l := [0, 1, 2, 3, 4, 5]) rfl ?_
  refine nd_batch tabOk2 tabZ_ok2 [(0, {}), (1, {}), (2, {})] [3, 0, 1, 4, 5, 44] (T' := [(3, .pointer (some ⟨b2, 0, none⟩)), (0, .pointer (some ⟨mb, 0, none⟩)), (1, .agg #[.int .u8 7, .int .u32 ev.pick, .int .u64 ev.draw, .int .u32 ev.addr, .int .u32 ev.node, .int .u32 ev.dst, .int .u32 ev.xfer, .int .u8 ev.ty, .int .u64 ev.arg, .int .u64 ev.badge, .slice xo ev.ws.length cx]), (4, .int .u8 0), (5, .bool false), (44, .pointer (some ⟨mb, 13, none⟩))]) (φ := True) (rest := [3, 4, 5]) h9 (by kernel_rfl) rfl trivial fun a11 h12 => ?_
  clear h9
  refine nd_op ?_
  refine op_read (b := mb) (v := .agg #[.int .u16 ((Z.ky x).idx), .int .u32 ((Z.ky x).gen)]) h12 rfl rfl (rd_mA h12 (k := 13) (vs := [.int .u16 ((Z.ky x).idx), .int .u32 ((Z.ky x).gen)]) rfl rfl rfl rfl rfl (by rw [← hcx]; exact md_cur)) ?_
  have h13 := h12.put (d := some 45) (v := .agg #[.int .u16 ((Z.ky x).idx), .int .u32 ((Z.ky x).gen)]) (T' := [(45, .agg #[.int .u16 ((Z.ky x).idx), .int .u32 ((Z.ky x).gen)]), (3, .pointer (some ⟨b2, 0, none⟩)), (0, .pointer (some ⟨mb, 0, none⟩)), (1, .agg #[.int .u8 7, .int .u32 ev.pick, .int .u64 ev.draw, .int .u32 ev.addr, .int .u32 ev.node, .int .u32 ev.dst, .int .u32 ev.xfer, .int .u8 ev.ty, .int .u64 ev.arg, .int .u64 ev.badge, .slice xo ev.ws.length cx]), (4, .int .u8 0), (5, .bool false), (44, .pointer (some ⟨mb, 13, none⟩))]) rfl
  clear h12
  refine nd_op ?_
  refine op_new tabOk2 (cells := [.int .u16 0, .int .u32 0]) (ty := 39) (ln := none) (L1 := fun b14 => [(3, ⟨[.int .u16 0, .int .u32 0], ty3, true⟩), (b2, ⟨[.int .u8 7, .int .u32 ev.pick, .int .u64 ev.draw, .int .u32 ev.addr, .int .u32 ev.node, .int .u32 ev.dst, .int .u32 ev.xfer, .int .u8 ev.ty, .int .u64 ev.arg, .int .u64 ev.badge, .slice xo ev.ws.length cx], 35, false⟩), (b14, ⟨[.int .u16 0, .int .u32 0], 39, false⟩)]) h13 rfl rfl rfl rfl (by kernel_rfl) (fun _ => rfl) fun b14 w15 a16 h17 hf18 hn19 => ?_
  clear h13
  refine nd_op ?_
  refine op_store tabOk2 {k := 2} (L' := [(3, ⟨[.int .u16 0, .int .u32 0], ty3, true⟩), (b2, ⟨[.int .u8 7, .int .u32 ev.pick, .int .u64 ev.draw, .int .u32 ev.addr, .int .u32 ev.node, .int .u32 ev.dst, .int .u32 ev.xfer, .int .u8 ev.ty, .int .u64 ev.arg, .int .u64 ev.badge, .slice xo ev.ws.length cx], 35, false⟩), (b14, ⟨[.int .u16 ((Z.ky x).idx), .int .u32 ((Z.ky x).gen)], 39, false⟩)]) (φ := b14 = b14 ∧ Nat.ble (0 + 2) 2 = true) h17 rfl rfl rfl (by kernel_rfl) ⟨rfl, rfl⟩ fun w20 h21 => ?_
  clear h17
  refine nd_done ?_
  refine hK10 _ _ ?_
  clear hK10
  refine wp_seq_k fun K22 hK22 => ?_
  refine dr_start (KB := [3, b2, b14, mb, Z.tb]) (Bi := [[0, 1, 2, 3, 4], [0, 1, 2, 3, 4], [0, 1, 2, 3, 4], [0, 1, 2, 3, 4], [0, 1, 2, 3, 4], [0, 1, 2, 3, 4], [0, 1, 2, 3, 4]]) mixed h21 fun w23 h24 => ?_
  clear h21
  refine dr_batch tabOk2 tabZ_ok2 (by repeat (first | with_reducible exact PF.body | with_reducible apply PF.inB | with_reducible apply PF.next)) [(0, {}), (1, {}), (2, {})] [6, 3, 0, 1, 4, 5, 48] (T' := [(6, .pointer (some ⟨b14, 0, none⟩)), (3, .pointer (some ⟨b2, 0, none⟩)), (0, .pointer (some ⟨mb, 0, none⟩)), (1, .agg #[.int .u8 7, .int .u32 ev.pick, .int .u64 ev.draw, .int .u32 ev.addr, .int .u32 ev.node, .int .u32 ev.dst, .int .u32 ev.xfer, .int .u8 ev.ty, .int .u64 ev.arg, .int .u64 ev.badge, .slice xo ev.ws.length cx]), (4, .int .u8 0), (5, .bool false), (48, .pointer (some ⟨mb, 2, none⟩))]) (φ := True) (fuel := 4) h24 (by kernel_rfl) rfl (by kernel_rfl) (by kernel_rfl) ⟨trivial, trivial, trivial, trivial⟩ trivial fun a26 h27 => ?_
  clear h24
  refine dr_read (i := 3) (b := mb) (p := 3) (v := .map (some Z.tb)) (fuel := 3) (by repeat (first | with_reducible exact PF.body | with_reducible apply PF.inB | with_reducible apply PF.next)) h27 rfl rfl rfl (by kernel_rfl) (by kernel_rfl) (by kernel_rfl) rfl (rd_m h27 (k := 2) (v := .map (some Z.tb)) rfl rfl rfl rfl (md_p ⟨rfl, trivial⟩)) ?_
  have h28 := h27.put (d := some 49) (v := .map (some Z.tb)) (T' := [(49, .map (some Z.tb)), (6, .pointer (some ⟨b14, 0, none⟩)), (3, .pointer (some ⟨b2, 0, none⟩)), (0, .pointer (some ⟨mb, 0, none⟩)), (1, .agg #[.int .u8 7, .int .u32 ev.pick, .int .u64 ev.draw, .int .u32 ev.addr, .int .u32 ev.node, .int .u32 ev.dst, .int .u32 ev.xfer, .int .u8 ev.ty, .int .u64 ev.arg, .int .u64 ev.badge, .slice xo ev.ws.length cx]), (4, .int .u8 0), (5, .bool false), (48, .pointer (some ⟨mb, 2, none⟩))]) rfl
  clear h27
  refine dr_batch tabOk2 tabZ_ok2 (by repeat (first | with_reducible exact PF.body | with_reducible apply PF.inB | with_reducible apply PF.next)) [(4, {k := 2, p := 2})] [49, 6, 3, 0, 1, 4, 5, 50] (T' := [(49, .map (some Z.tb)), (6, .pointer (some ⟨b14, 0, none⟩)), (3, .pointer (some ⟨b2, 0, none⟩)), (0, .pointer (some ⟨mb, 0, none⟩)), (1, .agg #[.int .u8 7, .int .u32 ev.pick, .int .u64 ev.draw, .int .u32 ev.addr, .int .u32 ev.node, .int .u32 ev.dst, .int .u32 ev.xfer, .int .u8 ev.ty, .int .u64 ev.arg, .int .u64 ev.badge, .slice xo ev.ws.length cx]), (4, .int .u8 0), (5, .bool false), (50, .agg #[.int .u16 ((Z.ky x).idx), .int .u32 ((Z.ky x).gen)])]) (φ := (b14 = b14 ∧ Nat.ble (0 + 2) 2 = true) ∧ True) (fuel := 2) h28 (by kernel_rfl) rfl (by kernel_rfl) (by kernel_rfl) ⟨rfl, trivial⟩ ⟨⟨rfl, rfl⟩, trivial⟩ fun a29 h30 => ?_
  clear h28
  refine dr_read (i := 5) (b := Z.tb) (p := 4) (v := .pointer (some ⟨(Z.tp x), 0, none⟩)) (fuel := 1) (by repeat (first | with_reducible exact PF.body | with_reducible apply PF.inB | with_reducible apply PF.next)) h30 rfl rfl rfl (by kernel_rfl) (by kernel_rfl) (by kernel_rfl) rfl (rd_T h30 (x := x) hx rfl rfl rfl) ?_
  have h31 := h30.put (d := some 51) (v := .pointer (some ⟨(Z.tp x), 0, none⟩)) (T' := [(51, .pointer (some ⟨(Z.tp x), 0, none⟩)), (49, .map (some Z.tb)), (6, .pointer (some ⟨b14, 0, none⟩)), (3, .pointer (some ⟨b2, 0, none⟩)), (0, .pointer (some ⟨mb, 0, none⟩)), (1, .agg #[.int .u8 7, .int .u32 ev.pick, .int .u64 ev.draw, .int .u32 ev.addr, .int .u32 ev.node, .int .u32 ev.dst, .int .u32 ev.xfer, .int .u8 ev.ty, .int .u64 ev.arg, .int .u64 ev.badge, .slice xo ev.ws.length cx]), (4, .int .u8 0), (5, .bool false), (50, .agg #[.int .u16 ((Z.ky x).idx), .int .u32 ((Z.ky x).gen)])]) rfl
  clear h30
  refine dr_batch tabOk2 tabZ_ok2 (by repeat (first | with_reducible exact PF.body | with_reducible apply PF.inB | with_reducible apply PF.next)) [(6, {})] [6, 3, 0, 1, 4, 5, 7] (T' := [(6, .pointer (some ⟨b14, 0, none⟩)), (3, .pointer (some ⟨b2, 0, none⟩)), (0, .pointer (some ⟨mb, 0, none⟩)), (1, .agg #[.int .u8 7, .int .u32 ev.pick, .int .u64 ev.draw, .int .u32 ev.addr, .int .u32 ev.node, .int .u32 ev.dst, .int .u32 ev.xfer, .int .u8 ev.ty, .int .u64 ev.arg, .int .u64 ev.badge, .slice xo ev.ws.length cx]), (4, .int .u8 0), (5, .bool false), (7, .pointer (some ⟨(Z.tp x), 0, none⟩))]) (φ := True) (fuel := 0) h31 (by kernel_rfl) rfl (by kernel_rfl) (by kernel_rfl) ⟨trivial, trivial⟩ trivial fun a32 h33 => ?_
  clear h31
  refine wpAnyK_done (by kernel_rfl) ?_ _
  refine hK22 _ _ ?_
  clear hK22
  refine wp_seq_k fun K34 hK34 => ?_
  refine wp_seq_k fun K35 hK35 => ?_
  refine nd_start (l := [0, 1]) rfl ?_
  refine nd_batch tabOk2 tabZ_ok2 [(0, {}), (1, {k := 1})] [6, 3, 0, 1, 4, 5, 7, 53] (T' := [(6, .pointer (some ⟨b14, 0, none⟩)), (3, .pointer (some ⟨b2, 0, none⟩)), (0, .pointer (some ⟨mb, 0, none⟩)), (1, .agg #[.int .u8 7, .int .u32 ev.pick, .int .u64 ev.draw, .int .u32 ev.addr, .int .u32 ev.node, .int .u32 ev.dst, .int .u32 ev.xfer, .int .u8 ev.ty, .int .u64 ev.arg, .int .u64 ev.badge, .slice xo ev.ws.length cx]), (4, .int .u8 0), (5, .bool false), (7, .pointer (some ⟨(Z.tp x), 0, none⟩)), (53, .int .u8 7)]) (φ := (b2 = b2 ∧ Nat.ble (0 + 1) 11 = true) ∧ True) (rest := []) h33 (by kernel_rfl) rfl ⟨⟨rfl, rfl⟩, trivial⟩ fun a36 h37 => ?_
  clear h33
  refine nd_done ?_
  refine hK35 _ _ ?_
  clear hK35
  refine wp_block ?_
  refine wp_seq_k fun K38 hK38 => ?_
  refine nd_start (l := [0, 1]) rfl ?_
  refine nd_batch tabOk2 tabZ_ok2 [(0, {}), (1, {})] [6, 3, 0, 1, 4, 5, 7, 53, 54] (T' := [(6, .pointer (some ⟨b14, 0, none⟩)), (3, .pointer (some ⟨b2, 0, none⟩)), (0, .pointer (some ⟨mb, 0, none⟩)), (1, .agg #[.int .u8 7, .int .u32 ev.pick, .int .u64 ev.draw, .int .u32 ev.addr, .int .u32 ev.node, .int .u32 ev.dst, .int .u32 ev.xfer, .int .u8 ev.ty, .int .u64 ev.arg, .int .u64 ev.badge, .slice xo ev.ws.length cx]), (4, .int .u8 0), (5, .bool false), (7, .pointer (some ⟨(Z.tp x), 0, none⟩)), (53, .int .u8 7), (54, .bool false)]) (φ := True) (rest := []) h37 (by kernel_rfl) rfl trivial fun a39 h40 => ?_
  clear h37
  refine nd_done ?_
  refine hK38 _ _ ?_
  clear hK38
  refine c_false h40 rfl ?_
  refine wp_seq_k fun K41 hK41 => ?_
  refine nd_start (l := [0, 1]) rfl ?_
  refine nd_batch tabOk2 tabZ_ok2 [(0, {}), (1, {})] [6, 3, 0, 1, 4, 5, 7, 53, 59] (T' := [(6, .pointer (some ⟨b14, 0, none⟩)), (3, .pointer (some ⟨b2, 0, none⟩)), (0, .pointer (some ⟨mb, 0, none⟩)), (1, .agg #[.int .u8 7, .int .u32 ev.pick, .int .u64 ev.draw, .int .u32 ev.addr, .int .u32 ev.node, .int .u32 ev.dst, .int .u32 ev.xfer, .int .u8 ev.ty, .int .u64 ev.arg, .int .u64 ev.badge, .slice xo ev.ws.length cx]), (4, .int .u8 0), (5, .bool false), (7, .pointer (some ⟨(Z.tp x), 0, none⟩)), (53, .int .u8 7), (59, .bool false)]) (φ := True) (rest := []) h40 (by kernel_rfl) rfl trivial fun a42 h43 => ?_
  clear h40
  refine nd_done ?_
  refine hK41 _ _ ?_
  clear hK41
  refine c_false h43 rfl ?_
  refine wp_seq_k fun K44 hK44 => ?_
  refine wp_seq_k fun K45 hK45 => ?_
  refine nd_start (l := [0, 1]) rfl ?_
  refine nd_batch tabOk2 tabZ_ok2 [(0, {}), (1, {})] [6, 3, 0, 1, 4, 5, 7, 53, 66] (T' := [(6, .pointer (some ⟨b14, 0, none⟩)), (3, .pointer (some ⟨b2, 0, none⟩)), (0, .pointer (some ⟨mb, 0, none⟩)), (1, .agg #[.int .u8 7, .int .u32 ev.pick, .int .u64 ev.draw, .int .u32 ev.addr, .int .u32 ev.node, .int .u32 ev.dst, .int .u32 ev.xfer, .int .u8 ev.ty, .int .u64 ev.arg, .int .u64 ev.badge, .slice xo ev.ws.length cx]), (4, .int .u8 0), (5, .bool false), (7, .pointer (some ⟨(Z.tp x), 0, none⟩)), (53, .int .u8 7), (66, .bool false)]) (φ := True) (rest := []) h43 (by kernel_rfl) rfl trivial fun a46 h47 => ?_
  clear h43
  refine nd_done ?_
  refine hK45 _ _ ?_
  clear hK45
  refine c_false h47 rfl ?_
  refine nd_start (l := [0, 1]) rfl ?_
  refine nd_batch tabOk2 tabZ_ok2 [(0, {}), (1, {})] [6, 3, 0, 1, 4, 5, 7, 53, 66] (T' := [(6, .pointer (some ⟨b14, 0, none⟩)), (3, .pointer (some ⟨b2, 0, none⟩)), (0, .pointer (some ⟨mb, 0, none⟩)), (1, .agg #[.int .u8 7, .int .u32 ev.pick, .int .u64 ev.draw, .int .u32 ev.addr, .int .u32 ev.node, .int .u32 ev.dst, .int .u32 ev.xfer, .int .u8 ev.ty, .int .u64 ev.arg, .int .u64 ev.badge, .slice xo ev.ws.length cx]), (4, .int .u8 0), (5, .bool false), (7, .pointer (some ⟨(Z.tp x), 0, none⟩)), (53, .int .u8 7), (66, .bool false)]) (φ := True) (rest := []) h47 (by kernel_rfl) rfl trivial fun a48 h49 => ?_
  clear h47
  refine nd_done ?_
  refine hK44 _ _ ?_
  clear hK44
  refine c_false h49 rfl ?_
  refine wp_seq_k fun K50 hK50 => ?_
  refine nd_start (l := [0, 1]) rfl ?_
  refine nd_batch tabOk2 tabZ_ok2 [(0, {}), (1, {})] [6, 3, 0, 1, 4, 5, 7, 53, 66, 129] (T' := [(6, .pointer (some ⟨b14, 0, none⟩)), (3, .pointer (some ⟨b2, 0, none⟩)), (0, .pointer (some ⟨mb, 0, none⟩)), (1, .agg #[.int .u8 7, .int .u32 ev.pick, .int .u64 ev.draw, .int .u32 ev.addr, .int .u32 ev.node, .int .u32 ev.dst, .int .u32 ev.xfer, .int .u8 ev.ty, .int .u64 ev.arg, .int .u64 ev.badge, .slice xo ev.ws.length cx]), (4, .int .u8 0), (5, .bool false), (7, .pointer (some ⟨(Z.tp x), 0, none⟩)), (53, .int .u8 7), (66, .bool false), (129, .bool false)]) (φ := True) (rest := []) h49 (by kernel_rfl) rfl trivial fun a51 h52 => ?_
  clear h49
  refine nd_done ?_
  refine hK50 _ _ ?_
  clear hK50
  refine c_false h52 rfl ?_
  refine wp_seq_k fun K53 hK53 => ?_
  refine nd_start (l := [0, 1]) rfl ?_
  refine nd_batch tabOk2 tabZ_ok2 [(0, {}), (1, {})] [6, 3, 0, 1, 4, 5, 7, 53, 66, 165] (T' := [(6, .pointer (some ⟨b14, 0, none⟩)), (3, .pointer (some ⟨b2, 0, none⟩)), (0, .pointer (some ⟨mb, 0, none⟩)), (1, .agg #[.int .u8 7, .int .u32 ev.pick, .int .u64 ev.draw, .int .u32 ev.addr, .int .u32 ev.node, .int .u32 ev.dst, .int .u32 ev.xfer, .int .u8 ev.ty, .int .u64 ev.arg, .int .u64 ev.badge, .slice xo ev.ws.length cx]), (4, .int .u8 0), (5, .bool false), (7, .pointer (some ⟨(Z.tp x), 0, none⟩)), (53, .int .u8 7), (66, .bool false), (165, .bool true)]) (φ := True) (rest := []) h52 (by kernel_rfl) rfl trivial fun a54 h55 => ?_
  clear h52
  refine nd_done ?_
  refine hK53 _ _ ?_
  clear hK53
  refine c_true h55 rfl ?_
  refine wp_seq_k fun K56 hK56 => ?_
  refine wp_seq_k fun K57 hK57 => ?_
  refine dr_start (KB := [3, b2, b14, (Z.tp x)]) (Bi := [[0, 1, 2, 3], [0, 1, 2, 3], [0, 1, 2, 3], [0, 1, 2, 3], [0, 1, 2, 3], [0, 1, 2, 3]]) mixed h55 fun w58 h59 => ?_
  clear h55
  refine dr_batch tabOk2 tabZ_ok2 (by repeat (first | with_reducible exact PF.body | with_reducible apply PF.inB | with_reducible apply PF.next)) [(0, {}), (1, {}), (2, {})] [6, 3, 0, 1, 4, 5, 7, 53, 66, 169] (T' := [(6, .pointer (some ⟨b14, 0, none⟩)), (3, .pointer (some ⟨b2, 0, none⟩)), (0, .pointer (some ⟨mb, 0, none⟩)), (1, .agg #[.int .u8 7, .int .u32 ev.pick, .int .u64 ev.draw, .int .u32 ev.addr, .int .u32 ev.node, .int .u32 ev.dst, .int .u32 ev.xfer, .int .u8 ev.ty, .int .u64 ev.arg, .int .u64 ev.badge, .slice xo ev.ws.length cx]), (4, .int .u8 0), (5, .bool false), (7, .pointer (some ⟨(Z.tp x), 0, none⟩)), (53, .int .u8 7), (66, .bool false), (169, .pointer (some ⟨(Z.tp x), 6, none⟩))]) (φ := True) (fuel := 3) h59 (by kernel_rfl) rfl (by kernel_rfl) (by kernel_rfl) ⟨trivial, trivial, trivial, trivial⟩ trivial fun a61 h62 => ?_
  clear h59
  refine dr_read (i := 3) (b := (Z.tp x)) (p := 3) (v := .agg #[.int .u16 ((Z.ky y).idx), .int .u32 ((Z.ky y).gen)]) (fuel := 2) (by repeat (first | with_reducible exact PF.body | with_reducible apply PF.inB | with_reducible apply PF.next)) h62 rfl rfl rfl (by kernel_rfl) (by kernel_rfl) (by kernel_rfl) rfl (rd_thA h62 (x := x) (k := 6) (vs := [.int .u16 ((Z.ky y).idx), .int .u32 ((Z.ky y).gen)]) hx rfl rfl rfl rfl rfl (by rw [← hrep]; exact ⟨rfl, rfl, trivial⟩)) ?_
  have h63 := h62.put (d := some 170) (v := .agg #[.int .u16 ((Z.ky y).idx), .int .u32 ((Z.ky y).gen)]) (T' := [(170, .agg #[.int .u16 ((Z.ky y).idx), .int .u32 ((Z.ky y).gen)]), (6, .pointer (some ⟨b14, 0, none⟩)), (3, .pointer (some ⟨b2, 0, none⟩)), (0, .pointer (some ⟨mb, 0, none⟩)), (1, .agg #[.int .u8 7, .int .u32 ev.pick, .int .u64 ev.draw, .int .u32 ev.addr, .int .u32 ev.node, .int .u32 ev.dst, .int .u32 ev.xfer, .int .u8 ev.ty, .int .u64 ev.arg, .int .u64 ev.badge, .slice xo ev.ws.length cx]), (4, .int .u8 0), (5, .bool false), (7, .pointer (some ⟨(Z.tp x), 0, none⟩)), (53, .int .u8 7), (66, .bool false), (169, .pointer (some ⟨(Z.tp x), 6, none⟩))]) rfl
  clear h62
  refine dr_batch tabOk2 tabZ_ok2 (by repeat (first | with_reducible exact PF.body | with_reducible apply PF.inB | with_reducible apply PF.next)) [(4, {k := 0, p := 0}), (5, {vs := [.bool (decide ((Z.ky y) = (⟨0, 0⟩ : Rf)))]})] [6, 3, 0, 1, 4, 5, 7, 53, 66, 172] (T' := [(6, .pointer (some ⟨b14, 0, none⟩)), (3, .pointer (some ⟨b2, 0, none⟩)), (0, .pointer (some ⟨mb, 0, none⟩)), (1, .agg #[.int .u8 7, .int .u32 ev.pick, .int .u64 ev.draw, .int .u32 ev.addr, .int .u32 ev.node, .int .u32 ev.dst, .int .u32 ev.xfer, .int .u8 ev.ty, .int .u64 ev.arg, .int .u64 ev.badge, .slice xo ev.ws.length cx]), (4, .int .u8 0), (5, .bool false), (7, .pointer (some ⟨(Z.tp x), 0, none⟩)), (53, .int .u8 7), (66, .bool false), (172, .bool (Bool.xor false (decide ((Z.ky y) = (⟨0, 0⟩ : Rf)))))]) (φ := (3 = 3 ∧ Nat.ble (0 + 2) 2 = true) ∧ EqRun Tryd.prog 39 (.agg #[.int .u16 ((Z.ky y).idx), .int .u32 ((Z.ky y).gen)]) (.agg #[.int .u16 0, .int .u32 0]) (decide ((Z.ky y) = (⟨0, 0⟩ : Rf))) ∧ True) (fuel := 0) h63 (by kernel_rfl) rfl (by kernel_rfl) (by kernel_rfl) ⟨rfl, trivial, trivial⟩ ⟨⟨rfl, rfl⟩, (runRf (Z.ky y) (⟨0, 0⟩ : Rf)), trivial⟩ fun a64 h65 => ?_
  clear h63
  refine wpAnyK_done (by kernel_rfl) ?_ _
  refine hK57 _ _ ?_
  clear hK57
  refine c_split h65 (b := (Bool.xor false (decide ((Z.ky y) = (⟨0, 0⟩ : Rf))))) rfl (fun hc66 => ?_) (fun hc66 => ?_)
  ·
    have hc66f : (Z.ky y) = (⟨0, 0⟩ : Rf) := by simpa using hc66
    exact absurd hc66f (hkk.ne0 (hkk.tx y hy))
  ·
    have hc66f : ¬ ((Z.ky y) = (⟨0, 0⟩ : Rf)) := by simpa using hc66
    refine wp_skip ?_
    refine hK56 _ _ ?_
    clear hK56
    refine wp_seq_k fun K67 hK67 => ?_
    refine wp_seq_k fun K68 hK68 => ?_
    refine nd_start (l := [0, 1, 2, 3]) rfl ?_
    refine nd_batch tabOk2 tabZ_ok2 [(0, {}), (1, {k := 1}), (2, {}), (3, {})] [6, 3, 0, 1, 4, 5, 7, 53, 66, 176] (T' := [(6, .pointer (some ⟨b14, 0, none⟩)), (3, .pointer (some ⟨b2, 0, none⟩)), (0, .pointer (some ⟨mb, 0, none⟩)), (1, .agg #[.int .u8 7, .int .u32 ev.pick, .int .u64 ev.draw, .int .u32 ev.addr, .int .u32 ev.node, .int .u32 ev.dst, .int .u32 ev.xfer, .int .u8 ev.ty, .int .u64 ev.arg, .int .u64 ev.badge, .slice xo ev.ws.length cx]), (4, .int .u8 0), (5, .bool false), (7, .pointer (some ⟨(Z.tp x), 0, none⟩)), (53, .int .u8 7), (66, .bool false), (176, .bool (decide (((ev.ws.length : Nat) : Int) > 4)))]) (φ := (b2 = b2 ∧ Nat.ble (10 + 1) 11 = true) ∧ True) (rest := []) h65 (by kernel_rfl) rfl ⟨⟨rfl, rfl⟩, trivial⟩ fun a69 h70 => ?_
    clear h65
    refine nd_done ?_
    refine hK68 _ _ ?_
    clear hK68
    refine c_split h70 (b := decide (((ev.ws.length : Nat) : Int) > 4)) rfl (fun hc71 => ?_) (fun hc71 => ?_)
    ·
      have hc71f : ((ev.ws.length : Nat) : Int) > 4 := by simpa using hc71
      exact absurd (hwl) (by first | exact hc71f | (intro hz; exact hc71f hz) | omega | simp_all)
    ·
      have hc71f : ¬ ((ev.ws.length : Nat) : Int) > 4 := by simpa using hc71
      refine wp_skip ?_
      refine hK67 _ _ ?_
      clear hK67
      refine wp_seq_k fun K72 hK72 => ?_
      refine dr_start (KB := [3, b2, b14, mb, (Z.tp x), Z.tb]) (Bi := [[0, 1, 2, 3, 4, 5], [0, 1, 2, 3, 4, 5], [0, 1, 2, 3, 4, 5], [0, 1, 2, 3, 4, 5], [0, 1, 2, 3, 4, 5], [0, 1, 2, 3, 4, 5], [0, 1, 2, 3, 4, 5], [0, 1, 2, 3, 4, 5], [0, 1, 2, 3, 4, 5], [0, 1, 2, 3, 4, 5], [0, 1, 2, 3, 4, 5], [0, 1, 2, 3, 4, 5], [0, 1, 2, 3, 4, 5], [0, 1, 2, 3, 4, 5]]) mixed h70 fun w73 h74 => ?_
      clear h70
      refine dr_batch tabOk2 tabZ_ok2 (by repeat (first | with_reducible exact PF.body | with_reducible apply PF.inB | with_reducible apply PF.next)) [(0, {}), (1, {}), (2, {})] [6, 3, 0, 1, 4, 5, 7, 53, 66, 180] (T' := [(6, .pointer (some ⟨b14, 0, none⟩)), (3, .pointer (some ⟨b2, 0, none⟩)), (0, .pointer (some ⟨mb, 0, none⟩)), (1, .agg #[.int .u8 7, .int .u32 ev.pick, .int .u64 ev.draw, .int .u32 ev.addr, .int .u32 ev.node, .int .u32 ev.dst, .int .u32 ev.xfer, .int .u8 ev.ty, .int .u64 ev.arg, .int .u64 ev.badge, .slice xo ev.ws.length cx]), (4, .int .u8 0), (5, .bool false), (7, .pointer (some ⟨(Z.tp x), 0, none⟩)), (53, .int .u8 7), (66, .bool false), (180, .pointer (some ⟨mb, 2, none⟩))]) (φ := True) (fuel := 11) h74 (by kernel_rfl) rfl (by kernel_rfl) (by kernel_rfl) ⟨trivial, trivial, trivial, trivial⟩ trivial fun a76 h77 => ?_
      clear h74
      refine dr_read (i := 3) (b := mb) (p := 3) (v := .map (some Z.tb)) (fuel := 10) (by repeat (first | with_reducible exact PF.body | with_reducible apply PF.inB | with_reducible apply PF.next)) h77 rfl rfl rfl (by kernel_rfl) (by kernel_rfl) (by kernel_rfl) rfl (rd_m h77 (k := 2) (v := .map (some Z.tb)) rfl rfl rfl rfl (md_p ⟨rfl, trivial⟩)) ?_
      have h78 := h77.put (d := some 181) (v := .map (some Z.tb)) (T' := [(181, .map (some Z.tb)), (6, .pointer (some ⟨b14, 0, none⟩)), (3, .pointer (some ⟨b2, 0, none⟩)), (0, .pointer (some ⟨mb, 0, none⟩)), (1, .agg #[.int .u8 7, .int .u32 ev.pick, .int .u64 ev.draw, .int .u32 ev.addr, .int .u32 ev.node, .int .u32 ev.dst, .int .u32 ev.xfer, .int .u8 ev.ty, .int .u64 ev.arg, .int .u64 ev.badge, .slice xo ev.ws.length cx]), (4, .int .u8 0), (5, .bool false), (7, .pointer (some ⟨(Z.tp x), 0, none⟩)), (53, .int .u8 7), (66, .bool false), (180, .pointer (some ⟨mb, 2, none⟩))]) rfl
      clear h77
      refine dr_batch tabOk2 tabZ_ok2 (by repeat (first | with_reducible exact PF.body | with_reducible apply PF.inB | with_reducible apply PF.next)) [(4, {}), (5, {}), (6, {})] [181, 6, 3, 0, 1, 4, 5, 7, 53, 66, 184] (T' := [(181, .map (some Z.tb)), (6, .pointer (some ⟨b14, 0, none⟩)), (3, .pointer (some ⟨b2, 0, none⟩)), (0, .pointer (some ⟨mb, 0, none⟩)), (1, .agg #[.int .u8 7, .int .u32 ev.pick, .int .u64 ev.draw, .int .u32 ev.addr, .int .u32 ev.node, .int .u32 ev.dst, .int .u32 ev.xfer, .int .u8 ev.ty, .int .u64 ev.arg, .int .u64 ev.badge, .slice xo ev.ws.length cx]), (4, .int .u8 0), (5, .bool false), (7, .pointer (some ⟨(Z.tp x), 0, none⟩)), (53, .int .u8 7), (66, .bool false), (184, .pointer (some ⟨(Z.tp x), 6, none⟩))]) (φ := True) (fuel := 7) h78 (by kernel_rfl) rfl (by kernel_rfl) (by kernel_rfl) ⟨trivial, trivial, trivial, trivial⟩ trivial fun a79 h80 => ?_
      clear h78
      refine dr_read (i := 7) (b := (Z.tp x)) (p := 4) (v := .agg #[.int .u16 ((Z.ky y).idx), .int .u32 ((Z.ky y).gen)]) (fuel := 6) (by repeat (first | with_reducible exact PF.body | with_reducible apply PF.inB | with_reducible apply PF.next)) h80 rfl rfl rfl (by kernel_rfl) (by kernel_rfl) (by kernel_rfl) rfl (rd_thA h80 (x := x) (k := 6) (vs := [.int .u16 ((Z.ky y).idx), .int .u32 ((Z.ky y).gen)]) hx rfl rfl rfl rfl rfl (by rw [← hrep]; exact ⟨rfl, rfl, trivial⟩)) ?_
      have h81 := h80.put (d := some 185) (v := .agg #[.int .u16 ((Z.ky y).idx), .int .u32 ((Z.ky y).gen)]) (T' := [(185, .agg #[.int .u16 ((Z.ky y).idx), .int .u32 ((Z.ky y).gen)]), (181, .map (some Z.tb)), (6, .pointer (some ⟨b14, 0, none⟩)), (3, .pointer (some ⟨b2, 0, none⟩)), (0, .pointer (some ⟨mb, 0, none⟩)), (1, .agg #[.int .u8 7, .int .u32 ev.pick, .int .u64 ev.draw, .int .u32 ev.addr, .int .u32 ev.node, .int .u32 ev.dst, .int .u32 ev.xfer, .int .u8 ev.ty, .int .u64 ev.arg, .int .u64 ev.badge, .slice xo ev.ws.length cx]), (4, .int .u8 0), (5, .bool false), (7, .pointer (some ⟨(Z.tp x), 0, none⟩)), (53, .int .u8 7), (66, .bool false), (184, .pointer (some ⟨(Z.tp x), 6, none⟩))]) rfl
      clear h80
      refine dr_read (i := 8) (b := Z.tb) (p := 5) (v := .tuple #[.pointer (some ⟨(Z.tp y), 0, none⟩), .bool true]) (fuel := 5) (by repeat (first | with_reducible exact PF.body | with_reducible apply PF.inB | with_reducible apply PF.next)) h81 rfl rfl rfl (by kernel_rfl) (by kernel_rfl) (by kernel_rfl) rfl (rd_TB h81 (x := y) hy rfl rfl rfl) ?_
      have h82 := h81.put (d := some 186) (v := .tuple #[.pointer (some ⟨(Z.tp y), 0, none⟩), .bool true]) (T' := [(186, .tuple #[.pointer (some ⟨(Z.tp y), 0, none⟩), .bool true]), (185, .agg #[.int .u16 ((Z.ky y).idx), .int .u32 ((Z.ky y).gen)]), (181, .map (some Z.tb)), (6, .pointer (some ⟨b14, 0, none⟩)), (3, .pointer (some ⟨b2, 0, none⟩)), (0, .pointer (some ⟨mb, 0, none⟩)), (1, .agg #[.int .u8 7, .int .u32 ev.pick, .int .u64 ev.draw, .int .u32 ev.addr, .int .u32 ev.node, .int .u32 ev.dst, .int .u32 ev.xfer, .int .u8 ev.ty, .int .u64 ev.arg, .int .u64 ev.badge, .slice xo ev.ws.length cx]), (4, .int .u8 0), (5, .bool false), (7, .pointer (some ⟨(Z.tp x), 0, none⟩)), (53, .int .u8 7), (66, .bool false), (184, .pointer (some ⟨(Z.tp x), 6, none⟩))]) rfl
      clear h81
      refine dr_batch tabOk2 tabZ_ok2 (by repeat (first | with_reducible exact PF.body | with_reducible apply PF.inB | with_reducible apply PF.next)) [(9, {}), (10, {}), (11, {}), (12, {}), (13, {})] [6, 3, 0, 1, 4, 5, 7, 53, 66, 14, 15] (T' := [(6, .pointer (some ⟨b14, 0, none⟩)), (3, .pointer (some ⟨b2, 0, none⟩)), (0, .pointer (some ⟨mb, 0, none⟩)), (1, .agg #[.int .u8 7, .int .u32 ev.pick, .int .u64 ev.draw, .int .u32 ev.addr, .int .u32 ev.node, .int .u32 ev.dst, .int .u32 ev.xfer, .int .u8 ev.ty, .int .u64 ev.arg, .int .u64 ev.badge, .slice xo ev.ws.length cx]), (4, .int .u8 0), (5, .bool false), (7, .pointer (some ⟨(Z.tp x), 0, none⟩)), (53, .int .u8 7), (66, .bool false), (14, .pointer (some ⟨(Z.tp y), 0, none⟩)), (15, .bool true)]) (φ := True) (fuel := 0) h82 (by kernel_rfl) rfl (by kernel_rfl) (by kernel_rfl) ⟨trivial, trivial, trivial, trivial, trivial, trivial⟩ trivial fun a83 h84 => ?_
      clear h82
      refine wpAnyK_done (by kernel_rfl) ?_ _
      refine hK72 _ _ ?_
      clear hK72
      refine wp_seq_k fun K85 hK85 => ?_
      refine wp_seq_k fun K86 hK86 => ?_
      rcases Bool.eq_false_or_eq_true (((a.th y).st != 6)) with hb87 | hb87
      ·
        have hb87f : (a.th y).st ≠ 6 := by simpa using hb87
        first | exact absurd hs6 hb87f | exact absurd hb87f hs6
      ·
        have hb87f : (a.th y).st = 6 := by simpa using hb87
        refine dr_start (KB := [3, b2, b14, (Z.tp y)]) (Bi := [[0, 1, 2, 3], [0, 1, 2, 3], [0, 1, 2, 3], [0, 1, 2, 3], [0, 1, 2, 3], [0, 1, 2, 3], [0, 1, 2, 3], [0, 1, 2, 3], [0, 1, 2, 3], [0, 1, 2, 3], [0, 1, 2, 3], [0, 1, 2, 3], [0, 1, 2, 3], [0, 1, 2, 3], [0, 1, 2, 3], [0, 1, 2, 3], [0, 1, 2, 3]]) mixed h84 fun w88 h89 => ?_
        clear h84
        refine dr_batch tabOk2 tabZ_ok2 (by repeat (first | with_reducible exact PF.body | with_reducible apply PF.inB | with_reducible apply PF.next)) [(0, {}), (1, {}), (2, {}), (3, {}), (4, {}), (5, {})] [6, 3, 0, 1, 4, 5, 7, 53, 66, 14, 15, 191, 194] (T' := [(6, .pointer (some ⟨b14, 0, none⟩)), (3, .pointer (some ⟨b2, 0, none⟩)), (0, .pointer (some ⟨mb, 0, none⟩)), (1, .agg #[.int .u8 7, .int .u32 ev.pick, .int .u64 ev.draw, .int .u32 ev.addr, .int .u32 ev.node, .int .u32 ev.dst, .int .u32 ev.xfer, .int .u8 ev.ty, .int .u64 ev.arg, .int .u64 ev.badge, .slice xo ev.ws.length cx]), (4, .int .u8 0), (5, .bool false), (7, .pointer (some ⟨(Z.tp x), 0, none⟩)), (53, .int .u8 7), (66, .bool false), (14, .pointer (some ⟨(Z.tp y), 0, none⟩)), (15, .bool true), (191, .bool false), (194, .pointer (some ⟨(Z.tp y), 0, none⟩))]) (φ := True) (fuel := 11) h89 (by kernel_rfl) rfl (by kernel_rfl) (by kernel_rfl) ⟨trivial, trivial, trivial, trivial, trivial, trivial, trivial⟩ trivial fun a91 h92 => ?_
        clear h89
        refine dr_read (i := 6) (b := (Z.tp y)) (p := 3) (v := .int .u8 ((a.th y).st)) (fuel := 10) (by repeat (first | with_reducible exact PF.body | with_reducible apply PF.inB | with_reducible apply PF.next)) h92 rfl rfl rfl (by kernel_rfl) (by kernel_rfl) (by kernel_rfl) rfl (rd_th h92 (x := y) (k := 0) (v := .int .u8 ((a.th y).st)) hy rfl rfl rfl rfl ⟨rfl, trivial⟩) ?_
        have h93 := h92.put (d := some 195) (v := .int .u8 ((a.th y).st)) (T' := [(195, .int .u8 ((a.th y).st)), (6, .pointer (some ⟨b14, 0, none⟩)), (3, .pointer (some ⟨b2, 0, none⟩)), (0, .pointer (some ⟨mb, 0, none⟩)), (1, .agg #[.int .u8 7, .int .u32 ev.pick, .int .u64 ev.draw, .int .u32 ev.addr, .int .u32 ev.node, .int .u32 ev.dst, .int .u32 ev.xfer, .int .u8 ev.ty, .int .u64 ev.arg, .int .u64 ev.badge, .slice xo ev.ws.length cx]), (4, .int .u8 0), (5, .bool false), (7, .pointer (some ⟨(Z.tp x), 0, none⟩)), (53, .int .u8 7), (66, .bool false), (14, .pointer (some ⟨(Z.tp y), 0, none⟩)), (15, .bool true), (191, .bool false), (194, .pointer (some ⟨(Z.tp y), 0, none⟩))]) rfl
        clear h92
        refine dr_batch tabOk2 tabZ_ok2 (by repeat (first | with_reducible exact PF.body | with_reducible apply PF.inB | with_reducible apply PF.next)) [(7, {f := 1}), (8, {}), (9, {}), (10, {}), (11, {}), (12, {})] [6, 3, 0, 1, 4, 5, 7, 53, 66, 14, 15, 198, 201] (T' := [(6, .pointer (some ⟨b14, 0, none⟩)), (3, .pointer (some ⟨b2, 0, none⟩)), (0, .pointer (some ⟨mb, 0, none⟩)), (1, .agg #[.int .u8 7, .int .u32 ev.pick, .int .u64 ev.draw, .int .u32 ev.addr, .int .u32 ev.node, .int .u32 ev.dst, .int .u32 ev.xfer, .int .u8 ev.ty, .int .u64 ev.arg, .int .u64 ev.badge, .slice xo ev.ws.length cx]), (4, .int .u8 0), (5, .bool false), (7, .pointer (some ⟨(Z.tp x), 0, none⟩)), (53, .int .u8 7), (66, .bool false), (14, .pointer (some ⟨(Z.tp y), 0, none⟩)), (15, .bool true), (198, .bool false), (201, .pointer (some ⟨(Z.tp y), 2, none⟩))]) (φ := (((a.th y).st != 6)) = false ∧ True) (fuel := 4) h93 (by kernel_rfl) rfl (by kernel_rfl) (by kernel_rfl) ⟨trivial, trivial, trivial, trivial, trivial, trivial, trivial⟩ ⟨hb87, trivial⟩ fun a94 h95 => ?_
        clear h93
        refine dr_read (i := 13) (b := (Z.tp y)) (p := 3) (v := .agg #[.int .u16 ((a.th y).wait.idx), .int .u32 ((a.th y).wait.gen)]) (fuel := 3) (by repeat (first | with_reducible exact PF.body | with_reducible apply PF.inB | with_reducible apply PF.next)) h95 rfl rfl rfl (by kernel_rfl) (by kernel_rfl) (by kernel_rfl) rfl (rd_thA h95 (x := y) (k := 2) (vs := [.int .u16 ((a.th y).wait.idx), .int .u32 ((a.th y).wait.gen)]) hy rfl rfl rfl rfl rfl ⟨rfl, rfl, trivial⟩) ?_
        have h96 := h95.put (d := some 202) (v := .agg #[.int .u16 ((a.th y).wait.idx), .int .u32 ((a.th y).wait.gen)]) (T' := [(202, .agg #[.int .u16 ((a.th y).wait.idx), .int .u32 ((a.th y).wait.gen)]), (6, .pointer (some ⟨b14, 0, none⟩)), (3, .pointer (some ⟨b2, 0, none⟩)), (0, .pointer (some ⟨mb, 0, none⟩)), (1, .agg #[.int .u8 7, .int .u32 ev.pick, .int .u64 ev.draw, .int .u32 ev.addr, .int .u32 ev.node, .int .u32 ev.dst, .int .u32 ev.xfer, .int .u8 ev.ty, .int .u64 ev.arg, .int .u64 ev.badge, .slice xo ev.ws.length cx]), (4, .int .u8 0), (5, .bool false), (7, .pointer (some ⟨(Z.tp x), 0, none⟩)), (53, .int .u8 7), (66, .bool false), (14, .pointer (some ⟨(Z.tp y), 0, none⟩)), (15, .bool true), (198, .bool false), (201, .pointer (some ⟨(Z.tp y), 2, none⟩))]) rfl
        clear h95
        refine dr_batch tabOk2 tabZ_ok2 (by repeat (first | with_reducible exact PF.body | with_reducible apply PF.inB | with_reducible apply PF.next)) [(14, {k := 2, p := 2}), (15, {vs := [.bool (decide ((a.th y).wait = (Z.ky x)))]}), (16, {})] [6, 3, 0, 1, 4, 5, 7, 53, 66, 14, 15, 205] (T' := [(6, .pointer (some ⟨b14, 0, none⟩)), (3, .pointer (some ⟨b2, 0, none⟩)), (0, .pointer (some ⟨mb, 0, none⟩)), (1, .agg #[.int .u8 7, .int .u32 ev.pick, .int .u64 ev.draw, .int .u32 ev.addr, .int .u32 ev.node, .int .u32 ev.dst, .int .u32 ev.xfer, .int .u8 ev.ty, .int .u64 ev.arg, .int .u64 ev.badge, .slice xo ev.ws.length cx]), (4, .int .u8 0), (5, .bool false), (7, .pointer (some ⟨(Z.tp x), 0, none⟩)), (53, .int .u8 7), (66, .bool false), (14, .pointer (some ⟨(Z.tp y), 0, none⟩)), (15, .bool true), (205, .bool (Bool.xor true (decide ((a.th y).wait = (Z.ky x)))))]) (φ := (b14 = b14 ∧ Nat.ble (0 + 2) 2 = true) ∧ EqRun Tryd.prog 39 (.agg #[.int .u16 ((a.th y).wait.idx), .int .u32 ((a.th y).wait.gen)]) (.agg #[.int .u16 ((Z.ky x).idx), .int .u32 ((Z.ky x).gen)]) (decide ((a.th y).wait = (Z.ky x))) ∧ True) (fuel := 0) h96 (by kernel_rfl) rfl (by kernel_rfl) (by kernel_rfl) ⟨rfl, trivial, trivial, trivial⟩ ⟨⟨rfl, rfl⟩, (runRf ((a.th y).wait) (Z.ky x)), trivial⟩ fun a97 h98 => ?_
        clear h96
        refine wpAnyK_done (by kernel_rfl) ?_ _
        refine hK86 _ _ ?_
        clear hK86
        refine c_split h98 (b := (Bool.xor true (decide ((a.th y).wait = (Z.ky x))))) rfl (fun hc99 => ?_) (fun hc99 => ?_)
        ·
          have hc99f : ¬ ((a.th y).wait = (Z.ky x)) := by simpa using hc99
          refine wp_seq_k fun K100 hK100 => ?_
          refine nd_start (l := [0, 1]) rfl ?_
          refine nd_batch tabOk2 tabZ_ok2 [(0, {}), (1, {})] [6, 3, 0, 1, 7, 53, 66, 14, 15, 4, 5] (T' := [(6, .pointer (some ⟨b14, 0, none⟩)), (3, .pointer (some ⟨b2, 0, none⟩)), (0, .pointer (some ⟨mb, 0, none⟩)), (1, .agg #[.int .u8 7, .int .u32 ev.pick, .int .u64 ev.draw, .int .u32 ev.addr, .int .u32 ev.node, .int .u32 ev.dst, .int .u32 ev.xfer, .int .u8 ev.ty, .int .u64 ev.arg, .int .u64 ev.badge, .slice xo ev.ws.length cx]), (7, .pointer (some ⟨(Z.tp x), 0, none⟩)), (53, .int .u8 7), (66, .bool false), (14, .pointer (some ⟨(Z.tp y), 0, none⟩)), (15, .bool true), (4, .int .u8 13), (5, .bool false)]) (φ := True) (rest := []) h98 (by kernel_rfl) rfl trivial fun a101 h102 => ?_
          clear h98
          refine nd_done ?_
          refine hK100 _ _ ?_
          clear hK100
          refine wp_ret ?_
          try simp only [Exit.then, Exit.inBlock]
          try rw [if_pos trivial]
          exact s_ret tabOk2 tabZ_ok2 h102 [(.tmp 4, {}), (.tmp 5, {})] (vs := [.int .u8 13, .bool false]) (φ := True) rfl (by kernel_rfl) trivial (by exact ⟨rfl, _, mg_end hH h102 hho rfl⟩)
        ·
          have hc99f : (a.th y).wait = (Z.ky x) := by simpa using hc99
          exact absurd (hwt) (by first | exact hc99f | (intro hz; exact hc99f hz) | omega | simp_all)

theorem call7g (mb : Nat) (Z : MZ) (R : MR) (a : AK) (C : CP) (hI : MI Z a C) (x : Nat) (hx : x ∈ sl Z.tl) (hcu : a.cur = (x : Int)) (ev : Ev) (he : EvOk ev) (xo : Option Addr) (cx : Nat) (hwl : ¬ (ev.ws.length : Int) > 4) (y : Nat) (hy : y ∈ sl Z.tl) (hrep : (a.th x).rep = Z.ky y) (hs6 : (a.th y).st = 6) (hwt : (a.th y).wait = Z.ky x) (hxy : x ≠ y) (w : World) (hH : MH mb Z R a C w) (hws : WordsAt (mdF mb Z R C) w xo ev.ws) :
    Calls Tryd.prog 55 #[.pointer (some ⟨mb, 0, none⟩), .agg #[.int .u8 7, .int .u32 ev.pick, .int .u64 ev.draw, .int .u32 ev.addr, .int .u32 ev.node, .int .u32 ev.dst, .int .u32 ev.xfer, .int .u8 ev.ty, .int .u64 ev.arg, .int .u64 ev.badge, .slice xo ev.ws.length cx]] w fun e w' => e = .returned (.tuple #[.int .u8 0, .bool false]) ∧ ∃ R', MG mb Z R C w Z R' ((wakeA (a.setT y { msgA (a.th y) ev.ws with badge := 0, got := 0 }) y).setT x { (wakeA (a.setT y { msgA (a.th y) ev.ws with badge := 0, got := 0 }) y).th x with rep := ⟨0, 0⟩ }) C w' := by
  have hP := hI.mp
  have hcx : curR Z a = Z.ky x := curR_of hcu
  have hcn : a.cur.toNat = x := by rw [hcu]; exact Int.toNat_natCast x
  have hci := (hI.tk x hx).ci
  obtain ⟨ty3, hg3⟩ := hH.g3
  have hho := hH.ho
  have hkk := hH.md.k
  refine enter (n := 628) (K := mdF mb Z R C) (A := MD (mdF mb Z R C) w.heap.size mb Z R a C) (F := mdF mb Z R C) (T := [(0, .pointer (some ⟨mb, 0, none⟩)), (1, .agg #[.int .u8 7, .int .u32 ev.pick, .int .u64 ev.draw, .int .u32 ev.addr, .int .u32 ev.node, .int .u32 ev.dst, .int .u32 ev.xfer, .int .u8 ev.ty, .int .u64 ev.arg, .int .u64 ev.badge, .slice xo ev.ws.length cx])]) (L := [(3, ⟨[.int .u16 0, .int .u32 0], ty3, true⟩)]) (args := [.pointer (some ⟨mb, 0, none⟩), .agg #[.int .u8 7, .int .u32 ev.pick, .int .u64 ev.draw, .int .u32 ev.addr, .int .u32 ev.node, .int .u32 ev.dst, .int .u32 ev.xfer, .int .u8 ev.ty, .int .u64 ev.arg, .int .u64 ev.badge, .slice xo ev.ws.length cx]]) Tryd.func55 rfl rfl rfl rfl (kcons hg3 knil) (by simp) (kcons (by intro hq; cases hq) knil) hH.mD MD.stable hH.md.low (kcons (by intro hq; cases hq) knil) ?_
  intro ac h
  refine wp_seq_k fun K1 hK1 => ?_
  refine nd_start (l := [0, 1, 2]) rfl ?_
  refine nd_op ?_
  refine op_new tabOk2 (cells := [.int .u8 7, .int .u32 ev.pick, .int .u64 ev.draw, .int .u32 ev.addr, .int .u32 ev.node, .int .u32 ev.dst, .int .u32 ev.xfer, .int .u8 ev.ty, .int .u64 ev.arg, .int .u64 ev.badge, .slice xo ev.ws.length cx]) (ty := 35) (ln := none) (L1 := fun b2 => [(3, ⟨[.int .u16 0, .int .u32 0], ty3, true⟩), (b2, ⟨[.int .u8 7, .int .u32 ev.pick, .int .u64 ev.draw, .int .u32 ev.addr, .int .u32 ev.node, .int .u32 ev.dst, .int .u32 ev.xfer, .int .u8 ev.ty, .int .u64 ev.arg, .int .u64 ev.badge, .slice xo ev.ws.length cx], 35, false⟩)]) h rfl rfl rfl rfl (by kernel_rfl) (fun _ => rfl) fun b2 w3 a4 h5 hf6 hn7 => ?_
  clear h
  refine nd_batch tabOk2 tabZ_ok2 [(1, {}), (2, {})] [3, 0, 1, 4, 5] (T' := [(3, .pointer (some ⟨b2, 0, none⟩)), (0, .pointer (some ⟨mb, 0, none⟩)), (1, .agg #[.int .u8 7, .int .u32 ev.pick, .int .u64 ev.draw, .int .u32 ev.addr, .int .u32 ev.node, .int .u32 ev.dst, .int .u32 ev.xfer, .int .u8 ev.ty, .int .u64 ev.arg, .int .u64 ev.badge, .slice xo ev.ws.length cx]), (4, .int .u8 0), (5, .bool false)]) (φ := True) (rest := []) h5 (by kernel_rfl) rfl trivial fun a8 h9 => ?_
  clear h5
  refine nd_done ?_
  refine hK1 _ _ ?_
  clear hK1
  refine wp_seq_k fun K10 hK10 => ?_
  refine nd_start (l := [0, 1, 2, 3, 4, 5]) rfl ?_
  refine nd_batch tabOk2 tabZ_ok2 [(0, {}), (1, {}), (2, {})] [3, 0, 1, 4, 5, 44] (T' := [(3, .pointer (some ⟨b2, 0, none⟩)), (0, .pointer (some ⟨mb, 0, none⟩)), (1, .agg #[.int .u8 7, .int .u32 ev.pick, .int .u64 ev.draw, .int .u32 ev.addr, .int .u32 ev.node, .int .u32 ev.dst, .int .u32 ev.xfer, .int .u8 ev.ty, .int .u64 ev.arg, .int .u64 ev.badge, .slice xo ev.ws.length cx]), (4, .int .u8 0), (5, .bool false), (44, .pointer (some ⟨mb, 13, none⟩))]) (φ := True) (rest := [3, 4, 5]) h9 (by kernel_rfl) rfl trivial fun a11 h12 => ?_
  clear h9
  refine nd_op ?_
  refine op_read (b := mb) (v := .agg #[.int .u16 ((Z.ky x).idx), .int .u32 ((Z.ky x).gen)]) h12 rfl rfl (rd_mA h12 (k := 13) (vs := [.int .u16 ((Z.ky x).idx), .int .u32 ((Z.ky x).gen)]) rfl rfl rfl rfl rfl (by rw [← hcx]; exact md_cur)) ?_
  have h13 := h12.put (d := some 45) (v := .agg #[.int .u16 ((Z.ky x).idx), .int .u32 ((Z.ky x).gen)]) (T' := [(45, .agg #[.int .u16 ((Z.ky x).idx), .int .u32 ((Z.ky x).gen)]), (3, .pointer (some ⟨b2, 0, none⟩)), (0, .pointer (some ⟨mb, 0, none⟩)), (1, .agg #[.int .u8 7, .int .u32 ev.pick, .int .u64 ev.draw, .int .u32 ev.addr, .int .u32 ev.node, .int .u32 ev.dst, .int .u32 ev.xfer, .int .u8 ev.ty, .int .u64 ev.arg, .int .u64 ev.badge, .slice xo ev.ws.length cx]), (4, .int .u8 0), (5, .bool false), (44, .pointer (some ⟨mb, 13, none⟩))]) rfl
  clear h12
  refine nd_op ?_
  refine op_new tabOk2 (cells := [.int .u16 0, .int .u32 0]) (ty := 39) (ln := none) (L1 := fun b14 => [(3, ⟨[.int .u16 0, .int .u32 0], ty3, true⟩), (b2, ⟨[.int .u8 7, .int .u32 ev.pick, .int .u64 ev.draw, .int .u32 ev.addr, .int .u32 ev.node, .int .u32 ev.dst, .int .u32 ev.xfer, .int .u8 ev.ty, .int .u64 ev.arg, .int .u64 ev.badge, .slice xo ev.ws.length cx], 35, false⟩), (b14, ⟨[.int .u16 0, .int .u32 0], 39, false⟩)]) h13 rfl rfl rfl rfl (by kernel_rfl) (fun _ => rfl) fun b14 w15 a16 h17 hf18 hn19 => ?_
  clear h13
  refine nd_op ?_
  refine op_store tabOk2 {k := 2} (L' := [(3, ⟨[.int .u16 0, .int .u32 0], ty3, true⟩), (b2, ⟨[.int .u8 7, .int .u32 ev.pick, .int .u64 ev.draw, .int .u32 ev.addr, .int .u32 ev.node, .int .u32 ev.dst, .int .u32 ev.xfer, .int .u8 ev.ty, .int .u64 ev.arg, .int .u64 ev.badge, .slice xo ev.ws.length cx], 35, false⟩), (b14, ⟨[.int .u16 ((Z.ky x).idx), .int .u32 ((Z.ky x).gen)], 39, false⟩)]) (φ := b14 = b14 ∧ Nat.ble (0 + 2) 2 = true) h17 rfl rfl rfl (by kernel_rfl) ⟨rfl, rfl⟩ fun w20 h21 => ?_
  clear h17
  refine nd_done ?_
  refine hK10 _ _ ?_
  clear hK10
  refine wp_seq_k fun K22 hK22 => ?_
  refine dr_start (KB := [3, b2, b14, mb, Z.tb]) (Bi := [[0, 1, 2, 3, 4], [0, 1, 2, 3, 4], [0, 1, 2, 3, 4], [0, 1, 2, 3, 4], [0, 1, 2, 3, 4], [0, 1, 2, 3, 4], [0, 1, 2, 3, 4]]) mixed h21 fun w23 h24 => ?_
  clear h21
  refine dr_batch tabOk2 tabZ_ok2 (by repeat (first | with_reducible exact PF.body | with_reducible apply PF.inB | with_reducible apply PF.next)) [(0, {}), (1, {}), (2, {})] [6, 3, 0, 1, 4, 5, 48] (T' := [(6, .pointer (some ⟨b14, 0, none⟩)), (3, .pointer (some ⟨b2, 0, none⟩)), (0, .pointer (some ⟨mb, 0, none⟩)), (1, .agg #[.int .u8 7, .int .u32 ev.pick, .int .u64 ev.draw, .int .u32 ev.addr, .int .u32 ev.node, .int .u32 ev.dst, .int .u32 ev.xfer, .int .u8 ev.ty, .int .u64 ev.arg, .int .u64 ev.badge, .slice xo ev.ws.length cx]), (4, .int .u8 0), (5, .bool false), (48, .pointer (some ⟨mb, 2, none⟩))]) (φ := True) (fuel := 4) h24 (by kernel_rfl) rfl (by kernel_rfl) (by kernel_rfl) ⟨trivial, trivial, trivial, trivial⟩ trivial fun a26 h27 => ?_
  clear h24
  refine dr_read (i := 3) (b := mb) (p := 3) (v := .map (some Z.tb)) (fuel := 3) (by repeat (first | with_reducible exact PF.body | with_reducible apply PF.inB | with_reducible apply PF.next)) h27 rfl rfl rfl (by kernel_rfl) (by kernel_rfl) (by kernel_rfl) rfl (rd_m h27 (k := 2) (v := .map (some Z.tb)) rfl rfl rfl rfl (md_p ⟨rfl, trivial⟩)) ?_
  have h28 := h27.put (d := some 49) (v := .map (some Z.tb)) (T' := [(49, .map (some Z.tb)), (6, .pointer (some ⟨b14, 0, none⟩)), (3, .pointer (some ⟨b2, 0, none⟩)), (0, .pointer (some ⟨mb, 0, none⟩)), (1, .agg #[.int .u8 7, .int .u32 ev.pick, .int .u64 ev.draw, .int .u32 ev.addr, .int .u32 ev.node, .int .u32 ev.dst, .int .u32 ev.xfer, .int .u8 ev.ty, .int .u64 ev.arg, .int .u64 ev.badge, .slice xo ev.ws.length cx]), (4, .int .u8 0), (5, .bool false), (48, .pointer (some ⟨mb, 2, none⟩))]) rfl
  clear h27
  refine dr_batch tabOk2 tabZ_ok2 (by repeat (first | with_reducible exact PF.body | with_reducible apply PF.inB | with_reducible apply PF.next)) [(4, {k := 2, p := 2})] [49, 6, 3, 0, 1, 4, 5, 50] (T' := [(49, .map (some Z.tb)), (6, .pointer (some ⟨b14, 0, none⟩)), (3, .pointer (some ⟨b2, 0, none⟩)), (0, .pointer (some ⟨mb, 0, none⟩)), (1, .agg #[.int .u8 7, .int .u32 ev.pick, .int .u64 ev.draw, .int .u32 ev.addr, .int .u32 ev.node, .int .u32 ev.dst, .int .u32 ev.xfer, .int .u8 ev.ty, .int .u64 ev.arg, .int .u64 ev.badge, .slice xo ev.ws.length cx]), (4, .int .u8 0), (5, .bool false), (50, .agg #[.int .u16 ((Z.ky x).idx), .int .u32 ((Z.ky x).gen)])]) (φ := (b14 = b14 ∧ Nat.ble (0 + 2) 2 = true) ∧ True) (fuel := 2) h28 (by kernel_rfl) rfl (by kernel_rfl) (by kernel_rfl) ⟨rfl, trivial⟩ ⟨⟨rfl, rfl⟩, trivial⟩ fun a29 h30 => ?_
  clear h28
  refine dr_read (i := 5) (b := Z.tb) (p := 4) (v := .pointer (some ⟨(Z.tp x), 0, none⟩)) (fuel := 1) (by repeat (first | with_reducible exact PF.body | with_reducible apply PF.inB | with_reducible apply PF.next)) h30 rfl rfl rfl (by kernel_rfl) (by kernel_rfl) (by kernel_rfl) rfl (rd_T h30 (x := x) hx rfl rfl rfl) ?_
  have h31 := h30.put (d := some 51) (v := .pointer (some ⟨(Z.tp x), 0, none⟩)) (T' := [(51, .pointer (some ⟨(Z.tp x), 0, none⟩)), (49, .map (some Z.tb)), (6, .pointer (some ⟨b14, 0, none⟩)), (3, .pointer (some ⟨b2, 0, none⟩)), (0, .pointer (some ⟨mb, 0, none⟩)), (1, .agg #[.int .u8 7, .int .u32 ev.pick, .int .u64 ev.draw, .int .u32 ev.addr, .int .u32 ev.node, .int .u32 ev.dst, .int .u32 ev.xfer, .int .u8 ev.ty, .int .u64 ev.arg, .int .u64 ev.badge, .slice xo ev.ws.length cx]), (4, .int .u8 0), (5, .bool false), (50, .agg #[.int .u16 ((Z.ky x).idx), .int .u32 ((Z.ky x).gen)])]) rfl
  clear h30
  refine dr_batch tabOk2 tabZ_ok2 (by repeat (first | with_reducible exact PF.body | with_reducible apply PF.inB | with_reducible apply PF.next)) [(6, {})] [6, 3, 0, 1, 4, 5, 7] (T' := [(6, .pointer (some ⟨b14, 0, none⟩)), (3, .pointer (some ⟨b2, 0, none⟩)), (0, .pointer (some ⟨mb, 0, none⟩)), (1, .agg #[.int .u8 7, .int .u32 ev.pick, .int .u64 ev.draw, .int .u32 ev.addr, .int .u32 ev.node, .int .u32 ev.dst, .int .u32 ev.xfer, .int .u8 ev.ty, .int .u64 ev.arg, .int .u64 ev.badge, .slice xo ev.ws.length cx]), (4, .int .u8 0), (5, .bool false), (7, .pointer (some ⟨(Z.tp x), 0, none⟩))]) (φ := True) (fuel := 0) h31 (by kernel_rfl) rfl (by kernel_rfl) (by kernel_rfl) ⟨trivial, trivial⟩ trivial fun a32 h33 => ?_
  clear h31
  refine wpAnyK_done (by kernel_rfl) ?_ _
  refine hK22 _ _ ?_
  clear hK22
  refine wp_seq_k fun K34 hK34 => ?_
  refine wp_seq_k fun K35 hK35 => ?_
  refine nd_start (l := [0, 1]) rfl ?_
  refine nd_batch tabOk2 tabZ_ok2 [(0, {}), (1, {k := 1})] [6, 3, 0, 1, 4, 5, 7, 53] (T' := [(6, .pointer (some ⟨b14, 0, none⟩)), (3, .pointer (some ⟨b2, 0, none⟩)), (0, .pointer (some ⟨mb, 0, none⟩)), (1, .agg #[.int .u8 7, .int .u32 ev.pick, .int .u64 ev.draw, .int .u32 ev.addr, .int .u32 ev.node, .int .u32 ev.dst, .int .u32 ev.xfer, .int .u8 ev.ty, .int .u64 ev.arg, .int .u64 ev.badge, .slice xo ev.ws.length cx]), (4, .int .u8 0), (5, .bool false), (7, .pointer (some ⟨(Z.tp x), 0, none⟩)), (53, .int .u8 7)]) (φ := (b2 = b2 ∧ Nat.ble (0 + 1) 11 = true) ∧ True) (rest := []) h33 (by kernel_rfl) rfl ⟨⟨rfl, rfl⟩, trivial⟩ fun a36 h37 => ?_
  clear h33
  refine nd_done ?_
  refine hK35 _ _ ?_
  clear hK35
  refine wp_block ?_
  refine wp_seq_k fun K38 hK38 => ?_
  refine nd_start (l := [0, 1]) rfl ?_
  refine nd_batch tabOk2 tabZ_ok2 [(0, {}), (1, {})] [6, 3, 0, 1, 4, 5, 7, 53, 54] (T' := [(6, .pointer (some ⟨b14, 0, none⟩)), (3, .pointer (some ⟨b2, 0, none⟩)), (0, .pointer (some ⟨mb, 0, none⟩)), (1, .agg #[.int .u8 7, .int .u32 ev.pick, .int .u64 ev.draw, .int .u32 ev.addr, .int .u32 ev.node, .int .u32 ev.dst, .int .u32 ev.xfer, .int .u8 ev.ty, .int .u64 ev.arg, .int .u64 ev.badge, .slice xo ev.ws.length cx]), (4, .int .u8 0), (5, .bool false), (7, .pointer (some ⟨(Z.tp x), 0, none⟩)), (53, .int .u8 7), (54, .bool false)]) (φ := True) (rest := []) h37 (by kernel_rfl) rfl trivial fun a39 h40 => ?_
  clear h37
  refine nd_done ?_
  refine hK38 _ _ ?_
  clear hK38
  refine c_false h40 rfl ?_
  refine wp_seq_k fun K41 hK41 => ?_
  refine nd_start (l := [0, 1]) rfl ?_
  refine nd_batch tabOk2 tabZ_ok2 [(0, {}), (1, {})] [6, 3, 0, 1, 4, 5, 7, 53, 59] (T' := [(6, .pointer (some ⟨b14, 0, none⟩)), (3, .pointer (some ⟨b2, 0, none⟩)), (0, .pointer (some ⟨mb, 0, none⟩)), (1, .agg #[.int .u8 7, .int .u32 ev.pick, .int .u64 ev.draw, .int .u32 ev.addr, .int .u32 ev.node, .int .u32 ev.dst, .int .u32 ev.xfer, .int .u8 ev.ty, .int .u64 ev.arg, .int .u64 ev.badge, .slice xo ev.ws.length cx]), (4, .int .u8 0), (5, .bool false), (7, .pointer (some ⟨(Z.tp x), 0, none⟩)), (53, .int .u8 7), (59, .bool false)]) (φ := True) (rest := []) h40 (by kernel_rfl) rfl trivial fun a42 h43 => ?_
  clear h40
  refine nd_done ?_
  refine hK41 _ _ ?_
  clear hK41
  refine c_false h43 rfl ?_
  refine wp_seq_k fun K44 hK44 => ?_
  refine wp_seq_k fun K45 hK45 => ?_
  refine nd_start (l := [0, 1]) rfl ?_
  refine nd_batch tabOk2 tabZ_ok2 [(0, {}), (1, {})] [6, 3, 0, 1, 4, 5, 7, 53, 66] (T' := [(6, .pointer (some ⟨b14, 0, none⟩)), (3, .pointer (some ⟨b2, 0, none⟩)), (0, .pointer (some ⟨mb, 0, none⟩)), (1, .agg #[.int .u8 7, .int .u32 ev.pick, .int .u64 ev.draw, .int .u32 ev.addr, .int .u32 ev.node, .int .u32 ev.dst, .int .u32 ev.xfer, .int .u8 ev.ty, .int .u64 ev.arg, .int .u64 ev.badge, .slice xo ev.ws.length cx]), (4, .int .u8 0), (5, .bool false), (7, .pointer (some ⟨(Z.tp x), 0, none⟩)), (53, .int .u8 7), (66, .bool false)]) (φ := True) (rest := []) h43 (by kernel_rfl) rfl trivial fun a46 h47 => ?_
  clear h43
  refine nd_done ?_
  refine hK45 _ _ ?_
  clear hK45
  refine c_false h47 rfl ?_
  refine nd_start (l := [0, 1]) rfl ?_
  refine nd_batch tabOk2 tabZ_ok2 [(0, {}), (1, {})] [6, 3, 0, 1, 4, 5, 7, 53, 66] (T' := [(6, .pointer (some ⟨b14, 0, none⟩)), (3, .pointer (some ⟨b2, 0, none⟩)), (0, .pointer (some ⟨mb, 0, none⟩)), (1, .agg #[.int .u8 7, .int .u32 ev.pick, .int .u64 ev.draw, .int .u32 ev.addr, .int .u32 ev.node, .int .u32 ev.dst, .int .u32 ev.xfer, .int .u8 ev.ty, .int .u64 ev.arg, .int .u64 ev.badge, .slice xo ev.ws.length cx]), (4, .int .u8 0), (5, .bool false), (7, .pointer (some ⟨(Z.tp x), 0, none⟩)), (53, .int .u8 7), (66, .bool false)]) (φ := True) (rest := []) h47 (by kernel_rfl) rfl trivial fun a48 h49 => ?_
  clear h47
  refine nd_done ?_
  refine hK44 _ _ ?_
  clear hK44
  refine c_false h49 rfl ?_
  refine wp_seq_k fun K50 hK50 => ?_
  refine nd_start (l := [0, 1]) rfl ?_
  refine nd_batch tabOk2 tabZ_ok2 [(0, {}), (1, {})] [6, 3, 0, 1, 4, 5, 7, 53, 66, 129] (T' := [(6, .pointer (some ⟨b14, 0, none⟩)), (3, .pointer (some ⟨b2, 0, none⟩)), (0, .pointer (some ⟨mb, 0, none⟩)), (1, .agg #[.int .u8 7, .int .u32 ev.pick, .int .u64 ev.draw, .int .u32 ev.addr, .int .u32 ev.node, .int .u32 ev.dst, .int .u32 ev.xfer, .int .u8 ev.ty, .int .u64 ev.arg, .int .u64 ev.badge, .slice xo ev.ws.length cx]), (4, .int .u8 0), (5, .bool false), (7, .pointer (some ⟨(Z.tp x), 0, none⟩)), (53, .int .u8 7), (66, .bool false), (129, .bool false)]) (φ := True) (rest := []) h49 (by kernel_rfl) rfl trivial fun a51 h52 => ?_
  clear h49
  refine nd_done ?_
  refine hK50 _ _ ?_
  clear hK50
  refine c_false h52 rfl ?_
  refine wp_seq_k fun K53 hK53 => ?_
  refine nd_start (l := [0, 1]) rfl ?_
  refine nd_batch tabOk2 tabZ_ok2 [(0, {}), (1, {})] [6, 3, 0, 1, 4, 5, 7, 53, 66, 165] (T' := [(6, .pointer (some ⟨b14, 0, none⟩)), (3, .pointer (some ⟨b2, 0, none⟩)), (0, .pointer (some ⟨mb, 0, none⟩)), (1, .agg #[.int .u8 7, .int .u32 ev.pick, .int .u64 ev.draw, .int .u32 ev.addr, .int .u32 ev.node, .int .u32 ev.dst, .int .u32 ev.xfer, .int .u8 ev.ty, .int .u64 ev.arg, .int .u64 ev.badge, .slice xo ev.ws.length cx]), (4, .int .u8 0), (5, .bool false), (7, .pointer (some ⟨(Z.tp x), 0, none⟩)), (53, .int .u8 7), (66, .bool false), (165, .bool true)]) (φ := True) (rest := []) h52 (by kernel_rfl) rfl trivial fun a54 h55 => ?_
  clear h52
  refine nd_done ?_
  refine hK53 _ _ ?_
  clear hK53
  refine c_true h55 rfl ?_
  refine wp_seq_k fun K56 hK56 => ?_
  refine wp_seq_k fun K57 hK57 => ?_
  refine dr_start (KB := [3, b2, b14, (Z.tp x)]) (Bi := [[0, 1, 2, 3], [0, 1, 2, 3], [0, 1, 2, 3], [0, 1, 2, 3], [0, 1, 2, 3], [0, 1, 2, 3]]) mixed h55 fun w58 h59 => ?_
  clear h55
  refine dr_batch tabOk2 tabZ_ok2 (by repeat (first | with_reducible exact PF.body | with_reducible apply PF.inB | with_reducible apply PF.next)) [(0, {}), (1, {}), (2, {})] [6, 3, 0, 1, 4, 5, 7, 53, 66, 169] (T' := [(6, .pointer (some ⟨b14, 0, none⟩)), (3, .pointer (some ⟨b2, 0, none⟩)), (0, .pointer (some ⟨mb, 0, none⟩)), (1, .agg #[.int .u8 7, .int .u32 ev.pick, .int .u64 ev.draw, .int .u32 ev.addr, .int .u32 ev.node, .int .u32 ev.dst, .int .u32 ev.xfer, .int .u8 ev.ty, .int .u64 ev.arg, .int .u64 ev.badge, .slice xo ev.ws.length cx]), (4, .int .u8 0), (5, .bool false), (7, .pointer (some ⟨(Z.tp x), 0, none⟩)), (53, .int .u8 7), (66, .bool false), (169, .pointer (some ⟨(Z.tp x), 6, none⟩))]) (φ := True) (fuel := 3) h59 (by kernel_rfl) rfl (by kernel_rfl) (by kernel_rfl) ⟨trivial, trivial, trivial, trivial⟩ trivial fun a61 h62 => ?_
  clear h59
  refine dr_read (i := 3) (b := (Z.tp x)) (p := 3) (v := .agg #[.int .u16 ((Z.ky y).idx), .int .u32 ((Z.ky y).gen)]) (fuel := 2) (by repeat (first | with_reducible exact PF.body | with_reducible apply PF.inB | with_reducible apply PF.next)) h62 rfl rfl rfl (by kernel_rfl) (by kernel_rfl) (by kernel_rfl) rfl (rd_thA h62 (x := x) (k := 6) (vs := [.int .u16 ((Z.ky y).idx), .int .u32 ((Z.ky y).gen)]) hx rfl rfl rfl rfl rfl (by rw [← hrep]; exact ⟨rfl, rfl, trivial⟩)) ?_
  have h63 := h62.put (d := some 170) (v := .agg #[.int .u16 ((Z.ky y).idx), .int .u32 ((Z.ky y).gen)]) (T' := [(170, .agg #[.int .u16 ((Z.ky y).idx), .int .u32 ((Z.ky y).gen)]), (6, .pointer (some ⟨b14, 0, none⟩)), (3, .pointer (some ⟨b2, 0, none⟩)), (0, .pointer (some ⟨mb, 0, none⟩)), (1, .agg #[.int .u8 7, .int .u32 ev.pick, .int .u64 ev.draw, .int .u32 ev.addr, .int .u32 ev.node, .int .u32 ev.dst, .int .u32 ev.xfer, .int .u8 ev.ty, .int .u64 ev.arg, .int .u64 ev.badge, .slice xo ev.ws.length cx]), (4, .int .u8 0), (5, .bool false), (7, .pointer (some ⟨(Z.tp x), 0, none⟩)), (53, .int .u8 7), (66, .bool false), (169, .pointer (some ⟨(Z.tp x), 6, none⟩))]) rfl
  clear h62
  refine dr_batch tabOk2 tabZ_ok2 (by repeat (first | with_reducible exact PF.body | with_reducible apply PF.inB | with_reducible apply PF.next)) [(4, {k := 0, p := 0}), (5, {vs := [.bool (decide ((Z.ky y) = (⟨0, 0⟩ : Rf)))]})] [6, 3, 0, 1, 4, 5, 7, 53, 66, 172] (T' := [(6, .pointer (some ⟨b14, 0, none⟩)), (3, .pointer (some ⟨b2, 0, none⟩)), (0, .pointer (some ⟨mb, 0, none⟩)), (1, .agg #[.int .u8 7, .int .u32 ev.pick, .int .u64 ev.draw, .int .u32 ev.addr, .int .u32 ev.node, .int .u32 ev.dst, .int .u32 ev.xfer, .int .u8 ev.ty, .int .u64 ev.arg, .int .u64 ev.badge, .slice xo ev.ws.length cx]), (4, .int .u8 0), (5, .bool false), (7, .pointer (some ⟨(Z.tp x), 0, none⟩)), (53, .int .u8 7), (66, .bool false), (172, .bool (Bool.xor false (decide ((Z.ky y) = (⟨0, 0⟩ : Rf)))))]) (φ := (3 = 3 ∧ Nat.ble (0 + 2) 2 = true) ∧ EqRun Tryd.prog 39 (.agg #[.int .u16 ((Z.ky y).idx), .int .u32 ((Z.ky y).gen)]) (.agg #[.int .u16 0, .int .u32 0]) (decide ((Z.ky y) = (⟨0, 0⟩ : Rf))) ∧ True) (fuel := 0) h63 (by kernel_rfl) rfl (by kernel_rfl) (by kernel_rfl) ⟨rfl, trivial, trivial⟩ ⟨⟨rfl, rfl⟩, (runRf (Z.ky y) (⟨0, 0⟩ : Rf)), trivial⟩ fun a64 h65 => ?_
  clear h63
  refine wpAnyK_done (by kernel_rfl) ?_ _
  refine hK57 _ _ ?_
  clear hK57
  refine c_split h65 (b := (Bool.xor false (decide ((Z.ky y) = (⟨0, 0⟩ : Rf))))) rfl (fun hc66 => ?_) (fun hc66 => ?_)
  ·
    have hc66f : (Z.ky y) = (⟨0, 0⟩ : Rf) := by simpa using hc66
    exact absurd hc66f (hkk.ne0 (hkk.tx y hy))
  ·
    have hc66f : ¬ ((Z.ky y) = (⟨0, 0⟩ : Rf)) := by simpa using hc66
    refine wp_skip ?_
    refine hK56 _ _ ?_
    clear hK56
    refine wp_seq_k fun K67 hK67 => ?_
    refine wp_seq_k fun K68 hK68 => ?_
    refine nd_start (l := [0, 1, 2, 3]) rfl ?_
    refine nd_batch tabOk2 tabZ_ok2 [(0, {}), (1, {k := 1}), (2, {}), (3, {})] [6, 3, 0, 1, 4, 5, 7, 53, 66, 176] (T' := [(6, .pointer (some ⟨b14, 0, none⟩)), (3, .pointer (some ⟨b2, 0, none⟩)), (0, .pointer (some ⟨mb, 0, none⟩)), (1, .agg #[.int .u8 7, .int .u32 ev.pick, .int .u64 ev.draw, .int .u32 ev.addr, .int .u32 ev.node, .int .u32 ev.dst, .int .u32 ev.xfer, .int .u8 ev.ty, .int .u64 ev.arg, .int .u64 ev.badge, .slice xo ev.ws.length cx]), (4, .int .u8 0), (5, .bool false), (7, .pointer (some ⟨(Z.tp x), 0, none⟩)), (53, .int .u8 7), (66, .bool false), (176, .bool (decide (((ev.ws.length : Nat) : Int) > 4)))]) (φ := (b2 = b2 ∧ Nat.ble (10 + 1) 11 = true) ∧ True) (rest := []) h65 (by kernel_rfl) rfl ⟨⟨rfl, rfl⟩, trivial⟩ fun a69 h70 => ?_
    clear h65
    refine nd_done ?_
    refine hK68 _ _ ?_
    clear hK68
    refine c_split h70 (b := decide (((ev.ws.length : Nat) : Int) > 4)) rfl (fun hc71 => ?_) (fun hc71 => ?_)
    ·
      have hc71f : ((ev.ws.length : Nat) : Int) > 4 := by simpa using hc71
      exact absurd (hwl) (by first | exact hc71f | (intro hz; exact hc71f hz) | omega | simp_all)
    ·
      have hc71f : ¬ ((ev.ws.length : Nat) : Int) > 4 := by simpa using hc71
      refine wp_skip ?_
      refine hK67 _ _ ?_
      clear hK67
      refine wp_seq_k fun K72 hK72 => ?_
      refine dr_start (KB := [3, b2, b14, mb, (Z.tp x), Z.tb]) (Bi := [[0, 1, 2, 3, 4, 5], [0, 1, 2, 3, 4, 5], [0, 1, 2, 3, 4, 5], [0, 1, 2, 3, 4, 5], [0, 1, 2, 3, 4, 5], [0, 1, 2, 3, 4, 5], [0, 1, 2, 3, 4, 5], [0, 1, 2, 3, 4, 5], [0, 1, 2, 3, 4, 5], [0, 1, 2, 3, 4, 5], [0, 1, 2, 3, 4, 5], [0, 1, 2, 3, 4, 5], [0, 1, 2, 3, 4, 5], [0, 1, 2, 3, 4, 5]]) mixed h70 fun w73 h74 => ?_
      clear h70
      refine dr_batch tabOk2 tabZ_ok2 (by repeat (first | with_reducible exact PF.body | with_reducible apply PF.inB | with_reducible apply PF.next)) [(0, {}), (1, {}), (2, {})] [6, 3, 0, 1, 4, 5, 7, 53, 66, 180] (T' := [(6, .pointer (some ⟨b14, 0, none⟩)), (3, .pointer (some ⟨b2, 0, none⟩)), (0, .pointer (some ⟨mb, 0, none⟩)), (1, .agg #[.int .u8 7, .int .u32 ev.pick, .int .u64 ev.draw, .int .u32 ev.addr, .int .u32 ev.node, .int .u32 ev.dst, .int .u32 ev.xfer, .int .u8 ev.ty, .int .u64 ev.arg, .int .u64 ev.badge, .slice xo ev.ws.length cx]), (4, .int .u8 0), (5, .bool false), (7, .pointer (some ⟨(Z.tp x), 0, none⟩)), (53, .int .u8 7), (66, .bool false), (180, .pointer (some ⟨mb, 2, none⟩))]) (φ := True) (fuel := 11) h74 (by kernel_rfl) rfl (by kernel_rfl) (by kernel_rfl) ⟨trivial, trivial, trivial, trivial⟩ trivial fun a76 h77 => ?_
      clear h74
      refine dr_read (i := 3) (b := mb) (p := 3) (v := .map (some Z.tb)) (fuel := 10) (by repeat (first | with_reducible exact PF.body | with_reducible apply PF.inB | with_reducible apply PF.next)) h77 rfl rfl rfl (by kernel_rfl) (by kernel_rfl) (by kernel_rfl) rfl (rd_m h77 (k := 2) (v := .map (some Z.tb)) rfl rfl rfl rfl (md_p ⟨rfl, trivial⟩)) ?_
      have h78 := h77.put (d := some 181) (v := .map (some Z.tb)) (T' := [(181, .map (some Z.tb)), (6, .pointer (some ⟨b14, 0, none⟩)), (3, .pointer (some ⟨b2, 0, none⟩)), (0, .pointer (some ⟨mb, 0, none⟩)), (1, .agg #[.int .u8 7, .int .u32 ev.pick, .int .u64 ev.draw, .int .u32 ev.addr, .int .u32 ev.node, .int .u32 ev.dst, .int .u32 ev.xfer, .int .u8 ev.ty, .int .u64 ev.arg, .int .u64 ev.badge, .slice xo ev.ws.length cx]), (4, .int .u8 0), (5, .bool false), (7, .pointer (some ⟨(Z.tp x), 0, none⟩)), (53, .int .u8 7), (66, .bool false), (180, .pointer (some ⟨mb, 2, none⟩))]) rfl
      clear h77
      refine dr_batch tabOk2 tabZ_ok2 (by repeat (first | with_reducible exact PF.body | with_reducible apply PF.inB | with_reducible apply PF.next)) [(4, {}), (5, {}), (6, {})] [181, 6, 3, 0, 1, 4, 5, 7, 53, 66, 184] (T' := [(181, .map (some Z.tb)), (6, .pointer (some ⟨b14, 0, none⟩)), (3, .pointer (some ⟨b2, 0, none⟩)), (0, .pointer (some ⟨mb, 0, none⟩)), (1, .agg #[.int .u8 7, .int .u32 ev.pick, .int .u64 ev.draw, .int .u32 ev.addr, .int .u32 ev.node, .int .u32 ev.dst, .int .u32 ev.xfer, .int .u8 ev.ty, .int .u64 ev.arg, .int .u64 ev.badge, .slice xo ev.ws.length cx]), (4, .int .u8 0), (5, .bool false), (7, .pointer (some ⟨(Z.tp x), 0, none⟩)), (53, .int .u8 7), (66, .bool false), (184, .pointer (some ⟨(Z.tp x), 6, none⟩))]) (φ := True) (fuel := 7) h78 (by kernel_rfl) rfl (by kernel_rfl) (by kernel_rfl) ⟨trivial, trivial, trivial, trivial⟩ trivial fun a79 h80 => ?_
      clear h78
      refine dr_read (i := 7) (b := (Z.tp x)) (p := 4) (v := .agg #[.int .u16 ((Z.ky y).idx), .int .u32 ((Z.ky y).gen)]) (fuel := 6) (by repeat (first | with_reducible exact PF.body | with_reducible apply PF.inB | with_reducible apply PF.next)) h80 rfl rfl rfl (by kernel_rfl) (by kernel_rfl) (by kernel_rfl) rfl (rd_thA h80 (x := x) (k := 6) (vs := [.int .u16 ((Z.ky y).idx), .int .u32 ((Z.ky y).gen)]) hx rfl rfl rfl rfl rfl (by rw [← hrep]; exact ⟨rfl, rfl, trivial⟩)) ?_
      have h81 := h80.put (d := some 185) (v := .agg #[.int .u16 ((Z.ky y).idx), .int .u32 ((Z.ky y).gen)]) (T' := [(185, .agg #[.int .u16 ((Z.ky y).idx), .int .u32 ((Z.ky y).gen)]), (181, .map (some Z.tb)), (6, .pointer (some ⟨b14, 0, none⟩)), (3, .pointer (some ⟨b2, 0, none⟩)), (0, .pointer (some ⟨mb, 0, none⟩)), (1, .agg #[.int .u8 7, .int .u32 ev.pick, .int .u64 ev.draw, .int .u32 ev.addr, .int .u32 ev.node, .int .u32 ev.dst, .int .u32 ev.xfer, .int .u8 ev.ty, .int .u64 ev.arg, .int .u64 ev.badge, .slice xo ev.ws.length cx]), (4, .int .u8 0), (5, .bool false), (7, .pointer (some ⟨(Z.tp x), 0, none⟩)), (53, .int .u8 7), (66, .bool false), (184, .pointer (some ⟨(Z.tp x), 6, none⟩))]) rfl
      clear h80
      refine dr_read (i := 8) (b := Z.tb) (p := 5) (v := .tuple #[.pointer (some ⟨(Z.tp y), 0, none⟩), .bool true]) (fuel := 5) (by repeat (first | with_reducible exact PF.body | with_reducible apply PF.inB | with_reducible apply PF.next)) h81 rfl rfl rfl (by kernel_rfl) (by kernel_rfl) (by kernel_rfl) rfl (rd_TB h81 (x := y) hy rfl rfl rfl) ?_
      have h82 := h81.put (d := some 186) (v := .tuple #[.pointer (some ⟨(Z.tp y), 0, none⟩), .bool true]) (T' := [(186, .tuple #[.pointer (some ⟨(Z.tp y), 0, none⟩), .bool true]), (185, .agg #[.int .u16 ((Z.ky y).idx), .int .u32 ((Z.ky y).gen)]), (181, .map (some Z.tb)), (6, .pointer (some ⟨b14, 0, none⟩)), (3, .pointer (some ⟨b2, 0, none⟩)), (0, .pointer (some ⟨mb, 0, none⟩)), (1, .agg #[.int .u8 7, .int .u32 ev.pick, .int .u64 ev.draw, .int .u32 ev.addr, .int .u32 ev.node, .int .u32 ev.dst, .int .u32 ev.xfer, .int .u8 ev.ty, .int .u64 ev.arg, .int .u64 ev.badge, .slice xo ev.ws.length cx]), (4, .int .u8 0), (5, .bool false), (7, .pointer (some ⟨(Z.tp x), 0, none⟩)), (53, .int .u8 7), (66, .bool false), (184, .pointer (some ⟨(Z.tp x), 6, none⟩))]) rfl
      clear h81
      refine dr_batch tabOk2 tabZ_ok2 (by repeat (first | with_reducible exact PF.body | with_reducible apply PF.inB | with_reducible apply PF.next)) [(9, {}), (10, {}), (11, {}), (12, {}), (13, {})] [6, 3, 0, 1, 4, 5, 7, 53, 66, 14, 15] (T' := [(6, .pointer (some ⟨b14, 0, none⟩)), (3, .pointer (some ⟨b2, 0, none⟩)), (0, .pointer (some ⟨mb, 0, none⟩)), (1, .agg #[.int .u8 7, .int .u32 ev.pick, .int .u64 ev.draw, .int .u32 ev.addr, .int .u32 ev.node, .int .u32 ev.dst, .int .u32 ev.xfer, .int .u8 ev.ty, .int .u64 ev.arg, .int .u64 ev.badge, .slice xo ev.ws.length cx]), (4, .int .u8 0), (5, .bool false), (7, .pointer (some ⟨(Z.tp x), 0, none⟩)), (53, .int .u8 7), (66, .bool false), (14, .pointer (some ⟨(Z.tp y), 0, none⟩)), (15, .bool true)]) (φ := True) (fuel := 0) h82 (by kernel_rfl) rfl (by kernel_rfl) (by kernel_rfl) ⟨trivial, trivial, trivial, trivial, trivial, trivial⟩ trivial fun a83 h84 => ?_
      clear h82
      refine wpAnyK_done (by kernel_rfl) ?_ _
      refine hK72 _ _ ?_
      clear hK72
      refine wp_seq_k fun K85 hK85 => ?_
      refine wp_seq_k fun K86 hK86 => ?_
      rcases Bool.eq_false_or_eq_true (((a.th y).st != 6)) with hb87 | hb87
      ·
        have hb87f : (a.th y).st ≠ 6 := by simpa using hb87
        first | exact absurd hs6 hb87f | exact absurd hb87f hs6
      ·
        have hb87f : (a.th y).st = 6 := by simpa using hb87
        refine dr_start (KB := [3, b2, b14, (Z.tp y)]) (Bi := [[0, 1, 2, 3], [0, 1, 2, 3], [0, 1, 2, 3], [0, 1, 2, 3], [0, 1, 2, 3], [0, 1, 2, 3], [0, 1, 2, 3], [0, 1, 2, 3], [0, 1, 2, 3], [0, 1, 2, 3], [0, 1, 2, 3], [0, 1, 2, 3], [0, 1, 2, 3], [0, 1, 2, 3], [0, 1, 2, 3], [0, 1, 2, 3], [0, 1, 2, 3]]) mixed h84 fun w88 h89 => ?_
        clear h84
        refine dr_batch tabOk2 tabZ_ok2 (by repeat (first | with_reducible exact PF.body | with_reducible apply PF.inB | with_reducible apply PF.next)) [(0, {}), (1, {}), (2, {}), (3, {}), (4, {}), (5, {})] [6, 3, 0, 1, 4, 5, 7, 53, 66, 14, 15, 191, 194] (T' := [(6, .pointer (some ⟨b14, 0, none⟩)), (3, .pointer (some ⟨b2, 0, none⟩)), (0, .pointer (some ⟨mb, 0, none⟩)), (1, .agg #[.int .u8 7, .int .u32 ev.pick, .int .u64 ev.draw, .int .u32 ev.addr, .int .u32 ev.node, .int .u32 ev.dst, .int .u32 ev.xfer, .int .u8 ev.ty, .int .u64 ev.arg, .int .u64 ev.badge, .slice xo ev.ws.length cx]), (4, .int .u8 0), (5, .bool false), (7, .pointer (some ⟨(Z.tp x), 0, none⟩)), (53, .int .u8 7), (66, .bool false), (14, .pointer (some ⟨(Z.tp y), 0, none⟩)), (15, .bool true), (191, .bool false), (194, .pointer (some ⟨(Z.tp y), 0, none⟩))]) (φ := True) (fuel := 11) h89 (by kernel_rfl) rfl (by kernel_rfl) (by kernel_rfl) ⟨trivial, trivial, trivial, trivial, trivial, trivial, trivial⟩ trivial fun a91 h92 => ?_
        clear h89
        refine dr_read (i := 6) (b := (Z.tp y)) (p := 3) (v := .int .u8 ((a.th y).st)) (fuel := 10) (by repeat (first | with_reducible exact PF.body | with_reducible apply PF.inB | with_reducible apply PF.next)) h92 rfl rfl rfl (by kernel_rfl) (by kernel_rfl) (by kernel_rfl) rfl (rd_th h92 (x := y) (k := 0) (v := .int .u8 ((a.th y).st)) hy rfl rfl rfl rfl ⟨rfl, trivial⟩) ?_
        have h93 := h92.put (d := some 195) (v := .int .u8 ((a.th y).st)) (T' := [(195, .int .u8 ((a.th y).st)), (6, .pointer (some ⟨b14, 0, none⟩)), (3, .pointer (some ⟨b2, 0, none⟩)), (0, .pointer (some ⟨mb, 0, none⟩)), (1, .agg #[.int .u8 7, .int .u32 ev.pick, .int .u64 ev.draw, .int .u32 ev.addr, .int .u32 ev.node, .int .u32 ev.dst, .int .u32 ev.xfer, .int .u8 ev.ty, .int .u64 ev.arg, .int .u64 ev.badge, .slice xo ev.ws.length cx]), (4, .int .u8 0), (5, .bool false), (7, .pointer (some ⟨(Z.tp x), 0, none⟩)), (53, .int .u8 7), (66, .bool false), (14, .pointer (some ⟨(Z.tp y), 0, none⟩)), (15, .bool true), (191, .bool false), (194, .pointer (some ⟨(Z.tp y), 0, none⟩))]) rfl
        clear h92
        refine dr_batch tabOk2 tabZ_ok2 (by repeat (first | with_reducible exact PF.body | with_reducible apply PF.inB | with_reducible apply PF.next)) [(7, {f := 1}), (8, {}), (9, {}), (10, {}), (11, {}), (12, {})] [6, 3, 0, 1, 4, 5, 7, 53, 66, 14, 15, 198, 201] (T' := [(6, .pointer (some ⟨b14, 0, none⟩)), (3, .pointer (some ⟨b2, 0, none⟩)), (0, .pointer (some ⟨mb, 0, none⟩)), (1, .agg #[.int .u8 7, .int .u32 ev.pick, .int .u64 ev.draw, .int .u32 ev.addr, .int .u32 ev.node, .int .u32 ev.dst, .int .u32 ev.xfer, .int .u8 ev.ty, .int .u64 ev.arg, .int .u64 ev.badge, .slice xo ev.ws.length cx]), (4, .int .u8 0), (5, .bool false), (7, .pointer (some ⟨(Z.tp x), 0, none⟩)), (53, .int .u8 7), (66, .bool false), (14, .pointer (some ⟨(Z.tp y), 0, none⟩)), (15, .bool true), (198, .bool false), (201, .pointer (some ⟨(Z.tp y), 2, none⟩))]) (φ := (((a.th y).st != 6)) = false ∧ True) (fuel := 4) h93 (by kernel_rfl) rfl (by kernel_rfl) (by kernel_rfl) ⟨trivial, trivial, trivial, trivial, trivial, trivial, trivial⟩ ⟨hb87, trivial⟩ fun a94 h95 => ?_
        clear h93
        refine dr_read (i := 13) (b := (Z.tp y)) (p := 3) (v := .agg #[.int .u16 ((a.th y).wait.idx), .int .u32 ((a.th y).wait.gen)]) (fuel := 3) (by repeat (first | with_reducible exact PF.body | with_reducible apply PF.inB | with_reducible apply PF.next)) h95 rfl rfl rfl (by kernel_rfl) (by kernel_rfl) (by kernel_rfl) rfl (rd_thA h95 (x := y) (k := 2) (vs := [.int .u16 ((a.th y).wait.idx), .int .u32 ((a.th y).wait.gen)]) hy rfl rfl rfl rfl rfl ⟨rfl, rfl, trivial⟩) ?_
        have h96 := h95.put (d := some 202) (v := .agg #[.int .u16 ((a.th y).wait.idx), .int .u32 ((a.th y).wait.gen)]) (T' := [(202, .agg #[.int .u16 ((a.th y).wait.idx), .int .u32 ((a.th y).wait.gen)]), (6, .pointer (some ⟨b14, 0, none⟩)), (3, .pointer (some ⟨b2, 0, none⟩)), (0, .pointer (some ⟨mb, 0, none⟩)), (1, .agg #[.int .u8 7, .int .u32 ev.pick, .int .u64 ev.draw, .int .u32 ev.addr, .int .u32 ev.node, .int .u32 ev.dst, .int .u32 ev.xfer, .int .u8 ev.ty, .int .u64 ev.arg, .int .u64 ev.badge, .slice xo ev.ws.length cx]), (4, .int .u8 0), (5, .bool false), (7, .pointer (some ⟨(Z.tp x), 0, none⟩)), (53, .int .u8 7), (66, .bool false), (14, .pointer (some ⟨(Z.tp y), 0, none⟩)), (15, .bool true), (198, .bool false), (201, .pointer (some ⟨(Z.tp y), 2, none⟩))]) rfl
        clear h95
        refine dr_batch tabOk2 tabZ_ok2 (by repeat (first | with_reducible exact PF.body | with_reducible apply PF.inB | with_reducible apply PF.next)) [(14, {k := 2, p := 2}), (15, {vs := [.bool (decide ((a.th y).wait = (Z.ky x)))]}), (16, {})] [6, 3, 0, 1, 4, 5, 7, 53, 66, 14, 15, 205] (T' := [(6, .pointer (some ⟨b14, 0, none⟩)), (3, .pointer (some ⟨b2, 0, none⟩)), (0, .pointer (some ⟨mb, 0, none⟩)), (1, .agg #[.int .u8 7, .int .u32 ev.pick, .int .u64 ev.draw, .int .u32 ev.addr, .int .u32 ev.node, .int .u32 ev.dst, .int .u32 ev.xfer, .int .u8 ev.ty, .int .u64 ev.arg, .int .u64 ev.badge, .slice xo ev.ws.length cx]), (4, .int .u8 0), (5, .bool false), (7, .pointer (some ⟨(Z.tp x), 0, none⟩)), (53, .int .u8 7), (66, .bool false), (14, .pointer (some ⟨(Z.tp y), 0, none⟩)), (15, .bool true), (205, .bool (Bool.xor true (decide ((a.th y).wait = (Z.ky x)))))]) (φ := (b14 = b14 ∧ Nat.ble (0 + 2) 2 = true) ∧ EqRun Tryd.prog 39 (.agg #[.int .u16 ((a.th y).wait.idx), .int .u32 ((a.th y).wait.gen)]) (.agg #[.int .u16 ((Z.ky x).idx), .int .u32 ((Z.ky x).gen)]) (decide ((a.th y).wait = (Z.ky x))) ∧ True) (fuel := 0) h96 (by kernel_rfl) rfl (by kernel_rfl) (by kernel_rfl) ⟨rfl, trivial, trivial, trivial⟩ ⟨⟨rfl, rfl⟩, (runRf ((a.th y).wait) (Z.ky x)), trivial⟩ fun a97 h98 => ?_
        clear h96
        refine wpAnyK_done (by kernel_rfl) ?_ _
        refine hK86 _ _ ?_
        clear hK86
        refine c_split h98 (b := (Bool.xor true (decide ((a.th y).wait = (Z.ky x))))) rfl (fun hc99 => ?_) (fun hc99 => ?_)
        ·
          have hc99f : ¬ ((a.th y).wait = (Z.ky x)) := by simpa using hc99
          exact absurd (hwt) (by first | exact hc99f | (intro hz; exact hc99f hz) | omega | simp_all)
        ·
          have hc99f : (a.th y).wait = (Z.ky x) := by simpa using hc99
          refine wp_skip ?_
          refine hK85 _ _ ?_
          clear hK85
          refine wp_seq_k fun K100 hK100 => ?_
          refine nd_start (l := [0, 1, 2, 3]) rfl ?_
          refine nd_batch tabOk2 tabZ_ok2 [(0, {}), (1, {}), (2, {k := 1})] [6, 3, 0, 1, 4, 5, 7, 53, 66, 14, 15, 206, 208] (T' := [(6, .pointer (some ⟨b14, 0, none⟩)), (3, .pointer (some ⟨b2, 0, none⟩)), (0, .pointer (some ⟨mb, 0, none⟩)), (1, .agg #[.int .u8 7, .int .u32 ev.pick, .int .u64 ev.draw, .int .u32 ev.addr, .int .u32 ev.node, .int .u32 ev.dst, .int .u32 ev.xfer, .int .u8 ev.ty, .int .u64 ev.arg, .int .u64 ev.badge, .slice xo ev.ws.length cx]), (4, .int .u8 0), (5, .bool false), (7, .pointer (some ⟨(Z.tp x), 0, none⟩)), (53, .int .u8 7), (66, .bool false), (14, .pointer (some ⟨(Z.tp y), 0, none⟩)), (15, .bool true), (206, .pointer (some ⟨(Z.tp y), 0, none⟩)), (208, .slice xo ev.ws.length cx)]) (φ := (b2 = b2 ∧ Nat.ble (10 + 1) 11 = true) ∧ True) (rest := [3]) h98 (by kernel_rfl) rfl ⟨⟨rfl, rfl⟩, trivial⟩ fun a101 h102 => ?_
          clear h98
          refine nd_op ?_
          refine op_call h102 rfl rfl rfl (callOk Tryd.func89 (by decide) rfl) (args := [.pointer (some ⟨(Z.tp y), 0, none⟩), .slice xo ev.ws.length cx]) rfl (setMsg_ok mb Z _ a _ y hy _ _ ev.ws (by omega) _ (mh_of h102 hho (k := 0) rfl) (words_now h102 hws)) ?_
          rintro _ w103 ⟨rfl, hg105⟩
          refine ⟨_, rfl, ?_⟩
          have h106a := st_mg h102 hg105 (kcons (fun _ => rfl) (kcons (fun hq => by cases hq) (kcons (fun hq => by cases hq) knil)))
          have h106 := h106a.put (d := some 209) (v := .tuple #[]) (T' := [(209, .tuple #[]), (6, .pointer (some ⟨b14, 0, none⟩)), (3, .pointer (some ⟨b2, 0, none⟩)), (0, .pointer (some ⟨mb, 0, none⟩)), (1, .agg #[.int .u8 7, .int .u32 ev.pick, .int .u64 ev.draw, .int .u32 ev.addr, .int .u32 ev.node, .int .u32 ev.dst, .int .u32 ev.xfer, .int .u8 ev.ty, .int .u64 ev.arg, .int .u64 ev.badge, .slice xo ev.ws.length cx]), (4, .int .u8 0), (5, .bool false), (7, .pointer (some ⟨(Z.tp x), 0, none⟩)), (53, .int .u8 7), (66, .bool false), (14, .pointer (some ⟨(Z.tp y), 0, none⟩)), (15, .bool true), (206, .pointer (some ⟨(Z.tp y), 0, none⟩)), (208, .slice xo ev.ws.length cx)]) rfl
          have hhoh106 := hg105.mh.ho
          obtain ⟨a107, ea107⟩ : ∃ z : AK, z = a.setT y (msgA (a.th y) ev.ws) := ⟨_, rfl⟩
          rw [← ea107] at h106
          have hcx108 : curR Z a107 = Z.ky x := by rw [ea107] <;> exact hcx
          clear h102 h106a
          have ht109 : a107.th x = (a.th x) := by rw [ea107]; exact (upd_other _ _ hxy).trans rfl
          have ht110 : a107.th y = (msgA (a.th y) ev.ws) := by rw [ea107]; exact (upd_same _ _ _).trans (by first | rfl | rw [rfl])
          have hP111 : MP Z a107 := by rw [ea107]; exact MP.msg hP
          refine nd_done ?_
          refine hK100 _ _ ?_
          clear hK100
          refine wp_seq_k fun K112 hK112 => ?_
          refine nd_start (l := [0, 1, 2, 3, 4, 5, 6, 7]) rfl ?_
          refine nd_batch tabOk2 tabZ_ok2 [(0, {}), (1, {}), (2, {}), (3, {})] [6, 3, 0, 1, 4, 5, 7, 53, 66, 14, 15, 211, 213] (T' := [(6, .pointer (some ⟨b14, 0, none⟩)), (3, .pointer (some ⟨b2, 0, none⟩)), (0, .pointer (some ⟨mb, 0, none⟩)), (1, .agg #[.int .u8 7, .int .u32 ev.pick, .int .u64 ev.draw, .int .u32 ev.addr, .int .u32 ev.node, .int .u32 ev.dst, .int .u32 ev.xfer, .int .u8 ev.ty, .int .u64 ev.arg, .int .u64 ev.badge, .slice xo ev.ws.length cx]), (4, .int .u8 0), (5, .bool false), (7, .pointer (some ⟨(Z.tp x), 0, none⟩)), (53, .int .u8 7), (66, .bool false), (14, .pointer (some ⟨(Z.tp y), 0, none⟩)), (15, .bool true), (211, .pointer (some ⟨(Z.tp y), 0, none⟩)), (213, .pointer (some ⟨(Z.tp y), 8, none⟩))]) (φ := True) (rest := [4, 5, 6, 7]) h106 (by kernel_rfl) rfl trivial fun a113 h114 => ?_
          clear h106
          refine nd_op ?_
          refine op_mTh (x := y) (off := 8) (v := .int .u64 0) (y := { msgA (a.th y) ev.ws with badge := 0 }) h114 rfl rfl rfl rfl rfl rfl rfl rfl rfl hy rfl (by rw [ht110]; rfl) (kcons (fun _ => rfl) (kcons (fun hq => by cases hq) (kcons (fun hq => by cases hq) knil))) fun w115 hf116 h117 => ?_
          obtain ⟨a118, ea118⟩ : ∃ z : AK, z = a107.setT y { msgA (a.th y) ev.ws with badge := 0 } := ⟨_, rfl⟩
          rw [← ea118] at h117
          have hcx119 : curR Z a118 = Z.ky x := by rw [ea118] <;> exact hcx108
          clear h114
          have ht120 : a118.th x = (a.th x) := by rw [ea118]; exact (upd_other _ _ hxy).trans ht109
          have ht121 : a118.th y = { msgA (a.th y) ev.ws with badge := 0 } := by rw [ea118]; exact upd_same _ _ _
          have hP122 : MP Z a118 := by rw [ea118]; exact MP.like hP111 (by rw [ht110] <;> rfl) (by rw [ht110] <;> rfl) (by rw [ht110] <;> rfl)
          refine nd_batch tabOk2 tabZ_ok2 [(5, {}), (6, {})] [6, 3, 0, 1, 4, 5, 7, 53, 66, 14, 15, 215] (T' := [(6, .pointer (some ⟨b14, 0, none⟩)), (3, .pointer (some ⟨b2, 0, none⟩)), (0, .pointer (some ⟨mb, 0, none⟩)), (1, .agg #[.int .u8 7, .int .u32 ev.pick, .int .u64 ev.draw, .int .u32 ev.addr, .int .u32 ev.node, .int .u32 ev.dst, .int .u32 ev.xfer, .int .u8 ev.ty, .int .u64 ev.arg, .int .u64 ev.badge, .slice xo ev.ws.length cx]), (4, .int .u8 0), (5, .bool false), (7, .pointer (some ⟨(Z.tp x), 0, none⟩)), (53, .int .u8 7), (66, .bool false), (14, .pointer (some ⟨(Z.tp y), 0, none⟩)), (15, .bool true), (215, .pointer (some ⟨(Z.tp y), 14, none⟩))]) (φ := True) (rest := [7]) h117 (by kernel_rfl) rfl trivial fun a123 h124 => ?_
          clear h117
          refine nd_op ?_
          refine op_mTh (x := y) (off := 14) (v := .int .u8 0) (y := { msgA (a.th y) ev.ws with badge := 0, got := 0 }) h124 rfl rfl rfl rfl rfl rfl rfl rfl rfl hy rfl (by rw [ht121]; rfl) (kcons (fun _ => rfl) (kcons (fun hq => by cases hq) (kcons (fun hq => by cases hq) knil))) fun w125 hf126 h127 => ?_
          obtain ⟨a128, ea128⟩ : ∃ z : AK, z = a118.setT y { msgA (a.th y) ev.ws with badge := 0, got := 0 } := ⟨_, rfl⟩
          rw [← ea128] at h127
          have hcx129 : curR Z a128 = Z.ky x := by rw [ea128] <;> exact hcx119
          clear h124
          have ht130 : a128.th x = (a.th x) := by rw [ea128]; exact (upd_other _ _ hxy).trans ht120
          have ht131 : a128.th y = { msgA (a.th y) ev.ws with badge := 0, got := 0 } := by rw [ea128]; exact upd_same _ _ _
          have hP132 : MP Z a128 := by rw [ea128]; exact MP.like hP122 (by rw [ht121] <;> rfl) (by rw [ht121] <;> rfl) (by rw [ht121] <;> rfl)
          refine nd_done ?_
          refine hK112 _ _ ?_
          clear hK112
          refine wp_seq_k fun K133 hK133 => ?_
          refine nd_start (l := [0, 1, 2, 3, 4, 5]) rfl ?_
          refine nd_batch tabOk2 tabZ_ok2 [(0, {}), (1, {}), (2, {}), (3, {})] [6, 3, 0, 1, 4, 5, 7, 53, 66, 14, 15, 216, 219] (T' := [(6, .pointer (some ⟨b14, 0, none⟩)), (3, .pointer (some ⟨b2, 0, none⟩)), (0, .pointer (some ⟨mb, 0, none⟩)), (1, .agg #[.int .u8 7, .int .u32 ev.pick, .int .u64 ev.draw, .int .u32 ev.addr, .int .u32 ev.node, .int .u32 ev.dst, .int .u32 ev.xfer, .int .u8 ev.ty, .int .u64 ev.arg, .int .u64 ev.badge, .slice xo ev.ws.length cx]), (4, .int .u8 0), (5, .bool false), (7, .pointer (some ⟨(Z.tp x), 0, none⟩)), (53, .int .u8 7), (66, .bool false), (14, .pointer (some ⟨(Z.tp y), 0, none⟩)), (15, .bool true), (216, .pointer (some ⟨mb, 0, none⟩)), (219, .pointer (some ⟨(Z.tp x), 6, none⟩))]) (φ := True) (rest := [4, 5]) h127 (by kernel_rfl) rfl trivial fun a134 h135 => ?_
          clear h127
          refine nd_op ?_
          refine op_read (b := (Z.tp x)) (v := .agg #[.int .u16 ((Z.ky y).idx), .int .u32 ((Z.ky y).gen)]) h135 rfl rfl (rd_thA h135 (x := x) (k := 6) (vs := [.int .u16 ((Z.ky y).idx), .int .u32 ((Z.ky y).gen)]) hx rfl rfl rfl rfl rfl (by rw [ht130, ← hrep]; exact ⟨rfl, rfl, trivial⟩)) ?_
          have h136 := h135.put (d := some 220) (v := .agg #[.int .u16 ((Z.ky y).idx), .int .u32 ((Z.ky y).gen)]) (T' := [(220, .agg #[.int .u16 ((Z.ky y).idx), .int .u32 ((Z.ky y).gen)]), (6, .pointer (some ⟨b14, 0, none⟩)), (3, .pointer (some ⟨b2, 0, none⟩)), (0, .pointer (some ⟨mb, 0, none⟩)), (1, .agg #[.int .u8 7, .int .u32 ev.pick, .int .u64 ev.draw, .int .u32 ev.addr, .int .u32 ev.node, .int .u32 ev.dst, .int .u32 ev.xfer, .int .u8 ev.ty, .int .u64 ev.arg, .int .u64 ev.badge, .slice xo ev.ws.length cx]), (4, .int .u8 0), (5, .bool false), (7, .pointer (some ⟨(Z.tp x), 0, none⟩)), (53, .int .u8 7), (66, .bool false), (14, .pointer (some ⟨(Z.tp y), 0, none⟩)), (15, .bool true), (216, .pointer (some ⟨mb, 0, none⟩)), (219, .pointer (some ⟨(Z.tp x), 6, none⟩))]) rfl
          clear h135
          refine nd_op ?_
          refine op_call h136 rfl rfl rfl (callOk Tryd.func52 (by decide) rfl) (args := [.pointer (some ⟨mb, 0, none⟩), .agg #[.int .u16 ((Z.ky y).idx), .int .u32 ((Z.ky y).gen)]]) rfl (mready_ok mb Z _ a128 _ y hy hP132 _ (mh_of h136 hhoh106 (k := 0) rfl)) ?_
          rintro _ w137 ⟨rfl, R138, hg139⟩
          refine ⟨_, rfl, ?_⟩
          have h140a := st_mg h136 hg139 (kcons (fun _ => rfl) (kcons (fun hq => by cases hq) (kcons (fun hq => by cases hq) knil)))
          have h140 := h140a.put (d := some 221) (v := .tuple #[]) (T' := [(221, .tuple #[]), (220, .agg #[.int .u16 ((Z.ky y).idx), .int .u32 ((Z.ky y).gen)]), (6, .pointer (some ⟨b14, 0, none⟩)), (3, .pointer (some ⟨b2, 0, none⟩)), (0, .pointer (some ⟨mb, 0, none⟩)), (1, .agg #[.int .u8 7, .int .u32 ev.pick, .int .u64 ev.draw, .int .u32 ev.addr, .int .u32 ev.node, .int .u32 ev.dst, .int .u32 ev.xfer, .int .u8 ev.ty, .int .u64 ev.arg, .int .u64 ev.badge, .slice xo ev.ws.length cx]), (4, .int .u8 0), (5, .bool false), (7, .pointer (some ⟨(Z.tp x), 0, none⟩)), (53, .int .u8 7), (66, .bool false), (14, .pointer (some ⟨(Z.tp y), 0, none⟩)), (15, .bool true), (216, .pointer (some ⟨mb, 0, none⟩)), (219, .pointer (some ⟨(Z.tp x), 6, none⟩))]) rfl
          have hhoh140 := hg139.mh.ho
          obtain ⟨a141, ea141⟩ : ∃ z : AK, z = wakeA a128 y := ⟨_, rfl⟩
          rw [← ea141] at h140
          clear h136 h140a
          have ht142 : a141.th x = (a.th x) := by rw [ea141]; exact (wake_tho hxy).trans ht130
          have ht143 : a141.th y = { msgA (a.th y) ev.ws with st := 1, wait := ⟨0, 0⟩, badge := 0, got := 0 } := by rw [ea141, wake_th, ht131]
          have hP144 : MP Z a141 := by rw [ea141]; exact MP.wake hP132 hkk hy
          refine nd_done ?_
          refine hK133 _ _ ?_
          clear hK133
          refine wp_seq_k fun K145 hK145 => ?_
          refine nd_start (l := [0, 1, 2, 3, 4]) rfl ?_
          refine nd_batch tabOk2 tabZ_ok2 [(0, {}), (1, {k := 0}), (2, {}), (3, {})] [6, 3, 0, 1, 4, 5, 7, 53, 66, 14, 15, 223, 225] (T' := [(6, .pointer (some ⟨b14, 0, none⟩)), (3, .pointer (some ⟨b2, 0, none⟩)), (0, .pointer (some ⟨mb, 0, none⟩)), (1, .agg #[.int .u8 7, .int .u32 ev.pick, .int .u64 ev.draw, .int .u32 ev.addr, .int .u32 ev.node, .int .u32 ev.dst, .int .u32 ev.xfer, .int .u8 ev.ty, .int .u64 ev.arg, .int .u64 ev.badge, .slice xo ev.ws.length cx]), (4, .int .u8 0), (5, .bool false), (7, .pointer (some ⟨(Z.tp x), 0, none⟩)), (53, .int .u8 7), (66, .bool false), (14, .pointer (some ⟨(Z.tp y), 0, none⟩)), (15, .bool true), (223, .agg #[.int .u16 0, .int .u32 0]), (225, .pointer (some ⟨(Z.tp x), 6, none⟩))]) (φ := (3 = 3 ∧ Nat.ble (0 + 2) 2 = true) ∧ True) (rest := [4]) h140 (by kernel_rfl) rfl ⟨⟨rfl, rfl⟩, trivial⟩ fun a146 h147 => ?_
          clear h140
          refine nd_op ?_
          refine op_mTh (x := x) (off := 6) (v := .agg #[.int .u16 0, .int .u32 0]) (y := { a.th x with rep := ⟨0, 0⟩ }) h147 rfl rfl rfl rfl rfl rfl rfl rfl rfl hx rfl (by rw [ht142]; rfl) (kcons (fun _ => rfl) (kcons (fun hq => by cases hq) (kcons (fun hq => by cases hq) knil))) fun w148 hf149 h150 => ?_
          obtain ⟨a151, ea151⟩ : ∃ z : AK, z = a141.setT x { a.th x with rep := ⟨0, 0⟩ } := ⟨_, rfl⟩
          rw [← ea151] at h150
          clear h147
          have ht152 : a151.th x = { a.th x with rep := ⟨0, 0⟩ } := by rw [ea151]; exact upd_same _ _ _
          have ht153 : a151.th y = { msgA (a.th y) ev.ws with st := 1, wait := ⟨0, 0⟩, badge := 0, got := 0 } := by rw [ea151]; exact (upd_other _ _ hxy.symm).trans ht143
          have hP154 : MP Z a151 := by rw [ea151]; exact MP.like hP144 (by rw [ht142] <;> rfl) (by rw [ht142] <;> rfl) (by rw [ht142] <;> rfl)
          refine nd_done ?_
          refine hK145 _ _ ?_
          clear hK145
          refine wp_seq_k fun K155 hK155 => ?_
          refine nd_start (l := [0, 1]) rfl ?_
          refine nd_batch tabOk2 tabZ_ok2 [(0, {}), (1, {})] [6, 3, 0, 1, 7, 53, 66, 14, 15, 4, 5] (T' := [(6, .pointer (some ⟨b14, 0, none⟩)), (3, .pointer (some ⟨b2, 0, none⟩)), (0, .pointer (some ⟨mb, 0, none⟩)), (1, .agg #[.int .u8 7, .int .u32 ev.pick, .int .u64 ev.draw, .int .u32 ev.addr, .int .u32 ev.node, .int .u32 ev.dst, .int .u32 ev.xfer, .int .u8 ev.ty, .int .u64 ev.arg, .int .u64 ev.badge, .slice xo ev.ws.length cx]), (7, .pointer (some ⟨(Z.tp x), 0, none⟩)), (53, .int .u8 7), (66, .bool false), (14, .pointer (some ⟨(Z.tp y), 0, none⟩)), (15, .bool true), (4, .int .u8 0), (5, .bool false)]) (φ := True) (rest := []) h150 (by kernel_rfl) rfl trivial fun a156 h157 => ?_
          clear h150
          refine nd_done ?_
          refine hK155 _ _ ?_
          clear hK155
          refine wp_ret ?_
          try simp only [Exit.then, Exit.inBlock]
          try rw [if_pos trivial]
          exact s_ret tabOk2 tabZ_ok2 h157 [(.tmp 4, {}), (.tmp 5, {})] (vs := [.int .u8 0, .bool false]) (φ := True) rfl (by kernel_rfl) trivial (by subst ea151 ea141 ea128 ea118 ea107; exact ⟨rfl, _, mg_end hH h157 hhoh140 (by simp only [setT_setT]; rw [wake_tho hxy, show (a.setT y { msgA (a.th y) ev.ws with badge := 0, got := 0 }).th x = a.th x from upd_other _ _ hxy])⟩)

theorem call11a (mb : Nat) (Z : MZ) (R : MR) (a : AK) (C : CP) (hI : MI Z a C) (x : Nat) (hx : x ∈ sl Z.tl) (hcu : a.cur = (x : Int)) (ev : Ev) (he : EvOk ev) (xo : Option Addr) (cx : Nat) (s1 k1 : Int) (e1 : lookP C.ent (a.th x).cs ev.addr = (s1, k1)) (hk0 : k1 ≠ 0) (w : World) (hH : MH mb Z R a C w) (hws : WordsAt (mdF mb Z R C) w xo ev.ws) :
    Calls Tryd.prog 55 #[.pointer (some ⟨mb, 0, none⟩), .agg #[.int .u8 11, .int .u32 ev.pick, .int .u64 ev.draw, .int .u32 ev.addr, .int .u32 ev.node, .int .u32 ev.dst, .int .u32 ev.xfer, .int .u8 ev.ty, .int .u64 ev.arg, .int .u64 ev.badge, .slice xo ev.ws.length cx]] w fun e w' => e = .returned (.tuple #[.int .u8 k1, .bool false]) ∧ ∃ R', MG mb Z R C w Z R' a C w' := by
  have hP := hI.mp
  have hcx : curR Z a = Z.ky x := curR_of hcu
  have hcn : a.cur.toNat = x := by rw [hcu]; exact Int.toNat_natCast x
  have hci := (hI.tk x hx).ci
  obtain ⟨ty3, hg3⟩ := hH.g3
  have hho := hH.ho
  have hkk := hH.md.k
  refine enter (n := 628) (K := mdF mb Z R C) (A := MD (mdF mb Z R C) w.heap.size mb Z R a C) (F := mdF mb Z R C) (T := [(0, .pointer (some ⟨mb, 0, none⟩)), (1, .agg #[.int .u8 11, .int .u32 ev.pick, .int .u64 ev.draw, .int .u32 ev.addr, .int .u32 ev.node, .int .u32 ev.dst, .int .u32 ev.xfer, .int .u8 ev.ty, .int .u64 ev.arg, .int .u64 ev.badge, .slice xo ev.ws.length cx])]) (L := [(3, ⟨[.int .u16 0, .int .u32 0], ty3, true⟩)]) (args := [.pointer (some ⟨mb, 0, none⟩), .agg #[.int .u8 11, .int .u32 ev.pick, .int .u64 ev.draw, .int .u32 ev.addr, .int .u32 ev.node, .int .u32 ev.dst, .int .u32 ev.xfer, .int .u8 ev.ty, .int .u64 ev.arg, .int .u64 ev.badge, .slice xo ev.ws.length cx]]) Tryd.func55 rfl rfl rfl rfl (kcons hg3 knil) (by simp) (kcons (by intro hq; cases hq) knil) hH.mD MD.stable hH.md.low (kcons (by intro hq; cases hq) knil) ?_
  intro ac h
  refine wp_seq_k fun K1 hK1 => ?_
  refine nd_start (l := [0, 1, 2]) rfl ?_
  refine nd_op ?_
  refine op_new tabOk2 (cells := [.int .u8 11, .int .u32 ev.pick, .int .u64 ev.draw, .int .u32 ev.addr, .int .u32 ev.node, .int .u32 ev.dst, .int .u32 ev.xfer, .int .u8 ev.ty, .int .u64 ev.arg, .int .u64 ev.badge, .slice xo ev.ws.length cx]) (ty := 35) (ln := none) (L1 := fun b2 => [(3, ⟨[.int .u16 0, .int .u32 0], ty3, true⟩), (b2, ⟨[.int .u8 11, .int .u32 ev.pick, .int .u64 ev.draw, .int .u32 ev.addr, .int .u32 ev.node, .int .u32 ev.dst, .int .u32 ev.xfer, .int .u8 ev.ty, .int .u64 ev.arg, .int .u64 ev.badge, .slice xo ev.ws.length cx], 35, false⟩)]) h rfl rfl rfl rfl (by kernel_rfl) (fun _ => rfl) fun b2 w3 a4 h5 hf6 hn7 => ?_
  clear h
  refine nd_batch tabOk2 tabZ_ok2 [(1, {}), (2, {})] [3, 0, 1, 4, 5] (T' := [(3, .pointer (some ⟨b2, 0, none⟩)), (0, .pointer (some ⟨mb, 0, none⟩)), (1, .agg #[.int .u8 11, .int .u32 ev.pick, .int .u64 ev.draw, .int .u32 ev.addr, .int .u32 ev.node, .int .u32 ev.dst, .int .u32 ev.xfer, .int .u8 ev.ty, .int .u64 ev.arg, .int .u64 ev.badge, .slice xo ev.ws.length cx]), (4, .int .u8 0), (5, .bool false)]) (φ := True) (rest := []) h5 (by kernel_rfl) rfl trivial fun a8 h9 => ?_
  clear h5
  refine nd_done ?_
  refine hK1 _ _ ?_
  clear hK1
  refine wp_seq_k fun K10 hK10 => ?_
  refine nd_start (l := [0, 1, 2, 3, 4, 5]) rfl ?_
  refine nd_batch tabOk2 tabZ_ok2 [(0, {}), (1, {}), (2, {})] [3, 0, 1, 4, 5, 44] (T' := [(3, .pointer (some ⟨b2, 0, none⟩)), (0, .pointer (some ⟨mb, 0, none⟩)), (1, .agg #[.int .u8 11, .int .u32 ev.pick, .int .u64 ev.draw, .int .u32 ev.addr, .int .u32 ev.node, .int .u32 ev.dst, .int .u32 ev.xfer, .int .u8 ev.ty, .int .u64 ev.arg, .int .u64 ev.badge, .slice xo ev.ws.length cx]), (4, .int .u8 0), (5, .bool false), (44, .pointer (some ⟨mb, 13, none⟩))]) (φ := True) (rest := [3, 4, 5]) h9 (by kernel_rfl) rfl trivial fun a11 h12 => ?_
  clear h9
  refine nd_op ?_
  refine op_read (b := mb) (v := .agg #[.int .u16 ((Z.ky x).idx), .int .u32 ((Z.ky x).gen)]) h12 rfl rfl (rd_mA h12 (k := 13) (vs := [.int .u16 ((Z.ky x).idx), .int .u32 ((Z.ky x).gen)]) rfl rfl rfl rfl rfl (by rw [← hcx]; exact md_cur)) ?_
  have h13 := h12.put (d := some 45) (v := .agg #[.int .u16 ((Z.ky x).idx), .int .u32 ((Z.ky x).gen)]) (T' := [(45, .agg #[.int .u16 ((Z.ky x).idx), .int .u32 ((Z.ky x).gen)]), (3, .pointer (some ⟨b2, 0, none⟩)), (0, .pointer (some ⟨mb, 0, none⟩)), (1, .agg #[.int .u8 11, .int .u32 ev.pick, .int .u64 ev.draw, .int .u32 ev.addr, .int .u32 ev.node, .int .u32 ev.dst, .int .u32 ev.xfer, .int .u8 ev.ty, .int .u64 ev.arg, .int .u64 ev.badge, .slice xo ev.ws.length cx]), (4, .int .u8 0), (5, .bool false), (44, .pointer (some ⟨mb, 13, none⟩))]) rfl
  clear h12
  refine nd_op ?_
  refine op_new tabOk2 (cells := [.int .u16 0, .int .u32 0]) (ty := 39) (ln := none) (L1 := fun b14 => [(3, ⟨[.int .u16 0, .int .u32 0], ty3, true⟩), (b2, ⟨[.int .u8 11, .int .u32 ev.pick, .int .u64 ev.draw, .int .u32 ev.addr, .int .u32 ev.node, .int .u32 ev.dst, .int .u32 ev.xfer, .int .u8 ev.ty, .int .u64 ev.arg, .int .u64 ev.badge, .slice xo ev.ws.length cx], 35, false⟩), (b14, ⟨[.int .u16 0, .int .u32 0], 39, false⟩)]) h13 rfl rfl rfl rfl (by kernel_rfl) (fun _ => rfl) fun b14 w15 a16 h17 hf18 hn19 => ?_
  clear h13
  refine nd_op ?_
  refine op_store tabOk2 {k := 2} (L' := [(3, ⟨[.int .u16 0, .int .u32 0], ty3, true⟩), (b2, ⟨[.int .u8 11, .int .u32 ev.pick, .int .u64 ev.draw, .int .u32 ev.addr, .int .u32 ev.node, .int .u32 ev.dst, .int .u32 ev.xfer, .int .u8 ev.ty, .int .u64 ev.arg, .int .u64 ev.badge, .slice xo ev.ws.length cx], 35, false⟩), (b14, ⟨[.int .u16 ((Z.ky x).idx), .int .u32 ((Z.ky x).gen)], 39, false⟩)]) (φ := b14 = b14 ∧ Nat.ble (0 + 2) 2 = true) h17 rfl rfl rfl (by kernel_rfl) ⟨rfl, rfl⟩ fun w20 h21 => ?_
  clear h17
  refine nd_done ?_
  refine hK10 _ _ ?_
  clear hK10
  refine wp_seq_k fun K22 hK22 => ?_
  refine dr_start (KB := [3, b2, b14, mb, Z.tb]) (Bi := [[0, 1, 2, 3, 4], [0, 1, 2, 3, 4], [0, 1, 2, 3, 4], [0, 1, 2, 3, 4], [0, 1, 2, 3, 4], [0, 1, 2, 3, 4], [0, 1, 2, 3, 4]]) mixed h21 fun w23 h24 => ?_
  clear h21
  refine dr_batch tabOk2 tabZ_ok2 (by repeat (first | with_reducible exact PF.body | with_reducible apply PF.inB | with_reducible apply PF.next)) [(0, {}), (1, {}), (2, {})] [6, 3, 0, 1, 4, 5, 48] (T' := [(6, .pointer (some ⟨b14, 0, none⟩)), (3, .pointer (some ⟨b2, 0, none⟩)), (0, .pointer (some ⟨mb, 0, none⟩)), (1, .agg #[.int .u8 11, .int .u32 ev.pick, .int .u64 ev.draw, .int .u32 ev.addr, .int .u32 ev.node, .int .u32 ev.dst, .int .u32 ev.xfer, .int .u8 ev.ty, .int .u64 ev.arg, .int .u64 ev.badge, .slice xo ev.ws.length cx]), (4, .int .u8 0), (5, .bool false), (48, .pointer (some ⟨mb, 2, none⟩))]) (φ := True) (fuel := 4) h24 (by kernel_rfl) rfl (by kernel_rfl) (by kernel_rfl) ⟨trivial, trivial, trivial, trivial⟩ trivial fun a26 h27 => ?_
  clear h24
  refine dr_read (i := 3) (b := mb) (p := 3) (v := .map (some Z.tb)) (fuel := 3) (by repeat (first | with_reducible exact PF.body | with_reducible apply PF.inB | with_reducible apply PF.next)) h27 rfl rfl rfl (by kernel_rfl) (by kernel_rfl) (by kernel_rfl) rfl (rd_m h27 (k := 2) (v := .map (some Z.tb)) rfl rfl rfl rfl (md_p ⟨rfl, trivial⟩)) ?_
  have h28 := h27.put (d := some 49) (v := .map (some Z.tb)) (T' := [(49, .map (some Z.tb)), (6, .pointer (some ⟨b14, 0, none⟩)), (3, .pointer (some ⟨b2, 0, none⟩)), (0, .pointer (some ⟨mb, 0, none⟩)), (1, .agg #[.int .u8 11, .int .u32 ev.pick, .int .u64 ev.draw, .int .u32 ev.addr, .int .u32 ev.node, .int .u32 ev.dst, .int .u32 ev.xfer, .int .u8 ev.ty, .int .u64 ev.arg, .int .u64 ev.badge, .slice xo ev.ws.length cx]), (4, .int .u8 0), (5, .bool false), (48, .pointer (some ⟨mb, 2, none⟩))]) rfl
  clear h27
  refine dr_batch tabOk2 tabZ_ok2 (by repeat (first | with_reducible exact PF.body | with_reducible apply PF.inB | with_reducible apply PF.next)) [(4, {k := 2, p := 2})] [49, 6, 3, 0, 1, 4, 5, 50] (T' := [(49, .map (some Z.tb)), (6, .pointer (some ⟨b14, 0, none⟩)), (3, .pointer (some ⟨b2, 0, none⟩)), (0, .pointer (some ⟨mb, 0, none⟩)), (1, .agg #[.int .u8 11, .int .u32 ev.pick, .int .u64 ev.draw, .int .u32 ev.addr, .int .u32 ev.node, .int .u32 ev.dst, .int .u32 ev.xfer, .int .u8 ev.ty, .int .u64 ev.arg, .int .u64 ev.badge, .slice xo ev.ws.length cx]), (4, .int .u8 0), (5, .bool false), (50, .agg #[.int .u16 ((Z.ky x).idx), .int .u32 ((Z.ky x).gen)])]) (φ := (b14 = b14 ∧ Nat.ble (0 + 2) 2 = true) ∧ True) (fuel := 2) h28 (by kernel_rfl) rfl (by kernel_rfl) (by kernel_rfl) ⟨rfl, trivial⟩ ⟨⟨rfl, rfl⟩, trivial⟩ fun a29 h30 => ?_
  clear h28
  refine dr_read (i := 5) (b := Z.tb) (p := 4) (v := .pointer (some ⟨(Z.tp x), 0, none⟩)) (fuel := 1) (by repeat (first | with_reducible exact PF.body | with_reducible apply PF.inB | with_reducible apply PF.next)) h30 rfl rfl rfl (by kernel_rfl) (by kernel_rfl) (by kernel_rfl) rfl (rd_T h30 (x := x) hx rfl rfl rfl) ?_
  have h31 := h30.put (d := some 51) (v := .pointer (some ⟨(Z.tp x), 0, none⟩)) (T' := [(51, .pointer (some ⟨(Z.tp x), 0, none⟩)), (49, .map (some Z.tb)), (6, .pointer (some ⟨b14, 0, none⟩)), (3, .pointer (some ⟨b2, 0, none⟩)), (0, .pointer (some ⟨mb, 0, none⟩)), (1, .agg #[.int .u8 11, .int .u32 ev.pick, .int .u64 ev.draw, .int .u32 ev.addr, .int .u32 ev.node, .int .u32 ev.dst, .int .u32 ev.xfer, .int .u8 ev.ty, .int .u64 ev.arg, .int .u64 ev.badge, .slice xo ev.ws.length cx]), (4, .int .u8 0), (5, .bool false), (50, .agg #[.int .u16 ((Z.ky x).idx), .int .u32 ((Z.ky x).gen)])]) rfl
  clear h30
  refine dr_batch tabOk2 tabZ_ok2 (by repeat (first | with_reducible exact PF.body | with_reducible apply PF.inB | with_reducible apply PF.next)) [(6, {})] [6, 3, 0, 1, 4, 5, 7] (T' := [(6, .pointer (some ⟨b14, 0, none⟩)), (3, .pointer (some ⟨b2, 0, none⟩)), (0, .pointer (some ⟨mb, 0, none⟩)), (1, .agg #[.int .u8 11, .int .u32 ev.pick, .int .u64 ev.draw, .int .u32 ev.addr, .int .u32 ev.node, .int .u32 ev.dst, .int .u32 ev.xfer, .int .u8 ev.ty, .int .u64 ev.arg, .int .u64 ev.badge, .slice xo ev.ws.length cx]), (4, .int .u8 0), (5, .bool false), (7, .pointer (some ⟨(Z.tp x), 0, none⟩))]) (φ := True) (fuel := 0) h31 (by kernel_rfl) rfl (by kernel_rfl) (by kernel_rfl) ⟨trivial, trivial⟩ trivial fun a32 h33 => ?_
  clear h31
  refine wpAnyK_done (by kernel_rfl) ?_ _
  refine hK22 _ _ ?_
  clear hK22
  refine wp_seq_k fun K34 hK34 => ?_
  refine wp_seq_k fun K35 hK35 => ?_
  refine nd_start (l := [0, 1]) rfl ?_
  refine nd_batch tabOk2 tabZ_ok2 [(0, {}), (1, {k := 1})] [6, 3, 0, 1, 4, 5, 7, 53] (T' := [(6, .pointer (some ⟨b14, 0, none⟩)), (3, .pointer (some ⟨b2, 0, none⟩)), (0, .pointer (some ⟨mb, 0, none⟩)), (1, .agg #[.int .u8 11, .int .u32 ev.pick, .int .u64 ev.draw, .int .u32 ev.addr, .int .u32 ev.node, .int .u32 ev.dst, .int .u32 ev.xfer, .int .u8 ev.ty, .int .u64 ev.arg, .int .u64 ev.badge, .slice xo ev.ws.length cx]), (4, .int .u8 0), (5, .bool false), (7, .pointer (some ⟨(Z.tp x), 0, none⟩)), (53, .int .u8 11)]) (φ := (b2 = b2 ∧ Nat.ble (0 + 1) 11 = true) ∧ True) (rest := []) h33 (by kernel_rfl) rfl ⟨⟨rfl, rfl⟩, trivial⟩ fun a36 h37 => ?_
  clear h33
  refine nd_done ?_
  refine hK35 _ _ ?_
  clear hK35
  refine wp_block ?_
  refine wp_seq_k fun K38 hK38 => ?_
  refine nd_start (l := [0, 1]) rfl ?_
  refine nd_batch tabOk2 tabZ_ok2 [(0, {}), (1, {})] [6, 3, 0, 1, 4, 5, 7, 53, 54] (T' := [(6, .pointer (some ⟨b14, 0, none⟩)), (3, .pointer (some ⟨b2, 0, none⟩)), (0, .pointer (some ⟨mb, 0, none⟩)), (1, .agg #[.int .u8 11, .int .u32 ev.pick, .int .u64 ev.draw, .int .u32 ev.addr, .int .u32 ev.node, .int .u32 ev.dst, .int .u32 ev.xfer, .int .u8 ev.ty, .int .u64 ev.arg, .int .u64 ev.badge, .slice xo ev.ws.length cx]), (4, .int .u8 0), (5, .bool false), (7, .pointer (some ⟨(Z.tp x), 0, none⟩)), (53, .int .u8 11), (54, .bool false)]) (φ := True) (rest := []) h37 (by kernel_rfl) rfl trivial fun a39 h40 => ?_
  clear h37
  refine nd_done ?_
  refine hK38 _ _ ?_
  clear hK38
  refine c_false h40 rfl ?_
  refine wp_seq_k fun K41 hK41 => ?_
  refine nd_start (l := [0, 1]) rfl ?_
  refine nd_batch tabOk2 tabZ_ok2 [(0, {}), (1, {})] [6, 3, 0, 1, 4, 5, 7, 53, 59] (T' := [(6, .pointer (some ⟨b14, 0, none⟩)), (3, .pointer (some ⟨b2, 0, none⟩)), (0, .pointer (some ⟨mb, 0, none⟩)), (1, .agg #[.int .u8 11, .int .u32 ev.pick, .int .u64 ev.draw, .int .u32 ev.addr, .int .u32 ev.node, .int .u32 ev.dst, .int .u32 ev.xfer, .int .u8 ev.ty, .int .u64 ev.arg, .int .u64 ev.badge, .slice xo ev.ws.length cx]), (4, .int .u8 0), (5, .bool false), (7, .pointer (some ⟨(Z.tp x), 0, none⟩)), (53, .int .u8 11), (59, .bool false)]) (φ := True) (rest := []) h40 (by kernel_rfl) rfl trivial fun a42 h43 => ?_
  clear h40
  refine nd_done ?_
  refine hK41 _ _ ?_
  clear hK41
  refine c_false h43 rfl ?_
  refine wp_seq_k fun K44 hK44 => ?_
  refine wp_seq_k fun K45 hK45 => ?_
  refine nd_start (l := [0, 1]) rfl ?_
  refine nd_batch tabOk2 tabZ_ok2 [(0, {}), (1, {})] [6, 3, 0, 1, 4, 5, 7, 53, 66] (T' := [(6, .pointer (some ⟨b14, 0, none⟩)), (3, .pointer (some ⟨b2, 0, none⟩)), (0, .pointer (some ⟨mb, 0, none⟩)), (1, .agg #[.int .u8 11, .int .u32 ev.pick, .int .u64 ev.draw, .int .u32 ev.addr, .int .u32 ev.node, .int .u32 ev.dst, .int .u32 ev.xfer, .int .u8 ev.ty, .int .u64 ev.arg, .int .u64 ev.badge, .slice xo ev.ws.length cx]), (4, .int .u8 0), (5, .bool false), (7, .pointer (some ⟨(Z.tp x), 0, none⟩)), (53, .int .u8 11), (66, .bool false)]) (φ := True) (rest := []) h43 (by kernel_rfl) rfl trivial fun a46 h47 => ?_
  clear h43
  refine nd_done ?_
  refine hK45 _ _ ?_
  clear hK45
  refine c_false h47 rfl ?_
  refine nd_start (l := [0, 1]) rfl ?_
  refine nd_batch tabOk2 tabZ_ok2 [(0, {}), (1, {})] [6, 3, 0, 1, 4, 5, 7, 53, 66] (T' := [(6, .pointer (some ⟨b14, 0, none⟩)), (3, .pointer (some ⟨b2, 0, none⟩)), (0, .pointer (some ⟨mb, 0, none⟩)), (1, .agg #[.int .u8 11, .int .u32 ev.pick, .int .u64 ev.draw, .int .u32 ev.addr, .int .u32 ev.node, .int .u32 ev.dst, .int .u32 ev.xfer, .int .u8 ev.ty, .int .u64 ev.arg, .int .u64 ev.badge, .slice xo ev.ws.length cx]), (4, .int .u8 0), (5, .bool false), (7, .pointer (some ⟨(Z.tp x), 0, none⟩)), (53, .int .u8 11), (66, .bool false)]) (φ := True) (rest := []) h47 (by kernel_rfl) rfl trivial fun a48 h49 => ?_
  clear h47
  refine nd_done ?_
  refine hK44 _ _ ?_
  clear hK44
  refine c_false h49 rfl ?_
  refine wp_seq_k fun K50 hK50 => ?_
  refine nd_start (l := [0, 1]) rfl ?_
  refine nd_batch tabOk2 tabZ_ok2 [(0, {}), (1, {})] [6, 3, 0, 1, 4, 5, 7, 53, 66, 129] (T' := [(6, .pointer (some ⟨b14, 0, none⟩)), (3, .pointer (some ⟨b2, 0, none⟩)), (0, .pointer (some ⟨mb, 0, none⟩)), (1, .agg #[.int .u8 11, .int .u32 ev.pick, .int .u64 ev.draw, .int .u32 ev.addr, .int .u32 ev.node, .int .u32 ev.dst, .int .u32 ev.xfer, .int .u8 ev.ty, .int .u64 ev.arg, .int .u64 ev.badge, .slice xo ev.ws.length cx]), (4, .int .u8 0), (5, .bool false), (7, .pointer (some ⟨(Z.tp x), 0, none⟩)), (53, .int .u8 11), (66, .bool false), (129, .bool false)]) (φ := True) (rest := []) h49 (by kernel_rfl) rfl trivial fun a51 h52 => ?_
  clear h49
  refine nd_done ?_
  refine hK50 _ _ ?_
  clear hK50
  refine c_false h52 rfl ?_
  refine wp_seq_k fun K53 hK53 => ?_
  refine nd_start (l := [0, 1]) rfl ?_
  refine nd_batch tabOk2 tabZ_ok2 [(0, {}), (1, {})] [6, 3, 0, 1, 4, 5, 7, 53, 66, 165] (T' := [(6, .pointer (some ⟨b14, 0, none⟩)), (3, .pointer (some ⟨b2, 0, none⟩)), (0, .pointer (some ⟨mb, 0, none⟩)), (1, .agg #[.int .u8 11, .int .u32 ev.pick, .int .u64 ev.draw, .int .u32 ev.addr, .int .u32 ev.node, .int .u32 ev.dst, .int .u32 ev.xfer, .int .u8 ev.ty, .int .u64 ev.arg, .int .u64 ev.badge, .slice xo ev.ws.length cx]), (4, .int .u8 0), (5, .bool false), (7, .pointer (some ⟨(Z.tp x), 0, none⟩)), (53, .int .u8 11), (66, .bool false), (165, .bool false)]) (φ := True) (rest := []) h52 (by kernel_rfl) rfl trivial fun a54 h55 => ?_
  clear h52
  refine nd_done ?_
  refine hK53 _ _ ?_
  clear hK53
  refine c_false h55 rfl ?_
  refine wp_seq_k fun K56 hK56 => ?_
  refine nd_start (l := [0, 1]) rfl ?_
  refine nd_batch tabOk2 tabZ_ok2 [(0, {}), (1, {})] [6, 3, 0, 1, 4, 5, 7, 53, 66, 226] (T' := [(6, .pointer (some ⟨b14, 0, none⟩)), (3, .pointer (some ⟨b2, 0, none⟩)), (0, .pointer (some ⟨mb, 0, none⟩)), (1, .agg #[.int .u8 11, .int .u32 ev.pick, .int .u64 ev.draw, .int .u32 ev.addr, .int .u32 ev.node, .int .u32 ev.dst, .int .u32 ev.xfer, .int .u8 ev.ty, .int .u64 ev.arg, .int .u64 ev.badge, .slice xo ev.ws.length cx]), (4, .int .u8 0), (5, .bool false), (7, .pointer (some ⟨(Z.tp x), 0, none⟩)), (53, .int .u8 11), (66, .bool false), (226, .bool false)]) (φ := True) (rest := []) h55 (by kernel_rfl) rfl trivial fun a57 h58 => ?_
  clear h55
  refine nd_done ?_
  refine hK56 _ _ ?_
  clear hK56
  refine c_false h58 rfl ?_
  refine wp_seq_k fun K59 hK59 => ?_
  refine nd_start (l := [0, 1]) rfl ?_
  refine nd_batch tabOk2 tabZ_ok2 [(0, {}), (1, {})] [6, 3, 0, 1, 4, 5, 7, 53, 66, 244] (T' := [(6, .pointer (some ⟨b14, 0, none⟩)), (3, .pointer (some ⟨b2, 0, none⟩)), (0, .pointer (some ⟨mb, 0, none⟩)), (1, .agg #[.int .u8 11, .int .u32 ev.pick, .int .u64 ev.draw, .int .u32 ev.addr, .int .u32 ev.node, .int .u32 ev.dst, .int .u32 ev.xfer, .int .u8 ev.ty, .int .u64 ev.arg, .int .u64 ev.badge, .slice xo ev.ws.length cx]), (4, .int .u8 0), (5, .bool false), (7, .pointer (some ⟨(Z.tp x), 0, none⟩)), (53, .int .u8 11), (66, .bool false), (244, .bool false)]) (φ := True) (rest := []) h58 (by kernel_rfl) rfl trivial fun a60 h61 => ?_
  clear h58
  refine nd_done ?_
  refine hK59 _ _ ?_
  clear hK59
  refine c_false h61 rfl ?_
  refine wp_seq_k fun K62 hK62 => ?_
  refine nd_start (l := [0, 1]) rfl ?_
  refine nd_batch tabOk2 tabZ_ok2 [(0, {}), (1, {})] [6, 3, 0, 1, 4, 5, 7, 53, 66, 285] (T' := [(6, .pointer (some ⟨b14, 0, none⟩)), (3, .pointer (some ⟨b2, 0, none⟩)), (0, .pointer (some ⟨mb, 0, none⟩)), (1, .agg #[.int .u8 11, .int .u32 ev.pick, .int .u64 ev.draw, .int .u32 ev.addr, .int .u32 ev.node, .int .u32 ev.dst, .int .u32 ev.xfer, .int .u8 ev.ty, .int .u64 ev.arg, .int .u64 ev.badge, .slice xo ev.ws.length cx]), (4, .int .u8 0), (5, .bool false), (7, .pointer (some ⟨(Z.tp x), 0, none⟩)), (53, .int .u8 11), (66, .bool false), (285, .bool false)]) (φ := True) (rest := []) h61 (by kernel_rfl) rfl trivial fun a63 h64 => ?_
  clear h61
  refine nd_done ?_
  refine hK62 _ _ ?_
  clear hK62
  refine c_false h64 rfl ?_
  refine wp_seq_k fun K65 hK65 => ?_
  refine nd_start (l := [0, 1]) rfl ?_
  refine nd_batch tabOk2 tabZ_ok2 [(0, {}), (1, {})] [6, 3, 0, 1, 4, 5, 7, 53, 66, 388] (T' := [(6, .pointer (some ⟨b14, 0, none⟩)), (3, .pointer (some ⟨b2, 0, none⟩)), (0, .pointer (some ⟨mb, 0, none⟩)), (1, .agg #[.int .u8 11, .int .u32 ev.pick, .int .u64 ev.draw, .int .u32 ev.addr, .int .u32 ev.node, .int .u32 ev.dst, .int .u32 ev.xfer, .int .u8 ev.ty, .int .u64 ev.arg, .int .u64 ev.badge, .slice xo ev.ws.length cx]), (4, .int .u8 0), (5, .bool false), (7, .pointer (some ⟨(Z.tp x), 0, none⟩)), (53, .int .u8 11), (66, .bool false), (388, .bool true)]) (φ := True) (rest := []) h64 (by kernel_rfl) rfl trivial fun a66 h67 => ?_
  clear h64
  refine nd_done ?_
  refine hK65 _ _ ?_
  clear hK65
  refine c_true h67 rfl ?_
  refine wp_seq_k fun K68 hK68 => ?_
  refine nd_start (l := [0, 1, 2, 3, 4, 5, 6, 7, 8]) rfl ?_
  refine nd_batch tabOk2 tabZ_ok2 [(0, {}), (1, {}), (2, {k := 1})] [6, 3, 0, 1, 4, 5, 7, 53, 66, 391, 393] (T' := [(6, .pointer (some ⟨b14, 0, none⟩)), (3, .pointer (some ⟨b2, 0, none⟩)), (0, .pointer (some ⟨mb, 0, none⟩)), (1, .agg #[.int .u8 11, .int .u32 ev.pick, .int .u64 ev.draw, .int .u32 ev.addr, .int .u32 ev.node, .int .u32 ev.dst, .int .u32 ev.xfer, .int .u8 ev.ty, .int .u64 ev.arg, .int .u64 ev.badge, .slice xo ev.ws.length cx]), (4, .int .u8 0), (5, .bool false), (7, .pointer (some ⟨(Z.tp x), 0, none⟩)), (53, .int .u8 11), (66, .bool false), (391, .pointer (some ⟨mb, 0, none⟩)), (393, .int .u32 ev.addr)]) (φ := (b2 = b2 ∧ Nat.ble (3 + 1) 11 = true) ∧ True) (rest := [3, 4, 5, 6, 7, 8]) h67 (by kernel_rfl) rfl ⟨⟨rfl, rfl⟩, trivial⟩ fun a69 h70 => ?_
  clear h67
  refine nd_op ?_
  refine op_call h70 rfl rfl rfl (callOk Tryd.func93 (by decide) rfl) (args := [.pointer (some ⟨mb, 0, none⟩), .int .u32 ev.addr]) rfl (cellOf_ok mb Z _ a C x hx hcx hci ev.addr he.addr e1 _ (mh_of h70 hho (k := 0) rfl)) ?_
  rintro _ w71 ⟨rfl, hg73⟩
  refine ⟨_, rfl, ?_⟩
  have h74a := st_mg h70 hg73 (kcons (fun _ => rfl) (kcons (fun hq => by cases hq) (kcons (fun hq => by cases hq) knil)))
  have h74 := h74a.put (d := some 394) (v := .tuple #[.int .i64 s1, .int .u8 k1]) (T' := [(394, .tuple #[.int .i64 s1, .int .u8 k1]), (6, .pointer (some ⟨b14, 0, none⟩)), (3, .pointer (some ⟨b2, 0, none⟩)), (0, .pointer (some ⟨mb, 0, none⟩)), (1, .agg #[.int .u8 11, .int .u32 ev.pick, .int .u64 ev.draw, .int .u32 ev.addr, .int .u32 ev.node, .int .u32 ev.dst, .int .u32 ev.xfer, .int .u8 ev.ty, .int .u64 ev.arg, .int .u64 ev.badge, .slice xo ev.ws.length cx]), (4, .int .u8 0), (5, .bool false), (7, .pointer (some ⟨(Z.tp x), 0, none⟩)), (53, .int .u8 11), (66, .bool false), (391, .pointer (some ⟨mb, 0, none⟩)), (393, .int .u32 ev.addr)]) rfl
  have hhoh74 := hg73.mh.ho
  clear h70 h74a
  refine nd_batch tabOk2 tabZ_ok2 [(4, {}), (5, {}), (6, {}), (7, {}), (8, {})] [6, 3, 0, 1, 4, 5, 7, 53, 66, 27, 28] (T' := [(6, .pointer (some ⟨b14, 0, none⟩)), (3, .pointer (some ⟨b2, 0, none⟩)), (0, .pointer (some ⟨mb, 0, none⟩)), (1, .agg #[.int .u8 11, .int .u32 ev.pick, .int .u64 ev.draw, .int .u32 ev.addr, .int .u32 ev.node, .int .u32 ev.dst, .int .u32 ev.xfer, .int .u8 ev.ty, .int .u64 ev.arg, .int .u64 ev.badge, .slice xo ev.ws.length cx]), (4, .int .u8 0), (5, .bool false), (7, .pointer (some ⟨(Z.tp x), 0, none⟩)), (53, .int .u8 11), (66, .bool false), (27, .int .i64 s1), (28, .int .u8 k1)]) (φ := True) (rest := []) h74 (by kernel_rfl) rfl trivial fun a75 h76 => ?_
  clear h74
  refine nd_done ?_
  refine hK68 _ _ ?_
  clear hK68
  refine wp_seq_k fun K77 hK77 => ?_
  refine wp_seq_k fun K78 hK78 => ?_
  refine nd_start (l := [0, 1]) rfl ?_
  refine nd_batch tabOk2 tabZ_ok2 [(0, {}), (1, {})] [6, 3, 0, 1, 4, 5, 7, 53, 66, 27, 28, 398] (T' := [(6, .pointer (some ⟨b14, 0, none⟩)), (3, .pointer (some ⟨b2, 0, none⟩)), (0, .pointer (some ⟨mb, 0, none⟩)), (1, .agg #[.int .u8 11, .int .u32 ev.pick, .int .u64 ev.draw, .int .u32 ev.addr, .int .u32 ev.node, .int .u32 ev.dst, .int .u32 ev.xfer, .int .u8 ev.ty, .int .u64 ev.arg, .int .u64 ev.badge, .slice xo ev.ws.length cx]), (4, .int .u8 0), (5, .bool false), (7, .pointer (some ⟨(Z.tp x), 0, none⟩)), (53, .int .u8 11), (66, .bool false), (27, .int .i64 s1), (28, .int .u8 k1), (398, .bool (k1 != 0))]) (φ := True) (rest := []) h76 (by kernel_rfl) rfl trivial fun a79 h80 => ?_
  clear h76
  refine nd_done ?_
  refine hK78 _ _ ?_
  clear hK78
  refine c_split h80 (b := (k1 != 0)) rfl (fun hc81 => ?_) (fun hc81 => ?_)
  ·
    have hc81f : k1 ≠ 0 := by simpa using hc81
    refine wp_seq_k fun K82 hK82 => ?_
    refine nd_start (l := [0, 1, 2]) rfl ?_
    refine nd_batch tabOk2 tabZ_ok2 [(0, {}), (1, {}), (2, {})] [6, 3, 0, 1, 7, 53, 66, 27, 28, 4, 5] (T' := [(6, .pointer (some ⟨b14, 0, none⟩)), (3, .pointer (some ⟨b2, 0, none⟩)), (0, .pointer (some ⟨mb, 0, none⟩)), (1, .agg #[.int .u8 11, .int .u32 ev.pick, .int .u64 ev.draw, .int .u32 ev.addr, .int .u32 ev.node, .int .u32 ev.dst, .int .u32 ev.xfer, .int .u8 ev.ty, .int .u64 ev.arg, .int .u64 ev.badge, .slice xo ev.ws.length cx]), (7, .pointer (some ⟨(Z.tp x), 0, none⟩)), (53, .int .u8 11), (66, .bool false), (27, .int .i64 s1), (28, .int .u8 k1), (4, .int .u8 k1), (5, .bool false)]) (φ := True) (rest := []) h80 (by kernel_rfl) rfl trivial fun a83 h84 => ?_
    clear h80
    refine nd_done ?_
    refine hK82 _ _ ?_
    clear hK82
    refine wp_ret ?_
    try simp only [Exit.then, Exit.inBlock]
    try rw [if_pos trivial]
    exact s_ret tabOk2 tabZ_ok2 h84 [(.tmp 4, {}), (.tmp 5, {})] (vs := [.int .u8 k1, .bool false]) (φ := True) rfl (by kernel_rfl) trivial (by exact ⟨rfl, _, mg_end hH h84 hhoh74 rfl⟩)
  ·
    have hc81f : k1 = 0 := by simpa using hc81
    exact absurd hc81f hk0

theorem call11b (mb : Nat) (Z : MZ) (R : MR) (a : AK) (C : CP) (hI : MI Z a C) (x : Nat) (hx : x ∈ sl Z.tl) (hcu : a.cur = (x : Int)) (ev : Ev) (he : EvOk ev) (xo : Option Addr) (cx : Nat) (s1 : Int) (e1 : lookP C.ent (a.th x).cs ev.addr = (s1, 0)) (c2 : Cp) (s3 k2 : Int) (hf2 : findA a C ev.node 2 2 = (c2, s3, k2)) (hk0 : k2 ≠ 0) (w : World) (hH : MH mb Z R a C w) (hws : WordsAt (mdF mb Z R C) w xo ev.ws) :
    Calls Tryd.prog 55 #[.pointer (some ⟨mb, 0, none⟩), .agg #[.int .u8 11, .int .u32 ev.pick, .int .u64 ev.draw, .int .u32 ev.addr, .int .u32 ev.node, .int .u32 ev.dst, .int .u32 ev.xfer, .int .u8 ev.ty, .int .u64 ev.arg, .int .u64 ev.badge, .slice xo ev.ws.length cx]] w fun e w' => e = .returned (.tuple #[.int .u8 k2, .bool false]) ∧ ∃ R', MG mb Z R C w Z R' a C w' := by
  have hP := hI.mp
  have hcx : curR Z a = Z.ky x := curR_of hcu
  have hcn : a.cur.toNat = x := by rw [hcu]; exact Int.toNat_natCast x
  have hci := (hI.tk x hx).ci
  obtain ⟨ty3, hg3⟩ := hH.g3
  have hho := hH.ho
  have hkk := hH.md.k
  refine enter (n := 628) (K := mdF mb Z R C) (A := MD (mdF mb Z R C) w.heap.size mb Z R a C) (F := mdF mb Z R C) (T := [(0, .pointer (some ⟨mb, 0, none⟩)), (1, .agg #[.int .u8 11, .int .u32 ev.pick, .int .u64 ev.draw, .int .u32 ev.addr, .int .u32 ev.node, .int .u32 ev.dst, .int .u32 ev.xfer, .int .u8 ev.ty, .int .u64 ev.arg, .int .u64 ev.badge, .slice xo ev.ws.length cx])]) (L := [(3, ⟨[.int .u16 0, .int .u32 0], ty3, true⟩)]) (args := [.pointer (some ⟨mb, 0, none⟩), .agg #[.int .u8 11, .int .u32 ev.pick, .int .u64 ev.draw, .int .u32 ev.addr, .int .u32 ev.node, .int .u32 ev.dst, .int .u32 ev.xfer, .int .u8 ev.ty, .int .u64 ev.arg, .int .u64 ev.badge, .slice xo ev.ws.length cx]]) Tryd.func55 rfl rfl rfl rfl (kcons hg3 knil) (by simp) (kcons (by intro hq; cases hq) knil) hH.mD MD.stable hH.md.low (kcons (by intro hq; cases hq) knil) ?_
  intro ac h
  refine wp_seq_k fun K1 hK1 => ?_
  refine nd_start (l := [0, 1, 2]) rfl ?_
  refine nd_op ?_
  refine op_new tabOk2 (cells := [.int .u8 11, .int .u32 ev.pick, .int .u64 ev.draw, .int .u32 ev.addr, .int .u32 ev.node, .int .u32 ev.dst, .int .u32 ev.xfer, .int .u8 ev.ty, .int .u64 ev.arg, .int .u64 ev.badge, .slice xo ev.ws.length cx]) (ty := 35) (ln := none) (L1 := fun b2 => [(3, ⟨[.int .u16 0, .int .u32 0], ty3, true⟩), (b2, ⟨[.int .u8 11, .int .u32 ev.pick, .int .u64 ev.draw, .int .u32 ev.addr, .int .u32 ev.node, .int .u32 ev.dst, .int .u32 ev.xfer, .int .u8 ev.ty, .int .u64 ev.arg, .int .u64 ev.badge, .slice xo ev.ws.length cx], 35, false⟩)]) h rfl rfl rfl rfl (by kernel_rfl) (fun _ => rfl) fun b2 w3 a4 h5 hf6 hn7 => ?_
  clear h
  refine nd_batch tabOk2 tabZ_ok2 [(1, {}), (2, {})] [3, 0, 1, 4, 5] (T' := [(3, .pointer (some ⟨b2, 0, none⟩)), (0, .pointer (some ⟨mb, 0, none⟩)), (1, .agg #[.int .u8 11, .int .u32 ev.pick, .int .u64 ev.draw, .int .u32 ev.addr, .int .u32 ev.node, .int .u32 ev.dst, .int .u32 ev.xfer, .int .u8 ev.ty, .int .u64 ev.arg, .int .u64 ev.badge, .slice xo ev.ws.length cx]), (4, .int .u8 0), (5, .bool false)]) (φ := True) (rest := []) h5 (by kernel_rfl) rfl trivial fun a8 h9 => ?_
  clear h5
  refine nd_done ?_
  refine hK1 _ _ ?_
  clear hK1
  refine wp_seq_k fun K10 hK10 => ?_
  refine nd_start (l := [0, 1, 2, 3, 4, 5]) rfl ?_
  refine nd_batch tabOk2 tabZ_ok2 [(0, {}), (1, {}), (2, {})] [3, 0, 1, 4, 5, 44] (T' := [(3, .pointer (some ⟨b2, 0, none⟩)), (0, .pointer (some ⟨mb, 0, none⟩)), (1, .agg #[.int .u8 11, .int .u32 ev.pick, .int .u64 ev.draw, .int .u32 ev.addr, .int .u32 ev.node, .int .u32 ev.dst, .int .u32 ev.xfer, .int .u8 ev.ty, .int .u64 ev.arg, .int .u64 ev.badge, .slice xo ev.ws.length cx]), (4, .int .u8 0), (5, .bool false), (44, .pointer (some ⟨mb, 13, none⟩))]) (φ := True) (rest := [3, 4, 5]) h9 (by kernel_rfl) rfl trivial fun a11 h12 => ?_
  clear h9
  refine nd_op ?_
  refine op_read (b := mb) (v := .agg #[.int .u16 ((Z.ky x).idx), .int .u32 ((Z.ky x).gen)]) h12 rfl rfl (rd_mA h12 (k := 13) (vs := [.int .u16 ((Z.ky x).idx), .int .u32 ((Z.ky x).gen)]) rfl rfl rfl rfl rfl (by rw [← hcx]; exact md_cur)) ?_
  have h13 := h12.put (d := some 45) (v := .agg #[.int .u16 ((Z.ky x).idx), .int .u32 ((Z.ky x).gen)]) (T' := [(45, .agg #[.int .u16 ((Z.ky x).idx), .int .u32 ((Z.ky x).gen)]), (3, .pointer (some ⟨b2, 0, none⟩)), (0, .pointer (some ⟨mb, 0, none⟩)), (1, .agg #[.int .u8 11, .int .u32 ev.pick, .int .u64 ev.draw, .int .u32 ev.addr, .int .u32 ev.node, .int .u32 ev.dst, .int .u32 ev.xfer, .int .u8 ev.ty, .int .u64 ev.arg, .int .u64 ev.badge, .slice xo ev.ws.length cx]), (4, .int .u8 0), (5, .bool false), (44, .pointer (some ⟨mb, 13, none⟩))]) rfl
  clear h12
  refine nd_op ?_
  refine op_new tabOk2 (cells := [.int .u16 0, .int .u32 0]) (ty := 39) (ln := none) (L1 := fun b14 => [(3, ⟨[.int .u16 0, .int .u32 0], ty3, true⟩), (b2, ⟨[.int .u8 11, .int .u32 ev.pick, .int .u64 ev.draw, .int .u32 ev.addr, .int .u32 ev.node, .int .u32 ev.dst, .int .u32 ev.xfer, .int .u8 ev.ty, .int .u64 ev.arg, .int .u64 ev.badge, .slice xo ev.ws.length cx], 35, false⟩), (b14, ⟨[.int .u16 0, .int .u32 0], 39, false⟩)]) h13 rfl rfl rfl rfl (by kernel_rfl) (fun _ => rfl) fun b14 w15 a16 h17 hf18 hn19 => ?_
  clear h13
  refine nd_op ?_
  refine op_store tabOk2 {k := 2} (L' := [(3, ⟨[.int .u16 0, .int .u32 0], ty3, true⟩), (b2, ⟨[.int .u8 11, .int .u32 ev.pick, .int .u64 ev.draw, .int .u32 ev.addr, .int .u32 ev.node, .int .u32 ev.dst, .int .u32 ev.xfer, .int .u8 ev.ty, .int .u64 ev.arg, .int .u64 ev.badge, .slice xo ev.ws.length cx], 35, false⟩), (b14, ⟨[.int .u16 ((Z.ky x).idx), .int .u32 ((Z.ky x).gen)], 39, false⟩)]) (φ := b14 = b14 ∧ Nat.ble (0 + 2) 2 = true) h17 rfl rfl rfl (by kernel_rfl) ⟨rfl, rfl⟩ fun w20 h21 => ?_
  clear h17
  refine nd_done ?_
  refine hK10 _ _ ?_
  clear hK10
  refine wp_seq_k fun K22 hK22 => ?_
  refine dr_start (KB := [3, b2, b14, mb, Z.tb]) (Bi := [[0, 1, 2, 3, 4], [0, 1, 2, 3, 4], [0, 1, 2, 3, 4], [0, 1, 2, 3, 4], [0, 1, 2, 3, 4], [0, 1, 2, 3, 4], [0, 1, 2, 3, 4]]) mixed h21 fun w23 h24 => ?_
  clear h21
  refine dr_batch tabOk2 tabZ_ok2 (by repeat (first | with_reducible exact PF.body | with_reducible apply PF.inB | with_reducible apply PF.next)) [(0, {}), (1, {}), (2, {})] [6, 3, 0, 1, 4, 5, 48] (T' := [(6, .pointer (some ⟨b14, 0, none⟩)), (3, .pointer (some ⟨b2, 0, none⟩)), (0, .pointer (some ⟨mb, 0, none⟩)), (1, .agg #[.int .u8 11, .int .u32 ev.pick, .int .u64 ev.draw, .int .u32 ev.addr, .int .u32 ev.node, .int .u32 ev.dst, .int .u32 ev.xfer, .int .u8 ev.ty, .int .u64 ev.arg, .int .u64 ev.badge, .slice xo ev.ws.length cx]), (4, .int .u8 0), (5, .bool false), (48, .pointer (some ⟨mb, 2, none⟩))]) (φ := True) (fuel := 4) h24 (by kernel_rfl) rfl (by kernel_rfl) (by kernel_rfl) ⟨trivial, trivial, trivial, trivial⟩ trivial fun a26 h27 => ?_
  clear h24
  refine dr_read (i := 3) (b := mb) (p := 3) (v := .map (some Z.tb)) (fuel := 3) (by repeat (first | with_reducible exact PF.body | with_reducible apply PF.inB | with_reducible apply PF.next)) h27 rfl rfl rfl (by kernel_rfl) (by kernel_rfl) (by kernel_rfl) rfl (rd_m h27 (k := 2) (v := .map (some Z.tb)) rfl rfl rfl rfl (md_p ⟨rfl, trivial⟩)) ?_
  have h28 := h27.put (d := some 49) (v := .map (some Z.tb)) (T' := [(49, .map (some Z.tb)), (6, .pointer (some ⟨b14, 0, none⟩)), (3, .pointer (some ⟨b2, 0, none⟩)), (0, .pointer (some ⟨mb, 0, none⟩)), (1, .agg #[.int .u8 11, .int .u32 ev.pick, .int .u64 ev.draw, .int .u32 ev.addr, .int .u32 ev.node, .int .u32 ev.dst, .int .u32 ev.xfer, .int .u8 ev.ty, .int .u64 ev.arg, .int .u64 ev.badge, .slice xo ev.ws.length cx]), (4, .int .u8 0), (5, .bool false), (48, .pointer (some ⟨mb, 2, none⟩))]) rfl
  clear h27
  refine dr_batch tabOk2 tabZ_ok2 (by repeat (first | with_reducible exact PF.body | with_reducible apply PF.inB | with_reducible apply PF.next)) [(4, {k := 2, p := 2})] [49, 6, 3, 0, 1, 4, 5, 50] (T' := [(49, .map (some Z.tb)), (6, .pointer (some ⟨b14, 0, none⟩)), (3, .pointer (some ⟨b2, 0, none⟩)), (0, .pointer (some ⟨mb, 0, none⟩)), (1, .agg #[.int .u8 11, .int .u32 ev.pick, .int .u64 ev.draw, .int .u32 ev.addr, .int .u32 ev.node, .int .u32 ev.dst, .int .u32 ev.xfer, .int .u8 ev.ty, .int .u64 ev.arg, .int .u64 ev.badge, .slice xo ev.ws.length cx]), (4, .int .u8 0), (5, .bool false), (50, .agg #[.int .u16 ((Z.ky x).idx), .int .u32 ((Z.ky x).gen)])]) (φ := (b14 = b14 ∧ Nat.ble (0 + 2) 2 = true) ∧ True) (fuel := 2) h28 (by kernel_rfl) rfl (by kernel_rfl) (by kernel_rfl) ⟨rfl, trivial⟩ ⟨⟨rfl, rfl⟩, trivial⟩ fun a29 h30 => ?_
  clear h28
  refine dr_read (i := 5) (b := Z.tb) (p := 4) (v := .pointer (some ⟨(Z.tp x), 0, none⟩)) (fuel := 1) (by repeat (first | with_reducible exact PF.body | with_reducible apply PF.inB | with_reducible apply PF.next)) h30 rfl rfl rfl (by kernel_rfl) (by kernel_rfl) (by kernel_rfl) rfl (rd_T h30 (x := x) hx rfl rfl rfl) ?_
  have h31 := h30.put (d := some 51) (v := .pointer (some ⟨(Z.tp x), 0, none⟩)) (T' := [(51, .pointer (some ⟨(Z.tp x), 0, none⟩)), (49, .map (some Z.tb)), (6, .pointer (some ⟨b14, 0, none⟩)), (3, .pointer (some ⟨b2, 0, none⟩)), (0, .pointer (some ⟨mb, 0, none⟩)), (1, .agg #[.int .u8 11, .int .u32 ev.pick, .int .u64 ev.draw, .int .u32 ev.addr, .int .u32 ev.node, .int .u32 ev.dst, .int .u32 ev.xfer, .int .u8 ev.ty, .int .u64 ev.arg, .int .u64 ev.badge, .slice xo ev.ws.length cx]), (4, .int .u8 0), (5, .bool false), (50, .agg #[.int .u16 ((Z.ky x).idx), .int .u32 ((Z.ky x).gen)])]) rfl
  clear h30
  refine dr_batch tabOk2 tabZ_ok2 (by repeat (first | with_reducible exact PF.body | with_reducible apply PF.inB | with_reducible apply PF.next)) [(6, {})] [6, 3, 0, 1, 4, 5, 7] (T' := [(6, .pointer (some ⟨b14, 0, none⟩)), (3, .pointer (some ⟨b2, 0, none⟩)), (0, .pointer (some ⟨mb, 0, none⟩)), (1, .agg #[.int .u8 11, .int .u32 ev.pick, .int .u64 ev.draw, .int .u32 ev.addr, .int .u32 ev.node, .int .u32 ev.dst, .int .u32 ev.xfer, .int .u8 ev.ty, .int .u64 ev.arg, .int .u64 ev.badge, .slice xo ev.ws.length cx]), (4, .int .u8 0), (5, .bool false), (7, .pointer (some ⟨(Z.tp x), 0, none⟩))]) (φ := True) (fuel := 0) h31 (by kernel_rfl) rfl (by kernel_rfl) (by kernel_rfl) ⟨trivial, trivial⟩ trivial fun a32 h33 => ?_
  clear h31
  refine wpAnyK_done (by kernel_rfl) ?_ _
  refine hK22 _ _ ?_
  clear hK22
  refine wp_seq_k fun K34 hK34 => ?_
  refine wp_seq_k fun K35 hK35 => ?_
  refine nd_start (l := [0, 1]) rfl ?_
  refine nd_batch tabOk2 tabZ_ok2 [(0, {}), (1, {k := 1})] [6, 3, 0, 1, 4, 5, 7, 53] (T' := [(6, .pointer (some ⟨b14, 0, none⟩)), (3, .pointer (some ⟨b2, 0, none⟩)), (0, .pointer (some ⟨mb, 0, none⟩)), (1, .agg #[.int .u8 11, .int .u32 ev.pick, .int .u64 ev.draw, .int .u32 ev.addr, .int .u32 ev.node, .int .u32 ev.dst, .int .u32 ev.xfer, .int .u8 ev.ty, .int .u64 ev.arg, .int .u64 ev.badge, .slice xo ev.ws.length cx]), (4, .int .u8 0), (5, .bool false), (7, .pointer (some ⟨(Z.tp x), 0, none⟩)), (53, .int .u8 11)]) (φ := (b2 = b2 ∧ Nat.ble (0 + 1) 11 = true) ∧ True) (rest := []) h33 (by kernel_rfl) rfl ⟨⟨rfl, rfl⟩, trivial⟩ fun a36 h37 => ?_
  clear h33
  refine nd_done ?_
  refine hK35 _ _ ?_
  clear hK35
  refine wp_block ?_
  refine wp_seq_k fun K38 hK38 => ?_
  refine nd_start (l := [0, 1]) rfl ?_
  refine nd_batch tabOk2 tabZ_ok2 [(0, {}), (1, {})] [6, 3, 0, 1, 4, 5, 7, 53, 54] (T' := [(6, .pointer (some ⟨b14, 0, none⟩)), (3, .pointer (some ⟨b2, 0, none⟩)), (0, .pointer (some ⟨mb, 0, none⟩)), (1, .agg #[.int .u8 11, .int .u32 ev.pick, .int .u64 ev.draw, .int .u32 ev.addr, .int .u32 ev.node, .int .u32 ev.dst, .int .u32 ev.xfer, .int .u8 ev.ty, .int .u64 ev.arg, .int .u64 ev.badge, .slice xo ev.ws.length cx]), (4, .int .u8 0), (5, .bool false), (7, .pointer (some ⟨(Z.tp x), 0, none⟩)), (53, .int .u8 11), (54, .bool false)]) (φ := True) (rest := []) h37 (by kernel_rfl) rfl trivial fun a39 h40 => ?_
  clear h37
  refine nd_done ?_
  refine hK38 _ _ ?_
  clear hK38
  refine c_false h40 rfl ?_
  refine wp_seq_k fun K41 hK41 => ?_
  refine nd_start (l := [0, 1]) rfl ?_
  refine nd_batch tabOk2 tabZ_ok2 [(0, {}), (1, {})] [6, 3, 0, 1, 4, 5, 7, 53, 59] (T' := [(6, .pointer (some ⟨b14, 0, none⟩)), (3, .pointer (some ⟨b2, 0, none⟩)), (0, .pointer (some ⟨mb, 0, none⟩)), (1, .agg #[.int .u8 11, .int .u32 ev.pick, .int .u64 ev.draw, .int .u32 ev.addr, .int .u32 ev.node, .int .u32 ev.dst, .int .u32 ev.xfer, .int .u8 ev.ty, .int .u64 ev.arg, .int .u64 ev.badge, .slice xo ev.ws.length cx]), (4, .int .u8 0), (5, .bool false), (7, .pointer (some ⟨(Z.tp x), 0, none⟩)), (53, .int .u8 11), (59, .bool false)]) (φ := True) (rest := []) h40 (by kernel_rfl) rfl trivial fun a42 h43 => ?_
  clear h40
  refine nd_done ?_
  refine hK41 _ _ ?_
  clear hK41
  refine c_false h43 rfl ?_
  refine wp_seq_k fun K44 hK44 => ?_
  refine wp_seq_k fun K45 hK45 => ?_
  refine nd_start (l := [0, 1]) rfl ?_
  refine nd_batch tabOk2 tabZ_ok2 [(0, {}), (1, {})] [6, 3, 0, 1, 4, 5, 7, 53, 66] (T' := [(6, .pointer (some ⟨b14, 0, none⟩)), (3, .pointer (some ⟨b2, 0, none⟩)), (0, .pointer (some ⟨mb, 0, none⟩)), (1, .agg #[.int .u8 11, .int .u32 ev.pick, .int .u64 ev.draw, .int .u32 ev.addr, .int .u32 ev.node, .int .u32 ev.dst, .int .u32 ev.xfer, .int .u8 ev.ty, .int .u64 ev.arg, .int .u64 ev.badge, .slice xo ev.ws.length cx]), (4, .int .u8 0), (5, .bool false), (7, .pointer (some ⟨(Z.tp x), 0, none⟩)), (53, .int .u8 11), (66, .bool false)]) (φ := True) (rest := []) h43 (by kernel_rfl) rfl trivial fun a46 h47 => ?_
  clear h43
  refine nd_done ?_
  refine hK45 _ _ ?_
  clear hK45
  refine c_false h47 rfl ?_
  refine nd_start (l := [0, 1]) rfl ?_
  refine nd_batch tabOk2 tabZ_ok2 [(0, {}), (1, {})] [6, 3, 0, 1, 4, 5, 7, 53, 66] (T' := [(6, .pointer (some ⟨b14, 0, none⟩)), (3, .pointer (some ⟨b2, 0, none⟩)), (0, .pointer (some ⟨mb, 0, none⟩)), (1, .agg #[.int .u8 11, .int .u32 ev.pick, .int .u64 ev.draw, .int .u32 ev.addr, .int .u32 ev.node, .int .u32 ev.dst, .int .u32 ev.xfer, .int .u8 ev.ty, .int .u64 ev.arg, .int .u64 ev.badge, .slice xo ev.ws.length cx]), (4, .int .u8 0), (5, .bool false), (7, .pointer (some ⟨(Z.tp x), 0, none⟩)), (53, .int .u8 11), (66, .bool false)]) (φ := True) (rest := []) h47 (by kernel_rfl) rfl trivial fun a48 h49 => ?_
  clear h47
  refine nd_done ?_
  refine hK44 _ _ ?_
  clear hK44
  refine c_false h49 rfl ?_
  refine wp_seq_k fun K50 hK50 => ?_
  refine nd_start (l := [0, 1]) rfl ?_
  refine nd_batch tabOk2 tabZ_ok2 [(0, {}), (1, {})] [6, 3, 0, 1, 4, 5, 7, 53, 66, 129] (T' := [(6, .pointer (some ⟨b14, 0, none⟩)), (3, .pointer (some ⟨b2, 0, none⟩)), (0, .pointer (some ⟨mb, 0, none⟩)), (1, .agg #[.int .u8 11, .int .u32 ev.pick, .int .u64 ev.draw, .int .u32 ev.addr, .int .u32 ev.node, .int .u32 ev.dst, .int .u32 ev.xfer, .int .u8 ev.ty, .int .u64 ev.arg, .int .u64 ev.badge, .slice xo ev.ws.length cx]), (4, .int .u8 0), (5, .bool false), (7, .pointer (some ⟨(Z.tp x), 0, none⟩)), (53, .int .u8 11), (66, .bool false), (129, .bool false)]) (φ := True) (rest := []) h49 (by kernel_rfl) rfl trivial fun a51 h52 => ?_
  clear h49
  refine nd_done ?_
  refine hK50 _ _ ?_
  clear hK50
  refine c_false h52 rfl ?_
  refine wp_seq_k fun K53 hK53 => ?_
  refine nd_start (l := [0, 1]) rfl ?_
  refine nd_batch tabOk2 tabZ_ok2 [(0, {}), (1, {})] [6, 3, 0, 1, 4, 5, 7, 53, 66, 165] (T' := [(6, .pointer (some ⟨b14, 0, none⟩)), (3, .pointer (some ⟨b2, 0, none⟩)), (0, .pointer (some ⟨mb, 0, none⟩)), (1, .agg #[.int .u8 11, .int .u32 ev.pick, .int .u64 ev.draw, .int .u32 ev.addr, .int .u32 ev.node, .int .u32 ev.dst, .int .u32 ev.xfer, .int .u8 ev.ty, .int .u64 ev.arg, .int .u64 ev.badge, .slice xo ev.ws.length cx]), (4, .int .u8 0), (5, .bool false), (7, .pointer (some ⟨(Z.tp x), 0, none⟩)), (53, .int .u8 11), (66, .bool false), (165, .bool false)]) (φ := True) (rest := []) h52 (by kernel_rfl) rfl trivial fun a54 h55 => ?_
  clear h52
  refine nd_done ?_
  refine hK53 _ _ ?_
  clear hK53
  refine c_false h55 rfl ?_
  refine wp_seq_k fun K56 hK56 => ?_
  refine nd_start (l := [0, 1]) rfl ?_
  refine nd_batch tabOk2 tabZ_ok2 [(0, {}), (1, {})] [6, 3, 0, 1, 4, 5, 7, 53, 66, 226] (T' := [(6, .pointer (some ⟨b14, 0, none⟩)), (3, .pointer (some ⟨b2, 0, none⟩)), (0, .pointer (some ⟨mb, 0, none⟩)), (1, .agg #[.int .u8 11, .int .u32 ev.pick, .int .u64 ev.draw, .int .u32 ev.addr, .int .u32 ev.node, .int .u32 ev.dst, .int .u32 ev.xfer, .int .u8 ev.ty, .int .u64 ev.arg, .int .u64 ev.badge, .slice xo ev.ws.length cx]), (4, .int .u8 0), (5, .bool false), (7, .pointer (some ⟨(Z.tp x), 0, none⟩)), (53, .int .u8 11), (66, .bool false), (226, .bool false)]) (φ := True) (rest := []) h55 (by kernel_rfl) rfl trivial fun a57 h58 => ?_
  clear h55
  refine nd_done ?_
  refine hK56 _ _ ?_
  clear hK56
  refine c_false h58 rfl ?_
  refine wp_seq_k fun K59 hK59 => ?_
  refine nd_start (l := [0, 1]) rfl ?_
  refine nd_batch tabOk2 tabZ_ok2 [(0, {}), (1, {})] [6, 3, 0, 1, 4, 5, 7, 53, 66, 244] (T' := [(6, .pointer (some ⟨b14, 0, none⟩)), (3, .pointer (some ⟨b2, 0, none⟩)), (0, .pointer (some ⟨mb, 0, none⟩)), (1, .agg #[.int .u8 11, .int .u32 ev.pick, .int .u64 ev.draw, .int .u32 ev.addr, .int .u32 ev.node, .int .u32 ev.dst, .int .u32 ev.xfer, .int .u8 ev.ty, .int .u64 ev.arg, .int .u64 ev.badge, .slice xo ev.ws.length cx]), (4, .int .u8 0), (5, .bool false), (7, .pointer (some ⟨(Z.tp x), 0, none⟩)), (53, .int .u8 11), (66, .bool false), (244, .bool false)]) (φ := True) (rest := []) h58 (by kernel_rfl) rfl trivial fun a60 h61 => ?_
  clear h58
  refine nd_done ?_
  refine hK59 _ _ ?_
  clear hK59
  refine c_false h61 rfl ?_
  refine wp_seq_k fun K62 hK62 => ?_
  refine nd_start (l := [0, 1]) rfl ?_
  refine nd_batch tabOk2 tabZ_ok2 [(0, {}), (1, {})] [6, 3, 0, 1, 4, 5, 7, 53, 66, 285] (T' := [(6, .pointer (some ⟨b14, 0, none⟩)), (3, .pointer (some ⟨b2, 0, none⟩)), (0, .pointer (some ⟨mb, 0, none⟩)), (1, .agg #[.int .u8 11, .int .u32 ev.pick, .int .u64 ev.draw, .int .u32 ev.addr, .int .u32 ev.node, .int .u32 ev.dst, .int .u32 ev.xfer, .int .u8 ev.ty, .int .u64 ev.arg, .int .u64 ev.badge, .slice xo ev.ws.length cx]), (4, .int .u8 0), (5, .bool false), (7, .pointer (some ⟨(Z.tp x), 0, none⟩)), (53, .int .u8 11), (66, .bool false), (285, .bool false)]) (φ := True) (rest := []) h61 (by kernel_rfl) rfl trivial fun a63 h64 => ?_
  clear h61
  refine nd_done ?_
  refine hK62 _ _ ?_
  clear hK62
  refine c_false h64 rfl ?_
  refine wp_seq_k fun K65 hK65 => ?_
  refine nd_start (l := [0, 1]) rfl ?_
  refine nd_batch tabOk2 tabZ_ok2 [(0, {}), (1, {})] [6, 3, 0, 1, 4, 5, 7, 53, 66, 388] (T' := [(6, .pointer (some ⟨b14, 0, none⟩)), (3, .pointer (some ⟨b2, 0, none⟩)), (0, .pointer (some ⟨mb, 0, none⟩)), (1, .agg #[.int .u8 11, .int .u32 ev.pick, .int .u64 ev.draw, .int .u32 ev.addr, .int .u32 ev.node, .int .u32 ev.dst, .int .u32 ev.xfer, .int .u8 ev.ty, .int .u64 ev.arg, .int .u64 ev.badge, .slice xo ev.ws.length cx]), (4, .int .u8 0), (5, .bool false), (7, .pointer (some ⟨(Z.tp x), 0, none⟩)), (53, .int .u8 11), (66, .bool false), (388, .bool true)]) (φ := True) (rest := []) h64 (by kernel_rfl) rfl trivial fun a66 h67 => ?_
  clear h64
  refine nd_done ?_
  refine hK65 _ _ ?_
  clear hK65
  refine c_true h67 rfl ?_
  refine wp_seq_k fun K68 hK68 => ?_
  refine nd_start (l := [0, 1, 2, 3, 4, 5, 6, 7, 8]) rfl ?_
  refine nd_batch tabOk2 tabZ_ok2 [(0, {}), (1, {}), (2, {k := 1})] [6, 3, 0, 1, 4, 5, 7, 53, 66, 391, 393] (T' := [(6, .pointer (some ⟨b14, 0, none⟩)), (3, .pointer (some ⟨b2, 0, none⟩)), (0, .pointer (some ⟨mb, 0, none⟩)), (1, .agg #[.int .u8 11, .int .u32 ev.pick, .int .u64 ev.draw, .int .u32 ev.addr, .int .u32 ev.node, .int .u32 ev.dst, .int .u32 ev.xfer, .int .u8 ev.ty, .int .u64 ev.arg, .int .u64 ev.badge, .slice xo ev.ws.length cx]), (4, .int .u8 0), (5, .bool false), (7, .pointer (some ⟨(Z.tp x), 0, none⟩)), (53, .int .u8 11), (66, .bool false), (391, .pointer (some ⟨mb, 0, none⟩)), (393, .int .u32 ev.addr)]) (φ := (b2 = b2 ∧ Nat.ble (3 + 1) 11 = true) ∧ True) (rest := [3, 4, 5, 6, 7, 8]) h67 (by kernel_rfl) rfl ⟨⟨rfl, rfl⟩, trivial⟩ fun a69 h70 => ?_
  clear h67
  refine nd_op ?_
  refine op_call h70 rfl rfl rfl (callOk Tryd.func93 (by decide) rfl) (args := [.pointer (some ⟨mb, 0, none⟩), .int .u32 ev.addr]) rfl (cellOf_ok mb Z _ a C x hx hcx hci ev.addr he.addr e1 _ (mh_of h70 hho (k := 0) rfl)) ?_
  rintro _ w71 ⟨rfl, hg73⟩
  refine ⟨_, rfl, ?_⟩
  have h74a := st_mg h70 hg73 (kcons (fun _ => rfl) (kcons (fun hq => by cases hq) (kcons (fun hq => by cases hq) knil)))
  have h74 := h74a.put (d := some 394) (v := .tuple #[.int .i64 s1, .int .u8 0]) (T' := [(394, .tuple #[.int .i64 s1, .int .u8 0]), (6, .pointer (some ⟨b14, 0, none⟩)), (3, .pointer (some ⟨b2, 0, none⟩)), (0, .pointer (some ⟨mb, 0, none⟩)), (1, .agg #[.int .u8 11, .int .u32 ev.pick, .int .u64 ev.draw, .int .u32 ev.addr, .int .u32 ev.node, .int .u32 ev.dst, .int .u32 ev.xfer, .int .u8 ev.ty, .int .u64 ev.arg, .int .u64 ev.badge, .slice xo ev.ws.length cx]), (4, .int .u8 0), (5, .bool false), (7, .pointer (some ⟨(Z.tp x), 0, none⟩)), (53, .int .u8 11), (66, .bool false), (391, .pointer (some ⟨mb, 0, none⟩)), (393, .int .u32 ev.addr)]) rfl
  have hhoh74 := hg73.mh.ho
  clear h70 h74a
  refine nd_batch tabOk2 tabZ_ok2 [(4, {}), (5, {}), (6, {}), (7, {}), (8, {})] [6, 3, 0, 1, 4, 5, 7, 53, 66, 27, 28] (T' := [(6, .pointer (some ⟨b14, 0, none⟩)), (3, .pointer (some ⟨b2, 0, none⟩)), (0, .pointer (some ⟨mb, 0, none⟩)), (1, .agg #[.int .u8 11, .int .u32 ev.pick, .int .u64 ev.draw, .int .u32 ev.addr, .int .u32 ev.node, .int .u32 ev.dst, .int .u32 ev.xfer, .int .u8 ev.ty, .int .u64 ev.arg, .int .u64 ev.badge, .slice xo ev.ws.length cx]), (4, .int .u8 0), (5, .bool false), (7, .pointer (some ⟨(Z.tp x), 0, none⟩)), (53, .int .u8 11), (66, .bool false), (27, .int .i64 s1), (28, .int .u8 0)]) (φ := True) (rest := []) h74 (by kernel_rfl) rfl trivial fun a75 h76 => ?_
  clear h74
  refine nd_done ?_
  refine hK68 _ _ ?_
  clear hK68
  refine wp_seq_k fun K77 hK77 => ?_
  refine wp_seq_k fun K78 hK78 => ?_
  refine nd_start (l := [0, 1]) rfl ?_
  refine nd_batch tabOk2 tabZ_ok2 [(0, {}), (1, {})] [6, 3, 0, 1, 4, 5, 7, 53, 66, 27, 28, 398] (T' := [(6, .pointer (some ⟨b14, 0, none⟩)), (3, .pointer (some ⟨b2, 0, none⟩)), (0, .pointer (some ⟨mb, 0, none⟩)), (1, .agg #[.int .u8 11, .int .u32 ev.pick, .int .u64 ev.draw, .int .u32 ev.addr, .int .u32 ev.node, .int .u32 ev.dst, .int .u32 ev.xfer, .int .u8 ev.ty, .int .u64 ev.arg, .int .u64 ev.badge, .slice xo ev.ws.length cx]), (4, .int .u8 0), (5, .bool false), (7, .pointer (some ⟨(Z.tp x), 0, none⟩)), (53, .int .u8 11), (66, .bool false), (27, .int .i64 s1), (28, .int .u8 0), (398, .bool false)]) (φ := True) (rest := []) h76 (by kernel_rfl) rfl trivial fun a79 h80 => ?_
  clear h76
  refine nd_done ?_
  refine hK78 _ _ ?_
  clear hK78
  refine c_false h80 rfl ?_
  refine wp_skip ?_
  refine hK77 _ _ ?_
  clear hK77
  refine wp_seq_k fun K81 hK81 => ?_
  refine nd_start (l := [0, 1, 2, 3, 4, 5, 6, 7, 8, 9]) rfl ?_
  refine nd_batch tabOk2 tabZ_ok2 [(0, {}), (1, {}), (2, {k := 1})] [6, 3, 0, 1, 4, 5, 7, 53, 66, 27, 28, 401, 403] (T' := [(6, .pointer (some ⟨b14, 0, none⟩)), (3, .pointer (some ⟨b2, 0, none⟩)), (0, .pointer (some ⟨mb, 0, none⟩)), (1, .agg #[.int .u8 11, .int .u32 ev.pick, .int .u64 ev.draw, .int .u32 ev.addr, .int .u32 ev.node, .int .u32 ev.dst, .int .u32 ev.xfer, .int .u8 ev.ty, .int .u64 ev.arg, .int .u64 ev.badge, .slice xo ev.ws.length cx]), (4, .int .u8 0), (5, .bool false), (7, .pointer (some ⟨(Z.tp x), 0, none⟩)), (53, .int .u8 11), (66, .bool false), (27, .int .i64 s1), (28, .int .u8 0), (401, .pointer (some ⟨mb, 0, none⟩)), (403, .int .u32 ev.node)]) (φ := (b2 = b2 ∧ Nat.ble (4 + 1) 11 = true) ∧ True) (rest := [3, 4, 5, 6, 7, 8, 9]) h80 (by kernel_rfl) rfl ⟨⟨rfl, rfl⟩, trivial⟩ fun a82 h83 => ?_
  clear h80
  refine nd_op ?_
  refine op_call h83 rfl rfl rfl (callOk Tryd.func90 (by decide) rfl) (args := [.pointer (some ⟨mb, 0, none⟩), .int .u32 ev.node, .int .u8 2, .int .u8 2]) rfl (capOf_ok mb Z _ a C x hx hcx hci hcn hI.ci ev.node 2 2 he.node _ (mh_of h83 hhoh74 (k := 0) rfl) hf2) ?_
  rintro _ w84 ⟨rfl, hg86⟩
  refine ⟨_, rfl, ?_⟩
  have h87a := st_mg h83 hg86 (kcons (fun _ => rfl) (kcons (fun hq => by cases hq) (kcons (fun hq => by cases hq) knil)))
  have h87 := h87a.put (d := some 404) (v := .tuple #[.agg #[.int .u8 c2.ty, .int .u16 c2.obj.idx, .int .u32 c2.obj.gen, .int .u8 c2.rights, .int .u64 c2.badge], .int .u8 k2]) (T' := [(404, .tuple #[.agg #[.int .u8 c2.ty, .int .u16 c2.obj.idx, .int .u32 c2.obj.gen, .int .u8 c2.rights, .int .u64 c2.badge], .int .u8 k2]), (6, .pointer (some ⟨b14, 0, none⟩)), (3, .pointer (some ⟨b2, 0, none⟩)), (0, .pointer (some ⟨mb, 0, none⟩)), (1, .agg #[.int .u8 11, .int .u32 ev.pick, .int .u64 ev.draw, .int .u32 ev.addr, .int .u32 ev.node, .int .u32 ev.dst, .int .u32 ev.xfer, .int .u8 ev.ty, .int .u64 ev.arg, .int .u64 ev.badge, .slice xo ev.ws.length cx]), (4, .int .u8 0), (5, .bool false), (7, .pointer (some ⟨(Z.tp x), 0, none⟩)), (53, .int .u8 11), (66, .bool false), (27, .int .i64 s1), (28, .int .u8 0), (401, .pointer (some ⟨mb, 0, none⟩)), (403, .int .u32 ev.node)]) rfl
  have hhoh87 := hg86.mh.ho
  clear h83 h87a
  refine nd_batch tabOk2 tabZ_ok2 [(4, {}), (5, {}), (6, {})] [6, 3, 0, 1, 4, 5, 7, 53, 66, 27, 28, 405, 406] (T' := [(6, .pointer (some ⟨b14, 0, none⟩)), (3, .pointer (some ⟨b2, 0, none⟩)), (0, .pointer (some ⟨mb, 0, none⟩)), (1, .agg #[.int .u8 11, .int .u32 ev.pick, .int .u64 ev.draw, .int .u32 ev.addr, .int .u32 ev.node, .int .u32 ev.dst, .int .u32 ev.xfer, .int .u8 ev.ty, .int .u64 ev.arg, .int .u64 ev.badge, .slice xo ev.ws.length cx]), (4, .int .u8 0), (5, .bool false), (7, .pointer (some ⟨(Z.tp x), 0, none⟩)), (53, .int .u8 11), (66, .bool false), (27, .int .i64 s1), (28, .int .u8 0), (405, .agg #[.int .u8 c2.ty, .int .u16 c2.obj.idx, .int .u32 c2.obj.gen, .int .u8 c2.rights, .int .u64 c2.badge]), (406, .int .u8 k2)]) (φ := True) (rest := [7, 8, 9]) h87 (by kernel_rfl) rfl trivial fun a88 h89 => ?_
  clear h87
  refine nd_op ?_
  refine op_new tabOk2 (cells := [.int .u8 0, .int .u16 0, .int .u32 0, .int .u8 0, .int .u64 0]) (ty := 49) (ln := none) (L1 := fun b90 => [(3, ⟨[.int .u16 0, .int .u32 0], ty3, true⟩), (b2, ⟨[.int .u8 11, .int .u32 ev.pick, .int .u64 ev.draw, .int .u32 ev.addr, .int .u32 ev.node, .int .u32 ev.dst, .int .u32 ev.xfer, .int .u8 ev.ty, .int .u64 ev.arg, .int .u64 ev.badge, .slice xo ev.ws.length cx], 35, false⟩), (b14, ⟨[.int .u16 ((Z.ky x).idx), .int .u32 ((Z.ky x).gen)], 39, false⟩), (b90, ⟨[.int .u8 0, .int .u16 0, .int .u32 0, .int .u8 0, .int .u64 0], 49, false⟩)]) h89 rfl rfl rfl rfl (by kernel_rfl) (fun _ => rfl) fun b90 w91 a92 h93 hf94 hn95 => ?_
  clear h89
  refine nd_op ?_
  refine op_store tabOk2 {k := 3} (L' := [(3, ⟨[.int .u16 0, .int .u32 0], ty3, true⟩), (b2, ⟨[.int .u8 11, .int .u32 ev.pick, .int .u64 ev.draw, .int .u32 ev.addr, .int .u32 ev.node, .int .u32 ev.dst, .int .u32 ev.xfer, .int .u8 ev.ty, .int .u64 ev.arg, .int .u64 ev.badge, .slice xo ev.ws.length cx], 35, false⟩), (b14, ⟨[.int .u16 ((Z.ky x).idx), .int .u32 ((Z.ky x).gen)], 39, false⟩), (b90, ⟨[.int .u8 c2.ty, .int .u16 c2.obj.idx, .int .u32 c2.obj.gen, .int .u8 c2.rights, .int .u64 c2.badge], 49, false⟩)]) (φ := b90 = b90 ∧ Nat.ble (0 + 5) 5 = true) h93 rfl rfl rfl (by kernel_rfl) ⟨rfl, rfl⟩ fun w96 h97 => ?_
  clear h93
  refine nd_batch tabOk2 tabZ_ok2 [(9, {})] [29, 6, 3, 0, 1, 4, 5, 7, 53, 66, 27, 28] (T' := [(29, .pointer (some ⟨b90, 0, none⟩)), (6, .pointer (some ⟨b14, 0, none⟩)), (3, .pointer (some ⟨b2, 0, none⟩)), (0, .pointer (some ⟨mb, 0, none⟩)), (1, .agg #[.int .u8 11, .int .u32 ev.pick, .int .u64 ev.draw, .int .u32 ev.addr, .int .u32 ev.node, .int .u32 ev.dst, .int .u32 ev.xfer, .int .u8 ev.ty, .int .u64 ev.arg, .int .u64 ev.badge, .slice xo ev.ws.length cx]), (4, .int .u8 0), (5, .bool false), (7, .pointer (some ⟨(Z.tp x), 0, none⟩)), (53, .int .u8 11), (66, .bool false), (27, .int .i64 s1), (28, .int .u8 k2)]) (φ := True) (rest := []) h97 (by kernel_rfl) rfl trivial fun a98 h99 => ?_
  clear h97
  refine nd_done ?_
  refine hK81 _ _ ?_
  clear hK81
  refine wp_seq_k fun K100 hK100 => ?_
  refine wp_seq_k fun K101 hK101 => ?_
  refine nd_start (l := [0, 1]) rfl ?_
  refine nd_batch tabOk2 tabZ_ok2 [(0, {}), (1, {})] [29, 6, 3, 0, 1, 4, 5, 7, 53, 66, 27, 28, 408] (T' := [(29, .pointer (some ⟨b90, 0, none⟩)), (6, .pointer (some ⟨b14, 0, none⟩)), (3, .pointer (some ⟨b2, 0, none⟩)), (0, .pointer (some ⟨mb, 0, none⟩)), (1, .agg #[.int .u8 11, .int .u32 ev.pick, .int .u64 ev.draw, .int .u32 ev.addr, .int .u32 ev.node, .int .u32 ev.dst, .int .u32 ev.xfer, .int .u8 ev.ty, .int .u64 ev.arg, .int .u64 ev.badge, .slice xo ev.ws.length cx]), (4, .int .u8 0), (5, .bool false), (7, .pointer (some ⟨(Z.tp x), 0, none⟩)), (53, .int .u8 11), (66, .bool false), (27, .int .i64 s1), (28, .int .u8 k2), (408, .bool (k2 != 0))]) (φ := True) (rest := []) h99 (by kernel_rfl) rfl trivial fun a102 h103 => ?_
  clear h99
  refine nd_done ?_
  refine hK101 _ _ ?_
  clear hK101
  refine c_split h103 (b := (k2 != 0)) rfl (fun hc104 => ?_) (fun hc104 => ?_)
  ·
    have hc104f : k2 ≠ 0 := by simpa using hc104
    refine wp_seq_k fun K105 hK105 => ?_
    refine nd_start (l := [0, 1, 2]) rfl ?_
    refine nd_batch tabOk2 tabZ_ok2 [(0, {}), (1, {}), (2, {})] [29, 6, 3, 0, 1, 7, 53, 66, 27, 28, 4, 5] (T' := [(29, .pointer (some ⟨b90, 0, none⟩)), (6, .pointer (some ⟨b14, 0, none⟩)), (3, .pointer (some ⟨b2, 0, none⟩)), (0, .pointer (some ⟨mb, 0, none⟩)), (1, .agg #[.int .u8 11, .int .u32 ev.pick, .int .u64 ev.draw, .int .u32 ev.addr, .int .u32 ev.node, .int .u32 ev.dst, .int .u32 ev.xfer, .int .u8 ev.ty, .int .u64 ev.arg, .int .u64 ev.badge, .slice xo ev.ws.length cx]), (7, .pointer (some ⟨(Z.tp x), 0, none⟩)), (53, .int .u8 11), (66, .bool false), (27, .int .i64 s1), (28, .int .u8 k2), (4, .int .u8 k2), (5, .bool false)]) (φ := True) (rest := []) h103 (by kernel_rfl) rfl trivial fun a106 h107 => ?_
    clear h103
    refine nd_done ?_
    refine hK105 _ _ ?_
    clear hK105
    refine wp_ret ?_
    try simp only [Exit.then, Exit.inBlock]
    try rw [if_pos trivial]
    exact s_ret tabOk2 tabZ_ok2 h107 [(.tmp 4, {}), (.tmp 5, {})] (vs := [.int .u8 k2, .bool false]) (φ := True) rfl (by kernel_rfl) trivial (by exact ⟨rfl, _, mg_end hH h107 hhoh87 rfl⟩)
  ·
    have hc104f : k2 = 0 := by simpa using hc104
    exact absurd hc104f hk0

theorem call11c (mb : Nat) (Z : MZ) (R : MR) (a : AK) (C : CP) (hI : MI Z a C) (x : Nat) (hx : x ∈ sl Z.tl) (hcu : a.cur = (x : Int)) (ev : Ev) (he : EvOk ev) (xo : Option Addr) (cx : Nat) (s1 : Int) (e1 : lookP C.ent (a.th x).cs ev.addr = (s1, 0)) (c2 : Cp) (s3 : Int) (hf2 : findA a C ev.node 2 2 = (c2, s3, 0)) (hci2 : 0 ≤ c2.obj.idx ∧ c2.obj.idx < 256) (s2 k3 : Int) (e2 : lookP C.ent c2.obj ev.dst = (s2, k3)) (hk0 : k3 ≠ 0) (w : World) (hH : MH mb Z R a C w) (hws : WordsAt (mdF mb Z R C) w xo ev.ws) :
    Calls Tryd.prog 55 #[.pointer (some ⟨mb, 0, none⟩), .agg #[.int .u8 11, .int .u32 ev.pick, .int .u64 ev.draw, .int .u32 ev.addr, .int .u32 ev.node, .int .u32 ev.dst, .int .u32 ev.xfer, .int .u8 ev.ty, .int .u64 ev.arg, .int .u64 ev.badge, .slice xo ev.ws.length cx]] w fun e w' => e = .returned (.tuple #[.int .u8 k3, .bool false]) ∧ ∃ R', MG mb Z R C w Z R' a C w' := by
  have hP := hI.mp
  have hcx : curR Z a = Z.ky x := curR_of hcu
  have hcn : a.cur.toNat = x := by rw [hcu]; exact Int.toNat_natCast x
  have hci := (hI.tk x hx).ci
  obtain ⟨ty3, hg3⟩ := hH.g3
  have hho := hH.ho
  have hkk := hH.md.k
  refine enter (n := 628) (K := mdF mb Z R C) (A := MD (mdF mb Z R C) w.heap.size mb Z R a C) (F := mdF mb Z R C) (T := [(0, .pointer (some ⟨mb, 0, none⟩)), (1, .agg #[.int .u8 11, .int .u32 ev.pick, .int .u64 ev.draw, .int .u32 ev.addr, .int .u32 ev.node, .int .u32 ev.dst, .int .u32 ev.xfer, .int .u8 ev.ty, .int .u64 ev.arg, .int .u64 ev.badge, .slice xo ev.ws.length cx])]) (L := [(3, ⟨[.int .u16 0, .int .u32 0], ty3, true⟩)]) (args := [.pointer (some ⟨mb, 0, none⟩), .agg #[.int .u8 11, .int .u32 ev.pick, .int .u64 ev.draw, .int .u32 ev.addr, .int .u32 ev.node, .int .u32 ev.dst, .int .u32 ev.xfer, .int .u8 ev.ty, .int .u64 ev.arg, .int .u64 ev.badge, .slice xo ev.ws.length cx]]) Tryd.func55 rfl rfl rfl rfl (kcons hg3 knil) (by simp) (kcons (by intro hq; cases hq) knil) hH.mD MD.stable hH.md.low (kcons (by intro hq; cases hq) knil) ?_
  intro ac h
  refine wp_seq_k fun K1 hK1 => ?_
  refine nd_start (l := [0, 1, 2]) rfl ?_
  refine nd_op ?_
  refine op_new tabOk2 (cells := [.int .u8 11, .int .u32 ev.pick, .int .u64 ev.draw, .int .u32 ev.addr, .int .u32 ev.node, .int .u32 ev.dst, .int .u32 ev.xfer, .int .u8 ev.ty, .int .u64 ev.arg, .int .u64 ev.badge, .slice xo ev.ws.length cx]) (ty := 35) (ln := none) (L1 := fun b2 => [(3, ⟨[.int .u16 0, .int .u32 0], ty3, true⟩), (b2, ⟨[.int .u8 11, .int .u32 ev.pick, .int .u64 ev.draw, .int .u32 ev.addr, .int .u32 ev.node, .int .u32 ev.dst, .int .u32 ev.xfer, .int .u8 ev.ty, .int .u64 ev.arg, .int .u64 ev.badge, .slice xo ev.ws.length cx], 35, false⟩)]) h rfl rfl rfl rfl (by kernel_rfl) (fun _ => rfl) fun b2 w3 a4 h5 hf6 hn7 => ?_
  clear h
  refine nd_batch tabOk2 tabZ_ok2 [(1, {}), (2, {})] [3, 0, 1, 4, 5] (T' := [(3, .pointer (some ⟨b2, 0, none⟩)), (0, .pointer (some ⟨mb, 0, none⟩)), (1, .agg #[.int .u8 11, .int .u32 ev.pick, .int .u64 ev.draw, .int .u32 ev.addr, .int .u32 ev.node, .int .u32 ev.dst, .int .u32 ev.xfer, .int .u8 ev.ty, .int .u64 ev.arg, .int .u64 ev.badge, .slice xo ev.ws.length cx]), (4, .int .u8 0), (5, .bool false)]) (φ := True) (rest := []) h5 (by kernel_rfl) rfl trivial fun a8 h9 => ?_
  clear h5
  refine nd_done ?_
  refine hK1 _ _ ?_
  clear hK1
  refine wp_seq_k fun K10 hK10 => ?_
  refine nd_start (l := [0, 1, 2, 3, 4, 5]) rfl ?_
  refine nd_batch tabOk2 tabZ_ok2 [(0, {}), (1, {}), (2, {})] [3, 0, 1, 4, 5, 44] (T' := [(3, .pointer (some ⟨b2, 0, none⟩)), (0, .pointer (some ⟨mb, 0, none⟩)), (1, .agg #[.int .u8 11, .int .u32 ev.pick, .int .u64 ev.draw, .int .u32 ev.addr, .int .u32 ev.node, .int .u32 ev.dst, .int .u32 ev.xfer, .int .u8 ev.ty, .int .u64 ev.arg, .int .u64 ev.badge, .slice xo ev.ws.length cx]), (4, .int .u8 0), (5, .bool false), (44, .pointer (some ⟨mb, 13, none⟩))]) (φ := True) (rest := [3, 4, 5]) h9 (by kernel_rfl) rfl trivial fun a11 h12 => ?_
  clear h9
  refine nd_op ?_
  refine op_read (b := mb) (v := .agg #[.int .u16 ((Z.ky x).idx), .int .u32 ((Z.ky x).gen)]) h12 rfl rfl (rd_mA h12 (k := 13) (vs := [.int .u16 ((Z.ky x).idx), .int .u32 ((Z.ky x).gen)]) rfl rfl rfl rfl rfl (by rw [← hcx]; exact md_cur)) ?_
  have h13 := h12.put (d := some 45) (v := .agg #[.int .u16 ((Z.ky x).idx), .int .u32 ((Z.ky x).gen)]) (T' := [(45, .agg #[.int .u16 ((Z.ky x).idx), .int .u32 ((Z.ky x).gen)]), (3, .pointer (some ⟨b2, 0, none⟩)), (0, .pointer (some ⟨mb, 0, none⟩)), (1, .agg #[.int .u8 11, .int .u32 ev.pick, .int .u64 ev.draw, .int .u32 ev.addr, .int .u32 ev.node, .int .u32 ev.dst, .int .u32 ev.xfer, .int .u8 ev.ty, .int .u64 ev.arg, .int .u64 ev.badge, .slice xo ev.ws.length cx]), (4, .int .u8 0), (5, .bool false), (44, .pointer (some ⟨mb, 13, none⟩))]) rfl
  clear h12
  refine nd_op ?_
  refine op_new tabOk2 (cells := [.int .u16 0, .int .u32 0]) (ty := 39) (ln := none) (L1 := fun b14 => [(3, ⟨[.int .u16 0, .int .u32 0], ty3, true⟩), (b2, ⟨[.int .u8 11, .int .u32 ev.pick, .int .u64 ev.draw, .int .u32 ev.addr, .int .u32 ev.node, .int .u32 ev.dst, .int .u32 ev.xfer, .int .u8 ev.ty, .int .u64 ev.arg, .int .u64 ev.badge, .slice xo ev.ws.length cx], 35, false⟩), (b14, ⟨[.int .u16 0, .int .u32 0], 39, false⟩)]) h13 rfl rfl rfl rfl (by kernel_rfl) (fun _ => rfl) fun b14 w15 a16 h17 hf18 hn19 => ?_
  clear h13
  refine nd_op ?_
  refine op_store tabOk2 {k := 2} (L' := [(3, ⟨[.int .u16 0, .int .u32 0], ty3, true⟩), (b2, ⟨[.int .u8 11, .int .u32 ev.pick, .int .u64 ev.draw, .int .u32 ev.addr, .int .u32 ev.node, .int .u32 ev.dst, .int .u32 ev.xfer, .int .u8 ev.ty, .int .u64 ev.arg, .int .u64 ev.badge, .slice xo ev.ws.length cx], 35, false⟩), (b14, ⟨[.int .u16 ((Z.ky x).idx), .int .u32 ((Z.ky x).gen)], 39, false⟩)]) (φ := b14 = b14 ∧ Nat.ble (0 + 2) 2 = true) h17 rfl rfl rfl (by kernel_rfl) ⟨rfl, rfl⟩ fun w20 h21 => ?_
  clear h17
  refine nd_done ?_
  refine hK10 _ _ ?_
  clear hK10
  refine wp_seq_k fun K22 hK22 => ?_
  refine dr_start (KB := [3, b2, b14, mb, Z.tb]) (Bi := [[0, 1, 2, 3, 4], [0, 1, 2, 3, 4], [0, 1, 2, 3, 4], [0, 1, 2, 3, 4], [0, 1, 2, 3, 4], [0, 1, 2, 3, 4], [0, 1, 2, 3, 4]]) mixed h21 fun w23 h24 => ?_
  clear h21
  refine dr_batch tabOk2 tabZ_ok2 (by repeat (first | with_reducible exact PF.body | with_reducible apply PF.inB | with_reducible apply PF.next)) [(0, {}), (1, {}), (2, {})] [6, 3, 0, 1, 4, 5, 48] (T' := [(6, .pointer (some ⟨b14, 0, none⟩)), (3, .pointer (some ⟨b2, 0, none⟩)), (0, .pointer (some ⟨mb, 0, none⟩)), (1, .agg #[.int .u8 11, .int .u32 ev.pick, .int .u64 ev.draw, .int .u32 ev.addr, .int .u32 ev.node, .int .u32 ev.dst, .int .u32 ev.xfer, .int .u8 ev.ty, .int .u64 ev.arg, .int .u64 ev.badge, .slice xo ev.ws.length cx]), (4, .int .u8 0), (5, .bool false), (48, .pointer (some ⟨mb, 2, none⟩))]) (φ := True) (fuel := 4) h24 (by kernel_rfl) rfl (by kernel_rfl) (by kernel_rfl) ⟨trivial, trivial, trivial, trivial⟩ trivial fun a26 h27 => ?_
  clear h24
  refine dr_read (i := 3) (b := mb) (p := 3) (v := .map (some Z.tb)) (fuel := 3) (by repeat (first | with_reducible exact PF.body | with_reducible apply PF.inB | with_reducible apply PF.next)) h27 rfl rfl rfl (by kernel_rfl) (by kernel_rfl) (by kernel_rfl) rfl (rd_m h27 (k := 2) (v := .map (some Z.tb)) rfl rfl rfl rfl (md_p ⟨rfl, trivial⟩)) ?_
  have h28 := h27.put (d := some 49) (v := .map (some Z.tb)) (T' := [(49, .map (some Z.tb)), (6, .pointer (some ⟨b14, 0, none⟩)), (3, .pointer (some ⟨b2, 0, none⟩)), (0, .pointer (some ⟨mb, 0, none⟩)), (1, .agg #[.int .u8 11, .int .u32 ev.pick, .int .u64 ev.draw, .int .u32 ev.addr, .int .u32 ev.node, .int .u32 ev.dst, .int .u32 ev.xfer, .int .u8 ev.ty, .int .u64 ev.arg, .int .u64 ev.badge, .slice xo ev.ws.length cx]), (4, .int .u8 0), (5, .bool false), (48, .pointer (some ⟨mb, 2, none⟩))]) rfl
  clear h27
  refine dr_batch tabOk2 tabZ_ok2 (by repeat (first | with_reducible exact PF.body | with_reducible apply PF.inB | with_reducible apply PF.next)) [(4, {k := 2, p := 2})] [49, 6, 3, 0, 1, 4, 5, 50] (T' := [(49, .map (some Z.tb)), (6, .pointer (some ⟨b14, 0, none⟩)), (3, .pointer (some ⟨b2, 0, none⟩)), (0, .pointer (some ⟨mb, 0, none⟩)), (1, .agg #[.int .u8 11, .int .u32 ev.pick, .int .u64 ev.draw, .int .u32 ev.addr, .int .u32 ev.node, .int .u32 ev.dst, .int .u32 ev.xfer, .int .u8 ev.ty, .int .u64 ev.arg, .int .u64 ev.badge, .slice xo ev.ws.length cx]), (4, .int .u8 0), (5, .bool false), (50, .agg #[.int .u16 ((Z.ky x).idx), .int .u32 ((Z.ky x).gen)])]) (φ := (b14 = b14 ∧ Nat.ble (0 + 2) 2 = true) ∧ True) (fuel := 2) h28 (by kernel_rfl) rfl (by kernel_rfl) (by kernel_rfl) ⟨rfl, trivial⟩ ⟨⟨rfl, rfl⟩, trivial⟩ fun a29 h30 => ?_
  clear h28
  refine dr_read (i := 5) (b := Z.tb) (p := 4) (v := .pointer (some ⟨(Z.tp x), 0, none⟩)) (fuel := 1) (by repeat (first | with_reducible exact PF.body | with_reducible apply PF.inB | with_reducible apply PF.next)) h30 rfl rfl rfl (by kernel_rfl) (by kernel_rfl) (by kernel_rfl) rfl (rd_T h30 (x := x) hx rfl rfl rfl) ?_
  have h31 := h30.put (d := some 51) (v := .pointer (some ⟨(Z.tp x), 0, none⟩)) (T' := [(51, .pointer (some ⟨(Z.tp x), 0, none⟩)), (49, .map (some Z.tb)), (6, .pointer (some ⟨b14, 0, none⟩)), (3, .pointer (some ⟨b2, 0, none⟩)), (0, .pointer (some ⟨mb, 0, none⟩)), (1, .agg #[.int .u8 11, .int .u32 ev.pick, .int .u64 ev.draw, .int .u32 ev.addr, .int .u32 ev.node, .int .u32 ev.dst, .int .u32 ev.xfer, .int .u8 ev.ty, .int .u64 ev.arg, .int .u64 ev.badge, .slice xo ev.ws.length cx]), (4, .int .u8 0), (5, .bool false), (50, .agg #[.int .u16 ((Z.ky x).idx), .int .u32 ((Z.ky x).gen)])]) rfl
  clear h30
  refine dr_batch tabOk2 tabZ_ok2 (by repeat (first | with_reducible exact PF.body | with_reducible apply PF.inB | with_reducible apply PF.next)) [(6, {})] [6, 3, 0, 1, 4, 5, 7] (T' := [(6, .pointer (some ⟨b14, 0, none⟩)), (3, .pointer (some ⟨b2, 0, none⟩)), (0, .pointer (some ⟨mb, 0, none⟩)), (1, .agg #[.int .u8 11, .int .u32 ev.pick, .int .u64 ev.draw, .int .u32 ev.addr, .int .u32 ev.node, .int .u32 ev.dst, .int .u32 ev.xfer, .int .u8 ev.ty, .int .u64 ev.arg, .int .u64 ev.badge, .slice xo ev.ws.length cx]), (4, .int .u8 0), (5, .bool false), (7, .pointer (some ⟨(Z.tp x), 0, none⟩))]) (φ := True) (fuel := 0) h31 (by kernel_rfl) rfl (by kernel_rfl) (by kernel_rfl) ⟨trivial, trivial⟩ trivial fun a32 h33 => ?_
  clear h31
  refine wpAnyK_done (by kernel_rfl) ?_ _
  refine hK22 _ _ ?_
  clear hK22
  refine wp_seq_k fun K34 hK34 => ?_
  refine wp_seq_k fun K35 hK35 => ?_
  refine nd_start (l := [0, 1]) rfl ?_
  refine nd_batch tabOk2 tabZ_ok2 [(0, {}), (1, {k := 1})] [6, 3, 0, 1, 4, 5, 7, 53] (T' := [(6, .pointer (some ⟨b14, 0, none⟩)), (3, .pointer (some ⟨b2, 0, none⟩)), (0, .pointer (some ⟨mb, 0, none⟩)), (1, .agg #[.int .u8 11, .int .u32 ev.pick, .int .u64 ev.draw, .int .u32 ev.addr, .int .u32 ev.node, .int .u32 ev.dst, .int .u32 ev.xfer, .int .u8 ev.ty, .int .u64 ev.arg, .int .u64 ev.badge, .slice xo ev.ws.length cx]), (4, .int .u8 0), (5, .bool false), (7, .pointer (some ⟨(Z.tp x), 0, none⟩)), (53, .int .u8 11)]) (φ := (b2 = b2 ∧ Nat.ble (0 + 1) 11 = true) ∧ True) (rest := []) h33 (by kernel_rfl) rfl ⟨⟨rfl, rfl⟩, trivial⟩ fun a36 h37 => ?_
  clear h33
  refine nd_done ?_
  refine hK35 _ _ ?_
  clear hK35
  refine wp_block ?_
  refine wp_seq_k fun K38 hK38 => ?_
  refine nd_start (l := [0, 1]) rfl ?_
  refine nd_batch tabOk2 tabZ_ok2 [(0, {}), (1, {})] [6, 3, 0, 1, 4, 5, 7, 53, 54] (T' := [(6, .pointer (some ⟨b14, 0, none⟩)), (3, .pointer (some ⟨b2, 0, none⟩)), (0, .pointer (some ⟨mb, 0, none⟩)), (1, .agg #[.int .u8 11, .int .u32 ev.pick, .int .u64 ev.draw, .int .u32 ev.addr, .int .u32 ev.node, .int .u32 ev.dst, .int .u32 ev.xfer, .int .u8 ev.ty, .int .u64 ev.arg, .int .u64 ev.badge, .slice xo ev.ws.length cx]), (4, .int .u8 0), (5, .bool false), (7, .pointer (some ⟨(Z.tp x), 0, none⟩)), (53, .int .u8 11), (54, .bool false)]) (φ := True) (rest := []) h37 (by kernel_rfl) rfl trivial fun a39 h40 => ?_
  clear h37
  refine nd_done ?_
  refine hK38 _ _ ?_
  clear hK38
  refine c_false h40 rfl ?_
  refine wp_seq_k fun K41 hK41 => ?_
  refine nd_start (l := [0, 1]) rfl ?_
  refine nd_batch tabOk2 tabZ_ok2 [(0, {}), (1, {})] [6, 3, 0, 1, 4, 5, 7, 53, 59] (T' := [(6, .pointer (some ⟨b14, 0, none⟩)), (3, .pointer (some ⟨b2, 0, none⟩)), (0, .pointer (some ⟨mb, 0, none⟩)), (1, .agg #[.int .u8 11, .int .u32 ev.pick, .int .u64 ev.draw, .int .u32 ev.addr, .int .u32 ev.node, .int .u32 ev.dst, .int .u32 ev.xfer, .int .u8 ev.ty, .int .u64 ev.arg, .int .u64 ev.badge, .slice xo ev.ws.length cx]), (4, .int .u8 0), (5, .bool false), (7, .pointer (some ⟨(Z.tp x), 0, none⟩)), (53, .int .u8 11), (59, .bool false)]) (φ := True) (rest := []) h40 (by kernel_rfl) rfl trivial fun a42 h43 => ?_
  clear h40
  refine nd_done ?_
  refine hK41 _ _ ?_
  clear hK41
  refine c_false h43 rfl ?_
  refine wp_seq_k fun K44 hK44 => ?_
  refine wp_seq_k fun K45 hK45 => ?_
  refine nd_start (l := [0, 1]) rfl ?_
  refine nd_batch tabOk2 tabZ_ok2 [(0, {}), (1, {})] [6, 3, 0, 1, 4, 5, 7, 53, 66] (T' := [(6, .pointer (some ⟨b14, 0, none⟩)), (3, .pointer (some ⟨b2, 0, none⟩)), (0, .pointer (some ⟨mb, 0, none⟩)), (1, .agg #[.int .u8 11, .int .u32 ev.pick, .int .u64 ev.draw, .int .u32 ev.addr, .int .u32 ev.node, .int .u32 ev.dst, .int .u32 ev.xfer, .int .u8 ev.ty, .int .u64 ev.arg, .int .u64 ev.badge, .slice xo ev.ws.length cx]), (4, .int .u8 0), (5, .bool false), (7, .pointer (some ⟨(Z.tp x), 0, none⟩)), (53, .int .u8 11), (66, .bool false)]) (φ := True) (rest := []) h43 (by kernel_rfl) rfl trivial fun a46 h47 => ?_
  clear h43
  refine nd_done ?_
  refine hK45 _ _ ?_
  clear hK45
  refine c_false h47 rfl ?_
  refine nd_start (l := [0, 1]) rfl ?_
  refine nd_batch tabOk2 tabZ_ok2 [(0, {}), (1, {})] [6, 3, 0, 1, 4, 5, 7, 53, 66] (T' := [(6, .pointer (some ⟨b14, 0, none⟩)), (3, .pointer (some ⟨b2, 0, none⟩)), (0, .pointer (some ⟨mb, 0, none⟩)), (1, .agg #[.int .u8 11, .int .u32 ev.pick, .int .u64 ev.draw, .int .u32 ev.addr, .int .u32 ev.node, .int .u32 ev.dst, .int .u32 ev.xfer, .int .u8 ev.ty, .int .u64 ev.arg, .int .u64 ev.badge, .slice xo ev.ws.length cx]), (4, .int .u8 0), (5, .bool false), (7, .pointer (some ⟨(Z.tp x), 0, none⟩)), (53, .int .u8 11), (66, .bool false)]) (φ := True) (rest := []) h47 (by kernel_rfl) rfl trivial fun a48 h49 => ?_
  clear h47
  refine nd_done ?_
  refine hK44 _ _ ?_
  clear hK44
  refine c_false h49 rfl ?_
  refine wp_seq_k fun K50 hK50 => ?_
  refine nd_start (l := [0, 1]) rfl ?_
  refine nd_batch tabOk2 tabZ_ok2 [(0, {}), (1, {})] [6, 3, 0, 1, 4, 5, 7, 53, 66, 129] (T' := [(6, .pointer (some ⟨b14, 0, none⟩)), (3, .pointer (some ⟨b2, 0, none⟩)), (0, .pointer (some ⟨mb, 0, none⟩)), (1, .agg #[.int .u8 11, .int .u32 ev.pick, .int .u64 ev.draw, .int .u32 ev.addr, .int .u32 ev.node, .int .u32 ev.dst, .int .u32 ev.xfer, .int .u8 ev.ty, .int .u64 ev.arg, .int .u64 ev.badge, .slice xo ev.ws.length cx]), (4, .int .u8 0), (5, .bool false), (7, .pointer (some ⟨(Z.tp x), 0, none⟩)), (53, .int .u8 11), (66, .bool false), (129, .bool false)]) (φ := True) (rest := []) h49 (by kernel_rfl) rfl trivial fun a51 h52 => ?_
  clear h49
  refine nd_done ?_
  refine hK50 _ _ ?_
  clear hK50
  refine c_false h52 rfl ?_
  refine wp_seq_k fun K53 hK53 => ?_
  refine nd_start (l := [0, 1]) rfl ?_
  refine nd_batch tabOk2 tabZ_ok2 [(0, {}), (1, {})] [6, 3, 0, 1, 4, 5, 7, 53, 66, 165] (T' := [(6, .pointer (some ⟨b14, 0, none⟩)), (3, .pointer (some ⟨b2, 0, none⟩)), (0, .pointer (some ⟨mb, 0, none⟩)), (1, .agg #[.int .u8 11, .int .u32 ev.pick, .int .u64 ev.draw, .int .u32 ev.addr, .int .u32 ev.node, .int .u32 ev.dst, .int .u32 ev.xfer, .int .u8 ev.ty, .int .u64 ev.arg, .int .u64 ev.badge, .slice xo ev.ws.length cx]), (4, .int .u8 0), (5, .bool false), (7, .pointer (some ⟨(Z.tp x), 0, none⟩)), (53, .int .u8 11), (66, .bool false), (165, .bool false)]) (φ := True) (rest := []) h52 (by kernel_rfl) rfl trivial fun a54 h55 => ?_
  clear h52
  refine nd_done ?_
  refine hK53 _ _ ?_
  clear hK53
  refine c_false h55 rfl ?_
  refine wp_seq_k fun K56 hK56 => ?_
  refine nd_start (l := [0, 1]) rfl ?_
  refine nd_batch tabOk2 tabZ_ok2 [(0, {}), (1, {})] [6, 3, 0, 1, 4, 5, 7, 53, 66, 226] (T' := [(6, .pointer (some ⟨b14, 0, none⟩)), (3, .pointer (some ⟨b2, 0, none⟩)), (0, .pointer (some ⟨mb, 0, none⟩)), (1, .agg #[.int .u8 11, .int .u32 ev.pick, .int .u64 ev.draw, .int .u32 ev.addr, .int .u32 ev.node, .int .u32 ev.dst, .int .u32 ev.xfer, .int .u8 ev.ty, .int .u64 ev.arg, .int .u64 ev.badge, .slice xo ev.ws.length cx]), (4, .int .u8 0), (5, .bool false), (7, .pointer (some ⟨(Z.tp x), 0, none⟩)), (53, .int .u8 11), (66, .bool false), (226, .bool false)]) (φ := True) (rest := []) h55 (by kernel_rfl) rfl trivial fun a57 h58 => ?_
  clear h55
  refine nd_done ?_
  refine hK56 _ _ ?_
  clear hK56
  refine c_false h58 rfl ?_
  refine wp_seq_k fun K59 hK59 => ?_
  refine nd_start (l := [0, 1]) rfl ?_
  refine nd_batch tabOk2 tabZ_ok2 [(0, {}), (1, {})] [6, 3, 0, 1, 4, 5, 7, 53, 66, 244] (T' := [(6, .pointer (some ⟨b14, 0, none⟩)), (3, .pointer (some ⟨b2, 0, none⟩)), (0, .pointer (some ⟨mb, 0, none⟩)), (1, .agg #[.int .u8 11, .int .u32 ev.pick, .int .u64 ev.draw, .int .u32 ev.addr, .int .u32 ev.node, .int .u32 ev.dst, .int .u32 ev.xfer, .int .u8 ev.ty, .int .u64 ev.arg, .int .u64 ev.badge, .slice xo ev.ws.length cx]), (4, .int .u8 0), (5, .bool false), (7, .pointer (some ⟨(Z.tp x), 0, none⟩)), (53, .int .u8 11), (66, .bool false), (244, .bool false)]) (φ := True) (rest := []) h58 (by kernel_rfl) rfl trivial fun a60 h61 => ?_
  clear h58
  refine nd_done ?_
  refine hK59 _ _ ?_
  clear hK59
  refine c_false h61 rfl ?_
  refine wp_seq_k fun K62 hK62 => ?_
  refine nd_start (l := [0, 1]) rfl ?_
  refine nd_batch tabOk2 tabZ_ok2 [(0, {}), (1, {})] [6, 3, 0, 1, 4, 5, 7, 53, 66, 285] (T' := [(6, .pointer (some ⟨b14, 0, none⟩)), (3, .pointer (some ⟨b2, 0, none⟩)), (0, .pointer (some ⟨mb, 0, none⟩)), (1, .agg #[.int .u8 11, .int .u32 ev.pick, .int .u64 ev.draw, .int .u32 ev.addr, .int .u32 ev.node, .int .u32 ev.dst, .int .u32 ev.xfer, .int .u8 ev.ty, .int .u64 ev.arg, .int .u64 ev.badge, .slice xo ev.ws.length cx]), (4, .int .u8 0), (5, .bool false), (7, .pointer (some ⟨(Z.tp x), 0, none⟩)), (53, .int .u8 11), (66, .bool false), (285, .bool false)]) (φ := True) (rest := []) h61 (by kernel_rfl) rfl trivial fun a63 h64 => ?_
  clear h61
  refine nd_done ?_
  refine hK62 _ _ ?_
  clear hK62
  refine c_false h64 rfl ?_
  refine wp_seq_k fun K65 hK65 => ?_
  refine nd_start (l := [0, 1]) rfl ?_
  refine nd_batch tabOk2 tabZ_ok2 [(0, {}), (1, {})] [6, 3, 0, 1, 4, 5, 7, 53, 66, 388] (T' := [(6, .pointer (some ⟨b14, 0, none⟩)), (3, .pointer (some ⟨b2, 0, none⟩)), (0, .pointer (some ⟨mb, 0, none⟩)), (1, .agg #[.int .u8 11, .int .u32 ev.pick, .int .u64 ev.draw, .int .u32 ev.addr, .int .u32 ev.node, .int .u32 ev.dst, .int .u32 ev.xfer, .int .u8 ev.ty, .int .u64 ev.arg, .int .u64 ev.badge, .slice xo ev.ws.length cx]), (4, .int .u8 0), (5, .bool false), (7, .pointer (some ⟨(Z.tp x), 0, none⟩)), (53, .int .u8 11), (66, .bool false), (388, .bool true)]) (φ := True) (rest := []) h64 (by kernel_rfl) rfl trivial fun a66 h67 => ?_
  clear h64
  refine nd_done ?_
  refine hK65 _ _ ?_
  clear hK65
  refine c_true h67 rfl ?_
  refine wp_seq_k fun K68 hK68 => ?_
  refine nd_start (l := [0, 1, 2, 3, 4, 5, 6, 7, 8]) rfl ?_
  refine nd_batch tabOk2 tabZ_ok2 [(0, {}), (1, {}), (2, {k := 1})] [6, 3, 0, 1, 4, 5, 7, 53, 66, 391, 393] (T' := [(6, .pointer (some ⟨b14, 0, none⟩)), (3, .pointer (some ⟨b2, 0, none⟩)), (0, .pointer (some ⟨mb, 0, none⟩)), (1, .agg #[.int .u8 11, .int .u32 ev.pick, .int .u64 ev.draw, .int .u32 ev.addr, .int .u32 ev.node, .int .u32 ev.dst, .int .u32 ev.xfer, .int .u8 ev.ty, .int .u64 ev.arg, .int .u64 ev.badge, .slice xo ev.ws.length cx]), (4, .int .u8 0), (5, .bool false), (7, .pointer (some ⟨(Z.tp x), 0, none⟩)), (53, .int .u8 11), (66, .bool false), (391, .pointer (some ⟨mb, 0, none⟩)), (393, .int .u32 ev.addr)]) (φ := (b2 = b2 ∧ Nat.ble (3 + 1) 11 = true) ∧ True) (rest := [3, 4, 5, 6, 7, 8]) h67 (by kernel_rfl) rfl ⟨⟨rfl, rfl⟩, trivial⟩ fun a69 h70 => ?_
  clear h67
  refine nd_op ?_
  refine op_call h70 rfl rfl rfl (callOk Tryd.func93 (by decide) rfl) (args := [.pointer (some ⟨mb, 0, none⟩), .int .u32 ev.addr]) rfl (cellOf_ok mb Z _ a C x hx hcx hci ev.addr he.addr e1 _ (mh_of h70 hho (k := 0) rfl)) ?_
  rintro _ w71 ⟨rfl, hg73⟩
  refine ⟨_, rfl, ?_⟩
  have h74a := st_mg h70 hg73 (kcons (fun _ => rfl) (kcons (fun hq => by cases hq) (kcons (fun hq => by cases hq) knil)))
  have h74 := h74a.put (d := some 394) (v := .tuple #[.int .i64 s1, .int .u8 0]) (T' := [(394, .tuple #[.int .i64 s1, .int .u8 0]), (6, .pointer (some ⟨b14, 0, none⟩)), (3, .pointer (some ⟨b2, 0, none⟩)), (0, .pointer (some ⟨mb, 0, none⟩)), (1, .agg #[.int .u8 11, .int .u32 ev.pick, .int .u64 ev.draw, .int .u32 ev.addr, .int .u32 ev.node, .int .u32 ev.dst, .int .u32 ev.xfer, .int .u8 ev.ty, .int .u64 ev.arg, .int .u64 ev.badge, .slice xo ev.ws.length cx]), (4, .int .u8 0), (5, .bool false), (7, .pointer (some ⟨(Z.tp x), 0, none⟩)), (53, .int .u8 11), (66, .bool false), (391, .pointer (some ⟨mb, 0, none⟩)), (393, .int .u32 ev.addr)]) rfl
  have hhoh74 := hg73.mh.ho
  clear h70 h74a
  refine nd_batch tabOk2 tabZ_ok2 [(4, {}), (5, {}), (6, {}), (7, {}), (8, {})] [6, 3, 0, 1, 4, 5, 7, 53, 66, 27, 28] (T' := [(6, .pointer (some ⟨b14, 0, none⟩)), (3, .pointer (some ⟨b2, 0, none⟩)), (0, .pointer (some ⟨mb, 0, none⟩)), (1, .agg #[.int .u8 11, .int .u32 ev.pick, .int .u64 ev.draw, .int .u32 ev.addr, .int .u32 ev.node, .int .u32 ev.dst, .int .u32 ev.xfer, .int .u8 ev.ty, .int .u64 ev.arg, .int .u64 ev.badge, .slice xo ev.ws.length cx]), (4, .int .u8 0), (5, .bool false), (7, .pointer (some ⟨(Z.tp x), 0, none⟩)), (53, .int .u8 11), (66, .bool false), (27, .int .i64 s1), (28, .int .u8 0)]) (φ := True) (rest := []) h74 (by kernel_rfl) rfl trivial fun a75 h76 => ?_
  clear h74
  refine nd_done ?_
  refine hK68 _ _ ?_
  clear hK68
  refine wp_seq_k fun K77 hK77 => ?_
  refine wp_seq_k fun K78 hK78 => ?_
  refine nd_start (l := [0, 1]) rfl ?_
  refine nd_batch tabOk2 tabZ_ok2 [(0, {}), (1, {})] [6, 3, 0, 1, 4, 5, 7, 53, 66, 27, 28, 398] (T' := [(6, .pointer (some ⟨b14, 0, none⟩)), (3, .pointer (some ⟨b2, 0, none⟩)), (0, .pointer (some ⟨mb, 0, none⟩)), (1, .agg #[.int .u8 11, .int .u32 ev.pick, .int .u64 ev.draw, .int .u32 ev.addr, .int .u32 ev.node, .int .u32 ev.dst, .int .u32 ev.xfer, .int .u8 ev.ty, .int .u64 ev.arg, .int .u64 ev.badge, .slice xo ev.ws.length cx]), (4, .int .u8 0), (5, .bool false), (7, .pointer (some ⟨(Z.tp x), 0, none⟩)), (53, .int .u8 11), (66, .bool false), (27, .int .i64 s1), (28, .int .u8 0), (398, .bool false)]) (φ := True) (rest := []) h76 (by kernel_rfl) rfl trivial fun a79 h80 => ?_
  clear h76
  refine nd_done ?_
  refine hK78 _ _ ?_
  clear hK78
  refine c_false h80 rfl ?_
  refine wp_skip ?_
  refine hK77 _ _ ?_
  clear hK77
  refine wp_seq_k fun K81 hK81 => ?_
  refine nd_start (l := [0, 1, 2, 3, 4, 5, 6, 7, 8, 9]) rfl ?_
  refine nd_batch tabOk2 tabZ_ok2 [(0, {}), (1, {}), (2, {k := 1})] [6, 3, 0, 1, 4, 5, 7, 53, 66, 27, 28, 401, 403] (T' := [(6, .pointer (some ⟨b14, 0, none⟩)), (3, .pointer (some ⟨b2, 0, none⟩)), (0, .pointer (some ⟨mb, 0, none⟩)), (1, .agg #[.int .u8 11, .int .u32 ev.pick, .int .u64 ev.draw, .int .u32 ev.addr, .int .u32 ev.node, .int .u32 ev.dst, .int .u32 ev.xfer, .int .u8 ev.ty, .int .u64 ev.arg, .int .u64 ev.badge, .slice xo ev.ws.length cx]), (4, .int .u8 0), (5, .bool false), (7, .pointer (some ⟨(Z.tp x), 0, none⟩)), (53, .int .u8 11), (66, .bool false), (27, .int .i64 s1), (28, .int .u8 0), (401, .pointer (some ⟨mb, 0, none⟩)), (403, .int .u32 ev.node)]) (φ := (b2 = b2 ∧ Nat.ble (4 + 1) 11 = true) ∧ True) (rest := [3, 4, 5, 6, 7, 8, 9]) h80 (by kernel_rfl) rfl ⟨⟨rfl, rfl⟩, trivial⟩ fun a82 h83 => ?_
  clear h80
  refine nd_op ?_
  refine op_call h83 rfl rfl rfl (callOk Tryd.func90 (by decide) rfl) (args := [.pointer (some ⟨mb, 0, none⟩), .int .u32 ev.node, .int .u8 2, .int .u8 2]) rfl (capOf_ok mb Z _ a C x hx hcx hci hcn hI.ci ev.node 2 2 he.node _ (mh_of h83 hhoh74 (k := 0) rfl) hf2) ?_
  rintro _ w84 ⟨rfl, hg86⟩
  refine ⟨_, rfl, ?_⟩
  have h87a := st_mg h83 hg86 (kcons (fun _ => rfl) (kcons (fun hq => by cases hq) (kcons (fun hq => by cases hq) knil)))
  have h87 := h87a.put (d := some 404) (v := .tuple #[.agg #[.int .u8 c2.ty, .int .u16 c2.obj.idx, .int .u32 c2.obj.gen, .int .u8 c2.rights, .int .u64 c2.badge], .int .u8 0]) (T' := [(404, .tuple #[.agg #[.int .u8 c2.ty, .int .u16 c2.obj.idx, .int .u32 c2.obj.gen, .int .u8 c2.rights, .int .u64 c2.badge], .int .u8 0]), (6, .pointer (some ⟨b14, 0, none⟩)), (3, .pointer (some ⟨b2, 0, none⟩)), (0, .pointer (some ⟨mb, 0, none⟩)), (1, .agg #[.int .u8 11, .int .u32 ev.pick, .int .u64 ev.draw, .int .u32 ev.addr, .int .u32 ev.node, .int .u32 ev.dst, .int .u32 ev.xfer, .int .u8 ev.ty, .int .u64 ev.arg, .int .u64 ev.badge, .slice xo ev.ws.length cx]), (4, .int .u8 0), (5, .bool false), (7, .pointer (some ⟨(Z.tp x), 0, none⟩)), (53, .int .u8 11), (66, .bool false), (27, .int .i64 s1), (28, .int .u8 0), (401, .pointer (some ⟨mb, 0, none⟩)), (403, .int .u32 ev.node)]) rfl
  have hhoh87 := hg86.mh.ho
  clear h83 h87a
  refine nd_batch tabOk2 tabZ_ok2 [(4, {}), (5, {}), (6, {})] [6, 3, 0, 1, 4, 5, 7, 53, 66, 27, 28, 405, 406] (T' := [(6, .pointer (some ⟨b14, 0, none⟩)), (3, .pointer (some ⟨b2, 0, none⟩)), (0, .pointer (some ⟨mb, 0, none⟩)), (1, .agg #[.int .u8 11, .int .u32 ev.pick, .int .u64 ev.draw, .int .u32 ev.addr, .int .u32 ev.node, .int .u32 ev.dst, .int .u32 ev.xfer, .int .u8 ev.ty, .int .u64 ev.arg, .int .u64 ev.badge, .slice xo ev.ws.length cx]), (4, .int .u8 0), (5, .bool false), (7, .pointer (some ⟨(Z.tp x), 0, none⟩)), (53, .int .u8 11), (66, .bool false), (27, .int .i64 s1), (28, .int .u8 0), (405, .agg #[.int .u8 c2.ty, .int .u16 c2.obj.idx, .int .u32 c2.obj.gen, .int .u8 c2.rights, .int .u64 c2.badge]), (406, .int .u8 0)]) (φ := True) (rest := [7, 8, 9]) h87 (by kernel_rfl) rfl trivial fun a88 h89 => ?_
  clear h87
  refine nd_op ?_
  refine op_new tabOk2 (cells := [.int .u8 0, .int .u16 0, .int .u32 0, .int .u8 0, .int .u64 0]) (ty := 49) (ln := none) (L1 := fun b90 => [(3, ⟨[.int .u16 0, .int .u32 0], ty3, true⟩), (b2, ⟨[.int .u8 11, .int .u32 ev.pick, .int .u64 ev.draw, .int .u32 ev.addr, .int .u32 ev.node, .int .u32 ev.dst, .int .u32 ev.xfer, .int .u8 ev.ty, .int .u64 ev.arg, .int .u64 ev.badge, .slice xo ev.ws.length cx], 35, false⟩), (b14, ⟨[.int .u16 ((Z.ky x).idx), .int .u32 ((Z.ky x).gen)], 39, false⟩), (b90, ⟨[.int .u8 0, .int .u16 0, .int .u32 0, .int .u8 0, .int .u64 0], 49, false⟩)]) h89 rfl rfl rfl rfl (by kernel_rfl) (fun _ => rfl) fun b90 w91 a92 h93 hf94 hn95 => ?_
  clear h89
  refine nd_op ?_
  refine op_store tabOk2 {k := 3} (L' := [(3, ⟨[.int .u16 0, .int .u32 0], ty3, true⟩), (b2, ⟨[.int .u8 11, .int .u32 ev.pick, .int .u64 ev.draw, .int .u32 ev.addr, .int .u32 ev.node, .int .u32 ev.dst, .int .u32 ev.xfer, .int .u8 ev.ty, .int .u64 ev.arg, .int .u64 ev.badge, .slice xo ev.ws.length cx], 35, false⟩), (b14, ⟨[.int .u16 ((Z.ky x).idx), .int .u32 ((Z.ky x).gen)], 39, false⟩), (b90, ⟨[.int .u8 c2.ty, .int .u16 c2.obj.idx, .int .u32 c2.obj.gen, .int .u8 c2.rights, .int .u64 c2.badge], 49, false⟩)]) (φ := b90 = b90 ∧ Nat.ble (0 + 5) 5 = true) h93 rfl rfl rfl (by kernel_rfl) ⟨rfl, rfl⟩ fun w96 h97 => ?_
  clear h93
  refine nd_batch tabOk2 tabZ_ok2 [(9, {})] [29, 6, 3, 0, 1, 4, 5, 7, 53, 66, 27, 28] (T' := [(29, .pointer (some ⟨b90, 0, none⟩)), (6, .pointer (some ⟨b14, 0, none⟩)), (3, .pointer (some ⟨b2, 0, none⟩)), (0, .pointer (some ⟨mb, 0, none⟩)), (1, .agg #[.int .u8 11, .int .u32 ev.pick, .int .u64 ev.draw, .int .u32 ev.addr, .int .u32 ev.node, .int .u32 ev.dst, .int .u32 ev.xfer, .int .u8 ev.ty, .int .u64 ev.arg, .int .u64 ev.badge, .slice xo ev.ws.length cx]), (4, .int .u8 0), (5, .bool false), (7, .pointer (some ⟨(Z.tp x), 0, none⟩)), (53, .int .u8 11), (66, .bool false), (27, .int .i64 s1), (28, .int .u8 0)]) (φ := True) (rest := []) h97 (by kernel_rfl) rfl trivial fun a98 h99 => ?_
  clear h97
  refine nd_done ?_
  refine hK81 _ _ ?_
  clear hK81
  refine wp_seq_k fun K100 hK100 => ?_
  refine wp_seq_k fun K101 hK101 => ?_
  refine nd_start (l := [0, 1]) rfl ?_
  refine nd_batch tabOk2 tabZ_ok2 [(0, {}), (1, {})] [29, 6, 3, 0, 1, 4, 5, 7, 53, 66, 27, 28, 408] (T' := [(29, .pointer (some ⟨b90, 0, none⟩)), (6, .pointer (some ⟨b14, 0, none⟩)), (3, .pointer (some ⟨b2, 0, none⟩)), (0, .pointer (some ⟨mb, 0, none⟩)), (1, .agg #[.int .u8 11, .int .u32 ev.pick, .int .u64 ev.draw, .int .u32 ev.addr, .int .u32 ev.node, .int .u32 ev.dst, .int .u32 ev.xfer, .int .u8 ev.ty, .int .u64 ev.arg, .int .u64 ev.badge, .slice xo ev.ws.length cx]), (4, .int .u8 0), (5, .bool false), (7, .pointer (some ⟨(Z.tp x), 0, none⟩)), (53, .int .u8 11), (66, .bool false), (27, .int .i64 s1), (28, .int .u8 0), (408, .bool false)]) (φ := True) (rest := []) h99 (by kernel_rfl) rfl trivial fun a102 h103 => ?_
  clear h99
  refine nd_done ?_
  refine hK101 _ _ ?_
  clear hK101
  refine c_false h103 rfl ?_
  refine wp_skip ?_
  refine hK100 _ _ ?_
  clear hK100
  refine wp_seq_k fun K104 hK104 => ?_
  refine dr_start (KB := [3, b2, b14, b90, mb]) (Bi := [[0, 1, 2, 3, 4], [0, 1, 2, 3, 4], [0, 1, 2, 3, 4], [0, 1, 2, 3, 4], [0, 1, 2, 3, 4], [0, 1, 2, 3, 4], [0, 1, 2, 3, 4], [0, 1, 2, 3, 4], [], [0, 1, 2, 3, 4], [0, 1, 2, 3, 4], [0, 1, 2, 3, 4], [0, 1, 2, 3, 4], [0, 1, 2, 3, 4]]) mixed h103 fun w105 h106 => ?_
  clear h103
  refine dr_batch tabOk2 tabZ_ok2 (by repeat (first | with_reducible exact PF.body | with_reducible apply PF.inB | with_reducible apply PF.next)) [(0, {}), (1, {}), (2, {})] [29, 6, 3, 0, 1, 4, 5, 7, 53, 66, 27, 28, 413] (T' := [(29, .pointer (some ⟨b90, 0, none⟩)), (6, .pointer (some ⟨b14, 0, none⟩)), (3, .pointer (some ⟨b2, 0, none⟩)), (0, .pointer (some ⟨mb, 0, none⟩)), (1, .agg #[.int .u8 11, .int .u32 ev.pick, .int .u64 ev.draw, .int .u32 ev.addr, .int .u32 ev.node, .int .u32 ev.dst, .int .u32 ev.xfer, .int .u8 ev.ty, .int .u64 ev.arg, .int .u64 ev.badge, .slice xo ev.ws.length cx]), (4, .int .u8 0), (5, .bool false), (7, .pointer (some ⟨(Z.tp x), 0, none⟩)), (53, .int .u8 11), (66, .bool false), (27, .int .i64 s1), (28, .int .u8 0), (413, .pointer (some ⟨mb, 1, none⟩))]) (φ := True) (fuel := 11) h106 (by kernel_rfl) rfl (by kernel_rfl) (by kernel_rfl) ⟨trivial, trivial, trivial, trivial⟩ trivial fun a108 h109 => ?_
  clear h106
  refine dr_read (i := 3) (b := mb) (p := 4) (v := .pointer (some ⟨Z.mc, 0, none⟩)) (fuel := 10) (by repeat (first | with_reducible exact PF.body | with_reducible apply PF.inB | with_reducible apply PF.next)) h109 rfl rfl rfl (by kernel_rfl) (by kernel_rfl) (by kernel_rfl) rfl (rd_m h109 (k := 1) (v := .pointer (some ⟨Z.mc, 0, none⟩)) rfl rfl rfl rfl (md_p ⟨rfl, trivial⟩)) ?_
  have h110 := h109.put (d := some 414) (v := .pointer (some ⟨Z.mc, 0, none⟩)) (T' := [(414, .pointer (some ⟨Z.mc, 0, none⟩)), (29, .pointer (some ⟨b90, 0, none⟩)), (6, .pointer (some ⟨b14, 0, none⟩)), (3, .pointer (some ⟨b2, 0, none⟩)), (0, .pointer (some ⟨mb, 0, none⟩)), (1, .agg #[.int .u8 11, .int .u32 ev.pick, .int .u64 ev.draw, .int .u32 ev.addr, .int .u32 ev.node, .int .u32 ev.dst, .int .u32 ev.xfer, .int .u8 ev.ty, .int .u64 ev.arg, .int .u64 ev.badge, .slice xo ev.ws.length cx]), (4, .int .u8 0), (5, .bool false), (7, .pointer (some ⟨(Z.tp x), 0, none⟩)), (53, .int .u8 11), (66, .bool false), (27, .int .i64 s1), (28, .int .u8 0), (413, .pointer (some ⟨mb, 1, none⟩))]) rfl
  clear h109
  refine dr_batch tabOk2 tabZ_ok2 (by repeat (first | with_reducible exact PF.body | with_reducible apply PF.inB | with_reducible apply PF.next)) [(4, {}), (5, {k := 3, p := 3}), (6, {}), (7, {k := 1, p := 1})] [414, 29, 6, 3, 0, 1, 4, 5, 7, 53, 66, 27, 28, 416, 418] (T' := [(414, .pointer (some ⟨Z.mc, 0, none⟩)), (29, .pointer (some ⟨b90, 0, none⟩)), (6, .pointer (some ⟨b14, 0, none⟩)), (3, .pointer (some ⟨b2, 0, none⟩)), (0, .pointer (some ⟨mb, 0, none⟩)), (1, .agg #[.int .u8 11, .int .u32 ev.pick, .int .u64 ev.draw, .int .u32 ev.addr, .int .u32 ev.node, .int .u32 ev.dst, .int .u32 ev.xfer, .int .u8 ev.ty, .int .u64 ev.arg, .int .u64 ev.badge, .slice xo ev.ws.length cx]), (4, .int .u8 0), (5, .bool false), (7, .pointer (some ⟨(Z.tp x), 0, none⟩)), (53, .int .u8 11), (66, .bool false), (27, .int .i64 s1), (28, .int .u8 0), (416, .agg #[.int .u16 c2.obj.idx, .int .u32 c2.obj.gen]), (418, .int .u32 ev.dst)]) (φ := (b90 = b90 ∧ Nat.ble (1 + 2) 5 = true) ∧ (b2 = b2 ∧ Nat.ble (5 + 1) 11 = true) ∧ True) (fuel := 6) h110 (by kernel_rfl) rfl (by kernel_rfl) (by kernel_rfl) ⟨trivial, rfl, trivial, rfl, trivial⟩ ⟨⟨rfl, rfl⟩, ⟨rfl, rfl⟩, trivial⟩ fun a111 h112 => ?_
  clear h110
  refine wpAnyK_one (i := 8) (fuel := 5) (by kernel_rfl) ?_
  refine op_call h112 rfl rfl rfl (callOk Tryd.func39 (by decide) rfl) (args := [.pointer (some ⟨Z.mc, 0, none⟩), .agg #[.int .u16 c2.obj.idx, .int .u32 c2.obj.gen], .int .u32 ev.dst]) rfl (lookupE (E := C.ent) Z.mo Z.mc Z.nd C.pres c2.obj ev.dst (hci2.imp_right (fun h => by omega)) he.dst _ h112.inv.1.cp.sp h112.inv.1.cp.st h112.inv.1.cp.ap.symm e2) ?_
  rintro _ w113 ⟨rfl, hf115⟩
  refine ⟨_, rfl, ?_⟩
  have h114 := (h112.grow hf115).put (d := some 419) (v := .tuple #[.int .i64 s2, .int .u8 k3]) (T' := [(419, .tuple #[.int .i64 s2, .int .u8 k3]), (414, .pointer (some ⟨Z.mc, 0, none⟩)), (29, .pointer (some ⟨b90, 0, none⟩)), (6, .pointer (some ⟨b14, 0, none⟩)), (3, .pointer (some ⟨b2, 0, none⟩)), (0, .pointer (some ⟨mb, 0, none⟩)), (1, .agg #[.int .u8 11, .int .u32 ev.pick, .int .u64 ev.draw, .int .u32 ev.addr, .int .u32 ev.node, .int .u32 ev.dst, .int .u32 ev.xfer, .int .u8 ev.ty, .int .u64 ev.arg, .int .u64 ev.badge, .slice xo ev.ws.length cx]), (4, .int .u8 0), (5, .bool false), (7, .pointer (some ⟨(Z.tp x), 0, none⟩)), (53, .int .u8 11), (66, .bool false), (27, .int .i64 s1), (28, .int .u8 0), (416, .agg #[.int .u16 c2.obj.idx, .int .u32 c2.obj.gen]), (418, .int .u32 ev.dst)]) rfl
  refine ⟨keepNil, ?_⟩
  clear h112
  refine dr_batch tabOk2 tabZ_ok2 (by repeat (first | with_reducible exact PF.body | with_reducible apply PF.inB | with_reducible apply PF.next)) [(9, {}), (10, {}), (11, {}), (12, {}), (13, {})] [29, 6, 3, 0, 1, 4, 5, 7, 53, 66, 27, 30, 28] (T' := [(29, .pointer (some ⟨b90, 0, none⟩)), (6, .pointer (some ⟨b14, 0, none⟩)), (3, .pointer (some ⟨b2, 0, none⟩)), (0, .pointer (some ⟨mb, 0, none⟩)), (1, .agg #[.int .u8 11, .int .u32 ev.pick, .int .u64 ev.draw, .int .u32 ev.addr, .int .u32 ev.node, .int .u32 ev.dst, .int .u32 ev.xfer, .int .u8 ev.ty, .int .u64 ev.arg, .int .u64 ev.badge, .slice xo ev.ws.length cx]), (4, .int .u8 0), (5, .bool false), (7, .pointer (some ⟨(Z.tp x), 0, none⟩)), (53, .int .u8 11), (66, .bool false), (27, .int .i64 s1), (30, .int .i64 s2), (28, .int .u8 k3)]) (φ := True) (fuel := 0) h114 (by kernel_rfl) rfl (by kernel_rfl) (by kernel_rfl) ⟨trivial, trivial, trivial, trivial, trivial, trivial⟩ trivial fun a116 h117 => ?_
  clear h114
  refine wpAnyK_done (by kernel_rfl) ?_ _
  refine hK104 _ _ ?_
  clear hK104
  refine wp_seq_k fun K118 hK118 => ?_
  refine wp_seq_k fun K119 hK119 => ?_
  refine nd_start (l := [0, 1]) rfl ?_
  refine nd_batch tabOk2 tabZ_ok2 [(0, {}), (1, {})] [29, 6, 3, 0, 1, 4, 5, 7, 53, 66, 27, 30, 28, 423] (T' := [(29, .pointer (some ⟨b90, 0, none⟩)), (6, .pointer (some ⟨b14, 0, none⟩)), (3, .pointer (some ⟨b2, 0, none⟩)), (0, .pointer (some ⟨mb, 0, none⟩)), (1, .agg #[.int .u8 11, .int .u32 ev.pick, .int .u64 ev.draw, .int .u32 ev.addr, .int .u32 ev.node, .int .u32 ev.dst, .int .u32 ev.xfer, .int .u8 ev.ty, .int .u64 ev.arg, .int .u64 ev.badge, .slice xo ev.ws.length cx]), (4, .int .u8 0), (5, .bool false), (7, .pointer (some ⟨(Z.tp x), 0, none⟩)), (53, .int .u8 11), (66, .bool false), (27, .int .i64 s1), (30, .int .i64 s2), (28, .int .u8 k3), (423, .bool (k3 != 0))]) (φ := True) (rest := []) h117 (by kernel_rfl) rfl trivial fun a120 h121 => ?_
  clear h117
  refine nd_done ?_
  refine hK119 _ _ ?_
  clear hK119
  refine c_split h121 (b := (k3 != 0)) rfl (fun hc122 => ?_) (fun hc122 => ?_)
  ·
    have hc122f : k3 ≠ 0 := by simpa using hc122
    refine wp_seq_k fun K123 hK123 => ?_
    refine nd_start (l := [0, 1, 2]) rfl ?_
    refine nd_batch tabOk2 tabZ_ok2 [(0, {}), (1, {}), (2, {})] [29, 6, 3, 0, 1, 7, 53, 66, 27, 30, 28, 4, 5] (T' := [(29, .pointer (some ⟨b90, 0, none⟩)), (6, .pointer (some ⟨b14, 0, none⟩)), (3, .pointer (some ⟨b2, 0, none⟩)), (0, .pointer (some ⟨mb, 0, none⟩)), (1, .agg #[.int .u8 11, .int .u32 ev.pick, .int .u64 ev.draw, .int .u32 ev.addr, .int .u32 ev.node, .int .u32 ev.dst, .int .u32 ev.xfer, .int .u8 ev.ty, .int .u64 ev.arg, .int .u64 ev.badge, .slice xo ev.ws.length cx]), (7, .pointer (some ⟨(Z.tp x), 0, none⟩)), (53, .int .u8 11), (66, .bool false), (27, .int .i64 s1), (30, .int .i64 s2), (28, .int .u8 k3), (4, .int .u8 k3), (5, .bool false)]) (φ := True) (rest := []) h121 (by kernel_rfl) rfl trivial fun a124 h125 => ?_
    clear h121
    refine nd_done ?_
    refine hK123 _ _ ?_
    clear hK123
    refine wp_ret ?_
    try simp only [Exit.then, Exit.inBlock]
    try rw [if_pos trivial]
    exact s_ret tabOk2 tabZ_ok2 h125 [(.tmp 4, {}), (.tmp 5, {})] (vs := [.int .u8 k3, .bool false]) (φ := True) rfl (by kernel_rfl) trivial (by exact ⟨rfl, _, mg_end hH h125 hhoh87 rfl⟩)
  ·
    have hc122f : k3 = 0 := by simpa using hc122
    exact absurd hc122f hk0

theorem call11g (mb : Nat) (Z : MZ) (R : MR) (a : AK) (C : CP) (hI : MI Z a C) (x : Nat) (hx : x ∈ sl Z.tl) (hcu : a.cur = (x : Int)) (ev : Ev) (he : EvOk ev) (xo : Option Addr) (cx : Nat) (s1 : Int) (e1 : lookP C.ent (a.th x).cs ev.addr = (s1, 0)) (c2 : Cp) (s3 : Int) (hf2 : findA a C ev.node 2 2 = (c2, s3, 0)) (hci2 : 0 ≤ c2.obj.idx ∧ c2.obj.idx < 256) (s2 : Int) (e2 : lookP C.ent c2.obj ev.dst = (s2, 0)) (dc : Nat → Cel) (dk : Int) (edc : deriveP C.cel s2.toNat s1.toNat (IntKind.wrap .u8 ev.arg) ev.badge = (dc, dk)) (w : World) (hH : MH mb Z R a C w) (hws : WordsAt (mdF mb Z R C) w xo ev.ws) :
    Calls Tryd.prog 55 #[.pointer (some ⟨mb, 0, none⟩), .agg #[.int .u8 11, .int .u32 ev.pick, .int .u64 ev.draw, .int .u32 ev.addr, .int .u32 ev.node, .int .u32 ev.dst, .int .u32 ev.xfer, .int .u8 ev.ty, .int .u64 ev.arg, .int .u64 ev.badge, .slice xo ev.ws.length cx]] w fun e w' => e = .returned (.tuple #[.int .u8 dk, .bool false]) ∧ ∃ R', MG mb Z R C w Z R' a ({ C with cel := dc } : CP) w' := by
  have hP := hI.mp
  have hcx : curR Z a = Z.ky x := curR_of hcu
  have hcn : a.cur.toNat = x := by rw [hcu]; exact Int.toNat_natCast x
  have hci := (hI.tk x hx).ci
  obtain ⟨ty3, hg3⟩ := hH.g3
  have hho := hH.ho
  have hkk := hH.md.k
  refine enter (n := 628) (K := mdF mb Z R C) (A := MD (mdF mb Z R C) w.heap.size mb Z R a C) (F := mdF mb Z R C) (T := [(0, .pointer (some ⟨mb, 0, none⟩)), (1, .agg #[.int .u8 11, .int .u32 ev.pick, .int .u64 ev.draw, .int .u32 ev.addr, .int .u32 ev.node, .int .u32 ev.dst, .int .u32 ev.xfer, .int .u8 ev.ty, .int .u64 ev.arg, .int .u64 ev.badge, .slice xo ev.ws.length cx])]) (L := [(3, ⟨[.int .u16 0, .int .u32 0], ty3, true⟩)]) (args := [.pointer (some ⟨mb, 0, none⟩), .agg #[.int .u8 11, .int .u32 ev.pick, .int .u64 ev.draw, .int .u32 ev.addr, .int .u32 ev.node, .int .u32 ev.dst, .int .u32 ev.xfer, .int .u8 ev.ty, .int .u64 ev.arg, .int .u64 ev.badge, .slice xo ev.ws.length cx]]) Tryd.func55 rfl rfl rfl rfl (kcons hg3 knil) (by simp) (kcons (by intro hq; cases hq) knil) hH.mD MD.stable hH.md.low (kcons (by intro hq; cases hq) knil) ?_
  intro ac h
  refine wp_seq_k fun K1 hK1 => ?_
  refine nd_start (l := [0, 1, 2]) rfl ?_
  refine nd_op ?_
  refine op_new tabOk2 (cells := [.int .u8 11, .int .u32 ev.pick, .int .u64 ev.draw, .int .u32 ev.addr, .int .u32 ev.node, .int .u32 ev.dst, .int .u32 ev.xfer, .int .u8 ev.ty, .int .u64 ev.arg, .int .u64 ev.badge, .slice xo ev.ws.length cx]) (ty := 35) (ln := none) (L1 := fun b2 => [(3, ⟨[.int .u16 0, .int .u32 0], ty3, true⟩), (b2, ⟨[.int .u8 11, .int .u32 ev.pick, .int .u64 ev.draw, .int .u32 ev.addr, .int .u32 ev.node, .int .u32 ev.dst, .int .u32 ev.xfer, .int .u8 ev.ty, .int .u64 ev.arg, .int .u64 ev.badge, .slice xo ev.ws.length cx], 35, false⟩)]) h rfl rfl rfl rfl (by kernel_rfl) (fun _ => rfl) fun b2 w3 a4 h5 hf6 hn7 => ?_
  clear h
  refine nd_batch tabOk2 tabZ_ok2 [(1, {}), (2, {})] [3, 0, 1, 4, 5] (T' := [(3, .pointer (some ⟨b2, 0, none⟩)), (0, .pointer (some ⟨mb, 0, none⟩)), (1, .agg #[.int .u8 11, .int .u32 ev.pick, .int .u64 ev.draw, .int .u32 ev.addr, .int .u32 ev.node, .int .u32 ev.dst, .int .u32 ev.xfer, .int .u8 ev.ty, .int .u64 ev.arg, .int .u64 ev.badge, .slice xo ev.ws.length cx]), (4, .int .u8 0), (5, .bool false)]) (φ := True) (rest := []) h5 (by kernel_rfl) rfl trivial fun a8 h9 => ?_
  clear h5
  refine nd_done ?_
  refine hK1 _ _ ?_
  clear hK1
  refine wp_seq_k fun K10 hK10 => ?_
  refine nd_start (l := [0, 1, 2, 3, 4, 5]) rfl ?_
  refine nd_batch tabOk2 tabZ_ok2 [(0, {}), (1, {}), (2, {})] [3, 0, 1, 4, 5, 44] (T' := [(3, .pointer (some ⟨b2, 0, none⟩)), (0, .pointer (some ⟨mb, 0, none⟩)), (1, .agg #[.int .u8 11, .int .u32 ev.pick, .int .u64 ev.draw, .int .u32 ev.addr, .int .u32 ev.node, .int .u32 ev.dst, .int .u32 ev.xfer, .int .u8 ev.ty, .int .u64 ev.arg, .int .u64 ev.badge, .slice xo ev.ws.length cx]), (4, .int .u8 0), (5, .bool false), (44, .pointer (some ⟨mb, 13, none⟩))]) (φ := True) (rest := [3, 4, 5]) h9 (by kernel_rfl) rfl trivial fun a11 h12 => ?_
  clear h9
  refine nd_op ?_
  refine op_read (b := mb) (v := .agg #[.int .u16 ((Z.ky x).idx), .int .u32 ((Z.ky x).gen)]) h12 rfl rfl (rd_mA h12 (k := 13) (vs := [.int .u16 ((Z.ky x).idx), .int .u32 ((Z.ky x).gen)]) rfl rfl rfl rfl rfl (by rw [← hcx]; exact md_cur)) ?_
  have h13 := h12.put (d := some 45) (v := .agg #[.int .u16 ((Z.ky x).idx), .int .u32 ((Z.ky x).gen)]) (T' := [(45, .agg #[.int .u16 ((Z.ky x).idx), .int .u32 ((Z.ky x).gen)]), (3, .pointer (some ⟨b2, 0, none⟩)), (0, .pointer (some ⟨mb, 0, none⟩)), (1, .agg #[.int .u8 11, .int .u32 ev.pick, .int .u64 ev.draw, .int .u32 ev.addr, .int .u32 ev.node, .int .u32 ev.dst, .int .u32 ev.xfer, .int .u8 ev.ty, .int .u64 ev.arg, .int .u64 ev.badge, .slice xo ev.ws.length cx]), (4, .int .u8 0), (5, .bool false), (44, .pointer (some ⟨mb, 13, none⟩))]) rfl
  clear h12
  refine nd_op ?_
  refine op_new tabOk2 (cells := [.int .u16 0, .int .u32 0]) (ty := 39) (ln := none) (L1 := fun b14 => [(3, ⟨[.int .u16 0, .int .u32 0], ty3, true⟩), (b2, ⟨[.int .u8 11, .int .u32 ev.pick, .int .u64 ev.draw, .int .u32 ev.addr, .int .u32 ev.node, .int .u32 ev.dst, .int .u32 ev.xfer, .int .u8 ev.ty, .int .u64 ev.arg, .int .u64 ev.badge, .slice xo ev.ws.length cx], 35, false⟩), (b14, ⟨[.int .u16 0, .int .u32 0], 39, false⟩)]) h13 rfl rfl rfl rfl (by kernel_rfl) (fun _ => rfl) fun b14 w15 a16 h17 hf18 hn19 => ?_
  clear h13
  refine nd_op ?_
  refine op_store tabOk2 {k := 2} (L' := [(3, ⟨[.int .u16 0, .int .u32 0], ty3, true⟩), (b2, ⟨[.int .u8 11, .int .u32 ev.pick, .int .u64 ev.draw, .int .u32 ev.addr, .int .u32 ev.node, .int .u32 ev.dst, .int .u32 ev.xfer, .int .u8 ev.ty, .int .u64 ev.arg, .int .u64 ev.badge, .slice xo ev.ws.length cx], 35, false⟩), (b14, ⟨[.int .u16 ((Z.ky x).idx), .int .u32 ((Z.ky x).gen)], 39, false⟩)]) (φ := b14 = b14 ∧ Nat.ble (0 + 2) 2 = true) h17 rfl rfl rfl (by kernel_rfl) ⟨rfl, rfl⟩ fun w20 h21 => ?_
  clear h17
  refine nd_done ?_
  refine hK10 _ _ ?_
  clear hK10
  refine wp_seq_k fun K22 hK22 => ?_
  refine dr_start (KB := [3, b2, b14, mb, Z.tb]) (Bi := [[0, 1, 2, 3, 4], [0, 1, 2, 3, 4], [0, 1, 2, 3, 4], [0, 1, 2, 3, 4], [0, 1, 2, 3, 4], [0, 1, 2, 3, 4], [0, 1, 2, 3, 4]]) mixed h21 fun w23 h24 => ?_
  clear h21
  refine dr_batch tabOk2 tabZ_ok2 (by repeat (first | with_reducible exact PF.body | with_reducible apply PF.inB | with_reducible apply PF.next)) [(0, {}), (1, {}), (2, {})] [6, 3, 0, 1, 4, 5, 48] (T' := [(6, .pointer (some ⟨b14, 0, none⟩)), (3, .pointer (some ⟨b2, 0, none⟩)), (0, .pointer (some ⟨mb, 0, none⟩)), (1, .agg #[.int .u8 11, .int .u32 ev.pick, .int .u64 ev.draw, .int .u32 ev.addr, .int .u32 ev.node, .int .u32 ev.dst, .int .u32 ev.xfer, .int .u8 ev.ty, .int .u64 ev.arg, .int .u64 ev.badge, .slice xo ev.ws.length cx]), (4, .int .u8 0), (5, .bool false), (48, .pointer (some ⟨mb, 2, none⟩))]) (φ := True) (fuel := 4) h24 (by kernel_rfl) rfl (by kernel_rfl) (by kernel_rfl) ⟨trivial, trivial, trivial, trivial⟩ trivial fun a26 h27 => ?_
  clear h24
  refine dr_read (i := 3) (b := mb) (p := 3) (v := .map (some Z.tb)) (fuel := 3) (by repeat (first | with_reducible exact PF.body | with_reducible apply PF.inB | with_reducible apply PF.next)) h27 rfl rfl rfl (by kernel_rfl) (by kernel_rfl) (by kernel_rfl) rfl (rd_m h27 (k := 2) (v := .map (some Z.tb)) rfl rfl rfl rfl (md_p ⟨rfl, trivial⟩)) ?_
  have h28 := h27.put (d := some 49) (v := .map (some Z.tb)) (T' := [(49, .map (some Z.tb)), (6, .pointer (some ⟨b14, 0, none⟩)), (3, .pointer (some ⟨b2, 0, none⟩)), (0, .pointer (some ⟨mb, 0, none⟩)), (1, .agg #[.int .u8 11, .int .u32 ev.pick, .int .u64 ev.draw, .int .u32 ev.addr, .int .u32 ev.node, .int .u32 ev.dst, .int .u32 ev.xfer, .int .u8 ev.ty, .int .u64 ev.arg, .int .u64 ev.badge, .slice xo ev.ws.length cx]), (4, .int .u8 0), (5, .bool false), (48, .pointer (some ⟨mb, 2, none⟩))]) rfl
  clear h27
  refine dr_batch tabOk2 tabZ_ok2 (by repeat (first | with_reducible exact PF.body | with_reducible apply PF.inB | with_reducible apply PF.next)) [(4, {k := 2, p := 2})] [49, 6, 3, 0, 1, 4, 5, 50] (T' := [(49, .map (some Z.tb)), (6, .pointer (some ⟨b14, 0, none⟩)), (3, .pointer (some ⟨b2, 0, none⟩)), (0, .pointer (some ⟨mb, 0, none⟩)), (1, .agg #[.int .u8 11, .int .u32 ev.pick, .int .u64 ev.draw, .int .u32 ev.addr, .int .u32 ev.node, .int .u32 ev.dst, .int .u32 ev.xfer, .int .u8 ev.ty, .int .u64 ev.arg, .int .u64 ev.badge, .slice xo ev.ws.length cx]), (4, .int .u8 0), (5, .bool false), (50, .agg #[.int .u16 ((Z.ky x).idx), .int .u32 ((Z.ky x).gen)])]) (φ := (b14 = b14 ∧ Nat.ble (0 + 2) 2 = true) ∧ True) (fuel := 2) h28 (by kernel_rfl) rfl (by kernel_rfl) (by kernel_rfl) ⟨rfl, trivial⟩ ⟨⟨rfl, rfl⟩, trivial⟩ fun a29 h30 => ?_
  clear h28
  refine dr_read (i := 5) (b := Z.tb) (p := 4) (v := .pointer (some ⟨(Z.tp x), 0, none⟩)) (fuel := 1) (by repeat (first | with_reducible exact PF.body | with_reducible apply PF.inB | with_reducible apply PF.next)) h30 rfl rfl rfl (by kernel_rfl) (by kernel_rfl) (by kernel_rfl) rfl (rd_T h30 (x := x) hx rfl rfl rfl) ?_
  have h31 := h30.put (d := some 51) (v := .pointer (some ⟨(Z.tp x), 0, none⟩)) (T' := [(51, .pointer (some ⟨(Z.tp x), 0, none⟩)), (49, .map (some Z.tb)), (6, .pointer (some ⟨b14, 0, none⟩)), (3, .pointer (some ⟨b2, 0, none⟩)), (0, .pointer (some ⟨mb, 0, none⟩)), (1, .agg #[.int .u8 11, .int .u32 ev.pick, .int .u64 ev.draw, .int .u32 ev.addr, .int .u32 ev.node, .int .u32 ev.dst, .int .u32 ev.xfer, .int .u8 ev.ty, .int .u64 ev.arg, .int .u64 ev.badge, .slice xo ev.ws.length cx]), (4, .int .u8 0), (5, .bool false), (50, .agg #[.int .u16 ((Z.ky x).idx), .int .u32 ((Z.ky x).gen)])]) rfl
  clear h30
  refine dr_batch tabOk2 tabZ_ok2 (by repeat (first | with_reducible exact PF.body | with_reducible apply PF.inB | with_reducible apply PF.next)) [(6, {})] [6, 3, 0, 1, 4, 5, 7] (T' := [(6, .pointer (some ⟨b14, 0, none⟩)), (3, .pointer (some ⟨b2, 0, none⟩)), (0, .pointer (some ⟨mb, 0, none⟩)), (1, .agg #[.int .u8 11, .int .u32 ev.pick, .int .u64 ev.draw, .int .u32 ev.addr, .int .u32 ev.node, .int .u32 ev.dst, .int .u32 ev.xfer, .int .u8 ev.ty, .int .u64 ev.arg, .int .u64 ev.badge, .slice xo ev.ws.length cx]), (4, .int .u8 0), (5, .bool false), (7, .pointer (some ⟨(Z.tp x), 0, none⟩))]) (φ := True) (fuel := 0) h31 (by kernel_rfl) rfl (by kernel_rfl) (by kernel_rfl) ⟨trivial, trivial⟩ trivial fun a32 h33 => ?_
  clear h31
  refine wpAnyK_done (by kernel_rfl) ?_ _
  refine hK22 _ _ ?_
  clear hK22
  refine wp_seq_k fun K34 hK34 => ?_
  refine wp_seq_k fun K35 hK35 => ?_
  refine nd_start (l := [0, 1]) rfl ?_
  refine nd_batch tabOk2 tabZ_ok2 [(0, {}), (1, {k := 1})] [6, 3, 0, 1, 4, 5, 7, 53] (T' := [(6, .pointer (some ⟨b14, 0, none⟩)), (3, .pointer (some ⟨b2, 0, none⟩)), (0, .pointer (some ⟨mb, 0, none⟩)), (1, .agg #[.int .u8 11, .int .u32 ev.pick, .int .u64 ev.draw, .int .u32 ev.addr, .int .u32 ev.node, .int .u32 ev.dst, .int .u32 ev.xfer, .int .u8 ev.ty, .int .u64 ev.arg, .int .u64 ev.badge, .slice xo ev.ws.length cx]), (4, .int .u8 0), (5, .bool false), (7, .pointer (some ⟨(Z.tp x), 0, none⟩)), (53, .int .u8 11)]) (φ := (b2 = b2 ∧ Nat.ble (0 + 1) 11 = true) ∧ True) (rest := []) h33 (by kernel_rfl) rfl ⟨⟨rfl, rfl⟩, trivial⟩ fun a36 h37 => ?_
  clear h33
  refine nd_done ?_
  refine hK35 _ _ ?_
  clear hK35
  refine wp_block ?_
  refine wp_seq_k fun K38 hK38 => ?_
  refine nd_start (l := [0, 1]) rfl ?_
  refine nd_batch tabOk2 tabZ_ok2 [(0, {}), (1, {})] [6, 3, 0, 1, 4, 5, 7, 53, 54] (T' := [(6, .pointer (some ⟨b14, 0, none⟩)), (3, .pointer (some ⟨b2, 0, none⟩)), (0, .pointer (some ⟨mb, 0, none⟩)), (1, .agg #[.int .u8 11, .int .u32 ev.pick, .int .u64 ev.draw, .int .u32 ev.addr, .int .u32 ev.node, .int .u32 ev.dst, .int .u32 ev.xfer, .int .u8 ev.ty, .int .u64 ev.arg, .int .u64 ev.badge, .slice xo ev.ws.length cx]), (4, .int .u8 0), (5, .bool false), (7, .pointer (some ⟨(Z.tp x), 0, none⟩)), (53, .int .u8 11), (54, .bool false)]) (φ := True) (rest := []) h37 (by kernel_rfl) rfl trivial fun a39 h40 => ?_
  clear h37
  refine nd_done ?_
  refine hK38 _ _ ?_
  clear hK38
  refine c_false h40 rfl ?_
  refine wp_seq_k fun K41 hK41 => ?_
  refine nd_start (l := [0, 1]) rfl ?_
  refine nd_batch tabOk2 tabZ_ok2 [(0, {}), (1, {})] [6, 3, 0, 1, 4, 5, 7, 53, 59] (T' := [(6, .pointer (some ⟨b14, 0, none⟩)), (3, .pointer (some ⟨b2, 0, none⟩)), (0, .pointer (some ⟨mb, 0, none⟩)), (1, .agg #[.int .u8 11, .int .u32 ev.pick, .int .u64 ev.draw, .int .u32 ev.addr, .int .u32 ev.node, .int .u32 ev.dst, .int .u32 ev.xfer, .int .u8 ev.ty, .int .u64 ev.arg, .int .u64 ev.badge, .slice xo ev.ws.length cx]), (4, .int .u8 0), (5, .bool false), (7, .pointer (some ⟨(Z.tp x), 0, none⟩)), (53, .int .u8 11), (59, .bool false)]) (φ := True) (rest := []) h40 (by kernel_rfl) rfl trivial fun a42 h43 => ?_
  clear h40
  refine nd_done ?_
  refine hK41 _ _ ?_
  clear hK41
  refine c_false h43 rfl ?_
  refine wp_seq_k fun K44 hK44 => ?_
  refine wp_seq_k fun K45 hK45 => ?_
  refine nd_start (l := [0, 1]) rfl ?_
  refine nd_batch tabOk2 tabZ_ok2 [(0, {}), (1, {})] [6, 3, 0, 1, 4, 5, 7, 53, 66] (T' := [(6, .pointer (some ⟨b14, 0, none⟩)), (3, .pointer (some ⟨b2, 0, none⟩)), (0, .pointer (some ⟨mb, 0, none⟩)), (1, .agg #[.int .u8 11, .int .u32 ev.pick, .int .u64 ev.draw, .int .u32 ev.addr, .int .u32 ev.node, .int .u32 ev.dst, .int .u32 ev.xfer, .int .u8 ev.ty, .int .u64 ev.arg, .int .u64 ev.badge, .slice xo ev.ws.length cx]), (4, .int .u8 0), (5, .bool false), (7, .pointer (some ⟨(Z.tp x), 0, none⟩)), (53, .int .u8 11), (66, .bool false)]) (φ := True) (rest := []) h43 (by kernel_rfl) rfl trivial fun a46 h47 => ?_
  clear h43
  refine nd_done ?_
  refine hK45 _ _ ?_
  clear hK45
  refine c_false h47 rfl ?_
  refine nd_start (l := [0, 1]) rfl ?_
  refine nd_batch tabOk2 tabZ_ok2 [(0, {}), (1, {})] [6, 3, 0, 1, 4, 5, 7, 53, 66] (T' := [(6, .pointer (some ⟨b14, 0, none⟩)), (3, .pointer (some ⟨b2, 0, none⟩)), (0, .pointer (some ⟨mb, 0, none⟩)), (1, .agg #[.int .u8 11, .int .u32 ev.pick, .int .u64 ev.draw, .int .u32 ev.addr, .int .u32 ev.node, .int .u32 ev.dst, .int .u32 ev.xfer, .int .u8 ev.ty, .int .u64 ev.arg, .int .u64 ev.badge, .slice xo ev.ws.length cx]), (4, .int .u8 0), (5, .bool false), (7, .pointer (some ⟨(Z.tp x), 0, none⟩)), (53, .int .u8 11), (66, .bool false)]) (φ := True) (rest := []) h47 (by kernel_rfl) rfl trivial fun a48 h49 => ?_
  clear h47
  refine nd_done ?_
  refine hK44 _ _ ?_
  clear hK44
  refine c_false h49 rfl ?_
  refine wp_seq_k fun K50 hK50 => ?_
  refine nd_start (l := [0, 1]) rfl ?_
  refine nd_batch tabOk2 tabZ_ok2 [(0, {}), (1, {})] [6, 3, 0, 1, 4, 5, 7, 53, 66, 129] (T' := [(6, .pointer (some ⟨b14, 0, none⟩)), (3, .pointer (some ⟨b2, 0, none⟩)), (0, .pointer (some ⟨mb, 0, none⟩)), (1, .agg #[.int .u8 11, .int .u32 ev.pick, .int .u64 ev.draw, .int .u32 ev.addr, .int .u32 ev.node, .int .u32 ev.dst, .int .u32 ev.xfer, .int .u8 ev.ty, .int .u64 ev.arg, .int .u64 ev.badge, .slice xo ev.ws.length cx]), (4, .int .u8 0), (5, .bool false), (7, .pointer (some ⟨(Z.tp x), 0, none⟩)), (53, .int .u8 11), (66, .bool false), (129, .bool false)]) (φ := True) (rest := []) h49 (by kernel_rfl) rfl trivial fun a51 h52 => ?_
  clear h49
  refine nd_done ?_
  refine hK50 _ _ ?_
  clear hK50
  refine c_false h52 rfl ?_
  refine wp_seq_k fun K53 hK53 => ?_
  refine nd_start (l := [0, 1]) rfl ?_
  refine nd_batch tabOk2 tabZ_ok2 [(0, {}), (1, {})] [6, 3, 0, 1, 4, 5, 7, 53, 66, 165] (T' := [(6, .pointer (some ⟨b14, 0, none⟩)), (3, .pointer (some ⟨b2, 0, none⟩)), (0, .pointer (some ⟨mb, 0, none⟩)), (1, .agg #[.int .u8 11, .int .u32 ev.pick, .int .u64 ev.draw, .int .u32 ev.addr, .int .u32 ev.node, .int .u32 ev.dst, .int .u32 ev.xfer, .int .u8 ev.ty, .int .u64 ev.arg, .int .u64 ev.badge, .slice xo ev.ws.length cx]), (4, .int .u8 0), (5, .bool false), (7, .pointer (some ⟨(Z.tp x), 0, none⟩)), (53, .int .u8 11), (66, .bool false), (165, .bool false)]) (φ := True) (rest := []) h52 (by kernel_rfl) rfl trivial fun a54 h55 => ?_
  clear h52
  refine nd_done ?_
  refine hK53 _ _ ?_
  clear hK53
  refine c_false h55 rfl ?_
  refine wp_seq_k fun K56 hK56 => ?_
  refine nd_start (l := [0, 1]) rfl ?_
  refine nd_batch tabOk2 tabZ_ok2 [(0, {}), (1, {})] [6, 3, 0, 1, 4, 5, 7, 53, 66, 226] (T' := [(6, .pointer (some ⟨b14, 0, none⟩)), (3, .pointer (some ⟨b2, 0, none⟩)), (0, .pointer (some ⟨mb, 0, none⟩)), (1, .agg #[.int .u8 11, .int .u32 ev.pick, .int .u64 ev.draw, .int .u32 ev.addr, .int .u32 ev.node, .int .u32 ev.dst, .int .u32 ev.xfer, .int .u8 ev.ty, .int .u64 ev.arg, .int .u64 ev.badge, .slice xo ev.ws.length cx]), (4, .int .u8 0), (5, .bool false), (7, .pointer (some ⟨(Z.tp x), 0, none⟩)), (53, .int .u8 11), (66, .bool false), (226, .bool false)]) (φ := True) (rest := []) h55 (by kernel_rfl) rfl trivial fun a57 h58 => ?_
  clear h55
  refine nd_done ?_
  refine hK56 _ _ ?_
  clear hK56
  refine c_false h58 rfl ?_
  refine wp_seq_k fun K59 hK59 => ?_
  refine nd_start (l := [0, 1]) rfl ?_
  refine nd_batch tabOk2 tabZ_ok2 [(0, {}), (1, {})] [6, 3, 0, 1, 4, 5, 7, 53, 66, 244] (T' := [(6, .pointer (some ⟨b14, 0, none⟩)), (3, .pointer (some ⟨b2, 0, none⟩)), (0, .pointer (some ⟨mb, 0, none⟩)), (1, .agg #[.int .u8 11, .int .u32 ev.pick, .int .u64 ev.draw, .int .u32 ev.addr, .int .u32 ev.node, .int .u32 ev.dst, .int .u32 ev.xfer, .int .u8 ev.ty, .int .u64 ev.arg, .int .u64 ev.badge, .slice xo ev.ws.length cx]), (4, .int .u8 0), (5, .bool false), (7, .pointer (some ⟨(Z.tp x), 0, none⟩)), (53, .int .u8 11), (66, .bool false), (244, .bool false)]) (φ := True) (rest := []) h58 (by kernel_rfl) rfl trivial fun a60 h61 => ?_
  clear h58
  refine nd_done ?_
  refine hK59 _ _ ?_
  clear hK59
  refine c_false h61 rfl ?_
  refine wp_seq_k fun K62 hK62 => ?_
  refine nd_start (l := [0, 1]) rfl ?_
  refine nd_batch tabOk2 tabZ_ok2 [(0, {}), (1, {})] [6, 3, 0, 1, 4, 5, 7, 53, 66, 285] (T' := [(6, .pointer (some ⟨b14, 0, none⟩)), (3, .pointer (some ⟨b2, 0, none⟩)), (0, .pointer (some ⟨mb, 0, none⟩)), (1, .agg #[.int .u8 11, .int .u32 ev.pick, .int .u64 ev.draw, .int .u32 ev.addr, .int .u32 ev.node, .int .u32 ev.dst, .int .u32 ev.xfer, .int .u8 ev.ty, .int .u64 ev.arg, .int .u64 ev.badge, .slice xo ev.ws.length cx]), (4, .int .u8 0), (5, .bool false), (7, .pointer (some ⟨(Z.tp x), 0, none⟩)), (53, .int .u8 11), (66, .bool false), (285, .bool false)]) (φ := True) (rest := []) h61 (by kernel_rfl) rfl trivial fun a63 h64 => ?_
  clear h61
  refine nd_done ?_
  refine hK62 _ _ ?_
  clear hK62
  refine c_false h64 rfl ?_
  refine wp_seq_k fun K65 hK65 => ?_
  refine nd_start (l := [0, 1]) rfl ?_
  refine nd_batch tabOk2 tabZ_ok2 [(0, {}), (1, {})] [6, 3, 0, 1, 4, 5, 7, 53, 66, 388] (T' := [(6, .pointer (some ⟨b14, 0, none⟩)), (3, .pointer (some ⟨b2, 0, none⟩)), (0, .pointer (some ⟨mb, 0, none⟩)), (1, .agg #[.int .u8 11, .int .u32 ev.pick, .int .u64 ev.draw, .int .u32 ev.addr, .int .u32 ev.node, .int .u32 ev.dst, .int .u32 ev.xfer, .int .u8 ev.ty, .int .u64 ev.arg, .int .u64 ev.badge, .slice xo ev.ws.length cx]), (4, .int .u8 0), (5, .bool false), (7, .pointer (some ⟨(Z.tp x), 0, none⟩)), (53, .int .u8 11), (66, .bool false), (388, .bool true)]) (φ := True) (rest := []) h64 (by kernel_rfl) rfl trivial fun a66 h67 => ?_
  clear h64
  refine nd_done ?_
  refine hK65 _ _ ?_
  clear hK65
  refine c_true h67 rfl ?_
  refine wp_seq_k fun K68 hK68 => ?_
  refine nd_start (l := [0, 1, 2, 3, 4, 5, 6, 7, 8]) rfl ?_
  refine nd_batch tabOk2 tabZ_ok2 [(0, {}), (1, {}), (2, {k := 1})] [6, 3, 0, 1, 4, 5, 7, 53, 66, 391, 393] (T' := [(6, .pointer (some ⟨b14, 0, none⟩)), (3, .pointer (some ⟨b2, 0, none⟩)), (0, .pointer (some ⟨mb, 0, none⟩)), (1, .agg #[.int .u8 11, .int .u32 ev.pick, .int .u64 ev.draw, .int .u32 ev.addr, .int .u32 ev.node, .int .u32 ev.dst, .int .u32 ev.xfer, .int .u8 ev.ty, .int .u64 ev.arg, .int .u64 ev.badge, .slice xo ev.ws.length cx]), (4, .int .u8 0), (5, .bool false), (7, .pointer (some ⟨(Z.tp x), 0, none⟩)), (53, .int .u8 11), (66, .bool false), (391, .pointer (some ⟨mb, 0, none⟩)), (393, .int .u32 ev.addr)]) (φ := (b2 = b2 ∧ Nat.ble (3 + 1) 11 = true) ∧ True) (rest := [3, 4, 5, 6, 7, 8]) h67 (by kernel_rfl) rfl ⟨⟨rfl, rfl⟩, trivial⟩ fun a69 h70 => ?_
  clear h67
  refine nd_op ?_
  refine op_call h70 rfl rfl rfl (callOk Tryd.func93 (by decide) rfl) (args := [.pointer (some ⟨mb, 0, none⟩), .int .u32 ev.addr]) rfl (cellOf_ok mb Z _ a C x hx hcx hci ev.addr he.addr e1 _ (mh_of h70 hho (k := 0) rfl)) ?_
  rintro _ w71 ⟨rfl, hg73⟩
  refine ⟨_, rfl, ?_⟩
  have h74a := st_mg h70 hg73 (kcons (fun _ => rfl) (kcons (fun hq => by cases hq) (kcons (fun hq => by cases hq) knil)))
  have h74 := h74a.put (d := some 394) (v := .tuple #[.int .i64 s1, .int .u8 0]) (T' := [(394, .tuple #[.int .i64 s1, .int .u8 0]), (6, .pointer (some ⟨b14, 0, none⟩)), (3, .pointer (some ⟨b2, 0, none⟩)), (0, .pointer (some ⟨mb, 0, none⟩)), (1, .agg #[.int .u8 11, .int .u32 ev.pick, .int .u64 ev.draw, .int .u32 ev.addr, .int .u32 ev.node, .int .u32 ev.dst, .int .u32 ev.xfer, .int .u8 ev.ty, .int .u64 ev.arg, .int .u64 ev.badge, .slice xo ev.ws.length cx]), (4, .int .u8 0), (5, .bool false), (7, .pointer (some ⟨(Z.tp x), 0, none⟩)), (53, .int .u8 11), (66, .bool false), (391, .pointer (some ⟨mb, 0, none⟩)), (393, .int .u32 ev.addr)]) rfl
  have hhoh74 := hg73.mh.ho
  clear h70 h74a
  refine nd_batch tabOk2 tabZ_ok2 [(4, {}), (5, {}), (6, {}), (7, {}), (8, {})] [6, 3, 0, 1, 4, 5, 7, 53, 66, 27, 28] (T' := [(6, .pointer (some ⟨b14, 0, none⟩)), (3, .pointer (some ⟨b2, 0, none⟩)), (0, .pointer (some ⟨mb, 0, none⟩)), (1, .agg #[.int .u8 11, .int .u32 ev.pick, .int .u64 ev.draw, .int .u32 ev.addr, .int .u32 ev.node, .int .u32 ev.dst, .int .u32 ev.xfer, .int .u8 ev.ty, .int .u64 ev.arg, .int .u64 ev.badge, .slice xo ev.ws.length cx]), (4, .int .u8 0), (5, .bool false), (7, .pointer (some ⟨(Z.tp x), 0, none⟩)), (53, .int .u8 11), (66, .bool false), (27, .int .i64 s1), (28, .int .u8 0)]) (φ := True) (rest := []) h74 (by kernel_rfl) rfl trivial fun a75 h76 => ?_
  clear h74
  refine nd_done ?_
  refine hK68 _ _ ?_
  clear hK68
  refine wp_seq_k fun K77 hK77 => ?_
  refine wp_seq_k fun K78 hK78 => ?_
  refine nd_start (l := [0, 1]) rfl ?_
  refine nd_batch tabOk2 tabZ_ok2 [(0, {}), (1, {})] [6, 3, 0, 1, 4, 5, 7, 53, 66, 27, 28, 398] (T' := [(6, .pointer (some ⟨b14, 0, none⟩)), (3, .pointer (some ⟨b2, 0, none⟩)), (0, .pointer (some ⟨mb, 0, none⟩)), (1, .agg #[.int .u8 11, .int .u32 ev.pick, .int .u64 ev.draw, .int .u32 ev.addr, .int .u32 ev.node, .int .u32 ev.dst, .int .u32 ev.xfer, .int .u8 ev.ty, .int .u64 ev.arg, .int .u64 ev.badge, .slice xo ev.ws.length cx]), (4, .int .u8 0), (5, .bool false), (7, .pointer (some ⟨(Z.tp x), 0, none⟩)), (53, .int .u8 11), (66, .bool false), (27, .int .i64 s1), (28, .int .u8 0), (398, .bool false)]) (φ := True) (rest := []) h76 (by kernel_rfl) rfl trivial fun a79 h80 => ?_
  clear h76
  refine nd_done ?_
  refine hK78 _ _ ?_
  clear hK78
  refine c_false h80 rfl ?_
  refine wp_skip ?_
  refine hK77 _ _ ?_
  clear hK77
  refine wp_seq_k fun K81 hK81 => ?_
  refine nd_start (l := [0, 1, 2, 3, 4, 5, 6, 7, 8, 9]) rfl ?_
  refine nd_batch tabOk2 tabZ_ok2 [(0, {}), (1, {}), (2, {k := 1})] [6, 3, 0, 1, 4, 5, 7, 53, 66, 27, 28, 401, 403] (T' := [(6, .pointer (some ⟨b14, 0, none⟩)), (3, .pointer (some ⟨b2, 0, none⟩)), (0, .pointer (some ⟨mb, 0, none⟩)), (1, .agg #[.int .u8 11, .int .u32 ev.pick, .int .u64 ev.draw, .int .u32 ev.addr, .int .u32 ev.node, .int .u32 ev.dst, .int .u32 ev.xfer, .int .u8 ev.ty, .int .u64 ev.arg, .int .u64 ev.badge, .slice xo ev.ws.length cx]), (4, .int .u8 0), (5, .bool false), (7, .pointer (some ⟨(Z.tp x), 0, none⟩)), (53, .int .u8 11), (66, .bool false), (27, .int .i64 s1), (28, .int .u8 0), (401, .pointer (some ⟨mb, 0, none⟩)), (403, .int .u32 ev.node)]) (φ := (b2 = b2 ∧ Nat.ble (4 + 1) 11 = true) ∧ True) (rest := [3, 4, 5, 6, 7, 8, 9]) h80 (by kernel_rfl) rfl ⟨⟨rfl, rfl⟩, trivial⟩ fun a82 h83 => ?_
  clear h80
  refine nd_op ?_
  refine op_call h83 rfl rfl rfl (callOk Tryd.func90 (by decide) rfl) (args := [.pointer (some ⟨mb, 0, none⟩), .int .u32 ev.node, .int .u8 2, .int .u8 2]) rfl (capOf_ok mb Z _ a C x hx hcx hci hcn hI.ci ev.node 2 2 he.node _ (mh_of h83 hhoh74 (k := 0) rfl) hf2) ?_
  rintro _ w84 ⟨rfl, hg86⟩
  refine ⟨_, rfl, ?_⟩
  have h87a := st_mg h83 hg86 (kcons (fun _ => rfl) (kcons (fun hq => by cases hq) (kcons (fun hq => by cases hq) knil)))
  have h87 := h87a.put (d := some 404) (v := .tuple #[.agg #[.int .u8 c2.ty, .int .u16 c2.obj.idx, .int .u32 c2.obj.gen, .int .u8 c2.rights, .int .u64 c2.badge], .int .u8 0]) (T' := [(404, .tuple #[.agg #[.int .u8 c2.ty, .int .u16 c2.obj.idx, .int .u32 c2.obj.gen, .int .u8 c2.rights, .int .u64 c2.badge], .int .u8 0]), (6, .pointer (some ⟨b14, 0, none⟩)), (3, .pointer (some ⟨b2, 0, none⟩)), (0, .pointer (some ⟨mb, 0, none⟩)), (1, .agg #[.int .u8 11, .int .u32 ev.pick, .int .u64 ev.draw, .int .u32 ev.addr, .int .u32 ev.node, .int .u32 ev.dst, .int .u32 ev.xfer, .int .u8 ev.ty, .int .u64 ev.arg, .int .u64 ev.badge, .slice xo ev.ws.length cx]), (4, .int .u8 0), (5, .bool false), (7, .pointer (some ⟨(Z.tp x), 0, none⟩)), (53, .int .u8 11), (66, .bool false), (27, .int .i64 s1), (28, .int .u8 0), (401, .pointer (some ⟨mb, 0, none⟩)), (403, .int .u32 ev.node)]) rfl
  have hhoh87 := hg86.mh.ho
  clear h83 h87a
  refine nd_batch tabOk2 tabZ_ok2 [(4, {}), (5, {}), (6, {})] [6, 3, 0, 1, 4, 5, 7, 53, 66, 27, 28, 405, 406] (T' := [(6, .pointer (some ⟨b14, 0, none⟩)), (3, .pointer (some ⟨b2, 0, none⟩)), (0, .pointer (some ⟨mb, 0, none⟩)), (1, .agg #[.int .u8 11, .int .u32 ev.pick, .int .u64 ev.draw, .int .u32 ev.addr, .int .u32 ev.node, .int .u32 ev.dst, .int .u32 ev.xfer, .int .u8 ev.ty, .int .u64 ev.arg, .int .u64 ev.badge, .slice xo ev.ws.length cx]), (4, .int .u8 0), (5, .bool false), (7, .pointer (some ⟨(Z.tp x), 0, none⟩)), (53, .int .u8 11), (66, .bool false), (27, .int .i64 s1), (28, .int .u8 0), (405, .agg #[.int .u8 c2.ty, .int .u16 c2.obj.idx, .int .u32 c2.obj.gen, .int .u8 c2.rights, .int .u64 c2.badge]), (406, .int .u8 0)]) (φ := True) (rest := [7, 8, 9]) h87 (by kernel_rfl) rfl trivial fun a88 h89 => ?_
  clear h87
  refine nd_op ?_
  refine op_new tabOk2 (cells := [.int .u8 0, .int .u16 0, .int .u32 0, .int .u8 0, .int .u64 0]) (ty := 49) (ln := none) (L1 := fun b90 => [(3, ⟨[.int .u16 0, .int .u32 0], ty3, true⟩), (b2, ⟨[.int .u8 11, .int .u32 ev.pick, .int .u64 ev.draw, .int .u32 ev.addr, .int .u32 ev.node, .int .u32 ev.dst, .int .u32 ev.xfer, .int .u8 ev.ty, .int .u64 ev.arg, .int .u64 ev.badge, .slice xo ev.ws.length cx], 35, false⟩), (b14, ⟨[.int .u16 ((Z.ky x).idx), .int .u32 ((Z.ky x).gen)], 39, false⟩), (b90, ⟨[.int .u8 0, .int .u16 0, .int .u32 0, .int .u8 0, .int .u64 0], 49, false⟩)]) h89 rfl rfl rfl rfl (by kernel_rfl) (fun _ => rfl) fun b90 w91 a92 h93 hf94 hn95 => ?_
  clear h89
  refine nd_op ?_
  refine op_store tabOk2 {k := 3} (L' := [(3, ⟨[.int .u16 0, .int .u32 0], ty3, true⟩), (b2, ⟨[.int .u8 11, .int .u32 ev.pick, .int .u64 ev.draw, .int .u32 ev.addr, .int .u32 ev.node, .int .u32 ev.dst, .int .u32 ev.xfer, .int .u8 ev.ty, .int .u64 ev.arg, .int .u64 ev.badge, .slice xo ev.ws.length cx], 35, false⟩), (b14, ⟨[.int .u16 ((Z.ky x).idx), .int .u32 ((Z.ky x).gen)], 39, false⟩), (b90, ⟨[.int .u8 c2.ty, .int .u16 c2.obj.idx, .int .u32 c2.obj.gen, .int .u8 c2.rights, .int .u64 c2.badge], 49, false⟩)]) (φ := b90 = b90 ∧ Nat.ble (0 + 5) 5 = true) h93 rfl rfl rfl (by kernel_rfl) ⟨rfl, rfl⟩ fun w96 h97 => ?_
  clear h93
  refine nd_batch tabOk2 tabZ_ok2 [(9, {})] [29, 6, 3, 0, 1, 4, 5, 7, 53, 66, 27, 28] (T' := [(29, .pointer (some ⟨b90, 0, none⟩)), (6, .pointer (some ⟨b14, 0, none⟩)), (3, .pointer (some ⟨b2, 0, none⟩)), (0, .pointer (some ⟨mb, 0, none⟩)), (1, .agg #[.int .u8 11, .int .u32 ev.pick, .int .u64 ev.draw, .int .u32 ev.addr, .int .u32 ev.node, .int .u32 ev.dst, .int .u32 ev.xfer, .int .u8 ev.ty, .int .u64 ev.arg, .int .u64 ev.badge, .slice xo ev.ws.length cx]), (4, .int .u8 0), (5, .bool false), (7, .pointer (some ⟨(Z.tp x), 0, none⟩)), (53, .int .u8 11), (66, .bool false), (27, .int .i64 s1), (28, .int .u8 0)]) (φ := True) (rest := []) h97 (by kernel_rfl) rfl trivial fun a98 h99 => ?_
  clear h97
  refine nd_done ?_
  refine hK81 _ _ ?_
  clear hK81
  refine wp_seq_k fun K100 hK100 => ?_
  refine wp_seq_k fun K101 hK101 => ?_
  refine nd_start (l := [0, 1]) rfl ?_
  refine nd_batch tabOk2 tabZ_ok2 [(0, {}), (1, {})] [29, 6, 3, 0, 1, 4, 5, 7, 53, 66, 27, 28, 408] (T' := [(29, .pointer (some ⟨b90, 0, none⟩)), (6, .pointer (some ⟨b14, 0, none⟩)), (3, .pointer (some ⟨b2, 0, none⟩)), (0, .pointer (some ⟨mb, 0, none⟩)), (1, .agg #[.int .u8 11, .int .u32 ev.pick, .int .u64 ev.draw, .int .u32 ev.addr, .int .u32 ev.node, .int .u32 ev.dst, .int .u32 ev.xfer, .int .u8 ev.ty, .int .u64 ev.arg, .int .u64 ev.badge, .slice xo ev.ws.length cx]), (4, .int .u8 0), (5, .bool false), (7, .pointer (some ⟨(Z.tp x), 0, none⟩)), (53, .int .u8 11), (66, .bool false), (27, .int .i64 s1), (28, .int .u8 0), (408, .bool false)]) (φ := True) (rest := []) h99 (by kernel_rfl) rfl trivial fun a102 h103 => ?_
  clear h99
  refine nd_done ?_
  refine hK101 _ _ ?_
  clear hK101
  refine c_false h103 rfl ?_
  refine wp_skip ?_
  refine hK100 _ _ ?_
  clear hK100
  refine wp_seq_k fun K104 hK104 => ?_
  refine dr_start (KB := [3, b2, b14, b90, mb]) (Bi := [[0, 1, 2, 3, 4], [0, 1, 2, 3, 4], [0, 1, 2, 3, 4], [0, 1, 2, 3, 4], [0, 1, 2, 3, 4], [0, 1, 2, 3, 4], [0, 1, 2, 3, 4], [0, 1, 2, 3, 4], [], [0, 1, 2, 3, 4], [0, 1, 2, 3, 4], [0, 1, 2, 3, 4], [0, 1, 2, 3, 4], [0, 1, 2, 3, 4]]) mixed h103 fun w105 h106 => ?_
  clear h103
  refine dr_batch tabOk2 tabZ_ok2 (by repeat (first | with_reducible exact PF.body | with_reducible apply PF.inB | with_reducible apply PF.next)) [(0, {}), (1, {}), (2, {})] [29, 6, 3, 0, 1, 4, 5, 7, 53, 66, 27, 28, 413] (T' := [(29, .pointer (some ⟨b90, 0, none⟩)), (6, .pointer (some ⟨b14, 0, none⟩)), (3, .pointer (some ⟨b2, 0, none⟩)), (0, .pointer (some ⟨mb, 0, none⟩)), (1, .agg #[.int .u8 11, .int .u32 ev.pick, .int .u64 ev.draw, .int .u32 ev.addr, .int .u32 ev.node, .int .u32 ev.dst, .int .u32 ev.xfer, .int .u8 ev.ty, .int .u64 ev.arg, .int .u64 ev.badge, .slice xo ev.ws.length cx]), (4, .int .u8 0), (5, .bool false), (7, .pointer (some ⟨(Z.tp x), 0, none⟩)), (53, .int .u8 11), (66, .bool false), (27, .int .i64 s1), (28, .int .u8 0), (413, .pointer (some ⟨mb, 1, none⟩))]) (φ := True) (fuel := 11) h106 (by kernel_rfl) rfl (by kernel_rfl) (by kernel_rfl) ⟨trivial, trivial, trivial, trivial⟩ trivial fun a108 h109 => ?_
  clear h106
  refine dr_read (i := 3) (b := mb) (p := 4) (v := .pointer (some ⟨Z.mc, 0, none⟩)) (fuel := 10) (by repeat (first | with_reducible exact PF.body | with_reducible apply PF.inB | with_reducible apply PF.next)) h109 rfl rfl rfl (by kernel_rfl) (by kernel_rfl) (by kernel_rfl) rfl (rd_m h109 (k := 1) (v := .pointer (some ⟨Z.mc, 0, none⟩)) rfl rfl rfl rfl (md_p ⟨rfl, trivial⟩)) ?_
  have h110 := h109.put (d := some 414) (v := .pointer (some ⟨Z.mc, 0, none⟩)) (T' := [(414, .pointer (some ⟨Z.mc, 0, none⟩)), (29, .pointer (some ⟨b90, 0, none⟩)), (6, .pointer (some ⟨b14, 0, none⟩)), (3, .pointer (some ⟨b2, 0, none⟩)), (0, .pointer (some ⟨mb, 0, none⟩)), (1, .agg #[.int .u8 11, .int .u32 ev.pick, .int .u64 ev.draw, .int .u32 ev.addr, .int .u32 ev.node, .int .u32 ev.dst, .int .u32 ev.xfer, .int .u8 ev.ty, .int .u64 ev.arg, .int .u64 ev.badge, .slice xo ev.ws.length cx]), (4, .int .u8 0), (5, .bool false), (7, .pointer (some ⟨(Z.tp x), 0, none⟩)), (53, .int .u8 11), (66, .bool false), (27, .int .i64 s1), (28, .int .u8 0), (413, .pointer (some ⟨mb, 1, none⟩))]) rfl
  clear h109
  refine dr_batch tabOk2 tabZ_ok2 (by repeat (first | with_reducible exact PF.body | with_reducible apply PF.inB | with_reducible apply PF.next)) [(4, {}), (5, {k := 3, p := 3}), (6, {}), (7, {k := 1, p := 1})] [414, 29, 6, 3, 0, 1, 4, 5, 7, 53, 66, 27, 28, 416, 418] (T' := [(414, .pointer (some ⟨Z.mc, 0, none⟩)), (29, .pointer (some ⟨b90, 0, none⟩)), (6, .pointer (some ⟨b14, 0, none⟩)), (3, .pointer (some ⟨b2, 0, none⟩)), (0, .pointer (some ⟨mb, 0, none⟩)), (1, .agg #[.int .u8 11, .int .u32 ev.pick, .int .u64 ev.draw, .int .u32 ev.addr, .int .u32 ev.node, .int .u32 ev.dst, .int .u32 ev.xfer, .int .u8 ev.ty, .int .u64 ev.arg, .int .u64 ev.badge, .slice xo ev.ws.length cx]), (4, .int .u8 0), (5, .bool false), (7, .pointer (some ⟨(Z.tp x), 0, none⟩)), (53, .int .u8 11), (66, .bool false), (27, .int .i64 s1), (28, .int .u8 0), (416, .agg #[.int .u16 c2.obj.idx, .int .u32 c2.obj.gen]), (418, .int .u32 ev.dst)]) (φ := (b90 = b90 ∧ Nat.ble (1 + 2) 5 = true) ∧ (b2 = b2 ∧ Nat.ble (5 + 1) 11 = true) ∧ True) (fuel := 6) h110 (by kernel_rfl) rfl (by kernel_rfl) (by kernel_rfl) ⟨trivial, rfl, trivial, rfl, trivial⟩ ⟨⟨rfl, rfl⟩, ⟨rfl, rfl⟩, trivial⟩ fun a111 h112 => ?_
  clear h110
  refine wpAnyK_one (i := 8) (fuel := 5) (by kernel_rfl) ?_
  refine op_call h112 rfl rfl rfl (callOk Tryd.func39 (by decide) rfl) (args := [.pointer (some ⟨Z.mc, 0, none⟩), .agg #[.int .u16 c2.obj.idx, .int .u32 c2.obj.gen], .int .u32 ev.dst]) rfl (lookupE (E := C.ent) Z.mo Z.mc Z.nd C.pres c2.obj ev.dst (hci2.imp_right (fun h => by omega)) he.dst _ h112.inv.1.cp.sp h112.inv.1.cp.st h112.inv.1.cp.ap.symm e2) ?_
  rintro _ w113 ⟨rfl, hf115⟩
  refine ⟨_, rfl, ?_⟩
  have h114 := (h112.grow hf115).put (d := some 419) (v := .tuple #[.int .i64 s2, .int .u8 0]) (T' := [(419, .tuple #[.int .i64 s2, .int .u8 0]), (414, .pointer (some ⟨Z.mc, 0, none⟩)), (29, .pointer (some ⟨b90, 0, none⟩)), (6, .pointer (some ⟨b14, 0, none⟩)), (3, .pointer (some ⟨b2, 0, none⟩)), (0, .pointer (some ⟨mb, 0, none⟩)), (1, .agg #[.int .u8 11, .int .u32 ev.pick, .int .u64 ev.draw, .int .u32 ev.addr, .int .u32 ev.node, .int .u32 ev.dst, .int .u32 ev.xfer, .int .u8 ev.ty, .int .u64 ev.arg, .int .u64 ev.badge, .slice xo ev.ws.length cx]), (4, .int .u8 0), (5, .bool false), (7, .pointer (some ⟨(Z.tp x), 0, none⟩)), (53, .int .u8 11), (66, .bool false), (27, .int .i64 s1), (28, .int .u8 0), (416, .agg #[.int .u16 c2.obj.idx, .int .u32 c2.obj.gen]), (418, .int .u32 ev.dst)]) rfl
  refine ⟨keepNil, ?_⟩
  clear h112
  refine dr_batch tabOk2 tabZ_ok2 (by repeat (first | with_reducible exact PF.body | with_reducible apply PF.inB | with_reducible apply PF.next)) [(9, {}), (10, {}), (11, {}), (12, {}), (13, {})] [29, 6, 3, 0, 1, 4, 5, 7, 53, 66, 27, 30, 28] (T' := [(29, .pointer (some ⟨b90, 0, none⟩)), (6, .pointer (some ⟨b14, 0, none⟩)), (3, .pointer (some ⟨b2, 0, none⟩)), (0, .pointer (some ⟨mb, 0, none⟩)), (1, .agg #[.int .u8 11, .int .u32 ev.pick, .int .u64 ev.draw, .int .u32 ev.addr, .int .u32 ev.node, .int .u32 ev.dst, .int .u32 ev.xfer, .int .u8 ev.ty, .int .u64 ev.arg, .int .u64 ev.badge, .slice xo ev.ws.length cx]), (4, .int .u8 0), (5, .bool false), (7, .pointer (some ⟨(Z.tp x), 0, none⟩)), (53, .int .u8 11), (66, .bool false), (27, .int .i64 s1), (30, .int .i64 s2), (28, .int .u8 0)]) (φ := True) (fuel := 0) h114 (by kernel_rfl) rfl (by kernel_rfl) (by kernel_rfl) ⟨trivial, trivial, trivial, trivial, trivial, trivial⟩ trivial fun a116 h117 => ?_
  clear h114
  refine wpAnyK_done (by kernel_rfl) ?_ _
  refine hK104 _ _ ?_
  clear hK104
  refine wp_seq_k fun K118 hK118 => ?_
  refine wp_seq_k fun K119 hK119 => ?_
  refine nd_start (l := [0, 1]) rfl ?_
  refine nd_batch tabOk2 tabZ_ok2 [(0, {}), (1, {})] [29, 6, 3, 0, 1, 4, 5, 7, 53, 66, 27, 30, 28, 423] (T' := [(29, .pointer (some ⟨b90, 0, none⟩)), (6, .pointer (some ⟨b14, 0, none⟩)), (3, .pointer (some ⟨b2, 0, none⟩)), (0, .pointer (some ⟨mb, 0, none⟩)), (1, .agg #[.int .u8 11, .int .u32 ev.pick, .int .u64 ev.draw, .int .u32 ev.addr, .int .u32 ev.node, .int .u32 ev.dst, .int .u32 ev.xfer, .int .u8 ev.ty, .int .u64 ev.arg, .int .u64 ev.badge, .slice xo ev.ws.length cx]), (4, .int .u8 0), (5, .bool false), (7, .pointer (some ⟨(Z.tp x), 0, none⟩)), (53, .int .u8 11), (66, .bool false), (27, .int .i64 s1), (30, .int .i64 s2), (28, .int .u8 0), (423, .bool false)]) (φ := True) (rest := []) h117 (by kernel_rfl) rfl trivial fun a120 h121 => ?_
  clear h117
  refine nd_done ?_
  refine hK119 _ _ ?_
  clear hK119
  refine c_false h121 rfl ?_
  refine wp_skip ?_
  refine hK118 _ _ ?_
  clear hK118
  refine wp_seq_k fun K122 hK122 => ?_
  refine dr_start (KB := [3, b2, b14, b90, mb]) (Bi := [[0, 1, 2, 3, 4], [0, 1, 2, 3, 4], [0, 1, 2, 3, 4], [0, 1, 2, 3, 4], [0, 1, 2, 3, 4], [0, 1, 2, 3, 4], [0, 1, 2, 3, 4], [0, 1, 2, 3, 4], [0, 1, 2, 3, 4], [0, 1, 2, 3, 4], [0, 1, 2, 3, 4], [], [0, 1, 2, 3, 4], [0, 1, 2, 3, 4]]) mixed h121 fun w123 h124 => ?_
  clear h121
  refine dr_batch tabOk2 tabZ_ok2 (by repeat (first | with_reducible exact PF.body | with_reducible apply PF.inB | with_reducible apply PF.next)) [(0, {}), (1, {}), (2, {})] [29, 6, 3, 0, 1, 4, 5, 7, 53, 66, 27, 30, 28, 427] (T' := [(29, .pointer (some ⟨b90, 0, none⟩)), (6, .pointer (some ⟨b14, 0, none⟩)), (3, .pointer (some ⟨b2, 0, none⟩)), (0, .pointer (some ⟨mb, 0, none⟩)), (1, .agg #[.int .u8 11, .int .u32 ev.pick, .int .u64 ev.draw, .int .u32 ev.addr, .int .u32 ev.node, .int .u32 ev.dst, .int .u32 ev.xfer, .int .u8 ev.ty, .int .u64 ev.arg, .int .u64 ev.badge, .slice xo ev.ws.length cx]), (4, .int .u8 0), (5, .bool false), (7, .pointer (some ⟨(Z.tp x), 0, none⟩)), (53, .int .u8 11), (66, .bool false), (27, .int .i64 s1), (30, .int .i64 s2), (28, .int .u8 0), (427, .pointer (some ⟨mb, 1, none⟩))]) (φ := True) (fuel := 11) h124 (by kernel_rfl) rfl (by kernel_rfl) (by kernel_rfl) ⟨trivial, trivial, trivial, trivial⟩ trivial fun a126 h127 => ?_
  clear h124
  refine dr_read (i := 3) (b := mb) (p := 4) (v := .pointer (some ⟨Z.mc, 0, none⟩)) (fuel := 10) (by repeat (first | with_reducible exact PF.body | with_reducible apply PF.inB | with_reducible apply PF.next)) h127 rfl rfl rfl (by kernel_rfl) (by kernel_rfl) (by kernel_rfl) rfl (rd_m h127 (k := 1) (v := .pointer (some ⟨Z.mc, 0, none⟩)) rfl rfl rfl rfl (md_p ⟨rfl, trivial⟩)) ?_
  have h128 := h127.put (d := some 428) (v := .pointer (some ⟨Z.mc, 0, none⟩)) (T' := [(428, .pointer (some ⟨Z.mc, 0, none⟩)), (29, .pointer (some ⟨b90, 0, none⟩)), (6, .pointer (some ⟨b14, 0, none⟩)), (3, .pointer (some ⟨b2, 0, none⟩)), (0, .pointer (some ⟨mb, 0, none⟩)), (1, .agg #[.int .u8 11, .int .u32 ev.pick, .int .u64 ev.draw, .int .u32 ev.addr, .int .u32 ev.node, .int .u32 ev.dst, .int .u32 ev.xfer, .int .u8 ev.ty, .int .u64 ev.arg, .int .u64 ev.badge, .slice xo ev.ws.length cx]), (4, .int .u8 0), (5, .bool false), (7, .pointer (some ⟨(Z.tp x), 0, none⟩)), (53, .int .u8 11), (66, .bool false), (27, .int .i64 s1), (30, .int .i64 s2), (28, .int .u8 0), (427, .pointer (some ⟨mb, 1, none⟩))]) rfl
  clear h127
  refine dr_batch tabOk2 tabZ_ok2 (by repeat (first | with_reducible exact PF.body | with_reducible apply PF.inB | with_reducible apply PF.next)) [(4, {}), (5, {}), (6, {}), (7, {k := 1, p := 1}), (8, {m := 1}), (9, {}), (10, {k := 1, p := 1})] [428, 29, 6, 3, 0, 1, 4, 5, 7, 53, 66, 27, 30, 28, 429, 430, 433, 435] (T' := [(428, .pointer (some ⟨Z.mc, 0, none⟩)), (29, .pointer (some ⟨b90, 0, none⟩)), (6, .pointer (some ⟨b14, 0, none⟩)), (3, .pointer (some ⟨b2, 0, none⟩)), (0, .pointer (some ⟨mb, 0, none⟩)), (1, .agg #[.int .u8 11, .int .u32 ev.pick, .int .u64 ev.draw, .int .u32 ev.addr, .int .u32 ev.node, .int .u32 ev.dst, .int .u32 ev.xfer, .int .u8 ev.ty, .int .u64 ev.arg, .int .u64 ev.badge, .slice xo ev.ws.length cx]), (4, .int .u8 0), (5, .bool false), (7, .pointer (some ⟨(Z.tp x), 0, none⟩)), (53, .int .u8 11), (66, .bool false), (27, .int .i64 s1), (30, .int .i64 s2), (28, .int .u8 0), (429, .int .i64 s2), (430, .int .i64 s1), (433, .int .u8 (IntKind.wrap .u8 ev.arg)), (435, .int .u64 ev.badge)]) (φ := (b2 = b2 ∧ Nat.ble (8 + 1) 11 = true) ∧ (b2 = b2 ∧ Nat.ble (9 + 1) 11 = true) ∧ True) (fuel := 3) h128 (by kernel_rfl) rfl (by kernel_rfl) (by kernel_rfl) ⟨trivial, trivial, trivial, rfl, trivial, trivial, rfl, trivial⟩ ⟨⟨rfl, rfl⟩, ⟨rfl, rfl⟩, trivial⟩ fun a129 h130 => ?_
  clear h128
  refine wpAnyK_one (i := 11) (fuel := 2) (by kernel_rfl) ?_
  obtain ⟨i1, j1, hi1, hj1, hp1, hs1⟩ := look_fact hI.ci hci.1 he.addr.1 e1 rfl
  obtain ⟨i2, j2, hi2, hj2, hp2, hs2⟩ := look_fact hI.ci hci2.1 he.dst.1 e2 rfl
  refine op_call h130 rfl rfl rfl (callOk Tryd.func94 (by decide) rfl) (args := [.pointer (some ⟨Z.mc, 0, none⟩), .int .i64 s2, .int .i64 s1, .int .u8 (IntKind.wrap .u8 ev.arg), .int .u64 ev.badge]) rfl (deriveE Z.mo Z.mc Z.nd C hi1 hj1 hp1 hs1 hi2 hj2 hp2 hs2 (IntKind.wrap .u8 ev.arg) ev.badge _ h130.inv.1.cp edc) ?_
  rintro _ w131 ⟨rfl, hc132, hf133⟩
  refine ⟨_, rfl, ?_⟩
  have h134a := st_cap h130 hc132 hf133 (fun b hb => .inl hb) (kcons (fun _ => rfl) (kcons (fun hq => by cases hq) (kcons (fun hq => by cases hq) (kcons (fun hq => by cases hq) knil))))
  have h134 := h134a.put (d := some 436) (v := .int .u8 dk) (T' := [(436, .int .u8 dk), (428, .pointer (some ⟨Z.mc, 0, none⟩)), (29, .pointer (some ⟨b90, 0, none⟩)), (6, .pointer (some ⟨b14, 0, none⟩)), (3, .pointer (some ⟨b2, 0, none⟩)), (0, .pointer (some ⟨mb, 0, none⟩)), (1, .agg #[.int .u8 11, .int .u32 ev.pick, .int .u64 ev.draw, .int .u32 ev.addr, .int .u32 ev.node, .int .u32 ev.dst, .int .u32 ev.xfer, .int .u8 ev.ty, .int .u64 ev.arg, .int .u64 ev.badge, .slice xo ev.ws.length cx]), (4, .int .u8 0), (5, .bool false), (7, .pointer (some ⟨(Z.tp x), 0, none⟩)), (53, .int .u8 11), (66, .bool false), (27, .int .i64 s1), (30, .int .i64 s2), (28, .int .u8 0), (429, .int .i64 s2), (430, .int .i64 s1), (433, .int .u8 (IntKind.wrap .u8 ev.arg)), (435, .int .u64 ev.badge)]) rfl
  refine ⟨keepNil, ?_⟩
  clear h130 h134a
  refine dr_batch tabOk2 tabZ_ok2 (by repeat (first | with_reducible exact PF.body | with_reducible apply PF.inB | with_reducible apply PF.next)) [(12, {}), (13, {})] [29, 6, 3, 0, 1, 7, 53, 66, 27, 30, 28, 4, 5] (T' := [(29, .pointer (some ⟨b90, 0, none⟩)), (6, .pointer (some ⟨b14, 0, none⟩)), (3, .pointer (some ⟨b2, 0, none⟩)), (0, .pointer (some ⟨mb, 0, none⟩)), (1, .agg #[.int .u8 11, .int .u32 ev.pick, .int .u64 ev.draw, .int .u32 ev.addr, .int .u32 ev.node, .int .u32 ev.dst, .int .u32 ev.xfer, .int .u8 ev.ty, .int .u64 ev.arg, .int .u64 ev.badge, .slice xo ev.ws.length cx]), (7, .pointer (some ⟨(Z.tp x), 0, none⟩)), (53, .int .u8 11), (66, .bool false), (27, .int .i64 s1), (30, .int .i64 s2), (28, .int .u8 0), (4, .int .u8 dk), (5, .bool false)]) (φ := True) (fuel := 0) h134 (by kernel_rfl) rfl (by kernel_rfl) (by kernel_rfl) ⟨trivial, trivial, trivial⟩ trivial fun a135 h136 => ?_
  clear h134
  refine wpAnyK_done (by kernel_rfl) ?_ _
  refine hK122 _ _ ?_
  clear hK122
  refine wp_ret ?_
  try simp only [Exit.then, Exit.inBlock]
  try rw [if_pos trivial]
  exact s_ret tabOk2 tabZ_ok2 h136 [(.tmp 4, {}), (.tmp 5, {})] (vs := [.int .u8 dk, .bool false]) (φ := True) rfl (by kernel_rfl) trivial (by exact ⟨rfl, _, mg_end hH h136 hhoh87 rfl⟩)

end Go.Proofs.Qxb6500918aDoor
