/-
  The model: retype. (Made by program: a symbolic walk that prints its steps.)
-/
import Derived.Test.Qxb6500918aDoorUq
import Derived.Test.Qxb6500918aDoorUs
namespace Go.Proofs.Qxb6500918aDoor
open Go.Sx Go.Kn
set_option maxRecDepth 100000
set_option maxHeartbeats 4000000
set_option linter.unusedVariables false
set_option linter.unusedSimpArgs false

theorem node_pres {C : CP} {E : Nat → Ent} {i x : Nat} (h : C.pres i = true) : (nodeP { C with ent := E } x).pres i = true := by
  show upd C.pres x true i = true
  by_cases e : i = x
  · subst e; exact upd_same _ _ _
  · rw [upd_other _ _ e]; exact h

theorem call10b (mb : Nat) (Z : MZ) (R : MR) (a : AK) (C : CP) (hI : MI Z a C) (x : Nat) (hx : x ∈ sl Z.tl) (hcu : a.cur = (x : Int)) (ev : Ev) (he : EvOk ev) (xo : Option Addr) (cx : Nat) (c : Cp) (cs0 k : Int) (hf : findA a C ev.addr 1 2 = (c, cs0, k)) (hk0 : k ≠ 0) (w : World) (hH : MH mb Z R a C w) (hws : WordsAt (mdF mb Z R C) w xo ev.ws) :
    Calls Tryd.prog 55 #[.pointer (some ⟨mb, 0, none⟩), .agg #[.int .u8 10, .int .u32 ev.pick, .int .u64 ev.draw, .int .u32 ev.addr, .int .u32 ev.node, .int .u32 ev.dst, .int .u32 ev.xfer, .int .u8 ev.ty, .int .u64 ev.arg, .int .u64 ev.badge, .slice xo ev.ws.length cx]] w fun e w' => e = .returned (.tuple #[.int .u8 k, .bool false]) ∧ ∃ R', MG mb Z R C w Z R' a C w' := by
  have hP := hI.mp
  have hcx : curR Z a = Z.ky x := curR_of hcu
  have hcn : a.cur.toNat = x := by rw [hcu]; exact Int.toNat_natCast x
  have hci := (hI.tk x hx).ci
  obtain ⟨ty3, hg3⟩ := hH.g3
  have hho := hH.ho
  have hkk := hH.md.k
  refine enter (n := 628) (K := mdF mb Z R C) (A := MD (mdF mb Z R C) w.heap.size mb Z R a C) (F := mdF mb Z R C) (T := [(0, .pointer (some ⟨mb, 0, none⟩)), (1, .agg #[.int .u8 10, .int .u32 ev.pick, .int .u64 ev.draw, .int .u32 ev.addr, .int .u32 ev.node, .int .u32 ev.dst, .int .u32 ev.xfer, .int .u8 ev.ty, .int .u64 ev.arg, .int .u64 ev.badge, .slice xo ev.ws.length cx])]) (L := [(3, ⟨[.int .u16 0, .int .u32 0], ty3, true⟩)]) (args := [.pointer (some ⟨mb, 0, none⟩), .agg #[.int .u8 10, .int .u32 ev.pick, .int .u64 ev.draw, .int .u32 ev.addr, .int .u32 ev.node, .int .u32 ev.dst, .int .u32 ev.xfer, .int .u8 ev.ty, .int .u64 ev.arg, .int .u64 ev.badge, .slice xo ev.ws.length cx]]) Tryd.func55 rfl rfl rfl rfl (kcons hg3 knil) (by simp) (kcons (by intro hq; cases hq) knil) hH.mD MD.stable hH.md.low (kcons (by intro hq; cases hq) knil) ?_
  intro ac h
  refine wp_seq_k fun K1 hK1 => ?_
  refine nd_start (l := [0, 1, 2]) rfl ?_
  refine nd_op ?_
  refine op_new tabOk2 (cells := [.int .u8 10, .int .u32 ev.pick, .int .u64 ev.draw, .int .u32 ev.addr, .int .u32 ev.node, .int .u32 ev.dst, .int .u32 ev.xfer, .int .u8 ev.ty, .int .u64 ev.arg, .int .u64 ev.badge, .slice xo ev.ws.length cx]) (ty := 35) (ln := none) (L1 := fun b2 => [(3, ⟨[.int .u16 0, .int .u32 0], ty3, true⟩), (b2, ⟨[.int .u8 10, .int .u32 ev.pick, .int .u64 ev.draw, .int .u32 ev.addr, .int .u32 ev.node, .int .u32 ev.dst, .int .u32 ev.xfer, .int .u8 ev.ty, .int .u64 ev.arg, .int .u64 ev.badge, .slice xo ev.ws.length cx], 35, false⟩)]) h rfl rfl rfl rfl (by kernel_rfl) (fun _ => rfl) fun b2 w3 a4 h5 hf6 hn7 => ?_
  clear h
  refine nd_batch tabOk2 tabZ_ok2 [(1, {}), (2, {})] [3, 0, 1, 4, 5] (T' := [(3, .pointer (some ⟨b2, 0, none⟩)), (0, .pointer (some ⟨mb, 0, none⟩)), (1, .agg #[.int .u8 10, .int .u32 ev.pick, .int .u64 ev.draw, .int .u32 ev.addr, .int .u32 ev.node, .int .u32 ev.dst, .int .u32 ev.xfer, .int .u8 ev.ty, .int .u64 ev.arg, .int .u64 ev.badge, .slice xo ev.ws.length cx]), (4, .int .u8 0), (5, .bool false)]) (φ := True) (rest := []) h5 (by kernel_rfl) rfl trivial fun a8 h9 => ?_
  clear h5
  refine nd_done ?_
  refine hK1 _ _ ?_
  clear hK1
  refine wp_seq_k fun K10 hK10 => ?_
  refine nd_start (l := [0, 1, 2, 3, 4, 5]) rfl ?_
  refine nd_batch tabOk2 tabZ_ok2 [(0, {}), (1, {}), (2, {})] [3, 0, 1, 4, 5, 44] (T' := [(3, .pointer (some ⟨b2, 0, none⟩)), (0, .pointer (some ⟨mb, 0, none⟩)), (1, .agg #[.int .u8 10, .int .u32 ev.pick, .int .u64 ev.draw, .int .u32 ev.addr, .int .u32 ev.node, .int .u32 ev.dst, .int .u32 ev.xfer, .int .u8 ev.ty, .int .u64 ev.arg, .int .u64 ev.badge, .slice xo ev.ws.length cx]), (4, .int .u8 0), (5, .bool false), (44, .pointer (some ⟨mb, 13, none⟩))]) (φ := True) (rest := [3, 4, 5]) h9 (by kernel_rfl) rfl trivial fun a11 h12 => ?_
  clear h9
  refine nd_op ?_
  refine op_read (b := mb) (v := .agg #[.int .u16 ((Z.ky x).idx), .int .u32 ((Z.ky x).gen)]) h12 rfl rfl (rd_mA h12 (k := 13) (vs := [.int .u16 ((Z.ky x).idx), .int .u32 ((Z.ky x).gen)]) rfl rfl rfl rfl rfl (by rw [← hcx]; exact md_cur)) ?_
  have h13 := h12.put (d := some 45) (v := .agg #[.int .u16 ((Z.ky x).idx), .int .u32 ((Z.ky x).gen)]) (T' := [(45, .agg #[.int .u16 ((Z.ky x).idx), .int .u32 ((Z.ky x).gen)]), (3, .pointer (some ⟨b2, 0, none⟩)), (0, .pointer (some ⟨mb, 0, none⟩)), (1, .agg #[.int .u8 10, .int .u32 ev.pick, .int .u64 ev.draw, .int .u32 ev.addr, .int .u32 ev.node, .int .u32 ev.dst, .int .u32 ev.xfer, .int .u8 ev.ty, .int .u64 ev.arg, .int .u64 ev.badge, .slice xo ev.ws.length cx]), (4, .int .u8 0), (5, .bool false), (44, .pointer (some ⟨mb, 13, none⟩))]) rfl
  clear h12
  refine nd_op ?_
  refine op_new tabOk2 (cells := [.int .u16 0, .int .u32 0]) (ty := 39) (ln := none) (L1 := fun b14 => [(3, ⟨[.int .u16 0, .int .u32 0], ty3, true⟩), (b2, ⟨[.int .u8 10, .int .u32 ev.pick, .int .u64 ev.draw, .int .u32 ev.addr, .int .u32 ev.node, .int .u32 ev.dst, .int .u32 ev.xfer, .int .u8 ev.ty, .int .u64 ev.arg, .int .u64 ev.badge, .slice xo ev.ws.length cx], 35, false⟩), (b14, ⟨[.int .u16 0, .int .u32 0], 39, false⟩)]) h13 rfl rfl rfl rfl (by kernel_rfl) (fun _ => rfl) fun b14 w15 a16 h17 hf18 hn19 => ?_
  clear h13
  refine nd_op ?_
  refine op_store tabOk2 {k := 2} (L' := [(3, ⟨[.int .u16 0, .int .u32 0], ty3, true⟩), (b2, ⟨[.int .u8 10, .int .u32 ev.pick, .int .u64 ev.draw, .int .u32 ev.addr, .int .u32 ev.node, .int .u32 ev.dst, .int .u32 ev.xfer, .int .u8 ev.ty, .int .u64 ev.arg, .int .u64 ev.badge, .slice xo ev.ws.length cx], 35, false⟩), (b14, ⟨[.int .u16 ((Z.ky x).idx), .int .u32 ((Z.ky x).gen)], 39, false⟩)]) (φ := b14 = b14 ∧ Nat.ble (0 + 2) 2 = true) h17 rfl rfl rfl (by kernel_rfl) ⟨rfl, rfl⟩ fun w20 h21 => ?_
  clear h17
  refine nd_done ?_
  refine hK10 _ _ ?_
  clear hK10
  refine wp_seq_k fun K22 hK22 => ?_
  refine dr_start (KB := [3, b2, b14, mb, Z.tb]) (Bi := [[0, 1, 2, 3, 4], [0, 1, 2, 3, 4], [0, 1, 2, 3, 4], [0, 1, 2, 3, 4], [0, 1, 2, 3, 4], [0, 1, 2, 3, 4], [0, 1, 2, 3, 4]]) mixed h21 fun w23 h24 => ?_
  clear h21
  refine dr_batch tabOk2 tabZ_ok2 (by repeat (first | with_reducible exact PF.body | with_reducible apply PF.inB | with_reducible apply PF.next)) [(0, {}), (1, {}), (2, {})] [6, 3, 0, 1, 4, 5, 48] (T' := [(6, .pointer (some ⟨b14, 0, none⟩)), (3, .pointer (some ⟨b2, 0, none⟩)), (0, .pointer (some ⟨mb, 0, none⟩)), (1, .agg #[.int .u8 10, .int .u32 ev.pick, .int .u64 ev.draw, .int .u32 ev.addr, .int .u32 ev.node, .int .u32 ev.dst, .int .u32 ev.xfer, .int .u8 ev.ty, .int .u64 ev.arg, .int .u64 ev.badge, .slice xo ev.ws.length cx]), (4, .int .u8 0), (5, .bool false), (48, .pointer (some ⟨mb, 2, none⟩))]) (φ := True) (fuel := 4) h24 (by kernel_rfl) rfl (by kernel_rfl) (by kernel_rfl) ⟨trivial, trivial, trivial, trivial⟩ trivial fun a26 h27 => ?_
  clear h24
  refine dr_read (i := 3) (b := mb) (p := 3) (v := .map (some Z.tb)) (fuel := 3) (by repeat (first | with_reducible exact PF.body | with_reducible apply PF.inB | with_reducible apply PF.next)) h27 rfl rfl rfl (by kernel_rfl) (by kernel_rfl) (by kernel_rfl) rfl (rd_m h27 (k := 2) (v := .map (some Z.tb)) rfl rfl rfl rfl (md_p ⟨rfl, trivial⟩)) ?_
  have h28 := h27.put (d := some 49) (v := .map (some Z.tb)) (T' := [(49, .map (some Z.tb)), (6, .pointer (some ⟨b14, 0, none⟩)), (3, .pointer (some ⟨b2, 0, none⟩)), (0, .pointer (some ⟨mb, 0, none⟩)), (1, .agg #[.int .u8 10, .int .u32 ev.pick, .int .u64 ev.draw, .int .u32 ev.addr, .int .u32 ev.node, .int .u32 ev.dst, .int .u32 ev.xfer, .int .u8 ev.ty, .int .u64 ev.arg, .int .u64 ev.badge, .slice xo ev.ws.length cx]), (4, .int .u8 0), (5, .bool false), (48, .pointer (some ⟨mb, 2, none⟩))]) rfl
  clear h27
  refine dr_batch tabOk2 tabZ_ok2 (by repeat (first | with_reducible exact PF.body | with_reducible apply PF.inB | with_reducible apply PF.next)) [(4, {k := 2, p := 2})] [49, 6, 3, 0, 1, 4, 5, 50] (T' := [(49, .map (some Z.tb)), (6, .pointer (some ⟨b14, 0, none⟩)), (3, .pointer (some ⟨b2, 0, none⟩)), (0, .pointer (some ⟨mb, 0, none⟩)), (1, .agg #[.int .u8 10, .int .u32 ev.pick, .int .u64 ev.draw, .int .u32 ev.addr, .int .u32 ev.node, .int .u32 ev.dst, .int .u32 ev.xfer, .int .u8 ev.ty, .int .u64 ev.arg, .int .u64 ev.badge, .slice xo ev.ws.length cx]), (4, .int .u8 0), (5, .bool false), (50, .agg #[.int .u16 ((Z.ky x).idx), .int .u32 ((Z.ky x).gen)])]) (φ := (b14 = b14 ∧ Nat.ble (0 + 2) 2 = true) ∧ True) (fuel := 2) h28 (by kernel_rfl) rfl (by kernel_rfl) (by kernel_rfl) ⟨rfl, trivial⟩ ⟨⟨rfl, rfl⟩, trivial⟩ fun a29 h30 => ?_
  clear h28
  refine dr_read (i := 5) (b := Z.tb) (p := 4) (v := .pointer (some ⟨(Z.tp x), 0, none⟩)) (fuel := 1) (by repeat (first | with_reducible exact PF.body | with_reducible apply PF.inB | with_reducible apply PF.next)) h30 rfl rfl rfl (by kernel_rfl) (by kernel_rfl) (by kernel_rfl) rfl (rd_T h30 (x := x) hx rfl rfl rfl) ?_
  have h31 := h30.put (d := some 51) (v := .pointer (some ⟨(Z.tp x), 0, none⟩)) (T' := [(51, .pointer (some ⟨(Z.tp x), 0, none⟩)), (49, .map (some Z.tb)), (6, .pointer (some ⟨b14, 0, none⟩)), (3, .pointer (some ⟨b2, 0, none⟩)), (0, .pointer (some ⟨mb, 0, none⟩)), (1, .agg #[.int .u8 10, .int .u32 ev.pick, .int .u64 ev.draw, .int .u32 ev.addr, .int .u32 ev.node, .int .u32 ev.dst, .int .u32 ev.xfer, .int .u8 ev.ty, .int .u64 ev.arg, .int .u64 ev.badge, .slice xo ev.ws.length cx]), (4, .int .u8 0), (5, .bool false), (50, .agg #[.int .u16 ((Z.ky x).idx), .int .u32 ((Z.ky x).gen)])]) rfl
  clear h30
  refine dr_batch tabOk2 tabZ_ok2 (by repeat (first | with_reducible exact PF.body | with_reducible apply PF.inB | with_reducible apply PF.next)) [(6, {})] [6, 3, 0, 1, 4, 5, 7] (T' := [(6, .pointer (some ⟨b14, 0, none⟩)), (3, .pointer (some ⟨b2, 0, none⟩)), (0, .pointer (some ⟨mb, 0, none⟩)), (1, .agg #[.int .u8 10, .int .u32 ev.pick, .int .u64 ev.draw, .int .u32 ev.addr, .int .u32 ev.node, .int .u32 ev.dst, .int .u32 ev.xfer, .int .u8 ev.ty, .int .u64 ev.arg, .int .u64 ev.badge, .slice xo ev.ws.length cx]), (4, .int .u8 0), (5, .bool false), (7, .pointer (some ⟨(Z.tp x), 0, none⟩))]) (φ := True) (fuel := 0) h31 (by kernel_rfl) rfl (by kernel_rfl) (by kernel_rfl) ⟨trivial, trivial⟩ trivial fun a32 h33 => ?_
  clear h31
  refine wpAnyK_done (by kernel_rfl) ?_ _
  refine hK22 _ _ ?_
  clear hK22
  refine wp_seq_k fun K34 hK34 => ?_
  refine wp_seq_k fun K35 hK35 => ?_
  refine nd_start (l := [0, 1]) rfl ?_
  refine nd_batch tabOk2 tabZ_ok2 [(0, {}), (1, {k := 1})] [6, 3, 0, 1, 4, 5, 7, 53] (T' := [(6, .pointer (some ⟨b14, 0, none⟩)), (3, .pointer (some ⟨b2, 0, none⟩)), (0, .pointer (some ⟨mb, 0, none⟩)), (1, .agg #[.int .u8 10, .int .u32 ev.pick, .int .u64 ev.draw, .int .u32 ev.addr, .int .u32 ev.node, .int .u32 ev.dst, .int .u32 ev.xfer, .int .u8 ev.ty, .int .u64 ev.arg, .int .u64 ev.badge, .slice xo ev.ws.length cx]), (4, .int .u8 0), (5, .bool false), (7, .pointer (some ⟨(Z.tp x), 0, none⟩)), (53, .int .u8 10)]) (φ := (b2 = b2 ∧ Nat.ble (0 + 1) 11 = true) ∧ True) (rest := []) h33 (by kernel_rfl) rfl ⟨⟨rfl, rfl⟩, trivial⟩ fun a36 h37 => ?_
  clear h33
  refine nd_done ?_
  refine hK35 _ _ ?_
  clear hK35
  refine wp_block ?_
  refine wp_seq_k fun K38 hK38 => ?_
  refine nd_start (l := [0, 1]) rfl ?_
  refine nd_batch tabOk2 tabZ_ok2 [(0, {}), (1, {})] [6, 3, 0, 1, 4, 5, 7, 53, 54] (T' := [(6, .pointer (some ⟨b14, 0, none⟩)), (3, .pointer (some ⟨b2, 0, none⟩)), (0, .pointer (some ⟨mb, 0, none⟩)), (1, .agg #[.int .u8 10, .int .u32 ev.pick, .int .u64 ev.draw, .int .u32 ev.addr, .int .u32 ev.node, .int .u32 ev.dst, .int .u32 ev.xfer, .int .u8 ev.ty, .int .u64 ev.arg, .int .u64 ev.badge, .slice xo ev.ws.length cx]), (4, .int .u8 0), (5, .bool false), (7, .pointer (some ⟨(Z.tp x), 0, none⟩)), (53, .int .u8 10), (54, .bool false)]) (φ := True) (rest := []) h37 (by kernel_rfl) rfl trivial fun a39 h40 => ?_
  clear h37
  refine nd_done ?_
  refine hK38 _ _ ?_
  clear hK38
  refine c_false h40 rfl ?_
  refine wp_seq_k fun K41 hK41 => ?_
  refine nd_start (l := [0, 1]) rfl ?_
  refine nd_batch tabOk2 tabZ_ok2 [(0, {}), (1, {})] [6, 3, 0, 1, 4, 5, 7, 53, 59] (T' := [(6, .pointer (some ⟨b14, 0, none⟩)), (3, .pointer (some ⟨b2, 0, none⟩)), (0, .pointer (some ⟨mb, 0, none⟩)), (1, .agg #[.int .u8 10, .int .u32 ev.pick, .int .u64 ev.draw, .int .u32 ev.addr, .int .u32 ev.node, .int .u32 ev.dst, .int .u32 ev.xfer, .int .u8 ev.ty, .int .u64 ev.arg, .int .u64 ev.badge, .slice xo ev.ws.length cx]), (4, .int .u8 0), (5, .bool false), (7, .pointer (some ⟨(Z.tp x), 0, none⟩)), (53, .int .u8 10), (59, .bool false)]) (φ := True) (rest := []) h40 (by kernel_rfl) rfl trivial fun a42 h43 => ?_
  clear h40
  refine nd_done ?_
  refine hK41 _ _ ?_
  clear hK41
  refine c_false h43 rfl ?_
  refine wp_seq_k fun K44 hK44 => ?_
  refine wp_seq_k fun K45 hK45 => ?_
  refine nd_start (l := [0, 1]) rfl ?_
  refine nd_batch tabOk2 tabZ_ok2 [(0, {}), (1, {})] [6, 3, 0, 1, 4, 5, 7, 53, 66] (T' := [(6, .pointer (some ⟨b14, 0, none⟩)), (3, .pointer (some ⟨b2, 0, none⟩)), (0, .pointer (some ⟨mb, 0, none⟩)), (1, .agg #[.int .u8 10, .int .u32 ev.pick, .int .u64 ev.draw, .int .u32 ev.addr, .int .u32 ev.node, .int .u32 ev.dst, .int .u32 ev.xfer, .int .u8 ev.ty, .int .u64 ev.arg, .int .u64 ev.badge, .slice xo ev.ws.length cx]), (4, .int .u8 0), (5, .bool false), (7, .pointer (some ⟨(Z.tp x), 0, none⟩)), (53, .int .u8 10), (66, .bool false)]) (φ := True) (rest := []) h43 (by kernel_rfl) rfl trivial fun a46 h47 => ?_
  clear h43
  refine nd_done ?_
  refine hK45 _ _ ?_
  clear hK45
  refine c_false h47 rfl ?_
  refine nd_start (l := [0, 1]) rfl ?_
  refine nd_batch tabOk2 tabZ_ok2 [(0, {}), (1, {})] [6, 3, 0, 1, 4, 5, 7, 53, 66] (T' := [(6, .pointer (some ⟨b14, 0, none⟩)), (3, .pointer (some ⟨b2, 0, none⟩)), (0, .pointer (some ⟨mb, 0, none⟩)), (1, .agg #[.int .u8 10, .int .u32 ev.pick, .int .u64 ev.draw, .int .u32 ev.addr, .int .u32 ev.node, .int .u32 ev.dst, .int .u32 ev.xfer, .int .u8 ev.ty, .int .u64 ev.arg, .int .u64 ev.badge, .slice xo ev.ws.length cx]), (4, .int .u8 0), (5, .bool false), (7, .pointer (some ⟨(Z.tp x), 0, none⟩)), (53, .int .u8 10), (66, .bool false)]) (φ := True) (rest := []) h47 (by kernel_rfl) rfl trivial fun a48 h49 => ?_
  clear h47
  refine nd_done ?_
  refine hK44 _ _ ?_
  clear hK44
  refine c_false h49 rfl ?_
  refine wp_seq_k fun K50 hK50 => ?_
  refine nd_start (l := [0, 1]) rfl ?_
  refine nd_batch tabOk2 tabZ_ok2 [(0, {}), (1, {})] [6, 3, 0, 1, 4, 5, 7, 53, 66, 129] (T' := [(6, .pointer (some ⟨b14, 0, none⟩)), (3, .pointer (some ⟨b2, 0, none⟩)), (0, .pointer (some ⟨mb, 0, none⟩)), (1, .agg #[.int .u8 10, .int .u32 ev.pick, .int .u64 ev.draw, .int .u32 ev.addr, .int .u32 ev.node, .int .u32 ev.dst, .int .u32 ev.xfer, .int .u8 ev.ty, .int .u64 ev.arg, .int .u64 ev.badge, .slice xo ev.ws.length cx]), (4, .int .u8 0), (5, .bool false), (7, .pointer (some ⟨(Z.tp x), 0, none⟩)), (53, .int .u8 10), (66, .bool false), (129, .bool false)]) (φ := True) (rest := []) h49 (by kernel_rfl) rfl trivial fun a51 h52 => ?_
  clear h49
  refine nd_done ?_
  refine hK50 _ _ ?_
  clear hK50
  refine c_false h52 rfl ?_
  refine wp_seq_k fun K53 hK53 => ?_
  refine nd_start (l := [0, 1]) rfl ?_
  refine nd_batch tabOk2 tabZ_ok2 [(0, {}), (1, {})] [6, 3, 0, 1, 4, 5, 7, 53, 66, 165] (T' := [(6, .pointer (some ⟨b14, 0, none⟩)), (3, .pointer (some ⟨b2, 0, none⟩)), (0, .pointer (some ⟨mb, 0, none⟩)), (1, .agg #[.int .u8 10, .int .u32 ev.pick, .int .u64 ev.draw, .int .u32 ev.addr, .int .u32 ev.node, .int .u32 ev.dst, .int .u32 ev.xfer, .int .u8 ev.ty, .int .u64 ev.arg, .int .u64 ev.badge, .slice xo ev.ws.length cx]), (4, .int .u8 0), (5, .bool false), (7, .pointer (some ⟨(Z.tp x), 0, none⟩)), (53, .int .u8 10), (66, .bool false), (165, .bool false)]) (φ := True) (rest := []) h52 (by kernel_rfl) rfl trivial fun a54 h55 => ?_
  clear h52
  refine nd_done ?_
  refine hK53 _ _ ?_
  clear hK53
  refine c_false h55 rfl ?_
  refine wp_seq_k fun K56 hK56 => ?_
  refine nd_start (l := [0, 1]) rfl ?_
  refine nd_batch tabOk2 tabZ_ok2 [(0, {}), (1, {})] [6, 3, 0, 1, 4, 5, 7, 53, 66, 226] (T' := [(6, .pointer (some ⟨b14, 0, none⟩)), (3, .pointer (some ⟨b2, 0, none⟩)), (0, .pointer (some ⟨mb, 0, none⟩)), (1, .agg #[.int .u8 10, .int .u32 ev.pick, .int .u64 ev.draw, .int .u32 ev.addr, .int .u32 ev.node, .int .u32 ev.dst, .int .u32 ev.xfer, .int .u8 ev.ty, .int .u64 ev.arg, .int .u64 ev.badge, .slice xo ev.ws.length cx]), (4, .int .u8 0), (5, .bool false), (7, .pointer (some ⟨(Z.tp x), 0, none⟩)), (53, .int .u8 10), (66, .bool false), (226, .bool false)]) (φ := True) (rest := []) h55 (by kernel_rfl) rfl trivial fun a57 h58 => ?_
  clear h55
  refine nd_done ?_
  refine hK56 _ _ ?_
  clear hK56
  refine c_false h58 rfl ?_
  refine wp_seq_k fun K59 hK59 => ?_
  refine nd_start (l := [0, 1]) rfl ?_
  refine nd_batch tabOk2 tabZ_ok2 [(0, {}), (1, {})] [6, 3, 0, 1, 4, 5, 7, 53, 66, 244] (T' := [(6, .pointer (some ⟨b14, 0, none⟩)), (3, .pointer (some ⟨b2, 0, none⟩)), (0, .pointer (some ⟨mb, 0, none⟩)), (1, .agg #[.int .u8 10, .int .u32 ev.pick, .int .u64 ev.draw, .int .u32 ev.addr, .int .u32 ev.node, .int .u32 ev.dst, .int .u32 ev.xfer, .int .u8 ev.ty, .int .u64 ev.arg, .int .u64 ev.badge, .slice xo ev.ws.length cx]), (4, .int .u8 0), (5, .bool false), (7, .pointer (some ⟨(Z.tp x), 0, none⟩)), (53, .int .u8 10), (66, .bool false), (244, .bool false)]) (φ := True) (rest := []) h58 (by kernel_rfl) rfl trivial fun a60 h61 => ?_
  clear h58
  refine nd_done ?_
  refine hK59 _ _ ?_
  clear hK59
  refine c_false h61 rfl ?_
  refine wp_seq_k fun K62 hK62 => ?_
  refine nd_start (l := [0, 1]) rfl ?_
  refine nd_batch tabOk2 tabZ_ok2 [(0, {}), (1, {})] [6, 3, 0, 1, 4, 5, 7, 53, 66, 285] (T' := [(6, .pointer (some ⟨b14, 0, none⟩)), (3, .pointer (some ⟨b2, 0, none⟩)), (0, .pointer (some ⟨mb, 0, none⟩)), (1, .agg #[.int .u8 10, .int .u32 ev.pick, .int .u64 ev.draw, .int .u32 ev.addr, .int .u32 ev.node, .int .u32 ev.dst, .int .u32 ev.xfer, .int .u8 ev.ty, .int .u64 ev.arg, .int .u64 ev.badge, .slice xo ev.ws.length cx]), (4, .int .u8 0), (5, .bool false), (7, .pointer (some ⟨(Z.tp x), 0, none⟩)), (53, .int .u8 10), (66, .bool false), (285, .bool true)]) (φ := True) (rest := []) h61 (by kernel_rfl) rfl trivial fun a63 h64 => ?_
  clear h61
  refine nd_done ?_
  refine hK62 _ _ ?_
  clear hK62
  refine c_true h64 rfl ?_
  refine wp_seq_k fun K65 hK65 => ?_
  refine wp_seq_k fun K66 hK66 => ?_
  refine nd_start (l := [0, 1, 2, 3, 4, 5, 6, 7, 8, 9]) rfl ?_
  refine nd_batch tabOk2 tabZ_ok2 [(0, {}), (1, {}), (2, {k := 1})] [6, 3, 0, 1, 4, 5, 7, 53, 66, 288, 290] (T' := [(6, .pointer (some ⟨b14, 0, none⟩)), (3, .pointer (some ⟨b2, 0, none⟩)), (0, .pointer (some ⟨mb, 0, none⟩)), (1, .agg #[.int .u8 10, .int .u32 ev.pick, .int .u64 ev.draw, .int .u32 ev.addr, .int .u32 ev.node, .int .u32 ev.dst, .int .u32 ev.xfer, .int .u8 ev.ty, .int .u64 ev.arg, .int .u64 ev.badge, .slice xo ev.ws.length cx]), (4, .int .u8 0), (5, .bool false), (7, .pointer (some ⟨(Z.tp x), 0, none⟩)), (53, .int .u8 10), (66, .bool false), (288, .pointer (some ⟨mb, 0, none⟩)), (290, .int .u32 ev.addr)]) (φ := (b2 = b2 ∧ Nat.ble (3 + 1) 11 = true) ∧ True) (rest := [3, 4, 5, 6, 7, 8, 9]) h64 (by kernel_rfl) rfl ⟨⟨rfl, rfl⟩, trivial⟩ fun a67 h68 => ?_
  clear h64
  refine nd_op ?_
  refine op_call h68 rfl rfl rfl (callOk Tryd.func90 (by decide) rfl) (args := [.pointer (some ⟨mb, 0, none⟩), .int .u32 ev.addr, .int .u8 1, .int .u8 2]) rfl (capOf_ok mb Z _ a C x hx hcx hci hcn hI.ci ev.addr 1 2 he.addr _ (mh_of h68 hho (k := 0) rfl) hf) ?_
  rintro _ w69 ⟨rfl, hg71⟩
  refine ⟨_, rfl, ?_⟩
  have h72a := st_mg h68 hg71 (kcons (fun _ => rfl) (kcons (fun hq => by cases hq) (kcons (fun hq => by cases hq) knil)))
  have h72 := h72a.put (d := some 291) (v := .tuple #[.agg #[.int .u8 c.ty, .int .u16 c.obj.idx, .int .u32 c.obj.gen, .int .u8 c.rights, .int .u64 c.badge], .int .u8 k]) (T' := [(291, .tuple #[.agg #[.int .u8 c.ty, .int .u16 c.obj.idx, .int .u32 c.obj.gen, .int .u8 c.rights, .int .u64 c.badge], .int .u8 k]), (6, .pointer (some ⟨b14, 0, none⟩)), (3, .pointer (some ⟨b2, 0, none⟩)), (0, .pointer (some ⟨mb, 0, none⟩)), (1, .agg #[.int .u8 10, .int .u32 ev.pick, .int .u64 ev.draw, .int .u32 ev.addr, .int .u32 ev.node, .int .u32 ev.dst, .int .u32 ev.xfer, .int .u8 ev.ty, .int .u64 ev.arg, .int .u64 ev.badge, .slice xo ev.ws.length cx]), (4, .int .u8 0), (5, .bool false), (7, .pointer (some ⟨(Z.tp x), 0, none⟩)), (53, .int .u8 10), (66, .bool false), (288, .pointer (some ⟨mb, 0, none⟩)), (290, .int .u32 ev.addr)]) rfl
  have hhoh72 := hg71.mh.ho
  clear h68 h72a
  refine nd_batch tabOk2 tabZ_ok2 [(4, {}), (5, {}), (6, {})] [6, 3, 0, 1, 4, 5, 7, 53, 66, 292, 293] (T' := [(6, .pointer (some ⟨b14, 0, none⟩)), (3, .pointer (some ⟨b2, 0, none⟩)), (0, .pointer (some ⟨mb, 0, none⟩)), (1, .agg #[.int .u8 10, .int .u32 ev.pick, .int .u64 ev.draw, .int .u32 ev.addr, .int .u32 ev.node, .int .u32 ev.dst, .int .u32 ev.xfer, .int .u8 ev.ty, .int .u64 ev.arg, .int .u64 ev.badge, .slice xo ev.ws.length cx]), (4, .int .u8 0), (5, .bool false), (7, .pointer (some ⟨(Z.tp x), 0, none⟩)), (53, .int .u8 10), (66, .bool false), (292, .agg #[.int .u8 c.ty, .int .u16 c.obj.idx, .int .u32 c.obj.gen, .int .u8 c.rights, .int .u64 c.badge]), (293, .int .u8 k)]) (φ := True) (rest := [7, 8, 9]) h72 (by kernel_rfl) rfl trivial fun a73 h74 => ?_
  clear h72
  refine nd_op ?_
  refine op_new tabOk2 (cells := [.int .u8 0, .int .u16 0, .int .u32 0, .int .u8 0, .int .u64 0]) (ty := 49) (ln := none) (L1 := fun b75 => [(3, ⟨[.int .u16 0, .int .u32 0], ty3, true⟩), (b2, ⟨[.int .u8 10, .int .u32 ev.pick, .int .u64 ev.draw, .int .u32 ev.addr, .int .u32 ev.node, .int .u32 ev.dst, .int .u32 ev.xfer, .int .u8 ev.ty, .int .u64 ev.arg, .int .u64 ev.badge, .slice xo ev.ws.length cx], 35, false⟩), (b14, ⟨[.int .u16 ((Z.ky x).idx), .int .u32 ((Z.ky x).gen)], 39, false⟩), (b75, ⟨[.int .u8 0, .int .u16 0, .int .u32 0, .int .u8 0, .int .u64 0], 49, false⟩)]) h74 rfl rfl rfl rfl (by kernel_rfl) (fun _ => rfl) fun b75 w76 a77 h78 hf79 hn80 => ?_
  clear h74
  refine nd_op ?_
  refine op_store tabOk2 {k := 3} (L' := [(3, ⟨[.int .u16 0, .int .u32 0], ty3, true⟩), (b2, ⟨[.int .u8 10, .int .u32 ev.pick, .int .u64 ev.draw, .int .u32 ev.addr, .int .u32 ev.node, .int .u32 ev.dst, .int .u32 ev.xfer, .int .u8 ev.ty, .int .u64 ev.arg, .int .u64 ev.badge, .slice xo ev.ws.length cx], 35, false⟩), (b14, ⟨[.int .u16 ((Z.ky x).idx), .int .u32 ((Z.ky x).gen)], 39, false⟩), (b75, ⟨[.int .u8 c.ty, .int .u16 c.obj.idx, .int .u32 c.obj.gen, .int .u8 c.rights, .int .u64 c.badge], 49, false⟩)]) (φ := b75 = b75 ∧ Nat.ble (0 + 5) 5 = true) h78 rfl rfl rfl (by kernel_rfl) ⟨rfl, rfl⟩ fun w81 h82 => ?_
  clear h78
  refine nd_batch tabOk2 tabZ_ok2 [(9, {})] [6, 3, 0, 1, 4, 5, 7, 53, 66, 21] (T' := [(6, .pointer (some ⟨b14, 0, none⟩)), (3, .pointer (some ⟨b2, 0, none⟩)), (0, .pointer (some ⟨mb, 0, none⟩)), (1, .agg #[.int .u8 10, .int .u32 ev.pick, .int .u64 ev.draw, .int .u32 ev.addr, .int .u32 ev.node, .int .u32 ev.dst, .int .u32 ev.xfer, .int .u8 ev.ty, .int .u64 ev.arg, .int .u64 ev.badge, .slice xo ev.ws.length cx]), (4, .int .u8 0), (5, .bool false), (7, .pointer (some ⟨(Z.tp x), 0, none⟩)), (53, .int .u8 10), (66, .bool false), (21, .int .u8 k)]) (φ := True) (rest := []) h82 (by kernel_rfl) rfl trivial fun a83 h84 => ?_
  clear h82
  refine nd_done ?_
  refine hK66 _ _ ?_
  clear hK66
  refine wp_seq_k fun K85 hK85 => ?_
  refine nd_start (l := [0, 1]) rfl ?_
  refine nd_batch tabOk2 tabZ_ok2 [(0, {}), (1, {})] [6, 3, 0, 1, 4, 5, 7, 53, 66, 21, 295] (T' := [(6, .pointer (some ⟨b14, 0, none⟩)), (3, .pointer (some ⟨b2, 0, none⟩)), (0, .pointer (some ⟨mb, 0, none⟩)), (1, .agg #[.int .u8 10, .int .u32 ev.pick, .int .u64 ev.draw, .int .u32 ev.addr, .int .u32 ev.node, .int .u32 ev.dst, .int .u32 ev.xfer, .int .u8 ev.ty, .int .u64 ev.arg, .int .u64 ev.badge, .slice xo ev.ws.length cx]), (4, .int .u8 0), (5, .bool false), (7, .pointer (some ⟨(Z.tp x), 0, none⟩)), (53, .int .u8 10), (66, .bool false), (21, .int .u8 k), (295, .bool (k != 0))]) (φ := True) (rest := []) h84 (by kernel_rfl) rfl trivial fun a86 h87 => ?_
  clear h84
  refine nd_done ?_
  refine hK85 _ _ ?_
  clear hK85
  refine c_split h87 (b := (k != 0)) rfl (fun hc88 => ?_) (fun hc88 => ?_)
  ·
    have hc88f : k ≠ 0 := by simpa using hc88
    refine wp_seq_k fun K89 hK89 => ?_
    refine nd_start (l := [0, 1, 2]) rfl ?_
    refine nd_batch tabOk2 tabZ_ok2 [(0, {}), (1, {}), (2, {})] [6, 3, 0, 1, 7, 53, 66, 21, 4, 5] (T' := [(6, .pointer (some ⟨b14, 0, none⟩)), (3, .pointer (some ⟨b2, 0, none⟩)), (0, .pointer (some ⟨mb, 0, none⟩)), (1, .agg #[.int .u8 10, .int .u32 ev.pick, .int .u64 ev.draw, .int .u32 ev.addr, .int .u32 ev.node, .int .u32 ev.dst, .int .u32 ev.xfer, .int .u8 ev.ty, .int .u64 ev.arg, .int .u64 ev.badge, .slice xo ev.ws.length cx]), (7, .pointer (some ⟨(Z.tp x), 0, none⟩)), (53, .int .u8 10), (66, .bool false), (21, .int .u8 k), (4, .int .u8 k), (5, .bool false)]) (φ := True) (rest := []) h87 (by kernel_rfl) rfl trivial fun a90 h91 => ?_
    clear h87
    refine nd_done ?_
    refine hK89 _ _ ?_
    clear hK89
    refine wp_ret ?_
    try simp only [Exit.then, Exit.inBlock]
    try rw [if_pos trivial]
    exact s_ret tabOk2 tabZ_ok2 h91 [(.tmp 4, {}), (.tmp 5, {})] (vs := [.int .u8 k, .bool false]) (φ := True) rfl (by kernel_rfl) trivial ⟨rfl, _, mg_end hH h91 hhoh72 rfl⟩
  ·
    have hc88f : k = 0 := by simpa using hc88
    exact absurd hc88f hk0

theorem call10c (mb : Nat) (Z : MZ) (R : MR) (a : AK) (C : CP) (hI : MI Z a C) (x : Nat) (hx : x ∈ sl Z.tl) (hcu : a.cur = (x : Int)) (ev : Ev) (he : EvOk ev) (xo : Option Addr) (cx : Nat) (c : Cp) (cs0 : Int) (hf : findA a C ev.addr 1 2 = (c, cs0, 0)) (s1 : Int) (e1 : lookP C.ent (a.th x).cs ev.addr = (s1, 0)) (s2 k2 : Int) (e2 : lookP C.ent (a.th x).cs ev.dst = (s2, k2)) (hk0 : k2 ≠ 0) (w : World) (hH : MH mb Z R a C w) (hws : WordsAt (mdF mb Z R C) w xo ev.ws) :
    Calls Tryd.prog 55 #[.pointer (some ⟨mb, 0, none⟩), .agg #[.int .u8 10, .int .u32 ev.pick, .int .u64 ev.draw, .int .u32 ev.addr, .int .u32 ev.node, .int .u32 ev.dst, .int .u32 ev.xfer, .int .u8 ev.ty, .int .u64 ev.arg, .int .u64 ev.badge, .slice xo ev.ws.length cx]] w fun e w' => e = .returned (.tuple #[.int .u8 k2, .bool false]) ∧ ∃ R', MG mb Z R C w Z R' a C w' := by
  have hP := hI.mp
  have hcx : curR Z a = Z.ky x := curR_of hcu
  have hcn : a.cur.toNat = x := by rw [hcu]; exact Int.toNat_natCast x
  have hci := (hI.tk x hx).ci
  obtain ⟨ty3, hg3⟩ := hH.g3
  have hho := hH.ho
  have hkk := hH.md.k
  refine enter (n := 628) (K := mdF mb Z R C) (A := MD (mdF mb Z R C) w.heap.size mb Z R a C) (F := mdF mb Z R C) (T := [(0, .pointer (some ⟨mb, 0, none⟩)), (1, .agg #[.int .u8 10, .int .u32 ev.pick, .int .u64 ev.draw, .int .u32 ev.addr, .int .u32 ev.node, .int .u32 ev.dst, .int .u32 ev.xfer, .int .u8 ev.ty, .int .u64 ev.arg, .int .u64 ev.badge, .slice xo ev.ws.length cx])]) (L := [(3, ⟨[.int .u16 0, .int .u32 0], ty3, true⟩)]) (args := [.pointer (some ⟨mb, 0, none⟩), .agg #[.int .u8 10, .int .u32 ev.pick, .int .u64 ev.draw, .int .u32 ev.addr, .int .u32 ev.node, .int .u32 ev.dst, .int .u32 ev.xfer, .int .u8 ev.ty, .int .u64 ev.arg, .int .u64 ev.badge, .slice xo ev.ws.length cx]]) Tryd.func55 rfl rfl rfl rfl (kcons hg3 knil) (by simp) (kcons (by intro hq; cases hq) knil) hH.mD MD.stable hH.md.low (kcons (by intro hq; cases hq) knil) ?_
  intro ac h
  refine wp_seq_k fun K1 hK1 => ?_
  refine nd_start (l := [0, 1, 2]) rfl ?_
  refine nd_op ?_
  refine op_new tabOk2 (cells := [.int .u8 10, .int .u32 ev.pick, .int .u64 ev.draw, .int .u32 ev.addr, .int .u32 ev.node, .int .u32 ev.dst, .int .u32 ev.xfer, .int .u8 ev.ty, .int .u64 ev.arg, .int .u64 ev.badge, .slice xo ev.ws.length cx]) (ty := 35) (ln := none) (L1 := fun b2 => [(3, ⟨[.int .u16 0, .int .u32 0], ty3, true⟩), (b2, ⟨[.int .u8 10, .int .u32 ev.pick, .int .u64 ev.draw, .int .u32 ev.addr, .int .u32 ev.node, .int .u32 ev.dst, .int .u32 ev.xfer, .int .u8 ev.ty, .int .u64 ev.arg, .int .u64 ev.badge, .slice xo ev.ws.length cx], 35, false⟩)]) h rfl rfl rfl rfl (by kernel_rfl) (fun _ => rfl) fun b2 w3 a4 h5 hf6 hn7 => ?_
  clear h
  refine nd_batch tabOk2 tabZ_ok2 [(1, {}), (2, {})] [3, 0, 1, 4, 5] (T' := [(3, .pointer (some ⟨b2, 0, none⟩)), (0, .pointer (some ⟨mb, 0, none⟩)), (1, .agg #[.int .u8 10, .int .u32 ev.pick, .int .u64 ev.draw, .int .u32 ev.addr, .int .u32 ev.node, .int .u32 ev.dst, .int .u32 ev.xfer, .int .u8 ev.ty, .int .u64 ev.arg, .int .u64 ev.badge, .slice xo ev.ws.length cx]), (4, .int .u8 0), (5, .bool false)]) (φ := True) (rest := []) h5 (by kernel_rfl) rfl trivial fun a8 h9 => ?_
  clear h5
  refine nd_done ?_
  refine hK1 _ _ ?_
  clear hK1
  refine wp_seq_k fun K10 hK10 => ?_
  refine nd_start (l := [0, 1, 2, 3, 4, 5]) rfl ?_
  refine nd_batch tabOk2 tabZ_ok2 [(0, {}), (1, {}), (2, {})] [3, 0, 1, 4, 5, 44] (T' := [(3, .pointer (some ⟨b2, 0, none⟩)), (0, .pointer (some ⟨mb, 0, none⟩)), (1, .agg #[.int .u8 10, .int .u32 ev.pick, .int .u64 ev.draw, .int .u32 ev.addr, .int .u32 ev.node, .int .u32 ev.dst, .int .u32 ev.xfer, .int .u8 ev.ty, .int .u64 ev.arg, .int .u64 ev.badge, .slice xo ev.ws.length cx]), (4, .int .u8 0), (5, .bool false), (44, .pointer (some ⟨mb, 13, none⟩))]) (φ := True) (rest := [3, 4, 5]) h9 (by kernel_rfl) rfl trivial fun a11 h12 => ?_
  clear h9
  refine nd_op ?_
  refine op_read (b := mb) (v := .agg #[.int .u16 ((Z.ky x).idx), .int .u32 ((Z.ky x).gen)]) h12 rfl rfl (rd_mA h12 (k := 13) (vs := [.int .u16 ((Z.ky x).idx), .int .u32 ((Z.ky x).gen)]) rfl rfl rfl rfl rfl (by rw [← hcx]; exact md_cur)) ?_
  have h13 := h12.put (d := some 45) (v := .agg #[.int .u16 ((Z.ky x).idx), .int .u32 ((Z.ky x).gen)]) (T' := [(45, .agg #[.int .u16 ((Z.ky x).idx), .int .u32 ((Z.ky x).gen)]), (3, .pointer (some ⟨b2, 0, none⟩)), (0, .pointer (some ⟨mb, 0, none⟩)), (1, .agg #[.int .u8 10, .int .u32 ev.pick, .int .u64 ev.draw, .int .u32 ev.addr, .int .u32 ev.node, .int .u32 ev.dst, .int .u32 ev.xfer, .int .u8 ev.ty, .int .u64 ev.arg, .int .u64 ev.badge, .slice xo ev.ws.length cx]), (4, .int .u8 0), (5, .bool false), (44, .pointer (some ⟨mb, 13, none⟩))]) rfl
  clear h12
  refine nd_op ?_
  refine op_new tabOk2 (cells := [.int .u16 0, .int .u32 0]) (ty := 39) (ln := none) (L1 := fun b14 => [(3, ⟨[.int .u16 0, .int .u32 0], ty3, true⟩), (b2, ⟨[.int .u8 10, .int .u32 ev.pick, .int .u64 ev.draw, .int .u32 ev.addr, .int .u32 ev.node, .int .u32 ev.dst, .int .u32 ev.xfer, .int .u8 ev.ty, .int .u64 ev.arg, .int .u64 ev.badge, .slice xo ev.ws.length cx], 35, false⟩), (b14, ⟨[.int .u16 0, .int .u32 0], 39, false⟩)]) h13 rfl rfl rfl rfl (by kernel_rfl) (fun _ => rfl) fun b14 w15 a16 h17 hf18 hn19 => ?_
  clear h13
  refine nd_op ?_
  refine op_store tabOk2 {k := 2} (L' := [(3, ⟨[.int .u16 0, .int .u32 0], ty3, true⟩), (b2, ⟨[.int .u8 10, .int .u32 ev.pick, .int .u64 ev.draw, .int .u32 ev.addr, .int .u32 ev.node, .int .u32 ev.dst, .int .u32 ev.xfer, .int .u8 ev.ty, .int .u64 ev.arg, .int .u64 ev.badge, .slice xo ev.ws.length cx], 35, false⟩), (b14, ⟨[.int .u16 ((Z.ky x).idx), .int .u32 ((Z.ky x).gen)], 39, false⟩)]) (φ := b14 = b14 ∧ Nat.ble (0 + 2) 2 = true) h17 rfl rfl rfl (by kernel_rfl) ⟨rfl, rfl⟩ fun w20 h21 => ?_
  clear h17
  refine nd_done ?_
  refine hK10 _ _ ?_
  clear hK10
  refine wp_seq_k fun K22 hK22 => ?_
  refine dr_start (KB := [3, b2, b14, mb, Z.tb]) (Bi := [[0, 1, 2, 3, 4], [0, 1, 2, 3, 4], [0, 1, 2, 3, 4], [0, 1, 2, 3, 4], [0, 1, 2, 3, 4], [0, 1, 2, 3, 4], [0, 1, 2, 3, 4]]) mixed h21 fun w23 h24 => ?_
  clear h21
  refine dr_batch tabOk2 tabZ_ok2 (by repeat (first | with_reducible exact PF.body | with_reducible apply PF.inB | with_reducible apply PF.next)) [(0, {}), (1, {}), (2, {})] [6, 3, 0, 1, 4, 5, 48] (T' := [(6, .pointer (some ⟨b14, 0, none⟩)), (3, .pointer (some ⟨b2, 0, none⟩)), (0, .pointer (some ⟨mb, 0, none⟩)), (1, .agg #[.int .u8 10, .int .u32 ev.pick, .int .u64 ev.draw, .int .u32 ev.addr, .int .u32 ev.node, .int .u32 ev.dst, .int .u32 ev.xfer, .int .u8 ev.ty, .int .u64 ev.arg, .int .u64 ev.badge, .slice xo ev.ws.length cx]), (4, .int .u8 0), (5, .bool false), (48, .pointer (some ⟨mb, 2, none⟩))]) (φ := True) (fuel := 4) h24 (by kernel_rfl) rfl (by kernel_rfl) (by kernel_rfl) ⟨trivial, trivial, trivial, trivial⟩ trivial fun a26 h27 => ?_
  clear h24
  refine dr_read (i := 3) (b := mb) (p := 3) (v := .map (some Z.tb)) (fuel := 3) (by repeat (first | with_reducible exact PF.body | with_reducible apply PF.inB | with_reducible apply PF.next)) h27 rfl rfl rfl (by kernel_rfl) (by kernel_rfl) (by kernel_rfl) rfl (rd_m h27 (k := 2) (v := .map (some Z.tb)) rfl rfl rfl rfl (md_p ⟨rfl, trivial⟩)) ?_
  have h28 := h27.put (d := some 49) (v := .map (some Z.tb)) (T' := [(49, .map (some Z.tb)), (6, .pointer (some ⟨b14, 0, none⟩)), (3, .pointer (some ⟨b2, 0, none⟩)), (0, .pointer (some ⟨mb, 0, none⟩)), (1, .agg #[.int .u8 10, .int .u32 ev.pick, .int .u64 ev.draw, .int .u32 ev.addr, .int .u32 ev.node, .int .u32 ev.dst, .int .u32 ev.xfer, .int .u8 ev.ty, .int .u64 ev.arg, .int .u64 ev.badge, .slice xo ev.ws.length cx]), (4, .int .u8 0), (5, .bool false), (48, .pointer (some ⟨mb, 2, none⟩))]) rfl
  clear h27
  refine dr_batch tabOk2 tabZ_ok2 (by repeat (first | with_reducible exact PF.body | with_reducible apply PF.inB | with_reducible apply PF.next)) [(4, {k := 2, p := 2})] [49, 6, 3, 0, 1, 4, 5, 50] (T' := [(49, .map (some Z.tb)), (6, .pointer (some ⟨b14, 0, none⟩)), (3, .pointer (some ⟨b2, 0, none⟩)), (0, .pointer (some ⟨mb, 0, none⟩)), (1, .agg #[.int .u8 10, .int .u32 ev.pick, .int .u64 ev.draw, .int .u32 ev.addr, .int .u32 ev.node, .int .u32 ev.dst, .int .u32 ev.xfer, .int .u8 ev.ty, .int .u64 ev.arg, .int .u64 ev.badge, .slice xo ev.ws.length cx]), (4, .int .u8 0), (5, .bool false), (50, .agg #[.int .u16 ((Z.ky x).idx), .int .u32 ((Z.ky x).gen)])]) (φ := (b14 = b14 ∧ Nat.ble (0 + 2) 2 = true) ∧ True) (fuel := 2) h28 (by kernel_rfl) rfl (by kernel_rfl) (by kernel_rfl) ⟨rfl, trivial⟩ ⟨⟨rfl, rfl⟩, trivial⟩ fun a29 h30 => ?_
  clear h28
  refine dr_read (i := 5) (b := Z.tb) (p := 4) (v := .pointer (some ⟨(Z.tp x), 0, none⟩)) (fuel := 1) (by repeat (first | with_reducible exact PF.body | with_reducible apply PF.inB | with_reducible apply PF.next)) h30 rfl rfl rfl (by kernel_rfl) (by kernel_rfl) (by kernel_rfl) rfl (rd_T h30 (x := x) hx rfl rfl rfl) ?_
  have h31 := h30.put (d := some 51) (v := .pointer (some ⟨(Z.tp x), 0, none⟩)) (T' := [(51, .pointer (some ⟨(Z.tp x), 0, none⟩)), (49, .map (some Z.tb)), (6, .pointer (some ⟨b14, 0, none⟩)), (3, .pointer (some ⟨b2, 0, none⟩)), (0, .pointer (some ⟨mb, 0, none⟩)), (1, .agg #[.int .u8 10, .int .u32 ev.pick, .int .u64 ev.draw, .int .u32 ev.addr, .int .u32 ev.node, .int .u32 ev.dst, .int .u32 ev.xfer, .int .u8 ev.ty, .int .u64 ev.arg, .int .u64 ev.badge, .slice xo ev.ws.length cx]), (4, .int .u8 0), (5, .bool false), (50, .agg #[.int .u16 ((Z.ky x).idx), .int .u32 ((Z.ky x).gen)])]) rfl
  clear h30
  refine dr_batch tabOk2 tabZ_ok2 (by repeat (first | with_reducible exact PF.body | with_reducible apply PF.inB | with_reducible apply PF.next)) [(6, {})] [6, 3, 0, 1, 4, 5, 7] (T' := [(6, .pointer (some ⟨b14, 0, none⟩)), (3, .pointer (some ⟨b2, 0, none⟩)), (0, .pointer (some ⟨mb, 0, none⟩)), (1, .agg #[.int .u8 10, .int .u32 ev.pick, .int .u64 ev.draw, .int .u32 ev.addr, .int .u32 ev.node, .int .u32 ev.dst, .int .u32 ev.xfer, .int .u8 ev.ty, .int .u64 ev.arg, .int .u64 ev.badge, .slice xo ev.ws.length cx]), (4, .int .u8 0), (5, .bool false), (7, .pointer (some ⟨(Z.tp x), 0, none⟩))]) (φ := True) (fuel := 0) h31 (by kernel_rfl) rfl (by kernel_rfl) (by kernel_rfl) ⟨trivial, trivial⟩ trivial fun a32 h33 => ?_
  clear h31
  refine wpAnyK_done (by kernel_rfl) ?_ _
  refine hK22 _ _ ?_
  clear hK22
  refine wp_seq_k fun K34 hK34 => ?_
  refine wp_seq_k fun K35 hK35 => ?_
  refine nd_start (l := [0, 1]) rfl ?_
  refine nd_batch tabOk2 tabZ_ok2 [(0, {}), (1, {k := 1})] [6, 3, 0, 1, 4, 5, 7, 53] (T' := [(6, .pointer (some ⟨b14, 0, none⟩)), (3, .pointer (some ⟨b2, 0, none⟩)), (0, .pointer (some ⟨mb, 0, none⟩)), (1, .agg #[.int .u8 10, .int .u32 ev.pick, .int .u64 ev.draw, .int .u32 ev.addr, .int .u32 ev.node, .int .u32 ev.dst, .int .u32 ev.xfer, .int .u8 ev.ty, .int .u64 ev.arg, .int .u64 ev.badge, .slice xo ev.ws.length cx]), (4, .int .u8 0), (5, .bool false), (7, .pointer (some ⟨(Z.tp x), 0, none⟩)), (53, .int .u8 10)]) (φ := (b2 = b2 ∧ Nat.ble (0 + 1) 11 = true) ∧ True) (rest := []) h33 (by kernel_rfl) rfl ⟨⟨rfl, rfl⟩, trivial⟩ fun a36 h37 => ?_
  clear h33
  refine nd_done ?_
  refine hK35 _ _ ?_
  clear hK35
  refine wp_block ?_
  refine wp_seq_k fun K38 hK38 => ?_
  refine nd_start (l := [0, 1]) rfl ?_
  refine nd_batch tabOk2 tabZ_ok2 [(0, {}), (1, {})] [6, 3, 0, 1, 4, 5, 7, 53, 54] (T' := [(6, .pointer (some ⟨b14, 0, none⟩)), (3, .pointer (some ⟨b2, 0, none⟩)), (0, .pointer (some ⟨mb, 0, none⟩)), (1, .agg #[.int .u8 10, .int .u32 ev.pick, .int .u64 ev.draw, .int .u32 ev.addr, .int .u32 ev.node, .int .u32 ev.dst, .int .u32 ev.xfer, .int .u8 ev.ty, .int .u64 ev.arg, .int .u64 ev.badge, .slice xo ev.ws.length cx]), (4, .int .u8 0), (5, .bool false), (7, .pointer (some ⟨(Z.tp x), 0, none⟩)), (53, .int .u8 10), (54, .bool false)]) (φ := True) (rest := []) h37 (by kernel_rfl) rfl trivial fun a39 h40 => ?_
  clear h37
  refine nd_done ?_
  refine hK38 _ _ ?_
  clear hK38
  refine c_false h40 rfl ?_
  refine wp_seq_k fun K41 hK41 => ?_
  refine nd_start (l := [0, 1]) rfl ?_
  refine nd_batch tabOk2 tabZ_ok2 [(0, {}), (1, {})] [6, 3, 0, 1, 4, 5, 7, 53, 59] (T' := [(6, .pointer (some ⟨b14, 0, none⟩)), (3, .pointer (some ⟨b2, 0, none⟩)), (0, .pointer (some ⟨mb, 0, none⟩)), (1, .agg #[.int .u8 10, .int .u32 ev.pick, .int .u64 ev.draw, .int .u32 ev.addr, .int .u32 ev.node, .int .u32 ev.dst, .int .u32 ev.xfer, .int .u8 ev.ty, .int .u64 ev.arg, .int .u64 ev.badge, .slice xo ev.ws.length cx]), (4, .int .u8 0), (5, .bool false), (7, .pointer (some ⟨(Z.tp x), 0, none⟩)), (53, .int .u8 10), (59, .bool false)]) (φ := True) (rest := []) h40 (by kernel_rfl) rfl trivial fun a42 h43 => ?_
  clear h40
  refine nd_done ?_
  refine hK41 _ _ ?_
  clear hK41
  refine c_false h43 rfl ?_
  refine wp_seq_k fun K44 hK44 => ?_
  refine wp_seq_k fun K45 hK45 => ?_
  refine nd_start (l := [0, 1]) rfl ?_
  refine nd_batch tabOk2 tabZ_ok2 [(0, {}), (1, {})] [6, 3, 0, 1, 4, 5, 7, 53, 66] (T' := [(6, .pointer (some ⟨b14, 0, none⟩)), (3, .pointer (some ⟨b2, 0, none⟩)), (0, .pointer (some ⟨mb, 0, none⟩)), (1, .agg #[.int .u8 10, .int .u32 ev.pick, .int .u64 ev.draw, .int .u32 ev.addr, .int .u32 ev.node, .int .u32 ev.dst, .int .u32 ev.xfer, .int .u8 ev.ty, .int .u64 ev.arg, .int .u64 ev.badge, .slice xo ev.ws.length cx]), (4, .int .u8 0), (5, .bool false), (7, .pointer (some ⟨(Z.tp x), 0, none⟩)), (53, .int .u8 10), (66, .bool false)]) (φ := True) (rest := []) h43 (by kernel_rfl) rfl trivial fun a46 h47 => ?_
  clear h43
  refine nd_done ?_
  refine hK45 _ _ ?_
  clear hK45
  refine c_false h47 rfl ?_
  refine nd_start (l := [0, 1]) rfl ?_
  refine nd_batch tabOk2 tabZ_ok2 [(0, {}), (1, {})] [6, 3, 0, 1, 4, 5, 7, 53, 66] (T' := [(6, .pointer (some ⟨b14, 0, none⟩)), (3, .pointer (some ⟨b2, 0, none⟩)), (0, .pointer (some ⟨mb, 0, none⟩)), (1, .agg #[.int .u8 10, .int .u32 ev.pick, .int .u64 ev.draw, .int .u32 ev.addr, .int .u32 ev.node, .int .u32 ev.dst, .int .u32 ev.xfer, .int .u8 ev.ty, .int .u64 ev.arg, .int .u64 ev.badge, .slice xo ev.ws.length cx]), (4, .int .u8 0), (5, .bool false), (7, .pointer (some ⟨(Z.tp x), 0, none⟩)), (53, .int .u8 10), (66, .bool false)]) (φ := True) (rest := []) h47 (by kernel_rfl) rfl trivial fun a48 h49 => ?_
  clear h47
  refine nd_done ?_
  refine hK44 _ _ ?_
  clear hK44
  refine c_false h49 rfl ?_
  refine wp_seq_k fun K50 hK50 => ?_
  refine nd_start (l := [0, 1]) rfl ?_
  refine nd_batch tabOk2 tabZ_ok2 [(0, {}), (1, {})] [6, 3, 0, 1, 4, 5, 7, 53, 66, 129] (T' := [(6, .pointer (some ⟨b14, 0, none⟩)), (3, .pointer (some ⟨b2, 0, none⟩)), (0, .pointer (some ⟨mb, 0, none⟩)), (1, .agg #[.int .u8 10, .int .u32 ev.pick, .int .u64 ev.draw, .int .u32 ev.addr, .int .u32 ev.node, .int .u32 ev.dst, .int .u32 ev.xfer, .int .u8 ev.ty, .int .u64 ev.arg, .int .u64 ev.badge, .slice xo ev.ws.length cx]), (4, .int .u8 0), (5, .bool false), (7, .pointer (some ⟨(Z.tp x), 0, none⟩)), (53, .int .u8 10), (66, .bool false), (129, .bool false)]) (φ := True) (rest := []) h49 (by kernel_rfl) rfl trivial fun a51 h52 => ?_
  clear h49
  refine nd_done ?_
  refine hK50 _ _ ?_
  clear hK50
  refine c_false h52 rfl ?_
  refine wp_seq_k fun K53 hK53 => ?_
  refine nd_start (l := [0, 1]) rfl ?_
  refine nd_batch tabOk2 tabZ_ok2 [(0, {}), (1, {})] [6, 3, 0, 1, 4, 5, 7, 53, 66, 165] (T' := [(6, .pointer (some ⟨b14, 0, none⟩)), (3, .pointer (some ⟨b2, 0, none⟩)), (0, .pointer (some ⟨mb, 0, none⟩)), (1, .agg #[.int .u8 10, .int .u32 ev.pick, .int .u64 ev.draw, .int .u32 ev.addr, .int .u32 ev.node, .int .u32 ev.dst, .int .u32 ev.xfer, .int .u8 ev.ty, .int .u64 ev.arg, .int .u64 ev.badge, .slice xo ev.ws.length cx]), (4, .int .u8 0), (5, .bool false), (7, .pointer (some ⟨(Z.tp x), 0, none⟩)), (53, .int .u8 10), (66, .bool false), (165, .bool false)]) (φ := True) (rest := []) h52 (by kernel_rfl) rfl trivial fun a54 h55 => ?_
  clear h52
  refine nd_done ?_
  refine hK53 _ _ ?_
  clear hK53
  refine c_false h55 rfl ?_
  refine wp_seq_k fun K56 hK56 => ?_
  refine nd_start (l := [0, 1]) rfl ?_
  refine nd_batch tabOk2 tabZ_ok2 [(0, {}), (1, {})] [6, 3, 0, 1, 4, 5, 7, 53, 66, 226] (T' := [(6, .pointer (some ⟨b14, 0, none⟩)), (3, .pointer (some ⟨b2, 0, none⟩)), (0, .pointer (some ⟨mb, 0, none⟩)), (1, .agg #[.int .u8 10, .int .u32 ev.pick, .int .u64 ev.draw, .int .u32 ev.addr, .int .u32 ev.node, .int .u32 ev.dst, .int .u32 ev.xfer, .int .u8 ev.ty, .int .u64 ev.arg, .int .u64 ev.badge, .slice xo ev.ws.length cx]), (4, .int .u8 0), (5, .bool false), (7, .pointer (some ⟨(Z.tp x), 0, none⟩)), (53, .int .u8 10), (66, .bool false), (226, .bool false)]) (φ := True) (rest := []) h55 (by kernel_rfl) rfl trivial fun a57 h58 => ?_
  clear h55
  refine nd_done ?_
  refine hK56 _ _ ?_
  clear hK56
  refine c_false h58 rfl ?_
  refine wp_seq_k fun K59 hK59 => ?_
  refine nd_start (l := [0, 1]) rfl ?_
  refine nd_batch tabOk2 tabZ_ok2 [(0, {}), (1, {})] [6, 3, 0, 1, 4, 5, 7, 53, 66, 244] (T' := [(6, .pointer (some ⟨b14, 0, none⟩)), (3, .pointer (some ⟨b2, 0, none⟩)), (0, .pointer (some ⟨mb, 0, none⟩)), (1, .agg #[.int .u8 10, .int .u32 ev.pick, .int .u64 ev.draw, .int .u32 ev.addr, .int .u32 ev.node, .int .u32 ev.dst, .int .u32 ev.xfer, .int .u8 ev.ty, .int .u64 ev.arg, .int .u64 ev.badge, .slice xo ev.ws.length cx]), (4, .int .u8 0), (5, .bool false), (7, .pointer (some ⟨(Z.tp x), 0, none⟩)), (53, .int .u8 10), (66, .bool false), (244, .bool false)]) (φ := True) (rest := []) h58 (by kernel_rfl) rfl trivial fun a60 h61 => ?_
  clear h58
  refine nd_done ?_
  refine hK59 _ _ ?_
  clear hK59
  refine c_false h61 rfl ?_
  refine wp_seq_k fun K62 hK62 => ?_
  refine nd_start (l := [0, 1]) rfl ?_
  refine nd_batch tabOk2 tabZ_ok2 [(0, {}), (1, {})] [6, 3, 0, 1, 4, 5, 7, 53, 66, 285] (T' := [(6, .pointer (some ⟨b14, 0, none⟩)), (3, .pointer (some ⟨b2, 0, none⟩)), (0, .pointer (some ⟨mb, 0, none⟩)), (1, .agg #[.int .u8 10, .int .u32 ev.pick, .int .u64 ev.draw, .int .u32 ev.addr, .int .u32 ev.node, .int .u32 ev.dst, .int .u32 ev.xfer, .int .u8 ev.ty, .int .u64 ev.arg, .int .u64 ev.badge, .slice xo ev.ws.length cx]), (4, .int .u8 0), (5, .bool false), (7, .pointer (some ⟨(Z.tp x), 0, none⟩)), (53, .int .u8 10), (66, .bool false), (285, .bool true)]) (φ := True) (rest := []) h61 (by kernel_rfl) rfl trivial fun a63 h64 => ?_
  clear h61
  refine nd_done ?_
  refine hK62 _ _ ?_
  clear hK62
  refine c_true h64 rfl ?_
  refine wp_seq_k fun K65 hK65 => ?_
  refine wp_seq_k fun K66 hK66 => ?_
  refine nd_start (l := [0, 1, 2, 3, 4, 5, 6, 7, 8, 9]) rfl ?_
  refine nd_batch tabOk2 tabZ_ok2 [(0, {}), (1, {}), (2, {k := 1})] [6, 3, 0, 1, 4, 5, 7, 53, 66, 288, 290] (T' := [(6, .pointer (some ⟨b14, 0, none⟩)), (3, .pointer (some ⟨b2, 0, none⟩)), (0, .pointer (some ⟨mb, 0, none⟩)), (1, .agg #[.int .u8 10, .int .u32 ev.pick, .int .u64 ev.draw, .int .u32 ev.addr, .int .u32 ev.node, .int .u32 ev.dst, .int .u32 ev.xfer, .int .u8 ev.ty, .int .u64 ev.arg, .int .u64 ev.badge, .slice xo ev.ws.length cx]), (4, .int .u8 0), (5, .bool false), (7, .pointer (some ⟨(Z.tp x), 0, none⟩)), (53, .int .u8 10), (66, .bool false), (288, .pointer (some ⟨mb, 0, none⟩)), (290, .int .u32 ev.addr)]) (φ := (b2 = b2 ∧ Nat.ble (3 + 1) 11 = true) ∧ True) (rest := [3, 4, 5, 6, 7, 8, 9]) h64 (by kernel_rfl) rfl ⟨⟨rfl, rfl⟩, trivial⟩ fun a67 h68 => ?_
  clear h64
  refine nd_op ?_
  refine op_call h68 rfl rfl rfl (callOk Tryd.func90 (by decide) rfl) (args := [.pointer (some ⟨mb, 0, none⟩), .int .u32 ev.addr, .int .u8 1, .int .u8 2]) rfl (capOf_ok mb Z _ a C x hx hcx hci hcn hI.ci ev.addr 1 2 he.addr _ (mh_of h68 hho (k := 0) rfl) hf) ?_
  rintro _ w69 ⟨rfl, hg71⟩
  refine ⟨_, rfl, ?_⟩
  have h72a := st_mg h68 hg71 (kcons (fun _ => rfl) (kcons (fun hq => by cases hq) (kcons (fun hq => by cases hq) knil)))
  have h72 := h72a.put (d := some 291) (v := .tuple #[.agg #[.int .u8 c.ty, .int .u16 c.obj.idx, .int .u32 c.obj.gen, .int .u8 c.rights, .int .u64 c.badge], .int .u8 0]) (T' := [(291, .tuple #[.agg #[.int .u8 c.ty, .int .u16 c.obj.idx, .int .u32 c.obj.gen, .int .u8 c.rights, .int .u64 c.badge], .int .u8 0]), (6, .pointer (some ⟨b14, 0, none⟩)), (3, .pointer (some ⟨b2, 0, none⟩)), (0, .pointer (some ⟨mb, 0, none⟩)), (1, .agg #[.int .u8 10, .int .u32 ev.pick, .int .u64 ev.draw, .int .u32 ev.addr, .int .u32 ev.node, .int .u32 ev.dst, .int .u32 ev.xfer, .int .u8 ev.ty, .int .u64 ev.arg, .int .u64 ev.badge, .slice xo ev.ws.length cx]), (4, .int .u8 0), (5, .bool false), (7, .pointer (some ⟨(Z.tp x), 0, none⟩)), (53, .int .u8 10), (66, .bool false), (288, .pointer (some ⟨mb, 0, none⟩)), (290, .int .u32 ev.addr)]) rfl
  have hhoh72 := hg71.mh.ho
  clear h68 h72a
  refine nd_batch tabOk2 tabZ_ok2 [(4, {}), (5, {}), (6, {})] [6, 3, 0, 1, 4, 5, 7, 53, 66, 292, 293] (T' := [(6, .pointer (some ⟨b14, 0, none⟩)), (3, .pointer (some ⟨b2, 0, none⟩)), (0, .pointer (some ⟨mb, 0, none⟩)), (1, .agg #[.int .u8 10, .int .u32 ev.pick, .int .u64 ev.draw, .int .u32 ev.addr, .int .u32 ev.node, .int .u32 ev.dst, .int .u32 ev.xfer, .int .u8 ev.ty, .int .u64 ev.arg, .int .u64 ev.badge, .slice xo ev.ws.length cx]), (4, .int .u8 0), (5, .bool false), (7, .pointer (some ⟨(Z.tp x), 0, none⟩)), (53, .int .u8 10), (66, .bool false), (292, .agg #[.int .u8 c.ty, .int .u16 c.obj.idx, .int .u32 c.obj.gen, .int .u8 c.rights, .int .u64 c.badge]), (293, .int .u8 0)]) (φ := True) (rest := [7, 8, 9]) h72 (by kernel_rfl) rfl trivial fun a73 h74 => ?_
  clear h72
  refine nd_op ?_
  refine op_new tabOk2 (cells := [.int .u8 0, .int .u16 0, .int .u32 0, .int .u8 0, .int .u64 0]) (ty := 49) (ln := none) (L1 := fun b75 => [(3, ⟨[.int .u16 0, .int .u32 0], ty3, true⟩), (b2, ⟨[.int .u8 10, .int .u32 ev.pick, .int .u64 ev.draw, .int .u32 ev.addr, .int .u32 ev.node, .int .u32 ev.dst, .int .u32 ev.xfer, .int .u8 ev.ty, .int .u64 ev.arg, .int .u64 ev.badge, .slice xo ev.ws.length cx], 35, false⟩), (b14, ⟨[.int .u16 ((Z.ky x).idx), .int .u32 ((Z.ky x).gen)], 39, false⟩), (b75, ⟨[.int .u8 0, .int .u16 0, .int .u32 0, .int .u8 0, .int .u64 0], 49, false⟩)]) h74 rfl rfl rfl rfl (by kernel_rfl) (fun _ => rfl) fun b75 w76 a77 h78 hf79 hn80 => ?_
  clear h74
  refine nd_op ?_
  refine op_store tabOk2 {k := 3} (L' := [(3, ⟨[.int .u16 0, .int .u32 0], ty3, true⟩), (b2, ⟨[.int .u8 10, .int .u32 ev.pick, .int .u64 ev.draw, .int .u32 ev.addr, .int .u32 ev.node, .int .u32 ev.dst, .int .u32 ev.xfer, .int .u8 ev.ty, .int .u64 ev.arg, .int .u64 ev.badge, .slice xo ev.ws.length cx], 35, false⟩), (b14, ⟨[.int .u16 ((Z.ky x).idx), .int .u32 ((Z.ky x).gen)], 39, false⟩), (b75, ⟨[.int .u8 c.ty, .int .u16 c.obj.idx, .int .u32 c.obj.gen, .int .u8 c.rights, .int .u64 c.badge], 49, false⟩)]) (φ := b75 = b75 ∧ Nat.ble (0 + 5) 5 = true) h78 rfl rfl rfl (by kernel_rfl) ⟨rfl, rfl⟩ fun w81 h82 => ?_
  clear h78
  refine nd_batch tabOk2 tabZ_ok2 [(9, {})] [6, 3, 0, 1, 4, 5, 7, 53, 66, 21] (T' := [(6, .pointer (some ⟨b14, 0, none⟩)), (3, .pointer (some ⟨b2, 0, none⟩)), (0, .pointer (some ⟨mb, 0, none⟩)), (1, .agg #[.int .u8 10, .int .u32 ev.pick, .int .u64 ev.draw, .int .u32 ev.addr, .int .u32 ev.node, .int .u32 ev.dst, .int .u32 ev.xfer, .int .u8 ev.ty, .int .u64 ev.arg, .int .u64 ev.badge, .slice xo ev.ws.length cx]), (4, .int .u8 0), (5, .bool false), (7, .pointer (some ⟨(Z.tp x), 0, none⟩)), (53, .int .u8 10), (66, .bool false), (21, .int .u8 0)]) (φ := True) (rest := []) h82 (by kernel_rfl) rfl trivial fun a83 h84 => ?_
  clear h82
  refine nd_done ?_
  refine hK66 _ _ ?_
  clear hK66
  refine wp_seq_k fun K85 hK85 => ?_
  refine nd_start (l := [0, 1]) rfl ?_
  refine nd_batch tabOk2 tabZ_ok2 [(0, {}), (1, {})] [6, 3, 0, 1, 4, 5, 7, 53, 66, 21, 295] (T' := [(6, .pointer (some ⟨b14, 0, none⟩)), (3, .pointer (some ⟨b2, 0, none⟩)), (0, .pointer (some ⟨mb, 0, none⟩)), (1, .agg #[.int .u8 10, .int .u32 ev.pick, .int .u64 ev.draw, .int .u32 ev.addr, .int .u32 ev.node, .int .u32 ev.dst, .int .u32 ev.xfer, .int .u8 ev.ty, .int .u64 ev.arg, .int .u64 ev.badge, .slice xo ev.ws.length cx]), (4, .int .u8 0), (5, .bool false), (7, .pointer (some ⟨(Z.tp x), 0, none⟩)), (53, .int .u8 10), (66, .bool false), (21, .int .u8 0), (295, .bool false)]) (φ := True) (rest := []) h84 (by kernel_rfl) rfl trivial fun a86 h87 => ?_
  clear h84
  refine nd_done ?_
  refine hK85 _ _ ?_
  clear hK85
  refine c_false h87 rfl ?_
  refine wp_skip ?_
  refine hK65 _ _ ?_
  clear hK65
  refine wp_seq_k fun K88 hK88 => ?_
  refine nd_start (l := [0, 1, 2, 3, 4, 5, 6, 7, 8]) rfl ?_
  refine nd_batch tabOk2 tabZ_ok2 [(0, {}), (1, {}), (2, {k := 1})] [6, 3, 0, 1, 4, 5, 7, 53, 66, 21, 298, 300] (T' := [(6, .pointer (some ⟨b14, 0, none⟩)), (3, .pointer (some ⟨b2, 0, none⟩)), (0, .pointer (some ⟨mb, 0, none⟩)), (1, .agg #[.int .u8 10, .int .u32 ev.pick, .int .u64 ev.draw, .int .u32 ev.addr, .int .u32 ev.node, .int .u32 ev.dst, .int .u32 ev.xfer, .int .u8 ev.ty, .int .u64 ev.arg, .int .u64 ev.badge, .slice xo ev.ws.length cx]), (4, .int .u8 0), (5, .bool false), (7, .pointer (some ⟨(Z.tp x), 0, none⟩)), (53, .int .u8 10), (66, .bool false), (21, .int .u8 0), (298, .pointer (some ⟨mb, 0, none⟩)), (300, .int .u32 ev.addr)]) (φ := (b2 = b2 ∧ Nat.ble (3 + 1) 11 = true) ∧ True) (rest := [3, 4, 5, 6, 7, 8]) h87 (by kernel_rfl) rfl ⟨⟨rfl, rfl⟩, trivial⟩ fun a89 h90 => ?_
  clear h87
  refine nd_op ?_
  refine op_call h90 rfl rfl rfl (callOk Tryd.func93 (by decide) rfl) (args := [.pointer (some ⟨mb, 0, none⟩), .int .u32 ev.addr]) rfl (cellOf_ok mb Z _ a C x hx hcx hci ev.addr he.addr e1 _ (mh_of h90 hhoh72 (k := 0) rfl)) ?_
  rintro _ w91 ⟨rfl, hg93⟩
  refine ⟨_, rfl, ?_⟩
  have h94a := st_mg h90 hg93 (kcons (fun _ => rfl) (kcons (fun hq => by cases hq) (kcons (fun hq => by cases hq) (kcons (fun hq => by cases hq) knil))))
  have h94 := h94a.put (d := some 301) (v := .tuple #[.int .i64 s1, .int .u8 0]) (T' := [(301, .tuple #[.int .i64 s1, .int .u8 0]), (6, .pointer (some ⟨b14, 0, none⟩)), (3, .pointer (some ⟨b2, 0, none⟩)), (0, .pointer (some ⟨mb, 0, none⟩)), (1, .agg #[.int .u8 10, .int .u32 ev.pick, .int .u64 ev.draw, .int .u32 ev.addr, .int .u32 ev.node, .int .u32 ev.dst, .int .u32 ev.xfer, .int .u8 ev.ty, .int .u64 ev.arg, .int .u64 ev.badge, .slice xo ev.ws.length cx]), (4, .int .u8 0), (5, .bool false), (7, .pointer (some ⟨(Z.tp x), 0, none⟩)), (53, .int .u8 10), (66, .bool false), (21, .int .u8 0), (298, .pointer (some ⟨mb, 0, none⟩)), (300, .int .u32 ev.addr)]) rfl
  have hhoh94 := hg93.mh.ho
  clear h90 h94a
  refine nd_batch tabOk2 tabZ_ok2 [(4, {}), (5, {}), (6, {}), (7, {}), (8, {})] [6, 3, 0, 1, 4, 5, 7, 53, 66, 21, 22] (T' := [(6, .pointer (some ⟨b14, 0, none⟩)), (3, .pointer (some ⟨b2, 0, none⟩)), (0, .pointer (some ⟨mb, 0, none⟩)), (1, .agg #[.int .u8 10, .int .u32 ev.pick, .int .u64 ev.draw, .int .u32 ev.addr, .int .u32 ev.node, .int .u32 ev.dst, .int .u32 ev.xfer, .int .u8 ev.ty, .int .u64 ev.arg, .int .u64 ev.badge, .slice xo ev.ws.length cx]), (4, .int .u8 0), (5, .bool false), (7, .pointer (some ⟨(Z.tp x), 0, none⟩)), (53, .int .u8 10), (66, .bool false), (21, .int .u8 0), (22, .int .i64 s1)]) (φ := True) (rest := []) h94 (by kernel_rfl) rfl trivial fun a95 h96 => ?_
  clear h94
  refine nd_done ?_
  refine hK88 _ _ ?_
  clear hK88
  refine wp_seq_k fun K97 hK97 => ?_
  refine nd_start (l := [0, 1, 2, 3, 4, 5, 6, 7, 8]) rfl ?_
  refine nd_batch tabOk2 tabZ_ok2 [(0, {}), (1, {}), (2, {k := 1})] [6, 3, 0, 1, 4, 5, 7, 53, 66, 21, 22, 305, 307] (T' := [(6, .pointer (some ⟨b14, 0, none⟩)), (3, .pointer (some ⟨b2, 0, none⟩)), (0, .pointer (some ⟨mb, 0, none⟩)), (1, .agg #[.int .u8 10, .int .u32 ev.pick, .int .u64 ev.draw, .int .u32 ev.addr, .int .u32 ev.node, .int .u32 ev.dst, .int .u32 ev.xfer, .int .u8 ev.ty, .int .u64 ev.arg, .int .u64 ev.badge, .slice xo ev.ws.length cx]), (4, .int .u8 0), (5, .bool false), (7, .pointer (some ⟨(Z.tp x), 0, none⟩)), (53, .int .u8 10), (66, .bool false), (21, .int .u8 0), (22, .int .i64 s1), (305, .pointer (some ⟨mb, 0, none⟩)), (307, .int .u32 ev.dst)]) (φ := (b2 = b2 ∧ Nat.ble (5 + 1) 11 = true) ∧ True) (rest := [3, 4, 5, 6, 7, 8]) h96 (by kernel_rfl) rfl ⟨⟨rfl, rfl⟩, trivial⟩ fun a98 h99 => ?_
  clear h96
  refine nd_op ?_
  refine op_call h99 rfl rfl rfl (callOk Tryd.func93 (by decide) rfl) (args := [.pointer (some ⟨mb, 0, none⟩), .int .u32 ev.dst]) rfl (cellOf_ok mb Z _ a C x hx hcx hci ev.dst he.dst e2 _ (mh_of h99 hhoh94 (k := 0) rfl)) ?_
  rintro _ w100 ⟨rfl, hg102⟩
  refine ⟨_, rfl, ?_⟩
  have h103a := st_mg h99 hg102 (kcons (fun _ => rfl) (kcons (fun hq => by cases hq) (kcons (fun hq => by cases hq) (kcons (fun hq => by cases hq) knil))))
  have h103 := h103a.put (d := some 308) (v := .tuple #[.int .i64 s2, .int .u8 k2]) (T' := [(308, .tuple #[.int .i64 s2, .int .u8 k2]), (6, .pointer (some ⟨b14, 0, none⟩)), (3, .pointer (some ⟨b2, 0, none⟩)), (0, .pointer (some ⟨mb, 0, none⟩)), (1, .agg #[.int .u8 10, .int .u32 ev.pick, .int .u64 ev.draw, .int .u32 ev.addr, .int .u32 ev.node, .int .u32 ev.dst, .int .u32 ev.xfer, .int .u8 ev.ty, .int .u64 ev.arg, .int .u64 ev.badge, .slice xo ev.ws.length cx]), (4, .int .u8 0), (5, .bool false), (7, .pointer (some ⟨(Z.tp x), 0, none⟩)), (53, .int .u8 10), (66, .bool false), (21, .int .u8 0), (22, .int .i64 s1), (305, .pointer (some ⟨mb, 0, none⟩)), (307, .int .u32 ev.dst)]) rfl
  have hhoh103 := hg102.mh.ho
  clear h99 h103a
  refine nd_batch tabOk2 tabZ_ok2 [(4, {}), (5, {}), (6, {}), (7, {}), (8, {})] [6, 3, 0, 1, 4, 5, 7, 53, 66, 21, 22, 24, 25] (T' := [(6, .pointer (some ⟨b14, 0, none⟩)), (3, .pointer (some ⟨b2, 0, none⟩)), (0, .pointer (some ⟨mb, 0, none⟩)), (1, .agg #[.int .u8 10, .int .u32 ev.pick, .int .u64 ev.draw, .int .u32 ev.addr, .int .u32 ev.node, .int .u32 ev.dst, .int .u32 ev.xfer, .int .u8 ev.ty, .int .u64 ev.arg, .int .u64 ev.badge, .slice xo ev.ws.length cx]), (4, .int .u8 0), (5, .bool false), (7, .pointer (some ⟨(Z.tp x), 0, none⟩)), (53, .int .u8 10), (66, .bool false), (21, .int .u8 0), (22, .int .i64 s1), (24, .int .i64 s2), (25, .int .u8 k2)]) (φ := True) (rest := []) h103 (by kernel_rfl) rfl trivial fun a104 h105 => ?_
  clear h103
  refine nd_done ?_
  refine hK97 _ _ ?_
  clear hK97
  refine wp_seq_k fun K106 hK106 => ?_
  refine wp_seq_k fun K107 hK107 => ?_
  refine nd_start (l := [0, 1]) rfl ?_
  refine nd_batch tabOk2 tabZ_ok2 [(0, {}), (1, {})] [6, 3, 0, 1, 4, 5, 7, 53, 66, 21, 22, 24, 25, 312] (T' := [(6, .pointer (some ⟨b14, 0, none⟩)), (3, .pointer (some ⟨b2, 0, none⟩)), (0, .pointer (some ⟨mb, 0, none⟩)), (1, .agg #[.int .u8 10, .int .u32 ev.pick, .int .u64 ev.draw, .int .u32 ev.addr, .int .u32 ev.node, .int .u32 ev.dst, .int .u32 ev.xfer, .int .u8 ev.ty, .int .u64 ev.arg, .int .u64 ev.badge, .slice xo ev.ws.length cx]), (4, .int .u8 0), (5, .bool false), (7, .pointer (some ⟨(Z.tp x), 0, none⟩)), (53, .int .u8 10), (66, .bool false), (21, .int .u8 0), (22, .int .i64 s1), (24, .int .i64 s2), (25, .int .u8 k2), (312, .bool (k2 != 0))]) (φ := True) (rest := []) h105 (by kernel_rfl) rfl trivial fun a108 h109 => ?_
  clear h105
  refine nd_done ?_
  refine hK107 _ _ ?_
  clear hK107
  refine c_split h109 (b := (k2 != 0)) rfl (fun hc110 => ?_) (fun hc110 => ?_)
  ·
    have hc110f : k2 ≠ 0 := by simpa using hc110
    refine wp_seq_k fun K111 hK111 => ?_
    refine nd_start (l := [0, 1, 2]) rfl ?_
    refine nd_batch tabOk2 tabZ_ok2 [(0, {}), (1, {}), (2, {})] [6, 3, 0, 1, 7, 53, 66, 21, 22, 24, 25, 4, 5] (T' := [(6, .pointer (some ⟨b14, 0, none⟩)), (3, .pointer (some ⟨b2, 0, none⟩)), (0, .pointer (some ⟨mb, 0, none⟩)), (1, .agg #[.int .u8 10, .int .u32 ev.pick, .int .u64 ev.draw, .int .u32 ev.addr, .int .u32 ev.node, .int .u32 ev.dst, .int .u32 ev.xfer, .int .u8 ev.ty, .int .u64 ev.arg, .int .u64 ev.badge, .slice xo ev.ws.length cx]), (7, .pointer (some ⟨(Z.tp x), 0, none⟩)), (53, .int .u8 10), (66, .bool false), (21, .int .u8 0), (22, .int .i64 s1), (24, .int .i64 s2), (25, .int .u8 k2), (4, .int .u8 k2), (5, .bool false)]) (φ := True) (rest := []) h109 (by kernel_rfl) rfl trivial fun a112 h113 => ?_
    clear h109
    refine nd_done ?_
    refine hK111 _ _ ?_
    clear hK111
    refine wp_ret ?_
    try simp only [Exit.then, Exit.inBlock]
    try rw [if_pos trivial]
    exact s_ret tabOk2 tabZ_ok2 h113 [(.tmp 4, {}), (.tmp 5, {})] (vs := [.int .u8 k2, .bool false]) (φ := True) rfl (by kernel_rfl) trivial ⟨rfl, _, mg_end hH h113 hhoh103 rfl⟩
  ·
    have hc110f : k2 = 0 := by simpa using hc110
    exact absurd hc110f hk0

theorem call10o (mb : Nat) (Z : MZ) (R : MR) (a : AK) (C : CP) (hI : MI Z a C) (x : Nat) (hx : x ∈ sl Z.tl) (hcu : a.cur = (x : Int)) (ev : Ev) (he : EvOk ev) (xo : Option Addr) (cx : Nat) (c : Cp) (cs0 : Int) (hf : findA a C ev.addr 1 2 = (c, cs0, 0)) (s1 : Int) (e1 : lookP C.ent (a.th x).cs ev.addr = (s1, 0)) (s2 : Int) (e2 : lookP C.ent (a.th x).cs ev.dst = (s2, 0)) (hz2 : (C.cel s2.toNat).cap.ty ≠ 0) (w : World) (hH : MH mb Z R a C w) (hws : WordsAt (mdF mb Z R C) w xo ev.ws) :
    Calls Tryd.prog 55 #[.pointer (some ⟨mb, 0, none⟩), .agg #[.int .u8 10, .int .u32 ev.pick, .int .u64 ev.draw, .int .u32 ev.addr, .int .u32 ev.node, .int .u32 ev.dst, .int .u32 ev.xfer, .int .u8 ev.ty, .int .u64 ev.arg, .int .u64 ev.badge, .slice xo ev.ws.length cx]] w fun e w' => e = .returned (.tuple #[.int .u8 6, .bool false]) ∧ ∃ R', MG mb Z R C w Z R' a C w' := by
  have hP := hI.mp
  have hcx : curR Z a = Z.ky x := curR_of hcu
  have hcn : a.cur.toNat = x := by rw [hcu]; exact Int.toNat_natCast x
  have hci := (hI.tk x hx).ci
  obtain ⟨ty3, hg3⟩ := hH.g3
  have hho := hH.ho
  have hkk := hH.md.k
  refine enter (n := 628) (K := mdF mb Z R C) (A := MD (mdF mb Z R C) w.heap.size mb Z R a C) (F := mdF mb Z R C) (T := [(0, .pointer (some ⟨mb, 0, none⟩)), (1, .agg #[.int .u8 10, .int .u32 ev.pick, .int .u64 ev.draw, .int .u32 ev.addr, .int .u32 ev.node, .int .u32 ev.dst, .int .u32 ev.xfer, .int .u8 ev.ty, .int .u64 ev.arg, .int .u64 ev.badge, .slice xo ev.ws.length cx])]) (L := [(3, ⟨[.int .u16 0, .int .u32 0], ty3, true⟩)]) (args := [.pointer (some ⟨mb, 0, none⟩), .agg #[.int .u8 10, .int .u32 ev.pick, .int .u64 ev.draw, .int .u32 ev.addr, .int .u32 ev.node, .int .u32 ev.dst, .int .u32 ev.xfer, .int .u8 ev.ty, .int .u64 ev.arg, .int .u64 ev.badge, .slice xo ev.ws.length cx]]) Tryd.func55 rfl rfl rfl rfl (kcons hg3 knil) (by simp) (kcons (by intro hq; cases hq) knil) hH.mD MD.stable hH.md.low (kcons (by intro hq; cases hq) knil) ?_
  intro ac h
  refine wp_seq_k fun K1 hK1 => ?_
  refine nd_start (l := [0, 1, 2]) rfl ?_
  refine nd_op ?_
  refine op_new tabOk2 (cells := [.int .u8 10, .int .u32 ev.pick, .int .u64 ev.draw, .int .u32 ev.addr, .int .u32 ev.node, .int .u32 ev.dst, .int .u32 ev.xfer, .int .u8 ev.ty, .int .u64 ev.arg, .int .u64 ev.badge, .slice xo ev.ws.length cx]) (ty := 35) (ln := none) (L1 := fun b2 => [(3, ⟨[.int .u16 0, .int .u32 0], ty3, true⟩), (b2, ⟨[.int .u8 10, .int .u32 ev.pick, .int .u64 ev.draw, .int .u32 ev.addr, .int .u32 ev.node, .int .u32 ev.dst, .int .u32 ev.xfer, .int .u8 ev.ty, .int .u64 ev.arg, .int .u64 ev.badge, .slice xo ev.ws.length cx], 35, false⟩)]) h rfl rfl rfl rfl (by kernel_rfl) (fun _ => rfl) fun b2 w3 a4 h5 hf6 hn7 => ?_
  clear h
  refine nd_batch tabOk2 tabZ_ok2 [(1, {}), (2, {})] [3, 0, 1, 4, 5] (T' := [(3, .pointer (some ⟨b2, 0, none⟩)), (0, .pointer (some ⟨mb, 0, none⟩)), (1, .agg #[.int .u8 10, .int .u32 ev.pick, .int .u64 ev.draw, .int .u32 ev.addr, .int .u32 ev.node, .int .u32 ev.dst, .int .u32 ev.xfer, .int .u8 ev.ty, .int .u64 ev.arg, .int .u64 ev.badge, .slice xo ev.ws.length cx]), (4, .int .u8 0), (5, .bool false)]) (φ := True) (rest := []) h5 (by kernel_rfl) rfl trivial fun a8 h9 => ?_
  clear h5
  refine nd_done ?_
  refine hK1 _ _ ?_
  clear hK1
  refine wp_seq_k fun K10 hK10 => ?_
  refine nd_start (l := [0, 1, 2, 3, 4, 5]) rfl ?_
  refine nd_batch tabOk2 tabZ_ok2 [(0, {}), (1, {}), (2, {})] [3, 0, 1, 4, 5, 44] (T' := [(3, .pointer (some ⟨b2, 0, none⟩)), (0, .pointer (some ⟨mb, 0, none⟩)), (1, .agg #[.int .u8 10, .int .u32 ev.pick, .int .u64 ev.draw, .int .u32 ev.addr, .int .u32 ev.node, .int .u32 ev.dst, .int .u32 ev.xfer, .int .u8 ev.ty, .int .u64 ev.arg, .int .u64 ev.badge, .slice xo ev.ws.length cx]), (4, .int .u8 0), (5, .bool false), (44, .pointer (some ⟨mb, 13, none⟩))]) (φ := True) (rest := [3, 4, 5]) h9 (by kernel_rfl) rfl trivial fun a11 h12 => ?_
  clear h9
  refine nd_op ?_
  refine op_read (b := mb) (v := .agg #[.int .u16 ((Z.ky x).idx), .int .u32 ((Z.ky x).gen)]) h12 rfl rfl (rd_mA h12 (k := 13) (vs := [.int .u16 ((Z.ky x).idx), .int .u32 ((Z.ky x).gen)]) rfl rfl rfl rfl rfl (by rw [← hcx]; exact md_cur)) ?_
  have h13 := h12.put (d := some 45) (v := .agg #[.int .u16 ((Z.ky x).idx), .int .u32 ((Z.ky x).gen)]) (T' := [(45, .agg #[.int .u16 ((Z.ky x).idx), .int .u32 ((Z.ky x).gen)]), (3, .pointer (some ⟨b2, 0, none⟩)), (0, .pointer (some ⟨mb, 0, none⟩)), (1, .agg #[.int .u8 10, .int .u32 ev.pick, .int .u64 ev.draw, .int .u32 ev.addr, .int .u32 ev.node, .int .u32 ev.dst, .int .u32 ev.xfer, .int .u8 ev.ty, .int .u64 ev.arg, .int .u64 ev.badge, .slice xo ev.ws.length cx]), (4, .int .u8 0), (5, .bool false), (44, .pointer (some ⟨mb, 13, none⟩))]) rfl
  clear h12
  refine nd_op ?_
  refine op_new tabOk2 (cells := [.int .u16 0, .int .u32 0]) (ty := 39) (ln := none) (L1 := fun b14 => [(3, ⟨[.int .u16 0, .int .u32 0], ty3, true⟩), (b2, ⟨[.int .u8 10, .int .u32 ev.pick, .int .u64 ev.draw, .int .u32 ev.addr, .int .u32 ev.node, .int .u32 ev.dst, .int .u32 ev.xfer, .int .u8 ev.ty, .int .u64 ev.arg, .int .u64 ev.badge, .slice xo ev.ws.length cx], 35, false⟩), (b14, ⟨[.int .u16 0, .int .u32 0], 39, false⟩)]) h13 rfl rfl rfl rfl (by kernel_rfl) (fun _ => rfl) fun b14 w15 a16 h17 hf18 hn19 => ?_
  clear h13
  refine nd_op ?_
  refine op_store tabOk2 {k := 2} (L' := [(3, ⟨[.int .u16 0, .int .u32 0], ty3, true⟩), (b2, ⟨[.int .u8 10, .int .u32 ev.pick, .int .u64 ev.draw, .int .u32 ev.addr, .int .u32 ev.node, .int .u32 ev.dst, .int .u32 ev.xfer, .int .u8 ev.ty, .int .u64 ev.arg, .int .u64 ev.badge, .slice xo ev.ws.length cx], 35, false⟩), (b14, ⟨[.int .u16 ((Z.ky x).idx), .int .u32 ((Z.ky x).gen)], 39, false⟩)]) (φ := b14 = b14 ∧ Nat.ble (0 + 2) 2 = true) h17 rfl rfl rfl (by kernel_rfl) ⟨rfl, rfl⟩ fun w20 h21 => ?_
  clear h17
  refine nd_done ?_
  refine hK10 _ _ ?_
  clear hK10
  refine wp_seq_k fun K22 hK22 => ?_
  refine dr_start (KB := [3, b2, b14, mb, Z.tb]) (Bi := [[0, 1, 2, 3, 4], [0, 1, 2, 3, 4], [0, 1, 2, 3, 4], [0, 1, 2, 3, 4], [0, 1, 2, 3, 4], [0, 1, 2, 3, 4], [0, 1, 2, 3, 4]]) mixed h21 fun w23 h24 => ?_
  clear h21
  refine dr_batch tabOk2 tabZ_ok2 (by repeat (first | with_reducible exact PF.body | with_reducible apply PF.inB | with_reducible apply PF.next)) [(0, {}), (1, {}), (2, {})] [6, 3, 0, 1, 4, 5, 48] (T' := [(6, .pointer (some ⟨b14, 0, none⟩)), (3, .pointer (some ⟨b2, 0, none⟩)), (0, .pointer (some ⟨mb, 0, none⟩)), (1, .agg #[.int .u8 10, .int .u32 ev.pick, .int .u64 ev.draw, .int .u32 ev.addr, .int .u32 ev.node, .int .u32 ev.dst, .int .u32 ev.xfer, .int .u8 ev.ty, .int .u64 ev.arg, .int .u64 ev.badge, .slice xo ev.ws.length cx]), (4, .int .u8 0), (5, .bool false), (48, .pointer (some ⟨mb, 2, none⟩))]) (φ := True) (fuel := 4) h24 (by kernel_rfl) rfl (by kernel_rfl) (by kernel_rfl) ⟨trivial, trivial, trivial, trivial⟩ trivial fun a26 h27 => ?_
  clear h24
  refine dr_read (i := 3) (b := mb) (p := 3) (v := .map (some Z.tb)) (fuel := 3) (by repeat (first | with_reducible exact PF.body | with_reducible apply PF.inB | with_reducible apply PF.next)) h27 rfl rfl rfl (by kernel_rfl) (by kernel_rfl) (by kernel_rfl) rfl (rd_m h27 (k := 2) (v := .map (some Z.tb)) rfl rfl rfl rfl (md_p ⟨rfl, trivial⟩)) ?_
  have h28 := h27.put (d := some 49) (v := .map (some Z.tb)) (T' := [(49, .map (some Z.tb)), (6, .pointer (some ⟨b14, 0, none⟩)), (3, .pointer (some ⟨b2, 0, none⟩)), (0, .pointer (some ⟨mb, 0, none⟩)), (1, .agg #[.int .u8 10, .int .u32 ev.pick, .int .u64 ev.draw, .int .u32 ev.addr, .int .u32 ev.node, .int .u32 ev.dst, .int .u32 ev.xfer, .int .u8 ev.ty, .int .u64 ev.arg, .int .u64 ev.badge, .slice xo ev.ws.length cx]), (4, .int .u8 0), (5, .bool false), (48, .pointer (some ⟨mb, 2, none⟩))]) rfl
  clear h27
  refine dr_batch tabOk2 tabZ_ok2 (by repeat (first | with_reducible exact PF.body | with_reducible apply PF.inB | with_reducible apply PF.next)) [(4, {k := 2, p := 2})] [49, 6, 3, 0, 1, 4, 5, 50] (T' := [(49, .map (some Z.tb)), (6, .pointer (some ⟨b14, 0, none⟩)), (3, .pointer (some ⟨b2, 0, none⟩)), (0, .pointer (some ⟨mb, 0, none⟩)), (1, .agg #[.int .u8 10, .int .u32 ev.pick, .int .u64 ev.draw, .int .u32 ev.addr, .int .u32 ev.node, .int .u32 ev.dst, .int .u32 ev.xfer, .int .u8 ev.ty, .int .u64 ev.arg, .int .u64 ev.badge, .slice xo ev.ws.length cx]), (4, .int .u8 0), (5, .bool false), (50, .agg #[.int .u16 ((Z.ky x).idx), .int .u32 ((Z.ky x).gen)])]) (φ := (b14 = b14 ∧ Nat.ble (0 + 2) 2 = true) ∧ True) (fuel := 2) h28 (by kernel_rfl) rfl (by kernel_rfl) (by kernel_rfl) ⟨rfl, trivial⟩ ⟨⟨rfl, rfl⟩, trivial⟩ fun a29 h30 => ?_
  clear h28
  refine dr_read (i := 5) (b := Z.tb) (p := 4) (v := .pointer (some ⟨(Z.tp x), 0, none⟩)) (fuel := 1) (by repeat (first | with_reducible exact PF.body | with_reducible apply PF.inB | with_reducible apply PF.next)) h30 rfl rfl rfl (by kernel_rfl) (by kernel_rfl) (by kernel_rfl) rfl (rd_T h30 (x := x) hx rfl rfl rfl) ?_
  have h31 := h30.put (d := some 51) (v := .pointer (some ⟨(Z.tp x), 0, none⟩)) (T' := [(51, .pointer (some ⟨(Z.tp x), 0, none⟩)), (49, .map (some Z.tb)), (6, .pointer (some ⟨b14, 0, none⟩)), (3, .pointer (some ⟨b2, 0, none⟩)), (0, .pointer (some ⟨mb, 0, none⟩)), (1, .agg #[.int .u8 10, .int .u32 ev.pick, .int .u64 ev.draw, .int .u32 ev.addr, .int .u32 ev.node, .int .u32 ev.dst, .int .u32 ev.xfer, .int .u8 ev.ty, .int .u64 ev.arg, .int .u64 ev.badge, .slice xo ev.ws.length cx]), (4, .int .u8 0), (5, .bool false), (50, .agg #[.int .u16 ((Z.ky x).idx), .int .u32 ((Z.ky x).gen)])]) rfl
  clear h30
  refine dr_batch tabOk2 tabZ_ok2 (by repeat (first | with_reducible exact PF.body | with_reducible apply PF.inB | with_reducible apply PF.next)) [(6, {})] [6, 3, 0, 1, 4, 5, 7] (T' := [(6, .pointer (some ⟨b14, 0, none⟩)), (3, .pointer (some ⟨b2, 0, none⟩)), (0, .pointer (some ⟨mb, 0, none⟩)), (1, .agg #[.int .u8 10, .int .u32 ev.pick, .int .u64 ev.draw, .int .u32 ev.addr, .int .u32 ev.node, .int .u32 ev.dst, .int .u32 ev.xfer, .int .u8 ev.ty, .int .u64 ev.arg, .int .u64 ev.badge, .slice xo ev.ws.length cx]), (4, .int .u8 0), (5, .bool false), (7, .pointer (some ⟨(Z.tp x), 0, none⟩))]) (φ := True) (fuel := 0) h31 (by kernel_rfl) rfl (by kernel_rfl) (by kernel_rfl) ⟨trivial, trivial⟩ trivial fun a32 h33 => ?_
  clear h31
  refine wpAnyK_done (by kernel_rfl) ?_ _
  refine hK22 _ _ ?_
  clear hK22
  refine wp_seq_k fun K34 hK34 => ?_
  refine wp_seq_k fun K35 hK35 => ?_
  refine nd_start (l := [0, 1]) rfl ?_
  refine nd_batch tabOk2 tabZ_ok2 [(0, {}), (1, {k := 1})] [6, 3, 0, 1, 4, 5, 7, 53] (T' := [(6, .pointer (some ⟨b14, 0, none⟩)), (3, .pointer (some ⟨b2, 0, none⟩)), (0, .pointer (some ⟨mb, 0, none⟩)), (1, .agg #[.int .u8 10, .int .u32 ev.pick, .int .u64 ev.draw, .int .u32 ev.addr, .int .u32 ev.node, .int .u32 ev.dst, .int .u32 ev.xfer, .int .u8 ev.ty, .int .u64 ev.arg, .int .u64 ev.badge, .slice xo ev.ws.length cx]), (4, .int .u8 0), (5, .bool false), (7, .pointer (some ⟨(Z.tp x), 0, none⟩)), (53, .int .u8 10)]) (φ := (b2 = b2 ∧ Nat.ble (0 + 1) 11 = true) ∧ True) (rest := []) h33 (by kernel_rfl) rfl ⟨⟨rfl, rfl⟩, trivial⟩ fun a36 h37 => ?_
  clear h33
  refine nd_done ?_
  refine hK35 _ _ ?_
  clear hK35
  refine wp_block ?_
  refine wp_seq_k fun K38 hK38 => ?_
  refine nd_start (l := [0, 1]) rfl ?_
  refine nd_batch tabOk2 tabZ_ok2 [(0, {}), (1, {})] [6, 3, 0, 1, 4, 5, 7, 53, 54] (T' := [(6, .pointer (some ⟨b14, 0, none⟩)), (3, .pointer (some ⟨b2, 0, none⟩)), (0, .pointer (some ⟨mb, 0, none⟩)), (1, .agg #[.int .u8 10, .int .u32 ev.pick, .int .u64 ev.draw, .int .u32 ev.addr, .int .u32 ev.node, .int .u32 ev.dst, .int .u32 ev.xfer, .int .u8 ev.ty, .int .u64 ev.arg, .int .u64 ev.badge, .slice xo ev.ws.length cx]), (4, .int .u8 0), (5, .bool false), (7, .pointer (some ⟨(Z.tp x), 0, none⟩)), (53, .int .u8 10), (54, .bool false)]) (φ := True) (rest := []) h37 (by kernel_rfl) rfl trivial fun a39 h40 => ?_
  clear h37
  refine nd_done ?_
  refine hK38 _ _ ?_
  clear hK38
  refine c_false h40 rfl ?_
  refine wp_seq_k fun K41 hK41 => ?_
  refine nd_start (l := [0, 1]) rfl ?_
  refine nd_batch tabOk2 tabZ_ok2 [(0, {}), (1, {})] [6, 3, 0, 1, 4, 5, 7, 53, 59] (T' := [(6, .pointer (some ⟨b14, 0, none⟩)), (3, .pointer (some ⟨b2, 0, none⟩)), (0, .pointer (some ⟨mb, 0, none⟩)), (1, .agg #[.int .u8 10, .int .u32 ev.pick, .int .u64 ev.draw, .int .u32 ev.addr, .int .u32 ev.node, .int .u32 ev.dst, .int .u32 ev.xfer, .int .u8 ev.ty, .int .u64 ev.arg, .int .u64 ev.badge, .slice xo ev.ws.length cx]), (4, .int .u8 0), (5, .bool false), (7, .pointer (some ⟨(Z.tp x), 0, none⟩)), (53, .int .u8 10), (59, .bool false)]) (φ := True) (rest := []) h40 (by kernel_rfl) rfl trivial fun a42 h43 => ?_
  clear h40
  refine nd_done ?_
  refine hK41 _ _ ?_
  clear hK41
  refine c_false h43 rfl ?_
  refine wp_seq_k fun K44 hK44 => ?_
  refine wp_seq_k fun K45 hK45 => ?_
  refine nd_start (l := [0, 1]) rfl ?_
  refine nd_batch tabOk2 tabZ_ok2 [(0, {}), (1, {})] [6, 3, 0, 1, 4, 5, 7, 53, 66] (T' := [(6, .pointer (some ⟨b14, 0, none⟩)), (3, .pointer (some ⟨b2, 0, none⟩)), (0, .pointer (some ⟨mb, 0, none⟩)), (1, .agg #[.int .u8 10, .int .u32 ev.pick, .int .u64 ev.draw, .int .u32 ev.addr, .int .u32 ev.node, .int .u32 ev.dst, .int .u32 ev.xfer, .int .u8 ev.ty, .int .u64 ev.arg, .int .u64 ev.badge, .slice xo ev.ws.length cx]), (4, .int .u8 0), (5, .bool false), (7, .pointer (some ⟨(Z.tp x), 0, none⟩)), (53, .int .u8 10), (66, .bool false)]) (φ := True) (rest := []) h43 (by kernel_rfl) rfl trivial fun a46 h47 => ?_
  clear h43
  refine nd_done ?_
  refine hK45 _ _ ?_
  clear hK45
  refine c_false h47 rfl ?_
  refine nd_start (l := [0, 1]) rfl ?_
  refine nd_batch tabOk2 tabZ_ok2 [(0, {}), (1, {})] [6, 3, 0, 1, 4, 5, 7, 53, 66] (T' := [(6, .pointer (some ⟨b14, 0, none⟩)), (3, .pointer (some ⟨b2, 0, none⟩)), (0, .pointer (some ⟨mb, 0, none⟩)), (1, .agg #[.int .u8 10, .int .u32 ev.pick, .int .u64 ev.draw, .int .u32 ev.addr, .int .u32 ev.node, .int .u32 ev.dst, .int .u32 ev.xfer, .int .u8 ev.ty, .int .u64 ev.arg, .int .u64 ev.badge, .slice xo ev.ws.length cx]), (4, .int .u8 0), (5, .bool false), (7, .pointer (some ⟨(Z.tp x), 0, none⟩)), (53, .int .u8 10), (66, .bool false)]) (φ := True) (rest := []) h47 (by kernel_rfl) rfl trivial fun a48 h49 => ?_
  clear h47
  refine nd_done ?_
  refine hK44 _ _ ?_
  clear hK44
  refine c_false h49 rfl ?_
  refine wp_seq_k fun K50 hK50 => ?_
  refine nd_start (l := [0, 1]) rfl ?_
  refine nd_batch tabOk2 tabZ_ok2 [(0, {}), (1, {})] [6, 3, 0, 1, 4, 5, 7, 53, 66, 129] (T' := [(6, .pointer (some ⟨b14, 0, none⟩)), (3, .pointer (some ⟨b2, 0, none⟩)), (0, .pointer (some ⟨mb, 0, none⟩)), (1, .agg #[.int .u8 10, .int .u32 ev.pick, .int .u64 ev.draw, .int .u32 ev.addr, .int .u32 ev.node, .int .u32 ev.dst, .int .u32 ev.xfer, .int .u8 ev.ty, .int .u64 ev.arg, .int .u64 ev.badge, .slice xo ev.ws.length cx]), (4, .int .u8 0), (5, .bool false), (7, .pointer (some ⟨(Z.tp x), 0, none⟩)), (53, .int .u8 10), (66, .bool false), (129, .bool false)]) (φ := True) (rest := []) h49 (by kernel_rfl) rfl trivial fun a51 h52 => ?_
  clear h49
  refine nd_done ?_
  refine hK50 _ _ ?_
  clear hK50
  refine c_false h52 rfl ?_
  refine wp_seq_k fun K53 hK53 => ?_
  refine nd_start (l := [0, 1]) rfl ?_
  refine nd_batch tabOk2 tabZ_ok2 [(0, {}), (1, {})] [6, 3, 0, 1, 4, 5, 7, 53, 66, 165] (T' := [(6, .pointer (some ⟨b14, 0, none⟩)), (3, .pointer (some ⟨b2, 0, none⟩)), (0, .pointer (some ⟨mb, 0, none⟩)), (1, .agg #[.int .u8 10, .int .u32 ev.pick, .int .u64 ev.draw, .int .u32 ev.addr, .int .u32 ev.node, .int .u32 ev.dst, .int .u32 ev.xfer, .int .u8 ev.ty, .int .u64 ev.arg, .int .u64 ev.badge, .slice xo ev.ws.length cx]), (4, .int .u8 0), (5, .bool false), (7, .pointer (some ⟨(Z.tp x), 0, none⟩)), (53, .int .u8 10), (66, .bool false), (165, .bool false)]) (φ := True) (rest := []) h52 (by kernel_rfl) rfl trivial fun a54 h55 => ?_
  clear h52
  refine nd_done ?_
  refine hK53 _ _ ?_
  clear hK53
  refine c_false h55 rfl ?_
  refine wp_seq_k fun K56 hK56 => ?_
  refine nd_start (l := [0, 1]) rfl ?_
  refine nd_batch tabOk2 tabZ_ok2 [(0, {}), (1, {})] [6, 3, 0, 1, 4, 5, 7, 53, 66, 226] (T' := [(6, .pointer (some ⟨b14, 0, none⟩)), (3, .pointer (some ⟨b2, 0, none⟩)), (0, .pointer (some ⟨mb, 0, none⟩)), (1, .agg #[.int .u8 10, .int .u32 ev.pick, .int .u64 ev.draw, .int .u32 ev.addr, .int .u32 ev.node, .int .u32 ev.dst, .int .u32 ev.xfer, .int .u8 ev.ty, .int .u64 ev.arg, .int .u64 ev.badge, .slice xo ev.ws.length cx]), (4, .int .u8 0), (5, .bool false), (7, .pointer (some ⟨(Z.tp x), 0, none⟩)), (53, .int .u8 10), (66, .bool false), (226, .bool false)]) (φ := True) (rest := []) h55 (by kernel_rfl) rfl trivial fun a57 h58 => ?_
  clear h55
  refine nd_done ?_
  refine hK56 _ _ ?_
  clear hK56
  refine c_false h58 rfl ?_
  refine wp_seq_k fun K59 hK59 => ?_
  refine nd_start (l := [0, 1]) rfl ?_
  refine nd_batch tabOk2 tabZ_ok2 [(0, {}), (1, {})] [6, 3, 0, 1, 4, 5, 7, 53, 66, 244] (T' := [(6, .pointer (some ⟨b14, 0, none⟩)), (3, .pointer (some ⟨b2, 0, none⟩)), (0, .pointer (some ⟨mb, 0, none⟩)), (1, .agg #[.int .u8 10, .int .u32 ev.pick, .int .u64 ev.draw, .int .u32 ev.addr, .int .u32 ev.node, .int .u32 ev.dst, .int .u32 ev.xfer, .int .u8 ev.ty, .int .u64 ev.arg, .int .u64 ev.badge, .slice xo ev.ws.length cx]), (4, .int .u8 0), (5, .bool false), (7, .pointer (some ⟨(Z.tp x), 0, none⟩)), (53, .int .u8 10), (66, .bool false), (244, .bool false)]) (φ := True) (rest := []) h58 (by kernel_rfl) rfl trivial fun a60 h61 => ?_
  clear h58
  refine nd_done ?_
  refine hK59 _ _ ?_
  clear hK59
  refine c_false h61 rfl ?_
  refine wp_seq_k fun K62 hK62 => ?_
  refine nd_start (l := [0, 1]) rfl ?_
  refine nd_batch tabOk2 tabZ_ok2 [(0, {}), (1, {})] [6, 3, 0, 1, 4, 5, 7, 53, 66, 285] (T' := [(6, .pointer (some ⟨b14, 0, none⟩)), (3, .pointer (some ⟨b2, 0, none⟩)), (0, .pointer (some ⟨mb, 0, none⟩)), (1, .agg #[.int .u8 10, .int .u32 ev.pick, .int .u64 ev.draw, .int .u32 ev.addr, .int .u32 ev.node, .int .u32 ev.dst, .int .u32 ev.xfer, .int .u8 ev.ty, .int .u64 ev.arg, .int .u64 ev.badge, .slice xo ev.ws.length cx]), (4, .int .u8 0), (5, .bool false), (7, .pointer (some ⟨(Z.tp x), 0, none⟩)), (53, .int .u8 10), (66, .bool false), (285, .bool true)]) (φ := True) (rest := []) h61 (by kernel_rfl) rfl trivial fun a63 h64 => ?_
  clear h61
  refine nd_done ?_
  refine hK62 _ _ ?_
  clear hK62
  refine c_true h64 rfl ?_
  refine wp_seq_k fun K65 hK65 => ?_
  refine wp_seq_k fun K66 hK66 => ?_
  refine nd_start (l := [0, 1, 2, 3, 4, 5, 6, 7, 8, 9]) rfl ?_
  refine nd_batch tabOk2 tabZ_ok2 [(0, {}), (1, {}), (2, {k := 1})] [6, 3, 0, 1, 4, 5, 7, 53, 66, 288, 290] (T' := [(6, .pointer (some ⟨b14, 0, none⟩)), (3, .pointer (some ⟨b2, 0, none⟩)), (0, .pointer (some ⟨mb, 0, none⟩)), (1, .agg #[.int .u8 10, .int .u32 ev.pick, .int .u64 ev.draw, .int .u32 ev.addr, .int .u32 ev.node, .int .u32 ev.dst, .int .u32 ev.xfer, .int .u8 ev.ty, .int .u64 ev.arg, .int .u64 ev.badge, .slice xo ev.ws.length cx]), (4, .int .u8 0), (5, .bool false), (7, .pointer (some ⟨(Z.tp x), 0, none⟩)), (53, .int .u8 10), (66, .bool false), (288, .pointer (some ⟨mb, 0, none⟩)), (290, .int .u32 ev.addr)]) (φ := (b2 = b2 ∧ Nat.ble (3 + 1) 11 = true) ∧ True) (rest := [3, 4, 5, 6, 7, 8, 9]) h64 (by kernel_rfl) rfl ⟨⟨rfl, rfl⟩, trivial⟩ fun a67 h68 => ?_
  clear h64
  refine nd_op ?_
  refine op_call h68 rfl rfl rfl (callOk Tryd.func90 (by decide) rfl) (args := [.pointer (some ⟨mb, 0, none⟩), .int .u32 ev.addr, .int .u8 1, .int .u8 2]) rfl (capOf_ok mb Z _ a C x hx hcx hci hcn hI.ci ev.addr 1 2 he.addr _ (mh_of h68 hho (k := 0) rfl) hf) ?_
  rintro _ w69 ⟨rfl, hg71⟩
  refine ⟨_, rfl, ?_⟩
  have h72a := st_mg h68 hg71 (kcons (fun _ => rfl) (kcons (fun hq => by cases hq) (kcons (fun hq => by cases hq) knil)))
  have h72 := h72a.put (d := some 291) (v := .tuple #[.agg #[.int .u8 c.ty, .int .u16 c.obj.idx, .int .u32 c.obj.gen, .int .u8 c.rights, .int .u64 c.badge], .int .u8 0]) (T' := [(291, .tuple #[.agg #[.int .u8 c.ty, .int .u16 c.obj.idx, .int .u32 c.obj.gen, .int .u8 c.rights, .int .u64 c.badge], .int .u8 0]), (6, .pointer (some ⟨b14, 0, none⟩)), (3, .pointer (some ⟨b2, 0, none⟩)), (0, .pointer (some ⟨mb, 0, none⟩)), (1, .agg #[.int .u8 10, .int .u32 ev.pick, .int .u64 ev.draw, .int .u32 ev.addr, .int .u32 ev.node, .int .u32 ev.dst, .int .u32 ev.xfer, .int .u8 ev.ty, .int .u64 ev.arg, .int .u64 ev.badge, .slice xo ev.ws.length cx]), (4, .int .u8 0), (5, .bool false), (7, .pointer (some ⟨(Z.tp x), 0, none⟩)), (53, .int .u8 10), (66, .bool false), (288, .pointer (some ⟨mb, 0, none⟩)), (290, .int .u32 ev.addr)]) rfl
  have hhoh72 := hg71.mh.ho
  clear h68 h72a
  refine nd_batch tabOk2 tabZ_ok2 [(4, {}), (5, {}), (6, {})] [6, 3, 0, 1, 4, 5, 7, 53, 66, 292, 293] (T' := [(6, .pointer (some ⟨b14, 0, none⟩)), (3, .pointer (some ⟨b2, 0, none⟩)), (0, .pointer (some ⟨mb, 0, none⟩)), (1, .agg #[.int .u8 10, .int .u32 ev.pick, .int .u64 ev.draw, .int .u32 ev.addr, .int .u32 ev.node, .int .u32 ev.dst, .int .u32 ev.xfer, .int .u8 ev.ty, .int .u64 ev.arg, .int .u64 ev.badge, .slice xo ev.ws.length cx]), (4, .int .u8 0), (5, .bool false), (7, .pointer (some ⟨(Z.tp x), 0, none⟩)), (53, .int .u8 10), (66, .bool false), (292, .agg #[.int .u8 c.ty, .int .u16 c.obj.idx, .int .u32 c.obj.gen, .int .u8 c.rights, .int .u64 c.badge]), (293, .int .u8 0)]) (φ := True) (rest := [7, 8, 9]) h72 (by kernel_rfl) rfl trivial fun a73 h74 => ?_
  clear h72
  refine nd_op ?_
  refine op_new tabOk2 (cells := [.int .u8 0, .int .u16 0, .int .u32 0, .int .u8 0, .int .u64 0]) (ty := 49) (ln := none) (L1 := fun b75 => [(3, ⟨[.int .u16 0, .int .u32 0], ty3, true⟩), (b2, ⟨[.int .u8 10, .int .u32 ev.pick, .int .u64 ev.draw, .int .u32 ev.addr, .int .u32 ev.node, .int .u32 ev.dst, .int .u32 ev.xfer, .int .u8 ev.ty, .int .u64 ev.arg, .int .u64 ev.badge, .slice xo ev.ws.length cx], 35, false⟩), (b14, ⟨[.int .u16 ((Z.ky x).idx), .int .u32 ((Z.ky x).gen)], 39, false⟩), (b75, ⟨[.int .u8 0, .int .u16 0, .int .u32 0, .int .u8 0, .int .u64 0], 49, false⟩)]) h74 rfl rfl rfl rfl (by kernel_rfl) (fun _ => rfl) fun b75 w76 a77 h78 hf79 hn80 => ?_
  clear h74
  refine nd_op ?_
  refine op_store tabOk2 {k := 3} (L' := [(3, ⟨[.int .u16 0, .int .u32 0], ty3, true⟩), (b2, ⟨[.int .u8 10, .int .u32 ev.pick, .int .u64 ev.draw, .int .u32 ev.addr, .int .u32 ev.node, .int .u32 ev.dst, .int .u32 ev.xfer, .int .u8 ev.ty, .int .u64 ev.arg, .int .u64 ev.badge, .slice xo ev.ws.length cx], 35, false⟩), (b14, ⟨[.int .u16 ((Z.ky x).idx), .int .u32 ((Z.ky x).gen)], 39, false⟩), (b75, ⟨[.int .u8 c.ty, .int .u16 c.obj.idx, .int .u32 c.obj.gen, .int .u8 c.rights, .int .u64 c.badge], 49, false⟩)]) (φ := b75 = b75 ∧ Nat.ble (0 + 5) 5 = true) h78 rfl rfl rfl (by kernel_rfl) ⟨rfl, rfl⟩ fun w81 h82 => ?_
  clear h78
  refine nd_batch tabOk2 tabZ_ok2 [(9, {})] [6, 3, 0, 1, 4, 5, 7, 53, 66, 21] (T' := [(6, .pointer (some ⟨b14, 0, none⟩)), (3, .pointer (some ⟨b2, 0, none⟩)), (0, .pointer (some ⟨mb, 0, none⟩)), (1, .agg #[.int .u8 10, .int .u32 ev.pick, .int .u64 ev.draw, .int .u32 ev.addr, .int .u32 ev.node, .int .u32 ev.dst, .int .u32 ev.xfer, .int .u8 ev.ty, .int .u64 ev.arg, .int .u64 ev.badge, .slice xo ev.ws.length cx]), (4, .int .u8 0), (5, .bool false), (7, .pointer (some ⟨(Z.tp x), 0, none⟩)), (53, .int .u8 10), (66, .bool false), (21, .int .u8 0)]) (φ := True) (rest := []) h82 (by kernel_rfl) rfl trivial fun a83 h84 => ?_
  clear h82
  refine nd_done ?_
  refine hK66 _ _ ?_
  clear hK66
  refine wp_seq_k fun K85 hK85 => ?_
  refine nd_start (l := [0, 1]) rfl ?_
  refine nd_batch tabOk2 tabZ_ok2 [(0, {}), (1, {})] [6, 3, 0, 1, 4, 5, 7, 53, 66, 21, 295] (T' := [(6, .pointer (some ⟨b14, 0, none⟩)), (3, .pointer (some ⟨b2, 0, none⟩)), (0, .pointer (some ⟨mb, 0, none⟩)), (1, .agg #[.int .u8 10, .int .u32 ev.pick, .int .u64 ev.draw, .int .u32 ev.addr, .int .u32 ev.node, .int .u32 ev.dst, .int .u32 ev.xfer, .int .u8 ev.ty, .int .u64 ev.arg, .int .u64 ev.badge, .slice xo ev.ws.length cx]), (4, .int .u8 0), (5, .bool false), (7, .pointer (some ⟨(Z.tp x), 0, none⟩)), (53, .int .u8 10), (66, .bool false), (21, .int .u8 0), (295, .bool false)]) (φ := True) (rest := []) h84 (by kernel_rfl) rfl trivial fun a86 h87 => ?_
  clear h84
  refine nd_done ?_
  refine hK85 _ _ ?_
  clear hK85
  refine c_false h87 rfl ?_
  refine wp_skip ?_
  refine hK65 _ _ ?_
  clear hK65
  refine wp_seq_k fun K88 hK88 => ?_
  refine nd_start (l := [0, 1, 2, 3, 4, 5, 6, 7, 8]) rfl ?_
  refine nd_batch tabOk2 tabZ_ok2 [(0, {}), (1, {}), (2, {k := 1})] [6, 3, 0, 1, 4, 5, 7, 53, 66, 21, 298, 300] (T' := [(6, .pointer (some ⟨b14, 0, none⟩)), (3, .pointer (some ⟨b2, 0, none⟩)), (0, .pointer (some ⟨mb, 0, none⟩)), (1, .agg #[.int .u8 10, .int .u32 ev.pick, .int .u64 ev.draw, .int .u32 ev.addr, .int .u32 ev.node, .int .u32 ev.dst, .int .u32 ev.xfer, .int .u8 ev.ty, .int .u64 ev.arg, .int .u64 ev.badge, .slice xo ev.ws.length cx]), (4, .int .u8 0), (5, .bool false), (7, .pointer (some ⟨(Z.tp x), 0, none⟩)), (53, .int .u8 10), (66, .bool false), (21, .int .u8 0), (298, .pointer (some ⟨mb, 0, none⟩)), (300, .int .u32 ev.addr)]) (φ := (b2 = b2 ∧ Nat.ble (3 + 1) 11 = true) ∧ True) (rest := [3, 4, 5, 6, 7, 8]) h87 (by kernel_rfl) rfl ⟨⟨rfl, rfl⟩, trivial⟩ fun a89 h90 => ?_
  clear h87
  refine nd_op ?_
  refine op_call h90 rfl rfl rfl (callOk Tryd.func93 (by decide) rfl) (args := [.pointer (some ⟨mb, 0, none⟩), .int .u32 ev.addr]) rfl (cellOf_ok mb Z _ a C x hx hcx hci ev.addr he.addr e1 _ (mh_of h90 hhoh72 (k := 0) rfl)) ?_
  rintro _ w91 ⟨rfl, hg93⟩
  refine ⟨_, rfl, ?_⟩
  have h94a := st_mg h90 hg93 (kcons (fun _ => rfl) (kcons (fun hq => by cases hq) (kcons (fun hq => by cases hq) (kcons (fun hq => by cases hq) knil))))
  have h94 := h94a.put (d := some 301) (v := .tuple #[.int .i64 s1, .int .u8 0]) (T' := [(301, .tuple #[.int .i64 s1, .int .u8 0]), (6, .pointer (some ⟨b14, 0, none⟩)), (3, .pointer (some ⟨b2, 0, none⟩)), (0, .pointer (some ⟨mb, 0, none⟩)), (1, .agg #[.int .u8 10, .int .u32 ev.pick, .int .u64 ev.draw, .int .u32 ev.addr, .int .u32 ev.node, .int .u32 ev.dst, .int .u32 ev.xfer, .int .u8 ev.ty, .int .u64 ev.arg, .int .u64 ev.badge, .slice xo ev.ws.length cx]), (4, .int .u8 0), (5, .bool false), (7, .pointer (some ⟨(Z.tp x), 0, none⟩)), (53, .int .u8 10), (66, .bool false), (21, .int .u8 0), (298, .pointer (some ⟨mb, 0, none⟩)), (300, .int .u32 ev.addr)]) rfl
  have hhoh94 := hg93.mh.ho
  clear h90 h94a
  refine nd_batch tabOk2 tabZ_ok2 [(4, {}), (5, {}), (6, {}), (7, {}), (8, {})] [6, 3, 0, 1, 4, 5, 7, 53, 66, 21, 22] (T' := [(6, .pointer (some ⟨b14, 0, none⟩)), (3, .pointer (some ⟨b2, 0, none⟩)), (0, .pointer (some ⟨mb, 0, none⟩)), (1, .agg #[.int .u8 10, .int .u32 ev.pick, .int .u64 ev.draw, .int .u32 ev.addr, .int .u32 ev.node, .int .u32 ev.dst, .int .u32 ev.xfer, .int .u8 ev.ty, .int .u64 ev.arg, .int .u64 ev.badge, .slice xo ev.ws.length cx]), (4, .int .u8 0), (5, .bool false), (7, .pointer (some ⟨(Z.tp x), 0, none⟩)), (53, .int .u8 10), (66, .bool false), (21, .int .u8 0), (22, .int .i64 s1)]) (φ := True) (rest := []) h94 (by kernel_rfl) rfl trivial fun a95 h96 => ?_
  clear h94
  refine nd_done ?_
  refine hK88 _ _ ?_
  clear hK88
  refine wp_seq_k fun K97 hK97 => ?_
  refine nd_start (l := [0, 1, 2, 3, 4, 5, 6, 7, 8]) rfl ?_
  refine nd_batch tabOk2 tabZ_ok2 [(0, {}), (1, {}), (2, {k := 1})] [6, 3, 0, 1, 4, 5, 7, 53, 66, 21, 22, 305, 307] (T' := [(6, .pointer (some ⟨b14, 0, none⟩)), (3, .pointer (some ⟨b2, 0, none⟩)), (0, .pointer (some ⟨mb, 0, none⟩)), (1, .agg #[.int .u8 10, .int .u32 ev.pick, .int .u64 ev.draw, .int .u32 ev.addr, .int .u32 ev.node, .int .u32 ev.dst, .int .u32 ev.xfer, .int .u8 ev.ty, .int .u64 ev.arg, .int .u64 ev.badge, .slice xo ev.ws.length cx]), (4, .int .u8 0), (5, .bool false), (7, .pointer (some ⟨(Z.tp x), 0, none⟩)), (53, .int .u8 10), (66, .bool false), (21, .int .u8 0), (22, .int .i64 s1), (305, .pointer (some ⟨mb, 0, none⟩)), (307, .int .u32 ev.dst)]) (φ := (b2 = b2 ∧ Nat.ble (5 + 1) 11 = true) ∧ True) (rest := [3, 4, 5, 6, 7, 8]) h96 (by kernel_rfl) rfl ⟨⟨rfl, rfl⟩, trivial⟩ fun a98 h99 => ?_
  clear h96
  refine nd_op ?_
  refine op_call h99 rfl rfl rfl (callOk Tryd.func93 (by decide) rfl) (args := [.pointer (some ⟨mb, 0, none⟩), .int .u32 ev.dst]) rfl (cellOf_ok mb Z _ a C x hx hcx hci ev.dst he.dst e2 _ (mh_of h99 hhoh94 (k := 0) rfl)) ?_
  rintro _ w100 ⟨rfl, hg102⟩
  refine ⟨_, rfl, ?_⟩
  have h103a := st_mg h99 hg102 (kcons (fun _ => rfl) (kcons (fun hq => by cases hq) (kcons (fun hq => by cases hq) (kcons (fun hq => by cases hq) knil))))
  have h103 := h103a.put (d := some 308) (v := .tuple #[.int .i64 s2, .int .u8 0]) (T' := [(308, .tuple #[.int .i64 s2, .int .u8 0]), (6, .pointer (some ⟨b14, 0, none⟩)), (3, .pointer (some ⟨b2, 0, none⟩)), (0, .pointer (some ⟨mb, 0, none⟩)), (1, .agg #[.int .u8 10, .int .u32 ev.pick, .int .u64 ev.draw, .int .u32 ev.addr, .int .u32 ev.node, .int .u32 ev.dst, .int .u32 ev.xfer, .int .u8 ev.ty, .int .u64 ev.arg, .int .u64 ev.badge, .slice xo ev.ws.length cx]), (4, .int .u8 0), (5, .bool false), (7, .pointer (some ⟨(Z.tp x), 0, none⟩)), (53, .int .u8 10), (66, .bool false), (21, .int .u8 0), (22, .int .i64 s1), (305, .pointer (some ⟨mb, 0, none⟩)), (307, .int .u32 ev.dst)]) rfl
  have hhoh103 := hg102.mh.ho
  clear h99 h103a
  refine nd_batch tabOk2 tabZ_ok2 [(4, {}), (5, {}), (6, {}), (7, {}), (8, {})] [6, 3, 0, 1, 4, 5, 7, 53, 66, 21, 22, 24, 25] (T' := [(6, .pointer (some ⟨b14, 0, none⟩)), (3, .pointer (some ⟨b2, 0, none⟩)), (0, .pointer (some ⟨mb, 0, none⟩)), (1, .agg #[.int .u8 10, .int .u32 ev.pick, .int .u64 ev.draw, .int .u32 ev.addr, .int .u32 ev.node, .int .u32 ev.dst, .int .u32 ev.xfer, .int .u8 ev.ty, .int .u64 ev.arg, .int .u64 ev.badge, .slice xo ev.ws.length cx]), (4, .int .u8 0), (5, .bool false), (7, .pointer (some ⟨(Z.tp x), 0, none⟩)), (53, .int .u8 10), (66, .bool false), (21, .int .u8 0), (22, .int .i64 s1), (24, .int .i64 s2), (25, .int .u8 0)]) (φ := True) (rest := []) h103 (by kernel_rfl) rfl trivial fun a104 h105 => ?_
  clear h103
  refine nd_done ?_
  refine hK97 _ _ ?_
  clear hK97
  refine wp_seq_k fun K106 hK106 => ?_
  refine wp_seq_k fun K107 hK107 => ?_
  refine nd_start (l := [0, 1]) rfl ?_
  refine nd_batch tabOk2 tabZ_ok2 [(0, {}), (1, {})] [6, 3, 0, 1, 4, 5, 7, 53, 66, 21, 22, 24, 25, 312] (T' := [(6, .pointer (some ⟨b14, 0, none⟩)), (3, .pointer (some ⟨b2, 0, none⟩)), (0, .pointer (some ⟨mb, 0, none⟩)), (1, .agg #[.int .u8 10, .int .u32 ev.pick, .int .u64 ev.draw, .int .u32 ev.addr, .int .u32 ev.node, .int .u32 ev.dst, .int .u32 ev.xfer, .int .u8 ev.ty, .int .u64 ev.arg, .int .u64 ev.badge, .slice xo ev.ws.length cx]), (4, .int .u8 0), (5, .bool false), (7, .pointer (some ⟨(Z.tp x), 0, none⟩)), (53, .int .u8 10), (66, .bool false), (21, .int .u8 0), (22, .int .i64 s1), (24, .int .i64 s2), (25, .int .u8 0), (312, .bool false)]) (φ := True) (rest := []) h105 (by kernel_rfl) rfl trivial fun a108 h109 => ?_
  clear h105
  refine nd_done ?_
  refine hK107 _ _ ?_
  clear hK107
  refine c_false h109 rfl ?_
  refine wp_skip ?_
  refine hK106 _ _ ?_
  clear hK106
  refine wp_seq_k fun K110 hK110 => ?_
  refine wp_seq_k fun K111 hK111 => ?_
  refine nd_start (l := [0, 1, 2, 3, 4, 5, 6, 7]) rfl ?_
  refine nd_batch tabOk2 tabZ_ok2 [(0, {}), (1, {}), (2, {})] [6, 3, 0, 1, 4, 5, 7, 53, 66, 21, 22, 24, 25, 316] (T' := [(6, .pointer (some ⟨b14, 0, none⟩)), (3, .pointer (some ⟨b2, 0, none⟩)), (0, .pointer (some ⟨mb, 0, none⟩)), (1, .agg #[.int .u8 10, .int .u32 ev.pick, .int .u64 ev.draw, .int .u32 ev.addr, .int .u32 ev.node, .int .u32 ev.dst, .int .u32 ev.xfer, .int .u8 ev.ty, .int .u64 ev.arg, .int .u64 ev.badge, .slice xo ev.ws.length cx]), (4, .int .u8 0), (5, .bool false), (7, .pointer (some ⟨(Z.tp x), 0, none⟩)), (53, .int .u8 10), (66, .bool false), (21, .int .u8 0), (22, .int .i64 s1), (24, .int .i64 s2), (25, .int .u8 0), (316, .pointer (some ⟨mb, 1, none⟩))]) (φ := True) (rest := [3, 4, 5, 6, 7]) h109 (by kernel_rfl) rfl trivial fun a112 h113 => ?_
  clear h109
  refine nd_op ?_
  refine op_read (b := mb) (v := .pointer (some ⟨Z.mc, 0, none⟩)) h113 rfl rfl (rd_m h113 (k := 1) (v := .pointer (some ⟨Z.mc, 0, none⟩)) rfl rfl rfl rfl (md_p ⟨rfl, trivial⟩)) ?_
  have h114 := h113.put (d := some 317) (v := .pointer (some ⟨Z.mc, 0, none⟩)) (T' := [(317, .pointer (some ⟨Z.mc, 0, none⟩)), (6, .pointer (some ⟨b14, 0, none⟩)), (3, .pointer (some ⟨b2, 0, none⟩)), (0, .pointer (some ⟨mb, 0, none⟩)), (1, .agg #[.int .u8 10, .int .u32 ev.pick, .int .u64 ev.draw, .int .u32 ev.addr, .int .u32 ev.node, .int .u32 ev.dst, .int .u32 ev.xfer, .int .u8 ev.ty, .int .u64 ev.arg, .int .u64 ev.badge, .slice xo ev.ws.length cx]), (4, .int .u8 0), (5, .bool false), (7, .pointer (some ⟨(Z.tp x), 0, none⟩)), (53, .int .u8 10), (66, .bool false), (21, .int .u8 0), (22, .int .i64 s1), (24, .int .i64 s2), (25, .int .u8 0), (316, .pointer (some ⟨mb, 1, none⟩))]) rfl
  clear h113
  refine nd_batch tabOk2 tabZ_ok2 [(4, {})] [317, 6, 3, 0, 1, 4, 5, 7, 53, 66, 21, 22, 24, 25, 318] (T' := [(317, .pointer (some ⟨Z.mc, 0, none⟩)), (6, .pointer (some ⟨b14, 0, none⟩)), (3, .pointer (some ⟨b2, 0, none⟩)), (0, .pointer (some ⟨mb, 0, none⟩)), (1, .agg #[.int .u8 10, .int .u32 ev.pick, .int .u64 ev.draw, .int .u32 ev.addr, .int .u32 ev.node, .int .u32 ev.dst, .int .u32 ev.xfer, .int .u8 ev.ty, .int .u64 ev.arg, .int .u64 ev.badge, .slice xo ev.ws.length cx]), (4, .int .u8 0), (5, .bool false), (7, .pointer (some ⟨(Z.tp x), 0, none⟩)), (53, .int .u8 10), (66, .bool false), (21, .int .u8 0), (22, .int .i64 s1), (24, .int .i64 s2), (25, .int .u8 0), (318, .int .i64 s2)]) (φ := True) (rest := [5, 6, 7]) h114 (by kernel_rfl) rfl trivial fun a115 h116 => ?_
  clear h114
  refine nd_op ?_
  obtain ⟨i2, j2, hi2, hj2, hp2, hs2⟩ := look_fact hI.ci hci.1 he.dst.1 e2 rfl
  refine op_call h116 rfl rfl rfl (callOk Tryd.func62 (by decide) rfl) (args := [.pointer (some ⟨Z.mc, 0, none⟩), .int .i64 s2]) rfl (atE Z.mo Z.mc Z.nd C hi2 hj2 hp2 hs2 _ h116.inv.1.cp) ?_
  rintro _ w117 ⟨rfl, hf119⟩
  refine ⟨_, rfl, ?_⟩
  have h118 := (h116.grow hf119).put (d := some 319) (v := .agg #[.int .u8 ((C.cel s2.toNat).cap.ty), .int .u16 ((C.cel s2.toNat).cap.obj.idx), .int .u32 ((C.cel s2.toNat).cap.obj.gen), .int .u8 ((C.cel s2.toNat).cap.rights), .int .u64 ((C.cel s2.toNat).cap.badge)]) (T' := [(319, .agg #[.int .u8 ((C.cel s2.toNat).cap.ty), .int .u16 ((C.cel s2.toNat).cap.obj.idx), .int .u32 ((C.cel s2.toNat).cap.obj.gen), .int .u8 ((C.cel s2.toNat).cap.rights), .int .u64 ((C.cel s2.toNat).cap.badge)]), (317, .pointer (some ⟨Z.mc, 0, none⟩)), (6, .pointer (some ⟨b14, 0, none⟩)), (3, .pointer (some ⟨b2, 0, none⟩)), (0, .pointer (some ⟨mb, 0, none⟩)), (1, .agg #[.int .u8 10, .int .u32 ev.pick, .int .u64 ev.draw, .int .u32 ev.addr, .int .u32 ev.node, .int .u32 ev.dst, .int .u32 ev.xfer, .int .u8 ev.ty, .int .u64 ev.arg, .int .u64 ev.badge, .slice xo ev.ws.length cx]), (4, .int .u8 0), (5, .bool false), (7, .pointer (some ⟨(Z.tp x), 0, none⟩)), (53, .int .u8 10), (66, .bool false), (21, .int .u8 0), (22, .int .i64 s1), (24, .int .i64 s2), (25, .int .u8 0), (318, .int .i64 s2)]) rfl
  clear h116
  refine nd_batch tabOk2 tabZ_ok2 [(6, {}), (7, {})] [6, 3, 0, 1, 4, 5, 7, 53, 66, 21, 22, 24, 25, 321] (T' := [(6, .pointer (some ⟨b14, 0, none⟩)), (3, .pointer (some ⟨b2, 0, none⟩)), (0, .pointer (some ⟨mb, 0, none⟩)), (1, .agg #[.int .u8 10, .int .u32 ev.pick, .int .u64 ev.draw, .int .u32 ev.addr, .int .u32 ev.node, .int .u32 ev.dst, .int .u32 ev.xfer, .int .u8 ev.ty, .int .u64 ev.arg, .int .u64 ev.badge, .slice xo ev.ws.length cx]), (4, .int .u8 0), (5, .bool false), (7, .pointer (some ⟨(Z.tp x), 0, none⟩)), (53, .int .u8 10), (66, .bool false), (21, .int .u8 0), (22, .int .i64 s1), (24, .int .i64 s2), (25, .int .u8 0), (321, .bool ((C.cel s2.toNat).cap.ty != 0))]) (φ := True) (rest := []) h118 (by kernel_rfl) rfl trivial fun a120 h121 => ?_
  clear h118
  refine nd_done ?_
  refine hK111 _ _ ?_
  clear hK111
  refine c_split h121 (b := ((C.cel s2.toNat).cap.ty != 0)) rfl (fun hc122 => ?_) (fun hc122 => ?_)
  ·
    have hc122f : (C.cel s2.toNat).cap.ty ≠ 0 := by simpa using hc122
    refine wp_seq_k fun K123 hK123 => ?_
    refine nd_start (l := [0, 1]) rfl ?_
    refine nd_batch tabOk2 tabZ_ok2 [(0, {}), (1, {})] [6, 3, 0, 1, 7, 53, 66, 21, 22, 24, 25, 4, 5] (T' := [(6, .pointer (some ⟨b14, 0, none⟩)), (3, .pointer (some ⟨b2, 0, none⟩)), (0, .pointer (some ⟨mb, 0, none⟩)), (1, .agg #[.int .u8 10, .int .u32 ev.pick, .int .u64 ev.draw, .int .u32 ev.addr, .int .u32 ev.node, .int .u32 ev.dst, .int .u32 ev.xfer, .int .u8 ev.ty, .int .u64 ev.arg, .int .u64 ev.badge, .slice xo ev.ws.length cx]), (7, .pointer (some ⟨(Z.tp x), 0, none⟩)), (53, .int .u8 10), (66, .bool false), (21, .int .u8 0), (22, .int .i64 s1), (24, .int .i64 s2), (25, .int .u8 0), (4, .int .u8 6), (5, .bool false)]) (φ := True) (rest := []) h121 (by kernel_rfl) rfl trivial fun a124 h125 => ?_
    clear h121
    refine nd_done ?_
    refine hK123 _ _ ?_
    clear hK123
    refine wp_ret ?_
    try simp only [Exit.then, Exit.inBlock]
    try rw [if_pos trivial]
    exact s_ret tabOk2 tabZ_ok2 h125 [(.tmp 4, {}), (.tmp 5, {})] (vs := [.int .u8 6, .bool false]) (φ := True) rfl (by kernel_rfl) trivial ⟨rfl, _, mg_end hH h125 hhoh103 rfl⟩
  ·
    have hc122f : (C.cel s2.toNat).cap.ty = 0 := by simpa using hc122
    exact absurd (hz2) (by first | exact hc122f | (intro hz; exact hc122f hz) | omega | simp_all)

theorem call10t (mb : Nat) (Z : MZ) (R : MR) (a : AK) (C : CP) (hI : MI Z a C) (x : Nat) (hx : x ∈ sl Z.tl) (hcu : a.cur = (x : Int)) (ev : Ev) (he : EvOk ev) (xo : Option Addr) (cx : Nat) (c : Cp) (cs0 : Int) (hf : findA a C ev.addr 1 2 = (c, cs0, 0)) (s1 : Int) (e1 : lookP C.ent (a.th x).cs ev.addr = (s1, 0)) (s2 : Int) (e2 : lookP C.ent (a.th x).cs ev.dst = (s2, 0)) (hz2 : (C.cel s2.toNat).cap.ty = 0) (ht2 : ev.ty ≠ 2) (ht3 : ev.ty ≠ 3) (ht4 : ev.ty ≠ 4) (ht5 : ev.ty ≠ 5) (w : World) (hH : MH mb Z R a C w) (hws : WordsAt (mdF mb Z R C) w xo ev.ws) :
    Calls Tryd.prog 55 #[.pointer (some ⟨mb, 0, none⟩), .agg #[.int .u8 10, .int .u32 ev.pick, .int .u64 ev.draw, .int .u32 ev.addr, .int .u32 ev.node, .int .u32 ev.dst, .int .u32 ev.xfer, .int .u8 ev.ty, .int .u64 ev.arg, .int .u64 ev.badge, .slice xo ev.ws.length cx]] w fun e w' => e = .returned (.tuple #[.int .u8 8, .bool false]) ∧ ∃ R', MG mb Z R C w Z R' a C w' := by
  have hP := hI.mp
  have hcx : curR Z a = Z.ky x := curR_of hcu
  have hcn : a.cur.toNat = x := by rw [hcu]; exact Int.toNat_natCast x
  have hci := (hI.tk x hx).ci
  obtain ⟨ty3, hg3⟩ := hH.g3
  have hho := hH.ho
  have hkk := hH.md.k
  refine enter (n := 628) (K := mdF mb Z R C) (A := MD (mdF mb Z R C) w.heap.size mb Z R a C) (F := mdF mb Z R C) (T := [(0, .pointer (some ⟨mb, 0, none⟩)), (1, .agg #[.int .u8 10, .int .u32 ev.pick, .int .u64 ev.draw, .int .u32 ev.addr, .int .u32 ev.node, .int .u32 ev.dst, .int .u32 ev.xfer, .int .u8 ev.ty, .int .u64 ev.arg, .int .u64 ev.badge, .slice xo ev.ws.length cx])]) (L := [(3, ⟨[.int .u16 0, .int .u32 0], ty3, true⟩)]) (args := [.pointer (some ⟨mb, 0, none⟩), .agg #[.int .u8 10, .int .u32 ev.pick, .int .u64 ev.draw, .int .u32 ev.addr, .int .u32 ev.node, .int .u32 ev.dst, .int .u32 ev.xfer, .int .u8 ev.ty, .int .u64 ev.arg, .int .u64 ev.badge, .slice xo ev.ws.length cx]]) Tryd.func55 rfl rfl rfl rfl (kcons hg3 knil) (by simp) (kcons (by intro hq; cases hq) knil) hH.mD MD.stable hH.md.low (kcons (by intro hq; cases hq) knil) ?_
  intro ac h
  refine wp_seq_k fun K1 hK1 => ?_
  refine nd_start (l := [0, 1, 2]) rfl ?_
  refine nd_op ?_
  refine op_new tabOk2 (cells := [.int .u8 10, .int .u32 ev.pick, .int .u64 ev.draw, .int .u32 ev.addr, .int .u32 ev.node, .int .u32 ev.dst, .int .u32 ev.xfer, .int .u8 ev.ty, .int .u64 ev.arg, .int .u64 ev.badge, .slice xo ev.ws.length cx]) (ty := 35) (ln := none) (L1 := fun b2 => [(3, ⟨[.int .u16 0, .int .u32 0], ty3, true⟩), (b2, ⟨[.int .u8 10, .int .u32 ev.pick, .int .u64 ev.draw, .int .u32 ev.addr, .int .u32 ev.node, .int .u32 ev.dst, .int .u32 ev.xfer, .int .u8 ev.ty, .int .u64 ev.arg, .int .u64 ev.badge, .slice xo ev.ws.length cx], 35, false⟩)]) h rfl rfl rfl rfl (by kernel_rfl) (fun _ => rfl) fun b2 w3 a4 h5 hf6 hn7 => ?_
  clear h
  refine nd_batch tabOk2 tabZ_ok2 [(1, {}), (2, {})] [3, 0, 1, 4, 5] (T' := [(3, .pointer (some ⟨b2, 0, none⟩)), (0, .pointer (some ⟨mb, 0, none⟩)), (1, .agg #[.int .u8 10, .int .u32 ev.pick, .int .u64 ev.draw, .int .u32 ev.addr, .int .u32 ev.node, .int .u32 ev.dst, .int .u32 ev.xfer, .int .u8 ev.ty, .int .u64 ev.arg, .int .u64 ev.badge, .slice xo ev.ws.length cx]), (4, .int .u8 0), (5, .bool false)]) (φ := True) (rest := []) h5 (by kernel_rfl) rfl trivial fun a8 h9 => ?_
  clear h5
  refine nd_done ?_
  refine hK1 _ _ ?_
  clear hK1
  refine wp_seq_k fun K10 hK10 => ?_
  refine nd_start (l := [0, 1, 2, 3, 4, 5]) rfl ?_
  refine nd_batch tabOk2 tabZ_ok2 [(0, {}), (1, {}), (2, {})] [3, 0, 1, 4, 5, 44] (T' := [(3, .pointer (some ⟨b2, 0, none⟩)), (0, .pointer (some ⟨mb, 0, none⟩)), (1, .agg #[.int .u8 10, .int .u32 ev.pick, .int .u64 ev.draw, .int .u32 ev.addr, .int .u32 ev.node, .int .u32 ev.dst, .int .u32 ev.xfer, .int .u8 ev.ty, .int .u64 ev.arg, .int .u64 ev.badge, .slice xo ev.ws.length cx]), (4, .int .u8 0), (5, .bool false), (44, .pointer (some ⟨mb, 13, none⟩))]) (φ := True) (rest := [3, 4, 5]) h9 (by kernel_rfl) rfl trivial fun a11 h12 => ?_
  clear h9
  refine nd_op ?_
  refine op_read (b := mb) (v := .agg #[.int .u16 ((Z.ky x).idx), .int .u32 ((Z.ky x).gen)]) h12 rfl rfl (rd_mA h12 (k := 13) (vs := [.int .u16 ((Z.ky x).idx), .int .u32 ((Z.ky x).gen)]) rfl rfl rfl rfl rfl (by rw [← hcx]; exact md_cur)) ?_
  have h13 := h12.put (d := some 45) (v := .agg #[.int .u16 ((Z.ky x).idx), .int .u32 ((Z.ky x).gen)]) (T' := [(45, .agg #[.int .u16 ((Z.ky x).idx), .int .u32 ((Z.ky x).gen)]), (3, .pointer (some ⟨b2, 0, none⟩)), (0, .pointer (some ⟨mb, 0, none⟩)), (1, .agg #[.int .u8 10, .int .u32 ev.pick, .int .u64 ev.draw, .int .u32 ev.addr, .int .u32 ev.node, .int .u32 ev.dst, .int .u32 ev.xfer, .int .u8 ev.ty, .int .u64 ev.arg, .int .u64 ev.badge, .slice xo ev.ws.length cx]), (4, .int .u8 0), (5, .bool false), (44, .pointer (some ⟨mb, 13, none⟩))]) rfl
  clear h12
  refine nd_op ?_
  refine op_new tabOk2 (cells := [.int .u16 0, .int .u32 0]) (ty := 39) (ln := none) (L1 := fun b14 => [(3, ⟨[.int .u16 0, .int .u32 0], ty3, true⟩), (b2, ⟨[.int .u8 10, .int .u32 ev.pick, .int .u64 ev.draw, .int .u32 ev.addr, .int .u32 ev.node, .int .u32 ev.dst, .int .u32 ev.xfer, .int .u8 ev.ty, .int .u64 ev.arg, .int .u64 ev.badge, .slice xo ev.ws.length cx], 35, false⟩), (b14, ⟨[.int .u16 0, .int .u32 0], 39, false⟩)]) h13 rfl rfl rfl rfl (by kernel_rfl) (fun _ => rfl) fun b14 w15 a16 h17 hf18 hn19 => ?_
  clear h13
  refine nd_op ?_
  refine op_store tabOk2 {k := 2} (L' := [(3, ⟨[.int .u16 0, .int .u32 0], ty3, true⟩), (b2, ⟨[.int .u8 10, .int .u32 ev.pick, .int .u64 ev.draw, .int .u32 ev.addr, .int .u32 ev.node, .int .u32 ev.dst, .int .u32 ev.xfer, .int .u8 ev.ty, .int .u64 ev.arg, .int .u64 ev.badge, .slice xo ev.ws.length cx], 35, false⟩), (b14, ⟨[.int .u16 ((Z.ky x).idx), .int .u32 ((Z.ky x).gen)], 39, false⟩)]) (φ := b14 = b14 ∧ Nat.ble (0 + 2) 2 = true) h17 rfl rfl rfl (by kernel_rfl) ⟨rfl, rfl⟩ fun w20 h21 => ?_
  clear h17
  refine nd_done ?_
  refine hK10 _ _ ?_
  clear hK10
  refine wp_seq_k fun K22 hK22 => ?_
  refine dr_start (KB := [3, b2, b14, mb, Z.tb]) (Bi := [[0, 1, 2, 3, 4], [0, 1, 2, 3, 4], [0, 1, 2, 3, 4], [0, 1, 2, 3, 4], [0, 1, 2, 3, 4], [0, 1, 2, 3, 4], [0, 1, 2, 3, 4]]) mixed h21 fun w23 h24 => ?_
  clear h21
  refine dr_batch tabOk2 tabZ_ok2 (by repeat (first | with_reducible exact PF.body | with_reducible apply PF.inB | with_reducible apply PF.next)) [(0, {}), (1, {}), (2, {})] [6, 3, 0, 1, 4, 5, 48] (T' := [(6, .pointer (some ⟨b14, 0, none⟩)), (3, .pointer (some ⟨b2, 0, none⟩)), (0, .pointer (some ⟨mb, 0, none⟩)), (1, .agg #[.int .u8 10, .int .u32 ev.pick, .int .u64 ev.draw, .int .u32 ev.addr, .int .u32 ev.node, .int .u32 ev.dst, .int .u32 ev.xfer, .int .u8 ev.ty, .int .u64 ev.arg, .int .u64 ev.badge, .slice xo ev.ws.length cx]), (4, .int .u8 0), (5, .bool false), (48, .pointer (some ⟨mb, 2, none⟩))]) (φ := True) (fuel := 4) h24 (by kernel_rfl) rfl (by kernel_rfl) (by kernel_rfl) ⟨trivial, trivial, trivial, trivial⟩ trivial fun a26 h27 => ?_
  clear h24
  refine dr_read (i := 3) (b := mb) (p := 3) (v := .map (some Z.tb)) (fuel := 3) (by repeat (first | with_reducible exact PF.body | with_reducible apply PF.inB | with_reducible apply PF.next)) h27 rfl rfl rfl (by kernel_rfl) (by kernel_rfl) (by kernel_rfl) rfl (rd_m h27 (k := 2) (v := .map (some Z.tb)) rfl rfl rfl rfl (md_p ⟨rfl, trivial⟩)) ?_
  have h28 := h27.put (d := some 49) (v := .map (some Z.tb)) (T' := [(49, .map (some Z.tb)), (6, .pointer (some ⟨b14, 0, none⟩)), (3, .pointer (some ⟨b2, 0, none⟩)), (0, .pointer (some ⟨mb, 0, none⟩)), (1, .agg #[.int .u8 10, .int .u32 ev.pick, .int .u64 ev.draw, .int .u32 ev.addr, .int .u32 ev.node, .int .u32 ev.dst, .int .u32 ev.xfer, .int .u8 ev.ty, .int .u64 ev.arg, .int .u64 ev.badge, .slice xo ev.ws.length cx]), (4, .int .u8 0), (5, .bool false), (48, .pointer (some ⟨mb, 2, none⟩))]) rfl
  clear h27
  refine dr_batch tabOk2 tabZ_ok2 (by repeat (first | with_reducible exact PF.body | with_reducible apply PF.inB | with_reducible apply PF.next)) [(4, {k := 2, p := 2})] [49, 6, 3, 0, 1, 4, 5, 50] (T' := [(49, .map (some Z.tb)), (6, .pointer (some ⟨b14, 0, none⟩)), (3, .pointer (some ⟨b2, 0, none⟩)), (0, .pointer (some ⟨mb, 0, none⟩)), (1, .agg #[.int .u8 10, .int .u32 ev.pick, .int .u64 ev.draw, .int .u32 ev.addr, .int .u32 ev.node, .int .u32 ev.dst, .int .u32 ev.xfer, .int .u8 ev.ty, .int .u64 ev.arg, .int .u64 ev.badge, .slice xo ev.ws.length cx]), (4, .int .u8 0), (5, .bool false), (50, .agg #[.int .u16 ((Z.ky x).idx), .int .u32 ((Z.ky x).gen)])]) (φ := (b14 = b14 ∧ Nat.ble (0 + 2) 2 = true) ∧ True) (fuel := 2) h28 (by kernel_rfl) rfl (by kernel_rfl) (by kernel_rfl) ⟨rfl, trivial⟩ ⟨⟨rfl, rfl⟩, trivial⟩ fun a29 h30 => ?_
  clear h28
  refine dr_read (i := 5) (b := Z.tb) (p := 4) (v := .pointer (some ⟨(Z.tp x), 0, none⟩)) (fuel := 1) (by repeat (first | with_reducible exact PF.body | with_reducible apply PF.inB | with_reducible apply PF.next)) h30 rfl rfl rfl (by kernel_rfl) (by kernel_rfl) (by kernel_rfl) rfl (rd_T h30 (x := x) hx rfl rfl rfl) ?_
  have h31 := h30.put (d := some 51) (v := .pointer (some ⟨(Z.tp x), 0, none⟩)) (T' := [(51, .pointer (some ⟨(Z.tp x), 0, none⟩)), (49, .map (some Z.tb)), (6, .pointer (some ⟨b14, 0, none⟩)), (3, .pointer (some ⟨b2, 0, none⟩)), (0, .pointer (some ⟨mb, 0, none⟩)), (1, .agg #[.int .u8 10, .int .u32 ev.pick, .int .u64 ev.draw, .int .u32 ev.addr, .int .u32 ev.node, .int .u32 ev.dst, .int .u32 ev.xfer, .int .u8 ev.ty, .int .u64 ev.arg, .int .u64 ev.badge, .slice xo ev.ws.length cx]), (4, .int .u8 0), (5, .bool false), (50, .agg #[.int .u16 ((Z.ky x).idx), .int .u32 ((Z.ky x).gen)])]) rfl
  clear h30
  refine dr_batch tabOk2 tabZ_ok2 (by repeat (first | with_reducible exact PF.body | with_reducible apply PF.inB | with_reducible apply PF.next)) [(6, {})] [6, 3, 0, 1, 4, 5, 7] (T' := [(6, .pointer (some ⟨b14, 0, none⟩)), (3, .pointer (some ⟨b2, 0, none⟩)), (0, .pointer (some ⟨mb, 0, none⟩)), (1, .agg #[.int .u8 10, .int .u32 ev.pick, .int .u64 ev.draw, .int .u32 ev.addr, .int .u32 ev.node, .int .u32 ev.dst, .int .u32 ev.xfer, .int .u8 ev.ty, .int .u64 ev.arg, .int .u64 ev.badge, .slice xo ev.ws.length cx]), (4, .int .u8 0), (5, .bool false), (7, .pointer (some ⟨(Z.tp x), 0, none⟩))]) (φ := True) (fuel := 0) h31 (by kernel_rfl) rfl (by kernel_rfl) (by kernel_rfl) ⟨trivial, trivial⟩ trivial fun a32 h33 => ?_
  clear h31
  refine wpAnyK_done (by kernel_rfl) ?_ _
  refine hK22 _ _ ?_
  clear hK22
  refine wp_seq_k fun K34 hK34 => ?_
  refine wp_seq_k fun K35 hK35 => ?_
  refine nd_start (l := [0, 1]) rfl ?_
  refine nd_batch tabOk2 tabZ_ok2 [(0, {}), (1, {k := 1})] [6, 3, 0, 1, 4, 5, 7, 53] (T' := [(6, .pointer (some ⟨b14, 0, none⟩)), (3, .pointer (some ⟨b2, 0, none⟩)), (0, .pointer (some ⟨mb, 0, none⟩)), (1, .agg #[.int .u8 10, .int .u32 ev.pick, .int .u64 ev.draw, .int .u32 ev.addr, .int .u32 ev.node, .int .u32 ev.dst, .int .u32 ev.xfer, .int .u8 ev.ty, .int .u64 ev.arg, .int .u64 ev.badge, .slice xo ev.ws.length cx]), (4, .int .u8 0), (5, .bool false), (7, .pointer (some ⟨(Z.tp x), 0, none⟩)), (53, .int .u8 10)]) (φ := (b2 = b2 ∧ Nat.ble (0 + 1) 11 = true) ∧ True) (rest := []) h33 (by kernel_rfl) rfl ⟨⟨rfl, rfl⟩, trivial⟩ fun a36 h37 => ?_
  clear h33
  refine nd_done ?_
  refine hK35 _ _ ?_
  clear hK35
  refine wp_block ?_
  refine wp_seq_k fun K38 hK38 => ?_
  refine nd_start (l := [0, 1]) rfl ?_
  refine nd_batch tabOk2 tabZ_ok2 [(0, {}), (1, {})] [6, 3, 0, 1, 4, 5, 7, 53, 54] (T' := [(6, .pointer (some ⟨b14, 0, none⟩)), (3, .pointer (some ⟨b2, 0, none⟩)), (0, .pointer (some ⟨mb, 0, none⟩)), (1, .agg #[.int .u8 10, .int .u32 ev.pick, .int .u64 ev.draw, .int .u32 ev.addr, .int .u32 ev.node, .int .u32 ev.dst, .int .u32 ev.xfer, .int .u8 ev.ty, .int .u64 ev.arg, .int .u64 ev.badge, .slice xo ev.ws.length cx]), (4, .int .u8 0), (5, .bool false), (7, .pointer (some ⟨(Z.tp x), 0, none⟩)), (53, .int .u8 10), (54, .bool false)]) (φ := True) (rest := []) h37 (by kernel_rfl) rfl trivial fun a39 h40 => ?_
  clear h37
  refine nd_done ?_
  refine hK38 _ _ ?_
  clear hK38
  refine c_false h40 rfl ?_
  refine wp_seq_k fun K41 hK41 => ?_
  refine nd_start (l := [0, 1]) rfl ?_
  refine nd_batch tabOk2 tabZ_ok2 [(0, {}), (1, {})] [6, 3, 0, 1, 4, 5, 7, 53, 59] (T' := [(6, .pointer (some ⟨b14, 0, none⟩)), (3, .pointer (some ⟨b2, 0, none⟩)), (0, .pointer (some ⟨mb, 0, none⟩)), (1, .agg #[.int .u8 10, .int .u32 ev.pick, .int .u64 ev.draw, .int .u32 ev.addr, .int .u32 ev.node, .int .u32 ev.dst, .int .u32 ev.xfer, .int .u8 ev.ty, .int .u64 ev.arg, .int .u64 ev.badge, .slice xo ev.ws.length cx]), (4, .int .u8 0), (5, .bool false), (7, .pointer (some ⟨(Z.tp x), 0, none⟩)), (53, .int .u8 10), (59, .bool false)]) (φ := True) (rest := []) h40 (by kernel_rfl) rfl trivial fun a42 h43 => ?_
  clear h40
  refine nd_done ?_
  refine hK41 _ _ ?_
  clear hK41
  refine c_false h43 rfl ?_
  refine wp_seq_k fun K44 hK44 => ?_
  refine wp_seq_k fun K45 hK45 => ?_
  refine nd_start (l := [0, 1]) rfl ?_
  refine nd_batch tabOk2 tabZ_ok2 [(0, {}), (1, {})] [6, 3, 0, 1, 4, 5, 7, 53, 66] (T' := [(6, .pointer (some ⟨b14, 0, none⟩)), (3, .pointer (some ⟨b2, 0, none⟩)), (0, .pointer (some ⟨mb, 0, none⟩)), (1, .agg #[.int .u8 10, .int .u32 ev.pick, .int .u64 ev.draw, .int .u32 ev.addr, .int .u32 ev.node, .int .u32 ev.dst, .int .u32 ev.xfer, .int .u8 ev.ty, .int .u64 ev.arg, .int .u64 ev.badge, .slice xo ev.ws.length cx]), (4, .int .u8 0), (5, .bool false), (7, .pointer (some ⟨(Z.tp x), 0, none⟩)), (53, .int .u8 10), (66, .bool false)]) (φ := True) (rest := []) h43 (by kernel_rfl) rfl trivial fun a46 h47 => ?_
  clear h43
  refine nd_done ?_
  refine hK45 _ _ ?_
  clear hK45
  refine c_false h47 rfl ?_
  refine nd_start (l := [0, 1]) rfl ?_
  refine nd_batch tabOk2 tabZ_ok2 [(0, {}), (1, {})] [6, 3, 0, 1, 4, 5, 7, 53, 66] (T' := [(6, .pointer (some ⟨b14, 0, none⟩)), (3, .pointer (some ⟨b2, 0, none⟩)), (0, .pointer (some ⟨mb, 0, none⟩)), (1, .agg #[.int .u8 10, .int .u32 ev.pick, .int .u64 ev.draw, .int .u32 ev.addr, .int .u32 ev.node, .int .u32 ev.dst, .int .u32 ev.xfer, .int .u8 ev.ty, .int .u64 ev.arg, .int .u64 ev.badge, .slice xo ev.ws.length cx]), (4, .int .u8 0), (5, .bool false), (7, .pointer (some ⟨(Z.tp x), 0, none⟩)), (53, .int .u8 10), (66, .bool false)]) (φ := True) (rest := []) h47 (by kernel_rfl) rfl trivial fun a48 h49 => ?_
  clear h47
  refine nd_done ?_
  refine hK44 _ _ ?_
  clear hK44
  refine c_false h49 rfl ?_
  refine wp_seq_k fun K50 hK50 => ?_
  refine nd_start (l := [0, 1]) rfl ?_
  refine nd_batch tabOk2 tabZ_ok2 [(0, {}), (1, {})] [6, 3, 0, 1, 4, 5, 7, 53, 66, 129] (T' := [(6, .pointer (some ⟨b14, 0, none⟩)), (3, .pointer (some ⟨b2, 0, none⟩)), (0, .pointer (some ⟨mb, 0, none⟩)), (1, .agg #[.int .u8 10, .int .u32 ev.pick, .int .u64 ev.draw, .int .u32 ev.addr, .int .u32 ev.node, .int .u32 ev.dst, .int .u32 ev.xfer, .int .u8 ev.ty, .int .u64 ev.arg, .int .u64 ev.badge, .slice xo ev.ws.length cx]), (4, .int .u8 0), (5, .bool false), (7, .pointer (some ⟨(Z.tp x), 0, none⟩)), (53, .int .u8 10), (66, .bool false), (129, .bool false)]) (φ := True) (rest := []) h49 (by kernel_rfl) rfl trivial fun a51 h52 => ?_
  clear h49
  refine nd_done ?_
  refine hK50 _ _ ?_
  clear hK50
  refine c_false h52 rfl ?_
  refine wp_seq_k fun K53 hK53 => ?_
  refine nd_start (l := [0, 1]) rfl ?_
  refine nd_batch tabOk2 tabZ_ok2 [(0, {}), (1, {})] [6, 3, 0, 1, 4, 5, 7, 53, 66, 165] (T' := [(6, .pointer (some ⟨b14, 0, none⟩)), (3, .pointer (some ⟨b2, 0, none⟩)), (0, .pointer (some ⟨mb, 0, none⟩)), (1, .agg #[.int .u8 10, .int .u32 ev.pick, .int .u64 ev.draw, .int .u32 ev.addr, .int .u32 ev.node, .int .u32 ev.dst, .int .u32 ev.xfer, .int .u8 ev.ty, .int .u64 ev.arg, .int .u64 ev.badge, .slice xo ev.ws.length cx]), (4, .int .u8 0), (5, .bool false), (7, .pointer (some ⟨(Z.tp x), 0, none⟩)), (53, .int .u8 10), (66, .bool false), (165, .bool false)]) (φ := True) (rest := []) h52 (by kernel_rfl) rfl trivial fun a54 h55 => ?_
  clear h52
  refine nd_done ?_
  refine hK53 _ _ ?_
  clear hK53
  refine c_false h55 rfl ?_
  refine wp_seq_k fun K56 hK56 => ?_
  refine nd_start (l := [0, 1]) rfl ?_
  refine nd_batch tabOk2 tabZ_ok2 [(0, {}), (1, {})] [6, 3, 0, 1, 4, 5, 7, 53, 66, 226] (T' := [(6, .pointer (some ⟨b14, 0, none⟩)), (3, .pointer (some ⟨b2, 0, none⟩)), (0, .pointer (some ⟨mb, 0, none⟩)), (1, .agg #[.int .u8 10, .int .u32 ev.pick, .int .u64 ev.draw, .int .u32 ev.addr, .int .u32 ev.node, .int .u32 ev.dst, .int .u32 ev.xfer, .int .u8 ev.ty, .int .u64 ev.arg, .int .u64 ev.badge, .slice xo ev.ws.length cx]), (4, .int .u8 0), (5, .bool false), (7, .pointer (some ⟨(Z.tp x), 0, none⟩)), (53, .int .u8 10), (66, .bool false), (226, .bool false)]) (φ := True) (rest := []) h55 (by kernel_rfl) rfl trivial fun a57 h58 => ?_
  clear h55
  refine nd_done ?_
  refine hK56 _ _ ?_
  clear hK56
  refine c_false h58 rfl ?_
  refine wp_seq_k fun K59 hK59 => ?_
  refine nd_start (l := [0, 1]) rfl ?_
  refine nd_batch tabOk2 tabZ_ok2 [(0, {}), (1, {})] [6, 3, 0, 1, 4, 5, 7, 53, 66, 244] (T' := [(6, .pointer (some ⟨b14, 0, none⟩)), (3, .pointer (some ⟨b2, 0, none⟩)), (0, .pointer (some ⟨mb, 0, none⟩)), (1, .agg #[.int .u8 10, .int .u32 ev.pick, .int .u64 ev.draw, .int .u32 ev.addr, .int .u32 ev.node, .int .u32 ev.dst, .int .u32 ev.xfer, .int .u8 ev.ty, .int .u64 ev.arg, .int .u64 ev.badge, .slice xo ev.ws.length cx]), (4, .int .u8 0), (5, .bool false), (7, .pointer (some ⟨(Z.tp x), 0, none⟩)), (53, .int .u8 10), (66, .bool false), (244, .bool false)]) (φ := True) (rest := []) h58 (by kernel_rfl) rfl trivial fun a60 h61 => ?_
  clear h58
  refine nd_done ?_
  refine hK59 _ _ ?_
  clear hK59
  refine c_false h61 rfl ?_
  refine wp_seq_k fun K62 hK62 => ?_
  refine nd_start (l := [0, 1]) rfl ?_
  refine nd_batch tabOk2 tabZ_ok2 [(0, {}), (1, {})] [6, 3, 0, 1, 4, 5, 7, 53, 66, 285] (T' := [(6, .pointer (some ⟨b14, 0, none⟩)), (3, .pointer (some ⟨b2, 0, none⟩)), (0, .pointer (some ⟨mb, 0, none⟩)), (1, .agg #[.int .u8 10, .int .u32 ev.pick, .int .u64 ev.draw, .int .u32 ev.addr, .int .u32 ev.node, .int .u32 ev.dst, .int .u32 ev.xfer, .int .u8 ev.ty, .int .u64 ev.arg, .int .u64 ev.badge, .slice xo ev.ws.length cx]), (4, .int .u8 0), (5, .bool false), (7, .pointer (some ⟨(Z.tp x), 0, none⟩)), (53, .int .u8 10), (66, .bool false), (285, .bool true)]) (φ := True) (rest := []) h61 (by kernel_rfl) rfl trivial fun a63 h64 => ?_
  clear h61
  refine nd_done ?_
  refine hK62 _ _ ?_
  clear hK62
  refine c_true h64 rfl ?_
  refine wp_seq_k fun K65 hK65 => ?_
  refine wp_seq_k fun K66 hK66 => ?_
  refine nd_start (l := [0, 1, 2, 3, 4, 5, 6, 7, 8, 9]) rfl ?_
  refine nd_batch tabOk2 tabZ_ok2 [(0, {}), (1, {}), (2, {k := 1})] [6, 3, 0, 1, 4, 5, 7, 53, 66, 288, 290] (T' := [(6, .pointer (some ⟨b14, 0, none⟩)), (3, .pointer (some ⟨b2, 0, none⟩)), (0, .pointer (some ⟨mb, 0, none⟩)), (1, .agg #[.int .u8 10, .int .u32 ev.pick, .int .u64 ev.draw, .int .u32 ev.addr, .int .u32 ev.node, .int .u32 ev.dst, .int .u32 ev.xfer, .int .u8 ev.ty, .int .u64 ev.arg, .int .u64 ev.badge, .slice xo ev.ws.length cx]), (4, .int .u8 0), (5, .bool false), (7, .pointer (some ⟨(Z.tp x), 0, none⟩)), (53, .int .u8 10), (66, .bool false), (288, .pointer (some ⟨mb, 0, none⟩)), (290, .int .u32 ev.addr)]) (φ := (b2 = b2 ∧ Nat.ble (3 + 1) 11 = true) ∧ True) (rest := [3, 4, 5, 6, 7, 8, 9]) h64 (by kernel_rfl) rfl ⟨⟨rfl, rfl⟩, trivial⟩ fun a67 h68 => ?_
  clear h64
  refine nd_op ?_
  refine op_call h68 rfl rfl rfl (callOk Tryd.func90 (by decide) rfl) (args := [.pointer (some ⟨mb, 0, none⟩), .int .u32 ev.addr, .int .u8 1, .int .u8 2]) rfl (capOf_ok mb Z _ a C x hx hcx hci hcn hI.ci ev.addr 1 2 he.addr _ (mh_of h68 hho (k := 0) rfl) hf) ?_
  rintro _ w69 ⟨rfl, hg71⟩
  refine ⟨_, rfl, ?_⟩
  have h72a := st_mg h68 hg71 (kcons (fun _ => rfl) (kcons (fun hq => by cases hq) (kcons (fun hq => by cases hq) knil)))
  have h72 := h72a.put (d := some 291) (v := .tuple #[.agg #[.int .u8 c.ty, .int .u16 c.obj.idx, .int .u32 c.obj.gen, .int .u8 c.rights, .int .u64 c.badge], .int .u8 0]) (T' := [(291, .tuple #[.agg #[.int .u8 c.ty, .int .u16 c.obj.idx, .int .u32 c.obj.gen, .int .u8 c.rights, .int .u64 c.badge], .int .u8 0]), (6, .pointer (some ⟨b14, 0, none⟩)), (3, .pointer (some ⟨b2, 0, none⟩)), (0, .pointer (some ⟨mb, 0, none⟩)), (1, .agg #[.int .u8 10, .int .u32 ev.pick, .int .u64 ev.draw, .int .u32 ev.addr, .int .u32 ev.node, .int .u32 ev.dst, .int .u32 ev.xfer, .int .u8 ev.ty, .int .u64 ev.arg, .int .u64 ev.badge, .slice xo ev.ws.length cx]), (4, .int .u8 0), (5, .bool false), (7, .pointer (some ⟨(Z.tp x), 0, none⟩)), (53, .int .u8 10), (66, .bool false), (288, .pointer (some ⟨mb, 0, none⟩)), (290, .int .u32 ev.addr)]) rfl
  have hhoh72 := hg71.mh.ho
  clear h68 h72a
  refine nd_batch tabOk2 tabZ_ok2 [(4, {}), (5, {}), (6, {})] [6, 3, 0, 1, 4, 5, 7, 53, 66, 292, 293] (T' := [(6, .pointer (some ⟨b14, 0, none⟩)), (3, .pointer (some ⟨b2, 0, none⟩)), (0, .pointer (some ⟨mb, 0, none⟩)), (1, .agg #[.int .u8 10, .int .u32 ev.pick, .int .u64 ev.draw, .int .u32 ev.addr, .int .u32 ev.node, .int .u32 ev.dst, .int .u32 ev.xfer, .int .u8 ev.ty, .int .u64 ev.arg, .int .u64 ev.badge, .slice xo ev.ws.length cx]), (4, .int .u8 0), (5, .bool false), (7, .pointer (some ⟨(Z.tp x), 0, none⟩)), (53, .int .u8 10), (66, .bool false), (292, .agg #[.int .u8 c.ty, .int .u16 c.obj.idx, .int .u32 c.obj.gen, .int .u8 c.rights, .int .u64 c.badge]), (293, .int .u8 0)]) (φ := True) (rest := [7, 8, 9]) h72 (by kernel_rfl) rfl trivial fun a73 h74 => ?_
  clear h72
  refine nd_op ?_
  refine op_new tabOk2 (cells := [.int .u8 0, .int .u16 0, .int .u32 0, .int .u8 0, .int .u64 0]) (ty := 49) (ln := none) (L1 := fun b75 => [(3, ⟨[.int .u16 0, .int .u32 0], ty3, true⟩), (b2, ⟨[.int .u8 10, .int .u32 ev.pick, .int .u64 ev.draw, .int .u32 ev.addr, .int .u32 ev.node, .int .u32 ev.dst, .int .u32 ev.xfer, .int .u8 ev.ty, .int .u64 ev.arg, .int .u64 ev.badge, .slice xo ev.ws.length cx], 35, false⟩), (b14, ⟨[.int .u16 ((Z.ky x).idx), .int .u32 ((Z.ky x).gen)], 39, false⟩), (b75, ⟨[.int .u8 0, .int .u16 0, .int .u32 0, .int .u8 0, .int .u64 0], 49, false⟩)]) h74 rfl rfl rfl rfl (by kernel_rfl) (fun _ => rfl) fun b75 w76 a77 h78 hf79 hn80 => ?_
  clear h74
  refine nd_op ?_
  refine op_store tabOk2 {k := 3} (L' := [(3, ⟨[.int .u16 0, .int .u32 0], ty3, true⟩), (b2, ⟨[.int .u8 10, .int .u32 ev.pick, .int .u64 ev.draw, .int .u32 ev.addr, .int .u32 ev.node, .int .u32 ev.dst, .int .u32 ev.xfer, .int .u8 ev.ty, .int .u64 ev.arg, .int .u64 ev.badge, .slice xo ev.ws.length cx], 35, false⟩), (b14, ⟨[.int .u16 ((Z.ky x).idx), .int .u32 ((Z.ky x).gen)], 39, false⟩), (b75, ⟨[.int .u8 c.ty, .int .u16 c.obj.idx, .int .u32 c.obj.gen, .int .u8 c.rights, .int .u64 c.badge], 49, false⟩)]) (φ := b75 = b75 ∧ Nat.ble (0 + 5) 5 = true) h78 rfl rfl rfl (by kernel_rfl) ⟨rfl, rfl⟩ fun w81 h82 => ?_
  clear h78
  refine nd_batch tabOk2 tabZ_ok2 [(9, {})] [6, 3, 0, 1, 4, 5, 7, 53, 66, 21] (T' := [(6, .pointer (some ⟨b14, 0, none⟩)), (3, .pointer (some ⟨b2, 0, none⟩)), (0, .pointer (some ⟨mb, 0, none⟩)), (1, .agg #[.int .u8 10, .int .u32 ev.pick, .int .u64 ev.draw, .int .u32 ev.addr, .int .u32 ev.node, .int .u32 ev.dst, .int .u32 ev.xfer, .int .u8 ev.ty, .int .u64 ev.arg, .int .u64 ev.badge, .slice xo ev.ws.length cx]), (4, .int .u8 0), (5, .bool false), (7, .pointer (some ⟨(Z.tp x), 0, none⟩)), (53, .int .u8 10), (66, .bool false), (21, .int .u8 0)]) (φ := True) (rest := []) h82 (by kernel_rfl) rfl trivial fun a83 h84 => ?_
  clear h82
  refine nd_done ?_
  refine hK66 _ _ ?_
  clear hK66
  refine wp_seq_k fun K85 hK85 => ?_
  refine nd_start (l := [0, 1]) rfl ?_
  refine nd_batch tabOk2 tabZ_ok2 [(0, {}), (1, {})] [6, 3, 0, 1, 4, 5, 7, 53, 66, 21, 295] (T' := [(6, .pointer (some ⟨b14, 0, none⟩)), (3, .pointer (some ⟨b2, 0, none⟩)), (0, .pointer (some ⟨mb, 0, none⟩)), (1, .agg #[.int .u8 10, .int .u32 ev.pick, .int .u64 ev.draw, .int .u32 ev.addr, .int .u32 ev.node, .int .u32 ev.dst, .int .u32 ev.xfer, .int .u8 ev.ty, .int .u64 ev.arg, .int .u64 ev.badge, .slice xo ev.ws.length cx]), (4, .int .u8 0), (5, .bool false), (7, .pointer (some ⟨(Z.tp x), 0, none⟩)), (53, .int .u8 10), (66, .bool false), (21, .int .u8 0), (295, .bool false)]) (φ := True) (rest := []) h84 (by kernel_rfl) rfl trivial fun a86 h87 => ?_
  clear h84
  refine nd_done ?_
  refine hK85 _ _ ?_
  clear hK85
  refine c_false h87 rfl ?_
  refine wp_skip ?_
  refine hK65 _ _ ?_
  clear hK65
  refine wp_seq_k fun K88 hK88 => ?_
  refine nd_start (l := [0, 1, 2, 3, 4, 5, 6, 7, 8]) rfl ?_
  refine nd_batch tabOk2 tabZ_ok2 [(0, {}), (1, {}), (2, {k := 1})] [6, 3, 0, 1, 4, 5, 7, 53, 66, 21, 298, 300] (T' := [(6, .pointer (some ⟨b14, 0, none⟩)), (3, .pointer (some ⟨b2, 0, none⟩)), (0, .pointer (some ⟨mb, 0, none⟩)), (1, .agg #[.int .u8 10, .int .u32 ev.pick, .int .u64 ev.draw, .int .u32 ev.addr, .int .u32 ev.node, .int .u32 ev.dst, .int .u32 ev.xfer, .int .u8 ev.ty, .int .u64 ev.arg, .int .u64 ev.badge, .slice xo ev.ws.length cx]), (4, .int .u8 0), (5, .bool false), (7, .pointer (some ⟨(Z.tp x), 0, none⟩)), (53, .int .u8 10), (66, .bool false), (21, .int .u8 0), (298, .pointer (some ⟨mb, 0, none⟩)), (300, .int .u32 ev.addr)]) (φ := (b2 = b2 ∧ Nat.ble (3 + 1) 11 = true) ∧ True) (rest := [3, 4, 5, 6, 7, 8]) h87 (by kernel_rfl) rfl ⟨⟨rfl, rfl⟩, trivial⟩ fun a89 h90 => ?_
  clear h87
  refine nd_op ?_
  refine op_call h90 rfl rfl rfl (callOk Tryd.func93 (by decide) rfl) (args := [.pointer (some ⟨mb, 0, none⟩), .int .u32 ev.addr]) rfl (cellOf_ok mb Z _ a C x hx hcx hci ev.addr he.addr e1 _ (mh_of h90 hhoh72 (k := 0) rfl)) ?_
  rintro _ w91 ⟨rfl, hg93⟩
  refine ⟨_, rfl, ?_⟩
  have h94a := st_mg h90 hg93 (kcons (fun _ => rfl) (kcons (fun hq => by cases hq) (kcons (fun hq => by cases hq) (kcons (fun hq => by cases hq) knil))))
  have h94 := h94a.put (d := some 301) (v := .tuple #[.int .i64 s1, .int .u8 0]) (T' := [(301, .tuple #[.int .i64 s1, .int .u8 0]), (6, .pointer (some ⟨b14, 0, none⟩)), (3, .pointer (some ⟨b2, 0, none⟩)), (0, .pointer (some ⟨mb, 0, none⟩)), (1, .agg #[.int .u8 10, .int .u32 ev.pick, .int .u64 ev.draw, .int .u32 ev.addr, .int .u32 ev.node, .int .u32 ev.dst, .int .u32 ev.xfer, .int .u8 ev.ty, .int .u64 ev.arg, .int .u64 ev.badge, .slice xo ev.ws.length cx]), (4, .int .u8 0), (5, .bool false), (7, .pointer (some ⟨(Z.tp x), 0, none⟩)), (53, .int .u8 10), (66, .bool false), (21, .int .u8 0), (298, .pointer (some ⟨mb, 0, none⟩)), (300, .int .u32 ev.addr)]) rfl
  have hhoh94 := hg93.mh.ho
  clear h90 h94a
  refine nd_batch tabOk2 tabZ_ok2 [(4, {}), (5, {}), (6, {}), (7, {}), (8, {})] [6, 3, 0, 1, 4, 5, 7, 53, 66, 21, 22] (T' := [(6, .pointer (some ⟨b14, 0, none⟩)), (3, .pointer (some ⟨b2, 0, none⟩)), (0, .pointer (some ⟨mb, 0, none⟩)), (1, .agg #[.int .u8 10, .int .u32 ev.pick, .int .u64 ev.draw, .int .u32 ev.addr, .int .u32 ev.node, .int .u32 ev.dst, .int .u32 ev.xfer, .int .u8 ev.ty, .int .u64 ev.arg, .int .u64 ev.badge, .slice xo ev.ws.length cx]), (4, .int .u8 0), (5, .bool false), (7, .pointer (some ⟨(Z.tp x), 0, none⟩)), (53, .int .u8 10), (66, .bool false), (21, .int .u8 0), (22, .int .i64 s1)]) (φ := True) (rest := []) h94 (by kernel_rfl) rfl trivial fun a95 h96 => ?_
  clear h94
  refine nd_done ?_
  refine hK88 _ _ ?_
  clear hK88
  refine wp_seq_k fun K97 hK97 => ?_
  refine nd_start (l := [0, 1, 2, 3, 4, 5, 6, 7, 8]) rfl ?_
  refine nd_batch tabOk2 tabZ_ok2 [(0, {}), (1, {}), (2, {k := 1})] [6, 3, 0, 1, 4, 5, 7, 53, 66, 21, 22, 305, 307] (T' := [(6, .pointer (some ⟨b14, 0, none⟩)), (3, .pointer (some ⟨b2, 0, none⟩)), (0, .pointer (some ⟨mb, 0, none⟩)), (1, .agg #[.int .u8 10, .int .u32 ev.pick, .int .u64 ev.draw, .int .u32 ev.addr, .int .u32 ev.node, .int .u32 ev.dst, .int .u32 ev.xfer, .int .u8 ev.ty, .int .u64 ev.arg, .int .u64 ev.badge, .slice xo ev.ws.length cx]), (4, .int .u8 0), (5, .bool false), (7, .pointer (some ⟨(Z.tp x), 0, none⟩)), (53, .int .u8 10), (66, .bool false), (21, .int .u8 0), (22, .int .i64 s1), (305, .pointer (some ⟨mb, 0, none⟩)), (307, .int .u32 ev.dst)]) (φ := (b2 = b2 ∧ Nat.ble (5 + 1) 11 = true) ∧ True) (rest := [3, 4, 5, 6, 7, 8]) h96 (by kernel_rfl) rfl ⟨⟨rfl, rfl⟩, trivial⟩ fun a98 h99 => ?_
  clear h96
  refine nd_op ?_
  refine op_call h99 rfl rfl rfl (callOk Tryd.func93 (by decide) rfl) (args := [.pointer (some ⟨mb, 0, none⟩), .int .u32 ev.dst]) rfl (cellOf_ok mb Z _ a C x hx hcx hci ev.dst he.dst e2 _ (mh_of h99 hhoh94 (k := 0) rfl)) ?_
  rintro _ w100 ⟨rfl, hg102⟩
  refine ⟨_, rfl, ?_⟩
  have h103a := st_mg h99 hg102 (kcons (fun _ => rfl) (kcons (fun hq => by cases hq) (kcons (fun hq => by cases hq) (kcons (fun hq => by cases hq) knil))))
  have h103 := h103a.put (d := some 308) (v := .tuple #[.int .i64 s2, .int .u8 0]) (T' := [(308, .tuple #[.int .i64 s2, .int .u8 0]), (6, .pointer (some ⟨b14, 0, none⟩)), (3, .pointer (some ⟨b2, 0, none⟩)), (0, .pointer (some ⟨mb, 0, none⟩)), (1, .agg #[.int .u8 10, .int .u32 ev.pick, .int .u64 ev.draw, .int .u32 ev.addr, .int .u32 ev.node, .int .u32 ev.dst, .int .u32 ev.xfer, .int .u8 ev.ty, .int .u64 ev.arg, .int .u64 ev.badge, .slice xo ev.ws.length cx]), (4, .int .u8 0), (5, .bool false), (7, .pointer (some ⟨(Z.tp x), 0, none⟩)), (53, .int .u8 10), (66, .bool false), (21, .int .u8 0), (22, .int .i64 s1), (305, .pointer (some ⟨mb, 0, none⟩)), (307, .int .u32 ev.dst)]) rfl
  have hhoh103 := hg102.mh.ho
  clear h99 h103a
  refine nd_batch tabOk2 tabZ_ok2 [(4, {}), (5, {}), (6, {}), (7, {}), (8, {})] [6, 3, 0, 1, 4, 5, 7, 53, 66, 21, 22, 24, 25] (T' := [(6, .pointer (some ⟨b14, 0, none⟩)), (3, .pointer (some ⟨b2, 0, none⟩)), (0, .pointer (some ⟨mb, 0, none⟩)), (1, .agg #[.int .u8 10, .int .u32 ev.pick, .int .u64 ev.draw, .int .u32 ev.addr, .int .u32 ev.node, .int .u32 ev.dst, .int .u32 ev.xfer, .int .u8 ev.ty, .int .u64 ev.arg, .int .u64 ev.badge, .slice xo ev.ws.length cx]), (4, .int .u8 0), (5, .bool false), (7, .pointer (some ⟨(Z.tp x), 0, none⟩)), (53, .int .u8 10), (66, .bool false), (21, .int .u8 0), (22, .int .i64 s1), (24, .int .i64 s2), (25, .int .u8 0)]) (φ := True) (rest := []) h103 (by kernel_rfl) rfl trivial fun a104 h105 => ?_
  clear h103
  refine nd_done ?_
  refine hK97 _ _ ?_
  clear hK97
  refine wp_seq_k fun K106 hK106 => ?_
  refine wp_seq_k fun K107 hK107 => ?_
  refine nd_start (l := [0, 1]) rfl ?_
  refine nd_batch tabOk2 tabZ_ok2 [(0, {}), (1, {})] [6, 3, 0, 1, 4, 5, 7, 53, 66, 21, 22, 24, 25, 312] (T' := [(6, .pointer (some ⟨b14, 0, none⟩)), (3, .pointer (some ⟨b2, 0, none⟩)), (0, .pointer (some ⟨mb, 0, none⟩)), (1, .agg #[.int .u8 10, .int .u32 ev.pick, .int .u64 ev.draw, .int .u32 ev.addr, .int .u32 ev.node, .int .u32 ev.dst, .int .u32 ev.xfer, .int .u8 ev.ty, .int .u64 ev.arg, .int .u64 ev.badge, .slice xo ev.ws.length cx]), (4, .int .u8 0), (5, .bool false), (7, .pointer (some ⟨(Z.tp x), 0, none⟩)), (53, .int .u8 10), (66, .bool false), (21, .int .u8 0), (22, .int .i64 s1), (24, .int .i64 s2), (25, .int .u8 0), (312, .bool false)]) (φ := True) (rest := []) h105 (by kernel_rfl) rfl trivial fun a108 h109 => ?_
  clear h105
  refine nd_done ?_
  refine hK107 _ _ ?_
  clear hK107
  refine c_false h109 rfl ?_
  refine wp_skip ?_
  refine hK106 _ _ ?_
  clear hK106
  refine wp_seq_k fun K110 hK110 => ?_
  refine wp_seq_k fun K111 hK111 => ?_
  refine nd_start (l := [0, 1, 2, 3, 4, 5, 6, 7]) rfl ?_
  refine nd_batch tabOk2 tabZ_ok2 [(0, {}), (1, {}), (2, {})] [6, 3, 0, 1, 4, 5, 7, 53, 66, 21, 22, 24, 25, 316] (T' := [(6, .pointer (some ⟨b14, 0, none⟩)), (3, .pointer (some ⟨b2, 0, none⟩)), (0, .pointer (some ⟨mb, 0, none⟩)), (1, .agg #[.int .u8 10, .int .u32 ev.pick, .int .u64 ev.draw, .int .u32 ev.addr, .int .u32 ev.node, .int .u32 ev.dst, .int .u32 ev.xfer, .int .u8 ev.ty, .int .u64 ev.arg, .int .u64 ev.badge, .slice xo ev.ws.length cx]), (4, .int .u8 0), (5, .bool false), (7, .pointer (some ⟨(Z.tp x), 0, none⟩)), (53, .int .u8 10), (66, .bool false), (21, .int .u8 0), (22, .int .i64 s1), (24, .int .i64 s2), (25, .int .u8 0), (316, .pointer (some ⟨mb, 1, none⟩))]) (φ := True) (rest := [3, 4, 5, 6, 7]) h109 (by kernel_rfl) rfl trivial fun a112 h113 => ?_
  clear h109
  refine nd_op ?_
  refine op_read (b := mb) (v := .pointer (some ⟨Z.mc, 0, none⟩)) h113 rfl rfl (rd_m h113 (k := 1) (v := .pointer (some ⟨Z.mc, 0, none⟩)) rfl rfl rfl rfl (md_p ⟨rfl, trivial⟩)) ?_
  have h114 := h113.put (d := some 317) (v := .pointer (some ⟨Z.mc, 0, none⟩)) (T' := [(317, .pointer (some ⟨Z.mc, 0, none⟩)), (6, .pointer (some ⟨b14, 0, none⟩)), (3, .pointer (some ⟨b2, 0, none⟩)), (0, .pointer (some ⟨mb, 0, none⟩)), (1, .agg #[.int .u8 10, .int .u32 ev.pick, .int .u64 ev.draw, .int .u32 ev.addr, .int .u32 ev.node, .int .u32 ev.dst, .int .u32 ev.xfer, .int .u8 ev.ty, .int .u64 ev.arg, .int .u64 ev.badge, .slice xo ev.ws.length cx]), (4, .int .u8 0), (5, .bool false), (7, .pointer (some ⟨(Z.tp x), 0, none⟩)), (53, .int .u8 10), (66, .bool false), (21, .int .u8 0), (22, .int .i64 s1), (24, .int .i64 s2), (25, .int .u8 0), (316, .pointer (some ⟨mb, 1, none⟩))]) rfl
  clear h113
  refine nd_batch tabOk2 tabZ_ok2 [(4, {})] [317, 6, 3, 0, 1, 4, 5, 7, 53, 66, 21, 22, 24, 25, 318] (T' := [(317, .pointer (some ⟨Z.mc, 0, none⟩)), (6, .pointer (some ⟨b14, 0, none⟩)), (3, .pointer (some ⟨b2, 0, none⟩)), (0, .pointer (some ⟨mb, 0, none⟩)), (1, .agg #[.int .u8 10, .int .u32 ev.pick, .int .u64 ev.draw, .int .u32 ev.addr, .int .u32 ev.node, .int .u32 ev.dst, .int .u32 ev.xfer, .int .u8 ev.ty, .int .u64 ev.arg, .int .u64 ev.badge, .slice xo ev.ws.length cx]), (4, .int .u8 0), (5, .bool false), (7, .pointer (some ⟨(Z.tp x), 0, none⟩)), (53, .int .u8 10), (66, .bool false), (21, .int .u8 0), (22, .int .i64 s1), (24, .int .i64 s2), (25, .int .u8 0), (318, .int .i64 s2)]) (φ := True) (rest := [5, 6, 7]) h114 (by kernel_rfl) rfl trivial fun a115 h116 => ?_
  clear h114
  refine nd_op ?_
  obtain ⟨i2, j2, hi2, hj2, hp2, hs2⟩ := look_fact hI.ci hci.1 he.dst.1 e2 rfl
  refine op_call h116 rfl rfl rfl (callOk Tryd.func62 (by decide) rfl) (args := [.pointer (some ⟨Z.mc, 0, none⟩), .int .i64 s2]) rfl (atE Z.mo Z.mc Z.nd C hi2 hj2 hp2 hs2 _ h116.inv.1.cp) ?_
  rintro _ w117 ⟨rfl, hf119⟩
  refine ⟨_, rfl, ?_⟩
  have h118 := (h116.grow hf119).put (d := some 319) (v := .agg #[.int .u8 ((C.cel s2.toNat).cap.ty), .int .u16 ((C.cel s2.toNat).cap.obj.idx), .int .u32 ((C.cel s2.toNat).cap.obj.gen), .int .u8 ((C.cel s2.toNat).cap.rights), .int .u64 ((C.cel s2.toNat).cap.badge)]) (T' := [(319, .agg #[.int .u8 ((C.cel s2.toNat).cap.ty), .int .u16 ((C.cel s2.toNat).cap.obj.idx), .int .u32 ((C.cel s2.toNat).cap.obj.gen), .int .u8 ((C.cel s2.toNat).cap.rights), .int .u64 ((C.cel s2.toNat).cap.badge)]), (317, .pointer (some ⟨Z.mc, 0, none⟩)), (6, .pointer (some ⟨b14, 0, none⟩)), (3, .pointer (some ⟨b2, 0, none⟩)), (0, .pointer (some ⟨mb, 0, none⟩)), (1, .agg #[.int .u8 10, .int .u32 ev.pick, .int .u64 ev.draw, .int .u32 ev.addr, .int .u32 ev.node, .int .u32 ev.dst, .int .u32 ev.xfer, .int .u8 ev.ty, .int .u64 ev.arg, .int .u64 ev.badge, .slice xo ev.ws.length cx]), (4, .int .u8 0), (5, .bool false), (7, .pointer (some ⟨(Z.tp x), 0, none⟩)), (53, .int .u8 10), (66, .bool false), (21, .int .u8 0), (22, .int .i64 s1), (24, .int .i64 s2), (25, .int .u8 0), (318, .int .i64 s2)]) rfl
  clear h116
  refine nd_batch tabOk2 tabZ_ok2 [(6, {}), (7, {})] [6, 3, 0, 1, 4, 5, 7, 53, 66, 21, 22, 24, 25, 321] (T' := [(6, .pointer (some ⟨b14, 0, none⟩)), (3, .pointer (some ⟨b2, 0, none⟩)), (0, .pointer (some ⟨mb, 0, none⟩)), (1, .agg #[.int .u8 10, .int .u32 ev.pick, .int .u64 ev.draw, .int .u32 ev.addr, .int .u32 ev.node, .int .u32 ev.dst, .int .u32 ev.xfer, .int .u8 ev.ty, .int .u64 ev.arg, .int .u64 ev.badge, .slice xo ev.ws.length cx]), (4, .int .u8 0), (5, .bool false), (7, .pointer (some ⟨(Z.tp x), 0, none⟩)), (53, .int .u8 10), (66, .bool false), (21, .int .u8 0), (22, .int .i64 s1), (24, .int .i64 s2), (25, .int .u8 0), (321, .bool ((C.cel s2.toNat).cap.ty != 0))]) (φ := True) (rest := []) h118 (by kernel_rfl) rfl trivial fun a120 h121 => ?_
  clear h118
  refine nd_done ?_
  refine hK111 _ _ ?_
  clear hK111
  refine c_split h121 (b := ((C.cel s2.toNat).cap.ty != 0)) rfl (fun hc122 => ?_) (fun hc122 => ?_)
  ·
    have hc122f : (C.cel s2.toNat).cap.ty ≠ 0 := by simpa using hc122
    exact absurd (hz2) (by first | exact hc122f | (intro hz; exact hc122f hz) | omega | simp_all)
  ·
    have hc122f : (C.cel s2.toNat).cap.ty = 0 := by simpa using hc122
    refine wp_skip ?_
    refine hK110 _ _ ?_
    clear hK110
    refine wp_seq_k fun K123 hK123 => ?_
    refine wp_seq_k fun K124 hK124 => ?_
    rcases Bool.eq_false_or_eq_true ((ev.ty != 2)) with hb125 | hb125
    ·
      have hb125f : ev.ty ≠ 2 := by simpa using hb125
      rcases Bool.eq_false_or_eq_true ((ev.ty != 3)) with hb126 | hb126
      ·
        have hb126f : ev.ty ≠ 3 := by simpa using hb126
        rcases Bool.eq_false_or_eq_true ((ev.ty != 4)) with hb127 | hb127
        ·
          have hb127f : ev.ty ≠ 4 := by simpa using hb127
          refine nd_start (l := [0, 1, 2, 3, 4, 5, 6, 7, 8, 9, 10, 11, 12, 13, 14, 15, 16, 17]) rfl ?_
          refine nd_batch tabOk2 tabZ_ok2 [(0, {}), (1, {k := 1}), (2, {f := 2}), (3, {}), (4, {}), (5, {k := 1}), (6, {f := 2}), (7, {}), (8, {}), (9, {}), (10, {k := 1}), (11, {f := 2}), (12, {}), (13, {}), (14, {}), (15, {k := 1}), (16, {}), (17, {})] [6, 3, 0, 1, 4, 5, 7, 53, 66, 21, 22, 24, 25, 339] (T' := [(6, .pointer (some ⟨b14, 0, none⟩)), (3, .pointer (some ⟨b2, 0, none⟩)), (0, .pointer (some ⟨mb, 0, none⟩)), (1, .agg #[.int .u8 10, .int .u32 ev.pick, .int .u64 ev.draw, .int .u32 ev.addr, .int .u32 ev.node, .int .u32 ev.dst, .int .u32 ev.xfer, .int .u8 ev.ty, .int .u64 ev.arg, .int .u64 ev.badge, .slice xo ev.ws.length cx]), (4, .int .u8 0), (5, .bool false), (7, .pointer (some ⟨(Z.tp x), 0, none⟩)), (53, .int .u8 10), (66, .bool false), (21, .int .u8 0), (22, .int .i64 s1), (24, .int .i64 s2), (25, .int .u8 0), (339, .bool (ev.ty != 5))]) (φ := (b2 = b2 ∧ Nat.ble (7 + 1) 11 = true) ∧ ((ev.ty != 2)) = true ∧ (b2 = b2 ∧ Nat.ble (7 + 1) 11 = true) ∧ ((ev.ty != 3)) = true ∧ (b2 = b2 ∧ Nat.ble (7 + 1) 11 = true) ∧ ((ev.ty != 4)) = true ∧ (b2 = b2 ∧ Nat.ble (7 + 1) 11 = true) ∧ True) (rest := []) h121 (by kernel_rfl) rfl ⟨⟨rfl, rfl⟩, hb125, ⟨rfl, rfl⟩, hb126, ⟨rfl, rfl⟩, hb127, ⟨rfl, rfl⟩, trivial⟩ fun a128 h129 => ?_
          clear h121
          refine nd_done ?_
          refine hK124 _ _ ?_
          clear hK124
          refine c_split h129 (b := (ev.ty != 5)) rfl (fun hc130 => ?_) (fun hc130 => ?_)
          ·
            have hc130f : ev.ty ≠ 5 := by simpa using hc130
            refine wp_seq_k fun K131 hK131 => ?_
            refine nd_start (l := [0, 1]) rfl ?_
            refine nd_batch tabOk2 tabZ_ok2 [(0, {}), (1, {})] [6, 3, 0, 1, 7, 53, 66, 21, 22, 24, 25, 4, 5] (T' := [(6, .pointer (some ⟨b14, 0, none⟩)), (3, .pointer (some ⟨b2, 0, none⟩)), (0, .pointer (some ⟨mb, 0, none⟩)), (1, .agg #[.int .u8 10, .int .u32 ev.pick, .int .u64 ev.draw, .int .u32 ev.addr, .int .u32 ev.node, .int .u32 ev.dst, .int .u32 ev.xfer, .int .u8 ev.ty, .int .u64 ev.arg, .int .u64 ev.badge, .slice xo ev.ws.length cx]), (7, .pointer (some ⟨(Z.tp x), 0, none⟩)), (53, .int .u8 10), (66, .bool false), (21, .int .u8 0), (22, .int .i64 s1), (24, .int .i64 s2), (25, .int .u8 0), (4, .int .u8 8), (5, .bool false)]) (φ := True) (rest := []) h129 (by kernel_rfl) rfl trivial fun a132 h133 => ?_
            clear h129
            refine nd_done ?_
            refine hK131 _ _ ?_
            clear hK131
            refine wp_ret ?_
            try simp only [Exit.then, Exit.inBlock]
            try rw [if_pos trivial]
            exact s_ret tabOk2 tabZ_ok2 h133 [(.tmp 4, {}), (.tmp 5, {})] (vs := [.int .u8 8, .bool false]) (φ := True) rfl (by kernel_rfl) trivial ⟨rfl, _, mg_end hH h133 hhoh103 rfl⟩
          ·
            have hc130f : ev.ty = 5 := by simpa using hc130
            exact absurd hc130f ht5
        ·
          have hb127f : ev.ty = 4 := by simpa using hb127
          exact absurd hb127f ht4
      ·
        have hb126f : ev.ty = 3 := by simpa using hb126
        exact absurd hb126f ht3
    ·
      have hb125f : ev.ty = 2 := by simpa using hb125
      exact absurd hb125f ht2

theorem call10f2 (mb : Nat) (Z : MZ) (R : MR) (a : AK) (C : CP) (hI : MI Z a C) (x : Nat) (hx : x ∈ sl Z.tl) (hcu : a.cur = (x : Int)) (ev : Ev) (he : EvOk ev) (xo : Option Addr) (cx : Nat) (c : Cp) (cs0 : Int) (hf : findA a C ev.addr 1 2 = (c, cs0, 0)) (s1 : Int) (e1 : lookP C.ent (a.th x).cs ev.addr = (s1, 0)) (s2 : Int) (e2 : lookP C.ent (a.th x).cs ev.dst = (s2, 0)) (hz2 : (C.cel s2.toNat).cap.ty = 0) (E1 : Nat → Ent) (r : Rf) (k : Int) (er : retype0 C.ent 2 = (E1, r, k)) (hk0 : k ≠ 0) (w : World) (hH : MH mb Z R a C w) (hws : WordsAt (mdF mb Z R C) w xo ev.ws) :
    Calls Tryd.prog 55 #[.pointer (some ⟨mb, 0, none⟩), .agg #[.int .u8 10, .int .u32 ev.pick, .int .u64 ev.draw, .int .u32 ev.addr, .int .u32 ev.node, .int .u32 ev.dst, .int .u32 ev.xfer, .int .u8 2, .int .u64 ev.arg, .int .u64 ev.badge, .slice xo ev.ws.length cx]] w fun e w' => e = .returned (.tuple #[.int .u8 k, .bool false]) ∧ ∃ R', MG mb Z R C w Z R' a { C with ent := E1 } w' := by
  have hP := hI.mp
  have hcx : curR Z a = Z.ky x := curR_of hcu
  have hcn : a.cur.toNat = x := by rw [hcu]; exact Int.toNat_natCast x
  have hci := (hI.tk x hx).ci
  obtain ⟨ty3, hg3⟩ := hH.g3
  have hho := hH.ho
  have hkk := hH.md.k
  refine enter (n := 628) (K := mdF mb Z R C) (A := MD (mdF mb Z R C) w.heap.size mb Z R a C) (F := mdF mb Z R C) (T := [(0, .pointer (some ⟨mb, 0, none⟩)), (1, .agg #[.int .u8 10, .int .u32 ev.pick, .int .u64 ev.draw, .int .u32 ev.addr, .int .u32 ev.node, .int .u32 ev.dst, .int .u32 ev.xfer, .int .u8 2, .int .u64 ev.arg, .int .u64 ev.badge, .slice xo ev.ws.length cx])]) (L := [(3, ⟨[.int .u16 0, .int .u32 0], ty3, true⟩)]) (args := [.pointer (some ⟨mb, 0, none⟩), .agg #[.int .u8 10, .int .u32 ev.pick, .int .u64 ev.draw, .int .u32 ev.addr, .int .u32 ev.node, .int .u32 ev.dst, .int .u32 ev.xfer, .int .u8 2, .int .u64 ev.arg, .int .u64 ev.badge, .slice xo ev.ws.length cx]]) Tryd.func55 rfl rfl rfl rfl (kcons hg3 knil) (by simp) (kcons (by intro hq; cases hq) knil) hH.mD MD.stable hH.md.low (kcons (by intro hq; cases hq) knil) ?_
  intro ac h
  refine wp_seq_k fun K1 hK1 => ?_
  refine nd_start (l := [0, 1, 2]) rfl ?_
  refine nd_op ?_
  refine op_new tabOk2 (cells := [.int .u8 10, .int .u32 ev.pick, .int .u64 ev.draw, .int .u32 ev.addr, .int .u32 ev.node, .int .u32 ev.dst, .int .u32 ev.xfer, .int .u8 2, .int .u64 ev.arg, .int .u64 ev.badge, .slice xo ev.ws.length cx]) (ty := 35) (ln := none) (L1 := fun b2 => [(3, ⟨[.int .u16 0, .int .u32 0], ty3, true⟩), (b2, ⟨[.int .u8 10, .int .u32 ev.pick, .int .u64 ev.draw, .int .u32 ev.addr, .int .u32 ev.node, .int .u32 ev.dst, .int .u32 ev.xfer, .int .u8 2, .int .u64 ev.arg, .int .u64 ev.badge, .slice xo ev.ws.length cx], 35, false⟩)]) h rfl rfl rfl rfl (by kernel_rfl) (fun _ => rfl) fun b2 w3 a4 h5 hf6 hn7 => ?_
  clear h
  refine nd_batch tabOk2 tabZ_ok2 [(1, {}), (2, {})] [3, 0, 1, 4, 5] (T' := [(3, .pointer (some ⟨b2, 0, none⟩)), (0, .pointer (some ⟨mb, 0, none⟩)), (1, .agg #[.int .u8 10, .int .u32 ev.pick, .int .u64 ev.draw, .int .u32 ev.addr, .int .u32 ev.node, .int .u32 ev.dst, .int .u32 ev.xfer, .int .u8 2, .int .u64 ev.arg, .int .u64 ev.badge, .slice xo ev.ws.length cx]), (4, .int .u8 0), (5, .bool false)]) (φ := True) (rest := []) h5 (by kernel_rfl) rfl trivial fun a8 h9 => ?_
  clear h5
  refine nd_done ?_
  refine hK1 _ _ ?_
  clear hK1
  refine wp_seq_k fun K10 hK10 => ?_
  refine nd_start (l := [0, 1, 2, 3, 4, 5]) rfl ?_
  refine nd_batch tabOk2 tabZ_ok2 [(0, {}), (1, {}), (2, {})] [3, 0, 1, 4, 5, 44] (T' := [(3, .pointer (some ⟨b2, 0, none⟩)), (0, .pointer (some ⟨mb, 0, none⟩)), (1, .agg #[.int .u8 10, .int .u32 ev.pick, .int .u64 ev.draw, .int .u32 ev.addr, .int .u32 ev.node, .int .u32 ev.dst, .int .u32 ev.xfer, .int .u8 2, .int .u64 ev.arg, .int .u64 ev.badge, .slice xo ev.ws.length cx]), (4, .int .u8 0), (5, .bool false), (44, .pointer (some ⟨mb, 13, none⟩))]) (φ := True) (rest := [3, 4, 5]) h9 (by kernel_rfl) rfl trivial fun a11 h12 => ?_
  clear h9
  refine nd_op ?_
  refine op_read (b := mb) (v := .agg #[.int .u16 ((Z.ky x).idx), .int .u32 ((Z.ky x).gen)]) h12 rfl rfl (rd_mA h12 (k := 13) (vs := [.int .u16 ((Z.ky x).idx), .int .u32 ((Z.ky x).gen)]) rfl rfl rfl rfl rfl (by rw [← hcx]; exact md_cur)) ?_
  have h13 := h12.put (d := some 45) (v := .agg #[.int .u16 ((Z.ky x).idx), .int .u32 ((Z.ky x).gen)]) (T' := [(45, .agg #[.int .u16 ((Z.ky x).idx), .int .u32 ((Z.ky x).gen)]), (3, .pointer (some ⟨b2, 0, none⟩)), (0, .pointer (some ⟨mb, 0, none⟩)), (1, .agg #[.int .u8 10, .int .u32 ev.pick, .int .u64 ev.draw, .int .u32 ev.addr, .int .u32 ev.node, .int .u32 ev.dst, .int .u32 ev.xfer, .int .u8 2, .int .u64 ev.arg, .int .u64 ev.badge, .slice xo ev.ws.length cx]), (4, .int .u8 0), (5, .bool false), (44, .pointer (some ⟨mb, 13, none⟩))]) rfl
  clear h12
  refine nd_op ?_
  refine op_new tabOk2 (cells := [.int .u16 0, .int .u32 0]) (ty := 39) (ln := none) (L1 := fun b14 => [(3, ⟨[.int .u16 0, .int .u32 0], ty3, true⟩), (b2, ⟨[.int .u8 10, .int .u32 ev.pick, .int .u64 ev.draw, .int .u32 ev.addr, .int .u32 ev.node, .int .u32 ev.dst, .int .u32 ev.xfer, .int .u8 2, .int .u64 ev.arg, .int .u64 ev.badge, .slice xo ev.ws.length cx], 35, false⟩), (b14, ⟨[.int .u16 0, .int .u32 0], 39, false⟩)]) h13 rfl rfl rfl rfl (by kernel_rfl) (fun _ => rfl) fun b14 w15 a16 h17 hf18 hn19 => ?_
  clear h13
  refine nd_op ?_
  refine op_store tabOk2 {k := 2} (L' := [(3, ⟨[.int .u16 0, .int .u32 0], ty3, true⟩), (b2, ⟨[.int .u8 10, .int .u32 ev.pick, .int .u64 ev.draw, .int .u32 ev.addr, .int .u32 ev.node, .int .u32 ev.dst, .int .u32 ev.xfer, .int .u8 2, .int .u64 ev.arg, .int .u64 ev.badge, .slice xo ev.ws.length cx], 35, false⟩), (b14, ⟨[.int .u16 ((Z.ky x).idx), .int .u32 ((Z.ky x).gen)], 39, false⟩)]) (φ := b14 = b14 ∧ Nat.ble (0 + 2) 2 = true) h17 rfl rfl rfl (by kernel_rfl) ⟨rfl, rfl⟩ fun w20 h21 => ?_
  clear h17
  refine nd_done ?_
  refine hK10 _ _ ?_
  clear hK10
  refine wp_seq_k fun K22 hK22 => ?_
  refine dr_start (KB := [3, b2, b14, mb, Z.tb]) (Bi := [[0, 1, 2, 3, 4], [0, 1, 2, 3, 4], [0, 1, 2, 3, 4], [0, 1, 2, 3, 4], [0, 1, 2, 3, 4], [0, 1, 2, 3, 4], [0, 1, 2, 3, 4]]) mixed h21 fun w23 h24 => ?_
  clear h21
  refine dr_batch tabOk2 tabZ_ok2 (by repeat (first | with_reducible exact PF.body | with_reducible apply PF.inB | with_reducible apply PF.next)) [(0, {}), (1, {}), (2, {})] [6, 3, 0, 1, 4, 5, 48] (T' := [(6, .pointer (some ⟨b14, 0, none⟩)), (3, .pointer (some ⟨b2, 0, none⟩)), (0, .pointer (some ⟨mb, 0, none⟩)), (1, .agg #[.int .u8 10, .int .u32 ev.pick, .int .u64 ev.draw, .int .u32 ev.addr, .int .u32 ev.node, .int .u32 ev.dst, .int .u32 ev.xfer, .int .u8 2, .int .u64 ev.arg, .int .u64 ev.badge, .slice xo ev.ws.length cx]), (4, .int .u8 0), (5, .bool false), (48, .pointer (some ⟨mb, 2, none⟩))]) (φ := True) (fuel := 4) h24 (by kernel_rfl) rfl (by kernel_rfl) (by kernel_rfl) ⟨trivial, trivial, trivial, trivial⟩ trivial fun a26 h27 => ?_
  clear h24
  refine dr_read (i := 3) (b := mb) (p := 3) (v := .map (some Z.tb)) (fuel := 3) (by repeat (first | with_reducible exact PF.body | with_reducible apply PF.inB | with_reducible apply PF.next)) h27 rfl rfl rfl (by kernel_rfl) (by kernel_rfl) (by kernel_rfl) rfl (rd_m h27 (k := 2) (v := .map (some Z.tb)) rfl rfl rfl rfl (md_p ⟨rfl, trivial⟩)) ?_
  have h28 := h27.put (d := some 49) (v := .map (some Z.tb)) (T' := [(49, .map (some Z.tb)), (6, .pointer (some ⟨b14, 0, none⟩)), (3, .pointer (some ⟨b2, 0, none⟩)), (0, .pointer (some ⟨mb, 0, none⟩)), (1, .agg #[.int .u8 10, .int .u32 ev.pick, .int .u64 ev.draw, .int .u32 ev.addr, .int .u32 ev.node, .int .u32 ev.dst, .int .u32 ev.xfer, .int .u8 2, .int .u64 ev.arg, .int .u64 ev.badge, .slice xo ev.ws.length cx]), (4, .int .u8 0), (5, .bool false), (48, .pointer (some ⟨mb, 2, none⟩))]) rfl
  clear h27
  refine dr_batch tabOk2 tabZ_ok2 (by repeat (first | with_reducible exact PF.body | with_reducible apply PF.inB | with_reducible apply PF.next)) [(4, {k := 2, p := 2})] [49, 6, 3, 0, 1, 4, 5, 50] (T' := [(49, .map (some Z.tb)), (6, .pointer (some ⟨b14, 0, none⟩)), (3, .pointer (some ⟨b2, 0, none⟩)), (0, .pointer (some ⟨mb, 0, none⟩)), (1, .agg #[.int .u8 10, .int .u32 ev.pick, .int .u64 ev.draw, .int .u32 ev.addr, .int .u32 ev.node, .int .u32 ev.dst, .int .u32 ev.xfer, .int .u8 2, .int .u64 ev.arg, .int .u64 ev.badge, .slice xo ev.ws.length cx]), (4, .int .u8 0), (5, .bool false), (50, .agg #[.int .u16 ((Z.ky x).idx), .int .u32 ((Z.ky x).gen)])]) (φ := (b14 = b14 ∧ Nat.ble (0 + 2) 2 = true) ∧ True) (fuel := 2) h28 (by kernel_rfl) rfl (by kernel_rfl) (by kernel_rfl) ⟨rfl, trivial⟩ ⟨⟨rfl, rfl⟩, trivial⟩ fun a29 h30 => ?_
  clear h28
  refine dr_read (i := 5) (b := Z.tb) (p := 4) (v := .pointer (some ⟨(Z.tp x), 0, none⟩)) (fuel := 1) (by repeat (first | with_reducible exact PF.body | with_reducible apply PF.inB | with_reducible apply PF.next)) h30 rfl rfl rfl (by kernel_rfl) (by kernel_rfl) (by kernel_rfl) rfl (rd_T h30 (x := x) hx rfl rfl rfl) ?_
  have h31 := h30.put (d := some 51) (v := .pointer (some ⟨(Z.tp x), 0, none⟩)) (T' := [(51, .pointer (some ⟨(Z.tp x), 0, none⟩)), (49, .map (some Z.tb)), (6, .pointer (some ⟨b14, 0, none⟩)), (3, .pointer (some ⟨b2, 0, none⟩)), (0, .pointer (some ⟨mb, 0, none⟩)), (1, .agg #[.int .u8 10, .int .u32 ev.pick, .int .u64 ev.draw, .int .u32 ev.addr, .int .u32 ev.node, .int .u32 ev.dst, .int .u32 ev.xfer, .int .u8 2, .int .u64 ev.arg, .int .u64 ev.badge, .slice xo ev.ws.length cx]), (4, .int .u8 0), (5, .bool false), (50, .agg #[.int .u16 ((Z.ky x).idx), .int .u32 ((Z.ky x).gen)])]) rfl
  clear h30
  refine dr_batch tabOk2 tabZ_ok2 (by repeat (first | with_reducible exact PF.body | with_reducible apply PF.inB | with_reducible apply PF.next)) [(6, {})] [6, 3, 0, 1, 4, 5, 7] (T' := [(6, .pointer (some ⟨b14, 0, none⟩)), (3, .pointer (some ⟨b2, 0, none⟩)), (0, .pointer (some ⟨mb, 0, none⟩)), (1, .agg #[.int .u8 10, .int .u32 ev.pick, .int .u64 ev.draw, .int .u32 ev.addr, .int .u32 ev.node, .int .u32 ev.dst, .int .u32 ev.xfer, .int .u8 2, .int .u64 ev.arg, .int .u64 ev.badge, .slice xo ev.ws.length cx]), (4, .int .u8 0), (5, .bool false), (7, .pointer (some ⟨(Z.tp x), 0, none⟩))]) (φ := True) (fuel := 0) h31 (by kernel_rfl) rfl (by kernel_rfl) (by kernel_rfl) ⟨trivial, trivial⟩ trivial fun a32 h33 => ?_
  clear h31
  refine wpAnyK_done (by kernel_rfl) ?_ _
  refine hK22 _ _ ?_
  clear hK22
  refine wp_seq_k fun K34 hK34 => ?_
  refine wp_seq_k fun K35 hK35 => ?_
  refine nd_start (l := [0, 1]) rfl ?_
  refine nd_batch tabOk2 tabZ_ok2 [(0, {}), (1, {k := 1})] [6, 3, 0, 1, 4, 5, 7, 53] (T' := [(6, .pointer (some ⟨b14, 0, none⟩)), (3, .pointer (some ⟨b2, 0, none⟩)), (0, .pointer (some ⟨mb, 0, none⟩)), (1, .agg #[.int .u8 10, .int .u32 ev.pick, .int .u64 ev.draw, .int .u32 ev.addr, .int .u32 ev.node, .int .u32 ev.dst, .int .u32 ev.xfer, .int .u8 2, .int .u64 ev.arg, .int .u64 ev.badge, .slice xo ev.ws.length cx]), (4, .int .u8 0), (5, .bool false), (7, .pointer (some ⟨(Z.tp x), 0, none⟩)), (53, .int .u8 10)]) (φ := (b2 = b2 ∧ Nat.ble (0 + 1) 11 = true) ∧ True) (rest := []) h33 (by kernel_rfl) rfl ⟨⟨rfl, rfl⟩, trivial⟩ fun a36 h37 => ?_
  clear h33
  refine nd_done ?_
  refine hK35 _ _ ?_
  clear hK35
  refine wp_block ?_
  refine wp_seq_k fun K38 hK38 => ?_
  refine nd_start (l := [0, 1]) rfl ?_
  refine nd_batch tabOk2 tabZ_ok2 [(0, {}), (1, {})] [6, 3, 0, 1, 4, 5, 7, 53, 54] (T' := [(6, .pointer (some ⟨b14, 0, none⟩)), (3, .pointer (some ⟨b2, 0, none⟩)), (0, .pointer (some ⟨mb, 0, none⟩)), (1, .agg #[.int .u8 10, .int .u32 ev.pick, .int .u64 ev.draw, .int .u32 ev.addr, .int .u32 ev.node, .int .u32 ev.dst, .int .u32 ev.xfer, .int .u8 2, .int .u64 ev.arg, .int .u64 ev.badge, .slice xo ev.ws.length cx]), (4, .int .u8 0), (5, .bool false), (7, .pointer (some ⟨(Z.tp x), 0, none⟩)), (53, .int .u8 10), (54, .bool false)]) (φ := True) (rest := []) h37 (by kernel_rfl) rfl trivial fun a39 h40 => ?_
  clear h37
  refine nd_done ?_
  refine hK38 _ _ ?_
  clear hK38
  refine c_false h40 rfl ?_
  refine wp_seq_k fun K41 hK41 => ?_
  refine nd_start (l := [0, 1]) rfl ?_
  refine nd_batch tabOk2 tabZ_ok2 [(0, {}), (1, {})] [6, 3, 0, 1, 4, 5, 7, 53, 59] (T' := [(6, .pointer (some ⟨b14, 0, none⟩)), (3, .pointer (some ⟨b2, 0, none⟩)), (0, .pointer (some ⟨mb, 0, none⟩)), (1, .agg #[.int .u8 10, .int .u32 ev.pick, .int .u64 ev.draw, .int .u32 ev.addr, .int .u32 ev.node, .int .u32 ev.dst, .int .u32 ev.xfer, .int .u8 2, .int .u64 ev.arg, .int .u64 ev.badge, .slice xo ev.ws.length cx]), (4, .int .u8 0), (5, .bool false), (7, .pointer (some ⟨(Z.tp x), 0, none⟩)), (53, .int .u8 10), (59, .bool false)]) (φ := True) (rest := []) h40 (by kernel_rfl) rfl trivial fun a42 h43 => ?_
  clear h40
  refine nd_done ?_
  refine hK41 _ _ ?_
  clear hK41
  refine c_false h43 rfl ?_
  refine wp_seq_k fun K44 hK44 => ?_
  refine wp_seq_k fun K45 hK45 => ?_
  refine nd_start (l := [0, 1]) rfl ?_
  refine nd_batch tabOk2 tabZ_ok2 [(0, {}), (1, {})] [6, 3, 0, 1, 4, 5, 7, 53, 66] (T' := [(6, .pointer (some ⟨b14, 0, none⟩)), (3, .pointer (some ⟨b2, 0, none⟩)), (0, .pointer (some ⟨mb, 0, none⟩)), (1, .agg #[.int .u8 10, .int .u32 ev.pick, .int .u64 ev.draw, .int .u32 ev.addr, .int .u32 ev.node, .int .u32 ev.dst, .int .u32 ev.xfer, .int .u8 2, .int .u64 ev.arg, .int .u64 ev.badge, .slice xo ev.ws.length cx]), (4, .int .u8 0), (5, .bool false), (7, .pointer (some ⟨(Z.tp x), 0, none⟩)), (53, .int .u8 10), (66, .bool false)]) (φ := True) (rest := []) h43 (by kernel_rfl) rfl trivial fun a46 h47 => ?_
  clear h43
  refine nd_done ?_
  refine hK45 _ _ ?_
  clear hK45
  refine c_false h47 rfl ?_
  refine nd_start (l := [0, 1]) rfl ?_
  refine nd_batch tabOk2 tabZ_ok2 [(0, {}), (1, {})] [6, 3, 0, 1, 4, 5, 7, 53, 66] (T' := [(6, .pointer (some ⟨b14, 0, none⟩)), (3, .pointer (some ⟨b2, 0, none⟩)), (0, .pointer (some ⟨mb, 0, none⟩)), (1, .agg #[.int .u8 10, .int .u32 ev.pick, .int .u64 ev.draw, .int .u32 ev.addr, .int .u32 ev.node, .int .u32 ev.dst, .int .u32 ev.xfer, .int .u8 2, .int .u64 ev.arg, .int .u64 ev.badge, .slice xo ev.ws.length cx]), (4, .int .u8 0), (5, .bool false), (7, .pointer (some ⟨(Z.tp x), 0, none⟩)), (53, .int .u8 10), (66, .bool false)]) (φ := True) (rest := []) h47 (by kernel_rfl) rfl trivial fun a48 h49 => ?_
  clear h47
  refine nd_done ?_
  refine hK44 _ _ ?_
  clear hK44
  refine c_false h49 rfl ?_
  refine wp_seq_k fun K50 hK50 => ?_
  refine nd_start (l := [0, 1]) rfl ?_
  refine nd_batch tabOk2 tabZ_ok2 [(0, {}), (1, {})] [6, 3, 0, 1, 4, 5, 7, 53, 66, 129] (T' := [(6, .pointer (some ⟨b14, 0, none⟩)), (3, .pointer (some ⟨b2, 0, none⟩)), (0, .pointer (some ⟨mb, 0, none⟩)), (1, .agg #[.int .u8 10, .int .u32 ev.pick, .int .u64 ev.draw, .int .u32 ev.addr, .int .u32 ev.node, .int .u32 ev.dst, .int .u32 ev.xfer, .int .u8 2, .int .u64 ev.arg, .int .u64 ev.badge, .slice xo ev.ws.length cx]), (4, .int .u8 0), (5, .bool false), (7, .pointer (some ⟨(Z.tp x), 0, none⟩)), (53, .int .u8 10), (66, .bool false), (129, .bool false)]) (φ := True) (rest := []) h49 (by kernel_rfl) rfl trivial fun a51 h52 => ?_
  clear h49
  refine nd_done ?_
  refine hK50 _ _ ?_
  clear hK50
  refine c_false h52 rfl ?_
  refine wp_seq_k fun K53 hK53 => ?_
  refine nd_start (l := [0, 1]) rfl ?_
  refine nd_batch tabOk2 tabZ_ok2 [(0, {}), (1, {})] [6, 3, 0, 1, 4, 5, 7, 53, 66, 165] (T' := [(6, .pointer (some ⟨b14, 0, none⟩)), (3, .pointer (some ⟨b2, 0, none⟩)), (0, .pointer (some ⟨mb, 0, none⟩)), (1, .agg #[.int .u8 10, .int .u32 ev.pick, .int .u64 ev.draw, .int .u32 ev.addr, .int .u32 ev.node, .int .u32 ev.dst, .int .u32 ev.xfer, .int .u8 2, .int .u64 ev.arg, .int .u64 ev.badge, .slice xo ev.ws.length cx]), (4, .int .u8 0), (5, .bool false), (7, .pointer (some ⟨(Z.tp x), 0, none⟩)), (53, .int .u8 10), (66, .bool false), (165, .bool false)]) (φ := True) (rest := []) h52 (by kernel_rfl) rfl trivial fun a54 h55 => ?_
  clear h52
  refine nd_done ?_
  refine hK53 _ _ ?_
  clear hK53
  refine c_false h55 rfl ?_
  refine wp_seq_k fun K56 hK56 => ?_
  refine nd_start (l := [0, 1]) rfl ?_
  refine nd_batch tabOk2 tabZ_ok2 [(0, {}), (1, {})] [6, 3, 0, 1, 4, 5, 7, 53, 66, 226] (T' := [(6, .pointer (some ⟨b14, 0, none⟩)), (3, .pointer (some ⟨b2, 0, none⟩)), (0, .pointer (some ⟨mb, 0, none⟩)), (1, .agg #[.int .u8 10, .int .u32 ev.pick, .int .u64 ev.draw, .int .u32 ev.addr, .int .u32 ev.node, .int .u32 ev.dst, .int .u32 ev.xfer, .int .u8 2, .int .u64 ev.arg, .int .u64 ev.badge, .slice xo ev.ws.length cx]), (4, .int .u8 0), (5, .bool false), (7, .pointer (some ⟨(Z.tp x), 0, none⟩)), (53, .int .u8 10), (66, .bool false), (226, .bool false)]) (φ := True) (rest := []) h55 (by kernel_rfl) rfl trivial fun a57 h58 => ?_
  clear h55
  refine nd_done ?_
  refine hK56 _ _ ?_
  clear hK56
  refine c_false h58 rfl ?_
  refine wp_seq_k fun K59 hK59 => ?_
  refine nd_start (l := [0, 1]) rfl ?_
  refine nd_batch tabOk2 tabZ_ok2 [(0, {}), (1, {})] [6, 3, 0, 1, 4, 5, 7, 53, 66, 244] (T' := [(6, .pointer (some ⟨b14, 0, none⟩)), (3, .pointer (some ⟨b2, 0, none⟩)), (0, .pointer (some ⟨mb, 0, none⟩)), (1, .agg #[.int .u8 10, .int .u32 ev.pick, .int .u64 ev.draw, .int .u32 ev.addr, .int .u32 ev.node, .int .u32 ev.dst, .int .u32 ev.xfer, .int .u8 2, .int .u64 ev.arg, .int .u64 ev.badge, .slice xo ev.ws.length cx]), (4, .int .u8 0), (5, .bool false), (7, .pointer (some ⟨(Z.tp x), 0, none⟩)), (53, .int .u8 10), (66, .bool false), (244, .bool false)]) (φ := True) (rest := []) h58 (by kernel_rfl) rfl trivial fun a60 h61 => ?_
  clear h58
  refine nd_done ?_
  refine hK59 _ _ ?_
  clear hK59
  refine c_false h61 rfl ?_
  refine wp_seq_k fun K62 hK62 => ?_
  refine nd_start (l := [0, 1]) rfl ?_
  refine nd_batch tabOk2 tabZ_ok2 [(0, {}), (1, {})] [6, 3, 0, 1, 4, 5, 7, 53, 66, 285] (T' := [(6, .pointer (some ⟨b14, 0, none⟩)), (3, .pointer (some ⟨b2, 0, none⟩)), (0, .pointer (some ⟨mb, 0, none⟩)), (1, .agg #[.int .u8 10, .int .u32 ev.pick, .int .u64 ev.draw, .int .u32 ev.addr, .int .u32 ev.node, .int .u32 ev.dst, .int .u32 ev.xfer, .int .u8 2, .int .u64 ev.arg, .int .u64 ev.badge, .slice xo ev.ws.length cx]), (4, .int .u8 0), (5, .bool false), (7, .pointer (some ⟨(Z.tp x), 0, none⟩)), (53, .int .u8 10), (66, .bool false), (285, .bool true)]) (φ := True) (rest := []) h61 (by kernel_rfl) rfl trivial fun a63 h64 => ?_
  clear h61
  refine nd_done ?_
  refine hK62 _ _ ?_
  clear hK62
  refine c_true h64 rfl ?_
  refine wp_seq_k fun K65 hK65 => ?_
  refine wp_seq_k fun K66 hK66 => ?_
  refine nd_start (l := [0, 1, 2, 3, 4, 5, 6, 7, 8, 9]) rfl ?_
  refine nd_batch tabOk2 tabZ_ok2 [(0, {}), (1, {}), (2, {k := 1})] [6, 3, 0, 1, 4, 5, 7, 53, 66, 288, 290] (T' := [(6, .pointer (some ⟨b14, 0, none⟩)), (3, .pointer (some ⟨b2, 0, none⟩)), (0, .pointer (some ⟨mb, 0, none⟩)), (1, .agg #[.int .u8 10, .int .u32 ev.pick, .int .u64 ev.draw, .int .u32 ev.addr, .int .u32 ev.node, .int .u32 ev.dst, .int .u32 ev.xfer, .int .u8 2, .int .u64 ev.arg, .int .u64 ev.badge, .slice xo ev.ws.length cx]), (4, .int .u8 0), (5, .bool false), (7, .pointer (some ⟨(Z.tp x), 0, none⟩)), (53, .int .u8 10), (66, .bool false), (288, .pointer (some ⟨mb, 0, none⟩)), (290, .int .u32 ev.addr)]) (φ := (b2 = b2 ∧ Nat.ble (3 + 1) 11 = true) ∧ True) (rest := [3, 4, 5, 6, 7, 8, 9]) h64 (by kernel_rfl) rfl ⟨⟨rfl, rfl⟩, trivial⟩ fun a67 h68 => ?_
  clear h64
  refine nd_op ?_
  refine op_call h68 rfl rfl rfl (callOk Tryd.func90 (by decide) rfl) (args := [.pointer (some ⟨mb, 0, none⟩), .int .u32 ev.addr, .int .u8 1, .int .u8 2]) rfl (capOf_ok mb Z _ a C x hx hcx hci hcn hI.ci ev.addr 1 2 he.addr _ (mh_of h68 hho (k := 0) rfl) hf) ?_
  rintro _ w69 ⟨rfl, hg71⟩
  refine ⟨_, rfl, ?_⟩
  have h72a := st_mg h68 hg71 (kcons (fun _ => rfl) (kcons (fun hq => by cases hq) (kcons (fun hq => by cases hq) knil)))
  have h72 := h72a.put (d := some 291) (v := .tuple #[.agg #[.int .u8 c.ty, .int .u16 c.obj.idx, .int .u32 c.obj.gen, .int .u8 c.rights, .int .u64 c.badge], .int .u8 0]) (T' := [(291, .tuple #[.agg #[.int .u8 c.ty, .int .u16 c.obj.idx, .int .u32 c.obj.gen, .int .u8 c.rights, .int .u64 c.badge], .int .u8 0]), (6, .pointer (some ⟨b14, 0, none⟩)), (3, .pointer (some ⟨b2, 0, none⟩)), (0, .pointer (some ⟨mb, 0, none⟩)), (1, .agg #[.int .u8 10, .int .u32 ev.pick, .int .u64 ev.draw, .int .u32 ev.addr, .int .u32 ev.node, .int .u32 ev.dst, .int .u32 ev.xfer, .int .u8 2, .int .u64 ev.arg, .int .u64 ev.badge, .slice xo ev.ws.length cx]), (4, .int .u8 0), (5, .bool false), (7, .pointer (some ⟨(Z.tp x), 0, none⟩)), (53, .int .u8 10), (66, .bool false), (288, .pointer (some ⟨mb, 0, none⟩)), (290, .int .u32 ev.addr)]) rfl
  have hhoh72 := hg71.mh.ho
  clear h68 h72a
  refine nd_batch tabOk2 tabZ_ok2 [(4, {}), (5, {}), (6, {})] [6, 3, 0, 1, 4, 5, 7, 53, 66, 292, 293] (T' := [(6, .pointer (some ⟨b14, 0, none⟩)), (3, .pointer (some ⟨b2, 0, none⟩)), (0, .pointer (some ⟨mb, 0, none⟩)), (1, .agg #[.int .u8 10, .int .u32 ev.pick, .int .u64 ev.draw, .int .u32 ev.addr, .int .u32 ev.node, .int .u32 ev.dst, .int .u32 ev.xfer, .int .u8 2, .int .u64 ev.arg, .int .u64 ev.badge, .slice xo ev.ws.length cx]), (4, .int .u8 0), (5, .bool false), (7, .pointer (some ⟨(Z.tp x), 0, none⟩)), (53, .int .u8 10), (66, .bool false), (292, .agg #[.int .u8 c.ty, .int .u16 c.obj.idx, .int .u32 c.obj.gen, .int .u8 c.rights, .int .u64 c.badge]), (293, .int .u8 0)]) (φ := True) (rest := [7, 8, 9]) h72 (by kernel_rfl) rfl trivial fun a73 h74 => ?_
  clear h72
  refine nd_op ?_
  refine op_new tabOk2 (cells := [.int .u8 0, .int .u16 0, .int .u32 0, .int .u8 0, .int .u64 0]) (ty := 49) (ln := none) (L1 := fun b75 => [(3, ⟨[.int .u16 0, .int .u32 0], ty3, true⟩), (b2, ⟨[.int .u8 10, .int .u32 ev.pick, .int .u64 ev.draw, .int .u32 ev.addr, .int .u32 ev.node, .int .u32 ev.dst, .int .u32 ev.xfer, .int .u8 2, .int .u64 ev.arg, .int .u64 ev.badge, .slice xo ev.ws.length cx], 35, false⟩), (b14, ⟨[.int .u16 ((Z.ky x).idx), .int .u32 ((Z.ky x).gen)], 39, false⟩), (b75, ⟨[.int .u8 0, .int .u16 0, .int .u32 0, .int .u8 0, .int .u64 0], 49, false⟩)]) h74 rfl rfl rfl rfl (by kernel_rfl) (fun _ => rfl) fun b75 w76 a77 h78 hf79 hn80 => ?_
  clear h74
  refine nd_op ?_
  refine op_store tabOk2 {k := 3} (L' := [(3, ⟨[.int .u16 0, .int .u32 0], ty3, true⟩), (b2, ⟨[.int .u8 10, .int .u32 ev.pick, .int .u64 ev.draw, .int .u32 ev.addr, .int .u32 ev.node, .int .u32 ev.dst, .int .u32 ev.xfer, .int .u8 2, .int .u64 ev.arg, .int .u64 ev.badge, .slice xo ev.ws.length cx], 35, false⟩), (b14, ⟨[.int .u16 ((Z.ky x).idx), .int .u32 ((Z.ky x).gen)], 39, false⟩), (b75, ⟨[.int .u8 c.ty, .int .u16 c.obj.idx, .int .u32 c.obj.gen, .int .u8 c.rights, .int .u64 c.badge], 49, false⟩)]) (φ := b75 = b75 ∧ Nat.ble (0 + 5) 5 = true) h78 rfl rfl rfl (by kernel_rfl) ⟨rfl, rfl⟩ fun w81 h82 => ?_
  clear h78
  refine nd_batch tabOk2 tabZ_ok2 [(9, {})] [6, 3, 0, 1, 4, 5, 7, 53, 66, 21] (T' := [(6, .pointer (some ⟨b14, 0, none⟩)), (3, .pointer (some ⟨b2, 0, none⟩)), (0, .pointer (some ⟨mb, 0, none⟩)), (1, .agg #[.int .u8 10, .int .u32 ev.pick, .int .u64 ev.draw, .int .u32 ev.addr, .int .u32 ev.node, .int .u32 ev.dst, .int .u32 ev.xfer, .int .u8 2, .int .u64 ev.arg, .int .u64 ev.badge, .slice xo ev.ws.length cx]), (4, .int .u8 0), (5, .bool false), (7, .pointer (some ⟨(Z.tp x), 0, none⟩)), (53, .int .u8 10), (66, .bool false), (21, .int .u8 0)]) (φ := True) (rest := []) h82 (by kernel_rfl) rfl trivial fun a83 h84 => ?_
  clear h82
  refine nd_done ?_
  refine hK66 _ _ ?_
  clear hK66
  refine wp_seq_k fun K85 hK85 => ?_
  refine nd_start (l := [0, 1]) rfl ?_
  refine nd_batch tabOk2 tabZ_ok2 [(0, {}), (1, {})] [6, 3, 0, 1, 4, 5, 7, 53, 66, 21, 295] (T' := [(6, .pointer (some ⟨b14, 0, none⟩)), (3, .pointer (some ⟨b2, 0, none⟩)), (0, .pointer (some ⟨mb, 0, none⟩)), (1, .agg #[.int .u8 10, .int .u32 ev.pick, .int .u64 ev.draw, .int .u32 ev.addr, .int .u32 ev.node, .int .u32 ev.dst, .int .u32 ev.xfer, .int .u8 2, .int .u64 ev.arg, .int .u64 ev.badge, .slice xo ev.ws.length cx]), (4, .int .u8 0), (5, .bool false), (7, .pointer (some ⟨(Z.tp x), 0, none⟩)), (53, .int .u8 10), (66, .bool false), (21, .int .u8 0), (295, .bool false)]) (φ := True) (rest := []) h84 (by kernel_rfl) rfl trivial fun a86 h87 => ?_
  clear h84
  refine nd_done ?_
  refine hK85 _ _ ?_
  clear hK85
  refine c_false h87 rfl ?_
  refine wp_skip ?_
  refine hK65 _ _ ?_
  clear hK65
  refine wp_seq_k fun K88 hK88 => ?_
  refine nd_start (l := [0, 1, 2, 3, 4, 5, 6, 7, 8]) rfl ?_
  refine nd_batch tabOk2 tabZ_ok2 [(0, {}), (1, {}), (2, {k := 1})] [6, 3, 0, 1, 4, 5, 7, 53, 66, 21, 298, 300] (T' := [(6, .pointer (some ⟨b14, 0, none⟩)), (3, .pointer (some ⟨b2, 0, none⟩)), (0, .pointer (some ⟨mb, 0, none⟩)), (1, .agg #[.int .u8 10, .int .u32 ev.pick, .int .u64 ev.draw, .int .u32 ev.addr, .int .u32 ev.node, .int .u32 ev.dst, .int .u32 ev.xfer, .int .u8 2, .int .u64 ev.arg, .int .u64 ev.badge, .slice xo ev.ws.length cx]), (4, .int .u8 0), (5, .bool false), (7, .pointer (some ⟨(Z.tp x), 0, none⟩)), (53, .int .u8 10), (66, .bool false), (21, .int .u8 0), (298, .pointer (some ⟨mb, 0, none⟩)), (300, .int .u32 ev.addr)]) (φ := (b2 = b2 ∧ Nat.ble (3 + 1) 11 = true) ∧ True) (rest := [3, 4, 5, 6, 7, 8]) h87 (by kernel_rfl) rfl ⟨⟨rfl, rfl⟩, trivial⟩ fun a89 h90 => ?_
  clear h87
  refine nd_op ?_
  refine op_call h90 rfl rfl rfl (callOk Tryd.func93 (by decide) rfl) (args := [.pointer (some ⟨mb, 0, none⟩), .int .u32 ev.addr]) rfl (cellOf_ok mb Z _ a C x hx hcx hci ev.addr he.addr e1 _ (mh_of h90 hhoh72 (k := 0) rfl)) ?_
  rintro _ w91 ⟨rfl, hg93⟩
  refine ⟨_, rfl, ?_⟩
  have h94a := st_mg h90 hg93 (kcons (fun _ => rfl) (kcons (fun hq => by cases hq) (kcons (fun hq => by cases hq) (kcons (fun hq => by cases hq) knil))))
  have h94 := h94a.put (d := some 301) (v := .tuple #[.int .i64 s1, .int .u8 0]) (T' := [(301, .tuple #[.int .i64 s1, .int .u8 0]), (6, .pointer (some ⟨b14, 0, none⟩)), (3, .pointer (some ⟨b2, 0, none⟩)), (0, .pointer (some ⟨mb, 0, none⟩)), (1, .agg #[.int .u8 10, .int .u32 ev.pick, .int .u64 ev.draw, .int .u32 ev.addr, .int .u32 ev.node, .int .u32 ev.dst, .int .u32 ev.xfer, .int .u8 2, .int .u64 ev.arg, .int .u64 ev.badge, .slice xo ev.ws.length cx]), (4, .int .u8 0), (5, .bool false), (7, .pointer (some ⟨(Z.tp x), 0, none⟩)), (53, .int .u8 10), (66, .bool false), (21, .int .u8 0), (298, .pointer (some ⟨mb, 0, none⟩)), (300, .int .u32 ev.addr)]) rfl
  have hhoh94 := hg93.mh.ho
  clear h90 h94a
  refine nd_batch tabOk2 tabZ_ok2 [(4, {}), (5, {}), (6, {}), (7, {}), (8, {})] [6, 3, 0, 1, 4, 5, 7, 53, 66, 21, 22] (T' := [(6, .pointer (some ⟨b14, 0, none⟩)), (3, .pointer (some ⟨b2, 0, none⟩)), (0, .pointer (some ⟨mb, 0, none⟩)), (1, .agg #[.int .u8 10, .int .u32 ev.pick, .int .u64 ev.draw, .int .u32 ev.addr, .int .u32 ev.node, .int .u32 ev.dst, .int .u32 ev.xfer, .int .u8 2, .int .u64 ev.arg, .int .u64 ev.badge, .slice xo ev.ws.length cx]), (4, .int .u8 0), (5, .bool false), (7, .pointer (some ⟨(Z.tp x), 0, none⟩)), (53, .int .u8 10), (66, .bool false), (21, .int .u8 0), (22, .int .i64 s1)]) (φ := True) (rest := []) h94 (by kernel_rfl) rfl trivial fun a95 h96 => ?_
  clear h94
  refine nd_done ?_
  refine hK88 _ _ ?_
  clear hK88
  refine wp_seq_k fun K97 hK97 => ?_
  refine nd_start (l := [0, 1, 2, 3, 4, 5, 6, 7, 8]) rfl ?_
  refine nd_batch tabOk2 tabZ_ok2 [(0, {}), (1, {}), (2, {k := 1})] [6, 3, 0, 1, 4, 5, 7, 53, 66, 21, 22, 305, 307] (T' := [(6, .pointer (some ⟨b14, 0, none⟩)), (3, .pointer (some ⟨b2, 0, none⟩)), (0, .pointer (some ⟨mb, 0, none⟩)), (1, .agg #[.int .u8 10, .int .u32 ev.pick, .int .u64 ev.draw, .int .u32 ev.addr, .int .u32 ev.node, .int .u32 ev.dst, .int .u32 ev.xfer, .int .u8 2, .int .u64 ev.arg, .int .u64 ev.badge, .slice xo ev.ws.length cx]), (4, .int .u8 0), (5, .bool false), (7, .pointer (some ⟨(Z.tp x), 0, none⟩)), (53, .int .u8 10), (66, .bool false), (21, .int .u8 0), (22, .int .i64 s1), (305, .pointer (some ⟨mb, 0, none⟩)), (307, .int .u32 ev.dst)]) (φ := (b2 = b2 ∧ Nat.ble (5 + 1) 11 = true) ∧ True) (rest := [3, 4, 5, 6, 7, 8]) h96 (by kernel_rfl) rfl ⟨⟨rfl, rfl⟩, trivial⟩ fun a98 h99 => ?_
  clear h96
  refine nd_op ?_
  refine op_call h99 rfl rfl rfl (callOk Tryd.func93 (by decide) rfl) (args := [.pointer (some ⟨mb, 0, none⟩), .int .u32 ev.dst]) rfl (cellOf_ok mb Z _ a C x hx hcx hci ev.dst he.dst e2 _ (mh_of h99 hhoh94 (k := 0) rfl)) ?_
  rintro _ w100 ⟨rfl, hg102⟩
  refine ⟨_, rfl, ?_⟩
  have h103a := st_mg h99 hg102 (kcons (fun _ => rfl) (kcons (fun hq => by cases hq) (kcons (fun hq => by cases hq) (kcons (fun hq => by cases hq) knil))))
  have h103 := h103a.put (d := some 308) (v := .tuple #[.int .i64 s2, .int .u8 0]) (T' := [(308, .tuple #[.int .i64 s2, .int .u8 0]), (6, .pointer (some ⟨b14, 0, none⟩)), (3, .pointer (some ⟨b2, 0, none⟩)), (0, .pointer (some ⟨mb, 0, none⟩)), (1, .agg #[.int .u8 10, .int .u32 ev.pick, .int .u64 ev.draw, .int .u32 ev.addr, .int .u32 ev.node, .int .u32 ev.dst, .int .u32 ev.xfer, .int .u8 2, .int .u64 ev.arg, .int .u64 ev.badge, .slice xo ev.ws.length cx]), (4, .int .u8 0), (5, .bool false), (7, .pointer (some ⟨(Z.tp x), 0, none⟩)), (53, .int .u8 10), (66, .bool false), (21, .int .u8 0), (22, .int .i64 s1), (305, .pointer (some ⟨mb, 0, none⟩)), (307, .int .u32 ev.dst)]) rfl
  have hhoh103 := hg102.mh.ho
  clear h99 h103a
  refine nd_batch tabOk2 tabZ_ok2 [(4, {}), (5, {}), (6, {}), (7, {}), (8, {})] [6, 3, 0, 1, 4, 5, 7, 53, 66, 21, 22, 24, 25] (T' := [(6, .pointer (some ⟨b14, 0, none⟩)), (3, .pointer (some ⟨b2, 0, none⟩)), (0, .pointer (some ⟨mb, 0, none⟩)), (1, .agg #[.int .u8 10, .int .u32 ev.pick, .int .u64 ev.draw, .int .u32 ev.addr, .int .u32 ev.node, .int .u32 ev.dst, .int .u32 ev.xfer, .int .u8 2, .int .u64 ev.arg, .int .u64 ev.badge, .slice xo ev.ws.length cx]), (4, .int .u8 0), (5, .bool false), (7, .pointer (some ⟨(Z.tp x), 0, none⟩)), (53, .int .u8 10), (66, .bool false), (21, .int .u8 0), (22, .int .i64 s1), (24, .int .i64 s2), (25, .int .u8 0)]) (φ := True) (rest := []) h103 (by kernel_rfl) rfl trivial fun a104 h105 => ?_
  clear h103
  refine nd_done ?_
  refine hK97 _ _ ?_
  clear hK97
  refine wp_seq_k fun K106 hK106 => ?_
  refine wp_seq_k fun K107 hK107 => ?_
  refine nd_start (l := [0, 1]) rfl ?_
  refine nd_batch tabOk2 tabZ_ok2 [(0, {}), (1, {})] [6, 3, 0, 1, 4, 5, 7, 53, 66, 21, 22, 24, 25, 312] (T' := [(6, .pointer (some ⟨b14, 0, none⟩)), (3, .pointer (some ⟨b2, 0, none⟩)), (0, .pointer (some ⟨mb, 0, none⟩)), (1, .agg #[.int .u8 10, .int .u32 ev.pick, .int .u64 ev.draw, .int .u32 ev.addr, .int .u32 ev.node, .int .u32 ev.dst, .int .u32 ev.xfer, .int .u8 2, .int .u64 ev.arg, .int .u64 ev.badge, .slice xo ev.ws.length cx]), (4, .int .u8 0), (5, .bool false), (7, .pointer (some ⟨(Z.tp x), 0, none⟩)), (53, .int .u8 10), (66, .bool false), (21, .int .u8 0), (22, .int .i64 s1), (24, .int .i64 s2), (25, .int .u8 0), (312, .bool false)]) (φ := True) (rest := []) h105 (by kernel_rfl) rfl trivial fun a108 h109 => ?_
  clear h105
  refine nd_done ?_
  refine hK107 _ _ ?_
  clear hK107
  refine c_false h109 rfl ?_
  refine wp_skip ?_
  refine hK106 _ _ ?_
  clear hK106
  refine wp_seq_k fun K110 hK110 => ?_
  refine wp_seq_k fun K111 hK111 => ?_
  refine nd_start (l := [0, 1, 2, 3, 4, 5, 6, 7]) rfl ?_
  refine nd_batch tabOk2 tabZ_ok2 [(0, {}), (1, {}), (2, {})] [6, 3, 0, 1, 4, 5, 7, 53, 66, 21, 22, 24, 25, 316] (T' := [(6, .pointer (some ⟨b14, 0, none⟩)), (3, .pointer (some ⟨b2, 0, none⟩)), (0, .pointer (some ⟨mb, 0, none⟩)), (1, .agg #[.int .u8 10, .int .u32 ev.pick, .int .u64 ev.draw, .int .u32 ev.addr, .int .u32 ev.node, .int .u32 ev.dst, .int .u32 ev.xfer, .int .u8 2, .int .u64 ev.arg, .int .u64 ev.badge, .slice xo ev.ws.length cx]), (4, .int .u8 0), (5, .bool false), (7, .pointer (some ⟨(Z.tp x), 0, none⟩)), (53, .int .u8 10), (66, .bool false), (21, .int .u8 0), (22, .int .i64 s1), (24, .int .i64 s2), (25, .int .u8 0), (316, .pointer (some ⟨mb, 1, none⟩))]) (φ := True) (rest := [3, 4, 5, 6, 7]) h109 (by kernel_rfl) rfl trivial fun a112 h113 => ?_
  clear h109
  refine nd_op ?_
  refine op_read (b := mb) (v := .pointer (some ⟨Z.mc, 0, none⟩)) h113 rfl rfl (rd_m h113 (k := 1) (v := .pointer (some ⟨Z.mc, 0, none⟩)) rfl rfl rfl rfl (md_p ⟨rfl, trivial⟩)) ?_
  have h114 := h113.put (d := some 317) (v := .pointer (some ⟨Z.mc, 0, none⟩)) (T' := [(317, .pointer (some ⟨Z.mc, 0, none⟩)), (6, .pointer (some ⟨b14, 0, none⟩)), (3, .pointer (some ⟨b2, 0, none⟩)), (0, .pointer (some ⟨mb, 0, none⟩)), (1, .agg #[.int .u8 10, .int .u32 ev.pick, .int .u64 ev.draw, .int .u32 ev.addr, .int .u32 ev.node, .int .u32 ev.dst, .int .u32 ev.xfer, .int .u8 2, .int .u64 ev.arg, .int .u64 ev.badge, .slice xo ev.ws.length cx]), (4, .int .u8 0), (5, .bool false), (7, .pointer (some ⟨(Z.tp x), 0, none⟩)), (53, .int .u8 10), (66, .bool false), (21, .int .u8 0), (22, .int .i64 s1), (24, .int .i64 s2), (25, .int .u8 0), (316, .pointer (some ⟨mb, 1, none⟩))]) rfl
  clear h113
  refine nd_batch tabOk2 tabZ_ok2 [(4, {})] [317, 6, 3, 0, 1, 4, 5, 7, 53, 66, 21, 22, 24, 25, 318] (T' := [(317, .pointer (some ⟨Z.mc, 0, none⟩)), (6, .pointer (some ⟨b14, 0, none⟩)), (3, .pointer (some ⟨b2, 0, none⟩)), (0, .pointer (some ⟨mb, 0, none⟩)), (1, .agg #[.int .u8 10, .int .u32 ev.pick, .int .u64 ev.draw, .int .u32 ev.addr, .int .u32 ev.node, .int .u32 ev.dst, .int .u32 ev.xfer, .int .u8 2, .int .u64 ev.arg, .int .u64 ev.badge, .slice xo ev.ws.length cx]), (4, .int .u8 0), (5, .bool false), (7, .pointer (some ⟨(Z.tp x), 0, none⟩)), (53, .int .u8 10), (66, .bool false), (21, .int .u8 0), (22, .int .i64 s1), (24, .int .i64 s2), (25, .int .u8 0), (318, .int .i64 s2)]) (φ := True) (rest := [5, 6, 7]) h114 (by kernel_rfl) rfl trivial fun a115 h116 => ?_
  clear h114
  refine nd_op ?_
  obtain ⟨i2, j2, hi2, hj2, hp2, hs2⟩ := look_fact hI.ci hci.1 he.dst.1 e2 rfl
  refine op_call h116 rfl rfl rfl (callOk Tryd.func62 (by decide) rfl) (args := [.pointer (some ⟨Z.mc, 0, none⟩), .int .i64 s2]) rfl (atE Z.mo Z.mc Z.nd C hi2 hj2 hp2 hs2 _ h116.inv.1.cp) ?_
  rintro _ w117 ⟨rfl, hf119⟩
  refine ⟨_, rfl, ?_⟩
  have h118 := (h116.grow hf119).put (d := some 319) (v := .agg #[.int .u8 ((C.cel s2.toNat).cap.ty), .int .u16 ((C.cel s2.toNat).cap.obj.idx), .int .u32 ((C.cel s2.toNat).cap.obj.gen), .int .u8 ((C.cel s2.toNat).cap.rights), .int .u64 ((C.cel s2.toNat).cap.badge)]) (T' := [(319, .agg #[.int .u8 ((C.cel s2.toNat).cap.ty), .int .u16 ((C.cel s2.toNat).cap.obj.idx), .int .u32 ((C.cel s2.toNat).cap.obj.gen), .int .u8 ((C.cel s2.toNat).cap.rights), .int .u64 ((C.cel s2.toNat).cap.badge)]), (317, .pointer (some ⟨Z.mc, 0, none⟩)), (6, .pointer (some ⟨b14, 0, none⟩)), (3, .pointer (some ⟨b2, 0, none⟩)), (0, .pointer (some ⟨mb, 0, none⟩)), (1, .agg #[.int .u8 10, .int .u32 ev.pick, .int .u64 ev.draw, .int .u32 ev.addr, .int .u32 ev.node, .int .u32 ev.dst, .int .u32 ev.xfer, .int .u8 2, .int .u64 ev.arg, .int .u64 ev.badge, .slice xo ev.ws.length cx]), (4, .int .u8 0), (5, .bool false), (7, .pointer (some ⟨(Z.tp x), 0, none⟩)), (53, .int .u8 10), (66, .bool false), (21, .int .u8 0), (22, .int .i64 s1), (24, .int .i64 s2), (25, .int .u8 0), (318, .int .i64 s2)]) rfl
  clear h116
  refine nd_batch tabOk2 tabZ_ok2 [(6, {}), (7, {})] [6, 3, 0, 1, 4, 5, 7, 53, 66, 21, 22, 24, 25, 321] (T' := [(6, .pointer (some ⟨b14, 0, none⟩)), (3, .pointer (some ⟨b2, 0, none⟩)), (0, .pointer (some ⟨mb, 0, none⟩)), (1, .agg #[.int .u8 10, .int .u32 ev.pick, .int .u64 ev.draw, .int .u32 ev.addr, .int .u32 ev.node, .int .u32 ev.dst, .int .u32 ev.xfer, .int .u8 2, .int .u64 ev.arg, .int .u64 ev.badge, .slice xo ev.ws.length cx]), (4, .int .u8 0), (5, .bool false), (7, .pointer (some ⟨(Z.tp x), 0, none⟩)), (53, .int .u8 10), (66, .bool false), (21, .int .u8 0), (22, .int .i64 s1), (24, .int .i64 s2), (25, .int .u8 0), (321, .bool ((C.cel s2.toNat).cap.ty != 0))]) (φ := True) (rest := []) h118 (by kernel_rfl) rfl trivial fun a120 h121 => ?_
  clear h118
  refine nd_done ?_
  refine hK111 _ _ ?_
  clear hK111
  refine c_split h121 (b := ((C.cel s2.toNat).cap.ty != 0)) rfl (fun hc122 => ?_) (fun hc122 => ?_)
  ·
    have hc122f : (C.cel s2.toNat).cap.ty ≠ 0 := by simpa using hc122
    exact absurd (hz2) (by first | exact hc122f | (intro hz; exact hc122f hz) | omega | simp_all)
  ·
    have hc122f : (C.cel s2.toNat).cap.ty = 0 := by simpa using hc122
    refine wp_skip ?_
    refine hK110 _ _ ?_
    clear hK110
    refine wp_seq_k fun K123 hK123 => ?_
    refine wp_seq_k fun K124 hK124 => ?_
    refine nd_start (l := [0, 1, 2, 3, 4, 5, 6, 7, 8, 9, 10, 11, 12, 13, 14, 15, 16, 17]) rfl ?_
    refine nd_batch tabOk2 tabZ_ok2 [(0, {}), (1, {k := 1}), (2, {}), (3, {}), (4, {}), (5, {}), (6, {}), (7, {}), (8, {}), (9, {}), (10, {}), (11, {}), (12, {}), (13, {}), (14, {}), (15, {}), (16, {}), (17, {})] [6, 3, 0, 1, 4, 5, 7, 53, 66, 21, 22, 24, 25, 339] (T' := [(6, .pointer (some ⟨b14, 0, none⟩)), (3, .pointer (some ⟨b2, 0, none⟩)), (0, .pointer (some ⟨mb, 0, none⟩)), (1, .agg #[.int .u8 10, .int .u32 ev.pick, .int .u64 ev.draw, .int .u32 ev.addr, .int .u32 ev.node, .int .u32 ev.dst, .int .u32 ev.xfer, .int .u8 2, .int .u64 ev.arg, .int .u64 ev.badge, .slice xo ev.ws.length cx]), (4, .int .u8 0), (5, .bool false), (7, .pointer (some ⟨(Z.tp x), 0, none⟩)), (53, .int .u8 10), (66, .bool false), (21, .int .u8 0), (22, .int .i64 s1), (24, .int .i64 s2), (25, .int .u8 0), (339, .bool false)]) (φ := (b2 = b2 ∧ Nat.ble (7 + 1) 11 = true) ∧ True) (rest := []) h121 (by kernel_rfl) rfl ⟨⟨rfl, rfl⟩, trivial⟩ fun a125 h126 => ?_
    clear h121
    refine nd_done ?_
    refine hK124 _ _ ?_
    clear hK124
    refine c_false h126 rfl ?_
    refine wp_skip ?_
    refine hK123 _ _ ?_
    clear hK123
    refine wp_seq_k fun K127 hK127 => ?_
    refine dr_start (KB := [3, b2, b14, b75, mb]) (Bi := [[0, 1, 2, 3, 4], [0, 1, 2, 3, 4], [0, 1, 2, 3, 4], [0, 1, 2, 3, 4], [0, 1, 2, 3, 4], [0, 1, 2, 3, 4], [], [0, 1, 2, 3, 4], [0, 1, 2, 3, 4], [0, 1, 2, 3, 4], [1, 4], [], [0, 1, 2, 3, 4]]) mixed h126 fun w128 h129 => ?_
    clear h126
    refine dr_batch tabOk2 tabZ_ok2 (by repeat (first | with_reducible exact PF.body | with_reducible apply PF.inB | with_reducible apply PF.next)) [(0, {}), (1, {}), (2, {})] [6, 3, 0, 1, 4, 5, 7, 53, 66, 21, 22, 24, 25, 343] (T' := [(6, .pointer (some ⟨b14, 0, none⟩)), (3, .pointer (some ⟨b2, 0, none⟩)), (0, .pointer (some ⟨mb, 0, none⟩)), (1, .agg #[.int .u8 10, .int .u32 ev.pick, .int .u64 ev.draw, .int .u32 ev.addr, .int .u32 ev.node, .int .u32 ev.dst, .int .u32 ev.xfer, .int .u8 2, .int .u64 ev.arg, .int .u64 ev.badge, .slice xo ev.ws.length cx]), (4, .int .u8 0), (5, .bool false), (7, .pointer (some ⟨(Z.tp x), 0, none⟩)), (53, .int .u8 10), (66, .bool false), (21, .int .u8 0), (22, .int .i64 s1), (24, .int .i64 s2), (25, .int .u8 0), (343, .pointer (some ⟨mb, 0, none⟩))]) (φ := True) (fuel := 10) h129 (by kernel_rfl) rfl (by kernel_rfl) (by kernel_rfl) ⟨trivial, trivial, trivial, trivial⟩ trivial fun a131 h132 => ?_
    clear h129
    refine dr_read (i := 3) (b := mb) (p := 4) (v := .pointer (some ⟨Z.mo, 0, none⟩)) (fuel := 9) (by repeat (first | with_reducible exact PF.body | with_reducible apply PF.inB | with_reducible apply PF.next)) h132 rfl rfl rfl (by kernel_rfl) (by kernel_rfl) (by kernel_rfl) rfl (rd_m h132 (k := 0) (v := .pointer (some ⟨Z.mo, 0, none⟩)) rfl rfl rfl rfl (md_p ⟨rfl, trivial⟩)) ?_
    have h133 := h132.put (d := some 344) (v := .pointer (some ⟨Z.mo, 0, none⟩)) (T' := [(344, .pointer (some ⟨Z.mo, 0, none⟩)), (6, .pointer (some ⟨b14, 0, none⟩)), (3, .pointer (some ⟨b2, 0, none⟩)), (0, .pointer (some ⟨mb, 0, none⟩)), (1, .agg #[.int .u8 10, .int .u32 ev.pick, .int .u64 ev.draw, .int .u32 ev.addr, .int .u32 ev.node, .int .u32 ev.dst, .int .u32 ev.xfer, .int .u8 2, .int .u64 ev.arg, .int .u64 ev.badge, .slice xo ev.ws.length cx]), (4, .int .u8 0), (5, .bool false), (7, .pointer (some ⟨(Z.tp x), 0, none⟩)), (53, .int .u8 10), (66, .bool false), (21, .int .u8 0), (22, .int .i64 s1), (24, .int .i64 s2), (25, .int .u8 0), (343, .pointer (some ⟨mb, 0, none⟩))]) rfl
    clear h132
    refine dr_batch tabOk2 tabZ_ok2 (by repeat (first | with_reducible exact PF.body | with_reducible apply PF.inB | with_reducible apply PF.next)) [(4, {}), (5, {k := 1, p := 1})] [344, 6, 3, 0, 1, 4, 5, 7, 53, 66, 21, 22, 24, 25, 346] (T' := [(344, .pointer (some ⟨Z.mo, 0, none⟩)), (6, .pointer (some ⟨b14, 0, none⟩)), (3, .pointer (some ⟨b2, 0, none⟩)), (0, .pointer (some ⟨mb, 0, none⟩)), (1, .agg #[.int .u8 10, .int .u32 ev.pick, .int .u64 ev.draw, .int .u32 ev.addr, .int .u32 ev.node, .int .u32 ev.dst, .int .u32 ev.xfer, .int .u8 2, .int .u64 ev.arg, .int .u64 ev.badge, .slice xo ev.ws.length cx]), (4, .int .u8 0), (5, .bool false), (7, .pointer (some ⟨(Z.tp x), 0, none⟩)), (53, .int .u8 10), (66, .bool false), (21, .int .u8 0), (22, .int .i64 s1), (24, .int .i64 s2), (25, .int .u8 0), (346, .int .u8 2)]) (φ := (b2 = b2 ∧ Nat.ble (7 + 1) 11 = true) ∧ True) (fuel := 7) h133 (by kernel_rfl) rfl (by kernel_rfl) (by kernel_rfl) ⟨trivial, rfl, trivial⟩ ⟨⟨rfl, rfl⟩, trivial⟩ fun a134 h135 => ?_
    clear h133
    refine wpAnyK_two (i := 6) (j := 10) (fuel := 6) (by kernel_rfl) ?_ ?_
    ·
      refine op_call h135 rfl rfl rfl (callOk Tryd.func37 (by decide) rfl) (args := [.pointer (some ⟨Z.mo, 0, none⟩), .int .u8 2]) rfl (retypeC_ok Z.mo Z.mc Z.nd C 2 (by decide) _ h135.inv.1.cp er) ?_
      rintro _ w136 ⟨rfl, hc137, hf138⟩
      refine ⟨_, rfl, ?_⟩
      have h139a := st_cap h135 hc137 hf138 (fun b hb => .inl hb) (kcons (fun _ => rfl) (kcons (fun hq => by cases hq) (kcons (fun hq => by cases hq) (kcons (fun hq => by cases hq) knil))))
      have h139 := h139a.put (d := some 347) (v := .tuple #[.agg #[.int .u16 r.idx, .int .u32 r.gen], .int .u8 k]) (T' := [(347, .tuple #[.agg #[.int .u16 r.idx, .int .u32 r.gen], .int .u8 k]), (344, .pointer (some ⟨Z.mo, 0, none⟩)), (6, .pointer (some ⟨b14, 0, none⟩)), (3, .pointer (some ⟨b2, 0, none⟩)), (0, .pointer (some ⟨mb, 0, none⟩)), (1, .agg #[.int .u8 10, .int .u32 ev.pick, .int .u64 ev.draw, .int .u32 ev.addr, .int .u32 ev.node, .int .u32 ev.dst, .int .u32 ev.xfer, .int .u8 2, .int .u64 ev.arg, .int .u64 ev.badge, .slice xo ev.ws.length cx]), (4, .int .u8 0), (5, .bool false), (7, .pointer (some ⟨(Z.tp x), 0, none⟩)), (53, .int .u8 10), (66, .bool false), (21, .int .u8 0), (22, .int .i64 s1), (24, .int .i64 s2), (25, .int .u8 0), (346, .int .u8 2)]) rfl
      refine ⟨keepNil, ?_⟩
      clear h135 h139a
      refine dr_batch tabOk2 tabZ_ok2 (by repeat (first | with_reducible exact PF.body | with_reducible apply PF.inB | with_reducible apply PF.next)) [(7, {}), (8, {}), (9, {})] [6, 3, 0, 1, 4, 5, 7, 53, 66, 21, 22, 24, 25, 348, 349] (T' := [(6, .pointer (some ⟨b14, 0, none⟩)), (3, .pointer (some ⟨b2, 0, none⟩)), (0, .pointer (some ⟨mb, 0, none⟩)), (1, .agg #[.int .u8 10, .int .u32 ev.pick, .int .u64 ev.draw, .int .u32 ev.addr, .int .u32 ev.node, .int .u32 ev.dst, .int .u32 ev.xfer, .int .u8 2, .int .u64 ev.arg, .int .u64 ev.badge, .slice xo ev.ws.length cx]), (4, .int .u8 0), (5, .bool false), (7, .pointer (some ⟨(Z.tp x), 0, none⟩)), (53, .int .u8 10), (66, .bool false), (21, .int .u8 0), (22, .int .i64 s1), (24, .int .i64 s2), (25, .int .u8 0), (348, .agg #[.int .u16 r.idx, .int .u32 r.gen]), (349, .int .u8 k)]) (φ := True) (fuel := 3) h139 (by kernel_rfl) rfl (by kernel_rfl) (by kernel_rfl) ⟨trivial, trivial, trivial, trivial⟩ trivial fun a140 h141 => ?_
      clear h139
      refine wpAnyK_one (i := 10) (fuel := 2) (by kernel_rfl) ?_
      refine op_new tabOk2 (cells := [.int .u16 0, .int .u32 0]) (ty := 39) (ln := none) (L1 := fun b142 => [(3, ⟨[.int .u16 0, .int .u32 0], ty3, true⟩), (b2, ⟨[.int .u8 10, .int .u32 ev.pick, .int .u64 ev.draw, .int .u32 ev.addr, .int .u32 ev.node, .int .u32 ev.dst, .int .u32 ev.xfer, .int .u8 2, .int .u64 ev.arg, .int .u64 ev.badge, .slice xo ev.ws.length cx], 35, false⟩), (b14, ⟨[.int .u16 ((Z.ky x).idx), .int .u32 ((Z.ky x).gen)], 39, false⟩), (b75, ⟨[.int .u8 c.ty, .int .u16 c.obj.idx, .int .u32 c.obj.gen, .int .u8 c.rights, .int .u64 c.badge], 49, false⟩), (b142, ⟨[.int .u16 0, .int .u32 0], 39, false⟩)]) h141 rfl rfl rfl rfl (by kernel_rfl) (fun _ => rfl) fun b142 w143 a144 h145 hf146 hn147 => ?_
      refine ⟨(keepCons (kpLf h141.known hf146 (q := 1) rfl) (keepCons (kpM h141.inv.1 (l := .m) trivial (List.mem_cons_self ..) hf146) keepNil)), ?_⟩
      clear h141
      refine wpAnyK_one (i := 11) (fuel := 1) (by kernel_rfl) ?_
      refine op_store tabOk2 {k := 4} (L' := [(3, ⟨[.int .u16 0, .int .u32 0], ty3, true⟩), (b2, ⟨[.int .u8 10, .int .u32 ev.pick, .int .u64 ev.draw, .int .u32 ev.addr, .int .u32 ev.node, .int .u32 ev.dst, .int .u32 ev.xfer, .int .u8 2, .int .u64 ev.arg, .int .u64 ev.badge, .slice xo ev.ws.length cx], 35, false⟩), (b14, ⟨[.int .u16 ((Z.ky x).idx), .int .u32 ((Z.ky x).gen)], 39, false⟩), (b75, ⟨[.int .u8 c.ty, .int .u16 c.obj.idx, .int .u32 c.obj.gen, .int .u8 c.rights, .int .u64 c.badge], 49, false⟩), (b142, ⟨[.int .u16 r.idx, .int .u32 r.gen], 39, false⟩)]) (φ := b142 = b142 ∧ Nat.ble (0 + 2) 2 = true) h145 rfl rfl rfl (by kernel_rfl) ⟨rfl, rfl⟩ fun w148 h149 => ?_
      refine ⟨keepNil, ?_⟩
      clear h145
      refine dr_batch tabOk2 tabZ_ok2 (by repeat (first | with_reducible exact PF.body | with_reducible apply PF.inB | with_reducible apply PF.next)) [(12, {})] [26, 6, 3, 0, 1, 4, 5, 7, 53, 66, 21, 22, 24, 25] (T' := [(26, .pointer (some ⟨b142, 0, none⟩)), (6, .pointer (some ⟨b14, 0, none⟩)), (3, .pointer (some ⟨b2, 0, none⟩)), (0, .pointer (some ⟨mb, 0, none⟩)), (1, .agg #[.int .u8 10, .int .u32 ev.pick, .int .u64 ev.draw, .int .u32 ev.addr, .int .u32 ev.node, .int .u32 ev.dst, .int .u32 ev.xfer, .int .u8 2, .int .u64 ev.arg, .int .u64 ev.badge, .slice xo ev.ws.length cx]), (4, .int .u8 0), (5, .bool false), (7, .pointer (some ⟨(Z.tp x), 0, none⟩)), (53, .int .u8 10), (66, .bool false), (21, .int .u8 0), (22, .int .i64 s1), (24, .int .i64 s2), (25, .int .u8 k)]) (φ := True) (fuel := 0) h149 (by kernel_rfl) rfl (by kernel_rfl) (by kernel_rfl) ⟨trivial, trivial⟩ trivial fun a150 h151 => ?_
      clear h149
      refine wpAnyK_done (by kernel_rfl) ?_ _
      refine hK127 _ _ ?_
      clear hK127
      refine wp_seq_k fun K152 hK152 => ?_
      refine wp_seq_k fun K153 hK153 => ?_
      refine nd_start (l := [0, 1]) rfl ?_
      refine nd_batch tabOk2 tabZ_ok2 [(0, {}), (1, {})] [26, 6, 3, 0, 1, 4, 5, 7, 53, 66, 21, 22, 24, 25, 351] (T' := [(26, .pointer (some ⟨b142, 0, none⟩)), (6, .pointer (some ⟨b14, 0, none⟩)), (3, .pointer (some ⟨b2, 0, none⟩)), (0, .pointer (some ⟨mb, 0, none⟩)), (1, .agg #[.int .u8 10, .int .u32 ev.pick, .int .u64 ev.draw, .int .u32 ev.addr, .int .u32 ev.node, .int .u32 ev.dst, .int .u32 ev.xfer, .int .u8 2, .int .u64 ev.arg, .int .u64 ev.badge, .slice xo ev.ws.length cx]), (4, .int .u8 0), (5, .bool false), (7, .pointer (some ⟨(Z.tp x), 0, none⟩)), (53, .int .u8 10), (66, .bool false), (21, .int .u8 0), (22, .int .i64 s1), (24, .int .i64 s2), (25, .int .u8 k), (351, .bool (k != 0))]) (φ := True) (rest := []) h151 (by kernel_rfl) rfl trivial fun a154 h155 => ?_
      clear h151
      refine nd_done ?_
      refine hK153 _ _ ?_
      clear hK153
      refine c_split h155 (b := (k != 0)) rfl (fun hc156 => ?_) (fun hc156 => ?_)
      ·
        have hc156f : k ≠ 0 := by simpa using hc156
        refine wp_seq_k fun K157 hK157 => ?_
        refine nd_start (l := [0, 1, 2]) rfl ?_
        refine nd_batch tabOk2 tabZ_ok2 [(0, {}), (1, {}), (2, {})] [26, 6, 3, 0, 1, 7, 53, 66, 21, 22, 24, 25, 4, 5] (T' := [(26, .pointer (some ⟨b142, 0, none⟩)), (6, .pointer (some ⟨b14, 0, none⟩)), (3, .pointer (some ⟨b2, 0, none⟩)), (0, .pointer (some ⟨mb, 0, none⟩)), (1, .agg #[.int .u8 10, .int .u32 ev.pick, .int .u64 ev.draw, .int .u32 ev.addr, .int .u32 ev.node, .int .u32 ev.dst, .int .u32 ev.xfer, .int .u8 2, .int .u64 ev.arg, .int .u64 ev.badge, .slice xo ev.ws.length cx]), (7, .pointer (some ⟨(Z.tp x), 0, none⟩)), (53, .int .u8 10), (66, .bool false), (21, .int .u8 0), (22, .int .i64 s1), (24, .int .i64 s2), (25, .int .u8 k), (4, .int .u8 k), (5, .bool false)]) (φ := True) (rest := []) h155 (by kernel_rfl) rfl trivial fun a158 h159 => ?_
        clear h155
        refine nd_done ?_
        refine hK157 _ _ ?_
        clear hK157
        refine wp_ret ?_
        try simp only [Exit.then, Exit.inBlock]
        try rw [if_pos trivial]
        exact s_ret tabOk2 tabZ_ok2 h159 [(.tmp 4, {}), (.tmp 5, {})] (vs := [.int .u8 k, .bool false]) (φ := True) rfl (by kernel_rfl) trivial ⟨rfl, _, mg_end hH h159 hhoh103 rfl⟩
      ·
        have hc156f : k = 0 := by simpa using hc156
        exact absurd hc156f hk0
    ·
      refine op_new tabOk2 (cells := [.int .u16 0, .int .u32 0]) (ty := 39) (ln := none) (L1 := fun b160 => [(3, ⟨[.int .u16 0, .int .u32 0], ty3, true⟩), (b2, ⟨[.int .u8 10, .int .u32 ev.pick, .int .u64 ev.draw, .int .u32 ev.addr, .int .u32 ev.node, .int .u32 ev.dst, .int .u32 ev.xfer, .int .u8 2, .int .u64 ev.arg, .int .u64 ev.badge, .slice xo ev.ws.length cx], 35, false⟩), (b14, ⟨[.int .u16 ((Z.ky x).idx), .int .u32 ((Z.ky x).gen)], 39, false⟩), (b75, ⟨[.int .u8 c.ty, .int .u16 c.obj.idx, .int .u32 c.obj.gen, .int .u8 c.rights, .int .u64 c.badge], 49, false⟩), (b160, ⟨[.int .u16 0, .int .u32 0], 39, false⟩)]) h135 rfl rfl rfl rfl (by kernel_rfl) (fun _ => rfl) fun b160 w161 a162 h163 hf164 hn165 => ?_
      refine ⟨(keepCons (kpLf h135.known hf164 (q := 1) rfl) (keepCons (kpM h135.inv.1 (l := .m) trivial (List.mem_cons_self ..) hf164) keepNil)), ?_⟩
      clear h135
      refine wpAnyK_one (i := 6) (fuel := 5) (by kernel_rfl) ?_
      refine op_call h163 rfl rfl rfl (callOk Tryd.func37 (by decide) rfl) (args := [.pointer (some ⟨Z.mo, 0, none⟩), .int .u8 2]) rfl (retypeC_ok Z.mo Z.mc Z.nd C 2 (by decide) _ h163.inv.1.cp er) ?_
      rintro _ w166 ⟨rfl, hc167, hf168⟩
      refine ⟨_, rfl, ?_⟩
      have h169a := st_cap h163 hc167 hf168 (fun b hb => .inl hb) (kcons (fun _ => rfl) (kcons (fun hq => by cases hq) (kcons (fun hq => by cases hq) (kcons (fun hq => by cases hq) (kcons (fun hq => by cases hq) knil)))))
      have h169 := h169a.put (d := some 347) (v := .tuple #[.agg #[.int .u16 r.idx, .int .u32 r.gen], .int .u8 k]) (T' := [(347, .tuple #[.agg #[.int .u16 r.idx, .int .u32 r.gen], .int .u8 k]), (26, .pointer (some ⟨b160, 0, none⟩)), (344, .pointer (some ⟨Z.mo, 0, none⟩)), (6, .pointer (some ⟨b14, 0, none⟩)), (3, .pointer (some ⟨b2, 0, none⟩)), (0, .pointer (some ⟨mb, 0, none⟩)), (1, .agg #[.int .u8 10, .int .u32 ev.pick, .int .u64 ev.draw, .int .u32 ev.addr, .int .u32 ev.node, .int .u32 ev.dst, .int .u32 ev.xfer, .int .u8 2, .int .u64 ev.arg, .int .u64 ev.badge, .slice xo ev.ws.length cx]), (4, .int .u8 0), (5, .bool false), (7, .pointer (some ⟨(Z.tp x), 0, none⟩)), (53, .int .u8 10), (66, .bool false), (21, .int .u8 0), (22, .int .i64 s1), (24, .int .i64 s2), (25, .int .u8 0), (346, .int .u8 2)]) rfl
      refine ⟨keepNil, ?_⟩
      clear h163 h169a
      refine dr_batch tabOk2 tabZ_ok2 (by repeat (first | with_reducible exact PF.body | with_reducible apply PF.inB | with_reducible apply PF.next)) [(7, {}), (8, {}), (9, {})] [26, 6, 3, 0, 1, 4, 5, 7, 53, 66, 21, 22, 24, 25, 348, 349] (T' := [(26, .pointer (some ⟨b160, 0, none⟩)), (6, .pointer (some ⟨b14, 0, none⟩)), (3, .pointer (some ⟨b2, 0, none⟩)), (0, .pointer (some ⟨mb, 0, none⟩)), (1, .agg #[.int .u8 10, .int .u32 ev.pick, .int .u64 ev.draw, .int .u32 ev.addr, .int .u32 ev.node, .int .u32 ev.dst, .int .u32 ev.xfer, .int .u8 2, .int .u64 ev.arg, .int .u64 ev.badge, .slice xo ev.ws.length cx]), (4, .int .u8 0), (5, .bool false), (7, .pointer (some ⟨(Z.tp x), 0, none⟩)), (53, .int .u8 10), (66, .bool false), (21, .int .u8 0), (22, .int .i64 s1), (24, .int .i64 s2), (25, .int .u8 0), (348, .agg #[.int .u16 r.idx, .int .u32 r.gen]), (349, .int .u8 k)]) (φ := True) (fuel := 2) h169 (by kernel_rfl) rfl (by kernel_rfl) (by kernel_rfl) ⟨trivial, trivial, trivial, trivial⟩ trivial fun a170 h171 => ?_
      clear h169
      refine wpAnyK_one (i := 11) (fuel := 1) (by kernel_rfl) ?_
      refine op_store tabOk2 {k := 4} (L' := [(3, ⟨[.int .u16 0, .int .u32 0], ty3, true⟩), (b2, ⟨[.int .u8 10, .int .u32 ev.pick, .int .u64 ev.draw, .int .u32 ev.addr, .int .u32 ev.node, .int .u32 ev.dst, .int .u32 ev.xfer, .int .u8 2, .int .u64 ev.arg, .int .u64 ev.badge, .slice xo ev.ws.length cx], 35, false⟩), (b14, ⟨[.int .u16 ((Z.ky x).idx), .int .u32 ((Z.ky x).gen)], 39, false⟩), (b75, ⟨[.int .u8 c.ty, .int .u16 c.obj.idx, .int .u32 c.obj.gen, .int .u8 c.rights, .int .u64 c.badge], 49, false⟩), (b160, ⟨[.int .u16 r.idx, .int .u32 r.gen], 39, false⟩)]) (φ := b160 = b160 ∧ Nat.ble (0 + 2) 2 = true) h171 rfl rfl rfl (by kernel_rfl) ⟨rfl, rfl⟩ fun w172 h173 => ?_
      refine ⟨keepNil, ?_⟩
      clear h171
      refine dr_batch tabOk2 tabZ_ok2 (by repeat (first | with_reducible exact PF.body | with_reducible apply PF.inB | with_reducible apply PF.next)) [(12, {})] [26, 6, 3, 0, 1, 4, 5, 7, 53, 66, 21, 22, 24, 25] (T' := [(26, .pointer (some ⟨b160, 0, none⟩)), (6, .pointer (some ⟨b14, 0, none⟩)), (3, .pointer (some ⟨b2, 0, none⟩)), (0, .pointer (some ⟨mb, 0, none⟩)), (1, .agg #[.int .u8 10, .int .u32 ev.pick, .int .u64 ev.draw, .int .u32 ev.addr, .int .u32 ev.node, .int .u32 ev.dst, .int .u32 ev.xfer, .int .u8 2, .int .u64 ev.arg, .int .u64 ev.badge, .slice xo ev.ws.length cx]), (4, .int .u8 0), (5, .bool false), (7, .pointer (some ⟨(Z.tp x), 0, none⟩)), (53, .int .u8 10), (66, .bool false), (21, .int .u8 0), (22, .int .i64 s1), (24, .int .i64 s2), (25, .int .u8 k)]) (φ := True) (fuel := 0) h173 (by kernel_rfl) rfl (by kernel_rfl) (by kernel_rfl) ⟨trivial, trivial⟩ trivial fun a174 h175 => ?_
      clear h173
      refine wpAnyK_done (by kernel_rfl) ?_ _
      refine hK127 _ _ ?_
      clear hK127
      refine wp_seq_k fun K176 hK176 => ?_
      refine wp_seq_k fun K177 hK177 => ?_
      refine nd_start (l := [0, 1]) rfl ?_
      refine nd_batch tabOk2 tabZ_ok2 [(0, {}), (1, {})] [26, 6, 3, 0, 1, 4, 5, 7, 53, 66, 21, 22, 24, 25, 351] (T' := [(26, .pointer (some ⟨b160, 0, none⟩)), (6, .pointer (some ⟨b14, 0, none⟩)), (3, .pointer (some ⟨b2, 0, none⟩)), (0, .pointer (some ⟨mb, 0, none⟩)), (1, .agg #[.int .u8 10, .int .u32 ev.pick, .int .u64 ev.draw, .int .u32 ev.addr, .int .u32 ev.node, .int .u32 ev.dst, .int .u32 ev.xfer, .int .u8 2, .int .u64 ev.arg, .int .u64 ev.badge, .slice xo ev.ws.length cx]), (4, .int .u8 0), (5, .bool false), (7, .pointer (some ⟨(Z.tp x), 0, none⟩)), (53, .int .u8 10), (66, .bool false), (21, .int .u8 0), (22, .int .i64 s1), (24, .int .i64 s2), (25, .int .u8 k), (351, .bool (k != 0))]) (φ := True) (rest := []) h175 (by kernel_rfl) rfl trivial fun a178 h179 => ?_
      clear h175
      refine nd_done ?_
      refine hK177 _ _ ?_
      clear hK177
      refine c_split h179 (b := (k != 0)) rfl (fun hc180 => ?_) (fun hc180 => ?_)
      ·
        have hc180f : k ≠ 0 := by simpa using hc180
        refine wp_seq_k fun K181 hK181 => ?_
        refine nd_start (l := [0, 1, 2]) rfl ?_
        refine nd_batch tabOk2 tabZ_ok2 [(0, {}), (1, {}), (2, {})] [26, 6, 3, 0, 1, 7, 53, 66, 21, 22, 24, 25, 4, 5] (T' := [(26, .pointer (some ⟨b160, 0, none⟩)), (6, .pointer (some ⟨b14, 0, none⟩)), (3, .pointer (some ⟨b2, 0, none⟩)), (0, .pointer (some ⟨mb, 0, none⟩)), (1, .agg #[.int .u8 10, .int .u32 ev.pick, .int .u64 ev.draw, .int .u32 ev.addr, .int .u32 ev.node, .int .u32 ev.dst, .int .u32 ev.xfer, .int .u8 2, .int .u64 ev.arg, .int .u64 ev.badge, .slice xo ev.ws.length cx]), (7, .pointer (some ⟨(Z.tp x), 0, none⟩)), (53, .int .u8 10), (66, .bool false), (21, .int .u8 0), (22, .int .i64 s1), (24, .int .i64 s2), (25, .int .u8 k), (4, .int .u8 k), (5, .bool false)]) (φ := True) (rest := []) h179 (by kernel_rfl) rfl trivial fun a182 h183 => ?_
        clear h179
        refine nd_done ?_
        refine hK181 _ _ ?_
        clear hK181
        refine wp_ret ?_
        try simp only [Exit.then, Exit.inBlock]
        try rw [if_pos trivial]
        exact s_ret tabOk2 tabZ_ok2 h183 [(.tmp 4, {}), (.tmp 5, {})] (vs := [.int .u8 k, .bool false]) (φ := True) rfl (by kernel_rfl) trivial ⟨rfl, _, mg_end hH h183 hhoh103 rfl⟩
      ·
        have hc180f : k = 0 := by simpa using hc180
        exact absurd hc180f hk0

theorem call10f3 (mb : Nat) (Z : MZ) (R : MR) (a : AK) (C : CP) (hI : MI Z a C) (x : Nat) (hx : x ∈ sl Z.tl) (hcu : a.cur = (x : Int)) (ev : Ev) (he : EvOk ev) (xo : Option Addr) (cx : Nat) (c : Cp) (cs0 : Int) (hf : findA a C ev.addr 1 2 = (c, cs0, 0)) (s1 : Int) (e1 : lookP C.ent (a.th x).cs ev.addr = (s1, 0)) (s2 : Int) (e2 : lookP C.ent (a.th x).cs ev.dst = (s2, 0)) (hz2 : (C.cel s2.toNat).cap.ty = 0) (E1 : Nat → Ent) (r : Rf) (k : Int) (er : retype0 C.ent 3 = (E1, r, k)) (hk0 : k ≠ 0) (w : World) (hH : MH mb Z R a C w) (hws : WordsAt (mdF mb Z R C) w xo ev.ws) :
    Calls Tryd.prog 55 #[.pointer (some ⟨mb, 0, none⟩), .agg #[.int .u8 10, .int .u32 ev.pick, .int .u64 ev.draw, .int .u32 ev.addr, .int .u32 ev.node, .int .u32 ev.dst, .int .u32 ev.xfer, .int .u8 3, .int .u64 ev.arg, .int .u64 ev.badge, .slice xo ev.ws.length cx]] w fun e w' => e = .returned (.tuple #[.int .u8 k, .bool false]) ∧ ∃ R', MG mb Z R C w Z R' a { C with ent := E1 } w' := by
  have hP := hI.mp
  have hcx : curR Z a = Z.ky x := curR_of hcu
  have hcn : a.cur.toNat = x := by rw [hcu]; exact Int.toNat_natCast x
  have hci := (hI.tk x hx).ci
  obtain ⟨ty3, hg3⟩ := hH.g3
  have hho := hH.ho
  have hkk := hH.md.k
  refine enter (n := 628) (K := mdF mb Z R C) (A := MD (mdF mb Z R C) w.heap.size mb Z R a C) (F := mdF mb Z R C) (T := [(0, .pointer (some ⟨mb, 0, none⟩)), (1, .agg #[.int .u8 10, .int .u32 ev.pick, .int .u64 ev.draw, .int .u32 ev.addr, .int .u32 ev.node, .int .u32 ev.dst, .int .u32 ev.xfer, .int .u8 3, .int .u64 ev.arg, .int .u64 ev.badge, .slice xo ev.ws.length cx])]) (L := [(3, ⟨[.int .u16 0, .int .u32 0], ty3, true⟩)]) (args := [.pointer (some ⟨mb, 0, none⟩), .agg #[.int .u8 10, .int .u32 ev.pick, .int .u64 ev.draw, .int .u32 ev.addr, .int .u32 ev.node, .int .u32 ev.dst, .int .u32 ev.xfer, .int .u8 3, .int .u64 ev.arg, .int .u64 ev.badge, .slice xo ev.ws.length cx]]) Tryd.func55 rfl rfl rfl rfl (kcons hg3 knil) (by simp) (kcons (by intro hq; cases hq) knil) hH.mD MD.stable hH.md.low (kcons (by intro hq; cases hq) knil) ?_
  intro ac h
  refine wp_seq_k fun K1 hK1 => ?_
  refine nd_start (l := [0, 1, 2]) rfl ?_
  refine nd_op ?_
  refine op_new tabOk2 (cells := [.int .u8 10, .int .u32 ev.pick, .int .u64 ev.draw, .int .u32 ev.addr, .int .u32 ev.node, .int .u32 ev.dst, .int .u32 ev.xfer, .int .u8 3, .int .u64 ev.arg, .int .u64 ev.badge, .slice xo ev.ws.length cx]) (ty := 35) (ln := none) (L1 := fun b2 => [(3, ⟨[.int .u16 0, .int .u32 0], ty3, true⟩), (b2, ⟨[.int .u8 10, .int .u32 ev.pick, .int .u64 ev.draw, .int .u32 ev.addr, .int .u32 ev.node, .int .u32 ev.dst, .int .u32 ev.xfer, .int .u8 3, .int .u64 ev.arg, .int .u64 ev.badge, .slice xo ev.ws.length cx], 35, false⟩)]) h rfl rfl rfl rfl (by kernel_rfl) (fun _ => rfl) fun b2 w3 a4 h5 hf6 hn7 => ?_
  clear h
  refine nd_batch tabOk2 tabZ_ok2 [(1, {}), (2, {})] [3, 0, 1, 4, 5] (T' := [(3, .pointer (some ⟨b2, 0, none⟩)), (0, .pointer (some ⟨mb, 0, none⟩)), (1, .agg #[.int .u8 10, .int .u32 ev.pick, .int .u64 ev.draw, .int .u32 ev.addr, .int .u32 ev.node, .int .u32 ev.dst, .int .u32 ev.xfer, .int .u8 3, .int .u64 ev.arg, .int .u64 ev.badge, .slice xo ev.ws.length cx]), (4, .int .u8 0), (5, .bool false)]) (φ := True) (rest := []) h5 (by kernel_rfl) rfl trivial fun a8 h9 => ?_
  clear h5
  refine nd_done ?_
  refine hK1 _ _ ?_
  clear hK1
  refine wp_seq_k fun K10 hK10 => ?_
  refine nd_start (l := [0, 1, 2, 3, 4, 5]) rfl ?_
  refine nd_batch tabOk2 tabZ_ok2 [(0, {}), (1, {}), (2, {})] [3, 0, 1, 4, 5, 44] (T' := [(3, .pointer (some ⟨b2, 0, none⟩)), (0, .pointer (some ⟨mb, 0, none⟩)), (1, .agg #[.int .u8 10, .int .u32 ev.pick, .int .u64 ev.draw, .int .u32 ev.addr, .int .u32 ev.node, .int .u32 ev.dst, .int .u32 ev.xfer, .int .u8 3, .int .u64 ev.arg, .int .u64 ev.badge, .slice xo ev.ws.length cx]), (4, .int .u8 0), (5, .bool false), (44, .pointer (some ⟨mb, 13, none⟩))]) (φ := True) (rest := [3, 4, 5]) h9 (by kernel_rfl) rfl trivial fun a11 h12 => ?_
  clear h9
  refine nd_op ?_
  refine op_read (b := mb) (v := .agg #[.int .u16 ((Z.ky x).idx), .int .u32 ((Z.ky x).gen)]) h12 rfl rfl (rd_mA h12 (k := 13) (vs := [.int .u16 ((Z.ky x).idx), .int .u32 ((Z.ky x).gen)]) rfl rfl rfl rfl rfl (by rw [← hcx]; exact md_cur)) ?_
  have h13 := h12.put (d := some 45) (v := .agg #[.int .u16 ((Z.ky x).idx), .int .u32 ((Z.ky x).gen)]) (T' := [(45, .agg #[.int .u16 ((Z.ky x).idx), .int .u32 ((Z.ky x).gen)]), (3, .pointer (some ⟨b2, 0, none⟩)), (0, .pointer (some ⟨mb, 0, none⟩)), (1, .agg #[.int .u8 10, .int .u32 ev.pick, .int .u64 ev.draw, .int .u32 ev.addr, .int .u32 ev.node, .int .u32 ev.dst, .int .u32 ev.xfer, .int .u8 3, .int .u64 ev.arg, .int .u64 ev.badge, .slice xo ev.ws.length cx]), (4, .int .u8 0), (5, .bool false), (44, .pointer (some ⟨mb, 13, none⟩))]) rfl
  clear h12
  refine nd_op ?_
  refine op_new tabOk2 (cells := [.int .u16 0, .int .u32 0]) (ty := 39) (ln := none) (L1 := fun b14 => [(3, ⟨[.int .u16 0, .int .u32 0], ty3, true⟩), (b2, ⟨[.int .u8 10, .int .u32 ev.pick, .int .u64 ev.draw, .int .u32 ev.addr, .int .u32 ev.node, .int .u32 ev.dst, .int .u32 ev.xfer, .int .u8 3, .int .u64 ev.arg, .int .u64 ev.badge, .slice xo ev.ws.length cx], 35, false⟩), (b14, ⟨[.int .u16 0, .int .u32 0], 39, false⟩)]) h13 rfl rfl rfl rfl (by kernel_rfl) (fun _ => rfl) fun b14 w15 a16 h17 hf18 hn19 => ?_
  clear h13
  refine nd_op ?_
  refine op_store tabOk2 {k := 2} (L' := [(3, ⟨[.int .u16 0, .int .u32 0], ty3, true⟩), (b2, ⟨[.int .u8 10, .int .u32 ev.pick, .int .u64 ev.draw, .int .u32 ev.addr, .int .u32 ev.node, .int .u32 ev.dst, .int .u32 ev.xfer, .int .u8 3, .int .u64 ev.arg, .int .u64 ev.badge, .slice xo ev.ws.length cx], 35, false⟩), (b14, ⟨[.int .u16 ((Z.ky x).idx), .int .u32 ((Z.ky x).gen)], 39, false⟩)]) (φ := b14 = b14 ∧ Nat.ble (0 + 2) 2 = true) h17 rfl rfl rfl (by kernel_rfl) ⟨rfl, rfl⟩ fun w20 h21 => ?_
  clear h17
  refine nd_done ?_
  refine hK10 _ _ ?_
  clear hK10
  refine wp_seq_k fun K22 hK22 => ?_
  refine dr_start (KB := [3, b2, b14, mb, Z.tb]) (Bi := [[0, 1, 2, 3, 4], [0, 1, 2, 3, 4], [0, 1, 2, 3, 4], [0, 1, 2, 3, 4], [0, 1, 2, 3, 4], [0, 1, 2, 3, 4], [0, 1, 2, 3, 4]]) mixed h21 fun w23 h24 => ?_
  clear h21
  refine dr_batch tabOk2 tabZ_ok2 (by repeat (first | with_reducible exact PF.body | with_reducible apply PF.inB | with_reducible apply PF.next)) [(0, {}), (1, {}), (2, {})] [6, 3, 0, 1, 4, 5, 48] (T' := [(6, .pointer (some ⟨b14, 0, none⟩)), (3, .pointer (some ⟨b2, 0, none⟩)), (0, .pointer (some ⟨mb, 0, none⟩)), (1, .agg #[.int .u8 10, .int .u32 ev.pick, .int .u64 ev.draw, .int .u32 ev.addr, .int .u32 ev.node, .int .u32 ev.dst, .int .u32 ev.xfer, .int .u8 3, .int .u64 ev.arg, .int .u64 ev.badge, .slice xo ev.ws.length cx]), (4, .int .u8 0), (5, .bool false), (48, .pointer (some ⟨mb, 2, none⟩))]) (φ := True) (fuel := 4) h24 (by kernel_rfl) rfl (by kernel_rfl) (by kernel_rfl) ⟨trivial, trivial, trivial, trivial⟩ trivial fun a26 h27 => ?_
  clear h24
  refine dr_read (i := 3) (b := mb) (p := 3) (v := .map (some Z.tb)) (fuel := 3) (by repeat (first | with_reducible exact PF.body | with_reducible apply PF.inB | with_reducible apply PF.next)) h27 rfl rfl rfl (by kernel_rfl) (by kernel_rfl) (by kernel_rfl) rfl (rd_m h27 (k := 2) (v := .map (some Z.tb)) rfl rfl rfl rfl (md_p ⟨rfl, trivial⟩)) ?_
  have h28 := h27.put (d := some 49) (v := .map (some Z.tb)) (T' := [(49, .map (some Z.tb)), (6, .pointer (some ⟨b14, 0, none⟩)), (3, .pointer (some ⟨b2, 0, none⟩)), (0, .pointer (some ⟨mb, 0, none⟩)), (1, .agg #[.int .u8 10, .int .u32 ev.pick, .int .u64 ev.draw, .int .u32 ev.addr, .int .u32 ev.node, .int .u32 ev.dst, .int .u32 ev.xfer, .int .u8 3, .int .u64 ev.arg, .int .u64 ev.badge, .slice xo ev.ws.length cx]), (4, .int .u8 0), (5, .bool false), (48, .pointer (some ⟨mb, 2, none⟩))]) rfl
  clear h27
  refine dr_batch tabOk2 tabZ_ok2 (by repeat (first | with_reducible exact PF.body | with_reducible apply PF.inB | with_reducible apply PF.next)) [(4, {k := 2, p := 2})] [49, 6, 3, 0, 1, 4, 5, 50] (T' := [(49, .map (some Z.tb)), (6, .pointer (some ⟨b14, 0, none⟩)), (3, .pointer (some ⟨b2, 0, none⟩)), (0, .pointer (some ⟨mb, 0, none⟩)), (1, .agg #[.int .u8 10, .int .u32 ev.pick, .int .u64 ev.draw, .int .u32 ev.addr, .int .u32 ev.node, .int .u32 ev.dst, .int .u32 ev.xfer, .int .u8 3, .int .u64 ev.arg, .int .u64 ev.badge, .slice xo ev.ws.length cx]), (4, .int .u8 0), (5, .bool false), (50, .agg #[.int .u16 ((Z.ky x).idx), .int .u32 ((Z.ky x).gen)])]) (φ := (b14 = b14 ∧ Nat.ble (0 + 2) 2 = true) ∧ True) (fuel := 2) h28 (by kernel_rfl) rfl (by kernel_rfl) (by kernel_rfl) ⟨rfl, trivial⟩ ⟨⟨rfl, rfl⟩, trivial⟩ fun a29 h30 => ?_
  clear h28
  refine dr_read (i := 5) (b := Z.tb) (p := 4) (v := .pointer (some ⟨(Z.tp x), 0, none⟩)) (fuel := 1) (by repeat (first | with_reducible exact PF.body | with_reducible apply PF.inB | with_reducible apply PF.next)) h30 rfl rfl rfl (by kernel_rfl) (by kernel_rfl) (by kernel_rfl) rfl (rd_T h30 (x := x) hx rfl rfl rfl) ?_
  have h31 := h30.put (d := some 51) (v := .pointer (some ⟨(Z.tp x), 0, none⟩)) (T' := [(51, .pointer (some ⟨(Z.tp x), 0, none⟩)), (49, .map (some Z.tb)), (6, .pointer (some ⟨b14, 0, none⟩)), (3, .pointer (some ⟨b2, 0, none⟩)), (0, .pointer (some ⟨mb, 0, none⟩)), (1, .agg #[.int .u8 10, .int .u32 ev.pick, .int .u64 ev.draw, .int .u32 ev.addr, .int .u32 ev.node, .int .u32 ev.dst, .int .u32 ev.xfer, .int .u8 3, .int .u64 ev.arg, .int .u64 ev.badge, .slice xo ev.ws.length cx]), (4, .int .u8 0), (5, .bool false), (50, .agg #[.int .u16 ((Z.ky x).idx), .int .u32 ((Z.ky x).gen)])]) rfl
  clear h30
  refine dr_batch tabOk2 tabZ_ok2 (by repeat (first | with_reducible exact PF.body | with_reducible apply PF.inB | with_reducible apply PF.next)) [(6, {})] [6, 3, 0, 1, 4, 5, 7] (T' := [(6, .pointer (some ⟨b14, 0, none⟩)), (3, .pointer (some ⟨b2, 0, none⟩)), (0, .pointer (some ⟨mb, 0, none⟩)), (1, .agg #[.int .u8 10, .int .u32 ev.pick, .int .u64 ev.draw, .int .u32 ev.addr, .int .u32 ev.node, .int .u32 ev.dst, .int .u32 ev.xfer, .int .u8 3, .int .u64 ev.arg, .int .u64 ev.badge, .slice xo ev.ws.length cx]), (4, .int .u8 0), (5, .bool false), (7, .pointer (some ⟨(Z.tp x), 0, none⟩))]) (φ := True) (fuel := 0) h31 (by kernel_rfl) rfl (by kernel_rfl) (by kernel_rfl) ⟨trivial, trivial⟩ trivial fun a32 h33 => ?_
  clear h31
  refine wpAnyK_done (by kernel_rfl) ?_ _
  refine hK22 _ _ ?_
  clear hK22
  refine wp_seq_k fun K34 hK34 => ?_
  refine wp_seq_k fun K35 hK35 => ?_
  refine nd_start (l := [0, 1]) rfl ?_
  refine nd_batch tabOk2 tabZ_ok2 [(0, {}), (1, {k := 1})] [6, 3, 0, 1, 4, 5, 7, 53] (T' := [(6, .pointer (some ⟨b14, 0, none⟩)), (3, .pointer (some ⟨b2, 0, none⟩)), (0, .pointer (some ⟨mb, 0, none⟩)), (1, .agg #[.int .u8 10, .int .u32 ev.pick, .int .u64 ev.draw, .int .u32 ev.addr, .int .u32 ev.node, .int .u32 ev.dst, .int .u32 ev.xfer, .int .u8 3, .int .u64 ev.arg, .int .u64 ev.badge, .slice xo ev.ws.length cx]), (4, .int .u8 0), (5, .bool false), (7, .pointer (some ⟨(Z.tp x), 0, none⟩)), (53, .int .u8 10)]) (φ := (b2 = b2 ∧ Nat.ble (0 + 1) 11 = true) ∧ True) (rest := []) h33 (by kernel_rfl) rfl ⟨⟨rfl, rfl⟩, trivial⟩ fun a36 h37 => ?_
  clear h33
  refine nd_done ?_
  refine hK35 _ _ ?_
  clear hK35
  refine wp_block ?_
  refine wp_seq_k fun K38 hK38 => ?_
  refine nd_start (l := [0, 1]) rfl ?_
  refine nd_batch tabOk2 tabZ_ok2 [(0, {}), (1, {})] [6, 3, 0, 1, 4, 5, 7, 53, 54] (T' := [(6, .pointer (some ⟨b14, 0, none⟩)), (3, .pointer (some ⟨b2, 0, none⟩)), (0, .pointer (some ⟨mb, 0, none⟩)), (1, .agg #[.int .u8 10, .int .u32 ev.pick, .int .u64 ev.draw, .int .u32 ev.addr, .int .u32 ev.node, .int .u32 ev.dst, .int .u32 ev.xfer, .int .u8 3, .int .u64 ev.arg, .int .u64 ev.badge, .slice xo ev.ws.length cx]), (4, .int .u8 0), (5, .bool false), (7, .pointer (some ⟨(Z.tp x), 0, none⟩)), (53, .int .u8 10), (54, .bool false)]) (φ := True) (rest := []) h37 (by kernel_rfl) rfl trivial fun a39 h40 => ?_
  clear h37
  refine nd_done ?_
  refine hK38 _ _ ?_
  clear hK38
  refine c_false h40 rfl ?_
  refine wp_seq_k fun K41 hK41 => ?_
  refine nd_start (l := [0, 1]) rfl ?_
  refine nd_batch tabOk2 tabZ_ok2 [(0, {}), (1, {})] [6, 3, 0, 1, 4, 5, 7, 53, 59] (T' := [(6, .pointer (some ⟨b14, 0, none⟩)), (3, .pointer (some ⟨b2, 0, none⟩)), (0, .pointer (some ⟨mb, 0, none⟩)), (1, .agg #[.int .u8 10, .int .u32 ev.pick, .int .u64 ev.draw, .int .u32 ev.addr, .int .u32 ev.node, .int .u32 ev.dst, .int .u32 ev.xfer, .int .u8 3, .int .u64 ev.arg, .int .u64 ev.badge, .slice xo ev.ws.length cx]), (4, .int .u8 0), (5, .bool false), (7, .pointer (some ⟨(Z.tp x), 0, none⟩)), (53, .int .u8 10), (59, .bool false)]) (φ := True) (rest := []) h40 (by kernel_rfl) rfl trivial fun a42 h43 => ?_
  clear h40
  refine nd_done ?_
  refine hK41 _ _ ?_
  clear hK41
  refine c_false h43 rfl ?_
  refine wp_seq_k fun K44 hK44 => ?_
  refine wp_seq_k fun K45 hK45 => ?_
  refine nd_start (l := [0, 1]) rfl ?_
  refine nd_batch tabOk2 tabZ_ok2 [(0, {}), (1, {})] [6, 3, 0, 1, 4, 5, 7, 53, 66] (T' := [(6, .pointer (some ⟨b14, 0, none⟩)), (3, .pointer (some ⟨b2, 0, none⟩)), (0, .pointer (some ⟨mb, 0, none⟩)), (1, .agg #[.int .u8 10, .int .u32 ev.pick, .int .u64 ev.draw, .int .u32 ev.addr, .int .u32 ev.node, .int .u32 ev.dst, .int .u32 ev.xfer, .int .u8 3, .int .u64 ev.arg, .int .u64 ev.badge, .slice xo ev.ws.length cx]), (4, .int .u8 0), (5, .bool false), (7, .pointer (some ⟨(Z.tp x), 0, none⟩)), (53, .int .u8 10), (66, .bool false)]) (φ := True) (rest := []) h43 (by kernel_rfl) rfl trivial fun a46 h47 => ?_
  clear h43
  refine nd_done ?_
  refine hK45 _ _ ?_
  clear hK45
  refine c_false h47 rfl ?_
  refine nd_start (l := [0, 1]) rfl ?_
  refine nd_batch tabOk2 tabZ_ok2 [(0, {}), (1, {})] [6, 3, 0, 1, 4, 5, 7, 53, 66] (T' := [(6, .pointer (some ⟨b14, 0, none⟩)), (3, .pointer (some ⟨b2, 0, none⟩)), (0, .pointer (some ⟨mb, 0, none⟩)), (1, .agg #[.int .u8 10, .int .u32 ev.pick, .int .u64 ev.draw, .int .u32 ev.addr, .int .u32 ev.node, .int .u32 ev.dst, .int .u32 ev.xfer, .int .u8 3, .int .u64 ev.arg, .int .u64 ev.badge, .slice xo ev.ws.length cx]), (4, .int .u8 0), (5, .bool false), (7, .pointer (some ⟨(Z.tp x), 0, none⟩)), (53, .int .u8 10), (66, .bool false)]) (φ := True) (rest := []) h47 (by kernel_rfl) rfl trivial fun a48 h49 => ?_
  clear h47
  refine nd_done ?_
  refine hK44 _ _ ?_
  clear hK44
  refine c_false h49 rfl ?_
  refine wp_seq_k fun K50 hK50 => ?_
  refine nd_start (l := [0, 1]) rfl ?_
  refine nd_batch tabOk2 tabZ_ok2 [(0, {}), (1, {})] [6, 3, 0, 1, 4, 5, 7, 53, 66, 129] (T' := [(6, .pointer (some ⟨b14, 0, none⟩)), (3, .pointer (some ⟨b2, 0, none⟩)), (0, .pointer (some ⟨mb, 0, none⟩)), (1, .agg #[.int .u8 10, .int .u32 ev.pick, .int .u64 ev.draw, .int .u32 ev.addr, .int .u32 ev.node, .int .u32 ev.dst, .int .u32 ev.xfer, .int .u8 3, .int .u64 ev.arg, .int .u64 ev.badge, .slice xo ev.ws.length cx]), (4, .int .u8 0), (5, .bool false), (7, .pointer (some ⟨(Z.tp x), 0, none⟩)), (53, .int .u8 10), (66, .bool false), (129, .bool false)]) (φ := True) (rest := []) h49 (by kernel_rfl) rfl trivial fun a51 h52 => ?_
  clear h49
  refine nd_done ?_
  refine hK50 _ _ ?_
  clear hK50
  refine c_false h52 rfl ?_
  refine wp_seq_k fun K53 hK53 => ?_
  refine nd_start (l := [0, 1]) rfl ?_
  refine nd_batch tabOk2 tabZ_ok2 [(0, {}), (1, {})] [6, 3, 0, 1, 4, 5, 7, 53, 66, 165] (T' := [(6, .pointer (some ⟨b14, 0, none⟩)), (3, .pointer (some ⟨b2, 0, none⟩)), (0, .pointer (some ⟨mb, 0, none⟩)), (1, .agg #[.int .u8 10, .int .u32 ev.pick, .int .u64 ev.draw, .int .u32 ev.addr, .int .u32 ev.node, .int .u32 ev.dst, .int .u32 ev.xfer, .int .u8 3, .int .u64 ev.arg, .int .u64 ev.badge, .slice xo ev.ws.length cx]), (4, .int .u8 0), (5, .bool false), (7, .pointer (some ⟨(Z.tp x), 0, none⟩)), (53, .int .u8 10), (66, .bool false), (165, .bool false)]) (φ := True) (rest := []) h52 (by kernel_rfl) rfl trivial fun a54 h55 => ?_
  clear h52
  refine nd_done ?_
  refine hK53 _ _ ?_
  clear hK53
  refine c_false h55 rfl ?_
  refine wp_seq_k fun K56 hK56 => ?_
  refine nd_start (l := [0, 1]) rfl ?_
  refine nd_batch tabOk2 tabZ_ok2 [(0, {}), (1, {})] [6, 3, 0, 1, 4, 5, 7, 53, 66, 226] (T' := [(6, .pointer (some ⟨b14, 0, none⟩)), (3, .pointer (some ⟨b2, 0, none⟩)), (0, .pointer (some ⟨mb, 0, none⟩)), (1, .agg #[.int .u8 10, .int .u32 ev.pick, .int .u64 ev.draw, .int .u32 ev.addr, .int .u32 ev.node, .int .u32 ev.dst, .int .u32 ev.xfer, .int .u8 3, .int .u64 ev.arg, .int .u64 ev.badge, .slice xo ev.ws.length cx]), (4, .int .u8 0), (5, .bool false), (7, .pointer (some ⟨(Z.tp x), 0, none⟩)), (53, .int .u8 10), (66, .bool false), (226, .bool false)]) (φ := True) (rest := []) h55 (by kernel_rfl) rfl trivial fun a57 h58 => ?_
  clear h55
  refine nd_done ?_
  refine hK56 _ _ ?_
  clear hK56
  refine c_false h58 rfl ?_
  refine wp_seq_k fun K59 hK59 => ?_
  refine nd_start (l := [0, 1]) rfl ?_
  refine nd_batch tabOk2 tabZ_ok2 [(0, {}), (1, {})] [6, 3, 0, 1, 4, 5, 7, 53, 66, 244] (T' := [(6, .pointer (some ⟨b14, 0, none⟩)), (3, .pointer (some ⟨b2, 0, none⟩)), (0, .pointer (some ⟨mb, 0, none⟩)), (1, .agg #[.int .u8 10, .int .u32 ev.pick, .int .u64 ev.draw, .int .u32 ev.addr, .int .u32 ev.node, .int .u32 ev.dst, .int .u32 ev.xfer, .int .u8 3, .int .u64 ev.arg, .int .u64 ev.badge, .slice xo ev.ws.length cx]), (4, .int .u8 0), (5, .bool false), (7, .pointer (some ⟨(Z.tp x), 0, none⟩)), (53, .int .u8 10), (66, .bool false), (244, .bool false)]) (φ := True) (rest := []) h58 (by kernel_rfl) rfl trivial fun a60 h61 => ?_
  clear h58
  refine nd_done ?_
  refine hK59 _ _ ?_
  clear hK59
  refine c_false h61 rfl ?_
  refine wp_seq_k fun K62 hK62 => ?_
  refine nd_start (l := [0, 1]) rfl ?_
  refine nd_batch tabOk2 tabZ_ok2 [(0, {}), (1, {})] [6, 3, 0, 1, 4, 5, 7, 53, 66, 285] (T' := [(6, .pointer (some ⟨b14, 0, none⟩)), (3, .pointer (some ⟨b2, 0, none⟩)), (0, .pointer (some ⟨mb, 0, none⟩)), (1, .agg #[.int .u8 10, .int .u32 ev.pick, .int .u64 ev.draw, .int .u32 ev.addr, .int .u32 ev.node, .int .u32 ev.dst, .int .u32 ev.xfer, .int .u8 3, .int .u64 ev.arg, .int .u64 ev.badge, .slice xo ev.ws.length cx]), (4, .int .u8 0), (5, .bool false), (7, .pointer (some ⟨(Z.tp x), 0, none⟩)), (53, .int .u8 10), (66, .bool false), (285, .bool true)]) (φ := True) (rest := []) h61 (by kernel_rfl) rfl trivial fun a63 h64 => ?_
  clear h61
  refine nd_done ?_
  refine hK62 _ _ ?_
  clear hK62
  refine c_true h64 rfl ?_
  refine wp_seq_k fun K65 hK65 => ?_
  refine wp_seq_k fun K66 hK66 => ?_
  refine nd_start (l := [0, 1, 2, 3, 4, 5, 6, 7, 8, 9]) rfl ?_
  refine nd_batch tabOk2 tabZ_ok2 [(0, {}), (1, {}), (2, {k := 1})] [6, 3, 0, 1, 4, 5, 7, 53, 66, 288, 290] (T' := [(6, .pointer (some ⟨b14, 0, none⟩)), (3, .pointer (some ⟨b2, 0, none⟩)), (0, .pointer (some ⟨mb, 0, none⟩)), (1, .agg #[.int .u8 10, .int .u32 ev.pick, .int .u64 ev.draw, .int .u32 ev.addr, .int .u32 ev.node, .int .u32 ev.dst, .int .u32 ev.xfer, .int .u8 3, .int .u64 ev.arg, .int .u64 ev.badge, .slice xo ev.ws.length cx]), (4, .int .u8 0), (5, .bool false), (7, .pointer (some ⟨(Z.tp x), 0, none⟩)), (53, .int .u8 10), (66, .bool false), (288, .pointer (some ⟨mb, 0, none⟩)), (290, .int .u32 ev.addr)]) (φ := (b2 = b2 ∧ Nat.ble (3 + 1) 11 = true) ∧ True) (rest := [3, 4, 5, 6, 7, 8, 9]) h64 (by kernel_rfl) rfl ⟨⟨rfl, rfl⟩, trivial⟩ fun a67 h68 => ?_
  clear h64
  refine nd_op ?_
  refine op_call h68 rfl rfl rfl (callOk Tryd.func90 (by decide) rfl) (args := [.pointer (some ⟨mb, 0, none⟩), .int .u32 ev.addr, .int .u8 1, .int .u8 2]) rfl (capOf_ok mb Z _ a C x hx hcx hci hcn hI.ci ev.addr 1 2 he.addr _ (mh_of h68 hho (k := 0) rfl) hf) ?_
  rintro _ w69 ⟨rfl, hg71⟩
  refine ⟨_, rfl, ?_⟩
  have h72a := st_mg h68 hg71 (kcons (fun _ => rfl) (kcons (fun hq => by cases hq) (kcons (fun hq => by cases hq) knil)))
  have h72 := h72a.put (d := some 291) (v := .tuple #[.agg #[.int .u8 c.ty, .int .u16 c.obj.idx, .int .u32 c.obj.gen, .int .u8 c.rights, .int .u64 c.badge], .int .u8 0]) (T' := [(291, .tuple #[.agg #[.int .u8 c.ty, .int .u16 c.obj.idx, .int .u32 c.obj.gen, .int .u8 c.rights, .int .u64 c.badge], .int .u8 0]), (6, .pointer (some ⟨b14, 0, none⟩)), (3, .pointer (some ⟨b2, 0, none⟩)), (0, .pointer (some ⟨mb, 0, none⟩)), (1, .agg #[.int .u8 10, .int .u32 ev.pick, .int .u64 ev.draw, .int .u32 ev.addr, .int .u32 ev.node, .int .u32 ev.dst, .int .u32 ev.xfer, .int .u8 3, .int .u64 ev.arg, .int .u64 ev.badge, .slice xo ev.ws.length cx]), (4, .int .u8 0), (5, .bool false), (7, .pointer (some ⟨(Z.tp x), 0, none⟩)), (53, .int .u8 10), (66, .bool false), (288, .pointer (some ⟨mb, 0, none⟩)), (290, .int .u32 ev.addr)]) rfl
  have hhoh72 := hg71.mh.ho
  clear h68 h72a
  refine nd_batch tabOk2 tabZ_ok2 [(4, {}), (5, {}), (6, {})] [6, 3, 0, 1, 4, 5, 7, 53, 66, 292, 293] (T' := [(6, .pointer (some ⟨b14, 0, none⟩)), (3, .pointer (some ⟨b2, 0, none⟩)), (0, .pointer (some ⟨mb, 0, none⟩)), (1, .agg #[.int .u8 10, .int .u32 ev.pick, .int .u64 ev.draw, .int .u32 ev.addr, .int .u32 ev.node, .int .u32 ev.dst, .int .u32 ev.xfer, .int .u8 3, .int .u64 ev.arg, .int .u64 ev.badge, .slice xo ev.ws.length cx]), (4, .int .u8 0), (5, .bool false), (7, .pointer (some ⟨(Z.tp x), 0, none⟩)), (53, .int .u8 10), (66, .bool false), (292, .agg #[.int .u8 c.ty, .int .u16 c.obj.idx, .int .u32 c.obj.gen, .int .u8 c.rights, .int .u64 c.badge]), (293, .int .u8 0)]) (φ := True) (rest := [7, 8, 9]) h72 (by kernel_rfl) rfl trivial fun a73 h74 => ?_
  clear h72
  refine nd_op ?_
  refine op_new tabOk2 (cells := [.int .u8 0, .int .u16 0, .int .u32 0, .int .u8 0, .int .u64 0]) (ty := 49) (ln := none) (L1 := fun b75 => [(3, ⟨[.int .u16 0, .int .u32 0], ty3, true⟩), (b2, ⟨[.int .u8 10, .int .u32 ev.pick, .int .u64 ev.draw, .int .u32 ev.addr, .int .u32 ev.node, .int .u32 ev.dst, .int .u32 ev.xfer, .int .u8 3, .int .u64 ev.arg, .int .u64 ev.badge, .slice xo ev.ws.length cx], 35, false⟩), (b14, ⟨[.int .u16 ((Z.ky x).idx), .int .u32 ((Z.ky x).gen)], 39, false⟩), (b75, ⟨[.int .u8 0, .int .u16 0, .int .u32 0, .int .u8 0, .int .u64 0], 49, false⟩)]) h74 rfl rfl rfl rfl (by kernel_rfl) (fun _ => rfl) fun b75 w76 a77 h78 hf79 hn80 => ?_
  clear h74
  refine nd_op ?_
  refine op_store tabOk2 {k := 3} (L' := [(3, ⟨[.int .u16 0, .int .u32 0], ty3, true⟩), (b2, ⟨[.int .u8 10, .int .u32 ev.pick, .int .u64 ev.draw, .int .u32 ev.addr, .int .u32 ev.node, .int .u32 ev.dst, .int .u32 ev.xfer, .int .u8 3, .int .u64 ev.arg, .int .u64 ev.badge, .slice xo ev.ws.length cx], 35, false⟩), (b14, ⟨[.int .u16 ((Z.ky x).idx), .int .u32 ((Z.ky x).gen)], 39, false⟩), (b75, ⟨[.int .u8 c.ty, .int .u16 c.obj.idx, .int .u32 c.obj.gen, .int .u8 c.rights, .int .u64 c.badge], 49, false⟩)]) (φ := b75 = b75 ∧ Nat.ble (0 + 5) 5 = true) h78 rfl rfl rfl (by kernel_rfl) ⟨rfl, rfl⟩ fun w81 h82 => ?_
  clear h78
  refine nd_batch tabOk2 tabZ_ok2 [(9, {})] [6, 3, 0, 1, 4, 5, 7, 53, 66, 21] (T' := [(6, .pointer (some ⟨b14, 0, none⟩)), (3, .pointer (some ⟨b2, 0, none⟩)), (0, .pointer (some ⟨mb, 0, none⟩)), (1, .agg #[.int .u8 10, .int .u32 ev.pick, .int .u64 ev.draw, .int .u32 ev.addr, .int .u32 ev.node, .int .u32 ev.dst, .int .u32 ev.xfer, .int .u8 3, .int .u64 ev.arg, .int .u64 ev.badge, .slice xo ev.ws.length cx]), (4, .int .u8 0), (5, .bool false), (7, .pointer (some ⟨(Z.tp x), 0, none⟩)), (53, .int .u8 10), (66, .bool false), (21, .int .u8 0)]) (φ := True) (rest := []) h82 (by kernel_rfl) rfl trivial fun a83 h84 => ?_
  clear h82
  refine nd_done ?_
  refine hK66 _ _ ?_
  clear hK66
  refine wp_seq_k fun K85 hK85 => ?_
  refine nd_start (l := [0, 1]) rfl ?_
  refine nd_batch tabOk2 tabZ_ok2 [(0, {}), (1, {})] [6, 3, 0, 1, 4, 5, 7, 53, 66, 21, 295] (T' := [(6, .pointer (some ⟨b14, 0, none⟩)), (3, .pointer (some ⟨b2, 0, none⟩)), (0, .pointer (some ⟨mb, 0, none⟩)), (1, .agg #[.int .u8 10, .int .u32 ev.pick, .int .u64 ev.draw, .int .u32 ev.addr, .int .u32 ev.node, .int .u32 ev.dst, .int .u32 ev.xfer, .int .u8 3, .int .u64 ev.arg, .int .u64 ev.badge, .slice xo ev.ws.length cx]), (4, .int .u8 0), (5, .bool false), (7, .pointer (some ⟨(Z.tp x), 0, none⟩)), (53, .int .u8 10), (66, .bool false), (21, .int .u8 0), (295, .bool false)]) (φ := True) (rest := []) h84 (by kernel_rfl) rfl trivial fun a86 h87 => ?_
  clear h84
  refine nd_done ?_
  refine hK85 _ _ ?_
  clear hK85
  refine c_false h87 rfl ?_
  refine wp_skip ?_
  refine hK65 _ _ ?_
  clear hK65
  refine wp_seq_k fun K88 hK88 => ?_
  refine nd_start (l := [0, 1, 2, 3, 4, 5, 6, 7, 8]) rfl ?_
  refine nd_batch tabOk2 tabZ_ok2 [(0, {}), (1, {}), (2, {k := 1})] [6, 3, 0, 1, 4, 5, 7, 53, 66, 21, 298, 300] (T' := [(6, .pointer (some ⟨b14, 0, none⟩)), (3, .pointer (some ⟨b2, 0, none⟩)), (0, .pointer (some ⟨mb, 0, none⟩)), (1, .agg #[.int .u8 10, .int .u32 ev.pick, .int .u64 ev.draw, .int .u32 ev.addr, .int .u32 ev.node, .int .u32 ev.dst, .int .u32 ev.xfer, .int .u8 3, .int .u64 ev.arg, .int .u64 ev.badge, .slice xo ev.ws.length cx]), (4, .int .u8 0), (5, .bool false), (7, .pointer (some ⟨(Z.tp x), 0, none⟩)), (53, .int .u8 10), (66, .bool false), (21, .int .u8 0), (298, .pointer (some ⟨mb, 0, none⟩)), (300, .int .u32 ev.addr)]) (φ := (b2 = b2 ∧ Nat.ble (3 + 1) 11 = true) ∧ True) (rest := [3, 4, 5, 6, 7, 8]) h87 (by kernel_rfl) rfl ⟨⟨rfl, rfl⟩, trivial⟩ fun a89 h90 => ?_
  clear h87
  refine nd_op ?_
  refine op_call h90 rfl rfl rfl (callOk Tryd.func93 (by decide) rfl) (args := [.pointer (some ⟨mb, 0, none⟩), .int .u32 ev.addr]) rfl (cellOf_ok mb Z _ a C x hx hcx hci ev.addr he.addr e1 _ (mh_of h90 hhoh72 (k := 0) rfl)) ?_
  rintro _ w91 ⟨rfl, hg93⟩
  refine ⟨_, rfl, ?_⟩
  have h94a := st_mg h90 hg93 (kcons (fun _ => rfl) (kcons (fun hq => by cases hq) (kcons (fun hq => by cases hq) (kcons (fun hq => by cases hq) knil))))
  have h94 := h94a.put (d := some 301) (v := .tuple #[.int .i64 s1, .int .u8 0]) (T' := [(301, .tuple #[.int .i64 s1, .int .u8 0]), (6, .pointer (some ⟨b14, 0, none⟩)), (3, .pointer (some ⟨b2, 0, none⟩)), (0, .pointer (some ⟨mb, 0, none⟩)), (1, .agg #[.int .u8 10, .int .u32 ev.pick, .int .u64 ev.draw, .int .u32 ev.addr, .int .u32 ev.node, .int .u32 ev.dst, .int .u32 ev.xfer, .int .u8 3, .int .u64 ev.arg, .int .u64 ev.badge, .slice xo ev.ws.length cx]), (4, .int .u8 0), (5, .bool false), (7, .pointer (some ⟨(Z.tp x), 0, none⟩)), (53, .int .u8 10), (66, .bool false), (21, .int .u8 0), (298, .pointer (some ⟨mb, 0, none⟩)), (300, .int .u32 ev.addr)]) rfl
  have hhoh94 := hg93.mh.ho
  clear h90 h94a
  refine nd_batch tabOk2 tabZ_ok2 [(4, {}), (5, {}), (6, {}), (7, {}), (8, {})] [6, 3, 0, 1, 4, 5, 7, 53, 66, 21, 22] (T' := [(6, .pointer (some ⟨b14, 0, none⟩)), (3, .pointer (some ⟨b2, 0, none⟩)), (0, .pointer (some ⟨mb, 0, none⟩)), (1, .agg #[.int .u8 10, .int .u32 ev.pick, .int .u64 ev.draw, .int .u32 ev.addr, .int .u32 ev.node, .int .u32 ev.dst, .int .u32 ev.xfer, .int .u8 3, .int .u64 ev.arg, .int .u64 ev.badge, .slice xo ev.ws.length cx]), (4, .int .u8 0), (5, .bool false), (7, .pointer (some ⟨(Z.tp x), 0, none⟩)), (53, .int .u8 10), (66, .bool false), (21, .int .u8 0), (22, .int .i64 s1)]) (φ := True) (rest := []) h94 (by kernel_rfl) rfl trivial fun a95 h96 => ?_
  clear h94
  refine nd_done ?_
  refine hK88 _ _ ?_
  clear hK88
  refine wp_seq_k fun K97 hK97 => ?_
  refine nd_start (l := [0, 1, 2, 3, 4, 5, 6, 7, 8]) rfl ?_
  refine nd_batch tabOk2 tabZ_ok2 [(0, {}), (1, {}), (2, {k := 1})] [6, 3, 0, 1, 4, 5, 7, 53, 66, 21, 22, 305, 307] (T' := [(6, .pointer (some ⟨b14, 0, none⟩)), (3, .pointer (some ⟨b2, 0, none⟩)), (0, .pointer (some ⟨mb, 0, none⟩)), (1, .agg #[.int .u8 10, .int .u32 ev.pick, .int .u64 ev.draw, .int .u32 ev.addr, .int .u32 ev.node, .int .u32 ev.dst, .int .u32 ev.xfer, .int .u8 3, .int .u64 ev.arg, .int .u64 ev.badge, .slice xo ev.ws.length cx]), (4, .int .u8 0), (5, .bool false), (7, .pointer (some ⟨(Z.tp x), 0, none⟩)), (53, .int .u8 10), (66, .bool false), (21, .int .u8 0), (22, .int .i64 s1), (305, .pointer (some ⟨mb, 0, none⟩)), (307, .int .u32 ev.dst)]) (φ := (b2 = b2 ∧ Nat.ble (5 + 1) 11 = true) ∧ True) (rest := [3, 4, 5, 6, 7, 8]) h96 (by kernel_rfl) rfl ⟨⟨rfl, rfl⟩, trivial⟩ fun a98 h99 => ?_
  clear h96
  refine nd_op ?_
  refine op_call h99 rfl rfl rfl (callOk Tryd.func93 (by decide) rfl) (args := [.pointer (some ⟨mb, 0, none⟩), .int .u32 ev.dst]) rfl (cellOf_ok mb Z _ a C x hx hcx hci ev.dst he.dst e2 _ (mh_of h99 hhoh94 (k := 0) rfl)) ?_
  rintro _ w100 ⟨rfl, hg102⟩
  refine ⟨_, rfl, ?_⟩
  have h103a := st_mg h99 hg102 (kcons (fun _ => rfl) (kcons (fun hq => by cases hq) (kcons (fun hq => by cases hq) (kcons (fun hq => by cases hq) knil))))
  have h103 := h103a.put (d := some 308) (v := .tuple #[.int .i64 s2, .int .u8 0]) (T' := [(308, .tuple #[.int .i64 s2, .int .u8 0]), (6, .pointer (some ⟨b14, 0, none⟩)), (3, .pointer (some ⟨b2, 0, none⟩)), (0, .pointer (some ⟨mb, 0, none⟩)), (1, .agg #[.int .u8 10, .int .u32 ev.pick, .int .u64 ev.draw, .int .u32 ev.addr, .int .u32 ev.node, .int .u32 ev.dst, .int .u32 ev.xfer, .int .u8 3, .int .u64 ev.arg, .int .u64 ev.badge, .slice xo ev.ws.length cx]), (4, .int .u8 0), (5, .bool false), (7, .pointer (some ⟨(Z.tp x), 0, none⟩)), (53, .int .u8 10), (66, .bool false), (21, .int .u8 0), (22, .int .i64 s1), (305, .pointer (some ⟨mb, 0, none⟩)), (307, .int .u32 ev.dst)]) rfl
  have hhoh103 := hg102.mh.ho
  clear h99 h103a
  refine nd_batch tabOk2 tabZ_ok2 [(4, {}), (5, {}), (6, {}), (7, {}), (8, {})] [6, 3, 0, 1, 4, 5, 7, 53, 66, 21, 22, 24, 25] (T' := [(6, .pointer (some ⟨b14, 0, none⟩)), (3, .pointer (some ⟨b2, 0, none⟩)), (0, .pointer (some ⟨mb, 0, none⟩)), (1, .agg #[.int .u8 10, .int .u32 ev.pick, .int .u64 ev.draw, .int .u32 ev.addr, .int .u32 ev.node, .int .u32 ev.dst, .int .u32 ev.xfer, .int .u8 3, .int .u64 ev.arg, .int .u64 ev.badge, .slice xo ev.ws.length cx]), (4, .int .u8 0), (5, .bool false), (7, .pointer (some ⟨(Z.tp x), 0, none⟩)), (53, .int .u8 10), (66, .bool false), (21, .int .u8 0), (22, .int .i64 s1), (24, .int .i64 s2), (25, .int .u8 0)]) (φ := True) (rest := []) h103 (by kernel_rfl) rfl trivial fun a104 h105 => ?_
  clear h103
  refine nd_done ?_
  refine hK97 _ _ ?_
  clear hK97
  refine wp_seq_k fun K106 hK106 => ?_
  refine wp_seq_k fun K107 hK107 => ?_
  refine nd_start (l := [0, 1]) rfl ?_
  refine nd_batch tabOk2 tabZ_ok2 [(0, {}), (1, {})] [6, 3, 0, 1, 4, 5, 7, 53, 66, 21, 22, 24, 25, 312] (T' := [(6, .pointer (some ⟨b14, 0, none⟩)), (3, .pointer (some ⟨b2, 0, none⟩)), (0, .pointer (some ⟨mb, 0, none⟩)), (1, .agg #[.int .u8 10, .int .u32 ev.pick, .int .u64 ev.draw, .int .u32 ev.addr, .int .u32 ev.node, .int .u32 ev.dst, .int .u32 ev.xfer, .int .u8 3, .int .u64 ev.arg, .int .u64 ev.badge, .slice xo ev.ws.length cx]), (4, .int .u8 0), (5, .bool false), (7, .pointer (some ⟨(Z.tp x), 0, none⟩)), (53, .int .u8 10), (66, .bool false), (21, .int .u8 0), (22, .int .i64 s1), (24, .int .i64 s2), (25, .int .u8 0), (312, .bool false)]) (φ := True) (rest := []) h105 (by kernel_rfl) rfl trivial fun a108 h109 => ?_
  clear h105
  refine nd_done ?_
  refine hK107 _ _ ?_
  clear hK107
  refine c_false h109 rfl ?_
  refine wp_skip ?_
  refine hK106 _ _ ?_
  clear hK106
  refine wp_seq_k fun K110 hK110 => ?_
  refine wp_seq_k fun K111 hK111 => ?_
  refine nd_start (l := [0, 1, 2, 3, 4, 5, 6, 7]) rfl ?_
  refine nd_batch tabOk2 tabZ_ok2 [(0, {}), (1, {}), (2, {})] [6, 3, 0, 1, 4, 5, 7, 53, 66, 21, 22, 24, 25, 316] (T' := [(6, .pointer (some ⟨b14, 0, none⟩)), (3, .pointer (some ⟨b2, 0, none⟩)), (0, .pointer (some ⟨mb, 0, none⟩)), (1, .agg #[.int .u8 10, .int .u32 ev.pick, .int .u64 ev.draw, .int .u32 ev.addr, .int .u32 ev.node, .int .u32 ev.dst, .int .u32 ev.xfer, .int .u8 3, .int .u64 ev.arg, .int .u64 ev.badge, .slice xo ev.ws.length cx]), (4, .int .u8 0), (5, .bool false), (7, .pointer (some ⟨(Z.tp x), 0, none⟩)), (53, .int .u8 10), (66, .bool false), (21, .int .u8 0), (22, .int .i64 s1), (24, .int .i64 s2), (25, .int .u8 0), (316, .pointer (some ⟨mb, 1, none⟩))]) (φ := True) (rest := [3, 4, 5, 6, 7]) h109 (by kernel_rfl) rfl trivial fun a112 h113 => ?_
  clear h109
  refine nd_op ?_
  refine op_read (b := mb) (v := .pointer (some ⟨Z.mc, 0, none⟩)) h113 rfl rfl (rd_m h113 (k := 1) (v := .pointer (some ⟨Z.mc, 0, none⟩)) rfl rfl rfl rfl (md_p ⟨rfl, trivial⟩)) ?_
  have h114 := h113.put (d := some 317) (v := .pointer (some ⟨Z.mc, 0, none⟩)) (T' := [(317, .pointer (some ⟨Z.mc, 0, none⟩)), (6, .pointer (some ⟨b14, 0, none⟩)), (3, .pointer (some ⟨b2, 0, none⟩)), (0, .pointer (some ⟨mb, 0, none⟩)), (1, .agg #[.int .u8 10, .int .u32 ev.pick, .int .u64 ev.draw, .int .u32 ev.addr, .int .u32 ev.node, .int .u32 ev.dst, .int .u32 ev.xfer, .int .u8 3, .int .u64 ev.arg, .int .u64 ev.badge, .slice xo ev.ws.length cx]), (4, .int .u8 0), (5, .bool false), (7, .pointer (some ⟨(Z.tp x), 0, none⟩)), (53, .int .u8 10), (66, .bool false), (21, .int .u8 0), (22, .int .i64 s1), (24, .int .i64 s2), (25, .int .u8 0), (316, .pointer (some ⟨mb, 1, none⟩))]) rfl
  clear h113
  refine nd_batch tabOk2 tabZ_ok2 [(4, {})] [317, 6, 3, 0, 1, 4, 5, 7, 53, 66, 21, 22, 24, 25, 318] (T' := [(317, .pointer (some ⟨Z.mc, 0, none⟩)), (6, .pointer (some ⟨b14, 0, none⟩)), (3, .pointer (some ⟨b2, 0, none⟩)), (0, .pointer (some ⟨mb, 0, none⟩)), (1, .agg #[.int .u8 10, .int .u32 ev.pick, .int .u64 ev.draw, .int .u32 ev.addr, .int .u32 ev.node, .int .u32 ev.dst, .int .u32 ev.xfer, .int .u8 3, .int .u64 ev.arg, .int .u64 ev.badge, .slice xo ev.ws.length cx]), (4, .int .u8 0), (5, .bool false), (7, .pointer (some ⟨(Z.tp x), 0, none⟩)), (53, .int .u8 10), (66, .bool false), (21, .int .u8 0), (22, .int .i64 s1), (24, .int .i64 s2), (25, .int .u8 0), (318, .int .i64 s2)]) (φ := True) (rest := [5, 6, 7]) h114 (by kernel_rfl) rfl trivial fun a115 h116 => ?_
  clear h114
  refine nd_op ?_
  obtain ⟨i2, j2, hi2, hj2, hp2, hs2⟩ := look_fact hI.ci hci.1 he.dst.1 e2 rfl
  refine op_call h116 rfl rfl rfl (callOk Tryd.func62 (by decide) rfl) (args := [.pointer (some ⟨Z.mc, 0, none⟩), .int .i64 s2]) rfl (atE Z.mo Z.mc Z.nd C hi2 hj2 hp2 hs2 _ h116.inv.1.cp) ?_
  rintro _ w117 ⟨rfl, hf119⟩
  refine ⟨_, rfl, ?_⟩
  have h118 := (h116.grow hf119).put (d := some 319) (v := .agg #[.int .u8 ((C.cel s2.toNat).cap.ty), .int .u16 ((C.cel s2.toNat).cap.obj.idx), .int .u32 ((C.cel s2.toNat).cap.obj.gen), .int .u8 ((C.cel s2.toNat).cap.rights), .int .u64 ((C.cel s2.toNat).cap.badge)]) (T' := [(319, .agg #[.int .u8 ((C.cel s2.toNat).cap.ty), .int .u16 ((C.cel s2.toNat).cap.obj.idx), .int .u32 ((C.cel s2.toNat).cap.obj.gen), .int .u8 ((C.cel s2.toNat).cap.rights), .int .u64 ((C.cel s2.toNat).cap.badge)]), (317, .pointer (some ⟨Z.mc, 0, none⟩)), (6, .pointer (some ⟨b14, 0, none⟩)), (3, .pointer (some ⟨b2, 0, none⟩)), (0, .pointer (some ⟨mb, 0, none⟩)), (1, .agg #[.int .u8 10, .int .u32 ev.pick, .int .u64 ev.draw, .int .u32 ev.addr, .int .u32 ev.node, .int .u32 ev.dst, .int .u32 ev.xfer, .int .u8 3, .int .u64 ev.arg, .int .u64 ev.badge, .slice xo ev.ws.length cx]), (4, .int .u8 0), (5, .bool false), (7, .pointer (some ⟨(Z.tp x), 0, none⟩)), (53, .int .u8 10), (66, .bool false), (21, .int .u8 0), (22, .int .i64 s1), (24, .int .i64 s2), (25, .int .u8 0), (318, .int .i64 s2)]) rfl
  clear h116
  refine nd_batch tabOk2 tabZ_ok2 [(6, {}), (7, {})] [6, 3, 0, 1, 4, 5, 7, 53, 66, 21, 22, 24, 25, 321] (T' := [(6, .pointer (some ⟨b14, 0, none⟩)), (3, .pointer (some ⟨b2, 0, none⟩)), (0, .pointer (some ⟨mb, 0, none⟩)), (1, .agg #[.int .u8 10, .int .u32 ev.pick, .int .u64 ev.draw, .int .u32 ev.addr, .int .u32 ev.node, .int .u32 ev.dst, .int .u32 ev.xfer, .int .u8 3, .int .u64 ev.arg, .int .u64 ev.badge, .slice xo ev.ws.length cx]), (4, .int .u8 0), (5, .bool false), (7, .pointer (some ⟨(Z.tp x), 0, none⟩)), (53, .int .u8 10), (66, .bool false), (21, .int .u8 0), (22, .int .i64 s1), (24, .int .i64 s2), (25, .int .u8 0), (321, .bool ((C.cel s2.toNat).cap.ty != 0))]) (φ := True) (rest := []) h118 (by kernel_rfl) rfl trivial fun a120 h121 => ?_
  clear h118
  refine nd_done ?_
  refine hK111 _ _ ?_
  clear hK111
  refine c_split h121 (b := ((C.cel s2.toNat).cap.ty != 0)) rfl (fun hc122 => ?_) (fun hc122 => ?_)
  ·
    have hc122f : (C.cel s2.toNat).cap.ty ≠ 0 := by simpa using hc122
    exact absurd (hz2) (by first | exact hc122f | (intro hz; exact hc122f hz) | omega | simp_all)
  ·
    have hc122f : (C.cel s2.toNat).cap.ty = 0 := by simpa using hc122
    refine wp_skip ?_
    refine hK110 _ _ ?_
    clear hK110
    refine wp_seq_k fun K123 hK123 => ?_
    refine wp_seq_k fun K124 hK124 => ?_
    refine nd_start (l := [0, 1, 2, 3, 4, 5, 6, 7, 8, 9, 10, 11, 12, 13, 14, 15, 16, 17]) rfl ?_
    refine nd_batch tabOk2 tabZ_ok2 [(0, {}), (1, {k := 1}), (2, {}), (3, {}), (4, {}), (5, {k := 1}), (6, {}), (7, {}), (8, {}), (9, {}), (10, {}), (11, {}), (12, {}), (13, {}), (14, {}), (15, {}), (16, {}), (17, {})] [6, 3, 0, 1, 4, 5, 7, 53, 66, 21, 22, 24, 25, 339] (T' := [(6, .pointer (some ⟨b14, 0, none⟩)), (3, .pointer (some ⟨b2, 0, none⟩)), (0, .pointer (some ⟨mb, 0, none⟩)), (1, .agg #[.int .u8 10, .int .u32 ev.pick, .int .u64 ev.draw, .int .u32 ev.addr, .int .u32 ev.node, .int .u32 ev.dst, .int .u32 ev.xfer, .int .u8 3, .int .u64 ev.arg, .int .u64 ev.badge, .slice xo ev.ws.length cx]), (4, .int .u8 0), (5, .bool false), (7, .pointer (some ⟨(Z.tp x), 0, none⟩)), (53, .int .u8 10), (66, .bool false), (21, .int .u8 0), (22, .int .i64 s1), (24, .int .i64 s2), (25, .int .u8 0), (339, .bool false)]) (φ := (b2 = b2 ∧ Nat.ble (7 + 1) 11 = true) ∧ (b2 = b2 ∧ Nat.ble (7 + 1) 11 = true) ∧ True) (rest := []) h121 (by kernel_rfl) rfl ⟨⟨rfl, rfl⟩, ⟨rfl, rfl⟩, trivial⟩ fun a125 h126 => ?_
    clear h121
    refine nd_done ?_
    refine hK124 _ _ ?_
    clear hK124
    refine c_false h126 rfl ?_
    refine wp_skip ?_
    refine hK123 _ _ ?_
    clear hK123
    refine wp_seq_k fun K127 hK127 => ?_
    refine dr_start (KB := [3, b2, b14, b75, mb]) (Bi := [[0, 1, 2, 3, 4], [0, 1, 2, 3, 4], [0, 1, 2, 3, 4], [0, 1, 2, 3, 4], [0, 1, 2, 3, 4], [0, 1, 2, 3, 4], [], [0, 1, 2, 3, 4], [0, 1, 2, 3, 4], [0, 1, 2, 3, 4], [1, 4], [], [0, 1, 2, 3, 4]]) mixed h126 fun w128 h129 => ?_
    clear h126
    refine dr_batch tabOk2 tabZ_ok2 (by repeat (first | with_reducible exact PF.body | with_reducible apply PF.inB | with_reducible apply PF.next)) [(0, {}), (1, {}), (2, {})] [6, 3, 0, 1, 4, 5, 7, 53, 66, 21, 22, 24, 25, 343] (T' := [(6, .pointer (some ⟨b14, 0, none⟩)), (3, .pointer (some ⟨b2, 0, none⟩)), (0, .pointer (some ⟨mb, 0, none⟩)), (1, .agg #[.int .u8 10, .int .u32 ev.pick, .int .u64 ev.draw, .int .u32 ev.addr, .int .u32 ev.node, .int .u32 ev.dst, .int .u32 ev.xfer, .int .u8 3, .int .u64 ev.arg, .int .u64 ev.badge, .slice xo ev.ws.length cx]), (4, .int .u8 0), (5, .bool false), (7, .pointer (some ⟨(Z.tp x), 0, none⟩)), (53, .int .u8 10), (66, .bool false), (21, .int .u8 0), (22, .int .i64 s1), (24, .int .i64 s2), (25, .int .u8 0), (343, .pointer (some ⟨mb, 0, none⟩))]) (φ := True) (fuel := 10) h129 (by kernel_rfl) rfl (by kernel_rfl) (by kernel_rfl) ⟨trivial, trivial, trivial, trivial⟩ trivial fun a131 h132 => ?_
    clear h129
    refine dr_read (i := 3) (b := mb) (p := 4) (v := .pointer (some ⟨Z.mo, 0, none⟩)) (fuel := 9) (by repeat (first | with_reducible exact PF.body | with_reducible apply PF.inB | with_reducible apply PF.next)) h132 rfl rfl rfl (by kernel_rfl) (by kernel_rfl) (by kernel_rfl) rfl (rd_m h132 (k := 0) (v := .pointer (some ⟨Z.mo, 0, none⟩)) rfl rfl rfl rfl (md_p ⟨rfl, trivial⟩)) ?_
    have h133 := h132.put (d := some 344) (v := .pointer (some ⟨Z.mo, 0, none⟩)) (T' := [(344, .pointer (some ⟨Z.mo, 0, none⟩)), (6, .pointer (some ⟨b14, 0, none⟩)), (3, .pointer (some ⟨b2, 0, none⟩)), (0, .pointer (some ⟨mb, 0, none⟩)), (1, .agg #[.int .u8 10, .int .u32 ev.pick, .int .u64 ev.draw, .int .u32 ev.addr, .int .u32 ev.node, .int .u32 ev.dst, .int .u32 ev.xfer, .int .u8 3, .int .u64 ev.arg, .int .u64 ev.badge, .slice xo ev.ws.length cx]), (4, .int .u8 0), (5, .bool false), (7, .pointer (some ⟨(Z.tp x), 0, none⟩)), (53, .int .u8 10), (66, .bool false), (21, .int .u8 0), (22, .int .i64 s1), (24, .int .i64 s2), (25, .int .u8 0), (343, .pointer (some ⟨mb, 0, none⟩))]) rfl
    clear h132
    refine dr_batch tabOk2 tabZ_ok2 (by repeat (first | with_reducible exact PF.body | with_reducible apply PF.inB | with_reducible apply PF.next)) [(4, {}), (5, {k := 1, p := 1})] [344, 6, 3, 0, 1, 4, 5, 7, 53, 66, 21, 22, 24, 25, 346] (T' := [(344, .pointer (some ⟨Z.mo, 0, none⟩)), (6, .pointer (some ⟨b14, 0, none⟩)), (3, .pointer (some ⟨b2, 0, none⟩)), (0, .pointer (some ⟨mb, 0, none⟩)), (1, .agg #[.int .u8 10, .int .u32 ev.pick, .int .u64 ev.draw, .int .u32 ev.addr, .int .u32 ev.node, .int .u32 ev.dst, .int .u32 ev.xfer, .int .u8 3, .int .u64 ev.arg, .int .u64 ev.badge, .slice xo ev.ws.length cx]), (4, .int .u8 0), (5, .bool false), (7, .pointer (some ⟨(Z.tp x), 0, none⟩)), (53, .int .u8 10), (66, .bool false), (21, .int .u8 0), (22, .int .i64 s1), (24, .int .i64 s2), (25, .int .u8 0), (346, .int .u8 3)]) (φ := (b2 = b2 ∧ Nat.ble (7 + 1) 11 = true) ∧ True) (fuel := 7) h133 (by kernel_rfl) rfl (by kernel_rfl) (by kernel_rfl) ⟨trivial, rfl, trivial⟩ ⟨⟨rfl, rfl⟩, trivial⟩ fun a134 h135 => ?_
    clear h133
    refine wpAnyK_two (i := 6) (j := 10) (fuel := 6) (by kernel_rfl) ?_ ?_
    ·
      refine op_call h135 rfl rfl rfl (callOk Tryd.func37 (by decide) rfl) (args := [.pointer (some ⟨Z.mo, 0, none⟩), .int .u8 3]) rfl (retypeC_ok Z.mo Z.mc Z.nd C 3 (by decide) _ h135.inv.1.cp er) ?_
      rintro _ w136 ⟨rfl, hc137, hf138⟩
      refine ⟨_, rfl, ?_⟩
      have h139a := st_cap h135 hc137 hf138 (fun b hb => .inl hb) (kcons (fun _ => rfl) (kcons (fun hq => by cases hq) (kcons (fun hq => by cases hq) (kcons (fun hq => by cases hq) knil))))
      have h139 := h139a.put (d := some 347) (v := .tuple #[.agg #[.int .u16 r.idx, .int .u32 r.gen], .int .u8 k]) (T' := [(347, .tuple #[.agg #[.int .u16 r.idx, .int .u32 r.gen], .int .u8 k]), (344, .pointer (some ⟨Z.mo, 0, none⟩)), (6, .pointer (some ⟨b14, 0, none⟩)), (3, .pointer (some ⟨b2, 0, none⟩)), (0, .pointer (some ⟨mb, 0, none⟩)), (1, .agg #[.int .u8 10, .int .u32 ev.pick, .int .u64 ev.draw, .int .u32 ev.addr, .int .u32 ev.node, .int .u32 ev.dst, .int .u32 ev.xfer, .int .u8 3, .int .u64 ev.arg, .int .u64 ev.badge, .slice xo ev.ws.length cx]), (4, .int .u8 0), (5, .bool false), (7, .pointer (some ⟨(Z.tp x), 0, none⟩)), (53, .int .u8 10), (66, .bool false), (21, .int .u8 0), (22, .int .i64 s1), (24, .int .i64 s2), (25, .int .u8 0), (346, .int .u8 3)]) rfl
      refine ⟨keepNil, ?_⟩
      clear h135 h139a
      refine dr_batch tabOk2 tabZ_ok2 (by repeat (first | with_reducible exact PF.body | with_reducible apply PF.inB | with_reducible apply PF.next)) [(7, {}), (8, {}), (9, {})] [6, 3, 0, 1, 4, 5, 7, 53, 66, 21, 22, 24, 25, 348, 349] (T' := [(6, .pointer (some ⟨b14, 0, none⟩)), (3, .pointer (some ⟨b2, 0, none⟩)), (0, .pointer (some ⟨mb, 0, none⟩)), (1, .agg #[.int .u8 10, .int .u32 ev.pick, .int .u64 ev.draw, .int .u32 ev.addr, .int .u32 ev.node, .int .u32 ev.dst, .int .u32 ev.xfer, .int .u8 3, .int .u64 ev.arg, .int .u64 ev.badge, .slice xo ev.ws.length cx]), (4, .int .u8 0), (5, .bool false), (7, .pointer (some ⟨(Z.tp x), 0, none⟩)), (53, .int .u8 10), (66, .bool false), (21, .int .u8 0), (22, .int .i64 s1), (24, .int .i64 s2), (25, .int .u8 0), (348, .agg #[.int .u16 r.idx, .int .u32 r.gen]), (349, .int .u8 k)]) (φ := True) (fuel := 3) h139 (by kernel_rfl) rfl (by kernel_rfl) (by kernel_rfl) ⟨trivial, trivial, trivial, trivial⟩ trivial fun a140 h141 => ?_
      clear h139
      refine wpAnyK_one (i := 10) (fuel := 2) (by kernel_rfl) ?_
      refine op_new tabOk2 (cells := [.int .u16 0, .int .u32 0]) (ty := 39) (ln := none) (L1 := fun b142 => [(3, ⟨[.int .u16 0, .int .u32 0], ty3, true⟩), (b2, ⟨[.int .u8 10, .int .u32 ev.pick, .int .u64 ev.draw, .int .u32 ev.addr, .int .u32 ev.node, .int .u32 ev.dst, .int .u32 ev.xfer, .int .u8 3, .int .u64 ev.arg, .int .u64 ev.badge, .slice xo ev.ws.length cx], 35, false⟩), (b14, ⟨[.int .u16 ((Z.ky x).idx), .int .u32 ((Z.ky x).gen)], 39, false⟩), (b75, ⟨[.int .u8 c.ty, .int .u16 c.obj.idx, .int .u32 c.obj.gen, .int .u8 c.rights, .int .u64 c.badge], 49, false⟩), (b142, ⟨[.int .u16 0, .int .u32 0], 39, false⟩)]) h141 rfl rfl rfl rfl (by kernel_rfl) (fun _ => rfl) fun b142 w143 a144 h145 hf146 hn147 => ?_
      refine ⟨(keepCons (kpLf h141.known hf146 (q := 1) rfl) (keepCons (kpM h141.inv.1 (l := .m) trivial (List.mem_cons_self ..) hf146) keepNil)), ?_⟩
      clear h141
      refine wpAnyK_one (i := 11) (fuel := 1) (by kernel_rfl) ?_
      refine op_store tabOk2 {k := 4} (L' := [(3, ⟨[.int .u16 0, .int .u32 0], ty3, true⟩), (b2, ⟨[.int .u8 10, .int .u32 ev.pick, .int .u64 ev.draw, .int .u32 ev.addr, .int .u32 ev.node, .int .u32 ev.dst, .int .u32 ev.xfer, .int .u8 3, .int .u64 ev.arg, .int .u64 ev.badge, .slice xo ev.ws.length cx], 35, false⟩), (b14, ⟨[.int .u16 ((Z.ky x).idx), .int .u32 ((Z.ky x).gen)], 39, false⟩), (b75, ⟨[.int .u8 c.ty, .int .u16 c.obj.idx, .int .u32 c.obj.gen, .int .u8 c.rights, .int .u64 c.badge], 49, false⟩), (b142, ⟨[.int .u16 r.idx, .int .u32 r.gen], 39, false⟩)]) (φ := b142 = b142 ∧ Nat.ble (0 + 2) 2 = true) h145 rfl rfl rfl (by kernel_rfl) ⟨rfl, rfl⟩ fun w148 h149 => ?_
      refine ⟨keepNil, ?_⟩
      clear h145
      refine dr_batch tabOk2 tabZ_ok2 (by repeat (first | with_reducible exact PF.body | with_reducible apply PF.inB | with_reducible apply PF.next)) [(12, {})] [26, 6, 3, 0, 1, 4, 5, 7, 53, 66, 21, 22, 24, 25] (T' := [(26, .pointer (some ⟨b142, 0, none⟩)), (6, .pointer (some ⟨b14, 0, none⟩)), (3, .pointer (some ⟨b2, 0, none⟩)), (0, .pointer (some ⟨mb, 0, none⟩)), (1, .agg #[.int .u8 10, .int .u32 ev.pick, .int .u64 ev.draw, .int .u32 ev.addr, .int .u32 ev.node, .int .u32 ev.dst, .int .u32 ev.xfer, .int .u8 3, .int .u64 ev.arg, .int .u64 ev.badge, .slice xo ev.ws.length cx]), (4, .int .u8 0), (5, .bool false), (7, .pointer (some ⟨(Z.tp x), 0, none⟩)), (53, .int .u8 10), (66, .bool false), (21, .int .u8 0), (22, .int .i64 s1), (24, .int .i64 s2), (25, .int .u8 k)]) (φ := True) (fuel := 0) h149 (by kernel_rfl) rfl (by kernel_rfl) (by kernel_rfl) ⟨trivial, trivial⟩ trivial fun a150 h151 => ?_
      clear h149
      refine wpAnyK_done (by kernel_rfl) ?_ _
      refine hK127 _ _ ?_
      clear hK127
      refine wp_seq_k fun K152 hK152 => ?_
      refine wp_seq_k fun K153 hK153 => ?_
      refine nd_start (l := [0, 1]) rfl ?_
      refine nd_batch tabOk2 tabZ_ok2 [(0, {}), (1, {})] [26, 6, 3, 0, 1, 4, 5, 7, 53, 66, 21, 22, 24, 25, 351] (T' := [(26, .pointer (some ⟨b142, 0, none⟩)), (6, .pointer (some ⟨b14, 0, none⟩)), (3, .pointer (some ⟨b2, 0, none⟩)), (0, .pointer (some ⟨mb, 0, none⟩)), (1, .agg #[.int .u8 10, .int .u32 ev.pick, .int .u64 ev.draw, .int .u32 ev.addr, .int .u32 ev.node, .int .u32 ev.dst, .int .u32 ev.xfer, .int .u8 3, .int .u64 ev.arg, .int .u64 ev.badge, .slice xo ev.ws.length cx]), (4, .int .u8 0), (5, .bool false), (7, .pointer (some ⟨(Z.tp x), 0, none⟩)), (53, .int .u8 10), (66, .bool false), (21, .int .u8 0), (22, .int .i64 s1), (24, .int .i64 s2), (25, .int .u8 k), (351, .bool (k != 0))]) (φ := True) (rest := []) h151 (by kernel_rfl) rfl trivial fun a154 h155 => ?_
      clear h151
      refine nd_done ?_
      refine hK153 _ _ ?_
      clear hK153
      refine c_split h155 (b := (k != 0)) rfl (fun hc156 => ?_) (fun hc156 => ?_)
      ·
        have hc156f : k ≠ 0 := by simpa using hc156
        refine wp_seq_k fun K157 hK157 => ?_
        refine nd_start (l := [0, 1, 2]) rfl ?_
        refine nd_batch tabOk2 tabZ_ok2 [(0, {}), (1, {}), (2, {})] [26, 6, 3, 0, 1, 7, 53, 66, 21, 22, 24, 25, 4, 5] (T' := [(26, .pointer (some ⟨b142, 0, none⟩)), (6, .pointer (some ⟨b14, 0, none⟩)), (3, .pointer (some ⟨b2, 0, none⟩)), (0, .pointer (some ⟨mb, 0, none⟩)), (1, .agg #[.int .u8 10, .int .u32 ev.pick, .int .u64 ev.draw, .int .u32 ev.addr, .int .u32 ev.node, .int .u32 ev.dst, .int .u32 ev.xfer, .int .u8 3, .int .u64 ev.arg, .int .u64 ev.badge, .slice xo ev.ws.length cx]), (7, .pointer (some ⟨(Z.tp x), 0, none⟩)), (53, .int .u8 10), (66, .bool false), (21, .int .u8 0), (22, .int .i64 s1), (24, .int .i64 s2), (25, .int .u8 k), (4, .int .u8 k), (5, .bool false)]) (φ := True) (rest := []) h155 (by kernel_rfl) rfl trivial fun a158 h159 => ?_
        clear h155
        refine nd_done ?_
        refine hK157 _ _ ?_
        clear hK157
        refine wp_ret ?_
        try simp only [Exit.then, Exit.inBlock]
        try rw [if_pos trivial]
        exact s_ret tabOk2 tabZ_ok2 h159 [(.tmp 4, {}), (.tmp 5, {})] (vs := [.int .u8 k, .bool false]) (φ := True) rfl (by kernel_rfl) trivial ⟨rfl, _, mg_end hH h159 hhoh103 rfl⟩
      ·
        have hc156f : k = 0 := by simpa using hc156
        exact absurd hc156f hk0
    ·
      refine op_new tabOk2 (cells := [.int .u16 0, .int .u32 0]) (ty := 39) (ln := none) (L1 := fun b160 => [(3, ⟨[.int .u16 0, .int .u32 0], ty3, true⟩), (b2, ⟨[.int .u8 10, .int .u32 ev.pick, .int .u64 ev.draw, .int .u32 ev.addr, .int .u32 ev.node, .int .u32 ev.dst, .int .u32 ev.xfer, .int .u8 3, .int .u64 ev.arg, .int .u64 ev.badge, .slice xo ev.ws.length cx], 35, false⟩), (b14, ⟨[.int .u16 ((Z.ky x).idx), .int .u32 ((Z.ky x).gen)], 39, false⟩), (b75, ⟨[.int .u8 c.ty, .int .u16 c.obj.idx, .int .u32 c.obj.gen, .int .u8 c.rights, .int .u64 c.badge], 49, false⟩), (b160, ⟨[.int .u16 0, .int .u32 0], 39, false⟩)]) h135 rfl rfl rfl rfl (by kernel_rfl) (fun _ => rfl) fun b160 w161 a162 h163 hf164 hn165 => ?_
      refine ⟨(keepCons (kpLf h135.known hf164 (q := 1) rfl) (keepCons (kpM h135.inv.1 (l := .m) trivial (List.mem_cons_self ..) hf164) keepNil)), ?_⟩
      clear h135
      refine wpAnyK_one (i := 6) (fuel := 5) (by kernel_rfl) ?_
      refine op_call h163 rfl rfl rfl (callOk Tryd.func37 (by decide) rfl) (args := [.pointer (some ⟨Z.mo, 0, none⟩), .int .u8 3]) rfl (retypeC_ok Z.mo Z.mc Z.nd C 3 (by decide) _ h163.inv.1.cp er) ?_
      rintro _ w166 ⟨rfl, hc167, hf168⟩
      refine ⟨_, rfl, ?_⟩
      have h169a := st_cap h163 hc167 hf168 (fun b hb => .inl hb) (kcons (fun _ => rfl) (kcons (fun hq => by cases hq) (kcons (fun hq => by cases hq) (kcons (fun hq => by cases hq) (kcons (fun hq => by cases hq) knil)))))
      have h169 := h169a.put (d := some 347) (v := .tuple #[.agg #[.int .u16 r.idx, .int .u32 r.gen], .int .u8 k]) (T' := [(347, .tuple #[.agg #[.int .u16 r.idx, .int .u32 r.gen], .int .u8 k]), (26, .pointer (some ⟨b160, 0, none⟩)), (344, .pointer (some ⟨Z.mo, 0, none⟩)), (6, .pointer (some ⟨b14, 0, none⟩)), (3, .pointer (some ⟨b2, 0, none⟩)), (0, .pointer (some ⟨mb, 0, none⟩)), (1, .agg #[.int .u8 10, .int .u32 ev.pick, .int .u64 ev.draw, .int .u32 ev.addr, .int .u32 ev.node, .int .u32 ev.dst, .int .u32 ev.xfer, .int .u8 3, .int .u64 ev.arg, .int .u64 ev.badge, .slice xo ev.ws.length cx]), (4, .int .u8 0), (5, .bool false), (7, .pointer (some ⟨(Z.tp x), 0, none⟩)), (53, .int .u8 10), (66, .bool false), (21, .int .u8 0), (22, .int .i64 s1), (24, .int .i64 s2), (25, .int .u8 0), (346, .int .u8 3)]) rfl
      refine ⟨keepNil, ?_⟩
      clear h163 h169a
      refine dr_batch tabOk2 tabZ_ok2 (by repeat (first | with_reducible exact PF.body | with_reducible apply PF.inB | with_reducible apply PF.next)) [(7, {}), (8, {}), (9, {})] [26, 6, 3, 0, 1, 4, 5, 7, 53, 66, 21, 22, 24, 25, 348, 349] (T' := [(26, .pointer (some ⟨b160, 0, none⟩)), (6, .pointer (some ⟨b14, 0, none⟩)), (3, .pointer (some ⟨b2, 0, none⟩)), (0, .pointer (some ⟨mb, 0, none⟩)), (1, .agg #[.int .u8 10, .int .u32 ev.pick, .int .u64 ev.draw, .int .u32 ev.addr, .int .u32 ev.node, .int .u32 ev.dst, .int .u32 ev.xfer, .int .u8 3, .int .u64 ev.arg, .int .u64 ev.badge, .slice xo ev.ws.length cx]), (4, .int .u8 0), (5, .bool false), (7, .pointer (some ⟨(Z.tp x), 0, none⟩)), (53, .int .u8 10), (66, .bool false), (21, .int .u8 0), (22, .int .i64 s1), (24, .int .i64 s2), (25, .int .u8 0), (348, .agg #[.int .u16 r.idx, .int .u32 r.gen]), (349, .int .u8 k)]) (φ := True) (fuel := 2) h169 (by kernel_rfl) rfl (by kernel_rfl) (by kernel_rfl) ⟨trivial, trivial, trivial, trivial⟩ trivial fun a170 h171 => ?_
      clear h169
      refine wpAnyK_one (i := 11) (fuel := 1) (by kernel_rfl) ?_
      refine op_store tabOk2 {k := 4} (L' := [(3, ⟨[.int .u16 0, .int .u32 0], ty3, true⟩), (b2, ⟨[.int .u8 10, .int .u32 ev.pick, .int .u64 ev.draw, .int .u32 ev.addr, .int .u32 ev.node, .int .u32 ev.dst, .int .u32 ev.xfer, .int .u8 3, .int .u64 ev.arg, .int .u64 ev.badge, .slice xo ev.ws.length cx], 35, false⟩), (b14, ⟨[.int .u16 ((Z.ky x).idx), .int .u32 ((Z.ky x).gen)], 39, false⟩), (b75, ⟨[.int .u8 c.ty, .int .u16 c.obj.idx, .int .u32 c.obj.gen, .int .u8 c.rights, .int .u64 c.badge], 49, false⟩), (b160, ⟨[.int .u16 r.idx, .int .u32 r.gen], 39, false⟩)]) (φ := b160 = b160 ∧ Nat.ble (0 + 2) 2 = true) h171 rfl rfl rfl (by kernel_rfl) ⟨rfl, rfl⟩ fun w172 h173 => ?_
      refine ⟨keepNil, ?_⟩
      clear h171
      refine dr_batch tabOk2 tabZ_ok2 (by repeat (first | with_reducible exact PF.body | with_reducible apply PF.inB | with_reducible apply PF.next)) [(12, {})] [26, 6, 3, 0, 1, 4, 5, 7, 53, 66, 21, 22, 24, 25] (T' := [(26, .pointer (some ⟨b160, 0, none⟩)), (6, .pointer (some ⟨b14, 0, none⟩)), (3, .pointer (some ⟨b2, 0, none⟩)), (0, .pointer (some ⟨mb, 0, none⟩)), (1, .agg #[.int .u8 10, .int .u32 ev.pick, .int .u64 ev.draw, .int .u32 ev.addr, .int .u32 ev.node, .int .u32 ev.dst, .int .u32 ev.xfer, .int .u8 3, .int .u64 ev.arg, .int .u64 ev.badge, .slice xo ev.ws.length cx]), (4, .int .u8 0), (5, .bool false), (7, .pointer (some ⟨(Z.tp x), 0, none⟩)), (53, .int .u8 10), (66, .bool false), (21, .int .u8 0), (22, .int .i64 s1), (24, .int .i64 s2), (25, .int .u8 k)]) (φ := True) (fuel := 0) h173 (by kernel_rfl) rfl (by kernel_rfl) (by kernel_rfl) ⟨trivial, trivial⟩ trivial fun a174 h175 => ?_
      clear h173
      refine wpAnyK_done (by kernel_rfl) ?_ _
      refine hK127 _ _ ?_
      clear hK127
      refine wp_seq_k fun K176 hK176 => ?_
      refine wp_seq_k fun K177 hK177 => ?_
      refine nd_start (l := [0, 1]) rfl ?_
      refine nd_batch tabOk2 tabZ_ok2 [(0, {}), (1, {})] [26, 6, 3, 0, 1, 4, 5, 7, 53, 66, 21, 22, 24, 25, 351] (T' := [(26, .pointer (some ⟨b160, 0, none⟩)), (6, .pointer (some ⟨b14, 0, none⟩)), (3, .pointer (some ⟨b2, 0, none⟩)), (0, .pointer (some ⟨mb, 0, none⟩)), (1, .agg #[.int .u8 10, .int .u32 ev.pick, .int .u64 ev.draw, .int .u32 ev.addr, .int .u32 ev.node, .int .u32 ev.dst, .int .u32 ev.xfer, .int .u8 3, .int .u64 ev.arg, .int .u64 ev.badge, .slice xo ev.ws.length cx]), (4, .int .u8 0), (5, .bool false), (7, .pointer (some ⟨(Z.tp x), 0, none⟩)), (53, .int .u8 10), (66, .bool false), (21, .int .u8 0), (22, .int .i64 s1), (24, .int .i64 s2), (25, .int .u8 k), (351, .bool (k != 0))]) (φ := True) (rest := []) h175 (by kernel_rfl) rfl trivial fun a178 h179 => ?_
      clear h175
      refine nd_done ?_
      refine hK177 _ _ ?_
      clear hK177
      refine c_split h179 (b := (k != 0)) rfl (fun hc180 => ?_) (fun hc180 => ?_)
      ·
        have hc180f : k ≠ 0 := by simpa using hc180
        refine wp_seq_k fun K181 hK181 => ?_
        refine nd_start (l := [0, 1, 2]) rfl ?_
        refine nd_batch tabOk2 tabZ_ok2 [(0, {}), (1, {}), (2, {})] [26, 6, 3, 0, 1, 7, 53, 66, 21, 22, 24, 25, 4, 5] (T' := [(26, .pointer (some ⟨b160, 0, none⟩)), (6, .pointer (some ⟨b14, 0, none⟩)), (3, .pointer (some ⟨b2, 0, none⟩)), (0, .pointer (some ⟨mb, 0, none⟩)), (1, .agg #[.int .u8 10, .int .u32 ev.pick, .int .u64 ev.draw, .int .u32 ev.addr, .int .u32 ev.node, .int .u32 ev.dst, .int .u32 ev.xfer, .int .u8 3, .int .u64 ev.arg, .int .u64 ev.badge, .slice xo ev.ws.length cx]), (7, .pointer (some ⟨(Z.tp x), 0, none⟩)), (53, .int .u8 10), (66, .bool false), (21, .int .u8 0), (22, .int .i64 s1), (24, .int .i64 s2), (25, .int .u8 k), (4, .int .u8 k), (5, .bool false)]) (φ := True) (rest := []) h179 (by kernel_rfl) rfl trivial fun a182 h183 => ?_
        clear h179
        refine nd_done ?_
        refine hK181 _ _ ?_
        clear hK181
        refine wp_ret ?_
        try simp only [Exit.then, Exit.inBlock]
        try rw [if_pos trivial]
        exact s_ret tabOk2 tabZ_ok2 h183 [(.tmp 4, {}), (.tmp 5, {})] (vs := [.int .u8 k, .bool false]) (φ := True) rfl (by kernel_rfl) trivial ⟨rfl, _, mg_end hH h183 hhoh103 rfl⟩
      ·
        have hc180f : k = 0 := by simpa using hc180
        exact absurd hc180f hk0

theorem call10f4 (mb : Nat) (Z : MZ) (R : MR) (a : AK) (C : CP) (hI : MI Z a C) (x : Nat) (hx : x ∈ sl Z.tl) (hcu : a.cur = (x : Int)) (ev : Ev) (he : EvOk ev) (xo : Option Addr) (cx : Nat) (c : Cp) (cs0 : Int) (hf : findA a C ev.addr 1 2 = (c, cs0, 0)) (s1 : Int) (e1 : lookP C.ent (a.th x).cs ev.addr = (s1, 0)) (s2 : Int) (e2 : lookP C.ent (a.th x).cs ev.dst = (s2, 0)) (hz2 : (C.cel s2.toNat).cap.ty = 0) (E1 : Nat → Ent) (r : Rf) (k : Int) (er : retype0 C.ent 4 = (E1, r, k)) (hk0 : k ≠ 0) (w : World) (hH : MH mb Z R a C w) (hws : WordsAt (mdF mb Z R C) w xo ev.ws) :
    Calls Tryd.prog 55 #[.pointer (some ⟨mb, 0, none⟩), .agg #[.int .u8 10, .int .u32 ev.pick, .int .u64 ev.draw, .int .u32 ev.addr, .int .u32 ev.node, .int .u32 ev.dst, .int .u32 ev.xfer, .int .u8 4, .int .u64 ev.arg, .int .u64 ev.badge, .slice xo ev.ws.length cx]] w fun e w' => e = .returned (.tuple #[.int .u8 k, .bool false]) ∧ ∃ R', MG mb Z R C w Z R' a { C with ent := E1 } w' := by
  have hP := hI.mp
  have hcx : curR Z a = Z.ky x := curR_of hcu
  have hcn : a.cur.toNat = x := by rw [hcu]; exact Int.toNat_natCast x
  have hci := (hI.tk x hx).ci
  obtain ⟨ty3, hg3⟩ := hH.g3
  have hho := hH.ho
  have hkk := hH.md.k
  refine enter (n := 628) (K := mdF mb Z R C) (A := MD (mdF mb Z R C) w.heap.size mb Z R a C) (F := mdF mb Z R C) (T := [(0, .pointer (some ⟨mb, 0, none⟩)), (1, .agg #[.int .u8 10, .int .u32 ev.pick, .int .u64 ev.draw, .int .u32 ev.addr, .int .u32 ev.node, .int .u32 ev.dst, .int .u32 ev.xfer, .int .u8 4, .int .u64 ev.arg, .int .u64 ev.badge, .slice xo ev.ws.length cx])]) (L := [(3, ⟨[.int .u16 0, .int .u32 0], ty3, true⟩)]) (args := [.pointer (some ⟨mb, 0, none⟩), .agg #[.int .u8 10, .int .u32 ev.pick, .int .u64 ev.draw, .int .u32 ev.addr, .int .u32 ev.node, .int .u32 ev.dst, .int .u32 ev.xfer, .int .u8 4, .int .u64 ev.arg, .int .u64 ev.badge, .slice xo ev.ws.length cx]]) Tryd.func55 rfl rfl rfl rfl (kcons hg3 knil) (by simp) (kcons (by intro hq; cases hq) knil) hH.mD MD.stable hH.md.low (kcons (by intro hq; cases hq) knil) ?_
  intro ac h
  refine wp_seq_k fun K1 hK1 => ?_
  refine nd_start (l := [0, 1, 2]) rfl ?_
  refine nd_op ?_
  refine op_new tabOk2 (cells := [.int .u8 10, .int .u32 ev.pick, .int .u64 ev.draw, .int .u32 ev.addr, .int .u32 ev.node, .int .u32 ev.dst, .int .u32 ev.xfer, .int .u8 4, .int .u64 ev.arg, .int .u64 ev.badge, .slice xo ev.ws.length cx]) (ty := 35) (ln := none) (L1 := fun b2 => [(3, ⟨[.int .u16 0, .int .u32 0], ty3, true⟩), (b2, ⟨[.int .u8 10, .int .u32 ev.pick, .int .u64 ev.draw, .int .u32 ev.addr, .int .u32 ev.node, .int .u32 ev.dst, .int .u32 ev.xfer, .int .u8 4, .int .u64 ev.arg, .int .u64 ev.badge, .slice xo ev.ws.length cx], 35, false⟩)]) h rfl rfl rfl rfl (by kernel_rfl) (fun _ => rfl) fun b2 w3 a4 h5 hf6 hn7 => ?_
  clear h
  refine nd_batch tabOk2 tabZ_ok2 [(1, {}), (2, {})] [3, 0, 1, 4, 5] (T' := [(3, .pointer (some ⟨b2, 0, none⟩)), (0, .pointer (some ⟨mb, 0, none⟩)), (1, .agg #[.int .u8 10, .int .u32 ev.pick, .int .u64 ev.draw, .int .u32 ev.addr, .int .u32 ev.node, .int .u32 ev.dst, .int .u32 ev.xfer, .int .u8 4, .int .u64 ev.arg, .int .u64 ev.badge, .slice xo ev.ws.length cx]), (4, .int .u8 0), (5, .bool false)]) (φ := True) (rest := []) h5 (by kernel_rfl) rfl trivial fun a8 h9 => ?_
  clear h5
  refine nd_done ?_
  refine hK1 _ _ ?_
  clear hK1
  refine wp_seq_k fun K10 hK10 => ?_
  refine nd_start (l := [0, 1, 2, 3, 4, 5]) rfl ?_
  refine nd_batch tabOk2 tabZ_ok2 [(0, {}), (1, {}), (2, {})] [3, 0, 1, 4, 5, 44] (T' := [(3, .pointer (some ⟨b2, 0, none⟩)), (0, .pointer (some ⟨mb, 0, none⟩)), (1, .agg #[.int .u8 10, .int .u32 ev.pick, .int .u64 ev.draw, .int .u32 ev.addr, .int .u32 ev.node, .int .u32 ev.dst, .int .u32 ev.xfer, .int .u8 4, .int .u64 ev.arg, .int .u64 ev.badge, .slice xo ev.ws.length cx]), (4, .int .u8 0), (5, .bool false), (44, .pointer (some ⟨mb, 13, none⟩))]) (φ := True) (rest := [3, 4, 5]) h9 (by kernel_rfl) rfl trivial fun a11 h12 => ?_
  clear h9
  refine nd_op ?_
  refine op_read (b := mb) (v := .agg #[.int .u16 ((Z.ky x).idx), .int .u32 ((Z.ky x).gen)]) h12 rfl rfl (rd_mA h12 (k := 13) (vs := [.int .u16 ((Z.ky x).idx), .int .u32 ((Z.ky x).gen)]) rfl rfl rfl rfl rfl (by rw [← hcx]; exact md_cur)) ?_
  have h13 := h12.put (d := some 45) (v := .agg #[.int .u16 ((Z.ky x).idx), .int .u32 ((Z.ky x).gen)]) (T' := [(45, .agg #[.int .u16 ((Z.ky x).idx), .int .u32 ((Z.ky x).gen)]), (3, .pointer (some ⟨b2, 0, none⟩)), (0, .pointer (some ⟨mb, 0, none⟩)), (1, .agg #[.int .u8 10, .int .u32 ev.pick, .int .u64 ev.draw, .int .u32 ev.addr, .int .u32 ev.node, .int .u32 ev.dst, .int .u32 ev.xfer, .int .u8 4, .int .u64 ev.arg, .int .u64 ev.badge, .slice xo ev.ws.length cx]), (4, .int .u8 0), (5, .bool false), (44, .pointer (some ⟨mb, 13, none⟩))]) rfl
  clear h12
  refine nd_op ?_
  refine op_new tabOk2 (cells := [.int .u16 0, .int .u32 0]) (ty := 39) (ln := none) (L1 := fun b14 => [(3, ⟨[.int .u16 0, .int .u32 0], ty3, true⟩), (b2, ⟨[.int .u8 10, .int .u32 ev.pick, .int .u64 ev.draw, .int .u32 ev.addr, .int .u32 ev.node, .int .u32 ev.dst, .int .u32 ev.xfer, .int .u8 4, .int .u64 ev.arg, .int .u64 ev.badge, .slice xo ev.ws.length cx], 35, false⟩), (b14, ⟨[.int .u16 0, .int .u32 0], 39, false⟩)]) h13 rfl rfl rfl rfl (by kernel_rfl) (fun _ => rfl) fun b14 w15 a16 h17 hf18 hn19 => ?_
  clear h13
  refine nd_op ?_
  refine op_store tabOk2 {k := 2} (L' := [(3, ⟨[.int .u16 0, .int .u32 0], ty3, true⟩), (b2, ⟨[.int .u8 10, .int .u32 ev.pick, .int .u64 ev.draw, .int .u32 ev.addr, .int .u32 ev.node, .int .u32 ev.dst, .int .u32 ev.xfer, .int .u8 4, .int .u64 ev.arg, .int .u64 ev.badge, .slice xo ev.ws.length cx], 35, false⟩), (b14, ⟨[.int .u16 ((Z.ky x).idx), .int .u32 ((Z.ky x).gen)], 39, false⟩)]) (φ := b14 = b14 ∧ Nat.ble (0 + 2) 2 = true) h17 rfl rfl rfl (by kernel_rfl) ⟨rfl, rfl⟩ fun w20 h21 => ?_
  clear h17
  refine nd_done ?_
  refine hK10 _ _ ?_
  clear hK10
  refine wp_seq_k fun K22 hK22 => ?_
  refine dr_start (KB := [3, b2, b14, mb, Z.tb]) (Bi := [[0, 1, 2, 3, 4], [0, 1, 2, 3, 4], [0, 1, 2, 3, 4], [0, 1, 2, 3, 4], [0, 1, 2, 3, 4], [0, 1, 2, 3, 4], [0, 1, 2, 3, 4]]) mixed h21 fun w23 h24 => ?_
  clear h21
  refine dr_batch tabOk2 tabZ_ok2 (by repeat (first | with_reducible exact PF.body | with_reducible apply PF.inB | with_reducible apply PF.next)) [(0, {}), (1, {}), (2, {})] [6, 3, 0, 1, 4, 5, 48] (T' := [(6, .pointer (some ⟨b14, 0, none⟩)), (3, .pointer (some ⟨b2, 0, none⟩)), (0, .pointer (some ⟨mb, 0, none⟩)), (1, .agg #[.int .u8 10, .int .u32 ev.pick, .int .u64 ev.draw, .int .u32 ev.addr, .int .u32 ev.node, .int .u32 ev.dst, .int .u32 ev.xfer, .int .u8 4, .int .u64 ev.arg, .int .u64 ev.badge, .slice xo ev.ws.length cx]), (4, .int .u8 0), (5, .bool false), (48, .pointer (some ⟨mb, 2, none⟩))]) (φ := True) (fuel := 4) h24 (by kernel_rfl) rfl (by kernel_rfl) (by kernel_rfl) ⟨trivial, trivial, trivial, trivial⟩ trivial fun a26 h27 => ?_
  clear h24
  refine dr_read (i := 3) (b := mb) (p := 3) (v := .map (some Z.tb)) (fuel := 3) (by repeat (first | with_reducible exact PF.body | with_reducible apply PF.inB | with_reducible apply PF.next)) h27 rfl rfl rfl (by kernel_rfl) (by kernel_rfl) (by kernel_rfl) rfl (rd_m h27 (k := 2) (v := .map (some Z.tb)) rfl rfl rfl rfl (md_p ⟨rfl, trivial⟩)) ?_
  have h28 := h27.put (d := some 49) (v := .map (some Z.tb)) (T' := [(49, .map (some Z.tb)), (6, .pointer (some ⟨b14, 0, none⟩)), (3, .pointer (some ⟨b2, 0, none⟩)), (0, .pointer (some ⟨mb, 0, none⟩)), (1, .agg #[.int .u8 10, .int .u32 ev.pick, .int .u64 ev.draw, .int .u32 ev.addr, .int .u32 ev.node, .int .u32 ev.dst, .int .u32 ev.xfer, .int .u8 4, .int .u64 ev.arg, .int .u64 ev.badge, .slice xo ev.ws.length cx]), (4, .int .u8 0), (5, .bool false), (48, .pointer (some ⟨mb, 2, none⟩))]) rfl
  clear h27
  refine dr_batch tabOk2 tabZ_ok2 (by repeat (first | with_reducible exact PF.body | with_reducible apply PF.inB | with_reducible apply PF.next)) [(4, {k := 2, p := 2})] [49, 6, 3, 0, 1, 4, 5, 50] (T' := [(49, .map (some Z.tb)), (6, .pointer (some ⟨b14, 0, none⟩)), (3, .pointer (some ⟨b2, 0, none⟩)), (0, .pointer (some ⟨mb, 0, none⟩)), (1, .agg #[.int .u8 10, .int .u32 ev.pick, .int .u64 ev.draw, .int .u32 ev.addr, .int .u32 ev.node, .int .u32 ev.dst, .int .u32 ev.xfer, .int .u8 4, .int .u64 ev.arg, .int .u64 ev.badge, .slice xo ev.ws.length cx]), (4, .int .u8 0), (5, .bool false), (50, .agg #[.int .u16 ((Z.ky x).idx), .int .u32 ((Z.ky x).gen)])]) (φ := (b14 = b14 ∧ Nat.ble (0 + 2) 2 = true) ∧ True) (fuel := 2) h28 (by kernel_rfl) rfl (by kernel_rfl) (by kernel_rfl) ⟨rfl, trivial⟩ ⟨⟨rfl, rfl⟩, trivial⟩ fun a29 h30 => ?_
  clear h28
  refine dr_read (i := 5) (b := Z.tb) (p := 4) (v := .pointer (some ⟨(Z.tp x), 0, none⟩)) (fuel := 1) (by repeat (first | with_reducible exact PF.body | with_reducible apply PF.inB | with_reducible apply PF.next)) h30 rfl rfl rfl (by kernel_rfl) (by kernel_rfl) (by kernel_rfl) rfl (rd_T h30 (x := x) hx rfl rfl rfl) ?_
  have h31 := h30.put (d := some 51) (v := .pointer (some ⟨(Z.tp x), 0, none⟩)) (T' := [(51, .pointer (some ⟨(Z.tp x), 0, none⟩)), (49, .map (some Z.tb)), (6, .pointer (some ⟨b14, 0, none⟩)), (3, .pointer (some ⟨b2, 0, none⟩)), (0, .pointer (some ⟨mb, 0, none⟩)), (1, .agg #[.int .u8 10, .int .u32 ev.pick, .int .u64 ev.draw, .int .u32 ev.addr, .int .u32 ev.node, .int .u32 ev.dst, .int .u32 ev.xfer, .int .u8 4, .int .u64 ev.arg, .int .u64 ev.badge, .slice xo ev.ws.length cx]), (4, .int .u8 0), (5, .bool false), (50, .agg #[.int .u16 ((Z.ky x).idx), .int .u32 ((Z.ky x).gen)])]) rfl
  clear h30
  refine dr_batch tabOk2 tabZ_ok2 (by repeat (first | with_reducible exact PF.body | with_reducible apply PF.inB | with_reducible apply PF.next)) [(6, {})] [6, 3, 0, 1, 4, 5, 7] (T' := [(6, .pointer (some ⟨b14, 0, none⟩)), (3, .pointer (some ⟨b2, 0, none⟩)), (0, .pointer (some ⟨mb, 0, none⟩)), (1, .agg #[.int .u8 10, .int .u32 ev.pick, .int .u64 ev.draw, .int .u32 ev.addr, .int .u32 ev.node, .int .u32 ev.dst, .int .u32 ev.xfer, .int .u8 4, .int .u64 ev.arg, .int .u64 ev.badge, .slice xo ev.ws.length cx]), (4, .int .u8 0), (5, .bool false), (7, .pointer (some ⟨(Z.tp x), 0, none⟩))]) (φ := True) (fuel := 0) h31 (by kernel_rfl) rfl (by kernel_rfl) (by kernel_rfl) ⟨trivial, trivial⟩ trivial fun a32 h33 => ?_
  clear h31
  refine wpAnyK_done (by kernel_rfl) ?_ _
  refine hK22 _ _ ?_
  clear hK22
  refine wp_seq_k fun K34 hK34 => ?_
  refine wp_seq_k fun K35 hK35 => ?_
  refine nd_start (l := [0, 1]) rfl ?_
  refine nd_batch tabOk2 tabZ_ok2 [(0, {}), (1, {k := 1})] [6, 3, 0, 1, 4, 5, 7, 53] (T' := [(6, .pointer (some ⟨b14, 0, none⟩)), (3, .pointer (some ⟨b2, 0, none⟩)), (0, .pointer (some ⟨mb, 0, none⟩)), (1, .agg #[.int .u8 10, .int .u32 ev.pick, .int .u64 ev.draw, .int .u32 ev.addr, .int .u32 ev.node, .int .u32 ev.dst, .int .u32 ev.xfer, .int .u8 4, .int .u64 ev.arg, .int .u64 ev.badge, .slice xo ev.ws.length cx]), (4, .int .u8 0), (5, .bool false), (7, .pointer (some ⟨(Z.tp x), 0, none⟩)), (53, .int .u8 10)]) (φ := (b2 = b2 ∧ Nat.ble (0 + 1) 11 = true) ∧ True) (rest := []) h33 (by kernel_rfl) rfl ⟨⟨rfl, rfl⟩, trivial⟩ fun a36 h37 => ?_
  clear h33
  refine nd_done ?_
  refine hK35 _ _ ?_
  clear hK35
  refine wp_block ?_
  refine wp_seq_k fun K38 hK38 => ?_
  refine nd_start (l := [0, 1]) rfl ?_
  refine nd_batch tabOk2 tabZ_ok2 [(0, {}), (1, {})] [6, 3, 0, 1, 4, 5, 7, 53, 54] (T' := [(6, .pointer (some ⟨b14, 0, none⟩)), (3, .pointer (some ⟨b2, 0, none⟩)), (0, .pointer (some ⟨mb, 0, none⟩)), (1, .agg #[.int .u8 10, .int .u32 ev.pick, .int .u64 ev.draw, .int .u32 ev.addr, .int .u32 ev.node, .int .u32 ev.dst, .int .u32 ev.xfer, .int .u8 4, .int .u64 ev.arg, .int .u64 ev.badge, .slice xo ev.ws.length cx]), (4, .int .u8 0), (5, .bool false), (7, .pointer (some ⟨(Z.tp x), 0, none⟩)), (53, .int .u8 10), (54, .bool false)]) (φ := True) (rest := []) h37 (by kernel_rfl) rfl trivial fun a39 h40 => ?_
  clear h37
  refine nd_done ?_
  refine hK38 _ _ ?_
  clear hK38
  refine c_false h40 rfl ?_
  refine wp_seq_k fun K41 hK41 => ?_
  refine nd_start (l := [0, 1]) rfl ?_
  refine nd_batch tabOk2 tabZ_ok2 [(0, {}), (1, {})] [6, 3, 0, 1, 4, 5, 7, 53, 59] (T' := [(6, .pointer (some ⟨b14, 0, none⟩)), (3, .pointer (some ⟨b2, 0, none⟩)), (0, .pointer (some ⟨mb, 0, none⟩)), (1, .agg #[.int .u8 10, .int .u32 ev.pick, .int .u64 ev.draw, .int .u32 ev.addr, .int .u32 ev.node, .int .u32 ev.dst, .int .u32 ev.xfer, .int .u8 4, .int .u64 ev.arg, .int .u64 ev.badge, .slice xo ev.ws.length cx]), (4, .int .u8 0), (5, .bool false), (7, .pointer (some ⟨(Z.tp x), 0, none⟩)), (53, .int .u8 10), (59, .bool false)]) (φ := True) (rest := []) h40 (by kernel_rfl) rfl trivial fun a42 h43 => ?_
  clear h40
  refine nd_done ?_
  refine hK41 _ _ ?_
  clear hK41
  refine c_false h43 rfl ?_
  refine wp_seq_k fun K44 hK44 => ?_
  refine wp_seq_k fun K45 hK45 => ?_
  refine nd_start (l := [0, 1]) rfl ?_
  refine nd_batch tabOk2 tabZ_ok2 [(0, {}), (1, {})] [6, 3, 0, 1, 4, 5, 7, 53, 66] (T' := [(6, .pointer (some ⟨b14, 0, none⟩)), (3, .pointer (some ⟨b2, 0, none⟩)), (0, .pointer (some ⟨mb, 0, none⟩)), (1, .agg #[.int .u8 10, .int .u32 ev.pick, .int .u64 ev.draw, .int .u32 ev.addr, .int .u32 ev.node, .int .u32 ev.dst, .int .u32 ev.xfer, .int .u8 4, .int .u64 ev.arg, .int .u64 ev.badge, .slice xo ev.ws.length cx]), (4, .int .u8 0), (5, .bool false), (7, .pointer (some ⟨(Z.tp x), 0, none⟩)), (53, .int .u8 10), (66, .bool false)]) (φ := True) (rest := []) h43 (by kernel_rfl) rfl trivial fun a46 h47 => ?_
  clear h43
  refine nd_done ?_
  refine hK45 _ _ ?_
  clear hK45
  refine c_false h47 rfl ?_
  refine nd_start (l := [0, 1]) rfl ?_
  refine nd_batch tabOk2 tabZ_ok2 [(0, {}), (1, {})] [6, 3, 0, 1, 4, 5, 7, 53, 66] (T' := [(6, .pointer (some ⟨b14, 0, none⟩)), (3, .pointer (some ⟨b2, 0, none⟩)), (0, .pointer (some ⟨mb, 0, none⟩)), (1, .agg #[.int .u8 10, .int .u32 ev.pick, .int .u64 ev.draw, .int .u32 ev.addr, .int .u32 ev.node, .int .u32 ev.dst, .int .u32 ev.xfer, .int .u8 4, .int .u64 ev.arg, .int .u64 ev.badge, .slice xo ev.ws.length cx]), (4, .int .u8 0), (5, .bool false), (7, .pointer (some ⟨(Z.tp x), 0, none⟩)), (53, .int .u8 10), (66, .bool false)]) (φ := True) (rest := []) h47 (by kernel_rfl) rfl trivial fun a48 h49 => ?_
  clear h47
  refine nd_done ?_
  refine hK44 _ _ ?_
  clear hK44
  refine c_false h49 rfl ?_
  refine wp_seq_k fun K50 hK50 => ?_
  refine nd_start (l := [0, 1]) rfl ?_
  refine nd_batch tabOk2 tabZ_ok2 [(0, {}), (1, {})] [6, 3, 0, 1, 4, 5, 7, 53, 66, 129] (T' := [(6, .pointer (some ⟨b14, 0, none⟩)), (3, .pointer (some ⟨b2, 0, none⟩)), (0, .pointer (some ⟨mb, 0, none⟩)), (1, .agg #[.int .u8 10, .int .u32 ev.pick, .int .u64 ev.draw, .int .u32 ev.addr, .int .u32 ev.node, .int .u32 ev.dst, .int .u32 ev.xfer, .int .u8 4, .int .u64 ev.arg, .int .u64 ev.badge, .slice xo ev.ws.length cx]), (4, .int .u8 0), (5, .bool false), (7, .pointer (some ⟨(Z.tp x), 0, none⟩)), (53, .int .u8 10), (66, .bool false), (129, .bool false)]) (φ := True) (rest := []) h49 (by kernel_rfl) rfl trivial fun a51 h52 => ?_
  clear h49
  refine nd_done ?_
  refine hK50 _ _ ?_
  clear hK50
  refine c_false h52 rfl ?_
  refine wp_seq_k fun K53 hK53 => ?_
  refine nd_start (l := [0, 1]) rfl ?_
  refine nd_batch tabOk2 tabZ_ok2 [(0, {}), (1, {})] [6, 3, 0, 1, 4, 5, 7, 53, 66, 165] (T' := [(6, .pointer (some ⟨b14, 0, none⟩)), (3, .pointer (some ⟨b2, 0, none⟩)), (0, .pointer (some ⟨mb, 0, none⟩)), (1, .agg #[.int .u8 10, .int .u32 ev.pick, .int .u64 ev.draw, .int .u32 ev.addr, .int .u32 ev.node, .int .u32 ev.dst, .int .u32 ev.xfer, .int .u8 4, .int .u64 ev.arg, .int .u64 ev.badge, .slice xo ev.ws.length cx]), (4, .int .u8 0), (5, .bool false), (7, .pointer (some ⟨(Z.tp x), 0, none⟩)), (53, .int .u8 10), (66, .bool false), (165, .bool false)]) (φ := True) (rest := []) h52 (by kernel_rfl) rfl trivial fun a54 h55 => ?_
  clear h52
  refine nd_done ?_
  refine hK53 _ _ ?_
  clear hK53
  refine c_false h55 rfl ?_
  refine wp_seq_k fun K56 hK56 => ?_
  refine nd_start (l := [0, 1]) rfl ?_
  refine nd_batch tabOk2 tabZ_ok2 [(0, {}), (1, {})] [6, 3, 0, 1, 4, 5, 7, 53, 66, 226] (T' := [(6, .pointer (some ⟨b14, 0, none⟩)), (3, .pointer (some ⟨b2, 0, none⟩)), (0, .pointer (some ⟨mb, 0, none⟩)), (1, .agg #[.int .u8 10, .int .u32 ev.pick, .int .u64 ev.draw, .int .u32 ev.addr, .int .u32 ev.node, .int .u32 ev.dst, .int .u32 ev.xfer, .int .u8 4, .int .u64 ev.arg, .int .u64 ev.badge, .slice xo ev.ws.length cx]), (4, .int .u8 0), (5, .bool false), (7, .pointer (some ⟨(Z.tp x), 0, none⟩)), (53, .int .u8 10), (66, .bool false), (226, .bool false)]) (φ := True) (rest := []) h55 (by kernel_rfl) rfl trivial fun a57 h58 => ?_
  clear h55
  refine nd_done ?_
  refine hK56 _ _ ?_
  clear hK56
  refine c_false h58 rfl ?_
  refine wp_seq_k fun K59 hK59 => ?_
  refine nd_start (l := [0, 1]) rfl ?_
  refine nd_batch tabOk2 tabZ_ok2 [(0, {}), (1, {})] [6, 3, 0, 1, 4, 5, 7, 53, 66, 244] (T' := [(6, .pointer (some ⟨b14, 0, none⟩)), (3, .pointer (some ⟨b2, 0, none⟩)), (0, .pointer (some ⟨mb, 0, none⟩)), (1, .agg #[.int .u8 10, .int .u32 ev.pick, .int .u64 ev.draw, .int .u32 ev.addr, .int .u32 ev.node, .int .u32 ev.dst, .int .u32 ev.xfer, .int .u8 4, .int .u64 ev.arg, .int .u64 ev.badge, .slice xo ev.ws.length cx]), (4, .int .u8 0), (5, .bool false), (7, .pointer (some ⟨(Z.tp x), 0, none⟩)), (53, .int .u8 10), (66, .bool false), (244, .bool false)]) (φ := True) (rest := []) h58 (by kernel_rfl) rfl trivial fun a60 h61 => ?_
  clear h58
  refine nd_done ?_
  refine hK59 _ _ ?_
  clear hK59
  refine c_false h61 rfl ?_
  refine wp_seq_k fun K62 hK62 => ?_
  refine nd_start (l := [0, 1]) rfl ?_
  refine nd_batch tabOk2 tabZ_ok2 [(0, {}), (1, {})] [6, 3, 0, 1, 4, 5, 7, 53, 66, 285] (T' := [(6, .pointer (some ⟨b14, 0, none⟩)), (3, .pointer (some ⟨b2, 0, none⟩)), (0, .pointer (some ⟨mb, 0, none⟩)), (1, .agg #[.int .u8 10, .int .u32 ev.pick, .int .u64 ev.draw, .int .u32 ev.addr, .int .u32 ev.node, .int .u32 ev.dst, .int .u32 ev.xfer, .int .u8 4, .int .u64 ev.arg, .int .u64 ev.badge, .slice xo ev.ws.length cx]), (4, .int .u8 0), (5, .bool false), (7, .pointer (some ⟨(Z.tp x), 0, none⟩)), (53, .int .u8 10), (66, .bool false), (285, .bool true)]) (φ := True) (rest := []) h61 (by kernel_rfl) rfl trivial fun a63 h64 => ?_
  clear h61
  refine nd_done ?_
  refine hK62 _ _ ?_
  clear hK62
  refine c_true h64 rfl ?_
  refine wp_seq_k fun K65 hK65 => ?_
  refine wp_seq_k fun K66 hK66 => ?_
  refine nd_start (l := [0, 1, 2, 3, 4, 5, 6, 7, 8, 9]) rfl ?_
  refine nd_batch tabOk2 tabZ_ok2 [(0, {}), (1, {}), (2, {k := 1})] [6, 3, 0, 1, 4, 5, 7, 53, 66, 288, 290] (T' := [(6, .pointer (some ⟨b14, 0, none⟩)), (3, .pointer (some ⟨b2, 0, none⟩)), (0, .pointer (some ⟨mb, 0, none⟩)), (1, .agg #[.int .u8 10, .int .u32 ev.pick, .int .u64 ev.draw, .int .u32 ev.addr, .int .u32 ev.node, .int .u32 ev.dst, .int .u32 ev.xfer, .int .u8 4, .int .u64 ev.arg, .int .u64 ev.badge, .slice xo ev.ws.length cx]), (4, .int .u8 0), (5, .bool false), (7, .pointer (some ⟨(Z.tp x), 0, none⟩)), (53, .int .u8 10), (66, .bool false), (288, .pointer (some ⟨mb, 0, none⟩)), (290, .int .u32 ev.addr)]) (φ := (b2 = b2 ∧ Nat.ble (3 + 1) 11 = true) ∧ True) (rest := [3, 4, 5, 6, 7, 8, 9]) h64 (by kernel_rfl) rfl ⟨⟨rfl, rfl⟩, trivial⟩ fun a67 h68 => ?_
  clear h64
  refine nd_op ?_
  refine op_call h68 rfl rfl rfl (callOk Tryd.func90 (by decide) rfl) (args := [.pointer (some ⟨mb, 0, none⟩), .int .u32 ev.addr, .int .u8 1, .int .u8 2]) rfl (capOf_ok mb Z _ a C x hx hcx hci hcn hI.ci ev.addr 1 2 he.addr _ (mh_of h68 hho (k := 0) rfl) hf) ?_
  rintro _ w69 ⟨rfl, hg71⟩
  refine ⟨_, rfl, ?_⟩
  have h72a := st_mg h68 hg71 (kcons (fun _ => rfl) (kcons (fun hq => by cases hq) (kcons (fun hq => by cases hq) knil)))
  have h72 := h72a.put (d := some 291) (v := .tuple #[.agg #[.int .u8 c.ty, .int .u16 c.obj.idx, .int .u32 c.obj.gen, .int .u8 c.rights, .int .u64 c.badge], .int .u8 0]) (T' := [(291, .tuple #[.agg #[.int .u8 c.ty, .int .u16 c.obj.idx, .int .u32 c.obj.gen, .int .u8 c.rights, .int .u64 c.badge], .int .u8 0]), (6, .pointer (some ⟨b14, 0, none⟩)), (3, .pointer (some ⟨b2, 0, none⟩)), (0, .pointer (some ⟨mb, 0, none⟩)), (1, .agg #[.int .u8 10, .int .u32 ev.pick, .int .u64 ev.draw, .int .u32 ev.addr, .int .u32 ev.node, .int .u32 ev.dst, .int .u32 ev.xfer, .int .u8 4, .int .u64 ev.arg, .int .u64 ev.badge, .slice xo ev.ws.length cx]), (4, .int .u8 0), (5, .bool false), (7, .pointer (some ⟨(Z.tp x), 0, none⟩)), (53, .int .u8 10), (66, .bool false), (288, .pointer (some ⟨mb, 0, none⟩)), (290, .int .u32 ev.addr)]) rfl
  have hhoh72 := hg71.mh.ho
  clear h68 h72a
  refine nd_batch tabOk2 tabZ_ok2 [(4, {}), (5, {}), (6, {})] [6, 3, 0, 1, 4, 5, 7, 53, 66, 292, 293] (T' := [(6, .pointer (some ⟨b14, 0, none⟩)), (3, .pointer (some ⟨b2, 0, none⟩)), (0, .pointer (some ⟨mb, 0, none⟩)), (1, .agg #[.int .u8 10, .int .u32 ev.pick, .int .u64 ev.draw, .int .u32 ev.addr, .int .u32 ev.node, .int .u32 ev.dst, .int .u32 ev.xfer, .int .u8 4, .int .u64 ev.arg, .int .u64 ev.badge, .slice xo ev.ws.length cx]), (4, .int .u8 0), (5, .bool false), (7, .pointer (some ⟨(Z.tp x), 0, none⟩)), (53, .int .u8 10), (66, .bool false), (292, .agg #[.int .u8 c.ty, .int .u16 c.obj.idx, .int .u32 c.obj.gen, .int .u8 c.rights, .int .u64 c.badge]), (293, .int .u8 0)]) (φ := True) (rest := [7, 8, 9]) h72 (by kernel_rfl) rfl trivial fun a73 h74 => ?_
  clear h72
  refine nd_op ?_
  refine op_new tabOk2 (cells := [.int .u8 0, .int .u16 0, .int .u32 0, .int .u8 0, .int .u64 0]) (ty := 49) (ln := none) (L1 := fun b75 => [(3, ⟨[.int .u16 0, .int .u32 0], ty3, true⟩), (b2, ⟨[.int .u8 10, .int .u32 ev.pick, .int .u64 ev.draw, .int .u32 ev.addr, .int .u32 ev.node, .int .u32 ev.dst, .int .u32 ev.xfer, .int .u8 4, .int .u64 ev.arg, .int .u64 ev.badge, .slice xo ev.ws.length cx], 35, false⟩), (b14, ⟨[.int .u16 ((Z.ky x).idx), .int .u32 ((Z.ky x).gen)], 39, false⟩), (b75, ⟨[.int .u8 0, .int .u16 0, .int .u32 0, .int .u8 0, .int .u64 0], 49, false⟩)]) h74 rfl rfl rfl rfl (by kernel_rfl) (fun _ => rfl) fun b75 w76 a77 h78 hf79 hn80 => ?_
  clear h74
  refine nd_op ?_
  refine op_store tabOk2 {k := 3} (L' := [(3, ⟨[.int .u16 0, .int .u32 0], ty3, true⟩), (b2, ⟨[.int .u8 10, .int .u32 ev.pick, .int .u64 ev.draw, .int .u32 ev.addr, .int .u32 ev.node, .int .u32 ev.dst, .int .u32 ev.xfer, .int .u8 4, .int .u64 ev.arg, .int .u64 ev.badge, .slice xo ev.ws.length cx], 35, false⟩), (b14, ⟨[.int .u16 ((Z.ky x).idx), .int .u32 ((Z.ky x).gen)], 39, false⟩), (b75, ⟨[.int .u8 c.ty, .int .u16 c.obj.idx, .int .u32 c.obj.gen, .int .u8 c.rights, .int .u64 c.badge], 49, false⟩)]) (φ := b75 = b75 ∧ Nat.ble (0 + 5) 5 = true) h78 rfl rfl rfl (by kernel_rfl) ⟨rfl, rfl⟩ fun w81 h82 => ?_
  clear h78
  refine nd_batch tabOk2 tabZ_ok2 [(9, {})] [6, 3, 0, 1, 4, 5, 7, 53, 66, 21] (T' := [(6, .pointer (some ⟨b14, 0, none⟩)), (3, .pointer (some ⟨b2, 0, none⟩)), (0, .pointer (some ⟨mb, 0, none⟩)), (1, .agg #[.int .u8 10, .int .u32 ev.pick, .int .u64 ev.draw, .int .u32 ev.addr, .int .u32 ev.node, .int .u32 ev.dst, .int .u32 ev.xfer, .int .u8 4, .int .u64 ev.arg, .int .u64 ev.badge, .slice xo ev.ws.length cx]), (4, .int .u8 0), (5, .bool false), (7, .pointer (some ⟨(Z.tp x), 0, none⟩)), (53, .int .u8 10), (66, .bool false), (21, .int .u8 0)]) (φ := True) (rest := []) h82 (by kernel_rfl) rfl trivial fun a83 h84 => ?_
  clear h82
  refine nd_done ?_
  refine hK66 _ _ ?_
  clear hK66
  refine wp_seq_k fun K85 hK85 => ?_
  refine nd_start (l := [0, 1]) rfl ?_
  refine nd_batch tabOk2 tabZ_ok2 [(0, {}), (1, {})] [6, 3, 0, 1, 4, 5, 7, 53, 66, 21, 295] (T' := [(6, .pointer (some ⟨b14, 0, none⟩)), (3, .pointer (some ⟨b2, 0, none⟩)), (0, .pointer (some ⟨mb, 0, none⟩)), (1, .agg #[.int .u8 10, .int .u32 ev.pick, .int .u64 ev.draw, .int .u32 ev.addr, .int .u32 ev.node, .int .u32 ev.dst, .int .u32 ev.xfer, .int .u8 4, .int .u64 ev.arg, .int .u64 ev.badge, .slice xo ev.ws.length cx]), (4, .int .u8 0), (5, .bool false), (7, .pointer (some ⟨(Z.tp x), 0, none⟩)), (53, .int .u8 10), (66, .bool false), (21, .int .u8 0), (295, .bool false)]) (φ := True) (rest := []) h84 (by kernel_rfl) rfl trivial fun a86 h87 => ?_
  clear h84
  refine nd_done ?_
  refine hK85 _ _ ?_
  clear hK85
  refine c_false h87 rfl ?_
  refine wp_skip ?_
  refine hK65 _ _ ?_
  clear hK65
  refine wp_seq_k fun K88 hK88 => ?_
  refine nd_start (l := [0, 1, 2, 3, 4, 5, 6, 7, 8]) rfl ?_
  refine nd_batch tabOk2 tabZ_ok2 [(0, {}), (1, {}), (2, {k := 1})] [6, 3, 0, 1, 4, 5, 7, 53, 66, 21, 298, 300] (T' := [(6, .pointer (some ⟨b14, 0, none⟩)), (3, .pointer (some ⟨b2, 0, none⟩)), (0, .pointer (some ⟨mb, 0, none⟩)), (1, .agg #[.int .u8 10, .int .u32 ev.pick, .int .u64 ev.draw, .int .u32 ev.addr, .int .u32 ev.node, .int .u32 ev.dst, .int .u32 ev.xfer, .int .u8 4, .int .u64 ev.arg, .int .u64 ev.badge, .slice xo ev.ws.length cx]), (4, .int .u8 0), (5, .bool false), (7, .pointer (some ⟨(Z.tp x), 0, none⟩)), (53, .int .u8 10), (66, .bool false), (21, .int .u8 0), (298, .pointer (some ⟨mb, 0, none⟩)), (300, .int .u32 ev.addr)]) (φ := (b2 = b2 ∧ Nat.ble (3 + 1) 11 = true) ∧ True) (rest := [3, 4, 5, 6, 7, 8]) h87 (by kernel_rfl) rfl ⟨⟨rfl, rfl⟩, trivial⟩ fun a89 h90 => ?_
  clear h87
  refine nd_op ?_
  refine op_call h90 rfl rfl rfl (callOk Tryd.func93 (by decide) rfl) (args := [.pointer (some ⟨mb, 0, none⟩), .int .u32 ev.addr]) rfl (cellOf_ok mb Z _ a C x hx hcx hci ev.addr he.addr e1 _ (mh_of h90 hhoh72 (k := 0) rfl)) ?_
  rintro _ w91 ⟨rfl, hg93⟩
  refine ⟨_, rfl, ?_⟩
  have h94a := st_mg h90 hg93 (kcons (fun _ => rfl) (kcons (fun hq => by cases hq) (kcons (fun hq => by cases hq) (kcons (fun hq => by cases hq) knil))))
  have h94 := h94a.put (d := some 301) (v := .tuple #[.int .i64 s1, .int .u8 0]) (T' := [(301, .tuple #[.int .i64 s1, .int .u8 0]), (6, .pointer (some ⟨b14, 0, none⟩)), (3, .pointer (some ⟨b2, 0, none⟩)), (0, .pointer (some ⟨mb, 0, none⟩)), (1, .agg #[.int .u8 10, .int .u32 ev.pick, .int .u64 ev.draw, .int .u32 ev.addr, .int .u32 ev.node, .int .u32 ev.dst, .int .u32 ev.xfer, .int .u8 4, .int .u64 ev.arg, .int .u64 ev.badge, .slice xo ev.ws.length cx]), (4, .int .u8 0), (5, .bool false), (7, .pointer (some ⟨(Z.tp x), 0, none⟩)), (53, .int .u8 10), (66, .bool false), (21, .int .u8 0), (298, .pointer (some ⟨mb, 0, none⟩)), (300, .int .u32 ev.addr)]) rfl
  have hhoh94 := hg93.mh.ho
  clear h90 h94a
  refine nd_batch tabOk2 tabZ_ok2 [(4, {}), (5, {}), (6, {}), (7, {}), (8, {})] [6, 3, 0, 1, 4, 5, 7, 53, 66, 21, 22] (T' := [(6, .pointer (some ⟨b14, 0, none⟩)), (3, .pointer (some ⟨b2, 0, none⟩)), (0, .pointer (some ⟨mb, 0, none⟩)), (1, .agg #[.int .u8 10, .int .u32 ev.pick, .int .u64 ev.draw, .int .u32 ev.addr, .int .u32 ev.node, .int .u32 ev.dst, .int .u32 ev.xfer, .int .u8 4, .int .u64 ev.arg, .int .u64 ev.badge, .slice xo ev.ws.length cx]), (4, .int .u8 0), (5, .bool false), (7, .pointer (some ⟨(Z.tp x), 0, none⟩)), (53, .int .u8 10), (66, .bool false), (21, .int .u8 0), (22, .int .i64 s1)]) (φ := True) (rest := []) h94 (by kernel_rfl) rfl trivial fun a95 h96 => ?_
  clear h94
  refine nd_done ?_
  refine hK88 _ _ ?_
  clear hK88
  refine wp_seq_k fun K97 hK97 => ?_
  refine nd_start (l := [0, 1, 2, 3, 4, 5, 6, 7, 8]) rfl ?_
  refine nd_batch tabOk2 tabZ_ok2 [(0, {}), (1, {}), (2, {k := 1})] [6, 3, 0, 1, 4, 5, 7, 53, 66, 21, 22, 305, 307] (T' := [(6, .pointer (some ⟨b14, 0, none⟩)), (3, .pointer (some ⟨b2, 0, none⟩)), (0, .pointer (some ⟨mb, 0, none⟩)), (1, .agg #[.int .u8 10, .int .u32 ev.pick, .int .u64 ev.draw, .int .u32 ev.addr, .int .u32 ev.node, .int .u32 ev.dst, .int .u32 ev.xfer, .int .u8 4, .int .u64 ev.arg, .int .u64 ev.badge, .slice xo ev.ws.length cx]), (4, .int .u8 0), (5, .bool false), (7, .pointer (some ⟨(Z.tp x), 0, none⟩)), (53, .int .u8 10), (66, .bool false), (21, .int .u8 0), (22, .int .i64 s1), (305, .pointer (some ⟨mb, 0, none⟩)), (307, .int .u32 ev.dst)]) (φ := (b2 = b2 ∧ Nat.ble (5 + 1) 11 = true) ∧ True) (rest := [3, 4, 5, 6, 7, 8]) h96 (by kernel_rfl) rfl ⟨⟨rfl, rfl⟩, trivial⟩ fun a98 h99 => ?_
  clear h96
  refine nd_op ?_
  refine op_call h99 rfl rfl rfl (callOk Tryd.func93 (by decide) rfl) (args := [.pointer (some ⟨mb, 0, none⟩), .int .u32 ev.dst]) rfl (cellOf_ok mb Z _ a C x hx hcx hci ev.dst he.dst e2 _ (mh_of h99 hhoh94 (k := 0) rfl)) ?_
  rintro _ w100 ⟨rfl, hg102⟩
  refine ⟨_, rfl, ?_⟩
  have h103a := st_mg h99 hg102 (kcons (fun _ => rfl) (kcons (fun hq => by cases hq) (kcons (fun hq => by cases hq) (kcons (fun hq => by cases hq) knil))))
  have h103 := h103a.put (d := some 308) (v := .tuple #[.int .i64 s2, .int .u8 0]) (T' := [(308, .tuple #[.int .i64 s2, .int .u8 0]), (6, .pointer (some ⟨b14, 0, none⟩)), (3, .pointer (some ⟨b2, 0, none⟩)), (0, .pointer (some ⟨mb, 0, none⟩)), (1, .agg #[.int .u8 10, .int .u32 ev.pick, .int .u64 ev.draw, .int .u32 ev.addr, .int .u32 ev.node, .int .u32 ev.dst, .int .u32 ev.xfer, .int .u8 4, .int .u64 ev.arg, .int .u64 ev.badge, .slice xo ev.ws.length cx]), (4, .int .u8 0), (5, .bool false), (7, .pointer (some ⟨(Z.tp x), 0, none⟩)), (53, .int .u8 10), (66, .bool false), (21, .int .u8 0), (22, .int .i64 s1), (305, .pointer (some ⟨mb, 0, none⟩)), (307, .int .u32 ev.dst)]) rfl
  have hhoh103 := hg102.mh.ho
  clear h99 h103a
  refine nd_batch tabOk2 tabZ_ok2 [(4, {}), (5, {}), (6, {}), (7, {}), (8, {})] [6, 3, 0, 1, 4, 5, 7, 53, 66, 21, 22, 24, 25] (T' := [(6, .pointer (some ⟨b14, 0, none⟩)), (3, .pointer (some ⟨b2, 0, none⟩)), (0, .pointer (some ⟨mb, 0, none⟩)), (1, .agg #[.int .u8 10, .int .u32 ev.pick, .int .u64 ev.draw, .int .u32 ev.addr, .int .u32 ev.node, .int .u32 ev.dst, .int .u32 ev.xfer, .int .u8 4, .int .u64 ev.arg, .int .u64 ev.badge, .slice xo ev.ws.length cx]), (4, .int .u8 0), (5, .bool false), (7, .pointer (some ⟨(Z.tp x), 0, none⟩)), (53, .int .u8 10), (66, .bool false), (21, .int .u8 0), (22, .int .i64 s1), (24, .int .i64 s2), (25, .int .u8 0)]) (φ := True) (rest := []) h103 (by kernel_rfl) rfl trivial fun a104 h105 => ?_
  clear h103
  refine nd_done ?_
  refine hK97 _ _ ?_
  clear hK97
  refine wp_seq_k fun K106 hK106 => ?_
  refine wp_seq_k fun K107 hK107 => ?_
  refine nd_start (l := [0, 1]) rfl ?_
  refine nd_batch tabOk2 tabZ_ok2 [(0, {}), (1, {})] [6, 3, 0, 1, 4, 5, 7, 53, 66, 21, 22, 24, 25, 312] (T' := [(6, .pointer (some ⟨b14, 0, none⟩)), (3, .pointer (some ⟨b2, 0, none⟩)), (0, .pointer (some ⟨mb, 0, none⟩)), (1, .agg #[.int .u8 10, .int .u32 ev.pick, .int .u64 ev.draw, .int .u32 ev.addr, .int .u32 ev.node, .int .u32 ev.dst, .int .u32 ev.xfer, .int .u8 4, .int .u64 ev.arg, .int .u64 ev.badge, .slice xo ev.ws.length cx]), (4, .int .u8 0), (5, .bool false), (7, .pointer (some ⟨(Z.tp x), 0, none⟩)), (53, .int .u8 10), (66, .bool false), (21, .int .u8 0), (22, .int .i64 s1), (24, .int .i64 s2), (25, .int .u8 0), (312, .bool false)]) (φ := True) (rest := []) h105 (by kernel_rfl) rfl trivial fun a108 h109 => ?_
  clear h105
  refine nd_done ?_
  refine hK107 _ _ ?_
  clear hK107
  refine c_false h109 rfl ?_
  refine wp_skip ?_
  refine hK106 _ _ ?_
  clear hK106
  refine wp_seq_k fun K110 hK110 => ?_
  refine wp_seq_k fun K111 hK111 => ?_
  refine nd_start (l := [0, 1, 2, 3, 4, 5, 6, 7]) rfl ?_
  refine nd_batch tabOk2 tabZ_ok2 [(0, {}), (1, {}), (2, {})] [6, 3, 0, 1, 4, 5, 7, 53, 66, 21, 22, 24, 25, 316] (T' := [(6, .pointer (some ⟨b14, 0, none⟩)), (3, .pointer (some ⟨b2, 0, none⟩)), (0, .pointer (some ⟨mb, 0, none⟩)), (1, .agg #[.int .u8 10, .int .u32 ev.pick, .int .u64 ev.draw, .int .u32 ev.addr, .int .u32 ev.node, .int .u32 ev.dst, .int .u32 ev.xfer, .int .u8 4, .int .u64 ev.arg, .int .u64 ev.badge, .slice xo ev.ws.length cx]), (4, .int .u8 0), (5, .bool false), (7, .pointer (some ⟨(Z.tp x), 0, none⟩)), (53, .int .u8 10), (66, .bool false), (21, .int .u8 0), (22, .int .i64 s1), (24, .int .i64 s2), (25, .int .u8 0), (316, .pointer (some ⟨mb, 1, none⟩))]) (φ := True) (rest := [3, 4, 5, 6, 7]) h109 (by kernel_rfl) rfl trivial fun a112 h113 => ?_
  clear h109
  refine nd_op ?_
  refine op_read (b := mb) (v := .pointer (some ⟨Z.mc, 0, none⟩)) h113 rfl rfl (rd_m h113 (k := 1) (v := .pointer (some ⟨Z.mc, 0, none⟩)) rfl rfl rfl rfl (md_p ⟨rfl, trivial⟩)) ?_
  have h114 := h113.put (d := some 317) (v := .pointer (some ⟨Z.mc, 0, none⟩)) (T' := [(317, .pointer (some ⟨Z.mc, 0, none⟩)), (6, .pointer (some ⟨b14, 0, none⟩)), (3, .pointer (some ⟨b2, 0, none⟩)), (0, .pointer (some ⟨mb, 0, none⟩)), (1, .agg #[.int .u8 10, .int .u32 ev.pick, .int .u64 ev.draw, .int .u32 ev.addr, .int .u32 ev.node, .int .u32 ev.dst, .int .u32 ev.xfer, .int .u8 4, .int .u64 ev.arg, .int .u64 ev.badge, .slice xo ev.ws.length cx]), (4, .int .u8 0), (5, .bool false), (7, .pointer (some ⟨(Z.tp x), 0, none⟩)), (53, .int .u8 10), (66, .bool false), (21, .int .u8 0), (22, .int .i64 s1), (24, .int .i64 s2), (25, .int .u8 0), (316, .pointer (some ⟨mb, 1, none⟩))]) rfl
  clear h113
  refine nd_batch tabOk2 tabZ_ok2 [(4, {})] [317, 6, 3, 0, 1, 4, 5, 7, 53, 66, 21, 22, 24, 25, 318] (T' := [(317, .pointer (some ⟨Z.mc, 0, none⟩)), (6, .pointer (some ⟨b14, 0, none⟩)), (3, .pointer (some ⟨b2, 0, none⟩)), (0, .pointer (some ⟨mb, 0, none⟩)), (1, .agg #[.int .u8 10, .int .u32 ev.pick, .int .u64 ev.draw, .int .u32 ev.addr, .int .u32 ev.node, .int .u32 ev.dst, .int .u32 ev.xfer, .int .u8 4, .int .u64 ev.arg, .int .u64 ev.badge, .slice xo ev.ws.length cx]), (4, .int .u8 0), (5, .bool false), (7, .pointer (some ⟨(Z.tp x), 0, none⟩)), (53, .int .u8 10), (66, .bool false), (21, .int .u8 0), (22, .int .i64 s1), (24, .int .i64 s2), (25, .int .u8 0), (318, .int .i64 s2)]) (φ := True) (rest := [5, 6, 7]) h114 (by kernel_rfl) rfl trivial fun a115 h116 => ?_
  clear h114
  refine nd_op ?_
  obtain ⟨i2, j2, hi2, hj2, hp2, hs2⟩ := look_fact hI.ci hci.1 he.dst.1 e2 rfl
  refine op_call h116 rfl rfl rfl (callOk Tryd.func62 (by decide) rfl) (args := [.pointer (some ⟨Z.mc, 0, none⟩), .int .i64 s2]) rfl (atE Z.mo Z.mc Z.nd C hi2 hj2 hp2 hs2 _ h116.inv.1.cp) ?_
  rintro _ w117 ⟨rfl, hf119⟩
  refine ⟨_, rfl, ?_⟩
  have h118 := (h116.grow hf119).put (d := some 319) (v := .agg #[.int .u8 ((C.cel s2.toNat).cap.ty), .int .u16 ((C.cel s2.toNat).cap.obj.idx), .int .u32 ((C.cel s2.toNat).cap.obj.gen), .int .u8 ((C.cel s2.toNat).cap.rights), .int .u64 ((C.cel s2.toNat).cap.badge)]) (T' := [(319, .agg #[.int .u8 ((C.cel s2.toNat).cap.ty), .int .u16 ((C.cel s2.toNat).cap.obj.idx), .int .u32 ((C.cel s2.toNat).cap.obj.gen), .int .u8 ((C.cel s2.toNat).cap.rights), .int .u64 ((C.cel s2.toNat).cap.badge)]), (317, .pointer (some ⟨Z.mc, 0, none⟩)), (6, .pointer (some ⟨b14, 0, none⟩)), (3, .pointer (some ⟨b2, 0, none⟩)), (0, .pointer (some ⟨mb, 0, none⟩)), (1, .agg #[.int .u8 10, .int .u32 ev.pick, .int .u64 ev.draw, .int .u32 ev.addr, .int .u32 ev.node, .int .u32 ev.dst, .int .u32 ev.xfer, .int .u8 4, .int .u64 ev.arg, .int .u64 ev.badge, .slice xo ev.ws.length cx]), (4, .int .u8 0), (5, .bool false), (7, .pointer (some ⟨(Z.tp x), 0, none⟩)), (53, .int .u8 10), (66, .bool false), (21, .int .u8 0), (22, .int .i64 s1), (24, .int .i64 s2), (25, .int .u8 0), (318, .int .i64 s2)]) rfl
  clear h116
  refine nd_batch tabOk2 tabZ_ok2 [(6, {}), (7, {})] [6, 3, 0, 1, 4, 5, 7, 53, 66, 21, 22, 24, 25, 321] (T' := [(6, .pointer (some ⟨b14, 0, none⟩)), (3, .pointer (some ⟨b2, 0, none⟩)), (0, .pointer (some ⟨mb, 0, none⟩)), (1, .agg #[.int .u8 10, .int .u32 ev.pick, .int .u64 ev.draw, .int .u32 ev.addr, .int .u32 ev.node, .int .u32 ev.dst, .int .u32 ev.xfer, .int .u8 4, .int .u64 ev.arg, .int .u64 ev.badge, .slice xo ev.ws.length cx]), (4, .int .u8 0), (5, .bool false), (7, .pointer (some ⟨(Z.tp x), 0, none⟩)), (53, .int .u8 10), (66, .bool false), (21, .int .u8 0), (22, .int .i64 s1), (24, .int .i64 s2), (25, .int .u8 0), (321, .bool ((C.cel s2.toNat).cap.ty != 0))]) (φ := True) (rest := []) h118 (by kernel_rfl) rfl trivial fun a120 h121 => ?_
  clear h118
  refine nd_done ?_
  refine hK111 _ _ ?_
  clear hK111
  refine c_split h121 (b := ((C.cel s2.toNat).cap.ty != 0)) rfl (fun hc122 => ?_) (fun hc122 => ?_)
  ·
    have hc122f : (C.cel s2.toNat).cap.ty ≠ 0 := by simpa using hc122
    exact absurd (hz2) (by first | exact hc122f | (intro hz; exact hc122f hz) | omega | simp_all)
  ·
    have hc122f : (C.cel s2.toNat).cap.ty = 0 := by simpa using hc122
    refine wp_skip ?_
    refine hK110 _ _ ?_
    clear hK110
    refine wp_seq_k fun K123 hK123 => ?_
    refine wp_seq_k fun K124 hK124 => ?_
    refine nd_start (l := [0, 1, 2, 3, 4, 5, 6, 7, 8, 9, 10, 11, 12, 13, 14, 15, 16, 17]) rfl ?_
    refine nd_batch tabOk2 tabZ_ok2 [(0, {}), (1, {k := 1}), (2, {}), (3, {}), (4, {}), (5, {k := 1}), (6, {}), (7, {}), (8, {}), (9, {}), (10, {k := 1}), (11, {}), (12, {}), (13, {}), (14, {}), (15, {}), (16, {}), (17, {})] [6, 3, 0, 1, 4, 5, 7, 53, 66, 21, 22, 24, 25, 339] (T' := [(6, .pointer (some ⟨b14, 0, none⟩)), (3, .pointer (some ⟨b2, 0, none⟩)), (0, .pointer (some ⟨mb, 0, none⟩)), (1, .agg #[.int .u8 10, .int .u32 ev.pick, .int .u64 ev.draw, .int .u32 ev.addr, .int .u32 ev.node, .int .u32 ev.dst, .int .u32 ev.xfer, .int .u8 4, .int .u64 ev.arg, .int .u64 ev.badge, .slice xo ev.ws.length cx]), (4, .int .u8 0), (5, .bool false), (7, .pointer (some ⟨(Z.tp x), 0, none⟩)), (53, .int .u8 10), (66, .bool false), (21, .int .u8 0), (22, .int .i64 s1), (24, .int .i64 s2), (25, .int .u8 0), (339, .bool false)]) (φ := (b2 = b2 ∧ Nat.ble (7 + 1) 11 = true) ∧ (b2 = b2 ∧ Nat.ble (7 + 1) 11 = true) ∧ (b2 = b2 ∧ Nat.ble (7 + 1) 11 = true) ∧ True) (rest := []) h121 (by kernel_rfl) rfl ⟨⟨rfl, rfl⟩, ⟨rfl, rfl⟩, ⟨rfl, rfl⟩, trivial⟩ fun a125 h126 => ?_
    clear h121
    refine nd_done ?_
    refine hK124 _ _ ?_
    clear hK124
    refine c_false h126 rfl ?_
    refine wp_skip ?_
    refine hK123 _ _ ?_
    clear hK123
    refine wp_seq_k fun K127 hK127 => ?_
    refine dr_start (KB := [3, b2, b14, b75, mb]) (Bi := [[0, 1, 2, 3, 4], [0, 1, 2, 3, 4], [0, 1, 2, 3, 4], [0, 1, 2, 3, 4], [0, 1, 2, 3, 4], [0, 1, 2, 3, 4], [], [0, 1, 2, 3, 4], [0, 1, 2, 3, 4], [0, 1, 2, 3, 4], [1, 4], [], [0, 1, 2, 3, 4]]) mixed h126 fun w128 h129 => ?_
    clear h126
    refine dr_batch tabOk2 tabZ_ok2 (by repeat (first | with_reducible exact PF.body | with_reducible apply PF.inB | with_reducible apply PF.next)) [(0, {}), (1, {}), (2, {})] [6, 3, 0, 1, 4, 5, 7, 53, 66, 21, 22, 24, 25, 343] (T' := [(6, .pointer (some ⟨b14, 0, none⟩)), (3, .pointer (some ⟨b2, 0, none⟩)), (0, .pointer (some ⟨mb, 0, none⟩)), (1, .agg #[.int .u8 10, .int .u32 ev.pick, .int .u64 ev.draw, .int .u32 ev.addr, .int .u32 ev.node, .int .u32 ev.dst, .int .u32 ev.xfer, .int .u8 4, .int .u64 ev.arg, .int .u64 ev.badge, .slice xo ev.ws.length cx]), (4, .int .u8 0), (5, .bool false), (7, .pointer (some ⟨(Z.tp x), 0, none⟩)), (53, .int .u8 10), (66, .bool false), (21, .int .u8 0), (22, .int .i64 s1), (24, .int .i64 s2), (25, .int .u8 0), (343, .pointer (some ⟨mb, 0, none⟩))]) (φ := True) (fuel := 10) h129 (by kernel_rfl) rfl (by kernel_rfl) (by kernel_rfl) ⟨trivial, trivial, trivial, trivial⟩ trivial fun a131 h132 => ?_
    clear h129
    refine dr_read (i := 3) (b := mb) (p := 4) (v := .pointer (some ⟨Z.mo, 0, none⟩)) (fuel := 9) (by repeat (first | with_reducible exact PF.body | with_reducible apply PF.inB | with_reducible apply PF.next)) h132 rfl rfl rfl (by kernel_rfl) (by kernel_rfl) (by kernel_rfl) rfl (rd_m h132 (k := 0) (v := .pointer (some ⟨Z.mo, 0, none⟩)) rfl rfl rfl rfl (md_p ⟨rfl, trivial⟩)) ?_
    have h133 := h132.put (d := some 344) (v := .pointer (some ⟨Z.mo, 0, none⟩)) (T' := [(344, .pointer (some ⟨Z.mo, 0, none⟩)), (6, .pointer (some ⟨b14, 0, none⟩)), (3, .pointer (some ⟨b2, 0, none⟩)), (0, .pointer (some ⟨mb, 0, none⟩)), (1, .agg #[.int .u8 10, .int .u32 ev.pick, .int .u64 ev.draw, .int .u32 ev.addr, .int .u32 ev.node, .int .u32 ev.dst, .int .u32 ev.xfer, .int .u8 4, .int .u64 ev.arg, .int .u64 ev.badge, .slice xo ev.ws.length cx]), (4, .int .u8 0), (5, .bool false), (7, .pointer (some ⟨(Z.tp x), 0, none⟩)), (53, .int .u8 10), (66, .bool false), (21, .int .u8 0), (22, .int .i64 s1), (24, .int .i64 s2), (25, .int .u8 0), (343, .pointer (some ⟨mb, 0, none⟩))]) rfl
    clear h132
    refine dr_batch tabOk2 tabZ_ok2 (by repeat (first | with_reducible exact PF.body | with_reducible apply PF.inB | with_reducible apply PF.next)) [(4, {}), (5, {k := 1, p := 1})] [344, 6, 3, 0, 1, 4, 5, 7, 53, 66, 21, 22, 24, 25, 346] (T' := [(344, .pointer (some ⟨Z.mo, 0, none⟩)), (6, .pointer (some ⟨b14, 0, none⟩)), (3, .pointer (some ⟨b2, 0, none⟩)), (0, .pointer (some ⟨mb, 0, none⟩)), (1, .agg #[.int .u8 10, .int .u32 ev.pick, .int .u64 ev.draw, .int .u32 ev.addr, .int .u32 ev.node, .int .u32 ev.dst, .int .u32 ev.xfer, .int .u8 4, .int .u64 ev.arg, .int .u64 ev.badge, .slice xo ev.ws.length cx]), (4, .int .u8 0), (5, .bool false), (7, .pointer (some ⟨(Z.tp x), 0, none⟩)), (53, .int .u8 10), (66, .bool false), (21, .int .u8 0), (22, .int .i64 s1), (24, .int .i64 s2), (25, .int .u8 0), (346, .int .u8 4)]) (φ := (b2 = b2 ∧ Nat.ble (7 + 1) 11 = true) ∧ True) (fuel := 7) h133 (by kernel_rfl) rfl (by kernel_rfl) (by kernel_rfl) ⟨trivial, rfl, trivial⟩ ⟨⟨rfl, rfl⟩, trivial⟩ fun a134 h135 => ?_
    clear h133
    refine wpAnyK_two (i := 6) (j := 10) (fuel := 6) (by kernel_rfl) ?_ ?_
    ·
      refine op_call h135 rfl rfl rfl (callOk Tryd.func37 (by decide) rfl) (args := [.pointer (some ⟨Z.mo, 0, none⟩), .int .u8 4]) rfl (retypeC_ok Z.mo Z.mc Z.nd C 4 (by decide) _ h135.inv.1.cp er) ?_
      rintro _ w136 ⟨rfl, hc137, hf138⟩
      refine ⟨_, rfl, ?_⟩
      have h139a := st_cap h135 hc137 hf138 (fun b hb => .inl hb) (kcons (fun _ => rfl) (kcons (fun hq => by cases hq) (kcons (fun hq => by cases hq) (kcons (fun hq => by cases hq) knil))))
      have h139 := h139a.put (d := some 347) (v := .tuple #[.agg #[.int .u16 r.idx, .int .u32 r.gen], .int .u8 k]) (T' := [(347, .tuple #[.agg #[.int .u16 r.idx, .int .u32 r.gen], .int .u8 k]), (344, .pointer (some ⟨Z.mo, 0, none⟩)), (6, .pointer (some ⟨b14, 0, none⟩)), (3, .pointer (some ⟨b2, 0, none⟩)), (0, .pointer (some ⟨mb, 0, none⟩)), (1, .agg #[.int .u8 10, .int .u32 ev.pick, .int .u64 ev.draw, .int .u32 ev.addr, .int .u32 ev.node, .int .u32 ev.dst, .int .u32 ev.xfer, .int .u8 4, .int .u64 ev.arg, .int .u64 ev.badge, .slice xo ev.ws.length cx]), (4, .int .u8 0), (5, .bool false), (7, .pointer (some ⟨(Z.tp x), 0, none⟩)), (53, .int .u8 10), (66, .bool false), (21, .int .u8 0), (22, .int .i64 s1), (24, .int .i64 s2), (25, .int .u8 0), (346, .int .u8 4)]) rfl
      refine ⟨keepNil, ?_⟩
      clear h135 h139a
      refine dr_batch tabOk2 tabZ_ok2 (by repeat (first | with_reducible exact PF.body | with_reducible apply PF.inB | with_reducible apply PF.next)) [(7, {}), (8, {}), (9, {})] [6, 3, 0, 1, 4, 5, 7, 53, 66, 21, 22, 24, 25, 348, 349] (T' := [(6, .pointer (some ⟨b14, 0, none⟩)), (3, .pointer (some ⟨b2, 0, none⟩)), (0, .pointer (some ⟨mb, 0, none⟩)), (1, .agg #[.int .u8 10, .int .u32 ev.pick, .int .u64 ev.draw, .int .u32 ev.addr, .int .u32 ev.node, .int .u32 ev.dst, .int .u32 ev.xfer, .int .u8 4, .int .u64 ev.arg, .int .u64 ev.badge, .slice xo ev.ws.length cx]), (4, .int .u8 0), (5, .bool false), (7, .pointer (some ⟨(Z.tp x), 0, none⟩)), (53, .int .u8 10), (66, .bool false), (21, .int .u8 0), (22, .int .i64 s1), (24, .int .i64 s2), (25, .int .u8 0), (348, .agg #[.int .u16 r.idx, .int .u32 r.gen]), (349, .int .u8 k)]) (φ := True) (fuel := 3) h139 (by kernel_rfl) rfl (by kernel_rfl) (by kernel_rfl) ⟨trivial, trivial, trivial, trivial⟩ trivial fun a140 h141 => ?_
      clear h139
      refine wpAnyK_one (i := 10) (fuel := 2) (by kernel_rfl) ?_
      refine op_new tabOk2 (cells := [.int .u16 0, .int .u32 0]) (ty := 39) (ln := none) (L1 := fun b142 => [(3, ⟨[.int .u16 0, .int .u32 0], ty3, true⟩), (b2, ⟨[.int .u8 10, .int .u32 ev.pick, .int .u64 ev.draw, .int .u32 ev.addr, .int .u32 ev.node, .int .u32 ev.dst, .int .u32 ev.xfer, .int .u8 4, .int .u64 ev.arg, .int .u64 ev.badge, .slice xo ev.ws.length cx], 35, false⟩), (b14, ⟨[.int .u16 ((Z.ky x).idx), .int .u32 ((Z.ky x).gen)], 39, false⟩), (b75, ⟨[.int .u8 c.ty, .int .u16 c.obj.idx, .int .u32 c.obj.gen, .int .u8 c.rights, .int .u64 c.badge], 49, false⟩), (b142, ⟨[.int .u16 0, .int .u32 0], 39, false⟩)]) h141 rfl rfl rfl rfl (by kernel_rfl) (fun _ => rfl) fun b142 w143 a144 h145 hf146 hn147 => ?_
      refine ⟨(keepCons (kpLf h141.known hf146 (q := 1) rfl) (keepCons (kpM h141.inv.1 (l := .m) trivial (List.mem_cons_self ..) hf146) keepNil)), ?_⟩
      clear h141
      refine wpAnyK_one (i := 11) (fuel := 1) (by kernel_rfl) ?_
      refine op_store tabOk2 {k := 4} (L' := [(3, ⟨[.int .u16 0, .int .u32 0], ty3, true⟩), (b2, ⟨[.int .u8 10, .int .u32 ev.pick, .int .u64 ev.draw, .int .u32 ev.addr, .int .u32 ev.node, .int .u32 ev.dst, .int .u32 ev.xfer, .int .u8 4, .int .u64 ev.arg, .int .u64 ev.badge, .slice xo ev.ws.length cx], 35, false⟩), (b14, ⟨[.int .u16 ((Z.ky x).idx), .int .u32 ((Z.ky x).gen)], 39, false⟩), (b75, ⟨[.int .u8 c.ty, .int .u16 c.obj.idx, .int .u32 c.obj.gen, .int .u8 c.rights, .int .u64 c.badge], 49, false⟩), (b142, ⟨[.int .u16 r.idx, .int .u32 r.gen], 39, false⟩)]) (φ := b142 = b142 ∧ Nat.ble (0 + 2) 2 = true) h145 rfl rfl rfl (by kernel_rfl) ⟨rfl, rfl⟩ fun w148 h149 => ?_
      refine ⟨keepNil, ?_⟩
      clear h145
      refine dr_batch tabOk2 tabZ_ok2 (by repeat (first | with_reducible exact PF.body | with_reducible apply PF.inB | with_reducible apply PF.next)) [(12, {})] [26, 6, 3, 0, 1, 4, 5, 7, 53, 66, 21, 22, 24, 25] (T' := [(26, .pointer (some ⟨b142, 0, none⟩)), (6, .pointer (some ⟨b14, 0, none⟩)), (3, .pointer (some ⟨b2, 0, none⟩)), (0, .pointer (some ⟨mb, 0, none⟩)), (1, .agg #[.int .u8 10, .int .u32 ev.pick, .int .u64 ev.draw, .int .u32 ev.addr, .int .u32 ev.node, .int .u32 ev.dst, .int .u32 ev.xfer, .int .u8 4, .int .u64 ev.arg, .int .u64 ev.badge, .slice xo ev.ws.length cx]), (4, .int .u8 0), (5, .bool false), (7, .pointer (some ⟨(Z.tp x), 0, none⟩)), (53, .int .u8 10), (66, .bool false), (21, .int .u8 0), (22, .int .i64 s1), (24, .int .i64 s2), (25, .int .u8 k)]) (φ := True) (fuel := 0) h149 (by kernel_rfl) rfl (by kernel_rfl) (by kernel_rfl) ⟨trivial, trivial⟩ trivial fun a150 h151 => ?_
      clear h149
      refine wpAnyK_done (by kernel_rfl) ?_ _
      refine hK127 _ _ ?_
      clear hK127
      refine wp_seq_k fun K152 hK152 => ?_
      refine wp_seq_k fun K153 hK153 => ?_
      refine nd_start (l := [0, 1]) rfl ?_
      refine nd_batch tabOk2 tabZ_ok2 [(0, {}), (1, {})] [26, 6, 3, 0, 1, 4, 5, 7, 53, 66, 21, 22, 24, 25, 351] (T' := [(26, .pointer (some ⟨b142, 0, none⟩)), (6, .pointer (some ⟨b14, 0, none⟩)), (3, .pointer (some ⟨b2, 0, none⟩)), (0, .pointer (some ⟨mb, 0, none⟩)), (1, .agg #[.int .u8 10, .int .u32 ev.pick, .int .u64 ev.draw, .int .u32 ev.addr, .int .u32 ev.node, .int .u32 ev.dst, .int .u32 ev.xfer, .int .u8 4, .int .u64 ev.arg, .int .u64 ev.badge, .slice xo ev.ws.length cx]), (4, .int .u8 0), (5, .bool false), (7, .pointer (some ⟨(Z.tp x), 0, none⟩)), (53, .int .u8 10), (66, .bool false), (21, .int .u8 0), (22, .int .i64 s1), (24, .int .i64 s2), (25, .int .u8 k), (351, .bool (k != 0))]) (φ := True) (rest := []) h151 (by kernel_rfl) rfl trivial fun a154 h155 => ?_
      clear h151
      refine nd_done ?_
      refine hK153 _ _ ?_
      clear hK153
      refine c_split h155 (b := (k != 0)) rfl (fun hc156 => ?_) (fun hc156 => ?_)
      ·
        have hc156f : k ≠ 0 := by simpa using hc156
        refine wp_seq_k fun K157 hK157 => ?_
        refine nd_start (l := [0, 1, 2]) rfl ?_
        refine nd_batch tabOk2 tabZ_ok2 [(0, {}), (1, {}), (2, {})] [26, 6, 3, 0, 1, 7, 53, 66, 21, 22, 24, 25, 4, 5] (T' := [(26, .pointer (some ⟨b142, 0, none⟩)), (6, .pointer (some ⟨b14, 0, none⟩)), (3, .pointer (some ⟨b2, 0, none⟩)), (0, .pointer (some ⟨mb, 0, none⟩)), (1, .agg #[.int .u8 10, .int .u32 ev.pick, .int .u64 ev.draw, .int .u32 ev.addr, .int .u32 ev.node, .int .u32 ev.dst, .int .u32 ev.xfer, .int .u8 4, .int .u64 ev.arg, .int .u64 ev.badge, .slice xo ev.ws.length cx]), (7, .pointer (some ⟨(Z.tp x), 0, none⟩)), (53, .int .u8 10), (66, .bool false), (21, .int .u8 0), (22, .int .i64 s1), (24, .int .i64 s2), (25, .int .u8 k), (4, .int .u8 k), (5, .bool false)]) (φ := True) (rest := []) h155 (by kernel_rfl) rfl trivial fun a158 h159 => ?_
        clear h155
        refine nd_done ?_
        refine hK157 _ _ ?_
        clear hK157
        refine wp_ret ?_
        try simp only [Exit.then, Exit.inBlock]
        try rw [if_pos trivial]
        exact s_ret tabOk2 tabZ_ok2 h159 [(.tmp 4, {}), (.tmp 5, {})] (vs := [.int .u8 k, .bool false]) (φ := True) rfl (by kernel_rfl) trivial ⟨rfl, _, mg_end hH h159 hhoh103 rfl⟩
      ·
        have hc156f : k = 0 := by simpa using hc156
        exact absurd hc156f hk0
    ·
      refine op_new tabOk2 (cells := [.int .u16 0, .int .u32 0]) (ty := 39) (ln := none) (L1 := fun b160 => [(3, ⟨[.int .u16 0, .int .u32 0], ty3, true⟩), (b2, ⟨[.int .u8 10, .int .u32 ev.pick, .int .u64 ev.draw, .int .u32 ev.addr, .int .u32 ev.node, .int .u32 ev.dst, .int .u32 ev.xfer, .int .u8 4, .int .u64 ev.arg, .int .u64 ev.badge, .slice xo ev.ws.length cx], 35, false⟩), (b14, ⟨[.int .u16 ((Z.ky x).idx), .int .u32 ((Z.ky x).gen)], 39, false⟩), (b75, ⟨[.int .u8 c.ty, .int .u16 c.obj.idx, .int .u32 c.obj.gen, .int .u8 c.rights, .int .u64 c.badge], 49, false⟩), (b160, ⟨[.int .u16 0, .int .u32 0], 39, false⟩)]) h135 rfl rfl rfl rfl (by kernel_rfl) (fun _ => rfl) fun b160 w161 a162 h163 hf164 hn165 => ?_
      refine ⟨(keepCons (kpLf h135.known hf164 (q := 1) rfl) (keepCons (kpM h135.inv.1 (l := .m) trivial (List.mem_cons_self ..) hf164) keepNil)), ?_⟩
      clear h135
      refine wpAnyK_one (i := 6) (fuel := 5) (by kernel_rfl) ?_
      refine op_call h163 rfl rfl rfl (callOk Tryd.func37 (by decide) rfl) (args := [.pointer (some ⟨Z.mo, 0, none⟩), .int .u8 4]) rfl (retypeC_ok Z.mo Z.mc Z.nd C 4 (by decide) _ h163.inv.1.cp er) ?_
      rintro _ w166 ⟨rfl, hc167, hf168⟩
      refine ⟨_, rfl, ?_⟩
      have h169a := st_cap h163 hc167 hf168 (fun b hb => .inl hb) (kcons (fun _ => rfl) (kcons (fun hq => by cases hq) (kcons (fun hq => by cases hq) (kcons (fun hq => by cases hq) (kcons (fun hq => by cases hq) knil)))))
      have h169 := h169a.put (d := some 347) (v := .tuple #[.agg #[.int .u16 r.idx, .int .u32 r.gen], .int .u8 k]) (T' := [(347, .tuple #[.agg #[.int .u16 r.idx, .int .u32 r.gen], .int .u8 k]), (26, .pointer (some ⟨b160, 0, none⟩)), (344, .pointer (some ⟨Z.mo, 0, none⟩)), (6, .pointer (some ⟨b14, 0, none⟩)), (3, .pointer (some ⟨b2, 0, none⟩)), (0, .pointer (some ⟨mb, 0, none⟩)), (1, .agg #[.int .u8 10, .int .u32 ev.pick, .int .u64 ev.draw, .int .u32 ev.addr, .int .u32 ev.node, .int .u32 ev.dst, .int .u32 ev.xfer, .int .u8 4, .int .u64 ev.arg, .int .u64 ev.badge, .slice xo ev.ws.length cx]), (4, .int .u8 0), (5, .bool false), (7, .pointer (some ⟨(Z.tp x), 0, none⟩)), (53, .int .u8 10), (66, .bool false), (21, .int .u8 0), (22, .int .i64 s1), (24, .int .i64 s2), (25, .int .u8 0), (346, .int .u8 4)]) rfl
      refine ⟨keepNil, ?_⟩
      clear h163 h169a
      refine dr_batch tabOk2 tabZ_ok2 (by repeat (first | with_reducible exact PF.body | with_reducible apply PF.inB | with_reducible apply PF.next)) [(7, {}), (8, {}), (9, {})] [26, 6, 3, 0, 1, 4, 5, 7, 53, 66, 21, 22, 24, 25, 348, 349] (T' := [(26, .pointer (some ⟨b160, 0, none⟩)), (6, .pointer (some ⟨b14, 0, none⟩)), (3, .pointer (some ⟨b2, 0, none⟩)), (0, .pointer (some ⟨mb, 0, none⟩)), (1, .agg #[.int .u8 10, .int .u32 ev.pick, .int .u64 ev.draw, .int .u32 ev.addr, .int .u32 ev.node, .int .u32 ev.dst, .int .u32 ev.xfer, .int .u8 4, .int .u64 ev.arg, .int .u64 ev.badge, .slice xo ev.ws.length cx]), (4, .int .u8 0), (5, .bool false), (7, .pointer (some ⟨(Z.tp x), 0, none⟩)), (53, .int .u8 10), (66, .bool false), (21, .int .u8 0), (22, .int .i64 s1), (24, .int .i64 s2), (25, .int .u8 0), (348, .agg #[.int .u16 r.idx, .int .u32 r.gen]), (349, .int .u8 k)]) (φ := True) (fuel := 2) h169 (by kernel_rfl) rfl (by kernel_rfl) (by kernel_rfl) ⟨trivial, trivial, trivial, trivial⟩ trivial fun a170 h171 => ?_
      clear h169
      refine wpAnyK_one (i := 11) (fuel := 1) (by kernel_rfl) ?_
      refine op_store tabOk2 {k := 4} (L' := [(3, ⟨[.int .u16 0, .int .u32 0], ty3, true⟩), (b2, ⟨[.int .u8 10, .int .u32 ev.pick, .int .u64 ev.draw, .int .u32 ev.addr, .int .u32 ev.node, .int .u32 ev.dst, .int .u32 ev.xfer, .int .u8 4, .int .u64 ev.arg, .int .u64 ev.badge, .slice xo ev.ws.length cx], 35, false⟩), (b14, ⟨[.int .u16 ((Z.ky x).idx), .int .u32 ((Z.ky x).gen)], 39, false⟩), (b75, ⟨[.int .u8 c.ty, .int .u16 c.obj.idx, .int .u32 c.obj.gen, .int .u8 c.rights, .int .u64 c.badge], 49, false⟩), (b160, ⟨[.int .u16 r.idx, .int .u32 r.gen], 39, false⟩)]) (φ := b160 = b160 ∧ Nat.ble (0 + 2) 2 = true) h171 rfl rfl rfl (by kernel_rfl) ⟨rfl, rfl⟩ fun w172 h173 => ?_
      refine ⟨keepNil, ?_⟩
      clear h171
      refine dr_batch tabOk2 tabZ_ok2 (by repeat (first | with_reducible exact PF.body | with_reducible apply PF.inB | with_reducible apply PF.next)) [(12, {})] [26, 6, 3, 0, 1, 4, 5, 7, 53, 66, 21, 22, 24, 25] (T' := [(26, .pointer (some ⟨b160, 0, none⟩)), (6, .pointer (some ⟨b14, 0, none⟩)), (3, .pointer (some ⟨b2, 0, none⟩)), (0, .pointer (some ⟨mb, 0, none⟩)), (1, .agg #[.int .u8 10, .int .u32 ev.pick, .int .u64 ev.draw, .int .u32 ev.addr, .int .u32 ev.node, .int .u32 ev.dst, .int .u32 ev.xfer, .int .u8 4, .int .u64 ev.arg, .int .u64 ev.badge, .slice xo ev.ws.length cx]), (4, .int .u8 0), (5, .bool false), (7, .pointer (some ⟨(Z.tp x), 0, none⟩)), (53, .int .u8 10), (66, .bool false), (21, .int .u8 0), (22, .int .i64 s1), (24, .int .i64 s2), (25, .int .u8 k)]) (φ := True) (fuel := 0) h173 (by kernel_rfl) rfl (by kernel_rfl) (by kernel_rfl) ⟨trivial, trivial⟩ trivial fun a174 h175 => ?_
      clear h173
      refine wpAnyK_done (by kernel_rfl) ?_ _
      refine hK127 _ _ ?_
      clear hK127
      refine wp_seq_k fun K176 hK176 => ?_
      refine wp_seq_k fun K177 hK177 => ?_
      refine nd_start (l := [0, 1]) rfl ?_
      refine nd_batch tabOk2 tabZ_ok2 [(0, {}), (1, {})] [26, 6, 3, 0, 1, 4, 5, 7, 53, 66, 21, 22, 24, 25, 351] (T' := [(26, .pointer (some ⟨b160, 0, none⟩)), (6, .pointer (some ⟨b14, 0, none⟩)), (3, .pointer (some ⟨b2, 0, none⟩)), (0, .pointer (some ⟨mb, 0, none⟩)), (1, .agg #[.int .u8 10, .int .u32 ev.pick, .int .u64 ev.draw, .int .u32 ev.addr, .int .u32 ev.node, .int .u32 ev.dst, .int .u32 ev.xfer, .int .u8 4, .int .u64 ev.arg, .int .u64 ev.badge, .slice xo ev.ws.length cx]), (4, .int .u8 0), (5, .bool false), (7, .pointer (some ⟨(Z.tp x), 0, none⟩)), (53, .int .u8 10), (66, .bool false), (21, .int .u8 0), (22, .int .i64 s1), (24, .int .i64 s2), (25, .int .u8 k), (351, .bool (k != 0))]) (φ := True) (rest := []) h175 (by kernel_rfl) rfl trivial fun a178 h179 => ?_
      clear h175
      refine nd_done ?_
      refine hK177 _ _ ?_
      clear hK177
      refine c_split h179 (b := (k != 0)) rfl (fun hc180 => ?_) (fun hc180 => ?_)
      ·
        have hc180f : k ≠ 0 := by simpa using hc180
        refine wp_seq_k fun K181 hK181 => ?_
        refine nd_start (l := [0, 1, 2]) rfl ?_
        refine nd_batch tabOk2 tabZ_ok2 [(0, {}), (1, {}), (2, {})] [26, 6, 3, 0, 1, 7, 53, 66, 21, 22, 24, 25, 4, 5] (T' := [(26, .pointer (some ⟨b160, 0, none⟩)), (6, .pointer (some ⟨b14, 0, none⟩)), (3, .pointer (some ⟨b2, 0, none⟩)), (0, .pointer (some ⟨mb, 0, none⟩)), (1, .agg #[.int .u8 10, .int .u32 ev.pick, .int .u64 ev.draw, .int .u32 ev.addr, .int .u32 ev.node, .int .u32 ev.dst, .int .u32 ev.xfer, .int .u8 4, .int .u64 ev.arg, .int .u64 ev.badge, .slice xo ev.ws.length cx]), (7, .pointer (some ⟨(Z.tp x), 0, none⟩)), (53, .int .u8 10), (66, .bool false), (21, .int .u8 0), (22, .int .i64 s1), (24, .int .i64 s2), (25, .int .u8 k), (4, .int .u8 k), (5, .bool false)]) (φ := True) (rest := []) h179 (by kernel_rfl) rfl trivial fun a182 h183 => ?_
        clear h179
        refine nd_done ?_
        refine hK181 _ _ ?_
        clear hK181
        refine wp_ret ?_
        try simp only [Exit.then, Exit.inBlock]
        try rw [if_pos trivial]
        exact s_ret tabOk2 tabZ_ok2 h183 [(.tmp 4, {}), (.tmp 5, {})] (vs := [.int .u8 k, .bool false]) (φ := True) rfl (by kernel_rfl) trivial ⟨rfl, _, mg_end hH h183 hhoh103 rfl⟩
      ·
        have hc180f : k = 0 := by simpa using hc180
        exact absurd hc180f hk0

theorem call10f5 (mb : Nat) (Z : MZ) (R : MR) (a : AK) (C : CP) (hI : MI Z a C) (x : Nat) (hx : x ∈ sl Z.tl) (hcu : a.cur = (x : Int)) (ev : Ev) (he : EvOk ev) (xo : Option Addr) (cx : Nat) (c : Cp) (cs0 : Int) (hf : findA a C ev.addr 1 2 = (c, cs0, 0)) (s1 : Int) (e1 : lookP C.ent (a.th x).cs ev.addr = (s1, 0)) (s2 : Int) (e2 : lookP C.ent (a.th x).cs ev.dst = (s2, 0)) (hz2 : (C.cel s2.toNat).cap.ty = 0) (E1 : Nat → Ent) (r : Rf) (k : Int) (er : retype0 C.ent 5 = (E1, r, k)) (hk0 : k ≠ 0) (w : World) (hH : MH mb Z R a C w) (hws : WordsAt (mdF mb Z R C) w xo ev.ws) :
    Calls Tryd.prog 55 #[.pointer (some ⟨mb, 0, none⟩), .agg #[.int .u8 10, .int .u32 ev.pick, .int .u64 ev.draw, .int .u32 ev.addr, .int .u32 ev.node, .int .u32 ev.dst, .int .u32 ev.xfer, .int .u8 5, .int .u64 ev.arg, .int .u64 ev.badge, .slice xo ev.ws.length cx]] w fun e w' => e = .returned (.tuple #[.int .u8 k, .bool false]) ∧ ∃ R', MG mb Z R C w Z R' a { C with ent := E1 } w' := by
  have hP := hI.mp
  have hcx : curR Z a = Z.ky x := curR_of hcu
  have hcn : a.cur.toNat = x := by rw [hcu]; exact Int.toNat_natCast x
  have hci := (hI.tk x hx).ci
  obtain ⟨ty3, hg3⟩ := hH.g3
  have hho := hH.ho
  have hkk := hH.md.k
  refine enter (n := 628) (K := mdF mb Z R C) (A := MD (mdF mb Z R C) w.heap.size mb Z R a C) (F := mdF mb Z R C) (T := [(0, .pointer (some ⟨mb, 0, none⟩)), (1, .agg #[.int .u8 10, .int .u32 ev.pick, .int .u64 ev.draw, .int .u32 ev.addr, .int .u32 ev.node, .int .u32 ev.dst, .int .u32 ev.xfer, .int .u8 5, .int .u64 ev.arg, .int .u64 ev.badge, .slice xo ev.ws.length cx])]) (L := [(3, ⟨[.int .u16 0, .int .u32 0], ty3, true⟩)]) (args := [.pointer (some ⟨mb, 0, none⟩), .agg #[.int .u8 10, .int .u32 ev.pick, .int .u64 ev.draw, .int .u32 ev.addr, .int .u32 ev.node, .int .u32 ev.dst, .int .u32 ev.xfer, .int .u8 5, .int .u64 ev.arg, .int .u64 ev.badge, .slice xo ev.ws.length cx]]) Tryd.func55 rfl rfl rfl rfl (kcons hg3 knil) (by simp) (kcons (by intro hq; cases hq) knil) hH.mD MD.stable hH.md.low (kcons (by intro hq; cases hq) knil) ?_
  intro ac h
  refine wp_seq_k fun K1 hK1 => ?_
  refine nd_start (l := [0, 1, 2]) rfl ?_
  refine nd_op ?_
  refine op_new tabOk2 (cells := [.int .u8 10, .int .u32 ev.pick, .int .u64 ev.draw, .int .u32 ev.addr, .int .u32 ev.node, .int .u32 ev.dst, .int .u32 ev.xfer, .int .u8 5, .int .u64 ev.arg, .int .u64 ev.badge, .slice xo ev.ws.length cx]) (ty := 35) (ln := none) (L1 := fun b2 => [(3, ⟨[.int .u16 0, .int .u32 0], ty3, true⟩), (b2, ⟨[.int .u8 10, .int .u32 ev.pick, .int .u64 ev.draw, .int .u32 ev.addr, .int .u32 ev.node, .int .u32 ev.dst, .int .u32 ev.xfer, .int .u8 5, .int .u64 ev.arg, .int .u64 ev.badge, .slice xo ev.ws.length cx], 35, false⟩)]) h rfl rfl rfl rfl (by kernel_rfl) (fun _ => rfl) fun b2 w3 a4 h5 hf6 hn7 => ?_
  clear h
  refine nd_batch tabOk2 tabZ_ok2 [(1, {}), (2, {})] [3, 0, 1, 4, 5] (T' := [(3, .pointer (some ⟨b2, 0, none⟩)), (0, .pointer (some ⟨mb, 0, none⟩)), (1, .agg #[.int .u8 10, .int .u32 ev.pick, .int .u64 ev.draw, .int .u32 ev.addr, .int .u32 ev.node, .int .u32 ev.dst, .int .u32 ev.xfer, .int .u8 5, .int .u64 ev.arg, .int .u64 ev.badge, .slice xo ev.ws.length cx]), (4, .int .u8 0), (5, .bool false)]) (φ := True) (rest := []) h5 (by kernel_rfl) rfl trivial fun a8 h9 => ?_
  clear h5
  refine nd_done ?_
  refine hK1 _ _ ?_
  clear hK1
  refine wp_seq_k fun K10 hK10 => ?_
  refine nd_start (l := [0, 1, 2, 3, 4, 5]) rfl ?_
  refine nd_batch tabOk2 tabZ_ok2 [(0, {}), (1, {}), (2, {})] [3, 0, 1, 4, 5, 44] (T' := [(3, .pointer (some ⟨b2, 0, none⟩)), (0, .pointer (some ⟨mb, 0, none⟩)), (1, .agg #[.int .u8 10, .int .u32 ev.pick, .int .u64 ev.draw, .int .u32 ev.addr, .int .u32 ev.node, .int .u32 ev.dst, .int .u32 ev.xfer, .int .u8 5, .int .u64 ev.arg, .int .u64 ev.badge, .slice xo ev.ws.length cx]), (4, .int .u8 0), (5, .bool false), (44, .pointer (some ⟨mb, 13, none⟩))]) (φ := True) (rest := [3, 4, 5]) h9 (by kernel_rfl) rfl trivial fun a11 h12 => ?_
  clear h9
  refine nd_op ?_
  refine op_read (b := mb) (v := .agg #[.int .u16 ((Z.ky x).idx), .int .u32 ((Z.ky x).gen)]) h12 rfl rfl (rd_mA h12 (k := 13) (vs := [.int .u16 ((Z.ky x).idx), .int .u32 ((Z.ky x).gen)]) rfl rfl rfl rfl rfl (by rw [← hcx]; exact md_cur)) ?_
  have h13 := h12.put (d := some 45) (v := .agg #[.int .u16 ((Z.ky x).idx), .int .u32 ((Z.ky x).gen)]) (T' := [(45, .agg #[.int .u16 ((Z.ky x).idx), .int .u32 ((Z.ky x).gen)]), (3, .pointer (some ⟨b2, 0, none⟩)), (0, .pointer (some ⟨mb, 0, none⟩)), (1, .agg #[.int .u8 10, .int .u32 ev.pick, .int .u64 ev.draw, .int .u32 ev.addr, .int .u32 ev.node, .int .u32 ev.dst, .int .u32 ev.xfer, .int .u8 5, .int .u64 ev.arg, .int .u64 ev.badge, .slice xo ev.ws.length cx]), (4, .int .u8 0), (5, .bool false), (44, .pointer (some ⟨mb, 13, none⟩))]) rfl
  clear h12
  refine nd_op ?_
  refine op_new tabOk2 (cells := [.int .u16 0, .int .u32 0]) (ty := 39) (ln := none) (L1 := fun b14 => [(3, ⟨[.int .u16 0, .int .u32 0], ty3, true⟩), (b2, ⟨[.int .u8 10, .int .u32 ev.pick, .int .u64 ev.draw, .int .u32 ev.addr, .int .u32 ev.node, .int .u32 ev.dst, .int .u32 ev.xfer, .int .u8 5, .int .u64 ev.arg, .int .u64 ev.badge, .slice xo ev.ws.length cx], 35, false⟩), (b14, ⟨[.int .u16 0, .int .u32 0], 39, false⟩)]) h13 rfl rfl rfl rfl (by kernel_rfl) (fun _ => rfl) fun b14 w15 a16 h17 hf18 hn19 => ?_
  clear h13
  refine nd_op ?_
  refine op_store tabOk2 {k := 2} (L' := [(3, ⟨[.int .u16 0, .int .u32 0], ty3, true⟩), (b2, ⟨[.int .u8 10, .int .u32 ev.pick, .int .u64 ev.draw, .int .u32 ev.addr, .int .u32 ev.node, .int .u32 ev.dst, .int .u32 ev.xfer, .int .u8 5, .int .u64 ev.arg, .int .u64 ev.badge, .slice xo ev.ws.length cx], 35, false⟩), (b14, ⟨[.int .u16 ((Z.ky x).idx), .int .u32 ((Z.ky x).gen)], 39, false⟩)]) (φ := b14 = b14 ∧ Nat.ble (0 + 2) 2 = true) h17 rfl rfl rfl (by kernel_rfl) ⟨rfl, rfl⟩ fun w20 h21 => ?_
  clear h17
  refine nd_done ?_
  refine hK10 _ _ ?_
  clear hK10
  refine wp_seq_k fun K22 hK22 => ?_
  refine dr_start (KB := [3, b2, b14, mb, Z.tb]) (Bi := [[0, 1, 2, 3, 4], [0, 1, 2, 3, 4], [0, 1, 2, 3, 4], [0, 1, 2, 3, 4], [0, 1, 2, 3, 4], [0, 1, 2, 3, 4], [0, 1, 2, 3, 4]]) mixed h21 fun w23 h24 => ?_
  clear h21
  refine dr_batch tabOk2 tabZ_ok2 (by repeat (first | with_reducible exact PF.body | with_reducible apply PF.inB | with_reducible apply PF.next)) [(0, {}), (1, {}), (2, {})] [6, 3, 0, 1, 4, 5, 48] (T' := [(6, .pointer (some ⟨b14, 0, none⟩)), (3, .pointer (some ⟨b2, 0, none⟩)), (0, .pointer (some ⟨mb, 0, none⟩)), (1, .agg #[.int .u8 10, .int .u32 ev.pick, .int .u64 ev.draw, .int .u32 ev.addr, .int .u32 ev.node, .int .u32 ev.dst, .int .u32 ev.xfer, .int .u8 5, .int .u64 ev.arg, .int .u64 ev.badge, .slice xo ev.ws.length cx]), (4, .int .u8 0), (5, .bool false), (48, .pointer (some ⟨mb, 2, none⟩))]) (φ := True) (fuel := 4) h24 (by kernel_rfl) rfl (by kernel_rfl) (by kernel_rfl) ⟨trivial, trivial, trivial, trivial⟩ trivial fun a26 h27 => ?_
  clear h24
  refine dr_read (i := 3) (b := mb) (p := 3) (v := .map (some Z.tb)) (fuel := 3) (by repeat (first | with_reducible exact PF.body | with_reducible apply PF.inB | with_reducible apply PF.next)) h27 rfl rfl rfl (by kernel_rfl) (by kernel_rfl) (by kernel_rfl) rfl (rd_m h27 (k := 2) (v := .map (some Z.tb)) rfl rfl rfl rfl (md_p ⟨rfl, trivial⟩)) ?_
  have h28 := h27.put (d := some 49) (v := .map (some Z.tb)) (T' := [(49, .map (some Z.tb)), (6, .pointer (some ⟨b14, 0, none⟩)), (3, .pointer (some ⟨b2, 0, none⟩)), (0, .pointer (some ⟨mb, 0, none⟩)), (1, .agg #[.int .u8 10, .int .u32 ev.pick, .int .u64 ev.draw, .int .u32 ev.addr, .int .u32 ev.node, .int .u32 ev.dst, .int .u32 ev.xfer, .int .u8 5, .int .u64 ev.arg, .int .u64 ev.badge, .slice xo ev.ws.length cx]), (4, .int .u8 0), (5, .bool false), (48, .pointer (some ⟨mb, 2, none⟩))]) rfl
  clear h27
  refine dr_batch tabOk2 tabZ_ok2 (by repeat (first | with_reducible exact PF.body | with_reducible apply PF.inB | with_reducible apply PF.next)) [(4, {k := 2, p := 2})] [49, 6, 3, 0, 1, 4, 5, 50] (T' := [(49, .map (some Z.tb)), (6, .pointer (some ⟨b14, 0, none⟩)), (3, .pointer (some ⟨b2, 0, none⟩)), (0, .pointer (some ⟨mb, 0, none⟩)), (1, .agg #[.int .u8 10, .int .u32 ev.pick, .int .u64 ev.draw, .int .u32 ev.addr, .int .u32 ev.node, .int .u32 ev.dst, .int .u32 ev.xfer, .int .u8 5, .int .u64 ev.arg, .int .u64 ev.badge, .slice xo ev.ws.length cx]), (4, .int .u8 0), (5, .bool false), (50, .agg #[.int .u16 ((Z.ky x).idx), .int .u32 ((Z.ky x).gen)])]) (φ := (b14 = b14 ∧ Nat.ble (0 + 2) 2 = true) ∧ True) (fuel := 2) h28 (by kernel_rfl) rfl (by kernel_rfl) (by kernel_rfl) ⟨rfl, trivial⟩ ⟨⟨rfl, rfl⟩, trivial⟩ fun a29 h30 => ?_
  clear h28
  refine dr_read (i := 5) (b := Z.tb) (p := 4) (v := .pointer (some ⟨(Z.tp x), 0, none⟩)) (fuel := 1) (by repeat (first | with_reducible exact PF.body | with_reducible apply PF.inB | with_reducible apply PF.next)) h30 rfl rfl rfl (by kernel_rfl) (by kernel_rfl) (by kernel_rfl) rfl (rd_T h30 (x := x) hx rfl rfl rfl) ?_
  have h31 := h30.put (d := some 51) (v := .pointer (some ⟨(Z.tp x), 0, none⟩)) (T' := [(51, .pointer (some ⟨(Z.tp x), 0, none⟩)), (49, .map (some Z.tb)), (6, .pointer (some ⟨b14, 0, none⟩)), (3, .pointer (some ⟨b2, 0, none⟩)), (0, .pointer (some ⟨mb, 0, none⟩)), (1, .agg #[.int .u8 10, .int .u32 ev.pick, .int .u64 ev.draw, .int .u32 ev.addr, .int .u32 ev.node, .int .u32 ev.dst, .int .u32 ev.xfer, .int .u8 5, .int .u64 ev.arg, .int .u64 ev.badge, .slice xo ev.ws.length cx]), (4, .int .u8 0), (5, .bool false), (50, .agg #[.int .u16 ((Z.ky x).idx), .int .u32 ((Z.ky x).gen)])]) rfl
  clear h30
  refine dr_batch tabOk2 tabZ_ok2 (by repeat (first | with_reducible exact PF.body | with_reducible apply PF.inB | with_reducible apply PF.next)) [(6, {})] [6, 3, 0, 1, 4, 5, 7] (T' := [(6, .pointer (some ⟨b14, 0, none⟩)), (3, .pointer (some ⟨b2, 0, none⟩)), (0, .pointer (some ⟨mb, 0, none⟩)), (1, .agg #[.int .u8 10, .int .u32 ev.pick, .int .u64 ev.draw, .int .u32 ev.addr, .int .u32 ev.node, .int .u32 ev.dst, .int .u32 ev.xfer, .int .u8 5, .int .u64 ev.arg, .int .u64 ev.badge, .slice xo ev.ws.length cx]), (4, .int .u8 0), (5, .bool false), (7, .pointer (some ⟨(Z.tp x), 0, none⟩))]) (φ := True) (fuel := 0) h31 (by kernel_rfl) rfl (by kernel_rfl) (by kernel_rfl) ⟨trivial, trivial⟩ trivial fun a32 h33 => ?_
  clear h31
  refine wpAnyK_done (by kernel_rfl) ?_ _
  refine hK22 _ _ ?_
  clear hK22
  refine wp_seq_k fun K34 hK34 => ?_
  refine wp_seq_k fun K35 hK35 => ?_
  refine nd_start (l := [0, 1]) rfl ?_
  refine nd_batch tabOk2 tabZ_ok2 [(0, {}), (1, {k := 1})] [6, 3, 0, 1, 4, 5, 7, 53] (T' := [(6, .pointer (some ⟨b14, 0, none⟩)), (3, .pointer (some ⟨b2, 0, none⟩)), (0, .pointer (some ⟨mb, 0, none⟩)), (1, .agg #[.int .u8 10, .int .u32 ev.pick, .int .u64 ev.draw, .int .u32 ev.addr, .int .u32 ev.node, .int .u32 ev.dst, .int .u32 ev.xfer, .int .u8 5, .int .u64 ev.arg, .int .u64 ev.badge, .slice xo ev.ws.length cx]), (4, .int .u8 0), (5, .bool false), (7, .pointer (some ⟨(Z.tp x), 0, none⟩)), (53, .int .u8 10)]) (φ := (b2 = b2 ∧ Nat.ble (0 + 1) 11 = true) ∧ True) (rest := []) h33 (by kernel_rfl) rfl ⟨⟨rfl, rfl⟩, trivial⟩ fun a36 h37 => ?_
  clear h33
  refine nd_done ?_
  refine hK35 _ _ ?_
  clear hK35
  refine wp_block ?_
  refine wp_seq_k fun K38 hK38 => ?_
  refine nd_start (l := [0, 1]) rfl ?_
  refine nd_batch tabOk2 tabZ_ok2 [(0, {}), (1, {})] [6, 3, 0, 1, 4, 5, 7, 53, 54] (T' := [(6, .pointer (some ⟨b14, 0, none⟩)), (3, .pointer (some ⟨b2, 0, none⟩)), (0, .pointer (some ⟨mb, 0, none⟩)), (1, .agg #[.int .u8 10, .int .u32 ev.pick, .int .u64 ev.draw, .int .u32 ev.addr, .int .u32 ev.node, .int .u32 ev.dst, .int .u32 ev.xfer, .int .u8 5, .int .u64 ev.arg, .int .u64 ev.badge, .slice xo ev.ws.length cx]), (4, .int .u8 0), (5, .bool false), (7, .pointer (some ⟨(Z.tp x), 0, none⟩)), (53, .int .u8 10), (54, .bool false)]) (φ := True) (rest := []) h37 (by kernel_rfl) rfl trivial fun a39 h40 => ?_
  clear h37
  refine nd_done ?_
  refine hK38 _ _ ?_
  clear hK38
  refine c_false h40 rfl ?_
  refine wp_seq_k fun K41 hK41 => ?_
  refine nd_start (l := [0, 1]) rfl ?_
  refine nd_batch tabOk2 tabZ_ok2 [(0, {}), (1, {})] [6, 3, 0, 1, 4, 5, 7, 53, 59] (T' := [(6, .pointer (some ⟨b14, 0, none⟩)), (3, .pointer (some ⟨b2, 0, none⟩)), (0, .pointer (some ⟨mb, 0, none⟩)), (1, .agg #[.int .u8 10, .int .u32 ev.pick, .int .u64 ev.draw, .int .u32 ev.addr, .int .u32 ev.node, .int .u32 ev.dst, .int .u32 ev.xfer, .int .u8 5, .int .u64 ev.arg, .int .u64 ev.badge, .slice xo ev.ws.length cx]), (4, .int .u8 0), (5, .bool false), (7, .pointer (some ⟨(Z.tp x), 0, none⟩)), (53, .int .u8 10), (59, .bool false)]) (φ := True) (rest := []) h40 (by kernel_rfl) rfl trivial fun a42 h43 => ?_
  clear h40
  refine nd_done ?_
  refine hK41 _ _ ?_
  clear hK41
  refine c_false h43 rfl ?_
  refine wp_seq_k fun K44 hK44 => ?_
  refine wp_seq_k fun K45 hK45 => ?_
  refine nd_start (l := [0, 1]) rfl ?_
  refine nd_batch tabOk2 tabZ_ok2 [(0, {}), (1, {})] [6, 3, 0, 1, 4, 5, 7, 53, 66] (T' := [(6, .pointer (some ⟨b14, 0, none⟩)), (3, .pointer (some ⟨b2, 0, none⟩)), (0, .pointer (some ⟨mb, 0, none⟩)), (1, .agg #[.int .u8 10, .int .u32 ev.pick, .int .u64 ev.draw, .int .u32 ev.addr, .int .u32 ev.node, .int .u32 ev.dst, .int .u32 ev.xfer, .int .u8 5, .int .u64 ev.arg, .int .u64 ev.badge, .slice xo ev.ws.length cx]), (4, .int .u8 0), (5, .bool false), (7, .pointer (some ⟨(Z.tp x), 0, none⟩)), (53, .int .u8 10), (66, .bool false)]) (φ := True) (rest := []) h43 (by kernel_rfl) rfl trivial fun a46 h47 => ?_
  clear h43
  refine nd_done ?_
  refine hK45 _ _ ?_
  clear hK45
  refine c_false h47 rfl ?_
  refine nd_start (l := [0, 1]) rfl ?_
  refine nd_batch tabOk2 tabZ_ok2 [(0, {}), (1, {})] [6, 3, 0, 1, 4, 5, 7, 53, 66] (T' := [(6, .pointer (some ⟨b14, 0, none⟩)), (3, .pointer (some ⟨b2, 0, none⟩)), (0, .pointer (some ⟨mb, 0, none⟩)), (1, .agg #[.int .u8 10, .int .u32 ev.pick, .int .u64 ev.draw, .int .u32 ev.addr, .int .u32 ev.node, .int .u32 ev.dst, .int .u32 ev.xfer, .int .u8 5, .int .u64 ev.arg, .int .u64 ev.badge, .slice xo ev.ws.length cx]), (4, .int .u8 0), (5, .bool false), (7, .pointer (some ⟨(Z.tp x), 0, none⟩)), (53, .int .u8 10), (66, .bool false)]) (φ := True) (rest := []) h47 (by kernel_rfl) rfl trivial fun a48 h49 => ?_
  clear h47
  refine nd_done ?_
  refine hK44 _ _ ?_
  clear hK44
  refine c_false h49 rfl ?_
  refine wp_seq_k fun K50 hK50 => ?_
  refine nd_start (l := [0, 1]) rfl ?_
  refine nd_batch tabOk2 tabZ_ok2 [(0, {}), (1, {})] [6, 3, 0, 1, 4, 5, 7, 53, 66, 129] (T' := [(6, .pointer (some ⟨b14, 0, none⟩)), (3, .pointer (some ⟨b2, 0, none⟩)), (0, .pointer (some ⟨mb, 0, none⟩)), (1, .agg #[.int .u8 10, .int .u32 ev.pick, .int .u64 ev.draw, .int .u32 ev.addr, .int .u32 ev.node, .int .u32 ev.dst, .int .u32 ev.xfer, .int .u8 5, .int .u64 ev.arg, .int .u64 ev.badge, .slice xo ev.ws.length cx]), (4, .int .u8 0), (5, .bool false), (7, .pointer (some ⟨(Z.tp x), 0, none⟩)), (53, .int .u8 10), (66, .bool false), (129, .bool false)]) (φ := True) (rest := []) h49 (by kernel_rfl) rfl trivial fun a51 h52 => ?_
  clear h49
  refine nd_done ?_
  refine hK50 _ _ ?_
  clear hK50
  refine c_false h52 rfl ?_
  refine wp_seq_k fun K53 hK53 => ?_
  refine nd_start (l := [0, 1]) rfl ?_
  refine nd_batch tabOk2 tabZ_ok2 [(0, {}), (1, {})] [6, 3, 0, 1, 4, 5, 7, 53, 66, 165] (T' := [(6, .pointer (some ⟨b14, 0, none⟩)), (3, .pointer (some ⟨b2, 0, none⟩)), (0, .pointer (some ⟨mb, 0, none⟩)), (1, .agg #[.int .u8 10, .int .u32 ev.pick, .int .u64 ev.draw, .int .u32 ev.addr, .int .u32 ev.node, .int .u32 ev.dst, .int .u32 ev.xfer, .int .u8 5, .int .u64 ev.arg, .int .u64 ev.badge, .slice xo ev.ws.length cx]), (4, .int .u8 0), (5, .bool false), (7, .pointer (some ⟨(Z.tp x), 0, none⟩)), (53, .int .u8 10), (66, .bool false), (165, .bool false)]) (φ := True) (rest := []) h52 (by kernel_rfl) rfl trivial fun a54 h55 => ?_
  clear h52
  refine nd_done ?_
  refine hK53 _ _ ?_
  clear hK53
  refine c_false h55 rfl ?_
  refine wp_seq_k fun K56 hK56 => ?_
  refine nd_start (l := [0, 1]) rfl ?_
  refine nd_batch tabOk2 tabZ_ok2 [(0, {}), (1, {})] [6, 3, 0, 1, 4, 5, 7, 53, 66, 226] (T' := [(6, .pointer (some ⟨b14, 0, none⟩)), (3, .pointer (some ⟨b2, 0, none⟩)), (0, .pointer (some ⟨mb, 0, none⟩)), (1, .agg #[.int .u8 10, .int .u32 ev.pick, .int .u64 ev.draw, .int .u32 ev.addr, .int .u32 ev.node, .int .u32 ev.dst, .int .u32 ev.xfer, .int .u8 5, .int .u64 ev.arg, .int .u64 ev.badge, .slice xo ev.ws.length cx]), (4, .int .u8 0), (5, .bool false), (7, .pointer (some ⟨(Z.tp x), 0, none⟩)), (53, .int .u8 10), (66, .bool false), (226, .bool false)]) (φ := True) (rest := []) h55 (by kernel_rfl) rfl trivial fun a57 h58 => ?_
  clear h55
  refine nd_done ?_
  refine hK56 _ _ ?_
  clear hK56
  refine c_false h58 rfl ?_
  refine wp_seq_k fun K59 hK59 => ?_
  refine nd_start (l := [0, 1]) rfl ?_
  refine nd_batch tabOk2 tabZ_ok2 [(0, {}), (1, {})] [6, 3, 0, 1, 4, 5, 7, 53, 66, 244] (T' := [(6, .pointer (some ⟨b14, 0, none⟩)), (3, .pointer (some ⟨b2, 0, none⟩)), (0, .pointer (some ⟨mb, 0, none⟩)), (1, .agg #[.int .u8 10, .int .u32 ev.pick, .int .u64 ev.draw, .int .u32 ev.addr, .int .u32 ev.node, .int .u32 ev.dst, .int .u32 ev.xfer, .int .u8 5, .int .u64 ev.arg, .int .u64 ev.badge, .slice xo ev.ws.length cx]), (4, .int .u8 0), (5, .bool false), (7, .pointer (some ⟨(Z.tp x), 0, none⟩)), (53, .int .u8 10), (66, .bool false), (244, .bool false)]) (φ := True) (rest := []) h58 (by kernel_rfl) rfl trivial fun a60 h61 => ?_
  clear h58
  refine nd_done ?_
  refine hK59 _ _ ?_
  clear hK59
  refine c_false h61 rfl ?_
  refine wp_seq_k fun K62 hK62 => ?_
  refine nd_start (l := [0, 1]) rfl ?_
  refine nd_batch tabOk2 tabZ_ok2 [(0, {}), (1, {})] [6, 3, 0, 1, 4, 5, 7, 53, 66, 285] (T' := [(6, .pointer (some ⟨b14, 0, none⟩)), (3, .pointer (some ⟨b2, 0, none⟩)), (0, .pointer (some ⟨mb, 0, none⟩)), (1, .agg #[.int .u8 10, .int .u32 ev.pick, .int .u64 ev.draw, .int .u32 ev.addr, .int .u32 ev.node, .int .u32 ev.dst, .int .u32 ev.xfer, .int .u8 5, .int .u64 ev.arg, .int .u64 ev.badge, .slice xo ev.ws.length cx]), (4, .int .u8 0), (5, .bool false), (7, .pointer (some ⟨(Z.tp x), 0, none⟩)), (53, .int .u8 10), (66, .bool false), (285, .bool true)]) (φ := True) (rest := []) h61 (by kernel_rfl) rfl trivial fun a63 h64 => ?_
  clear h61
  refine nd_done ?_
  refine hK62 _ _ ?_
  clear hK62
  refine c_true h64 rfl ?_
  refine wp_seq_k fun K65 hK65 => ?_
  refine wp_seq_k fun K66 hK66 => ?_
  refine nd_start (l := [0, 1, 2, 3, 4, 5, 6, 7, 8, 9]) rfl ?_
  refine nd_batch tabOk2 tabZ_ok2 [(0, {}), (1, {}), (2, {k := 1})] [6, 3, 0, 1, 4, 5, 7, 53, 66, 288, 290] (T' := [(6, .pointer (some ⟨b14, 0, none⟩)), (3, .pointer (some ⟨b2, 0, none⟩)), (0, .pointer (some ⟨mb, 0, none⟩)), (1, .agg #[.int .u8 10, .int .u32 ev.pick, .int .u64 ev.draw, .int .u32 ev.addr, .int .u32 ev.node, .int .u32 ev.dst, .int .u32 ev.xfer, .int .u8 5, .int .u64 ev.arg, .int .u64 ev.badge, .slice xo ev.ws.length cx]), (4, .int .u8 0), (5, .bool false), (7, .pointer (some ⟨(Z.tp x), 0, none⟩)), (53, .int .u8 10), (66, .bool false), (288, .pointer (some ⟨mb, 0, none⟩)), (290, .int .u32 ev.addr)]) (φ := (b2 = b2 ∧ Nat.ble (3 + 1) 11 = true) ∧ True) (rest := [3, 4, 5, 6, 7, 8, 9]) h64 (by kernel_rfl) rfl ⟨⟨rfl, rfl⟩, trivial⟩ fun a67 h68 => ?_
  clear h64
  refine nd_op ?_
  refine op_call h68 rfl rfl rfl (callOk Tryd.func90 (by decide) rfl) (args := [.pointer (some ⟨mb, 0, none⟩), .int .u32 ev.addr, .int .u8 1, .int .u8 2]) rfl (capOf_ok mb Z _ a C x hx hcx hci hcn hI.ci ev.addr 1 2 he.addr _ (mh_of h68 hho (k := 0) rfl) hf) ?_
  rintro _ w69 ⟨rfl, hg71⟩
  refine ⟨_, rfl, ?_⟩
  have h72a := st_mg h68 hg71 (kcons (fun _ => rfl) (kcons (fun hq => by cases hq) (kcons (fun hq => by cases hq) knil)))
  have h72 := h72a.put (d := some 291) (v := .tuple #[.agg #[.int .u8 c.ty, .int .u16 c.obj.idx, .int .u32 c.obj.gen, .int .u8 c.rights, .int .u64 c.badge], .int .u8 0]) (T' := [(291, .tuple #[.agg #[.int .u8 c.ty, .int .u16 c.obj.idx, .int .u32 c.obj.gen, .int .u8 c.rights, .int .u64 c.badge], .int .u8 0]), (6, .pointer (some ⟨b14, 0, none⟩)), (3, .pointer (some ⟨b2, 0, none⟩)), (0, .pointer (some ⟨mb, 0, none⟩)), (1, .agg #[.int .u8 10, .int .u32 ev.pick, .int .u64 ev.draw, .int .u32 ev.addr, .int .u32 ev.node, .int .u32 ev.dst, .int .u32 ev.xfer, .int .u8 5, .int .u64 ev.arg, .int .u64 ev.badge, .slice xo ev.ws.length cx]), (4, .int .u8 0), (5, .bool false), (7, .pointer (some ⟨(Z.tp x), 0, none⟩)), (53, .int .u8 10), (66, .bool false), (288, .pointer (some ⟨mb, 0, none⟩)), (290, .int .u32 ev.addr)]) rfl
  have hhoh72 := hg71.mh.ho
  clear h68 h72a
  refine nd_batch tabOk2 tabZ_ok2 [(4, {}), (5, {}), (6, {})] [6, 3, 0, 1, 4, 5, 7, 53, 66, 292, 293] (T' := [(6, .pointer (some ⟨b14, 0, none⟩)), (3, .pointer (some ⟨b2, 0, none⟩)), (0, .pointer (some ⟨mb, 0, none⟩)), (1, .agg #[.int .u8 10, .int .u32 ev.pick, .int .u64 ev.draw, .int .u32 ev.addr, .int .u32 ev.node, .int .u32 ev.dst, .int .u32 ev.xfer, .int .u8 5, .int .u64 ev.arg, .int .u64 ev.badge, .slice xo ev.ws.length cx]), (4, .int .u8 0), (5, .bool false), (7, .pointer (some ⟨(Z.tp x), 0, none⟩)), (53, .int .u8 10), (66, .bool false), (292, .agg #[.int .u8 c.ty, .int .u16 c.obj.idx, .int .u32 c.obj.gen, .int .u8 c.rights, .int .u64 c.badge]), (293, .int .u8 0)]) (φ := True) (rest := [7, 8, 9]) h72 (by kernel_rfl) rfl trivial fun a73 h74 => ?_
  clear h72
  refine nd_op ?_
  refine op_new tabOk2 (cells := [.int .u8 0, .int .u16 0, .int .u32 0, .int .u8 0, .int .u64 0]) (ty := 49) (ln := none) (L1 := fun b75 => [(3, ⟨[.int .u16 0, .int .u32 0], ty3, true⟩), (b2, ⟨[.int .u8 10, .int .u32 ev.pick, .int .u64 ev.draw, .int .u32 ev.addr, .int .u32 ev.node, .int .u32 ev.dst, .int .u32 ev.xfer, .int .u8 5, .int .u64 ev.arg, .int .u64 ev.badge, .slice xo ev.ws.length cx], 35, false⟩), (b14, ⟨[.int .u16 ((Z.ky x).idx), .int .u32 ((Z.ky x).gen)], 39, false⟩), (b75, ⟨[.int .u8 0, .int .u16 0, .int .u32 0, .int .u8 0, .int .u64 0], 49, false⟩)]) h74 rfl rfl rfl rfl (by kernel_rfl) (fun _ => rfl) fun b75 w76 a77 h78 hf79 hn80 => ?_
  clear h74
  refine nd_op ?_
  refine op_store tabOk2 {k := 3} (L' := [(3, ⟨[.int .u16 0, .int .u32 0], ty3, true⟩), (b2, ⟨[.int .u8 10, .int .u32 ev.pick, .int .u64 ev.draw, .int .u32 ev.addr, .int .u32 ev.node, .int .u32 ev.dst, .int .u32 ev.xfer, .int .u8 5, .int .u64 ev.arg, .int .u64 ev.badge, .slice xo ev.ws.length cx], 35, false⟩), (b14, ⟨[.int .u16 ((Z.ky x).idx), .int .u32 ((Z.ky x).gen)], 39, false⟩), (b75, ⟨[.int .u8 c.ty, .int .u16 c.obj.idx, .int .u32 c.obj.gen, .int .u8 c.rights, .int .u64 c.badge], 49, false⟩)]) (φ := b75 = b75 ∧ Nat.ble (0 + 5) 5 = true) h78 rfl rfl rfl (by kernel_rfl) ⟨rfl, rfl⟩ fun w81 h82 => ?_
  clear h78
  refine nd_batch tabOk2 tabZ_ok2 [(9, {})] [6, 3, 0, 1, 4, 5, 7, 53, 66, 21] (T' := [(6, .pointer (some ⟨b14, 0, none⟩)), (3, .pointer (some ⟨b2, 0, none⟩)), (0, .pointer (some ⟨mb, 0, none⟩)), (1, .agg #[.int .u8 10, .int .u32 ev.pick, .int .u64 ev.draw, .int .u32 ev.addr, .int .u32 ev.node, .int .u32 ev.dst, .int .u32 ev.xfer, .int .u8 5, .int .u64 ev.arg, .int .u64 ev.badge, .slice xo ev.ws.length cx]), (4, .int .u8 0), (5, .bool false), (7, .pointer (some ⟨(Z.tp x), 0, none⟩)), (53, .int .u8 10), (66, .bool false), (21, .int .u8 0)]) (φ := True) (rest := []) h82 (by kernel_rfl) rfl trivial fun a83 h84 => ?_
  clear h82
  refine nd_done ?_
  refine hK66 _ _ ?_
  clear hK66
  refine wp_seq_k fun K85 hK85 => ?_
  refine nd_start (l := [0, 1]) rfl ?_
  refine nd_batch tabOk2 tabZ_ok2 [(0, {}), (1, {})] [6, 3, 0, 1, 4, 5, 7, 53, 66, 21, 295] (T' := [(6, .pointer (some ⟨b14, 0, none⟩)), (3, .pointer (some ⟨b2, 0, none⟩)), (0, .pointer (some ⟨mb, 0, none⟩)), (1, .agg #[.int .u8 10, .int .u32 ev.pick, .int .u64 ev.draw, .int .u32 ev.addr, .int .u32 ev.node, .int .u32 ev.dst, .int .u32 ev.xfer, .int .u8 5, .int .u64 ev.arg, .int .u64 ev.badge, .slice xo ev.ws.length cx]), (4, .int .u8 0), (5, .bool false), (7, .pointer (some ⟨(Z.tp x), 0, none⟩)), (53, .int .u8 10), (66, .bool false), (21, .int .u8 0), (295, .bool false)]) (φ := True) (rest := []) h84 (by kernel_rfl) rfl trivial fun a86 h87 => ?_
  clear h84
  refine nd_done ?_
  refine hK85 _ _ ?_
  clear hK85
  refine c_false h87 rfl ?_
  refine wp_skip ?_
  refine hK65 _ _ ?_
  clear hK65
  refine wp_seq_k fun K88 hK88 => ?_
  refine nd_start (l := [0, 1, 2, 3, 4, 5, 6, 7, 8]) rfl ?_
  refine nd_batch tabOk2 tabZ_ok2 [(0, {}), (1, {}), (2, {k := 1})] [6, 3, 0, 1, 4, 5, 7, 53, 66, 21, 298, 300] (T' := [(6, .pointer (some ⟨b14, 0, none⟩)), (3, .pointer (some ⟨b2, 0, none⟩)), (0, .pointer (some ⟨mb, 0, none⟩)), (1, .agg #[.int .u8 10, .int .u32 ev.pick, .int .u64 ev.draw, .int .u32 ev.addr, .int .u32 ev.node, .int .u32 ev.dst, .int .u32 ev.xfer, .int .u8 5, .int .u64 ev.arg, .int .u64 ev.badge, .slice xo ev.ws.length cx]), (4, .int .u8 0), (5, .bool false), (7, .pointer (some ⟨(Z.tp x), 0, none⟩)), (53, .int .u8 10), (66, .bool false), (21, .int .u8 0), (298, .pointer (some ⟨mb, 0, none⟩)), (300, .int .u32 ev.addr)]) (φ := (b2 = b2 ∧ Nat.ble (3 + 1) 11 = true) ∧ True) (rest := [3, 4, 5, 6, 7, 8]) h87 (by kernel_rfl) rfl ⟨⟨rfl, rfl⟩, trivial⟩ fun a89 h90 => ?_
  clear h87
  refine nd_op ?_
  refine op_call h90 rfl rfl rfl (callOk Tryd.func93 (by decide) rfl) (args := [.pointer (some ⟨mb, 0, none⟩), .int .u32 ev.addr]) rfl (cellOf_ok mb Z _ a C x hx hcx hci ev.addr he.addr e1 _ (mh_of h90 hhoh72 (k := 0) rfl)) ?_
  rintro _ w91 ⟨rfl, hg93⟩
  refine ⟨_, rfl, ?_⟩
  have h94a := st_mg h90 hg93 (kcons (fun _ => rfl) (kcons (fun hq => by cases hq) (kcons (fun hq => by cases hq) (kcons (fun hq => by cases hq) knil))))
  have h94 := h94a.put (d := some 301) (v := .tuple #[.int .i64 s1, .int .u8 0]) (T' := [(301, .tuple #[.int .i64 s1, .int .u8 0]), (6, .pointer (some ⟨b14, 0, none⟩)), (3, .pointer (some ⟨b2, 0, none⟩)), (0, .pointer (some ⟨mb, 0, none⟩)), (1, .agg #[.int .u8 10, .int .u32 ev.pick, .int .u64 ev.draw, .int .u32 ev.addr, .int .u32 ev.node, .int .u32 ev.dst, .int .u32 ev.xfer, .int .u8 5, .int .u64 ev.arg, .int .u64 ev.badge, .slice xo ev.ws.length cx]), (4, .int .u8 0), (5, .bool false), (7, .pointer (some ⟨(Z.tp x), 0, none⟩)), (53, .int .u8 10), (66, .bool false), (21, .int .u8 0), (298, .pointer (some ⟨mb, 0, none⟩)), (300, .int .u32 ev.addr)]) rfl
  have hhoh94 := hg93.mh.ho
  clear h90 h94a
  refine nd_batch tabOk2 tabZ_ok2 [(4, {}), (5, {}), (6, {}), (7, {}), (8, {})] [6, 3, 0, 1, 4, 5, 7, 53, 66, 21, 22] (T' := [(6, .pointer (some ⟨b14, 0, none⟩)), (3, .pointer (some ⟨b2, 0, none⟩)), (0, .pointer (some ⟨mb, 0, none⟩)), (1, .agg #[.int .u8 10, .int .u32 ev.pick, .int .u64 ev.draw, .int .u32 ev.addr, .int .u32 ev.node, .int .u32 ev.dst, .int .u32 ev.xfer, .int .u8 5, .int .u64 ev.arg, .int .u64 ev.badge, .slice xo ev.ws.length cx]), (4, .int .u8 0), (5, .bool false), (7, .pointer (some ⟨(Z.tp x), 0, none⟩)), (53, .int .u8 10), (66, .bool false), (21, .int .u8 0), (22, .int .i64 s1)]) (φ := True) (rest := []) h94 (by kernel_rfl) rfl trivial fun a95 h96 => ?_
  clear h94
  refine nd_done ?_
  refine hK88 _ _ ?_
  clear hK88
  refine wp_seq_k fun K97 hK97 => ?_
  refine nd_start (l := [0, 1, 2, 3, 4, 5, 6, 7, 8]) rfl ?_
  refine nd_batch tabOk2 tabZ_ok2 [(0, {}), (1, {}), (2, {k := 1})] [6, 3, 0, 1, 4, 5, 7, 53, 66, 21, 22, 305, 307] (T' := [(6, .pointer (some ⟨b14, 0, none⟩)), (3, .pointer (some ⟨b2, 0, none⟩)), (0, .pointer (some ⟨mb, 0, none⟩)), (1, .agg #[.int .u8 10, .int .u32 ev.pick, .int .u64 ev.draw, .int .u32 ev.addr, .int .u32 ev.node, .int .u32 ev.dst, .int .u32 ev.xfer, .int .u8 5, .int .u64 ev.arg, .int .u64 ev.badge, .slice xo ev.ws.length cx]), (4, .int .u8 0), (5, .bool false), (7, .pointer (some ⟨(Z.tp x), 0, none⟩)), (53, .int .u8 10), (66, .bool false), (21, .int .u8 0), (22, .int .i64 s1), (305, .pointer (some ⟨mb, 0, none⟩)), (307, .int .u32 ev.dst)]) (φ := (b2 = b2 ∧ Nat.ble (5 + 1) 11 = true) ∧ True) (rest := [3, 4, 5, 6, 7, 8]) h96 (by kernel_rfl) rfl ⟨⟨rfl, rfl⟩, trivial⟩ fun a98 h99 => ?_
  clear h96
  refine nd_op ?_
  refine op_call h99 rfl rfl rfl (callOk Tryd.func93 (by decide) rfl) (args := [.pointer (some ⟨mb, 0, none⟩), .int .u32 ev.dst]) rfl (cellOf_ok mb Z _ a C x hx hcx hci ev.dst he.dst e2 _ (mh_of h99 hhoh94 (k := 0) rfl)) ?_
  rintro _ w100 ⟨rfl, hg102⟩
  refine ⟨_, rfl, ?_⟩
  have h103a := st_mg h99 hg102 (kcons (fun _ => rfl) (kcons (fun hq => by cases hq) (kcons (fun hq => by cases hq) (kcons (fun hq => by cases hq) knil))))
  have h103 := h103a.put (d := some 308) (v := .tuple #[.int .i64 s2, .int .u8 0]) (T' := [(308, .tuple #[.int .i64 s2, .int .u8 0]), (6, .pointer (some ⟨b14, 0, none⟩)), (3, .pointer (some ⟨b2, 0, none⟩)), (0, .pointer (some ⟨mb, 0, none⟩)), (1, .agg #[.int .u8 10, .int .u32 ev.pick, .int .u64 ev.draw, .int .u32 ev.addr, .int .u32 ev.node, .int .u32 ev.dst, .int .u32 ev.xfer, .int .u8 5, .int .u64 ev.arg, .int .u64 ev.badge, .slice xo ev.ws.length cx]), (4, .int .u8 0), (5, .bool false), (7, .pointer (some ⟨(Z.tp x), 0, none⟩)), (53, .int .u8 10), (66, .bool false), (21, .int .u8 0), (22, .int .i64 s1), (305, .pointer (some ⟨mb, 0, none⟩)), (307, .int .u32 ev.dst)]) rfl
  have hhoh103 := hg102.mh.ho
  clear h99 h103a
  refine nd_batch tabOk2 tabZ_ok2 [(4, {}), (5, {}), (6, {}), (7, {}), (8, {})] [6, 3, 0, 1, 4, 5, 7, 53, 66, 21, 22, 24, 25] (T' := [(6, .pointer (some ⟨b14, 0, none⟩)), (3, .pointer (some ⟨b2, 0, none⟩)), (0, .pointer (some ⟨mb, 0, none⟩)), (1, .agg #[.int .u8 10, .int .u32 ev.pick, .int .u64 ev.draw, .int .u32 ev.addr, .int .u32 ev.node, .int .u32 ev.dst, .int .u32 ev.xfer, .int .u8 5, .int .u64 ev.arg, .int .u64 ev.badge, .slice xo ev.ws.length cx]), (4, .int .u8 0), (5, .bool false), (7, .pointer (some ⟨(Z.tp x), 0, none⟩)), (53, .int .u8 10), (66, .bool false), (21, .int .u8 0), (22, .int .i64 s1), (24, .int .i64 s2), (25, .int .u8 0)]) (φ := True) (rest := []) h103 (by kernel_rfl) rfl trivial fun a104 h105 => ?_
  clear h103
  refine nd_done ?_
  refine hK97 _ _ ?_
  clear hK97
  refine wp_seq_k fun K106 hK106 => ?_
  refine wp_seq_k fun K107 hK107 => ?_
  refine nd_start (l := [0, 1]) rfl ?_
  refine nd_batch tabOk2 tabZ_ok2 [(0, {}), (1, {})] [6, 3, 0, 1, 4, 5, 7, 53, 66, 21, 22, 24, 25, 312] (T' := [(6, .pointer (some ⟨b14, 0, none⟩)), (3, .pointer (some ⟨b2, 0, none⟩)), (0, .pointer (some ⟨mb, 0, none⟩)), (1, .agg #[.int .u8 10, .int .u32 ev.pick, .int .u64 ev.draw, .int .u32 ev.addr, .int .u32 ev.node, .int .u32 ev.dst, .int .u32 ev.xfer, .int .u8 5, .int .u64 ev.arg, .int .u64 ev.badge, .slice xo ev.ws.length cx]), (4, .int .u8 0), (5, .bool false), (7, .pointer (some ⟨(Z.tp x), 0, none⟩)), (53, .int .u8 10), (66, .bool false), (21, .int .u8 0), (22, .int .i64 s1), (24, .int .i64 s2), (25, .int .u8 0), (312, .bool false)]) (φ := True) (rest := []) h105 (by kernel_rfl) rfl trivial fun a108 h109 => ?_
  clear h105
  refine nd_done ?_
  refine hK107 _ _ ?_
  clear hK107
  refine c_false h109 rfl ?_
  refine wp_skip ?_
  refine hK106 _ _ ?_
  clear hK106
  refine wp_seq_k fun K110 hK110 => ?_
  refine wp_seq_k fun K111 hK111 => ?_
  refine nd_start (l := [0, 1, 2, 3, 4, 5, 6, 7]) rfl ?_
  refine nd_batch tabOk2 tabZ_ok2 [(0, {}), (1, {}), (2, {})] [6, 3, 0, 1, 4, 5, 7, 53, 66, 21, 22, 24, 25, 316] (T' := [(6, .pointer (some ⟨b14, 0, none⟩)), (3, .pointer (some ⟨b2, 0, none⟩)), (0, .pointer (some ⟨mb, 0, none⟩)), (1, .agg #[.int .u8 10, .int .u32 ev.pick, .int .u64 ev.draw, .int .u32 ev.addr, .int .u32 ev.node, .int .u32 ev.dst, .int .u32 ev.xfer, .int .u8 5, .int .u64 ev.arg, .int .u64 ev.badge, .slice xo ev.ws.length cx]), (4, .int .u8 0), (5, .bool false), (7, .pointer (some ⟨(Z.tp x), 0, none⟩)), (53, .int .u8 10), (66, .bool false), (21, .int .u8 0), (22, .int .i64 s1), (24, .int .i64 s2), (25, .int .u8 0), (316, .pointer (some ⟨mb, 1, none⟩))]) (φ := True) (rest := [3, 4, 5, 6, 7]) h109 (by kernel_rfl) rfl trivial fun a112 h113 => ?_
  clear h109
  refine nd_op ?_
  refine op_read (b := mb) (v := .pointer (some ⟨Z.mc, 0, none⟩)) h113 rfl rfl (rd_m h113 (k := 1) (v := .pointer (some ⟨Z.mc, 0, none⟩)) rfl rfl rfl rfl (md_p ⟨rfl, trivial⟩)) ?_
  have h114 := h113.put (d := some 317) (v := .pointer (some ⟨Z.mc, 0, none⟩)) (T' := [(317, .pointer (some ⟨Z.mc, 0, none⟩)), (6, .pointer (some ⟨b14, 0, none⟩)), (3, .pointer (some ⟨b2, 0, none⟩)), (0, .pointer (some ⟨mb, 0, none⟩)), (1, .agg #[.int .u8 10, .int .u32 ev.pick, .int .u64 ev.draw, .int .u32 ev.addr, .int .u32 ev.node, .int .u32 ev.dst, .int .u32 ev.xfer, .int .u8 5, .int .u64 ev.arg, .int .u64 ev.badge, .slice xo ev.ws.length cx]), (4, .int .u8 0), (5, .bool false), (7, .pointer (some ⟨(Z.tp x), 0, none⟩)), (53, .int .u8 10), (66, .bool false), (21, .int .u8 0), (22, .int .i64 s1), (24, .int .i64 s2), (25, .int .u8 0), (316, .pointer (some ⟨mb, 1, none⟩))]) rfl
  clear h113
  refine nd_batch tabOk2 tabZ_ok2 [(4, {})] [317, 6, 3, 0, 1, 4, 5, 7, 53, 66, 21, 22, 24, 25, 318] (T' := [(317, .pointer (some ⟨Z.mc, 0, none⟩)), (6, .pointer (some ⟨b14, 0, none⟩)), (3, .pointer (some ⟨b2, 0, none⟩)), (0, .pointer (some ⟨mb, 0, none⟩)), (1, .agg #[.int .u8 10, .int .u32 ev.pick, .int .u64 ev.draw, .int .u32 ev.addr, .int .u32 ev.node, .int .u32 ev.dst, .int .u32 ev.xfer, .int .u8 5, .int .u64 ev.arg, .int .u64 ev.badge, .slice xo ev.ws.length cx]), (4, .int .u8 0), (5, .bool false), (7, .pointer (some ⟨(Z.tp x), 0, none⟩)), (53, .int .u8 10), (66, .bool false), (21, .int .u8 0), (22, .int .i64 s1), (24, .int .i64 s2), (25, .int .u8 0), (318, .int .i64 s2)]) (φ := True) (rest := [5, 6, 7]) h114 (by kernel_rfl) rfl trivial fun a115 h116 => ?_
  clear h114
  refine nd_op ?_
  obtain ⟨i2, j2, hi2, hj2, hp2, hs2⟩ := look_fact hI.ci hci.1 he.dst.1 e2 rfl
  refine op_call h116 rfl rfl rfl (callOk Tryd.func62 (by decide) rfl) (args := [.pointer (some ⟨Z.mc, 0, none⟩), .int .i64 s2]) rfl (atE Z.mo Z.mc Z.nd C hi2 hj2 hp2 hs2 _ h116.inv.1.cp) ?_
  rintro _ w117 ⟨rfl, hf119⟩
  refine ⟨_, rfl, ?_⟩
  have h118 := (h116.grow hf119).put (d := some 319) (v := .agg #[.int .u8 ((C.cel s2.toNat).cap.ty), .int .u16 ((C.cel s2.toNat).cap.obj.idx), .int .u32 ((C.cel s2.toNat).cap.obj.gen), .int .u8 ((C.cel s2.toNat).cap.rights), .int .u64 ((C.cel s2.toNat).cap.badge)]) (T' := [(319, .agg #[.int .u8 ((C.cel s2.toNat).cap.ty), .int .u16 ((C.cel s2.toNat).cap.obj.idx), .int .u32 ((C.cel s2.toNat).cap.obj.gen), .int .u8 ((C.cel s2.toNat).cap.rights), .int .u64 ((C.cel s2.toNat).cap.badge)]), (317, .pointer (some ⟨Z.mc, 0, none⟩)), (6, .pointer (some ⟨b14, 0, none⟩)), (3, .pointer (some ⟨b2, 0, none⟩)), (0, .pointer (some ⟨mb, 0, none⟩)), (1, .agg #[.int .u8 10, .int .u32 ev.pick, .int .u64 ev.draw, .int .u32 ev.addr, .int .u32 ev.node, .int .u32 ev.dst, .int .u32 ev.xfer, .int .u8 5, .int .u64 ev.arg, .int .u64 ev.badge, .slice xo ev.ws.length cx]), (4, .int .u8 0), (5, .bool false), (7, .pointer (some ⟨(Z.tp x), 0, none⟩)), (53, .int .u8 10), (66, .bool false), (21, .int .u8 0), (22, .int .i64 s1), (24, .int .i64 s2), (25, .int .u8 0), (318, .int .i64 s2)]) rfl
  clear h116
  refine nd_batch tabOk2 tabZ_ok2 [(6, {}), (7, {})] [6, 3, 0, 1, 4, 5, 7, 53, 66, 21, 22, 24, 25, 321] (T' := [(6, .pointer (some ⟨b14, 0, none⟩)), (3, .pointer (some ⟨b2, 0, none⟩)), (0, .pointer (some ⟨mb, 0, none⟩)), (1, .agg #[.int .u8 10, .int .u32 ev.pick, .int .u64 ev.draw, .int .u32 ev.addr, .int .u32 ev.node, .int .u32 ev.dst, .int .u32 ev.xfer, .int .u8 5, .int .u64 ev.arg, .int .u64 ev.badge, .slice xo ev.ws.length cx]), (4, .int .u8 0), (5, .bool false), (7, .pointer (some ⟨(Z.tp x), 0, none⟩)), (53, .int .u8 10), (66, .bool false), (21, .int .u8 0), (22, .int .i64 s1), (24, .int .i64 s2), (25, .int .u8 0), (321, .bool ((C.cel s2.toNat).cap.ty != 0))]) (φ := True) (rest := []) h118 (by kernel_rfl) rfl trivial fun a120 h121 => ?_
  clear h118
  refine nd_done ?_
  refine hK111 _ _ ?_
  clear hK111
  refine c_split h121 (b := ((C.cel s2.toNat).cap.ty != 0)) rfl (fun hc122 => ?_) (fun hc122 => ?_)
  ·
    have hc122f : (C.cel s2.toNat).cap.ty ≠ 0 := by simpa using hc122
    exact absurd (hz2) (by first | exact hc122f | (intro hz; exact hc122f hz) | omega | simp_all)
  ·
    have hc122f : (C.cel s2.toNat).cap.ty = 0 := by simpa using hc122
    refine wp_skip ?_
    refine hK110 _ _ ?_
    clear hK110
    refine wp_seq_k fun K123 hK123 => ?_
    refine wp_seq_k fun K124 hK124 => ?_
    refine nd_start (l := [0, 1, 2, 3, 4, 5, 6, 7, 8, 9, 10, 11, 12, 13, 14, 15, 16, 17]) rfl ?_
    refine nd_batch tabOk2 tabZ_ok2 [(0, {}), (1, {k := 1}), (2, {}), (3, {}), (4, {}), (5, {k := 1}), (6, {}), (7, {}), (8, {}), (9, {}), (10, {k := 1}), (11, {}), (12, {}), (13, {}), (14, {}), (15, {k := 1}), (16, {}), (17, {})] [6, 3, 0, 1, 4, 5, 7, 53, 66, 21, 22, 24, 25, 339] (T' := [(6, .pointer (some ⟨b14, 0, none⟩)), (3, .pointer (some ⟨b2, 0, none⟩)), (0, .pointer (some ⟨mb, 0, none⟩)), (1, .agg #[.int .u8 10, .int .u32 ev.pick, .int .u64 ev.draw, .int .u32 ev.addr, .int .u32 ev.node, .int .u32 ev.dst, .int .u32 ev.xfer, .int .u8 5, .int .u64 ev.arg, .int .u64 ev.badge, .slice xo ev.ws.length cx]), (4, .int .u8 0), (5, .bool false), (7, .pointer (some ⟨(Z.tp x), 0, none⟩)), (53, .int .u8 10), (66, .bool false), (21, .int .u8 0), (22, .int .i64 s1), (24, .int .i64 s2), (25, .int .u8 0), (339, .bool false)]) (φ := (b2 = b2 ∧ Nat.ble (7 + 1) 11 = true) ∧ (b2 = b2 ∧ Nat.ble (7 + 1) 11 = true) ∧ (b2 = b2 ∧ Nat.ble (7 + 1) 11 = true) ∧ (b2 = b2 ∧ Nat.ble (7 + 1) 11 = true) ∧ True) (rest := []) h121 (by kernel_rfl) rfl ⟨⟨rfl, rfl⟩, ⟨rfl, rfl⟩, ⟨rfl, rfl⟩, ⟨rfl, rfl⟩, trivial⟩ fun a125 h126 => ?_
    clear h121
    refine nd_done ?_
    refine hK124 _ _ ?_
    clear hK124
    refine c_false h126 rfl ?_
    refine wp_skip ?_
    refine hK123 _ _ ?_
    clear hK123
    refine wp_seq_k fun K127 hK127 => ?_
    refine dr_start (KB := [3, b2, b14, b75, mb]) (Bi := [[0, 1, 2, 3, 4], [0, 1, 2, 3, 4], [0, 1, 2, 3, 4], [0, 1, 2, 3, 4], [0, 1, 2, 3, 4], [0, 1, 2, 3, 4], [], [0, 1, 2, 3, 4], [0, 1, 2, 3, 4], [0, 1, 2, 3, 4], [1, 4], [], [0, 1, 2, 3, 4]]) mixed h126 fun w128 h129 => ?_
    clear h126
    refine dr_batch tabOk2 tabZ_ok2 (by repeat (first | with_reducible exact PF.body | with_reducible apply PF.inB | with_reducible apply PF.next)) [(0, {}), (1, {}), (2, {})] [6, 3, 0, 1, 4, 5, 7, 53, 66, 21, 22, 24, 25, 343] (T' := [(6, .pointer (some ⟨b14, 0, none⟩)), (3, .pointer (some ⟨b2, 0, none⟩)), (0, .pointer (some ⟨mb, 0, none⟩)), (1, .agg #[.int .u8 10, .int .u32 ev.pick, .int .u64 ev.draw, .int .u32 ev.addr, .int .u32 ev.node, .int .u32 ev.dst, .int .u32 ev.xfer, .int .u8 5, .int .u64 ev.arg, .int .u64 ev.badge, .slice xo ev.ws.length cx]), (4, .int .u8 0), (5, .bool false), (7, .pointer (some ⟨(Z.tp x), 0, none⟩)), (53, .int .u8 10), (66, .bool false), (21, .int .u8 0), (22, .int .i64 s1), (24, .int .i64 s2), (25, .int .u8 0), (343, .pointer (some ⟨mb, 0, none⟩))]) (φ := True) (fuel := 10) h129 (by kernel_rfl) rfl (by kernel_rfl) (by kernel_rfl) ⟨trivial, trivial, trivial, trivial⟩ trivial fun a131 h132 => ?_
    clear h129
    refine dr_read (i := 3) (b := mb) (p := 4) (v := .pointer (some ⟨Z.mo, 0, none⟩)) (fuel := 9) (by repeat (first | with_reducible exact PF.body | with_reducible apply PF.inB | with_reducible apply PF.next)) h132 rfl rfl rfl (by kernel_rfl) (by kernel_rfl) (by kernel_rfl) rfl (rd_m h132 (k := 0) (v := .pointer (some ⟨Z.mo, 0, none⟩)) rfl rfl rfl rfl (md_p ⟨rfl, trivial⟩)) ?_
    have h133 := h132.put (d := some 344) (v := .pointer (some ⟨Z.mo, 0, none⟩)) (T' := [(344, .pointer (some ⟨Z.mo, 0, none⟩)), (6, .pointer (some ⟨b14, 0, none⟩)), (3, .pointer (some ⟨b2, 0, none⟩)), (0, .pointer (some ⟨mb, 0, none⟩)), (1, .agg #[.int .u8 10, .int .u32 ev.pick, .int .u64 ev.draw, .int .u32 ev.addr, .int .u32 ev.node, .int .u32 ev.dst, .int .u32 ev.xfer, .int .u8 5, .int .u64 ev.arg, .int .u64 ev.badge, .slice xo ev.ws.length cx]), (4, .int .u8 0), (5, .bool false), (7, .pointer (some ⟨(Z.tp x), 0, none⟩)), (53, .int .u8 10), (66, .bool false), (21, .int .u8 0), (22, .int .i64 s1), (24, .int .i64 s2), (25, .int .u8 0), (343, .pointer (some ⟨mb, 0, none⟩))]) rfl
    clear h132
    refine dr_batch tabOk2 tabZ_ok2 (by repeat (first | with_reducible exact PF.body | with_reducible apply PF.inB | with_reducible apply PF.next)) [(4, {}), (5, {k := 1, p := 1})] [344, 6, 3, 0, 1, 4, 5, 7, 53, 66, 21, 22, 24, 25, 346] (T' := [(344, .pointer (some ⟨Z.mo, 0, none⟩)), (6, .pointer (some ⟨b14, 0, none⟩)), (3, .pointer (some ⟨b2, 0, none⟩)), (0, .pointer (some ⟨mb, 0, none⟩)), (1, .agg #[.int .u8 10, .int .u32 ev.pick, .int .u64 ev.draw, .int .u32 ev.addr, .int .u32 ev.node, .int .u32 ev.dst, .int .u32 ev.xfer, .int .u8 5, .int .u64 ev.arg, .int .u64 ev.badge, .slice xo ev.ws.length cx]), (4, .int .u8 0), (5, .bool false), (7, .pointer (some ⟨(Z.tp x), 0, none⟩)), (53, .int .u8 10), (66, .bool false), (21, .int .u8 0), (22, .int .i64 s1), (24, .int .i64 s2), (25, .int .u8 0), (346, .int .u8 5)]) (φ := (b2 = b2 ∧ Nat.ble (7 + 1) 11 = true) ∧ True) (fuel := 7) h133 (by kernel_rfl) rfl (by kernel_rfl) (by kernel_rfl) ⟨trivial, rfl, trivial⟩ ⟨⟨rfl, rfl⟩, trivial⟩ fun a134 h135 => ?_
    clear h133
    refine wpAnyK_two (i := 6) (j := 10) (fuel := 6) (by kernel_rfl) ?_ ?_
    ·
      refine op_call h135 rfl rfl rfl (callOk Tryd.func37 (by decide) rfl) (args := [.pointer (some ⟨Z.mo, 0, none⟩), .int .u8 5]) rfl (retypeC_ok Z.mo Z.mc Z.nd C 5 (by decide) _ h135.inv.1.cp er) ?_
      rintro _ w136 ⟨rfl, hc137, hf138⟩
      refine ⟨_, rfl, ?_⟩
      have h139a := st_cap h135 hc137 hf138 (fun b hb => .inl hb) (kcons (fun _ => rfl) (kcons (fun hq => by cases hq) (kcons (fun hq => by cases hq) (kcons (fun hq => by cases hq) knil))))
      have h139 := h139a.put (d := some 347) (v := .tuple #[.agg #[.int .u16 r.idx, .int .u32 r.gen], .int .u8 k]) (T' := [(347, .tuple #[.agg #[.int .u16 r.idx, .int .u32 r.gen], .int .u8 k]), (344, .pointer (some ⟨Z.mo, 0, none⟩)), (6, .pointer (some ⟨b14, 0, none⟩)), (3, .pointer (some ⟨b2, 0, none⟩)), (0, .pointer (some ⟨mb, 0, none⟩)), (1, .agg #[.int .u8 10, .int .u32 ev.pick, .int .u64 ev.draw, .int .u32 ev.addr, .int .u32 ev.node, .int .u32 ev.dst, .int .u32 ev.xfer, .int .u8 5, .int .u64 ev.arg, .int .u64 ev.badge, .slice xo ev.ws.length cx]), (4, .int .u8 0), (5, .bool false), (7, .pointer (some ⟨(Z.tp x), 0, none⟩)), (53, .int .u8 10), (66, .bool false), (21, .int .u8 0), (22, .int .i64 s1), (24, .int .i64 s2), (25, .int .u8 0), (346, .int .u8 5)]) rfl
      refine ⟨keepNil, ?_⟩
      clear h135 h139a
      refine dr_batch tabOk2 tabZ_ok2 (by repeat (first | with_reducible exact PF.body | with_reducible apply PF.inB | with_reducible apply PF.next)) [(7, {}), (8, {}), (9, {})] [6, 3, 0, 1, 4, 5, 7, 53, 66, 21, 22, 24, 25, 348, 349] (T' := [(6, .pointer (some ⟨b14, 0, none⟩)), (3, .pointer (some ⟨b2, 0, none⟩)), (0, .pointer (some ⟨mb, 0, none⟩)), (1, .agg #[.int .u8 10, .int .u32 ev.pick, .int .u64 ev.draw, .int .u32 ev.addr, .int .u32 ev.node, .int .u32 ev.dst, .int .u32 ev.xfer, .int .u8 5, .int .u64 ev.arg, .int .u64 ev.badge, .slice xo ev.ws.length cx]), (4, .int .u8 0), (5, .bool false), (7, .pointer (some ⟨(Z.tp x), 0, none⟩)), (53, .int .u8 10), (66, .bool false), (21, .int .u8 0), (22, .int .i64 s1), (24, .int .i64 s2), (25, .int .u8 0), (348, .agg #[.int .u16 r.idx, .int .u32 r.gen]), (349, .int .u8 k)]) (φ := True) (fuel := 3) h139 (by kernel_rfl) rfl (by kernel_rfl) (by kernel_rfl) ⟨trivial, trivial, trivial, trivial⟩ trivial fun a140 h141 => ?_
      clear h139
      refine wpAnyK_one (i := 10) (fuel := 2) (by kernel_rfl) ?_
      refine op_new tabOk2 (cells := [.int .u16 0, .int .u32 0]) (ty := 39) (ln := none) (L1 := fun b142 => [(3, ⟨[.int .u16 0, .int .u32 0], ty3, true⟩), (b2, ⟨[.int .u8 10, .int .u32 ev.pick, .int .u64 ev.draw, .int .u32 ev.addr, .int .u32 ev.node, .int .u32 ev.dst, .int .u32 ev.xfer, .int .u8 5, .int .u64 ev.arg, .int .u64 ev.badge, .slice xo ev.ws.length cx], 35, false⟩), (b14, ⟨[.int .u16 ((Z.ky x).idx), .int .u32 ((Z.ky x).gen)], 39, false⟩), (b75, ⟨[.int .u8 c.ty, .int .u16 c.obj.idx, .int .u32 c.obj.gen, .int .u8 c.rights, .int .u64 c.badge], 49, false⟩), (b142, ⟨[.int .u16 0, .int .u32 0], 39, false⟩)]) h141 rfl rfl rfl rfl (by kernel_rfl) (fun _ => rfl) fun b142 w143 a144 h145 hf146 hn147 => ?_
      refine ⟨(keepCons (kpLf h141.known hf146 (q := 1) rfl) (keepCons (kpM h141.inv.1 (l := .m) trivial (List.mem_cons_self ..) hf146) keepNil)), ?_⟩
      clear h141
      refine wpAnyK_one (i := 11) (fuel := 1) (by kernel_rfl) ?_
      refine op_store tabOk2 {k := 4} (L' := [(3, ⟨[.int .u16 0, .int .u32 0], ty3, true⟩), (b2, ⟨[.int .u8 10, .int .u32 ev.pick, .int .u64 ev.draw, .int .u32 ev.addr, .int .u32 ev.node, .int .u32 ev.dst, .int .u32 ev.xfer, .int .u8 5, .int .u64 ev.arg, .int .u64 ev.badge, .slice xo ev.ws.length cx], 35, false⟩), (b14, ⟨[.int .u16 ((Z.ky x).idx), .int .u32 ((Z.ky x).gen)], 39, false⟩), (b75, ⟨[.int .u8 c.ty, .int .u16 c.obj.idx, .int .u32 c.obj.gen, .int .u8 c.rights, .int .u64 c.badge], 49, false⟩), (b142, ⟨[.int .u16 r.idx, .int .u32 r.gen], 39, false⟩)]) (φ := b142 = b142 ∧ Nat.ble (0 + 2) 2 = true) h145 rfl rfl rfl (by kernel_rfl) ⟨rfl, rfl⟩ fun w148 h149 => ?_
      refine ⟨keepNil, ?_⟩
      clear h145
      refine dr_batch tabOk2 tabZ_ok2 (by repeat (first | with_reducible exact PF.body | with_reducible apply PF.inB | with_reducible apply PF.next)) [(12, {})] [26, 6, 3, 0, 1, 4, 5, 7, 53, 66, 21, 22, 24, 25] (T' := [(26, .pointer (some ⟨b142, 0, none⟩)), (6, .pointer (some ⟨b14, 0, none⟩)), (3, .pointer (some ⟨b2, 0, none⟩)), (0, .pointer (some ⟨mb, 0, none⟩)), (1, .agg #[.int .u8 10, .int .u32 ev.pick, .int .u64 ev.draw, .int .u32 ev.addr, .int .u32 ev.node, .int .u32 ev.dst, .int .u32 ev.xfer, .int .u8 5, .int .u64 ev.arg, .int .u64 ev.badge, .slice xo ev.ws.length cx]), (4, .int .u8 0), (5, .bool false), (7, .pointer (some ⟨(Z.tp x), 0, none⟩)), (53, .int .u8 10), (66, .bool false), (21, .int .u8 0), (22, .int .i64 s1), (24, .int .i64 s2), (25, .int .u8 k)]) (φ := True) (fuel := 0) h149 (by kernel_rfl) rfl (by kernel_rfl) (by kernel_rfl) ⟨trivial, trivial⟩ trivial fun a150 h151 => ?_
      clear h149
      refine wpAnyK_done (by kernel_rfl) ?_ _
      refine hK127 _ _ ?_
      clear hK127
      refine wp_seq_k fun K152 hK152 => ?_
      refine wp_seq_k fun K153 hK153 => ?_
      refine nd_start (l := [0, 1]) rfl ?_
      refine nd_batch tabOk2 tabZ_ok2 [(0, {}), (1, {})] [26, 6, 3, 0, 1, 4, 5, 7, 53, 66, 21, 22, 24, 25, 351] (T' := [(26, .pointer (some ⟨b142, 0, none⟩)), (6, .pointer (some ⟨b14, 0, none⟩)), (3, .pointer (some ⟨b2, 0, none⟩)), (0, .pointer (some ⟨mb, 0, none⟩)), (1, .agg #[.int .u8 10, .int .u32 ev.pick, .int .u64 ev.draw, .int .u32 ev.addr, .int .u32 ev.node, .int .u32 ev.dst, .int .u32 ev.xfer, .int .u8 5, .int .u64 ev.arg, .int .u64 ev.badge, .slice xo ev.ws.length cx]), (4, .int .u8 0), (5, .bool false), (7, .pointer (some ⟨(Z.tp x), 0, none⟩)), (53, .int .u8 10), (66, .bool false), (21, .int .u8 0), (22, .int .i64 s1), (24, .int .i64 s2), (25, .int .u8 k), (351, .bool (k != 0))]) (φ := True) (rest := []) h151 (by kernel_rfl) rfl trivial fun a154 h155 => ?_
      clear h151
      refine nd_done ?_
      refine hK153 _ _ ?_
      clear hK153
      refine c_split h155 (b := (k != 0)) rfl (fun hc156 => ?_) (fun hc156 => ?_)
      ·
        have hc156f : k ≠ 0 := by simpa using hc156
        refine wp_seq_k fun K157 hK157 => ?_
        refine nd_start (l := [0, 1, 2]) rfl ?_
        refine nd_batch tabOk2 tabZ_ok2 [(0, {}), (1, {}), (2, {})] [26, 6, 3, 0, 1, 7, 53, 66, 21, 22, 24, 25, 4, 5] (T' := [(26, .pointer (some ⟨b142, 0, none⟩)), (6, .pointer (some ⟨b14, 0, none⟩)), (3, .pointer (some ⟨b2, 0, none⟩)), (0, .pointer (some ⟨mb, 0, none⟩)), (1, .agg #[.int .u8 10, .int .u32 ev.pick, .int .u64 ev.draw, .int .u32 ev.addr, .int .u32 ev.node, .int .u32 ev.dst, .int .u32 ev.xfer, .int .u8 5, .int .u64 ev.arg, .int .u64 ev.badge, .slice xo ev.ws.length cx]), (7, .pointer (some ⟨(Z.tp x), 0, none⟩)), (53, .int .u8 10), (66, .bool false), (21, .int .u8 0), (22, .int .i64 s1), (24, .int .i64 s2), (25, .int .u8 k), (4, .int .u8 k), (5, .bool false)]) (φ := True) (rest := []) h155 (by kernel_rfl) rfl trivial fun a158 h159 => ?_
        clear h155
        refine nd_done ?_
        refine hK157 _ _ ?_
        clear hK157
        refine wp_ret ?_
        try simp only [Exit.then, Exit.inBlock]
        try rw [if_pos trivial]
        exact s_ret tabOk2 tabZ_ok2 h159 [(.tmp 4, {}), (.tmp 5, {})] (vs := [.int .u8 k, .bool false]) (φ := True) rfl (by kernel_rfl) trivial ⟨rfl, _, mg_end hH h159 hhoh103 rfl⟩
      ·
        have hc156f : k = 0 := by simpa using hc156
        exact absurd hc156f hk0
    ·
      refine op_new tabOk2 (cells := [.int .u16 0, .int .u32 0]) (ty := 39) (ln := none) (L1 := fun b160 => [(3, ⟨[.int .u16 0, .int .u32 0], ty3, true⟩), (b2, ⟨[.int .u8 10, .int .u32 ev.pick, .int .u64 ev.draw, .int .u32 ev.addr, .int .u32 ev.node, .int .u32 ev.dst, .int .u32 ev.xfer, .int .u8 5, .int .u64 ev.arg, .int .u64 ev.badge, .slice xo ev.ws.length cx], 35, false⟩), (b14, ⟨[.int .u16 ((Z.ky x).idx), .int .u32 ((Z.ky x).gen)], 39, false⟩), (b75, ⟨[.int .u8 c.ty, .int .u16 c.obj.idx, .int .u32 c.obj.gen, .int .u8 c.rights, .int .u64 c.badge], 49, false⟩), (b160, ⟨[.int .u16 0, .int .u32 0], 39, false⟩)]) h135 rfl rfl rfl rfl (by kernel_rfl) (fun _ => rfl) fun b160 w161 a162 h163 hf164 hn165 => ?_
      refine ⟨(keepCons (kpLf h135.known hf164 (q := 1) rfl) (keepCons (kpM h135.inv.1 (l := .m) trivial (List.mem_cons_self ..) hf164) keepNil)), ?_⟩
      clear h135
      refine wpAnyK_one (i := 6) (fuel := 5) (by kernel_rfl) ?_
      refine op_call h163 rfl rfl rfl (callOk Tryd.func37 (by decide) rfl) (args := [.pointer (some ⟨Z.mo, 0, none⟩), .int .u8 5]) rfl (retypeC_ok Z.mo Z.mc Z.nd C 5 (by decide) _ h163.inv.1.cp er) ?_
      rintro _ w166 ⟨rfl, hc167, hf168⟩
      refine ⟨_, rfl, ?_⟩
      have h169a := st_cap h163 hc167 hf168 (fun b hb => .inl hb) (kcons (fun _ => rfl) (kcons (fun hq => by cases hq) (kcons (fun hq => by cases hq) (kcons (fun hq => by cases hq) (kcons (fun hq => by cases hq) knil)))))
      have h169 := h169a.put (d := some 347) (v := .tuple #[.agg #[.int .u16 r.idx, .int .u32 r.gen], .int .u8 k]) (T' := [(347, .tuple #[.agg #[.int .u16 r.idx, .int .u32 r.gen], .int .u8 k]), (26, .pointer (some ⟨b160, 0, none⟩)), (344, .pointer (some ⟨Z.mo, 0, none⟩)), (6, .pointer (some ⟨b14, 0, none⟩)), (3, .pointer (some ⟨b2, 0, none⟩)), (0, .pointer (some ⟨mb, 0, none⟩)), (1, .agg #[.int .u8 10, .int .u32 ev.pick, .int .u64 ev.draw, .int .u32 ev.addr, .int .u32 ev.node, .int .u32 ev.dst, .int .u32 ev.xfer, .int .u8 5, .int .u64 ev.arg, .int .u64 ev.badge, .slice xo ev.ws.length cx]), (4, .int .u8 0), (5, .bool false), (7, .pointer (some ⟨(Z.tp x), 0, none⟩)), (53, .int .u8 10), (66, .bool false), (21, .int .u8 0), (22, .int .i64 s1), (24, .int .i64 s2), (25, .int .u8 0), (346, .int .u8 5)]) rfl
      refine ⟨keepNil, ?_⟩
      clear h163 h169a
      refine dr_batch tabOk2 tabZ_ok2 (by repeat (first | with_reducible exact PF.body | with_reducible apply PF.inB | with_reducible apply PF.next)) [(7, {}), (8, {}), (9, {})] [26, 6, 3, 0, 1, 4, 5, 7, 53, 66, 21, 22, 24, 25, 348, 349] (T' := [(26, .pointer (some ⟨b160, 0, none⟩)), (6, .pointer (some ⟨b14, 0, none⟩)), (3, .pointer (some ⟨b2, 0, none⟩)), (0, .pointer (some ⟨mb, 0, none⟩)), (1, .agg #[.int .u8 10, .int .u32 ev.pick, .int .u64 ev.draw, .int .u32 ev.addr, .int .u32 ev.node, .int .u32 ev.dst, .int .u32 ev.xfer, .int .u8 5, .int .u64 ev.arg, .int .u64 ev.badge, .slice xo ev.ws.length cx]), (4, .int .u8 0), (5, .bool false), (7, .pointer (some ⟨(Z.tp x), 0, none⟩)), (53, .int .u8 10), (66, .bool false), (21, .int .u8 0), (22, .int .i64 s1), (24, .int .i64 s2), (25, .int .u8 0), (348, .agg #[.int .u16 r.idx, .int .u32 r.gen]), (349, .int .u8 k)]) (φ := True) (fuel := 2) h169 (by kernel_rfl) rfl (by kernel_rfl) (by kernel_rfl) ⟨trivial, trivial, trivial, trivial⟩ trivial fun a170 h171 => ?_
      clear h169
      refine wpAnyK_one (i := 11) (fuel := 1) (by kernel_rfl) ?_
      refine op_store tabOk2 {k := 4} (L' := [(3, ⟨[.int .u16 0, .int .u32 0], ty3, true⟩), (b2, ⟨[.int .u8 10, .int .u32 ev.pick, .int .u64 ev.draw, .int .u32 ev.addr, .int .u32 ev.node, .int .u32 ev.dst, .int .u32 ev.xfer, .int .u8 5, .int .u64 ev.arg, .int .u64 ev.badge, .slice xo ev.ws.length cx], 35, false⟩), (b14, ⟨[.int .u16 ((Z.ky x).idx), .int .u32 ((Z.ky x).gen)], 39, false⟩), (b75, ⟨[.int .u8 c.ty, .int .u16 c.obj.idx, .int .u32 c.obj.gen, .int .u8 c.rights, .int .u64 c.badge], 49, false⟩), (b160, ⟨[.int .u16 r.idx, .int .u32 r.gen], 39, false⟩)]) (φ := b160 = b160 ∧ Nat.ble (0 + 2) 2 = true) h171 rfl rfl rfl (by kernel_rfl) ⟨rfl, rfl⟩ fun w172 h173 => ?_
      refine ⟨keepNil, ?_⟩
      clear h171
      refine dr_batch tabOk2 tabZ_ok2 (by repeat (first | with_reducible exact PF.body | with_reducible apply PF.inB | with_reducible apply PF.next)) [(12, {})] [26, 6, 3, 0, 1, 4, 5, 7, 53, 66, 21, 22, 24, 25] (T' := [(26, .pointer (some ⟨b160, 0, none⟩)), (6, .pointer (some ⟨b14, 0, none⟩)), (3, .pointer (some ⟨b2, 0, none⟩)), (0, .pointer (some ⟨mb, 0, none⟩)), (1, .agg #[.int .u8 10, .int .u32 ev.pick, .int .u64 ev.draw, .int .u32 ev.addr, .int .u32 ev.node, .int .u32 ev.dst, .int .u32 ev.xfer, .int .u8 5, .int .u64 ev.arg, .int .u64 ev.badge, .slice xo ev.ws.length cx]), (4, .int .u8 0), (5, .bool false), (7, .pointer (some ⟨(Z.tp x), 0, none⟩)), (53, .int .u8 10), (66, .bool false), (21, .int .u8 0), (22, .int .i64 s1), (24, .int .i64 s2), (25, .int .u8 k)]) (φ := True) (fuel := 0) h173 (by kernel_rfl) rfl (by kernel_rfl) (by kernel_rfl) ⟨trivial, trivial⟩ trivial fun a174 h175 => ?_
      clear h173
      refine wpAnyK_done (by kernel_rfl) ?_ _
      refine hK127 _ _ ?_
      clear hK127
      refine wp_seq_k fun K176 hK176 => ?_
      refine wp_seq_k fun K177 hK177 => ?_
      refine nd_start (l := [0, 1]) rfl ?_
      refine nd_batch tabOk2 tabZ_ok2 [(0, {}), (1, {})] [26, 6, 3, 0, 1, 4, 5, 7, 53, 66, 21, 22, 24, 25, 351] (T' := [(26, .pointer (some ⟨b160, 0, none⟩)), (6, .pointer (some ⟨b14, 0, none⟩)), (3, .pointer (some ⟨b2, 0, none⟩)), (0, .pointer (some ⟨mb, 0, none⟩)), (1, .agg #[.int .u8 10, .int .u32 ev.pick, .int .u64 ev.draw, .int .u32 ev.addr, .int .u32 ev.node, .int .u32 ev.dst, .int .u32 ev.xfer, .int .u8 5, .int .u64 ev.arg, .int .u64 ev.badge, .slice xo ev.ws.length cx]), (4, .int .u8 0), (5, .bool false), (7, .pointer (some ⟨(Z.tp x), 0, none⟩)), (53, .int .u8 10), (66, .bool false), (21, .int .u8 0), (22, .int .i64 s1), (24, .int .i64 s2), (25, .int .u8 k), (351, .bool (k != 0))]) (φ := True) (rest := []) h175 (by kernel_rfl) rfl trivial fun a178 h179 => ?_
      clear h175
      refine nd_done ?_
      refine hK177 _ _ ?_
      clear hK177
      refine c_split h179 (b := (k != 0)) rfl (fun hc180 => ?_) (fun hc180 => ?_)
      ·
        have hc180f : k ≠ 0 := by simpa using hc180
        refine wp_seq_k fun K181 hK181 => ?_
        refine nd_start (l := [0, 1, 2]) rfl ?_
        refine nd_batch tabOk2 tabZ_ok2 [(0, {}), (1, {}), (2, {})] [26, 6, 3, 0, 1, 7, 53, 66, 21, 22, 24, 25, 4, 5] (T' := [(26, .pointer (some ⟨b160, 0, none⟩)), (6, .pointer (some ⟨b14, 0, none⟩)), (3, .pointer (some ⟨b2, 0, none⟩)), (0, .pointer (some ⟨mb, 0, none⟩)), (1, .agg #[.int .u8 10, .int .u32 ev.pick, .int .u64 ev.draw, .int .u32 ev.addr, .int .u32 ev.node, .int .u32 ev.dst, .int .u32 ev.xfer, .int .u8 5, .int .u64 ev.arg, .int .u64 ev.badge, .slice xo ev.ws.length cx]), (7, .pointer (some ⟨(Z.tp x), 0, none⟩)), (53, .int .u8 10), (66, .bool false), (21, .int .u8 0), (22, .int .i64 s1), (24, .int .i64 s2), (25, .int .u8 k), (4, .int .u8 k), (5, .bool false)]) (φ := True) (rest := []) h179 (by kernel_rfl) rfl trivial fun a182 h183 => ?_
        clear h179
        refine nd_done ?_
        refine hK181 _ _ ?_
        clear hK181
        refine wp_ret ?_
        try simp only [Exit.then, Exit.inBlock]
        try rw [if_pos trivial]
        exact s_ret tabOk2 tabZ_ok2 h183 [(.tmp 4, {}), (.tmp 5, {})] (vs := [.int .u8 k, .bool false]) (φ := True) rfl (by kernel_rfl) trivial ⟨rfl, _, mg_end hH h183 hhoh103 rfl⟩
      ·
        have hc180f : k = 0 := by simpa using hc180
        exact absurd hc180f hk0

theorem call10g2 (mb : Nat) (Z : MZ) (R : MR) (a : AK) (C : CP) (hI : MI Z a C) (x : Nat) (hx : x ∈ sl Z.tl) (hcu : a.cur = (x : Int)) (ev : Ev) (he : EvOk ev) (xo : Option Addr) (cx : Nat) (c : Cp) (cs0 : Int) (hf : findA a C ev.addr 1 2 = (c, cs0, 0)) (s1 : Int) (e1 : lookP C.ent (a.th x).cs ev.addr = (s1, 0)) (s2 : Int) (e2 : lookP C.ent (a.th x).cs ev.dst = (s2, 0)) (hz2 : (C.cel s2.toNat).cap.ty = 0) (E1 : Nat → Ent) (o : Nat) (er : retype0 C.ent 2 = (E1, Z.ky o, 0)) (ho2 : o < 256) (hor : 0 ≤ (Z.ky o).idx ∧ (Z.ky o).idx < 256) (w : World) (hH : MH mb Z R a C w) (hws : WordsAt (mdF mb Z R C) w xo ev.ws) :
    Calls Tryd.prog 55 #[.pointer (some ⟨mb, 0, none⟩), .agg #[.int .u8 10, .int .u32 ev.pick, .int .u64 ev.draw, .int .u32 ev.addr, .int .u32 ev.node, .int .u32 ev.dst, .int .u32 ev.xfer, .int .u8 2, .int .u64 ev.arg, .int .u64 ev.badge, .slice xo ev.ws.length cx]] w fun e w' => e = .returned (.tuple #[.int .u8 0, .bool false]) ∧ ∃ nd R', MG mb Z R C w { Z with nd := nd } R' a { (nodeP { C with ent := E1 } (Z.ky o).idx.toNat) with cel := upd (nodeP { C with ent := E1 } (Z.ky o).idx.toNat).cel s2.toNat ⟨⟨2, Z.ky o, 7, 0⟩, s1⟩ } w' := by
  have hP := hI.mp
  have hcx : curR Z a = Z.ky x := curR_of hcu
  have hcn : a.cur.toNat = x := by rw [hcu]; exact Int.toNat_natCast x
  have hci := (hI.tk x hx).ci
  obtain ⟨ty3, hg3⟩ := hH.g3
  have hho := hH.ho
  have hkk := hH.md.k
  refine enter (n := 628) (K := mdF mb Z R C) (A := MD (mdF mb Z R C) w.heap.size mb Z R a C) (F := mdF mb Z R C) (T := [(0, .pointer (some ⟨mb, 0, none⟩)), (1, .agg #[.int .u8 10, .int .u32 ev.pick, .int .u64 ev.draw, .int .u32 ev.addr, .int .u32 ev.node, .int .u32 ev.dst, .int .u32 ev.xfer, .int .u8 2, .int .u64 ev.arg, .int .u64 ev.badge, .slice xo ev.ws.length cx])]) (L := [(3, ⟨[.int .u16 0, .int .u32 0], ty3, true⟩)]) (args := [.pointer (some ⟨mb, 0, none⟩), .agg #[.int .u8 10, .int .u32 ev.pick, .int .u64 ev.draw, .int .u32 ev.addr, .int .u32 ev.node, .int .u32 ev.dst, .int .u32 ev.xfer, .int .u8 2, .int .u64 ev.arg, .int .u64 ev.badge, .slice xo ev.ws.length cx]]) Tryd.func55 rfl rfl rfl rfl (kcons hg3 knil) (by simp) (kcons (by intro hq; cases hq) knil) hH.mD MD.stable hH.md.low (kcons (by intro hq; cases hq) knil) ?_
  intro ac h
  refine wp_seq_k fun K1 hK1 => ?_
  refine nd_start (l := [0, 1, 2]) rfl ?_
  refine nd_op ?_
  refine op_new tabOk2 (cells := [.int .u8 10, .int .u32 ev.pick, .int .u64 ev.draw, .int .u32 ev.addr, .int .u32 ev.node, .int .u32 ev.dst, .int .u32 ev.xfer, .int .u8 2, .int .u64 ev.arg, .int .u64 ev.badge, .slice xo ev.ws.length cx]) (ty := 35) (ln := none) (L1 := fun b2 => [(3, ⟨[.int .u16 0, .int .u32 0], ty3, true⟩), (b2, ⟨[.int .u8 10, .int .u32 ev.pick, .int .u64 ev.draw, .int .u32 ev.addr, .int .u32 ev.node, .int .u32 ev.dst, .int .u32 ev.xfer, .int .u8 2, .int .u64 ev.arg, .int .u64 ev.badge, .slice xo ev.ws.length cx], 35, false⟩)]) h rfl rfl rfl rfl (by kernel_rfl) (fun _ => rfl) fun b2 w3 a4 h5 hf6 hn7 => ?_
  clear h
  refine nd_batch tabOk2 tabZ_ok2 [(1, {}), (2, {})] [3, 0, 1, 4, 5] (T' := [(3, .pointer (some ⟨b2, 0, none⟩)), (0, .pointer (some ⟨mb, 0, none⟩)), (1, .agg #[.int .u8 10, .int .u32 ev.pick, .int .u64 ev.draw, .int .u32 ev.addr, .int .u32 ev.node, .int .u32 ev.dst, .int .u32 ev.xfer, .int .u8 2, .int .u64 ev.arg, .int .u64 ev.badge, .slice xo ev.ws.length cx]), (4, .int .u8 0), (5, .bool false)]) (φ := True) (rest := []) h5 (by kernel_rfl) rfl trivial fun a8 h9 => ?_
  clear h5
  refine nd_done ?_
  refine hK1 _ _ ?_
  clear hK1
  refine wp_seq_k fun K10 hK10 => ?_
  refine nd_start (l := [0, 1, 2, 3, 4, 5]) rfl ?_
  refine nd_batch tabOk2 tabZ_ok2 [(0, {}), (1, {}), (2, {})] [3, 0, 1, 4, 5, 44] (T' := [(3, .pointer (some ⟨b2, 0, none⟩)), (0, .pointer (some ⟨mb, 0, none⟩)), (1, .agg #[.int .u8 10, .int .u32 ev.pick, .int .u64 ev.draw, .int .u32 ev.addr, .int .u32 ev.node, .int .u32 ev.dst, .int .u32 ev.xfer, .int .u8 2, .int .u64 ev.arg, .int .u64 ev.badge, .slice xo ev.ws.length cx]), (4, .int .u8 0), (5, .bool false), (44, .pointer (some ⟨mb, 13, none⟩))]) (φ := True) (rest := [3, 4, 5]) h9 (by kernel_rfl) rfl trivial fun a11 h12 => ?_
  clear h9
  refine nd_op ?_
  refine op_read (b := mb) (v := .agg #[.int .u16 ((Z.ky x).idx), .int .u32 ((Z.ky x).gen)]) h12 rfl rfl (rd_mA h12 (k := 13) (vs := [.int .u16 ((Z.ky x).idx), .int .u32 ((Z.ky x).gen)]) rfl rfl rfl rfl rfl (by rw [← hcx]; exact md_cur)) ?_
  have h13 := h12.put (d := some 45) (v := .agg #[.int .u16 ((Z.ky x).idx), .int .u32 ((Z.ky x).gen)]) (T' := [(45, .agg #[.int .u16 ((Z.ky x).idx), .int .u32 ((Z.ky x).gen)]), (3, .pointer (some ⟨b2, 0, none⟩)), (0, .pointer (some ⟨mb, 0, none⟩)), (1, .agg #[.int .u8 10, .int .u32 ev.pick, .int .u64 ev.draw, .int .u32 ev.addr, .int .u32 ev.node, .int .u32 ev.dst, .int .u32 ev.xfer, .int .u8 2, .int .u64 ev.arg, .int .u64 ev.badge, .slice xo ev.ws.length cx]), (4, .int .u8 0), (5, .bool false), (44, .pointer (some ⟨mb, 13, none⟩))]) rfl
  clear h12
  refine nd_op ?_
  refine op_new tabOk2 (cells := [.int .u16 0, .int .u32 0]) (ty := 39) (ln := none) (L1 := fun b14 => [(3, ⟨[.int .u16 0, .int .u32 0], ty3, true⟩), (b2, ⟨[.int .u8 10, .int .u32 ev.pick, .int .u64 ev.draw, .int .u32 ev.addr, .int .u32 ev.node, .int .u32 ev.dst, .int .u32 ev.xfer, .int .u8 2, .int .u64 ev.arg, .int .u64 ev.badge, .slice xo ev.ws.length cx], 35, false⟩), (b14, ⟨[.int .u16 0, .int .u32 0], 39, false⟩)]) h13 rfl rfl rfl rfl (by kernel_rfl) (fun _ => rfl) fun b14 w15 a16 h17 hf18 hn19 => ?_
  clear h13
  refine nd_op ?_
  refine op_store tabOk2 {k := 2} (L' := [(3, ⟨[.int .u16 0, .int .u32 0], ty3, true⟩), (b2, ⟨[.int .u8 10, .int .u32 ev.pick, .int .u64 ev.draw, .int .u32 ev.addr, .int .u32 ev.node, .int .u32 ev.dst, .int .u32 ev.xfer, .int .u8 2, .int .u64 ev.arg, .int .u64 ev.badge, .slice xo ev.ws.length cx], 35, false⟩), (b14, ⟨[.int .u16 ((Z.ky x).idx), .int .u32 ((Z.ky x).gen)], 39, false⟩)]) (φ := b14 = b14 ∧ Nat.ble (0 + 2) 2 = true) h17 rfl rfl rfl (by kernel_rfl) ⟨rfl, rfl⟩ fun w20 h21 => ?_
  clear h17
  refine nd_done ?_
  refine hK10 _ _ ?_
  clear hK10
  refine wp_seq_k fun K22 hK22 => ?_
  refine dr_start (KB := [3, b2, b14, mb, Z.tb]) (Bi := [[0, 1, 2, 3, 4], [0, 1, 2, 3, 4], [0, 1, 2, 3, 4], [0, 1, 2, 3, 4], [0, 1, 2, 3, 4], [0, 1, 2, 3, 4], [0, 1, 2, 3, 4]]) mixed h21 fun w23 h24 => ?_
  clear h21
  refine dr_batch tabOk2 tabZ_ok2 (by repeat (first | with_reducible exact PF.body | with_reducible apply PF.inB | with_reducible apply PF.next)) [(0, {}), (1, {}), (2, {})] [6, 3, 0, 1, 4, 5, 48] (T' := [(6, .pointer (some ⟨b14, 0, none⟩)), (3, .pointer (some ⟨b2, 0, none⟩)), (0, .pointer (some ⟨mb, 0, none⟩)), (1, .agg #[.int .u8 10, .int .u32 ev.pick, .int .u64 ev.draw, .int .u32 ev.addr, .int .u32 ev.node, .int .u32 ev.dst, .int .u32 ev.xfer, .int .u8 2, .int .u64 ev.arg, .int .u64 ev.badge, .slice xo ev.ws.length cx]), (4, .int .u8 0), (5, .bool false), (48, .pointer (some ⟨mb, 2, none⟩))]) (φ := True) (fuel := 4) h24 (by kernel_rfl) rfl (by kernel_rfl) (by kernel_rfl) ⟨trivial, trivial, trivial, trivial⟩ trivial fun a26 h27 => ?_
  clear h24
  refine dr_read (i := 3) (b := mb) (p := 3) (v := .map (some Z.tb)) (fuel := 3) (by repeat (first | with_reducible exact PF.body | with_reducible apply PF.inB | with_reducible apply PF.next)) h27 rfl rfl rfl (by kernel_rfl) (by kernel_rfl) (by kernel_rfl) rfl (rd_m h27 (k := 2) (v := .map (some Z.tb)) rfl rfl rfl rfl (md_p ⟨rfl, trivial⟩)) ?_
  have h28 := h27.put (d := some 49) (v := .map (some Z.tb)) (T' := [(49, .map (some Z.tb)), (6, .pointer (some ⟨b14, 0, none⟩)), (3, .pointer (some ⟨b2, 0, none⟩)), (0, .pointer (some ⟨mb, 0, none⟩)), (1, .agg #[.int .u8 10, .int .u32 ev.pick, .int .u64 ev.draw, .int .u32 ev.addr, .int .u32 ev.node, .int .u32 ev.dst, .int .u32 ev.xfer, .int .u8 2, .int .u64 ev.arg, .int .u64 ev.badge, .slice xo ev.ws.length cx]), (4, .int .u8 0), (5, .bool false), (48, .pointer (some ⟨mb, 2, none⟩))]) rfl
  clear h27
  refine dr_batch tabOk2 tabZ_ok2 (by repeat (first | with_reducible exact PF.body | with_reducible apply PF.inB | with_reducible apply PF.next)) [(4, {k := 2, p := 2})] [49, 6, 3, 0, 1, 4, 5, 50] (T' := [(49, .map (some Z.tb)), (6, .pointer (some ⟨b14, 0, none⟩)), (3, .pointer (some ⟨b2, 0, none⟩)), (0, .pointer (some ⟨mb, 0, none⟩)), (1, .agg #[.int .u8 10, .int .u32 ev.pick, .int .u64 ev.draw, .int .u32 ev.addr, .int .u32 ev.node, .int .u32 ev.dst, .int .u32 ev.xfer, .int .u8 2, .int .u64 ev.arg, .int .u64 ev.badge, .slice xo ev.ws.length cx]), (4, .int .u8 0), (5, .bool false), (50, .agg #[.int .u16 ((Z.ky x).idx), .int .u32 ((Z.ky x).gen)])]) (φ := (b14 = b14 ∧ Nat.ble (0 + 2) 2 = true) ∧ True) (fuel := 2) h28 (by kernel_rfl) rfl (by kernel_rfl) (by kernel_rfl) ⟨rfl, trivial⟩ ⟨⟨rfl, rfl⟩, trivial⟩ fun a29 h30 => ?_
  clear h28
  refine dr_read (i := 5) (b := Z.tb) (p := 4) (v := .pointer (some ⟨(Z.tp x), 0, none⟩)) (fuel := 1) (by repeat (first | with_reducible exact PF.body | with_reducible apply PF.inB | with_reducible apply PF.next)) h30 rfl rfl rfl (by kernel_rfl) (by kernel_rfl) (by kernel_rfl) rfl (rd_T h30 (x := x) hx rfl rfl rfl) ?_
  have h31 := h30.put (d := some 51) (v := .pointer (some ⟨(Z.tp x), 0, none⟩)) (T' := [(51, .pointer (some ⟨(Z.tp x), 0, none⟩)), (49, .map (some Z.tb)), (6, .pointer (some ⟨b14, 0, none⟩)), (3, .pointer (some ⟨b2, 0, none⟩)), (0, .pointer (some ⟨mb, 0, none⟩)), (1, .agg #[.int .u8 10, .int .u32 ev.pick, .int .u64 ev.draw, .int .u32 ev.addr, .int .u32 ev.node, .int .u32 ev.dst, .int .u32 ev.xfer, .int .u8 2, .int .u64 ev.arg, .int .u64 ev.badge, .slice xo ev.ws.length cx]), (4, .int .u8 0), (5, .bool false), (50, .agg #[.int .u16 ((Z.ky x).idx), .int .u32 ((Z.ky x).gen)])]) rfl
  clear h30
  refine dr_batch tabOk2 tabZ_ok2 (by repeat (first | with_reducible exact PF.body | with_reducible apply PF.inB | with_reducible apply PF.next)) [(6, {})] [6, 3, 0, 1, 4, 5, 7] (T' := [(6, .pointer (some ⟨b14, 0, none⟩)), (3, .pointer (some ⟨b2, 0, none⟩)), (0, .pointer (some ⟨mb, 0, none⟩)), (1, .agg #[.int .u8 10, .int .u32 ev.pick, .int .u64 ev.draw, .int .u32 ev.addr, .int .u32 ev.node, .int .u32 ev.dst, .int .u32 ev.xfer, .int .u8 2, .int .u64 ev.arg, .int .u64 ev.badge, .slice xo ev.ws.length cx]), (4, .int .u8 0), (5, .bool false), (7, .pointer (some ⟨(Z.tp x), 0, none⟩))]) (φ := True) (fuel := 0) h31 (by kernel_rfl) rfl (by kernel_rfl) (by kernel_rfl) ⟨trivial, trivial⟩ trivial fun a32 h33 => ?_
  clear h31
  refine wpAnyK_done (by kernel_rfl) ?_ _
  refine hK22 _ _ ?_
  clear hK22
  refine wp_seq_k fun K34 hK34 => ?_
  refine wp_seq_k fun K35 hK35 => ?_
  refine nd_start (l := [0, 1]) rfl ?_
  refine nd_batch tabOk2 tabZ_ok2 [(0, {}), (1, {k := 1})] [6, 3, 0, 1, 4, 5, 7, 53] (T' := [(6, .pointer (some ⟨b14, 0, none⟩)), (3, .pointer (some ⟨b2, 0, none⟩)), (0, .pointer (some ⟨mb, 0, none⟩)), (1, .agg #[.int .u8 10, .int .u32 ev.pick, .int .u64 ev.draw, .int .u32 ev.addr, .int .u32 ev.node, .int .u32 ev.dst, .int .u32 ev.xfer, .int .u8 2, .int .u64 ev.arg, .int .u64 ev.badge, .slice xo ev.ws.length cx]), (4, .int .u8 0), (5, .bool false), (7, .pointer (some ⟨(Z.tp x), 0, none⟩)), (53, .int .u8 10)]) (φ := (b2 = b2 ∧ Nat.ble (0 + 1) 11 = true) ∧ True) (rest := []) h33 (by kernel_rfl) rfl ⟨⟨rfl, rfl⟩, trivial⟩ fun a36 h37 => ?_
  clear h33
  refine nd_done ?_
  refine hK35 _ _ ?_
  clear hK35
  refine wp_block ?_
  refine wp_seq_k fun K38 hK38 => ?_
  refine nd_start (l := [0, 1]) rfl ?_
  refine nd_batch tabOk2 tabZ_ok2 [(0, {}), (1, {})] [6, 3, 0, 1, 4, 5, 7, 53, 54] (T' := [(6, .pointer (some ⟨b14, 0, none⟩)), (3, .pointer (some ⟨b2, 0, none⟩)), (0, .pointer (some ⟨mb, 0, none⟩)), (1, .agg #[.int .u8 10, .int .u32 ev.pick, .int .u64 ev.draw, .int .u32 ev.addr, .int .u32 ev.node, .int .u32 ev.dst, .int .u32 ev.xfer, .int .u8 2, .int .u64 ev.arg, .int .u64 ev.badge, .slice xo ev.ws.length cx]), (4, .int .u8 0), (5, .bool false), (7, .pointer (some ⟨(Z.tp x), 0, none⟩)), (53, .int .u8 10), (54, .bool false)]) (φ := True) (rest := []) h37 (by kernel_rfl) rfl trivial fun a39 h40 => ?_
  clear h37
  refine nd_done ?_
  refine hK38 _ _ ?_
  clear hK38
  refine c_false h40 rfl ?_
  refine wp_seq_k fun K41 hK41 => ?_
  refine nd_start (l := [0, 1]) rfl ?_
  refine nd_batch tabOk2 tabZ_ok2 [(0, {}), (1, {})] [6, 3, 0, 1, 4, 5, 7, 53, 59] (T' := [(6, .pointer (some ⟨b14, 0, none⟩)), (3, .pointer (some ⟨b2, 0, none⟩)), (0, .pointer (some ⟨mb, 0, none⟩)), (1, .agg #[.int .u8 10, .int .u32 ev.pick, .int .u64 ev.draw, .int .u32 ev.addr, .int .u32 ev.node, .int .u32 ev.dst, .int .u32 ev.xfer, .int .u8 2, .int .u64 ev.arg, .int .u64 ev.badge, .slice xo ev.ws.length cx]), (4, .int .u8 0), (5, .bool false), (7, .pointer (some ⟨(Z.tp x), 0, none⟩)), (53, .int .u8 10), (59, .bool false)]) (φ := True) (rest := []) h40 (by kernel_rfl) rfl trivial fun a42 h43 => ?_
  clear h40
  refine nd_done ?_
  refine hK41 _ _ ?_
  clear hK41
  refine c_false h43 rfl ?_
  refine wp_seq_k fun K44 hK44 => ?_
  refine wp_seq_k fun K45 hK45 => ?_
  refine nd_start (l := [0, 1]) rfl ?_
  refine nd_batch tabOk2 tabZ_ok2 [(0, {}), (1, {})] [6, 3, 0, 1, 4, 5, 7, 53, 66] (T' := [(6, .pointer (some ⟨b14, 0, none⟩)), (3, .pointer (some ⟨b2, 0, none⟩)), (0, .pointer (some ⟨mb, 0, none⟩)), (1, .agg #[.int .u8 10, .int .u32 ev.pick, .int .u64 ev.draw, .int .u32 ev.addr, .int .u32 ev.node, .int .u32 ev.dst, .int .u32 ev.xfer, .int .u8 2, .int .u64 ev.arg, .int .u64 ev.badge, .slice xo ev.ws.length cx]), (4, .int .u8 0), (5, .bool false), (7, .pointer (some ⟨(Z.tp x), 0, none⟩)), (53, .int .u8 10), (66, .bool false)]) (φ := True) (rest := []) h43 (by kernel_rfl) rfl trivial fun a46 h47 => ?_
  clear h43
  refine nd_done ?_
  refine hK45 _ _ ?_
  clear hK45
  refine c_false h47 rfl ?_
  refine nd_start (l := [0, 1]) rfl ?_
  refine nd_batch tabOk2 tabZ_ok2 [(0, {}), (1, {})] [6, 3, 0, 1, 4, 5, 7, 53, 66] (T' := [(6, .pointer (some ⟨b14, 0, none⟩)), (3, .pointer (some ⟨b2, 0, none⟩)), (0, .pointer (some ⟨mb, 0, none⟩)), (1, .agg #[.int .u8 10, .int .u32 ev.pick, .int .u64 ev.draw, .int .u32 ev.addr, .int .u32 ev.node, .int .u32 ev.dst, .int .u32 ev.xfer, .int .u8 2, .int .u64 ev.arg, .int .u64 ev.badge, .slice xo ev.ws.length cx]), (4, .int .u8 0), (5, .bool false), (7, .pointer (some ⟨(Z.tp x), 0, none⟩)), (53, .int .u8 10), (66, .bool false)]) (φ := True) (rest := []) h47 (by kernel_rfl) rfl trivial fun a48 h49 => ?_
  clear h47
  refine nd_done ?_
  refine hK44 _ _ ?_
  clear hK44
  refine c_false h49 rfl ?_
  refine wp_seq_k fun K50 hK50 => ?_
  refine nd_start (l := [0, 1]) rfl ?_
  refine nd_batch tabOk2 tabZ_ok2 [(0, {}), (1, {})] [6, 3, 0, 1, 4, 5, 7, 53, 66, 129] (T' := [(6, .pointer (some ⟨b14, 0, none⟩)), (3, .pointer (some ⟨b2, 0, none⟩)), (0, .pointer (some ⟨mb, 0, none⟩)), (1, .agg #[.int .u8 10, .int .u32 ev.pick, .int .u64 ev.draw, .int .u32 ev.addr, .int .u32 ev.node, .int .u32 ev.dst, .int .u32 ev.xfer, .int .u8 2, .int .u64 ev.arg, .int .u64 ev.badge, .slice xo ev.ws.length cx]), (4, .int .u8 0), (5, .bool false), (7, .pointer (some ⟨(Z.tp x), 0, none⟩)), (53, .int .u8 10), (66, .bool false), (129, .bool false)]) (φ := True) (rest := []) h49 (by kernel_rfl) rfl trivial fun a51 h52 => ?_
  clear h49
  refine nd_done ?_
  refine hK50 _ _ ?_
  clear hK50
  refine c_false h52 rfl ?_
  refine wp_seq_k fun K53 hK53 => ?_
  refine nd_start (l := [0, 1]) rfl ?_
  refine nd_batch tabOk2 tabZ_ok2 [(0, {}), (1, {})] [6, 3, 0, 1, 4, 5, 7, 53, 66, 165] (T' := [(6, .pointer (some ⟨b14, 0, none⟩)), (3, .pointer (some ⟨b2, 0, none⟩)), (0, .pointer (some ⟨mb, 0, none⟩)), (1, .agg #[.int .u8 10, .int .u32 ev.pick, .int .u64 ev.draw, .int .u32 ev.addr, .int .u32 ev.node, .int .u32 ev.dst, .int .u32 ev.xfer, .int .u8 2, .int .u64 ev.arg, .int .u64 ev.badge, .slice xo ev.ws.length cx]), (4, .int .u8 0), (5, .bool false), (7, .pointer (some ⟨(Z.tp x), 0, none⟩)), (53, .int .u8 10), (66, .bool false), (165, .bool false)]) (φ := True) (rest := []) h52 (by kernel_rfl) rfl trivial fun a54 h55 => ?_
  clear h52
  refine nd_done ?_
  refine hK53 _ _ ?_
  clear hK53
  refine c_false h55 rfl ?_
  refine wp_seq_k fun K56 hK56 => ?_
  refine nd_start (l := [0, 1]) rfl ?_
  refine nd_batch tabOk2 tabZ_ok2 [(0, {}), (1, {})] [6, 3, 0, 1, 4, 5, 7, 53, 66, 226] (T' := [(6, .pointer (some ⟨b14, 0, none⟩)), (3, .pointer (some ⟨b2, 0, none⟩)), (0, .pointer (some ⟨mb, 0, none⟩)), (1, .agg #[.int .u8 10, .int .u32 ev.pick, .int .u64 ev.draw, .int .u32 ev.addr, .int .u32 ev.node, .int .u32 ev.dst, .int .u32 ev.xfer, .int .u8 2, .int .u64 ev.arg, .int .u64 ev.badge, .slice xo ev.ws.length cx]), (4, .int .u8 0), (5, .bool false), (7, .pointer (some ⟨(Z.tp x), 0, none⟩)), (53, .int .u8 10), (66, .bool false), (226, .bool false)]) (φ := True) (rest := []) h55 (by kernel_rfl) rfl trivial fun a57 h58 => ?_
  clear h55
  refine nd_done ?_
  refine hK56 _ _ ?_
  clear hK56
  refine c_false h58 rfl ?_
  refine wp_seq_k fun K59 hK59 => ?_
  refine nd_start (l := [0, 1]) rfl ?_
  refine nd_batch tabOk2 tabZ_ok2 [(0, {}), (1, {})] [6, 3, 0, 1, 4, 5, 7, 53, 66, 244] (T' := [(6, .pointer (some ⟨b14, 0, none⟩)), (3, .pointer (some ⟨b2, 0, none⟩)), (0, .pointer (some ⟨mb, 0, none⟩)), (1, .agg #[.int .u8 10, .int .u32 ev.pick, .int .u64 ev.draw, .int .u32 ev.addr, .int .u32 ev.node, .int .u32 ev.dst, .int .u32 ev.xfer, .int .u8 2, .int .u64 ev.arg, .int .u64 ev.badge, .slice xo ev.ws.length cx]), (4, .int .u8 0), (5, .bool false), (7, .pointer (some ⟨(Z.tp x), 0, none⟩)), (53, .int .u8 10), (66, .bool false), (244, .bool false)]) (φ := True) (rest := []) h58 (by kernel_rfl) rfl trivial fun a60 h61 => ?_
  clear h58
  refine nd_done ?_
  refine hK59 _ _ ?_
  clear hK59
  refine c_false h61 rfl ?_
  refine wp_seq_k fun K62 hK62 => ?_
  refine nd_start (l := [0, 1]) rfl ?_
  refine nd_batch tabOk2 tabZ_ok2 [(0, {}), (1, {})] [6, 3, 0, 1, 4, 5, 7, 53, 66, 285] (T' := [(6, .pointer (some ⟨b14, 0, none⟩)), (3, .pointer (some ⟨b2, 0, none⟩)), (0, .pointer (some ⟨mb, 0, none⟩)), (1, .agg #[.int .u8 10, .int .u32 ev.pick, .int .u64 ev.draw, .int .u32 ev.addr, .int .u32 ev.node, .int .u32 ev.dst, .int .u32 ev.xfer, .int .u8 2, .int .u64 ev.arg, .int .u64 ev.badge, .slice xo ev.ws.length cx]), (4, .int .u8 0), (5, .bool false), (7, .pointer (some ⟨(Z.tp x), 0, none⟩)), (53, .int .u8 10), (66, .bool false), (285, .bool true)]) (φ := True) (rest := []) h61 (by kernel_rfl) rfl trivial fun a63 h64 => ?_
  clear h61
  refine nd_done ?_
  refine hK62 _ _ ?_
  clear hK62
  refine c_true h64 rfl ?_
  refine wp_seq_k fun K65 hK65 => ?_
  refine wp_seq_k fun K66 hK66 => ?_
  refine nd_start (l := [0, 1, 2, 3, 4, 5, 6, 7, 8, 9]) rfl ?_
  refine nd_batch tabOk2 tabZ_ok2 [(0, {}), (1, {}), (2, {k := 1})] [6, 3, 0, 1, 4, 5, 7, 53, 66, 288, 290] (T' := [(6, .pointer (some ⟨b14, 0, none⟩)), (3, .pointer (some ⟨b2, 0, none⟩)), (0, .pointer (some ⟨mb, 0, none⟩)), (1, .agg #[.int .u8 10, .int .u32 ev.pick, .int .u64 ev.draw, .int .u32 ev.addr, .int .u32 ev.node, .int .u32 ev.dst, .int .u32 ev.xfer, .int .u8 2, .int .u64 ev.arg, .int .u64 ev.badge, .slice xo ev.ws.length cx]), (4, .int .u8 0), (5, .bool false), (7, .pointer (some ⟨(Z.tp x), 0, none⟩)), (53, .int .u8 10), (66, .bool false), (288, .pointer (some ⟨mb, 0, none⟩)), (290, .int .u32 ev.addr)]) (φ := (b2 = b2 ∧ Nat.ble (3 + 1) 11 = true) ∧ True) (rest := [3, 4, 5, 6, 7, 8, 9]) h64 (by kernel_rfl) rfl ⟨⟨rfl, rfl⟩, trivial⟩ fun a67 h68 => ?_
  clear h64
  refine nd_op ?_
  refine op_call h68 rfl rfl rfl (callOk Tryd.func90 (by decide) rfl) (args := [.pointer (some ⟨mb, 0, none⟩), .int .u32 ev.addr, .int .u8 1, .int .u8 2]) rfl (capOf_ok mb Z _ a C x hx hcx hci hcn hI.ci ev.addr 1 2 he.addr _ (mh_of h68 hho (k := 0) rfl) hf) ?_
  rintro _ w69 ⟨rfl, hg71⟩
  refine ⟨_, rfl, ?_⟩
  have h72a := st_mg h68 hg71 (kcons (fun _ => rfl) (kcons (fun hq => by cases hq) (kcons (fun hq => by cases hq) knil)))
  have h72 := h72a.put (d := some 291) (v := .tuple #[.agg #[.int .u8 c.ty, .int .u16 c.obj.idx, .int .u32 c.obj.gen, .int .u8 c.rights, .int .u64 c.badge], .int .u8 0]) (T' := [(291, .tuple #[.agg #[.int .u8 c.ty, .int .u16 c.obj.idx, .int .u32 c.obj.gen, .int .u8 c.rights, .int .u64 c.badge], .int .u8 0]), (6, .pointer (some ⟨b14, 0, none⟩)), (3, .pointer (some ⟨b2, 0, none⟩)), (0, .pointer (some ⟨mb, 0, none⟩)), (1, .agg #[.int .u8 10, .int .u32 ev.pick, .int .u64 ev.draw, .int .u32 ev.addr, .int .u32 ev.node, .int .u32 ev.dst, .int .u32 ev.xfer, .int .u8 2, .int .u64 ev.arg, .int .u64 ev.badge, .slice xo ev.ws.length cx]), (4, .int .u8 0), (5, .bool false), (7, .pointer (some ⟨(Z.tp x), 0, none⟩)), (53, .int .u8 10), (66, .bool false), (288, .pointer (some ⟨mb, 0, none⟩)), (290, .int .u32 ev.addr)]) rfl
  have hhoh72 := hg71.mh.ho
  clear h68 h72a
  refine nd_batch tabOk2 tabZ_ok2 [(4, {}), (5, {}), (6, {})] [6, 3, 0, 1, 4, 5, 7, 53, 66, 292, 293] (T' := [(6, .pointer (some ⟨b14, 0, none⟩)), (3, .pointer (some ⟨b2, 0, none⟩)), (0, .pointer (some ⟨mb, 0, none⟩)), (1, .agg #[.int .u8 10, .int .u32 ev.pick, .int .u64 ev.draw, .int .u32 ev.addr, .int .u32 ev.node, .int .u32 ev.dst, .int .u32 ev.xfer, .int .u8 2, .int .u64 ev.arg, .int .u64 ev.badge, .slice xo ev.ws.length cx]), (4, .int .u8 0), (5, .bool false), (7, .pointer (some ⟨(Z.tp x), 0, none⟩)), (53, .int .u8 10), (66, .bool false), (292, .agg #[.int .u8 c.ty, .int .u16 c.obj.idx, .int .u32 c.obj.gen, .int .u8 c.rights, .int .u64 c.badge]), (293, .int .u8 0)]) (φ := True) (rest := [7, 8, 9]) h72 (by kernel_rfl) rfl trivial fun a73 h74 => ?_
  clear h72
  refine nd_op ?_
  refine op_new tabOk2 (cells := [.int .u8 0, .int .u16 0, .int .u32 0, .int .u8 0, .int .u64 0]) (ty := 49) (ln := none) (L1 := fun b75 => [(3, ⟨[.int .u16 0, .int .u32 0], ty3, true⟩), (b2, ⟨[.int .u8 10, .int .u32 ev.pick, .int .u64 ev.draw, .int .u32 ev.addr, .int .u32 ev.node, .int .u32 ev.dst, .int .u32 ev.xfer, .int .u8 2, .int .u64 ev.arg, .int .u64 ev.badge, .slice xo ev.ws.length cx], 35, false⟩), (b14, ⟨[.int .u16 ((Z.ky x).idx), .int .u32 ((Z.ky x).gen)], 39, false⟩), (b75, ⟨[.int .u8 0, .int .u16 0, .int .u32 0, .int .u8 0, .int .u64 0], 49, false⟩)]) h74 rfl rfl rfl rfl (by kernel_rfl) (fun _ => rfl) fun b75 w76 a77 h78 hf79 hn80 => ?_
  clear h74
  refine nd_op ?_
  refine op_store tabOk2 {k := 3} (L' := [(3, ⟨[.int .u16 0, .int .u32 0], ty3, true⟩), (b2, ⟨[.int .u8 10, .int .u32 ev.pick, .int .u64 ev.draw, .int .u32 ev.addr, .int .u32 ev.node, .int .u32 ev.dst, .int .u32 ev.xfer, .int .u8 2, .int .u64 ev.arg, .int .u64 ev.badge, .slice xo ev.ws.length cx], 35, false⟩), (b14, ⟨[.int .u16 ((Z.ky x).idx), .int .u32 ((Z.ky x).gen)], 39, false⟩), (b75, ⟨[.int .u8 c.ty, .int .u16 c.obj.idx, .int .u32 c.obj.gen, .int .u8 c.rights, .int .u64 c.badge], 49, false⟩)]) (φ := b75 = b75 ∧ Nat.ble (0 + 5) 5 = true) h78 rfl rfl rfl (by kernel_rfl) ⟨rfl, rfl⟩ fun w81 h82 => ?_
  clear h78
  refine nd_batch tabOk2 tabZ_ok2 [(9, {})] [6, 3, 0, 1, 4, 5, 7, 53, 66, 21] (T' := [(6, .pointer (some ⟨b14, 0, none⟩)), (3, .pointer (some ⟨b2, 0, none⟩)), (0, .pointer (some ⟨mb, 0, none⟩)), (1, .agg #[.int .u8 10, .int .u32 ev.pick, .int .u64 ev.draw, .int .u32 ev.addr, .int .u32 ev.node, .int .u32 ev.dst, .int .u32 ev.xfer, .int .u8 2, .int .u64 ev.arg, .int .u64 ev.badge, .slice xo ev.ws.length cx]), (4, .int .u8 0), (5, .bool false), (7, .pointer (some ⟨(Z.tp x), 0, none⟩)), (53, .int .u8 10), (66, .bool false), (21, .int .u8 0)]) (φ := True) (rest := []) h82 (by kernel_rfl) rfl trivial fun a83 h84 => ?_
  clear h82
  refine nd_done ?_
  refine hK66 _ _ ?_
  clear hK66
  refine wp_seq_k fun K85 hK85 => ?_
  refine nd_start (l := [0, 1]) rfl ?_
  refine nd_batch tabOk2 tabZ_ok2 [(0, {}), (1, {})] [6, 3, 0, 1, 4, 5, 7, 53, 66, 21, 295] (T' := [(6, .pointer (some ⟨b14, 0, none⟩)), (3, .pointer (some ⟨b2, 0, none⟩)), (0, .pointer (some ⟨mb, 0, none⟩)), (1, .agg #[.int .u8 10, .int .u32 ev.pick, .int .u64 ev.draw, .int .u32 ev.addr, .int .u32 ev.node, .int .u32 ev.dst, .int .u32 ev.xfer, .int .u8 2, .int .u64 ev.arg, .int .u64 ev.badge, .slice xo ev.ws.length cx]), (4, .int .u8 0), (5, .bool false), (7, .pointer (some ⟨(Z.tp x), 0, none⟩)), (53, .int .u8 10), (66, .bool false), (21, .int .u8 0), (295, .bool false)]) (φ := True) (rest := []) h84 (by kernel_rfl) rfl trivial fun a86 h87 => ?_
  clear h84
  refine nd_done ?_
  refine hK85 _ _ ?_
  clear hK85
  refine c_false h87 rfl ?_
  refine wp_skip ?_
  refine hK65 _ _ ?_
  clear hK65
  refine wp_seq_k fun K88 hK88 => ?_
  refine nd_start (l := [0, 1, 2, 3, 4, 5, 6, 7, 8]) rfl ?_
  refine nd_batch tabOk2 tabZ_ok2 [(0, {}), (1, {}), (2, {k := 1})] [6, 3, 0, 1, 4, 5, 7, 53, 66, 21, 298, 300] (T' := [(6, .pointer (some ⟨b14, 0, none⟩)), (3, .pointer (some ⟨b2, 0, none⟩)), (0, .pointer (some ⟨mb, 0, none⟩)), (1, .agg #[.int .u8 10, .int .u32 ev.pick, .int .u64 ev.draw, .int .u32 ev.addr, .int .u32 ev.node, .int .u32 ev.dst, .int .u32 ev.xfer, .int .u8 2, .int .u64 ev.arg, .int .u64 ev.badge, .slice xo ev.ws.length cx]), (4, .int .u8 0), (5, .bool false), (7, .pointer (some ⟨(Z.tp x), 0, none⟩)), (53, .int .u8 10), (66, .bool false), (21, .int .u8 0), (298, .pointer (some ⟨mb, 0, none⟩)), (300, .int .u32 ev.addr)]) (φ := (b2 = b2 ∧ Nat.ble (3 + 1) 11 = true) ∧ True) (rest := [3, 4, 5, 6, 7, 8]) h87 (by kernel_rfl) rfl ⟨⟨rfl, rfl⟩, trivial⟩ fun a89 h90 => ?_
  clear h87
  refine nd_op ?_
  refine op_call h90 rfl rfl rfl (callOk Tryd.func93 (by decide) rfl) (args := [.pointer (some ⟨mb, 0, none⟩), .int .u32 ev.addr]) rfl (cellOf_ok mb Z _ a C x hx hcx hci ev.addr he.addr e1 _ (mh_of h90 hhoh72 (k := 0) rfl)) ?_
  rintro _ w91 ⟨rfl, hg93⟩
  refine ⟨_, rfl, ?_⟩
  have h94a := st_mg h90 hg93 (kcons (fun _ => rfl) (kcons (fun hq => by cases hq) (kcons (fun hq => by cases hq) (kcons (fun hq => by cases hq) knil))))
  have h94 := h94a.put (d := some 301) (v := .tuple #[.int .i64 s1, .int .u8 0]) (T' := [(301, .tuple #[.int .i64 s1, .int .u8 0]), (6, .pointer (some ⟨b14, 0, none⟩)), (3, .pointer (some ⟨b2, 0, none⟩)), (0, .pointer (some ⟨mb, 0, none⟩)), (1, .agg #[.int .u8 10, .int .u32 ev.pick, .int .u64 ev.draw, .int .u32 ev.addr, .int .u32 ev.node, .int .u32 ev.dst, .int .u32 ev.xfer, .int .u8 2, .int .u64 ev.arg, .int .u64 ev.badge, .slice xo ev.ws.length cx]), (4, .int .u8 0), (5, .bool false), (7, .pointer (some ⟨(Z.tp x), 0, none⟩)), (53, .int .u8 10), (66, .bool false), (21, .int .u8 0), (298, .pointer (some ⟨mb, 0, none⟩)), (300, .int .u32 ev.addr)]) rfl
  have hhoh94 := hg93.mh.ho
  clear h90 h94a
  refine nd_batch tabOk2 tabZ_ok2 [(4, {}), (5, {}), (6, {}), (7, {}), (8, {})] [6, 3, 0, 1, 4, 5, 7, 53, 66, 21, 22] (T' := [(6, .pointer (some ⟨b14, 0, none⟩)), (3, .pointer (some ⟨b2, 0, none⟩)), (0, .pointer (some ⟨mb, 0, none⟩)), (1, .agg #[.int .u8 10, .int .u32 ev.pick, .int .u64 ev.draw, .int .u32 ev.addr, .int .u32 ev.node, .int .u32 ev.dst, .int .u32 ev.xfer, .int .u8 2, .int .u64 ev.arg, .int .u64 ev.badge, .slice xo ev.ws.length cx]), (4, .int .u8 0), (5, .bool false), (7, .pointer (some ⟨(Z.tp x), 0, none⟩)), (53, .int .u8 10), (66, .bool false), (21, .int .u8 0), (22, .int .i64 s1)]) (φ := True) (rest := []) h94 (by kernel_rfl) rfl trivial fun a95 h96 => ?_
  clear h94
  refine nd_done ?_
  refine hK88 _ _ ?_
  clear hK88
  refine wp_seq_k fun K97 hK97 => ?_
  refine nd_start (l := [0, 1, 2, 3, 4, 5, 6, 7, 8]) rfl ?_
  refine nd_batch tabOk2 tabZ_ok2 [(0, {}), (1, {}), (2, {k := 1})] [6, 3, 0, 1, 4, 5, 7, 53, 66, 21, 22, 305, 307] (T' := [(6, .pointer (some ⟨b14, 0, none⟩)), (3, .pointer (some ⟨b2, 0, none⟩)), (0, .pointer (some ⟨mb, 0, none⟩)), (1, .agg #[.int .u8 10, .int .u32 ev.pick, .int .u64 ev.draw, .int .u32 ev.addr, .int .u32 ev.node, .int .u32 ev.dst, .int .u32 ev.xfer, .int .u8 2, .int .u64 ev.arg, .int .u64 ev.badge, .slice xo ev.ws.length cx]), (4, .int .u8 0), (5, .bool false), (7, .pointer (some ⟨(Z.tp x), 0, none⟩)), (53, .int .u8 10), (66, .bool false), (21, .int .u8 0), (22, .int .i64 s1), (305, .pointer (some ⟨mb, 0, none⟩)), (307, .int .u32 ev.dst)]) (φ := (b2 = b2 ∧ Nat.ble (5 + 1) 11 = true) ∧ True) (rest := [3, 4, 5, 6, 7, 8]) h96 (by kernel_rfl) rfl ⟨⟨rfl, rfl⟩, trivial⟩ fun a98 h99 => ?_
  clear h96
  refine nd_op ?_
  refine op_call h99 rfl rfl rfl (callOk Tryd.func93 (by decide) rfl) (args := [.pointer (some ⟨mb, 0, none⟩), .int .u32 ev.dst]) rfl (cellOf_ok mb Z _ a C x hx hcx hci ev.dst he.dst e2 _ (mh_of h99 hhoh94 (k := 0) rfl)) ?_
  rintro _ w100 ⟨rfl, hg102⟩
  refine ⟨_, rfl, ?_⟩
  have h103a := st_mg h99 hg102 (kcons (fun _ => rfl) (kcons (fun hq => by cases hq) (kcons (fun hq => by cases hq) (kcons (fun hq => by cases hq) knil))))
  have h103 := h103a.put (d := some 308) (v := .tuple #[.int .i64 s2, .int .u8 0]) (T' := [(308, .tuple #[.int .i64 s2, .int .u8 0]), (6, .pointer (some ⟨b14, 0, none⟩)), (3, .pointer (some ⟨b2, 0, none⟩)), (0, .pointer (some ⟨mb, 0, none⟩)), (1, .agg #[.int .u8 10, .int .u32 ev.pick, .int .u64 ev.draw, .int .u32 ev.addr, .int .u32 ev.node, .int .u32 ev.dst, .int .u32 ev.xfer, .int .u8 2, .int .u64 ev.arg, .int .u64 ev.badge, .slice xo ev.ws.length cx]), (4, .int .u8 0), (5, .bool false), (7, .pointer (some ⟨(Z.tp x), 0, none⟩)), (53, .int .u8 10), (66, .bool false), (21, .int .u8 0), (22, .int .i64 s1), (305, .pointer (some ⟨mb, 0, none⟩)), (307, .int .u32 ev.dst)]) rfl
  have hhoh103 := hg102.mh.ho
  clear h99 h103a
  refine nd_batch tabOk2 tabZ_ok2 [(4, {}), (5, {}), (6, {}), (7, {}), (8, {})] [6, 3, 0, 1, 4, 5, 7, 53, 66, 21, 22, 24, 25] (T' := [(6, .pointer (some ⟨b14, 0, none⟩)), (3, .pointer (some ⟨b2, 0, none⟩)), (0, .pointer (some ⟨mb, 0, none⟩)), (1, .agg #[.int .u8 10, .int .u32 ev.pick, .int .u64 ev.draw, .int .u32 ev.addr, .int .u32 ev.node, .int .u32 ev.dst, .int .u32 ev.xfer, .int .u8 2, .int .u64 ev.arg, .int .u64 ev.badge, .slice xo ev.ws.length cx]), (4, .int .u8 0), (5, .bool false), (7, .pointer (some ⟨(Z.tp x), 0, none⟩)), (53, .int .u8 10), (66, .bool false), (21, .int .u8 0), (22, .int .i64 s1), (24, .int .i64 s2), (25, .int .u8 0)]) (φ := True) (rest := []) h103 (by kernel_rfl) rfl trivial fun a104 h105 => ?_
  clear h103
  refine nd_done ?_
  refine hK97 _ _ ?_
  clear hK97
  refine wp_seq_k fun K106 hK106 => ?_
  refine wp_seq_k fun K107 hK107 => ?_
  refine nd_start (l := [0, 1]) rfl ?_
  refine nd_batch tabOk2 tabZ_ok2 [(0, {}), (1, {})] [6, 3, 0, 1, 4, 5, 7, 53, 66, 21, 22, 24, 25, 312] (T' := [(6, .pointer (some ⟨b14, 0, none⟩)), (3, .pointer (some ⟨b2, 0, none⟩)), (0, .pointer (some ⟨mb, 0, none⟩)), (1, .agg #[.int .u8 10, .int .u32 ev.pick, .int .u64 ev.draw, .int .u32 ev.addr, .int .u32 ev.node, .int .u32 ev.dst, .int .u32 ev.xfer, .int .u8 2, .int .u64 ev.arg, .int .u64 ev.badge, .slice xo ev.ws.length cx]), (4, .int .u8 0), (5, .bool false), (7, .pointer (some ⟨(Z.tp x), 0, none⟩)), (53, .int .u8 10), (66, .bool false), (21, .int .u8 0), (22, .int .i64 s1), (24, .int .i64 s2), (25, .int .u8 0), (312, .bool false)]) (φ := True) (rest := []) h105 (by kernel_rfl) rfl trivial fun a108 h109 => ?_
  clear h105
  refine nd_done ?_
  refine hK107 _ _ ?_
  clear hK107
  refine c_false h109 rfl ?_
  refine wp_skip ?_
  refine hK106 _ _ ?_
  clear hK106
  refine wp_seq_k fun K110 hK110 => ?_
  refine wp_seq_k fun K111 hK111 => ?_
  refine nd_start (l := [0, 1, 2, 3, 4, 5, 6, 7]) rfl ?_
  refine nd_batch tabOk2 tabZ_ok2 [(0, {}), (1, {}), (2, {})] [6, 3, 0, 1, 4, 5, 7, 53, 66, 21, 22, 24, 25, 316] (T' := [(6, .pointer (some ⟨b14, 0, none⟩)), (3, .pointer (some ⟨b2, 0, none⟩)), (0, .pointer (some ⟨mb, 0, none⟩)), (1, .agg #[.int .u8 10, .int .u32 ev.pick, .int .u64 ev.draw, .int .u32 ev.addr, .int .u32 ev.node, .int .u32 ev.dst, .int .u32 ev.xfer, .int .u8 2, .int .u64 ev.arg, .int .u64 ev.badge, .slice xo ev.ws.length cx]), (4, .int .u8 0), (5, .bool false), (7, .pointer (some ⟨(Z.tp x), 0, none⟩)), (53, .int .u8 10), (66, .bool false), (21, .int .u8 0), (22, .int .i64 s1), (24, .int .i64 s2), (25, .int .u8 0), (316, .pointer (some ⟨mb, 1, none⟩))]) (φ := True) (rest := [3, 4, 5, 6, 7]) h109 (by kernel_rfl) rfl trivial fun a112 h113 => ?_
  clear h109
  refine nd_op ?_
  refine op_read (b := mb) (v := .pointer (some ⟨Z.mc, 0, none⟩)) h113 rfl rfl (rd_m h113 (k := 1) (v := .pointer (some ⟨Z.mc, 0, none⟩)) rfl rfl rfl rfl (md_p ⟨rfl, trivial⟩)) ?_
  have h114 := h113.put (d := some 317) (v := .pointer (some ⟨Z.mc, 0, none⟩)) (T' := [(317, .pointer (some ⟨Z.mc, 0, none⟩)), (6, .pointer (some ⟨b14, 0, none⟩)), (3, .pointer (some ⟨b2, 0, none⟩)), (0, .pointer (some ⟨mb, 0, none⟩)), (1, .agg #[.int .u8 10, .int .u32 ev.pick, .int .u64 ev.draw, .int .u32 ev.addr, .int .u32 ev.node, .int .u32 ev.dst, .int .u32 ev.xfer, .int .u8 2, .int .u64 ev.arg, .int .u64 ev.badge, .slice xo ev.ws.length cx]), (4, .int .u8 0), (5, .bool false), (7, .pointer (some ⟨(Z.tp x), 0, none⟩)), (53, .int .u8 10), (66, .bool false), (21, .int .u8 0), (22, .int .i64 s1), (24, .int .i64 s2), (25, .int .u8 0), (316, .pointer (some ⟨mb, 1, none⟩))]) rfl
  clear h113
  refine nd_batch tabOk2 tabZ_ok2 [(4, {})] [317, 6, 3, 0, 1, 4, 5, 7, 53, 66, 21, 22, 24, 25, 318] (T' := [(317, .pointer (some ⟨Z.mc, 0, none⟩)), (6, .pointer (some ⟨b14, 0, none⟩)), (3, .pointer (some ⟨b2, 0, none⟩)), (0, .pointer (some ⟨mb, 0, none⟩)), (1, .agg #[.int .u8 10, .int .u32 ev.pick, .int .u64 ev.draw, .int .u32 ev.addr, .int .u32 ev.node, .int .u32 ev.dst, .int .u32 ev.xfer, .int .u8 2, .int .u64 ev.arg, .int .u64 ev.badge, .slice xo ev.ws.length cx]), (4, .int .u8 0), (5, .bool false), (7, .pointer (some ⟨(Z.tp x), 0, none⟩)), (53, .int .u8 10), (66, .bool false), (21, .int .u8 0), (22, .int .i64 s1), (24, .int .i64 s2), (25, .int .u8 0), (318, .int .i64 s2)]) (φ := True) (rest := [5, 6, 7]) h114 (by kernel_rfl) rfl trivial fun a115 h116 => ?_
  clear h114
  refine nd_op ?_
  obtain ⟨i2, j2, hi2, hj2, hp2, hs2⟩ := look_fact hI.ci hci.1 he.dst.1 e2 rfl
  refine op_call h116 rfl rfl rfl (callOk Tryd.func62 (by decide) rfl) (args := [.pointer (some ⟨Z.mc, 0, none⟩), .int .i64 s2]) rfl (atE Z.mo Z.mc Z.nd C hi2 hj2 hp2 hs2 _ h116.inv.1.cp) ?_
  rintro _ w117 ⟨rfl, hf119⟩
  refine ⟨_, rfl, ?_⟩
  have h118 := (h116.grow hf119).put (d := some 319) (v := .agg #[.int .u8 ((C.cel s2.toNat).cap.ty), .int .u16 ((C.cel s2.toNat).cap.obj.idx), .int .u32 ((C.cel s2.toNat).cap.obj.gen), .int .u8 ((C.cel s2.toNat).cap.rights), .int .u64 ((C.cel s2.toNat).cap.badge)]) (T' := [(319, .agg #[.int .u8 ((C.cel s2.toNat).cap.ty), .int .u16 ((C.cel s2.toNat).cap.obj.idx), .int .u32 ((C.cel s2.toNat).cap.obj.gen), .int .u8 ((C.cel s2.toNat).cap.rights), .int .u64 ((C.cel s2.toNat).cap.badge)]), (317, .pointer (some ⟨Z.mc, 0, none⟩)), (6, .pointer (some ⟨b14, 0, none⟩)), (3, .pointer (some ⟨b2, 0, none⟩)), (0, .pointer (some ⟨mb, 0, none⟩)), (1, .agg #[.int .u8 10, .int .u32 ev.pick, .int .u64 ev.draw, .int .u32 ev.addr, .int .u32 ev.node, .int .u32 ev.dst, .int .u32 ev.xfer, .int .u8 2, .int .u64 ev.arg, .int .u64 ev.badge, .slice xo ev.ws.length cx]), (4, .int .u8 0), (5, .bool false), (7, .pointer (some ⟨(Z.tp x), 0, none⟩)), (53, .int .u8 10), (66, .bool false), (21, .int .u8 0), (22, .int .i64 s1), (24, .int .i64 s2), (25, .int .u8 0), (318, .int .i64 s2)]) rfl
  clear h116
  refine nd_batch tabOk2 tabZ_ok2 [(6, {}), (7, {})] [6, 3, 0, 1, 4, 5, 7, 53, 66, 21, 22, 24, 25, 321] (T' := [(6, .pointer (some ⟨b14, 0, none⟩)), (3, .pointer (some ⟨b2, 0, none⟩)), (0, .pointer (some ⟨mb, 0, none⟩)), (1, .agg #[.int .u8 10, .int .u32 ev.pick, .int .u64 ev.draw, .int .u32 ev.addr, .int .u32 ev.node, .int .u32 ev.dst, .int .u32 ev.xfer, .int .u8 2, .int .u64 ev.arg, .int .u64 ev.badge, .slice xo ev.ws.length cx]), (4, .int .u8 0), (5, .bool false), (7, .pointer (some ⟨(Z.tp x), 0, none⟩)), (53, .int .u8 10), (66, .bool false), (21, .int .u8 0), (22, .int .i64 s1), (24, .int .i64 s2), (25, .int .u8 0), (321, .bool ((C.cel s2.toNat).cap.ty != 0))]) (φ := True) (rest := []) h118 (by kernel_rfl) rfl trivial fun a120 h121 => ?_
  clear h118
  refine nd_done ?_
  refine hK111 _ _ ?_
  clear hK111
  refine c_split h121 (b := ((C.cel s2.toNat).cap.ty != 0)) rfl (fun hc122 => ?_) (fun hc122 => ?_)
  ·
    have hc122f : (C.cel s2.toNat).cap.ty ≠ 0 := by simpa using hc122
    exact absurd (hz2) (by first | exact hc122f | (intro hz; exact hc122f hz) | omega | simp_all)
  ·
    have hc122f : (C.cel s2.toNat).cap.ty = 0 := by simpa using hc122
    refine wp_skip ?_
    refine hK110 _ _ ?_
    clear hK110
    refine wp_seq_k fun K123 hK123 => ?_
    refine wp_seq_k fun K124 hK124 => ?_
    refine nd_start (l := [0, 1, 2, 3, 4, 5, 6, 7, 8, 9, 10, 11, 12, 13, 14, 15, 16, 17]) rfl ?_
    refine nd_batch tabOk2 tabZ_ok2 [(0, {}), (1, {k := 1}), (2, {}), (3, {}), (4, {}), (5, {}), (6, {}), (7, {}), (8, {}), (9, {}), (10, {}), (11, {}), (12, {}), (13, {}), (14, {}), (15, {}), (16, {}), (17, {})] [6, 3, 0, 1, 4, 5, 7, 53, 66, 21, 22, 24, 25, 339] (T' := [(6, .pointer (some ⟨b14, 0, none⟩)), (3, .pointer (some ⟨b2, 0, none⟩)), (0, .pointer (some ⟨mb, 0, none⟩)), (1, .agg #[.int .u8 10, .int .u32 ev.pick, .int .u64 ev.draw, .int .u32 ev.addr, .int .u32 ev.node, .int .u32 ev.dst, .int .u32 ev.xfer, .int .u8 2, .int .u64 ev.arg, .int .u64 ev.badge, .slice xo ev.ws.length cx]), (4, .int .u8 0), (5, .bool false), (7, .pointer (some ⟨(Z.tp x), 0, none⟩)), (53, .int .u8 10), (66, .bool false), (21, .int .u8 0), (22, .int .i64 s1), (24, .int .i64 s2), (25, .int .u8 0), (339, .bool false)]) (φ := (b2 = b2 ∧ Nat.ble (7 + 1) 11 = true) ∧ True) (rest := []) h121 (by kernel_rfl) rfl ⟨⟨rfl, rfl⟩, trivial⟩ fun a125 h126 => ?_
    clear h121
    refine nd_done ?_
    refine hK124 _ _ ?_
    clear hK124
    refine c_false h126 rfl ?_
    refine wp_skip ?_
    refine hK123 _ _ ?_
    clear hK123
    refine wp_seq_k fun K127 hK127 => ?_
    refine dr_start (KB := [3, b2, b14, b75, mb]) (Bi := [[0, 1, 2, 3, 4], [0, 1, 2, 3, 4], [0, 1, 2, 3, 4], [0, 1, 2, 3, 4], [0, 1, 2, 3, 4], [0, 1, 2, 3, 4], [], [0, 1, 2, 3, 4], [0, 1, 2, 3, 4], [0, 1, 2, 3, 4], [1, 4], [], [0, 1, 2, 3, 4]]) mixed h126 fun w128 h129 => ?_
    clear h126
    refine dr_batch tabOk2 tabZ_ok2 (by repeat (first | with_reducible exact PF.body | with_reducible apply PF.inB | with_reducible apply PF.next)) [(0, {}), (1, {}), (2, {})] [6, 3, 0, 1, 4, 5, 7, 53, 66, 21, 22, 24, 25, 343] (T' := [(6, .pointer (some ⟨b14, 0, none⟩)), (3, .pointer (some ⟨b2, 0, none⟩)), (0, .pointer (some ⟨mb, 0, none⟩)), (1, .agg #[.int .u8 10, .int .u32 ev.pick, .int .u64 ev.draw, .int .u32 ev.addr, .int .u32 ev.node, .int .u32 ev.dst, .int .u32 ev.xfer, .int .u8 2, .int .u64 ev.arg, .int .u64 ev.badge, .slice xo ev.ws.length cx]), (4, .int .u8 0), (5, .bool false), (7, .pointer (some ⟨(Z.tp x), 0, none⟩)), (53, .int .u8 10), (66, .bool false), (21, .int .u8 0), (22, .int .i64 s1), (24, .int .i64 s2), (25, .int .u8 0), (343, .pointer (some ⟨mb, 0, none⟩))]) (φ := True) (fuel := 10) h129 (by kernel_rfl) rfl (by kernel_rfl) (by kernel_rfl) ⟨trivial, trivial, trivial, trivial⟩ trivial fun a131 h132 => ?_
    clear h129
    refine dr_read (i := 3) (b := mb) (p := 4) (v := .pointer (some ⟨Z.mo, 0, none⟩)) (fuel := 9) (by repeat (first | with_reducible exact PF.body | with_reducible apply PF.inB | with_reducible apply PF.next)) h132 rfl rfl rfl (by kernel_rfl) (by kernel_rfl) (by kernel_rfl) rfl (rd_m h132 (k := 0) (v := .pointer (some ⟨Z.mo, 0, none⟩)) rfl rfl rfl rfl (md_p ⟨rfl, trivial⟩)) ?_
    have h133 := h132.put (d := some 344) (v := .pointer (some ⟨Z.mo, 0, none⟩)) (T' := [(344, .pointer (some ⟨Z.mo, 0, none⟩)), (6, .pointer (some ⟨b14, 0, none⟩)), (3, .pointer (some ⟨b2, 0, none⟩)), (0, .pointer (some ⟨mb, 0, none⟩)), (1, .agg #[.int .u8 10, .int .u32 ev.pick, .int .u64 ev.draw, .int .u32 ev.addr, .int .u32 ev.node, .int .u32 ev.dst, .int .u32 ev.xfer, .int .u8 2, .int .u64 ev.arg, .int .u64 ev.badge, .slice xo ev.ws.length cx]), (4, .int .u8 0), (5, .bool false), (7, .pointer (some ⟨(Z.tp x), 0, none⟩)), (53, .int .u8 10), (66, .bool false), (21, .int .u8 0), (22, .int .i64 s1), (24, .int .i64 s2), (25, .int .u8 0), (343, .pointer (some ⟨mb, 0, none⟩))]) rfl
    clear h132
    refine dr_batch tabOk2 tabZ_ok2 (by repeat (first | with_reducible exact PF.body | with_reducible apply PF.inB | with_reducible apply PF.next)) [(4, {}), (5, {k := 1, p := 1})] [344, 6, 3, 0, 1, 4, 5, 7, 53, 66, 21, 22, 24, 25, 346] (T' := [(344, .pointer (some ⟨Z.mo, 0, none⟩)), (6, .pointer (some ⟨b14, 0, none⟩)), (3, .pointer (some ⟨b2, 0, none⟩)), (0, .pointer (some ⟨mb, 0, none⟩)), (1, .agg #[.int .u8 10, .int .u32 ev.pick, .int .u64 ev.draw, .int .u32 ev.addr, .int .u32 ev.node, .int .u32 ev.dst, .int .u32 ev.xfer, .int .u8 2, .int .u64 ev.arg, .int .u64 ev.badge, .slice xo ev.ws.length cx]), (4, .int .u8 0), (5, .bool false), (7, .pointer (some ⟨(Z.tp x), 0, none⟩)), (53, .int .u8 10), (66, .bool false), (21, .int .u8 0), (22, .int .i64 s1), (24, .int .i64 s2), (25, .int .u8 0), (346, .int .u8 2)]) (φ := (b2 = b2 ∧ Nat.ble (7 + 1) 11 = true) ∧ True) (fuel := 7) h133 (by kernel_rfl) rfl (by kernel_rfl) (by kernel_rfl) ⟨trivial, rfl, trivial⟩ ⟨⟨rfl, rfl⟩, trivial⟩ fun a134 h135 => ?_
    clear h133
    refine wpAnyK_two (i := 6) (j := 10) (fuel := 6) (by kernel_rfl) ?_ ?_
    ·
      refine op_call h135 rfl rfl rfl (callOk Tryd.func37 (by decide) rfl) (args := [.pointer (some ⟨Z.mo, 0, none⟩), .int .u8 2]) rfl (retypeC_ok Z.mo Z.mc Z.nd C 2 (by decide) _ h135.inv.1.cp er) ?_
      rintro _ w136 ⟨rfl, hc137, hf138⟩
      refine ⟨_, rfl, ?_⟩
      have h139a := st_cap h135 hc137 hf138 (fun b hb => .inl hb) (kcons (fun _ => rfl) (kcons (fun hq => by cases hq) (kcons (fun hq => by cases hq) (kcons (fun hq => by cases hq) knil))))
      have h139 := h139a.put (d := some 347) (v := .tuple #[.agg #[.int .u16 ((Z.ky o).idx), .int .u32 ((Z.ky o).gen)], .int .u8 0]) (T' := [(347, .tuple #[.agg #[.int .u16 ((Z.ky o).idx), .int .u32 ((Z.ky o).gen)], .int .u8 0]), (344, .pointer (some ⟨Z.mo, 0, none⟩)), (6, .pointer (some ⟨b14, 0, none⟩)), (3, .pointer (some ⟨b2, 0, none⟩)), (0, .pointer (some ⟨mb, 0, none⟩)), (1, .agg #[.int .u8 10, .int .u32 ev.pick, .int .u64 ev.draw, .int .u32 ev.addr, .int .u32 ev.node, .int .u32 ev.dst, .int .u32 ev.xfer, .int .u8 2, .int .u64 ev.arg, .int .u64 ev.badge, .slice xo ev.ws.length cx]), (4, .int .u8 0), (5, .bool false), (7, .pointer (some ⟨(Z.tp x), 0, none⟩)), (53, .int .u8 10), (66, .bool false), (21, .int .u8 0), (22, .int .i64 s1), (24, .int .i64 s2), (25, .int .u8 0), (346, .int .u8 2)]) rfl
      refine ⟨keepNil, ?_⟩
      clear h135 h139a
      refine dr_batch tabOk2 tabZ_ok2 (by repeat (first | with_reducible exact PF.body | with_reducible apply PF.inB | with_reducible apply PF.next)) [(7, {}), (8, {}), (9, {})] [6, 3, 0, 1, 4, 5, 7, 53, 66, 21, 22, 24, 25, 348, 349] (T' := [(6, .pointer (some ⟨b14, 0, none⟩)), (3, .pointer (some ⟨b2, 0, none⟩)), (0, .pointer (some ⟨mb, 0, none⟩)), (1, .agg #[.int .u8 10, .int .u32 ev.pick, .int .u64 ev.draw, .int .u32 ev.addr, .int .u32 ev.node, .int .u32 ev.dst, .int .u32 ev.xfer, .int .u8 2, .int .u64 ev.arg, .int .u64 ev.badge, .slice xo ev.ws.length cx]), (4, .int .u8 0), (5, .bool false), (7, .pointer (some ⟨(Z.tp x), 0, none⟩)), (53, .int .u8 10), (66, .bool false), (21, .int .u8 0), (22, .int .i64 s1), (24, .int .i64 s2), (25, .int .u8 0), (348, .agg #[.int .u16 ((Z.ky o).idx), .int .u32 ((Z.ky o).gen)]), (349, .int .u8 0)]) (φ := True) (fuel := 3) h139 (by kernel_rfl) rfl (by kernel_rfl) (by kernel_rfl) ⟨trivial, trivial, trivial, trivial⟩ trivial fun a140 h141 => ?_
      clear h139
      refine wpAnyK_one (i := 10) (fuel := 2) (by kernel_rfl) ?_
      refine op_new tabOk2 (cells := [.int .u16 0, .int .u32 0]) (ty := 39) (ln := none) (L1 := fun b142 => [(3, ⟨[.int .u16 0, .int .u32 0], ty3, true⟩), (b2, ⟨[.int .u8 10, .int .u32 ev.pick, .int .u64 ev.draw, .int .u32 ev.addr, .int .u32 ev.node, .int .u32 ev.dst, .int .u32 ev.xfer, .int .u8 2, .int .u64 ev.arg, .int .u64 ev.badge, .slice xo ev.ws.length cx], 35, false⟩), (b14, ⟨[.int .u16 ((Z.ky x).idx), .int .u32 ((Z.ky x).gen)], 39, false⟩), (b75, ⟨[.int .u8 c.ty, .int .u16 c.obj.idx, .int .u32 c.obj.gen, .int .u8 c.rights, .int .u64 c.badge], 49, false⟩), (b142, ⟨[.int .u16 0, .int .u32 0], 39, false⟩)]) h141 rfl rfl rfl rfl (by kernel_rfl) (fun _ => rfl) fun b142 w143 a144 h145 hf146 hn147 => ?_
      refine ⟨(keepCons (kpLf h141.known hf146 (q := 1) rfl) (keepCons (kpM h141.inv.1 (l := .m) trivial (List.mem_cons_self ..) hf146) keepNil)), ?_⟩
      clear h141
      refine wpAnyK_one (i := 11) (fuel := 1) (by kernel_rfl) ?_
      refine op_store tabOk2 {k := 4} (L' := [(3, ⟨[.int .u16 0, .int .u32 0], ty3, true⟩), (b2, ⟨[.int .u8 10, .int .u32 ev.pick, .int .u64 ev.draw, .int .u32 ev.addr, .int .u32 ev.node, .int .u32 ev.dst, .int .u32 ev.xfer, .int .u8 2, .int .u64 ev.arg, .int .u64 ev.badge, .slice xo ev.ws.length cx], 35, false⟩), (b14, ⟨[.int .u16 ((Z.ky x).idx), .int .u32 ((Z.ky x).gen)], 39, false⟩), (b75, ⟨[.int .u8 c.ty, .int .u16 c.obj.idx, .int .u32 c.obj.gen, .int .u8 c.rights, .int .u64 c.badge], 49, false⟩), (b142, ⟨[.int .u16 ((Z.ky o).idx), .int .u32 ((Z.ky o).gen)], 39, false⟩)]) (φ := b142 = b142 ∧ Nat.ble (0 + 2) 2 = true) h145 rfl rfl rfl (by kernel_rfl) ⟨rfl, rfl⟩ fun w148 h149 => ?_
      refine ⟨keepNil, ?_⟩
      clear h145
      refine dr_batch tabOk2 tabZ_ok2 (by repeat (first | with_reducible exact PF.body | with_reducible apply PF.inB | with_reducible apply PF.next)) [(12, {})] [26, 6, 3, 0, 1, 4, 5, 7, 53, 66, 21, 22, 24, 25] (T' := [(26, .pointer (some ⟨b142, 0, none⟩)), (6, .pointer (some ⟨b14, 0, none⟩)), (3, .pointer (some ⟨b2, 0, none⟩)), (0, .pointer (some ⟨mb, 0, none⟩)), (1, .agg #[.int .u8 10, .int .u32 ev.pick, .int .u64 ev.draw, .int .u32 ev.addr, .int .u32 ev.node, .int .u32 ev.dst, .int .u32 ev.xfer, .int .u8 2, .int .u64 ev.arg, .int .u64 ev.badge, .slice xo ev.ws.length cx]), (4, .int .u8 0), (5, .bool false), (7, .pointer (some ⟨(Z.tp x), 0, none⟩)), (53, .int .u8 10), (66, .bool false), (21, .int .u8 0), (22, .int .i64 s1), (24, .int .i64 s2), (25, .int .u8 0)]) (φ := True) (fuel := 0) h149 (by kernel_rfl) rfl (by kernel_rfl) (by kernel_rfl) ⟨trivial, trivial⟩ trivial fun a150 h151 => ?_
      clear h149
      refine wpAnyK_done (by kernel_rfl) ?_ _
      refine hK127 _ _ ?_
      clear hK127
      refine wp_seq_k fun K152 hK152 => ?_
      refine wp_seq_k fun K153 hK153 => ?_
      refine nd_start (l := [0, 1]) rfl ?_
      refine nd_batch tabOk2 tabZ_ok2 [(0, {}), (1, {})] [26, 6, 3, 0, 1, 4, 5, 7, 53, 66, 21, 22, 24, 25, 351] (T' := [(26, .pointer (some ⟨b142, 0, none⟩)), (6, .pointer (some ⟨b14, 0, none⟩)), (3, .pointer (some ⟨b2, 0, none⟩)), (0, .pointer (some ⟨mb, 0, none⟩)), (1, .agg #[.int .u8 10, .int .u32 ev.pick, .int .u64 ev.draw, .int .u32 ev.addr, .int .u32 ev.node, .int .u32 ev.dst, .int .u32 ev.xfer, .int .u8 2, .int .u64 ev.arg, .int .u64 ev.badge, .slice xo ev.ws.length cx]), (4, .int .u8 0), (5, .bool false), (7, .pointer (some ⟨(Z.tp x), 0, none⟩)), (53, .int .u8 10), (66, .bool false), (21, .int .u8 0), (22, .int .i64 s1), (24, .int .i64 s2), (25, .int .u8 0), (351, .bool false)]) (φ := True) (rest := []) h151 (by kernel_rfl) rfl trivial fun a154 h155 => ?_
      clear h151
      refine nd_done ?_
      refine hK153 _ _ ?_
      clear hK153
      refine c_false h155 rfl ?_
      refine wp_skip ?_
      refine hK152 _ _ ?_
      clear hK152
      refine wp_seq_k fun K156 hK156 => ?_
      refine wp_seq_k fun K157 hK157 => ?_
      refine nd_start (l := [0, 1]) rfl ?_
      refine nd_batch tabOk2 tabZ_ok2 [(0, {}), (1, {k := 1})] [26, 6, 3, 0, 1, 4, 5, 7, 53, 66, 21, 22, 24, 25, 354] (T' := [(26, .pointer (some ⟨b142, 0, none⟩)), (6, .pointer (some ⟨b14, 0, none⟩)), (3, .pointer (some ⟨b2, 0, none⟩)), (0, .pointer (some ⟨mb, 0, none⟩)), (1, .agg #[.int .u8 10, .int .u32 ev.pick, .int .u64 ev.draw, .int .u32 ev.addr, .int .u32 ev.node, .int .u32 ev.dst, .int .u32 ev.xfer, .int .u8 2, .int .u64 ev.arg, .int .u64 ev.badge, .slice xo ev.ws.length cx]), (4, .int .u8 0), (5, .bool false), (7, .pointer (some ⟨(Z.tp x), 0, none⟩)), (53, .int .u8 10), (66, .bool false), (21, .int .u8 0), (22, .int .i64 s1), (24, .int .i64 s2), (25, .int .u8 0), (354, .int .u8 2)]) (φ := (b2 = b2 ∧ Nat.ble (7 + 1) 11 = true) ∧ True) (rest := []) h155 (by kernel_rfl) rfl ⟨⟨rfl, rfl⟩, trivial⟩ fun a158 h159 => ?_
      clear h155
      refine nd_done ?_
      refine hK157 _ _ ?_
      clear hK157
      refine wp_block ?_
      refine wp_seq_k fun K160 hK160 => ?_
      refine nd_start (l := [0, 1]) rfl ?_
      refine nd_batch tabOk2 tabZ_ok2 [(0, {}), (1, {})] [26, 6, 3, 0, 1, 4, 5, 7, 53, 66, 21, 22, 24, 25, 354, 360] (T' := [(26, .pointer (some ⟨b142, 0, none⟩)), (6, .pointer (some ⟨b14, 0, none⟩)), (3, .pointer (some ⟨b2, 0, none⟩)), (0, .pointer (some ⟨mb, 0, none⟩)), (1, .agg #[.int .u8 10, .int .u32 ev.pick, .int .u64 ev.draw, .int .u32 ev.addr, .int .u32 ev.node, .int .u32 ev.dst, .int .u32 ev.xfer, .int .u8 2, .int .u64 ev.arg, .int .u64 ev.badge, .slice xo ev.ws.length cx]), (4, .int .u8 0), (5, .bool false), (7, .pointer (some ⟨(Z.tp x), 0, none⟩)), (53, .int .u8 10), (66, .bool false), (21, .int .u8 0), (22, .int .i64 s1), (24, .int .i64 s2), (25, .int .u8 0), (354, .int .u8 2), (360, .bool true)]) (φ := True) (rest := []) h159 (by kernel_rfl) rfl trivial fun a161 h162 => ?_
      clear h159
      refine nd_done ?_
      refine hK160 _ _ ?_
      clear hK160
      refine c_true h162 rfl ?_
      refine dr_start (KB := [3, b2, b14, b75, b142, mb]) (Bi := [[0, 1, 2, 3, 4, 5], [0, 1, 2, 3, 4, 5], [0, 1, 2, 3, 4, 5], [0, 1, 2, 3, 4, 5], [0, 1, 2, 3, 4, 5], []]) mixed h162 fun w163 h164 => ?_
      clear h162
      refine dr_batch tabOk2 tabZ_ok2 (by repeat (first | with_reducible exact PF.body | with_reducible apply PF.inB | with_reducible apply PF.next)) [(0, {}), (1, {}), (2, {})] [26, 6, 3, 0, 1, 4, 5, 7, 53, 66, 21, 22, 24, 25, 354, 364] (T' := [(26, .pointer (some ⟨b142, 0, none⟩)), (6, .pointer (some ⟨b14, 0, none⟩)), (3, .pointer (some ⟨b2, 0, none⟩)), (0, .pointer (some ⟨mb, 0, none⟩)), (1, .agg #[.int .u8 10, .int .u32 ev.pick, .int .u64 ev.draw, .int .u32 ev.addr, .int .u32 ev.node, .int .u32 ev.dst, .int .u32 ev.xfer, .int .u8 2, .int .u64 ev.arg, .int .u64 ev.badge, .slice xo ev.ws.length cx]), (4, .int .u8 0), (5, .bool false), (7, .pointer (some ⟨(Z.tp x), 0, none⟩)), (53, .int .u8 10), (66, .bool false), (21, .int .u8 0), (22, .int .i64 s1), (24, .int .i64 s2), (25, .int .u8 0), (354, .int .u8 2), (364, .pointer (some ⟨mb, 1, none⟩))]) (φ := True) (fuel := 3) h164 (by kernel_rfl) rfl (by kernel_rfl) (by kernel_rfl) ⟨trivial, trivial, trivial, trivial⟩ trivial fun a166 h167 => ?_
      clear h164
      refine dr_read (i := 3) (b := mb) (p := 5) (v := .pointer (some ⟨Z.mc, 0, none⟩)) (fuel := 2) (by repeat (first | with_reducible exact PF.body | with_reducible apply PF.inB | with_reducible apply PF.next)) h167 rfl rfl rfl (by kernel_rfl) (by kernel_rfl) (by kernel_rfl) rfl (rd_m h167 (k := 1) (v := .pointer (some ⟨Z.mc, 0, none⟩)) rfl rfl rfl rfl (md_p ⟨rfl, trivial⟩)) ?_
      have h168 := h167.put (d := some 365) (v := .pointer (some ⟨Z.mc, 0, none⟩)) (T' := [(365, .pointer (some ⟨Z.mc, 0, none⟩)), (26, .pointer (some ⟨b142, 0, none⟩)), (6, .pointer (some ⟨b14, 0, none⟩)), (3, .pointer (some ⟨b2, 0, none⟩)), (0, .pointer (some ⟨mb, 0, none⟩)), (1, .agg #[.int .u8 10, .int .u32 ev.pick, .int .u64 ev.draw, .int .u32 ev.addr, .int .u32 ev.node, .int .u32 ev.dst, .int .u32 ev.xfer, .int .u8 2, .int .u64 ev.arg, .int .u64 ev.badge, .slice xo ev.ws.length cx]), (4, .int .u8 0), (5, .bool false), (7, .pointer (some ⟨(Z.tp x), 0, none⟩)), (53, .int .u8 10), (66, .bool false), (21, .int .u8 0), (22, .int .i64 s1), (24, .int .i64 s2), (25, .int .u8 0), (354, .int .u8 2), (364, .pointer (some ⟨mb, 1, none⟩))]) rfl
      clear h167
      refine dr_batch tabOk2 tabZ_ok2 (by repeat (first | with_reducible exact PF.body | with_reducible apply PF.inB | with_reducible apply PF.next)) [(4, {k := 4, p := 4})] [365, 26, 6, 3, 0, 1, 4, 5, 7, 53, 66, 21, 22, 24, 25, 354, 366] (T' := [(365, .pointer (some ⟨Z.mc, 0, none⟩)), (26, .pointer (some ⟨b142, 0, none⟩)), (6, .pointer (some ⟨b14, 0, none⟩)), (3, .pointer (some ⟨b2, 0, none⟩)), (0, .pointer (some ⟨mb, 0, none⟩)), (1, .agg #[.int .u8 10, .int .u32 ev.pick, .int .u64 ev.draw, .int .u32 ev.addr, .int .u32 ev.node, .int .u32 ev.dst, .int .u32 ev.xfer, .int .u8 2, .int .u64 ev.arg, .int .u64 ev.badge, .slice xo ev.ws.length cx]), (4, .int .u8 0), (5, .bool false), (7, .pointer (some ⟨(Z.tp x), 0, none⟩)), (53, .int .u8 10), (66, .bool false), (21, .int .u8 0), (22, .int .i64 s1), (24, .int .i64 s2), (25, .int .u8 0), (354, .int .u8 2), (366, .agg #[.int .u16 ((Z.ky o).idx), .int .u32 ((Z.ky o).gen)])]) (φ := (b142 = b142 ∧ Nat.ble (0 + 2) 2 = true) ∧ True) (fuel := 1) h168 (by kernel_rfl) rfl (by kernel_rfl) (by kernel_rfl) ⟨rfl, trivial⟩ ⟨⟨rfl, rfl⟩, trivial⟩ fun a169 h170 => ?_
      clear h168
      refine wpAnyK_one (i := 5) (fuel := 0) (by kernel_rfl) ?_
      refine op_call h170 rfl rfl rfl (callOk Tryd.func38 (by decide) rfl) (args := [.pointer (some ⟨Z.mc, 0, none⟩), .agg #[.int .u16 ((Z.ky o).idx), .int .u32 ((Z.ky o).gen)]]) rfl (addNode_ok Z.mo Z.mc Z.nd _ (Z.ky o) hor _ h170.inv.1.cp) ?_
      rintro _ w171 ⟨rfl, nb172, hnb173, hc174, hf175⟩
      refine ⟨_, rfl, ?_⟩
      have h176a := st_capN h170 hc174 hf175 (node_sub hnb173) (kcons (fun _ => rfl) (kcons (fun hq => by cases hq) (kcons (fun hq => by cases hq) (kcons (fun hq => by cases hq) (kcons (fun hq => by cases hq) knil)))))
      have h176 := h176a.put (d := some 367) (v := .tuple #[]) (T' := [(367, .tuple #[]), (365, .pointer (some ⟨Z.mc, 0, none⟩)), (26, .pointer (some ⟨b142, 0, none⟩)), (6, .pointer (some ⟨b14, 0, none⟩)), (3, .pointer (some ⟨b2, 0, none⟩)), (0, .pointer (some ⟨mb, 0, none⟩)), (1, .agg #[.int .u8 10, .int .u32 ev.pick, .int .u64 ev.draw, .int .u32 ev.addr, .int .u32 ev.node, .int .u32 ev.dst, .int .u32 ev.xfer, .int .u8 2, .int .u64 ev.arg, .int .u64 ev.badge, .slice xo ev.ws.length cx]), (4, .int .u8 0), (5, .bool false), (7, .pointer (some ⟨(Z.tp x), 0, none⟩)), (53, .int .u8 10), (66, .bool false), (21, .int .u8 0), (22, .int .i64 s1), (24, .int .i64 s2), (25, .int .u8 0), (354, .int .u8 2), (366, .agg #[.int .u16 ((Z.ky o).idx), .int .u32 ((Z.ky o).gen)])]) rfl
      refine ⟨keepNil, ?_⟩
      clear h170 h176a
      refine wpAnyK_done (by kernel_rfl) ?_ _
      refine hK156 _ _ ?_
      clear hK156
      refine wp_seq_k fun K177 hK177 => ?_
      refine dr_start (KB := [3, b2, b14, b75, b142, mb]) (Bi := [[0, 1, 2, 3, 4, 5], [0, 1, 2, 3, 4, 5], [0, 1, 2, 3, 4, 5], [0, 1, 2, 3, 4, 5], [0, 1, 2, 3, 4, 5], [0, 1, 2, 3, 4, 5], [0, 1, 2, 3, 4, 5], [0, 1, 2, 3, 4, 5], [0, 1, 2, 3, 4, 5], [0, 1, 2, 3, 4, 5], []]) mixed h176 fun w178 h179 => ?_
      clear h176
      refine dr_batch tabOk2 tabZ_ok2 (by repeat (first | with_reducible exact PF.body | with_reducible apply PF.inB | with_reducible apply PF.next)) [(0, {}), (1, {}), (2, {})] [26, 6, 3, 0, 1, 4, 5, 7, 53, 66, 21, 22, 24, 25, 354, 379] (T' := [(26, .pointer (some ⟨b142, 0, none⟩)), (6, .pointer (some ⟨b14, 0, none⟩)), (3, .pointer (some ⟨b2, 0, none⟩)), (0, .pointer (some ⟨mb, 0, none⟩)), (1, .agg #[.int .u8 10, .int .u32 ev.pick, .int .u64 ev.draw, .int .u32 ev.addr, .int .u32 ev.node, .int .u32 ev.dst, .int .u32 ev.xfer, .int .u8 2, .int .u64 ev.arg, .int .u64 ev.badge, .slice xo ev.ws.length cx]), (4, .int .u8 0), (5, .bool false), (7, .pointer (some ⟨(Z.tp x), 0, none⟩)), (53, .int .u8 10), (66, .bool false), (21, .int .u8 0), (22, .int .i64 s1), (24, .int .i64 s2), (25, .int .u8 0), (354, .int .u8 2), (379, .pointer (some ⟨mb, 1, none⟩))]) (φ := True) (fuel := 8) h179 (by kernel_rfl) rfl (by kernel_rfl) (by kernel_rfl) ⟨trivial, trivial, trivial, trivial⟩ trivial fun a181 h182 => ?_
      clear h179
      refine dr_read (i := 3) (b := mb) (p := 5) (v := .pointer (some ⟨Z.mc, 0, none⟩)) (fuel := 7) (by repeat (first | with_reducible exact PF.body | with_reducible apply PF.inB | with_reducible apply PF.next)) h182 rfl rfl rfl (by kernel_rfl) (by kernel_rfl) (by kernel_rfl) rfl (rd_m h182 (k := 1) (v := .pointer (some ⟨Z.mc, 0, none⟩)) rfl rfl rfl rfl (md_p ⟨rfl, trivial⟩)) ?_
      have h183 := h182.put (d := some 380) (v := .pointer (some ⟨Z.mc, 0, none⟩)) (T' := [(380, .pointer (some ⟨Z.mc, 0, none⟩)), (26, .pointer (some ⟨b142, 0, none⟩)), (6, .pointer (some ⟨b14, 0, none⟩)), (3, .pointer (some ⟨b2, 0, none⟩)), (0, .pointer (some ⟨mb, 0, none⟩)), (1, .agg #[.int .u8 10, .int .u32 ev.pick, .int .u64 ev.draw, .int .u32 ev.addr, .int .u32 ev.node, .int .u32 ev.dst, .int .u32 ev.xfer, .int .u8 2, .int .u64 ev.arg, .int .u64 ev.badge, .slice xo ev.ws.length cx]), (4, .int .u8 0), (5, .bool false), (7, .pointer (some ⟨(Z.tp x), 0, none⟩)), (53, .int .u8 10), (66, .bool false), (21, .int .u8 0), (22, .int .i64 s1), (24, .int .i64 s2), (25, .int .u8 0), (354, .int .u8 2), (379, .pointer (some ⟨mb, 1, none⟩))]) rfl
      clear h182
      refine dr_batch tabOk2 tabZ_ok2 (by repeat (first | with_reducible exact PF.body | with_reducible apply PF.inB | with_reducible apply PF.next)) [(4, {}), (5, {}), (6, {k := 1, p := 1}), (7, {k := 4, p := 4}), (8, {}), (9, {})] [380, 26, 6, 3, 0, 1, 4, 5, 7, 53, 66, 21, 22, 24, 25, 354, 381, 385, 386] (T' := [(380, .pointer (some ⟨Z.mc, 0, none⟩)), (26, .pointer (some ⟨b142, 0, none⟩)), (6, .pointer (some ⟨b14, 0, none⟩)), (3, .pointer (some ⟨b2, 0, none⟩)), (0, .pointer (some ⟨mb, 0, none⟩)), (1, .agg #[.int .u8 10, .int .u32 ev.pick, .int .u64 ev.draw, .int .u32 ev.addr, .int .u32 ev.node, .int .u32 ev.dst, .int .u32 ev.xfer, .int .u8 2, .int .u64 ev.arg, .int .u64 ev.badge, .slice xo ev.ws.length cx]), (4, .int .u8 0), (5, .bool false), (7, .pointer (some ⟨(Z.tp x), 0, none⟩)), (53, .int .u8 10), (66, .bool false), (21, .int .u8 0), (22, .int .i64 s1), (24, .int .i64 s2), (25, .int .u8 0), (354, .int .u8 2), (381, .int .i64 s2), (385, .agg #[.int .u8 2, .int .u16 ((Z.ky o).idx), .int .u32 ((Z.ky o).gen), .int .u8 7, .int .u64 0]), (386, .int .i64 s1)]) (φ := (b2 = b2 ∧ Nat.ble (7 + 1) 11 = true) ∧ (b142 = b142 ∧ Nat.ble (0 + 2) 2 = true) ∧ True) (fuel := 1) h183 (by kernel_rfl) rfl (by kernel_rfl) (by kernel_rfl) ⟨trivial, trivial, rfl, rfl, trivial, trivial, trivial⟩ ⟨⟨rfl, rfl⟩, ⟨rfl, rfl⟩, trivial⟩ fun a184 h185 => ?_
      clear h183
      refine wpAnyK_one (i := 10) (fuel := 0) (by kernel_rfl) ?_
      refine op_call h185 rfl rfl rfl (callOk Tryd.func40 (by decide) rfl) (args := [.pointer (some ⟨Z.mc, 0, none⟩), .int .i64 s2, .agg #[.int .u8 2, .int .u16 ((Z.ky o).idx), .int .u32 ((Z.ky o).gen), .int .u8 7, .int .u64 0], .int .i64 s1]) rfl (insertE Z.mo Z.mc _ ((nodeP { C with ent := E1 } (Z.ky o).idx.toNat) : CP) hi2 hj2 (node_pres hp2) hs2 ⟨2, Z.ky o, 7, 0⟩ s1 _ h185.inv.1.cp) ?_
      rintro _ w186 ⟨rfl, hc187, hf188⟩
      refine ⟨_, rfl, ?_⟩
      have h189a := st_cap h185 hc187 hf188 (fun b hb => .inl hb) (kcons (fun _ => rfl) (kcons (fun hq => by cases hq) (kcons (fun hq => by cases hq) (kcons (fun hq => by cases hq) (kcons (fun hq => by cases hq) knil)))))
      have h189 := h189a.put (d := some 387) (v := .tuple #[]) (T' := [(387, .tuple #[]), (380, .pointer (some ⟨Z.mc, 0, none⟩)), (26, .pointer (some ⟨b142, 0, none⟩)), (6, .pointer (some ⟨b14, 0, none⟩)), (3, .pointer (some ⟨b2, 0, none⟩)), (0, .pointer (some ⟨mb, 0, none⟩)), (1, .agg #[.int .u8 10, .int .u32 ev.pick, .int .u64 ev.draw, .int .u32 ev.addr, .int .u32 ev.node, .int .u32 ev.dst, .int .u32 ev.xfer, .int .u8 2, .int .u64 ev.arg, .int .u64 ev.badge, .slice xo ev.ws.length cx]), (4, .int .u8 0), (5, .bool false), (7, .pointer (some ⟨(Z.tp x), 0, none⟩)), (53, .int .u8 10), (66, .bool false), (21, .int .u8 0), (22, .int .i64 s1), (24, .int .i64 s2), (25, .int .u8 0), (354, .int .u8 2), (381, .int .i64 s2), (385, .agg #[.int .u8 2, .int .u16 ((Z.ky o).idx), .int .u32 ((Z.ky o).gen), .int .u8 7, .int .u64 0]), (386, .int .i64 s1)]) rfl
      refine ⟨keepNil, ?_⟩
      clear h185 h189a
      refine wpAnyK_done (by kernel_rfl) ?_ _
      refine hK177 _ _ ?_
      clear hK177
      refine wp_seq_k fun K190 hK190 => ?_
      refine nd_start (l := [0, 1]) rfl ?_
      refine nd_batch tabOk2 tabZ_ok2 [(0, {}), (1, {})] [26, 6, 3, 0, 1, 7, 53, 66, 21, 22, 24, 25, 354, 4, 5] (T' := [(26, .pointer (some ⟨b142, 0, none⟩)), (6, .pointer (some ⟨b14, 0, none⟩)), (3, .pointer (some ⟨b2, 0, none⟩)), (0, .pointer (some ⟨mb, 0, none⟩)), (1, .agg #[.int .u8 10, .int .u32 ev.pick, .int .u64 ev.draw, .int .u32 ev.addr, .int .u32 ev.node, .int .u32 ev.dst, .int .u32 ev.xfer, .int .u8 2, .int .u64 ev.arg, .int .u64 ev.badge, .slice xo ev.ws.length cx]), (7, .pointer (some ⟨(Z.tp x), 0, none⟩)), (53, .int .u8 10), (66, .bool false), (21, .int .u8 0), (22, .int .i64 s1), (24, .int .i64 s2), (25, .int .u8 0), (354, .int .u8 2), (4, .int .u8 0), (5, .bool false)]) (φ := True) (rest := []) h189 (by kernel_rfl) rfl trivial fun a191 h192 => ?_
      clear h189
      refine nd_done ?_
      refine hK190 _ _ ?_
      clear hK190
      refine wp_ret ?_
      try simp only [Exit.then, Exit.inBlock]
      try rw [if_pos trivial]
      exact s_ret tabOk2 tabZ_ok2 h192 [(.tmp 4, {}), (.tmp 5, {})] (vs := [.int .u8 0, .bool false]) (φ := True) rfl (by kernel_rfl) trivial ⟨rfl, _, _, mg_end hH h192 hhoh103 rfl⟩
    ·
      refine op_new tabOk2 (cells := [.int .u16 0, .int .u32 0]) (ty := 39) (ln := none) (L1 := fun b193 => [(3, ⟨[.int .u16 0, .int .u32 0], ty3, true⟩), (b2, ⟨[.int .u8 10, .int .u32 ev.pick, .int .u64 ev.draw, .int .u32 ev.addr, .int .u32 ev.node, .int .u32 ev.dst, .int .u32 ev.xfer, .int .u8 2, .int .u64 ev.arg, .int .u64 ev.badge, .slice xo ev.ws.length cx], 35, false⟩), (b14, ⟨[.int .u16 ((Z.ky x).idx), .int .u32 ((Z.ky x).gen)], 39, false⟩), (b75, ⟨[.int .u8 c.ty, .int .u16 c.obj.idx, .int .u32 c.obj.gen, .int .u8 c.rights, .int .u64 c.badge], 49, false⟩), (b193, ⟨[.int .u16 0, .int .u32 0], 39, false⟩)]) h135 rfl rfl rfl rfl (by kernel_rfl) (fun _ => rfl) fun b193 w194 a195 h196 hf197 hn198 => ?_
      refine ⟨(keepCons (kpLf h135.known hf197 (q := 1) rfl) (keepCons (kpM h135.inv.1 (l := .m) trivial (List.mem_cons_self ..) hf197) keepNil)), ?_⟩
      clear h135
      refine wpAnyK_one (i := 6) (fuel := 5) (by kernel_rfl) ?_
      refine op_call h196 rfl rfl rfl (callOk Tryd.func37 (by decide) rfl) (args := [.pointer (some ⟨Z.mo, 0, none⟩), .int .u8 2]) rfl (retypeC_ok Z.mo Z.mc Z.nd C 2 (by decide) _ h196.inv.1.cp er) ?_
      rintro _ w199 ⟨rfl, hc200, hf201⟩
      refine ⟨_, rfl, ?_⟩
      have h202a := st_cap h196 hc200 hf201 (fun b hb => .inl hb) (kcons (fun _ => rfl) (kcons (fun hq => by cases hq) (kcons (fun hq => by cases hq) (kcons (fun hq => by cases hq) (kcons (fun hq => by cases hq) knil)))))
      have h202 := h202a.put (d := some 347) (v := .tuple #[.agg #[.int .u16 ((Z.ky o).idx), .int .u32 ((Z.ky o).gen)], .int .u8 0]) (T' := [(347, .tuple #[.agg #[.int .u16 ((Z.ky o).idx), .int .u32 ((Z.ky o).gen)], .int .u8 0]), (26, .pointer (some ⟨b193, 0, none⟩)), (344, .pointer (some ⟨Z.mo, 0, none⟩)), (6, .pointer (some ⟨b14, 0, none⟩)), (3, .pointer (some ⟨b2, 0, none⟩)), (0, .pointer (some ⟨mb, 0, none⟩)), (1, .agg #[.int .u8 10, .int .u32 ev.pick, .int .u64 ev.draw, .int .u32 ev.addr, .int .u32 ev.node, .int .u32 ev.dst, .int .u32 ev.xfer, .int .u8 2, .int .u64 ev.arg, .int .u64 ev.badge, .slice xo ev.ws.length cx]), (4, .int .u8 0), (5, .bool false), (7, .pointer (some ⟨(Z.tp x), 0, none⟩)), (53, .int .u8 10), (66, .bool false), (21, .int .u8 0), (22, .int .i64 s1), (24, .int .i64 s2), (25, .int .u8 0), (346, .int .u8 2)]) rfl
      refine ⟨keepNil, ?_⟩
      clear h196 h202a
      refine dr_batch tabOk2 tabZ_ok2 (by repeat (first | with_reducible exact PF.body | with_reducible apply PF.inB | with_reducible apply PF.next)) [(7, {}), (8, {}), (9, {})] [26, 6, 3, 0, 1, 4, 5, 7, 53, 66, 21, 22, 24, 25, 348, 349] (T' := [(26, .pointer (some ⟨b193, 0, none⟩)), (6, .pointer (some ⟨b14, 0, none⟩)), (3, .pointer (some ⟨b2, 0, none⟩)), (0, .pointer (some ⟨mb, 0, none⟩)), (1, .agg #[.int .u8 10, .int .u32 ev.pick, .int .u64 ev.draw, .int .u32 ev.addr, .int .u32 ev.node, .int .u32 ev.dst, .int .u32 ev.xfer, .int .u8 2, .int .u64 ev.arg, .int .u64 ev.badge, .slice xo ev.ws.length cx]), (4, .int .u8 0), (5, .bool false), (7, .pointer (some ⟨(Z.tp x), 0, none⟩)), (53, .int .u8 10), (66, .bool false), (21, .int .u8 0), (22, .int .i64 s1), (24, .int .i64 s2), (25, .int .u8 0), (348, .agg #[.int .u16 ((Z.ky o).idx), .int .u32 ((Z.ky o).gen)]), (349, .int .u8 0)]) (φ := True) (fuel := 2) h202 (by kernel_rfl) rfl (by kernel_rfl) (by kernel_rfl) ⟨trivial, trivial, trivial, trivial⟩ trivial fun a203 h204 => ?_
      clear h202
      refine wpAnyK_one (i := 11) (fuel := 1) (by kernel_rfl) ?_
      refine op_store tabOk2 {k := 4} (L' := [(3, ⟨[.int .u16 0, .int .u32 0], ty3, true⟩), (b2, ⟨[.int .u8 10, .int .u32 ev.pick, .int .u64 ev.draw, .int .u32 ev.addr, .int .u32 ev.node, .int .u32 ev.dst, .int .u32 ev.xfer, .int .u8 2, .int .u64 ev.arg, .int .u64 ev.badge, .slice xo ev.ws.length cx], 35, false⟩), (b14, ⟨[.int .u16 ((Z.ky x).idx), .int .u32 ((Z.ky x).gen)], 39, false⟩), (b75, ⟨[.int .u8 c.ty, .int .u16 c.obj.idx, .int .u32 c.obj.gen, .int .u8 c.rights, .int .u64 c.badge], 49, false⟩), (b193, ⟨[.int .u16 ((Z.ky o).idx), .int .u32 ((Z.ky o).gen)], 39, false⟩)]) (φ := b193 = b193 ∧ Nat.ble (0 + 2) 2 = true) h204 rfl rfl rfl (by kernel_rfl) ⟨rfl, rfl⟩ fun w205 h206 => ?_
      refine ⟨keepNil, ?_⟩
      clear h204
      refine dr_batch tabOk2 tabZ_ok2 (by repeat (first | with_reducible exact PF.body | with_reducible apply PF.inB | with_reducible apply PF.next)) [(12, {})] [26, 6, 3, 0, 1, 4, 5, 7, 53, 66, 21, 22, 24, 25] (T' := [(26, .pointer (some ⟨b193, 0, none⟩)), (6, .pointer (some ⟨b14, 0, none⟩)), (3, .pointer (some ⟨b2, 0, none⟩)), (0, .pointer (some ⟨mb, 0, none⟩)), (1, .agg #[.int .u8 10, .int .u32 ev.pick, .int .u64 ev.draw, .int .u32 ev.addr, .int .u32 ev.node, .int .u32 ev.dst, .int .u32 ev.xfer, .int .u8 2, .int .u64 ev.arg, .int .u64 ev.badge, .slice xo ev.ws.length cx]), (4, .int .u8 0), (5, .bool false), (7, .pointer (some ⟨(Z.tp x), 0, none⟩)), (53, .int .u8 10), (66, .bool false), (21, .int .u8 0), (22, .int .i64 s1), (24, .int .i64 s2), (25, .int .u8 0)]) (φ := True) (fuel := 0) h206 (by kernel_rfl) rfl (by kernel_rfl) (by kernel_rfl) ⟨trivial, trivial⟩ trivial fun a207 h208 => ?_
      clear h206
      refine wpAnyK_done (by kernel_rfl) ?_ _
      refine hK127 _ _ ?_
      clear hK127
      refine wp_seq_k fun K209 hK209 => ?_
      refine wp_seq_k fun K210 hK210 => ?_
      refine nd_start (l := [0, 1]) rfl ?_
      refine nd_batch tabOk2 tabZ_ok2 [(0, {}), (1, {})] [26, 6, 3, 0, 1, 4, 5, 7, 53, 66, 21, 22, 24, 25, 351] (T' := [(26, .pointer (some ⟨b193, 0, none⟩)), (6, .pointer (some ⟨b14, 0, none⟩)), (3, .pointer (some ⟨b2, 0, none⟩)), (0, .pointer (some ⟨mb, 0, none⟩)), (1, .agg #[.int .u8 10, .int .u32 ev.pick, .int .u64 ev.draw, .int .u32 ev.addr, .int .u32 ev.node, .int .u32 ev.dst, .int .u32 ev.xfer, .int .u8 2, .int .u64 ev.arg, .int .u64 ev.badge, .slice xo ev.ws.length cx]), (4, .int .u8 0), (5, .bool false), (7, .pointer (some ⟨(Z.tp x), 0, none⟩)), (53, .int .u8 10), (66, .bool false), (21, .int .u8 0), (22, .int .i64 s1), (24, .int .i64 s2), (25, .int .u8 0), (351, .bool false)]) (φ := True) (rest := []) h208 (by kernel_rfl) rfl trivial fun a211 h212 => ?_
      clear h208
      refine nd_done ?_
      refine hK210 _ _ ?_
      clear hK210
      refine c_false h212 rfl ?_
      refine wp_skip ?_
      refine hK209 _ _ ?_
      clear hK209
      refine wp_seq_k fun K213 hK213 => ?_
      refine wp_seq_k fun K214 hK214 => ?_
      refine nd_start (l := [0, 1]) rfl ?_
      refine nd_batch tabOk2 tabZ_ok2 [(0, {}), (1, {k := 1})] [26, 6, 3, 0, 1, 4, 5, 7, 53, 66, 21, 22, 24, 25, 354] (T' := [(26, .pointer (some ⟨b193, 0, none⟩)), (6, .pointer (some ⟨b14, 0, none⟩)), (3, .pointer (some ⟨b2, 0, none⟩)), (0, .pointer (some ⟨mb, 0, none⟩)), (1, .agg #[.int .u8 10, .int .u32 ev.pick, .int .u64 ev.draw, .int .u32 ev.addr, .int .u32 ev.node, .int .u32 ev.dst, .int .u32 ev.xfer, .int .u8 2, .int .u64 ev.arg, .int .u64 ev.badge, .slice xo ev.ws.length cx]), (4, .int .u8 0), (5, .bool false), (7, .pointer (some ⟨(Z.tp x), 0, none⟩)), (53, .int .u8 10), (66, .bool false), (21, .int .u8 0), (22, .int .i64 s1), (24, .int .i64 s2), (25, .int .u8 0), (354, .int .u8 2)]) (φ := (b2 = b2 ∧ Nat.ble (7 + 1) 11 = true) ∧ True) (rest := []) h212 (by kernel_rfl) rfl ⟨⟨rfl, rfl⟩, trivial⟩ fun a215 h216 => ?_
      clear h212
      refine nd_done ?_
      refine hK214 _ _ ?_
      clear hK214
      refine wp_block ?_
      refine wp_seq_k fun K217 hK217 => ?_
      refine nd_start (l := [0, 1]) rfl ?_
      refine nd_batch tabOk2 tabZ_ok2 [(0, {}), (1, {})] [26, 6, 3, 0, 1, 4, 5, 7, 53, 66, 21, 22, 24, 25, 354, 360] (T' := [(26, .pointer (some ⟨b193, 0, none⟩)), (6, .pointer (some ⟨b14, 0, none⟩)), (3, .pointer (some ⟨b2, 0, none⟩)), (0, .pointer (some ⟨mb, 0, none⟩)), (1, .agg #[.int .u8 10, .int .u32 ev.pick, .int .u64 ev.draw, .int .u32 ev.addr, .int .u32 ev.node, .int .u32 ev.dst, .int .u32 ev.xfer, .int .u8 2, .int .u64 ev.arg, .int .u64 ev.badge, .slice xo ev.ws.length cx]), (4, .int .u8 0), (5, .bool false), (7, .pointer (some ⟨(Z.tp x), 0, none⟩)), (53, .int .u8 10), (66, .bool false), (21, .int .u8 0), (22, .int .i64 s1), (24, .int .i64 s2), (25, .int .u8 0), (354, .int .u8 2), (360, .bool true)]) (φ := True) (rest := []) h216 (by kernel_rfl) rfl trivial fun a218 h219 => ?_
      clear h216
      refine nd_done ?_
      refine hK217 _ _ ?_
      clear hK217
      refine c_true h219 rfl ?_
      refine dr_start (KB := [3, b2, b14, b75, b193, mb]) (Bi := [[0, 1, 2, 3, 4, 5], [0, 1, 2, 3, 4, 5], [0, 1, 2, 3, 4, 5], [0, 1, 2, 3, 4, 5], [0, 1, 2, 3, 4, 5], []]) mixed h219 fun w220 h221 => ?_
      clear h219
      refine dr_batch tabOk2 tabZ_ok2 (by repeat (first | with_reducible exact PF.body | with_reducible apply PF.inB | with_reducible apply PF.next)) [(0, {}), (1, {}), (2, {})] [26, 6, 3, 0, 1, 4, 5, 7, 53, 66, 21, 22, 24, 25, 354, 364] (T' := [(26, .pointer (some ⟨b193, 0, none⟩)), (6, .pointer (some ⟨b14, 0, none⟩)), (3, .pointer (some ⟨b2, 0, none⟩)), (0, .pointer (some ⟨mb, 0, none⟩)), (1, .agg #[.int .u8 10, .int .u32 ev.pick, .int .u64 ev.draw, .int .u32 ev.addr, .int .u32 ev.node, .int .u32 ev.dst, .int .u32 ev.xfer, .int .u8 2, .int .u64 ev.arg, .int .u64 ev.badge, .slice xo ev.ws.length cx]), (4, .int .u8 0), (5, .bool false), (7, .pointer (some ⟨(Z.tp x), 0, none⟩)), (53, .int .u8 10), (66, .bool false), (21, .int .u8 0), (22, .int .i64 s1), (24, .int .i64 s2), (25, .int .u8 0), (354, .int .u8 2), (364, .pointer (some ⟨mb, 1, none⟩))]) (φ := True) (fuel := 3) h221 (by kernel_rfl) rfl (by kernel_rfl) (by kernel_rfl) ⟨trivial, trivial, trivial, trivial⟩ trivial fun a223 h224 => ?_
      clear h221
      refine dr_read (i := 3) (b := mb) (p := 5) (v := .pointer (some ⟨Z.mc, 0, none⟩)) (fuel := 2) (by repeat (first | with_reducible exact PF.body | with_reducible apply PF.inB | with_reducible apply PF.next)) h224 rfl rfl rfl (by kernel_rfl) (by kernel_rfl) (by kernel_rfl) rfl (rd_m h224 (k := 1) (v := .pointer (some ⟨Z.mc, 0, none⟩)) rfl rfl rfl rfl (md_p ⟨rfl, trivial⟩)) ?_
      have h225 := h224.put (d := some 365) (v := .pointer (some ⟨Z.mc, 0, none⟩)) (T' := [(365, .pointer (some ⟨Z.mc, 0, none⟩)), (26, .pointer (some ⟨b193, 0, none⟩)), (6, .pointer (some ⟨b14, 0, none⟩)), (3, .pointer (some ⟨b2, 0, none⟩)), (0, .pointer (some ⟨mb, 0, none⟩)), (1, .agg #[.int .u8 10, .int .u32 ev.pick, .int .u64 ev.draw, .int .u32 ev.addr, .int .u32 ev.node, .int .u32 ev.dst, .int .u32 ev.xfer, .int .u8 2, .int .u64 ev.arg, .int .u64 ev.badge, .slice xo ev.ws.length cx]), (4, .int .u8 0), (5, .bool false), (7, .pointer (some ⟨(Z.tp x), 0, none⟩)), (53, .int .u8 10), (66, .bool false), (21, .int .u8 0), (22, .int .i64 s1), (24, .int .i64 s2), (25, .int .u8 0), (354, .int .u8 2), (364, .pointer (some ⟨mb, 1, none⟩))]) rfl
      clear h224
      refine dr_batch tabOk2 tabZ_ok2 (by repeat (first | with_reducible exact PF.body | with_reducible apply PF.inB | with_reducible apply PF.next)) [(4, {k := 4, p := 4})] [365, 26, 6, 3, 0, 1, 4, 5, 7, 53, 66, 21, 22, 24, 25, 354, 366] (T' := [(365, .pointer (some ⟨Z.mc, 0, none⟩)), (26, .pointer (some ⟨b193, 0, none⟩)), (6, .pointer (some ⟨b14, 0, none⟩)), (3, .pointer (some ⟨b2, 0, none⟩)), (0, .pointer (some ⟨mb, 0, none⟩)), (1, .agg #[.int .u8 10, .int .u32 ev.pick, .int .u64 ev.draw, .int .u32 ev.addr, .int .u32 ev.node, .int .u32 ev.dst, .int .u32 ev.xfer, .int .u8 2, .int .u64 ev.arg, .int .u64 ev.badge, .slice xo ev.ws.length cx]), (4, .int .u8 0), (5, .bool false), (7, .pointer (some ⟨(Z.tp x), 0, none⟩)), (53, .int .u8 10), (66, .bool false), (21, .int .u8 0), (22, .int .i64 s1), (24, .int .i64 s2), (25, .int .u8 0), (354, .int .u8 2), (366, .agg #[.int .u16 ((Z.ky o).idx), .int .u32 ((Z.ky o).gen)])]) (φ := (b193 = b193 ∧ Nat.ble (0 + 2) 2 = true) ∧ True) (fuel := 1) h225 (by kernel_rfl) rfl (by kernel_rfl) (by kernel_rfl) ⟨rfl, trivial⟩ ⟨⟨rfl, rfl⟩, trivial⟩ fun a226 h227 => ?_
      clear h225
      refine wpAnyK_one (i := 5) (fuel := 0) (by kernel_rfl) ?_
      refine op_call h227 rfl rfl rfl (callOk Tryd.func38 (by decide) rfl) (args := [.pointer (some ⟨Z.mc, 0, none⟩), .agg #[.int .u16 ((Z.ky o).idx), .int .u32 ((Z.ky o).gen)]]) rfl (addNode_ok Z.mo Z.mc Z.nd _ (Z.ky o) hor _ h227.inv.1.cp) ?_
      rintro _ w228 ⟨rfl, nb229, hnb230, hc231, hf232⟩
      refine ⟨_, rfl, ?_⟩
      have h233a := st_capN h227 hc231 hf232 (node_sub hnb230) (kcons (fun _ => rfl) (kcons (fun hq => by cases hq) (kcons (fun hq => by cases hq) (kcons (fun hq => by cases hq) (kcons (fun hq => by cases hq) knil)))))
      have h233 := h233a.put (d := some 367) (v := .tuple #[]) (T' := [(367, .tuple #[]), (365, .pointer (some ⟨Z.mc, 0, none⟩)), (26, .pointer (some ⟨b193, 0, none⟩)), (6, .pointer (some ⟨b14, 0, none⟩)), (3, .pointer (some ⟨b2, 0, none⟩)), (0, .pointer (some ⟨mb, 0, none⟩)), (1, .agg #[.int .u8 10, .int .u32 ev.pick, .int .u64 ev.draw, .int .u32 ev.addr, .int .u32 ev.node, .int .u32 ev.dst, .int .u32 ev.xfer, .int .u8 2, .int .u64 ev.arg, .int .u64 ev.badge, .slice xo ev.ws.length cx]), (4, .int .u8 0), (5, .bool false), (7, .pointer (some ⟨(Z.tp x), 0, none⟩)), (53, .int .u8 10), (66, .bool false), (21, .int .u8 0), (22, .int .i64 s1), (24, .int .i64 s2), (25, .int .u8 0), (354, .int .u8 2), (366, .agg #[.int .u16 ((Z.ky o).idx), .int .u32 ((Z.ky o).gen)])]) rfl
      refine ⟨keepNil, ?_⟩
      clear h227 h233a
      refine wpAnyK_done (by kernel_rfl) ?_ _
      refine hK213 _ _ ?_
      clear hK213
      refine wp_seq_k fun K234 hK234 => ?_
      refine dr_start (KB := [3, b2, b14, b75, b193, mb]) (Bi := [[0, 1, 2, 3, 4, 5], [0, 1, 2, 3, 4, 5], [0, 1, 2, 3, 4, 5], [0, 1, 2, 3, 4, 5], [0, 1, 2, 3, 4, 5], [0, 1, 2, 3, 4, 5], [0, 1, 2, 3, 4, 5], [0, 1, 2, 3, 4, 5], [0, 1, 2, 3, 4, 5], [0, 1, 2, 3, 4, 5], []]) mixed h233 fun w235 h236 => ?_
      clear h233
      refine dr_batch tabOk2 tabZ_ok2 (by repeat (first | with_reducible exact PF.body | with_reducible apply PF.inB | with_reducible apply PF.next)) [(0, {}), (1, {}), (2, {})] [26, 6, 3, 0, 1, 4, 5, 7, 53, 66, 21, 22, 24, 25, 354, 379] (T' := [(26, .pointer (some ⟨b193, 0, none⟩)), (6, .pointer (some ⟨b14, 0, none⟩)), (3, .pointer (some ⟨b2, 0, none⟩)), (0, .pointer (some ⟨mb, 0, none⟩)), (1, .agg #[.int .u8 10, .int .u32 ev.pick, .int .u64 ev.draw, .int .u32 ev.addr, .int .u32 ev.node, .int .u32 ev.dst, .int .u32 ev.xfer, .int .u8 2, .int .u64 ev.arg, .int .u64 ev.badge, .slice xo ev.ws.length cx]), (4, .int .u8 0), (5, .bool false), (7, .pointer (some ⟨(Z.tp x), 0, none⟩)), (53, .int .u8 10), (66, .bool false), (21, .int .u8 0), (22, .int .i64 s1), (24, .int .i64 s2), (25, .int .u8 0), (354, .int .u8 2), (379, .pointer (some ⟨mb, 1, none⟩))]) (φ := True) (fuel := 8) h236 (by kernel_rfl) rfl (by kernel_rfl) (by kernel_rfl) ⟨trivial, trivial, trivial, trivial⟩ trivial fun a238 h239 => ?_
      clear h236
      refine dr_read (i := 3) (b := mb) (p := 5) (v := .pointer (some ⟨Z.mc, 0, none⟩)) (fuel := 7) (by repeat (first | with_reducible exact PF.body | with_reducible apply PF.inB | with_reducible apply PF.next)) h239 rfl rfl rfl (by kernel_rfl) (by kernel_rfl) (by kernel_rfl) rfl (rd_m h239 (k := 1) (v := .pointer (some ⟨Z.mc, 0, none⟩)) rfl rfl rfl rfl (md_p ⟨rfl, trivial⟩)) ?_
      have h240 := h239.put (d := some 380) (v := .pointer (some ⟨Z.mc, 0, none⟩)) (T' := [(380, .pointer (some ⟨Z.mc, 0, none⟩)), (26, .pointer (some ⟨b193, 0, none⟩)), (6, .pointer (some ⟨b14, 0, none⟩)), (3, .pointer (some ⟨b2, 0, none⟩)), (0, .pointer (some ⟨mb, 0, none⟩)), (1, .agg #[.int .u8 10, .int .u32 ev.pick, .int .u64 ev.draw, .int .u32 ev.addr, .int .u32 ev.node, .int .u32 ev.dst, .int .u32 ev.xfer, .int .u8 2, .int .u64 ev.arg, .int .u64 ev.badge, .slice xo ev.ws.length cx]), (4, .int .u8 0), (5, .bool false), (7, .pointer (some ⟨(Z.tp x), 0, none⟩)), (53, .int .u8 10), (66, .bool false), (21, .int .u8 0), (22, .int .i64 s1), (24, .int .i64 s2), (25, .int .u8 0), (354, .int .u8 2), (379, .pointer (some ⟨mb, 1, none⟩))]) rfl
      clear h239
      refine dr_batch tabOk2 tabZ_ok2 (by repeat (first | with_reducible exact PF.body | with_reducible apply PF.inB | with_reducible apply PF.next)) [(4, {}), (5, {}), (6, {k := 1, p := 1}), (7, {k := 4, p := 4}), (8, {}), (9, {})] [380, 26, 6, 3, 0, 1, 4, 5, 7, 53, 66, 21, 22, 24, 25, 354, 381, 385, 386] (T' := [(380, .pointer (some ⟨Z.mc, 0, none⟩)), (26, .pointer (some ⟨b193, 0, none⟩)), (6, .pointer (some ⟨b14, 0, none⟩)), (3, .pointer (some ⟨b2, 0, none⟩)), (0, .pointer (some ⟨mb, 0, none⟩)), (1, .agg #[.int .u8 10, .int .u32 ev.pick, .int .u64 ev.draw, .int .u32 ev.addr, .int .u32 ev.node, .int .u32 ev.dst, .int .u32 ev.xfer, .int .u8 2, .int .u64 ev.arg, .int .u64 ev.badge, .slice xo ev.ws.length cx]), (4, .int .u8 0), (5, .bool false), (7, .pointer (some ⟨(Z.tp x), 0, none⟩)), (53, .int .u8 10), (66, .bool false), (21, .int .u8 0), (22, .int .i64 s1), (24, .int .i64 s2), (25, .int .u8 0), (354, .int .u8 2), (381, .int .i64 s2), (385, .agg #[.int .u8 2, .int .u16 ((Z.ky o).idx), .int .u32 ((Z.ky o).gen), .int .u8 7, .int .u64 0]), (386, .int .i64 s1)]) (φ := (b2 = b2 ∧ Nat.ble (7 + 1) 11 = true) ∧ (b193 = b193 ∧ Nat.ble (0 + 2) 2 = true) ∧ True) (fuel := 1) h240 (by kernel_rfl) rfl (by kernel_rfl) (by kernel_rfl) ⟨trivial, trivial, rfl, rfl, trivial, trivial, trivial⟩ ⟨⟨rfl, rfl⟩, ⟨rfl, rfl⟩, trivial⟩ fun a241 h242 => ?_
      clear h240
      refine wpAnyK_one (i := 10) (fuel := 0) (by kernel_rfl) ?_
      refine op_call h242 rfl rfl rfl (callOk Tryd.func40 (by decide) rfl) (args := [.pointer (some ⟨Z.mc, 0, none⟩), .int .i64 s2, .agg #[.int .u8 2, .int .u16 ((Z.ky o).idx), .int .u32 ((Z.ky o).gen), .int .u8 7, .int .u64 0], .int .i64 s1]) rfl (insertE Z.mo Z.mc _ ((nodeP { C with ent := E1 } (Z.ky o).idx.toNat) : CP) hi2 hj2 (node_pres hp2) hs2 ⟨2, Z.ky o, 7, 0⟩ s1 _ h242.inv.1.cp) ?_
      rintro _ w243 ⟨rfl, hc244, hf245⟩
      refine ⟨_, rfl, ?_⟩
      have h246a := st_cap h242 hc244 hf245 (fun b hb => .inl hb) (kcons (fun _ => rfl) (kcons (fun hq => by cases hq) (kcons (fun hq => by cases hq) (kcons (fun hq => by cases hq) (kcons (fun hq => by cases hq) knil)))))
      have h246 := h246a.put (d := some 387) (v := .tuple #[]) (T' := [(387, .tuple #[]), (380, .pointer (some ⟨Z.mc, 0, none⟩)), (26, .pointer (some ⟨b193, 0, none⟩)), (6, .pointer (some ⟨b14, 0, none⟩)), (3, .pointer (some ⟨b2, 0, none⟩)), (0, .pointer (some ⟨mb, 0, none⟩)), (1, .agg #[.int .u8 10, .int .u32 ev.pick, .int .u64 ev.draw, .int .u32 ev.addr, .int .u32 ev.node, .int .u32 ev.dst, .int .u32 ev.xfer, .int .u8 2, .int .u64 ev.arg, .int .u64 ev.badge, .slice xo ev.ws.length cx]), (4, .int .u8 0), (5, .bool false), (7, .pointer (some ⟨(Z.tp x), 0, none⟩)), (53, .int .u8 10), (66, .bool false), (21, .int .u8 0), (22, .int .i64 s1), (24, .int .i64 s2), (25, .int .u8 0), (354, .int .u8 2), (381, .int .i64 s2), (385, .agg #[.int .u8 2, .int .u16 ((Z.ky o).idx), .int .u32 ((Z.ky o).gen), .int .u8 7, .int .u64 0]), (386, .int .i64 s1)]) rfl
      refine ⟨keepNil, ?_⟩
      clear h242 h246a
      refine wpAnyK_done (by kernel_rfl) ?_ _
      refine hK234 _ _ ?_
      clear hK234
      refine wp_seq_k fun K247 hK247 => ?_
      refine nd_start (l := [0, 1]) rfl ?_
      refine nd_batch tabOk2 tabZ_ok2 [(0, {}), (1, {})] [26, 6, 3, 0, 1, 7, 53, 66, 21, 22, 24, 25, 354, 4, 5] (T' := [(26, .pointer (some ⟨b193, 0, none⟩)), (6, .pointer (some ⟨b14, 0, none⟩)), (3, .pointer (some ⟨b2, 0, none⟩)), (0, .pointer (some ⟨mb, 0, none⟩)), (1, .agg #[.int .u8 10, .int .u32 ev.pick, .int .u64 ev.draw, .int .u32 ev.addr, .int .u32 ev.node, .int .u32 ev.dst, .int .u32 ev.xfer, .int .u8 2, .int .u64 ev.arg, .int .u64 ev.badge, .slice xo ev.ws.length cx]), (7, .pointer (some ⟨(Z.tp x), 0, none⟩)), (53, .int .u8 10), (66, .bool false), (21, .int .u8 0), (22, .int .i64 s1), (24, .int .i64 s2), (25, .int .u8 0), (354, .int .u8 2), (4, .int .u8 0), (5, .bool false)]) (φ := True) (rest := []) h246 (by kernel_rfl) rfl trivial fun a248 h249 => ?_
      clear h246
      refine nd_done ?_
      refine hK247 _ _ ?_
      clear hK247
      refine wp_ret ?_
      try simp only [Exit.then, Exit.inBlock]
      try rw [if_pos trivial]
      exact s_ret tabOk2 tabZ_ok2 h249 [(.tmp 4, {}), (.tmp 5, {})] (vs := [.int .u8 0, .bool false]) (φ := True) rfl (by kernel_rfl) trivial ⟨rfl, _, _, mg_end hH h249 hhoh103 rfl⟩

theorem call10g3 (mb : Nat) (Z : MZ) (R : MR) (a : AK) (C : CP) (hI : MI Z a C) (x : Nat) (hx : x ∈ sl Z.tl) (hcu : a.cur = (x : Int)) (ev : Ev) (he : EvOk ev) (xo : Option Addr) (cx : Nat) (c : Cp) (cs0 : Int) (hf : findA a C ev.addr 1 2 = (c, cs0, 0)) (s1 : Int) (e1 : lookP C.ent (a.th x).cs ev.addr = (s1, 0)) (s2 : Int) (e2 : lookP C.ent (a.th x).cs ev.dst = (s2, 0)) (hz2 : (C.cel s2.toNat).cap.ty = 0) (E1 : Nat → Ent) (o : Nat) (er : retype0 C.ent 3 = (E1, Z.ky o, 0)) (ho2 : o < 256) (hon : o ∉ sl Z.tl) (ha0 : a.th o = unl noT) (w : World) (hH : MH mb Z R a C w) (hws : WordsAt (mdF mb Z R C) w xo ev.ws) :
    Calls Tryd.prog 55 #[.pointer (some ⟨mb, 0, none⟩), .agg #[.int .u8 10, .int .u32 ev.pick, .int .u64 ev.draw, .int .u32 ev.addr, .int .u32 ev.node, .int .u32 ev.dst, .int .u32 ev.xfer, .int .u8 3, .int .u64 ev.arg, .int .u64 ev.badge, .slice xo ev.ws.length cx]] w fun e w' => e = .returned (.tuple #[.int .u8 0, .bool false]) ∧ ∃ b R', MG mb Z R C w (Z.addT o b) R' a { C with ent := E1, cel := upd C.cel s2.toNat ⟨⟨3, Z.ky o, 7, 0⟩, s1⟩ } w' := by
  have hP := hI.mp
  have hcx : curR Z a = Z.ky x := curR_of hcu
  have hcn : a.cur.toNat = x := by rw [hcu]; exact Int.toNat_natCast x
  have hci := (hI.tk x hx).ci
  obtain ⟨ty3, hg3⟩ := hH.g3
  have hho := hH.ho
  have hkk := hH.md.k
  refine enter (n := 628) (K := mdF mb Z R C) (A := MD (mdF mb Z R C) w.heap.size mb Z R a C) (F := mdF mb Z R C) (T := [(0, .pointer (some ⟨mb, 0, none⟩)), (1, .agg #[.int .u8 10, .int .u32 ev.pick, .int .u64 ev.draw, .int .u32 ev.addr, .int .u32 ev.node, .int .u32 ev.dst, .int .u32 ev.xfer, .int .u8 3, .int .u64 ev.arg, .int .u64 ev.badge, .slice xo ev.ws.length cx])]) (L := [(3, ⟨[.int .u16 0, .int .u32 0], ty3, true⟩)]) (args := [.pointer (some ⟨mb, 0, none⟩), .agg #[.int .u8 10, .int .u32 ev.pick, .int .u64 ev.draw, .int .u32 ev.addr, .int .u32 ev.node, .int .u32 ev.dst, .int .u32 ev.xfer, .int .u8 3, .int .u64 ev.arg, .int .u64 ev.badge, .slice xo ev.ws.length cx]]) Tryd.func55 rfl rfl rfl rfl (kcons hg3 knil) (by simp) (kcons (by intro hq; cases hq) knil) hH.mD MD.stable hH.md.low (kcons (by intro hq; cases hq) knil) ?_
  intro ac h
  refine wp_seq_k fun K1 hK1 => ?_
  refine nd_start (l := [0, 1, 2]) rfl ?_
  refine nd_op ?_
  refine op_new tabOk2 (cells := [.int .u8 10, .int .u32 ev.pick, .int .u64 ev.draw, .int .u32 ev.addr, .int .u32 ev.node, .int .u32 ev.dst, .int .u32 ev.xfer, .int .u8 3, .int .u64 ev.arg, .int .u64 ev.badge, .slice xo ev.ws.length cx]) (ty := 35) (ln := none) (L1 := fun b2 => [(3, ⟨[.int .u16 0, .int .u32 0], ty3, true⟩), (b2, ⟨[.int .u8 10, .int .u32 ev.pick, .int .u64 ev.draw, .int .u32 ev.addr, .int .u32 ev.node, .int .u32 ev.dst, .int .u32 ev.xfer, .int .u8 3, .int .u64 ev.arg, .int .u64 ev.badge, .slice xo ev.ws.length cx], 35, false⟩)]) h rfl rfl rfl rfl (by kernel_rfl) (fun _ => rfl) fun b2 w3 a4 h5 hf6 hn7 => ?_
  clear h
  refine nd_batch tabOk2 tabZ_ok2 [(1, {}), (2, {})] [3, 0, 1, 4, 5] (T' := [(3, .pointer (some ⟨b2, 0, none⟩)), (0, .pointer (some ⟨mb, 0, none⟩)), (1, .agg #[.int .u8 10, .int .u32 ev.pick, .int .u64 ev.draw, .int .u32 ev.addr, .int .u32 ev.node, .int .u32 ev.dst, .int .u32 ev.xfer, .int .u8 3, .int .u64 ev.arg, .int .u64 ev.badge, .slice xo ev.ws.length cx]), (4, .int .u8 0), (5, .bool false)]) (φ := True) (rest := []) h5 (by kernel_rfl) rfl trivial fun a8 h9 => ?_
  clear h5
  refine nd_done ?_
  refine hK1 _ _ ?_
  clear hK1
  refine wp_seq_k fun K10 hK10 => ?_
  refine nd_start (l := [0, 1, 2, 3, 4, 5]) rfl ?_
  refine nd_batch tabOk2 tabZ_ok2 [(0, {}), (1, {}), (2, {})] [3, 0, 1, 4, 5, 44] (T' := [(3, .pointer (some ⟨b2, 0, none⟩)), (0, .pointer (some ⟨mb, 0, none⟩)), (1, .agg #[.int .u8 10, .int .u32 ev.pick, .int .u64 ev.draw, .int .u32 ev.addr, .int .u32 ev.node, .int .u32 ev.dst, .int .u32 ev.xfer, .int .u8 3, .int .u64 ev.arg, .int .u64 ev.badge, .slice xo ev.ws.length cx]), (4, .int .u8 0), (5, .bool false), (44, .pointer (some ⟨mb, 13, none⟩))]) (φ := True) (rest := [3, 4, 5]) h9 (by kernel_rfl) rfl trivial fun a11 h12 => ?_
  clear h9
  refine nd_op ?_
  refine op_read (b := mb) (v := .agg #[.int .u16 ((Z.ky x).idx), .int .u32 ((Z.ky x).gen)]) h12 rfl rfl (rd_mA h12 (k := 13) (vs := [.int .u16 ((Z.ky x).idx), .int .u32 ((Z.ky x).gen)]) rfl rfl rfl rfl rfl (by rw [← hcx]; exact md_cur)) ?_
  have h13 := h12.put (d := some 45) (v := .agg #[.int .u16 ((Z.ky x).idx), .int .u32 ((Z.ky x).gen)]) (T' := [(45, .agg #[.int .u16 ((Z.ky x).idx), .int .u32 ((Z.ky x).gen)]), (3, .pointer (some ⟨b2, 0, none⟩)), (0, .pointer (some ⟨mb, 0, none⟩)), (1, .agg #[.int .u8 10, .int .u32 ev.pick, .int .u64 ev.draw, .int .u32 ev.addr, .int .u32 ev.node, .int .u32 ev.dst, .int .u32 ev.xfer, .int .u8 3, .int .u64 ev.arg, .int .u64 ev.badge, .slice xo ev.ws.length cx]), (4, .int .u8 0), (5, .bool false), (44, .pointer (some ⟨mb, 13, none⟩))]) rfl
  clear h12
  refine nd_op ?_
  refine op_new tabOk2 (cells := [.int .u16 0, .int .u32 0]) (ty := 39) (ln := none) (L1 := fun b14 => [(3, ⟨[.int .u16 0, .int .u32 0], ty3, true⟩), (b2, ⟨[.int .u8 10, .int .u32 ev.pick, .int .u64 ev.draw, .int .u32 ev.addr, .int .u32 ev.node, .int .u32 ev.dst, .int .u32 ev.xfer, .int .u8 3, .int .u64 ev.arg, .int .u64 ev.badge, .slice xo ev.ws.length cx], 35, false⟩), (b14, ⟨[.int .u16 0, .int .u32 0], 39, false⟩)]) h13 rfl rfl rfl rfl (by kernel_rfl) (fun _ => rfl) fun b14 w15 a16 h17 hf18 hn19 => ?_
  clear h13
  refine nd_op ?_
  refine op_store tabOk2 {k := 2} (L' := [(3, ⟨[.int .u16 0, .int .u32 0], ty3, true⟩), (b2, ⟨[.int .u8 10, .int .u32 ev.pick, .int .u64 ev.draw, .int .u32 ev.addr, .int .u32 ev.node, .int .u32 ev.dst, .int .u32 ev.xfer, .int .u8 3, .int .u64 ev.arg, .int .u64 ev.badge, .slice xo ev.ws.length cx], 35, false⟩), (b14, ⟨[.int .u16 ((Z.ky x).idx), .int .u32 ((Z.ky x).gen)], 39, false⟩)]) (φ := b14 = b14 ∧ Nat.ble (0 + 2) 2 = true) h17 rfl rfl rfl (by kernel_rfl) ⟨rfl, rfl⟩ fun w20 h21 => ?_
  clear h17
  refine nd_done ?_
  refine hK10 _ _ ?_
  clear hK10
  refine wp_seq_k fun K22 hK22 => ?_
  refine dr_start (KB := [3, b2, b14, mb, Z.tb]) (Bi := [[0, 1, 2, 3, 4], [0, 1, 2, 3, 4], [0, 1, 2, 3, 4], [0, 1, 2, 3, 4], [0, 1, 2, 3, 4], [0, 1, 2, 3, 4], [0, 1, 2, 3, 4]]) mixed h21 fun w23 h24 => ?_
  clear h21
  refine dr_batch tabOk2 tabZ_ok2 (by repeat (first | with_reducible exact PF.body | with_reducible apply PF.inB | with_reducible apply PF.next)) [(0, {}), (1, {}), (2, {})] [6, 3, 0, 1, 4, 5, 48] (T' := [(6, .pointer (some ⟨b14, 0, none⟩)), (3, .pointer (some ⟨b2, 0, none⟩)), (0, .pointer (some ⟨mb, 0, none⟩)), (1, .agg #[.int .u8 10, .int .u32 ev.pick, .int .u64 ev.draw, .int .u32 ev.addr, .int .u32 ev.node, .int .u32 ev.dst, .int .u32 ev.xfer, .int .u8 3, .int .u64 ev.arg, .int .u64 ev.badge, .slice xo ev.ws.length cx]), (4, .int .u8 0), (5, .bool false), (48, .pointer (some ⟨mb, 2, none⟩))]) (φ := True) (fuel := 4) h24 (by kernel_rfl) rfl (by kernel_rfl) (by kernel_rfl) ⟨trivial, trivial, trivial, trivial⟩ trivial fun a26 h27 => ?_
  clear h24
  refine dr_read (i := 3) (b := mb) (p := 3) (v := .map (some Z.tb)) (fuel := 3) (by repeat (first | with_reducible exact PF.body | with_reducible apply PF.inB | with_reducible apply PF.next)) h27 rfl rfl rfl (by kernel_rfl) (by kernel_rfl) (by kernel_rfl) rfl (rd_m h27 (k := 2) (v := .map (some Z.tb)) rfl rfl rfl rfl (md_p ⟨rfl, trivial⟩)) ?_
  have h28 := h27.put (d := some 49) (v := .map (some Z.tb)) (T' := [(49, .map (some Z.tb)), (6, .pointer (some ⟨b14, 0, none⟩)), (3, .pointer (some ⟨b2, 0, none⟩)), (0, .pointer (some ⟨mb, 0, none⟩)), (1, .agg #[.int .u8 10, .int .u32 ev.pick, .int .u64 ev.draw, .int .u32 ev.addr, .int .u32 ev.node, .int .u32 ev.dst, .int .u32 ev.xfer, .int .u8 3, .int .u64 ev.arg, .int .u64 ev.badge, .slice xo ev.ws.length cx]), (4, .int .u8 0), (5, .bool false), (48, .pointer (some ⟨mb, 2, none⟩))]) rfl
  clear h27
  refine dr_batch tabOk2 tabZ_ok2 (by repeat (first | with_reducible exact PF.body | with_reducible apply PF.inB | with_reducible apply PF.next)) [(4, {k := 2, p := 2})] [49, 6, 3, 0, 1, 4, 5, 50] (T' := [(49, .map (some Z.tb)), (6, .pointer (some ⟨b14, 0, none⟩)), (3, .pointer (some ⟨b2, 0, none⟩)), (0, .pointer (some ⟨mb, 0, none⟩)), (1, .agg #[.int .u8 10, .int .u32 ev.pick, .int .u64 ev.draw, .int .u32 ev.addr, .int .u32 ev.node, .int .u32 ev.dst, .int .u32 ev.xfer, .int .u8 3, .int .u64 ev.arg, .int .u64 ev.badge, .slice xo ev.ws.length cx]), (4, .int .u8 0), (5, .bool false), (50, .agg #[.int .u16 ((Z.ky x).idx), .int .u32 ((Z.ky x).gen)])]) (φ := (b14 = b14 ∧ Nat.ble (0 + 2) 2 = true) ∧ True) (fuel := 2) h28 (by kernel_rfl) rfl (by kernel_rfl) (by kernel_rfl) ⟨rfl, trivial⟩ ⟨⟨rfl, rfl⟩, trivial⟩ fun a29 h30 => ?_
  clear h28
  refine dr_read (i := 5) (b := Z.tb) (p := 4) (v := .pointer (some ⟨(Z.tp x), 0, none⟩)) (fuel := 1) (by repeat (first | with_reducible exact PF.body | with_reducible apply PF.inB | with_reducible apply PF.next)) h30 rfl rfl rfl (by kernel_rfl) (by kernel_rfl) (by kernel_rfl) rfl (rd_T h30 (x := x) hx rfl rfl rfl) ?_
  have h31 := h30.put (d := some 51) (v := .pointer (some ⟨(Z.tp x), 0, none⟩)) (T' := [(51, .pointer (some ⟨(Z.tp x), 0, none⟩)), (49, .map (some Z.tb)), (6, .pointer (some ⟨b14, 0, none⟩)), (3, .pointer (some ⟨b2, 0, none⟩)), (0, .pointer (some ⟨mb, 0, none⟩)), (1, .agg #[.int .u8 10, .int .u32 ev.pick, .int .u64 ev.draw, .int .u32 ev.addr, .int .u32 ev.node, .int .u32 ev.dst, .int .u32 ev.xfer, .int .u8 3, .int .u64 ev.arg, .int .u64 ev.badge, .slice xo ev.ws.length cx]), (4, .int .u8 0), (5, .bool false), (50, .agg #[.int .u16 ((Z.ky x).idx), .int .u32 ((Z.ky x).gen)])]) rfl
  clear h30
  refine dr_batch tabOk2 tabZ_ok2 (by repeat (first | with_reducible exact PF.body | with_reducible apply PF.inB | with_reducible apply PF.next)) [(6, {})] [6, 3, 0, 1, 4, 5, 7] (T' := [(6, .pointer (some ⟨b14, 0, none⟩)), (3, .pointer (some ⟨b2, 0, none⟩)), (0, .pointer (some ⟨mb, 0, none⟩)), (1, .agg #[.int .u8 10, .int .u32 ev.pick, .int .u64 ev.draw, .int .u32 ev.addr, .int .u32 ev.node, .int .u32 ev.dst, .int .u32 ev.xfer, .int .u8 3, .int .u64 ev.arg, .int .u64 ev.badge, .slice xo ev.ws.length cx]), (4, .int .u8 0), (5, .bool false), (7, .pointer (some ⟨(Z.tp x), 0, none⟩))]) (φ := True) (fuel := 0) h31 (by kernel_rfl) rfl (by kernel_rfl) (by kernel_rfl) ⟨trivial, trivial⟩ trivial fun a32 h33 => ?_
  clear h31
  refine wpAnyK_done (by kernel_rfl) ?_ _
  refine hK22 _ _ ?_
  clear hK22
  refine wp_seq_k fun K34 hK34 => ?_
  refine wp_seq_k fun K35 hK35 => ?_
  refine nd_start (l := [0, 1]) rfl ?_
  refine nd_batch tabOk2 tabZ_ok2 [(0, {}), (1, {k := 1})] [6, 3, 0, 1, 4, 5, 7, 53] (T' := [(6, .pointer (some ⟨b14, 0, none⟩)), (3, .pointer (some ⟨b2, 0, none⟩)), (0, .pointer (some ⟨mb, 0, none⟩)), (1, .agg #[.int .u8 10, .int .u32 ev.pick, .int .u64 ev.draw, .int .u32 ev.addr, .int .u32 ev.node, .int .u32 ev.dst, .int .u32 ev.xfer, .int .u8 3, .int .u64 ev.arg, .int .u64 ev.badge, .slice xo ev.ws.length cx]), (4, .int .u8 0), (5, .bool false), (7, .pointer (some ⟨(Z.tp x), 0, none⟩)), (53, .int .u8 10)]) (φ := (b2 = b2 ∧ Nat.ble (0 + 1) 11 = true) ∧ True) (rest := []) h33 (by kernel_rfl) rfl ⟨⟨rfl, rfl⟩, trivial⟩ fun a36 h37 => ?_
  clear h33
  refine nd_done ?_
  refine hK35 _ _ ?_
  clear hK35
  refine wp_block ?_
  refine wp_seq_k fun K38 hK38 => ?_
  refine nd_start (l := [0, 1]) rfl ?_
  refine nd_batch tabOk2 tabZ_ok2 [(0, {}), (1, {})] [6, 3, 0, 1, 4, 5, 7, 53, 54] (T' := [(6, .pointer (some ⟨b14, 0, none⟩)), (3, .pointer (some ⟨b2, 0, none⟩)), (0, .pointer (some ⟨mb, 0, none⟩)), (1, .agg #[.int .u8 10, .int .u32 ev.pick, .int .u64 ev.draw, .int .u32 ev.addr, .int .u32 ev.node, .int .u32 ev.dst, .int .u32 ev.xfer, .int .u8 3, .int .u64 ev.arg, .int .u64 ev.badge, .slice xo ev.ws.length cx]), (4, .int .u8 0), (5, .bool false), (7, .pointer (some ⟨(Z.tp x), 0, none⟩)), (53, .int .u8 10), (54, .bool false)]) (φ := True) (rest := []) h37 (by kernel_rfl) rfl trivial fun a39 h40 => ?_
  clear h37
  refine nd_done ?_
  refine hK38 _ _ ?_
  clear hK38
  refine c_false h40 rfl ?_
  refine wp_seq_k fun K41 hK41 => ?_
  refine nd_start (l := [0, 1]) rfl ?_
  refine nd_batch tabOk2 tabZ_ok2 [(0, {}), (1, {})] [6, 3, 0, 1, 4, 5, 7, 53, 59] (T' := [(6, .pointer (some ⟨b14, 0, none⟩)), (3, .pointer (some ⟨b2, 0, none⟩)), (0, .pointer (some ⟨mb, 0, none⟩)), (1, .agg #[.int .u8 10, .int .u32 ev.pick, .int .u64 ev.draw, .int .u32 ev.addr, .int .u32 ev.node, .int .u32 ev.dst, .int .u32 ev.xfer, .int .u8 3, .int .u64 ev.arg, .int .u64 ev.badge, .slice xo ev.ws.length cx]), (4, .int .u8 0), (5, .bool false), (7, .pointer (some ⟨(Z.tp x), 0, none⟩)), (53, .int .u8 10), (59, .bool false)]) (φ := True) (rest := []) h40 (by kernel_rfl) rfl trivial fun a42 h43 => ?_
  clear h40
  refine nd_done ?_
  refine hK41 _ _ ?_
  clear hK41
  refine c_false h43 rfl ?_
  refine wp_seq_k fun K44 hK44 => ?_
  refine wp_seq_k fun K45 hK45 => ?_
  refine nd_start (l := [0, 1]) rfl ?_
  refine nd_batch tabOk2 tabZ_ok2 [(0, {}), (1, {})] [6, 3, 0, 1, 4, 5, 7, 53, 66] (T' := [(6, .pointer (some ⟨b14, 0, none⟩)), (3, .pointer (some ⟨b2, 0, none⟩)), (0, .pointer (some ⟨mb, 0, none⟩)), (1, .agg #[.int .u8 10, .int .u32 ev.pick, .int .u64 ev.draw, .int .u32 ev.addr, .int .u32 ev.node, .int .u32 ev.dst, .int .u32 ev.xfer, .int .u8 3, .int .u64 ev.arg, .int .u64 ev.badge, .slice xo ev.ws.length cx]), (4, .int .u8 0), (5, .bool false), (7, .pointer (some ⟨(Z.tp x), 0, none⟩)), (53, .int .u8 10), (66, .bool false)]) (φ := True) (rest := []) h43 (by kernel_rfl) rfl trivial fun a46 h47 => ?_
  clear h43
  refine nd_done ?_
  refine hK45 _ _ ?_
  clear hK45
  refine c_false h47 rfl ?_
  refine nd_start (l := [0, 1]) rfl ?_
  refine nd_batch tabOk2 tabZ_ok2 [(0, {}), (1, {})] [6, 3, 0, 1, 4, 5, 7, 53, 66] (T' := [(6, .pointer (some ⟨b14, 0, none⟩)), (3, .pointer (some ⟨b2, 0, none⟩)), (0, .pointer (some ⟨mb, 0, none⟩)), (1, .agg #[.int .u8 10, .int .u32 ev.pick, .int .u64 ev.draw, .int .u32 ev.addr, .int .u32 ev.node, .int .u32 ev.dst, .int .u32 ev.xfer, .int .u8 3, .int .u64 ev.arg, .int .u64 ev.badge, .slice xo ev.ws.length cx]), (4, .int .u8 0), (5, .bool false), (7, .pointer (some ⟨(Z.tp x), 0, none⟩)), (53, .int .u8 10), (66, .bool false)]) (φ := True) (rest := []) h47 (by kernel_rfl) rfl trivial fun a48 h49 => ?_
  clear h47
  refine nd_done ?_
  refine hK44 _ _ ?_
  clear hK44
  refine c_false h49 rfl ?_
  refine wp_seq_k fun K50 hK50 => ?_
  refine nd_start (l := [0, 1]) rfl ?_
  refine nd_batch tabOk2 tabZ_ok2 [(0, {}), (1, {})] [6, 3, 0, 1, 4, 5, 7, 53, 66, 129] (T' := [(6, .pointer (some ⟨b14, 0, none⟩)), (3, .pointer (some ⟨b2, 0, none⟩)), (0, .pointer (some ⟨mb, 0, none⟩)), (1, .agg #[.int .u8 10, .int .u32 ev.pick, .int .u64 ev.draw, .int .u32 ev.addr, .int .u32 ev.node, .int .u32 ev.dst, .int .u32 ev.xfer, .int .u8 3, .int .u64 ev.arg, .int .u64 ev.badge, .slice xo ev.ws.length cx]), (4, .int .u8 0), (5, .bool false), (7, .pointer (some ⟨(Z.tp x), 0, none⟩)), (53, .int .u8 10), (66, .bool false), (129, .bool false)]) (φ := True) (rest := []) h49 (by kernel_rfl) rfl trivial fun a51 h52 => ?_
  clear h49
  refine nd_done ?_
  refine hK50 _ _ ?_
  clear hK50
  refine c_false h52 rfl ?_
  refine wp_seq_k fun K53 hK53 => ?_
  refine nd_start (l := [0, 1]) rfl ?_
  refine nd_batch tabOk2 tabZ_ok2 [(0, {}), (1, {})] [6, 3, 0, 1, 4, 5, 7, 53, 66, 165] (T' := [(6, .pointer (some ⟨b14, 0, none⟩)), (3, .pointer (some ⟨b2, 0, none⟩)), (0, .pointer (some ⟨mb, 0, none⟩)), (1, .agg #[.int .u8 10, .int .u32 ev.pick, .int .u64 ev.draw, .int .u32 ev.addr, .int .u32 ev.node, .int .u32 ev.dst, .int .u32 ev.xfer, .int .u8 3, .int .u64 ev.arg, .int .u64 ev.badge, .slice xo ev.ws.length cx]), (4, .int .u8 0), (5, .bool false), (7, .pointer (some ⟨(Z.tp x), 0, none⟩)), (53, .int .u8 10), (66, .bool false), (165, .bool false)]) (φ := True) (rest := []) h52 (by kernel_rfl) rfl trivial fun a54 h55 => ?_
  clear h52
  refine nd_done ?_
  refine hK53 _ _ ?_
  clear hK53
  refine c_false h55 rfl ?_
  refine wp_seq_k fun K56 hK56 => ?_
  refine nd_start (l := [0, 1]) rfl ?_
  refine nd_batch tabOk2 tabZ_ok2 [(0, {}), (1, {})] [6, 3, 0, 1, 4, 5, 7, 53, 66, 226] (T' := [(6, .pointer (some ⟨b14, 0, none⟩)), (3, .pointer (some ⟨b2, 0, none⟩)), (0, .pointer (some ⟨mb, 0, none⟩)), (1, .agg #[.int .u8 10, .int .u32 ev.pick, .int .u64 ev.draw, .int .u32 ev.addr, .int .u32 ev.node, .int .u32 ev.dst, .int .u32 ev.xfer, .int .u8 3, .int .u64 ev.arg, .int .u64 ev.badge, .slice xo ev.ws.length cx]), (4, .int .u8 0), (5, .bool false), (7, .pointer (some ⟨(Z.tp x), 0, none⟩)), (53, .int .u8 10), (66, .bool false), (226, .bool false)]) (φ := True) (rest := []) h55 (by kernel_rfl) rfl trivial fun a57 h58 => ?_
  clear h55
  refine nd_done ?_
  refine hK56 _ _ ?_
  clear hK56
  refine c_false h58 rfl ?_
  refine wp_seq_k fun K59 hK59 => ?_
  refine nd_start (l := [0, 1]) rfl ?_
  refine nd_batch tabOk2 tabZ_ok2 [(0, {}), (1, {})] [6, 3, 0, 1, 4, 5, 7, 53, 66, 244] (T' := [(6, .pointer (some ⟨b14, 0, none⟩)), (3, .pointer (some ⟨b2, 0, none⟩)), (0, .pointer (some ⟨mb, 0, none⟩)), (1, .agg #[.int .u8 10, .int .u32 ev.pick, .int .u64 ev.draw, .int .u32 ev.addr, .int .u32 ev.node, .int .u32 ev.dst, .int .u32 ev.xfer, .int .u8 3, .int .u64 ev.arg, .int .u64 ev.badge, .slice xo ev.ws.length cx]), (4, .int .u8 0), (5, .bool false), (7, .pointer (some ⟨(Z.tp x), 0, none⟩)), (53, .int .u8 10), (66, .bool false), (244, .bool false)]) (φ := True) (rest := []) h58 (by kernel_rfl) rfl trivial fun a60 h61 => ?_
  clear h58
  refine nd_done ?_
  refine hK59 _ _ ?_
  clear hK59
  refine c_false h61 rfl ?_
  refine wp_seq_k fun K62 hK62 => ?_
  refine nd_start (l := [0, 1]) rfl ?_
  refine nd_batch tabOk2 tabZ_ok2 [(0, {}), (1, {})] [6, 3, 0, 1, 4, 5, 7, 53, 66, 285] (T' := [(6, .pointer (some ⟨b14, 0, none⟩)), (3, .pointer (some ⟨b2, 0, none⟩)), (0, .pointer (some ⟨mb, 0, none⟩)), (1, .agg #[.int .u8 10, .int .u32 ev.pick, .int .u64 ev.draw, .int .u32 ev.addr, .int .u32 ev.node, .int .u32 ev.dst, .int .u32 ev.xfer, .int .u8 3, .int .u64 ev.arg, .int .u64 ev.badge, .slice xo ev.ws.length cx]), (4, .int .u8 0), (5, .bool false), (7, .pointer (some ⟨(Z.tp x), 0, none⟩)), (53, .int .u8 10), (66, .bool false), (285, .bool true)]) (φ := True) (rest := []) h61 (by kernel_rfl) rfl trivial fun a63 h64 => ?_
  clear h61
  refine nd_done ?_
  refine hK62 _ _ ?_
  clear hK62
  refine c_true h64 rfl ?_
  refine wp_seq_k fun K65 hK65 => ?_
  refine wp_seq_k fun K66 hK66 => ?_
  refine nd_start (l := [0, 1, 2, 3, 4, 5, 6, 7, 8, 9]) rfl ?_
  refine nd_batch tabOk2 tabZ_ok2 [(0, {}), (1, {}), (2, {k := 1})] [6, 3, 0, 1, 4, 5, 7, 53, 66, 288, 290] (T' := [(6, .pointer (some ⟨b14, 0, none⟩)), (3, .pointer (some ⟨b2, 0, none⟩)), (0, .pointer (some ⟨mb, 0, none⟩)), (1, .agg #[.int .u8 10, .int .u32 ev.pick, .int .u64 ev.draw, .int .u32 ev.addr, .int .u32 ev.node, .int .u32 ev.dst, .int .u32 ev.xfer, .int .u8 3, .int .u64 ev.arg, .int .u64 ev.badge, .slice xo ev.ws.length cx]), (4, .int .u8 0), (5, .bool false), (7, .pointer (some ⟨(Z.tp x), 0, none⟩)), (53, .int .u8 10), (66, .bool false), (288, .pointer (some ⟨mb, 0, none⟩)), (290, .int .u32 ev.addr)]) (φ := (b2 = b2 ∧ Nat.ble (3 + 1) 11 = true) ∧ True) (rest := [3, 4, 5, 6, 7, 8, 9]) h64 (by kernel_rfl) rfl ⟨⟨rfl, rfl⟩, trivial⟩ fun a67 h68 => ?_
  clear h64
  refine nd_op ?_
  refine op_call h68 rfl rfl rfl (callOk Tryd.func90 (by decide) rfl) (args := [.pointer (some ⟨mb, 0, none⟩), .int .u32 ev.addr, .int .u8 1, .int .u8 2]) rfl (capOf_ok mb Z _ a C x hx hcx hci hcn hI.ci ev.addr 1 2 he.addr _ (mh_of h68 hho (k := 0) rfl) hf) ?_
  rintro _ w69 ⟨rfl, hg71⟩
  refine ⟨_, rfl, ?_⟩
  have h72a := st_mg h68 hg71 (kcons (fun _ => rfl) (kcons (fun hq => by cases hq) (kcons (fun hq => by cases hq) knil)))
  have h72 := h72a.put (d := some 291) (v := .tuple #[.agg #[.int .u8 c.ty, .int .u16 c.obj.idx, .int .u32 c.obj.gen, .int .u8 c.rights, .int .u64 c.badge], .int .u8 0]) (T' := [(291, .tuple #[.agg #[.int .u8 c.ty, .int .u16 c.obj.idx, .int .u32 c.obj.gen, .int .u8 c.rights, .int .u64 c.badge], .int .u8 0]), (6, .pointer (some ⟨b14, 0, none⟩)), (3, .pointer (some ⟨b2, 0, none⟩)), (0, .pointer (some ⟨mb, 0, none⟩)), (1, .agg #[.int .u8 10, .int .u32 ev.pick, .int .u64 ev.draw, .int .u32 ev.addr, .int .u32 ev.node, .int .u32 ev.dst, .int .u32 ev.xfer, .int .u8 3, .int .u64 ev.arg, .int .u64 ev.badge, .slice xo ev.ws.length cx]), (4, .int .u8 0), (5, .bool false), (7, .pointer (some ⟨(Z.tp x), 0, none⟩)), (53, .int .u8 10), (66, .bool false), (288, .pointer (some ⟨mb, 0, none⟩)), (290, .int .u32 ev.addr)]) rfl
  have hhoh72 := hg71.mh.ho
  clear h68 h72a
  refine nd_batch tabOk2 tabZ_ok2 [(4, {}), (5, {}), (6, {})] [6, 3, 0, 1, 4, 5, 7, 53, 66, 292, 293] (T' := [(6, .pointer (some ⟨b14, 0, none⟩)), (3, .pointer (some ⟨b2, 0, none⟩)), (0, .pointer (some ⟨mb, 0, none⟩)), (1, .agg #[.int .u8 10, .int .u32 ev.pick, .int .u64 ev.draw, .int .u32 ev.addr, .int .u32 ev.node, .int .u32 ev.dst, .int .u32 ev.xfer, .int .u8 3, .int .u64 ev.arg, .int .u64 ev.badge, .slice xo ev.ws.length cx]), (4, .int .u8 0), (5, .bool false), (7, .pointer (some ⟨(Z.tp x), 0, none⟩)), (53, .int .u8 10), (66, .bool false), (292, .agg #[.int .u8 c.ty, .int .u16 c.obj.idx, .int .u32 c.obj.gen, .int .u8 c.rights, .int .u64 c.badge]), (293, .int .u8 0)]) (φ := True) (rest := [7, 8, 9]) h72 (by kernel_rfl) rfl trivial fun a73 h74 => ?_
  clear h72
  refine nd_op ?_
  refine op_new tabOk2 (cells := [.int .u8 0, .int .u16 0, .int .u32 0, .int .u8 0, .int .u64 0]) (ty := 49) (ln := none) (L1 := fun b75 => [(3, ⟨[.int .u16 0, .int .u32 0], ty3, true⟩), (b2, ⟨[.int .u8 10, .int .u32 ev.pick, .int .u64 ev.draw, .int .u32 ev.addr, .int .u32 ev.node, .int .u32 ev.dst, .int .u32 ev.xfer, .int .u8 3, .int .u64 ev.arg, .int .u64 ev.badge, .slice xo ev.ws.length cx], 35, false⟩), (b14, ⟨[.int .u16 ((Z.ky x).idx), .int .u32 ((Z.ky x).gen)], 39, false⟩), (b75, ⟨[.int .u8 0, .int .u16 0, .int .u32 0, .int .u8 0, .int .u64 0], 49, false⟩)]) h74 rfl rfl rfl rfl (by kernel_rfl) (fun _ => rfl) fun b75 w76 a77 h78 hf79 hn80 => ?_
  clear h74
  refine nd_op ?_
  refine op_store tabOk2 {k := 3} (L' := [(3, ⟨[.int .u16 0, .int .u32 0], ty3, true⟩), (b2, ⟨[.int .u8 10, .int .u32 ev.pick, .int .u64 ev.draw, .int .u32 ev.addr, .int .u32 ev.node, .int .u32 ev.dst, .int .u32 ev.xfer, .int .u8 3, .int .u64 ev.arg, .int .u64 ev.badge, .slice xo ev.ws.length cx], 35, false⟩), (b14, ⟨[.int .u16 ((Z.ky x).idx), .int .u32 ((Z.ky x).gen)], 39, false⟩), (b75, ⟨[.int .u8 c.ty, .int .u16 c.obj.idx, .int .u32 c.obj.gen, .int .u8 c.rights, .int .u64 c.badge], 49, false⟩)]) (φ := b75 = b75 ∧ Nat.ble (0 + 5) 5 = true) h78 rfl rfl rfl (by kernel_rfl) ⟨rfl, rfl⟩ fun w81 h82 => ?_
  clear h78
  refine nd_batch tabOk2 tabZ_ok2 [(9, {})] [6, 3, 0, 1, 4, 5, 7, 53, 66, 21] (T' := [(6, .pointer (some ⟨b14, 0, none⟩)), (3, .pointer (some ⟨b2, 0, none⟩)), (0, .pointer (some ⟨mb, 0, none⟩)), (1, .agg #[.int .u8 10, .int .u32 ev.pick, .int .u64 ev.draw, .int .u32 ev.addr, .int .u32 ev.node, .int .u32 ev.dst, .int .u32 ev.xfer, .int .u8 3, .int .u64 ev.arg, .int .u64 ev.badge, .slice xo ev.ws.length cx]), (4, .int .u8 0), (5, .bool false), (7, .pointer (some ⟨(Z.tp x), 0, none⟩)), (53, .int .u8 10), (66, .bool false), (21, .int .u8 0)]) (φ := True) (rest := []) h82 (by kernel_rfl) rfl trivial fun a83 h84 => ?_
  clear h82
  refine nd_done ?_
  refine hK66 _ _ ?_
  clear hK66
  refine wp_seq_k fun K85 hK85 => ?_
  refine nd_start (l := [0, 1]) rfl ?_
  refine nd_batch tabOk2 tabZ_ok2 [(0, {}), (1, {})] [6, 3, 0, 1, 4, 5, 7, 53, 66, 21, 295] (T' := [(6, .pointer (some ⟨b14, 0, none⟩)), (3, .pointer (some ⟨b2, 0, none⟩)), (0, .pointer (some ⟨mb, 0, none⟩)), (1, .agg #[.int .u8 10, .int .u32 ev.pick, .int .u64 ev.draw, .int .u32 ev.addr, .int .u32 ev.node, .int .u32 ev.dst, .int .u32 ev.xfer, .int .u8 3, .int .u64 ev.arg, .int .u64 ev.badge, .slice xo ev.ws.length cx]), (4, .int .u8 0), (5, .bool false), (7, .pointer (some ⟨(Z.tp x), 0, none⟩)), (53, .int .u8 10), (66, .bool false), (21, .int .u8 0), (295, .bool false)]) (φ := True) (rest := []) h84 (by kernel_rfl) rfl trivial fun a86 h87 => ?_
  clear h84
  refine nd_done ?_
  refine hK85 _ _ ?_
  clear hK85
  refine c_false h87 rfl ?_
  refine wp_skip ?_
  refine hK65 _ _ ?_
  clear hK65
  refine wp_seq_k fun K88 hK88 => ?_
  refine nd_start (l := [0, 1, 2, 3, 4, 5, 6, 7, 8]) rfl ?_
  refine nd_batch tabOk2 tabZ_ok2 [(0, {}), (1, {}), (2, {k := 1})] [6, 3, 0, 1, 4, 5, 7, 53, 66, 21, 298, 300] (T' := [(6, .pointer (some ⟨b14, 0, none⟩)), (3, .pointer (some ⟨b2, 0, none⟩)), (0, .pointer (some ⟨mb, 0, none⟩)), (1, .agg #[.int .u8 10, .int .u32 ev.pick, .int .u64 ev.draw, .int .u32 ev.addr, .int .u32 ev.node, .int .u32 ev.dst, .int .u32 ev.xfer, .int .u8 3, .int .u64 ev.arg, .int .u64 ev.badge, .slice xo ev.ws.length cx]), (4, .int .u8 0), (5, .bool false), (7, .pointer (some ⟨(Z.tp x), 0, none⟩)), (53, .int .u8 10), (66, .bool false), (21, .int .u8 0), (298, .pointer (some ⟨mb, 0, none⟩)), (300, .int .u32 ev.addr)]) (φ := (b2 = b2 ∧ Nat.ble (3 + 1) 11 = true) ∧ True) (rest := [3, 4, 5, 6, 7, 8]) h87 (by kernel_rfl) rfl ⟨⟨rfl, rfl⟩, trivial⟩ fun a89 h90 => ?_
  clear h87
  refine nd_op ?_
  refine op_call h90 rfl rfl rfl (callOk Tryd.func93 (by decide) rfl) (args := [.pointer (some ⟨mb, 0, none⟩), .int .u32 ev.addr]) rfl (cellOf_ok mb Z _ a C x hx hcx hci ev.addr he.addr e1 _ (mh_of h90 hhoh72 (k := 0) rfl)) ?_
  rintro _ w91 ⟨rfl, hg93⟩
  refine ⟨_, rfl, ?_⟩
  have h94a := st_mg h90 hg93 (kcons (fun _ => rfl) (kcons (fun hq => by cases hq) (kcons (fun hq => by cases hq) (kcons (fun hq => by cases hq) knil))))
  have h94 := h94a.put (d := some 301) (v := .tuple #[.int .i64 s1, .int .u8 0]) (T' := [(301, .tuple #[.int .i64 s1, .int .u8 0]), (6, .pointer (some ⟨b14, 0, none⟩)), (3, .pointer (some ⟨b2, 0, none⟩)), (0, .pointer (some ⟨mb, 0, none⟩)), (1, .agg #[.int .u8 10, .int .u32 ev.pick, .int .u64 ev.draw, .int .u32 ev.addr, .int .u32 ev.node, .int .u32 ev.dst, .int .u32 ev.xfer, .int .u8 3, .int .u64 ev.arg, .int .u64 ev.badge, .slice xo ev.ws.length cx]), (4, .int .u8 0), (5, .bool false), (7, .pointer (some ⟨(Z.tp x), 0, none⟩)), (53, .int .u8 10), (66, .bool false), (21, .int .u8 0), (298, .pointer (some ⟨mb, 0, none⟩)), (300, .int .u32 ev.addr)]) rfl
  have hhoh94 := hg93.mh.ho
  clear h90 h94a
  refine nd_batch tabOk2 tabZ_ok2 [(4, {}), (5, {}), (6, {}), (7, {}), (8, {})] [6, 3, 0, 1, 4, 5, 7, 53, 66, 21, 22] (T' := [(6, .pointer (some ⟨b14, 0, none⟩)), (3, .pointer (some ⟨b2, 0, none⟩)), (0, .pointer (some ⟨mb, 0, none⟩)), (1, .agg #[.int .u8 10, .int .u32 ev.pick, .int .u64 ev.draw, .int .u32 ev.addr, .int .u32 ev.node, .int .u32 ev.dst, .int .u32 ev.xfer, .int .u8 3, .int .u64 ev.arg, .int .u64 ev.badge, .slice xo ev.ws.length cx]), (4, .int .u8 0), (5, .bool false), (7, .pointer (some ⟨(Z.tp x), 0, none⟩)), (53, .int .u8 10), (66, .bool false), (21, .int .u8 0), (22, .int .i64 s1)]) (φ := True) (rest := []) h94 (by kernel_rfl) rfl trivial fun a95 h96 => ?_
  clear h94
  refine nd_done ?_
  refine hK88 _ _ ?_
  clear hK88
  refine wp_seq_k fun K97 hK97 => ?_
  refine nd_start (l := [0, 1, 2, 3, 4, 5, 6, 7, 8]) rfl ?_
  refine nd_batch tabOk2 tabZ_ok2 [(0, {}), (1, {}), (2, {k := 1})] [6, 3, 0, 1, 4, 5, 7, 53, 66, 21, 22, 305, 307] (T' := [(6, .pointer (some ⟨b14, 0, none⟩)), (3, .pointer (some ⟨b2, 0, none⟩)), (0, .pointer (some ⟨mb, 0, none⟩)), (1, .agg #[.int .u8 10, .int .u32 ev.pick, .int .u64 ev.draw, .int .u32 ev.addr, .int .u32 ev.node, .int .u32 ev.dst, .int .u32 ev.xfer, .int .u8 3, .int .u64 ev.arg, .int .u64 ev.badge, .slice xo ev.ws.length cx]), (4, .int .u8 0), (5, .bool false), (7, .pointer (some ⟨(Z.tp x), 0, none⟩)), (53, .int .u8 10), (66, .bool false), (21, .int .u8 0), (22, .int .i64 s1), (305, .pointer (some ⟨mb, 0, none⟩)), (307, .int .u32 ev.dst)]) (φ := (b2 = b2 ∧ Nat.ble (5 + 1) 11 = true) ∧ True) (rest := [3, 4, 5, 6, 7, 8]) h96 (by kernel_rfl) rfl ⟨⟨rfl, rfl⟩, trivial⟩ fun a98 h99 => ?_
  clear h96
  refine nd_op ?_
  refine op_call h99 rfl rfl rfl (callOk Tryd.func93 (by decide) rfl) (args := [.pointer (some ⟨mb, 0, none⟩), .int .u32 ev.dst]) rfl (cellOf_ok mb Z _ a C x hx hcx hci ev.dst he.dst e2 _ (mh_of h99 hhoh94 (k := 0) rfl)) ?_
  rintro _ w100 ⟨rfl, hg102⟩
  refine ⟨_, rfl, ?_⟩
  have h103a := st_mg h99 hg102 (kcons (fun _ => rfl) (kcons (fun hq => by cases hq) (kcons (fun hq => by cases hq) (kcons (fun hq => by cases hq) knil))))
  have h103 := h103a.put (d := some 308) (v := .tuple #[.int .i64 s2, .int .u8 0]) (T' := [(308, .tuple #[.int .i64 s2, .int .u8 0]), (6, .pointer (some ⟨b14, 0, none⟩)), (3, .pointer (some ⟨b2, 0, none⟩)), (0, .pointer (some ⟨mb, 0, none⟩)), (1, .agg #[.int .u8 10, .int .u32 ev.pick, .int .u64 ev.draw, .int .u32 ev.addr, .int .u32 ev.node, .int .u32 ev.dst, .int .u32 ev.xfer, .int .u8 3, .int .u64 ev.arg, .int .u64 ev.badge, .slice xo ev.ws.length cx]), (4, .int .u8 0), (5, .bool false), (7, .pointer (some ⟨(Z.tp x), 0, none⟩)), (53, .int .u8 10), (66, .bool false), (21, .int .u8 0), (22, .int .i64 s1), (305, .pointer (some ⟨mb, 0, none⟩)), (307, .int .u32 ev.dst)]) rfl
  have hhoh103 := hg102.mh.ho
  clear h99 h103a
  refine nd_batch tabOk2 tabZ_ok2 [(4, {}), (5, {}), (6, {}), (7, {}), (8, {})] [6, 3, 0, 1, 4, 5, 7, 53, 66, 21, 22, 24, 25] (T' := [(6, .pointer (some ⟨b14, 0, none⟩)), (3, .pointer (some ⟨b2, 0, none⟩)), (0, .pointer (some ⟨mb, 0, none⟩)), (1, .agg #[.int .u8 10, .int .u32 ev.pick, .int .u64 ev.draw, .int .u32 ev.addr, .int .u32 ev.node, .int .u32 ev.dst, .int .u32 ev.xfer, .int .u8 3, .int .u64 ev.arg, .int .u64 ev.badge, .slice xo ev.ws.length cx]), (4, .int .u8 0), (5, .bool false), (7, .pointer (some ⟨(Z.tp x), 0, none⟩)), (53, .int .u8 10), (66, .bool false), (21, .int .u8 0), (22, .int .i64 s1), (24, .int .i64 s2), (25, .int .u8 0)]) (φ := True) (rest := []) h103 (by kernel_rfl) rfl trivial fun a104 h105 => ?_
  clear h103
  refine nd_done ?_
  refine hK97 _ _ ?_
  clear hK97
  refine wp_seq_k fun K106 hK106 => ?_
  refine wp_seq_k fun K107 hK107 => ?_
  refine nd_start (l := [0, 1]) rfl ?_
  refine nd_batch tabOk2 tabZ_ok2 [(0, {}), (1, {})] [6, 3, 0, 1, 4, 5, 7, 53, 66, 21, 22, 24, 25, 312] (T' := [(6, .pointer (some ⟨b14, 0, none⟩)), (3, .pointer (some ⟨b2, 0, none⟩)), (0, .pointer (some ⟨mb, 0, none⟩)), (1, .agg #[.int .u8 10, .int .u32 ev.pick, .int .u64 ev.draw, .int .u32 ev.addr, .int .u32 ev.node, .int .u32 ev.dst, .int .u32 ev.xfer, .int .u8 3, .int .u64 ev.arg, .int .u64 ev.badge, .slice xo ev.ws.length cx]), (4, .int .u8 0), (5, .bool false), (7, .pointer (some ⟨(Z.tp x), 0, none⟩)), (53, .int .u8 10), (66, .bool false), (21, .int .u8 0), (22, .int .i64 s1), (24, .int .i64 s2), (25, .int .u8 0), (312, .bool false)]) (φ := True) (rest := []) h105 (by kernel_rfl) rfl trivial fun a108 h109 => ?_
  clear h105
  refine nd_done ?_
  refine hK107 _ _ ?_
  clear hK107
  refine c_false h109 rfl ?_
  refine wp_skip ?_
  refine hK106 _ _ ?_
  clear hK106
  refine wp_seq_k fun K110 hK110 => ?_
  refine wp_seq_k fun K111 hK111 => ?_
  refine nd_start (l := [0, 1, 2, 3, 4, 5, 6, 7]) rfl ?_
  refine nd_batch tabOk2 tabZ_ok2 [(0, {}), (1, {}), (2, {})] [6, 3, 0, 1, 4, 5, 7, 53, 66, 21, 22, 24, 25, 316] (T' := [(6, .pointer (some ⟨b14, 0, none⟩)), (3, .pointer (some ⟨b2, 0, none⟩)), (0, .pointer (some ⟨mb, 0, none⟩)), (1, .agg #[.int .u8 10, .int .u32 ev.pick, .int .u64 ev.draw, .int .u32 ev.addr, .int .u32 ev.node, .int .u32 ev.dst, .int .u32 ev.xfer, .int .u8 3, .int .u64 ev.arg, .int .u64 ev.badge, .slice xo ev.ws.length cx]), (4, .int .u8 0), (5, .bool false), (7, .pointer (some ⟨(Z.tp x), 0, none⟩)), (53, .int .u8 10), (66, .bool false), (21, .int .u8 0), (22, .int .i64 s1), (24, .int .i64 s2), (25, .int .u8 0), (316, .pointer (some ⟨mb, 1, none⟩))]) (φ := True) (rest := [3, 4, 5, 6, 7]) h109 (by kernel_rfl) rfl trivial fun a112 h113 => ?_
  clear h109
  refine nd_op ?_
  refine op_read (b := mb) (v := .pointer (some ⟨Z.mc, 0, none⟩)) h113 rfl rfl (rd_m h113 (k := 1) (v := .pointer (some ⟨Z.mc, 0, none⟩)) rfl rfl rfl rfl (md_p ⟨rfl, trivial⟩)) ?_
  have h114 := h113.put (d := some 317) (v := .pointer (some ⟨Z.mc, 0, none⟩)) (T' := [(317, .pointer (some ⟨Z.mc, 0, none⟩)), (6, .pointer (some ⟨b14, 0, none⟩)), (3, .pointer (some ⟨b2, 0, none⟩)), (0, .pointer (some ⟨mb, 0, none⟩)), (1, .agg #[.int .u8 10, .int .u32 ev.pick, .int .u64 ev.draw, .int .u32 ev.addr, .int .u32 ev.node, .int .u32 ev.dst, .int .u32 ev.xfer, .int .u8 3, .int .u64 ev.arg, .int .u64 ev.badge, .slice xo ev.ws.length cx]), (4, .int .u8 0), (5, .bool false), (7, .pointer (some ⟨(Z.tp x), 0, none⟩)), (53, .int .u8 10), (66, .bool false), (21, .int .u8 0), (22, .int .i64 s1), (24, .int .i64 s2), (25, .int .u8 0), (316, .pointer (some ⟨mb, 1, none⟩))]) rfl
  clear h113
  refine nd_batch tabOk2 tabZ_ok2 [(4, {})] [317, 6, 3, 0, 1, 4, 5, 7, 53, 66, 21, 22, 24, 25, 318] (T' := [(317, .pointer (some ⟨Z.mc, 0, none⟩)), (6, .pointer (some ⟨b14, 0, none⟩)), (3, .pointer (some ⟨b2, 0, none⟩)), (0, .pointer (some ⟨mb, 0, none⟩)), (1, .agg #[.int .u8 10, .int .u32 ev.pick, .int .u64 ev.draw, .int .u32 ev.addr, .int .u32 ev.node, .int .u32 ev.dst, .int .u32 ev.xfer, .int .u8 3, .int .u64 ev.arg, .int .u64 ev.badge, .slice xo ev.ws.length cx]), (4, .int .u8 0), (5, .bool false), (7, .pointer (some ⟨(Z.tp x), 0, none⟩)), (53, .int .u8 10), (66, .bool false), (21, .int .u8 0), (22, .int .i64 s1), (24, .int .i64 s2), (25, .int .u8 0), (318, .int .i64 s2)]) (φ := True) (rest := [5, 6, 7]) h114 (by kernel_rfl) rfl trivial fun a115 h116 => ?_
  clear h114
  refine nd_op ?_
  obtain ⟨i2, j2, hi2, hj2, hp2, hs2⟩ := look_fact hI.ci hci.1 he.dst.1 e2 rfl
  refine op_call h116 rfl rfl rfl (callOk Tryd.func62 (by decide) rfl) (args := [.pointer (some ⟨Z.mc, 0, none⟩), .int .i64 s2]) rfl (atE Z.mo Z.mc Z.nd C hi2 hj2 hp2 hs2 _ h116.inv.1.cp) ?_
  rintro _ w117 ⟨rfl, hf119⟩
  refine ⟨_, rfl, ?_⟩
  have h118 := (h116.grow hf119).put (d := some 319) (v := .agg #[.int .u8 ((C.cel s2.toNat).cap.ty), .int .u16 ((C.cel s2.toNat).cap.obj.idx), .int .u32 ((C.cel s2.toNat).cap.obj.gen), .int .u8 ((C.cel s2.toNat).cap.rights), .int .u64 ((C.cel s2.toNat).cap.badge)]) (T' := [(319, .agg #[.int .u8 ((C.cel s2.toNat).cap.ty), .int .u16 ((C.cel s2.toNat).cap.obj.idx), .int .u32 ((C.cel s2.toNat).cap.obj.gen), .int .u8 ((C.cel s2.toNat).cap.rights), .int .u64 ((C.cel s2.toNat).cap.badge)]), (317, .pointer (some ⟨Z.mc, 0, none⟩)), (6, .pointer (some ⟨b14, 0, none⟩)), (3, .pointer (some ⟨b2, 0, none⟩)), (0, .pointer (some ⟨mb, 0, none⟩)), (1, .agg #[.int .u8 10, .int .u32 ev.pick, .int .u64 ev.draw, .int .u32 ev.addr, .int .u32 ev.node, .int .u32 ev.dst, .int .u32 ev.xfer, .int .u8 3, .int .u64 ev.arg, .int .u64 ev.badge, .slice xo ev.ws.length cx]), (4, .int .u8 0), (5, .bool false), (7, .pointer (some ⟨(Z.tp x), 0, none⟩)), (53, .int .u8 10), (66, .bool false), (21, .int .u8 0), (22, .int .i64 s1), (24, .int .i64 s2), (25, .int .u8 0), (318, .int .i64 s2)]) rfl
  clear h116
  refine nd_batch tabOk2 tabZ_ok2 [(6, {}), (7, {})] [6, 3, 0, 1, 4, 5, 7, 53, 66, 21, 22, 24, 25, 321] (T' := [(6, .pointer (some ⟨b14, 0, none⟩)), (3, .pointer (some ⟨b2, 0, none⟩)), (0, .pointer (some ⟨mb, 0, none⟩)), (1, .agg #[.int .u8 10, .int .u32 ev.pick, .int .u64 ev.draw, .int .u32 ev.addr, .int .u32 ev.node, .int .u32 ev.dst, .int .u32 ev.xfer, .int .u8 3, .int .u64 ev.arg, .int .u64 ev.badge, .slice xo ev.ws.length cx]), (4, .int .u8 0), (5, .bool false), (7, .pointer (some ⟨(Z.tp x), 0, none⟩)), (53, .int .u8 10), (66, .bool false), (21, .int .u8 0), (22, .int .i64 s1), (24, .int .i64 s2), (25, .int .u8 0), (321, .bool ((C.cel s2.toNat).cap.ty != 0))]) (φ := True) (rest := []) h118 (by kernel_rfl) rfl trivial fun a120 h121 => ?_
  clear h118
  refine nd_done ?_
  refine hK111 _ _ ?_
  clear hK111
  refine c_split h121 (b := ((C.cel s2.toNat).cap.ty != 0)) rfl (fun hc122 => ?_) (fun hc122 => ?_)
  ·
    have hc122f : (C.cel s2.toNat).cap.ty ≠ 0 := by simpa using hc122
    exact absurd (hz2) (by first | exact hc122f | (intro hz; exact hc122f hz) | omega | simp_all)
  ·
    have hc122f : (C.cel s2.toNat).cap.ty = 0 := by simpa using hc122
    refine wp_skip ?_
    refine hK110 _ _ ?_
    clear hK110
    refine wp_seq_k fun K123 hK123 => ?_
    refine wp_seq_k fun K124 hK124 => ?_
    refine nd_start (l := [0, 1, 2, 3, 4, 5, 6, 7, 8, 9, 10, 11, 12, 13, 14, 15, 16, 17]) rfl ?_
    refine nd_batch tabOk2 tabZ_ok2 [(0, {}), (1, {k := 1}), (2, {}), (3, {}), (4, {}), (5, {k := 1}), (6, {}), (7, {}), (8, {}), (9, {}), (10, {}), (11, {}), (12, {}), (13, {}), (14, {}), (15, {}), (16, {}), (17, {})] [6, 3, 0, 1, 4, 5, 7, 53, 66, 21, 22, 24, 25, 339] (T' := [(6, .pointer (some ⟨b14, 0, none⟩)), (3, .pointer (some ⟨b2, 0, none⟩)), (0, .pointer (some ⟨mb, 0, none⟩)), (1, .agg #[.int .u8 10, .int .u32 ev.pick, .int .u64 ev.draw, .int .u32 ev.addr, .int .u32 ev.node, .int .u32 ev.dst, .int .u32 ev.xfer, .int .u8 3, .int .u64 ev.arg, .int .u64 ev.badge, .slice xo ev.ws.length cx]), (4, .int .u8 0), (5, .bool false), (7, .pointer (some ⟨(Z.tp x), 0, none⟩)), (53, .int .u8 10), (66, .bool false), (21, .int .u8 0), (22, .int .i64 s1), (24, .int .i64 s2), (25, .int .u8 0), (339, .bool false)]) (φ := (b2 = b2 ∧ Nat.ble (7 + 1) 11 = true) ∧ (b2 = b2 ∧ Nat.ble (7 + 1) 11 = true) ∧ True) (rest := []) h121 (by kernel_rfl) rfl ⟨⟨rfl, rfl⟩, ⟨rfl, rfl⟩, trivial⟩ fun a125 h126 => ?_
    clear h121
    refine nd_done ?_
    refine hK124 _ _ ?_
    clear hK124
    refine c_false h126 rfl ?_
    refine wp_skip ?_
    refine hK123 _ _ ?_
    clear hK123
    refine wp_seq_k fun K127 hK127 => ?_
    refine dr_start (KB := [3, b2, b14, b75, mb]) (Bi := [[0, 1, 2, 3, 4], [0, 1, 2, 3, 4], [0, 1, 2, 3, 4], [0, 1, 2, 3, 4], [0, 1, 2, 3, 4], [0, 1, 2, 3, 4], [], [0, 1, 2, 3, 4], [0, 1, 2, 3, 4], [0, 1, 2, 3, 4], [1, 4], [], [0, 1, 2, 3, 4]]) mixed h126 fun w128 h129 => ?_
    clear h126
    refine dr_batch tabOk2 tabZ_ok2 (by repeat (first | with_reducible exact PF.body | with_reducible apply PF.inB | with_reducible apply PF.next)) [(0, {}), (1, {}), (2, {})] [6, 3, 0, 1, 4, 5, 7, 53, 66, 21, 22, 24, 25, 343] (T' := [(6, .pointer (some ⟨b14, 0, none⟩)), (3, .pointer (some ⟨b2, 0, none⟩)), (0, .pointer (some ⟨mb, 0, none⟩)), (1, .agg #[.int .u8 10, .int .u32 ev.pick, .int .u64 ev.draw, .int .u32 ev.addr, .int .u32 ev.node, .int .u32 ev.dst, .int .u32 ev.xfer, .int .u8 3, .int .u64 ev.arg, .int .u64 ev.badge, .slice xo ev.ws.length cx]), (4, .int .u8 0), (5, .bool false), (7, .pointer (some ⟨(Z.tp x), 0, none⟩)), (53, .int .u8 10), (66, .bool false), (21, .int .u8 0), (22, .int .i64 s1), (24, .int .i64 s2), (25, .int .u8 0), (343, .pointer (some ⟨mb, 0, none⟩))]) (φ := True) (fuel := 10) h129 (by kernel_rfl) rfl (by kernel_rfl) (by kernel_rfl) ⟨trivial, trivial, trivial, trivial⟩ trivial fun a131 h132 => ?_
    clear h129
    refine dr_read (i := 3) (b := mb) (p := 4) (v := .pointer (some ⟨Z.mo, 0, none⟩)) (fuel := 9) (by repeat (first | with_reducible exact PF.body | with_reducible apply PF.inB | with_reducible apply PF.next)) h132 rfl rfl rfl (by kernel_rfl) (by kernel_rfl) (by kernel_rfl) rfl (rd_m h132 (k := 0) (v := .pointer (some ⟨Z.mo, 0, none⟩)) rfl rfl rfl rfl (md_p ⟨rfl, trivial⟩)) ?_
    have h133 := h132.put (d := some 344) (v := .pointer (some ⟨Z.mo, 0, none⟩)) (T' := [(344, .pointer (some ⟨Z.mo, 0, none⟩)), (6, .pointer (some ⟨b14, 0, none⟩)), (3, .pointer (some ⟨b2, 0, none⟩)), (0, .pointer (some ⟨mb, 0, none⟩)), (1, .agg #[.int .u8 10, .int .u32 ev.pick, .int .u64 ev.draw, .int .u32 ev.addr, .int .u32 ev.node, .int .u32 ev.dst, .int .u32 ev.xfer, .int .u8 3, .int .u64 ev.arg, .int .u64 ev.badge, .slice xo ev.ws.length cx]), (4, .int .u8 0), (5, .bool false), (7, .pointer (some ⟨(Z.tp x), 0, none⟩)), (53, .int .u8 10), (66, .bool false), (21, .int .u8 0), (22, .int .i64 s1), (24, .int .i64 s2), (25, .int .u8 0), (343, .pointer (some ⟨mb, 0, none⟩))]) rfl
    clear h132
    refine dr_batch tabOk2 tabZ_ok2 (by repeat (first | with_reducible exact PF.body | with_reducible apply PF.inB | with_reducible apply PF.next)) [(4, {}), (5, {k := 1, p := 1})] [344, 6, 3, 0, 1, 4, 5, 7, 53, 66, 21, 22, 24, 25, 346] (T' := [(344, .pointer (some ⟨Z.mo, 0, none⟩)), (6, .pointer (some ⟨b14, 0, none⟩)), (3, .pointer (some ⟨b2, 0, none⟩)), (0, .pointer (some ⟨mb, 0, none⟩)), (1, .agg #[.int .u8 10, .int .u32 ev.pick, .int .u64 ev.draw, .int .u32 ev.addr, .int .u32 ev.node, .int .u32 ev.dst, .int .u32 ev.xfer, .int .u8 3, .int .u64 ev.arg, .int .u64 ev.badge, .slice xo ev.ws.length cx]), (4, .int .u8 0), (5, .bool false), (7, .pointer (some ⟨(Z.tp x), 0, none⟩)), (53, .int .u8 10), (66, .bool false), (21, .int .u8 0), (22, .int .i64 s1), (24, .int .i64 s2), (25, .int .u8 0), (346, .int .u8 3)]) (φ := (b2 = b2 ∧ Nat.ble (7 + 1) 11 = true) ∧ True) (fuel := 7) h133 (by kernel_rfl) rfl (by kernel_rfl) (by kernel_rfl) ⟨trivial, rfl, trivial⟩ ⟨⟨rfl, rfl⟩, trivial⟩ fun a134 h135 => ?_
    clear h133
    refine wpAnyK_two (i := 6) (j := 10) (fuel := 6) (by kernel_rfl) ?_ ?_
    ·
      refine op_call h135 rfl rfl rfl (callOk Tryd.func37 (by decide) rfl) (args := [.pointer (some ⟨Z.mo, 0, none⟩), .int .u8 3]) rfl (retypeC_ok Z.mo Z.mc Z.nd C 3 (by decide) _ h135.inv.1.cp er) ?_
      rintro _ w136 ⟨rfl, hc137, hf138⟩
      refine ⟨_, rfl, ?_⟩
      have h139a := st_cap h135 hc137 hf138 (fun b hb => .inl hb) (kcons (fun _ => rfl) (kcons (fun hq => by cases hq) (kcons (fun hq => by cases hq) (kcons (fun hq => by cases hq) knil))))
      have h139 := h139a.put (d := some 347) (v := .tuple #[.agg #[.int .u16 ((Z.ky o).idx), .int .u32 ((Z.ky o).gen)], .int .u8 0]) (T' := [(347, .tuple #[.agg #[.int .u16 ((Z.ky o).idx), .int .u32 ((Z.ky o).gen)], .int .u8 0]), (344, .pointer (some ⟨Z.mo, 0, none⟩)), (6, .pointer (some ⟨b14, 0, none⟩)), (3, .pointer (some ⟨b2, 0, none⟩)), (0, .pointer (some ⟨mb, 0, none⟩)), (1, .agg #[.int .u8 10, .int .u32 ev.pick, .int .u64 ev.draw, .int .u32 ev.addr, .int .u32 ev.node, .int .u32 ev.dst, .int .u32 ev.xfer, .int .u8 3, .int .u64 ev.arg, .int .u64 ev.badge, .slice xo ev.ws.length cx]), (4, .int .u8 0), (5, .bool false), (7, .pointer (some ⟨(Z.tp x), 0, none⟩)), (53, .int .u8 10), (66, .bool false), (21, .int .u8 0), (22, .int .i64 s1), (24, .int .i64 s2), (25, .int .u8 0), (346, .int .u8 3)]) rfl
      refine ⟨keepNil, ?_⟩
      clear h135 h139a
      refine dr_batch tabOk2 tabZ_ok2 (by repeat (first | with_reducible exact PF.body | with_reducible apply PF.inB | with_reducible apply PF.next)) [(7, {}), (8, {}), (9, {})] [6, 3, 0, 1, 4, 5, 7, 53, 66, 21, 22, 24, 25, 348, 349] (T' := [(6, .pointer (some ⟨b14, 0, none⟩)), (3, .pointer (some ⟨b2, 0, none⟩)), (0, .pointer (some ⟨mb, 0, none⟩)), (1, .agg #[.int .u8 10, .int .u32 ev.pick, .int .u64 ev.draw, .int .u32 ev.addr, .int .u32 ev.node, .int .u32 ev.dst, .int .u32 ev.xfer, .int .u8 3, .int .u64 ev.arg, .int .u64 ev.badge, .slice xo ev.ws.length cx]), (4, .int .u8 0), (5, .bool false), (7, .pointer (some ⟨(Z.tp x), 0, none⟩)), (53, .int .u8 10), (66, .bool false), (21, .int .u8 0), (22, .int .i64 s1), (24, .int .i64 s2), (25, .int .u8 0), (348, .agg #[.int .u16 ((Z.ky o).idx), .int .u32 ((Z.ky o).gen)]), (349, .int .u8 0)]) (φ := True) (fuel := 3) h139 (by kernel_rfl) rfl (by kernel_rfl) (by kernel_rfl) ⟨trivial, trivial, trivial, trivial⟩ trivial fun a140 h141 => ?_
      clear h139
      refine wpAnyK_one (i := 10) (fuel := 2) (by kernel_rfl) ?_
      refine op_new tabOk2 (cells := [.int .u16 0, .int .u32 0]) (ty := 39) (ln := none) (L1 := fun b142 => [(3, ⟨[.int .u16 0, .int .u32 0], ty3, true⟩), (b2, ⟨[.int .u8 10, .int .u32 ev.pick, .int .u64 ev.draw, .int .u32 ev.addr, .int .u32 ev.node, .int .u32 ev.dst, .int .u32 ev.xfer, .int .u8 3, .int .u64 ev.arg, .int .u64 ev.badge, .slice xo ev.ws.length cx], 35, false⟩), (b14, ⟨[.int .u16 ((Z.ky x).idx), .int .u32 ((Z.ky x).gen)], 39, false⟩), (b75, ⟨[.int .u8 c.ty, .int .u16 c.obj.idx, .int .u32 c.obj.gen, .int .u8 c.rights, .int .u64 c.badge], 49, false⟩), (b142, ⟨[.int .u16 0, .int .u32 0], 39, false⟩)]) h141 rfl rfl rfl rfl (by kernel_rfl) (fun _ => rfl) fun b142 w143 a144 h145 hf146 hn147 => ?_
      refine ⟨(keepCons (kpLf h141.known hf146 (q := 1) rfl) (keepCons (kpM h141.inv.1 (l := .m) trivial (List.mem_cons_self ..) hf146) keepNil)), ?_⟩
      clear h141
      refine wpAnyK_one (i := 11) (fuel := 1) (by kernel_rfl) ?_
      refine op_store tabOk2 {k := 4} (L' := [(3, ⟨[.int .u16 0, .int .u32 0], ty3, true⟩), (b2, ⟨[.int .u8 10, .int .u32 ev.pick, .int .u64 ev.draw, .int .u32 ev.addr, .int .u32 ev.node, .int .u32 ev.dst, .int .u32 ev.xfer, .int .u8 3, .int .u64 ev.arg, .int .u64 ev.badge, .slice xo ev.ws.length cx], 35, false⟩), (b14, ⟨[.int .u16 ((Z.ky x).idx), .int .u32 ((Z.ky x).gen)], 39, false⟩), (b75, ⟨[.int .u8 c.ty, .int .u16 c.obj.idx, .int .u32 c.obj.gen, .int .u8 c.rights, .int .u64 c.badge], 49, false⟩), (b142, ⟨[.int .u16 ((Z.ky o).idx), .int .u32 ((Z.ky o).gen)], 39, false⟩)]) (φ := b142 = b142 ∧ Nat.ble (0 + 2) 2 = true) h145 rfl rfl rfl (by kernel_rfl) ⟨rfl, rfl⟩ fun w148 h149 => ?_
      refine ⟨keepNil, ?_⟩
      clear h145
      refine dr_batch tabOk2 tabZ_ok2 (by repeat (first | with_reducible exact PF.body | with_reducible apply PF.inB | with_reducible apply PF.next)) [(12, {})] [26, 6, 3, 0, 1, 4, 5, 7, 53, 66, 21, 22, 24, 25] (T' := [(26, .pointer (some ⟨b142, 0, none⟩)), (6, .pointer (some ⟨b14, 0, none⟩)), (3, .pointer (some ⟨b2, 0, none⟩)), (0, .pointer (some ⟨mb, 0, none⟩)), (1, .agg #[.int .u8 10, .int .u32 ev.pick, .int .u64 ev.draw, .int .u32 ev.addr, .int .u32 ev.node, .int .u32 ev.dst, .int .u32 ev.xfer, .int .u8 3, .int .u64 ev.arg, .int .u64 ev.badge, .slice xo ev.ws.length cx]), (4, .int .u8 0), (5, .bool false), (7, .pointer (some ⟨(Z.tp x), 0, none⟩)), (53, .int .u8 10), (66, .bool false), (21, .int .u8 0), (22, .int .i64 s1), (24, .int .i64 s2), (25, .int .u8 0)]) (φ := True) (fuel := 0) h149 (by kernel_rfl) rfl (by kernel_rfl) (by kernel_rfl) ⟨trivial, trivial⟩ trivial fun a150 h151 => ?_
      clear h149
      refine wpAnyK_done (by kernel_rfl) ?_ _
      refine hK127 _ _ ?_
      clear hK127
      refine wp_seq_k fun K152 hK152 => ?_
      refine wp_seq_k fun K153 hK153 => ?_
      refine nd_start (l := [0, 1]) rfl ?_
      refine nd_batch tabOk2 tabZ_ok2 [(0, {}), (1, {})] [26, 6, 3, 0, 1, 4, 5, 7, 53, 66, 21, 22, 24, 25, 351] (T' := [(26, .pointer (some ⟨b142, 0, none⟩)), (6, .pointer (some ⟨b14, 0, none⟩)), (3, .pointer (some ⟨b2, 0, none⟩)), (0, .pointer (some ⟨mb, 0, none⟩)), (1, .agg #[.int .u8 10, .int .u32 ev.pick, .int .u64 ev.draw, .int .u32 ev.addr, .int .u32 ev.node, .int .u32 ev.dst, .int .u32 ev.xfer, .int .u8 3, .int .u64 ev.arg, .int .u64 ev.badge, .slice xo ev.ws.length cx]), (4, .int .u8 0), (5, .bool false), (7, .pointer (some ⟨(Z.tp x), 0, none⟩)), (53, .int .u8 10), (66, .bool false), (21, .int .u8 0), (22, .int .i64 s1), (24, .int .i64 s2), (25, .int .u8 0), (351, .bool false)]) (φ := True) (rest := []) h151 (by kernel_rfl) rfl trivial fun a154 h155 => ?_
      clear h151
      refine nd_done ?_
      refine hK153 _ _ ?_
      clear hK153
      refine c_false h155 rfl ?_
      refine wp_skip ?_
      refine hK152 _ _ ?_
      clear hK152
      refine wp_seq_k fun K156 hK156 => ?_
      refine wp_seq_k fun K157 hK157 => ?_
      refine nd_start (l := [0, 1]) rfl ?_
      refine nd_batch tabOk2 tabZ_ok2 [(0, {}), (1, {k := 1})] [26, 6, 3, 0, 1, 4, 5, 7, 53, 66, 21, 22, 24, 25, 354] (T' := [(26, .pointer (some ⟨b142, 0, none⟩)), (6, .pointer (some ⟨b14, 0, none⟩)), (3, .pointer (some ⟨b2, 0, none⟩)), (0, .pointer (some ⟨mb, 0, none⟩)), (1, .agg #[.int .u8 10, .int .u32 ev.pick, .int .u64 ev.draw, .int .u32 ev.addr, .int .u32 ev.node, .int .u32 ev.dst, .int .u32 ev.xfer, .int .u8 3, .int .u64 ev.arg, .int .u64 ev.badge, .slice xo ev.ws.length cx]), (4, .int .u8 0), (5, .bool false), (7, .pointer (some ⟨(Z.tp x), 0, none⟩)), (53, .int .u8 10), (66, .bool false), (21, .int .u8 0), (22, .int .i64 s1), (24, .int .i64 s2), (25, .int .u8 0), (354, .int .u8 3)]) (φ := (b2 = b2 ∧ Nat.ble (7 + 1) 11 = true) ∧ True) (rest := []) h155 (by kernel_rfl) rfl ⟨⟨rfl, rfl⟩, trivial⟩ fun a158 h159 => ?_
      clear h155
      refine nd_done ?_
      refine hK157 _ _ ?_
      clear hK157
      refine wp_block ?_
      refine wp_seq_k fun K160 hK160 => ?_
      refine nd_start (l := [0, 1]) rfl ?_
      refine nd_batch tabOk2 tabZ_ok2 [(0, {}), (1, {})] [26, 6, 3, 0, 1, 4, 5, 7, 53, 66, 21, 22, 24, 25, 354, 360] (T' := [(26, .pointer (some ⟨b142, 0, none⟩)), (6, .pointer (some ⟨b14, 0, none⟩)), (3, .pointer (some ⟨b2, 0, none⟩)), (0, .pointer (some ⟨mb, 0, none⟩)), (1, .agg #[.int .u8 10, .int .u32 ev.pick, .int .u64 ev.draw, .int .u32 ev.addr, .int .u32 ev.node, .int .u32 ev.dst, .int .u32 ev.xfer, .int .u8 3, .int .u64 ev.arg, .int .u64 ev.badge, .slice xo ev.ws.length cx]), (4, .int .u8 0), (5, .bool false), (7, .pointer (some ⟨(Z.tp x), 0, none⟩)), (53, .int .u8 10), (66, .bool false), (21, .int .u8 0), (22, .int .i64 s1), (24, .int .i64 s2), (25, .int .u8 0), (354, .int .u8 3), (360, .bool false)]) (φ := True) (rest := []) h159 (by kernel_rfl) rfl trivial fun a161 h162 => ?_
      clear h159
      refine nd_done ?_
      refine hK160 _ _ ?_
      clear hK160
      refine c_false h162 rfl ?_
      refine wp_seq_k fun K163 hK163 => ?_
      refine nd_start (l := [0, 1]) rfl ?_
      refine nd_batch tabOk2 tabZ_ok2 [(0, {}), (1, {})] [26, 6, 3, 0, 1, 4, 5, 7, 53, 66, 21, 22, 24, 25, 354, 368] (T' := [(26, .pointer (some ⟨b142, 0, none⟩)), (6, .pointer (some ⟨b14, 0, none⟩)), (3, .pointer (some ⟨b2, 0, none⟩)), (0, .pointer (some ⟨mb, 0, none⟩)), (1, .agg #[.int .u8 10, .int .u32 ev.pick, .int .u64 ev.draw, .int .u32 ev.addr, .int .u32 ev.node, .int .u32 ev.dst, .int .u32 ev.xfer, .int .u8 3, .int .u64 ev.arg, .int .u64 ev.badge, .slice xo ev.ws.length cx]), (4, .int .u8 0), (5, .bool false), (7, .pointer (some ⟨(Z.tp x), 0, none⟩)), (53, .int .u8 10), (66, .bool false), (21, .int .u8 0), (22, .int .i64 s1), (24, .int .i64 s2), (25, .int .u8 0), (354, .int .u8 3), (368, .bool true)]) (φ := True) (rest := []) h162 (by kernel_rfl) rfl trivial fun a164 h165 => ?_
      clear h162
      refine nd_done ?_
      refine hK163 _ _ ?_
      clear hK163
      refine c_true h165 rfl ?_
      refine dr_start (KB := [3, b2, b14, b75, b142, mb]) (Bi := [[0, 1, 2, 3, 4, 5], [0, 1, 2, 3, 4, 5], [0, 1, 2, 3, 4, 5], [0, 1, 2, 3, 4, 5], [0, 1, 2, 3, 4, 5], [0, 1, 2, 3, 4, 5], [4, 5], []]) mixed h165 fun w166 h167 => ?_
      clear h165
      refine dr_batch tabOk2 tabZ_ok2 (by repeat (first | with_reducible exact PF.body | with_reducible apply PF.inB | with_reducible apply PF.next)) [(0, {}), (1, {}), (2, {})] [26, 6, 3, 0, 1, 4, 5, 7, 53, 66, 21, 22, 24, 25, 354, 372] (T' := [(26, .pointer (some ⟨b142, 0, none⟩)), (6, .pointer (some ⟨b14, 0, none⟩)), (3, .pointer (some ⟨b2, 0, none⟩)), (0, .pointer (some ⟨mb, 0, none⟩)), (1, .agg #[.int .u8 10, .int .u32 ev.pick, .int .u64 ev.draw, .int .u32 ev.addr, .int .u32 ev.node, .int .u32 ev.dst, .int .u32 ev.xfer, .int .u8 3, .int .u64 ev.arg, .int .u64 ev.badge, .slice xo ev.ws.length cx]), (4, .int .u8 0), (5, .bool false), (7, .pointer (some ⟨(Z.tp x), 0, none⟩)), (53, .int .u8 10), (66, .bool false), (21, .int .u8 0), (22, .int .i64 s1), (24, .int .i64 s2), (25, .int .u8 0), (354, .int .u8 3), (372, .pointer (some ⟨mb, 2, none⟩))]) (φ := True) (fuel := 5) h167 (by kernel_rfl) rfl (by kernel_rfl) (by kernel_rfl) ⟨trivial, trivial, trivial, trivial⟩ trivial fun a169 h170 => ?_
      clear h167
      refine dr_read (i := 3) (b := mb) (p := 5) (v := .map (some Z.tb)) (fuel := 4) (by repeat (first | with_reducible exact PF.body | with_reducible apply PF.inB | with_reducible apply PF.next)) h170 rfl rfl rfl (by kernel_rfl) (by kernel_rfl) (by kernel_rfl) rfl (rd_m h170 (k := 2) (v := .map (some Z.tb)) rfl rfl rfl rfl (md_p ⟨rfl, trivial⟩)) ?_
      have h171 := h170.put (d := some 373) (v := .map (some Z.tb)) (T' := [(373, .map (some Z.tb)), (26, .pointer (some ⟨b142, 0, none⟩)), (6, .pointer (some ⟨b14, 0, none⟩)), (3, .pointer (some ⟨b2, 0, none⟩)), (0, .pointer (some ⟨mb, 0, none⟩)), (1, .agg #[.int .u8 10, .int .u32 ev.pick, .int .u64 ev.draw, .int .u32 ev.addr, .int .u32 ev.node, .int .u32 ev.dst, .int .u32 ev.xfer, .int .u8 3, .int .u64 ev.arg, .int .u64 ev.badge, .slice xo ev.ws.length cx]), (4, .int .u8 0), (5, .bool false), (7, .pointer (some ⟨(Z.tp x), 0, none⟩)), (53, .int .u8 10), (66, .bool false), (21, .int .u8 0), (22, .int .i64 s1), (24, .int .i64 s2), (25, .int .u8 0), (354, .int .u8 3), (372, .pointer (some ⟨mb, 2, none⟩))]) rfl
      clear h170
      refine dr_batch tabOk2 tabZ_ok2 (by repeat (first | with_reducible exact PF.body | with_reducible apply PF.inB | with_reducible apply PF.next)) [(4, {k := 4, p := 4}), (5, {})] [373, 26, 6, 3, 0, 1, 4, 5, 7, 53, 66, 21, 22, 24, 25, 354, 374, 375] (T' := [(373, .map (some Z.tb)), (26, .pointer (some ⟨b142, 0, none⟩)), (6, .pointer (some ⟨b14, 0, none⟩)), (3, .pointer (some ⟨b2, 0, none⟩)), (0, .pointer (some ⟨mb, 0, none⟩)), (1, .agg #[.int .u8 10, .int .u32 ev.pick, .int .u64 ev.draw, .int .u32 ev.addr, .int .u32 ev.node, .int .u32 ev.dst, .int .u32 ev.xfer, .int .u8 3, .int .u64 ev.arg, .int .u64 ev.badge, .slice xo ev.ws.length cx]), (4, .int .u8 0), (5, .bool false), (7, .pointer (some ⟨(Z.tp x), 0, none⟩)), (53, .int .u8 10), (66, .bool false), (21, .int .u8 0), (22, .int .i64 s1), (24, .int .i64 s2), (25, .int .u8 0), (354, .int .u8 3), (374, .agg #[.int .u16 ((Z.ky o).idx), .int .u32 ((Z.ky o).gen)]), (375, .agg #[.int .u8 0, .int .u8 0, .int .u16 0, .int .u32 0, .int .u16 0, .int .u32 0, .int .u16 0, .int .u32 0, .int .u64 0, .int .u64 0, .int .u64 0, .int .u64 0, .int .u64 0, .int .u8 0, .int .u8 0, .int .u32 0, .int .u32 0, .bool false, .bool false])]) (φ := (b142 = b142 ∧ Nat.ble (0 + 2) 2 = true) ∧ True) (fuel := 2) h171 (by kernel_rfl) rfl (by kernel_rfl) (by kernel_rfl) ⟨rfl, trivial, trivial⟩ ⟨⟨rfl, rfl⟩, trivial⟩ fun a172 h173 => ?_
      clear h171
      refine wpAnyK_one (i := 6) (fuel := 1) (by kernel_rfl) ?_
      refine op_new tabOk2 (cells := [.int .u8 0, .int .u8 0, .int .u16 0, .int .u32 0, .int .u16 0, .int .u32 0, .int .u16 0, .int .u32 0, .int .u64 0, .int .u64 0, .int .u64 0, .int .u64 0, .int .u64 0, .int .u8 0, .int .u8 0, .int .u32 0, .int .u32 0, .bool false, .bool false]) (ty := 59) (ln := none) (L1 := fun b174 => [(3, ⟨[.int .u16 0, .int .u32 0], ty3, true⟩), (b2, ⟨[.int .u8 10, .int .u32 ev.pick, .int .u64 ev.draw, .int .u32 ev.addr, .int .u32 ev.node, .int .u32 ev.dst, .int .u32 ev.xfer, .int .u8 3, .int .u64 ev.arg, .int .u64 ev.badge, .slice xo ev.ws.length cx], 35, false⟩), (b14, ⟨[.int .u16 ((Z.ky x).idx), .int .u32 ((Z.ky x).gen)], 39, false⟩), (b75, ⟨[.int .u8 c.ty, .int .u16 c.obj.idx, .int .u32 c.obj.gen, .int .u8 c.rights, .int .u64 c.badge], 49, false⟩), (b142, ⟨[.int .u16 ((Z.ky o).idx), .int .u32 ((Z.ky o).gen)], 39, false⟩), (b174, ⟨[.int .u8 0, .int .u8 0, .int .u16 0, .int .u32 0, .int .u16 0, .int .u32 0, .int .u16 0, .int .u32 0, .int .u64 0, .int .u64 0, .int .u64 0, .int .u64 0, .int .u64 0, .int .u8 0, .int .u8 0, .int .u32 0, .int .u32 0, .bool false, .bool false], 59, false⟩)]) h173 rfl rfl rfl rfl (by kernel_rfl) (fun _ => rfl) fun b174 w175 a176 h177 hf178 hn179 => ?_
      refine ⟨(keepCons (kpLf h173.known hf178 (q := 4) rfl) (keepCons (kpM h173.inv.1 (l := .m) trivial (List.mem_cons_self ..) hf178) keepNil)), ?_⟩
      clear h173
      refine wpAnyK_one (i := 7) (fuel := 0) (by kernel_rfl) ?_
      refine op_mAddT (x := o) (b := b174) (L := [(3, ⟨[.int .u16 0, .int .u32 0], ty3, true⟩), (b2, ⟨[.int .u8 10, .int .u32 ev.pick, .int .u64 ev.draw, .int .u32 ev.addr, .int .u32 ev.node, .int .u32 ev.dst, .int .u32 ev.xfer, .int .u8 3, .int .u64 ev.arg, .int .u64 ev.badge, .slice xo ev.ws.length cx], 35, false⟩), (b14, ⟨[.int .u16 ((Z.ky x).idx), .int .u32 ((Z.ky x).gen)], 39, false⟩), (b75, ⟨[.int .u8 c.ty, .int .u16 c.obj.idx, .int .u32 c.obj.gen, .int .u8 c.rights, .int .u64 c.badge], 49, false⟩), (b142, ⟨[.int .u16 ((Z.ky o).idx), .int .u32 ((Z.ky o).gen)], 39, false⟩)]) h177 (by rw [ha0]; rfl) rfl rfl rfl rfl rfl rfl hon ho2 (by have hq := h177.nodup; simp at hq; omega) (kcons (fun _ => rfl) (kcons (fun hq => by cases hq) (kcons (fun hq => by cases hq) (kcons (fun hq => by cases hq) (kcons (fun hq => by cases hq) knil))))) fun w180 hf181 h182a => ?_
      have h182 := h182a.put (d := none) (v := undef) (T' := [(376, .pointer (some ⟨b174, 0, none⟩)), (373, .map (some Z.tb)), (26, .pointer (some ⟨b142, 0, none⟩)), (6, .pointer (some ⟨b14, 0, none⟩)), (3, .pointer (some ⟨b2, 0, none⟩)), (0, .pointer (some ⟨mb, 0, none⟩)), (1, .agg #[.int .u8 10, .int .u32 ev.pick, .int .u64 ev.draw, .int .u32 ev.addr, .int .u32 ev.node, .int .u32 ev.dst, .int .u32 ev.xfer, .int .u8 3, .int .u64 ev.arg, .int .u64 ev.badge, .slice xo ev.ws.length cx]), (4, .int .u8 0), (5, .bool false), (7, .pointer (some ⟨(Z.tp x), 0, none⟩)), (53, .int .u8 10), (66, .bool false), (21, .int .u8 0), (22, .int .i64 s1), (24, .int .i64 s2), (25, .int .u8 0), (354, .int .u8 3), (374, .agg #[.int .u16 ((Z.ky o).idx), .int .u32 ((Z.ky o).gen)]), (375, .agg #[.int .u8 0, .int .u8 0, .int .u16 0, .int .u32 0, .int .u16 0, .int .u32 0, .int .u16 0, .int .u32 0, .int .u64 0, .int .u64 0, .int .u64 0, .int .u64 0, .int .u64 0, .int .u8 0, .int .u8 0, .int .u32 0, .int .u32 0, .bool false, .bool false])]) rfl
      refine ⟨keepNil, ?_⟩
      clear h177 h182a
      refine wpAnyK_done (by kernel_rfl) ?_ _
      refine hK156 _ _ ?_
      clear hK156
      refine wp_seq_k fun K183 hK183 => ?_
      refine dr_start (KB := [3, b2, b14, b75, b142, mb]) (Bi := [[0, 1, 2, 3, 4, 5], [0, 1, 2, 3, 4, 5], [0, 1, 2, 3, 4, 5], [0, 1, 2, 3, 4, 5], [0, 1, 2, 3, 4, 5], [0, 1, 2, 3, 4, 5], [0, 1, 2, 3, 4, 5], [0, 1, 2, 3, 4, 5], [0, 1, 2, 3, 4, 5], [0, 1, 2, 3, 4, 5], []]) mixed h182 fun w184 h185 => ?_
      clear h182
      refine dr_batch tabOk2 tabZ_ok2 (by repeat (first | with_reducible exact PF.body | with_reducible apply PF.inB | with_reducible apply PF.next)) [(0, {}), (1, {}), (2, {})] [26, 6, 3, 0, 1, 4, 5, 7, 53, 66, 21, 22, 24, 25, 354, 379] (T' := [(26, .pointer (some ⟨b142, 0, none⟩)), (6, .pointer (some ⟨b14, 0, none⟩)), (3, .pointer (some ⟨b2, 0, none⟩)), (0, .pointer (some ⟨mb, 0, none⟩)), (1, .agg #[.int .u8 10, .int .u32 ev.pick, .int .u64 ev.draw, .int .u32 ev.addr, .int .u32 ev.node, .int .u32 ev.dst, .int .u32 ev.xfer, .int .u8 3, .int .u64 ev.arg, .int .u64 ev.badge, .slice xo ev.ws.length cx]), (4, .int .u8 0), (5, .bool false), (7, .pointer (some ⟨(Z.tp x), 0, none⟩)), (53, .int .u8 10), (66, .bool false), (21, .int .u8 0), (22, .int .i64 s1), (24, .int .i64 s2), (25, .int .u8 0), (354, .int .u8 3), (379, .pointer (some ⟨mb, 1, none⟩))]) (φ := True) (fuel := 8) h185 (by kernel_rfl) rfl (by kernel_rfl) (by kernel_rfl) ⟨trivial, trivial, trivial, trivial⟩ trivial fun a187 h188 => ?_
      clear h185
      refine dr_read (i := 3) (b := mb) (p := 5) (v := .pointer (some ⟨Z.mc, 0, none⟩)) (fuel := 7) (by repeat (first | with_reducible exact PF.body | with_reducible apply PF.inB | with_reducible apply PF.next)) h188 rfl rfl rfl (by kernel_rfl) (by kernel_rfl) (by kernel_rfl) rfl (rd_m h188 (k := 1) (v := .pointer (some ⟨Z.mc, 0, none⟩)) rfl rfl rfl rfl (md_p ⟨rfl, trivial⟩)) ?_
      have h189 := h188.put (d := some 380) (v := .pointer (some ⟨Z.mc, 0, none⟩)) (T' := [(380, .pointer (some ⟨Z.mc, 0, none⟩)), (26, .pointer (some ⟨b142, 0, none⟩)), (6, .pointer (some ⟨b14, 0, none⟩)), (3, .pointer (some ⟨b2, 0, none⟩)), (0, .pointer (some ⟨mb, 0, none⟩)), (1, .agg #[.int .u8 10, .int .u32 ev.pick, .int .u64 ev.draw, .int .u32 ev.addr, .int .u32 ev.node, .int .u32 ev.dst, .int .u32 ev.xfer, .int .u8 3, .int .u64 ev.arg, .int .u64 ev.badge, .slice xo ev.ws.length cx]), (4, .int .u8 0), (5, .bool false), (7, .pointer (some ⟨(Z.tp x), 0, none⟩)), (53, .int .u8 10), (66, .bool false), (21, .int .u8 0), (22, .int .i64 s1), (24, .int .i64 s2), (25, .int .u8 0), (354, .int .u8 3), (379, .pointer (some ⟨mb, 1, none⟩))]) rfl
      clear h188
      refine dr_batch tabOk2 tabZ_ok2 (by repeat (first | with_reducible exact PF.body | with_reducible apply PF.inB | with_reducible apply PF.next)) [(4, {}), (5, {}), (6, {k := 1, p := 1}), (7, {k := 4, p := 4}), (8, {}), (9, {})] [380, 26, 6, 3, 0, 1, 4, 5, 7, 53, 66, 21, 22, 24, 25, 354, 381, 385, 386] (T' := [(380, .pointer (some ⟨Z.mc, 0, none⟩)), (26, .pointer (some ⟨b142, 0, none⟩)), (6, .pointer (some ⟨b14, 0, none⟩)), (3, .pointer (some ⟨b2, 0, none⟩)), (0, .pointer (some ⟨mb, 0, none⟩)), (1, .agg #[.int .u8 10, .int .u32 ev.pick, .int .u64 ev.draw, .int .u32 ev.addr, .int .u32 ev.node, .int .u32 ev.dst, .int .u32 ev.xfer, .int .u8 3, .int .u64 ev.arg, .int .u64 ev.badge, .slice xo ev.ws.length cx]), (4, .int .u8 0), (5, .bool false), (7, .pointer (some ⟨(Z.tp x), 0, none⟩)), (53, .int .u8 10), (66, .bool false), (21, .int .u8 0), (22, .int .i64 s1), (24, .int .i64 s2), (25, .int .u8 0), (354, .int .u8 3), (381, .int .i64 s2), (385, .agg #[.int .u8 3, .int .u16 ((Z.ky o).idx), .int .u32 ((Z.ky o).gen), .int .u8 7, .int .u64 0]), (386, .int .i64 s1)]) (φ := (b2 = b2 ∧ Nat.ble (7 + 1) 11 = true) ∧ (b142 = b142 ∧ Nat.ble (0 + 2) 2 = true) ∧ True) (fuel := 1) h189 (by kernel_rfl) rfl (by kernel_rfl) (by kernel_rfl) ⟨trivial, trivial, rfl, rfl, trivial, trivial, trivial⟩ ⟨⟨rfl, rfl⟩, ⟨rfl, rfl⟩, trivial⟩ fun a190 h191 => ?_
      clear h189
      refine wpAnyK_one (i := 10) (fuel := 0) (by kernel_rfl) ?_
      refine op_call h191 rfl rfl rfl (callOk Tryd.func40 (by decide) rfl) (args := [.pointer (some ⟨Z.mc, 0, none⟩), .int .i64 s2, .agg #[.int .u8 3, .int .u16 ((Z.ky o).idx), .int .u32 ((Z.ky o).gen), .int .u8 7, .int .u64 0], .int .i64 s1]) rfl (insertE Z.mo Z.mc _ ({ C with ent := E1 } : CP) hi2 hj2 hp2 hs2 ⟨3, Z.ky o, 7, 0⟩ s1 _ h191.inv.1.cp) ?_
      rintro _ w192 ⟨rfl, hc193, hf194⟩
      refine ⟨_, rfl, ?_⟩
      have h195a := st_cap h191 hc193 hf194 (fun b hb => .inl hb) (kcons (fun _ => rfl) (kcons (fun hq => by cases hq) (kcons (fun hq => by cases hq) (kcons (fun hq => by cases hq) (kcons (fun hq => by cases hq) knil)))))
      have h195 := h195a.put (d := some 387) (v := .tuple #[]) (T' := [(387, .tuple #[]), (380, .pointer (some ⟨Z.mc, 0, none⟩)), (26, .pointer (some ⟨b142, 0, none⟩)), (6, .pointer (some ⟨b14, 0, none⟩)), (3, .pointer (some ⟨b2, 0, none⟩)), (0, .pointer (some ⟨mb, 0, none⟩)), (1, .agg #[.int .u8 10, .int .u32 ev.pick, .int .u64 ev.draw, .int .u32 ev.addr, .int .u32 ev.node, .int .u32 ev.dst, .int .u32 ev.xfer, .int .u8 3, .int .u64 ev.arg, .int .u64 ev.badge, .slice xo ev.ws.length cx]), (4, .int .u8 0), (5, .bool false), (7, .pointer (some ⟨(Z.tp x), 0, none⟩)), (53, .int .u8 10), (66, .bool false), (21, .int .u8 0), (22, .int .i64 s1), (24, .int .i64 s2), (25, .int .u8 0), (354, .int .u8 3), (381, .int .i64 s2), (385, .agg #[.int .u8 3, .int .u16 ((Z.ky o).idx), .int .u32 ((Z.ky o).gen), .int .u8 7, .int .u64 0]), (386, .int .i64 s1)]) rfl
      refine ⟨keepNil, ?_⟩
      clear h191 h195a
      refine wpAnyK_done (by kernel_rfl) ?_ _
      refine hK183 _ _ ?_
      clear hK183
      refine wp_seq_k fun K196 hK196 => ?_
      refine nd_start (l := [0, 1]) rfl ?_
      refine nd_batch tabOk2 tabZ_ok2 [(0, {}), (1, {})] [26, 6, 3, 0, 1, 7, 53, 66, 21, 22, 24, 25, 354, 4, 5] (T' := [(26, .pointer (some ⟨b142, 0, none⟩)), (6, .pointer (some ⟨b14, 0, none⟩)), (3, .pointer (some ⟨b2, 0, none⟩)), (0, .pointer (some ⟨mb, 0, none⟩)), (1, .agg #[.int .u8 10, .int .u32 ev.pick, .int .u64 ev.draw, .int .u32 ev.addr, .int .u32 ev.node, .int .u32 ev.dst, .int .u32 ev.xfer, .int .u8 3, .int .u64 ev.arg, .int .u64 ev.badge, .slice xo ev.ws.length cx]), (7, .pointer (some ⟨(Z.tp x), 0, none⟩)), (53, .int .u8 10), (66, .bool false), (21, .int .u8 0), (22, .int .i64 s1), (24, .int .i64 s2), (25, .int .u8 0), (354, .int .u8 3), (4, .int .u8 0), (5, .bool false)]) (φ := True) (rest := []) h195 (by kernel_rfl) rfl trivial fun a197 h198 => ?_
      clear h195
      refine nd_done ?_
      refine hK196 _ _ ?_
      clear hK196
      refine wp_ret ?_
      try simp only [Exit.then, Exit.inBlock]
      try rw [if_pos trivial]
      exact s_ret tabOk2 tabZ_ok2 h198 [(.tmp 4, {}), (.tmp 5, {})] (vs := [.int .u8 0, .bool false]) (φ := True) rfl (by kernel_rfl) trivial ⟨rfl, _, _, mg_end hH h198 hhoh103 rfl⟩
    ·
      refine op_new tabOk2 (cells := [.int .u16 0, .int .u32 0]) (ty := 39) (ln := none) (L1 := fun b199 => [(3, ⟨[.int .u16 0, .int .u32 0], ty3, true⟩), (b2, ⟨[.int .u8 10, .int .u32 ev.pick, .int .u64 ev.draw, .int .u32 ev.addr, .int .u32 ev.node, .int .u32 ev.dst, .int .u32 ev.xfer, .int .u8 3, .int .u64 ev.arg, .int .u64 ev.badge, .slice xo ev.ws.length cx], 35, false⟩), (b14, ⟨[.int .u16 ((Z.ky x).idx), .int .u32 ((Z.ky x).gen)], 39, false⟩), (b75, ⟨[.int .u8 c.ty, .int .u16 c.obj.idx, .int .u32 c.obj.gen, .int .u8 c.rights, .int .u64 c.badge], 49, false⟩), (b199, ⟨[.int .u16 0, .int .u32 0], 39, false⟩)]) h135 rfl rfl rfl rfl (by kernel_rfl) (fun _ => rfl) fun b199 w200 a201 h202 hf203 hn204 => ?_
      refine ⟨(keepCons (kpLf h135.known hf203 (q := 1) rfl) (keepCons (kpM h135.inv.1 (l := .m) trivial (List.mem_cons_self ..) hf203) keepNil)), ?_⟩
      clear h135
      refine wpAnyK_one (i := 6) (fuel := 5) (by kernel_rfl) ?_
      refine op_call h202 rfl rfl rfl (callOk Tryd.func37 (by decide) rfl) (args := [.pointer (some ⟨Z.mo, 0, none⟩), .int .u8 3]) rfl (retypeC_ok Z.mo Z.mc Z.nd C 3 (by decide) _ h202.inv.1.cp er) ?_
      rintro _ w205 ⟨rfl, hc206, hf207⟩
      refine ⟨_, rfl, ?_⟩
      have h208a := st_cap h202 hc206 hf207 (fun b hb => .inl hb) (kcons (fun _ => rfl) (kcons (fun hq => by cases hq) (kcons (fun hq => by cases hq) (kcons (fun hq => by cases hq) (kcons (fun hq => by cases hq) knil)))))
      have h208 := h208a.put (d := some 347) (v := .tuple #[.agg #[.int .u16 ((Z.ky o).idx), .int .u32 ((Z.ky o).gen)], .int .u8 0]) (T' := [(347, .tuple #[.agg #[.int .u16 ((Z.ky o).idx), .int .u32 ((Z.ky o).gen)], .int .u8 0]), (26, .pointer (some ⟨b199, 0, none⟩)), (344, .pointer (some ⟨Z.mo, 0, none⟩)), (6, .pointer (some ⟨b14, 0, none⟩)), (3, .pointer (some ⟨b2, 0, none⟩)), (0, .pointer (some ⟨mb, 0, none⟩)), (1, .agg #[.int .u8 10, .int .u32 ev.pick, .int .u64 ev.draw, .int .u32 ev.addr, .int .u32 ev.node, .int .u32 ev.dst, .int .u32 ev.xfer, .int .u8 3, .int .u64 ev.arg, .int .u64 ev.badge, .slice xo ev.ws.length cx]), (4, .int .u8 0), (5, .bool false), (7, .pointer (some ⟨(Z.tp x), 0, none⟩)), (53, .int .u8 10), (66, .bool false), (21, .int .u8 0), (22, .int .i64 s1), (24, .int .i64 s2), (25, .int .u8 0), (346, .int .u8 3)]) rfl
      refine ⟨keepNil, ?_⟩
      clear h202 h208a
      refine dr_batch tabOk2 tabZ_ok2 (by repeat (first | with_reducible exact PF.body | with_reducible apply PF.inB | with_reducible apply PF.next)) [(7, {}), (8, {}), (9, {})] [26, 6, 3, 0, 1, 4, 5, 7, 53, 66, 21, 22, 24, 25, 348, 349] (T' := [(26, .pointer (some ⟨b199, 0, none⟩)), (6, .pointer (some ⟨b14, 0, none⟩)), (3, .pointer (some ⟨b2, 0, none⟩)), (0, .pointer (some ⟨mb, 0, none⟩)), (1, .agg #[.int .u8 10, .int .u32 ev.pick, .int .u64 ev.draw, .int .u32 ev.addr, .int .u32 ev.node, .int .u32 ev.dst, .int .u32 ev.xfer, .int .u8 3, .int .u64 ev.arg, .int .u64 ev.badge, .slice xo ev.ws.length cx]), (4, .int .u8 0), (5, .bool false), (7, .pointer (some ⟨(Z.tp x), 0, none⟩)), (53, .int .u8 10), (66, .bool false), (21, .int .u8 0), (22, .int .i64 s1), (24, .int .i64 s2), (25, .int .u8 0), (348, .agg #[.int .u16 ((Z.ky o).idx), .int .u32 ((Z.ky o).gen)]), (349, .int .u8 0)]) (φ := True) (fuel := 2) h208 (by kernel_rfl) rfl (by kernel_rfl) (by kernel_rfl) ⟨trivial, trivial, trivial, trivial⟩ trivial fun a209 h210 => ?_
      clear h208
      refine wpAnyK_one (i := 11) (fuel := 1) (by kernel_rfl) ?_
      refine op_store tabOk2 {k := 4} (L' := [(3, ⟨[.int .u16 0, .int .u32 0], ty3, true⟩), (b2, ⟨[.int .u8 10, .int .u32 ev.pick, .int .u64 ev.draw, .int .u32 ev.addr, .int .u32 ev.node, .int .u32 ev.dst, .int .u32 ev.xfer, .int .u8 3, .int .u64 ev.arg, .int .u64 ev.badge, .slice xo ev.ws.length cx], 35, false⟩), (b14, ⟨[.int .u16 ((Z.ky x).idx), .int .u32 ((Z.ky x).gen)], 39, false⟩), (b75, ⟨[.int .u8 c.ty, .int .u16 c.obj.idx, .int .u32 c.obj.gen, .int .u8 c.rights, .int .u64 c.badge], 49, false⟩), (b199, ⟨[.int .u16 ((Z.ky o).idx), .int .u32 ((Z.ky o).gen)], 39, false⟩)]) (φ := b199 = b199 ∧ Nat.ble (0 + 2) 2 = true) h210 rfl rfl rfl (by kernel_rfl) ⟨rfl, rfl⟩ fun w211 h212 => ?_
      refine ⟨keepNil, ?_⟩
      clear h210
      refine dr_batch tabOk2 tabZ_ok2 (by repeat (first | with_reducible exact PF.body | with_reducible apply PF.inB | with_reducible apply PF.next)) [(12, {})] [26, 6, 3, 0, 1, 4, 5, 7, 53, 66, 21, 22, 24, 25] (T' := [(26, .pointer (some ⟨b199, 0, none⟩)), (6, .pointer (some ⟨b14, 0, none⟩)), (3, .pointer (some ⟨b2, 0, none⟩)), (0, .pointer (some ⟨mb, 0, none⟩)), (1, .agg #[.int .u8 10, .int .u32 ev.pick, .int .u64 ev.draw, .int .u32 ev.addr, .int .u32 ev.node, .int .u32 ev.dst, .int .u32 ev.xfer, .int .u8 3, .int .u64 ev.arg, .int .u64 ev.badge, .slice xo ev.ws.length cx]), (4, .int .u8 0), (5, .bool false), (7, .pointer (some ⟨(Z.tp x), 0, none⟩)), (53, .int .u8 10), (66, .bool false), (21, .int .u8 0), (22, .int .i64 s1), (24, .int .i64 s2), (25, .int .u8 0)]) (φ := True) (fuel := 0) h212 (by kernel_rfl) rfl (by kernel_rfl) (by kernel_rfl) ⟨trivial, trivial⟩ trivial fun a213 h214 => ?_
      clear h212
      refine wpAnyK_done (by kernel_rfl) ?_ _
      refine hK127 _ _ ?_
      clear hK127
      refine wp_seq_k fun K215 hK215 => ?_
      refine wp_seq_k fun K216 hK216 => ?_
      refine nd_start (l := [0, 1]) rfl ?_
      refine nd_batch tabOk2 tabZ_ok2 [(0, {}), (1, {})] [26, 6, 3, 0, 1, 4, 5, 7, 53, 66, 21, 22, 24, 25, 351] (T' := [(26, .pointer (some ⟨b199, 0, none⟩)), (6, .pointer (some ⟨b14, 0, none⟩)), (3, .pointer (some ⟨b2, 0, none⟩)), (0, .pointer (some ⟨mb, 0, none⟩)), (1, .agg #[.int .u8 10, .int .u32 ev.pick, .int .u64 ev.draw, .int .u32 ev.addr, .int .u32 ev.node, .int .u32 ev.dst, .int .u32 ev.xfer, .int .u8 3, .int .u64 ev.arg, .int .u64 ev.badge, .slice xo ev.ws.length cx]), (4, .int .u8 0), (5, .bool false), (7, .pointer (some ⟨(Z.tp x), 0, none⟩)), (53, .int .u8 10), (66, .bool false), (21, .int .u8 0), (22, .int .i64 s1), (24, .int .i64 s2), (25, .int .u8 0), (351, .bool false)]) (φ := True) (rest := []) h214 (by kernel_rfl) rfl trivial fun a217 h218 => ?_
      clear h214
      refine nd_done ?_
      refine hK216 _ _ ?_
      clear hK216
      refine c_false h218 rfl ?_
      refine wp_skip ?_
      refine hK215 _ _ ?_
      clear hK215
      refine wp_seq_k fun K219 hK219 => ?_
      refine wp_seq_k fun K220 hK220 => ?_
      refine nd_start (l := [0, 1]) rfl ?_
      refine nd_batch tabOk2 tabZ_ok2 [(0, {}), (1, {k := 1})] [26, 6, 3, 0, 1, 4, 5, 7, 53, 66, 21, 22, 24, 25, 354] (T' := [(26, .pointer (some ⟨b199, 0, none⟩)), (6, .pointer (some ⟨b14, 0, none⟩)), (3, .pointer (some ⟨b2, 0, none⟩)), (0, .pointer (some ⟨mb, 0, none⟩)), (1, .agg #[.int .u8 10, .int .u32 ev.pick, .int .u64 ev.draw, .int .u32 ev.addr, .int .u32 ev.node, .int .u32 ev.dst, .int .u32 ev.xfer, .int .u8 3, .int .u64 ev.arg, .int .u64 ev.badge, .slice xo ev.ws.length cx]), (4, .int .u8 0), (5, .bool false), (7, .pointer (some ⟨(Z.tp x), 0, none⟩)), (53, .int .u8 10), (66, .bool false), (21, .int .u8 0), (22, .int .i64 s1), (24, .int .i64 s2), (25, .int .u8 0), (354, .int .u8 3)]) (φ := (b2 = b2 ∧ Nat.ble (7 + 1) 11 = true) ∧ True) (rest := []) h218 (by kernel_rfl) rfl ⟨⟨rfl, rfl⟩, trivial⟩ fun a221 h222 => ?_
      clear h218
      refine nd_done ?_
      refine hK220 _ _ ?_
      clear hK220
      refine wp_block ?_
      refine wp_seq_k fun K223 hK223 => ?_
      refine nd_start (l := [0, 1]) rfl ?_
      refine nd_batch tabOk2 tabZ_ok2 [(0, {}), (1, {})] [26, 6, 3, 0, 1, 4, 5, 7, 53, 66, 21, 22, 24, 25, 354, 360] (T' := [(26, .pointer (some ⟨b199, 0, none⟩)), (6, .pointer (some ⟨b14, 0, none⟩)), (3, .pointer (some ⟨b2, 0, none⟩)), (0, .pointer (some ⟨mb, 0, none⟩)), (1, .agg #[.int .u8 10, .int .u32 ev.pick, .int .u64 ev.draw, .int .u32 ev.addr, .int .u32 ev.node, .int .u32 ev.dst, .int .u32 ev.xfer, .int .u8 3, .int .u64 ev.arg, .int .u64 ev.badge, .slice xo ev.ws.length cx]), (4, .int .u8 0), (5, .bool false), (7, .pointer (some ⟨(Z.tp x), 0, none⟩)), (53, .int .u8 10), (66, .bool false), (21, .int .u8 0), (22, .int .i64 s1), (24, .int .i64 s2), (25, .int .u8 0), (354, .int .u8 3), (360, .bool false)]) (φ := True) (rest := []) h222 (by kernel_rfl) rfl trivial fun a224 h225 => ?_
      clear h222
      refine nd_done ?_
      refine hK223 _ _ ?_
      clear hK223
      refine c_false h225 rfl ?_
      refine wp_seq_k fun K226 hK226 => ?_
      refine nd_start (l := [0, 1]) rfl ?_
      refine nd_batch tabOk2 tabZ_ok2 [(0, {}), (1, {})] [26, 6, 3, 0, 1, 4, 5, 7, 53, 66, 21, 22, 24, 25, 354, 368] (T' := [(26, .pointer (some ⟨b199, 0, none⟩)), (6, .pointer (some ⟨b14, 0, none⟩)), (3, .pointer (some ⟨b2, 0, none⟩)), (0, .pointer (some ⟨mb, 0, none⟩)), (1, .agg #[.int .u8 10, .int .u32 ev.pick, .int .u64 ev.draw, .int .u32 ev.addr, .int .u32 ev.node, .int .u32 ev.dst, .int .u32 ev.xfer, .int .u8 3, .int .u64 ev.arg, .int .u64 ev.badge, .slice xo ev.ws.length cx]), (4, .int .u8 0), (5, .bool false), (7, .pointer (some ⟨(Z.tp x), 0, none⟩)), (53, .int .u8 10), (66, .bool false), (21, .int .u8 0), (22, .int .i64 s1), (24, .int .i64 s2), (25, .int .u8 0), (354, .int .u8 3), (368, .bool true)]) (φ := True) (rest := []) h225 (by kernel_rfl) rfl trivial fun a227 h228 => ?_
      clear h225
      refine nd_done ?_
      refine hK226 _ _ ?_
      clear hK226
      refine c_true h228 rfl ?_
      refine dr_start (KB := [3, b2, b14, b75, b199, mb]) (Bi := [[0, 1, 2, 3, 4, 5], [0, 1, 2, 3, 4, 5], [0, 1, 2, 3, 4, 5], [0, 1, 2, 3, 4, 5], [0, 1, 2, 3, 4, 5], [0, 1, 2, 3, 4, 5], [4, 5], []]) mixed h228 fun w229 h230 => ?_
      clear h228
      refine dr_batch tabOk2 tabZ_ok2 (by repeat (first | with_reducible exact PF.body | with_reducible apply PF.inB | with_reducible apply PF.next)) [(0, {}), (1, {}), (2, {})] [26, 6, 3, 0, 1, 4, 5, 7, 53, 66, 21, 22, 24, 25, 354, 372] (T' := [(26, .pointer (some ⟨b199, 0, none⟩)), (6, .pointer (some ⟨b14, 0, none⟩)), (3, .pointer (some ⟨b2, 0, none⟩)), (0, .pointer (some ⟨mb, 0, none⟩)), (1, .agg #[.int .u8 10, .int .u32 ev.pick, .int .u64 ev.draw, .int .u32 ev.addr, .int .u32 ev.node, .int .u32 ev.dst, .int .u32 ev.xfer, .int .u8 3, .int .u64 ev.arg, .int .u64 ev.badge, .slice xo ev.ws.length cx]), (4, .int .u8 0), (5, .bool false), (7, .pointer (some ⟨(Z.tp x), 0, none⟩)), (53, .int .u8 10), (66, .bool false), (21, .int .u8 0), (22, .int .i64 s1), (24, .int .i64 s2), (25, .int .u8 0), (354, .int .u8 3), (372, .pointer (some ⟨mb, 2, none⟩))]) (φ := True) (fuel := 5) h230 (by kernel_rfl) rfl (by kernel_rfl) (by kernel_rfl) ⟨trivial, trivial, trivial, trivial⟩ trivial fun a232 h233 => ?_
      clear h230
      refine dr_read (i := 3) (b := mb) (p := 5) (v := .map (some Z.tb)) (fuel := 4) (by repeat (first | with_reducible exact PF.body | with_reducible apply PF.inB | with_reducible apply PF.next)) h233 rfl rfl rfl (by kernel_rfl) (by kernel_rfl) (by kernel_rfl) rfl (rd_m h233 (k := 2) (v := .map (some Z.tb)) rfl rfl rfl rfl (md_p ⟨rfl, trivial⟩)) ?_
      have h234 := h233.put (d := some 373) (v := .map (some Z.tb)) (T' := [(373, .map (some Z.tb)), (26, .pointer (some ⟨b199, 0, none⟩)), (6, .pointer (some ⟨b14, 0, none⟩)), (3, .pointer (some ⟨b2, 0, none⟩)), (0, .pointer (some ⟨mb, 0, none⟩)), (1, .agg #[.int .u8 10, .int .u32 ev.pick, .int .u64 ev.draw, .int .u32 ev.addr, .int .u32 ev.node, .int .u32 ev.dst, .int .u32 ev.xfer, .int .u8 3, .int .u64 ev.arg, .int .u64 ev.badge, .slice xo ev.ws.length cx]), (4, .int .u8 0), (5, .bool false), (7, .pointer (some ⟨(Z.tp x), 0, none⟩)), (53, .int .u8 10), (66, .bool false), (21, .int .u8 0), (22, .int .i64 s1), (24, .int .i64 s2), (25, .int .u8 0), (354, .int .u8 3), (372, .pointer (some ⟨mb, 2, none⟩))]) rfl
      clear h233
      refine dr_batch tabOk2 tabZ_ok2 (by repeat (first | with_reducible exact PF.body | with_reducible apply PF.inB | with_reducible apply PF.next)) [(4, {k := 4, p := 4}), (5, {})] [373, 26, 6, 3, 0, 1, 4, 5, 7, 53, 66, 21, 22, 24, 25, 354, 374, 375] (T' := [(373, .map (some Z.tb)), (26, .pointer (some ⟨b199, 0, none⟩)), (6, .pointer (some ⟨b14, 0, none⟩)), (3, .pointer (some ⟨b2, 0, none⟩)), (0, .pointer (some ⟨mb, 0, none⟩)), (1, .agg #[.int .u8 10, .int .u32 ev.pick, .int .u64 ev.draw, .int .u32 ev.addr, .int .u32 ev.node, .int .u32 ev.dst, .int .u32 ev.xfer, .int .u8 3, .int .u64 ev.arg, .int .u64 ev.badge, .slice xo ev.ws.length cx]), (4, .int .u8 0), (5, .bool false), (7, .pointer (some ⟨(Z.tp x), 0, none⟩)), (53, .int .u8 10), (66, .bool false), (21, .int .u8 0), (22, .int .i64 s1), (24, .int .i64 s2), (25, .int .u8 0), (354, .int .u8 3), (374, .agg #[.int .u16 ((Z.ky o).idx), .int .u32 ((Z.ky o).gen)]), (375, .agg #[.int .u8 0, .int .u8 0, .int .u16 0, .int .u32 0, .int .u16 0, .int .u32 0, .int .u16 0, .int .u32 0, .int .u64 0, .int .u64 0, .int .u64 0, .int .u64 0, .int .u64 0, .int .u8 0, .int .u8 0, .int .u32 0, .int .u32 0, .bool false, .bool false])]) (φ := (b199 = b199 ∧ Nat.ble (0 + 2) 2 = true) ∧ True) (fuel := 2) h234 (by kernel_rfl) rfl (by kernel_rfl) (by kernel_rfl) ⟨rfl, trivial, trivial⟩ ⟨⟨rfl, rfl⟩, trivial⟩ fun a235 h236 => ?_
      clear h234
      refine wpAnyK_one (i := 6) (fuel := 1) (by kernel_rfl) ?_
      refine op_new tabOk2 (cells := [.int .u8 0, .int .u8 0, .int .u16 0, .int .u32 0, .int .u16 0, .int .u32 0, .int .u16 0, .int .u32 0, .int .u64 0, .int .u64 0, .int .u64 0, .int .u64 0, .int .u64 0, .int .u8 0, .int .u8 0, .int .u32 0, .int .u32 0, .bool false, .bool false]) (ty := 59) (ln := none) (L1 := fun b237 => [(3, ⟨[.int .u16 0, .int .u32 0], ty3, true⟩), (b2, ⟨[.int .u8 10, .int .u32 ev.pick, .int .u64 ev.draw, .int .u32 ev.addr, .int .u32 ev.node, .int .u32 ev.dst, .int .u32 ev.xfer, .int .u8 3, .int .u64 ev.arg, .int .u64 ev.badge, .slice xo ev.ws.length cx], 35, false⟩), (b14, ⟨[.int .u16 ((Z.ky x).idx), .int .u32 ((Z.ky x).gen)], 39, false⟩), (b75, ⟨[.int .u8 c.ty, .int .u16 c.obj.idx, .int .u32 c.obj.gen, .int .u8 c.rights, .int .u64 c.badge], 49, false⟩), (b199, ⟨[.int .u16 ((Z.ky o).idx), .int .u32 ((Z.ky o).gen)], 39, false⟩), (b237, ⟨[.int .u8 0, .int .u8 0, .int .u16 0, .int .u32 0, .int .u16 0, .int .u32 0, .int .u16 0, .int .u32 0, .int .u64 0, .int .u64 0, .int .u64 0, .int .u64 0, .int .u64 0, .int .u8 0, .int .u8 0, .int .u32 0, .int .u32 0, .bool false, .bool false], 59, false⟩)]) h236 rfl rfl rfl rfl (by kernel_rfl) (fun _ => rfl) fun b237 w238 a239 h240 hf241 hn242 => ?_
      refine ⟨(keepCons (kpLf h236.known hf241 (q := 4) rfl) (keepCons (kpM h236.inv.1 (l := .m) trivial (List.mem_cons_self ..) hf241) keepNil)), ?_⟩
      clear h236
      refine wpAnyK_one (i := 7) (fuel := 0) (by kernel_rfl) ?_
      refine op_mAddT (x := o) (b := b237) (L := [(3, ⟨[.int .u16 0, .int .u32 0], ty3, true⟩), (b2, ⟨[.int .u8 10, .int .u32 ev.pick, .int .u64 ev.draw, .int .u32 ev.addr, .int .u32 ev.node, .int .u32 ev.dst, .int .u32 ev.xfer, .int .u8 3, .int .u64 ev.arg, .int .u64 ev.badge, .slice xo ev.ws.length cx], 35, false⟩), (b14, ⟨[.int .u16 ((Z.ky x).idx), .int .u32 ((Z.ky x).gen)], 39, false⟩), (b75, ⟨[.int .u8 c.ty, .int .u16 c.obj.idx, .int .u32 c.obj.gen, .int .u8 c.rights, .int .u64 c.badge], 49, false⟩), (b199, ⟨[.int .u16 ((Z.ky o).idx), .int .u32 ((Z.ky o).gen)], 39, false⟩)]) h240 (by rw [ha0]; rfl) rfl rfl rfl rfl rfl rfl hon ho2 (by have hq := h240.nodup; simp at hq; omega) (kcons (fun _ => rfl) (kcons (fun hq => by cases hq) (kcons (fun hq => by cases hq) (kcons (fun hq => by cases hq) (kcons (fun hq => by cases hq) knil))))) fun w243 hf244 h245a => ?_
      have h245 := h245a.put (d := none) (v := undef) (T' := [(376, .pointer (some ⟨b237, 0, none⟩)), (373, .map (some Z.tb)), (26, .pointer (some ⟨b199, 0, none⟩)), (6, .pointer (some ⟨b14, 0, none⟩)), (3, .pointer (some ⟨b2, 0, none⟩)), (0, .pointer (some ⟨mb, 0, none⟩)), (1, .agg #[.int .u8 10, .int .u32 ev.pick, .int .u64 ev.draw, .int .u32 ev.addr, .int .u32 ev.node, .int .u32 ev.dst, .int .u32 ev.xfer, .int .u8 3, .int .u64 ev.arg, .int .u64 ev.badge, .slice xo ev.ws.length cx]), (4, .int .u8 0), (5, .bool false), (7, .pointer (some ⟨(Z.tp x), 0, none⟩)), (53, .int .u8 10), (66, .bool false), (21, .int .u8 0), (22, .int .i64 s1), (24, .int .i64 s2), (25, .int .u8 0), (354, .int .u8 3), (374, .agg #[.int .u16 ((Z.ky o).idx), .int .u32 ((Z.ky o).gen)]), (375, .agg #[.int .u8 0, .int .u8 0, .int .u16 0, .int .u32 0, .int .u16 0, .int .u32 0, .int .u16 0, .int .u32 0, .int .u64 0, .int .u64 0, .int .u64 0, .int .u64 0, .int .u64 0, .int .u8 0, .int .u8 0, .int .u32 0, .int .u32 0, .bool false, .bool false])]) rfl
      refine ⟨keepNil, ?_⟩
      clear h240 h245a
      refine wpAnyK_done (by kernel_rfl) ?_ _
      refine hK219 _ _ ?_
      clear hK219
      refine wp_seq_k fun K246 hK246 => ?_
      refine dr_start (KB := [3, b2, b14, b75, b199, mb]) (Bi := [[0, 1, 2, 3, 4, 5], [0, 1, 2, 3, 4, 5], [0, 1, 2, 3, 4, 5], [0, 1, 2, 3, 4, 5], [0, 1, 2, 3, 4, 5], [0, 1, 2, 3, 4, 5], [0, 1, 2, 3, 4, 5], [0, 1, 2, 3, 4, 5], [0, 1, 2, 3, 4, 5], [0, 1, 2, 3, 4, 5], []]) mixed h245 fun w247 h248 => ?_
      clear h245
      refine dr_batch tabOk2 tabZ_ok2 (by repeat (first | with_reducible exact PF.body | with_reducible apply PF.inB | with_reducible apply PF.next)) [(0, {}), (1, {}), (2, {})] [26, 6, 3, 0, 1, 4, 5, 7, 53, 66, 21, 22, 24, 25, 354, 379] (T' := [(26, .pointer (some ⟨b199, 0, none⟩)), (6, .pointer (some ⟨b14, 0, none⟩)), (3, .pointer (some ⟨b2, 0, none⟩)), (0, .pointer (some ⟨mb, 0, none⟩)), (1, .agg #[.int .u8 10, .int .u32 ev.pick, .int .u64 ev.draw, .int .u32 ev.addr, .int .u32 ev.node, .int .u32 ev.dst, .int .u32 ev.xfer, .int .u8 3, .int .u64 ev.arg, .int .u64 ev.badge, .slice xo ev.ws.length cx]), (4, .int .u8 0), (5, .bool false), (7, .pointer (some ⟨(Z.tp x), 0, none⟩)), (53, .int .u8 10), (66, .bool false), (21, .int .u8 0), (22, .int .i64 s1), (24, .int .i64 s2), (25, .int .u8 0), (354, .int .u8 3), (379, .pointer (some ⟨mb, 1, none⟩))]) (φ := True) (fuel := 8) h248 (by kernel_rfl) rfl (by kernel_rfl) (by kernel_rfl) ⟨trivial, trivial, trivial, trivial⟩ trivial fun a250 h251 => ?_
      clear h248
      refine dr_read (i := 3) (b := mb) (p := 5) (v := .pointer (some ⟨Z.mc, 0, none⟩)) (fuel := 7) (by repeat (first | with_reducible exact PF.body | with_reducible apply PF.inB | with_reducible apply PF.next)) h251 rfl rfl rfl (by kernel_rfl) (by kernel_rfl) (by kernel_rfl) rfl (rd_m h251 (k := 1) (v := .pointer (some ⟨Z.mc, 0, none⟩)) rfl rfl rfl rfl (md_p ⟨rfl, trivial⟩)) ?_
      have h252 := h251.put (d := some 380) (v := .pointer (some ⟨Z.mc, 0, none⟩)) (T' := [(380, .pointer (some ⟨Z.mc, 0, none⟩)), (26, .pointer (some ⟨b199, 0, none⟩)), (6, .pointer (some ⟨b14, 0, none⟩)), (3, .pointer (some ⟨b2, 0, none⟩)), (0, .pointer (some ⟨mb, 0, none⟩)), (1, .agg #[.int .u8 10, .int .u32 ev.pick, .int .u64 ev.draw, .int .u32 ev.addr, .int .u32 ev.node, .int .u32 ev.dst, .int .u32 ev.xfer, .int .u8 3, .int .u64 ev.arg, .int .u64 ev.badge, .slice xo ev.ws.length cx]), (4, .int .u8 0), (5, .bool false), (7, .pointer (some ⟨(Z.tp x), 0, none⟩)), (53, .int .u8 10), (66, .bool false), (21, .int .u8 0), (22, .int .i64 s1), (24, .int .i64 s2), (25, .int .u8 0), (354, .int .u8 3), (379, .pointer (some ⟨mb, 1, none⟩))]) rfl
      clear h251
      refine dr_batch tabOk2 tabZ_ok2 (by repeat (first | with_reducible exact PF.body | with_reducible apply PF.inB | with_reducible apply PF.next)) [(4, {}), (5, {}), (6, {k := 1, p := 1}), (7, {k := 4, p := 4}), (8, {}), (9, {})] [380, 26, 6, 3, 0, 1, 4, 5, 7, 53, 66, 21, 22, 24, 25, 354, 381, 385, 386] (T' := [(380, .pointer (some ⟨Z.mc, 0, none⟩)), (26, .pointer (some ⟨b199, 0, none⟩)), (6, .pointer (some ⟨b14, 0, none⟩)), (3, .pointer (some ⟨b2, 0, none⟩)), (0, .pointer (some ⟨mb, 0, none⟩)), (1, .agg #[.int .u8 10, .int .u32 ev.pick, .int .u64 ev.draw, .int .u32 ev.addr, .int .u32 ev.node, .int .u32 ev.dst, .int .u32 ev.xfer, .int .u8 3, .int .u64 ev.arg, .int .u64 ev.badge, .slice xo ev.ws.length cx]), (4, .int .u8 0), (5, .bool false), (7, .pointer (some ⟨(Z.tp x), 0, none⟩)), (53, .int .u8 10), (66, .bool false), (21, .int .u8 0), (22, .int .i64 s1), (24, .int .i64 s2), (25, .int .u8 0), (354, .int .u8 3), (381, .int .i64 s2), (385, .agg #[.int .u8 3, .int .u16 ((Z.ky o).idx), .int .u32 ((Z.ky o).gen), .int .u8 7, .int .u64 0]), (386, .int .i64 s1)]) (φ := (b2 = b2 ∧ Nat.ble (7 + 1) 11 = true) ∧ (b199 = b199 ∧ Nat.ble (0 + 2) 2 = true) ∧ True) (fuel := 1) h252 (by kernel_rfl) rfl (by kernel_rfl) (by kernel_rfl) ⟨trivial, trivial, rfl, rfl, trivial, trivial, trivial⟩ ⟨⟨rfl, rfl⟩, ⟨rfl, rfl⟩, trivial⟩ fun a253 h254 => ?_
      clear h252
      refine wpAnyK_one (i := 10) (fuel := 0) (by kernel_rfl) ?_
      refine op_call h254 rfl rfl rfl (callOk Tryd.func40 (by decide) rfl) (args := [.pointer (some ⟨Z.mc, 0, none⟩), .int .i64 s2, .agg #[.int .u8 3, .int .u16 ((Z.ky o).idx), .int .u32 ((Z.ky o).gen), .int .u8 7, .int .u64 0], .int .i64 s1]) rfl (insertE Z.mo Z.mc _ ({ C with ent := E1 } : CP) hi2 hj2 hp2 hs2 ⟨3, Z.ky o, 7, 0⟩ s1 _ h254.inv.1.cp) ?_
      rintro _ w255 ⟨rfl, hc256, hf257⟩
      refine ⟨_, rfl, ?_⟩
      have h258a := st_cap h254 hc256 hf257 (fun b hb => .inl hb) (kcons (fun _ => rfl) (kcons (fun hq => by cases hq) (kcons (fun hq => by cases hq) (kcons (fun hq => by cases hq) (kcons (fun hq => by cases hq) knil)))))
      have h258 := h258a.put (d := some 387) (v := .tuple #[]) (T' := [(387, .tuple #[]), (380, .pointer (some ⟨Z.mc, 0, none⟩)), (26, .pointer (some ⟨b199, 0, none⟩)), (6, .pointer (some ⟨b14, 0, none⟩)), (3, .pointer (some ⟨b2, 0, none⟩)), (0, .pointer (some ⟨mb, 0, none⟩)), (1, .agg #[.int .u8 10, .int .u32 ev.pick, .int .u64 ev.draw, .int .u32 ev.addr, .int .u32 ev.node, .int .u32 ev.dst, .int .u32 ev.xfer, .int .u8 3, .int .u64 ev.arg, .int .u64 ev.badge, .slice xo ev.ws.length cx]), (4, .int .u8 0), (5, .bool false), (7, .pointer (some ⟨(Z.tp x), 0, none⟩)), (53, .int .u8 10), (66, .bool false), (21, .int .u8 0), (22, .int .i64 s1), (24, .int .i64 s2), (25, .int .u8 0), (354, .int .u8 3), (381, .int .i64 s2), (385, .agg #[.int .u8 3, .int .u16 ((Z.ky o).idx), .int .u32 ((Z.ky o).gen), .int .u8 7, .int .u64 0]), (386, .int .i64 s1)]) rfl
      refine ⟨keepNil, ?_⟩
      clear h254 h258a
      refine wpAnyK_done (by kernel_rfl) ?_ _
      refine hK246 _ _ ?_
      clear hK246
      refine wp_seq_k fun K259 hK259 => ?_
      refine nd_start (l := [0, 1]) rfl ?_
      refine nd_batch tabOk2 tabZ_ok2 [(0, {}), (1, {})] [26, 6, 3, 0, 1, 7, 53, 66, 21, 22, 24, 25, 354, 4, 5] (T' := [(26, .pointer (some ⟨b199, 0, none⟩)), (6, .pointer (some ⟨b14, 0, none⟩)), (3, .pointer (some ⟨b2, 0, none⟩)), (0, .pointer (some ⟨mb, 0, none⟩)), (1, .agg #[.int .u8 10, .int .u32 ev.pick, .int .u64 ev.draw, .int .u32 ev.addr, .int .u32 ev.node, .int .u32 ev.dst, .int .u32 ev.xfer, .int .u8 3, .int .u64 ev.arg, .int .u64 ev.badge, .slice xo ev.ws.length cx]), (7, .pointer (some ⟨(Z.tp x), 0, none⟩)), (53, .int .u8 10), (66, .bool false), (21, .int .u8 0), (22, .int .i64 s1), (24, .int .i64 s2), (25, .int .u8 0), (354, .int .u8 3), (4, .int .u8 0), (5, .bool false)]) (φ := True) (rest := []) h258 (by kernel_rfl) rfl trivial fun a260 h261 => ?_
      clear h258
      refine nd_done ?_
      refine hK259 _ _ ?_
      clear hK259
      refine wp_ret ?_
      try simp only [Exit.then, Exit.inBlock]
      try rw [if_pos trivial]
      exact s_ret tabOk2 tabZ_ok2 h261 [(.tmp 4, {}), (.tmp 5, {})] (vs := [.int .u8 0, .bool false]) (φ := True) rfl (by kernel_rfl) trivial ⟨rfl, _, _, mg_end hH h261 hhoh103 rfl⟩

theorem call10g4 (mb : Nat) (Z : MZ) (R : MR) (a : AK) (C : CP) (hI : MI Z a C) (x : Nat) (hx : x ∈ sl Z.tl) (hcu : a.cur = (x : Int)) (ev : Ev) (he : EvOk ev) (xo : Option Addr) (cx : Nat) (c : Cp) (cs0 : Int) (hf : findA a C ev.addr 1 2 = (c, cs0, 0)) (s1 : Int) (e1 : lookP C.ent (a.th x).cs ev.addr = (s1, 0)) (s2 : Int) (e2 : lookP C.ent (a.th x).cs ev.dst = (s2, 0)) (hz2 : (C.cel s2.toNat).cap.ty = 0) (E1 : Nat → Ent) (o : Nat) (er : retype0 C.ent 4 = (E1, Z.ky o, 0)) (ho2 : o < 256) (hon : o ∉ sl Z.ql) (hq0 : a.q (.w o) = []) (hw0 : a.word o = 0) (w : World) (hH : MH mb Z R a C w) (hws : WordsAt (mdF mb Z R C) w xo ev.ws) :
    Calls Tryd.prog 55 #[.pointer (some ⟨mb, 0, none⟩), .agg #[.int .u8 10, .int .u32 ev.pick, .int .u64 ev.draw, .int .u32 ev.addr, .int .u32 ev.node, .int .u32 ev.dst, .int .u32 ev.xfer, .int .u8 4, .int .u64 ev.arg, .int .u64 ev.badge, .slice xo ev.ws.length cx]] w fun e w' => e = .returned (.tuple #[.int .u8 0, .bool false]) ∧ ∃ R', MG mb Z R C w (Z.addQ o) R' a { C with ent := E1, cel := upd C.cel s2.toNat ⟨⟨4, Z.ky o, 7, 0⟩, s1⟩ } w' := by
  have hP := hI.mp
  have hcx : curR Z a = Z.ky x := curR_of hcu
  have hcn : a.cur.toNat = x := by rw [hcu]; exact Int.toNat_natCast x
  have hci := (hI.tk x hx).ci
  obtain ⟨ty3, hg3⟩ := hH.g3
  have hho := hH.ho
  have hkk := hH.md.k
  refine enter (n := 628) (K := mdF mb Z R C) (A := MD (mdF mb Z R C) w.heap.size mb Z R a C) (F := mdF mb Z R C) (T := [(0, .pointer (some ⟨mb, 0, none⟩)), (1, .agg #[.int .u8 10, .int .u32 ev.pick, .int .u64 ev.draw, .int .u32 ev.addr, .int .u32 ev.node, .int .u32 ev.dst, .int .u32 ev.xfer, .int .u8 4, .int .u64 ev.arg, .int .u64 ev.badge, .slice xo ev.ws.length cx])]) (L := [(3, ⟨[.int .u16 0, .int .u32 0], ty3, true⟩)]) (args := [.pointer (some ⟨mb, 0, none⟩), .agg #[.int .u8 10, .int .u32 ev.pick, .int .u64 ev.draw, .int .u32 ev.addr, .int .u32 ev.node, .int .u32 ev.dst, .int .u32 ev.xfer, .int .u8 4, .int .u64 ev.arg, .int .u64 ev.badge, .slice xo ev.ws.length cx]]) Tryd.func55 rfl rfl rfl rfl (kcons hg3 knil) (by simp) (kcons (by intro hq; cases hq) knil) hH.mD MD.stable hH.md.low (kcons (by intro hq; cases hq) knil) ?_
  intro ac h
  refine wp_seq_k fun K1 hK1 => ?_
  refine nd_start (l := [0, 1, 2]) rfl ?_
  refine nd_op ?_
  refine op_new tabOk2 (cells := [.int .u8 10, .int .u32 ev.pick, .int .u64 ev.draw, .int .u32 ev.addr, .int .u32 ev.node, .int .u32 ev.dst, .int .u32 ev.xfer, .int .u8 4, .int .u64 ev.arg, .int .u64 ev.badge, .slice xo ev.ws.length cx]) (ty := 35) (ln := none) (L1 := fun b2 => [(3, ⟨[.int .u16 0, .int .u32 0], ty3, true⟩), (b2, ⟨[.int .u8 10, .int .u32 ev.pick, .int .u64 ev.draw, .int .u32 ev.addr, .int .u32 ev.node, .int .u32 ev.dst, .int .u32 ev.xfer, .int .u8 4, .int .u64 ev.arg, .int .u64 ev.badge, .slice xo ev.ws.length cx], 35, false⟩)]) h rfl rfl rfl rfl (by kernel_rfl) (fun _ => rfl) fun b2 w3 a4 h5 hf6 hn7 => ?_
  clear h
  refine nd_batch tabOk2 tabZ_ok2 [(1, {}), (2, {})] [3, 0, 1, 4, 5] (T' := [(3, .pointer (some ⟨b2, 0, none⟩)), (0, .pointer (some ⟨mb, 0, none⟩)), (1, .agg #[.int .u8 10, .int .u32 ev.pick, .int .u64 ev.draw, .int .u32 ev.addr, .int .u32 ev.node, .int .u32 ev.dst, .int .u32 ev.xfer, .int .u8 4, .int .u64 ev.arg, .int .u64 ev.badge, .slice xo ev.ws.length cx]), (4, .int .u8 0), (5, .bool false)]) (φ := True) (rest := []) h5 (by kernel_rfl) rfl trivial fun a8 h9 => ?_
  clear h5
  refine nd_done ?_
  refine hK1 _ _ ?_
  clear hK1
  refine wp_seq_k fun K10 hK10 => ?_
  refine nd_start (l := [0, 1, 2, 3, 4, 5]) rfl ?_
  refine nd_batch tabOk2 tabZ_ok2 [(0, {}), (1, {}), (2, {})] [3, 0, 1, 4, 5, 44] (T' := [(3, .pointer (some ⟨b2, 0, none⟩)), (0, .pointer (some ⟨mb, 0, none⟩)), (1, .agg #[.int .u8 10, .int .u32 ev.pick, .int .u64 ev.draw, .int .u32 ev.addr, .int .u32 ev.node, .int .u32 ev.dst, .int .u32 ev.xfer, .int .u8 4, .int .u64 ev.arg, .int .u64 ev.badge, .slice xo ev.ws.length cx]), (4, .int .u8 0), (5, .bool false), (44, .pointer (some ⟨mb, 13, none⟩))]) (φ := True) (rest := [3, 4, 5]) h9 (by kernel_rfl) rfl trivial fun a11 h12 => ?_
  clear h9
  refine nd_op ?_
  refine op_read (b := mb) (v := .agg #[.int .u16 ((Z.ky x).idx), .int .u32 ((Z.ky x).gen)]) h12 rfl rfl (rd_mA h12 (k := 13) (vs := [.int .u16 ((Z.ky x).idx), .int .u32 ((Z.ky x).gen)]) rfl rfl rfl rfl rfl (by rw [← hcx]; exact md_cur)) ?_
  have h13 := h12.put (d := some 45) (v := .agg #[.int .u16 ((Z.ky x).idx), .int .u32 ((Z.ky x).gen)]) (T' := [(45, .agg #[.int .u16 ((Z.ky x).idx), .int .u32 ((Z.ky x).gen)]), (3, .pointer (some ⟨b2, 0, none⟩)), (0, .pointer (some ⟨mb, 0, none⟩)), (1, .agg #[.int .u8 10, .int .u32 ev.pick, .int .u64 ev.draw, .int .u32 ev.addr, .int .u32 ev.node, .int .u32 ev.dst, .int .u32 ev.xfer, .int .u8 4, .int .u64 ev.arg, .int .u64 ev.badge, .slice xo ev.ws.length cx]), (4, .int .u8 0), (5, .bool false), (44, .pointer (some ⟨mb, 13, none⟩))]) rfl
  clear h12
  refine nd_op ?_
  refine op_new tabOk2 (cells := [.int .u16 0, .int .u32 0]) (ty := 39) (ln := none) (L1 := fun b14 => [(3, ⟨[.int .u16 0, .int .u32 0], ty3, true⟩), (b2, ⟨[.int .u8 10, .int .u32 ev.pick, .int .u64 ev.draw, .int .u32 ev.addr, .int .u32 ev.node, .int .u32 ev.dst, .int .u32 ev.xfer, .int .u8 4, .int .u64 ev.arg, .int .u64 ev.badge, .slice xo ev.ws.length cx], 35, false⟩), (b14, ⟨[.int .u16 0, .int .u32 0], 39, false⟩)]) h13 rfl rfl rfl rfl (by kernel_rfl) (fun _ => rfl) fun b14 w15 a16 h17 hf18 hn19 => ?_
  clear h13
  refine nd_op ?_
  refine op_store tabOk2 {k := 2} (L' := [(3, ⟨[.int .u16 0, .int .u32 0], ty3, true⟩), (b2, ⟨[.int .u8 10, .int .u32 ev.pick, .int .u64 ev.draw, .int .u32 ev.addr, .int .u32 ev.node, .int .u32 ev.dst, .int .u32 ev.xfer, .int .u8 4, .int .u64 ev.arg, .int .u64 ev.badge, .slice xo ev.ws.length cx], 35, false⟩), (b14, ⟨[.int .u16 ((Z.ky x).idx), .int .u32 ((Z.ky x).gen)], 39, false⟩)]) (φ := b14 = b14 ∧ Nat.ble (0 + 2) 2 = true) h17 rfl rfl rfl (by kernel_rfl) ⟨rfl, rfl⟩ fun w20 h21 => ?_
  clear h17
  refine nd_done ?_
  refine hK10 _ _ ?_
  clear hK10
  refine wp_seq_k fun K22 hK22 => ?_
  refine dr_start (KB := [3, b2, b14, mb, Z.tb]) (Bi := [[0, 1, 2, 3, 4], [0, 1, 2, 3, 4], [0, 1, 2, 3, 4], [0, 1, 2, 3, 4], [0, 1, 2, 3, 4], [0, 1, 2, 3, 4], [0, 1, 2, 3, 4]]) mixed h21 fun w23 h24 => ?_
  clear h21
  refine dr_batch tabOk2 tabZ_ok2 (by repeat (first | with_reducible exact PF.body | with_reducible apply PF.inB | with_reducible apply PF.next)) [(0, {}), (1, {}), (2, {})] [6, 3, 0, 1, 4, 5, 48] (T' := [(6, .pointer (some ⟨b14, 0, none⟩)), (3, .pointer (some ⟨b2, 0, none⟩)), (0, .pointer (some ⟨mb, 0, none⟩)), (1, .agg #[.int .u8 10, .int .u32 ev.pick, .int .u64 ev.draw, .int .u32 ev.addr, .int .u32 ev.node, .int .u32 ev.dst, .int .u32 ev.xfer, .int .u8 4, .int .u64 ev.arg, .int .u64 ev.badge, .slice xo ev.ws.length cx]), (4, .int .u8 0), (5, .bool false), (48, .pointer (some ⟨mb, 2, none⟩))]) (φ := True) (fuel := 4) h24 (by kernel_rfl) rfl (by kernel_rfl) (by kernel_rfl) ⟨trivial, trivial, trivial, trivial⟩ trivial fun a26 h27 => ?_
  clear h24
  refine dr_read (i := 3) (b := mb) (p := 3) (v := .map (some Z.tb)) (fuel := 3) (by repeat (first | with_reducible exact PF.body | with_reducible apply PF.inB | with_reducible apply PF.next)) h27 rfl rfl rfl (by kernel_rfl) (by kernel_rfl) (by kernel_rfl) rfl (rd_m h27 (k := 2) (v := .map (some Z.tb)) rfl rfl rfl rfl (md_p ⟨rfl, trivial⟩)) ?_
  have h28 := h27.put (d := some 49) (v := .map (some Z.tb)) (T' := [(49, .map (some Z.tb)), (6, .pointer (some ⟨b14, 0, none⟩)), (3, .pointer (some ⟨b2, 0, none⟩)), (0, .pointer (some ⟨mb, 0, none⟩)), (1, .agg #[.int .u8 10, .int .u32 ev.pick, .int .u64 ev.draw, .int .u32 ev.addr, .int .u32 ev.node, .int .u32 ev.dst, .int .u32 ev.xfer, .int .u8 4, .int .u64 ev.arg, .int .u64 ev.badge, .slice xo ev.ws.length cx]), (4, .int .u8 0), (5, .bool false), (48, .pointer (some ⟨mb, 2, none⟩))]) rfl
  clear h27
  refine dr_batch tabOk2 tabZ_ok2 (by repeat (first | with_reducible exact PF.body | with_reducible apply PF.inB | with_reducible apply PF.next)) [(4, {k := 2, p := 2})] [49, 6, 3, 0, 1, 4, 5, 50] (T' := [(49, .map (some Z.tb)), (6, .pointer (some ⟨b14, 0, none⟩)), (3, .pointer (some ⟨b2, 0, none⟩)), (0, .pointer (some ⟨mb, 0, none⟩)), (1, .agg #[.int .u8 10, .int .u32 ev.pick, .int .u64 ev.draw, .int .u32 ev.addr, .int .u32 ev.node, .int .u32 ev.dst, .int .u32 ev.xfer, .int .u8 4, .int .u64 ev.arg, .int .u64 ev.badge, .slice xo ev.ws.length cx]), (4, .int .u8 0), (5, .bool false), (50, .agg #[.int .u16 ((Z.ky x).idx), .int .u32 ((Z.ky x).gen)])]) (φ := (b14 = b14 ∧ Nat.ble (0 + 2) 2 = true) ∧ True) (fuel := 2) h28 (by kernel_rfl) rfl (by kernel_rfl) (by kernel_rfl) ⟨rfl, trivial⟩ ⟨⟨rfl, rfl⟩, trivial⟩ fun a29 h30 => ?_
  clear h28
  refine dr_read (i := 5) (b := Z.tb) (p := 4) (v := .pointer (some ⟨(Z.tp x), 0, none⟩)) (fuel := 1) (by repeat (first | with_reducible exact PF.body | with_reducible apply PF.inB | with_reducible apply PF.next)) h30 rfl rfl rfl (by kernel_rfl) (by kernel_rfl) (by kernel_rfl) rfl (rd_T h30 (x := x) hx rfl rfl rfl) ?_
  have h31 := h30.put (d := some 51) (v := .pointer (some ⟨(Z.tp x), 0, none⟩)) (T' := [(51, .pointer (some ⟨(Z.tp x), 0, none⟩)), (49, .map (some Z.tb)), (6, .pointer (some ⟨b14, 0, none⟩)), (3, .pointer (some ⟨b2, 0, none⟩)), (0, .pointer (some ⟨mb, 0, none⟩)), (1, .agg #[.int .u8 10, .int .u32 ev.pick, .int .u64 ev.draw, .int .u32 ev.addr, .int .u32 ev.node, .int .u32 ev.dst, .int .u32 ev.xfer, .int .u8 4, .int .u64 ev.arg, .int .u64 ev.badge, .slice xo ev.ws.length cx]), (4, .int .u8 0), (5, .bool false), (50, .agg #[.int .u16 ((Z.ky x).idx), .int .u32 ((Z.ky x).gen)])]) rfl
  clear h30
  refine dr_batch tabOk2 tabZ_ok2 (by repeat (first | with_reducible exact PF.body | with_reducible apply PF.inB | with_reducible apply PF.next)) [(6, {})] [6, 3, 0, 1, 4, 5, 7] (T' := [(6, .pointer (some ⟨b14, 0, none⟩)), (3, .pointer (some ⟨b2, 0, none⟩)), (0, .pointer (some ⟨mb, 0, none⟩)), (1, .agg #[.int .u8 10, .int .u32 ev.pick, .int .u64 ev.draw, .int .u32 ev.addr, .int .u32 ev.node, .int .u32 ev.dst, .int .u32 ev.xfer, .int .u8 4, .int .u64 ev.arg, .int .u64 ev.badge, .slice xo ev.ws.length cx]), (4, .int .u8 0), (5, .bool false), (7, .pointer (some ⟨(Z.tp x), 0, none⟩))]) (φ := True) (fuel := 0) h31 (by kernel_rfl) rfl (by kernel_rfl) (by kernel_rfl) ⟨trivial, trivial⟩ trivial fun a32 h33 => ?_
  clear h31
  refine wpAnyK_done (by kernel_rfl) ?_ _
  refine hK22 _ _ ?_
  clear hK22
  refine wp_seq_k fun K34 hK34 => ?_
  refine wp_seq_k fun K35 hK35 => ?_
  refine nd_start (l := [0, 1]) rfl ?_
  refine nd_batch tabOk2 tabZ_ok2 [(0, {}), (1, {k := 1})] [6, 3, 0, 1, 4, 5, 7, 53] (T' := [(6, .pointer (some ⟨b14, 0, none⟩)), (3, .pointer (some ⟨b2, 0, none⟩)), (0, .pointer (some ⟨mb, 0, none⟩)), (1, .agg #[.int .u8 10, .int .u32 ev.pick, .int .u64 ev.draw, .int .u32 ev.addr, .int .u32 ev.node, .int .u32 ev.dst, .int .u32 ev.xfer, .int .u8 4, .int .u64 ev.arg, .int .u64 ev.badge, .slice xo ev.ws.length cx]), (4, .int .u8 0), (5, .bool false), (7, .pointer (some ⟨(Z.tp x), 0, none⟩)), (53, .int .u8 10)]) (φ := (b2 = b2 ∧ Nat.ble (0 + 1) 11 = true) ∧ True) (rest := []) h33 (by kernel_rfl) rfl ⟨⟨rfl, rfl⟩, trivial⟩ fun a36 h37 => ?_
  clear h33
  refine nd_done ?_
  refine hK35 _ _ ?_
  clear hK35
  refine wp_block ?_
  refine wp_seq_k fun K38 hK38 => ?_
  refine nd_start (l := [0, 1]) rfl ?_
  refine nd_batch tabOk2 tabZ_ok2 [(0, {}), (1, {})] [6, 3, 0, 1, 4, 5, 7, 53, 54] (T' := [(6, .pointer (some ⟨b14, 0, none⟩)), (3, .pointer (some ⟨b2, 0, none⟩)), (0, .pointer (some ⟨mb, 0, none⟩)), (1, .agg #[.int .u8 10, .int .u32 ev.pick, .int .u64 ev.draw, .int .u32 ev.addr, .int .u32 ev.node, .int .u32 ev.dst, .int .u32 ev.xfer, .int .u8 4, .int .u64 ev.arg, .int .u64 ev.badge, .slice xo ev.ws.length cx]), (4, .int .u8 0), (5, .bool false), (7, .pointer (some ⟨(Z.tp x), 0, none⟩)), (53, .int .u8 10), (54, .bool false)]) (φ := True) (rest := []) h37 (by kernel_rfl) rfl trivial fun a39 h40 => ?_
  clear h37
  refine nd_done ?_
  refine hK38 _ _ ?_
  clear hK38
  refine c_false h40 rfl ?_
  refine wp_seq_k fun K41 hK41 => ?_
  refine nd_start (l := [0, 1]) rfl ?_
  refine nd_batch tabOk2 tabZ_ok2 [(0, {}), (1, {})] [6, 3, 0, 1, 4, 5, 7, 53, 59] (T' := [(6, .pointer (some ⟨b14, 0, none⟩)), (3, .pointer (some ⟨b2, 0, none⟩)), (0, .pointer (some ⟨mb, 0, none⟩)), (1, .agg #[.int .u8 10, .int .u32 ev.pick, .int .u64 ev.draw, .int .u32 ev.addr, .int .u32 ev.node, .int .u32 ev.dst, .int .u32 ev.xfer, .int .u8 4, .int .u64 ev.arg, .int .u64 ev.badge, .slice xo ev.ws.length cx]), (4, .int .u8 0), (5, .bool false), (7, .pointer (some ⟨(Z.tp x), 0, none⟩)), (53, .int .u8 10), (59, .bool false)]) (φ := True) (rest := []) h40 (by kernel_rfl) rfl trivial fun a42 h43 => ?_
  clear h40
  refine nd_done ?_
  refine hK41 _ _ ?_
  clear hK41
  refine c_false h43 rfl ?_
  refine wp_seq_k fun K44 hK44 => ?_
  refine wp_seq_k fun K45 hK45 => ?_
  refine nd_start (l := [0, 1]) rfl ?_
  refine nd_batch tabOk2 tabZ_ok2 [(0, {}), (1, {})] [6, 3, 0, 1, 4, 5, 7, 53, 66] (T' := [(6, .pointer (some ⟨b14, 0, none⟩)), (3, .pointer (some ⟨b2, 0, none⟩)), (0, .pointer (some ⟨mb, 0, none⟩)), (1, .agg #[.int .u8 10, .int .u32 ev.pick, .int .u64 ev.draw, .int .u32 ev.addr, .int .u32 ev.node, .int .u32 ev.dst, .int .u32 ev.xfer, .int .u8 4, .int .u64 ev.arg, .int .u64 ev.badge, .slice xo ev.ws.length cx]), (4, .int .u8 0), (5, .bool false), (7, .pointer (some ⟨(Z.tp x), 0, none⟩)), (53, .int .u8 10), (66, .bool false)]) (φ := True) (rest := []) h43 (by kernel_rfl) rfl trivial fun a46 h47 => ?_
  clear h43
  refine nd_done ?_
  refine hK45 _ _ ?_
  clear hK45
  refine c_false h47 rfl ?_
  refine nd_start (l := [0, 1]) rfl ?_
  refine nd_batch tabOk2 tabZ_ok2 [(0, {}), (1, {})] [6, 3, 0, 1, 4, 5, 7, 53, 66] (T' := [(6, .pointer (some ⟨b14, 0, none⟩)), (3, .pointer (some ⟨b2, 0, none⟩)), (0, .pointer (some ⟨mb, 0, none⟩)), (1, .agg #[.int .u8 10, .int .u32 ev.pick, .int .u64 ev.draw, .int .u32 ev.addr, .int .u32 ev.node, .int .u32 ev.dst, .int .u32 ev.xfer, .int .u8 4, .int .u64 ev.arg, .int .u64 ev.badge, .slice xo ev.ws.length cx]), (4, .int .u8 0), (5, .bool false), (7, .pointer (some ⟨(Z.tp x), 0, none⟩)), (53, .int .u8 10), (66, .bool false)]) (φ := True) (rest := []) h47 (by kernel_rfl) rfl trivial fun a48 h49 => ?_
  clear h47
  refine nd_done ?_
  refine hK44 _ _ ?_
  clear hK44
  refine c_false h49 rfl ?_
  refine wp_seq_k fun K50 hK50 => ?_
  refine nd_start (l := [0, 1]) rfl ?_
  refine nd_batch tabOk2 tabZ_ok2 [(0, {}), (1, {})] [6, 3, 0, 1, 4, 5, 7, 53, 66, 129] (T' := [(6, .pointer (some ⟨b14, 0, none⟩)), (3, .pointer (some ⟨b2, 0, none⟩)), (0, .pointer (some ⟨mb, 0, none⟩)), (1, .agg #[.int .u8 10, .int .u32 ev.pick, .int .u64 ev.draw, .int .u32 ev.addr, .int .u32 ev.node, .int .u32 ev.dst, .int .u32 ev.xfer, .int .u8 4, .int .u64 ev.arg, .int .u64 ev.badge, .slice xo ev.ws.length cx]), (4, .int .u8 0), (5, .bool false), (7, .pointer (some ⟨(Z.tp x), 0, none⟩)), (53, .int .u8 10), (66, .bool false), (129, .bool false)]) (φ := True) (rest := []) h49 (by kernel_rfl) rfl trivial fun a51 h52 => ?_
  clear h49
  refine nd_done ?_
  refine hK50 _ _ ?_
  clear hK50
  refine c_false h52 rfl ?_
  refine wp_seq_k fun K53 hK53 => ?_
  refine nd_start (l := [0, 1]) rfl ?_
  refine nd_batch tabOk2 tabZ_ok2 [(0, {}), (1, {})] [6, 3, 0, 1, 4, 5, 7, 53, 66, 165] (T' := [(6, .pointer (some ⟨b14, 0, none⟩)), (3, .pointer (some ⟨b2, 0, none⟩)), (0, .pointer (some ⟨mb, 0, none⟩)), (1, .agg #[.int .u8 10, .int .u32 ev.pick, .int .u64 ev.draw, .int .u32 ev.addr, .int .u32 ev.node, .int .u32 ev.dst, .int .u32 ev.xfer, .int .u8 4, .int .u64 ev.arg, .int .u64 ev.badge, .slice xo ev.ws.length cx]), (4, .int .u8 0), (5, .bool false), (7, .pointer (some ⟨(Z.tp x), 0, none⟩)), (53, .int .u8 10), (66, .bool false), (165, .bool false)]) (φ := True) (rest := []) h52 (by kernel_rfl) rfl trivial fun a54 h55 => ?_
  clear h52
  refine nd_done ?_
  refine hK53 _ _ ?_
  clear hK53
  refine c_false h55 rfl ?_
  refine wp_seq_k fun K56 hK56 => ?_
  refine nd_start (l := [0, 1]) rfl ?_
  refine nd_batch tabOk2 tabZ_ok2 [(0, {}), (1, {})] [6, 3, 0, 1, 4, 5, 7, 53, 66, 226] (T' := [(6, .pointer (some ⟨b14, 0, none⟩)), (3, .pointer (some ⟨b2, 0, none⟩)), (0, .pointer (some ⟨mb, 0, none⟩)), (1, .agg #[.int .u8 10, .int .u32 ev.pick, .int .u64 ev.draw, .int .u32 ev.addr, .int .u32 ev.node, .int .u32 ev.dst, .int .u32 ev.xfer, .int .u8 4, .int .u64 ev.arg, .int .u64 ev.badge, .slice xo ev.ws.length cx]), (4, .int .u8 0), (5, .bool false), (7, .pointer (some ⟨(Z.tp x), 0, none⟩)), (53, .int .u8 10), (66, .bool false), (226, .bool false)]) (φ := True) (rest := []) h55 (by kernel_rfl) rfl trivial fun a57 h58 => ?_
  clear h55
  refine nd_done ?_
  refine hK56 _ _ ?_
  clear hK56
  refine c_false h58 rfl ?_
  refine wp_seq_k fun K59 hK59 => ?_
  refine nd_start (l := [0, 1]) rfl ?_
  refine nd_batch tabOk2 tabZ_ok2 [(0, {}), (1, {})] [6, 3, 0, 1, 4, 5, 7, 53, 66, 244] (T' := [(6, .pointer (some ⟨b14, 0, none⟩)), (3, .pointer (some ⟨b2, 0, none⟩)), (0, .pointer (some ⟨mb, 0, none⟩)), (1, .agg #[.int .u8 10, .int .u32 ev.pick, .int .u64 ev.draw, .int .u32 ev.addr, .int .u32 ev.node, .int .u32 ev.dst, .int .u32 ev.xfer, .int .u8 4, .int .u64 ev.arg, .int .u64 ev.badge, .slice xo ev.ws.length cx]), (4, .int .u8 0), (5, .bool false), (7, .pointer (some ⟨(Z.tp x), 0, none⟩)), (53, .int .u8 10), (66, .bool false), (244, .bool false)]) (φ := True) (rest := []) h58 (by kernel_rfl) rfl trivial fun a60 h61 => ?_
  clear h58
  refine nd_done ?_
  refine hK59 _ _ ?_
  clear hK59
  refine c_false h61 rfl ?_
  refine wp_seq_k fun K62 hK62 => ?_
  refine nd_start (l := [0, 1]) rfl ?_
  refine nd_batch tabOk2 tabZ_ok2 [(0, {}), (1, {})] [6, 3, 0, 1, 4, 5, 7, 53, 66, 285] (T' := [(6, .pointer (some ⟨b14, 0, none⟩)), (3, .pointer (some ⟨b2, 0, none⟩)), (0, .pointer (some ⟨mb, 0, none⟩)), (1, .agg #[.int .u8 10, .int .u32 ev.pick, .int .u64 ev.draw, .int .u32 ev.addr, .int .u32 ev.node, .int .u32 ev.dst, .int .u32 ev.xfer, .int .u8 4, .int .u64 ev.arg, .int .u64 ev.badge, .slice xo ev.ws.length cx]), (4, .int .u8 0), (5, .bool false), (7, .pointer (some ⟨(Z.tp x), 0, none⟩)), (53, .int .u8 10), (66, .bool false), (285, .bool true)]) (φ := True) (rest := []) h61 (by kernel_rfl) rfl trivial fun a63 h64 => ?_
  clear h61
  refine nd_done ?_
  refine hK62 _ _ ?_
  clear hK62
  refine c_true h64 rfl ?_
  refine wp_seq_k fun K65 hK65 => ?_
  refine wp_seq_k fun K66 hK66 => ?_
  refine nd_start (l := [0, 1, 2, 3, 4, 5, 6, 7, 8, 9]) rfl ?_
  refine nd_batch tabOk2 tabZ_ok2 [(0, {}), (1, {}), (2, {k := 1})] [6, 3, 0, 1, 4, 5, 7, 53, 66, 288, 290] (T' := [(6, .pointer (some ⟨b14, 0, none⟩)), (3, .pointer (some ⟨b2, 0, none⟩)), (0, .pointer (some ⟨mb, 0, none⟩)), (1, .agg #[.int .u8 10, .int .u32 ev.pick, .int .u64 ev.draw, .int .u32 ev.addr, .int .u32 ev.node, .int .u32 ev.dst, .int .u32 ev.xfer, .int .u8 4, .int .u64 ev.arg, .int .u64 ev.badge, .slice xo ev.ws.length cx]), (4, .int .u8 0), (5, .bool false), (7, .pointer (some ⟨(Z.tp x), 0, none⟩)), (53, .int .u8 10), (66, .bool false), (288, .pointer (some ⟨mb, 0, none⟩)), (290, .int .u32 ev.addr)]) (φ := (b2 = b2 ∧ Nat.ble (3 + 1) 11 = true) ∧ True) (rest := [3, 4, 5, 6, 7, 8, 9]) h64 (by kernel_rfl) rfl ⟨⟨rfl, rfl⟩, trivial⟩ fun a67 h68 => ?_
  clear h64
  refine nd_op ?_
  refine op_call h68 rfl rfl rfl (callOk Tryd.func90 (by decide) rfl) (args := [.pointer (some ⟨mb, 0, none⟩), .int .u32 ev.addr, .int .u8 1, .int .u8 2]) rfl (capOf_ok mb Z _ a C x hx hcx hci hcn hI.ci ev.addr 1 2 he.addr _ (mh_of h68 hho (k := 0) rfl) hf) ?_
  rintro _ w69 ⟨rfl, hg71⟩
  refine ⟨_, rfl, ?_⟩
  have h72a := st_mg h68 hg71 (kcons (fun _ => rfl) (kcons (fun hq => by cases hq) (kcons (fun hq => by cases hq) knil)))
  have h72 := h72a.put (d := some 291) (v := .tuple #[.agg #[.int .u8 c.ty, .int .u16 c.obj.idx, .int .u32 c.obj.gen, .int .u8 c.rights, .int .u64 c.badge], .int .u8 0]) (T' := [(291, .tuple #[.agg #[.int .u8 c.ty, .int .u16 c.obj.idx, .int .u32 c.obj.gen, .int .u8 c.rights, .int .u64 c.badge], .int .u8 0]), (6, .pointer (some ⟨b14, 0, none⟩)), (3, .pointer (some ⟨b2, 0, none⟩)), (0, .pointer (some ⟨mb, 0, none⟩)), (1, .agg #[.int .u8 10, .int .u32 ev.pick, .int .u64 ev.draw, .int .u32 ev.addr, .int .u32 ev.node, .int .u32 ev.dst, .int .u32 ev.xfer, .int .u8 4, .int .u64 ev.arg, .int .u64 ev.badge, .slice xo ev.ws.length cx]), (4, .int .u8 0), (5, .bool false), (7, .pointer (some ⟨(Z.tp x), 0, none⟩)), (53, .int .u8 10), (66, .bool false), (288, .pointer (some ⟨mb, 0, none⟩)), (290, .int .u32 ev.addr)]) rfl
  have hhoh72 := hg71.mh.ho
  clear h68 h72a
  refine nd_batch tabOk2 tabZ_ok2 [(4, {}), (5, {}), (6, {})] [6, 3, 0, 1, 4, 5, 7, 53, 66, 292, 293] (T' := [(6, .pointer (some ⟨b14, 0, none⟩)), (3, .pointer (some ⟨b2, 0, none⟩)), (0, .pointer (some ⟨mb, 0, none⟩)), (1, .agg #[.int .u8 10, .int .u32 ev.pick, .int .u64 ev.draw, .int .u32 ev.addr, .int .u32 ev.node, .int .u32 ev.dst, .int .u32 ev.xfer, .int .u8 4, .int .u64 ev.arg, .int .u64 ev.badge, .slice xo ev.ws.length cx]), (4, .int .u8 0), (5, .bool false), (7, .pointer (some ⟨(Z.tp x), 0, none⟩)), (53, .int .u8 10), (66, .bool false), (292, .agg #[.int .u8 c.ty, .int .u16 c.obj.idx, .int .u32 c.obj.gen, .int .u8 c.rights, .int .u64 c.badge]), (293, .int .u8 0)]) (φ := True) (rest := [7, 8, 9]) h72 (by kernel_rfl) rfl trivial fun a73 h74 => ?_
  clear h72
  refine nd_op ?_
  refine op_new tabOk2 (cells := [.int .u8 0, .int .u16 0, .int .u32 0, .int .u8 0, .int .u64 0]) (ty := 49) (ln := none) (L1 := fun b75 => [(3, ⟨[.int .u16 0, .int .u32 0], ty3, true⟩), (b2, ⟨[.int .u8 10, .int .u32 ev.pick, .int .u64 ev.draw, .int .u32 ev.addr, .int .u32 ev.node, .int .u32 ev.dst, .int .u32 ev.xfer, .int .u8 4, .int .u64 ev.arg, .int .u64 ev.badge, .slice xo ev.ws.length cx], 35, false⟩), (b14, ⟨[.int .u16 ((Z.ky x).idx), .int .u32 ((Z.ky x).gen)], 39, false⟩), (b75, ⟨[.int .u8 0, .int .u16 0, .int .u32 0, .int .u8 0, .int .u64 0], 49, false⟩)]) h74 rfl rfl rfl rfl (by kernel_rfl) (fun _ => rfl) fun b75 w76 a77 h78 hf79 hn80 => ?_
  clear h74
  refine nd_op ?_
  refine op_store tabOk2 {k := 3} (L' := [(3, ⟨[.int .u16 0, .int .u32 0], ty3, true⟩), (b2, ⟨[.int .u8 10, .int .u32 ev.pick, .int .u64 ev.draw, .int .u32 ev.addr, .int .u32 ev.node, .int .u32 ev.dst, .int .u32 ev.xfer, .int .u8 4, .int .u64 ev.arg, .int .u64 ev.badge, .slice xo ev.ws.length cx], 35, false⟩), (b14, ⟨[.int .u16 ((Z.ky x).idx), .int .u32 ((Z.ky x).gen)], 39, false⟩), (b75, ⟨[.int .u8 c.ty, .int .u16 c.obj.idx, .int .u32 c.obj.gen, .int .u8 c.rights, .int .u64 c.badge], 49, false⟩)]) (φ := b75 = b75 ∧ Nat.ble (0 + 5) 5 = true) h78 rfl rfl rfl (by kernel_rfl) ⟨rfl, rfl⟩ fun w81 h82 => ?_
  clear h78
  refine nd_batch tabOk2 tabZ_ok2 [(9, {})] [6, 3, 0, 1, 4, 5, 7, 53, 66, 21] (T' := [(6, .pointer (some ⟨b14, 0, none⟩)), (3, .pointer (some ⟨b2, 0, none⟩)), (0, .pointer (some ⟨mb, 0, none⟩)), (1, .agg #[.int .u8 10, .int .u32 ev.pick, .int .u64 ev.draw, .int .u32 ev.addr, .int .u32 ev.node, .int .u32 ev.dst, .int .u32 ev.xfer, .int .u8 4, .int .u64 ev.arg, .int .u64 ev.badge, .slice xo ev.ws.length cx]), (4, .int .u8 0), (5, .bool false), (7, .pointer (some ⟨(Z.tp x), 0, none⟩)), (53, .int .u8 10), (66, .bool false), (21, .int .u8 0)]) (φ := True) (rest := []) h82 (by kernel_rfl) rfl trivial fun a83 h84 => ?_
  clear h82
  refine nd_done ?_
  refine hK66 _ _ ?_
  clear hK66
  refine wp_seq_k fun K85 hK85 => ?_
  refine nd_start (l := [0, 1]) rfl ?_
  refine nd_batch tabOk2 tabZ_ok2 [(0, {}), (1, {})] [6, 3, 0, 1, 4, 5, 7, 53, 66, 21, 295] (T' := [(6, .pointer (some ⟨b14, 0, none⟩)), (3, .pointer (some ⟨b2, 0, none⟩)), (0, .pointer (some ⟨mb, 0, none⟩)), (1, .agg #[.int .u8 10, .int .u32 ev.pick, .int .u64 ev.draw, .int .u32 ev.addr, .int .u32 ev.node, .int .u32 ev.dst, .int .u32 ev.xfer, .int .u8 4, .int .u64 ev.arg, .int .u64 ev.badge, .slice xo ev.ws.length cx]), (4, .int .u8 0), (5, .bool false), (7, .pointer (some ⟨(Z.tp x), 0, none⟩)), (53, .int .u8 10), (66, .bool false), (21, .int .u8 0), (295, .bool false)]) (φ := True) (rest := []) h84 (by kernel_rfl) rfl trivial fun a86 h87 => ?_
  clear h84
  refine nd_done ?_
  refine hK85 _ _ ?_
  clear hK85
  refine c_false h87 rfl ?_
  refine wp_skip ?_
  refine hK65 _ _ ?_
  clear hK65
  refine wp_seq_k fun K88 hK88 => ?_
  refine nd_start (l := [0, 1, 2, 3, 4, 5, 6, 7, 8]) rfl ?_
  refine nd_batch tabOk2 tabZ_ok2 [(0, {}), (1, {}), (2, {k := 1})] [6, 3, 0, 1, 4, 5, 7, 53, 66, 21, 298, 300] (T' := [(6, .pointer (some ⟨b14, 0, none⟩)), (3, .pointer (some ⟨b2, 0, none⟩)), (0, .pointer (some ⟨mb, 0, none⟩)), (1, .agg #[.int .u8 10, .int .u32 ev.pick, .int .u64 ev.draw, .int .u32 ev.addr, .int .u32 ev.node, .int .u32 ev.dst, .int .u32 ev.xfer, .int .u8 4, .int .u64 ev.arg, .int .u64 ev.badge, .slice xo ev.ws.length cx]), (4, .int .u8 0), (5, .bool false), (7, .pointer (some ⟨(Z.tp x), 0, none⟩)), (53, .int .u8 10), (66, .bool false), (21, .int .u8 0), (298, .pointer (some ⟨mb, 0, none⟩)), (300, .int .u32 ev.addr)]) (φ := (b2 = b2 ∧ Nat.ble (3 + 1) 11 = true) ∧ True) (rest := [3, 4, 5, 6, 7, 8]) h87 (by kernel_rfl) rfl ⟨⟨rfl, rfl⟩, trivial⟩ fun a89 h90 => ?_
  clear h87
  refine nd_op ?_
  refine op_call h90 rfl rfl rfl (callOk Tryd.func93 (by decide) rfl) (args := [.pointer (some ⟨mb, 0, none⟩), .int .u32 ev.addr]) rfl (cellOf_ok mb Z _ a C x hx hcx hci ev.addr he.addr e1 _ (mh_of h90 hhoh72 (k := 0) rfl)) ?_
  rintro _ w91 ⟨rfl, hg93⟩
  refine ⟨_, rfl, ?_⟩
  have h94a := st_mg h90 hg93 (kcons (fun _ => rfl) (kcons (fun hq => by cases hq) (kcons (fun hq => by cases hq) (kcons (fun hq => by cases hq) knil))))
  have h94 := h94a.put (d := some 301) (v := .tuple #[.int .i64 s1, .int .u8 0]) (T' := [(301, .tuple #[.int .i64 s1, .int .u8 0]), (6, .pointer (some ⟨b14, 0, none⟩)), (3, .pointer (some ⟨b2, 0, none⟩)), (0, .pointer (some ⟨mb, 0, none⟩)), (1, .agg #[.int .u8 10, .int .u32 ev.pick, .int .u64 ev.draw, .int .u32 ev.addr, .int .u32 ev.node, .int .u32 ev.dst, .int .u32 ev.xfer, .int .u8 4, .int .u64 ev.arg, .int .u64 ev.badge, .slice xo ev.ws.length cx]), (4, .int .u8 0), (5, .bool false), (7, .pointer (some ⟨(Z.tp x), 0, none⟩)), (53, .int .u8 10), (66, .bool false), (21, .int .u8 0), (298, .pointer (some ⟨mb, 0, none⟩)), (300, .int .u32 ev.addr)]) rfl
  have hhoh94 := hg93.mh.ho
  clear h90 h94a
  refine nd_batch tabOk2 tabZ_ok2 [(4, {}), (5, {}), (6, {}), (7, {}), (8, {})] [6, 3, 0, 1, 4, 5, 7, 53, 66, 21, 22] (T' := [(6, .pointer (some ⟨b14, 0, none⟩)), (3, .pointer (some ⟨b2, 0, none⟩)), (0, .pointer (some ⟨mb, 0, none⟩)), (1, .agg #[.int .u8 10, .int .u32 ev.pick, .int .u64 ev.draw, .int .u32 ev.addr, .int .u32 ev.node, .int .u32 ev.dst, .int .u32 ev.xfer, .int .u8 4, .int .u64 ev.arg, .int .u64 ev.badge, .slice xo ev.ws.length cx]), (4, .int .u8 0), (5, .bool false), (7, .pointer (some ⟨(Z.tp x), 0, none⟩)), (53, .int .u8 10), (66, .bool false), (21, .int .u8 0), (22, .int .i64 s1)]) (φ := True) (rest := []) h94 (by kernel_rfl) rfl trivial fun a95 h96 => ?_
  clear h94
  refine nd_done ?_
  refine hK88 _ _ ?_
  clear hK88
  refine wp_seq_k fun K97 hK97 => ?_
  refine nd_start (l := [0, 1, 2, 3, 4, 5, 6, 7, 8]) rfl ?_
  refine nd_batch tabOk2 tabZ_ok2 [(0, {}), (1, {}), (2, {k := 1})] [6, 3, 0, 1, 4, 5, 7, 53, 66, 21, 22, 305, 307] (T' := [(6, .pointer (some ⟨b14, 0, none⟩)), (3, .pointer (some ⟨b2, 0, none⟩)), (0, .pointer (some ⟨mb, 0, none⟩)), (1, .agg #[.int .u8 10, .int .u32 ev.pick, .int .u64 ev.draw, .int .u32 ev.addr, .int .u32 ev.node, .int .u32 ev.dst, .int .u32 ev.xfer, .int .u8 4, .int .u64 ev.arg, .int .u64 ev.badge, .slice xo ev.ws.length cx]), (4, .int .u8 0), (5, .bool false), (7, .pointer (some ⟨(Z.tp x), 0, none⟩)), (53, .int .u8 10), (66, .bool false), (21, .int .u8 0), (22, .int .i64 s1), (305, .pointer (some ⟨mb, 0, none⟩)), (307, .int .u32 ev.dst)]) (φ := (b2 = b2 ∧ Nat.ble (5 + 1) 11 = true) ∧ True) (rest := [3, 4, 5, 6, 7, 8]) h96 (by kernel_rfl) rfl ⟨⟨rfl, rfl⟩, trivial⟩ fun a98 h99 => ?_
  clear h96
  refine nd_op ?_
  refine op_call h99 rfl rfl rfl (callOk Tryd.func93 (by decide) rfl) (args := [.pointer (some ⟨mb, 0, none⟩), .int .u32 ev.dst]) rfl (cellOf_ok mb Z _ a C x hx hcx hci ev.dst he.dst e2 _ (mh_of h99 hhoh94 (k := 0) rfl)) ?_
  rintro _ w100 ⟨rfl, hg102⟩
  refine ⟨_, rfl, ?_⟩
  have h103a := st_mg h99 hg102 (kcons (fun _ => rfl) (kcons (fun hq => by cases hq) (kcons (fun hq => by cases hq) (kcons (fun hq => by cases hq) knil))))
  have h103 := h103a.put (d := some 308) (v := .tuple #[.int .i64 s2, .int .u8 0]) (T' := [(308, .tuple #[.int .i64 s2, .int .u8 0]), (6, .pointer (some ⟨b14, 0, none⟩)), (3, .pointer (some ⟨b2, 0, none⟩)), (0, .pointer (some ⟨mb, 0, none⟩)), (1, .agg #[.int .u8 10, .int .u32 ev.pick, .int .u64 ev.draw, .int .u32 ev.addr, .int .u32 ev.node, .int .u32 ev.dst, .int .u32 ev.xfer, .int .u8 4, .int .u64 ev.arg, .int .u64 ev.badge, .slice xo ev.ws.length cx]), (4, .int .u8 0), (5, .bool false), (7, .pointer (some ⟨(Z.tp x), 0, none⟩)), (53, .int .u8 10), (66, .bool false), (21, .int .u8 0), (22, .int .i64 s1), (305, .pointer (some ⟨mb, 0, none⟩)), (307, .int .u32 ev.dst)]) rfl
  have hhoh103 := hg102.mh.ho
  clear h99 h103a
  refine nd_batch tabOk2 tabZ_ok2 [(4, {}), (5, {}), (6, {}), (7, {}), (8, {})] [6, 3, 0, 1, 4, 5, 7, 53, 66, 21, 22, 24, 25] (T' := [(6, .pointer (some ⟨b14, 0, none⟩)), (3, .pointer (some ⟨b2, 0, none⟩)), (0, .pointer (some ⟨mb, 0, none⟩)), (1, .agg #[.int .u8 10, .int .u32 ev.pick, .int .u64 ev.draw, .int .u32 ev.addr, .int .u32 ev.node, .int .u32 ev.dst, .int .u32 ev.xfer, .int .u8 4, .int .u64 ev.arg, .int .u64 ev.badge, .slice xo ev.ws.length cx]), (4, .int .u8 0), (5, .bool false), (7, .pointer (some ⟨(Z.tp x), 0, none⟩)), (53, .int .u8 10), (66, .bool false), (21, .int .u8 0), (22, .int .i64 s1), (24, .int .i64 s2), (25, .int .u8 0)]) (φ := True) (rest := []) h103 (by kernel_rfl) rfl trivial fun a104 h105 => ?_
  clear h103
  refine nd_done ?_
  refine hK97 _ _ ?_
  clear hK97
  refine wp_seq_k fun K106 hK106 => ?_
  refine wp_seq_k fun K107 hK107 => ?_
  refine nd_start (l := [0, 1]) rfl ?_
  refine nd_batch tabOk2 tabZ_ok2 [(0, {}), (1, {})] [6, 3, 0, 1, 4, 5, 7, 53, 66, 21, 22, 24, 25, 312] (T' := [(6, .pointer (some ⟨b14, 0, none⟩)), (3, .pointer (some ⟨b2, 0, none⟩)), (0, .pointer (some ⟨mb, 0, none⟩)), (1, .agg #[.int .u8 10, .int .u32 ev.pick, .int .u64 ev.draw, .int .u32 ev.addr, .int .u32 ev.node, .int .u32 ev.dst, .int .u32 ev.xfer, .int .u8 4, .int .u64 ev.arg, .int .u64 ev.badge, .slice xo ev.ws.length cx]), (4, .int .u8 0), (5, .bool false), (7, .pointer (some ⟨(Z.tp x), 0, none⟩)), (53, .int .u8 10), (66, .bool false), (21, .int .u8 0), (22, .int .i64 s1), (24, .int .i64 s2), (25, .int .u8 0), (312, .bool false)]) (φ := True) (rest := []) h105 (by kernel_rfl) rfl trivial fun a108 h109 => ?_
  clear h105
  refine nd_done ?_
  refine hK107 _ _ ?_
  clear hK107
  refine c_false h109 rfl ?_
  refine wp_skip ?_
  refine hK106 _ _ ?_
  clear hK106
  refine wp_seq_k fun K110 hK110 => ?_
  refine wp_seq_k fun K111 hK111 => ?_
  refine nd_start (l := [0, 1, 2, 3, 4, 5, 6, 7]) rfl ?_
  refine nd_batch tabOk2 tabZ_ok2 [(0, {}), (1, {}), (2, {})] [6, 3, 0, 1, 4, 5, 7, 53, 66, 21, 22, 24, 25, 316] (T' := [(6, .pointer (some ⟨b14, 0, none⟩)), (3, .pointer (some ⟨b2, 0, none⟩)), (0, .pointer (some ⟨mb, 0, none⟩)), (1, .agg #[.int .u8 10, .int .u32 ev.pick, .int .u64 ev.draw, .int .u32 ev.addr, .int .u32 ev.node, .int .u32 ev.dst, .int .u32 ev.xfer, .int .u8 4, .int .u64 ev.arg, .int .u64 ev.badge, .slice xo ev.ws.length cx]), (4, .int .u8 0), (5, .bool false), (7, .pointer (some ⟨(Z.tp x), 0, none⟩)), (53, .int .u8 10), (66, .bool false), (21, .int .u8 0), (22, .int .i64 s1), (24, .int .i64 s2), (25, .int .u8 0), (316, .pointer (some ⟨mb, 1, none⟩))]) (φ := True) (rest := [3, 4, 5, 6, 7]) h109 (by kernel_rfl) rfl trivial fun a112 h113 => ?_
  clear h109
  refine nd_op ?_
  refine op_read (b := mb) (v := .pointer (some ⟨Z.mc, 0, none⟩)) h113 rfl rfl (rd_m h113 (k := 1) (v := .pointer (some ⟨Z.mc, 0, none⟩)) rfl rfl rfl rfl (md_p ⟨rfl, trivial⟩)) ?_
  have h114 := h113.put (d := some 317) (v := .pointer (some ⟨Z.mc, 0, none⟩)) (T' := [(317, .pointer (some ⟨Z.mc, 0, none⟩)), (6, .pointer (some ⟨b14, 0, none⟩)), (3, .pointer (some ⟨b2, 0, none⟩)), (0, .pointer (some ⟨mb, 0, none⟩)), (1, .agg #[.int .u8 10, .int .u32 ev.pick, .int .u64 ev.draw, .int .u32 ev.addr, .int .u32 ev.node, .int .u32 ev.dst, .int .u32 ev.xfer, .int .u8 4, .int .u64 ev.arg, .int .u64 ev.badge, .slice xo ev.ws.length cx]), (4, .int .u8 0), (5, .bool false), (7, .pointer (some ⟨(Z.tp x), 0, none⟩)), (53, .int .u8 10), (66, .bool false), (21, .int .u8 0), (22, .int .i64 s1), (24, .int .i64 s2), (25, .int .u8 0), (316, .pointer (some ⟨mb, 1, none⟩))]) rfl
  clear h113
  refine nd_batch tabOk2 tabZ_ok2 [(4, {})] [317, 6, 3, 0, 1, 4, 5, 7, 53, 66, 21, 22, 24, 25, 318] (T' := [(317, .pointer (some ⟨Z.mc, 0, none⟩)), (6, .pointer (some ⟨b14, 0, none⟩)), (3, .pointer (some ⟨b2, 0, none⟩)), (0, .pointer (some ⟨mb, 0, none⟩)), (1, .agg #[.int .u8 10, .int .u32 ev.pick, .int .u64 ev.draw, .int .u32 ev.addr, .int .u32 ev.node, .int .u32 ev.dst, .int .u32 ev.xfer, .int .u8 4, .int .u64 ev.arg, .int .u64 ev.badge, .slice xo ev.ws.length cx]), (4, .int .u8 0), (5, .bool false), (7, .pointer (some ⟨(Z.tp x), 0, none⟩)), (53, .int .u8 10), (66, .bool false), (21, .int .u8 0), (22, .int .i64 s1), (24, .int .i64 s2), (25, .int .u8 0), (318, .int .i64 s2)]) (φ := True) (rest := [5, 6, 7]) h114 (by kernel_rfl) rfl trivial fun a115 h116 => ?_
  clear h114
  refine nd_op ?_
  obtain ⟨i2, j2, hi2, hj2, hp2, hs2⟩ := look_fact hI.ci hci.1 he.dst.1 e2 rfl
  refine op_call h116 rfl rfl rfl (callOk Tryd.func62 (by decide) rfl) (args := [.pointer (some ⟨Z.mc, 0, none⟩), .int .i64 s2]) rfl (atE Z.mo Z.mc Z.nd C hi2 hj2 hp2 hs2 _ h116.inv.1.cp) ?_
  rintro _ w117 ⟨rfl, hf119⟩
  refine ⟨_, rfl, ?_⟩
  have h118 := (h116.grow hf119).put (d := some 319) (v := .agg #[.int .u8 ((C.cel s2.toNat).cap.ty), .int .u16 ((C.cel s2.toNat).cap.obj.idx), .int .u32 ((C.cel s2.toNat).cap.obj.gen), .int .u8 ((C.cel s2.toNat).cap.rights), .int .u64 ((C.cel s2.toNat).cap.badge)]) (T' := [(319, .agg #[.int .u8 ((C.cel s2.toNat).cap.ty), .int .u16 ((C.cel s2.toNat).cap.obj.idx), .int .u32 ((C.cel s2.toNat).cap.obj.gen), .int .u8 ((C.cel s2.toNat).cap.rights), .int .u64 ((C.cel s2.toNat).cap.badge)]), (317, .pointer (some ⟨Z.mc, 0, none⟩)), (6, .pointer (some ⟨b14, 0, none⟩)), (3, .pointer (some ⟨b2, 0, none⟩)), (0, .pointer (some ⟨mb, 0, none⟩)), (1, .agg #[.int .u8 10, .int .u32 ev.pick, .int .u64 ev.draw, .int .u32 ev.addr, .int .u32 ev.node, .int .u32 ev.dst, .int .u32 ev.xfer, .int .u8 4, .int .u64 ev.arg, .int .u64 ev.badge, .slice xo ev.ws.length cx]), (4, .int .u8 0), (5, .bool false), (7, .pointer (some ⟨(Z.tp x), 0, none⟩)), (53, .int .u8 10), (66, .bool false), (21, .int .u8 0), (22, .int .i64 s1), (24, .int .i64 s2), (25, .int .u8 0), (318, .int .i64 s2)]) rfl
  clear h116
  refine nd_batch tabOk2 tabZ_ok2 [(6, {}), (7, {})] [6, 3, 0, 1, 4, 5, 7, 53, 66, 21, 22, 24, 25, 321] (T' := [(6, .pointer (some ⟨b14, 0, none⟩)), (3, .pointer (some ⟨b2, 0, none⟩)), (0, .pointer (some ⟨mb, 0, none⟩)), (1, .agg #[.int .u8 10, .int .u32 ev.pick, .int .u64 ev.draw, .int .u32 ev.addr, .int .u32 ev.node, .int .u32 ev.dst, .int .u32 ev.xfer, .int .u8 4, .int .u64 ev.arg, .int .u64 ev.badge, .slice xo ev.ws.length cx]), (4, .int .u8 0), (5, .bool false), (7, .pointer (some ⟨(Z.tp x), 0, none⟩)), (53, .int .u8 10), (66, .bool false), (21, .int .u8 0), (22, .int .i64 s1), (24, .int .i64 s2), (25, .int .u8 0), (321, .bool ((C.cel s2.toNat).cap.ty != 0))]) (φ := True) (rest := []) h118 (by kernel_rfl) rfl trivial fun a120 h121 => ?_
  clear h118
  refine nd_done ?_
  refine hK111 _ _ ?_
  clear hK111
  refine c_split h121 (b := ((C.cel s2.toNat).cap.ty != 0)) rfl (fun hc122 => ?_) (fun hc122 => ?_)
  ·
    have hc122f : (C.cel s2.toNat).cap.ty ≠ 0 := by simpa using hc122
    exact absurd (hz2) (by first | exact hc122f | (intro hz; exact hc122f hz) | omega | simp_all)
  ·
    have hc122f : (C.cel s2.toNat).cap.ty = 0 := by simpa using hc122
    refine wp_skip ?_
    refine hK110 _ _ ?_
    clear hK110
    refine wp_seq_k fun K123 hK123 => ?_
    refine wp_seq_k fun K124 hK124 => ?_
    refine nd_start (l := [0, 1, 2, 3, 4, 5, 6, 7, 8, 9, 10, 11, 12, 13, 14, 15, 16, 17]) rfl ?_
    refine nd_batch tabOk2 tabZ_ok2 [(0, {}), (1, {k := 1}), (2, {}), (3, {}), (4, {}), (5, {k := 1}), (6, {}), (7, {}), (8, {}), (9, {}), (10, {k := 1}), (11, {}), (12, {}), (13, {}), (14, {}), (15, {}), (16, {}), (17, {})] [6, 3, 0, 1, 4, 5, 7, 53, 66, 21, 22, 24, 25, 339] (T' := [(6, .pointer (some ⟨b14, 0, none⟩)), (3, .pointer (some ⟨b2, 0, none⟩)), (0, .pointer (some ⟨mb, 0, none⟩)), (1, .agg #[.int .u8 10, .int .u32 ev.pick, .int .u64 ev.draw, .int .u32 ev.addr, .int .u32 ev.node, .int .u32 ev.dst, .int .u32 ev.xfer, .int .u8 4, .int .u64 ev.arg, .int .u64 ev.badge, .slice xo ev.ws.length cx]), (4, .int .u8 0), (5, .bool false), (7, .pointer (some ⟨(Z.tp x), 0, none⟩)), (53, .int .u8 10), (66, .bool false), (21, .int .u8 0), (22, .int .i64 s1), (24, .int .i64 s2), (25, .int .u8 0), (339, .bool false)]) (φ := (b2 = b2 ∧ Nat.ble (7 + 1) 11 = true) ∧ (b2 = b2 ∧ Nat.ble (7 + 1) 11 = true) ∧ (b2 = b2 ∧ Nat.ble (7 + 1) 11 = true) ∧ True) (rest := []) h121 (by kernel_rfl) rfl ⟨⟨rfl, rfl⟩, ⟨rfl, rfl⟩, ⟨rfl, rfl⟩, trivial⟩ fun a125 h126 => ?_
    clear h121
    refine nd_done ?_
    refine hK124 _ _ ?_
    clear hK124
    refine c_false h126 rfl ?_
    refine wp_skip ?_
    refine hK123 _ _ ?_
    clear hK123
    refine wp_seq_k fun K127 hK127 => ?_
    refine dr_start (KB := [3, b2, b14, b75, mb]) (Bi := [[0, 1, 2, 3, 4], [0, 1, 2, 3, 4], [0, 1, 2, 3, 4], [0, 1, 2, 3, 4], [0, 1, 2, 3, 4], [0, 1, 2, 3, 4], [], [0, 1, 2, 3, 4], [0, 1, 2, 3, 4], [0, 1, 2, 3, 4], [1, 4], [], [0, 1, 2, 3, 4]]) mixed h126 fun w128 h129 => ?_
    clear h126
    refine dr_batch tabOk2 tabZ_ok2 (by repeat (first | with_reducible exact PF.body | with_reducible apply PF.inB | with_reducible apply PF.next)) [(0, {}), (1, {}), (2, {})] [6, 3, 0, 1, 4, 5, 7, 53, 66, 21, 22, 24, 25, 343] (T' := [(6, .pointer (some ⟨b14, 0, none⟩)), (3, .pointer (some ⟨b2, 0, none⟩)), (0, .pointer (some ⟨mb, 0, none⟩)), (1, .agg #[.int .u8 10, .int .u32 ev.pick, .int .u64 ev.draw, .int .u32 ev.addr, .int .u32 ev.node, .int .u32 ev.dst, .int .u32 ev.xfer, .int .u8 4, .int .u64 ev.arg, .int .u64 ev.badge, .slice xo ev.ws.length cx]), (4, .int .u8 0), (5, .bool false), (7, .pointer (some ⟨(Z.tp x), 0, none⟩)), (53, .int .u8 10), (66, .bool false), (21, .int .u8 0), (22, .int .i64 s1), (24, .int .i64 s2), (25, .int .u8 0), (343, .pointer (some ⟨mb, 0, none⟩))]) (φ := True) (fuel := 10) h129 (by kernel_rfl) rfl (by kernel_rfl) (by kernel_rfl) ⟨trivial, trivial, trivial, trivial⟩ trivial fun a131 h132 => ?_
    clear h129
    refine dr_read (i := 3) (b := mb) (p := 4) (v := .pointer (some ⟨Z.mo, 0, none⟩)) (fuel := 9) (by repeat (first | with_reducible exact PF.body | with_reducible apply PF.inB | with_reducible apply PF.next)) h132 rfl rfl rfl (by kernel_rfl) (by kernel_rfl) (by kernel_rfl) rfl (rd_m h132 (k := 0) (v := .pointer (some ⟨Z.mo, 0, none⟩)) rfl rfl rfl rfl (md_p ⟨rfl, trivial⟩)) ?_
    have h133 := h132.put (d := some 344) (v := .pointer (some ⟨Z.mo, 0, none⟩)) (T' := [(344, .pointer (some ⟨Z.mo, 0, none⟩)), (6, .pointer (some ⟨b14, 0, none⟩)), (3, .pointer (some ⟨b2, 0, none⟩)), (0, .pointer (some ⟨mb, 0, none⟩)), (1, .agg #[.int .u8 10, .int .u32 ev.pick, .int .u64 ev.draw, .int .u32 ev.addr, .int .u32 ev.node, .int .u32 ev.dst, .int .u32 ev.xfer, .int .u8 4, .int .u64 ev.arg, .int .u64 ev.badge, .slice xo ev.ws.length cx]), (4, .int .u8 0), (5, .bool false), (7, .pointer (some ⟨(Z.tp x), 0, none⟩)), (53, .int .u8 10), (66, .bool false), (21, .int .u8 0), (22, .int .i64 s1), (24, .int .i64 s2), (25, .int .u8 0), (343, .pointer (some ⟨mb, 0, none⟩))]) rfl
    clear h132
    refine dr_batch tabOk2 tabZ_ok2 (by repeat (first | with_reducible exact PF.body | with_reducible apply PF.inB | with_reducible apply PF.next)) [(4, {}), (5, {k := 1, p := 1})] [344, 6, 3, 0, 1, 4, 5, 7, 53, 66, 21, 22, 24, 25, 346] (T' := [(344, .pointer (some ⟨Z.mo, 0, none⟩)), (6, .pointer (some ⟨b14, 0, none⟩)), (3, .pointer (some ⟨b2, 0, none⟩)), (0, .pointer (some ⟨mb, 0, none⟩)), (1, .agg #[.int .u8 10, .int .u32 ev.pick, .int .u64 ev.draw, .int .u32 ev.addr, .int .u32 ev.node, .int .u32 ev.dst, .int .u32 ev.xfer, .int .u8 4, .int .u64 ev.arg, .int .u64 ev.badge, .slice xo ev.ws.length cx]), (4, .int .u8 0), (5, .bool false), (7, .pointer (some ⟨(Z.tp x), 0, none⟩)), (53, .int .u8 10), (66, .bool false), (21, .int .u8 0), (22, .int .i64 s1), (24, .int .i64 s2), (25, .int .u8 0), (346, .int .u8 4)]) (φ := (b2 = b2 ∧ Nat.ble (7 + 1) 11 = true) ∧ True) (fuel := 7) h133 (by kernel_rfl) rfl (by kernel_rfl) (by kernel_rfl) ⟨trivial, rfl, trivial⟩ ⟨⟨rfl, rfl⟩, trivial⟩ fun a134 h135 => ?_
    clear h133
    refine wpAnyK_two (i := 6) (j := 10) (fuel := 6) (by kernel_rfl) ?_ ?_
    ·
      refine op_call h135 rfl rfl rfl (callOk Tryd.func37 (by decide) rfl) (args := [.pointer (some ⟨Z.mo, 0, none⟩), .int .u8 4]) rfl (retypeC_ok Z.mo Z.mc Z.nd C 4 (by decide) _ h135.inv.1.cp er) ?_
      rintro _ w136 ⟨rfl, hc137, hf138⟩
      refine ⟨_, rfl, ?_⟩
      have h139a := st_cap h135 hc137 hf138 (fun b hb => .inl hb) (kcons (fun _ => rfl) (kcons (fun hq => by cases hq) (kcons (fun hq => by cases hq) (kcons (fun hq => by cases hq) knil))))
      have h139 := h139a.put (d := some 347) (v := .tuple #[.agg #[.int .u16 ((Z.ky o).idx), .int .u32 ((Z.ky o).gen)], .int .u8 0]) (T' := [(347, .tuple #[.agg #[.int .u16 ((Z.ky o).idx), .int .u32 ((Z.ky o).gen)], .int .u8 0]), (344, .pointer (some ⟨Z.mo, 0, none⟩)), (6, .pointer (some ⟨b14, 0, none⟩)), (3, .pointer (some ⟨b2, 0, none⟩)), (0, .pointer (some ⟨mb, 0, none⟩)), (1, .agg #[.int .u8 10, .int .u32 ev.pick, .int .u64 ev.draw, .int .u32 ev.addr, .int .u32 ev.node, .int .u32 ev.dst, .int .u32 ev.xfer, .int .u8 4, .int .u64 ev.arg, .int .u64 ev.badge, .slice xo ev.ws.length cx]), (4, .int .u8 0), (5, .bool false), (7, .pointer (some ⟨(Z.tp x), 0, none⟩)), (53, .int .u8 10), (66, .bool false), (21, .int .u8 0), (22, .int .i64 s1), (24, .int .i64 s2), (25, .int .u8 0), (346, .int .u8 4)]) rfl
      refine ⟨keepNil, ?_⟩
      clear h135 h139a
      refine dr_batch tabOk2 tabZ_ok2 (by repeat (first | with_reducible exact PF.body | with_reducible apply PF.inB | with_reducible apply PF.next)) [(7, {}), (8, {}), (9, {})] [6, 3, 0, 1, 4, 5, 7, 53, 66, 21, 22, 24, 25, 348, 349] (T' := [(6, .pointer (some ⟨b14, 0, none⟩)), (3, .pointer (some ⟨b2, 0, none⟩)), (0, .pointer (some ⟨mb, 0, none⟩)), (1, .agg #[.int .u8 10, .int .u32 ev.pick, .int .u64 ev.draw, .int .u32 ev.addr, .int .u32 ev.node, .int .u32 ev.dst, .int .u32 ev.xfer, .int .u8 4, .int .u64 ev.arg, .int .u64 ev.badge, .slice xo ev.ws.length cx]), (4, .int .u8 0), (5, .bool false), (7, .pointer (some ⟨(Z.tp x), 0, none⟩)), (53, .int .u8 10), (66, .bool false), (21, .int .u8 0), (22, .int .i64 s1), (24, .int .i64 s2), (25, .int .u8 0), (348, .agg #[.int .u16 ((Z.ky o).idx), .int .u32 ((Z.ky o).gen)]), (349, .int .u8 0)]) (φ := True) (fuel := 3) h139 (by kernel_rfl) rfl (by kernel_rfl) (by kernel_rfl) ⟨trivial, trivial, trivial, trivial⟩ trivial fun a140 h141 => ?_
      clear h139
      refine wpAnyK_one (i := 10) (fuel := 2) (by kernel_rfl) ?_
      refine op_new tabOk2 (cells := [.int .u16 0, .int .u32 0]) (ty := 39) (ln := none) (L1 := fun b142 => [(3, ⟨[.int .u16 0, .int .u32 0], ty3, true⟩), (b2, ⟨[.int .u8 10, .int .u32 ev.pick, .int .u64 ev.draw, .int .u32 ev.addr, .int .u32 ev.node, .int .u32 ev.dst, .int .u32 ev.xfer, .int .u8 4, .int .u64 ev.arg, .int .u64 ev.badge, .slice xo ev.ws.length cx], 35, false⟩), (b14, ⟨[.int .u16 ((Z.ky x).idx), .int .u32 ((Z.ky x).gen)], 39, false⟩), (b75, ⟨[.int .u8 c.ty, .int .u16 c.obj.idx, .int .u32 c.obj.gen, .int .u8 c.rights, .int .u64 c.badge], 49, false⟩), (b142, ⟨[.int .u16 0, .int .u32 0], 39, false⟩)]) h141 rfl rfl rfl rfl (by kernel_rfl) (fun _ => rfl) fun b142 w143 a144 h145 hf146 hn147 => ?_
      refine ⟨(keepCons (kpLf h141.known hf146 (q := 1) rfl) (keepCons (kpM h141.inv.1 (l := .m) trivial (List.mem_cons_self ..) hf146) keepNil)), ?_⟩
      clear h141
      refine wpAnyK_one (i := 11) (fuel := 1) (by kernel_rfl) ?_
      refine op_store tabOk2 {k := 4} (L' := [(3, ⟨[.int .u16 0, .int .u32 0], ty3, true⟩), (b2, ⟨[.int .u8 10, .int .u32 ev.pick, .int .u64 ev.draw, .int .u32 ev.addr, .int .u32 ev.node, .int .u32 ev.dst, .int .u32 ev.xfer, .int .u8 4, .int .u64 ev.arg, .int .u64 ev.badge, .slice xo ev.ws.length cx], 35, false⟩), (b14, ⟨[.int .u16 ((Z.ky x).idx), .int .u32 ((Z.ky x).gen)], 39, false⟩), (b75, ⟨[.int .u8 c.ty, .int .u16 c.obj.idx, .int .u32 c.obj.gen, .int .u8 c.rights, .int .u64 c.badge], 49, false⟩), (b142, ⟨[.int .u16 ((Z.ky o).idx), .int .u32 ((Z.ky o).gen)], 39, false⟩)]) (φ := b142 = b142 ∧ Nat.ble (0 + 2) 2 = true) h145 rfl rfl rfl (by kernel_rfl) ⟨rfl, rfl⟩ fun w148 h149 => ?_
      refine ⟨keepNil, ?_⟩
      clear h145
      refine dr_batch tabOk2 tabZ_ok2 (by repeat (first | with_reducible exact PF.body | with_reducible apply PF.inB | with_reducible apply PF.next)) [(12, {})] [26, 6, 3, 0, 1, 4, 5, 7, 53, 66, 21, 22, 24, 25] (T' := [(26, .pointer (some ⟨b142, 0, none⟩)), (6, .pointer (some ⟨b14, 0, none⟩)), (3, .pointer (some ⟨b2, 0, none⟩)), (0, .pointer (some ⟨mb, 0, none⟩)), (1, .agg #[.int .u8 10, .int .u32 ev.pick, .int .u64 ev.draw, .int .u32 ev.addr, .int .u32 ev.node, .int .u32 ev.dst, .int .u32 ev.xfer, .int .u8 4, .int .u64 ev.arg, .int .u64 ev.badge, .slice xo ev.ws.length cx]), (4, .int .u8 0), (5, .bool false), (7, .pointer (some ⟨(Z.tp x), 0, none⟩)), (53, .int .u8 10), (66, .bool false), (21, .int .u8 0), (22, .int .i64 s1), (24, .int .i64 s2), (25, .int .u8 0)]) (φ := True) (fuel := 0) h149 (by kernel_rfl) rfl (by kernel_rfl) (by kernel_rfl) ⟨trivial, trivial⟩ trivial fun a150 h151 => ?_
      clear h149
      refine wpAnyK_done (by kernel_rfl) ?_ _
      refine hK127 _ _ ?_
      clear hK127
      refine wp_seq_k fun K152 hK152 => ?_
      refine wp_seq_k fun K153 hK153 => ?_
      refine nd_start (l := [0, 1]) rfl ?_
      refine nd_batch tabOk2 tabZ_ok2 [(0, {}), (1, {})] [26, 6, 3, 0, 1, 4, 5, 7, 53, 66, 21, 22, 24, 25, 351] (T' := [(26, .pointer (some ⟨b142, 0, none⟩)), (6, .pointer (some ⟨b14, 0, none⟩)), (3, .pointer (some ⟨b2, 0, none⟩)), (0, .pointer (some ⟨mb, 0, none⟩)), (1, .agg #[.int .u8 10, .int .u32 ev.pick, .int .u64 ev.draw, .int .u32 ev.addr, .int .u32 ev.node, .int .u32 ev.dst, .int .u32 ev.xfer, .int .u8 4, .int .u64 ev.arg, .int .u64 ev.badge, .slice xo ev.ws.length cx]), (4, .int .u8 0), (5, .bool false), (7, .pointer (some ⟨(Z.tp x), 0, none⟩)), (53, .int .u8 10), (66, .bool false), (21, .int .u8 0), (22, .int .i64 s1), (24, .int .i64 s2), (25, .int .u8 0), (351, .bool false)]) (φ := True) (rest := []) h151 (by kernel_rfl) rfl trivial fun a154 h155 => ?_
      clear h151
      refine nd_done ?_
      refine hK153 _ _ ?_
      clear hK153
      refine c_false h155 rfl ?_
      refine wp_skip ?_
      refine hK152 _ _ ?_
      clear hK152
      refine wp_seq_k fun K156 hK156 => ?_
      refine wp_seq_k fun K157 hK157 => ?_
      refine nd_start (l := [0, 1]) rfl ?_
      refine nd_batch tabOk2 tabZ_ok2 [(0, {}), (1, {k := 1})] [26, 6, 3, 0, 1, 4, 5, 7, 53, 66, 21, 22, 24, 25, 354] (T' := [(26, .pointer (some ⟨b142, 0, none⟩)), (6, .pointer (some ⟨b14, 0, none⟩)), (3, .pointer (some ⟨b2, 0, none⟩)), (0, .pointer (some ⟨mb, 0, none⟩)), (1, .agg #[.int .u8 10, .int .u32 ev.pick, .int .u64 ev.draw, .int .u32 ev.addr, .int .u32 ev.node, .int .u32 ev.dst, .int .u32 ev.xfer, .int .u8 4, .int .u64 ev.arg, .int .u64 ev.badge, .slice xo ev.ws.length cx]), (4, .int .u8 0), (5, .bool false), (7, .pointer (some ⟨(Z.tp x), 0, none⟩)), (53, .int .u8 10), (66, .bool false), (21, .int .u8 0), (22, .int .i64 s1), (24, .int .i64 s2), (25, .int .u8 0), (354, .int .u8 4)]) (φ := (b2 = b2 ∧ Nat.ble (7 + 1) 11 = true) ∧ True) (rest := []) h155 (by kernel_rfl) rfl ⟨⟨rfl, rfl⟩, trivial⟩ fun a158 h159 => ?_
      clear h155
      refine nd_done ?_
      refine hK157 _ _ ?_
      clear hK157
      refine wp_block ?_
      refine wp_seq_k fun K160 hK160 => ?_
      refine nd_start (l := [0, 1]) rfl ?_
      refine nd_batch tabOk2 tabZ_ok2 [(0, {}), (1, {})] [26, 6, 3, 0, 1, 4, 5, 7, 53, 66, 21, 22, 24, 25, 354, 360] (T' := [(26, .pointer (some ⟨b142, 0, none⟩)), (6, .pointer (some ⟨b14, 0, none⟩)), (3, .pointer (some ⟨b2, 0, none⟩)), (0, .pointer (some ⟨mb, 0, none⟩)), (1, .agg #[.int .u8 10, .int .u32 ev.pick, .int .u64 ev.draw, .int .u32 ev.addr, .int .u32 ev.node, .int .u32 ev.dst, .int .u32 ev.xfer, .int .u8 4, .int .u64 ev.arg, .int .u64 ev.badge, .slice xo ev.ws.length cx]), (4, .int .u8 0), (5, .bool false), (7, .pointer (some ⟨(Z.tp x), 0, none⟩)), (53, .int .u8 10), (66, .bool false), (21, .int .u8 0), (22, .int .i64 s1), (24, .int .i64 s2), (25, .int .u8 0), (354, .int .u8 4), (360, .bool false)]) (φ := True) (rest := []) h159 (by kernel_rfl) rfl trivial fun a161 h162 => ?_
      clear h159
      refine nd_done ?_
      refine hK160 _ _ ?_
      clear hK160
      refine c_false h162 rfl ?_
      refine wp_seq_k fun K163 hK163 => ?_
      refine nd_start (l := [0, 1]) rfl ?_
      refine nd_batch tabOk2 tabZ_ok2 [(0, {}), (1, {})] [26, 6, 3, 0, 1, 4, 5, 7, 53, 66, 21, 22, 24, 25, 354, 368] (T' := [(26, .pointer (some ⟨b142, 0, none⟩)), (6, .pointer (some ⟨b14, 0, none⟩)), (3, .pointer (some ⟨b2, 0, none⟩)), (0, .pointer (some ⟨mb, 0, none⟩)), (1, .agg #[.int .u8 10, .int .u32 ev.pick, .int .u64 ev.draw, .int .u32 ev.addr, .int .u32 ev.node, .int .u32 ev.dst, .int .u32 ev.xfer, .int .u8 4, .int .u64 ev.arg, .int .u64 ev.badge, .slice xo ev.ws.length cx]), (4, .int .u8 0), (5, .bool false), (7, .pointer (some ⟨(Z.tp x), 0, none⟩)), (53, .int .u8 10), (66, .bool false), (21, .int .u8 0), (22, .int .i64 s1), (24, .int .i64 s2), (25, .int .u8 0), (354, .int .u8 4), (368, .bool false)]) (φ := True) (rest := []) h162 (by kernel_rfl) rfl trivial fun a164 h165 => ?_
      clear h162
      refine nd_done ?_
      refine hK163 _ _ ?_
      clear hK163
      refine c_false h165 rfl ?_
      refine dr_start (KB := [3, b2, b14, b75, b142, mb]) (Bi := [[0, 1, 2, 3, 4, 5], [0, 1, 2, 3, 4, 5], [0, 1, 2, 3, 4, 5], [0, 1, 2, 3, 4, 5], [0, 1, 2, 3, 4, 5], []]) mixed h165 fun w166 h167 => ?_
      clear h165
      refine dr_batch tabOk2 tabZ_ok2 (by repeat (first | with_reducible exact PF.body | with_reducible apply PF.inB | with_reducible apply PF.next)) [(0, {}), (1, {}), (2, {})] [26, 6, 3, 0, 1, 4, 5, 7, 53, 66, 21, 22, 24, 25, 354, 357] (T' := [(26, .pointer (some ⟨b142, 0, none⟩)), (6, .pointer (some ⟨b14, 0, none⟩)), (3, .pointer (some ⟨b2, 0, none⟩)), (0, .pointer (some ⟨mb, 0, none⟩)), (1, .agg #[.int .u8 10, .int .u32 ev.pick, .int .u64 ev.draw, .int .u32 ev.addr, .int .u32 ev.node, .int .u32 ev.dst, .int .u32 ev.xfer, .int .u8 4, .int .u64 ev.arg, .int .u64 ev.badge, .slice xo ev.ws.length cx]), (4, .int .u8 0), (5, .bool false), (7, .pointer (some ⟨(Z.tp x), 0, none⟩)), (53, .int .u8 10), (66, .bool false), (21, .int .u8 0), (22, .int .i64 s1), (24, .int .i64 s2), (25, .int .u8 0), (354, .int .u8 4), (357, .pointer (some ⟨mb, 3, none⟩))]) (φ := True) (fuel := 3) h167 (by kernel_rfl) rfl (by kernel_rfl) (by kernel_rfl) ⟨trivial, trivial, trivial, trivial⟩ trivial fun a169 h170 => ?_
      clear h167
      refine dr_read (i := 3) (b := mb) (p := 5) (v := .map (some Z.qb)) (fuel := 2) (by repeat (first | with_reducible exact PF.body | with_reducible apply PF.inB | with_reducible apply PF.next)) h170 rfl rfl rfl (by kernel_rfl) (by kernel_rfl) (by kernel_rfl) rfl (rd_m h170 (k := 3) (v := .map (some Z.qb)) rfl rfl rfl rfl (md_p ⟨rfl, trivial⟩)) ?_
      have h171 := h170.put (d := some 358) (v := .map (some Z.qb)) (T' := [(358, .map (some Z.qb)), (26, .pointer (some ⟨b142, 0, none⟩)), (6, .pointer (some ⟨b14, 0, none⟩)), (3, .pointer (some ⟨b2, 0, none⟩)), (0, .pointer (some ⟨mb, 0, none⟩)), (1, .agg #[.int .u8 10, .int .u32 ev.pick, .int .u64 ev.draw, .int .u32 ev.addr, .int .u32 ev.node, .int .u32 ev.dst, .int .u32 ev.xfer, .int .u8 4, .int .u64 ev.arg, .int .u64 ev.badge, .slice xo ev.ws.length cx]), (4, .int .u8 0), (5, .bool false), (7, .pointer (some ⟨(Z.tp x), 0, none⟩)), (53, .int .u8 10), (66, .bool false), (21, .int .u8 0), (22, .int .i64 s1), (24, .int .i64 s2), (25, .int .u8 0), (354, .int .u8 4), (357, .pointer (some ⟨mb, 3, none⟩))]) rfl
      clear h170
      refine dr_batch tabOk2 tabZ_ok2 (by repeat (first | with_reducible exact PF.body | with_reducible apply PF.inB | with_reducible apply PF.next)) [(4, {k := 4, p := 4})] [358, 26, 6, 3, 0, 1, 4, 5, 7, 53, 66, 21, 22, 24, 25, 354, 359] (T' := [(358, .map (some Z.qb)), (26, .pointer (some ⟨b142, 0, none⟩)), (6, .pointer (some ⟨b14, 0, none⟩)), (3, .pointer (some ⟨b2, 0, none⟩)), (0, .pointer (some ⟨mb, 0, none⟩)), (1, .agg #[.int .u8 10, .int .u32 ev.pick, .int .u64 ev.draw, .int .u32 ev.addr, .int .u32 ev.node, .int .u32 ev.dst, .int .u32 ev.xfer, .int .u8 4, .int .u64 ev.arg, .int .u64 ev.badge, .slice xo ev.ws.length cx]), (4, .int .u8 0), (5, .bool false), (7, .pointer (some ⟨(Z.tp x), 0, none⟩)), (53, .int .u8 10), (66, .bool false), (21, .int .u8 0), (22, .int .i64 s1), (24, .int .i64 s2), (25, .int .u8 0), (354, .int .u8 4), (359, .agg #[.int .u16 ((Z.ky o).idx), .int .u32 ((Z.ky o).gen)])]) (φ := (b142 = b142 ∧ Nat.ble (0 + 2) 2 = true) ∧ True) (fuel := 1) h171 (by kernel_rfl) rfl (by kernel_rfl) (by kernel_rfl) ⟨rfl, trivial⟩ ⟨⟨rfl, rfl⟩, trivial⟩ fun a172 h173 => ?_
      clear h171
      refine wpAnyK_one (i := 5) (fuel := 0) (by kernel_rfl) ?_
      refine op_mAddQ (x := o) h173 rfl rfl rfl rfl rfl rfl hon ho2 hhoh103 hq0 hw0 (kcons (fun _ => rfl) (kcons (fun hq => by cases hq) (kcons (fun hq => by cases hq) (kcons (fun hq => by cases hq) (kcons (fun hq => by cases hq) knil))))) fun w174 hf175 h176a => ?_
      have h176 := h176a.put (d := none) (v := undef) (T' := [(358, .map (some Z.qb)), (26, .pointer (some ⟨b142, 0, none⟩)), (6, .pointer (some ⟨b14, 0, none⟩)), (3, .pointer (some ⟨b2, 0, none⟩)), (0, .pointer (some ⟨mb, 0, none⟩)), (1, .agg #[.int .u8 10, .int .u32 ev.pick, .int .u64 ev.draw, .int .u32 ev.addr, .int .u32 ev.node, .int .u32 ev.dst, .int .u32 ev.xfer, .int .u8 4, .int .u64 ev.arg, .int .u64 ev.badge, .slice xo ev.ws.length cx]), (4, .int .u8 0), (5, .bool false), (7, .pointer (some ⟨(Z.tp x), 0, none⟩)), (53, .int .u8 10), (66, .bool false), (21, .int .u8 0), (22, .int .i64 s1), (24, .int .i64 s2), (25, .int .u8 0), (354, .int .u8 4), (359, .agg #[.int .u16 ((Z.ky o).idx), .int .u32 ((Z.ky o).gen)])]) rfl
      refine ⟨keepNil, ?_⟩
      clear h173 h176a
      refine wpAnyK_done (by kernel_rfl) ?_ _
      refine hK156 _ _ ?_
      clear hK156
      refine wp_seq_k fun K177 hK177 => ?_
      refine dr_start (KB := [3, b2, b14, b75, b142, mb]) (Bi := [[0, 1, 2, 3, 4, 5], [0, 1, 2, 3, 4, 5], [0, 1, 2, 3, 4, 5], [0, 1, 2, 3, 4, 5], [0, 1, 2, 3, 4, 5], [0, 1, 2, 3, 4, 5], [0, 1, 2, 3, 4, 5], [0, 1, 2, 3, 4, 5], [0, 1, 2, 3, 4, 5], [0, 1, 2, 3, 4, 5], []]) mixed h176 fun w178 h179 => ?_
      clear h176
      refine dr_batch tabOk2 tabZ_ok2 (by repeat (first | with_reducible exact PF.body | with_reducible apply PF.inB | with_reducible apply PF.next)) [(0, {}), (1, {}), (2, {})] [26, 6, 3, 0, 1, 4, 5, 7, 53, 66, 21, 22, 24, 25, 354, 379] (T' := [(26, .pointer (some ⟨b142, 0, none⟩)), (6, .pointer (some ⟨b14, 0, none⟩)), (3, .pointer (some ⟨b2, 0, none⟩)), (0, .pointer (some ⟨mb, 0, none⟩)), (1, .agg #[.int .u8 10, .int .u32 ev.pick, .int .u64 ev.draw, .int .u32 ev.addr, .int .u32 ev.node, .int .u32 ev.dst, .int .u32 ev.xfer, .int .u8 4, .int .u64 ev.arg, .int .u64 ev.badge, .slice xo ev.ws.length cx]), (4, .int .u8 0), (5, .bool false), (7, .pointer (some ⟨(Z.tp x), 0, none⟩)), (53, .int .u8 10), (66, .bool false), (21, .int .u8 0), (22, .int .i64 s1), (24, .int .i64 s2), (25, .int .u8 0), (354, .int .u8 4), (379, .pointer (some ⟨mb, 1, none⟩))]) (φ := True) (fuel := 8) h179 (by kernel_rfl) rfl (by kernel_rfl) (by kernel_rfl) ⟨trivial, trivial, trivial, trivial⟩ trivial fun a181 h182 => ?_
      clear h179
      refine dr_read (i := 3) (b := mb) (p := 5) (v := .pointer (some ⟨Z.mc, 0, none⟩)) (fuel := 7) (by repeat (first | with_reducible exact PF.body | with_reducible apply PF.inB | with_reducible apply PF.next)) h182 rfl rfl rfl (by kernel_rfl) (by kernel_rfl) (by kernel_rfl) rfl (rd_m h182 (k := 1) (v := .pointer (some ⟨Z.mc, 0, none⟩)) rfl rfl rfl rfl (md_p ⟨rfl, trivial⟩)) ?_
      have h183 := h182.put (d := some 380) (v := .pointer (some ⟨Z.mc, 0, none⟩)) (T' := [(380, .pointer (some ⟨Z.mc, 0, none⟩)), (26, .pointer (some ⟨b142, 0, none⟩)), (6, .pointer (some ⟨b14, 0, none⟩)), (3, .pointer (some ⟨b2, 0, none⟩)), (0, .pointer (some ⟨mb, 0, none⟩)), (1, .agg #[.int .u8 10, .int .u32 ev.pick, .int .u64 ev.draw, .int .u32 ev.addr, .int .u32 ev.node, .int .u32 ev.dst, .int .u32 ev.xfer, .int .u8 4, .int .u64 ev.arg, .int .u64 ev.badge, .slice xo ev.ws.length cx]), (4, .int .u8 0), (5, .bool false), (7, .pointer (some ⟨(Z.tp x), 0, none⟩)), (53, .int .u8 10), (66, .bool false), (21, .int .u8 0), (22, .int .i64 s1), (24, .int .i64 s2), (25, .int .u8 0), (354, .int .u8 4), (379, .pointer (some ⟨mb, 1, none⟩))]) rfl
      clear h182
      refine dr_batch tabOk2 tabZ_ok2 (by repeat (first | with_reducible exact PF.body | with_reducible apply PF.inB | with_reducible apply PF.next)) [(4, {}), (5, {}), (6, {k := 1, p := 1}), (7, {k := 4, p := 4}), (8, {}), (9, {})] [380, 26, 6, 3, 0, 1, 4, 5, 7, 53, 66, 21, 22, 24, 25, 354, 381, 385, 386] (T' := [(380, .pointer (some ⟨Z.mc, 0, none⟩)), (26, .pointer (some ⟨b142, 0, none⟩)), (6, .pointer (some ⟨b14, 0, none⟩)), (3, .pointer (some ⟨b2, 0, none⟩)), (0, .pointer (some ⟨mb, 0, none⟩)), (1, .agg #[.int .u8 10, .int .u32 ev.pick, .int .u64 ev.draw, .int .u32 ev.addr, .int .u32 ev.node, .int .u32 ev.dst, .int .u32 ev.xfer, .int .u8 4, .int .u64 ev.arg, .int .u64 ev.badge, .slice xo ev.ws.length cx]), (4, .int .u8 0), (5, .bool false), (7, .pointer (some ⟨(Z.tp x), 0, none⟩)), (53, .int .u8 10), (66, .bool false), (21, .int .u8 0), (22, .int .i64 s1), (24, .int .i64 s2), (25, .int .u8 0), (354, .int .u8 4), (381, .int .i64 s2), (385, .agg #[.int .u8 4, .int .u16 ((Z.ky o).idx), .int .u32 ((Z.ky o).gen), .int .u8 7, .int .u64 0]), (386, .int .i64 s1)]) (φ := (b2 = b2 ∧ Nat.ble (7 + 1) 11 = true) ∧ (b142 = b142 ∧ Nat.ble (0 + 2) 2 = true) ∧ True) (fuel := 1) h183 (by kernel_rfl) rfl (by kernel_rfl) (by kernel_rfl) ⟨trivial, trivial, rfl, rfl, trivial, trivial, trivial⟩ ⟨⟨rfl, rfl⟩, ⟨rfl, rfl⟩, trivial⟩ fun a184 h185 => ?_
      clear h183
      refine wpAnyK_one (i := 10) (fuel := 0) (by kernel_rfl) ?_
      refine op_call h185 rfl rfl rfl (callOk Tryd.func40 (by decide) rfl) (args := [.pointer (some ⟨Z.mc, 0, none⟩), .int .i64 s2, .agg #[.int .u8 4, .int .u16 ((Z.ky o).idx), .int .u32 ((Z.ky o).gen), .int .u8 7, .int .u64 0], .int .i64 s1]) rfl (insertE Z.mo Z.mc _ ({ C with ent := E1 } : CP) hi2 hj2 hp2 hs2 ⟨4, Z.ky o, 7, 0⟩ s1 _ h185.inv.1.cp) ?_
      rintro _ w186 ⟨rfl, hc187, hf188⟩
      refine ⟨_, rfl, ?_⟩
      have h189a := st_cap h185 hc187 hf188 (fun b hb => .inl hb) (kcons (fun _ => rfl) (kcons (fun hq => by cases hq) (kcons (fun hq => by cases hq) (kcons (fun hq => by cases hq) (kcons (fun hq => by cases hq) knil)))))
      have h189 := h189a.put (d := some 387) (v := .tuple #[]) (T' := [(387, .tuple #[]), (380, .pointer (some ⟨Z.mc, 0, none⟩)), (26, .pointer (some ⟨b142, 0, none⟩)), (6, .pointer (some ⟨b14, 0, none⟩)), (3, .pointer (some ⟨b2, 0, none⟩)), (0, .pointer (some ⟨mb, 0, none⟩)), (1, .agg #[.int .u8 10, .int .u32 ev.pick, .int .u64 ev.draw, .int .u32 ev.addr, .int .u32 ev.node, .int .u32 ev.dst, .int .u32 ev.xfer, .int .u8 4, .int .u64 ev.arg, .int .u64 ev.badge, .slice xo ev.ws.length cx]), (4, .int .u8 0), (5, .bool false), (7, .pointer (some ⟨(Z.tp x), 0, none⟩)), (53, .int .u8 10), (66, .bool false), (21, .int .u8 0), (22, .int .i64 s1), (24, .int .i64 s2), (25, .int .u8 0), (354, .int .u8 4), (381, .int .i64 s2), (385, .agg #[.int .u8 4, .int .u16 ((Z.ky o).idx), .int .u32 ((Z.ky o).gen), .int .u8 7, .int .u64 0]), (386, .int .i64 s1)]) rfl
      refine ⟨keepNil, ?_⟩
      clear h185 h189a
      refine wpAnyK_done (by kernel_rfl) ?_ _
      refine hK177 _ _ ?_
      clear hK177
      refine wp_seq_k fun K190 hK190 => ?_
      refine nd_start (l := [0, 1]) rfl ?_
      refine nd_batch tabOk2 tabZ_ok2 [(0, {}), (1, {})] [26, 6, 3, 0, 1, 7, 53, 66, 21, 22, 24, 25, 354, 4, 5] (T' := [(26, .pointer (some ⟨b142, 0, none⟩)), (6, .pointer (some ⟨b14, 0, none⟩)), (3, .pointer (some ⟨b2, 0, none⟩)), (0, .pointer (some ⟨mb, 0, none⟩)), (1, .agg #[.int .u8 10, .int .u32 ev.pick, .int .u64 ev.draw, .int .u32 ev.addr, .int .u32 ev.node, .int .u32 ev.dst, .int .u32 ev.xfer, .int .u8 4, .int .u64 ev.arg, .int .u64 ev.badge, .slice xo ev.ws.length cx]), (7, .pointer (some ⟨(Z.tp x), 0, none⟩)), (53, .int .u8 10), (66, .bool false), (21, .int .u8 0), (22, .int .i64 s1), (24, .int .i64 s2), (25, .int .u8 0), (354, .int .u8 4), (4, .int .u8 0), (5, .bool false)]) (φ := True) (rest := []) h189 (by kernel_rfl) rfl trivial fun a191 h192 => ?_
      clear h189
      refine nd_done ?_
      refine hK190 _ _ ?_
      clear hK190
      refine wp_ret ?_
      try simp only [Exit.then, Exit.inBlock]
      try rw [if_pos trivial]
      exact s_ret tabOk2 tabZ_ok2 h192 [(.tmp 4, {}), (.tmp 5, {})] (vs := [.int .u8 0, .bool false]) (φ := True) rfl (by kernel_rfl) trivial ⟨rfl, _, mg_end hH h192 hhoh103 rfl⟩
    ·
      refine op_new tabOk2 (cells := [.int .u16 0, .int .u32 0]) (ty := 39) (ln := none) (L1 := fun b193 => [(3, ⟨[.int .u16 0, .int .u32 0], ty3, true⟩), (b2, ⟨[.int .u8 10, .int .u32 ev.pick, .int .u64 ev.draw, .int .u32 ev.addr, .int .u32 ev.node, .int .u32 ev.dst, .int .u32 ev.xfer, .int .u8 4, .int .u64 ev.arg, .int .u64 ev.badge, .slice xo ev.ws.length cx], 35, false⟩), (b14, ⟨[.int .u16 ((Z.ky x).idx), .int .u32 ((Z.ky x).gen)], 39, false⟩), (b75, ⟨[.int .u8 c.ty, .int .u16 c.obj.idx, .int .u32 c.obj.gen, .int .u8 c.rights, .int .u64 c.badge], 49, false⟩), (b193, ⟨[.int .u16 0, .int .u32 0], 39, false⟩)]) h135 rfl rfl rfl rfl (by kernel_rfl) (fun _ => rfl) fun b193 w194 a195 h196 hf197 hn198 => ?_
      refine ⟨(keepCons (kpLf h135.known hf197 (q := 1) rfl) (keepCons (kpM h135.inv.1 (l := .m) trivial (List.mem_cons_self ..) hf197) keepNil)), ?_⟩
      clear h135
      refine wpAnyK_one (i := 6) (fuel := 5) (by kernel_rfl) ?_
      refine op_call h196 rfl rfl rfl (callOk Tryd.func37 (by decide) rfl) (args := [.pointer (some ⟨Z.mo, 0, none⟩), .int .u8 4]) rfl (retypeC_ok Z.mo Z.mc Z.nd C 4 (by decide) _ h196.inv.1.cp er) ?_
      rintro _ w199 ⟨rfl, hc200, hf201⟩
      refine ⟨_, rfl, ?_⟩
      have h202a := st_cap h196 hc200 hf201 (fun b hb => .inl hb) (kcons (fun _ => rfl) (kcons (fun hq => by cases hq) (kcons (fun hq => by cases hq) (kcons (fun hq => by cases hq) (kcons (fun hq => by cases hq) knil)))))
      have h202 := h202a.put (d := some 347) (v := .tuple #[.agg #[.int .u16 ((Z.ky o).idx), .int .u32 ((Z.ky o).gen)], .int .u8 0]) (T' := [(347, .tuple #[.agg #[.int .u16 ((Z.ky o).idx), .int .u32 ((Z.ky o).gen)], .int .u8 0]), (26, .pointer (some ⟨b193, 0, none⟩)), (344, .pointer (some ⟨Z.mo, 0, none⟩)), (6, .pointer (some ⟨b14, 0, none⟩)), (3, .pointer (some ⟨b2, 0, none⟩)), (0, .pointer (some ⟨mb, 0, none⟩)), (1, .agg #[.int .u8 10, .int .u32 ev.pick, .int .u64 ev.draw, .int .u32 ev.addr, .int .u32 ev.node, .int .u32 ev.dst, .int .u32 ev.xfer, .int .u8 4, .int .u64 ev.arg, .int .u64 ev.badge, .slice xo ev.ws.length cx]), (4, .int .u8 0), (5, .bool false), (7, .pointer (some ⟨(Z.tp x), 0, none⟩)), (53, .int .u8 10), (66, .bool false), (21, .int .u8 0), (22, .int .i64 s1), (24, .int .i64 s2), (25, .int .u8 0), (346, .int .u8 4)]) rfl
      refine ⟨keepNil, ?_⟩
      clear h196 h202a
      refine dr_batch tabOk2 tabZ_ok2 (by repeat (first | with_reducible exact PF.body | with_reducible apply PF.inB | with_reducible apply PF.next)) [(7, {}), (8, {}), (9, {})] [26, 6, 3, 0, 1, 4, 5, 7, 53, 66, 21, 22, 24, 25, 348, 349] (T' := [(26, .pointer (some ⟨b193, 0, none⟩)), (6, .pointer (some ⟨b14, 0, none⟩)), (3, .pointer (some ⟨b2, 0, none⟩)), (0, .pointer (some ⟨mb, 0, none⟩)), (1, .agg #[.int .u8 10, .int .u32 ev.pick, .int .u64 ev.draw, .int .u32 ev.addr, .int .u32 ev.node, .int .u32 ev.dst, .int .u32 ev.xfer, .int .u8 4, .int .u64 ev.arg, .int .u64 ev.badge, .slice xo ev.ws.length cx]), (4, .int .u8 0), (5, .bool false), (7, .pointer (some ⟨(Z.tp x), 0, none⟩)), (53, .int .u8 10), (66, .bool false), (21, .int .u8 0), (22, .int .i64 s1), (24, .int .i64 s2), (25, .int .u8 0), (348, .agg #[.int .u16 ((Z.ky o).idx), .int .u32 ((Z.ky o).gen)]), (349, .int .u8 0)]) (φ := True) (fuel := 2) h202 (by kernel_rfl) rfl (by kernel_rfl) (by kernel_rfl) ⟨trivial, trivial, trivial, trivial⟩ trivial fun a203 h204 => ?_
      clear h202
      refine wpAnyK_one (i := 11) (fuel := 1) (by kernel_rfl) ?_
      refine op_store tabOk2 {k := 4} (L' := [(3, ⟨[.int .u16 0, .int .u32 0], ty3, true⟩), (b2, ⟨[.int .u8 10, .int .u32 ev.pick, .int .u64 ev.draw, .int .u32 ev.addr, .int .u32 ev.node, .int .u32 ev.dst, .int .u32 ev.xfer, .int .u8 4, .int .u64 ev.arg, .int .u64 ev.badge, .slice xo ev.ws.length cx], 35, false⟩), (b14, ⟨[.int .u16 ((Z.ky x).idx), .int .u32 ((Z.ky x).gen)], 39, false⟩), (b75, ⟨[.int .u8 c.ty, .int .u16 c.obj.idx, .int .u32 c.obj.gen, .int .u8 c.rights, .int .u64 c.badge], 49, false⟩), (b193, ⟨[.int .u16 ((Z.ky o).idx), .int .u32 ((Z.ky o).gen)], 39, false⟩)]) (φ := b193 = b193 ∧ Nat.ble (0 + 2) 2 = true) h204 rfl rfl rfl (by kernel_rfl) ⟨rfl, rfl⟩ fun w205 h206 => ?_
      refine ⟨keepNil, ?_⟩
      clear h204
      refine dr_batch tabOk2 tabZ_ok2 (by repeat (first | with_reducible exact PF.body | with_reducible apply PF.inB | with_reducible apply PF.next)) [(12, {})] [26, 6, 3, 0, 1, 4, 5, 7, 53, 66, 21, 22, 24, 25] (T' := [(26, .pointer (some ⟨b193, 0, none⟩)), (6, .pointer (some ⟨b14, 0, none⟩)), (3, .pointer (some ⟨b2, 0, none⟩)), (0, .pointer (some ⟨mb, 0, none⟩)), (1, .agg #[.int .u8 10, .int .u32 ev.pick, .int .u64 ev.draw, .int .u32 ev.addr, .int .u32 ev.node, .int .u32 ev.dst, .int .u32 ev.xfer, .int .u8 4, .int .u64 ev.arg, .int .u64 ev.badge, .slice xo ev.ws.length cx]), (4, .int .u8 0), (5, .bool false), (7, .pointer (some ⟨(Z.tp x), 0, none⟩)), (53, .int .u8 10), (66, .bool false), (21, .int .u8 0), (22, .int .i64 s1), (24, .int .i64 s2), (25, .int .u8 0)]) (φ := True) (fuel := 0) h206 (by kernel_rfl) rfl (by kernel_rfl) (by kernel_rfl) ⟨trivial, trivial⟩ trivial fun a207 h208 => ?_
      clear h206
      refine wpAnyK_done (by kernel_rfl) ?_ _
      refine hK127 _ _ ?_
      clear hK127
      refine wp_seq_k fun K209 hK209 => ?_
      refine wp_seq_k fun K210 hK210 => ?_
      refine nd_start (l := [0, 1]) rfl ?_
      refine nd_batch tabOk2 tabZ_ok2 [(0, {}), (1, {})] [26, 6, 3, 0, 1, 4, 5, 7, 53, 66, 21, 22, 24, 25, 351] (T' := [(26, .pointer (some ⟨b193, 0, none⟩)), (6, .pointer (some ⟨b14, 0, none⟩)), (3, .pointer (some ⟨b2, 0, none⟩)), (0, .pointer (some ⟨mb, 0, none⟩)), (1, .agg #[.int .u8 10, .int .u32 ev.pick, .int .u64 ev.draw, .int .u32 ev.addr, .int .u32 ev.node, .int .u32 ev.dst, .int .u32 ev.xfer, .int .u8 4, .int .u64 ev.arg, .int .u64 ev.badge, .slice xo ev.ws.length cx]), (4, .int .u8 0), (5, .bool false), (7, .pointer (some ⟨(Z.tp x), 0, none⟩)), (53, .int .u8 10), (66, .bool false), (21, .int .u8 0), (22, .int .i64 s1), (24, .int .i64 s2), (25, .int .u8 0), (351, .bool false)]) (φ := True) (rest := []) h208 (by kernel_rfl) rfl trivial fun a211 h212 => ?_
      clear h208
      refine nd_done ?_
      refine hK210 _ _ ?_
      clear hK210
      refine c_false h212 rfl ?_
      refine wp_skip ?_
      refine hK209 _ _ ?_
      clear hK209
      refine wp_seq_k fun K213 hK213 => ?_
      refine wp_seq_k fun K214 hK214 => ?_
      refine nd_start (l := [0, 1]) rfl ?_
      refine nd_batch tabOk2 tabZ_ok2 [(0, {}), (1, {k := 1})] [26, 6, 3, 0, 1, 4, 5, 7, 53, 66, 21, 22, 24, 25, 354] (T' := [(26, .pointer (some ⟨b193, 0, none⟩)), (6, .pointer (some ⟨b14, 0, none⟩)), (3, .pointer (some ⟨b2, 0, none⟩)), (0, .pointer (some ⟨mb, 0, none⟩)), (1, .agg #[.int .u8 10, .int .u32 ev.pick, .int .u64 ev.draw, .int .u32 ev.addr, .int .u32 ev.node, .int .u32 ev.dst, .int .u32 ev.xfer, .int .u8 4, .int .u64 ev.arg, .int .u64 ev.badge, .slice xo ev.ws.length cx]), (4, .int .u8 0), (5, .bool false), (7, .pointer (some ⟨(Z.tp x), 0, none⟩)), (53, .int .u8 10), (66, .bool false), (21, .int .u8 0), (22, .int .i64 s1), (24, .int .i64 s2), (25, .int .u8 0), (354, .int .u8 4)]) (φ := (b2 = b2 ∧ Nat.ble (7 + 1) 11 = true) ∧ True) (rest := []) h212 (by kernel_rfl) rfl ⟨⟨rfl, rfl⟩, trivial⟩ fun a215 h216 => ?_
      clear h212
      refine nd_done ?_
      refine hK214 _ _ ?_
      clear hK214
      refine wp_block ?_
      refine wp_seq_k fun K217 hK217 => ?_
      refine nd_start (l := [0, 1]) rfl ?_
      refine nd_batch tabOk2 tabZ_ok2 [(0, {}), (1, {})] [26, 6, 3, 0, 1, 4, 5, 7, 53, 66, 21, 22, 24, 25, 354, 360] (T' := [(26, .pointer (some ⟨b193, 0, none⟩)), (6, .pointer (some ⟨b14, 0, none⟩)), (3, .pointer (some ⟨b2, 0, none⟩)), (0, .pointer (some ⟨mb, 0, none⟩)), (1, .agg #[.int .u8 10, .int .u32 ev.pick, .int .u64 ev.draw, .int .u32 ev.addr, .int .u32 ev.node, .int .u32 ev.dst, .int .u32 ev.xfer, .int .u8 4, .int .u64 ev.arg, .int .u64 ev.badge, .slice xo ev.ws.length cx]), (4, .int .u8 0), (5, .bool false), (7, .pointer (some ⟨(Z.tp x), 0, none⟩)), (53, .int .u8 10), (66, .bool false), (21, .int .u8 0), (22, .int .i64 s1), (24, .int .i64 s2), (25, .int .u8 0), (354, .int .u8 4), (360, .bool false)]) (φ := True) (rest := []) h216 (by kernel_rfl) rfl trivial fun a218 h219 => ?_
      clear h216
      refine nd_done ?_
      refine hK217 _ _ ?_
      clear hK217
      refine c_false h219 rfl ?_
      refine wp_seq_k fun K220 hK220 => ?_
      refine nd_start (l := [0, 1]) rfl ?_
      refine nd_batch tabOk2 tabZ_ok2 [(0, {}), (1, {})] [26, 6, 3, 0, 1, 4, 5, 7, 53, 66, 21, 22, 24, 25, 354, 368] (T' := [(26, .pointer (some ⟨b193, 0, none⟩)), (6, .pointer (some ⟨b14, 0, none⟩)), (3, .pointer (some ⟨b2, 0, none⟩)), (0, .pointer (some ⟨mb, 0, none⟩)), (1, .agg #[.int .u8 10, .int .u32 ev.pick, .int .u64 ev.draw, .int .u32 ev.addr, .int .u32 ev.node, .int .u32 ev.dst, .int .u32 ev.xfer, .int .u8 4, .int .u64 ev.arg, .int .u64 ev.badge, .slice xo ev.ws.length cx]), (4, .int .u8 0), (5, .bool false), (7, .pointer (some ⟨(Z.tp x), 0, none⟩)), (53, .int .u8 10), (66, .bool false), (21, .int .u8 0), (22, .int .i64 s1), (24, .int .i64 s2), (25, .int .u8 0), (354, .int .u8 4), (368, .bool false)]) (φ := True) (rest := []) h219 (by kernel_rfl) rfl trivial fun a221 h222 => ?_
      clear h219
      refine nd_done ?_
      refine hK220 _ _ ?_
      clear hK220
      refine c_false h222 rfl ?_
      refine dr_start (KB := [3, b2, b14, b75, b193, mb]) (Bi := [[0, 1, 2, 3, 4, 5], [0, 1, 2, 3, 4, 5], [0, 1, 2, 3, 4, 5], [0, 1, 2, 3, 4, 5], [0, 1, 2, 3, 4, 5], []]) mixed h222 fun w223 h224 => ?_
      clear h222
      refine dr_batch tabOk2 tabZ_ok2 (by repeat (first | with_reducible exact PF.body | with_reducible apply PF.inB | with_reducible apply PF.next)) [(0, {}), (1, {}), (2, {})] [26, 6, 3, 0, 1, 4, 5, 7, 53, 66, 21, 22, 24, 25, 354, 357] (T' := [(26, .pointer (some ⟨b193, 0, none⟩)), (6, .pointer (some ⟨b14, 0, none⟩)), (3, .pointer (some ⟨b2, 0, none⟩)), (0, .pointer (some ⟨mb, 0, none⟩)), (1, .agg #[.int .u8 10, .int .u32 ev.pick, .int .u64 ev.draw, .int .u32 ev.addr, .int .u32 ev.node, .int .u32 ev.dst, .int .u32 ev.xfer, .int .u8 4, .int .u64 ev.arg, .int .u64 ev.badge, .slice xo ev.ws.length cx]), (4, .int .u8 0), (5, .bool false), (7, .pointer (some ⟨(Z.tp x), 0, none⟩)), (53, .int .u8 10), (66, .bool false), (21, .int .u8 0), (22, .int .i64 s1), (24, .int .i64 s2), (25, .int .u8 0), (354, .int .u8 4), (357, .pointer (some ⟨mb, 3, none⟩))]) (φ := True) (fuel := 3) h224 (by kernel_rfl) rfl (by kernel_rfl) (by kernel_rfl) ⟨trivial, trivial, trivial, trivial⟩ trivial fun a226 h227 => ?_
      clear h224
      refine dr_read (i := 3) (b := mb) (p := 5) (v := .map (some Z.qb)) (fuel := 2) (by repeat (first | with_reducible exact PF.body | with_reducible apply PF.inB | with_reducible apply PF.next)) h227 rfl rfl rfl (by kernel_rfl) (by kernel_rfl) (by kernel_rfl) rfl (rd_m h227 (k := 3) (v := .map (some Z.qb)) rfl rfl rfl rfl (md_p ⟨rfl, trivial⟩)) ?_
      have h228 := h227.put (d := some 358) (v := .map (some Z.qb)) (T' := [(358, .map (some Z.qb)), (26, .pointer (some ⟨b193, 0, none⟩)), (6, .pointer (some ⟨b14, 0, none⟩)), (3, .pointer (some ⟨b2, 0, none⟩)), (0, .pointer (some ⟨mb, 0, none⟩)), (1, .agg #[.int .u8 10, .int .u32 ev.pick, .int .u64 ev.draw, .int .u32 ev.addr, .int .u32 ev.node, .int .u32 ev.dst, .int .u32 ev.xfer, .int .u8 4, .int .u64 ev.arg, .int .u64 ev.badge, .slice xo ev.ws.length cx]), (4, .int .u8 0), (5, .bool false), (7, .pointer (some ⟨(Z.tp x), 0, none⟩)), (53, .int .u8 10), (66, .bool false), (21, .int .u8 0), (22, .int .i64 s1), (24, .int .i64 s2), (25, .int .u8 0), (354, .int .u8 4), (357, .pointer (some ⟨mb, 3, none⟩))]) rfl
      clear h227
      refine dr_batch tabOk2 tabZ_ok2 (by repeat (first | with_reducible exact PF.body | with_reducible apply PF.inB | with_reducible apply PF.next)) [(4, {k := 4, p := 4})] [358, 26, 6, 3, 0, 1, 4, 5, 7, 53, 66, 21, 22, 24, 25, 354, 359] (T' := [(358, .map (some Z.qb)), (26, .pointer (some ⟨b193, 0, none⟩)), (6, .pointer (some ⟨b14, 0, none⟩)), (3, .pointer (some ⟨b2, 0, none⟩)), (0, .pointer (some ⟨mb, 0, none⟩)), (1, .agg #[.int .u8 10, .int .u32 ev.pick, .int .u64 ev.draw, .int .u32 ev.addr, .int .u32 ev.node, .int .u32 ev.dst, .int .u32 ev.xfer, .int .u8 4, .int .u64 ev.arg, .int .u64 ev.badge, .slice xo ev.ws.length cx]), (4, .int .u8 0), (5, .bool false), (7, .pointer (some ⟨(Z.tp x), 0, none⟩)), (53, .int .u8 10), (66, .bool false), (21, .int .u8 0), (22, .int .i64 s1), (24, .int .i64 s2), (25, .int .u8 0), (354, .int .u8 4), (359, .agg #[.int .u16 ((Z.ky o).idx), .int .u32 ((Z.ky o).gen)])]) (φ := (b193 = b193 ∧ Nat.ble (0 + 2) 2 = true) ∧ True) (fuel := 1) h228 (by kernel_rfl) rfl (by kernel_rfl) (by kernel_rfl) ⟨rfl, trivial⟩ ⟨⟨rfl, rfl⟩, trivial⟩ fun a229 h230 => ?_
      clear h228
      refine wpAnyK_one (i := 5) (fuel := 0) (by kernel_rfl) ?_
      refine op_mAddQ (x := o) h230 rfl rfl rfl rfl rfl rfl hon ho2 hhoh103 hq0 hw0 (kcons (fun _ => rfl) (kcons (fun hq => by cases hq) (kcons (fun hq => by cases hq) (kcons (fun hq => by cases hq) (kcons (fun hq => by cases hq) knil))))) fun w231 hf232 h233a => ?_
      have h233 := h233a.put (d := none) (v := undef) (T' := [(358, .map (some Z.qb)), (26, .pointer (some ⟨b193, 0, none⟩)), (6, .pointer (some ⟨b14, 0, none⟩)), (3, .pointer (some ⟨b2, 0, none⟩)), (0, .pointer (some ⟨mb, 0, none⟩)), (1, .agg #[.int .u8 10, .int .u32 ev.pick, .int .u64 ev.draw, .int .u32 ev.addr, .int .u32 ev.node, .int .u32 ev.dst, .int .u32 ev.xfer, .int .u8 4, .int .u64 ev.arg, .int .u64 ev.badge, .slice xo ev.ws.length cx]), (4, .int .u8 0), (5, .bool false), (7, .pointer (some ⟨(Z.tp x), 0, none⟩)), (53, .int .u8 10), (66, .bool false), (21, .int .u8 0), (22, .int .i64 s1), (24, .int .i64 s2), (25, .int .u8 0), (354, .int .u8 4), (359, .agg #[.int .u16 ((Z.ky o).idx), .int .u32 ((Z.ky o).gen)])]) rfl
      refine ⟨keepNil, ?_⟩
      clear h230 h233a
      refine wpAnyK_done (by kernel_rfl) ?_ _
      refine hK213 _ _ ?_
      clear hK213
      refine wp_seq_k fun K234 hK234 => ?_
      refine dr_start (KB := [3, b2, b14, b75, b193, mb]) (Bi := [[0, 1, 2, 3, 4, 5], [0, 1, 2, 3, 4, 5], [0, 1, 2, 3, 4, 5], [0, 1, 2, 3, 4, 5], [0, 1, 2, 3, 4, 5], [0, 1, 2, 3, 4, 5], [0, 1, 2, 3, 4, 5], [0, 1, 2, 3, 4, 5], [0, 1, 2, 3, 4, 5], [0, 1, 2, 3, 4, 5], []]) mixed h233 fun w235 h236 => ?_
      clear h233
      refine dr_batch tabOk2 tabZ_ok2 (by repeat (first | with_reducible exact PF.body | with_reducible apply PF.inB | with_reducible apply PF.next)) [(0, {}), (1, {}), (2, {})] [26, 6, 3, 0, 1, 4, 5, 7, 53, 66, 21, 22, 24, 25, 354, 379] (T' := [(26, .pointer (some ⟨b193, 0, none⟩)), (6, .pointer (some ⟨b14, 0, none⟩)), (3, .pointer (some ⟨b2, 0, none⟩)), (0, .pointer (some ⟨mb, 0, none⟩)), (1, .agg #[.int .u8 10, .int .u32 ev.pick, .int .u64 ev.draw, .int .u32 ev.addr, .int .u32 ev.node, .int .u32 ev.dst, .int .u32 ev.xfer, .int .u8 4, .int .u64 ev.arg, .int .u64 ev.badge, .slice xo ev.ws.length cx]), (4, .int .u8 0), (5, .bool false), (7, .pointer (some ⟨(Z.tp x), 0, none⟩)), (53, .int .u8 10), (66, .bool false), (21, .int .u8 0), (22, .int .i64 s1), (24, .int .i64 s2), (25, .int .u8 0), (354, .int .u8 4), (379, .pointer (some ⟨mb, 1, none⟩))]) (φ := True) (fuel := 8) h236 (by kernel_rfl) rfl (by kernel_rfl) (by kernel_rfl) ⟨trivial, trivial, trivial, trivial⟩ trivial fun a238 h239 => ?_
      clear h236
      refine dr_read (i := 3) (b := mb) (p := 5) (v := .pointer (some ⟨Z.mc, 0, none⟩)) (fuel := 7) (by repeat (first | with_reducible exact PF.body | with_reducible apply PF.inB | with_reducible apply PF.next)) h239 rfl rfl rfl (by kernel_rfl) (by kernel_rfl) (by kernel_rfl) rfl (rd_m h239 (k := 1) (v := .pointer (some ⟨Z.mc, 0, none⟩)) rfl rfl rfl rfl (md_p ⟨rfl, trivial⟩)) ?_
      have h240 := h239.put (d := some 380) (v := .pointer (some ⟨Z.mc, 0, none⟩)) (T' := [(380, .pointer (some ⟨Z.mc, 0, none⟩)), (26, .pointer (some ⟨b193, 0, none⟩)), (6, .pointer (some ⟨b14, 0, none⟩)), (3, .pointer (some ⟨b2, 0, none⟩)), (0, .pointer (some ⟨mb, 0, none⟩)), (1, .agg #[.int .u8 10, .int .u32 ev.pick, .int .u64 ev.draw, .int .u32 ev.addr, .int .u32 ev.node, .int .u32 ev.dst, .int .u32 ev.xfer, .int .u8 4, .int .u64 ev.arg, .int .u64 ev.badge, .slice xo ev.ws.length cx]), (4, .int .u8 0), (5, .bool false), (7, .pointer (some ⟨(Z.tp x), 0, none⟩)), (53, .int .u8 10), (66, .bool false), (21, .int .u8 0), (22, .int .i64 s1), (24, .int .i64 s2), (25, .int .u8 0), (354, .int .u8 4), (379, .pointer (some ⟨mb, 1, none⟩))]) rfl
      clear h239
      refine dr_batch tabOk2 tabZ_ok2 (by repeat (first | with_reducible exact PF.body | with_reducible apply PF.inB | with_reducible apply PF.next)) [(4, {}), (5, {}), (6, {k := 1, p := 1}), (7, {k := 4, p := 4}), (8, {}), (9, {})] [380, 26, 6, 3, 0, 1, 4, 5, 7, 53, 66, 21, 22, 24, 25, 354, 381, 385, 386] (T' := [(380, .pointer (some ⟨Z.mc, 0, none⟩)), (26, .pointer (some ⟨b193, 0, none⟩)), (6, .pointer (some ⟨b14, 0, none⟩)), (3, .pointer (some ⟨b2, 0, none⟩)), (0, .pointer (some ⟨mb, 0, none⟩)), (1, .agg #[.int .u8 10, .int .u32 ev.pick, .int .u64 ev.draw, .int .u32 ev.addr, .int .u32 ev.node, .int .u32 ev.dst, .int .u32 ev.xfer, .int .u8 4, .int .u64 ev.arg, .int .u64 ev.badge, .slice xo ev.ws.length cx]), (4, .int .u8 0), (5, .bool false), (7, .pointer (some ⟨(Z.tp x), 0, none⟩)), (53, .int .u8 10), (66, .bool false), (21, .int .u8 0), (22, .int .i64 s1), (24, .int .i64 s2), (25, .int .u8 0), (354, .int .u8 4), (381, .int .i64 s2), (385, .agg #[.int .u8 4, .int .u16 ((Z.ky o).idx), .int .u32 ((Z.ky o).gen), .int .u8 7, .int .u64 0]), (386, .int .i64 s1)]) (φ := (b2 = b2 ∧ Nat.ble (7 + 1) 11 = true) ∧ (b193 = b193 ∧ Nat.ble (0 + 2) 2 = true) ∧ True) (fuel := 1) h240 (by kernel_rfl) rfl (by kernel_rfl) (by kernel_rfl) ⟨trivial, trivial, rfl, rfl, trivial, trivial, trivial⟩ ⟨⟨rfl, rfl⟩, ⟨rfl, rfl⟩, trivial⟩ fun a241 h242 => ?_
      clear h240
      refine wpAnyK_one (i := 10) (fuel := 0) (by kernel_rfl) ?_
      refine op_call h242 rfl rfl rfl (callOk Tryd.func40 (by decide) rfl) (args := [.pointer (some ⟨Z.mc, 0, none⟩), .int .i64 s2, .agg #[.int .u8 4, .int .u16 ((Z.ky o).idx), .int .u32 ((Z.ky o).gen), .int .u8 7, .int .u64 0], .int .i64 s1]) rfl (insertE Z.mo Z.mc _ ({ C with ent := E1 } : CP) hi2 hj2 hp2 hs2 ⟨4, Z.ky o, 7, 0⟩ s1 _ h242.inv.1.cp) ?_
      rintro _ w243 ⟨rfl, hc244, hf245⟩
      refine ⟨_, rfl, ?_⟩
      have h246a := st_cap h242 hc244 hf245 (fun b hb => .inl hb) (kcons (fun _ => rfl) (kcons (fun hq => by cases hq) (kcons (fun hq => by cases hq) (kcons (fun hq => by cases hq) (kcons (fun hq => by cases hq) knil)))))
      have h246 := h246a.put (d := some 387) (v := .tuple #[]) (T' := [(387, .tuple #[]), (380, .pointer (some ⟨Z.mc, 0, none⟩)), (26, .pointer (some ⟨b193, 0, none⟩)), (6, .pointer (some ⟨b14, 0, none⟩)), (3, .pointer (some ⟨b2, 0, none⟩)), (0, .pointer (some ⟨mb, 0, none⟩)), (1, .agg #[.int .u8 10, .int .u32 ev.pick, .int .u64 ev.draw, .int .u32 ev.addr, .int .u32 ev.node, .int .u32 ev.dst, .int .u32 ev.xfer, .int .u8 4, .int .u64 ev.arg, .int .u64 ev.badge, .slice xo ev.ws.length cx]), (4, .int .u8 0), (5, .bool false), (7, .pointer (some ⟨(Z.tp x), 0, none⟩)), (53, .int .u8 10), (66, .bool false), (21, .int .u8 0), (22, .int .i64 s1), (24, .int .i64 s2), (25, .int .u8 0), (354, .int .u8 4), (381, .int .i64 s2), (385, .agg #[.int .u8 4, .int .u16 ((Z.ky o).idx), .int .u32 ((Z.ky o).gen), .int .u8 7, .int .u64 0]), (386, .int .i64 s1)]) rfl
      refine ⟨keepNil, ?_⟩
      clear h242 h246a
      refine wpAnyK_done (by kernel_rfl) ?_ _
      refine hK234 _ _ ?_
      clear hK234
      refine wp_seq_k fun K247 hK247 => ?_
      refine nd_start (l := [0, 1]) rfl ?_
      refine nd_batch tabOk2 tabZ_ok2 [(0, {}), (1, {})] [26, 6, 3, 0, 1, 7, 53, 66, 21, 22, 24, 25, 354, 4, 5] (T' := [(26, .pointer (some ⟨b193, 0, none⟩)), (6, .pointer (some ⟨b14, 0, none⟩)), (3, .pointer (some ⟨b2, 0, none⟩)), (0, .pointer (some ⟨mb, 0, none⟩)), (1, .agg #[.int .u8 10, .int .u32 ev.pick, .int .u64 ev.draw, .int .u32 ev.addr, .int .u32 ev.node, .int .u32 ev.dst, .int .u32 ev.xfer, .int .u8 4, .int .u64 ev.arg, .int .u64 ev.badge, .slice xo ev.ws.length cx]), (7, .pointer (some ⟨(Z.tp x), 0, none⟩)), (53, .int .u8 10), (66, .bool false), (21, .int .u8 0), (22, .int .i64 s1), (24, .int .i64 s2), (25, .int .u8 0), (354, .int .u8 4), (4, .int .u8 0), (5, .bool false)]) (φ := True) (rest := []) h246 (by kernel_rfl) rfl trivial fun a248 h249 => ?_
      clear h246
      refine nd_done ?_
      refine hK247 _ _ ?_
      clear hK247
      refine wp_ret ?_
      try simp only [Exit.then, Exit.inBlock]
      try rw [if_pos trivial]
      exact s_ret tabOk2 tabZ_ok2 h249 [(.tmp 4, {}), (.tmp 5, {})] (vs := [.int .u8 0, .bool false]) (φ := True) rfl (by kernel_rfl) trivial ⟨rfl, _, mg_end hH h249 hhoh103 rfl⟩

theorem call10g5 (mb : Nat) (Z : MZ) (R : MR) (a : AK) (C : CP) (hI : MI Z a C) (x : Nat) (hx : x ∈ sl Z.tl) (hcu : a.cur = (x : Int)) (ev : Ev) (he : EvOk ev) (xo : Option Addr) (cx : Nat) (c : Cp) (cs0 : Int) (hf : findA a C ev.addr 1 2 = (c, cs0, 0)) (s1 : Int) (e1 : lookP C.ent (a.th x).cs ev.addr = (s1, 0)) (s2 : Int) (e2 : lookP C.ent (a.th x).cs ev.dst = (s2, 0)) (hz2 : (C.cel s2.toNat).cap.ty = 0) (E1 : Nat → Ent) (o : Nat) (er : retype0 C.ent 5 = (E1, Z.ky o, 0)) (ho2 : o < 256) (hon : o ∉ sl Z.ql) (hq0 : a.q (.w o) = []) (hw0 : a.word o = 0) (w : World) (hH : MH mb Z R a C w) (hws : WordsAt (mdF mb Z R C) w xo ev.ws) :
    Calls Tryd.prog 55 #[.pointer (some ⟨mb, 0, none⟩), .agg #[.int .u8 10, .int .u32 ev.pick, .int .u64 ev.draw, .int .u32 ev.addr, .int .u32 ev.node, .int .u32 ev.dst, .int .u32 ev.xfer, .int .u8 5, .int .u64 ev.arg, .int .u64 ev.badge, .slice xo ev.ws.length cx]] w fun e w' => e = .returned (.tuple #[.int .u8 0, .bool false]) ∧ ∃ R', MG mb Z R C w (Z.addQ o) R' a { C with ent := E1, cel := upd C.cel s2.toNat ⟨⟨5, Z.ky o, 7, 0⟩, s1⟩ } w' := by
  have hP := hI.mp
  have hcx : curR Z a = Z.ky x := curR_of hcu
  have hcn : a.cur.toNat = x := by rw [hcu]; exact Int.toNat_natCast x
  have hci := (hI.tk x hx).ci
  obtain ⟨ty3, hg3⟩ := hH.g3
  have hho := hH.ho
  have hkk := hH.md.k
  refine enter (n := 628) (K := mdF mb Z R C) (A := MD (mdF mb Z R C) w.heap.size mb Z R a C) (F := mdF mb Z R C) (T := [(0, .pointer (some ⟨mb, 0, none⟩)), (1, .agg #[.int .u8 10, .int .u32 ev.pick, .int .u64 ev.draw, .int .u32 ev.addr, .int .u32 ev.node, .int .u32 ev.dst, .int .u32 ev.xfer, .int .u8 5, .int .u64 ev.arg, .int .u64 ev.badge, .slice xo ev.ws.length cx])]) (L := [(3, ⟨[.int .u16 0, .int .u32 0], ty3, true⟩)]) (args := [.pointer (some ⟨mb, 0, none⟩), .agg #[.int .u8 10, .int .u32 ev.pick, .int .u64 ev.draw, .int .u32 ev.addr, .int .u32 ev.node, .int .u32 ev.dst, .int .u32 ev.xfer, .int .u8 5, .int .u64 ev.arg, .int .u64 ev.badge, .slice xo ev.ws.length cx]]) Tryd.func55 rfl rfl rfl rfl (kcons hg3 knil) (by simp) (kcons (by intro hq; cases hq) knil) hH.mD MD.stable hH.md.low (kcons (by intro hq; cases hq) knil) ?_
  intro ac h
  refine wp_seq_k fun K1 hK1 => ?_
  refine nd_start (l := [0, 1, 2]) rfl ?_
  refine nd_op ?_
  refine op_new tabOk2 (cells := [.int .u8 10, .int .u32 ev.pick, .int .u64 ev.draw, .int .u32 ev.addr, .int .u32 ev.node, .int .u32 ev.dst, .int .u32 ev.xfer, .int .u8 5, .int .u64 ev.arg, .int .u64 ev.badge, .slice xo ev.ws.length cx]) (ty := 35) (ln := none) (L1 := fun b2 => [(3, ⟨[.int .u16 0, .int .u32 0], ty3, true⟩), (b2, ⟨[.int .u8 10, .int .u32 ev.pick, .int .u64 ev.draw, .int .u32 ev.addr, .int .u32 ev.node, .int .u32 ev.dst, .int .u32 ev.xfer, .int .u8 5, .int .u64 ev.arg, .int .u64 ev.badge, .slice xo ev.ws.length cx], 35, false⟩)]) h rfl rfl rfl rfl (by kernel_rfl) (fun _ => rfl) fun b2 w3 a4 h5 hf6 hn7 => ?_
  clear h
  refine nd_batch tabOk2 tabZ_ok2 [(1, {}), (2, {})] [3, 0, 1, 4, 5] (T' := [(3, .pointer (some ⟨b2, 0, none⟩)), (0, .pointer (some ⟨mb, 0, none⟩)), (1, .agg #[.int .u8 10, .int .u32 ev.pick, .int .u64 ev.draw, .int .u32 ev.addr, .int .u32 ev.node, .int .u32 ev.dst, .int .u32 ev.xfer, .int .u8 5, .int .u64 ev.arg, .int .u64 ev.badge, .slice xo ev.ws.length cx]), (4, .int .u8 0), (5, .bool false)]) (φ := True) (rest := []) h5 (by kernel_rfl) rfl trivial fun a8 h9 => ?_
  clear h5
  refine nd_done ?_
  refine hK1 _ _ ?_
  clear hK1
  refine wp_seq_k fun K10 hK10 => ?_
  refine nd_start (l := [0, 1, 2, 3, 4, 5]) rfl ?_
  refine nd_batch tabOk2 tabZ_ok2 [(0, {}), (1, {}), (2, {})] [3, 0, 1, 4, 5, 44] (T' := [(3, .pointer (some ⟨b2, 0, none⟩)), (0, .pointer (some ⟨mb, 0, none⟩)), (1, .agg #[.int .u8 10, .int .u32 ev.pick, .int .u64 ev.draw, .int .u32 ev.addr, .int .u32 ev.node, .int .u32 ev.dst, .int .u32 ev.xfer, .int .u8 5, .int .u64 ev.arg, .int .u64 ev.badge, .slice xo ev.ws.length cx]), (4, .int .u8 0), (5, .bool false), (44, .pointer (some ⟨mb, 13, none⟩))]) (φ := True) (rest := [3, 4, 5]) h9 (by kernel_rfl) rfl trivial fun a11 h12 => ?_
  clear h9
  refine nd_op ?_
  refine op_read (b := mb) (v := .agg #[.int .u16 ((Z.ky x).idx), .int .u32 ((Z.ky x).gen)]) h12 rfl rfl (rd_mA h12 (k := 13) (vs := [.int .u16 ((Z.ky x).idx), .int .u32 ((Z.ky x).gen)]) rfl rfl rfl rfl rfl (by rw [← hcx]; exact md_cur)) ?_
  have h13 := h12.put (d := some 45) (v := .agg #[.int .u16 ((Z.ky x).idx), .int .u32 ((Z.ky x).gen)]) (T' := [(45, .agg #[.int .u16 ((Z.ky x).idx), .int .u32 ((Z.ky x).gen)]), (3, .pointer (some ⟨b2, 0, none⟩)), (0, .pointer (some ⟨mb, 0, none⟩)), (1, .agg #[.int .u8 10, .int .u32 ev.pick, .int .u64 ev.draw, .int .u32 ev.addr, .int .u32 ev.node, .int .u32 ev.dst, .int .u32 ev.xfer, .int .u8 5, .int .u64 ev.arg, .int .u64 ev.badge, .slice xo ev.ws.length cx]), (4, .int .u8 0), (5, .bool false), (44, .pointer (some ⟨mb, 13, none⟩))]) rfl
  clear h12
  refine nd_op ?_
  refine op_new tabOk2 (cells := [.int .u16 0, .int .u32 0]) (ty := 39) (ln := none) (L1 := fun b14 => [(3, ⟨[.int .u16 0, .int .u32 0], ty3, true⟩), (b2, ⟨[.int .u8 10, .int .u32 ev.pick, .int .u64 ev.draw, .int .u32 ev.addr, .int .u32 ev.node, .int .u32 ev.dst, .int .u32 ev.xfer, .int .u8 5, .int .u64 ev.arg, .int .u64 ev.badge, .slice xo ev.ws.length cx], 35, false⟩), (b14, ⟨[.int .u16 0, .int .u32 0], 39, false⟩)]) h13 rfl rfl rfl rfl (by kernel_rfl) (fun _ => rfl) fun b14 w15 a16 h17 hf18 hn19 => ?_
  clear h13
  refine nd_op ?_
  refine op_store tabOk2 {k := 2} (L' := [(3, ⟨[.int .u16 0, .int .u32 0], ty3, true⟩), (b2, ⟨[.int .u8 10, .int .u32 ev.pick, .int .u64 ev.draw, .int .u32 ev.addr, .int .u32 ev.node, .int .u32 ev.dst, .int .u32 ev.xfer, .int .u8 5, .int .u64 ev.arg, .int .u64 ev.badge, .slice xo ev.ws.length cx], 35, false⟩), (b14, ⟨[.int .u16 ((Z.ky x).idx), .int .u32 ((Z.ky x).gen)], 39, false⟩)]) (φ := b14 = b14 ∧ Nat.ble (0 + 2) 2 = true) h17 rfl rfl rfl (by kernel_rfl) ⟨rfl, rfl⟩ fun w20 h21 => ?_
  clear h17
  refine nd_done ?_
  refine hK10 _ _ ?_
  clear hK10
  refine wp_seq_k fun K22 hK22 => ?_
  refine dr_start (KB := [3, b2, b14, mb, Z.tb]) (Bi := [[0, 1, 2, 3, 4], [0, 1, 2, 3, 4], [0, 1, 2, 3, 4], [0, 1, 2, 3, 4], [0, 1, 2, 3, 4], [0, 1, 2, 3, 4], [0, 1, 2, 3, 4]]) mixed h21 fun w23 h24 => ?_
  clear h21
  refine dr_batch tabOk2 tabZ_ok2 (by repeat (first | with_reducible exact PF.body | with_reducible apply PF.inB | with_reducible apply PF.next)) [(0, {}), (1, {}), (2, {})] [6, 3, 0, 1, 4, 5, 48] (T' := [(6, .pointer (some ⟨b14, 0, none⟩)), (3, .pointer (some ⟨b2, 0, none⟩)), (0, .pointer (some ⟨mb, 0, none⟩)), (1, .agg #[.int .u8 10, .int .u32 ev.pick, .int .u64 ev.draw, .int .u32 ev.addr, .int .u32 ev.node, .int .u32 ev.dst, .int .u32 ev.xfer, .int .u8 5, .int .u64 ev.arg, .int .u64 ev.badge, .slice xo ev.ws.length cx]), (4, .int .u8 0), (5, .bool false), (48, .pointer (some ⟨mb, 2, none⟩))]) (φ := True) (fuel := 4) h24 (by kernel_rfl) rfl (by kernel_rfl) (by kernel_rfl) ⟨trivial, trivial, trivial, trivial⟩ trivial fun a26 h27 => ?_
  clear h24
  refine dr_read (i := 3) (b := mb) (p := 3) (v := .map (some Z.tb)) (fuel := 3) (by repeat (first | with_reducible exact PF.body | with_reducible apply PF.inB | with_reducible apply PF.next)) h27 rfl rfl rfl (by kernel_rfl) (by kernel_rfl) (by kernel_rfl) rfl (rd_m h27 (k := 2) (v := .map (some Z.tb)) rfl rfl rfl rfl (md_p ⟨rfl, trivial⟩)) ?_
  have h28 := h27.put (d := some 49) (v := .map (some Z.tb)) (T' := [(49, .map (some Z.tb)), (6, .pointer (some ⟨b14, 0, none⟩)), (3, .pointer (some ⟨b2, 0, none⟩)), (0, .pointer (some ⟨mb, 0, none⟩)), (1, .agg #[.int .u8 10, .int .u32 ev.pick, .int .u64 ev.draw, .int .u32 ev.addr, .int .u32 ev.node, .int .u32 ev.dst, .int .u32 ev.xfer, .int .u8 5, .int .u64 ev.arg, .int .u64 ev.badge, .slice xo ev.ws.length cx]), (4, .int .u8 0), (5, .bool false), (48, .pointer (some ⟨mb, 2, none⟩))]) rfl
  clear h27
  refine dr_batch tabOk2 tabZ_ok2 (by repeat (first | with_reducible exact PF.body | with_reducible apply PF.inB | with_reducible apply PF.next)) [(4, {k := 2, p := 2})] [49, 6, 3, 0, 1, 4, 5, 50] (T' := [(49, .map (some Z.tb)), (6, .pointer (some ⟨b14, 0, none⟩)), (3, .pointer (some ⟨b2, 0, none⟩)), (0, .pointer (some ⟨mb, 0, none⟩)), (1, .agg #[.int .u8 10, .int .u32 ev.pick, .int .u64 ev.draw, .int .u32 ev.addr, .int .u32 ev.node, .int .u32 ev.dst, .int .u32 ev.xfer, .int .u8 5, .int .u64 ev.arg, .int .u64 ev.badge, .slice xo ev.ws.length cx]), (4, .int .u8 0), (5, .bool false), (50, .agg #[.int .u16 ((Z.ky x).idx), .int .u32 ((Z.ky x).gen)])]) (φ := (b14 = b14 ∧ Nat.ble (0 + 2) 2 = true) ∧ True) (fuel := 2) h28 (by kernel_rfl) rfl (by kernel_rfl) (by kernel_rfl) ⟨rfl, trivial⟩ ⟨⟨rfl, rfl⟩, trivial⟩ fun a29 h30 => ?_
  clear h28
  refine dr_read (i := 5) (b := Z.tb) (p := 4) (v := .pointer (some ⟨(Z.tp x), 0, none⟩)) (fuel := 1) (by repeat (first | with_reducible exact PF.body | with_reducible apply PF.inB | with_reducible apply PF.next)) h30 rfl rfl rfl (by kernel_rfl) (by kernel_rfl) (by kernel_rfl) rfl (rd_T h30 (x := x) hx rfl rfl rfl) ?_
  have h31 := h30.put (d := some 51) (v := .pointer (some ⟨(Z.tp x), 0, none⟩)) (T' := [(51, .pointer (some ⟨(Z.tp x), 0, none⟩)), (49, .map (some Z.tb)), (6, .pointer (some ⟨b14, 0, none⟩)), (3, .pointer (some ⟨b2, 0, none⟩)), (0, .pointer (some ⟨mb, 0, none⟩)), (1, .agg #[.int .u8 10, .int .u32 ev.pick, .int .u64 ev.draw, .int .u32 ev.addr, .int .u32 ev.node, .int .u32 ev.dst, .int .u32 ev.xfer, .int .u8 5, .int .u64 ev.arg, .int .u64 ev.badge, .slice xo ev.ws.length cx]), (4, .int .u8 0), (5, .bool false), (50, .agg #[.int .u16 ((Z.ky x).idx), .int .u32 ((Z.ky x).gen)])]) rfl
  clear h30
  refine dr_batch tabOk2 tabZ_ok2 (by repeat (first | with_reducible exact PF.body | with_reducible apply PF.inB | with_reducible apply PF.next)) [(6, {})] [6, 3, 0, 1, 4, 5, 7] (T' := [(6, .pointer (some ⟨b14, 0, none⟩)), (3, .pointer (some ⟨b2, 0, none⟩)), (0, .pointer (some ⟨mb, 0, none⟩)), (1, .agg #[.int .u8 10, .int .u32 ev.pick, .int .u64 ev.draw, .int .u32 ev.addr, .int .u32 ev.node, .int .u32 ev.dst, .int .u32 ev.xfer, .int .u8 5, .int .u64 ev.arg, .int .u64 ev.badge, .slice xo ev.ws.length cx]), (4, .int .u8 0), (5, .bool false), (7, .pointer (some ⟨(Z.tp x), 0, none⟩))]) (φ := True) (fuel := 0) h31 (by kernel_rfl) rfl (by kernel_rfl) (by kernel_rfl) ⟨trivial, trivial⟩ trivial fun a32 h33 => ?_
  clear h31
  refine wpAnyK_done (by kernel_rfl) ?_ _
  refine hK22 _ _ ?_
  clear hK22
  refine wp_seq_k fun K34 hK34 => ?_
  refine wp_seq_k fun K35 hK35 => ?_
  refine nd_start (l := [0, 1]) rfl ?_
  refine nd_batch tabOk2 tabZ_ok2 [(0, {}), (1, {k := 1})] [6, 3, 0, 1, 4, 5, 7, 53] (T' := [(6, .pointer (some ⟨b14, 0, none⟩)), (3, .pointer (some ⟨b2, 0, none⟩)), (0, .pointer (some ⟨mb, 0, none⟩)), (1, .agg #[.int .u8 10, .int .u32 ev.pick, .int .u64 ev.draw, .int .u32 ev.addr, .int .u32 ev.node, .int .u32 ev.dst, .int .u32 ev.xfer, .int .u8 5, .int .u64 ev.arg, .int .u64 ev.badge, .slice xo ev.ws.length cx]), (4, .int .u8 0), (5, .bool false), (7, .pointer (some ⟨(Z.tp x), 0, none⟩)), (53, .int .u8 10)]) (φ := (b2 = b2 ∧ Nat.ble (0 + 1) 11 = true) ∧ True) (rest := []) h33 (by kernel_rfl) rfl ⟨⟨rfl, rfl⟩, trivial⟩ fun a36 h37 => ?_
  clear h33
  refine nd_done ?_
  refine hK35 _ _ ?_
  clear hK35
  refine wp_block ?_
  refine wp_seq_k fun K38 hK38 => ?_
  refine nd_start (l := [0, 1]) rfl ?_
  refine nd_batch tabOk2 tabZ_ok2 [(0, {}), (1, {})] [6, 3, 0, 1, 4, 5, 7, 53, 54] (T' := [(6, .pointer (some ⟨b14, 0, none⟩)), (3, .pointer (some ⟨b2, 0, none⟩)), (0, .pointer (some ⟨mb, 0, none⟩)), (1, .agg #[.int .u8 10, .int .u32 ev.pick, .int .u64 ev.draw, .int .u32 ev.addr, .int .u32 ev.node, .int .u32 ev.dst, .int .u32 ev.xfer, .int .u8 5, .int .u64 ev.arg, .int .u64 ev.badge, .slice xo ev.ws.length cx]), (4, .int .u8 0), (5, .bool false), (7, .pointer (some ⟨(Z.tp x), 0, none⟩)), (53, .int .u8 10), (54, .bool false)]) (φ := True) (rest := []) h37 (by kernel_rfl) rfl trivial fun a39 h40 => ?_
  clear h37
  refine nd_done ?_
  refine hK38 _ _ ?_
  clear hK38
  refine c_false h40 rfl ?_
  refine wp_seq_k fun K41 hK41 => ?_
  refine nd_start (l := [0, 1]) rfl ?_
  refine nd_batch tabOk2 tabZ_ok2 [(0, {}), (1, {})] [6, 3, 0, 1, 4, 5, 7, 53, 59] (T' := [(6, .pointer (some ⟨b14, 0, none⟩)), (3, .pointer (some ⟨b2, 0, none⟩)), (0, .pointer (some ⟨mb, 0, none⟩)), (1, .agg #[.int .u8 10, .int .u32 ev.pick, .int .u64 ev.draw, .int .u32 ev.addr, .int .u32 ev.node, .int .u32 ev.dst, .int .u32 ev.xfer, .int .u8 5, .int .u64 ev.arg, .int .u64 ev.badge, .slice xo ev.ws.length cx]), (4, .int .u8 0), (5, .bool false), (7, .pointer (some ⟨(Z.tp x), 0, none⟩)), (53, .int .u8 10), (59, .bool false)]) (φ := True) (rest := []) h40 (by kernel_rfl) rfl trivial fun a42 h43 => ?_
  clear h40
  refine nd_done ?_
  refine hK41 _ _ ?_
  clear hK41
  refine c_false h43 rfl ?_
  refine wp_seq_k fun K44 hK44 => ?_
  refine wp_seq_k fun K45 hK45 => ?_
  refine nd_start (l := [0, 1]) rfl ?_
  refine nd_batch tabOk2 tabZ_ok2 [(0, {}), (1, {})] [6, 3, 0, 1, 4, 5, 7, 53, 66] (T' := [(6, .pointer (some ⟨b14, 0, none⟩)), (3, .pointer (some ⟨b2, 0, none⟩)), (0, .pointer (some ⟨mb, 0, none⟩)), (1, .agg #[.int .u8 10, .int .u32 ev.pick, .int .u64 ev.draw, .int .u32 ev.addr, .int .u32 ev.node, .int .u32 ev.dst, .int .u32 ev.xfer, .int .u8 5, .int .u64 ev.arg, .int .u64 ev.badge, .slice xo ev.ws.length cx]), (4, .int .u8 0), (5, .bool false), (7, .pointer (some ⟨(Z.tp x), 0, none⟩)), (53, .int .u8 10), (66, .bool false)]) (φ := True) (rest := []) h43 (by kernel_rfl) rfl trivial fun a46 h47 => ?_
  clear h43
  refine nd_done ?_
  refine hK45 _ _ ?_
  clear hK45
  refine c_false h47 rfl ?_
  refine nd_start (l := [0, 1]) rfl ?_
  refine nd_batch tabOk2 tabZ_ok2 [(0, {}), (1, {})] [6, 3, 0, 1, 4, 5, 7, 53, 66] (T' := [(6, .pointer (some ⟨b14, 0, none⟩)), (3, .pointer (some ⟨b2, 0, none⟩)), (0, .pointer (some ⟨mb, 0, none⟩)), (1, .agg #[.int .u8 10, .int .u32 ev.pick, .int .u64 ev.draw, .int .u32 ev.addr, .int .u32 ev.node, .int .u32 ev.dst, .int .u32 ev.xfer, .int .u8 5, .int .u64 ev.arg, .int .u64 ev.badge, .slice xo ev.ws.length cx]), (4, .int .u8 0), (5, .bool false), (7, .pointer (some ⟨(Z.tp x), 0, none⟩)), (53, .int .u8 10), (66, .bool false)]) (φ := True) (rest := []) h47 (by kernel_rfl) rfl trivial fun a48 h49 => ?_
  clear h47
  refine nd_done ?_
  refine hK44 _ _ ?_
  clear hK44
  refine c_false h49 rfl ?_
  refine wp_seq_k fun K50 hK50 => ?_
  refine nd_start (l := [0, 1]) rfl ?_
  refine nd_batch tabOk2 tabZ_ok2 [(0, {}), (1, {})] [6, 3, 0, 1, 4, 5, 7, 53, 66, 129] (T' := [(6, .pointer (some ⟨b14, 0, none⟩)), (3, .pointer (some ⟨b2, 0, none⟩)), (0, .pointer (some ⟨mb, 0, none⟩)), (1, .agg #[.int .u8 10, .int .u32 ev.pick, .int .u64 ev.draw, .int .u32 ev.addr, .int .u32 ev.node, .int .u32 ev.dst, .int .u32 ev.xfer, .int .u8 5, .int .u64 ev.arg, .int .u64 ev.badge, .slice xo ev.ws.length cx]), (4, .int .u8 0), (5, .bool false), (7, .pointer (some ⟨(Z.tp x), 0, none⟩)), (53, .int .u8 10), (66, .bool false), (129, .bool false)]) (φ := True) (rest := []) h49 (by kernel_rfl) rfl trivial fun a51 h52 => ?_
  clear h49
  refine nd_done ?_
  refine hK50 _ _ ?_
  clear hK50
  refine c_false h52 rfl ?_
  refine wp_seq_k fun K53 hK53 => ?_
  refine nd_start (l := [0, 1]) rfl ?_
  refine nd_batch tabOk2 tabZ_ok2 [(0, {}), (1, {})] [6, 3, 0, 1, 4, 5, 7, 53, 66, 165] (T' := [(6, .pointer (some ⟨b14, 0, none⟩)), (3, .pointer (some ⟨b2, 0, none⟩)), (0, .pointer (some ⟨mb, 0, none⟩)), (1, .agg #[.int .u8 10, .int .u32 ev.pick, .int .u64 ev.draw, .int .u32 ev.addr, .int .u32 ev.node, .int .u32 ev.dst, .int .u32 ev.xfer, .int .u8 5, .int .u64 ev.arg, .int .u64 ev.badge, .slice xo ev.ws.length cx]), (4, .int .u8 0), (5, .bool false), (7, .pointer (some ⟨(Z.tp x), 0, none⟩)), (53, .int .u8 10), (66, .bool false), (165, .bool false)]) (φ := True) (rest := []) h52 (by kernel_rfl) rfl trivial fun a54 h55 => ?_
  clear h52
  refine nd_done ?_
  refine hK53 _ _ ?_
  clear hK53
  refine c_false h55 rfl ?_
  refine wp_seq_k fun K56 hK56 => ?_
  refine nd_start (l := [0, 1]) rfl ?_
  refine nd_batch tabOk2 tabZ_ok2 [(0, {}), (1, {})] [6, 3, 0, 1, 4, 5, 7, 53, 66, 226] (T' := [(6, .pointer (some ⟨b14, 0, none⟩)), (3, .pointer (some ⟨b2, 0, none⟩)), (0, .pointer (some ⟨mb, 0, none⟩)), (1, .agg #[.int .u8 10, .int .u32 ev.pick, .int .u64 ev.draw, .int .u32 ev.addr, .int .u32 ev.node, .int .u32 ev.dst, .int .u32 ev.xfer, .int .u8 5, .int .u64 ev.arg, .int .u64 ev.badge, .slice xo ev.ws.length cx]), (4, .int .u8 0), (5, .bool false), (7, .pointer (some ⟨(Z.tp x), 0, none⟩)), (53, .int .u8 10), (66, .bool false), (226, .bool false)]) (φ := True) (rest := []) h55 (by kernel_rfl) rfl trivial fun a57 h58 => ?_
  clear h55
  refine nd_done ?_
  refine hK56 _ _ ?_
  clear hK56
  refine c_false h58 rfl ?_
  refine wp_seq_k fun K59 hK59 => ?_
  refine nd_start (l := [0, 1]) rfl ?_
  refine nd_batch tabOk2 tabZ_ok2 [(0, {}), (1, {})] [6, 3, 0, 1, 4, 5, 7, 53, 66, 244] (T' := [(6, .pointer (some ⟨b14, 0, none⟩)), (3, .pointer (some ⟨b2, 0, none⟩)), (0, .pointer (some ⟨mb, 0, none⟩)), (1, .agg #[.int .u8 10, .int .u32 ev.pick, .int .u64 ev.draw, .int .u32 ev.addr, .int .u32 ev.node, .int .u32 ev.dst, .int .u32 ev.xfer, .int .u8 5, .int .u64 ev.arg, .int .u64 ev.badge, .slice xo ev.ws.length cx]), (4, .int .u8 0), (5, .bool false), (7, .pointer (some ⟨(Z.tp x), 0, none⟩)), (53, .int .u8 10), (66, .bool false), (244, .bool false)]) (φ := True) (rest := []) h58 (by kernel_rfl) rfl trivial fun a60 h61 => ?_
  clear h58
  refine nd_done ?_
  refine hK59 _ _ ?_
  clear hK59
  refine c_false h61 rfl ?_
  refine wp_seq_k fun K62 hK62 => ?_
  refine nd_start (l := [0, 1]) rfl ?_
  refine nd_batch tabOk2 tabZ_ok2 [(0, {}), (1, {})] [6, 3, 0, 1, 4, 5, 7, 53, 66, 285] (T' := [(6, .pointer (some ⟨b14, 0, none⟩)), (3, .pointer (some ⟨b2, 0, none⟩)), (0, .pointer (some ⟨mb, 0, none⟩)), (1, .agg #[.int .u8 10, .int .u32 ev.pick, .int .u64 ev.draw, .int .u32 ev.addr, .int .u32 ev.node, .int .u32 ev.dst, .int .u32 ev.xfer, .int .u8 5, .int .u64 ev.arg, .int .u64 ev.badge, .slice xo ev.ws.length cx]), (4, .int .u8 0), (5, .bool false), (7, .pointer (some ⟨(Z.tp x), 0, none⟩)), (53, .int .u8 10), (66, .bool false), (285, .bool true)]) (φ := True) (rest := []) h61 (by kernel_rfl) rfl trivial fun a63 h64 => ?_
  clear h61
  refine nd_done ?_
  refine hK62 _ _ ?_
  clear hK62
  refine c_true h64 rfl ?_
  refine wp_seq_k fun K65 hK65 => ?_
  refine wp_seq_k fun K66 hK66 => ?_
  refine nd_start (l := [0, 1, 2, 3, 4, 5, 6, 7, 8, 9]) rfl ?_
  refine nd_batch tabOk2 tabZ_ok2 [(0, {}), (1, {}), (2, {k := 1})] [6, 3, 0, 1, 4, 5, 7, 53, 66, 288, 290] (T' := [(6, .pointer (some ⟨b14, 0, none⟩)), (3, .pointer (some ⟨b2, 0, none⟩)), (0, .pointer (some ⟨mb, 0, none⟩)), (1, .agg #[.int .u8 10, .int .u32 ev.pick, .int .u64 ev.draw, .int .u32 ev.addr, .int .u32 ev.node, .int .u32 ev.dst, .int .u32 ev.xfer, .int .u8 5, .int .u64 ev.arg, .int .u64 ev.badge, .slice xo ev.ws.length cx]), (4, .int .u8 0), (5, .bool false), (7, .pointer (some ⟨(Z.tp x), 0, none⟩)), (53, .int .u8 10), (66, .bool false), (288, .pointer (some ⟨mb, 0, none⟩)), (290, .int .u32 ev.addr)]) (φ := (b2 = b2 ∧ Nat.ble (3 + 1) 11 = true) ∧ True) (rest := [3, 4, 5, 6, 7, 8, 9]) h64 (by kernel_rfl) rfl ⟨⟨rfl, rfl⟩, trivial⟩ fun a67 h68 => ?_
  clear h64
  refine nd_op ?_
  refine op_call h68 rfl rfl rfl (callOk Tryd.func90 (by decide) rfl) (args := [.pointer (some ⟨mb, 0, none⟩), .int .u32 ev.addr, .int .u8 1, .int .u8 2]) rfl (capOf_ok mb Z _ a C x hx hcx hci hcn hI.ci ev.addr 1 2 he.addr _ (mh_of h68 hho (k := 0) rfl) hf) ?_
  rintro _ w69 ⟨rfl, hg71⟩
  refine ⟨_, rfl, ?_⟩
  have h72a := st_mg h68 hg71 (kcons (fun _ => rfl) (kcons (fun hq => by cases hq) (kcons (fun hq => by cases hq) knil)))
  have h72 := h72a.put (d := some 291) (v := .tuple #[.agg #[.int .u8 c.ty, .int .u16 c.obj.idx, .int .u32 c.obj.gen, .int .u8 c.rights, .int .u64 c.badge], .int .u8 0]) (T' := [(291, .tuple #[.agg #[.int .u8 c.ty, .int .u16 c.obj.idx, .int .u32 c.obj.gen, .int .u8 c.rights, .int .u64 c.badge], .int .u8 0]), (6, .pointer (some ⟨b14, 0, none⟩)), (3, .pointer (some ⟨b2, 0, none⟩)), (0, .pointer (some ⟨mb, 0, none⟩)), (1, .agg #[.int .u8 10, .int .u32 ev.pick, .int .u64 ev.draw, .int .u32 ev.addr, .int .u32 ev.node, .int .u32 ev.dst, .int .u32 ev.xfer, .int .u8 5, .int .u64 ev.arg, .int .u64 ev.badge, .slice xo ev.ws.length cx]), (4, .int .u8 0), (5, .bool false), (7, .pointer (some ⟨(Z.tp x), 0, none⟩)), (53, .int .u8 10), (66, .bool false), (288, .pointer (some ⟨mb, 0, none⟩)), (290, .int .u32 ev.addr)]) rfl
  have hhoh72 := hg71.mh.ho
  clear h68 h72a
  refine nd_batch tabOk2 tabZ_ok2 [(4, {}), (5, {}), (6, {})] [6, 3, 0, 1, 4, 5, 7, 53, 66, 292, 293] (T' := [(6, .pointer (some ⟨b14, 0, none⟩)), (3, .pointer (some ⟨b2, 0, none⟩)), (0, .pointer (some ⟨mb, 0, none⟩)), (1, .agg #[.int .u8 10, .int .u32 ev.pick, .int .u64 ev.draw, .int .u32 ev.addr, .int .u32 ev.node, .int .u32 ev.dst, .int .u32 ev.xfer, .int .u8 5, .int .u64 ev.arg, .int .u64 ev.badge, .slice xo ev.ws.length cx]), (4, .int .u8 0), (5, .bool false), (7, .pointer (some ⟨(Z.tp x), 0, none⟩)), (53, .int .u8 10), (66, .bool false), (292, .agg #[.int .u8 c.ty, .int .u16 c.obj.idx, .int .u32 c.obj.gen, .int .u8 c.rights, .int .u64 c.badge]), (293, .int .u8 0)]) (φ := True) (rest := [7, 8, 9]) h72 (by kernel_rfl) rfl trivial fun a73 h74 => ?_
  clear h72
  refine nd_op ?_
  refine op_new tabOk2 (cells := [.int .u8 0, .int .u16 0, .int .u32 0, .int .u8 0, .int .u64 0]) (ty := 49) (ln := none) (L1 := fun b75 => [(3, ⟨[.int .u16 0, .int .u32 0], ty3, true⟩), (b2, ⟨[.int .u8 10, .int .u32 ev.pick, .int .u64 ev.draw, .int .u32 ev.addr, .int .u32 ev.node, .int .u32 ev.dst, .int .u32 ev.xfer, .int .u8 5, .int .u64 ev.arg, .int .u64 ev.badge, .slice xo ev.ws.length cx], 35, false⟩), (b14, ⟨[.int .u16 ((Z.ky x).idx), .int .u32 ((Z.ky x).gen)], 39, false⟩), (b75, ⟨[.int .u8 0, .int .u16 0, .int .u32 0, .int .u8 0, .int .u64 0], 49, false⟩)]) h74 rfl rfl rfl rfl (by kernel_rfl) (fun _ => rfl) fun b75 w76 a77 h78 hf79 hn80 => ?_
  clear h74
  refine nd_op ?_
  refine op_store tabOk2 {k := 3} (L' := [(3, ⟨[.int .u16 0, .int .u32 0], ty3, true⟩), (b2, ⟨[.int .u8 10, .int .u32 ev.pick, .int .u64 ev.draw, .int .u32 ev.addr, .int .u32 ev.node, .int .u32 ev.dst, .int .u32 ev.xfer, .int .u8 5, .int .u64 ev.arg, .int .u64 ev.badge, .slice xo ev.ws.length cx], 35, false⟩), (b14, ⟨[.int .u16 ((Z.ky x).idx), .int .u32 ((Z.ky x).gen)], 39, false⟩), (b75, ⟨[.int .u8 c.ty, .int .u16 c.obj.idx, .int .u32 c.obj.gen, .int .u8 c.rights, .int .u64 c.badge], 49, false⟩)]) (φ := b75 = b75 ∧ Nat.ble (0 + 5) 5 = true) h78 rfl rfl rfl (by kernel_rfl) ⟨rfl, rfl⟩ fun w81 h82 => ?_
  clear h78
  refine nd_batch tabOk2 tabZ_ok2 [(9, {})] [6, 3, 0, 1, 4, 5, 7, 53, 66, 21] (T' := [(6, .pointer (some ⟨b14, 0, none⟩)), (3, .pointer (some ⟨b2, 0, none⟩)), (0, .pointer (some ⟨mb, 0, none⟩)), (1, .agg #[.int .u8 10, .int .u32 ev.pick, .int .u64 ev.draw, .int .u32 ev.addr, .int .u32 ev.node, .int .u32 ev.dst, .int .u32 ev.xfer, .int .u8 5, .int .u64 ev.arg, .int .u64 ev.badge, .slice xo ev.ws.length cx]), (4, .int .u8 0), (5, .bool false), (7, .pointer (some ⟨(Z.tp x), 0, none⟩)), (53, .int .u8 10), (66, .bool false), (21, .int .u8 0)]) (φ := True) (rest := []) h82 (by kernel_rfl) rfl trivial fun a83 h84 => ?_
  clear h82
  refine nd_done ?_
  refine hK66 _ _ ?_
  clear hK66
  refine wp_seq_k fun K85 hK85 => ?_
  refine nd_start (l := [0, 1]) rfl ?_
  refine nd_batch tabOk2 tabZ_ok2 [(0, {}), (1, {})] [6, 3, 0, 1, 4, 5, 7, 53, 66, 21, 295] (T' := [(6, .pointer (some ⟨b14, 0, none⟩)), (3, .pointer (some ⟨b2, 0, none⟩)), (0, .pointer (some ⟨mb, 0, none⟩)), (1, .agg #[.int .u8 10, .int .u32 ev.pick, .int .u64 ev.draw, .int .u32 ev.addr, .int .u32 ev.node, .int .u32 ev.dst, .int .u32 ev.xfer, .int .u8 5, .int .u64 ev.arg, .int .u64 ev.badge, .slice xo ev.ws.length cx]), (4, .int .u8 0), (5, .bool false), (7, .pointer (some ⟨(Z.tp x), 0, none⟩)), (53, .int .u8 10), (66, .bool false), (21, .int .u8 0), (295, .bool false)]) (φ := True) (rest := []) h84 (by kernel_rfl) rfl trivial fun a86 h87 => ?_
  clear h84
  refine nd_done ?_
  refine hK85 _ _ ?_
  clear hK85
  refine c_false h87 rfl ?_
  refine wp_skip ?_
  refine hK65 _ _ ?_
  clear hK65
  refine wp_seq_k fun K88 hK88 => ?_
  refine nd_start (l := [0, 1, 2, 3, 4, 5, 6, 7, 8]) rfl ?_
  refine nd_batch tabOk2 tabZ_ok2 [(0, {}), (1, {}), (2, {k := 1})] [6, 3, 0, 1, 4, 5, 7, 53, 66, 21, 298, 300] (T' := [(6, .pointer (some ⟨b14, 0, none⟩)), (3, .pointer (some ⟨b2, 0, none⟩)), (0, .pointer (some ⟨mb, 0, none⟩)), (1, .agg #[.int .u8 10, .int .u32 ev.pick, .int .u64 ev.draw, .int .u32 ev.addr, .int .u32 ev.node, .int .u32 ev.dst, .int .u32 ev.xfer, .int .u8 5, .int .u64 ev.arg, .int .u64 ev.badge, .slice xo ev.ws.length cx]), (4, .int .u8 0), (5, .bool false), (7, .pointer (some ⟨(Z.tp x), 0, none⟩)), (53, .int .u8 10), (66, .bool false), (21, .int .u8 0), (298, .pointer (some ⟨mb, 0, none⟩)), (300, .int .u32 ev.addr)]) (φ := (b2 = b2 ∧ Nat.ble (3 + 1) 11 = true) ∧ True) (rest := [3, 4, 5, 6, 7, 8]) h87 (by kernel_rfl) rfl ⟨⟨rfl, rfl⟩, trivial⟩ fun a89 h90 => ?_
  clear h87
  refine nd_op ?_
  refine op_call h90 rfl rfl rfl (callOk Tryd.func93 (by decide) rfl) (args := [.pointer (some ⟨mb, 0, none⟩), .int .u32 ev.addr]) rfl (cellOf_ok mb Z _ a C x hx hcx hci ev.addr he.addr e1 _ (mh_of h90 hhoh72 (k := 0) rfl)) ?_
  rintro _ w91 ⟨rfl, hg93⟩
  refine ⟨_, rfl, ?_⟩
  have h94a := st_mg h90 hg93 (kcons (fun _ => rfl) (kcons (fun hq => by cases hq) (kcons (fun hq => by cases hq) (kcons (fun hq => by cases hq) knil))))
  have h94 := h94a.put (d := some 301) (v := .tuple #[.int .i64 s1, .int .u8 0]) (T' := [(301, .tuple #[.int .i64 s1, .int .u8 0]), (6, .pointer (some ⟨b14, 0, none⟩)), (3, .pointer (some ⟨b2, 0, none⟩)), (0, .pointer (some ⟨mb, 0, none⟩)), (1, .agg #[.int .u8 10, .int .u32 ev.pick, .int .u64 ev.draw, .int .u32 ev.addr, .int .u32 ev.node, .int .u32 ev.dst, .int .u32 ev.xfer, .int .u8 5, .int .u64 ev.arg, .int .u64 ev.badge, .slice xo ev.ws.length cx]), (4, .int .u8 0), (5, .bool false), (7, .pointer (some ⟨(Z.tp x), 0, none⟩)), (53, .int .u8 10), (66, .bool false), (21, .int .u8 0), (298, .pointer (some ⟨mb, 0, none⟩)), (300, .int .u32 ev.addr)]) rfl
  have hhoh94 := hg93.mh.ho
  clear h90 h94a
  refine nd_batch tabOk2 tabZ_ok2 [(4, {}), (5, {}), (6, {}), (7, {}), (8, {})] [6, 3, 0, 1, 4, 5, 7, 53, 66, 21, 22] (T' := [(6, .pointer (some ⟨b14, 0, none⟩)), (3, .pointer (some ⟨b2, 0, none⟩)), (0, .pointer (some ⟨mb, 0, none⟩)), (1, .agg #[.int .u8 10, .int .u32 ev.pick, .int .u64 ev.draw, .int .u32 ev.addr, .int .u32 ev.node, .int .u32 ev.dst, .int .u32 ev.xfer, .int .u8 5, .int .u64 ev.arg, .int .u64 ev.badge, .slice xo ev.ws.length cx]), (4, .int .u8 0), (5, .bool false), (7, .pointer (some ⟨(Z.tp x), 0, none⟩)), (53, .int .u8 10), (66, .bool false), (21, .int .u8 0), (22, .int .i64 s1)]) (φ := True) (rest := []) h94 (by kernel_rfl) rfl trivial fun a95 h96 => ?_
  clear h94
  refine nd_done ?_
  refine hK88 _ _ ?_
  clear hK88
  refine wp_seq_k fun K97 hK97 => ?_
  refine nd_start (l := [0, 1, 2, 3, 4, 5, 6, 7, 8]) rfl ?_
  refine nd_batch tabOk2 tabZ_ok2 [(0, {}), (1, {}), (2, {k := 1})] [6, 3, 0, 1, 4, 5, 7, 53, 66, 21, 22, 305, 307] (T' := [(6, .pointer (some ⟨b14, 0, none⟩)), (3, .pointer (some ⟨b2, 0, none⟩)), (0, .pointer (some ⟨mb, 0, none⟩)), (1, .agg #[.int .u8 10, .int .u32 ev.pick, .int .u64 ev.draw, .int .u32 ev.addr, .int .u32 ev.node, .int .u32 ev.dst, .int .u32 ev.xfer, .int .u8 5, .int .u64 ev.arg, .int .u64 ev.badge, .slice xo ev.ws.length cx]), (4, .int .u8 0), (5, .bool false), (7, .pointer (some ⟨(Z.tp x), 0, none⟩)), (53, .int .u8 10), (66, .bool false), (21, .int .u8 0), (22, .int .i64 s1), (305, .pointer (some ⟨mb, 0, none⟩)), (307, .int .u32 ev.dst)]) (φ := (b2 = b2 ∧ Nat.ble (5 + 1) 11 = true) ∧ True) (rest := [3, 4, 5, 6, 7, 8]) h96 (by kernel_rfl) rfl ⟨⟨rfl, rfl⟩, trivial⟩ fun a98 h99 => ?_
  clear h96
  refine nd_op ?_
  refine op_call h99 rfl rfl rfl (callOk Tryd.func93 (by decide) rfl) (args := [.pointer (some ⟨mb, 0, none⟩), .int .u32 ev.dst]) rfl (cellOf_ok mb Z _ a C x hx hcx hci ev.dst he.dst e2 _ (mh_of h99 hhoh94 (k := 0) rfl)) ?_
  rintro _ w100 ⟨rfl, hg102⟩
  refine ⟨_, rfl, ?_⟩
  have h103a := st_mg h99 hg102 (kcons (fun _ => rfl) (kcons (fun hq => by cases hq) (kcons (fun hq => by cases hq) (kcons (fun hq => by cases hq) knil))))
  have h103 := h103a.put (d := some 308) (v := .tuple #[.int .i64 s2, .int .u8 0]) (T' := [(308, .tuple #[.int .i64 s2, .int .u8 0]), (6, .pointer (some ⟨b14, 0, none⟩)), (3, .pointer (some ⟨b2, 0, none⟩)), (0, .pointer (some ⟨mb, 0, none⟩)), (1, .agg #[.int .u8 10, .int .u32 ev.pick, .int .u64 ev.draw, .int .u32 ev.addr, .int .u32 ev.node, .int .u32 ev.dst, .int .u32 ev.xfer, .int .u8 5, .int .u64 ev.arg, .int .u64 ev.badge, .slice xo ev.ws.length cx]), (4, .int .u8 0), (5, .bool false), (7, .pointer (some ⟨(Z.tp x), 0, none⟩)), (53, .int .u8 10), (66, .bool false), (21, .int .u8 0), (22, .int .i64 s1), (305, .pointer (some ⟨mb, 0, none⟩)), (307, .int .u32 ev.dst)]) rfl
  have hhoh103 := hg102.mh.ho
  clear h99 h103a
  refine nd_batch tabOk2 tabZ_ok2 [(4, {}), (5, {}), (6, {}), (7, {}), (8, {})] [6, 3, 0, 1, 4, 5, 7, 53, 66, 21, 22, 24, 25] (T' := [(6, .pointer (some ⟨b14, 0, none⟩)), (3, .pointer (some ⟨b2, 0, none⟩)), (0, .pointer (some ⟨mb, 0, none⟩)), (1, .agg #[.int .u8 10, .int .u32 ev.pick, .int .u64 ev.draw, .int .u32 ev.addr, .int .u32 ev.node, .int .u32 ev.dst, .int .u32 ev.xfer, .int .u8 5, .int .u64 ev.arg, .int .u64 ev.badge, .slice xo ev.ws.length cx]), (4, .int .u8 0), (5, .bool false), (7, .pointer (some ⟨(Z.tp x), 0, none⟩)), (53, .int .u8 10), (66, .bool false), (21, .int .u8 0), (22, .int .i64 s1), (24, .int .i64 s2), (25, .int .u8 0)]) (φ := True) (rest := []) h103 (by kernel_rfl) rfl trivial fun a104 h105 => ?_
  clear h103
  refine nd_done ?_
  refine hK97 _ _ ?_
  clear hK97
  refine wp_seq_k fun K106 hK106 => ?_
  refine wp_seq_k fun K107 hK107 => ?_
  refine nd_start (l := [0, 1]) rfl ?_
  refine nd_batch tabOk2 tabZ_ok2 [(0, {}), (1, {})] [6, 3, 0, 1, 4, 5, 7, 53, 66, 21, 22, 24, 25, 312] (T' := [(6, .pointer (some ⟨b14, 0, none⟩)), (3, .pointer (some ⟨b2, 0, none⟩)), (0, .pointer (some ⟨mb, 0, none⟩)), (1, .agg #[.int .u8 10, .int .u32 ev.pick, .int .u64 ev.draw, .int .u32 ev.addr, .int .u32 ev.node, .int .u32 ev.dst, .int .u32 ev.xfer, .int .u8 5, .int .u64 ev.arg, .int .u64 ev.badge, .slice xo ev.ws.length cx]), (4, .int .u8 0), (5, .bool false), (7, .pointer (some ⟨(Z.tp x), 0, none⟩)), (53, .int .u8 10), (66, .bool false), (21, .int .u8 0), (22, .int .i64 s1), (24, .int .i64 s2), (25, .int .u8 0), (312, .bool false)]) (φ := True) (rest := []) h105 (by kernel_rfl) rfl trivial fun a108 h109 => ?_
  clear h105
  refine nd_done ?_
  refine hK107 _ _ ?_
  clear hK107
  refine c_false h109 rfl ?_
  refine wp_skip ?_
  refine hK106 _ _ ?_
  clear hK106
  refine wp_seq_k fun K110 hK110 => ?_
  refine wp_seq_k fun K111 hK111 => ?_
  refine nd_start (l := [0, 1, 2, 3, 4, 5, 6, 7]) rfl ?_
  refine nd_batch tabOk2 tabZ_ok2 [(0, {}), (1, {}), (2, {})] [6, 3, 0, 1, 4, 5, 7, 53, 66, 21, 22, 24, 25, 316] (T' := [(6, .pointer (some ⟨b14, 0, none⟩)), (3, .pointer (some ⟨b2, 0, none⟩)), (0, .pointer (some ⟨mb, 0, none⟩)), (1, .agg #[.int .u8 10, .int .u32 ev.pick, .int .u64 ev.draw, .int .u32 ev.addr, .int .u32 ev.node, .int .u32 ev.dst, .int .u32 ev.xfer, .int .u8 5, .int .u64 ev.arg, .int .u64 ev.badge, .slice xo ev.ws.length cx]), (4, .int .u8 0), (5, .bool false), (7, .pointer (some ⟨(Z.tp x), 0, none⟩)), (53, .int .u8 10), (66, .bool false), (21, .int .u8 0), (22, .int .i64 s1), (24, .int .i64 s2), (25, .int .u8 0), (316, .pointer (some ⟨mb, 1, none⟩))]) (φ := True) (rest := [3, 4, 5, 6, 7]) h109 (by kernel_rfl) rfl trivial fun a112 h113 => ?_
  clear h109
  refine nd_op ?_
  refine op_read (b := mb) (v := .pointer (some ⟨Z.mc, 0, none⟩)) h113 rfl rfl (rd_m h113 (k := 1) (v := .pointer (some ⟨Z.mc, 0, none⟩)) rfl rfl rfl rfl (md_p ⟨rfl, trivial⟩)) ?_
  have h114 := h113.put (d := some 317) (v := .pointer (some ⟨Z.mc, 0, none⟩)) (T' := [(317, .pointer (some ⟨Z.mc, 0, none⟩)), (6, .pointer (some ⟨b14, 0, none⟩)), (3, .pointer (some ⟨b2, 0, none⟩)), (0, .pointer (some ⟨mb, 0, none⟩)), (1, .agg #[.int .u8 10, .int .u32 ev.pick, .int .u64 ev.draw, .int .u32 ev.addr, .int .u32 ev.node, .int .u32 ev.dst, .int .u32 ev.xfer, .int .u8 5, .int .u64 ev.arg, .int .u64 ev.badge, .slice xo ev.ws.length cx]), (4, .int .u8 0), (5, .bool false), (7, .pointer (some ⟨(Z.tp x), 0, none⟩)), (53, .int .u8 10), (66, .bool false), (21, .int .u8 0), (22, .int .i64 s1), (24, .int .i64 s2), (25, .int .u8 0), (316, .pointer (some ⟨mb, 1, none⟩))]) rfl
  clear h113
  refine nd_batch tabOk2 tabZ_ok2 [(4, {})] [317, 6, 3, 0, 1, 4, 5, 7, 53, 66, 21, 22, 24, 25, 318] (T' := [(317, .pointer (some ⟨Z.mc, 0, none⟩)), (6, .pointer (some ⟨b14, 0, none⟩)), (3, .pointer (some ⟨b2, 0, none⟩)), (0, .pointer (some ⟨mb, 0, none⟩)), (1, .agg #[.int .u8 10, .int .u32 ev.pick, .int .u64 ev.draw, .int .u32 ev.addr, .int .u32 ev.node, .int .u32 ev.dst, .int .u32 ev.xfer, .int .u8 5, .int .u64 ev.arg, .int .u64 ev.badge, .slice xo ev.ws.length cx]), (4, .int .u8 0), (5, .bool false), (7, .pointer (some ⟨(Z.tp x), 0, none⟩)), (53, .int .u8 10), (66, .bool false), (21, .int .u8 0), (22, .int .i64 s1), (24, .int .i64 s2), (25, .int .u8 0), (318, .int .i64 s2)]) (φ := True) (rest := [5, 6, 7]) h114 (by kernel_rfl) rfl trivial fun a115 h116 => ?_
  clear h114
  refine nd_op ?_
  obtain ⟨i2, j2, hi2, hj2, hp2, hs2⟩ := look_fact hI.ci hci.1 he.dst.1 e2 rfl
  refine op_call h116 rfl rfl rfl (callOk Tryd.func62 (by decide) rfl) (args := [.pointer (some ⟨Z.mc, 0, none⟩), .int .i64 s2]) rfl (atE Z.mo Z.mc Z.nd C hi2 hj2 hp2 hs2 _ h116.inv.1.cp) ?_
  rintro _ w117 ⟨rfl, hf119⟩
  refine ⟨_, rfl, ?_⟩
  have h118 := (h116.grow hf119).put (d := some 319) (v := .agg #[.int .u8 ((C.cel s2.toNat).cap.ty), .int .u16 ((C.cel s2.toNat).cap.obj.idx), .int .u32 ((C.cel s2.toNat).cap.obj.gen), .int .u8 ((C.cel s2.toNat).cap.rights), .int .u64 ((C.cel s2.toNat).cap.badge)]) (T' := [(319, .agg #[.int .u8 ((C.cel s2.toNat).cap.ty), .int .u16 ((C.cel s2.toNat).cap.obj.idx), .int .u32 ((C.cel s2.toNat).cap.obj.gen), .int .u8 ((C.cel s2.toNat).cap.rights), .int .u64 ((C.cel s2.toNat).cap.badge)]), (317, .pointer (some ⟨Z.mc, 0, none⟩)), (6, .pointer (some ⟨b14, 0, none⟩)), (3, .pointer (some ⟨b2, 0, none⟩)), (0, .pointer (some ⟨mb, 0, none⟩)), (1, .agg #[.int .u8 10, .int .u32 ev.pick, .int .u64 ev.draw, .int .u32 ev.addr, .int .u32 ev.node, .int .u32 ev.dst, .int .u32 ev.xfer, .int .u8 5, .int .u64 ev.arg, .int .u64 ev.badge, .slice xo ev.ws.length cx]), (4, .int .u8 0), (5, .bool false), (7, .pointer (some ⟨(Z.tp x), 0, none⟩)), (53, .int .u8 10), (66, .bool false), (21, .int .u8 0), (22, .int .i64 s1), (24, .int .i64 s2), (25, .int .u8 0), (318, .int .i64 s2)]) rfl
  clear h116
  refine nd_batch tabOk2 tabZ_ok2 [(6, {}), (7, {})] [6, 3, 0, 1, 4, 5, 7, 53, 66, 21, 22, 24, 25, 321] (T' := [(6, .pointer (some ⟨b14, 0, none⟩)), (3, .pointer (some ⟨b2, 0, none⟩)), (0, .pointer (some ⟨mb, 0, none⟩)), (1, .agg #[.int .u8 10, .int .u32 ev.pick, .int .u64 ev.draw, .int .u32 ev.addr, .int .u32 ev.node, .int .u32 ev.dst, .int .u32 ev.xfer, .int .u8 5, .int .u64 ev.arg, .int .u64 ev.badge, .slice xo ev.ws.length cx]), (4, .int .u8 0), (5, .bool false), (7, .pointer (some ⟨(Z.tp x), 0, none⟩)), (53, .int .u8 10), (66, .bool false), (21, .int .u8 0), (22, .int .i64 s1), (24, .int .i64 s2), (25, .int .u8 0), (321, .bool ((C.cel s2.toNat).cap.ty != 0))]) (φ := True) (rest := []) h118 (by kernel_rfl) rfl trivial fun a120 h121 => ?_
  clear h118
  refine nd_done ?_
  refine hK111 _ _ ?_
  clear hK111
  refine c_split h121 (b := ((C.cel s2.toNat).cap.ty != 0)) rfl (fun hc122 => ?_) (fun hc122 => ?_)
  ·
    have hc122f : (C.cel s2.toNat).cap.ty ≠ 0 := by simpa using hc122
    exact absurd (hz2) (by first | exact hc122f | (intro hz; exact hc122f hz) | omega | simp_all)
  ·
    have hc122f : (C.cel s2.toNat).cap.ty = 0 := by simpa using hc122
    refine wp_skip ?_
    refine hK110 _ _ ?_
    clear hK110
    refine wp_seq_k fun K123 hK123 => ?_
    refine wp_seq_k fun K124 hK124 => ?_
    refine nd_start (l := [0, 1, 2, 3, 4, 5, 6, 7, 8, 9, 10, 11, 12, 13, 14, 15, 16, 17]) rfl ?_
    refine nd_batch tabOk2 tabZ_ok2 [(0, {}), (1, {k := 1}), (2, {}), (3, {}), (4, {}), (5, {k := 1}), (6, {}), (7, {}), (8, {}), (9, {}), (10, {k := 1}), (11, {}), (12, {}), (13, {}), (14, {}), (15, {k := 1}), (16, {}), (17, {})] [6, 3, 0, 1, 4, 5, 7, 53, 66, 21, 22, 24, 25, 339] (T' := [(6, .pointer (some ⟨b14, 0, none⟩)), (3, .pointer (some ⟨b2, 0, none⟩)), (0, .pointer (some ⟨mb, 0, none⟩)), (1, .agg #[.int .u8 10, .int .u32 ev.pick, .int .u64 ev.draw, .int .u32 ev.addr, .int .u32 ev.node, .int .u32 ev.dst, .int .u32 ev.xfer, .int .u8 5, .int .u64 ev.arg, .int .u64 ev.badge, .slice xo ev.ws.length cx]), (4, .int .u8 0), (5, .bool false), (7, .pointer (some ⟨(Z.tp x), 0, none⟩)), (53, .int .u8 10), (66, .bool false), (21, .int .u8 0), (22, .int .i64 s1), (24, .int .i64 s2), (25, .int .u8 0), (339, .bool false)]) (φ := (b2 = b2 ∧ Nat.ble (7 + 1) 11 = true) ∧ (b2 = b2 ∧ Nat.ble (7 + 1) 11 = true) ∧ (b2 = b2 ∧ Nat.ble (7 + 1) 11 = true) ∧ (b2 = b2 ∧ Nat.ble (7 + 1) 11 = true) ∧ True) (rest := []) h121 (by kernel_rfl) rfl ⟨⟨rfl, rfl⟩, ⟨rfl, rfl⟩, ⟨rfl, rfl⟩, ⟨rfl, rfl⟩, trivial⟩ fun a125 h126 => ?_
    clear h121
    refine nd_done ?_
    refine hK124 _ _ ?_
    clear hK124
    refine c_false h126 rfl ?_
    refine wp_skip ?_
    refine hK123 _ _ ?_
    clear hK123
    refine wp_seq_k fun K127 hK127 => ?_
    refine dr_start (KB := [3, b2, b14, b75, mb]) (Bi := [[0, 1, 2, 3, 4], [0, 1, 2, 3, 4], [0, 1, 2, 3, 4], [0, 1, 2, 3, 4], [0, 1, 2, 3, 4], [0, 1, 2, 3, 4], [], [0, 1, 2, 3, 4], [0, 1, 2, 3, 4], [0, 1, 2, 3, 4], [1, 4], [], [0, 1, 2, 3, 4]]) mixed h126 fun w128 h129 => ?_
    clear h126
    refine dr_batch tabOk2 tabZ_ok2 (by repeat (first | with_reducible exact PF.body | with_reducible apply PF.inB | with_reducible apply PF.next)) [(0, {}), (1, {}), (2, {})] [6, 3, 0, 1, 4, 5, 7, 53, 66, 21, 22, 24, 25, 343] (T' := [(6, .pointer (some ⟨b14, 0, none⟩)), (3, .pointer (some ⟨b2, 0, none⟩)), (0, .pointer (some ⟨mb, 0, none⟩)), (1, .agg #[.int .u8 10, .int .u32 ev.pick, .int .u64 ev.draw, .int .u32 ev.addr, .int .u32 ev.node, .int .u32 ev.dst, .int .u32 ev.xfer, .int .u8 5, .int .u64 ev.arg, .int .u64 ev.badge, .slice xo ev.ws.length cx]), (4, .int .u8 0), (5, .bool false), (7, .pointer (some ⟨(Z.tp x), 0, none⟩)), (53, .int .u8 10), (66, .bool false), (21, .int .u8 0), (22, .int .i64 s1), (24, .int .i64 s2), (25, .int .u8 0), (343, .pointer (some ⟨mb, 0, none⟩))]) (φ := True) (fuel := 10) h129 (by kernel_rfl) rfl (by kernel_rfl) (by kernel_rfl) ⟨trivial, trivial, trivial, trivial⟩ trivial fun a131 h132 => ?_
    clear h129
    refine dr_read (i := 3) (b := mb) (p := 4) (v := .pointer (some ⟨Z.mo, 0, none⟩)) (fuel := 9) (by repeat (first | with_reducible exact PF.body | with_reducible apply PF.inB | with_reducible apply PF.next)) h132 rfl rfl rfl (by kernel_rfl) (by kernel_rfl) (by kernel_rfl) rfl (rd_m h132 (k := 0) (v := .pointer (some ⟨Z.mo, 0, none⟩)) rfl rfl rfl rfl (md_p ⟨rfl, trivial⟩)) ?_
    have h133 := h132.put (d := some 344) (v := .pointer (some ⟨Z.mo, 0, none⟩)) (T' := [(344, .pointer (some ⟨Z.mo, 0, none⟩)), (6, .pointer (some ⟨b14, 0, none⟩)), (3, .pointer (some ⟨b2, 0, none⟩)), (0, .pointer (some ⟨mb, 0, none⟩)), (1, .agg #[.int .u8 10, .int .u32 ev.pick, .int .u64 ev.draw, .int .u32 ev.addr, .int .u32 ev.node, .int .u32 ev.dst, .int .u32 ev.xfer, .int .u8 5, .int .u64 ev.arg, .int .u64 ev.badge, .slice xo ev.ws.length cx]), (4, .int .u8 0), (5, .bool false), (7, .pointer (some ⟨(Z.tp x), 0, none⟩)), (53, .int .u8 10), (66, .bool false), (21, .int .u8 0), (22, .int .i64 s1), (24, .int .i64 s2), (25, .int .u8 0), (343, .pointer (some ⟨mb, 0, none⟩))]) rfl
    clear h132
    refine dr_batch tabOk2 tabZ_ok2 (by repeat (first | with_reducible exact PF.body | with_reducible apply PF.inB | with_reducible apply PF.next)) [(4, {}), (5, {k := 1, p := 1})] [344, 6, 3, 0, 1, 4, 5, 7, 53, 66, 21, 22, 24, 25, 346] (T' := [(344, .pointer (some ⟨Z.mo, 0, none⟩)), (6, .pointer (some ⟨b14, 0, none⟩)), (3, .pointer (some ⟨b2, 0, none⟩)), (0, .pointer (some ⟨mb, 0, none⟩)), (1, .agg #[.int .u8 10, .int .u32 ev.pick, .int .u64 ev.draw, .int .u32 ev.addr, .int .u32 ev.node, .int .u32 ev.dst, .int .u32 ev.xfer, .int .u8 5, .int .u64 ev.arg, .int .u64 ev.badge, .slice xo ev.ws.length cx]), (4, .int .u8 0), (5, .bool false), (7, .pointer (some ⟨(Z.tp x), 0, none⟩)), (53, .int .u8 10), (66, .bool false), (21, .int .u8 0), (22, .int .i64 s1), (24, .int .i64 s2), (25, .int .u8 0), (346, .int .u8 5)]) (φ := (b2 = b2 ∧ Nat.ble (7 + 1) 11 = true) ∧ True) (fuel := 7) h133 (by kernel_rfl) rfl (by kernel_rfl) (by kernel_rfl) ⟨trivial, rfl, trivial⟩ ⟨⟨rfl, rfl⟩, trivial⟩ fun a134 h135 => ?_
    clear h133
    refine wpAnyK_two (i := 6) (j := 10) (fuel := 6) (by kernel_rfl) ?_ ?_
    ·
      refine op_call h135 rfl rfl rfl (callOk Tryd.func37 (by decide) rfl) (args := [.pointer (some ⟨Z.mo, 0, none⟩), .int .u8 5]) rfl (retypeC_ok Z.mo Z.mc Z.nd C 5 (by decide) _ h135.inv.1.cp er) ?_
      rintro _ w136 ⟨rfl, hc137, hf138⟩
      refine ⟨_, rfl, ?_⟩
      have h139a := st_cap h135 hc137 hf138 (fun b hb => .inl hb) (kcons (fun _ => rfl) (kcons (fun hq => by cases hq) (kcons (fun hq => by cases hq) (kcons (fun hq => by cases hq) knil))))
      have h139 := h139a.put (d := some 347) (v := .tuple #[.agg #[.int .u16 ((Z.ky o).idx), .int .u32 ((Z.ky o).gen)], .int .u8 0]) (T' := [(347, .tuple #[.agg #[.int .u16 ((Z.ky o).idx), .int .u32 ((Z.ky o).gen)], .int .u8 0]), (344, .pointer (some ⟨Z.mo, 0, none⟩)), (6, .pointer (some ⟨b14, 0, none⟩)), (3, .pointer (some ⟨b2, 0, none⟩)), (0, .pointer (some ⟨mb, 0, none⟩)), (1, .agg #[.int .u8 10, .int .u32 ev.pick, .int .u64 ev.draw, .int .u32 ev.addr, .int .u32 ev.node, .int .u32 ev.dst, .int .u32 ev.xfer, .int .u8 5, .int .u64 ev.arg, .int .u64 ev.badge, .slice xo ev.ws.length cx]), (4, .int .u8 0), (5, .bool false), (7, .pointer (some ⟨(Z.tp x), 0, none⟩)), (53, .int .u8 10), (66, .bool false), (21, .int .u8 0), (22, .int .i64 s1), (24, .int .i64 s2), (25, .int .u8 0), (346, .int .u8 5)]) rfl
      refine ⟨keepNil, ?_⟩
      clear h135 h139a
      refine dr_batch tabOk2 tabZ_ok2 (by repeat (first | with_reducible exact PF.body | with_reducible apply PF.inB | with_reducible apply PF.next)) [(7, {}), (8, {}), (9, {})] [6, 3, 0, 1, 4, 5, 7, 53, 66, 21, 22, 24, 25, 348, 349] (T' := [(6, .pointer (some ⟨b14, 0, none⟩)), (3, .pointer (some ⟨b2, 0, none⟩)), (0, .pointer (some ⟨mb, 0, none⟩)), (1, .agg #[.int .u8 10, .int .u32 ev.pick, .int .u64 ev.draw, .int .u32 ev.addr, .int .u32 ev.node, .int .u32 ev.dst, .int .u32 ev.xfer, .int .u8 5, .int .u64 ev.arg, .int .u64 ev.badge, .slice xo ev.ws.length cx]), (4, .int .u8 0), (5, .bool false), (7, .pointer (some ⟨(Z.tp x), 0, none⟩)), (53, .int .u8 10), (66, .bool false), (21, .int .u8 0), (22, .int .i64 s1), (24, .int .i64 s2), (25, .int .u8 0), (348, .agg #[.int .u16 ((Z.ky o).idx), .int .u32 ((Z.ky o).gen)]), (349, .int .u8 0)]) (φ := True) (fuel := 3) h139 (by kernel_rfl) rfl (by kernel_rfl) (by kernel_rfl) ⟨trivial, trivial, trivial, trivial⟩ trivial fun a140 h141 => ?_
      clear h139
      refine wpAnyK_one (i := 10) (fuel := 2) (by kernel_rfl) ?_
      refine op_new tabOk2 (cells := [.int .u16 0, .int .u32 0]) (ty := 39) (ln := none) (L1 := fun b142 => [(3, ⟨[.int .u16 0, .int .u32 0], ty3, true⟩), (b2, ⟨[.int .u8 10, .int .u32 ev.pick, .int .u64 ev.draw, .int .u32 ev.addr, .int .u32 ev.node, .int .u32 ev.dst, .int .u32 ev.xfer, .int .u8 5, .int .u64 ev.arg, .int .u64 ev.badge, .slice xo ev.ws.length cx], 35, false⟩), (b14, ⟨[.int .u16 ((Z.ky x).idx), .int .u32 ((Z.ky x).gen)], 39, false⟩), (b75, ⟨[.int .u8 c.ty, .int .u16 c.obj.idx, .int .u32 c.obj.gen, .int .u8 c.rights, .int .u64 c.badge], 49, false⟩), (b142, ⟨[.int .u16 0, .int .u32 0], 39, false⟩)]) h141 rfl rfl rfl rfl (by kernel_rfl) (fun _ => rfl) fun b142 w143 a144 h145 hf146 hn147 => ?_
      refine ⟨(keepCons (kpLf h141.known hf146 (q := 1) rfl) (keepCons (kpM h141.inv.1 (l := .m) trivial (List.mem_cons_self ..) hf146) keepNil)), ?_⟩
      clear h141
      refine wpAnyK_one (i := 11) (fuel := 1) (by kernel_rfl) ?_
      refine op_store tabOk2 {k := 4} (L' := [(3, ⟨[.int .u16 0, .int .u32 0], ty3, true⟩), (b2, ⟨[.int .u8 10, .int .u32 ev.pick, .int .u64 ev.draw, .int .u32 ev.addr, .int .u32 ev.node, .int .u32 ev.dst, .int .u32 ev.xfer, .int .u8 5, .int .u64 ev.arg, .int .u64 ev.badge, .slice xo ev.ws.length cx], 35, false⟩), (b14, ⟨[.int .u16 ((Z.ky x).idx), .int .u32 ((Z.ky x).gen)], 39, false⟩), (b75, ⟨[.int .u8 c.ty, .int .u16 c.obj.idx, .int .u32 c.obj.gen, .int .u8 c.rights, .int .u64 c.badge], 49, false⟩), (b142, ⟨[.int .u16 ((Z.ky o).idx), .int .u32 ((Z.ky o).gen)], 39, false⟩)]) (φ := b142 = b142 ∧ Nat.ble (0 + 2) 2 = true) h145 rfl rfl rfl (by kernel_rfl) ⟨rfl, rfl⟩ fun w148 h149 => ?_
      refine ⟨keepNil, ?_⟩
      clear h145
      refine dr_batch tabOk2 tabZ_ok2 (by repeat (first | with_reducible exact PF.body | with_reducible apply PF.inB | with_reducible apply PF.next)) [(12, {})] [26, 6, 3, 0, 1, 4, 5, 7, 53, 66, 21, 22, 24, 25] (T' := [(26, .pointer (some ⟨b142, 0, none⟩)), (6, .pointer (some ⟨b14, 0, none⟩)), (3, .pointer (some ⟨b2, 0, none⟩)), (0, .pointer (some ⟨mb, 0, none⟩)), (1, .agg #[.int .u8 10, .int .u32 ev.pick, .int .u64 ev.draw, .int .u32 ev.addr, .int .u32 ev.node, .int .u32 ev.dst, .int .u32 ev.xfer, .int .u8 5, .int .u64 ev.arg, .int .u64 ev.badge, .slice xo ev.ws.length cx]), (4, .int .u8 0), (5, .bool false), (7, .pointer (some ⟨(Z.tp x), 0, none⟩)), (53, .int .u8 10), (66, .bool false), (21, .int .u8 0), (22, .int .i64 s1), (24, .int .i64 s2), (25, .int .u8 0)]) (φ := True) (fuel := 0) h149 (by kernel_rfl) rfl (by kernel_rfl) (by kernel_rfl) ⟨trivial, trivial⟩ trivial fun a150 h151 => ?_
      clear h149
      refine wpAnyK_done (by kernel_rfl) ?_ _
      refine hK127 _ _ ?_
      clear hK127
      refine wp_seq_k fun K152 hK152 => ?_
      refine wp_seq_k fun K153 hK153 => ?_
      refine nd_start (l := [0, 1]) rfl ?_
      refine nd_batch tabOk2 tabZ_ok2 [(0, {}), (1, {})] [26, 6, 3, 0, 1, 4, 5, 7, 53, 66, 21, 22, 24, 25, 351] (T' := [(26, .pointer (some ⟨b142, 0, none⟩)), (6, .pointer (some ⟨b14, 0, none⟩)), (3, .pointer (some ⟨b2, 0, none⟩)), (0, .pointer (some ⟨mb, 0, none⟩)), (1, .agg #[.int .u8 10, .int .u32 ev.pick, .int .u64 ev.draw, .int .u32 ev.addr, .int .u32 ev.node, .int .u32 ev.dst, .int .u32 ev.xfer, .int .u8 5, .int .u64 ev.arg, .int .u64 ev.badge, .slice xo ev.ws.length cx]), (4, .int .u8 0), (5, .bool false), (7, .pointer (some ⟨(Z.tp x), 0, none⟩)), (53, .int .u8 10), (66, .bool false), (21, .int .u8 0), (22, .int .i64 s1), (24, .int .i64 s2), (25, .int .u8 0), (351, .bool false)]) (φ := True) (rest := []) h151 (by kernel_rfl) rfl trivial fun a154 h155 => ?_
      clear h151
      refine nd_done ?_
      refine hK153 _ _ ?_
      clear hK153
      refine c_false h155 rfl ?_
      refine wp_skip ?_
      refine hK152 _ _ ?_
      clear hK152
      refine wp_seq_k fun K156 hK156 => ?_
      refine wp_seq_k fun K157 hK157 => ?_
      refine nd_start (l := [0, 1]) rfl ?_
      refine nd_batch tabOk2 tabZ_ok2 [(0, {}), (1, {k := 1})] [26, 6, 3, 0, 1, 4, 5, 7, 53, 66, 21, 22, 24, 25, 354] (T' := [(26, .pointer (some ⟨b142, 0, none⟩)), (6, .pointer (some ⟨b14, 0, none⟩)), (3, .pointer (some ⟨b2, 0, none⟩)), (0, .pointer (some ⟨mb, 0, none⟩)), (1, .agg #[.int .u8 10, .int .u32 ev.pick, .int .u64 ev.draw, .int .u32 ev.addr, .int .u32 ev.node, .int .u32 ev.dst, .int .u32 ev.xfer, .int .u8 5, .int .u64 ev.arg, .int .u64 ev.badge, .slice xo ev.ws.length cx]), (4, .int .u8 0), (5, .bool false), (7, .pointer (some ⟨(Z.tp x), 0, none⟩)), (53, .int .u8 10), (66, .bool false), (21, .int .u8 0), (22, .int .i64 s1), (24, .int .i64 s2), (25, .int .u8 0), (354, .int .u8 5)]) (φ := (b2 = b2 ∧ Nat.ble (7 + 1) 11 = true) ∧ True) (rest := []) h155 (by kernel_rfl) rfl ⟨⟨rfl, rfl⟩, trivial⟩ fun a158 h159 => ?_
      clear h155
      refine nd_done ?_
      refine hK157 _ _ ?_
      clear hK157
      refine wp_block ?_
      refine wp_seq_k fun K160 hK160 => ?_
      refine nd_start (l := [0, 1]) rfl ?_
      refine nd_batch tabOk2 tabZ_ok2 [(0, {}), (1, {})] [26, 6, 3, 0, 1, 4, 5, 7, 53, 66, 21, 22, 24, 25, 354, 360] (T' := [(26, .pointer (some ⟨b142, 0, none⟩)), (6, .pointer (some ⟨b14, 0, none⟩)), (3, .pointer (some ⟨b2, 0, none⟩)), (0, .pointer (some ⟨mb, 0, none⟩)), (1, .agg #[.int .u8 10, .int .u32 ev.pick, .int .u64 ev.draw, .int .u32 ev.addr, .int .u32 ev.node, .int .u32 ev.dst, .int .u32 ev.xfer, .int .u8 5, .int .u64 ev.arg, .int .u64 ev.badge, .slice xo ev.ws.length cx]), (4, .int .u8 0), (5, .bool false), (7, .pointer (some ⟨(Z.tp x), 0, none⟩)), (53, .int .u8 10), (66, .bool false), (21, .int .u8 0), (22, .int .i64 s1), (24, .int .i64 s2), (25, .int .u8 0), (354, .int .u8 5), (360, .bool false)]) (φ := True) (rest := []) h159 (by kernel_rfl) rfl trivial fun a161 h162 => ?_
      clear h159
      refine nd_done ?_
      refine hK160 _ _ ?_
      clear hK160
      refine c_false h162 rfl ?_
      refine wp_seq_k fun K163 hK163 => ?_
      refine nd_start (l := [0, 1]) rfl ?_
      refine nd_batch tabOk2 tabZ_ok2 [(0, {}), (1, {})] [26, 6, 3, 0, 1, 4, 5, 7, 53, 66, 21, 22, 24, 25, 354, 368] (T' := [(26, .pointer (some ⟨b142, 0, none⟩)), (6, .pointer (some ⟨b14, 0, none⟩)), (3, .pointer (some ⟨b2, 0, none⟩)), (0, .pointer (some ⟨mb, 0, none⟩)), (1, .agg #[.int .u8 10, .int .u32 ev.pick, .int .u64 ev.draw, .int .u32 ev.addr, .int .u32 ev.node, .int .u32 ev.dst, .int .u32 ev.xfer, .int .u8 5, .int .u64 ev.arg, .int .u64 ev.badge, .slice xo ev.ws.length cx]), (4, .int .u8 0), (5, .bool false), (7, .pointer (some ⟨(Z.tp x), 0, none⟩)), (53, .int .u8 10), (66, .bool false), (21, .int .u8 0), (22, .int .i64 s1), (24, .int .i64 s2), (25, .int .u8 0), (354, .int .u8 5), (368, .bool false)]) (φ := True) (rest := []) h162 (by kernel_rfl) rfl trivial fun a164 h165 => ?_
      clear h162
      refine nd_done ?_
      refine hK163 _ _ ?_
      clear hK163
      refine c_false h165 rfl ?_
      refine dr_start (KB := [3, b2, b14, b75, b142, mb]) (Bi := [[0, 1, 2, 3, 4, 5], [0, 1, 2, 3, 4, 5], [0, 1, 2, 3, 4, 5], [0, 1, 2, 3, 4, 5], [0, 1, 2, 3, 4, 5], []]) mixed h165 fun w166 h167 => ?_
      clear h165
      refine dr_batch tabOk2 tabZ_ok2 (by repeat (first | with_reducible exact PF.body | with_reducible apply PF.inB | with_reducible apply PF.next)) [(0, {}), (1, {}), (2, {})] [26, 6, 3, 0, 1, 4, 5, 7, 53, 66, 21, 22, 24, 25, 354, 357] (T' := [(26, .pointer (some ⟨b142, 0, none⟩)), (6, .pointer (some ⟨b14, 0, none⟩)), (3, .pointer (some ⟨b2, 0, none⟩)), (0, .pointer (some ⟨mb, 0, none⟩)), (1, .agg #[.int .u8 10, .int .u32 ev.pick, .int .u64 ev.draw, .int .u32 ev.addr, .int .u32 ev.node, .int .u32 ev.dst, .int .u32 ev.xfer, .int .u8 5, .int .u64 ev.arg, .int .u64 ev.badge, .slice xo ev.ws.length cx]), (4, .int .u8 0), (5, .bool false), (7, .pointer (some ⟨(Z.tp x), 0, none⟩)), (53, .int .u8 10), (66, .bool false), (21, .int .u8 0), (22, .int .i64 s1), (24, .int .i64 s2), (25, .int .u8 0), (354, .int .u8 5), (357, .pointer (some ⟨mb, 3, none⟩))]) (φ := True) (fuel := 3) h167 (by kernel_rfl) rfl (by kernel_rfl) (by kernel_rfl) ⟨trivial, trivial, trivial, trivial⟩ trivial fun a169 h170 => ?_
      clear h167
      refine dr_read (i := 3) (b := mb) (p := 5) (v := .map (some Z.qb)) (fuel := 2) (by repeat (first | with_reducible exact PF.body | with_reducible apply PF.inB | with_reducible apply PF.next)) h170 rfl rfl rfl (by kernel_rfl) (by kernel_rfl) (by kernel_rfl) rfl (rd_m h170 (k := 3) (v := .map (some Z.qb)) rfl rfl rfl rfl (md_p ⟨rfl, trivial⟩)) ?_
      have h171 := h170.put (d := some 358) (v := .map (some Z.qb)) (T' := [(358, .map (some Z.qb)), (26, .pointer (some ⟨b142, 0, none⟩)), (6, .pointer (some ⟨b14, 0, none⟩)), (3, .pointer (some ⟨b2, 0, none⟩)), (0, .pointer (some ⟨mb, 0, none⟩)), (1, .agg #[.int .u8 10, .int .u32 ev.pick, .int .u64 ev.draw, .int .u32 ev.addr, .int .u32 ev.node, .int .u32 ev.dst, .int .u32 ev.xfer, .int .u8 5, .int .u64 ev.arg, .int .u64 ev.badge, .slice xo ev.ws.length cx]), (4, .int .u8 0), (5, .bool false), (7, .pointer (some ⟨(Z.tp x), 0, none⟩)), (53, .int .u8 10), (66, .bool false), (21, .int .u8 0), (22, .int .i64 s1), (24, .int .i64 s2), (25, .int .u8 0), (354, .int .u8 5), (357, .pointer (some ⟨mb, 3, none⟩))]) rfl
      clear h170
      refine dr_batch tabOk2 tabZ_ok2 (by repeat (first | with_reducible exact PF.body | with_reducible apply PF.inB | with_reducible apply PF.next)) [(4, {k := 4, p := 4})] [358, 26, 6, 3, 0, 1, 4, 5, 7, 53, 66, 21, 22, 24, 25, 354, 359] (T' := [(358, .map (some Z.qb)), (26, .pointer (some ⟨b142, 0, none⟩)), (6, .pointer (some ⟨b14, 0, none⟩)), (3, .pointer (some ⟨b2, 0, none⟩)), (0, .pointer (some ⟨mb, 0, none⟩)), (1, .agg #[.int .u8 10, .int .u32 ev.pick, .int .u64 ev.draw, .int .u32 ev.addr, .int .u32 ev.node, .int .u32 ev.dst, .int .u32 ev.xfer, .int .u8 5, .int .u64 ev.arg, .int .u64 ev.badge, .slice xo ev.ws.length cx]), (4, .int .u8 0), (5, .bool false), (7, .pointer (some ⟨(Z.tp x), 0, none⟩)), (53, .int .u8 10), (66, .bool false), (21, .int .u8 0), (22, .int .i64 s1), (24, .int .i64 s2), (25, .int .u8 0), (354, .int .u8 5), (359, .agg #[.int .u16 ((Z.ky o).idx), .int .u32 ((Z.ky o).gen)])]) (φ := (b142 = b142 ∧ Nat.ble (0 + 2) 2 = true) ∧ True) (fuel := 1) h171 (by kernel_rfl) rfl (by kernel_rfl) (by kernel_rfl) ⟨rfl, trivial⟩ ⟨⟨rfl, rfl⟩, trivial⟩ fun a172 h173 => ?_
      clear h171
      refine wpAnyK_one (i := 5) (fuel := 0) (by kernel_rfl) ?_
      refine op_mAddQ (x := o) h173 rfl rfl rfl rfl rfl rfl hon ho2 hhoh103 hq0 hw0 (kcons (fun _ => rfl) (kcons (fun hq => by cases hq) (kcons (fun hq => by cases hq) (kcons (fun hq => by cases hq) (kcons (fun hq => by cases hq) knil))))) fun w174 hf175 h176a => ?_
      have h176 := h176a.put (d := none) (v := undef) (T' := [(358, .map (some Z.qb)), (26, .pointer (some ⟨b142, 0, none⟩)), (6, .pointer (some ⟨b14, 0, none⟩)), (3, .pointer (some ⟨b2, 0, none⟩)), (0, .pointer (some ⟨mb, 0, none⟩)), (1, .agg #[.int .u8 10, .int .u32 ev.pick, .int .u64 ev.draw, .int .u32 ev.addr, .int .u32 ev.node, .int .u32 ev.dst, .int .u32 ev.xfer, .int .u8 5, .int .u64 ev.arg, .int .u64 ev.badge, .slice xo ev.ws.length cx]), (4, .int .u8 0), (5, .bool false), (7, .pointer (some ⟨(Z.tp x), 0, none⟩)), (53, .int .u8 10), (66, .bool false), (21, .int .u8 0), (22, .int .i64 s1), (24, .int .i64 s2), (25, .int .u8 0), (354, .int .u8 5), (359, .agg #[.int .u16 ((Z.ky o).idx), .int .u32 ((Z.ky o).gen)])]) rfl
      refine ⟨keepNil, ?_⟩
      clear h173 h176a
      refine wpAnyK_done (by kernel_rfl) ?_ _
      refine hK156 _ _ ?_
      clear hK156
      refine wp_seq_k fun K177 hK177 => ?_
      refine dr_start (KB := [3, b2, b14, b75, b142, mb]) (Bi := [[0, 1, 2, 3, 4, 5], [0, 1, 2, 3, 4, 5], [0, 1, 2, 3, 4, 5], [0, 1, 2, 3, 4, 5], [0, 1, 2, 3, 4, 5], [0, 1, 2, 3, 4, 5], [0, 1, 2, 3, 4, 5], [0, 1, 2, 3, 4, 5], [0, 1, 2, 3, 4, 5], [0, 1, 2, 3, 4, 5], []]) mixed h176 fun w178 h179 => ?_
      clear h176
      refine dr_batch tabOk2 tabZ_ok2 (by repeat (first | with_reducible exact PF.body | with_reducible apply PF.inB | with_reducible apply PF.next)) [(0, {}), (1, {}), (2, {})] [26, 6, 3, 0, 1, 4, 5, 7, 53, 66, 21, 22, 24, 25, 354, 379] (T' := [(26, .pointer (some ⟨b142, 0, none⟩)), (6, .pointer (some ⟨b14, 0, none⟩)), (3, .pointer (some ⟨b2, 0, none⟩)), (0, .pointer (some ⟨mb, 0, none⟩)), (1, .agg #[.int .u8 10, .int .u32 ev.pick, .int .u64 ev.draw, .int .u32 ev.addr, .int .u32 ev.node, .int .u32 ev.dst, .int .u32 ev.xfer, .int .u8 5, .int .u64 ev.arg, .int .u64 ev.badge, .slice xo ev.ws.length cx]), (4, .int .u8 0), (5, .bool false), (7, .pointer (some ⟨(Z.tp x), 0, none⟩)), (53, .int .u8 10), (66, .bool false), (21, .int .u8 0), (22, .int .i64 s1), (24, .int .i64 s2), (25, .int .u8 0), (354, .int .u8 5), (379, .pointer (some ⟨mb, 1, none⟩))]) (φ := True) (fuel := 8) h179 (by kernel_rfl) rfl (by kernel_rfl) (by kernel_rfl) ⟨trivial, trivial, trivial, trivial⟩ trivial fun a181 h182 => ?_
      clear h179
      refine dr_read (i := 3) (b := mb) (p := 5) (v := .pointer (some ⟨Z.mc, 0, none⟩)) (fuel := 7) (by repeat (first | with_reducible exact PF.body | with_reducible apply PF.inB | with_reducible apply PF.next)) h182 rfl rfl rfl (by kernel_rfl) (by kernel_rfl) (by kernel_rfl) rfl (rd_m h182 (k := 1) (v := .pointer (some ⟨Z.mc, 0, none⟩)) rfl rfl rfl rfl (md_p ⟨rfl, trivial⟩)) ?_
      have h183 := h182.put (d := some 380) (v := .pointer (some ⟨Z.mc, 0, none⟩)) (T' := [(380, .pointer (some ⟨Z.mc, 0, none⟩)), (26, .pointer (some ⟨b142, 0, none⟩)), (6, .pointer (some ⟨b14, 0, none⟩)), (3, .pointer (some ⟨b2, 0, none⟩)), (0, .pointer (some ⟨mb, 0, none⟩)), (1, .agg #[.int .u8 10, .int .u32 ev.pick, .int .u64 ev.draw, .int .u32 ev.addr, .int .u32 ev.node, .int .u32 ev.dst, .int .u32 ev.xfer, .int .u8 5, .int .u64 ev.arg, .int .u64 ev.badge, .slice xo ev.ws.length cx]), (4, .int .u8 0), (5, .bool false), (7, .pointer (some ⟨(Z.tp x), 0, none⟩)), (53, .int .u8 10), (66, .bool false), (21, .int .u8 0), (22, .int .i64 s1), (24, .int .i64 s2), (25, .int .u8 0), (354, .int .u8 5), (379, .pointer (some ⟨mb, 1, none⟩))]) rfl
      clear h182
      refine dr_batch tabOk2 tabZ_ok2 (by repeat (first | with_reducible exact PF.body | with_reducible apply PF.inB | with_reducible apply PF.next)) [(4, {}), (5, {}), (6, {k := 1, p := 1}), (7, {k := 4, p := 4}), (8, {}), (9, {})] [380, 26, 6, 3, 0, 1, 4, 5, 7, 53, 66, 21, 22, 24, 25, 354, 381, 385, 386] (T' := [(380, .pointer (some ⟨Z.mc, 0, none⟩)), (26, .pointer (some ⟨b142, 0, none⟩)), (6, .pointer (some ⟨b14, 0, none⟩)), (3, .pointer (some ⟨b2, 0, none⟩)), (0, .pointer (some ⟨mb, 0, none⟩)), (1, .agg #[.int .u8 10, .int .u32 ev.pick, .int .u64 ev.draw, .int .u32 ev.addr, .int .u32 ev.node, .int .u32 ev.dst, .int .u32 ev.xfer, .int .u8 5, .int .u64 ev.arg, .int .u64 ev.badge, .slice xo ev.ws.length cx]), (4, .int .u8 0), (5, .bool false), (7, .pointer (some ⟨(Z.tp x), 0, none⟩)), (53, .int .u8 10), (66, .bool false), (21, .int .u8 0), (22, .int .i64 s1), (24, .int .i64 s2), (25, .int .u8 0), (354, .int .u8 5), (381, .int .i64 s2), (385, .agg #[.int .u8 5, .int .u16 ((Z.ky o).idx), .int .u32 ((Z.ky o).gen), .int .u8 7, .int .u64 0]), (386, .int .i64 s1)]) (φ := (b2 = b2 ∧ Nat.ble (7 + 1) 11 = true) ∧ (b142 = b142 ∧ Nat.ble (0 + 2) 2 = true) ∧ True) (fuel := 1) h183 (by kernel_rfl) rfl (by kernel_rfl) (by kernel_rfl) ⟨trivial, trivial, rfl, rfl, trivial, trivial, trivial⟩ ⟨⟨rfl, rfl⟩, ⟨rfl, rfl⟩, trivial⟩ fun a184 h185 => ?_
      clear h183
      refine wpAnyK_one (i := 10) (fuel := 0) (by kernel_rfl) ?_
      refine op_call h185 rfl rfl rfl (callOk Tryd.func40 (by decide) rfl) (args := [.pointer (some ⟨Z.mc, 0, none⟩), .int .i64 s2, .agg #[.int .u8 5, .int .u16 ((Z.ky o).idx), .int .u32 ((Z.ky o).gen), .int .u8 7, .int .u64 0], .int .i64 s1]) rfl (insertE Z.mo Z.mc _ ({ C with ent := E1 } : CP) hi2 hj2 hp2 hs2 ⟨5, Z.ky o, 7, 0⟩ s1 _ h185.inv.1.cp) ?_
      rintro _ w186 ⟨rfl, hc187, hf188⟩
      refine ⟨_, rfl, ?_⟩
      have h189a := st_cap h185 hc187 hf188 (fun b hb => .inl hb) (kcons (fun _ => rfl) (kcons (fun hq => by cases hq) (kcons (fun hq => by cases hq) (kcons (fun hq => by cases hq) (kcons (fun hq => by cases hq) knil)))))
      have h189 := h189a.put (d := some 387) (v := .tuple #[]) (T' := [(387, .tuple #[]), (380, .pointer (some ⟨Z.mc, 0, none⟩)), (26, .pointer (some ⟨b142, 0, none⟩)), (6, .pointer (some ⟨b14, 0, none⟩)), (3, .pointer (some ⟨b2, 0, none⟩)), (0, .pointer (some ⟨mb, 0, none⟩)), (1, .agg #[.int .u8 10, .int .u32 ev.pick, .int .u64 ev.draw, .int .u32 ev.addr, .int .u32 ev.node, .int .u32 ev.dst, .int .u32 ev.xfer, .int .u8 5, .int .u64 ev.arg, .int .u64 ev.badge, .slice xo ev.ws.length cx]), (4, .int .u8 0), (5, .bool false), (7, .pointer (some ⟨(Z.tp x), 0, none⟩)), (53, .int .u8 10), (66, .bool false), (21, .int .u8 0), (22, .int .i64 s1), (24, .int .i64 s2), (25, .int .u8 0), (354, .int .u8 5), (381, .int .i64 s2), (385, .agg #[.int .u8 5, .int .u16 ((Z.ky o).idx), .int .u32 ((Z.ky o).gen), .int .u8 7, .int .u64 0]), (386, .int .i64 s1)]) rfl
      refine ⟨keepNil, ?_⟩
      clear h185 h189a
      refine wpAnyK_done (by kernel_rfl) ?_ _
      refine hK177 _ _ ?_
      clear hK177
      refine wp_seq_k fun K190 hK190 => ?_
      refine nd_start (l := [0, 1]) rfl ?_
      refine nd_batch tabOk2 tabZ_ok2 [(0, {}), (1, {})] [26, 6, 3, 0, 1, 7, 53, 66, 21, 22, 24, 25, 354, 4, 5] (T' := [(26, .pointer (some ⟨b142, 0, none⟩)), (6, .pointer (some ⟨b14, 0, none⟩)), (3, .pointer (some ⟨b2, 0, none⟩)), (0, .pointer (some ⟨mb, 0, none⟩)), (1, .agg #[.int .u8 10, .int .u32 ev.pick, .int .u64 ev.draw, .int .u32 ev.addr, .int .u32 ev.node, .int .u32 ev.dst, .int .u32 ev.xfer, .int .u8 5, .int .u64 ev.arg, .int .u64 ev.badge, .slice xo ev.ws.length cx]), (7, .pointer (some ⟨(Z.tp x), 0, none⟩)), (53, .int .u8 10), (66, .bool false), (21, .int .u8 0), (22, .int .i64 s1), (24, .int .i64 s2), (25, .int .u8 0), (354, .int .u8 5), (4, .int .u8 0), (5, .bool false)]) (φ := True) (rest := []) h189 (by kernel_rfl) rfl trivial fun a191 h192 => ?_
      clear h189
      refine nd_done ?_
      refine hK190 _ _ ?_
      clear hK190
      refine wp_ret ?_
      try simp only [Exit.then, Exit.inBlock]
      try rw [if_pos trivial]
      exact s_ret tabOk2 tabZ_ok2 h192 [(.tmp 4, {}), (.tmp 5, {})] (vs := [.int .u8 0, .bool false]) (φ := True) rfl (by kernel_rfl) trivial ⟨rfl, _, mg_end hH h192 hhoh103 rfl⟩
    ·
      refine op_new tabOk2 (cells := [.int .u16 0, .int .u32 0]) (ty := 39) (ln := none) (L1 := fun b193 => [(3, ⟨[.int .u16 0, .int .u32 0], ty3, true⟩), (b2, ⟨[.int .u8 10, .int .u32 ev.pick, .int .u64 ev.draw, .int .u32 ev.addr, .int .u32 ev.node, .int .u32 ev.dst, .int .u32 ev.xfer, .int .u8 5, .int .u64 ev.arg, .int .u64 ev.badge, .slice xo ev.ws.length cx], 35, false⟩), (b14, ⟨[.int .u16 ((Z.ky x).idx), .int .u32 ((Z.ky x).gen)], 39, false⟩), (b75, ⟨[.int .u8 c.ty, .int .u16 c.obj.idx, .int .u32 c.obj.gen, .int .u8 c.rights, .int .u64 c.badge], 49, false⟩), (b193, ⟨[.int .u16 0, .int .u32 0], 39, false⟩)]) h135 rfl rfl rfl rfl (by kernel_rfl) (fun _ => rfl) fun b193 w194 a195 h196 hf197 hn198 => ?_
      refine ⟨(keepCons (kpLf h135.known hf197 (q := 1) rfl) (keepCons (kpM h135.inv.1 (l := .m) trivial (List.mem_cons_self ..) hf197) keepNil)), ?_⟩
      clear h135
      refine wpAnyK_one (i := 6) (fuel := 5) (by kernel_rfl) ?_
      refine op_call h196 rfl rfl rfl (callOk Tryd.func37 (by decide) rfl) (args := [.pointer (some ⟨Z.mo, 0, none⟩), .int .u8 5]) rfl (retypeC_ok Z.mo Z.mc Z.nd C 5 (by decide) _ h196.inv.1.cp er) ?_
      rintro _ w199 ⟨rfl, hc200, hf201⟩
      refine ⟨_, rfl, ?_⟩
      have h202a := st_cap h196 hc200 hf201 (fun b hb => .inl hb) (kcons (fun _ => rfl) (kcons (fun hq => by cases hq) (kcons (fun hq => by cases hq) (kcons (fun hq => by cases hq) (kcons (fun hq => by cases hq) knil)))))
      have h202 := h202a.put (d := some 347) (v := .tuple #[.agg #[.int .u16 ((Z.ky o).idx), .int .u32 ((Z.ky o).gen)], .int .u8 0]) (T' := [(347, .tuple #[.agg #[.int .u16 ((Z.ky o).idx), .int .u32 ((Z.ky o).gen)], .int .u8 0]), (26, .pointer (some ⟨b193, 0, none⟩)), (344, .pointer (some ⟨Z.mo, 0, none⟩)), (6, .pointer (some ⟨b14, 0, none⟩)), (3, .pointer (some ⟨b2, 0, none⟩)), (0, .pointer (some ⟨mb, 0, none⟩)), (1, .agg #[.int .u8 10, .int .u32 ev.pick, .int .u64 ev.draw, .int .u32 ev.addr, .int .u32 ev.node, .int .u32 ev.dst, .int .u32 ev.xfer, .int .u8 5, .int .u64 ev.arg, .int .u64 ev.badge, .slice xo ev.ws.length cx]), (4, .int .u8 0), (5, .bool false), (7, .pointer (some ⟨(Z.tp x), 0, none⟩)), (53, .int .u8 10), (66, .bool false), (21, .int .u8 0), (22, .int .i64 s1), (24, .int .i64 s2), (25, .int .u8 0), (346, .int .u8 5)]) rfl
      refine ⟨keepNil, ?_⟩
      clear h196 h202a
      refine dr_batch tabOk2 tabZ_ok2 (by repeat (first | with_reducible exact PF.body | with_reducible apply PF.inB | with_reducible apply PF.next)) [(7, {}), (8, {}), (9, {})] [26, 6, 3, 0, 1, 4, 5, 7, 53, 66, 21, 22, 24, 25, 348, 349] (T' := [(26, .pointer (some ⟨b193, 0, none⟩)), (6, .pointer (some ⟨b14, 0, none⟩)), (3, .pointer (some ⟨b2, 0, none⟩)), (0, .pointer (some ⟨mb, 0, none⟩)), (1, .agg #[.int .u8 10, .int .u32 ev.pick, .int .u64 ev.draw, .int .u32 ev.addr, .int .u32 ev.node, .int .u32 ev.dst, .int .u32 ev.xfer, .int .u8 5, .int .u64 ev.arg, .int .u64 ev.badge, .slice xo ev.ws.length cx]), (4, .int .u8 0), (5, .bool false), (7, .pointer (some ⟨(Z.tp x), 0, none⟩)), (53, .int .u8 10), (66, .bool false), (21, .int .u8 0), (22, .int .i64 s1), (24, .int .i64 s2), (25, .int .u8 0), (348, .agg #[.int .u16 ((Z.ky o).idx), .int .u32 ((Z.ky o).gen)]), (349, .int .u8 0)]) (φ := True) (fuel := 2) h202 (by kernel_rfl) rfl (by kernel_rfl) (by kernel_rfl) ⟨trivial, trivial, trivial, trivial⟩ trivial fun a203 h204 => ?_
      clear h202
      refine wpAnyK_one (i := 11) (fuel := 1) (by kernel_rfl) ?_
      refine op_store tabOk2 {k := 4} (L' := [(3, ⟨[.int .u16 0, .int .u32 0], ty3, true⟩), (b2, ⟨[.int .u8 10, .int .u32 ev.pick, .int .u64 ev.draw, .int .u32 ev.addr, .int .u32 ev.node, .int .u32 ev.dst, .int .u32 ev.xfer, .int .u8 5, .int .u64 ev.arg, .int .u64 ev.badge, .slice xo ev.ws.length cx], 35, false⟩), (b14, ⟨[.int .u16 ((Z.ky x).idx), .int .u32 ((Z.ky x).gen)], 39, false⟩), (b75, ⟨[.int .u8 c.ty, .int .u16 c.obj.idx, .int .u32 c.obj.gen, .int .u8 c.rights, .int .u64 c.badge], 49, false⟩), (b193, ⟨[.int .u16 ((Z.ky o).idx), .int .u32 ((Z.ky o).gen)], 39, false⟩)]) (φ := b193 = b193 ∧ Nat.ble (0 + 2) 2 = true) h204 rfl rfl rfl (by kernel_rfl) ⟨rfl, rfl⟩ fun w205 h206 => ?_
      refine ⟨keepNil, ?_⟩
      clear h204
      refine dr_batch tabOk2 tabZ_ok2 (by repeat (first | with_reducible exact PF.body | with_reducible apply PF.inB | with_reducible apply PF.next)) [(12, {})] [26, 6, 3, 0, 1, 4, 5, 7, 53, 66, 21, 22, 24, 25] (T' := [(26, .pointer (some ⟨b193, 0, none⟩)), (6, .pointer (some ⟨b14, 0, none⟩)), (3, .pointer (some ⟨b2, 0, none⟩)), (0, .pointer (some ⟨mb, 0, none⟩)), (1, .agg #[.int .u8 10, .int .u32 ev.pick, .int .u64 ev.draw, .int .u32 ev.addr, .int .u32 ev.node, .int .u32 ev.dst, .int .u32 ev.xfer, .int .u8 5, .int .u64 ev.arg, .int .u64 ev.badge, .slice xo ev.ws.length cx]), (4, .int .u8 0), (5, .bool false), (7, .pointer (some ⟨(Z.tp x), 0, none⟩)), (53, .int .u8 10), (66, .bool false), (21, .int .u8 0), (22, .int .i64 s1), (24, .int .i64 s2), (25, .int .u8 0)]) (φ := True) (fuel := 0) h206 (by kernel_rfl) rfl (by kernel_rfl) (by kernel_rfl) ⟨trivial, trivial⟩ trivial fun a207 h208 => ?_
      clear h206
      refine wpAnyK_done (by kernel_rfl) ?_ _
      refine hK127 _ _ ?_
      clear hK127
      refine wp_seq_k fun K209 hK209 => ?_
      refine wp_seq_k fun K210 hK210 => ?_
      refine nd_start (l := [0, 1]) rfl ?_
      refine nd_batch tabOk2 tabZ_ok2 [(0, {}), (1, {})] [26, 6, 3, 0, 1, 4, 5, 7, 53, 66, 21, 22, 24, 25, 351] (T' := [(26, .pointer (some ⟨b193, 0, none⟩)), (6, .pointer (some ⟨b14, 0, none⟩)), (3, .pointer (some ⟨b2, 0, none⟩)), (0, .pointer (some ⟨mb, 0, none⟩)), (1, .agg #[.int .u8 10, .int .u32 ev.pick, .int .u64 ev.draw, .int .u32 ev.addr, .int .u32 ev.node, .int .u32 ev.dst, .int .u32 ev.xfer, .int .u8 5, .int .u64 ev.arg, .int .u64 ev.badge, .slice xo ev.ws.length cx]), (4, .int .u8 0), (5, .bool false), (7, .pointer (some ⟨(Z.tp x), 0, none⟩)), (53, .int .u8 10), (66, .bool false), (21, .int .u8 0), (22, .int .i64 s1), (24, .int .i64 s2), (25, .int .u8 0), (351, .bool false)]) (φ := True) (rest := []) h208 (by kernel_rfl) rfl trivial fun a211 h212 => ?_
      clear h208
      refine nd_done ?_
      refine hK210 _ _ ?_
      clear hK210
      refine c_false h212 rfl ?_
      refine wp_skip ?_
      refine hK209 _ _ ?_
      clear hK209
      refine wp_seq_k fun K213 hK213 => ?_
      refine wp_seq_k fun K214 hK214 => ?_
      refine nd_start (l := [0, 1]) rfl ?_
      refine nd_batch tabOk2 tabZ_ok2 [(0, {}), (1, {k := 1})] [26, 6, 3, 0, 1, 4, 5, 7, 53, 66, 21, 22, 24, 25, 354] (T' := [(26, .pointer (some ⟨b193, 0, none⟩)), (6, .pointer (some ⟨b14, 0, none⟩)), (3, .pointer (some ⟨b2, 0, none⟩)), (0, .pointer (some ⟨mb, 0, none⟩)), (1, .agg #[.int .u8 10, .int .u32 ev.pick, .int .u64 ev.draw, .int .u32 ev.addr, .int .u32 ev.node, .int .u32 ev.dst, .int .u32 ev.xfer, .int .u8 5, .int .u64 ev.arg, .int .u64 ev.badge, .slice xo ev.ws.length cx]), (4, .int .u8 0), (5, .bool false), (7, .pointer (some ⟨(Z.tp x), 0, none⟩)), (53, .int .u8 10), (66, .bool false), (21, .int .u8 0), (22, .int .i64 s1), (24, .int .i64 s2), (25, .int .u8 0), (354, .int .u8 5)]) (φ := (b2 = b2 ∧ Nat.ble (7 + 1) 11 = true) ∧ True) (rest := []) h212 (by kernel_rfl) rfl ⟨⟨rfl, rfl⟩, trivial⟩ fun a215 h216 => ?_
      clear h212
      refine nd_done ?_
      refine hK214 _ _ ?_
      clear hK214
      refine wp_block ?_
      refine wp_seq_k fun K217 hK217 => ?_
      refine nd_start (l := [0, 1]) rfl ?_
      refine nd_batch tabOk2 tabZ_ok2 [(0, {}), (1, {})] [26, 6, 3, 0, 1, 4, 5, 7, 53, 66, 21, 22, 24, 25, 354, 360] (T' := [(26, .pointer (some ⟨b193, 0, none⟩)), (6, .pointer (some ⟨b14, 0, none⟩)), (3, .pointer (some ⟨b2, 0, none⟩)), (0, .pointer (some ⟨mb, 0, none⟩)), (1, .agg #[.int .u8 10, .int .u32 ev.pick, .int .u64 ev.draw, .int .u32 ev.addr, .int .u32 ev.node, .int .u32 ev.dst, .int .u32 ev.xfer, .int .u8 5, .int .u64 ev.arg, .int .u64 ev.badge, .slice xo ev.ws.length cx]), (4, .int .u8 0), (5, .bool false), (7, .pointer (some ⟨(Z.tp x), 0, none⟩)), (53, .int .u8 10), (66, .bool false), (21, .int .u8 0), (22, .int .i64 s1), (24, .int .i64 s2), (25, .int .u8 0), (354, .int .u8 5), (360, .bool false)]) (φ := True) (rest := []) h216 (by kernel_rfl) rfl trivial fun a218 h219 => ?_
      clear h216
      refine nd_done ?_
      refine hK217 _ _ ?_
      clear hK217
      refine c_false h219 rfl ?_
      refine wp_seq_k fun K220 hK220 => ?_
      refine nd_start (l := [0, 1]) rfl ?_
      refine nd_batch tabOk2 tabZ_ok2 [(0, {}), (1, {})] [26, 6, 3, 0, 1, 4, 5, 7, 53, 66, 21, 22, 24, 25, 354, 368] (T' := [(26, .pointer (some ⟨b193, 0, none⟩)), (6, .pointer (some ⟨b14, 0, none⟩)), (3, .pointer (some ⟨b2, 0, none⟩)), (0, .pointer (some ⟨mb, 0, none⟩)), (1, .agg #[.int .u8 10, .int .u32 ev.pick, .int .u64 ev.draw, .int .u32 ev.addr, .int .u32 ev.node, .int .u32 ev.dst, .int .u32 ev.xfer, .int .u8 5, .int .u64 ev.arg, .int .u64 ev.badge, .slice xo ev.ws.length cx]), (4, .int .u8 0), (5, .bool false), (7, .pointer (some ⟨(Z.tp x), 0, none⟩)), (53, .int .u8 10), (66, .bool false), (21, .int .u8 0), (22, .int .i64 s1), (24, .int .i64 s2), (25, .int .u8 0), (354, .int .u8 5), (368, .bool false)]) (φ := True) (rest := []) h219 (by kernel_rfl) rfl trivial fun a221 h222 => ?_
      clear h219
      refine nd_done ?_
      refine hK220 _ _ ?_
      clear hK220
      refine c_false h222 rfl ?_
      refine dr_start (KB := [3, b2, b14, b75, b193, mb]) (Bi := [[0, 1, 2, 3, 4, 5], [0, 1, 2, 3, 4, 5], [0, 1, 2, 3, 4, 5], [0, 1, 2, 3, 4, 5], [0, 1, 2, 3, 4, 5], []]) mixed h222 fun w223 h224 => ?_
      clear h222
      refine dr_batch tabOk2 tabZ_ok2 (by repeat (first | with_reducible exact PF.body | with_reducible apply PF.inB | with_reducible apply PF.next)) [(0, {}), (1, {}), (2, {})] [26, 6, 3, 0, 1, 4, 5, 7, 53, 66, 21, 22, 24, 25, 354, 357] (T' := [(26, .pointer (some ⟨b193, 0, none⟩)), (6, .pointer (some ⟨b14, 0, none⟩)), (3, .pointer (some ⟨b2, 0, none⟩)), (0, .pointer (some ⟨mb, 0, none⟩)), (1, .agg #[.int .u8 10, .int .u32 ev.pick, .int .u64 ev.draw, .int .u32 ev.addr, .int .u32 ev.node, .int .u32 ev.dst, .int .u32 ev.xfer, .int .u8 5, .int .u64 ev.arg, .int .u64 ev.badge, .slice xo ev.ws.length cx]), (4, .int .u8 0), (5, .bool false), (7, .pointer (some ⟨(Z.tp x), 0, none⟩)), (53, .int .u8 10), (66, .bool false), (21, .int .u8 0), (22, .int .i64 s1), (24, .int .i64 s2), (25, .int .u8 0), (354, .int .u8 5), (357, .pointer (some ⟨mb, 3, none⟩))]) (φ := True) (fuel := 3) h224 (by kernel_rfl) rfl (by kernel_rfl) (by kernel_rfl) ⟨trivial, trivial, trivial, trivial⟩ trivial fun a226 h227 => ?_
      clear h224
      refine dr_read (i := 3) (b := mb) (p := 5) (v := .map (some Z.qb)) (fuel := 2) (by repeat (first | with_reducible exact PF.body | with_reducible apply PF.inB | with_reducible apply PF.next)) h227 rfl rfl rfl (by kernel_rfl) (by kernel_rfl) (by kernel_rfl) rfl (rd_m h227 (k := 3) (v := .map (some Z.qb)) rfl rfl rfl rfl (md_p ⟨rfl, trivial⟩)) ?_
      have h228 := h227.put (d := some 358) (v := .map (some Z.qb)) (T' := [(358, .map (some Z.qb)), (26, .pointer (some ⟨b193, 0, none⟩)), (6, .pointer (some ⟨b14, 0, none⟩)), (3, .pointer (some ⟨b2, 0, none⟩)), (0, .pointer (some ⟨mb, 0, none⟩)), (1, .agg #[.int .u8 10, .int .u32 ev.pick, .int .u64 ev.draw, .int .u32 ev.addr, .int .u32 ev.node, .int .u32 ev.dst, .int .u32 ev.xfer, .int .u8 5, .int .u64 ev.arg, .int .u64 ev.badge, .slice xo ev.ws.length cx]), (4, .int .u8 0), (5, .bool false), (7, .pointer (some ⟨(Z.tp x), 0, none⟩)), (53, .int .u8 10), (66, .bool false), (21, .int .u8 0), (22, .int .i64 s1), (24, .int .i64 s2), (25, .int .u8 0), (354, .int .u8 5), (357, .pointer (some ⟨mb, 3, none⟩))]) rfl
      clear h227
      refine dr_batch tabOk2 tabZ_ok2 (by repeat (first | with_reducible exact PF.body | with_reducible apply PF.inB | with_reducible apply PF.next)) [(4, {k := 4, p := 4})] [358, 26, 6, 3, 0, 1, 4, 5, 7, 53, 66, 21, 22, 24, 25, 354, 359] (T' := [(358, .map (some Z.qb)), (26, .pointer (some ⟨b193, 0, none⟩)), (6, .pointer (some ⟨b14, 0, none⟩)), (3, .pointer (some ⟨b2, 0, none⟩)), (0, .pointer (some ⟨mb, 0, none⟩)), (1, .agg #[.int .u8 10, .int .u32 ev.pick, .int .u64 ev.draw, .int .u32 ev.addr, .int .u32 ev.node, .int .u32 ev.dst, .int .u32 ev.xfer, .int .u8 5, .int .u64 ev.arg, .int .u64 ev.badge, .slice xo ev.ws.length cx]), (4, .int .u8 0), (5, .bool false), (7, .pointer (some ⟨(Z.tp x), 0, none⟩)), (53, .int .u8 10), (66, .bool false), (21, .int .u8 0), (22, .int .i64 s1), (24, .int .i64 s2), (25, .int .u8 0), (354, .int .u8 5), (359, .agg #[.int .u16 ((Z.ky o).idx), .int .u32 ((Z.ky o).gen)])]) (φ := (b193 = b193 ∧ Nat.ble (0 + 2) 2 = true) ∧ True) (fuel := 1) h228 (by kernel_rfl) rfl (by kernel_rfl) (by kernel_rfl) ⟨rfl, trivial⟩ ⟨⟨rfl, rfl⟩, trivial⟩ fun a229 h230 => ?_
      clear h228
      refine wpAnyK_one (i := 5) (fuel := 0) (by kernel_rfl) ?_
      refine op_mAddQ (x := o) h230 rfl rfl rfl rfl rfl rfl hon ho2 hhoh103 hq0 hw0 (kcons (fun _ => rfl) (kcons (fun hq => by cases hq) (kcons (fun hq => by cases hq) (kcons (fun hq => by cases hq) (kcons (fun hq => by cases hq) knil))))) fun w231 hf232 h233a => ?_
      have h233 := h233a.put (d := none) (v := undef) (T' := [(358, .map (some Z.qb)), (26, .pointer (some ⟨b193, 0, none⟩)), (6, .pointer (some ⟨b14, 0, none⟩)), (3, .pointer (some ⟨b2, 0, none⟩)), (0, .pointer (some ⟨mb, 0, none⟩)), (1, .agg #[.int .u8 10, .int .u32 ev.pick, .int .u64 ev.draw, .int .u32 ev.addr, .int .u32 ev.node, .int .u32 ev.dst, .int .u32 ev.xfer, .int .u8 5, .int .u64 ev.arg, .int .u64 ev.badge, .slice xo ev.ws.length cx]), (4, .int .u8 0), (5, .bool false), (7, .pointer (some ⟨(Z.tp x), 0, none⟩)), (53, .int .u8 10), (66, .bool false), (21, .int .u8 0), (22, .int .i64 s1), (24, .int .i64 s2), (25, .int .u8 0), (354, .int .u8 5), (359, .agg #[.int .u16 ((Z.ky o).idx), .int .u32 ((Z.ky o).gen)])]) rfl
      refine ⟨keepNil, ?_⟩
      clear h230 h233a
      refine wpAnyK_done (by kernel_rfl) ?_ _
      refine hK213 _ _ ?_
      clear hK213
      refine wp_seq_k fun K234 hK234 => ?_
      refine dr_start (KB := [3, b2, b14, b75, b193, mb]) (Bi := [[0, 1, 2, 3, 4, 5], [0, 1, 2, 3, 4, 5], [0, 1, 2, 3, 4, 5], [0, 1, 2, 3, 4, 5], [0, 1, 2, 3, 4, 5], [0, 1, 2, 3, 4, 5], [0, 1, 2, 3, 4, 5], [0, 1, 2, 3, 4, 5], [0, 1, 2, 3, 4, 5], [0, 1, 2, 3, 4, 5], []]) mixed h233 fun w235 h236 => ?_
      clear h233
      refine dr_batch tabOk2 tabZ_ok2 (by repeat (first | with_reducible exact PF.body | with_reducible apply PF.inB | with_reducible apply PF.next)) [(0, {}), (1, {}), (2, {})] [26, 6, 3, 0, 1, 4, 5, 7, 53, 66, 21, 22, 24, 25, 354, 379] (T' := [(26, .pointer (some ⟨b193, 0, none⟩)), (6, .pointer (some ⟨b14, 0, none⟩)), (3, .pointer (some ⟨b2, 0, none⟩)), (0, .pointer (some ⟨mb, 0, none⟩)), (1, .agg #[.int .u8 10, .int .u32 ev.pick, .int .u64 ev.draw, .int .u32 ev.addr, .int .u32 ev.node, .int .u32 ev.dst, .int .u32 ev.xfer, .int .u8 5, .int .u64 ev.arg, .int .u64 ev.badge, .slice xo ev.ws.length cx]), (4, .int .u8 0), (5, .bool false), (7, .pointer (some ⟨(Z.tp x), 0, none⟩)), (53, .int .u8 10), (66, .bool false), (21, .int .u8 0), (22, .int .i64 s1), (24, .int .i64 s2), (25, .int .u8 0), (354, .int .u8 5), (379, .pointer (some ⟨mb, 1, none⟩))]) (φ := True) (fuel := 8) h236 (by kernel_rfl) rfl (by kernel_rfl) (by kernel_rfl) ⟨trivial, trivial, trivial, trivial⟩ trivial fun a238 h239 => ?_
      clear h236
      refine dr_read (i := 3) (b := mb) (p := 5) (v := .pointer (some ⟨Z.mc, 0, none⟩)) (fuel := 7) (by repeat (first | with_reducible exact PF.body | with_reducible apply PF.inB | with_reducible apply PF.next)) h239 rfl rfl rfl (by kernel_rfl) (by kernel_rfl) (by kernel_rfl) rfl (rd_m h239 (k := 1) (v := .pointer (some ⟨Z.mc, 0, none⟩)) rfl rfl rfl rfl (md_p ⟨rfl, trivial⟩)) ?_
      have h240 := h239.put (d := some 380) (v := .pointer (some ⟨Z.mc, 0, none⟩)) (T' := [(380, .pointer (some ⟨Z.mc, 0, none⟩)), (26, .pointer (some ⟨b193, 0, none⟩)), (6, .pointer (some ⟨b14, 0, none⟩)), (3, .pointer (some ⟨b2, 0, none⟩)), (0, .pointer (some ⟨mb, 0, none⟩)), (1, .agg #[.int .u8 10, .int .u32 ev.pick, .int .u64 ev.draw, .int .u32 ev.addr, .int .u32 ev.node, .int .u32 ev.dst, .int .u32 ev.xfer, .int .u8 5, .int .u64 ev.arg, .int .u64 ev.badge, .slice xo ev.ws.length cx]), (4, .int .u8 0), (5, .bool false), (7, .pointer (some ⟨(Z.tp x), 0, none⟩)), (53, .int .u8 10), (66, .bool false), (21, .int .u8 0), (22, .int .i64 s1), (24, .int .i64 s2), (25, .int .u8 0), (354, .int .u8 5), (379, .pointer (some ⟨mb, 1, none⟩))]) rfl
      clear h239
      refine dr_batch tabOk2 tabZ_ok2 (by repeat (first | with_reducible exact PF.body | with_reducible apply PF.inB | with_reducible apply PF.next)) [(4, {}), (5, {}), (6, {k := 1, p := 1}), (7, {k := 4, p := 4}), (8, {}), (9, {})] [380, 26, 6, 3, 0, 1, 4, 5, 7, 53, 66, 21, 22, 24, 25, 354, 381, 385, 386] (T' := [(380, .pointer (some ⟨Z.mc, 0, none⟩)), (26, .pointer (some ⟨b193, 0, none⟩)), (6, .pointer (some ⟨b14, 0, none⟩)), (3, .pointer (some ⟨b2, 0, none⟩)), (0, .pointer (some ⟨mb, 0, none⟩)), (1, .agg #[.int .u8 10, .int .u32 ev.pick, .int .u64 ev.draw, .int .u32 ev.addr, .int .u32 ev.node, .int .u32 ev.dst, .int .u32 ev.xfer, .int .u8 5, .int .u64 ev.arg, .int .u64 ev.badge, .slice xo ev.ws.length cx]), (4, .int .u8 0), (5, .bool false), (7, .pointer (some ⟨(Z.tp x), 0, none⟩)), (53, .int .u8 10), (66, .bool false), (21, .int .u8 0), (22, .int .i64 s1), (24, .int .i64 s2), (25, .int .u8 0), (354, .int .u8 5), (381, .int .i64 s2), (385, .agg #[.int .u8 5, .int .u16 ((Z.ky o).idx), .int .u32 ((Z.ky o).gen), .int .u8 7, .int .u64 0]), (386, .int .i64 s1)]) (φ := (b2 = b2 ∧ Nat.ble (7 + 1) 11 = true) ∧ (b193 = b193 ∧ Nat.ble (0 + 2) 2 = true) ∧ True) (fuel := 1) h240 (by kernel_rfl) rfl (by kernel_rfl) (by kernel_rfl) ⟨trivial, trivial, rfl, rfl, trivial, trivial, trivial⟩ ⟨⟨rfl, rfl⟩, ⟨rfl, rfl⟩, trivial⟩ fun a241 h242 => ?_
      clear h240
      refine wpAnyK_one (i := 10) (fuel := 0) (by kernel_rfl) ?_
      refine op_call h242 rfl rfl rfl (callOk Tryd.func40 (by decide) rfl) (args := [.pointer (some ⟨Z.mc, 0, none⟩), .int .i64 s2, .agg #[.int .u8 5, .int .u16 ((Z.ky o).idx), .int .u32 ((Z.ky o).gen), .int .u8 7, .int .u64 0], .int .i64 s1]) rfl (insertE Z.mo Z.mc _ ({ C with ent := E1 } : CP) hi2 hj2 hp2 hs2 ⟨5, Z.ky o, 7, 0⟩ s1 _ h242.inv.1.cp) ?_
      rintro _ w243 ⟨rfl, hc244, hf245⟩
      refine ⟨_, rfl, ?_⟩
      have h246a := st_cap h242 hc244 hf245 (fun b hb => .inl hb) (kcons (fun _ => rfl) (kcons (fun hq => by cases hq) (kcons (fun hq => by cases hq) (kcons (fun hq => by cases hq) (kcons (fun hq => by cases hq) knil)))))
      have h246 := h246a.put (d := some 387) (v := .tuple #[]) (T' := [(387, .tuple #[]), (380, .pointer (some ⟨Z.mc, 0, none⟩)), (26, .pointer (some ⟨b193, 0, none⟩)), (6, .pointer (some ⟨b14, 0, none⟩)), (3, .pointer (some ⟨b2, 0, none⟩)), (0, .pointer (some ⟨mb, 0, none⟩)), (1, .agg #[.int .u8 10, .int .u32 ev.pick, .int .u64 ev.draw, .int .u32 ev.addr, .int .u32 ev.node, .int .u32 ev.dst, .int .u32 ev.xfer, .int .u8 5, .int .u64 ev.arg, .int .u64 ev.badge, .slice xo ev.ws.length cx]), (4, .int .u8 0), (5, .bool false), (7, .pointer (some ⟨(Z.tp x), 0, none⟩)), (53, .int .u8 10), (66, .bool false), (21, .int .u8 0), (22, .int .i64 s1), (24, .int .i64 s2), (25, .int .u8 0), (354, .int .u8 5), (381, .int .i64 s2), (385, .agg #[.int .u8 5, .int .u16 ((Z.ky o).idx), .int .u32 ((Z.ky o).gen), .int .u8 7, .int .u64 0]), (386, .int .i64 s1)]) rfl
      refine ⟨keepNil, ?_⟩
      clear h242 h246a
      refine wpAnyK_done (by kernel_rfl) ?_ _
      refine hK234 _ _ ?_
      clear hK234
      refine wp_seq_k fun K247 hK247 => ?_
      refine nd_start (l := [0, 1]) rfl ?_
      refine nd_batch tabOk2 tabZ_ok2 [(0, {}), (1, {})] [26, 6, 3, 0, 1, 7, 53, 66, 21, 22, 24, 25, 354, 4, 5] (T' := [(26, .pointer (some ⟨b193, 0, none⟩)), (6, .pointer (some ⟨b14, 0, none⟩)), (3, .pointer (some ⟨b2, 0, none⟩)), (0, .pointer (some ⟨mb, 0, none⟩)), (1, .agg #[.int .u8 10, .int .u32 ev.pick, .int .u64 ev.draw, .int .u32 ev.addr, .int .u32 ev.node, .int .u32 ev.dst, .int .u32 ev.xfer, .int .u8 5, .int .u64 ev.arg, .int .u64 ev.badge, .slice xo ev.ws.length cx]), (7, .pointer (some ⟨(Z.tp x), 0, none⟩)), (53, .int .u8 10), (66, .bool false), (21, .int .u8 0), (22, .int .i64 s1), (24, .int .i64 s2), (25, .int .u8 0), (354, .int .u8 5), (4, .int .u8 0), (5, .bool false)]) (φ := True) (rest := []) h246 (by kernel_rfl) rfl trivial fun a248 h249 => ?_
      clear h246
      refine nd_done ?_
      refine hK247 _ _ ?_
      clear hK247
      refine wp_ret ?_
      try simp only [Exit.then, Exit.inBlock]
      try rw [if_pos trivial]
      exact s_ret tabOk2 tabZ_ok2 h249 [(.tmp 4, {}), (.tmp 5, {})] (vs := [.int .u8 0, .bool false]) (φ := True) rfl (by kernel_rfl) trivial ⟨rfl, _, mg_end hH h249 hhoh103 rfl⟩

end Go.Proofs.Qxb6500918aDoor
