/-
  The model: Step, where something is shown. (Made by program: a symbolic walk that prints its steps.)
-/
import Derived.Test.Qxb6500918aDoorVa
namespace Go.Proofs.Qxb6500918aDoor
open Go.Sx Go.Kn
set_option maxRecDepth 100000
set_option maxHeartbeats 4000000
set_option linter.unusedVariables false
set_option linter.unusedSimpArgs false

theorem stepSt (mb : Nat) (Z : MZ) (R : MR) (a : AK) (C : CP) (hI : MI Z a C) (ev : Ev) (he : EvOk ev) (xo : Option Addr) (cx : Nat) (hk0 : ev.kind ≠ 0) (hk1 : ev.kind ≠ 1) (hk2 : ¬ ev.kind ≥ 20) (x : Nat) (hx : x ∈ sl Z.tl) (hcu : a.cur = (x : Int)) (QZ : MZ → Prop) (a2 : AK) (C2 : CP) (hcall : ∀ w1, MH mb Z R a C w1 → WordsAt (mdF mb Z R C) w1 xo ev.ws → Calls Tryd.prog 55 #[.pointer (some ⟨mb, 0, none⟩), .agg #[.int .u8 ev.kind, .int .u32 ev.pick, .int .u64 ev.draw, .int .u32 ev.addr, .int .u32 ev.node, .int .u32 ev.dst, .int .u32 ev.xfer, .int .u8 ev.ty, .int .u64 ev.arg, .int .u64 ev.badge, .slice xo ev.ws.length cx]] w1 fun e w' => e = .returned (.tuple #[.int .u8 0, .bool true]) ∧ ∃ Z2 R2, MG mb Z R C w1 Z2 R2 a2 C2 w' ∧ MP Z2 a2 ∧ (true = true → Z2 = Z) ∧ QZ Z2)  (w : World) (hH : MH mb Z R a C w) (hws : WordsAt (mdF mb Z R C) w xo ev.ws) :
    Calls Tryd.prog 15 #[.pointer (some ⟨mb, 0, none⟩), .agg #[.int .u8 ev.kind, .int .u32 ev.pick, .int .u64 ev.draw, .int .u32 ev.addr, .int .u32 ev.node, .int .u32 ev.dst, .int .u32 ev.xfer, .int .u8 ev.ty, .int .u64 ev.arg, .int .u64 ev.badge, .slice xo ev.ws.length cx]] w fun e w' => ∃ Z' R', e = .returned (.agg #[.int .u8 0, .int .u16 ((curR Z' (schedA a2 ev.pick)).idx), .int .u32 ((curR Z' (schedA a2 ev.pick)).gen), .int .u64 ((a2.th x).badge), .int .u64 ((a2.th x).m0), .int .u64 ((a2.th x).m1), .int .u64 ((a2.th x).m2), .int .u64 ((a2.th x).m3), .int .u8 ((a2.th x).len), .int .u8 ((a2.th x).got)]) ∧ MG mb Z R C w Z' R' (schedA a2 ev.pick) C2 w' ∧ QZ Z' := by
  have hP := hI.mp
  have hcx : curR Z a = Z.ky x := curR_of hcu
  obtain ⟨ty3, hg3⟩ := hH.g3
  have hho := hH.ho
  have hkk := hH.md.k
  refine enter (n := 154) (K := mdF mb Z R C) (A := MD (mdF mb Z R C) w.heap.size mb Z R a C) (F := mdF mb Z R C) (T := [(0, .pointer (some ⟨mb, 0, none⟩)), (1, .agg #[.int .u8 ev.kind, .int .u32 ev.pick, .int .u64 ev.draw, .int .u32 ev.addr, .int .u32 ev.node, .int .u32 ev.dst, .int .u32 ev.xfer, .int .u8 ev.ty, .int .u64 ev.arg, .int .u64 ev.badge, .slice xo ev.ws.length cx])]) (L := [(3, ⟨[.int .u16 0, .int .u32 0], ty3, true⟩)]) (args := [.pointer (some ⟨mb, 0, none⟩), .agg #[.int .u8 ev.kind, .int .u32 ev.pick, .int .u64 ev.draw, .int .u32 ev.addr, .int .u32 ev.node, .int .u32 ev.dst, .int .u32 ev.xfer, .int .u8 ev.ty, .int .u64 ev.arg, .int .u64 ev.badge, .slice xo ev.ws.length cx]]) Tryd.func15 rfl rfl rfl rfl (kcons hg3 knil) (by simp) (kcons (by intro hq; cases hq) knil) hH.mD MD.stable hH.md.low (kcons (by intro hq; cases hq) knil) ?_
  intro ac h
  refine wp_seq_k fun K1 hK1 => ?_
  refine nd_start (l := [0, 1]) rfl ?_
  refine nd_op ?_
  refine op_new tabOk2 (cells := [.int .u8 ev.kind, .int .u32 ev.pick, .int .u64 ev.draw, .int .u32 ev.addr, .int .u32 ev.node, .int .u32 ev.dst, .int .u32 ev.xfer, .int .u8 ev.ty, .int .u64 ev.arg, .int .u64 ev.badge, .slice xo ev.ws.length cx]) (ty := 35) (ln := none) (L1 := fun b2 => [(3, ⟨[.int .u16 0, .int .u32 0], ty3, true⟩), (b2, ⟨[.int .u8 ev.kind, .int .u32 ev.pick, .int .u64 ev.draw, .int .u32 ev.addr, .int .u32 ev.node, .int .u32 ev.dst, .int .u32 ev.xfer, .int .u8 ev.ty, .int .u64 ev.arg, .int .u64 ev.badge, .slice xo ev.ws.length cx], 35, false⟩)]) h rfl rfl rfl rfl (by kernel_rfl) (fun _ => rfl) fun b2 w3 a4 h5 hf6 hn7 => ?_
  clear h
  refine nd_op ?_
  refine op_new tabOk2 (cells := [.int .u8 0, .int .u16 0, .int .u32 0, .int .u64 0, .int .u64 0, .int .u64 0, .int .u64 0, .int .u64 0, .int .u8 0, .int .u8 0]) (ty := 42) (ln := none) (L1 := fun b8 => [(3, ⟨[.int .u16 0, .int .u32 0], ty3, true⟩), (b2, ⟨[.int .u8 ev.kind, .int .u32 ev.pick, .int .u64 ev.draw, .int .u32 ev.addr, .int .u32 ev.node, .int .u32 ev.dst, .int .u32 ev.xfer, .int .u8 ev.ty, .int .u64 ev.arg, .int .u64 ev.badge, .slice xo ev.ws.length cx], 35, false⟩), (b8, ⟨[.int .u8 0, .int .u16 0, .int .u32 0, .int .u64 0, .int .u64 0, .int .u64 0, .int .u64 0, .int .u64 0, .int .u8 0, .int .u8 0], 42, false⟩)]) h5 rfl rfl rfl rfl (by kernel_rfl) (fun _ => rfl) fun b8 w9 a10 h11 hf12 hn13 => ?_
  clear h5
  refine nd_done ?_
  refine hK1 _ _ ?_
  clear hK1
  refine wp_seq_k fun K14 hK14 => ?_
  refine nd_start (l := [0]) rfl ?_
  refine nd_op ?_
  refine op_new tabOk2 (cells := [.int .u8 0, .int .u16 0, .int .u32 0, .int .u64 0, .int .u64 0, .int .u64 0, .int .u64 0, .int .u64 0, .int .u8 0, .int .u8 0]) (ty := 42) (ln := none) (L1 := fun b15 => [(3, ⟨[.int .u16 0, .int .u32 0], ty3, true⟩), (b2, ⟨[.int .u8 ev.kind, .int .u32 ev.pick, .int .u64 ev.draw, .int .u32 ev.addr, .int .u32 ev.node, .int .u32 ev.dst, .int .u32 ev.xfer, .int .u8 ev.ty, .int .u64 ev.arg, .int .u64 ev.badge, .slice xo ev.ws.length cx], 35, false⟩), (b8, ⟨[.int .u8 0, .int .u16 0, .int .u32 0, .int .u64 0, .int .u64 0, .int .u64 0, .int .u64 0, .int .u64 0, .int .u8 0, .int .u8 0], 42, false⟩), (b15, ⟨[.int .u8 0, .int .u16 0, .int .u32 0, .int .u64 0, .int .u64 0, .int .u64 0, .int .u64 0, .int .u64 0, .int .u8 0, .int .u8 0], 42, false⟩)]) h11 rfl rfl rfl rfl (by kernel_rfl) (fun _ => rfl) fun b15 w16 a17 h18 hf19 hn20 => ?_
  clear h11
  refine nd_done ?_
  refine hK14 _ _ ?_
  clear hK14
  refine wp_seq_k fun K21 hK21 => ?_
  refine wp_block ?_
  refine wp_seq_k fun K22 hK22 => ?_
  refine nd_start (l := [0, 1, 2, 3]) rfl ?_
  refine nd_batch tabOk2 tabZ_ok2 [(0, {}), (1, {k := 1}), (2, {}), (3, {})] [5, 4, 3, 0, 1, 45] (T' := [(5, .pointer (some ⟨b15, 0, none⟩)), (4, .pointer (some ⟨b8, 0, none⟩)), (3, .pointer (some ⟨b2, 0, none⟩)), (0, .pointer (some ⟨mb, 0, none⟩)), (1, .agg #[.int .u8 ev.kind, .int .u32 ev.pick, .int .u64 ev.draw, .int .u32 ev.addr, .int .u32 ev.node, .int .u32 ev.dst, .int .u32 ev.xfer, .int .u8 ev.ty, .int .u64 ev.arg, .int .u64 ev.badge, .slice xo ev.ws.length cx]), (45, .bool (ev.kind == 0))]) (φ := (b2 = b2 ∧ Nat.ble (0 + 1) 11 = true) ∧ True) (rest := []) h18 (by kernel_rfl) rfl ⟨⟨rfl, rfl⟩, trivial⟩ fun a23 h24 => ?_
  clear h18
  refine nd_done ?_
  refine hK22 _ _ ?_
  clear hK22
  refine c_split h24 (b := (ev.kind == 0)) rfl (fun hc25 => ?_) (fun hc25 => ?_)
  ·
    have hc25f : ev.kind = 0 := by simpa using hc25
    exact absurd (hk0) (by first | exact hc25f | (intro hz; exact hc25f hz) | omega | simp_all)
  ·
    have hc25f : ev.kind ≠ 0 := by simpa using hc25
    refine wp_seq_k fun K26 hK26 => ?_
    refine nd_start (l := [0, 1, 2, 3]) rfl ?_
    refine nd_batch tabOk2 tabZ_ok2 [(0, {}), (1, {k := 1}), (2, {}), (3, {})] [5, 4, 3, 0, 1, 68] (T' := [(5, .pointer (some ⟨b15, 0, none⟩)), (4, .pointer (some ⟨b8, 0, none⟩)), (3, .pointer (some ⟨b2, 0, none⟩)), (0, .pointer (some ⟨mb, 0, none⟩)), (1, .agg #[.int .u8 ev.kind, .int .u32 ev.pick, .int .u64 ev.draw, .int .u32 ev.addr, .int .u32 ev.node, .int .u32 ev.dst, .int .u32 ev.xfer, .int .u8 ev.ty, .int .u64 ev.arg, .int .u64 ev.badge, .slice xo ev.ws.length cx]), (68, .bool (ev.kind == 1))]) (φ := (b2 = b2 ∧ Nat.ble (0 + 1) 11 = true) ∧ True) (rest := []) h24 (by kernel_rfl) rfl ⟨⟨rfl, rfl⟩, trivial⟩ fun a27 h28 => ?_
    clear h24
    refine nd_done ?_
    refine hK26 _ _ ?_
    clear hK26
    refine c_split h28 (b := (ev.kind == 1)) rfl (fun hc29 => ?_) (fun hc29 => ?_)
    ·
      have hc29f : ev.kind = 1 := by simpa using hc29
      exact absurd (hk1) (by first | exact hc29f | (intro hz; exact hc29f hz) | omega | simp_all)
    ·
      have hc29f : ev.kind ≠ 1 := by simpa using hc29
      refine wp_seq_k fun K30 hK30 => ?_
      refine nd_start (l := [0, 1, 2, 3]) rfl ?_
      refine nd_batch tabOk2 tabZ_ok2 [(0, {}), (1, {k := 1}), (2, {}), (3, {})] [5, 4, 3, 0, 1, 128] (T' := [(5, .pointer (some ⟨b15, 0, none⟩)), (4, .pointer (some ⟨b8, 0, none⟩)), (3, .pointer (some ⟨b2, 0, none⟩)), (0, .pointer (some ⟨mb, 0, none⟩)), (1, .agg #[.int .u8 ev.kind, .int .u32 ev.pick, .int .u64 ev.draw, .int .u32 ev.addr, .int .u32 ev.node, .int .u32 ev.dst, .int .u32 ev.xfer, .int .u8 ev.ty, .int .u64 ev.arg, .int .u64 ev.badge, .slice xo ev.ws.length cx]), (128, .bool (decide (ev.kind ≥ 20)))]) (φ := (b2 = b2 ∧ Nat.ble (0 + 1) 11 = true) ∧ True) (rest := []) h28 (by kernel_rfl) rfl ⟨⟨rfl, rfl⟩, trivial⟩ fun a31 h32 => ?_
      clear h28
      refine nd_done ?_
      refine hK30 _ _ ?_
      clear hK30
      refine c_split h32 (b := decide (ev.kind ≥ 20)) rfl (fun hc33 => ?_) (fun hc33 => ?_)
      ·
        have hc33f : ev.kind ≥ 20 := by simpa using hc33
        exact absurd (hk2) (by first | exact hc33f | (intro hz; exact hc33f hz) | omega | simp_all)
      ·
        have hc33f : ¬ ev.kind ≥ 20 := by simpa using hc33
        refine wp_seq_k fun K34 hK34 => ?_
        refine dr_start (KB := [3, b2, b8, b15, mb]) (Bi := [[0, 1, 2, 3, 4], [0, 1, 2, 3, 4], [0, 1, 2, 3, 4], [0, 1, 2, 3, 4], [0, 1, 2, 3, 4], [0, 1, 2, 3, 4], [0, 1, 2, 3, 4]]) mixed h32 fun w35 h36 => ?_
        clear h32
        refine dr_batch tabOk2 tabZ_ok2 (by repeat (first | with_reducible exact PF.body | with_reducible apply PF.inB | with_reducible apply PF.next)) [(0, {}), (1, {}), (2, {})] [5, 4, 3, 0, 1, 136] (T' := [(5, .pointer (some ⟨b15, 0, none⟩)), (4, .pointer (some ⟨b8, 0, none⟩)), (3, .pointer (some ⟨b2, 0, none⟩)), (0, .pointer (some ⟨mb, 0, none⟩)), (1, .agg #[.int .u8 ev.kind, .int .u32 ev.pick, .int .u64 ev.draw, .int .u32 ev.addr, .int .u32 ev.node, .int .u32 ev.dst, .int .u32 ev.xfer, .int .u8 ev.ty, .int .u64 ev.arg, .int .u64 ev.badge, .slice xo ev.ws.length cx]), (136, .pointer (some ⟨mb, 13, none⟩))]) (φ := True) (fuel := 4) h36 (by kernel_rfl) rfl (by kernel_rfl) (by kernel_rfl) ⟨trivial, trivial, trivial, trivial⟩ trivial fun a38 h39 => ?_
        clear h36
        refine dr_read (i := 3) (b := mb) (p := 4) (v := .agg #[.int .u16 ((Z.ky x).idx), .int .u32 ((Z.ky x).gen)]) (fuel := 3) (by repeat (first | with_reducible exact PF.body | with_reducible apply PF.inB | with_reducible apply PF.next)) h39 rfl rfl rfl (by kernel_rfl) (by kernel_rfl) (by kernel_rfl) rfl (rd_mA h39 (k := 13) (vs := [.int .u16 ((Z.ky x).idx), .int .u32 ((Z.ky x).gen)]) rfl rfl rfl rfl rfl (by rw [← hcx]; exact md_cur)) ?_
        have h40 := h39.put (d := some 137) (v := .agg #[.int .u16 ((Z.ky x).idx), .int .u32 ((Z.ky x).gen)]) (T' := [(137, .agg #[.int .u16 ((Z.ky x).idx), .int .u32 ((Z.ky x).gen)]), (5, .pointer (some ⟨b15, 0, none⟩)), (4, .pointer (some ⟨b8, 0, none⟩)), (3, .pointer (some ⟨b2, 0, none⟩)), (0, .pointer (some ⟨mb, 0, none⟩)), (1, .agg #[.int .u8 ev.kind, .int .u32 ev.pick, .int .u64 ev.draw, .int .u32 ev.addr, .int .u32 ev.node, .int .u32 ev.dst, .int .u32 ev.xfer, .int .u8 ev.ty, .int .u64 ev.arg, .int .u64 ev.badge, .slice xo ev.ws.length cx]), (136, .pointer (some ⟨mb, 13, none⟩))]) rfl
        clear h39
        refine dr_batch tabOk2 tabZ_ok2 (by repeat (first | with_reducible exact PF.body | with_reducible apply PF.inB | with_reducible apply PF.next)) [(4, {k := 0, p := 0}), (5, {f := 1}), (6, {})] [5, 4, 3, 0, 1, 133] (T' := [(5, .pointer (some ⟨b15, 0, none⟩)), (4, .pointer (some ⟨b8, 0, none⟩)), (3, .pointer (some ⟨b2, 0, none⟩)), (0, .pointer (some ⟨mb, 0, none⟩)), (1, .agg #[.int .u8 ev.kind, .int .u32 ev.pick, .int .u64 ev.draw, .int .u32 ev.addr, .int .u32 ev.node, .int .u32 ev.dst, .int .u32 ev.xfer, .int .u8 ev.ty, .int .u64 ev.arg, .int .u64 ev.badge, .slice xo ev.ws.length cx]), (133, .bool false)]) (φ := (3 = 3 ∧ Nat.ble (0 + 2) 2 = true) ∧ EqRun Tryd.prog 39 (.agg #[.int .u16 ((Z.ky x).idx), .int .u32 ((Z.ky x).gen)]) (.agg #[.int .u16 0, .int .u32 0]) false ∧ True) (fuel := 0) h40 (by kernel_rfl) rfl (by kernel_rfl) (by kernel_rfl) ⟨rfl, trivial, trivial, trivial⟩ ⟨⟨rfl, rfl⟩, (by have hq := runRf (Z.ky x) (⟨0, 0⟩ : Rf); rw [show decide (Z.ky x = (⟨0, 0⟩ : Rf)) = false from decide_eq_false (hkk.ne0 (hkk.tx x hx))] at hq; exact hq), trivial⟩ fun a41 h42 => ?_
        clear h40
        refine wpAnyK_done (by kernel_rfl) ?_ _
        refine hK34 _ _ ?_
        clear hK34
        refine c_false h42 rfl ?_
        refine wp_seq_k fun K43 hK43 => ?_
        refine dr_start (KB := [3, b2, b8, b15, mb, Z.tb]) (Bi := [[0, 1, 2, 3, 4, 5], [0, 1, 2, 3, 4, 5], [0, 1, 2, 3, 4, 5], [0, 1, 2, 3, 4, 5], [0, 1, 2, 3, 4, 5], [0, 1, 2, 3, 4, 5], [0, 1, 2, 3, 4, 5], [0, 1, 2, 3, 4, 5], [0, 1, 2, 3, 4, 5], [0, 1, 2, 3, 4, 5]]) mixed h42 fun w44 h45 => ?_
        clear h42
        refine dr_batch tabOk2 tabZ_ok2 (by repeat (first | with_reducible exact PF.body | with_reducible apply PF.inB | with_reducible apply PF.next)) [(0, {}), (1, {}), (2, {})] [5, 4, 3, 0, 1, 10] (T' := [(5, .pointer (some ⟨b15, 0, none⟩)), (4, .pointer (some ⟨b8, 0, none⟩)), (3, .pointer (some ⟨b2, 0, none⟩)), (0, .pointer (some ⟨mb, 0, none⟩)), (1, .agg #[.int .u8 ev.kind, .int .u32 ev.pick, .int .u64 ev.draw, .int .u32 ev.addr, .int .u32 ev.node, .int .u32 ev.dst, .int .u32 ev.xfer, .int .u8 ev.ty, .int .u64 ev.arg, .int .u64 ev.badge, .slice xo ev.ws.length cx]), (10, .pointer (some ⟨mb, 2, none⟩))]) (φ := True) (fuel := 7) h45 (by kernel_rfl) rfl (by kernel_rfl) (by kernel_rfl) ⟨trivial, trivial, trivial, trivial⟩ trivial fun a47 h48 => ?_
        clear h45
        refine dr_read (i := 3) (b := mb) (p := 4) (v := .map (some Z.tb)) (fuel := 6) (by repeat (first | with_reducible exact PF.body | with_reducible apply PF.inB | with_reducible apply PF.next)) h48 rfl rfl rfl (by kernel_rfl) (by kernel_rfl) (by kernel_rfl) rfl (rd_m h48 (k := 2) (v := .map (some Z.tb)) rfl rfl rfl rfl (md_p ⟨rfl, trivial⟩)) ?_
        have h49 := h48.put (d := some 11) (v := .map (some Z.tb)) (T' := [(11, .map (some Z.tb)), (5, .pointer (some ⟨b15, 0, none⟩)), (4, .pointer (some ⟨b8, 0, none⟩)), (3, .pointer (some ⟨b2, 0, none⟩)), (0, .pointer (some ⟨mb, 0, none⟩)), (1, .agg #[.int .u8 ev.kind, .int .u32 ev.pick, .int .u64 ev.draw, .int .u32 ev.addr, .int .u32 ev.node, .int .u32 ev.dst, .int .u32 ev.xfer, .int .u8 ev.ty, .int .u64 ev.arg, .int .u64 ev.badge, .slice xo ev.ws.length cx]), (10, .pointer (some ⟨mb, 2, none⟩))]) rfl
        clear h48
        refine dr_batch tabOk2 tabZ_ok2 (by repeat (first | with_reducible exact PF.body | with_reducible apply PF.inB | with_reducible apply PF.next)) [(4, {}), (5, {}), (6, {})] [11, 5, 4, 3, 0, 1, 14] (T' := [(11, .map (some Z.tb)), (5, .pointer (some ⟨b15, 0, none⟩)), (4, .pointer (some ⟨b8, 0, none⟩)), (3, .pointer (some ⟨b2, 0, none⟩)), (0, .pointer (some ⟨mb, 0, none⟩)), (1, .agg #[.int .u8 ev.kind, .int .u32 ev.pick, .int .u64 ev.draw, .int .u32 ev.addr, .int .u32 ev.node, .int .u32 ev.dst, .int .u32 ev.xfer, .int .u8 ev.ty, .int .u64 ev.arg, .int .u64 ev.badge, .slice xo ev.ws.length cx]), (14, .pointer (some ⟨mb, 13, none⟩))]) (φ := True) (fuel := 3) h49 (by kernel_rfl) rfl (by kernel_rfl) (by kernel_rfl) ⟨trivial, trivial, trivial, trivial⟩ trivial fun a50 h51 => ?_
        clear h49
        refine dr_read (i := 7) (b := mb) (p := 4) (v := .agg #[.int .u16 ((Z.ky x).idx), .int .u32 ((Z.ky x).gen)]) (fuel := 2) (by repeat (first | with_reducible exact PF.body | with_reducible apply PF.inB | with_reducible apply PF.next)) h51 rfl rfl rfl (by kernel_rfl) (by kernel_rfl) (by kernel_rfl) rfl (rd_mA h51 (k := 13) (vs := [.int .u16 ((Z.ky x).idx), .int .u32 ((Z.ky x).gen)]) rfl rfl rfl rfl rfl (by rw [← hcx]; exact md_cur)) ?_
        have h52 := h51.put (d := some 15) (v := .agg #[.int .u16 ((Z.ky x).idx), .int .u32 ((Z.ky x).gen)]) (T' := [(15, .agg #[.int .u16 ((Z.ky x).idx), .int .u32 ((Z.ky x).gen)]), (11, .map (some Z.tb)), (5, .pointer (some ⟨b15, 0, none⟩)), (4, .pointer (some ⟨b8, 0, none⟩)), (3, .pointer (some ⟨b2, 0, none⟩)), (0, .pointer (some ⟨mb, 0, none⟩)), (1, .agg #[.int .u8 ev.kind, .int .u32 ev.pick, .int .u64 ev.draw, .int .u32 ev.addr, .int .u32 ev.node, .int .u32 ev.dst, .int .u32 ev.xfer, .int .u8 ev.ty, .int .u64 ev.arg, .int .u64 ev.badge, .slice xo ev.ws.length cx]), (14, .pointer (some ⟨mb, 13, none⟩))]) rfl
        clear h51
        refine dr_read (i := 8) (b := Z.tb) (p := 5) (v := .pointer (some ⟨(Z.tp x), 0, none⟩)) (fuel := 1) (by repeat (first | with_reducible exact PF.body | with_reducible apply PF.inB | with_reducible apply PF.next)) h52 rfl rfl rfl (by kernel_rfl) (by kernel_rfl) (by kernel_rfl) rfl (rd_T h52 (x := x) hx rfl rfl rfl) ?_
        have h53 := h52.put (d := some 16) (v := .pointer (some ⟨(Z.tp x), 0, none⟩)) (T' := [(16, .pointer (some ⟨(Z.tp x), 0, none⟩)), (15, .agg #[.int .u16 ((Z.ky x).idx), .int .u32 ((Z.ky x).gen)]), (11, .map (some Z.tb)), (5, .pointer (some ⟨b15, 0, none⟩)), (4, .pointer (some ⟨b8, 0, none⟩)), (3, .pointer (some ⟨b2, 0, none⟩)), (0, .pointer (some ⟨mb, 0, none⟩)), (1, .agg #[.int .u8 ev.kind, .int .u32 ev.pick, .int .u64 ev.draw, .int .u32 ev.addr, .int .u32 ev.node, .int .u32 ev.dst, .int .u32 ev.xfer, .int .u8 ev.ty, .int .u64 ev.arg, .int .u64 ev.badge, .slice xo ev.ws.length cx]), (14, .pointer (some ⟨mb, 13, none⟩))]) rfl
        clear h52
        refine dr_batch tabOk2 tabZ_ok2 (by repeat (first | with_reducible exact PF.body | with_reducible apply PF.inB | with_reducible apply PF.next)) [(9, {})] [5, 4, 3, 0, 1, 6] (T' := [(5, .pointer (some ⟨b15, 0, none⟩)), (4, .pointer (some ⟨b8, 0, none⟩)), (3, .pointer (some ⟨b2, 0, none⟩)), (0, .pointer (some ⟨mb, 0, none⟩)), (1, .agg #[.int .u8 ev.kind, .int .u32 ev.pick, .int .u64 ev.draw, .int .u32 ev.addr, .int .u32 ev.node, .int .u32 ev.dst, .int .u32 ev.xfer, .int .u8 ev.ty, .int .u64 ev.arg, .int .u64 ev.badge, .slice xo ev.ws.length cx]), (6, .pointer (some ⟨(Z.tp x), 0, none⟩))]) (φ := True) (fuel := 0) h53 (by kernel_rfl) rfl (by kernel_rfl) (by kernel_rfl) ⟨trivial, trivial⟩ trivial fun a54 h55 => ?_
        clear h53
        refine wpAnyK_done (by kernel_rfl) ?_ _
        refine hK43 _ _ ?_
        clear hK43
        refine wp_seq_k fun K56 hK56 => ?_
        refine nd_start (l := [0]) rfl ?_
        refine nd_batch tabOk2 tabZ_ok2 [(0, {})] [5, 4, 3, 0, 1, 6, 7] (T' := [(5, .pointer (some ⟨b15, 0, none⟩)), (4, .pointer (some ⟨b8, 0, none⟩)), (3, .pointer (some ⟨b2, 0, none⟩)), (0, .pointer (some ⟨mb, 0, none⟩)), (1, .agg #[.int .u8 ev.kind, .int .u32 ev.pick, .int .u64 ev.draw, .int .u32 ev.addr, .int .u32 ev.node, .int .u32 ev.dst, .int .u32 ev.xfer, .int .u8 ev.ty, .int .u64 ev.arg, .int .u64 ev.badge, .slice xo ev.ws.length cx]), (6, .pointer (some ⟨(Z.tp x), 0, none⟩)), (7, .bool false)]) (φ := True) (rest := []) h55 (by kernel_rfl) rfl trivial fun a57 h58 => ?_
        clear h55
        refine nd_done ?_
        refine hK56 _ _ ?_
        clear hK56
        refine wp_seq_k fun K59 hK59 => ?_
        refine nd_start (l := [0, 1, 2, 3, 4, 5, 6, 7, 8]) rfl ?_
        refine nd_batch tabOk2 tabZ_ok2 [(0, {}), (1, {k := 1})] [5, 4, 3, 0, 1, 6, 7, 18, 19] (T' := [(5, .pointer (some ⟨b15, 0, none⟩)), (4, .pointer (some ⟨b8, 0, none⟩)), (3, .pointer (some ⟨b2, 0, none⟩)), (0, .pointer (some ⟨mb, 0, none⟩)), (1, .agg #[.int .u8 ev.kind, .int .u32 ev.pick, .int .u64 ev.draw, .int .u32 ev.addr, .int .u32 ev.node, .int .u32 ev.dst, .int .u32 ev.xfer, .int .u8 ev.ty, .int .u64 ev.arg, .int .u64 ev.badge, .slice xo ev.ws.length cx]), (6, .pointer (some ⟨(Z.tp x), 0, none⟩)), (7, .bool false), (18, .pointer (some ⟨mb, 0, none⟩)), (19, .agg #[.int .u8 ev.kind, .int .u32 ev.pick, .int .u64 ev.draw, .int .u32 ev.addr, .int .u32 ev.node, .int .u32 ev.dst, .int .u32 ev.xfer, .int .u8 ev.ty, .int .u64 ev.arg, .int .u64 ev.badge, .slice xo ev.ws.length cx])]) (φ := (b2 = b2 ∧ Nat.ble (0 + 11) 11 = true) ∧ True) (rest := [2, 3, 4, 5, 6, 7, 8]) h58 (by kernel_rfl) rfl ⟨⟨rfl, rfl⟩, trivial⟩ fun a60 h61 => ?_
        clear h58
        refine nd_op ?_
        refine op_call h61 rfl rfl rfl (callOk Tryd.func55 (by decide) rfl) (args := [.pointer (some ⟨mb, 0, none⟩), .agg #[.int .u8 ev.kind, .int .u32 ev.pick, .int .u64 ev.draw, .int .u32 ev.addr, .int .u32 ev.node, .int .u32 ev.dst, .int .u32 ev.xfer, .int .u8 ev.ty, .int .u64 ev.arg, .int .u64 ev.badge, .slice xo ev.ws.length cx]]) rfl (hcall _ (mh_of h61 hho (k := 0) rfl) (words_now h61 hws)) ?_
        rintro _ w62 ⟨rfl, Z2, R2, hg2, hP2, hz2, hQ2⟩
        refine ⟨_, rfl, ?_⟩
        have hzz : Z = Z2 := (hz2 rfl).symm
        subst hzz
        have h63a := st_mg h61 hg2 (kcons (fun _ => rfl) (kcons (fun hq => by cases hq) (kcons (fun hq => by cases hq) (kcons (fun hq => by cases hq) knil))))
        have h63 := h63a.put (d := some 20) (v := .tuple #[.int .u8 0, .bool true]) (T' := [(20, .tuple #[.int .u8 0, .bool true]), (5, .pointer (some ⟨b15, 0, none⟩)), (4, .pointer (some ⟨b8, 0, none⟩)), (3, .pointer (some ⟨b2, 0, none⟩)), (0, .pointer (some ⟨mb, 0, none⟩)), (1, .agg #[.int .u8 ev.kind, .int .u32 ev.pick, .int .u64 ev.draw, .int .u32 ev.addr, .int .u32 ev.node, .int .u32 ev.dst, .int .u32 ev.xfer, .int .u8 ev.ty, .int .u64 ev.arg, .int .u64 ev.badge, .slice xo ev.ws.length cx]), (6, .pointer (some ⟨(Z.tp x), 0, none⟩)), (7, .bool false), (18, .pointer (some ⟨mb, 0, none⟩)), (19, .agg #[.int .u8 ev.kind, .int .u32 ev.pick, .int .u64 ev.draw, .int .u32 ev.addr, .int .u32 ev.node, .int .u32 ev.dst, .int .u32 ev.xfer, .int .u8 ev.ty, .int .u64 ev.arg, .int .u64 ev.badge, .slice xo ev.ws.length cx])]) rfl
        have hhoh63 := hg2.mh.ho
        clear h61 h63a
        refine nd_batch tabOk2 tabZ_ok2 [(3, {}), (4, {}), (5, {}), (6, {})] [5, 4, 3, 0, 1, 6, 7, 21, 22, 23] (T' := [(5, .pointer (some ⟨b15, 0, none⟩)), (4, .pointer (some ⟨b8, 0, none⟩)), (3, .pointer (some ⟨b2, 0, none⟩)), (0, .pointer (some ⟨mb, 0, none⟩)), (1, .agg #[.int .u8 ev.kind, .int .u32 ev.pick, .int .u64 ev.draw, .int .u32 ev.addr, .int .u32 ev.node, .int .u32 ev.dst, .int .u32 ev.xfer, .int .u8 ev.ty, .int .u64 ev.arg, .int .u64 ev.badge, .slice xo ev.ws.length cx]), (6, .pointer (some ⟨(Z.tp x), 0, none⟩)), (7, .bool false), (21, .int .u8 0), (22, .bool true), (23, .pointer (some ⟨b15, 0, none⟩))]) (φ := True) (rest := [7, 8]) h63 (by kernel_rfl) rfl trivial fun a64 h65 => ?_
        clear h63
        refine nd_op ?_
        refine op_store tabOk2 {k := 3} (L' := [(3, ⟨[.int .u16 0, .int .u32 0], ty3, true⟩), (b2, ⟨[.int .u8 ev.kind, .int .u32 ev.pick, .int .u64 ev.draw, .int .u32 ev.addr, .int .u32 ev.node, .int .u32 ev.dst, .int .u32 ev.xfer, .int .u8 ev.ty, .int .u64 ev.arg, .int .u64 ev.badge, .slice xo ev.ws.length cx], 35, false⟩), (b8, ⟨[.int .u8 0, .int .u16 0, .int .u32 0, .int .u64 0, .int .u64 0, .int .u64 0, .int .u64 0, .int .u64 0, .int .u8 0, .int .u8 0], 42, false⟩), (b15, ⟨[.int .u8 0, .int .u16 0, .int .u32 0, .int .u64 0, .int .u64 0, .int .u64 0, .int .u64 0, .int .u64 0, .int .u8 0, .int .u8 0], 42, false⟩)]) (φ := b15 = b15 ∧ Nat.ble (0 + 1) 10 = true) h65 rfl rfl rfl (by kernel_rfl) ⟨rfl, rfl⟩ fun w66 h67 => ?_
        clear h65
        refine nd_batch tabOk2 tabZ_ok2 [(8, {})] [5, 4, 3, 0, 1, 6, 7] (T' := [(5, .pointer (some ⟨b15, 0, none⟩)), (4, .pointer (some ⟨b8, 0, none⟩)), (3, .pointer (some ⟨b2, 0, none⟩)), (0, .pointer (some ⟨mb, 0, none⟩)), (1, .agg #[.int .u8 ev.kind, .int .u32 ev.pick, .int .u64 ev.draw, .int .u32 ev.addr, .int .u32 ev.node, .int .u32 ev.dst, .int .u32 ev.xfer, .int .u8 ev.ty, .int .u64 ev.arg, .int .u64 ev.badge, .slice xo ev.ws.length cx]), (6, .pointer (some ⟨(Z.tp x), 0, none⟩)), (7, .bool true)]) (φ := True) (rest := []) h67 (by kernel_rfl) rfl trivial fun a68 h69 => ?_
        clear h67
        refine nd_done ?_
        refine hK59 _ _ ?_
        clear hK59
        refine wp_seq_k fun K70 hK70 => ?_
        refine nd_start (l := [0]) rfl ?_
        refine nd_batch tabOk2 tabZ_ok2 [(0, {})] [5, 4, 3, 0, 1, 6, 7, 24] (T' := [(5, .pointer (some ⟨b15, 0, none⟩)), (4, .pointer (some ⟨b8, 0, none⟩)), (3, .pointer (some ⟨b2, 0, none⟩)), (0, .pointer (some ⟨mb, 0, none⟩)), (1, .agg #[.int .u8 ev.kind, .int .u32 ev.pick, .int .u64 ev.draw, .int .u32 ev.addr, .int .u32 ev.node, .int .u32 ev.dst, .int .u32 ev.xfer, .int .u8 ev.ty, .int .u64 ev.arg, .int .u64 ev.badge, .slice xo ev.ws.length cx]), (6, .pointer (some ⟨(Z.tp x), 0, none⟩)), (7, .bool true), (24, .bool true)]) (φ := True) (rest := []) h69 (by kernel_rfl) rfl trivial fun a71 h72 => ?_
        clear h69
        refine nd_done ?_
        refine hK70 _ _ ?_
        clear hK70
        refine c_true h72 rfl ?_
        refine dr_start (KB := [3, b2, b8, b15, (Z.tp x)]) (Bi := [[0, 1, 2, 3, 4], [0, 1, 2, 3, 4], [0, 1, 2, 3, 4], [0, 1, 2, 3, 4], [0, 1, 2, 3, 4], [0, 1, 2, 3, 4], [0, 1, 2, 3, 4], [0, 1, 2, 3, 4], [0, 1, 2, 3, 4], [0, 1, 2, 3, 4], [0, 1, 2, 3, 4], [0, 1, 2, 3, 4], [0, 1, 2, 3, 4], [0, 1, 2, 3, 4], [0, 1, 2, 3, 4], [0, 1, 2, 3, 4], [0, 1, 2, 3, 4], [4], [0, 1, 2, 3, 4], [4], [0, 1, 2, 3, 4], [4], [0, 1, 2, 3, 4], []]) mixed h72 fun w73 h74 => ?_
        clear h72
        refine dr_batch tabOk2 tabZ_ok2 (by repeat (first | with_reducible exact PF.body | with_reducible apply PF.inB | with_reducible apply PF.next)) [(0, {}), (1, {}), (2, {})] [5, 4, 3, 0, 1, 6, 7, 27] (T' := [(5, .pointer (some ⟨b15, 0, none⟩)), (4, .pointer (some ⟨b8, 0, none⟩)), (3, .pointer (some ⟨b2, 0, none⟩)), (0, .pointer (some ⟨mb, 0, none⟩)), (1, .agg #[.int .u8 ev.kind, .int .u32 ev.pick, .int .u64 ev.draw, .int .u32 ev.addr, .int .u32 ev.node, .int .u32 ev.dst, .int .u32 ev.xfer, .int .u8 ev.ty, .int .u64 ev.arg, .int .u64 ev.badge, .slice xo ev.ws.length cx]), (6, .pointer (some ⟨(Z.tp x), 0, none⟩)), (7, .bool true), (27, .pointer (some ⟨(Z.tp x), 8, none⟩))]) (φ := True) (fuel := 21) h74 (by kernel_rfl) rfl (by kernel_rfl) (by kernel_rfl) ⟨trivial, trivial, trivial, trivial⟩ trivial fun a76 h77 => ?_
        clear h74
        refine dr_read (i := 3) (b := (Z.tp x)) (p := 4) (v := .int .u64 ((a2.th x).badge)) (fuel := 20) (by repeat (first | with_reducible exact PF.body | with_reducible apply PF.inB | with_reducible apply PF.next)) h77 rfl rfl rfl (by kernel_rfl) (by kernel_rfl) (by kernel_rfl) rfl (rd_th h77 (x := x) (k := 8) (v := .int .u64 ((a2.th x).badge)) hx rfl rfl rfl rfl ⟨rfl, trivial⟩) ?_
        have h78 := h77.put (d := some 28) (v := .int .u64 ((a2.th x).badge)) (T' := [(28, .int .u64 ((a2.th x).badge)), (5, .pointer (some ⟨b15, 0, none⟩)), (4, .pointer (some ⟨b8, 0, none⟩)), (3, .pointer (some ⟨b2, 0, none⟩)), (0, .pointer (some ⟨mb, 0, none⟩)), (1, .agg #[.int .u8 ev.kind, .int .u32 ev.pick, .int .u64 ev.draw, .int .u32 ev.addr, .int .u32 ev.node, .int .u32 ev.dst, .int .u32 ev.xfer, .int .u8 ev.ty, .int .u64 ev.arg, .int .u64 ev.badge, .slice xo ev.ws.length cx]), (6, .pointer (some ⟨(Z.tp x), 0, none⟩)), (7, .bool true), (27, .pointer (some ⟨(Z.tp x), 8, none⟩))]) rfl
        clear h77
        refine dr_batch tabOk2 tabZ_ok2 (by repeat (first | with_reducible exact PF.body | with_reducible apply PF.inB | with_reducible apply PF.next)) [(4, {}), (5, {}), (6, {})] [28, 5, 4, 3, 0, 1, 6, 7, 31] (T' := [(28, .int .u64 ((a2.th x).badge)), (5, .pointer (some ⟨b15, 0, none⟩)), (4, .pointer (some ⟨b8, 0, none⟩)), (3, .pointer (some ⟨b2, 0, none⟩)), (0, .pointer (some ⟨mb, 0, none⟩)), (1, .agg #[.int .u8 ev.kind, .int .u32 ev.pick, .int .u64 ev.draw, .int .u32 ev.addr, .int .u32 ev.node, .int .u32 ev.dst, .int .u32 ev.xfer, .int .u8 ev.ty, .int .u64 ev.arg, .int .u64 ev.badge, .slice xo ev.ws.length cx]), (6, .pointer (some ⟨(Z.tp x), 0, none⟩)), (7, .bool true), (31, .pointer (some ⟨(Z.tp x), 9, none⟩))]) (φ := True) (fuel := 17) h78 (by kernel_rfl) rfl (by kernel_rfl) (by kernel_rfl) ⟨trivial, trivial, trivial, trivial⟩ trivial fun a79 h80 => ?_
        clear h78
        refine dr_read (i := 7) (b := (Z.tp x)) (p := 4) (v := .agg #[.int .u64 ((a2.th x).m0), .int .u64 ((a2.th x).m1), .int .u64 ((a2.th x).m2), .int .u64 ((a2.th x).m3)]) (fuel := 16) (by repeat (first | with_reducible exact PF.body | with_reducible apply PF.inB | with_reducible apply PF.next)) h80 rfl rfl rfl (by kernel_rfl) (by kernel_rfl) (by kernel_rfl) rfl (rd_thA h80 (x := x) (k := 9) (vs := [.int .u64 ((a2.th x).m0), .int .u64 ((a2.th x).m1), .int .u64 ((a2.th x).m2), .int .u64 ((a2.th x).m3)]) hx rfl rfl rfl rfl rfl ⟨rfl, rfl, rfl, rfl, trivial⟩) ?_
        have h81 := h80.put (d := some 32) (v := .agg #[.int .u64 ((a2.th x).m0), .int .u64 ((a2.th x).m1), .int .u64 ((a2.th x).m2), .int .u64 ((a2.th x).m3)]) (T' := [(32, .agg #[.int .u64 ((a2.th x).m0), .int .u64 ((a2.th x).m1), .int .u64 ((a2.th x).m2), .int .u64 ((a2.th x).m3)]), (28, .int .u64 ((a2.th x).badge)), (5, .pointer (some ⟨b15, 0, none⟩)), (4, .pointer (some ⟨b8, 0, none⟩)), (3, .pointer (some ⟨b2, 0, none⟩)), (0, .pointer (some ⟨mb, 0, none⟩)), (1, .agg #[.int .u8 ev.kind, .int .u32 ev.pick, .int .u64 ev.draw, .int .u32 ev.addr, .int .u32 ev.node, .int .u32 ev.dst, .int .u32 ev.xfer, .int .u8 ev.ty, .int .u64 ev.arg, .int .u64 ev.badge, .slice xo ev.ws.length cx]), (6, .pointer (some ⟨(Z.tp x), 0, none⟩)), (7, .bool true), (31, .pointer (some ⟨(Z.tp x), 9, none⟩))]) rfl
        clear h80
        refine dr_batch tabOk2 tabZ_ok2 (by repeat (first | with_reducible exact PF.body | with_reducible apply PF.inB | with_reducible apply PF.next)) [(8, {}), (9, {}), (10, {})] [32, 28, 5, 4, 3, 0, 1, 6, 7, 35] (T' := [(32, .agg #[.int .u64 ((a2.th x).m0), .int .u64 ((a2.th x).m1), .int .u64 ((a2.th x).m2), .int .u64 ((a2.th x).m3)]), (28, .int .u64 ((a2.th x).badge)), (5, .pointer (some ⟨b15, 0, none⟩)), (4, .pointer (some ⟨b8, 0, none⟩)), (3, .pointer (some ⟨b2, 0, none⟩)), (0, .pointer (some ⟨mb, 0, none⟩)), (1, .agg #[.int .u8 ev.kind, .int .u32 ev.pick, .int .u64 ev.draw, .int .u32 ev.addr, .int .u32 ev.node, .int .u32 ev.dst, .int .u32 ev.xfer, .int .u8 ev.ty, .int .u64 ev.arg, .int .u64 ev.badge, .slice xo ev.ws.length cx]), (6, .pointer (some ⟨(Z.tp x), 0, none⟩)), (7, .bool true), (35, .pointer (some ⟨(Z.tp x), 13, none⟩))]) (φ := True) (fuel := 13) h81 (by kernel_rfl) rfl (by kernel_rfl) (by kernel_rfl) ⟨trivial, trivial, trivial, trivial⟩ trivial fun a82 h83 => ?_
        clear h81
        refine dr_read (i := 11) (b := (Z.tp x)) (p := 4) (v := .int .u8 ((a2.th x).len)) (fuel := 12) (by repeat (first | with_reducible exact PF.body | with_reducible apply PF.inB | with_reducible apply PF.next)) h83 rfl rfl rfl (by kernel_rfl) (by kernel_rfl) (by kernel_rfl) rfl (rd_th h83 (x := x) (k := 13) (v := .int .u8 ((a2.th x).len)) hx rfl rfl rfl rfl ⟨rfl, trivial⟩) ?_
        have h84 := h83.put (d := some 36) (v := .int .u8 ((a2.th x).len)) (T' := [(36, .int .u8 ((a2.th x).len)), (32, .agg #[.int .u64 ((a2.th x).m0), .int .u64 ((a2.th x).m1), .int .u64 ((a2.th x).m2), .int .u64 ((a2.th x).m3)]), (28, .int .u64 ((a2.th x).badge)), (5, .pointer (some ⟨b15, 0, none⟩)), (4, .pointer (some ⟨b8, 0, none⟩)), (3, .pointer (some ⟨b2, 0, none⟩)), (0, .pointer (some ⟨mb, 0, none⟩)), (1, .agg #[.int .u8 ev.kind, .int .u32 ev.pick, .int .u64 ev.draw, .int .u32 ev.addr, .int .u32 ev.node, .int .u32 ev.dst, .int .u32 ev.xfer, .int .u8 ev.ty, .int .u64 ev.arg, .int .u64 ev.badge, .slice xo ev.ws.length cx]), (6, .pointer (some ⟨(Z.tp x), 0, none⟩)), (7, .bool true), (35, .pointer (some ⟨(Z.tp x), 13, none⟩))]) rfl
        clear h83
        refine dr_batch tabOk2 tabZ_ok2 (by repeat (first | with_reducible exact PF.body | with_reducible apply PF.inB | with_reducible apply PF.next)) [(12, {}), (13, {}), (14, {})] [36, 32, 28, 5, 4, 3, 0, 1, 6, 7, 39] (T' := [(36, .int .u8 ((a2.th x).len)), (32, .agg #[.int .u64 ((a2.th x).m0), .int .u64 ((a2.th x).m1), .int .u64 ((a2.th x).m2), .int .u64 ((a2.th x).m3)]), (28, .int .u64 ((a2.th x).badge)), (5, .pointer (some ⟨b15, 0, none⟩)), (4, .pointer (some ⟨b8, 0, none⟩)), (3, .pointer (some ⟨b2, 0, none⟩)), (0, .pointer (some ⟨mb, 0, none⟩)), (1, .agg #[.int .u8 ev.kind, .int .u32 ev.pick, .int .u64 ev.draw, .int .u32 ev.addr, .int .u32 ev.node, .int .u32 ev.dst, .int .u32 ev.xfer, .int .u8 ev.ty, .int .u64 ev.arg, .int .u64 ev.badge, .slice xo ev.ws.length cx]), (6, .pointer (some ⟨(Z.tp x), 0, none⟩)), (7, .bool true), (39, .pointer (some ⟨(Z.tp x), 14, none⟩))]) (φ := True) (fuel := 9) h84 (by kernel_rfl) rfl (by kernel_rfl) (by kernel_rfl) ⟨trivial, trivial, trivial, trivial⟩ trivial fun a85 h86 => ?_
        clear h84
        refine dr_read (i := 15) (b := (Z.tp x)) (p := 4) (v := .int .u8 ((a2.th x).got)) (fuel := 8) (by repeat (first | with_reducible exact PF.body | with_reducible apply PF.inB | with_reducible apply PF.next)) h86 rfl rfl rfl (by kernel_rfl) (by kernel_rfl) (by kernel_rfl) rfl (rd_th h86 (x := x) (k := 14) (v := .int .u8 ((a2.th x).got)) hx rfl rfl rfl rfl ⟨rfl, trivial⟩) ?_
        have h87 := h86.put (d := some 40) (v := .int .u8 ((a2.th x).got)) (T' := [(40, .int .u8 ((a2.th x).got)), (36, .int .u8 ((a2.th x).len)), (32, .agg #[.int .u64 ((a2.th x).m0), .int .u64 ((a2.th x).m1), .int .u64 ((a2.th x).m2), .int .u64 ((a2.th x).m3)]), (28, .int .u64 ((a2.th x).badge)), (5, .pointer (some ⟨b15, 0, none⟩)), (4, .pointer (some ⟨b8, 0, none⟩)), (3, .pointer (some ⟨b2, 0, none⟩)), (0, .pointer (some ⟨mb, 0, none⟩)), (1, .agg #[.int .u8 ev.kind, .int .u32 ev.pick, .int .u64 ev.draw, .int .u32 ev.addr, .int .u32 ev.node, .int .u32 ev.dst, .int .u32 ev.xfer, .int .u8 ev.ty, .int .u64 ev.arg, .int .u64 ev.badge, .slice xo ev.ws.length cx]), (6, .pointer (some ⟨(Z.tp x), 0, none⟩)), (7, .bool true), (39, .pointer (some ⟨(Z.tp x), 14, none⟩))]) rfl
        clear h86
        refine dr_batch tabOk2 tabZ_ok2 (by repeat (first | with_reducible exact PF.body | with_reducible apply PF.inB | with_reducible apply PF.next)) [(16, {})] [40, 36, 32, 28, 5, 4, 3, 0, 1, 6, 7, 41] (T' := [(40, .int .u8 ((a2.th x).got)), (36, .int .u8 ((a2.th x).len)), (32, .agg #[.int .u64 ((a2.th x).m0), .int .u64 ((a2.th x).m1), .int .u64 ((a2.th x).m2), .int .u64 ((a2.th x).m3)]), (28, .int .u64 ((a2.th x).badge)), (5, .pointer (some ⟨b15, 0, none⟩)), (4, .pointer (some ⟨b8, 0, none⟩)), (3, .pointer (some ⟨b2, 0, none⟩)), (0, .pointer (some ⟨mb, 0, none⟩)), (1, .agg #[.int .u8 ev.kind, .int .u32 ev.pick, .int .u64 ev.draw, .int .u32 ev.addr, .int .u32 ev.node, .int .u32 ev.dst, .int .u32 ev.xfer, .int .u8 ev.ty, .int .u64 ev.arg, .int .u64 ev.badge, .slice xo ev.ws.length cx]), (6, .pointer (some ⟨(Z.tp x), 0, none⟩)), (7, .bool true), (41, .pointer (some ⟨b15, 3, none⟩))]) (φ := True) (fuel := 7) h87 (by kernel_rfl) rfl (by kernel_rfl) (by kernel_rfl) ⟨trivial, trivial⟩ trivial fun a88 h89 => ?_
        clear h87
        refine wpAnyK_one (i := 17) (fuel := 6) (by kernel_rfl) ?_
        refine op_store tabOk2 {k := 3} (L' := [(3, ⟨[.int .u16 0, .int .u32 0], ty3, true⟩), (b2, ⟨[.int .u8 ev.kind, .int .u32 ev.pick, .int .u64 ev.draw, .int .u32 ev.addr, .int .u32 ev.node, .int .u32 ev.dst, .int .u32 ev.xfer, .int .u8 ev.ty, .int .u64 ev.arg, .int .u64 ev.badge, .slice xo ev.ws.length cx], 35, false⟩), (b8, ⟨[.int .u8 0, .int .u16 0, .int .u32 0, .int .u64 0, .int .u64 0, .int .u64 0, .int .u64 0, .int .u64 0, .int .u8 0, .int .u8 0], 42, false⟩), (b15, ⟨[.int .u8 0, .int .u16 0, .int .u32 0, .int .u64 ((a2.th x).badge), .int .u64 0, .int .u64 0, .int .u64 0, .int .u64 0, .int .u8 0, .int .u8 0], 42, false⟩)]) (φ := b15 = b15 ∧ Nat.ble (3 + 1) 10 = true) h89 rfl rfl rfl (by kernel_rfl) ⟨rfl, rfl⟩ fun w90 h91 => ?_
        refine ⟨(keepCons ((h91.inv.1.th x hx).trans (h89.inv.1.th x hx).symm) keepNil), ?_⟩
        clear h89
        refine dr_batch tabOk2 tabZ_ok2 (by repeat (first | with_reducible exact PF.body | with_reducible apply PF.inB | with_reducible apply PF.next)) [(18, {})] [40, 36, 32, 5, 4, 3, 0, 1, 6, 7, 42] (T' := [(40, .int .u8 ((a2.th x).got)), (36, .int .u8 ((a2.th x).len)), (32, .agg #[.int .u64 ((a2.th x).m0), .int .u64 ((a2.th x).m1), .int .u64 ((a2.th x).m2), .int .u64 ((a2.th x).m3)]), (5, .pointer (some ⟨b15, 0, none⟩)), (4, .pointer (some ⟨b8, 0, none⟩)), (3, .pointer (some ⟨b2, 0, none⟩)), (0, .pointer (some ⟨mb, 0, none⟩)), (1, .agg #[.int .u8 ev.kind, .int .u32 ev.pick, .int .u64 ev.draw, .int .u32 ev.addr, .int .u32 ev.node, .int .u32 ev.dst, .int .u32 ev.xfer, .int .u8 ev.ty, .int .u64 ev.arg, .int .u64 ev.badge, .slice xo ev.ws.length cx]), (6, .pointer (some ⟨(Z.tp x), 0, none⟩)), (7, .bool true), (42, .pointer (some ⟨b15, 4, none⟩))]) (φ := True) (fuel := 5) h91 (by kernel_rfl) rfl (by kernel_rfl) (by kernel_rfl) ⟨trivial, trivial⟩ trivial fun a92 h93 => ?_
        clear h91
        refine wpAnyK_one (i := 19) (fuel := 4) (by kernel_rfl) ?_
        refine op_store tabOk2 {k := 3} (L' := [(3, ⟨[.int .u16 0, .int .u32 0], ty3, true⟩), (b2, ⟨[.int .u8 ev.kind, .int .u32 ev.pick, .int .u64 ev.draw, .int .u32 ev.addr, .int .u32 ev.node, .int .u32 ev.dst, .int .u32 ev.xfer, .int .u8 ev.ty, .int .u64 ev.arg, .int .u64 ev.badge, .slice xo ev.ws.length cx], 35, false⟩), (b8, ⟨[.int .u8 0, .int .u16 0, .int .u32 0, .int .u64 0, .int .u64 0, .int .u64 0, .int .u64 0, .int .u64 0, .int .u8 0, .int .u8 0], 42, false⟩), (b15, ⟨[.int .u8 0, .int .u16 0, .int .u32 0, .int .u64 ((a2.th x).badge), .int .u64 ((a2.th x).m0), .int .u64 ((a2.th x).m1), .int .u64 ((a2.th x).m2), .int .u64 ((a2.th x).m3), .int .u8 0, .int .u8 0], 42, false⟩)]) (φ := b15 = b15 ∧ Nat.ble (4 + 4) 10 = true) h93 rfl rfl rfl (by kernel_rfl) ⟨rfl, rfl⟩ fun w94 h95 => ?_
        refine ⟨(keepCons ((h95.inv.1.th x hx).trans (h93.inv.1.th x hx).symm) keepNil), ?_⟩
        clear h93
        refine dr_batch tabOk2 tabZ_ok2 (by repeat (first | with_reducible exact PF.body | with_reducible apply PF.inB | with_reducible apply PF.next)) [(20, {})] [40, 36, 5, 4, 3, 0, 1, 6, 7, 43] (T' := [(40, .int .u8 ((a2.th x).got)), (36, .int .u8 ((a2.th x).len)), (5, .pointer (some ⟨b15, 0, none⟩)), (4, .pointer (some ⟨b8, 0, none⟩)), (3, .pointer (some ⟨b2, 0, none⟩)), (0, .pointer (some ⟨mb, 0, none⟩)), (1, .agg #[.int .u8 ev.kind, .int .u32 ev.pick, .int .u64 ev.draw, .int .u32 ev.addr, .int .u32 ev.node, .int .u32 ev.dst, .int .u32 ev.xfer, .int .u8 ev.ty, .int .u64 ev.arg, .int .u64 ev.badge, .slice xo ev.ws.length cx]), (6, .pointer (some ⟨(Z.tp x), 0, none⟩)), (7, .bool true), (43, .pointer (some ⟨b15, 8, none⟩))]) (φ := True) (fuel := 3) h95 (by kernel_rfl) rfl (by kernel_rfl) (by kernel_rfl) ⟨trivial, trivial⟩ trivial fun a96 h97 => ?_
        clear h95
        refine wpAnyK_one (i := 21) (fuel := 2) (by kernel_rfl) ?_
        refine op_store tabOk2 {k := 3} (L' := [(3, ⟨[.int .u16 0, .int .u32 0], ty3, true⟩), (b2, ⟨[.int .u8 ev.kind, .int .u32 ev.pick, .int .u64 ev.draw, .int .u32 ev.addr, .int .u32 ev.node, .int .u32 ev.dst, .int .u32 ev.xfer, .int .u8 ev.ty, .int .u64 ev.arg, .int .u64 ev.badge, .slice xo ev.ws.length cx], 35, false⟩), (b8, ⟨[.int .u8 0, .int .u16 0, .int .u32 0, .int .u64 0, .int .u64 0, .int .u64 0, .int .u64 0, .int .u64 0, .int .u8 0, .int .u8 0], 42, false⟩), (b15, ⟨[.int .u8 0, .int .u16 0, .int .u32 0, .int .u64 ((a2.th x).badge), .int .u64 ((a2.th x).m0), .int .u64 ((a2.th x).m1), .int .u64 ((a2.th x).m2), .int .u64 ((a2.th x).m3), .int .u8 ((a2.th x).len), .int .u8 0], 42, false⟩)]) (φ := b15 = b15 ∧ Nat.ble (8 + 1) 10 = true) h97 rfl rfl rfl (by kernel_rfl) ⟨rfl, rfl⟩ fun w98 h99 => ?_
        refine ⟨(keepCons ((h99.inv.1.th x hx).trans (h97.inv.1.th x hx).symm) keepNil), ?_⟩
        clear h97
        refine dr_batch tabOk2 tabZ_ok2 (by repeat (first | with_reducible exact PF.body | with_reducible apply PF.inB | with_reducible apply PF.next)) [(22, {})] [40, 5, 4, 3, 0, 1, 6, 7, 44] (T' := [(40, .int .u8 ((a2.th x).got)), (5, .pointer (some ⟨b15, 0, none⟩)), (4, .pointer (some ⟨b8, 0, none⟩)), (3, .pointer (some ⟨b2, 0, none⟩)), (0, .pointer (some ⟨mb, 0, none⟩)), (1, .agg #[.int .u8 ev.kind, .int .u32 ev.pick, .int .u64 ev.draw, .int .u32 ev.addr, .int .u32 ev.node, .int .u32 ev.dst, .int .u32 ev.xfer, .int .u8 ev.ty, .int .u64 ev.arg, .int .u64 ev.badge, .slice xo ev.ws.length cx]), (6, .pointer (some ⟨(Z.tp x), 0, none⟩)), (7, .bool true), (44, .pointer (some ⟨b15, 9, none⟩))]) (φ := True) (fuel := 1) h99 (by kernel_rfl) rfl (by kernel_rfl) (by kernel_rfl) ⟨trivial, trivial⟩ trivial fun a100 h101 => ?_
        clear h99
        refine wpAnyK_one (i := 23) (fuel := 0) (by kernel_rfl) ?_
        refine op_store tabOk2 {k := 3} (L' := [(3, ⟨[.int .u16 0, .int .u32 0], ty3, true⟩), (b2, ⟨[.int .u8 ev.kind, .int .u32 ev.pick, .int .u64 ev.draw, .int .u32 ev.addr, .int .u32 ev.node, .int .u32 ev.dst, .int .u32 ev.xfer, .int .u8 ev.ty, .int .u64 ev.arg, .int .u64 ev.badge, .slice xo ev.ws.length cx], 35, false⟩), (b8, ⟨[.int .u8 0, .int .u16 0, .int .u32 0, .int .u64 0, .int .u64 0, .int .u64 0, .int .u64 0, .int .u64 0, .int .u8 0, .int .u8 0], 42, false⟩), (b15, ⟨[.int .u8 0, .int .u16 0, .int .u32 0, .int .u64 ((a2.th x).badge), .int .u64 ((a2.th x).m0), .int .u64 ((a2.th x).m1), .int .u64 ((a2.th x).m2), .int .u64 ((a2.th x).m3), .int .u8 ((a2.th x).len), .int .u8 ((a2.th x).got)], 42, false⟩)]) (φ := b15 = b15 ∧ Nat.ble (9 + 1) 10 = true) h101 rfl rfl rfl (by kernel_rfl) ⟨rfl, rfl⟩ fun w102 h103 => ?_
        refine ⟨keepNil, ?_⟩
        clear h101
        refine wpAnyK_done (by kernel_rfl) ?_ _
        refine hK21 _ _ ?_
        clear hK21
        refine wp_seq_k fun K104 hK104 => ?_
        refine wp_seq_k fun K105 hK105 => ?_
        refine nd_start (l := [0, 1, 2]) rfl ?_
        refine nd_batch tabOk2 tabZ_ok2 [(0, {}), (1, {k := 3}), (2, {})] [5, 4, 3, 0, 1, 6, 7, 143] (T' := [(5, .pointer (some ⟨b15, 0, none⟩)), (4, .pointer (some ⟨b8, 0, none⟩)), (3, .pointer (some ⟨b2, 0, none⟩)), (0, .pointer (some ⟨mb, 0, none⟩)), (1, .agg #[.int .u8 ev.kind, .int .u32 ev.pick, .int .u64 ev.draw, .int .u32 ev.addr, .int .u32 ev.node, .int .u32 ev.dst, .int .u32 ev.xfer, .int .u8 ev.ty, .int .u64 ev.arg, .int .u64 ev.badge, .slice xo ev.ws.length cx]), (6, .pointer (some ⟨(Z.tp x), 0, none⟩)), (7, .bool true), (143, .bool true)]) (φ := (b15 = b15 ∧ Nat.ble (0 + 1) 10 = true) ∧ True) (rest := []) h103 (by kernel_rfl) rfl ⟨⟨rfl, rfl⟩, trivial⟩ fun a106 h107 => ?_
        clear h103
        refine nd_done ?_
        refine hK105 _ _ ?_
        clear hK105
        refine c_true h107 rfl ?_
        refine nd_start (l := [0, 1, 2, 3]) rfl ?_
        refine nd_batch tabOk2 tabZ_ok2 [(0, {}), (1, {}), (2, {k := 1})] [5, 4, 3, 0, 1, 6, 7, 144, 146] (T' := [(5, .pointer (some ⟨b15, 0, none⟩)), (4, .pointer (some ⟨b8, 0, none⟩)), (3, .pointer (some ⟨b2, 0, none⟩)), (0, .pointer (some ⟨mb, 0, none⟩)), (1, .agg #[.int .u8 ev.kind, .int .u32 ev.pick, .int .u64 ev.draw, .int .u32 ev.addr, .int .u32 ev.node, .int .u32 ev.dst, .int .u32 ev.xfer, .int .u8 ev.ty, .int .u64 ev.arg, .int .u64 ev.badge, .slice xo ev.ws.length cx]), (6, .pointer (some ⟨(Z.tp x), 0, none⟩)), (7, .bool true), (144, .pointer (some ⟨mb, 0, none⟩)), (146, .int .u32 ev.pick)]) (φ := (b2 = b2 ∧ Nat.ble (1 + 1) 11 = true) ∧ True) (rest := [3]) h107 (by kernel_rfl) rfl ⟨⟨rfl, rfl⟩, trivial⟩ fun a108 h109 => ?_
        clear h107
        refine nd_op ?_
        refine op_call h109 rfl rfl rfl (callOk Tryd.func56 (by decide) rfl) (args := [.pointer (some ⟨mb, 0, none⟩), .int .u32 ev.pick]) rfl (choose_ok mb Z _ a2 C2 ev.pick he.pick hP2 _ (mh_of h109 hhoh63 (k := 0) rfl)) ?_
        rintro _ w110 ⟨rfl, R111, hg112⟩
        refine ⟨_, rfl, ?_⟩
        have h113a := st_mg h109 hg112 (kcons (fun _ => rfl) (kcons (fun hq => by cases hq) (kcons (fun hq => by cases hq) (kcons (fun hq => by cases hq) knil))))
        have h113 := h113a.put (d := some 147) (v := .tuple #[]) (T' := [(147, .tuple #[]), (5, .pointer (some ⟨b15, 0, none⟩)), (4, .pointer (some ⟨b8, 0, none⟩)), (3, .pointer (some ⟨b2, 0, none⟩)), (0, .pointer (some ⟨mb, 0, none⟩)), (1, .agg #[.int .u8 ev.kind, .int .u32 ev.pick, .int .u64 ev.draw, .int .u32 ev.addr, .int .u32 ev.node, .int .u32 ev.dst, .int .u32 ev.xfer, .int .u8 ev.ty, .int .u64 ev.arg, .int .u64 ev.badge, .slice xo ev.ws.length cx]), (6, .pointer (some ⟨(Z.tp x), 0, none⟩)), (7, .bool true), (144, .pointer (some ⟨mb, 0, none⟩)), (146, .int .u32 ev.pick)]) rfl
        have hhoh113 := hg112.mh.ho
        obtain ⟨a114, ea114⟩ : ∃ z : AK, z = schedA a2 ev.pick := ⟨_, rfl⟩
        rw [← ea114] at h113
        clear h109 h113a
        refine nd_done ?_
        refine hK104 _ _ ?_
        clear hK104
        refine wp_seq_k fun K115 hK115 => ?_
        refine nd_start (l := [0, 1, 2, 3, 4, 5]) rfl ?_
        refine nd_batch tabOk2 tabZ_ok2 [(0, {}), (1, {}), (2, {})] [5, 4, 3, 0, 1, 6, 7, 150] (T' := [(5, .pointer (some ⟨b15, 0, none⟩)), (4, .pointer (some ⟨b8, 0, none⟩)), (3, .pointer (some ⟨b2, 0, none⟩)), (0, .pointer (some ⟨mb, 0, none⟩)), (1, .agg #[.int .u8 ev.kind, .int .u32 ev.pick, .int .u64 ev.draw, .int .u32 ev.addr, .int .u32 ev.node, .int .u32 ev.dst, .int .u32 ev.xfer, .int .u8 ev.ty, .int .u64 ev.arg, .int .u64 ev.badge, .slice xo ev.ws.length cx]), (6, .pointer (some ⟨(Z.tp x), 0, none⟩)), (7, .bool true), (150, .pointer (some ⟨mb, 13, none⟩))]) (φ := True) (rest := [3, 4, 5]) h113 (by kernel_rfl) rfl trivial fun a116 h117 => ?_
        clear h113
        refine nd_op ?_
        refine op_read (b := mb) (v := .agg #[.int .u16 ((curR Z a114).idx), .int .u32 ((curR Z a114).gen)]) h117 rfl rfl (rd_mA h117 (k := 13) (vs := [.int .u16 ((curR Z a114).idx), .int .u32 ((curR Z a114).gen)]) rfl rfl rfl rfl rfl md_cur) ?_
        have h118 := h117.put (d := some 151) (v := .agg #[.int .u16 ((curR Z a114).idx), .int .u32 ((curR Z a114).gen)]) (T' := [(151, .agg #[.int .u16 ((curR Z a114).idx), .int .u32 ((curR Z a114).gen)]), (5, .pointer (some ⟨b15, 0, none⟩)), (4, .pointer (some ⟨b8, 0, none⟩)), (3, .pointer (some ⟨b2, 0, none⟩)), (0, .pointer (some ⟨mb, 0, none⟩)), (1, .agg #[.int .u8 ev.kind, .int .u32 ev.pick, .int .u64 ev.draw, .int .u32 ev.addr, .int .u32 ev.node, .int .u32 ev.dst, .int .u32 ev.xfer, .int .u8 ev.ty, .int .u64 ev.arg, .int .u64 ev.badge, .slice xo ev.ws.length cx]), (6, .pointer (some ⟨(Z.tp x), 0, none⟩)), (7, .bool true), (150, .pointer (some ⟨mb, 13, none⟩))]) rfl
        clear h117
        refine nd_batch tabOk2 tabZ_ok2 [(4, {})] [151, 5, 4, 3, 0, 1, 6, 7, 152] (T' := [(151, .agg #[.int .u16 ((curR Z a114).idx), .int .u32 ((curR Z a114).gen)]), (5, .pointer (some ⟨b15, 0, none⟩)), (4, .pointer (some ⟨b8, 0, none⟩)), (3, .pointer (some ⟨b2, 0, none⟩)), (0, .pointer (some ⟨mb, 0, none⟩)), (1, .agg #[.int .u8 ev.kind, .int .u32 ev.pick, .int .u64 ev.draw, .int .u32 ev.addr, .int .u32 ev.node, .int .u32 ev.dst, .int .u32 ev.xfer, .int .u8 ev.ty, .int .u64 ev.arg, .int .u64 ev.badge, .slice xo ev.ws.length cx]), (6, .pointer (some ⟨(Z.tp x), 0, none⟩)), (7, .bool true), (152, .pointer (some ⟨b15, 1, none⟩))]) (φ := True) (rest := [5]) h118 (by kernel_rfl) rfl trivial fun a119 h120 => ?_
        clear h118
        refine nd_op ?_
        refine op_store tabOk2 {k := 3} (L' := [(3, ⟨[.int .u16 0, .int .u32 0], ty3, true⟩), (b2, ⟨[.int .u8 ev.kind, .int .u32 ev.pick, .int .u64 ev.draw, .int .u32 ev.addr, .int .u32 ev.node, .int .u32 ev.dst, .int .u32 ev.xfer, .int .u8 ev.ty, .int .u64 ev.arg, .int .u64 ev.badge, .slice xo ev.ws.length cx], 35, false⟩), (b8, ⟨[.int .u8 0, .int .u16 0, .int .u32 0, .int .u64 0, .int .u64 0, .int .u64 0, .int .u64 0, .int .u64 0, .int .u8 0, .int .u8 0], 42, false⟩), (b15, ⟨[.int .u8 0, .int .u16 ((curR Z a114).idx), .int .u32 ((curR Z a114).gen), .int .u64 ((a2.th x).badge), .int .u64 ((a2.th x).m0), .int .u64 ((a2.th x).m1), .int .u64 ((a2.th x).m2), .int .u64 ((a2.th x).m3), .int .u8 ((a2.th x).len), .int .u8 ((a2.th x).got)], 42, false⟩)]) (φ := b15 = b15 ∧ Nat.ble (1 + 2) 10 = true) h120 rfl rfl rfl (by kernel_rfl) ⟨rfl, rfl⟩ fun w121 h122 => ?_
        clear h120
        refine nd_done ?_
        refine hK115 _ _ ?_
        clear hK115
        refine wp_seq_k fun K123 hK123 => ?_
        refine nd_start (l := [0, 1]) rfl ?_
        refine nd_batch tabOk2 tabZ_ok2 [(0, {k := 3})] [5, 4, 3, 0, 1, 6, 7, 153] (T' := [(5, .pointer (some ⟨b15, 0, none⟩)), (4, .pointer (some ⟨b8, 0, none⟩)), (3, .pointer (some ⟨b2, 0, none⟩)), (0, .pointer (some ⟨mb, 0, none⟩)), (1, .agg #[.int .u8 ev.kind, .int .u32 ev.pick, .int .u64 ev.draw, .int .u32 ev.addr, .int .u32 ev.node, .int .u32 ev.dst, .int .u32 ev.xfer, .int .u8 ev.ty, .int .u64 ev.arg, .int .u64 ev.badge, .slice xo ev.ws.length cx]), (6, .pointer (some ⟨(Z.tp x), 0, none⟩)), (7, .bool true), (153, .agg #[.int .u8 0, .int .u16 ((curR Z a114).idx), .int .u32 ((curR Z a114).gen), .int .u64 ((a2.th x).badge), .int .u64 ((a2.th x).m0), .int .u64 ((a2.th x).m1), .int .u64 ((a2.th x).m2), .int .u64 ((a2.th x).m3), .int .u8 ((a2.th x).len), .int .u8 ((a2.th x).got)])]) (φ := (b15 = b15 ∧ Nat.ble (0 + 10) 10 = true) ∧ True) (rest := [1]) h122 (by kernel_rfl) rfl ⟨⟨rfl, rfl⟩, trivial⟩ fun a124 h125 => ?_
        clear h122
        refine nd_op ?_
        refine op_store tabOk2 {k := 2} (L' := [(3, ⟨[.int .u16 0, .int .u32 0], ty3, true⟩), (b2, ⟨[.int .u8 ev.kind, .int .u32 ev.pick, .int .u64 ev.draw, .int .u32 ev.addr, .int .u32 ev.node, .int .u32 ev.dst, .int .u32 ev.xfer, .int .u8 ev.ty, .int .u64 ev.arg, .int .u64 ev.badge, .slice xo ev.ws.length cx], 35, false⟩), (b8, ⟨[.int .u8 0, .int .u16 ((curR Z a114).idx), .int .u32 ((curR Z a114).gen), .int .u64 ((a2.th x).badge), .int .u64 ((a2.th x).m0), .int .u64 ((a2.th x).m1), .int .u64 ((a2.th x).m2), .int .u64 ((a2.th x).m3), .int .u8 ((a2.th x).len), .int .u8 ((a2.th x).got)], 42, false⟩), (b15, ⟨[.int .u8 0, .int .u16 ((curR Z a114).idx), .int .u32 ((curR Z a114).gen), .int .u64 ((a2.th x).badge), .int .u64 ((a2.th x).m0), .int .u64 ((a2.th x).m1), .int .u64 ((a2.th x).m2), .int .u64 ((a2.th x).m3), .int .u8 ((a2.th x).len), .int .u8 ((a2.th x).got)], 42, false⟩)]) (φ := b8 = b8 ∧ Nat.ble (0 + 10) 10 = true) h125 rfl rfl rfl (by kernel_rfl) ⟨rfl, rfl⟩ fun w126 h127 => ?_
        clear h125
        refine nd_done ?_
        refine hK123 _ _ ?_
        clear hK123
        refine wp_ret ?_
        try simp only [Exit.then, Exit.inBlock]
        try rw [if_pos trivial]
        exact s_ret tabOk2 tabZ_ok2 h127 [(.cell 4 42, {k := 2})] (vs := [.agg #[.int .u8 0, .int .u16 ((curR Z a114).idx), .int .u32 ((curR Z a114).gen), .int .u64 ((a2.th x).badge), .int .u64 ((a2.th x).m0), .int .u64 ((a2.th x).m1), .int .u64 ((a2.th x).m2), .int .u64 ((a2.th x).m3), .int .u8 ((a2.th x).len), .int .u8 ((a2.th x).got)]]) (φ := (b8 = b8 ∧ Nat.ble (0 + 10) 10 = true) ∧ True) rfl (by kernel_rfl) ⟨⟨rfl, rfl⟩, trivial⟩ (by subst ea114; exact ⟨_, _, rfl, mg_end hH h127 hhoh113 rfl, hQ2⟩)

end Go.Proofs.Qxb6500918aDoor
