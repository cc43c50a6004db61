/-
  Step. (Made by program: a symbolic walk that prints its steps.)
-/
import Derived.Test.Qxb6500918aDoorKQ
import Derived.Test.Qxb6500918aDoorLd
namespace Go.Proofs.Qxb6500918aDoor
open Go.Sx Go.Kn
set_option maxRecDepth 100000
set_option maxHeartbeats 4000000
set_option linter.unusedVariables false
set_option linter.unusedSimpArgs false

theorem step0_tick {S : KP} {C : CP} {ev : Ev} (h : ev.kind = 0) : step0 S C ev = (if S.cur ≠ -1 then wakeP { S with now := IntKind.wrap .u64 (S.now + 1) } S.cur else { S with now := IntKind.wrap .u64 (S.now + 1) }, C, out0) := by
  unfold step0
  rw [if_pos h]

theorem words_add {K : List Nat} {w w' : World} {o : Option Addr} {ws : List Int} {b : Nat} (h : WordsAt K w o ws) (hf : Fr K w w') (hb : w.heap.size ≤ b) : WordsAt (b :: K) w' o ws := by
  rcases h with h | ⟨c, k, h1, h2, h3, h4⟩
  · exact .inl h
  · refine .inr ⟨c, k, h1, Nat.lt_of_lt_of_le h2 hf.size, cellsAt_fr h3 hf h2 h4, ?_⟩
    intro hq
    rcases List.mem_cons.1 hq with e | e
    · omega
    · exact h4 e

theorem step_ok (kb bo bc : Nat) (nd : Nat → Nat) (S : KP) (rS : RI S) (C : CP) (lS : LI S) (hC : CI C) (ev : Ev) (he : EvOk ev) (xo : Option Addr) (cx : Nat) (w : World) (hb : w.heap[kb]? = some (Blk.obj ⟨kC bo bc S, 90, false⟩)) (hc : CapAt w bo bc nd C) (hdkb : kb ∉ capF bo bc nd C) (hg : CellsAt w 1 0 (tcbC noT)) (hgs : 1 < w.heap.size) (hgk : 1 ≠ kb) (hgc : 1 ∉ capF bo bc nd C) (hws : WordsAt (kb :: capF bo bc nd C) w xo ev.ws) :
    Calls Tryd.prog 14 #[.pointer (some ⟨kb, 0, none⟩), .agg #[.int .u8 ev.kind, .int .u32 ev.pick, .int .u64 ev.draw, .int .u32 ev.addr, .int .u32 ev.node, .int .u32 ev.dst, .int .u32 ev.xfer, .int .u8 ev.ty, .int .u64 ev.arg, .int .u64 ev.badge, .slice xo ev.ws.length cx]] w fun e w' => e = .returned (.agg (outC (stepP S C ev).2.2).toArray) ∧ w'.heap[kb]? = some (Blk.obj ⟨kC bo bc (stepP S C ev).1, 90, false⟩) ∧ ∃ nd', CapAt w' bo bc nd' (stepP S C ev).2.1 ∧ (∀ x ∈ capF bo bc nd' (stepP S C ev).2.1, x ∈ capF bo bc nd C ∨ w.heap.size ≤ x) ∧ Fr (kb :: capF bo bc nd C) w w' := by
  refine enter (n := 68) (K := (kb :: capF bo bc nd C)) (A := fun w => CapAt w bo bc nd C) (F := (capF bo bc nd C)) (T := [(0, .pointer (some ⟨kb, 0, none⟩)), (1, .agg #[.int .u8 ev.kind, .int .u32 ev.pick, .int .u64 ev.draw, .int .u32 ev.addr, .int .u32 ev.node, .int .u32 ev.dst, .int .u32 ev.xfer, .int .u8 ev.ty, .int .u64 ev.arg, .int .u64 ev.badge, .slice xo ev.ws.length cx])]) (L := [(kb, ⟨kC bo bc S, 90, false⟩)]) (args := [.pointer (some ⟨kb, 0, none⟩), .agg #[.int .u8 ev.kind, .int .u32 ev.pick, .int .u64 ev.draw, .int .u32 ev.addr, .int .u32 ev.node, .int .u32 ev.dst, .int .u32 ev.xfer, .int .u8 ev.ty, .int .u64 ev.arg, .int .u64 ev.badge, .slice xo ev.ws.length cx]]) Tryd.func14 rfl rfl rfl rfl (kcons hb knil) (by simp) (kcons (fun _ => by simp) knil) hc CapAt.stable hc.low (kcons (fun _ => hdkb) knil) ?_
  intro a h
  refine wp_seq_k fun K1 hK1 => ?_
  refine nd_start (l := [0, 1]) rfl ?_
  refine nd_op ?_
  refine op_new tabOk (cells := [.int .u8 ev.kind, .int .u32 ev.pick, .int .u64 ev.draw, .int .u32 ev.addr, .int .u32 ev.node, .int .u32 ev.dst, .int .u32 ev.xfer, .int .u8 ev.ty, .int .u64 ev.arg, .int .u64 ev.badge, .slice xo ev.ws.length cx]) (ty := 35) (ln := none) (L1 := fun b2 => [(kb, ⟨kC bo bc S, 90, false⟩), (b2, ⟨[.int .u8 ev.kind, .int .u32 ev.pick, .int .u64 ev.draw, .int .u32 ev.addr, .int .u32 ev.node, .int .u32 ev.dst, .int .u32 ev.xfer, .int .u8 ev.ty, .int .u64 ev.arg, .int .u64 ev.badge, .slice xo ev.ws.length cx], 35, false⟩)]) h rfl rfl rfl rfl (by kernel_rfl) (fun _ => rfl) fun b2 w3 a4 h5 hf6 hn7 => ?_
  clear h
  refine nd_op ?_
  refine op_new tabOk (cells := [.int .u8 0, .int .u16 0, .int .u32 0, .int .u64 0, .int .u64 0, .int .u64 0, .int .u64 0, .int .u64 0, .int .u8 0, .int .u8 0]) (ty := 42) (ln := none) (L1 := fun b8 => [(kb, ⟨kC bo bc S, 90, false⟩), (b2, ⟨[.int .u8 ev.kind, .int .u32 ev.pick, .int .u64 ev.draw, .int .u32 ev.addr, .int .u32 ev.node, .int .u32 ev.dst, .int .u32 ev.xfer, .int .u8 ev.ty, .int .u64 ev.arg, .int .u64 ev.badge, .slice xo ev.ws.length cx], 35, false⟩), (b8, ⟨[.int .u8 0, .int .u16 0, .int .u32 0, .int .u64 0, .int .u64 0, .int .u64 0, .int .u64 0, .int .u64 0, .int .u8 0, .int .u8 0], 42, false⟩)]) h5 rfl rfl rfl rfl (by kernel_rfl) (fun _ => rfl) fun b8 w9 a10 h11 hf12 hn13 => ?_
  clear h5
  refine nd_done ?_
  refine hK1 _ _ ?_
  clear hK1
  refine wp_seq_k fun K14 hK14 => ?_
  refine nd_start (l := [0]) rfl ?_
  refine nd_op ?_
  refine op_new tabOk (cells := [.int .u8 0, .int .u16 0, .int .u32 0, .int .u64 0, .int .u64 0, .int .u64 0, .int .u64 0, .int .u64 0, .int .u8 0, .int .u8 0]) (ty := 42) (ln := none) (L1 := fun b15 => [(kb, ⟨kC bo bc S, 90, false⟩), (b2, ⟨[.int .u8 ev.kind, .int .u32 ev.pick, .int .u64 ev.draw, .int .u32 ev.addr, .int .u32 ev.node, .int .u32 ev.dst, .int .u32 ev.xfer, .int .u8 ev.ty, .int .u64 ev.arg, .int .u64 ev.badge, .slice xo ev.ws.length cx], 35, false⟩), (b8, ⟨[.int .u8 0, .int .u16 0, .int .u32 0, .int .u64 0, .int .u64 0, .int .u64 0, .int .u64 0, .int .u64 0, .int .u8 0, .int .u8 0], 42, false⟩), (b15, ⟨[.int .u8 0, .int .u16 0, .int .u32 0, .int .u64 0, .int .u64 0, .int .u64 0, .int .u64 0, .int .u64 0, .int .u8 0, .int .u8 0], 42, false⟩)]) h11 rfl rfl rfl rfl (by kernel_rfl) (fun _ => rfl) fun b15 w16 a17 h18 hf19 hn20 => ?_
  clear h11
  refine nd_done ?_
  refine hK14 _ _ ?_
  clear hK14
  refine wp_seq_k fun K21 hK21 => ?_
  have hm24 : ∀ (Sk : KP) (Ck : CP) (ndk : Nat → Nat) (ok : Outp) (ca : Act) (cw : World), (RI Sk) → (LI Sk) → (∀ x ∈ capF bo bc ndk Ck, x ∈ capF bo bc nd C ∨ w.heap.size ≤ x) → (step0 S C ev = (Sk, Ck, ok)) → (kb ∉ capF bo bc ndk Ck) → St ⟨68, (kb :: capF bo bc nd C), w, fun w => CapAt w bo bc ndk Ck, capF bo bc ndk Ck⟩ [(5, .pointer (some ⟨b15, 0, none⟩)), (4, .pointer (some ⟨b8, 0, none⟩)), (3, .pointer (some ⟨b2, 0, none⟩)), (0, .pointer (some ⟨kb, 0, none⟩)), (1, .agg #[.int .u8 ev.kind, .int .u32 ev.pick, .int .u64 ev.draw, .int .u32 ev.addr, .int .u32 ev.node, .int .u32 ev.dst, .int .u32 ev.xfer, .int .u8 ev.ty, .int .u64 ev.arg, .int .u64 ev.badge, .slice xo ev.ws.length cx])] [(kb, ⟨kC bo bc Sk, 90, false⟩), (b2, ⟨[.int .u8 ev.kind, .int .u32 ev.pick, .int .u64 ev.draw, .int .u32 ev.addr, .int .u32 ev.node, .int .u32 ev.dst, .int .u32 ev.xfer, .int .u8 ev.ty, .int .u64 ev.arg, .int .u64 ev.badge, .slice xo ev.ws.length cx], 35, false⟩), (b8, ⟨[.int .u8 0, .int .u16 0, .int .u32 0, .int .u64 0, .int .u64 0, .int .u64 0, .int .u64 0, .int .u64 0, .int .u8 0, .int .u8 0], 42, false⟩), (b15, ⟨outC ok, 42, false⟩)] ca cw → K21 ca cw := by
    intro Sk Ck ndk ok a22 w23 hi26 hi27 hi28 hi29 hi30 h25
    have rSk := hi26
    have lSk := hi27
    have hsubk := hi28
    have hst0 := hi29
    have hnk := hi30
    refine hK21 _ _ ?_
    refine wp_seq_k fun K31 hK31 => ?_
    refine wp_seq_k fun K32 hK32 => ?_
    refine nd_start (l := [0, 1, 2]) rfl ?_
    refine nd_batch tabOk tabZ_ok [(0, {}), (1, {k := 3}), (2, {})] [5, 4, 3, 0, 1, 55] (T' := [(5, .pointer (some ⟨b15, 0, none⟩)), (4, .pointer (some ⟨b8, 0, none⟩)), (3, .pointer (some ⟨b2, 0, none⟩)), (0, .pointer (some ⟨kb, 0, none⟩)), (1, .agg #[.int .u8 ev.kind, .int .u32 ev.pick, .int .u64 ev.draw, .int .u32 ev.addr, .int .u32 ev.node, .int .u32 ev.dst, .int .u32 ev.xfer, .int .u8 ev.ty, .int .u64 ev.arg, .int .u64 ev.badge, .slice xo ev.ws.length cx]), (55, .bool (ok.code == 0))]) (φ := (b15 = b15 ∧ Nat.ble (0 + 1) 10 = true) ∧ True) (rest := []) h25 (by kernel_rfl) rfl ⟨⟨rfl, rfl⟩, trivial⟩ fun a33 h34 => ?_
    clear h25
    refine nd_done ?_
    refine hK32 _ _ ?_
    clear hK32
    refine c_split h34 (b := (ok.code == 0)) rfl (fun hc35 => ?_) (fun hc35 => ?_)
    ·
      have hc35f : ok.code = 0 := by simpa using hc35
      refine nd_start (l := [0, 1, 2, 3]) rfl ?_
      refine nd_batch tabOk tabZ_ok [(0, {}), (1, {}), (2, {k := 1})] [5, 4, 3, 0, 1, 56, 58] (T' := [(5, .pointer (some ⟨b15, 0, none⟩)), (4, .pointer (some ⟨b8, 0, none⟩)), (3, .pointer (some ⟨b2, 0, none⟩)), (0, .pointer (some ⟨kb, 0, none⟩)), (1, .agg #[.int .u8 ev.kind, .int .u32 ev.pick, .int .u64 ev.draw, .int .u32 ev.addr, .int .u32 ev.node, .int .u32 ev.dst, .int .u32 ev.xfer, .int .u8 ev.ty, .int .u64 ev.arg, .int .u64 ev.badge, .slice xo ev.ws.length cx]), (56, .pointer (some ⟨kb, 0, none⟩)), (58, .int .u32 ev.pick)]) (φ := (b2 = b2 ∧ Nat.ble (1 + 1) 11 = true) ∧ True) (rest := [3]) h34 (by kernel_rfl) rfl ⟨⟨rfl, rfl⟩, trivial⟩ fun a36 h37 => ?_
      clear h34
      refine nd_op ?_
      obtain ⟨Qk, hQk⟩ := lSk
      refine op_call h37 rfl rfl rfl (callOk Tryd.func50 (by decide) rfl) (args := [.pointer (some ⟨kb, 0, none⟩), .int .u32 ev.pick]) rfl (sched_walk kb bo bc Sk rSk Qk hQk ev.pick he.pick.1 _ (h37.kn (k := 0) rfl)) ?_
      rintro _ w41 ⟨rfl, hb39, hf40⟩
      refine ⟨_, rfl, ?_⟩
      obtain ⟨S38, eS38⟩ : ∃ S9, S9 = schedP Sk ev.pick := ⟨_, rfl⟩
      rw [← eS38] at hb39
      have rS38 : RI S38 := by rw [eS38]; exact (sched_ok rSk ⟨Qk, hQk⟩ he.pick.1).1
      have h42 := (h37.setBlk (k := 0) rfl rfl hf40 hb39 (L' := [(kb, ⟨kC bo bc S38, 90, false⟩), (b2, ⟨[.int .u8 ev.kind, .int .u32 ev.pick, .int .u64 ev.draw, .int .u32 ev.addr, .int .u32 ev.node, .int .u32 ev.dst, .int .u32 ev.xfer, .int .u8 ev.ty, .int .u64 ev.arg, .int .u64 ev.badge, .slice xo ev.ws.length cx], 35, false⟩), (b8, ⟨[.int .u8 0, .int .u16 0, .int .u32 0, .int .u64 0, .int .u64 0, .int .u64 0, .int .u64 0, .int .u64 0, .int .u8 0, .int .u8 0], 42, false⟩), (b15, ⟨outC ok, 42, false⟩)]) rfl).put (d := some 59) (v := .tuple #[]) (T' := [(59, .tuple #[]), (5, .pointer (some ⟨b15, 0, none⟩)), (4, .pointer (some ⟨b8, 0, none⟩)), (3, .pointer (some ⟨b2, 0, none⟩)), (0, .pointer (some ⟨kb, 0, none⟩)), (1, .agg #[.int .u8 ev.kind, .int .u32 ev.pick, .int .u64 ev.draw, .int .u32 ev.addr, .int .u32 ev.node, .int .u32 ev.dst, .int .u32 ev.xfer, .int .u8 ev.ty, .int .u64 ev.arg, .int .u64 ev.badge, .slice xo ev.ws.length cx]), (56, .pointer (some ⟨kb, 0, none⟩)), (58, .int .u32 ev.pick)]) rfl
      clear h37
      refine nd_done ?_
      refine hK31 _ _ ?_
      clear hK31
      refine wp_seq_k fun K43 hK43 => ?_
      refine nd_start (l := [0, 1, 2, 3, 4, 5, 6, 7]) rfl ?_
      refine nd_batch tabOk tabZ_ok [(0, {}), (1, {}), (2, {}), (3, {}), (4, {k := 0, m := 1, vs := [.int .i16 S38.cur]})] [5, 4, 3, 0, 1, 60, 64] (T' := [(5, .pointer (some ⟨b15, 0, none⟩)), (4, .pointer (some ⟨b8, 0, none⟩)), (3, .pointer (some ⟨b2, 0, none⟩)), (0, .pointer (some ⟨kb, 0, none⟩)), (1, .agg #[.int .u8 ev.kind, .int .u32 ev.pick, .int .u64 ev.draw, .int .u32 ev.addr, .int .u32 ev.node, .int .u32 ev.dst, .int .u32 ev.xfer, .int .u8 ev.ty, .int .u64 ev.arg, .int .u64 ev.badge, .slice xo ev.ws.length cx]), (60, .pointer (some ⟨kb, 0, none⟩)), (64, .int .i16 S38.cur)]) (φ := (kb = kb ∧ cellsAre (kC bo bc S38) 6427 [.int .i16 S38.cur]) ∧ True) (rest := [5, 6, 7]) h42 (by kernel_rfl) rfl ⟨⟨rfl, k_cur⟩, trivial⟩ fun a44 h45 => ?_
      clear h42
      refine nd_op ?_
      refine op_call h45 rfl rfl rfl (callOk Tryd.func51 (by decide) rfl) (args := [.pointer (some ⟨kb, 0, none⟩), .int .i16 S38.cur]) rfl (ref_ok kb bo bc S38 Ck.ent S38.cur rS38.cur _ (h45.kn (k := 0) (blk := ⟨kC bo bc S38, 90, false⟩) rfl) h45.inv.st (fun hq => hnk (mem_capF.2 (.inl hq)))) ?_
      rintro _ w46 ⟨rfl, hf48⟩
      refine ⟨_, rfl, ?_⟩
      have h47 := (h45.grow hf48).put (d := some 65) (v := .agg #[.int .u16 ((refP Ck.ent S38.cur).idx), .int .u32 ((refP Ck.ent S38.cur).gen)]) (T' := [(65, .agg #[.int .u16 ((refP Ck.ent S38.cur).idx), .int .u32 ((refP Ck.ent S38.cur).gen)]), (5, .pointer (some ⟨b15, 0, none⟩)), (4, .pointer (some ⟨b8, 0, none⟩)), (3, .pointer (some ⟨b2, 0, none⟩)), (0, .pointer (some ⟨kb, 0, none⟩)), (1, .agg #[.int .u8 ev.kind, .int .u32 ev.pick, .int .u64 ev.draw, .int .u32 ev.addr, .int .u32 ev.node, .int .u32 ev.dst, .int .u32 ev.xfer, .int .u8 ev.ty, .int .u64 ev.arg, .int .u64 ev.badge, .slice xo ev.ws.length cx]), (60, .pointer (some ⟨kb, 0, none⟩)), (64, .int .i16 S38.cur)]) rfl
      clear h45
      refine nd_batch tabOk tabZ_ok [(6, {})] [65, 5, 4, 3, 0, 1, 66] (T' := [(65, .agg #[.int .u16 ((refP Ck.ent S38.cur).idx), .int .u32 ((refP Ck.ent S38.cur).gen)]), (5, .pointer (some ⟨b15, 0, none⟩)), (4, .pointer (some ⟨b8, 0, none⟩)), (3, .pointer (some ⟨b2, 0, none⟩)), (0, .pointer (some ⟨kb, 0, none⟩)), (1, .agg #[.int .u8 ev.kind, .int .u32 ev.pick, .int .u64 ev.draw, .int .u32 ev.addr, .int .u32 ev.node, .int .u32 ev.dst, .int .u32 ev.xfer, .int .u8 ev.ty, .int .u64 ev.arg, .int .u64 ev.badge, .slice xo ev.ws.length cx]), (66, .pointer (some ⟨b15, 1, none⟩))]) (φ := True) (rest := [7]) h47 (by kernel_rfl) rfl trivial fun a49 h50 => ?_
      clear h47
      refine nd_op ?_
      refine op_store tabOk {k := 3} (L' := [(kb, ⟨kC bo bc S38, 90, false⟩), (b2, ⟨[.int .u8 ev.kind, .int .u32 ev.pick, .int .u64 ev.draw, .int .u32 ev.addr, .int .u32 ev.node, .int .u32 ev.dst, .int .u32 ev.xfer, .int .u8 ev.ty, .int .u64 ev.arg, .int .u64 ev.badge, .slice xo ev.ws.length cx], 35, false⟩), (b8, ⟨[.int .u8 0, .int .u16 0, .int .u32 0, .int .u64 0, .int .u64 0, .int .u64 0, .int .u64 0, .int .u64 0, .int .u8 0, .int .u8 0], 42, false⟩), (b15, ⟨[.int .u8 ok.code, .int .u16 ((refP Ck.ent S38.cur).idx), .int .u32 ((refP Ck.ent S38.cur).gen), .int .u64 ok.badge, .int .u64 ok.m0, .int .u64 ok.m1, .int .u64 ok.m2, .int .u64 ok.m3, .int .u8 ok.len, .int .u8 ok.got], 42, false⟩)]) (φ := b15 = b15 ∧ Nat.ble (1 + 2) 10 = true) h50 rfl rfl rfl (by kernel_rfl) ⟨rfl, rfl⟩ fun w51 h52 => ?_
      clear h50
      refine nd_done ?_
      refine hK43 _ _ ?_
      clear hK43
      refine wp_seq_k fun K53 hK53 => ?_
      refine nd_start (l := [0, 1]) rfl ?_
      refine nd_batch tabOk tabZ_ok [(0, {k := 3})] [5, 4, 3, 0, 1, 67] (T' := [(5, .pointer (some ⟨b15, 0, none⟩)), (4, .pointer (some ⟨b8, 0, none⟩)), (3, .pointer (some ⟨b2, 0, none⟩)), (0, .pointer (some ⟨kb, 0, none⟩)), (1, .agg #[.int .u8 ev.kind, .int .u32 ev.pick, .int .u64 ev.draw, .int .u32 ev.addr, .int .u32 ev.node, .int .u32 ev.dst, .int .u32 ev.xfer, .int .u8 ev.ty, .int .u64 ev.arg, .int .u64 ev.badge, .slice xo ev.ws.length cx]), (67, .agg #[.int .u8 ok.code, .int .u16 ((refP Ck.ent S38.cur).idx), .int .u32 ((refP Ck.ent S38.cur).gen), .int .u64 ok.badge, .int .u64 ok.m0, .int .u64 ok.m1, .int .u64 ok.m2, .int .u64 ok.m3, .int .u8 ok.len, .int .u8 ok.got])]) (φ := (b15 = b15 ∧ Nat.ble (0 + 10) 10 = true) ∧ True) (rest := [1]) h52 (by kernel_rfl) rfl ⟨⟨rfl, rfl⟩, trivial⟩ fun a54 h55 => ?_
      clear h52
      refine nd_op ?_
      refine op_store tabOk {k := 2} (L' := [(kb, ⟨kC bo bc S38, 90, false⟩), (b2, ⟨[.int .u8 ev.kind, .int .u32 ev.pick, .int .u64 ev.draw, .int .u32 ev.addr, .int .u32 ev.node, .int .u32 ev.dst, .int .u32 ev.xfer, .int .u8 ev.ty, .int .u64 ev.arg, .int .u64 ev.badge, .slice xo ev.ws.length cx], 35, false⟩), (b8, ⟨[.int .u8 ok.code, .int .u16 ((refP Ck.ent S38.cur).idx), .int .u32 ((refP Ck.ent S38.cur).gen), .int .u64 ok.badge, .int .u64 ok.m0, .int .u64 ok.m1, .int .u64 ok.m2, .int .u64 ok.m3, .int .u8 ok.len, .int .u8 ok.got], 42, false⟩), (b15, ⟨[.int .u8 ok.code, .int .u16 ((refP Ck.ent S38.cur).idx), .int .u32 ((refP Ck.ent S38.cur).gen), .int .u64 ok.badge, .int .u64 ok.m0, .int .u64 ok.m1, .int .u64 ok.m2, .int .u64 ok.m3, .int .u8 ok.len, .int .u8 ok.got], 42, false⟩)]) (φ := b8 = b8 ∧ Nat.ble (0 + 10) 10 = true) h55 rfl rfl rfl (by kernel_rfl) ⟨rfl, rfl⟩ fun w56 h57 => ?_
      clear h55
      refine nd_done ?_
      refine hK53 _ _ ?_
      clear hK53
      refine wp_ret ?_
      try simp only [Exit.then, Exit.inBlock]
      try rw [if_pos trivial]
      exact s_ret tabOk tabZ_ok h57 [(.cell 4 42, {k := 2})] (vs := [.agg #[.int .u8 ok.code, .int .u16 ((refP Ck.ent S38.cur).idx), .int .u32 ((refP Ck.ent S38.cur).gen), .int .u64 ok.badge, .int .u64 ok.m0, .int .u64 ok.m1, .int .u64 ok.m2, .int .u64 ok.m3, .int .u8 ok.len, .int .u8 ok.got]]) (φ := (b8 = b8 ∧ Nat.ble (0 + 10) 10 = true) ∧ True) rfl (by kernel_rfl) ⟨⟨rfl, rfl⟩, trivial⟩ (by rw [show stepP S C ev = (S38, Ck, { ok with run := refP Ck.ent S38.cur }) from (by unfold stepP; rw [hst0]; dsimp only; (first | rw [if_pos hc35f] | rw [if_pos (fun hz => hz hc35f)]); rw [← eS38])]; exact ⟨rfl, h57.kn (k := 0) rfl, ndk, h57.inv, hsubk, h57.frame⟩)
    ·
      have hc35f : ok.code ≠ 0 := by simpa using hc35
      refine wp_skip ?_
      refine hK31 _ _ ?_
      clear hK31
      refine wp_seq_k fun K58 hK58 => ?_
      refine nd_start (l := [0, 1, 2, 3, 4, 5, 6, 7]) rfl ?_
      refine nd_batch tabOk tabZ_ok [(0, {}), (1, {}), (2, {}), (3, {}), (4, {k := 0, m := 1, vs := [.int .i16 Sk.cur]})] [5, 4, 3, 0, 1, 60, 64] (T' := [(5, .pointer (some ⟨b15, 0, none⟩)), (4, .pointer (some ⟨b8, 0, none⟩)), (3, .pointer (some ⟨b2, 0, none⟩)), (0, .pointer (some ⟨kb, 0, none⟩)), (1, .agg #[.int .u8 ev.kind, .int .u32 ev.pick, .int .u64 ev.draw, .int .u32 ev.addr, .int .u32 ev.node, .int .u32 ev.dst, .int .u32 ev.xfer, .int .u8 ev.ty, .int .u64 ev.arg, .int .u64 ev.badge, .slice xo ev.ws.length cx]), (60, .pointer (some ⟨kb, 0, none⟩)), (64, .int .i16 Sk.cur)]) (φ := (kb = kb ∧ cellsAre (kC bo bc Sk) 6427 [.int .i16 Sk.cur]) ∧ True) (rest := [5, 6, 7]) h34 (by kernel_rfl) rfl ⟨⟨rfl, k_cur⟩, trivial⟩ fun a59 h60 => ?_
      clear h34
      refine nd_op ?_
      refine op_call h60 rfl rfl rfl (callOk Tryd.func51 (by decide) rfl) (args := [.pointer (some ⟨kb, 0, none⟩), .int .i16 Sk.cur]) rfl (ref_ok kb bo bc Sk Ck.ent Sk.cur rSk.cur _ (h60.kn (k := 0) (blk := ⟨kC bo bc Sk, 90, false⟩) rfl) h60.inv.st (fun hq => hnk (mem_capF.2 (.inl hq)))) ?_
      rintro _ w61 ⟨rfl, hf63⟩
      refine ⟨_, rfl, ?_⟩
      have h62 := (h60.grow hf63).put (d := some 65) (v := .agg #[.int .u16 ((refP Ck.ent Sk.cur).idx), .int .u32 ((refP Ck.ent Sk.cur).gen)]) (T' := [(65, .agg #[.int .u16 ((refP Ck.ent Sk.cur).idx), .int .u32 ((refP Ck.ent Sk.cur).gen)]), (5, .pointer (some ⟨b15, 0, none⟩)), (4, .pointer (some ⟨b8, 0, none⟩)), (3, .pointer (some ⟨b2, 0, none⟩)), (0, .pointer (some ⟨kb, 0, none⟩)), (1, .agg #[.int .u8 ev.kind, .int .u32 ev.pick, .int .u64 ev.draw, .int .u32 ev.addr, .int .u32 ev.node, .int .u32 ev.dst, .int .u32 ev.xfer, .int .u8 ev.ty, .int .u64 ev.arg, .int .u64 ev.badge, .slice xo ev.ws.length cx]), (60, .pointer (some ⟨kb, 0, none⟩)), (64, .int .i16 Sk.cur)]) rfl
      clear h60
      refine nd_batch tabOk tabZ_ok [(6, {})] [65, 5, 4, 3, 0, 1, 66] (T' := [(65, .agg #[.int .u16 ((refP Ck.ent Sk.cur).idx), .int .u32 ((refP Ck.ent Sk.cur).gen)]), (5, .pointer (some ⟨b15, 0, none⟩)), (4, .pointer (some ⟨b8, 0, none⟩)), (3, .pointer (some ⟨b2, 0, none⟩)), (0, .pointer (some ⟨kb, 0, none⟩)), (1, .agg #[.int .u8 ev.kind, .int .u32 ev.pick, .int .u64 ev.draw, .int .u32 ev.addr, .int .u32 ev.node, .int .u32 ev.dst, .int .u32 ev.xfer, .int .u8 ev.ty, .int .u64 ev.arg, .int .u64 ev.badge, .slice xo ev.ws.length cx]), (66, .pointer (some ⟨b15, 1, none⟩))]) (φ := True) (rest := [7]) h62 (by kernel_rfl) rfl trivial fun a64 h65 => ?_
      clear h62
      refine nd_op ?_
      refine op_store tabOk {k := 3} (L' := [(kb, ⟨kC bo bc Sk, 90, false⟩), (b2, ⟨[.int .u8 ev.kind, .int .u32 ev.pick, .int .u64 ev.draw, .int .u32 ev.addr, .int .u32 ev.node, .int .u32 ev.dst, .int .u32 ev.xfer, .int .u8 ev.ty, .int .u64 ev.arg, .int .u64 ev.badge, .slice xo ev.ws.length cx], 35, false⟩), (b8, ⟨[.int .u8 0, .int .u16 0, .int .u32 0, .int .u64 0, .int .u64 0, .int .u64 0, .int .u64 0, .int .u64 0, .int .u8 0, .int .u8 0], 42, false⟩), (b15, ⟨[.int .u8 ok.code, .int .u16 ((refP Ck.ent Sk.cur).idx), .int .u32 ((refP Ck.ent Sk.cur).gen), .int .u64 ok.badge, .int .u64 ok.m0, .int .u64 ok.m1, .int .u64 ok.m2, .int .u64 ok.m3, .int .u8 ok.len, .int .u8 ok.got], 42, false⟩)]) (φ := b15 = b15 ∧ Nat.ble (1 + 2) 10 = true) h65 rfl rfl rfl (by kernel_rfl) ⟨rfl, rfl⟩ fun w66 h67 => ?_
      clear h65
      refine nd_done ?_
      refine hK58 _ _ ?_
      clear hK58
      refine wp_seq_k fun K68 hK68 => ?_
      refine nd_start (l := [0, 1]) rfl ?_
      refine nd_batch tabOk tabZ_ok [(0, {k := 3})] [5, 4, 3, 0, 1, 67] (T' := [(5, .pointer (some ⟨b15, 0, none⟩)), (4, .pointer (some ⟨b8, 0, none⟩)), (3, .pointer (some ⟨b2, 0, none⟩)), (0, .pointer (some ⟨kb, 0, none⟩)), (1, .agg #[.int .u8 ev.kind, .int .u32 ev.pick, .int .u64 ev.draw, .int .u32 ev.addr, .int .u32 ev.node, .int .u32 ev.dst, .int .u32 ev.xfer, .int .u8 ev.ty, .int .u64 ev.arg, .int .u64 ev.badge, .slice xo ev.ws.length cx]), (67, .agg #[.int .u8 ok.code, .int .u16 ((refP Ck.ent Sk.cur).idx), .int .u32 ((refP Ck.ent Sk.cur).gen), .int .u64 ok.badge, .int .u64 ok.m0, .int .u64 ok.m1, .int .u64 ok.m2, .int .u64 ok.m3, .int .u8 ok.len, .int .u8 ok.got])]) (φ := (b15 = b15 ∧ Nat.ble (0 + 10) 10 = true) ∧ True) (rest := [1]) h67 (by kernel_rfl) rfl ⟨⟨rfl, rfl⟩, trivial⟩ fun a69 h70 => ?_
      clear h67
      refine nd_op ?_
      refine op_store tabOk {k := 2} (L' := [(kb, ⟨kC bo bc Sk, 90, false⟩), (b2, ⟨[.int .u8 ev.kind, .int .u32 ev.pick, .int .u64 ev.draw, .int .u32 ev.addr, .int .u32 ev.node, .int .u32 ev.dst, .int .u32 ev.xfer, .int .u8 ev.ty, .int .u64 ev.arg, .int .u64 ev.badge, .slice xo ev.ws.length cx], 35, false⟩), (b8, ⟨[.int .u8 ok.code, .int .u16 ((refP Ck.ent Sk.cur).idx), .int .u32 ((refP Ck.ent Sk.cur).gen), .int .u64 ok.badge, .int .u64 ok.m0, .int .u64 ok.m1, .int .u64 ok.m2, .int .u64 ok.m3, .int .u8 ok.len, .int .u8 ok.got], 42, false⟩), (b15, ⟨[.int .u8 ok.code, .int .u16 ((refP Ck.ent Sk.cur).idx), .int .u32 ((refP Ck.ent Sk.cur).gen), .int .u64 ok.badge, .int .u64 ok.m0, .int .u64 ok.m1, .int .u64 ok.m2, .int .u64 ok.m3, .int .u8 ok.len, .int .u8 ok.got], 42, false⟩)]) (φ := b8 = b8 ∧ Nat.ble (0 + 10) 10 = true) h70 rfl rfl rfl (by kernel_rfl) ⟨rfl, rfl⟩ fun w71 h72 => ?_
      clear h70
      refine nd_done ?_
      refine hK68 _ _ ?_
      clear hK68
      refine wp_ret ?_
      try simp only [Exit.then, Exit.inBlock]
      try rw [if_pos trivial]
      exact s_ret tabOk tabZ_ok h72 [(.cell 4 42, {k := 2})] (vs := [.agg #[.int .u8 ok.code, .int .u16 ((refP Ck.ent Sk.cur).idx), .int .u32 ((refP Ck.ent Sk.cur).gen), .int .u64 ok.badge, .int .u64 ok.m0, .int .u64 ok.m1, .int .u64 ok.m2, .int .u64 ok.m3, .int .u8 ok.len, .int .u8 ok.got]]) (φ := (b8 = b8 ∧ Nat.ble (0 + 10) 10 = true) ∧ True) rfl (by kernel_rfl) ⟨⟨rfl, rfl⟩, trivial⟩ (by rw [show stepP S C ev = (Sk, Ck, { ok with run := refP Ck.ent Sk.cur }) from (by unfold stepP; rw [hst0]; dsimp only; (first | rw [if_neg hc35f] | rw [if_neg (fun hz => hz hc35f)]))]; exact ⟨rfl, h72.kn (k := 0) rfl, ndk, h72.inv, hsubk, h72.frame⟩)
  clear hK21
  refine wp_block ?_
  refine wp_seq_k fun K73 hK73 => ?_
  refine nd_start (l := [0, 1, 2, 3]) rfl ?_
  refine nd_batch tabOk tabZ_ok [(0, {}), (1, {k := 1}), (2, {}), (3, {})] [5, 4, 3, 0, 1, 10] (T' := [(5, .pointer (some ⟨b15, 0, none⟩)), (4, .pointer (some ⟨b8, 0, none⟩)), (3, .pointer (some ⟨b2, 0, none⟩)), (0, .pointer (some ⟨kb, 0, none⟩)), (1, .agg #[.int .u8 ev.kind, .int .u32 ev.pick, .int .u64 ev.draw, .int .u32 ev.addr, .int .u32 ev.node, .int .u32 ev.dst, .int .u32 ev.xfer, .int .u8 ev.ty, .int .u64 ev.arg, .int .u64 ev.badge, .slice xo ev.ws.length cx]), (10, .bool (ev.kind == 0))]) (φ := (b2 = b2 ∧ Nat.ble (0 + 1) 11 = true) ∧ True) (rest := []) h18 (by kernel_rfl) rfl ⟨⟨rfl, rfl⟩, trivial⟩ fun a74 h75 => ?_
  clear h18
  refine nd_done ?_
  refine hK73 _ _ ?_
  clear hK73
  refine c_split h75 (b := (ev.kind == 0)) rfl (fun hc76 => ?_) (fun hc76 => ?_)
  ·
    have hc76f : ev.kind = 0 := by simpa using hc76
    refine wp_seq_k fun K77 hK77 => ?_
    refine nd_start (l := [0, 1, 2, 3, 4, 5, 6, 7]) rfl ?_
    refine nd_batch tabOk tabZ_ok [(0, {}), (1, {}), (2, {}), (3, {k := 0, m := 1, vs := [.int .u64 S.now]}), (4, {m := 1}), (5, {}), (6, {})] [5, 4, 3, 0, 1, 18, 20] (T' := [(5, .pointer (some ⟨b15, 0, none⟩)), (4, .pointer (some ⟨b8, 0, none⟩)), (3, .pointer (some ⟨b2, 0, none⟩)), (0, .pointer (some ⟨kb, 0, none⟩)), (1, .agg #[.int .u8 ev.kind, .int .u32 ev.pick, .int .u64 ev.draw, .int .u32 ev.addr, .int .u32 ev.node, .int .u32 ev.dst, .int .u32 ev.xfer, .int .u8 ev.ty, .int .u64 ev.arg, .int .u64 ev.badge, .slice xo ev.ws.length cx]), (18, .int .u64 (IntKind.wrap .u64 (S.now + 1))), (20, .pointer (some ⟨kb, 6492, none⟩))]) (φ := (kb = kb ∧ cellsAre (kC bo bc S) 6492 [.int .u64 S.now]) ∧ True) (rest := [7]) h75 (by kernel_rfl) rfl ⟨⟨rfl, k_now⟩, trivial⟩ fun a78 h79 => ?_
    clear h75
    refine nd_op ?_
    refine op_store tabOk {k := 0, m := 1, vs := kC bo bc ({ S with now := IntKind.wrap .u64 (S.now + 1) })} (L' := [(kb, ⟨kC bo bc ({ S with now := IntKind.wrap .u64 (S.now + 1) }), 90, false⟩), (b2, ⟨[.int .u8 ev.kind, .int .u32 ev.pick, .int .u64 ev.draw, .int .u32 ev.addr, .int .u32 ev.node, .int .u32 ev.dst, .int .u32 ev.xfer, .int .u8 ev.ty, .int .u64 ev.arg, .int .u64 ev.badge, .slice xo ev.ws.length cx], 35, false⟩), (b8, ⟨[.int .u8 0, .int .u16 0, .int .u32 0, .int .u64 0, .int .u64 0, .int .u64 0, .int .u64 0, .int .u64 0, .int .u8 0, .int .u8 0], 42, false⟩), (b15, ⟨[.int .u8 0, .int .u16 0, .int .u32 0, .int .u64 0, .int .u64 0, .int .u64 0, .int .u64 0, .int .u64 0, .int .u8 0, .int .u8 0], 42, false⟩)]) (φ := kb = kb ∧ Nat.ble (6492 + 1) (kC bo bc S).length = true ∧ splice (kC bo bc S) 6492 [.int .u64 (IntKind.wrap .u64 (S.now + 1))] = kC bo bc ({ S with now := IntKind.wrap .u64 (S.now + 1) })) h79 rfl rfl rfl (by kernel_rfl) ⟨rfl, k_in (by omega), (k_now_w (IntKind.wrap .u64 (S.now + 1)))⟩ fun w81 h82 => ?_
    obtain ⟨S80, eS80⟩ : ∃ S9, S9 = { S with now := IntKind.wrap .u64 (S.now + 1) } := ⟨_, rfl⟩
    rw [← eS80] at h82
    have rS80 : RI S80 := by rw [eS80]; exact rS.setNow _
    clear h79
    refine nd_done ?_
    refine hK77 _ _ ?_
    clear hK77
    refine wp_seq_k fun K83 hK83 => ?_
    refine nd_start (l := [0, 1, 2, 3, 4]) rfl ?_
    refine nd_batch tabOk tabZ_ok [(0, {}), (1, {}), (2, {}), (3, {k := 0, m := 1, vs := [.int .i16 S80.cur]}), (4, {})] [5, 4, 3, 0, 1, 25] (T' := [(5, .pointer (some ⟨b15, 0, none⟩)), (4, .pointer (some ⟨b8, 0, none⟩)), (3, .pointer (some ⟨b2, 0, none⟩)), (0, .pointer (some ⟨kb, 0, none⟩)), (1, .agg #[.int .u8 ev.kind, .int .u32 ev.pick, .int .u64 ev.draw, .int .u32 ev.addr, .int .u32 ev.node, .int .u32 ev.dst, .int .u32 ev.xfer, .int .u8 ev.ty, .int .u64 ev.arg, .int .u64 ev.badge, .slice xo ev.ws.length cx]), (25, .bool (S80.cur != -1))]) (φ := (kb = kb ∧ cellsAre (kC bo bc S80) 6427 [.int .i16 S80.cur]) ∧ True) (rest := []) h82 (by kernel_rfl) rfl ⟨⟨rfl, k_cur⟩, trivial⟩ fun a84 h85 => ?_
    clear h82
    refine nd_done ?_
    refine hK83 _ _ ?_
    clear hK83
    refine c_split h85 (b := (S80.cur != -1)) rfl (fun hc86 => ?_) (fun hc86 => ?_)
    ·
      have hc86f : S80.cur ≠ -1 := by simpa using hc86
      have hcn := hc86f
      refine nd_start (l := [0, 1, 2, 3, 4, 5]) rfl ?_
      refine nd_batch tabOk tabZ_ok [(0, {}), (1, {}), (2, {}), (3, {}), (4, {k := 0, m := 1, vs := [.int .i16 S80.cur]})] [5, 4, 3, 0, 1, 26, 30] (T' := [(5, .pointer (some ⟨b15, 0, none⟩)), (4, .pointer (some ⟨b8, 0, none⟩)), (3, .pointer (some ⟨b2, 0, none⟩)), (0, .pointer (some ⟨kb, 0, none⟩)), (1, .agg #[.int .u8 ev.kind, .int .u32 ev.pick, .int .u64 ev.draw, .int .u32 ev.addr, .int .u32 ev.node, .int .u32 ev.dst, .int .u32 ev.xfer, .int .u8 ev.ty, .int .u64 ev.arg, .int .u64 ev.badge, .slice xo ev.ws.length cx]), (26, .pointer (some ⟨kb, 0, none⟩)), (30, .int .i16 S80.cur)]) (φ := (kb = kb ∧ cellsAre (kC bo bc S80) 6427 [.int .i16 S80.cur]) ∧ True) (rest := [5]) h85 (by kernel_rfl) rfl ⟨⟨rfl, k_cur⟩, trivial⟩ fun a87 h88 => ?_
      clear h85
      refine nd_op ?_
      refine op_call h88 rfl rfl rfl (callOk Tryd.func47 (by decide) rfl) (args := [.pointer (some ⟨kb, 0, none⟩), .int .i16 S80.cur]) rfl (wake_ok kb bo bc S80 rS80 S80.cur (lk_nat rS80.cur hcn) _ (h88.kn (k := 0) rfl)) ?_
      rintro _ w92 ⟨rfl, hb90, hf91⟩
      refine ⟨_, rfl, ?_⟩
      obtain ⟨S89, eS89⟩ : ∃ S9, S9 = wakeP S80 S80.cur := ⟨_, rfl⟩
      rw [← eS89] at hb90
      have rS89 : RI S89 := by rw [eS89]; exact wake_RI rS80 (lk_nat rS80.cur hcn)
      have h93 := (h88.setBlk (k := 0) rfl rfl hf91 hb90 (L' := [(kb, ⟨kC bo bc S89, 90, false⟩), (b2, ⟨[.int .u8 ev.kind, .int .u32 ev.pick, .int .u64 ev.draw, .int .u32 ev.addr, .int .u32 ev.node, .int .u32 ev.dst, .int .u32 ev.xfer, .int .u8 ev.ty, .int .u64 ev.arg, .int .u64 ev.badge, .slice xo ev.ws.length cx], 35, false⟩), (b8, ⟨[.int .u8 0, .int .u16 0, .int .u32 0, .int .u64 0, .int .u64 0, .int .u64 0, .int .u64 0, .int .u64 0, .int .u8 0, .int .u8 0], 42, false⟩), (b15, ⟨[.int .u8 0, .int .u16 0, .int .u32 0, .int .u64 0, .int .u64 0, .int .u64 0, .int .u64 0, .int .u64 0, .int .u8 0, .int .u8 0], 42, false⟩)]) rfl).put (d := some 31) (v := .tuple #[]) (T' := [(31, .tuple #[]), (5, .pointer (some ⟨b15, 0, none⟩)), (4, .pointer (some ⟨b8, 0, none⟩)), (3, .pointer (some ⟨b2, 0, none⟩)), (0, .pointer (some ⟨kb, 0, none⟩)), (1, .agg #[.int .u8 ev.kind, .int .u32 ev.pick, .int .u64 ev.draw, .int .u32 ev.addr, .int .u32 ev.node, .int .u32 ev.dst, .int .u32 ev.xfer, .int .u8 ev.ty, .int .u64 ev.arg, .int .u64 ev.badge, .slice xo ev.ws.length cx]), (26, .pointer (some ⟨kb, 0, none⟩)), (30, .int .i16 S80.cur)]) rfl
      clear h88
      refine nd_done ?_
      have hest94 : step0 S C ev = (S89, C, (⟨0, ⟨0, 0⟩, 0, 0, 0, 0, 0, 0, 0⟩ : Outp)) := (by rw [step0_tick hc76f, ← eS80, show S.cur = S80.cur by rw [eS80]]; (first | rw [if_pos hc86f] | rw [if_pos (fun hz => hz hc86f)]); rw [← eS89]; try rfl)
      exact hm24 S89 C nd (⟨0, ⟨0, 0⟩, 0, 0, 0, 0, 0, 0, 0⟩ : Outp) _ _ (by rw [show S89 = (step0 S C ev).1 by rw [hest94]]; exact (step0_inv ⟨rS, lS⟩ hC he).1.ri) (by rw [show S89 = (step0 S C ev).1 by rw [hest94]]; exact (step0_inv ⟨rS, lS⟩ hC he).1.li) (fun _ hq => .inl hq) hest94 (fun hq => hdkb hq) (h93.slotsMono (restr_spec (keep := [5, 4, 3, 0, 1]) rfl))
    ·
      have hc86f : S80.cur = -1 := by simpa using hc86
      refine wp_skip ?_
      have hest95 : step0 S C ev = (S80, C, (⟨0, ⟨0, 0⟩, 0, 0, 0, 0, 0, 0, 0⟩ : Outp)) := (by rw [step0_tick hc76f, ← eS80, show S.cur = S80.cur by rw [eS80]]; (first | rw [if_neg hc86f] | rw [if_neg (fun hz => hz hc86f)]); try rfl)
      exact hm24 S80 C nd (⟨0, ⟨0, 0⟩, 0, 0, 0, 0, 0, 0, 0⟩ : Outp) _ _ (by rw [show S80 = (step0 S C ev).1 by rw [hest95]]; exact (step0_inv ⟨rS, lS⟩ hC he).1.ri) (by rw [show S80 = (step0 S C ev).1 by rw [hest95]]; exact (step0_inv ⟨rS, lS⟩ hC he).1.li) (fun _ hq => .inl hq) hest95 (fun hq => hdkb hq) (h85.slotsMono (restr_spec (keep := [5, 4, 3, 0, 1]) rfl))
  ·
    have hc76f : ev.kind ≠ 0 := by simpa using hc76
    refine wp_seq_k fun K96 hK96 => ?_
    refine nd_start (l := [0, 1, 2, 3]) rfl ?_
    refine nd_batch tabOk tabZ_ok [(0, {}), (1, {k := 1}), (2, {}), (3, {})] [5, 4, 3, 0, 1, 32] (T' := [(5, .pointer (some ⟨b15, 0, none⟩)), (4, .pointer (some ⟨b8, 0, none⟩)), (3, .pointer (some ⟨b2, 0, none⟩)), (0, .pointer (some ⟨kb, 0, none⟩)), (1, .agg #[.int .u8 ev.kind, .int .u32 ev.pick, .int .u64 ev.draw, .int .u32 ev.addr, .int .u32 ev.node, .int .u32 ev.dst, .int .u32 ev.xfer, .int .u8 ev.ty, .int .u64 ev.arg, .int .u64 ev.badge, .slice xo ev.ws.length cx]), (32, .bool (ev.kind == 1))]) (φ := (b2 = b2 ∧ Nat.ble (0 + 1) 11 = true) ∧ True) (rest := []) h75 (by kernel_rfl) rfl ⟨⟨rfl, rfl⟩, trivial⟩ fun a97 h98 => ?_
    clear h75
    refine nd_done ?_
    refine hK96 _ _ ?_
    clear hK96
    refine c_split h98 (b := (ev.kind == 1)) rfl (fun hc99 => ?_) (fun hc99 => ?_)
    ·
      have hc99f : ev.kind = 1 := by simpa using hc99
      refine nd_start (l := [0, 1, 2, 3, 4, 5]) rfl ?_
      refine nd_batch tabOk tabZ_ok [(0, {}), (1, {}), (2, {k := 1})] [5, 4, 3, 0, 1, 36, 38] (T' := [(5, .pointer (some ⟨b15, 0, none⟩)), (4, .pointer (some ⟨b8, 0, none⟩)), (3, .pointer (some ⟨b2, 0, none⟩)), (0, .pointer (some ⟨kb, 0, none⟩)), (1, .agg #[.int .u8 ev.kind, .int .u32 ev.pick, .int .u64 ev.draw, .int .u32 ev.addr, .int .u32 ev.node, .int .u32 ev.dst, .int .u32 ev.xfer, .int .u8 ev.ty, .int .u64 ev.arg, .int .u64 ev.badge, .slice xo ev.ws.length cx]), (36, .pointer (some ⟨kb, 0, none⟩)), (38, .int .u64 ev.arg)]) (φ := (b2 = b2 ∧ Nat.ble (8 + 1) 11 = true) ∧ True) (rest := [3, 4, 5]) h98 (by kernel_rfl) rfl ⟨⟨rfl, rfl⟩, trivial⟩ fun a100 h101 => ?_
      clear h98
      refine nd_op ?_
      obtain ⟨Si, ci, ei⟩ : ∃ a b, interruptP S C ev.arg = (a, b) := ⟨_, _, rfl⟩
      have hint := interrupt_ok kb bo bc nd S rS C ev.arg he.arg _ (h101.kn (k := 0) (blk := ⟨kC bo bc S, 90, false⟩) rfl) h101.inv hdkb
      rw [ei] at hint
      refine op_call h101 rfl rfl rfl (callOk Tryd.func48 (by decide) rfl) (args := [.pointer (some ⟨kb, 0, none⟩), .int .u64 ev.arg]) rfl hint ?_
      rintro _ w102 ⟨rfl, hk9, hf9⟩
      refine ⟨_, rfl, ?_⟩
      dsimp only at hk9 ⊢
      have rSi : RI Si := by have := (int_ok2 (C := C) (⟨rS, lS⟩ : Ok2 S) he.arg.1).ri; rw [ei] at this; exact this
      have h103 := (h101.setBlk (k := 0) rfl rfl hf9 hk9 (L' := [(kb, ⟨kC bo bc Si, 90, false⟩), (b2, ⟨[.int .u8 ev.kind, .int .u32 ev.pick, .int .u64 ev.draw, .int .u32 ev.addr, .int .u32 ev.node, .int .u32 ev.dst, .int .u32 ev.xfer, .int .u8 ev.ty, .int .u64 ev.arg, .int .u64 ev.badge, .slice xo ev.ws.length cx], 35, false⟩), (b8, ⟨[.int .u8 0, .int .u16 0, .int .u32 0, .int .u64 0, .int .u64 0, .int .u64 0, .int .u64 0, .int .u64 0, .int .u8 0, .int .u8 0], 42, false⟩), (b15, ⟨[.int .u8 0, .int .u16 0, .int .u32 0, .int .u64 0, .int .u64 0, .int .u64 0, .int .u64 0, .int .u64 0, .int .u8 0, .int .u8 0], 42, false⟩)]) rfl).put (d := some 39) (v := .int .u8 ci) (T' := [(39, .int .u8 ci), (5, .pointer (some ⟨b15, 0, none⟩)), (4, .pointer (some ⟨b8, 0, none⟩)), (3, .pointer (some ⟨b2, 0, none⟩)), (0, .pointer (some ⟨kb, 0, none⟩)), (1, .agg #[.int .u8 ev.kind, .int .u32 ev.pick, .int .u64 ev.draw, .int .u32 ev.addr, .int .u32 ev.node, .int .u32 ev.dst, .int .u32 ev.xfer, .int .u8 ev.ty, .int .u64 ev.arg, .int .u64 ev.badge, .slice xo ev.ws.length cx]), (36, .pointer (some ⟨kb, 0, none⟩)), (38, .int .u64 ev.arg)]) rfl
      clear h101
      refine nd_batch tabOk tabZ_ok [(4, {})] [39, 5, 4, 3, 0, 1, 40] (T' := [(39, .int .u8 ci), (5, .pointer (some ⟨b15, 0, none⟩)), (4, .pointer (some ⟨b8, 0, none⟩)), (3, .pointer (some ⟨b2, 0, none⟩)), (0, .pointer (some ⟨kb, 0, none⟩)), (1, .agg #[.int .u8 ev.kind, .int .u32 ev.pick, .int .u64 ev.draw, .int .u32 ev.addr, .int .u32 ev.node, .int .u32 ev.dst, .int .u32 ev.xfer, .int .u8 ev.ty, .int .u64 ev.arg, .int .u64 ev.badge, .slice xo ev.ws.length cx]), (40, .pointer (some ⟨b15, 0, none⟩))]) (φ := True) (rest := [5]) h103 (by kernel_rfl) rfl trivial fun a104 h105 => ?_
      clear h103
      refine nd_op ?_
      refine op_store tabOk {k := 3} (L' := [(kb, ⟨kC bo bc Si, 90, false⟩), (b2, ⟨[.int .u8 ev.kind, .int .u32 ev.pick, .int .u64 ev.draw, .int .u32 ev.addr, .int .u32 ev.node, .int .u32 ev.dst, .int .u32 ev.xfer, .int .u8 ev.ty, .int .u64 ev.arg, .int .u64 ev.badge, .slice xo ev.ws.length cx], 35, false⟩), (b8, ⟨[.int .u8 0, .int .u16 0, .int .u32 0, .int .u64 0, .int .u64 0, .int .u64 0, .int .u64 0, .int .u64 0, .int .u8 0, .int .u8 0], 42, false⟩), (b15, ⟨[.int .u8 ci, .int .u16 0, .int .u32 0, .int .u64 0, .int .u64 0, .int .u64 0, .int .u64 0, .int .u64 0, .int .u8 0, .int .u8 0], 42, false⟩)]) (φ := b15 = b15 ∧ Nat.ble (0 + 1) 10 = true) h105 rfl rfl rfl (by kernel_rfl) ⟨rfl, rfl⟩ fun w106 h107 => ?_
      clear h105
      refine nd_done ?_
      have hest108 : step0 S C ev = (Si, C, (⟨ci, ⟨0, 0⟩, 0, 0, 0, 0, 0, 0, 0⟩ : Outp)) := (by unfold step0; (try dsimp only); (first | rw [if_neg hc76f] | rw [if_neg (fun hz => hz hc76f)]); (first | rw [if_pos hc99f] | rw [if_pos (fun hz => hz hc99f)]); rw [ei]; (try dsimp only); try rfl)
      exact hm24 Si C nd (⟨ci, ⟨0, 0⟩, 0, 0, 0, 0, 0, 0, 0⟩ : Outp) _ _ (by rw [show Si = (step0 S C ev).1 by rw [hest108]]; exact (step0_inv ⟨rS, lS⟩ hC he).1.ri) (by rw [show Si = (step0 S C ev).1 by rw [hest108]]; exact (step0_inv ⟨rS, lS⟩ hC he).1.li) (fun _ hq => .inl hq) hest108 (fun hq => hdkb hq) (h107.slotsMono (restr_spec (keep := [5, 4, 3, 0, 1]) rfl))
    ·
      have hc99f : ev.kind ≠ 1 := by simpa using hc99
      refine wp_seq_k fun K109 hK109 => ?_
      refine nd_start (l := [0, 1, 2, 3]) rfl ?_
      refine nd_batch tabOk tabZ_ok [(0, {}), (1, {k := 1}), (2, {}), (3, {})] [5, 4, 3, 0, 1, 41] (T' := [(5, .pointer (some ⟨b15, 0, none⟩)), (4, .pointer (some ⟨b8, 0, none⟩)), (3, .pointer (some ⟨b2, 0, none⟩)), (0, .pointer (some ⟨kb, 0, none⟩)), (1, .agg #[.int .u8 ev.kind, .int .u32 ev.pick, .int .u64 ev.draw, .int .u32 ev.addr, .int .u32 ev.node, .int .u32 ev.dst, .int .u32 ev.xfer, .int .u8 ev.ty, .int .u64 ev.arg, .int .u64 ev.badge, .slice xo ev.ws.length cx]), (41, .bool (decide (ev.kind ≥ 20)))]) (φ := (b2 = b2 ∧ Nat.ble (0 + 1) 11 = true) ∧ True) (rest := []) h98 (by kernel_rfl) rfl ⟨⟨rfl, rfl⟩, trivial⟩ fun a110 h111 => ?_
      clear h98
      refine nd_done ?_
      refine hK109 _ _ ?_
      clear hK109
      refine c_split h111 (b := decide (ev.kind ≥ 20)) rfl (fun hc112 => ?_) (fun hc112 => ?_)
      ·
        have hc112f : ev.kind ≥ 20 := by simpa using hc112
        refine nd_start (l := [0, 1]) rfl ?_
        refine nd_batch tabOk tabZ_ok [(0, {})] [5, 4, 3, 0, 1, 45] (T' := [(5, .pointer (some ⟨b15, 0, none⟩)), (4, .pointer (some ⟨b8, 0, none⟩)), (3, .pointer (some ⟨b2, 0, none⟩)), (0, .pointer (some ⟨kb, 0, none⟩)), (1, .agg #[.int .u8 ev.kind, .int .u32 ev.pick, .int .u64 ev.draw, .int .u32 ev.addr, .int .u32 ev.node, .int .u32 ev.dst, .int .u32 ev.xfer, .int .u8 ev.ty, .int .u64 ev.arg, .int .u64 ev.badge, .slice xo ev.ws.length cx]), (45, .pointer (some ⟨b15, 0, none⟩))]) (φ := True) (rest := [1]) h111 (by kernel_rfl) rfl trivial fun a113 h114 => ?_
        clear h111
        refine nd_op ?_
        refine op_store tabOk {k := 3} (L' := [(kb, ⟨kC bo bc S, 90, false⟩), (b2, ⟨[.int .u8 ev.kind, .int .u32 ev.pick, .int .u64 ev.draw, .int .u32 ev.addr, .int .u32 ev.node, .int .u32 ev.dst, .int .u32 ev.xfer, .int .u8 ev.ty, .int .u64 ev.arg, .int .u64 ev.badge, .slice xo ev.ws.length cx], 35, false⟩), (b8, ⟨[.int .u8 0, .int .u16 0, .int .u32 0, .int .u64 0, .int .u64 0, .int .u64 0, .int .u64 0, .int .u64 0, .int .u8 0, .int .u8 0], 42, false⟩), (b15, ⟨[.int .u8 16, .int .u16 0, .int .u32 0, .int .u64 0, .int .u64 0, .int .u64 0, .int .u64 0, .int .u64 0, .int .u8 0, .int .u8 0], 42, false⟩)]) (φ := b15 = b15 ∧ Nat.ble (0 + 1) 10 = true) h114 rfl rfl rfl (by kernel_rfl) ⟨rfl, rfl⟩ fun w115 h116 => ?_
        clear h114
        refine nd_done ?_
        have hest117 : step0 S C ev = (S, C, (⟨16, ⟨0, 0⟩, 0, 0, 0, 0, 0, 0, 0⟩ : Outp)) := (by unfold step0; (try dsimp only); (first | rw [if_neg hc76f] | rw [if_neg (fun hz => hz hc76f)]); (first | rw [if_neg hc99f] | rw [if_neg (fun hz => hz hc99f)]); (first | rw [if_pos hc112f] | rw [if_pos (fun hz => hz hc112f)]); try rfl)
        exact hm24 S C nd (⟨16, ⟨0, 0⟩, 0, 0, 0, 0, 0, 0, 0⟩ : Outp) _ _ (by rw [show S = (step0 S C ev).1 by rw [hest117]]; exact (step0_inv ⟨rS, lS⟩ hC he).1.ri) (by rw [show S = (step0 S C ev).1 by rw [hest117]]; exact (step0_inv ⟨rS, lS⟩ hC he).1.li) (fun _ hq => .inl hq) hest117 (fun hq => hdkb hq) (h116.slotsMono (restr_spec (keep := [5, 4, 3, 0, 1]) rfl))
      ·
        have hc112f : ¬ ev.kind ≥ 20 := by simpa using hc112
        refine wp_seq_k fun K118 hK118 => ?_
        refine nd_start (l := [0, 1, 2, 3, 4, 5]) rfl ?_
        refine nd_batch tabOk tabZ_ok [(0, {}), (1, {}), (2, {}), (3, {k := 0, m := 1, vs := [.int .i16 S.cur]}), (4, {}), (5, {})] [5, 4, 3, 0, 1, 46] (T' := [(5, .pointer (some ⟨b15, 0, none⟩)), (4, .pointer (some ⟨b8, 0, none⟩)), (3, .pointer (some ⟨b2, 0, none⟩)), (0, .pointer (some ⟨kb, 0, none⟩)), (1, .agg #[.int .u8 ev.kind, .int .u32 ev.pick, .int .u64 ev.draw, .int .u32 ev.addr, .int .u32 ev.node, .int .u32 ev.dst, .int .u32 ev.xfer, .int .u8 ev.ty, .int .u64 ev.arg, .int .u64 ev.badge, .slice xo ev.ws.length cx]), (46, .bool (S.cur == -1))]) (φ := (kb = kb ∧ cellsAre (kC bo bc S) 6427 [.int .i16 S.cur]) ∧ True) (rest := []) h111 (by kernel_rfl) rfl ⟨⟨rfl, k_cur⟩, trivial⟩ fun a119 h120 => ?_
        clear h111
        refine nd_done ?_
        refine hK118 _ _ ?_
        clear hK118
        refine c_split h120 (b := (S.cur == -1)) rfl (fun hc121 => ?_) (fun hc121 => ?_)
        ·
          have hc121f : S.cur = -1 := by simpa using hc121
          refine nd_start (l := [0, 1]) rfl ?_
          refine nd_batch tabOk tabZ_ok [(0, {})] [5, 4, 3, 0, 1, 52] (T' := [(5, .pointer (some ⟨b15, 0, none⟩)), (4, .pointer (some ⟨b8, 0, none⟩)), (3, .pointer (some ⟨b2, 0, none⟩)), (0, .pointer (some ⟨kb, 0, none⟩)), (1, .agg #[.int .u8 ev.kind, .int .u32 ev.pick, .int .u64 ev.draw, .int .u32 ev.addr, .int .u32 ev.node, .int .u32 ev.dst, .int .u32 ev.xfer, .int .u8 ev.ty, .int .u64 ev.arg, .int .u64 ev.badge, .slice xo ev.ws.length cx]), (52, .pointer (some ⟨b15, 0, none⟩))]) (φ := True) (rest := [1]) h120 (by kernel_rfl) rfl trivial fun a122 h123 => ?_
          clear h120
          refine nd_op ?_
          refine op_store tabOk {k := 3} (L' := [(kb, ⟨kC bo bc S, 90, false⟩), (b2, ⟨[.int .u8 ev.kind, .int .u32 ev.pick, .int .u64 ev.draw, .int .u32 ev.addr, .int .u32 ev.node, .int .u32 ev.dst, .int .u32 ev.xfer, .int .u8 ev.ty, .int .u64 ev.arg, .int .u64 ev.badge, .slice xo ev.ws.length cx], 35, false⟩), (b8, ⟨[.int .u8 0, .int .u16 0, .int .u32 0, .int .u64 0, .int .u64 0, .int .u64 0, .int .u64 0, .int .u64 0, .int .u8 0, .int .u8 0], 42, false⟩), (b15, ⟨[.int .u8 1, .int .u16 0, .int .u32 0, .int .u64 0, .int .u64 0, .int .u64 0, .int .u64 0, .int .u64 0, .int .u8 0, .int .u8 0], 42, false⟩)]) (φ := b15 = b15 ∧ Nat.ble (0 + 1) 10 = true) h123 rfl rfl rfl (by kernel_rfl) ⟨rfl, rfl⟩ fun w124 h125 => ?_
          clear h123
          refine nd_done ?_
          have hest126 : step0 S C ev = (S, C, (⟨1, ⟨0, 0⟩, 0, 0, 0, 0, 0, 0, 0⟩ : Outp)) := (by unfold step0; (try dsimp only); (first | rw [if_neg hc76f] | rw [if_neg (fun hz => hz hc76f)]); (first | rw [if_neg hc99f] | rw [if_neg (fun hz => hz hc99f)]); (first | rw [if_neg hc112f] | rw [if_neg (fun hz => hz hc112f)]); (first | rw [if_pos hc121f] | rw [if_pos (fun hz => hz hc121f)]); try rfl)
          exact hm24 S C nd (⟨1, ⟨0, 0⟩, 0, 0, 0, 0, 0, 0, 0⟩ : Outp) _ _ (by rw [show S = (step0 S C ev).1 by rw [hest126]]; exact (step0_inv ⟨rS, lS⟩ hC he).1.ri) (by rw [show S = (step0 S C ev).1 by rw [hest126]]; exact (step0_inv ⟨rS, lS⟩ hC he).1.li) (fun _ hq => .inl hq) hest126 (fun hq => hdkb hq) (h125.slotsMono (restr_spec (keep := [5, 4, 3, 0, 1]) rfl))
        ·
          have hc121f : S.cur ≠ -1 := by simpa using hc121
          have hcn0 := hc121f
          refine nd_start (l := [0, 1, 2, 3, 4]) rfl ?_
          refine nd_batch tabOk tabZ_ok [(0, {}), (1, {k := 1})] [5, 4, 3, 0, 1, 6, 7] (T' := [(5, .pointer (some ⟨b15, 0, none⟩)), (4, .pointer (some ⟨b8, 0, none⟩)), (3, .pointer (some ⟨b2, 0, none⟩)), (0, .pointer (some ⟨kb, 0, none⟩)), (1, .agg #[.int .u8 ev.kind, .int .u32 ev.pick, .int .u64 ev.draw, .int .u32 ev.addr, .int .u32 ev.node, .int .u32 ev.dst, .int .u32 ev.xfer, .int .u8 ev.ty, .int .u64 ev.arg, .int .u64 ev.badge, .slice xo ev.ws.length cx]), (6, .pointer (some ⟨kb, 0, none⟩)), (7, .agg #[.int .u8 ev.kind, .int .u32 ev.pick, .int .u64 ev.draw, .int .u32 ev.addr, .int .u32 ev.node, .int .u32 ev.dst, .int .u32 ev.xfer, .int .u8 ev.ty, .int .u64 ev.arg, .int .u64 ev.badge, .slice xo ev.ws.length cx])]) (φ := (b2 = b2 ∧ Nat.ble (0 + 11) 11 = true) ∧ True) (rest := [2, 3, 4]) h120 (by kernel_rfl) rfl ⟨⟨rfl, rfl⟩, trivial⟩ fun a127 h128 => ?_
          clear h120
          refine nd_op ?_
          obtain ⟨Sz, Cz, oz, cz, ez⟩ : ∃ a b c d, sysP S C ev out0 = (a, b, c, d) := ⟨_, _, _, _, rfl⟩
          have hnb : kb ≠ b15 := nodup_key h128.nodup (i := 0) (j := 3) rfl rfl (by decide)
          have hdb : b15 ∉ capF bo bc nd C := h128.dj (k := 3) rfl rfl
          have hlw : w.heap.size ≤ b15 := (st_ky h128 (k := 3) rfl rfl).resolve_left (fun hq => (List.mem_cons.1 hq).elim (fun h => hnb h.symm) hdb)
          have hsys := sys_ok kb bo bc nd S rS C lS hC (lk_nat rS.cur hcn0) ev he xo cx b15 hnb out0 _ (h128.kn (k := 0) (blk := ⟨kC bo bc S, 90, false⟩) rfl) h128.inv hdkb (h128.kn (k := 3) (blk := ⟨outC out0, 42, false⟩) rfl) hdb (cellsK hg h128.frame hgs (by simp; exact ⟨hgk, hgc⟩)) (Nat.lt_of_lt_of_le hgs h128.frame.size) hgk hgc (by omega) (words_add hws h128.frame hlw)
          rw [ez] at hsys
          refine op_call h128 rfl rfl rfl (callOk Tryd.func49 (by decide) rfl) (args := [.pointer (some ⟨kb, 0, none⟩), .agg #[.int .u8 ev.kind, .int .u32 ev.pick, .int .u64 ev.draw, .int .u32 ev.addr, .int .u32 ev.node, .int .u32 ev.dst, .int .u32 ev.xfer, .int .u8 ev.ty, .int .u64 ev.arg, .int .u64 ev.badge, .slice xo ev.ws.length cx], .pointer (some ⟨b15, 0, none⟩)]) rfl hsys ?_
          rintro _ w129 ⟨rfl, hk9, ht9, nd9, hc9, hs9, hf9⟩
          refine ⟨_, rfl, ?_⟩
          dsimp only at hk9 ht9 hc9 hs9 ⊢
          have rSz : RI Sz := by have := (sys_inv (⟨rS, lS⟩ : Ok2 S) hC he (lk_nat rS.cur hcn0) out0).1.ri; rw [ez] at this; exact this
          have hsz9 : w.heap.size ≤ _ := h128.frame.size
          have hlt5 := lt_of_heap (h128.kn (k := 3) (blk := ⟨outC out0, 42, false⟩) rfl)
          have hltk := lt_of_heap (h128.kn (k := 0) (blk := ⟨kC bo bc S, 90, false⟩) rfl)
          have hd5 : b15 ∉ capF bo bc nd9 Cz := fun hq => (hs9 _ hq).elim hdb (fun h => by omega)
          have hdk : kb ∉ capF bo bc nd9 Cz := fun hq => (hs9 _ hq).elim hdkb (fun h => by omega)
          have hsub9 : ∀ x ∈ capF bo bc nd9 Cz, x ∈ capF bo bc nd C ∨ w.heap.size ≤ x := fun x hx => (hs9 x hx).imp id (fun h => by omega)
          have h130 := (h128.turn (L' := [(kb, ⟨kC bo bc Sz, 90, false⟩), (b2, ⟨[.int .u8 ev.kind, .int .u32 ev.pick, .int .u64 ev.draw, .int .u32 ev.addr, .int .u32 ev.node, .int .u32 ev.dst, .int .u32 ev.xfer, .int .u8 ev.ty, .int .u64 ev.arg, .int .u64 ev.badge, .slice xo ev.ws.length cx], 35, false⟩), (b8, ⟨[.int .u8 0, .int .u16 0, .int .u32 0, .int .u64 0, .int .u64 0, .int .u64 0, .int .u64 0, .int .u64 0, .int .u8 0, .int .u8 0], 42, false⟩), (b15, ⟨outC oz, 42, false⟩)]) (A' := fun w => CapAt w bo bc nd9 Cz) (F' := capF bo bc nd9 Cz) hf9 (fun b hb => (List.mem_cons.1 hb).elim (fun h => .inr (by rw [h]; exact hlw)) (fun h => .inl h)) rfl (kcons hk9 (kcons (by rw [hf9.block _ (lt_of_heap (h128.kn (k := 1) rfl)) (fun hq => by rcases List.mem_cons.1 hq with h | hq; exact nodup_key h128.nodup (i := 1) (j := 3) rfl rfl (by decide) h; rcases List.mem_cons.1 hq with h | hq; exact nodup_key h128.nodup (i := 1) (j := 0) rfl rfl (by decide) h; exact h128.dj (k := 1) rfl rfl hq)]; exact h128.kn (k := 1) rfl) (kcons (by rw [hf9.block _ (lt_of_heap (h128.kn (k := 2) rfl)) (fun hq => by rcases List.mem_cons.1 hq with h | hq; exact nodup_key h128.nodup (i := 2) (j := 3) rfl rfl (by decide) h; rcases List.mem_cons.1 hq with h | hq; exact nodup_key h128.nodup (i := 2) (j := 0) rfl rfl (by decide) h; exact h128.dj (k := 2) rfl rfl hq)]; exact h128.kn (k := 2) rfl) (kcons ht9 knil)))) hc9 CapAt.stable hc9.low hs9).put (d := some 8) (v := .int .u8 cz) (T' := [(8, .int .u8 cz), (5, .pointer (some ⟨b15, 0, none⟩)), (4, .pointer (some ⟨b8, 0, none⟩)), (3, .pointer (some ⟨b2, 0, none⟩)), (0, .pointer (some ⟨kb, 0, none⟩)), (1, .agg #[.int .u8 ev.kind, .int .u32 ev.pick, .int .u64 ev.draw, .int .u32 ev.addr, .int .u32 ev.node, .int .u32 ev.dst, .int .u32 ev.xfer, .int .u8 ev.ty, .int .u64 ev.arg, .int .u64 ev.badge, .slice xo ev.ws.length cx]), (6, .pointer (some ⟨kb, 0, none⟩)), (7, .agg #[.int .u8 ev.kind, .int .u32 ev.pick, .int .u64 ev.draw, .int .u32 ev.addr, .int .u32 ev.node, .int .u32 ev.dst, .int .u32 ev.xfer, .int .u8 ev.ty, .int .u64 ev.arg, .int .u64 ev.badge, .slice xo ev.ws.length cx])]) rfl
          clear h128
          refine nd_batch tabOk tabZ_ok [(3, {})] [8, 5, 4, 3, 0, 1, 9] (T' := [(8, .int .u8 cz), (5, .pointer (some ⟨b15, 0, none⟩)), (4, .pointer (some ⟨b8, 0, none⟩)), (3, .pointer (some ⟨b2, 0, none⟩)), (0, .pointer (some ⟨kb, 0, none⟩)), (1, .agg #[.int .u8 ev.kind, .int .u32 ev.pick, .int .u64 ev.draw, .int .u32 ev.addr, .int .u32 ev.node, .int .u32 ev.dst, .int .u32 ev.xfer, .int .u8 ev.ty, .int .u64 ev.arg, .int .u64 ev.badge, .slice xo ev.ws.length cx]), (9, .pointer (some ⟨b15, 0, none⟩))]) (φ := True) (rest := [4]) h130 (by kernel_rfl) rfl trivial fun a131 h132 => ?_
          clear h130
          refine nd_op ?_
          refine op_store tabOk {k := 3} (L' := [(kb, ⟨kC bo bc Sz, 90, false⟩), (b2, ⟨[.int .u8 ev.kind, .int .u32 ev.pick, .int .u64 ev.draw, .int .u32 ev.addr, .int .u32 ev.node, .int .u32 ev.dst, .int .u32 ev.xfer, .int .u8 ev.ty, .int .u64 ev.arg, .int .u64 ev.badge, .slice xo ev.ws.length cx], 35, false⟩), (b8, ⟨[.int .u8 0, .int .u16 0, .int .u32 0, .int .u64 0, .int .u64 0, .int .u64 0, .int .u64 0, .int .u64 0, .int .u8 0, .int .u8 0], 42, false⟩), (b15, ⟨[.int .u8 cz, .int .u16 oz.run.idx, .int .u32 oz.run.gen, .int .u64 oz.badge, .int .u64 oz.m0, .int .u64 oz.m1, .int .u64 oz.m2, .int .u64 oz.m3, .int .u8 oz.len, .int .u8 oz.got], 42, false⟩)]) (φ := b15 = b15 ∧ Nat.ble (0 + 1) 10 = true) h132 rfl rfl rfl (by kernel_rfl) ⟨rfl, rfl⟩ fun w133 h134 => ?_
          clear h132
          refine nd_done ?_
          have hest135 : step0 S C ev = (Sz, Cz, (⟨cz, ⟨oz.run.idx, oz.run.gen⟩, oz.badge, oz.m0, oz.m1, oz.m2, oz.m3, oz.len, oz.got⟩ : Outp)) := (by unfold step0; (try dsimp only); (first | rw [if_neg hc76f] | rw [if_neg (fun hz => hz hc76f)]); (first | rw [if_neg hc99f] | rw [if_neg (fun hz => hz hc99f)]); (first | rw [if_neg hc112f] | rw [if_neg (fun hz => hz hc112f)]); (first | rw [if_neg hc121f] | rw [if_neg (fun hz => hz hc121f)]); rw [ez]; (try dsimp only); try rfl)
          exact hm24 Sz Cz nd9 (⟨cz, ⟨oz.run.idx, oz.run.gen⟩, oz.badge, oz.m0, oz.m1, oz.m2, oz.m3, oz.len, oz.got⟩ : Outp) _ _ (by rw [show Sz = (step0 S C ev).1 by rw [hest135]]; exact (step0_inv ⟨rS, lS⟩ hC he).1.ri) (by rw [show Sz = (step0 S C ev).1 by rw [hest135]]; exact (step0_inv ⟨rS, lS⟩ hC he).1.li) hsub9 hest135 hdk (h134.slotsMono (restr_spec (keep := [5, 4, 3, 0, 1]) rfl))

end Go.Proofs.Qxb6500918aDoor
