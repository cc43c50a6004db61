/-
  lineUp. (Made by program: a symbolic walk that prints its steps.)
-/
import Derived.Test.Qxb6500918aDoorPJ
namespace Go.Proofs.Qxb6500918aDoor
open Go.Sx Go.Kn
set_option maxRecDepth 100000
set_option maxHeartbeats 4000000
set_option linter.unusedVariables false
set_option linter.unusedSimpArgs false

/-- What lineUp shows. -/
def lineUpP (S : KP) (Q : QL → List Nat) (E : Nat → Ent) (pick : Int) : List Rf := insP (refsP E (Q (.r (S.tcb S.cur.toNat).prio.toNat))) ((pick % (((refsP E (Q (.r (S.tcb S.cur.toNat).prio.toNat))).length : Int) + 1)).toNat) (refP E S.cur)

theorem lineUp_ok (kb bo bc : Nat) (S : KP) (rS : RI S) (E : Nat → Ent) (h256 : (E 256).ty = 1) (Q : QL → List Nat) (hQ : LIQ S Q) (hX : XI S E) (hcur : 0 ≤ S.cur ∧ S.cur < 256) (pick : Int) (hpk : 0 ≤ pick ∧ pick < 4294967296) (w : World) (hb : w.heap[kb]? = some (Blk.obj ⟨kC bo bc S, 90, false⟩)) (hs : w.heap[bo]? = some (Blk.obj ⟨stC E, 131, false⟩)) (hne : kb ≠ bo) :
    Calls Tryd.prog 31 #[.pointer (some ⟨kb, 0, none⟩), .int .u32 pick] w fun e w' => ∃ o' c' F', e = .returned (.slice o' (lineUpP S Q E pick).length c') ∧ (rl rfC 39 2 (lineUpP S Q E pick) o' c' F').at w' ∧ Fr [] w w' ∧ ∀ b ∈ F', w.heap.size ≤ b := by
  have hlk := lt_of_heap hb
  have hlo := lt_of_heap hs
  have hst2 : (S.tcb S.cur.toNat).st = 2 := (hQ.cu S.cur.toNat (by omega)).2 (by omega)
  have hlv : (E S.cur.toNat).ty = 3 := (hX S.cur.toNat (by omega)).live (show (S.tcb _).st ≠ 0 by omega)
  have hthr : threadP S E (refP E S.cur) = (S.tcb S.cur.toNat, true) := thread_live hcur hlv
  have hrx : (refP E S.cur).idx = S.cur := by unfold refP; rw [if_neg (by omega)]; exact refAt_idx ⟨by omega, by omega⟩
  have hpr := (rS.t (i := S.cur.toNat) (by omega)).pr
  have hxl : (Q (.r (S.tcb S.cur.toNat).prio.toNat)).length ≤ 256 := nodup_len (hQ.lx.ch (L := .r _) (show _ < 8 by omega)).nd (hQ.lx.ch (L := .r _) (show _ < 8 by omega)).lt
  have hrl := refs_len (E := E) (xs := Q (.r (S.tcb S.cur.toNat).prio.toNat))
  have hmod0 : 0 ≤ pick % (((refsP E (Q (.r (S.tcb S.cur.toNat).prio.toNat))).length : Int) + 1) := Int.emod_nonneg _ (by omega)
  have hmod1 : pick % (((refsP E (Q (.r (S.tcb S.cur.toNat).prio.toNat))).length : Int) + 1) < ((refsP E (Q (.r (S.tcb S.cur.toNat).prio.toNat))).length : Int) + 1 := Int.emod_lt_of_pos _ (by omega)
  refine enter0 (n := 36) (K := []) (T := [(0, .pointer (some ⟨kb, 0, none⟩)), (1, .int .u32 pick)]) (L := [(kb, ⟨kC bo bc S, 90, true⟩), (bo, ⟨stC E, 131, true⟩)]) (args := [.pointer (some ⟨kb, 0, none⟩), .int .u32 pick]) Tryd.func31 rfl rfl rfl rfl (kcons hb (kcons hs knil)) (by simp; exact hne) (kcons (by intro hq; cases hq) (kcons (by intro hq; cases hq) knil)) ?_
  intro a h
  refine wp_seq_k fun K1 hK1 => ?_
  refine nd_start (l := [0]) rfl ?_
  refine nd_batch tabOk tabZ_ok [(0, {})] [0, 1, 4] (T' := [(0, .pointer (some ⟨kb, 0, none⟩)), (1, .int .u32 pick), (4, .slice none 0 0)]) (φ := True) (rest := []) h (by kernel_rfl) rfl trivial fun a2 h3 => ?_
  clear h
  refine nd_done ?_
  refine hK1 _ _ ?_
  clear hK1
  refine wp_seq_k fun K4 hK4 => ?_
  refine nd_start (l := [0, 1, 2, 3, 4, 5, 6, 7, 8, 9]) rfl ?_
  refine nd_batch tabOk tabZ_ok [(0, {}), (1, {})] [0, 1, 4, 10, 11] (T' := [(0, .pointer (some ⟨kb, 0, none⟩)), (1, .int .u32 pick), (4, .slice none 0 0), (10, .pointer (some ⟨kb, 0, none⟩)), (11, .pointer (some ⟨kb, 0, none⟩))]) (φ := True) (rest := [2, 3, 4, 5, 6, 7, 8, 9]) h3 (by kernel_rfl) rfl trivial fun a5 h6 => ?_
  clear h3
  refine nd_op ?_
  refine op_call h6 rfl rfl rfl (callOk Tryd.func18 (by decide) rfl) (args := [.pointer (some ⟨kb, 0, none⟩)]) rfl (running_ok kb bo bc S rS E _ (heap_fr hb h6.frame) (heap_fr hs h6.frame) hne) ?_
  rintro _ w7 ⟨rfl, hf9⟩
  refine ⟨_, rfl, ?_⟩
  have h8 := (h6.grow hf9).put (d := some 12) (v := .agg #[.int .u16 ((refP E S.cur).idx), .int .u32 ((refP E S.cur).gen)]) (T' := [(12, .agg #[.int .u16 ((refP E S.cur).idx), .int .u32 ((refP E S.cur).gen)]), (0, .pointer (some ⟨kb, 0, none⟩)), (1, .int .u32 pick), (4, .slice none 0 0), (10, .pointer (some ⟨kb, 0, none⟩)), (11, .pointer (some ⟨kb, 0, none⟩))]) rfl
  clear h6
  refine nd_op ?_
  refine op_call h8 rfl rfl rfl (callOk Tryd.func25 (by decide) rfl) (args := [.pointer (some ⟨kb, 0, none⟩), .agg #[.int .u16 ((refP E S.cur).idx), .int .u32 ((refP E S.cur).gen)]]) rfl (threadE kb bo bc S rS h256 (refP E S.cur) ⟨by rw [hrx]; omega, by rw [hrx]; omega⟩ _ (heap_fr hb h8.frame) (heap_fr hs h8.frame) hne hthr) ?_
  rintro _ w10 ⟨rfl, hf12⟩
  refine ⟨_, rfl, ?_⟩
  have h11 := (h8.grow hf12).put (d := some 13) (v := .tuple #[.agg #[.int .u8 ((S.tcb S.cur.toNat).st), .int .u8 ((S.tcb S.cur.toNat).prio), .int .u16 ((S.tcb S.cur.toNat).wait.idx), .int .u32 ((S.tcb S.cur.toNat).wait.gen), .int .u16 ((S.tcb S.cur.toNat).cs.idx), .int .u32 ((S.tcb S.cur.toNat).cs.gen), .int .u16 ((S.tcb S.cur.toNat).rep.idx), .int .u32 ((S.tcb S.cur.toNat).rep.gen), .int .u64 ((S.tcb S.cur.toNat).badge), .int .u64 ((S.tcb S.cur.toNat).m0), .int .u64 ((S.tcb S.cur.toNat).m1), .int .u64 ((S.tcb S.cur.toNat).m2), .int .u64 ((S.tcb S.cur.toNat).m3), .int .u8 ((S.tcb S.cur.toNat).len), .int .u8 ((S.tcb S.cur.toNat).got), .int .u32 ((S.tcb S.cur.toNat).xfer), .int .u32 ((S.tcb S.cur.toNat).dst), .bool ((S.tcb S.cur.toNat).grant), .bool ((S.tcb S.cur.toNat).call)], .bool true]) (T' := [(13, .tuple #[.agg #[.int .u8 ((S.tcb S.cur.toNat).st), .int .u8 ((S.tcb S.cur.toNat).prio), .int .u16 ((S.tcb S.cur.toNat).wait.idx), .int .u32 ((S.tcb S.cur.toNat).wait.gen), .int .u16 ((S.tcb S.cur.toNat).cs.idx), .int .u32 ((S.tcb S.cur.toNat).cs.gen), .int .u16 ((S.tcb S.cur.toNat).rep.idx), .int .u32 ((S.tcb S.cur.toNat).rep.gen), .int .u64 ((S.tcb S.cur.toNat).badge), .int .u64 ((S.tcb S.cur.toNat).m0), .int .u64 ((S.tcb S.cur.toNat).m1), .int .u64 ((S.tcb S.cur.toNat).m2), .int .u64 ((S.tcb S.cur.toNat).m3), .int .u8 ((S.tcb S.cur.toNat).len), .int .u8 ((S.tcb S.cur.toNat).got), .int .u32 ((S.tcb S.cur.toNat).xfer), .int .u32 ((S.tcb S.cur.toNat).dst), .bool ((S.tcb S.cur.toNat).grant), .bool ((S.tcb S.cur.toNat).call)], .bool true]), (12, .agg #[.int .u16 ((refP E S.cur).idx), .int .u32 ((refP E S.cur).gen)]), (0, .pointer (some ⟨kb, 0, none⟩)), (1, .int .u32 pick), (4, .slice none 0 0), (10, .pointer (some ⟨kb, 0, none⟩)), (11, .pointer (some ⟨kb, 0, none⟩))]) rfl
  clear h8
  refine nd_batch tabOk tabZ_ok [(4, {}), (5, {}), (6, {})] [0, 1, 4, 14, 15] (T' := [(0, .pointer (some ⟨kb, 0, none⟩)), (1, .int .u32 pick), (4, .slice none 0 0), (14, .agg #[.int .u8 ((S.tcb S.cur.toNat).st), .int .u8 ((S.tcb S.cur.toNat).prio), .int .u16 ((S.tcb S.cur.toNat).wait.idx), .int .u32 ((S.tcb S.cur.toNat).wait.gen), .int .u16 ((S.tcb S.cur.toNat).cs.idx), .int .u32 ((S.tcb S.cur.toNat).cs.gen), .int .u16 ((S.tcb S.cur.toNat).rep.idx), .int .u32 ((S.tcb S.cur.toNat).rep.gen), .int .u64 ((S.tcb S.cur.toNat).badge), .int .u64 ((S.tcb S.cur.toNat).m0), .int .u64 ((S.tcb S.cur.toNat).m1), .int .u64 ((S.tcb S.cur.toNat).m2), .int .u64 ((S.tcb S.cur.toNat).m3), .int .u8 ((S.tcb S.cur.toNat).len), .int .u8 ((S.tcb S.cur.toNat).got), .int .u32 ((S.tcb S.cur.toNat).xfer), .int .u32 ((S.tcb S.cur.toNat).dst), .bool ((S.tcb S.cur.toNat).grant), .bool ((S.tcb S.cur.toNat).call)]), (15, .bool true)]) (φ := True) (rest := [7, 8, 9]) h11 (by kernel_rfl) rfl trivial fun a13 h14 => ?_
  clear h11
  refine nd_op ?_
  refine op_new tabOk (cells := [.int .u8 0, .int .u8 0, .int .u16 0, .int .u32 0, .int .u16 0, .int .u32 0, .int .u16 0, .int .u32 0, .int .u64 0, .int .u64 0, .int .u64 0, .int .u64 0, .int .u64 0, .int .u8 0, .int .u8 0, .int .u32 0, .int .u32 0, .bool false, .bool false]) (ty := 59) (ln := none) (L1 := fun b15 => [(kb, ⟨kC bo bc S, 90, true⟩), (bo, ⟨stC E, 131, true⟩), (b15, ⟨[.int .u8 0, .int .u8 0, .int .u16 0, .int .u32 0, .int .u16 0, .int .u32 0, .int .u16 0, .int .u32 0, .int .u64 0, .int .u64 0, .int .u64 0, .int .u64 0, .int .u64 0, .int .u8 0, .int .u8 0, .int .u32 0, .int .u32 0, .bool false, .bool false], 59, false⟩)]) h14 rfl rfl rfl rfl (by kernel_rfl) (fun _ => rfl) fun b15 w16 a17 h18 hf19 hn20 => ?_
  clear h14
  refine nd_op ?_
  refine op_store tabOk {k := 2} (L' := [(kb, ⟨kC bo bc S, 90, true⟩), (bo, ⟨stC E, 131, true⟩), (b15, ⟨[.int .u8 ((S.tcb S.cur.toNat).st), .int .u8 ((S.tcb S.cur.toNat).prio), .int .u16 ((S.tcb S.cur.toNat).wait.idx), .int .u32 ((S.tcb S.cur.toNat).wait.gen), .int .u16 ((S.tcb S.cur.toNat).cs.idx), .int .u32 ((S.tcb S.cur.toNat).cs.gen), .int .u16 ((S.tcb S.cur.toNat).rep.idx), .int .u32 ((S.tcb S.cur.toNat).rep.gen), .int .u64 ((S.tcb S.cur.toNat).badge), .int .u64 ((S.tcb S.cur.toNat).m0), .int .u64 ((S.tcb S.cur.toNat).m1), .int .u64 ((S.tcb S.cur.toNat).m2), .int .u64 ((S.tcb S.cur.toNat).m3), .int .u8 ((S.tcb S.cur.toNat).len), .int .u8 ((S.tcb S.cur.toNat).got), .int .u32 ((S.tcb S.cur.toNat).xfer), .int .u32 ((S.tcb S.cur.toNat).dst), .bool ((S.tcb S.cur.toNat).grant), .bool ((S.tcb S.cur.toNat).call)], 59, false⟩)]) (φ := b15 = b15 ∧ Nat.ble (0 + 19) 19 = true) h18 rfl rfl rfl (by kernel_rfl) ⟨rfl, rfl⟩ fun w21 h22 => ?_
  clear h18
  refine nd_batch tabOk tabZ_ok [(9, {})] [5, 0, 1, 4] (T' := [(5, .pointer (some ⟨b15, 0, none⟩)), (0, .pointer (some ⟨kb, 0, none⟩)), (1, .int .u32 pick), (4, .slice none 0 0)]) (φ := True) (rest := []) h22 (by kernel_rfl) rfl trivial fun a23 h24 => ?_
  clear h22
  refine nd_done ?_
  refine hK4 _ _ ?_
  clear hK4
  refine wp_seq_k fun K25 hK25 => ?_
  refine nd_start (l := [0, 1, 2, 3, 4, 5]) rfl ?_
  refine nd_batch tabOk tabZ_ok [(0, {}), (1, {}), (2, {k := 2}), (3, {})] [5, 0, 1, 4, 16, 19] (T' := [(5, .pointer (some ⟨b15, 0, none⟩)), (0, .pointer (some ⟨kb, 0, none⟩)), (1, .int .u32 pick), (4, .slice none 0 0), (16, .pointer (some ⟨kb, 0, none⟩)), (19, .int .i64 ((S.tcb S.cur.toNat).prio))]) (φ := (b15 = b15 ∧ Nat.ble (1 + 1) 19 = true) ∧ inR .i64 ((S.tcb S.cur.toNat).prio) ∧ True) (rest := [4, 5]) h24 (by kernel_rfl) rfl ⟨⟨rfl, rfl⟩, ⟨by omega, by omega⟩, trivial⟩ fun a26 h27 => ?_
  clear h24
  refine nd_op ?_
  have h28a := h27.slotsMono (restr_spec (keep := [5, 0, 1, 4, 16, 19]) rfl)
  have h28 := h28a.pc0
  clear h27 h28a
  refine op_call h28 rfl rfl rfl (callOk Tryd.func30 (by decide) rfl) (args := [.pointer (some ⟨kb, 0, none⟩), .int .i64 ((S.tcb S.cur.toNat).prio)]) rfl (ready_ok kb bo bc S rS E Q hQ (S.tcb S.cur.toNat).prio ⟨by omega, by omega⟩ _ (heap_fr hb h28.frame) (heap_fr hs h28.frame) hne) ?_
  rintro _ w35 ⟨o29, c30, F31, rfl, hr32, hf33, hF34⟩
  refine ⟨_, rfl, ?_⟩
  have h36 := (h28.pcAdd (p' := pRow (rl rfC 39 2 (refsP E (Q (.r (S.tcb S.cur.toNat).prio.toNat))) o29 c30 F31)) (ps' := [pRow (rl rfC 39 2 (refsP E (Q (.r (S.tcb S.cur.toNat).prio.toNat))) o29 c30 F31)]) (pRow_ok hr32) hf33 hF34 rfl).put (d := some 20) (v := .slice o29 ((refsP E (Q (.r (S.tcb S.cur.toNat).prio.toNat))).length) c30) (T' := [(20, .slice o29 ((refsP E (Q (.r (S.tcb S.cur.toNat).prio.toNat))).length) c30), (5, .pointer (some ⟨b15, 0, none⟩)), (0, .pointer (some ⟨kb, 0, none⟩)), (1, .int .u32 pick), (4, .slice none 0 0), (16, .pointer (some ⟨kb, 0, none⟩)), (19, .int .i64 ((S.tcb S.cur.toNat).prio))]) rfl
  have hszh36 : w.heap.size ≤ _ := h28.frame.size
  clear h28
  refine nd_batch tabOk tabZ_ok [(5, {})] [5, 0, 1, 4, 7] (T' := [(5, .pointer (some ⟨b15, 0, none⟩)), (0, .pointer (some ⟨kb, 0, none⟩)), (1, .int .u32 pick), (4, .slice none 0 0), (7, .slice o29 ((refsP E (Q (.r (S.tcb S.cur.toNat).prio.toNat))).length) c30)]) (φ := True) (rest := []) h36 (by kernel_rfl) rfl trivial fun a37 h38 => ?_
  clear h36
  refine nd_done ?_
  refine hK25 _ _ ?_
  clear hK25
  refine wp_seq_k fun K39 hK39 => ?_
  refine nd_start (l := [0, 1, 2, 3, 4, 5, 6, 7, 8]) rfl ?_
  refine nd_batch tabOk tabZ_ok [(0, {}), (1, {}), (2, {}), (3, {}), (4, {}), (5, {}), (6, {}), (7, {}), (8, {})] [5, 0, 1, 4, 7, 8] (T' := [(5, .pointer (some ⟨b15, 0, none⟩)), (0, .pointer (some ⟨kb, 0, none⟩)), (1, .int .u32 pick), (4, .slice none 0 0), (7, .slice o29 ((refsP E (Q (.r (S.tcb S.cur.toNat).prio.toNat))).length) c30), (8, .int .i64 (pick % ((((refsP E (Q (.r (S.tcb S.cur.toNat).prio.toNat))).length : Nat) : Int) + 1)))]) (φ := inR .u64 pick ∧ inR .i64 ((((refsP E (Q (.r (S.tcb S.cur.toNat).prio.toNat))).length : Nat) : Int) + 1) ∧ inR .u64 ((((refsP E (Q (.r (S.tcb S.cur.toNat).prio.toNat))).length : Nat) : Int) + 1) ∧ (0 ≤ pick ∧ 0 < ((((refsP E (Q (.r (S.tcb S.cur.toNat).prio.toNat))).length : Nat) : Int) + 1)) ∧ inR .i64 (pick % ((((refsP E (Q (.r (S.tcb S.cur.toNat).prio.toNat))).length : Nat) : Int) + 1)) ∧ True) (rest := []) h38 (by kernel_rfl) rfl ⟨⟨by omega, by omega⟩, ⟨by omega, by omega⟩, ⟨by omega, by omega⟩, ⟨by omega, by omega⟩, ⟨by omega, by omega⟩, trivial⟩ fun a40 h41 => ?_
  clear h38
  refine nd_done ?_
  refine hK39 _ _ ?_
  clear hK39
  refine wp_seq_k fun K42 hK42 => ?_
  refine nd_start (l := [0, 1, 2, 3, 4, 5, 6, 7]) rfl ?_
  refine nd_batch tabOk tabZ_ok [(0, {})] [5, 0, 1, 4, 7, 8, 29] (T' := [(5, .pointer (some ⟨b15, 0, none⟩)), (0, .pointer (some ⟨kb, 0, none⟩)), (1, .int .u32 pick), (4, .slice none 0 0), (7, .slice o29 ((refsP E (Q (.r (S.tcb S.cur.toNat).prio.toNat))).length) c30), (8, .int .i64 (pick % ((((refsP E (Q (.r (S.tcb S.cur.toNat).prio.toNat))).length : Nat) : Int) + 1))), (29, .slice o29 ((refsP E (Q (.r (S.tcb S.cur.toNat).prio.toNat))).length) c30)]) (φ := True) (rest := [1, 2, 3, 4, 5, 6, 7]) h41 (by kernel_rfl) rfl trivial fun a43 h44 => ?_
  clear h41
  refine nd_op ?_
  refine op_call h44 rfl rfl rfl (callOk Tryd.func24 (by decide) rfl) (args := [.slice o29 ((refsP E (Q (.r (S.tcb S.cur.toNat).prio.toNat))).length) c30]) rfl (cloneR_ok (refsP E (Q (.r (S.tcb S.cur.toNat).prio.toNat))) (by omega) o29 c30 F31 _ (h44.inv.get (j := 0) (p := pRow (rl rfC 39 2 (refsP E (Q (.r (S.tcb S.cur.toNat).prio.toNat))) o29 c30 F31)) rfl)) ?_
  rintro _ w51 ⟨o45, c46, F47, rfl, hr48, hf49, hF50⟩
  refine ⟨_, rfl, ?_⟩
  have h52 := (h44.pcAdd (p' := pRow (rl rfC 39 2 (refsP E (Q (.r (S.tcb S.cur.toNat).prio.toNat))) o45 c46 F47)) (ps' := [pRow (rl rfC 39 2 (refsP E (Q (.r (S.tcb S.cur.toNat).prio.toNat))) o29 c30 F31), pRow (rl rfC 39 2 (refsP E (Q (.r (S.tcb S.cur.toNat).prio.toNat))) o45 c46 F47)]) (pRow_ok hr48) hf49 hF50 rfl).put (d := some 30) (v := .slice o45 ((refsP E (Q (.r (S.tcb S.cur.toNat).prio.toNat))).length) c46) (T' := [(30, .slice o45 ((refsP E (Q (.r (S.tcb S.cur.toNat).prio.toNat))).length) c46), (5, .pointer (some ⟨b15, 0, none⟩)), (0, .pointer (some ⟨kb, 0, none⟩)), (1, .int .u32 pick), (4, .slice none 0 0), (7, .slice o29 ((refsP E (Q (.r (S.tcb S.cur.toNat).prio.toNat))).length) c30), (8, .int .i64 (pick % ((((refsP E (Q (.r (S.tcb S.cur.toNat).prio.toNat))).length : Nat) : Int) + 1))), (29, .slice o29 ((refsP E (Q (.r (S.tcb S.cur.toNat).prio.toNat))).length) c30)]) rfl
  have hszh52 : w.heap.size ≤ _ := h44.frame.size
  clear h44
  refine nd_batch tabOk tabZ_ok [(2, {}), (3, {})] [30, 5, 0, 1, 4, 7, 8, 31, 32] (T' := [(30, .slice o45 ((refsP E (Q (.r (S.tcb S.cur.toNat).prio.toNat))).length) c46), (5, .pointer (some ⟨b15, 0, none⟩)), (0, .pointer (some ⟨kb, 0, none⟩)), (1, .int .u32 pick), (4, .slice none 0 0), (7, .slice o29 ((refsP E (Q (.r (S.tcb S.cur.toNat).prio.toNat))).length) c30), (8, .int .i64 (pick % ((((refsP E (Q (.r (S.tcb S.cur.toNat).prio.toNat))).length : Nat) : Int) + 1))), (31, .int .i64 (pick % ((((refsP E (Q (.r (S.tcb S.cur.toNat).prio.toNat))).length : Nat) : Int) + 1))), (32, .pointer (some ⟨kb, 0, none⟩))]) (φ := True) (rest := [4, 5, 6, 7]) h52 (by kernel_rfl) rfl trivial fun a53 h54 => ?_
  clear h52
  refine nd_op ?_
  refine op_call h54 rfl rfl rfl (callOk Tryd.func18 (by decide) rfl) (args := [.pointer (some ⟨kb, 0, none⟩)]) rfl (running_ok kb bo bc S rS E _ (heap_fr hb h54.frame) (heap_fr hs h54.frame) hne) ?_
  rintro _ w55 ⟨rfl, hf57⟩
  refine ⟨_, rfl, ?_⟩
  have h56 := (h54.grow hf57).put (d := some 33) (v := .agg #[.int .u16 ((refP E S.cur).idx), .int .u32 ((refP E S.cur).gen)]) (T' := [(33, .agg #[.int .u16 ((refP E S.cur).idx), .int .u32 ((refP E S.cur).gen)]), (30, .slice o45 ((refsP E (Q (.r (S.tcb S.cur.toNat).prio.toNat))).length) c46), (5, .pointer (some ⟨b15, 0, none⟩)), (0, .pointer (some ⟨kb, 0, none⟩)), (1, .int .u32 pick), (4, .slice none 0 0), (7, .slice o29 ((refsP E (Q (.r (S.tcb S.cur.toNat).prio.toNat))).length) c30), (8, .int .i64 (pick % ((((refsP E (Q (.r (S.tcb S.cur.toNat).prio.toNat))).length : Nat) : Int) + 1))), (31, .int .i64 (pick % ((((refsP E (Q (.r (S.tcb S.cur.toNat).prio.toNat))).length : Nat) : Int) + 1))), (32, .pointer (some ⟨kb, 0, none⟩))]) rfl
  clear h54
  refine nd_op ?_
  refine op_new tabOk (cells := [.int .u16 ((refP E S.cur).idx), .int .u32 ((refP E S.cur).gen)]) (ty := 39) (ln := (some 1)) (L1 := fun b58 => [(kb, ⟨kC bo bc S, 90, true⟩), (bo, ⟨stC E, 131, true⟩), (b15, ⟨[.int .u8 ((S.tcb S.cur.toNat).st), .int .u8 ((S.tcb S.cur.toNat).prio), .int .u16 ((S.tcb S.cur.toNat).wait.idx), .int .u32 ((S.tcb S.cur.toNat).wait.gen), .int .u16 ((S.tcb S.cur.toNat).cs.idx), .int .u32 ((S.tcb S.cur.toNat).cs.gen), .int .u16 ((S.tcb S.cur.toNat).rep.idx), .int .u32 ((S.tcb S.cur.toNat).rep.gen), .int .u64 ((S.tcb S.cur.toNat).badge), .int .u64 ((S.tcb S.cur.toNat).m0), .int .u64 ((S.tcb S.cur.toNat).m1), .int .u64 ((S.tcb S.cur.toNat).m2), .int .u64 ((S.tcb S.cur.toNat).m3), .int .u8 ((S.tcb S.cur.toNat).len), .int .u8 ((S.tcb S.cur.toNat).got), .int .u32 ((S.tcb S.cur.toNat).xfer), .int .u32 ((S.tcb S.cur.toNat).dst), .bool ((S.tcb S.cur.toNat).grant), .bool ((S.tcb S.cur.toNat).call)], 59, false⟩), (b58, ⟨[.int .u16 ((refP E S.cur).idx), .int .u32 ((refP E S.cur).gen)], 39, false⟩)]) h56 rfl rfl rfl rfl (by kernel_rfl) (fun _ => rfl) fun b58 w59 a60 h61 hf62 hn63 => ?_
  clear h56
  refine nd_op ?_
  have hix : ((((pick % ((((refsP E (Q (.r (S.tcb S.cur.toNat).prio.toNat))).length : Nat) : Int) + 1))).toNat : Nat) : Int) = (pick % ((((refsP E (Q (.r (S.tcb S.cur.toNat).prio.toNat))).length : Nat) : Int) + 1)) := by omega
  have hvn : b58 ∉ F47 := fun hq => h61.disj (b58, ⟨[.int .u16 ((refP E S.cur).idx), .int .u32 ((refP E S.cur).gen)], 39, false⟩) (by simp) rfl (by simp [Pf, pRow, rl]; exact .inr hq)
  refine op_call h61 rfl rfl rfl (callOk Tryd.func66 (by decide) rfl) (args := [.slice o45 ((refsP E (Q (.r (S.tcb S.cur.toNat).prio.toNat))).length) c46, .int .i64 (pick % ((((refsP E (Q (.r (S.tcb S.cur.toNat).prio.toNat))).length : Nat) : Int) + 1)), .slice (some ⟨b58, 0, none⟩) 1 1]) rfl ((by have hq := insR_ok (refsP E (Q (.r (S.tcb S.cur.toNat).prio.toNat))) (by omega) o45 c46 F47 (((pick % ((((refsP E (Q (.r (S.tcb S.cur.toNat).prio.toNat))).length : Nat) : Int) + 1))).toNat) (by omega) b58 (refP E S.cur) _ (h61.inv.get (j := 1) (p := pRow (rl rfC 39 2 (refsP E (Q (.r (S.tcb S.cur.toNat).prio.toNat))) o45 c46 F47)) rfl) hvn (h61.kn (k := 3) (blk := ⟨_, 39, false⟩) rfl); rw [hix] at hq; exact hq)) ?_
  rintro _ w70 ⟨o64, c65, F66, rfl, hr67, hf68, hF69⟩
  refine ⟨_, rfl, ?_⟩
  have h71 := (h61.pcSet (j := 1) (p := pRow (rl rfC 39 2 (refsP E (Q (.r (S.tcb S.cur.toNat).prio.toNat))) o45 c46 F47)) (p' := pRow (rl rfC 39 2 (insP (refsP E (Q (.r (S.tcb S.cur.toNat).prio.toNat))) (((pick % ((((refsP E (Q (.r (S.tcb S.cur.toNat).prio.toNat))).length : Nat) : Int) + 1))).toNat) (refP E S.cur)) o64 c65 F66)) (ps' := [pRow (rl rfC 39 2 (refsP E (Q (.r (S.tcb S.cur.toNat).prio.toNat))) o29 c30 F31), pRow (rl rfC 39 2 (insP (refsP E (Q (.r (S.tcb S.cur.toNat).prio.toNat))) (((pick % ((((refsP E (Q (.r (S.tcb S.cur.toNat).prio.toNat))).length : Nat) : Int) + 1))).toNat) (refP E S.cur)) o64 c65 F66)]) rfl (pRow_ok hr67) hf68 (fun _ h => h) hF69 (kcons (fun _ => (fun hq => by have := h61.inv.newOf (j := 1) (p := pRow (rl rfC 39 2 (refsP E (Q (.r (S.tcb S.cur.toNat).prio.toNat))) o45 c46 F47)) rfl kb hq; omega)) (kcons (fun _ => (fun hq => by have := h61.inv.newOf (j := 1) (p := pRow (rl rfC 39 2 (refsP E (Q (.r (S.tcb S.cur.toNat).prio.toNat))) o45 c46 F47)) rfl bo hq; omega)) (kcons (by intro hq; cases hq) (kcons (by intro hq; cases hq) knil)))) rfl).put (d := some 35) (v := .slice o64 ((insP (refsP E (Q (.r (S.tcb S.cur.toNat).prio.toNat))) (((pick % ((((refsP E (Q (.r (S.tcb S.cur.toNat).prio.toNat))).length : Nat) : Int) + 1))).toNat) (refP E S.cur)).length) c65) (T' := [(35, .slice o64 ((insP (refsP E (Q (.r (S.tcb S.cur.toNat).prio.toNat))) (((pick % ((((refsP E (Q (.r (S.tcb S.cur.toNat).prio.toNat))).length : Nat) : Int) + 1))).toNat) (refP E S.cur)).length) c65), (34, .slice (some ⟨b58, 0, none⟩) 1 1), (33, .agg #[.int .u16 ((refP E S.cur).idx), .int .u32 ((refP E S.cur).gen)]), (30, .slice o45 ((refsP E (Q (.r (S.tcb S.cur.toNat).prio.toNat))).length) c46), (5, .pointer (some ⟨b15, 0, none⟩)), (0, .pointer (some ⟨kb, 0, none⟩)), (1, .int .u32 pick), (4, .slice none 0 0), (7, .slice o29 ((refsP E (Q (.r (S.tcb S.cur.toNat).prio.toNat))).length) c30), (8, .int .i64 (pick % ((((refsP E (Q (.r (S.tcb S.cur.toNat).prio.toNat))).length : Nat) : Int) + 1))), (31, .int .i64 (pick % ((((refsP E (Q (.r (S.tcb S.cur.toNat).prio.toNat))).length : Nat) : Int) + 1))), (32, .pointer (some ⟨kb, 0, none⟩))]) rfl
  have hszh71 : w.heap.size ≤ _ := h61.frame.size
  clear h61
  have hFw : ∀ b ∈ F66, w.heap.size ≤ b := h71.inv.newOf (j := 1) (p := pRow (rl rfC 39 2 (insP (refsP E (Q (.r (S.tcb S.cur.toNat).prio.toNat))) (((pick % ((((refsP E (Q (.r (S.tcb S.cur.toNat).prio.toNat))).length : Nat) : Int) + 1))).toNat) (refP E S.cur)) o64 c65 F66)) rfl
  refine nd_batch tabOk tabZ_ok [(7, {})] [5, 0, 1, 7, 8, 4] (T' := [(5, .pointer (some ⟨b15, 0, none⟩)), (0, .pointer (some ⟨kb, 0, none⟩)), (1, .int .u32 pick), (7, .slice o29 ((refsP E (Q (.r (S.tcb S.cur.toNat).prio.toNat))).length) c30), (8, .int .i64 (pick % ((((refsP E (Q (.r (S.tcb S.cur.toNat).prio.toNat))).length : Nat) : Int) + 1))), (4, .slice o64 ((insP (refsP E (Q (.r (S.tcb S.cur.toNat).prio.toNat))) (((pick % ((((refsP E (Q (.r (S.tcb S.cur.toNat).prio.toNat))).length : Nat) : Int) + 1))).toNat) (refP E S.cur)).length) c65)]) (φ := True) (rest := []) h71 (by kernel_rfl) rfl trivial fun a72 h73 => ?_
  clear h71
  refine nd_done ?_
  refine hK42 _ _ ?_
  clear hK42
  refine wp_ret ?_
  try simp only [Exit.then, Exit.inBlock]
  try rw [if_pos trivial]
  exact s_ret tabOk tabZ_ok h73 [(.tmp 4, {})] (vs := [.slice o64 ((insP (refsP E (Q (.r (S.tcb S.cur.toNat).prio.toNat))) (((pick % ((((refsP E (Q (.r (S.tcb S.cur.toNat).prio.toNat))).length : Nat) : Int) + 1))).toNat) (refP E S.cur)).length) c65]) (φ := True) rfl (by kernel_rfl) trivial ⟨o64, c65, F66, rfl, h73.inv.get (j := 1) (p := pRow (rl rfC 39 2 (insP (refsP E (Q (.r (S.tcb S.cur.toNat).prio.toNat))) (((pick % ((((refsP E (Q (.r (S.tcb S.cur.toNat).prio.toNat))).length : Nat) : Int) + 1))).toNat) (refP E S.cur)) o64 c65 F66)) rfl, h73.frame, hFw⟩

end Go.Proofs.Qxb6500918aDoor
