/-
  Ready; every thread in one place. (Made by program: a symbolic walk that prints its steps.)
-/
import Derived.Test.Qxb6500918aDoorOm
import Derived.Test.Qxb6500918aDoorMs
import Derived.Test.Qxb6500918aDoorPF
namespace Go.Proofs.Qxb6500918aDoor
open Go.Sx Go.Kn
set_option maxRecDepth 100000
set_option maxHeartbeats 4000000
set_option linter.unusedVariables false
set_option linter.unusedSimpArgs false

theorem ready_ok (kb bo bc : Nat) (S : KP) (rS : RI S) (E : Nat → Ent) (Q : QL → List Nat) (hQ : LIQ S Q) (p : Int) (hp : 0 ≤ p ∧ p < 8) (w : World) (hb : w.heap[kb]? = some (Blk.obj ⟨kC bo bc S, 90, false⟩)) (hs : w.heap[bo]? = some (Blk.obj ⟨stC E, 131, false⟩)) (hne : kb ≠ bo) :
    Calls Tryd.prog 30 #[.pointer (some ⟨kb, 0, none⟩), .int .i64 p] w fun e w' => ∃ o' c' F', e = .returned (.slice o' (refsP E (Q (.r p.toNat))).length c') ∧ (rl rfC 39 2 (refsP E (Q (.r p.toNat))) o' c' F').at w' ∧ Fr [] w w' ∧ ∀ b ∈ F', w.heap.size ≤ b := by
  have hlk := lt_of_heap hb
  have hlo := lt_of_heap hs
  refine enter0 (n := 12) (K := []) (T := [(0, .pointer (some ⟨kb, 0, none⟩)), (1, .int .i64 p)]) (L := [(kb, ⟨kC bo bc S, 90, true⟩), (bo, ⟨stC E, 131, true⟩)]) (args := [.pointer (some ⟨kb, 0, none⟩), .int .i64 p]) Tryd.func30 rfl rfl rfl rfl (kcons hb (kcons hs knil)) (by simp; exact hne) (kcons (by intro hq; cases hq) (kcons (by intro hq; cases hq) knil)) ?_
  intro a h
  refine wp_seq_k fun K1 hK1 => ?_
  refine nd_start (l := [0]) rfl ?_
  refine nd_batch tabOk tabZ_ok [(0, {})] [0, 1, 4] (T' := [(0, .pointer (some ⟨kb, 0, none⟩)), (1, .int .i64 p), (4, .slice none 0 0)]) (φ := True) (rest := []) h (by kernel_rfl) rfl trivial fun a2 h3 => ?_
  clear h
  refine nd_done ?_
  refine hK1 _ _ ?_
  clear hK1
  refine wp_seq_k fun K4 hK4 => ?_
  refine nd_start (l := [0, 1, 2, 3, 4, 5, 6, 7]) rfl ?_
  refine nd_batch tabOk tabZ_ok [(0, {}), (1, {}), (2, {}), (3, {}), (4, {}), (5, {})] [0, 1, 4, 5, 10] (T' := [(0, .pointer (some ⟨kb, 0, none⟩)), (1, .int .i64 p), (4, .slice none 0 0), (5, .pointer (some ⟨kb, 0, none⟩)), (10, .pointer (some ⟨kb, 6402 + (p.toNat * 3), none⟩))]) (φ := (0 ≤ p ∧ p < 8) ∧ True) (rest := [6, 7]) h3 (by kernel_rfl) rfl ⟨⟨by omega, by omega⟩, trivial⟩ fun a5 h6 => ?_
  clear h3
  refine nd_op ?_
  have h7a := h6.slotsMono (restr_spec (keep := [0, 1, 4, 5, 10]) rfl)
  have h7 := h7a.pc0
  clear h6 h7a
  refine op_call h7 rfl rfl rfl (callOk Tryd.func63 (by decide) rfl) (args := [.pointer (some ⟨kb, 0, none⟩), .pointer (some ⟨kb, 6402 + (p.toNat * 3), none⟩)]) rfl (by have hl := list_ok kb bo bc S rS E (.r p.toNat) (show _ < 8 by omega) (Q (.r p.toNat)) (hQ.lx.ch (show _ < 8 by omega)) _ (heap_fr hb h7.frame) (heap_fr hs h7.frame) hne; exact hl) ?_
  rintro _ w14 ⟨o8, c9, F10, rfl, hr11, hf12, hF13⟩
  refine ⟨_, rfl, ?_⟩
  have h15 := (h7.pcAdd (p' := pRow (rl rfC 39 2 (refsP E (Q (.r p.toNat))) o8 c9 F10)) (ps' := [pRow (rl rfC 39 2 (refsP E (Q (.r p.toNat))) o8 c9 F10)]) (pRow_ok hr11) hf12 hF13 rfl).put (d := some 11) (v := .slice o8 ((refsP E (Q (.r p.toNat))).length) c9) (T' := [(11, .slice o8 ((refsP E (Q (.r p.toNat))).length) c9), (0, .pointer (some ⟨kb, 0, none⟩)), (1, .int .i64 p), (4, .slice none 0 0), (5, .pointer (some ⟨kb, 0, none⟩)), (10, .pointer (some ⟨kb, 6402 + (p.toNat * 3), none⟩))]) rfl
  have hszh15 : w.heap.size ≤ _ := h7.frame.size
  clear h7
  have hFw : ∀ b ∈ F10, w.heap.size ≤ b := h15.inv.newOf (j := 0) (p := pRow (rl rfC 39 2 (refsP E (Q (.r p.toNat))) o8 c9 F10)) rfl
  refine nd_batch tabOk tabZ_ok [(7, {})] [0, 1, 4] (T' := [(0, .pointer (some ⟨kb, 0, none⟩)), (1, .int .i64 p), (4, .slice o8 ((refsP E (Q (.r p.toNat))).length) c9)]) (φ := True) (rest := []) h15 (by kernel_rfl) rfl trivial fun a16 h17 => ?_
  clear h15
  refine nd_done ?_
  refine hK4 _ _ ?_
  clear hK4
  refine wp_ret ?_
  try simp only [Exit.then, Exit.inBlock]
  try rw [if_pos trivial]
  exact s_ret tabOk tabZ_ok h17 [(.tmp 4, {})] (vs := [.slice o8 ((refsP E (Q (.r p.toNat))).length) c9]) (φ := True) rfl (by kernel_rfl) trivial ⟨o8, c9, F10, rfl, h17.inv.get (j := 0) (p := pRow (rl rfC 39 2 (refsP E (Q (.r p.toNat))) o8 c9 F10)) rfl, h17.frame, hFw⟩

theorem pl_F1 (mb : Nat) (ps : List Pe) (e : Pe) : ∀ b ∈ plF mb (ps ++ [e]), b ∈ plF mb ps ∨ b ∈ e.F := fun b hb => by
  unfold plF at hb ⊢
  rcases List.mem_cons.1 hb with h | h
  · exact .inl (by rw [h]; exact List.mem_cons_self ..)
  · rw [List.flatMap_append] at h
    rcases List.mem_append.1 h with h | h
    · exact .inl (List.mem_cons_of_mem _ h)
    · exact .inr (by simpa using h)

theorem refs_get {E : Nat → Ent} {xs : List Nat} {j x : Nat} (h : xs[j]? = some x) : (refsP E xs)[j]? = some (refP E (x : Int)) := by
  unfold refsP; rw [List.getElem?_map, h]; rfl
theorem refs_len {E : Nat → Ent} {xs : List Nat} : (refsP E xs).length = xs.length := by unfold refsP; rw [List.length_map]

theorem nodup_snoc {ps : List Pe} {e : Pe} (h : (ps.map (·.x)).Nodup) (hn : ∀ y ∈ ps, y.x ≠ e.x) : ((ps ++ [e]).map (·.x)).Nodup := by
  rw [List.map_append, List.nodup_append]
  refine ⟨h, by simp, fun a ha b hb hq => ?_⟩
  obtain ⟨y, hy, rfl⟩ := List.mem_map.1 ha
  simp at hb
  exact hn y hy (by rw [hq, hb])

theorem inOnePlace_ok (kb bo bc : Nat) (S : KP) (rS : RI S) (E : Nat → Ent) (h256 : (E 256).ty = 1) (Q : QL → List Nat) (hQ : LIQ S Q) (hX : XI S E) (hW : WI S E) (gn : Int) (hG : GI E gn) (w : World) (hb : w.heap[kb]? = some (Blk.obj ⟨kC bo bc S, 90, false⟩)) (hs : w.heap[bo]? = some (Blk.obj ⟨stC E, 131, false⟩)) (hne : kb ≠ bo) (ty0 : TypeId) (hn0 : w.heap[0]? = some (Blk.obj ⟨[.int .u16 0, .int .u32 0], ty0, true⟩)) (hk0 : kb ≠ 0) (ho0 : bo ≠ 0) :
    Calls Tryd.prog 29 #[.pointer (some ⟨kb, 0, none⟩)] w fun e w' => e = .returned (.bool true) ∧ Fr [] w w' := by
  have hlk := lt_of_heap hb
  have hlo := lt_of_heap hs
  have hl0 := lt_of_heap hn0
  refine enter0 (n := 238) (K := []) (T := [(0, .pointer (some ⟨kb, 0, none⟩))]) (L := [(kb, ⟨kC bo bc S, 90, true⟩), (bo, ⟨stC E, 131, true⟩), (0, ⟨[.int .u16 0, .int .u32 0], ty0, true⟩)]) (args := [.pointer (some ⟨kb, 0, none⟩)]) Tryd.func29 rfl rfl rfl rfl (kcons hb (kcons hs (kcons hn0 knil))) (by simp; exact ⟨⟨hne, hk0⟩, ho0⟩) (kcons (by intro hq; cases hq) (kcons (by intro hq; cases hq) (kcons (by intro hq; cases hq) knil))) ?_
  intro a h
  refine wp_seq_k fun K1 hK1 => ?_
  refine nd_start (l := [0]) rfl ?_
  refine nd_batch tabOk tabZ_ok [(0, {})] [0, 2] (T' := [(0, .pointer (some ⟨kb, 0, none⟩)), (2, .bool false)]) (φ := True) (rest := []) h (by kernel_rfl) rfl trivial fun a2 h3 => ?_
  clear h
  refine nd_done ?_
  refine hK1 _ _ ?_
  clear hK1
  refine wp_seq_k fun K4 hK4 => ?_
  refine nd_start (l := [0, 1]) rfl ?_
  refine nd_op ?_
  have h5a := h3.slotsMono (restr_spec (keep := [0, 2]) rfl)
  have h5 := h5a.pc0
  clear h3 h5a
  refine op_make h5 rfl rfl rfl ?_
  intro m1 w6 hm7 hf8 hn9
  have h10 := (h5.pcAdd (p' := pPl m1 0 E ([])) (ps' := [pPl m1 0 E ([])]) (PlAt.ok ⟨by exact hm7, fun _ h => (by cases h), fun _ h => (by cases h), by simp [plF]⟩) hf8 (fun b hb => by simp [pPl, plF, pPr] at hb; rw [hb]; exact hn9) rfl).put (d := some 23) (v := .map (some m1)) (T' := [(23, .map (some m1)), (0, .pointer (some ⟨kb, 0, none⟩)), (2, .bool false)]) rfl
  have hszh10 : w.heap.size ≤ _ := h5.frame.size
  clear h5
  refine nd_batch tabOk tabZ_ok [(1, {})] [0, 2, 3] (T' := [(0, .pointer (some ⟨kb, 0, none⟩)), (2, .bool false), (3, .map (some m1))]) (φ := True) (rest := []) h10 (by kernel_rfl) rfl trivial fun a11 h12 => ?_
  clear h10
  refine nd_done ?_
  refine hK4 _ _ ?_
  clear hK4
  refine wp_seq_k fun K13 hK13 => ?_
  refine nd_start (l := [0, 1]) rfl ?_
  refine nd_op ?_
  refine op_make h12 rfl rfl rfl ?_
  intro m2 w14 hm15 hf16 hn17
  have h18 := (h12.pcAdd (p' := pPr m2 0 E ([])) (ps' := [pPl m1 0 E ([]), pPr m2 0 E ([])]) (pPr_ok (by exact hm15)) hf16 (fun b hb => by simp [pPl, plF, pPr] at hb; rw [hb]; exact hn17) rfl).put (d := some 24) (v := .map (some m2)) (T' := [(24, .map (some m2)), (0, .pointer (some ⟨kb, 0, none⟩)), (2, .bool false), (3, .map (some m1))]) rfl
  have hszh18 : w.heap.size ≤ _ := h12.frame.size
  clear h12
  refine nd_batch tabOk tabZ_ok [(1, {})] [0, 2, 3, 4] (T' := [(0, .pointer (some ⟨kb, 0, none⟩)), (2, .bool false), (3, .map (some m1)), (4, .map (some m2))]) (φ := True) (rest := []) h18 (by kernel_rfl) rfl trivial fun a19 h20 => ?_
  clear h18
  refine nd_done ?_
  refine hK13 _ _ ?_
  clear hK13
  refine wp_seq_k fun K21 hK21 => ?_
  refine wp_seq_k fun K22 hK22 => ?_
  refine nd_start (l := [0]) rfl ?_
  refine nd_batch tabOk tabZ_ok [(0, {})] [0, 2, 3, 4, 5] (T' := [(0, .pointer (some ⟨kb, 0, none⟩)), (2, .bool false), (3, .map (some m1)), (4, .map (some m2)), (5, .int .i64 0)]) (φ := True) (rest := []) h20 (by kernel_rfl) rfl trivial fun a23 h24 => ?_
  clear h20
  refine nd_done ?_
  refine hK22 _ _ ?_
  clear hK22
  refine wp_block ?_
  refine wp_loop_ghost (fun g ga gw => ∃ (ps : List Pe) (qs : List Qe) (c1 c2 : Nat) (p : Int), ((g : Int) = 8 - p) ∧ (0 ≤ p ∧ p ≤ 8) ∧ (ps.map (fun e => (e.x, e.at_)) = absR Q (fun _ => zRf) p.toNat 0) ∧ (qs.map (fun e => (e.x, e.p)) = absR Q (fun p => (p : Int)) p.toNat 0) ∧ ((ps.map (·.x)).Nodup) ∧ St ⟨238, [], w, Pk w.heap.size [pPl m1 c1 E ps, pPr m2 c2 E qs], Pf [pPl m1 c1 E ps, pPr m2 c2 E qs]⟩ [(0, .pointer (some ⟨kb, 0, none⟩)), (2, .bool false), (3, .map (some m1)), (4, .map (some m2)), (5, .int .i64 p)] [(kb, ⟨kC bo bc S, 90, true⟩), (bo, ⟨stC E, 131, true⟩), (0, ⟨[.int .u16 0, .int .u32 0], ty0, true⟩)] ga gw) 8 ⟨[], [], 0, 0, 0, by decide, ⟨by decide, by decide⟩, (absR_zero _ _).symm, (absR_zero _ _).symm, List.nodup_nil, (h24.slotsMono (restr_spec (keep := [0, 2, 3, 4, 5]) rfl))⟩ ?_
  clear h24
  rintro g a25 w26 ⟨ps, qs, c1, c2, p, hi28, hi29, hi30, hi31, hi32, h27⟩
  have hpg := hi28
  have hp0 := hi29
  have hps := hi30
  have hqs := hi31
  have hnx := hi32
  refine wp_seq_k fun K33 hK33 => ?_
  refine wp_seq_k fun K34 hK34 => ?_
  refine nd_start (l := [0, 1]) rfl ?_
  refine nd_batch tabOk tabZ_ok [(0, {}), (1, {})] [0, 2, 3, 4, 5, 26] (T' := [(0, .pointer (some ⟨kb, 0, none⟩)), (2, .bool false), (3, .map (some m1)), (4, .map (some m2)), (5, .int .i64 p), (26, .bool (decide (p < 8)))]) (φ := True) (rest := []) h27 (by kernel_rfl) rfl trivial fun a35 h36 => ?_
  clear h27
  refine nd_done ?_
  refine hK34 _ _ ?_
  clear hK34
  refine c_split h36 (b := decide (p < 8)) rfl (fun hc37 => ?_) (fun hc37 => ?_)
  ·
    have hc37f : p < 8 := by simpa using hc37
    refine wp_skip ?_
    refine hK33 _ _ ?_
    clear hK33
    refine wp_seq_k fun K38 hK38 => ?_
    refine wp_block ?_
    refine wp_seq_k fun K39 hK39 => ?_
    refine nd_start (l := [0, 1, 2, 3, 4]) rfl ?_
    refine nd_batch tabOk tabZ_ok [(0, {}), (1, {})] [0, 2, 3, 4, 5, 29, 30] (T' := [(0, .pointer (some ⟨kb, 0, none⟩)), (2, .bool false), (3, .map (some m1)), (4, .map (some m2)), (5, .int .i64 p), (29, .pointer (some ⟨kb, 0, none⟩)), (30, .int .i64 p)]) (φ := True) (rest := [2, 3, 4]) h36 (by kernel_rfl) rfl trivial fun a40 h41 => ?_
    clear h36
    refine nd_op ?_
    refine op_call h41 rfl rfl rfl (callOk Tryd.func30 (by decide) rfl) (args := [.pointer (some ⟨kb, 0, none⟩), .int .i64 p]) rfl (ready_ok kb bo bc S rS E Q hQ p ⟨by omega, by omega⟩ _ (heap_fr hb h41.frame) (heap_fr hs h41.frame) hne) ?_
    rintro _ w48 ⟨o42, c43, F44, rfl, hr45, hf46, hF47⟩
    refine ⟨_, rfl, ?_⟩
    have h49 := (h41.pcAdd (p' := pRow (rl rfC 39 2 (refsP E (Q (.r p.toNat))) o42 c43 F44)) (ps' := [pPl m1 c1 E ps, pPr m2 c2 E qs, pRow (rl rfC 39 2 (refsP E (Q (.r p.toNat))) o42 c43 F44)]) (pRow_ok hr45) hf46 hF47 rfl).put (d := some 31) (v := .slice o42 ((refsP E (Q (.r p.toNat))).length) c43) (T' := [(31, .slice o42 ((refsP E (Q (.r p.toNat))).length) c43), (0, .pointer (some ⟨kb, 0, none⟩)), (2, .bool false), (3, .map (some m1)), (4, .map (some m2)), (5, .int .i64 p), (29, .pointer (some ⟨kb, 0, none⟩)), (30, .int .i64 p)]) rfl
    have hszh49 : w.heap.size ≤ _ := h41.frame.size
    clear h41
    refine nd_batch tabOk tabZ_ok [(3, {}), (4, {})] [31, 0, 2, 3, 4, 5, 32, 33] (T' := [(31, .slice o42 ((refsP E (Q (.r p.toNat))).length) c43), (0, .pointer (some ⟨kb, 0, none⟩)), (2, .bool false), (3, .map (some m1)), (4, .map (some m2)), (5, .int .i64 p), (32, .int .i64 (((refsP E (Q (.r p.toNat))).length : Nat) : Int)), (33, .int .i64 0)]) (φ := True) (rest := []) h49 (by kernel_rfl) rfl trivial fun a50 h51 => ?_
    clear h49
    refine nd_done ?_
    refine hK39 _ _ ?_
    clear hK39
    refine wp_block ?_
    have hps1 := hps
    have hqs1 := hqs
    have hnx1 := hnx
    have hxl : (Q (.r p.toNat)).length ≤ 256 := nodup_len (hQ.lx.ch (L := .r p.toNat) (show _ < 8 by omega)).nd (hQ.lx.ch (L := .r p.toNat) (show _ < 8 by omega)).lt
    have hrl := refs_len (E := E) (xs := Q (.r p.toNat))
    clear hps hqs hnx
    refine wp_loop_ghost (fun g2 ga gw => ∃ (ps : List Pe) (qs : List Qe) (c1 c2 : Nat) (j : Int), ((g2 : Int) = (Q (.r p.toNat)).length - j) ∧ (0 ≤ j ∧ j ≤ (Q (.r p.toNat)).length) ∧ (ps.map (fun e => (e.x, e.at_)) = absR Q (fun _ => zRf) p.toNat j.toNat) ∧ (qs.map (fun e => (e.x, e.p)) = absR Q (fun p => (p : Int)) p.toNat j.toNat) ∧ ((ps.map (·.x)).Nodup) ∧ St ⟨238, [], w, Pk w.heap.size [pPl m1 c1 E ps, pPr m2 c2 E qs, pRow (rl rfC 39 2 (refsP E (Q (.r p.toNat))) o42 c43 F44)], Pf [pPl m1 c1 E ps, pPr m2 c2 E qs, pRow (rl rfC 39 2 (refsP E (Q (.r p.toNat))) o42 c43 F44)]⟩ [(31, .slice o42 ((refsP E (Q (.r p.toNat))).length) c43), (0, .pointer (some ⟨kb, 0, none⟩)), (2, .bool false), (3, .map (some m1)), (4, .map (some m2)), (5, .int .i64 p), (32, .int .i64 (((refsP E (Q (.r p.toNat))).length : Nat) : Int)), (33, .int .i64 j)] [(kb, ⟨kC bo bc S, 90, true⟩), (bo, ⟨stC E, 131, true⟩), (0, ⟨[.int .u16 0, .int .u32 0], ty0, true⟩)] ga gw) (Q (.r p.toNat)).length ⟨ps, qs, c1, c2, 0, by simp, ⟨by simp, by simp⟩, hps1, hqs1, hnx1, (h51.slotsMono (restr_spec (keep := [31, 0, 2, 3, 4, 5, 32, 33]) rfl))⟩ ?_
    clear h51
    rintro g2 a52 w53 ⟨ps, qs, c1, c2, j, hi55, hi56, hi57, hi58, hi59, h54⟩
    have hjg := hi55
    have hj0 := hi56
    have hps := hi57
    have hqs := hi58
    have hnx := hi59
    refine wp_seq_k fun K60 hK60 => ?_
    refine nd_start (l := [0]) rfl ?_
    refine nd_batch tabOk tabZ_ok [(0, {})] [31, 0, 2, 3, 4, 5, 32, 33, 34] (T' := [(31, .slice o42 ((refsP E (Q (.r p.toNat))).length) c43), (0, .pointer (some ⟨kb, 0, none⟩)), (2, .bool false), (3, .map (some m1)), (4, .map (some m2)), (5, .int .i64 p), (32, .int .i64 (((refsP E (Q (.r p.toNat))).length : Nat) : Int)), (33, .int .i64 j), (34, .bool (decide (j < (((refsP E (Q (.r p.toNat))).length : Nat) : Int))))]) (φ := True) (rest := []) h54 (by kernel_rfl) rfl trivial fun a61 h62 => ?_
    clear h54
    refine nd_done ?_
    refine hK60 _ _ ?_
    clear hK60
    refine wp_seq_k fun K63 hK63 => ?_
    refine c_split h62 (b := decide (j < (((refsP E (Q (.r p.toNat))).length : Nat) : Int))) rfl (fun hc64 => ?_) (fun hc64 => ?_)
    ·
      have hc64f : j < (((refsP E (Q (.r p.toNat))).length : Nat) : Int) := by simpa using hc64
      obtain ⟨x, hx⟩ : ∃ x, (Q (.r p.toNat))[j.toNat]? = some x := ⟨(Q (.r p.toNat))[j.toNat]'(by omega), by simp⟩
      have hr9 := refs_get (E := E) hx
      obtain ⟨hx256, hfr1⟩ := fresh_r (g := fun _ => zRf) hQ (p := p.toNat) (by omega) hx
      obtain ⟨_, hfr2⟩ := fresh_r (g := fun (p : Nat) => (p : Int)) hQ (p := p.toNat) (by omega) hx
      have hfp : ∀ e ∈ ps, e.x < 256 ∧ e.x ≠ x := fun e he => hfr1 (e.x, e.at_) (by rw [← hps]; exact List.mem_map.2 ⟨e, he, rfl⟩)
      have hfq : ∀ e ∈ qs, e.x < 256 ∧ e.x ≠ x := fun e he => hfr2 (e.x, e.p) (by rw [← hqs]; exact List.mem_map.2 ⟨e, he, rfl⟩)
      obtain ⟨rb65, cs66, ho68, hb67, hrd70, hF69, _⟩ := rl_open (h62.inv.get (j := 2) (p := pRow (rl rfC 39 2 (refsP E (Q (.r p.toNat))) o42 c43 F44)) rfl) rfC_len hr9
      subst ho68 hF69
      have h71 := h62.open_ hb67 (h62.notinL (by simp [Pf, pRow, rl]) (kcons (fun _ e => by have := h62.inv.newOf (j := 2) (p := pRow (rl rfC 39 2 (refsP E (Q (.r p.toNat))) (some ⟨rb65, 0, none⟩) c43 ([rb65]))) rfl rb65 (by simp [pRow, rl]); omega) (kcons (fun _ e => by have := h62.inv.newOf (j := 2) (p := pRow (rl rfC 39 2 (refsP E (Q (.r p.toNat))) (some ⟨rb65, 0, none⟩) c43 ([rb65]))) rfl rb65 (by simp [pRow, rl]); omega) (kcons (fun _ e => by have := h62.inv.newOf (j := 2) (p := pRow (rl rfC 39 2 (refsP E (Q (.r p.toNat))) (some ⟨rb65, 0, none⟩) c43 ([rb65]))) rfl rb65 (by simp [pRow, rl]); omega) knil))))
      clear h62
      refine wp_skip ?_
      refine hK63 _ _ ?_
      clear hK63
      refine wp_seq_k fun K72 hK72 => ?_
      refine wp_block ?_
      refine wp_seq_k fun K73 hK73 => ?_
      refine nd_start (l := [0, 1, 2, 3]) rfl ?_
      refine nd_batch tabOk tabZ_ok [(0, {}), (1, {k := 3, m := 1, vs := [.int .u16 ((refP E (x : Int)).idx), .int .u32 ((refP E (x : Int)).gen)]})] [31, 0, 2, 3, 4, 5, 32, 33, 36] (T' := [(31, .slice (some ⟨rb65, 0, none⟩) ((refsP E (Q (.r p.toNat))).length) c43), (0, .pointer (some ⟨kb, 0, none⟩)), (2, .bool false), (3, .map (some m1)), (4, .map (some m2)), (5, .int .i64 p), (32, .int .i64 (((refsP E (Q (.r p.toNat))).length : Nat) : Int)), (33, .int .i64 j), (36, .agg #[.int .u16 ((refP E (x : Int)).idx), .int .u32 ((refP E (x : Int)).gen)])]) (φ := (0 ≤ j ∧ j < (((refsP E (Q (.r p.toNat))).length : Nat) : Int)) ∧ (rb65 = rb65 ∧ cellsAre cs66 (0 + (j.toNat * 2)) [.int .u16 ((refP E (x : Int)).idx), .int .u32 ((refP E (x : Int)).gen)]) ∧ True) (rest := [2, 3]) h71 (by kernel_rfl) rfl ⟨⟨by omega, by omega⟩, ⟨rfl, (by rw [Nat.zero_add]; exact hrd70)⟩, trivial⟩ fun a74 h75 => ?_
      clear h71
      refine nd_op ?_
      refine op_new tabOk (cells := [.int .u16 0, .int .u32 0]) (ty := 39) (ln := none) (L1 := fun b76 => [(kb, ⟨kC bo bc S, 90, true⟩), (bo, ⟨stC E, 131, true⟩), (0, ⟨[.int .u16 0, .int .u32 0], ty0, true⟩), (rb65, ⟨cs66, 39, true⟩), (b76, ⟨[.int .u16 0, .int .u32 0], 39, false⟩)]) h75 rfl rfl rfl rfl (by kernel_rfl) (fun _ => rfl) fun b76 w77 a78 h79 hf80 hn81 => ?_
      clear h75
      refine nd_op ?_
      refine op_store tabOk {k := 4} (L' := [(kb, ⟨kC bo bc S, 90, true⟩), (bo, ⟨stC E, 131, true⟩), (0, ⟨[.int .u16 0, .int .u32 0], ty0, true⟩), (rb65, ⟨cs66, 39, true⟩), (b76, ⟨[.int .u16 ((refP E (x : Int)).idx), .int .u32 ((refP E (x : Int)).gen)], 39, false⟩)]) (φ := b76 = b76 ∧ Nat.ble (0 + 2) 2 = true) h79 rfl rfl rfl (by kernel_rfl) ⟨rfl, rfl⟩ fun w82 h83 => ?_
      clear h79
      refine nd_done ?_
      refine hK73 _ _ ?_
      clear hK73
      refine wp_seq_k fun K84 hK84 => ?_
      refine nd_start (l := [0, 1, 2, 3, 4, 5, 6, 7, 8]) rfl ?_
      refine nd_batch tabOk tabZ_ok [(0, {}), (1, {k := 4}), (2, {k := 2})] [7, 31, 0, 2, 3, 4, 5, 32, 33, 37, 38, 40] (T' := [(7, .pointer (some ⟨b76, 0, none⟩)), (31, .slice (some ⟨rb65, 0, none⟩) ((refsP E (Q (.r p.toNat))).length) c43), (0, .pointer (some ⟨kb, 0, none⟩)), (2, .bool false), (3, .map (some m1)), (4, .map (some m2)), (5, .int .i64 p), (32, .int .i64 (((refsP E (Q (.r p.toNat))).length : Nat) : Int)), (33, .int .i64 j), (37, .map (some m1)), (38, .agg #[.int .u16 ((refP E (x : Int)).idx), .int .u32 ((refP E (x : Int)).gen)]), (40, .agg #[.int .u16 0, .int .u32 0])]) (φ := (b76 = b76 ∧ Nat.ble (0 + 2) 2 = true) ∧ (0 = 0 ∧ Nat.ble (0 + 2) 2 = true) ∧ True) (rest := [3, 4, 5, 6, 7, 8]) h83 (by kernel_rfl) rfl ⟨⟨rfl, rfl⟩, ⟨rfl, rfl⟩, trivial⟩ fun a85 h86 => ?_
      clear h83
      refine nd_op ?_
      refine op_new tabOk (cells := [.int .u16 0, .int .u32 0]) (ty := 39) (ln := (some 1)) (L1 := fun b87 => [(kb, ⟨kC bo bc S, 90, true⟩), (bo, ⟨stC E, 131, true⟩), (0, ⟨[.int .u16 0, .int .u32 0], ty0, true⟩), (rb65, ⟨cs66, 39, true⟩), (b76, ⟨[.int .u16 ((refP E (x : Int)).idx), .int .u32 ((refP E (x : Int)).gen)], 39, false⟩), (b87, ⟨[.int .u16 0, .int .u32 0], 39, false⟩)]) h86 rfl rfl rfl rfl (by kernel_rfl) (fun _ => rfl) fun b87 w88 a89 h90 hf91 hn92 => ?_
      clear h86
      refine nd_op ?_
      refine op_mapEntry (t := x) h90 rfl rfl rfl rfl rfl (h90.inv.get (j := 0) (p := pPl m1 c1 E ps) rfl) hx256 hfp ?_
      intro w93 hp94 hf95
      have h96 := (h90.pcSet (j := 0) (p := pPl m1 c1 E ps) (p' := pPlN m1 c1 E ps (refP E (x : Int))) (ps' := [pPlN m1 c1 E ps (refP E (x : Int)), pPr m2 c2 E qs, pRow (rl rfC 39 2 (refsP E (Q (.r p.toNat))) (some ⟨rb65, 0, none⟩) c43 ([rb65]))]) rfl (hp94.ok) hf95 (fun b hb => by simp at hb; rw [hb]; exact List.mem_cons_self ..) (fun b hb => .inl hb) (kcons (fun _ => (fun hq => by have := h90.inv.newOf (j := 0) (p := pPl m1 c1 E ps) rfl kb hq; omega)) (kcons (fun _ => (fun hq => by have := h90.inv.newOf (j := 0) (p := pPl m1 c1 E ps) rfl bo hq; omega)) (kcons (fun _ => (fun hq => by have := h90.inv.newOf (j := 0) (p := pPl m1 c1 E ps) rfl 0 hq; omega)) (kcons (fun _ => (fun hq => Pf_nodup h90.inv.nd (i := 2) (j := 0) (x := pRow (rl rfC 39 2 (refsP E (Q (.r p.toNat))) (some ⟨rb65, 0, none⟩) c43 ([rb65]))) (y := pPl m1 c1 E ps) rfl rfl (by decide) rb65 (by simp [pRow, rl]) hq)) (kcons (by intro hq; cases hq) (kcons (by intro hq; cases hq) knil)))))) rfl).put (d := some 42) (v := .tuple #[.slice none 0 0, .int .i64 ((c1 : Nat) : Int)]) (T' := [(42, .tuple #[.slice none 0 0, .int .i64 ((c1 : Nat) : Int)]), (41, .slice (some ⟨b87, 0, none⟩) 1 1), (7, .pointer (some ⟨b76, 0, none⟩)), (31, .slice (some ⟨rb65, 0, none⟩) ((refsP E (Q (.r p.toNat))).length) c43), (0, .pointer (some ⟨kb, 0, none⟩)), (2, .bool false), (3, .map (some m1)), (4, .map (some m2)), (5, .int .i64 p), (32, .int .i64 (((refsP E (Q (.r p.toNat))).length : Nat) : Int)), (33, .int .i64 j), (37, .map (some m1)), (38, .agg #[.int .u16 ((refP E (x : Int)).idx), .int .u32 ((refP E (x : Int)).gen)]), (40, .agg #[.int .u16 0, .int .u32 0])]) rfl
      have hszh96 : w.heap.size ≤ _ := h90.frame.size
      clear h90
      refine nd_batch tabOk tabZ_ok [(5, {})] [42, 41, 7, 31, 0, 2, 3, 4, 5, 32, 33, 37, 39] (T' := [(42, .tuple #[.slice none 0 0, .int .i64 ((c1 : Nat) : Int)]), (41, .slice (some ⟨b87, 0, none⟩) 1 1), (7, .pointer (some ⟨b76, 0, none⟩)), (31, .slice (some ⟨rb65, 0, none⟩) ((refsP E (Q (.r p.toNat))).length) c43), (0, .pointer (some ⟨kb, 0, none⟩)), (2, .bool false), (3, .map (some m1)), (4, .map (some m2)), (5, .int .i64 p), (32, .int .i64 (((refsP E (Q (.r p.toNat))).length : Nat) : Int)), (33, .int .i64 j), (37, .map (some m1)), (39, .slice none 0 0)]) (φ := True) (rest := [6, 7, 8]) h96 (by kernel_rfl) rfl trivial fun a97 h98 => ?_
      clear h96
      refine nd_op ?_
      refine op_append tabOk (e := 39) (so := none) (n := 0) (c := 0) (xo := some ⟨b87, 0, none⟩) (m := 1) (cx := 1) (vals := ([] : List Rf).flatMap rfC) (vs := [.int .u16 0, .int .u32 0]) (F := []) h98 rfl rfl rfl rfl rfl rfl rfl rfl rfl rfl rfl rfl (rl_nil rfC _ 39 2) (src_one (h98.kn (k := 5) rfl) rfl ⟨rfl, rfl, trivial⟩) (by decide) rfl ?_
      intro o99 c100 F101 w102 hr103 hf104 hF105
      have hr1032 : (rl rfC 39 2 [zRf] o99 c100 F101).at w102 := rl_app1 (enc := rfC) (xs := []) (y := zRf) hr103
      have h106 := (h98.pcAdd (p' := pRow (rl rfC 39 2 ([zRf]) o99 c100 F101)) (ps' := [pPlN m1 c1 E ps (refP E (x : Int)), pPr m2 c2 E qs, pRow (rl rfC 39 2 (refsP E (Q (.r p.toNat))) (some ⟨rb65, 0, none⟩) c43 ([rb65])), pRow (rl rfC 39 2 ([zRf]) o99 c100 F101)]) (pRow_ok hr1032) hf104 (fun b hb => (hF105 b hb).elim (fun h => by cases h) id) rfl).put (d := some 43) (v := .slice o99 1 c100) (T' := [(43, .slice o99 1 c100), (42, .tuple #[.slice none 0 0, .int .i64 ((c1 : Nat) : Int)]), (41, .slice (some ⟨b87, 0, none⟩) 1 1), (7, .pointer (some ⟨b76, 0, none⟩)), (31, .slice (some ⟨rb65, 0, none⟩) ((refsP E (Q (.r p.toNat))).length) c43), (0, .pointer (some ⟨kb, 0, none⟩)), (2, .bool false), (3, .map (some m1)), (4, .map (some m2)), (5, .int .i64 p), (32, .int .i64 (((refsP E (Q (.r p.toNat))).length : Nat) : Int)), (33, .int .i64 j), (37, .map (some m1)), (39, .slice none 0 0)]) rfl
      have hszh106 : w.heap.size ≤ _ := h98.frame.size
      clear h98
      refine nd_batch tabOk tabZ_ok [(7, {})] [43, 7, 31, 0, 2, 3, 4, 5, 32, 33, 37, 44] (T' := [(43, .slice o99 1 c100), (7, .pointer (some ⟨b76, 0, none⟩)), (31, .slice (some ⟨rb65, 0, none⟩) ((refsP E (Q (.r p.toNat))).length) c43), (0, .pointer (some ⟨kb, 0, none⟩)), (2, .bool false), (3, .map (some m1)), (4, .map (some m2)), (5, .int .i64 p), (32, .int .i64 (((refsP E (Q (.r p.toNat))).length : Nat) : Int)), (33, .int .i64 j), (37, .map (some m1)), (44, .int .i64 ((c1 : Nat) : Int))]) (φ := True) (rest := [8]) h106 (by kernel_rfl) rfl trivial fun a107 h108 => ?_
      clear h106
      refine nd_op ?_
      have hd112 : ∀ b ∈ F101, b ∉ plF m1 ps := Pf_nodup h108.inv.nd (i := 3) (j := 0) (x := pRow (rl rfC 39 2 ([zRf]) o99 c100 F101)) (y := pPlN m1 c1 E ps (refP E (x : Int))) rfl rfl (by decide)
      refine op_entryStore (t := x) (at_ := zRf) (F := F101) h108 rfl rfl rfl rfl rfl rfl (h108.inv.get (j := 0) (p := pPlN m1 c1 E ps (refP E (x : Int))) rfl) (h108.inv.get (j := 3) (p := pRow (rl rfC 39 2 ([zRf]) o99 c100 F101)) rfl) hd112 ?_
      intro w109 hp110 hf111
      have h113 := (St.pcInto (ps := [pPlN m1 c1 E ps (refP E (x : Int)), pPr m2 c2 E qs, pRow (rl rfC 39 2 (refsP E (Q (.r p.toNat))) (some ⟨rb65, 0, none⟩) c43 ([rb65]))]) (q := pRow (rl rfC 39 2 ([zRf]) o99 c100 F101)) (p := pPlN m1 c1 E ps (refP E (x : Int))) (p' := pPl m1 (c1 + 1) E (ps ++ [(⟨x, zRf, o99, c100, F101, c1⟩ : Pe)])) (ps' := [pPl m1 (c1 + 1) E (ps ++ [(⟨x, zRf, o99, c100, F101, c1⟩ : Pe)]), pPr m2 c2 E qs, pRow (rl rfC 39 2 (refsP E (Q (.r p.toNat))) (some ⟨rb65, 0, none⟩) c43 ([rb65]))]) h108 (j := 0) rfl (hp110.ok) (pl_F1 m1 ps (⟨x, zRf, o99, c100, F101, c1⟩ : Pe)) hf111 (fun b hb => by simp at hb; rw [hb]; exact List.mem_cons_self ..) (kcons (fun _ => (fun hq => by have := h108.inv.newOf (j := 0) (p := pPlN m1 c1 E ps (refP E (x : Int))) rfl kb hq; omega)) (kcons (fun _ => (fun hq => by have := h108.inv.newOf (j := 0) (p := pPlN m1 c1 E ps (refP E (x : Int))) rfl bo hq; omega)) (kcons (fun _ => (fun hq => by have := h108.inv.newOf (j := 0) (p := pPlN m1 c1 E ps (refP E (x : Int))) rfl 0 hq; omega)) (kcons (fun _ => (fun hq => Pf_nodup h108.inv.nd (i := 2) (j := 0) (x := pRow (rl rfC 39 2 (refsP E (Q (.r p.toNat))) (some ⟨rb65, 0, none⟩) c43 ([rb65]))) (y := pPlN m1 c1 E ps (refP E (x : Int))) rfl rfl (by decide) rb65 (by simp [pRow, rl]) hq)) (kcons (by intro hq; cases hq) (kcons (by intro hq; cases hq) knil)))))) rfl).put (d := none) (v := undef) (T' := [(43, .slice o99 1 c100), (7, .pointer (some ⟨b76, 0, none⟩)), (31, .slice (some ⟨rb65, 0, none⟩) ((refsP E (Q (.r p.toNat))).length) c43), (0, .pointer (some ⟨kb, 0, none⟩)), (2, .bool false), (3, .map (some m1)), (4, .map (some m2)), (5, .int .i64 p), (32, .int .i64 (((refsP E (Q (.r p.toNat))).length : Nat) : Int)), (33, .int .i64 j), (37, .map (some m1)), (44, .int .i64 ((c1 : Nat) : Int))]) rfl
      have hszh113 : w.heap.size ≤ _ := h108.frame.size
      clear h108
      refine nd_done ?_
      refine hK84 _ _ ?_
      clear hK84
      refine nd_start (l := [0, 1, 2, 3]) rfl ?_
      refine nd_batch tabOk tabZ_ok [(0, {}), (1, {k := 4}), (2, {})] [7, 31, 0, 2, 3, 4, 5, 32, 33, 45, 46, 47] (T' := [(7, .pointer (some ⟨b76, 0, none⟩)), (31, .slice (some ⟨rb65, 0, none⟩) ((refsP E (Q (.r p.toNat))).length) c43), (0, .pointer (some ⟨kb, 0, none⟩)), (2, .bool false), (3, .map (some m1)), (4, .map (some m2)), (5, .int .i64 p), (32, .int .i64 (((refsP E (Q (.r p.toNat))).length : Nat) : Int)), (33, .int .i64 j), (45, .map (some m2)), (46, .agg #[.int .u16 ((refP E (x : Int)).idx), .int .u32 ((refP E (x : Int)).gen)]), (47, .int .i64 p)]) (φ := (b76 = b76 ∧ Nat.ble (0 + 2) 2 = true) ∧ True) (rest := [3]) h113 (by kernel_rfl) rfl ⟨⟨rfl, rfl⟩, trivial⟩ fun a114 h115 => ?_
      clear h113
      refine nd_op ?_
      refine op_prio (t := x) (p := p) h115 rfl rfl rfl rfl rfl rfl (h115.inv.get (j := 1) (p := pPr m2 c2 E qs) rfl) hx256 hfq ?_
      intro w116 hp117 hf118
      have h119 := (h115.pcSet (j := 1) (p := pPr m2 c2 E qs) (p' := pPr m2 (c2 + 1) E (qs ++ [⟨x, p, c2⟩])) (ps' := [pPl m1 (c1 + 1) E (ps ++ [(⟨x, zRf, o99, c100, F101, c1⟩ : Pe)]), pPr m2 (c2 + 1) E (qs ++ [⟨x, p, c2⟩]), pRow (rl rfC 39 2 (refsP E (Q (.r p.toNat))) (some ⟨rb65, 0, none⟩) c43 ([rb65]))]) rfl (pPr_ok hp117) hf118 (fun _ h => h) (fun b hb => .inl hb) (kcons (fun _ => (fun hq => by have := h115.inv.newOf (j := 1) (p := pPr m2 c2 E qs) rfl kb hq; omega)) (kcons (fun _ => (fun hq => by have := h115.inv.newOf (j := 1) (p := pPr m2 c2 E qs) rfl bo hq; omega)) (kcons (fun _ => (fun hq => by have := h115.inv.newOf (j := 1) (p := pPr m2 c2 E qs) rfl 0 hq; omega)) (kcons (fun _ => (fun hq => Pf_nodup h115.inv.nd (i := 2) (j := 1) (x := pRow (rl rfC 39 2 (refsP E (Q (.r p.toNat))) (some ⟨rb65, 0, none⟩) c43 ([rb65]))) (y := pPr m2 c2 E qs) rfl rfl (by decide) rb65 (by simp [pRow, rl]) hq)) (kcons (by intro hq; cases hq) (kcons (by intro hq; cases hq) knil)))))) rfl).put (d := none) (v := undef) (T' := [(7, .pointer (some ⟨b76, 0, none⟩)), (31, .slice (some ⟨rb65, 0, none⟩) ((refsP E (Q (.r p.toNat))).length) c43), (0, .pointer (some ⟨kb, 0, none⟩)), (2, .bool false), (3, .map (some m1)), (4, .map (some m2)), (5, .int .i64 p), (32, .int .i64 (((refsP E (Q (.r p.toNat))).length : Nat) : Int)), (33, .int .i64 j), (45, .map (some m2)), (46, .agg #[.int .u16 ((refP E (x : Int)).idx), .int .u32 ((refP E (x : Int)).gen)]), (47, .int .i64 p)]) rfl
      have hszh119 : w.heap.size ≤ _ := h115.frame.size
      clear h115
      refine nd_done ?_
      refine hK72 _ _ ?_
      clear hK72
      refine nd_start (l := [0, 1]) rfl ?_
      refine nd_batch tabOk tabZ_ok [(0, {}), (1, {})] [7, 31, 0, 2, 3, 4, 5, 32, 33] (T' := [(7, .pointer (some ⟨b76, 0, none⟩)), (31, .slice (some ⟨rb65, 0, none⟩) ((refsP E (Q (.r p.toNat))).length) c43), (0, .pointer (some ⟨kb, 0, none⟩)), (2, .bool false), (3, .map (some m1)), (4, .map (some m2)), (5, .int .i64 p), (32, .int .i64 (((refsP E (Q (.r p.toNat))).length : Nat) : Int)), (33, .int .i64 (j + 1))]) (φ := inR .i64 (j + 1) ∧ True) (rest := []) h119 (by kernel_rfl) rfl ⟨⟨by omega, by omega⟩, trivial⟩ fun a120 h121 => ?_
      clear h119
      refine nd_done ?_
      have h122 := h121.memMono (L' := [(kb, ⟨kC bo bc S, 90, true⟩), (bo, ⟨stC E, 131, true⟩), (0, ⟨[.int .u16 0, .int .u32 0], ty0, true⟩)]) (List.Sublist.cons_cons _ (List.Sublist.cons_cons _ (List.Sublist.cons_cons _ (List.Sublist.cons _ (List.Sublist.cons _ (List.Sublist.cons _ List.Sublist.slnil))))))
      clear h121
      exact ⟨(g2 - 1), by omega, (ps ++ [(⟨x, zRf, o99, c100, F101, c1⟩ : Pe)]), (qs ++ [⟨x, p, c2⟩]), (c1 + 1), (c2 + 1), (j + 1), by omega, ⟨by omega, by omega⟩, (by rw [show (j + 1).toNat = j.toNat + 1 by omega, absR_one _ _ hx, List.map_append, hps]; rfl), (by rw [show (j + 1).toNat = j.toNat + 1 by omega, absR_one _ _ hx, List.map_append, hqs, show ((p.toNat : Nat) : Int) = p by omega]; rfl), (nodup_snoc hnx (fun e he => (hfp e he).2)), (h122.slotsMono (restr_spec (keep := [31, 0, 2, 3, 4, 5, 32, 33]) rfl))⟩
    ·
      have hc64f : ¬ j < (((refsP E (Q (.r p.toNat))).length : Nat) : Int) := by simpa using hc64
      rw [absR_next _ _ _ _ (by omega)] at hps hqs
      refine wp_exit ?_
      refine hK38 _ _ ?_
      clear hK38
      refine nd_start (l := [0, 1, 2]) rfl ?_
      refine nd_batch tabOk tabZ_ok [(0, {}), (1, {}), (2, {})] [31, 0, 2, 3, 4, 32, 33, 5] (T' := [(31, .slice o42 ((refsP E (Q (.r p.toNat))).length) c43), (0, .pointer (some ⟨kb, 0, none⟩)), (2, .bool false), (3, .map (some m1)), (4, .map (some m2)), (32, .int .i64 (((refsP E (Q (.r p.toNat))).length : Nat) : Int)), (33, .int .i64 j), (5, .int .i64 (p + 1))]) (φ := inR .i64 (p + 1) ∧ True) (rest := []) h62 (by kernel_rfl) rfl ⟨⟨by omega, by omega⟩, trivial⟩ fun a123 h124 => ?_
      clear h62
      refine nd_done ?_
      have h125 := h124.pcSub (ps' := [pPl m1 c1 E ps, pPr m2 c2 E qs]) (List.Sublist.cons_cons _ (List.Sublist.cons_cons _ (List.Sublist.cons _ List.Sublist.slnil)))
      clear h124
      exact ⟨(g - 1), by omega, ps, qs, c1, c2, (p + 1), by omega, ⟨by omega, by omega⟩, (by rw [show (p + 1).toNat = p.toNat + 1 by omega]; exact hps), (by rw [show (p + 1).toNat = p.toNat + 1 by omega]; exact hqs), hnx, (h125.slotsMono (restr_spec (keep := [0, 2, 3, 4, 5]) rfl))⟩
  ·
    have hc37f : ¬ p < 8 := by simpa using hc37
    have hp8 : p.toNat = 8 := by omega
    rw [hp8] at hps hqs
    refine wp_exit ?_
    refine hK21 _ _ ?_
    clear hK21
    refine wp_seq_k fun K126 hK126 => ?_
    refine nd_start (l := [0, 1, 2, 3, 4, 5, 6]) rfl ?_
    refine nd_batch tabOk tabZ_ok [(0, {})] [0, 2, 3, 4, 5, 50] (T' := [(0, .pointer (some ⟨kb, 0, none⟩)), (2, .bool false), (3, .map (some m1)), (4, .map (some m2)), (5, .int .i64 p), (50, .pointer (some ⟨kb, 0, none⟩))]) (φ := True) (rest := [1, 2, 3, 4, 5, 6]) h36 (by kernel_rfl) rfl trivial fun a127 h128 => ?_
    clear h36
    refine nd_op ?_
    refine op_call h128 rfl rfl rfl (callOk Tryd.func43 (by decide) rfl) (args := [.pointer (some ⟨kb, 0, none⟩)]) rfl (lower_ok kb bo bc S _ (heap_fr hb h128.frame)) ?_
    rintro _ w129 ⟨rfl, hf131⟩
    refine ⟨_, rfl, ?_⟩
    have h130 := (h128.grow hf131).put (d := some 51) (v := .tuple #[.pointer (some ⟨bo, 0, none⟩), .pointer (some ⟨bc, 0, none⟩)]) (T' := [(51, .tuple #[.pointer (some ⟨bo, 0, none⟩), .pointer (some ⟨bc, 0, none⟩)]), (0, .pointer (some ⟨kb, 0, none⟩)), (2, .bool false), (3, .map (some m1)), (4, .map (some m2)), (5, .int .i64 p), (50, .pointer (some ⟨kb, 0, none⟩))]) rfl
    clear h128
    refine nd_batch tabOk tabZ_ok [(2, {}), (3, {}), (4, {}), (5, {}), (6, {})] [0, 2, 3, 4, 5, 8] (T' := [(0, .pointer (some ⟨kb, 0, none⟩)), (2, .bool false), (3, .map (some m1)), (4, .map (some m2)), (5, .int .i64 p), (8, .pointer (some ⟨bo, 0, none⟩))]) (φ := True) (rest := []) h130 (by kernel_rfl) rfl trivial fun a132 h133 => ?_
    clear h130
    refine nd_done ?_
    refine hK126 _ _ ?_
    clear hK126
    refine wp_seq_k fun K134 hK134 => ?_
    refine wp_seq_k fun K135 hK135 => ?_
    refine nd_start (l := [0, 1, 2, 3, 4, 5, 6]) rfl ?_
    refine nd_batch tabOk tabZ_ok [(0, {})] [0, 2, 3, 4, 5, 8, 54] (T' := [(0, .pointer (some ⟨kb, 0, none⟩)), (2, .bool false), (3, .map (some m1)), (4, .map (some m2)), (5, .int .i64 p), (8, .pointer (some ⟨bo, 0, none⟩)), (54, .pointer (some ⟨kb, 0, none⟩))]) (φ := True) (rest := [1, 2, 3, 4, 5, 6]) h133 (by kernel_rfl) rfl trivial fun a136 h137 => ?_
    clear h133
    refine nd_op ?_
    refine op_call h137 rfl rfl rfl (callOk Tryd.func27 (by decide) rfl) (args := [.pointer (some ⟨kb, 0, none⟩), .int .u8 4]) rfl (live_ok kb bo bc S E 4 _ (heap_fr hb h137.frame) (heap_fr hs h137.frame) hne) ?_
    rintro _ w144 ⟨o138, c139, F140, rfl, hr141, hf142, hF143⟩
    refine ⟨_, rfl, ?_⟩
    have h145 := (h137.pcAdd (p' := pRow (rl rfC 39 2 (liveP E 4 256) o138 c139 F140)) (ps' := [pPl m1 c1 E ps, pPr m2 c2 E qs, pRow (rl rfC 39 2 (liveP E 4 256) o138 c139 F140)]) (pRow_ok hr141) hf142 hF143 rfl).put (d := some 55) (v := .slice o138 ((liveP E 4 256).length) c139) (T' := [(55, .slice o138 ((liveP E 4 256).length) c139), (0, .pointer (some ⟨kb, 0, none⟩)), (2, .bool false), (3, .map (some m1)), (4, .map (some m2)), (5, .int .i64 p), (8, .pointer (some ⟨bo, 0, none⟩)), (54, .pointer (some ⟨kb, 0, none⟩))]) rfl
    have hszh145 : w.heap.size ≤ _ := h137.frame.size
    clear h137
    refine nd_batch tabOk tabZ_ok [(2, {})] [55, 0, 2, 3, 4, 5, 8, 56] (T' := [(55, .slice o138 ((liveP E 4 256).length) c139), (0, .pointer (some ⟨kb, 0, none⟩)), (2, .bool false), (3, .map (some m1)), (4, .map (some m2)), (5, .int .i64 p), (8, .pointer (some ⟨bo, 0, none⟩)), (56, .pointer (some ⟨kb, 0, none⟩))]) (φ := True) (rest := [3, 4, 5, 6]) h145 (by kernel_rfl) rfl trivial fun a146 h147 => ?_
    clear h145
    refine nd_op ?_
    refine op_call h147 rfl rfl rfl (callOk Tryd.func27 (by decide) rfl) (args := [.pointer (some ⟨kb, 0, none⟩), .int .u8 5]) rfl (live_ok kb bo bc S E 5 _ (heap_fr hb h147.frame) (heap_fr hs h147.frame) hne) ?_
    rintro _ w154 ⟨o148, c149, F150, rfl, hr151, hf152, hF153⟩
    refine ⟨_, rfl, ?_⟩
    have h155 := (h147.pcAdd (p' := pRow (rl rfC 39 2 (liveP E 5 256) o148 c149 F150)) (ps' := [pPl m1 c1 E ps, pPr m2 c2 E qs, pRow (rl rfC 39 2 (liveP E 4 256) o138 c139 F140), pRow (rl rfC 39 2 (liveP E 5 256) o148 c149 F150)]) (pRow_ok hr151) hf152 hF153 rfl).put (d := some 57) (v := .slice o148 ((liveP E 5 256).length) c149) (T' := [(57, .slice o148 ((liveP E 5 256).length) c149), (55, .slice o138 ((liveP E 4 256).length) c139), (0, .pointer (some ⟨kb, 0, none⟩)), (2, .bool false), (3, .map (some m1)), (4, .map (some m2)), (5, .int .i64 p), (8, .pointer (some ⟨bo, 0, none⟩)), (56, .pointer (some ⟨kb, 0, none⟩))]) rfl
    have hszh155 : w.heap.size ≤ _ := h147.frame.size
    clear h147
    refine nd_op ?_
    have hl4 := liveP_len E 4 256
    have hl5 := liveP_len E 5 256
    refine op_append tabOk (e := 39) (so := o138) (n := (liveP E 4 256).length) (c := c139) (xo := o148) (m := (liveP E 5 256).length) (cx := c149) (vals := (liveP E 4 256).flatMap rfC) (vs := (liveP E 5 256).flatMap rfC) (F := F140) h155 rfl rfl rfl rfl rfl rfl rfl rfl rfl rfl rfl rfl (h155.inv.get (j := 2) (p := pRow (rl rfC 39 2 (liveP E 4 256) o138 c139 F140)) rfl) (src_row (h155.inv.get (j := 3) (p := pRow (rl rfC 39 2 (liveP E 5 256) o148 c149 F150)) rfl)) (by omega) (allOne_rf _) ?_
    intro o156 c157 F158 w159 hr160 hf161 hF162
    rw [← List.flatMap_append, ← List.length_append] at hr160
    rw [← List.length_append]
    have h163 := (h155.pcSet (j := 2) (p := pRow (rl rfC 39 2 (liveP E 4 256) o138 c139 F140)) (p' := pRow (rl rfC 39 2 ((liveP E 4 256) ++ (liveP E 5 256)) o156 c157 F158)) (ps' := [pPl m1 c1 E ps, pPr m2 c2 E qs, pRow (rl rfC 39 2 ((liveP E 4 256) ++ (liveP E 5 256)) o156 c157 F158), pRow (rl rfC 39 2 (liveP E 5 256) o148 c149 F150)]) rfl (pRow_ok hr160) hf161 (fun _ h => h) hF162 (kcons (fun _ => (fun hq => by have := h155.inv.newOf (j := 2) (p := pRow (rl rfC 39 2 (liveP E 4 256) o138 c139 F140)) rfl kb hq; omega)) (kcons (fun _ => (fun hq => by have := h155.inv.newOf (j := 2) (p := pRow (rl rfC 39 2 (liveP E 4 256) o138 c139 F140)) rfl bo hq; omega)) (kcons (fun _ => (fun hq => by have := h155.inv.newOf (j := 2) (p := pRow (rl rfC 39 2 (liveP E 4 256) o138 c139 F140)) rfl 0 hq; omega)) knil))) rfl).put (d := some 58) (v := .slice o156 (((liveP E 4 256) ++ (liveP E 5 256)).length) c157) (T' := [(58, .slice o156 (((liveP E 4 256) ++ (liveP E 5 256)).length) c157), (57, .slice o148 ((liveP E 5 256).length) c149), (55, .slice o138 ((liveP E 4 256).length) c139), (0, .pointer (some ⟨kb, 0, none⟩)), (2, .bool false), (3, .map (some m1)), (4, .map (some m2)), (5, .int .i64 p), (8, .pointer (some ⟨bo, 0, none⟩)), (56, .pointer (some ⟨kb, 0, none⟩))]) rfl
    have hszh163 : w.heap.size ≤ _ := h155.frame.size
    clear h155
    refine nd_batch tabOk tabZ_ok [(5, {}), (6, {})] [58, 0, 2, 3, 4, 5, 8, 59, 60] (T' := [(58, .slice o156 (((liveP E 4 256) ++ (liveP E 5 256)).length) c157), (0, .pointer (some ⟨kb, 0, none⟩)), (2, .bool false), (3, .map (some m1)), (4, .map (some m2)), (5, .int .i64 p), (8, .pointer (some ⟨bo, 0, none⟩)), (59, .int .i64 ((((liveP E 4 256) ++ (liveP E 5 256)).length : Nat) : Int)), (60, .int .i64 0)]) (φ := True) (rest := []) h163 (by kernel_rfl) rfl trivial fun a164 h165 => ?_
    clear h163
    refine nd_done ?_
    refine hK135 _ _ ?_
    clear hK135
    refine wp_block ?_
    have h166 := h165.pcSub (ps' := [pPl m1 c1 E ps, pPr m2 c2 E qs, pRow (rl rfC 39 2 ((liveP E 4 256) ++ (liveP E 5 256)) o156 c157 F158)]) (List.Sublist.cons_cons _ (List.Sublist.cons_cons _ (List.Sublist.cons_cons _ (List.Sublist.cons _ List.Sublist.slnil))))
    clear h165
    have hol : (liveP E 4 256 ++ liveP E 5 256).length = (idsP E).length := by rw [ids_objs, List.length_map]
    have hil := ids_len E
    have hps2 := hps
    have hnx2 := hnx
    rw [← absW_zero Q E] at hps2
    clear hps hnx
    refine wp_loop_ghost (fun g ga gw => ∃ (ps : List Pe) (c1 : Nat) (m : Int), ((g : Int) = (idsP E).length - m) ∧ (0 ≤ m ∧ m ≤ (idsP E).length) ∧ (ps.map (fun e => (e.x, e.at_)) = absW Q E m.toNat 0) ∧ ((ps.map (·.x)).Nodup) ∧ St ⟨238, [], w, Pk w.heap.size [pPl m1 c1 E ps, pPr m2 c2 E qs, pRow (rl rfC 39 2 ((liveP E 4 256) ++ (liveP E 5 256)) o156 c157 F158)], Pf [pPl m1 c1 E ps, pPr m2 c2 E qs, pRow (rl rfC 39 2 ((liveP E 4 256) ++ (liveP E 5 256)) o156 c157 F158)]⟩ [(58, .slice o156 (((liveP E 4 256) ++ (liveP E 5 256)).length) c157), (0, .pointer (some ⟨kb, 0, none⟩)), (2, .bool false), (3, .map (some m1)), (4, .map (some m2)), (8, .pointer (some ⟨bo, 0, none⟩)), (59, .int .i64 ((((liveP E 4 256) ++ (liveP E 5 256)).length : Nat) : Int)), (60, .int .i64 m)] [(kb, ⟨kC bo bc S, 90, true⟩), (bo, ⟨stC E, 131, true⟩), (0, ⟨[.int .u16 0, .int .u32 0], ty0, true⟩)] ga gw) (idsP E).length ⟨ps, c1, 0, by simp, ⟨by simp, by simp⟩, hps2, hnx2, (h166.slotsMono (restr_spec (keep := [58, 0, 2, 3, 4, 8, 59, 60]) rfl))⟩ ?_
    clear h166
    rintro g a167 w168 ⟨ps, c1, m, hi170, hi171, hi172, hi173, h169⟩
    have hmg := hi170
    have hm0 := hi171
    have hps := hi172
    have hnx := hi173
    refine wp_seq_k fun K174 hK174 => ?_
    refine nd_start (l := [0]) rfl ?_
    refine nd_batch tabOk tabZ_ok [(0, {})] [58, 0, 2, 3, 4, 8, 59, 60, 61] (T' := [(58, .slice o156 (((liveP E 4 256) ++ (liveP E 5 256)).length) c157), (0, .pointer (some ⟨kb, 0, none⟩)), (2, .bool false), (3, .map (some m1)), (4, .map (some m2)), (8, .pointer (some ⟨bo, 0, none⟩)), (59, .int .i64 ((((liveP E 4 256) ++ (liveP E 5 256)).length : Nat) : Int)), (60, .int .i64 m), (61, .bool (decide (m < ((((liveP E 4 256) ++ (liveP E 5 256)).length : Nat) : Int))))]) (φ := True) (rest := []) h169 (by kernel_rfl) rfl trivial fun a175 h176 => ?_
    clear h169
    refine nd_done ?_
    refine hK174 _ _ ?_
    clear hK174
    refine wp_seq_k fun K177 hK177 => ?_
    refine c_split h176 (b := decide (m < ((((liveP E 4 256) ++ (liveP E 5 256)).length : Nat) : Int))) rfl (fun hc178 => ?_) (fun hc178 => ?_)
    ·
      have hc178f : m < ((((liveP E 4 256) ++ (liveP E 5 256)).length : Nat) : Int) := by simpa using hc178
      obtain ⟨i, hi⟩ : ∃ i, (idsP E)[m.toNat]? = some i := ⟨(idsP E)[m.toNat]'(by omega), by simp⟩
      have hr9 : (liveP E 4 256 ++ liveP E 5 256)[m.toNat]? = some (refAtP E (i : Int)) := by rw [ids_objs, List.getElem?_map, hi]; rfl
      have hi9 := ids_mem.1 (List.mem_of_getElem? hi)
      have hri := refAt_idx (E := E) (i := (i : Int)) ⟨by omega, by omega⟩
      have hxl : (Q (.w i)).length ≤ 256 := nodup_len (hQ.lx.ch (L := .w i) hi9.1).nd (hQ.lx.ch (L := .w i) hi9.1).lt
      have hrl := refs_len (E := E) (xs := Q (.w i))
      have hwz : 0 < (Q (.w i)).length → S.word i = 0 := fun hp => word_zero hQ rS hX hW hi9.1 (fun e => by rw [e] at hp; simp at hp)
      obtain ⟨rb179, cs180, ho182, hb181, hrd184, hF183, _⟩ := rl_open (h176.inv.get (j := 2) (p := pRow (rl rfC 39 2 ((liveP E 4 256) ++ (liveP E 5 256)) o156 c157 F158)) rfl) rfC_len hr9
      subst ho182 hF183
      have h185 := h176.open_ hb181 (h176.notinL (by simp [Pf, pRow, rl]) (kcons (fun _ e => by have := h176.inv.newOf (j := 2) (p := pRow (rl rfC 39 2 ((liveP E 4 256) ++ (liveP E 5 256)) (some ⟨rb179, 0, none⟩) c157 ([rb179]))) rfl rb179 (by simp [pRow, rl]); omega) (kcons (fun _ e => by have := h176.inv.newOf (j := 2) (p := pRow (rl rfC 39 2 ((liveP E 4 256) ++ (liveP E 5 256)) (some ⟨rb179, 0, none⟩) c157 ([rb179]))) rfl rb179 (by simp [pRow, rl]); omega) (kcons (fun _ e => by have := h176.inv.newOf (j := 2) (p := pRow (rl rfC 39 2 ((liveP E 4 256) ++ (liveP E 5 256)) (some ⟨rb179, 0, none⟩) c157 ([rb179]))) rfl rb179 (by simp [pRow, rl]); omega) knil))))
      clear h176
      refine wp_skip ?_
      refine hK177 _ _ ?_
      clear hK177
      refine wp_seq_k fun K186 hK186 => ?_
      refine wp_block ?_
      refine wp_seq_k fun K187 hK187 => ?_
      refine nd_start (l := [0, 1, 2, 3]) rfl ?_
      refine nd_batch tabOk tabZ_ok [(0, {}), (1, {k := 3, m := 1, vs := [.int .u16 ((refAtP E (i : Int)).idx), .int .u32 ((refAtP E (i : Int)).gen)]})] [58, 0, 2, 3, 4, 8, 59, 60, 63] (T' := [(58, .slice (some ⟨rb179, 0, none⟩) (((liveP E 4 256) ++ (liveP E 5 256)).length) c157), (0, .pointer (some ⟨kb, 0, none⟩)), (2, .bool false), (3, .map (some m1)), (4, .map (some m2)), (8, .pointer (some ⟨bo, 0, none⟩)), (59, .int .i64 ((((liveP E 4 256) ++ (liveP E 5 256)).length : Nat) : Int)), (60, .int .i64 m), (63, .agg #[.int .u16 ((refAtP E (i : Int)).idx), .int .u32 ((refAtP E (i : Int)).gen)])]) (φ := (0 ≤ m ∧ m < ((((liveP E 4 256) ++ (liveP E 5 256)).length : Nat) : Int)) ∧ (rb179 = rb179 ∧ cellsAre cs180 (0 + (m.toNat * 2)) [.int .u16 ((refAtP E (i : Int)).idx), .int .u32 ((refAtP E (i : Int)).gen)]) ∧ True) (rest := [2, 3]) h185 (by kernel_rfl) rfl ⟨⟨by omega, by omega⟩, ⟨rfl, (by rw [Nat.zero_add]; exact hrd184)⟩, trivial⟩ fun a188 h189 => ?_
      clear h185
      refine nd_op ?_
      refine op_new tabOk (cells := [.int .u16 0, .int .u32 0]) (ty := 39) (ln := none) (L1 := fun b190 => [(kb, ⟨kC bo bc S, 90, true⟩), (bo, ⟨stC E, 131, true⟩), (0, ⟨[.int .u16 0, .int .u32 0], ty0, true⟩), (rb179, ⟨cs180, 39, true⟩), (b190, ⟨[.int .u16 0, .int .u32 0], 39, false⟩)]) h189 rfl rfl rfl rfl (by kernel_rfl) (fun _ => rfl) fun b190 w191 a192 h193 hf194 hn195 => ?_
      clear h189
      refine nd_op ?_
      refine op_store tabOk {k := 4} (L' := [(kb, ⟨kC bo bc S, 90, true⟩), (bo, ⟨stC E, 131, true⟩), (0, ⟨[.int .u16 0, .int .u32 0], ty0, true⟩), (rb179, ⟨cs180, 39, true⟩), (b190, ⟨[.int .u16 ((refAtP E (i : Int)).idx), .int .u32 ((refAtP E (i : Int)).gen)], 39, false⟩)]) (φ := b190 = b190 ∧ Nat.ble (0 + 2) 2 = true) h193 rfl rfl rfl (by kernel_rfl) ⟨rfl, rfl⟩ fun w196 h197 => ?_
      clear h193
      refine nd_done ?_
      refine hK187 _ _ ?_
      clear hK187
      refine wp_seq_k fun K198 hK198 => ?_
      refine nd_start (l := [0, 1, 2, 3, 4, 5, 6, 7]) rfl ?_
      refine nd_batch tabOk tabZ_ok [(0, {}), (1, {k := 4})] [11, 58, 0, 2, 3, 4, 8, 59, 60, 65, 66] (T' := [(11, .pointer (some ⟨b190, 0, none⟩)), (58, .slice (some ⟨rb179, 0, none⟩) (((liveP E 4 256) ++ (liveP E 5 256)).length) c157), (0, .pointer (some ⟨kb, 0, none⟩)), (2, .bool false), (3, .map (some m1)), (4, .map (some m2)), (8, .pointer (some ⟨bo, 0, none⟩)), (59, .int .i64 ((((liveP E 4 256) ++ (liveP E 5 256)).length : Nat) : Int)), (60, .int .i64 m), (65, .pointer (some ⟨kb, 0, none⟩)), (66, .agg #[.int .u16 ((refAtP E (i : Int)).idx), .int .u32 ((refAtP E (i : Int)).gen)])]) (φ := (b190 = b190 ∧ Nat.ble (0 + 2) 2 = true) ∧ True) (rest := [2, 3, 4, 5, 6, 7]) h197 (by kernel_rfl) rfl ⟨⟨rfl, rfl⟩, trivial⟩ fun a199 h200 => ?_
      clear h197
      refine nd_op ?_
      refine op_call h200 rfl rfl rfl (callOk Tryd.func20 (by decide) rfl) (args := [.pointer (some ⟨kb, 0, none⟩), .agg #[.int .u16 ((refAtP E (i : Int)).idx), .int .u32 ((refAtP E (i : Int)).gen)]]) rfl (waitersE kb bo bc S rS h256 hQ (refAtP E (i : Int)) ⟨by rw [hri]; omega, by rw [hri]; omega⟩ _ (heap_fr hb h200.frame) (heap_fr hs h200.frame) hne (obj_wait hi9)) ?_
      rintro _ w207 ⟨o201, c202, F203, rfl, hr204, hf205, hF206⟩
      refine ⟨_, rfl, ?_⟩
      have h208 := (h200.pcAdd (p' := pRow (rl rfC 39 2 (refsP E (Q (.w i))) o201 c202 F203)) (ps' := [pPl m1 c1 E ps, pPr m2 c2 E qs, pRow (rl rfC 39 2 ((liveP E 4 256) ++ (liveP E 5 256)) (some ⟨rb179, 0, none⟩) c157 ([rb179])), pRow (rl rfC 39 2 (refsP E (Q (.w i))) o201 c202 F203)]) (pRow_ok hr204) hf205 hF206 rfl).put (d := some 67) (v := .tuple #[.slice o201 ((refsP E (Q (.w i))).length) c202, .int .u64 (S.word i)]) (T' := [(67, .tuple #[.slice o201 ((refsP E (Q (.w i))).length) c202, .int .u64 (S.word i)]), (11, .pointer (some ⟨b190, 0, none⟩)), (58, .slice (some ⟨rb179, 0, none⟩) (((liveP E 4 256) ++ (liveP E 5 256)).length) c157), (0, .pointer (some ⟨kb, 0, none⟩)), (2, .bool false), (3, .map (some m1)), (4, .map (some m2)), (8, .pointer (some ⟨bo, 0, none⟩)), (59, .int .i64 ((((liveP E 4 256) ++ (liveP E 5 256)).length : Nat) : Int)), (60, .int .i64 m), (65, .pointer (some ⟨kb, 0, none⟩)), (66, .agg #[.int .u16 ((refAtP E (i : Int)).idx), .int .u32 ((refAtP E (i : Int)).gen)])]) rfl
      have hszh208 : w.heap.size ≤ _ := h200.frame.size
      clear h200
      refine nd_batch tabOk tabZ_ok [(3, {}), (4, {}), (5, {}), (6, {}), (7, {})] [11, 58, 0, 2, 3, 4, 8, 59, 60, 12, 13] (T' := [(11, .pointer (some ⟨b190, 0, none⟩)), (58, .slice (some ⟨rb179, 0, none⟩) (((liveP E 4 256) ++ (liveP E 5 256)).length) c157), (0, .pointer (some ⟨kb, 0, none⟩)), (2, .bool false), (3, .map (some m1)), (4, .map (some m2)), (8, .pointer (some ⟨bo, 0, none⟩)), (59, .int .i64 ((((liveP E 4 256) ++ (liveP E 5 256)).length : Nat) : Int)), (60, .int .i64 m), (12, .slice o201 ((refsP E (Q (.w i))).length) c202), (13, .int .u64 (S.word i))]) (φ := True) (rest := []) h208 (by kernel_rfl) rfl trivial fun a209 h210 => ?_
      clear h208
      refine nd_done ?_
      refine hK198 _ _ ?_
      clear hK198
      refine wp_seq_k fun K211 hK211 => ?_
      refine wp_seq_k fun K212 hK212 => ?_
      rcases Bool.eq_false_or_eq_true (decide ((((refsP E (Q (.w i))).length : Nat) : Int) > 0)) with hb213 | hb213
      ·
        have hb213f : (((refsP E (Q (.w i))).length : Nat) : Int) > 0 := by simpa using hb213
        refine nd_start (l := [0, 1, 2, 3, 4, 5, 6]) rfl ?_
        refine nd_batch tabOk tabZ_ok [(0, {}), (1, {}), (2, {f := 2}), (3, {}), (4, {}), (5, {f := 1}), (6, {})] [11, 58, 0, 2, 3, 4, 8, 59, 60, 12, 13, 76] (T' := [(11, .pointer (some ⟨b190, 0, none⟩)), (58, .slice (some ⟨rb179, 0, none⟩) (((liveP E 4 256) ++ (liveP E 5 256)).length) c157), (0, .pointer (some ⟨kb, 0, none⟩)), (2, .bool false), (3, .map (some m1)), (4, .map (some m2)), (8, .pointer (some ⟨bo, 0, none⟩)), (59, .int .i64 ((((liveP E 4 256) ++ (liveP E 5 256)).length : Nat) : Int)), (60, .int .i64 m), (12, .slice o201 ((refsP E (Q (.w i))).length) c202), (13, .int .u64 (S.word i)), (76, .bool false)]) (φ := (decide ((((refsP E (Q (.w i))).length : Nat) : Int) > 0)) = true ∧ (((S.word i) != 0)) = false ∧ True) (rest := []) h210 (by kernel_rfl) rfl ⟨hb213, (by simp; exact hwz (by omega)), trivial⟩ fun a214 h215 => ?_
        clear h210
        refine nd_done ?_
        refine hK212 _ _ ?_
        clear hK212
        refine c_false h215 rfl ?_
        refine wp_skip ?_
        refine hK211 _ _ ?_
        clear hK211
        refine wp_seq_k fun K216 hK216 => ?_
        refine nd_start (l := [0, 1, 2]) rfl ?_
        refine nd_batch tabOk tabZ_ok [(0, {}), (1, {}), (2, {})] [11, 58, 0, 2, 3, 4, 8, 59, 60, 12, 13, 77, 78, 79] (T' := [(11, .pointer (some ⟨b190, 0, none⟩)), (58, .slice (some ⟨rb179, 0, none⟩) (((liveP E 4 256) ++ (liveP E 5 256)).length) c157), (0, .pointer (some ⟨kb, 0, none⟩)), (2, .bool false), (3, .map (some m1)), (4, .map (some m2)), (8, .pointer (some ⟨bo, 0, none⟩)), (59, .int .i64 ((((liveP E 4 256) ++ (liveP E 5 256)).length : Nat) : Int)), (60, .int .i64 m), (12, .slice o201 ((refsP E (Q (.w i))).length) c202), (13, .int .u64 (S.word i)), (77, .slice o201 ((refsP E (Q (.w i))).length) c202), (78, .int .i64 (((refsP E (Q (.w i))).length : Nat) : Int)), (79, .int .i64 0)]) (φ := True) (rest := []) h215 (by kernel_rfl) rfl trivial fun a217 h218 => ?_
        clear h215
        refine nd_done ?_
        refine hK216 _ _ ?_
        clear hK216
        refine wp_block ?_
        have h219 := h218.memMono (L' := [(kb, ⟨kC bo bc S, 90, true⟩), (bo, ⟨stC E, 131, true⟩), (0, ⟨[.int .u16 0, .int .u32 0], ty0, true⟩), (b190, ⟨[.int .u16 ((refAtP E (i : Int)).idx), .int .u32 ((refAtP E (i : Int)).gen)], 39, false⟩)]) (List.Sublist.cons_cons _ (List.Sublist.cons_cons _ (List.Sublist.cons_cons _ (List.Sublist.cons _ (List.Sublist.cons_cons _ List.Sublist.slnil)))))
        clear h218
        have hps3 := hps
        have hnx3 := hnx
        clear hps hnx
        refine wp_loop_ghost (fun g2 ga gw => ∃ (ps : List Pe) (c1 : Nat) (j : Int), ((g2 : Int) = (Q (.w i)).length - j) ∧ (0 ≤ j ∧ j ≤ (Q (.w i)).length) ∧ (ps.map (fun e => (e.x, e.at_)) = absW Q E m.toNat j.toNat) ∧ ((ps.map (·.x)).Nodup) ∧ St ⟨238, [], w, Pk w.heap.size [pPl m1 c1 E ps, pPr m2 c2 E qs, pRow (rl rfC 39 2 ((liveP E 4 256) ++ (liveP E 5 256)) (some ⟨rb179, 0, none⟩) c157 ([rb179])), pRow (rl rfC 39 2 (refsP E (Q (.w i))) o201 c202 F203)], Pf [pPl m1 c1 E ps, pPr m2 c2 E qs, pRow (rl rfC 39 2 ((liveP E 4 256) ++ (liveP E 5 256)) (some ⟨rb179, 0, none⟩) c157 ([rb179])), pRow (rl rfC 39 2 (refsP E (Q (.w i))) o201 c202 F203)]⟩ [(11, .pointer (some ⟨b190, 0, none⟩)), (58, .slice (some ⟨rb179, 0, none⟩) (((liveP E 4 256) ++ (liveP E 5 256)).length) c157), (0, .pointer (some ⟨kb, 0, none⟩)), (2, .bool false), (3, .map (some m1)), (4, .map (some m2)), (8, .pointer (some ⟨bo, 0, none⟩)), (59, .int .i64 ((((liveP E 4 256) ++ (liveP E 5 256)).length : Nat) : Int)), (60, .int .i64 m), (77, .slice o201 ((refsP E (Q (.w i))).length) c202), (78, .int .i64 (((refsP E (Q (.w i))).length : Nat) : Int)), (79, .int .i64 j)] [(kb, ⟨kC bo bc S, 90, true⟩), (bo, ⟨stC E, 131, true⟩), (0, ⟨[.int .u16 0, .int .u32 0], ty0, true⟩), (b190, ⟨[.int .u16 ((refAtP E (i : Int)).idx), .int .u32 ((refAtP E (i : Int)).gen)], 39, false⟩)] ga gw) (Q (.w i)).length ⟨ps, c1, 0, by simp, ⟨by simp, by simp⟩, hps3, hnx3, (h219.slotsMono (restr_spec (keep := [11, 58, 0, 2, 3, 4, 8, 59, 60, 77, 78, 79]) rfl))⟩ ?_
        clear h219
        rintro g2 a220 w221 ⟨ps, c1, j, hi223, hi224, hi225, hi226, h222⟩
        have hjg := hi223
        have hj0 := hi224
        have hps := hi225
        have hnx := hi226
        refine wp_seq_k fun K227 hK227 => ?_
        refine nd_start (l := [0]) rfl ?_
        refine nd_batch tabOk tabZ_ok [(0, {})] [11, 58, 0, 2, 3, 4, 8, 59, 60, 77, 78, 79, 80] (T' := [(11, .pointer (some ⟨b190, 0, none⟩)), (58, .slice (some ⟨rb179, 0, none⟩) (((liveP E 4 256) ++ (liveP E 5 256)).length) c157), (0, .pointer (some ⟨kb, 0, none⟩)), (2, .bool false), (3, .map (some m1)), (4, .map (some m2)), (8, .pointer (some ⟨bo, 0, none⟩)), (59, .int .i64 ((((liveP E 4 256) ++ (liveP E 5 256)).length : Nat) : Int)), (60, .int .i64 m), (77, .slice o201 ((refsP E (Q (.w i))).length) c202), (78, .int .i64 (((refsP E (Q (.w i))).length : Nat) : Int)), (79, .int .i64 j), (80, .bool (decide (j < (((refsP E (Q (.w i))).length : Nat) : Int))))]) (φ := True) (rest := []) h222 (by kernel_rfl) rfl trivial fun a228 h229 => ?_
        clear h222
        refine nd_done ?_
        refine hK227 _ _ ?_
        clear hK227
        refine wp_seq_k fun K230 hK230 => ?_
        refine c_split h229 (b := decide (j < (((refsP E (Q (.w i))).length : Nat) : Int))) rfl (fun hc231 => ?_) (fun hc231 => ?_)
        ·
          have hc231f : j < (((refsP E (Q (.w i))).length : Nat) : Int) := by simpa using hc231
          obtain ⟨x, hx⟩ : ∃ x, (Q (.w i))[j.toNat]? = some x := ⟨(Q (.w i))[j.toNat]'(by omega), by simp⟩
          have hr8 := refs_get (E := E) hx
          obtain ⟨hx256, hfr1⟩ := fresh_w (E := E) hQ hi hx
          have hfp : ∀ e ∈ ps, e.x < 256 ∧ e.x ≠ x := fun e he => hfr1 (e.x, e.at_) (by rw [← hps]; exact List.mem_map.2 ⟨e, he, rfl⟩)
          obtain ⟨rb232, cs233, ho235, hb234, hrd237, hF236, _⟩ := rl_open (h229.inv.get (j := 3) (p := pRow (rl rfC 39 2 (refsP E (Q (.w i))) o201 c202 F203)) rfl) rfC_len hr8
          subst ho235 hF236
          have h238 := h229.open_ hb234 (h229.notinL (by simp [Pf, pRow, rl]) (kcons (fun _ e => by have := h229.inv.newOf (j := 3) (p := pRow (rl rfC 39 2 (refsP E (Q (.w i))) (some ⟨rb232, 0, none⟩) c202 ([rb232]))) rfl rb232 (by simp [pRow, rl]); omega) (kcons (fun _ e => by have := h229.inv.newOf (j := 3) (p := pRow (rl rfC 39 2 (refsP E (Q (.w i))) (some ⟨rb232, 0, none⟩) c202 ([rb232]))) rfl rb232 (by simp [pRow, rl]); omega) (kcons (fun _ e => by have := h229.inv.newOf (j := 3) (p := pRow (rl rfC 39 2 (refsP E (Q (.w i))) (some ⟨rb232, 0, none⟩) c202 ([rb232]))) rfl rb232 (by simp [pRow, rl]); omega) (kcons (by intro hq; cases hq) knil)))))
          clear h229
          refine wp_skip ?_
          refine hK230 _ _ ?_
          clear hK230
          refine wp_seq_k fun K239 hK239 => ?_
          refine wp_block ?_
          refine wp_seq_k fun K240 hK240 => ?_
          refine nd_start (l := [0, 1, 2, 3]) rfl ?_
          refine nd_batch tabOk tabZ_ok [(0, {}), (1, {k := 4, m := 1, vs := [.int .u16 ((refP E (x : Int)).idx), .int .u32 ((refP E (x : Int)).gen)]})] [11, 58, 0, 2, 3, 4, 8, 59, 60, 77, 78, 79, 82] (T' := [(11, .pointer (some ⟨b190, 0, none⟩)), (58, .slice (some ⟨rb179, 0, none⟩) (((liveP E 4 256) ++ (liveP E 5 256)).length) c157), (0, .pointer (some ⟨kb, 0, none⟩)), (2, .bool false), (3, .map (some m1)), (4, .map (some m2)), (8, .pointer (some ⟨bo, 0, none⟩)), (59, .int .i64 ((((liveP E 4 256) ++ (liveP E 5 256)).length : Nat) : Int)), (60, .int .i64 m), (77, .slice (some ⟨rb232, 0, none⟩) ((refsP E (Q (.w i))).length) c202), (78, .int .i64 (((refsP E (Q (.w i))).length : Nat) : Int)), (79, .int .i64 j), (82, .agg #[.int .u16 ((refP E (x : Int)).idx), .int .u32 ((refP E (x : Int)).gen)])]) (φ := (0 ≤ j ∧ j < (((refsP E (Q (.w i))).length : Nat) : Int)) ∧ (rb232 = rb232 ∧ cellsAre cs233 (0 + (j.toNat * 2)) [.int .u16 ((refP E (x : Int)).idx), .int .u32 ((refP E (x : Int)).gen)]) ∧ True) (rest := [2, 3]) h238 (by kernel_rfl) rfl ⟨⟨by omega, by omega⟩, ⟨rfl, (by rw [Nat.zero_add]; exact hrd237)⟩, trivial⟩ fun a241 h242 => ?_
          clear h238
          refine nd_op ?_
          refine op_new tabOk (cells := [.int .u16 0, .int .u32 0]) (ty := 39) (ln := none) (L1 := fun b243 => [(kb, ⟨kC bo bc S, 90, true⟩), (bo, ⟨stC E, 131, true⟩), (0, ⟨[.int .u16 0, .int .u32 0], ty0, true⟩), (b190, ⟨[.int .u16 ((refAtP E (i : Int)).idx), .int .u32 ((refAtP E (i : Int)).gen)], 39, false⟩), (rb232, ⟨cs233, 39, true⟩), (b243, ⟨[.int .u16 0, .int .u32 0], 39, false⟩)]) h242 rfl rfl rfl rfl (by kernel_rfl) (fun _ => rfl) fun b243 w244 a245 h246 hf247 hn248 => ?_
          clear h242
          refine nd_op ?_
          refine op_store tabOk {k := 5} (L' := [(kb, ⟨kC bo bc S, 90, true⟩), (bo, ⟨stC E, 131, true⟩), (0, ⟨[.int .u16 0, .int .u32 0], ty0, true⟩), (b190, ⟨[.int .u16 ((refAtP E (i : Int)).idx), .int .u32 ((refAtP E (i : Int)).gen)], 39, false⟩), (rb232, ⟨cs233, 39, true⟩), (b243, ⟨[.int .u16 ((refP E (x : Int)).idx), .int .u32 ((refP E (x : Int)).gen)], 39, false⟩)]) (φ := b243 = b243 ∧ Nat.ble (0 + 2) 2 = true) h246 rfl rfl rfl (by kernel_rfl) ⟨rfl, rfl⟩ fun w249 h250 => ?_
          clear h246
          refine nd_done ?_
          refine hK240 _ _ ?_
          clear hK240
          refine nd_start (l := [0, 1, 2, 3, 4, 5, 6, 7, 8]) rfl ?_
          refine nd_batch tabOk tabZ_ok [(0, {}), (1, {k := 5}), (2, {k := 3})] [15, 11, 58, 0, 2, 3, 4, 8, 59, 60, 77, 78, 79, 83, 84, 86] (T' := [(15, .pointer (some ⟨b243, 0, none⟩)), (11, .pointer (some ⟨b190, 0, none⟩)), (58, .slice (some ⟨rb179, 0, none⟩) (((liveP E 4 256) ++ (liveP E 5 256)).length) c157), (0, .pointer (some ⟨kb, 0, none⟩)), (2, .bool false), (3, .map (some m1)), (4, .map (some m2)), (8, .pointer (some ⟨bo, 0, none⟩)), (59, .int .i64 ((((liveP E 4 256) ++ (liveP E 5 256)).length : Nat) : Int)), (60, .int .i64 m), (77, .slice (some ⟨rb232, 0, none⟩) ((refsP E (Q (.w i))).length) c202), (78, .int .i64 (((refsP E (Q (.w i))).length : Nat) : Int)), (79, .int .i64 j), (83, .map (some m1)), (84, .agg #[.int .u16 ((refP E (x : Int)).idx), .int .u32 ((refP E (x : Int)).gen)]), (86, .agg #[.int .u16 ((refAtP E (i : Int)).idx), .int .u32 ((refAtP E (i : Int)).gen)])]) (φ := (b243 = b243 ∧ Nat.ble (0 + 2) 2 = true) ∧ (b190 = b190 ∧ Nat.ble (0 + 2) 2 = true) ∧ True) (rest := [3, 4, 5, 6, 7, 8]) h250 (by kernel_rfl) rfl ⟨⟨rfl, rfl⟩, ⟨rfl, rfl⟩, trivial⟩ fun a251 h252 => ?_
          clear h250
          refine nd_op ?_
          refine op_new tabOk (cells := [.int .u16 ((refAtP E (i : Int)).idx), .int .u32 ((refAtP E (i : Int)).gen)]) (ty := 39) (ln := (some 1)) (L1 := fun b253 => [(kb, ⟨kC bo bc S, 90, true⟩), (bo, ⟨stC E, 131, true⟩), (0, ⟨[.int .u16 0, .int .u32 0], ty0, true⟩), (b190, ⟨[.int .u16 ((refAtP E (i : Int)).idx), .int .u32 ((refAtP E (i : Int)).gen)], 39, false⟩), (rb232, ⟨cs233, 39, true⟩), (b243, ⟨[.int .u16 ((refP E (x : Int)).idx), .int .u32 ((refP E (x : Int)).gen)], 39, false⟩), (b253, ⟨[.int .u16 ((refAtP E (i : Int)).idx), .int .u32 ((refAtP E (i : Int)).gen)], 39, false⟩)]) h252 rfl rfl rfl rfl (by kernel_rfl) (fun _ => rfl) fun b253 w254 a255 h256 hf257 hn258 => ?_
          clear h252
          refine nd_op ?_
          refine op_mapEntry (t := x) h256 rfl rfl rfl rfl rfl (h256.inv.get (j := 0) (p := pPl m1 c1 E ps) rfl) hx256 hfp ?_
          intro w259 hp260 hf261
          have h262 := (h256.pcSet (j := 0) (p := pPl m1 c1 E ps) (p' := pPlN m1 c1 E ps (refP E (x : Int))) (ps' := [pPlN m1 c1 E ps (refP E (x : Int)), pPr m2 c2 E qs, pRow (rl rfC 39 2 ((liveP E 4 256) ++ (liveP E 5 256)) (some ⟨rb179, 0, none⟩) c157 ([rb179])), pRow (rl rfC 39 2 (refsP E (Q (.w i))) (some ⟨rb232, 0, none⟩) c202 ([rb232]))]) rfl (hp260.ok) hf261 (fun b hb => by simp at hb; rw [hb]; exact List.mem_cons_self ..) (fun b hb => .inl hb) (kcons (fun _ => (fun hq => by have := h256.inv.newOf (j := 0) (p := pPl m1 c1 E ps) rfl kb hq; omega)) (kcons (fun _ => (fun hq => by have := h256.inv.newOf (j := 0) (p := pPl m1 c1 E ps) rfl bo hq; omega)) (kcons (fun _ => (fun hq => by have := h256.inv.newOf (j := 0) (p := pPl m1 c1 E ps) rfl 0 hq; omega)) (kcons (by intro hq; cases hq) (kcons (fun _ => (fun hq => Pf_nodup h256.inv.nd (i := 3) (j := 0) (x := pRow (rl rfC 39 2 (refsP E (Q (.w i))) (some ⟨rb232, 0, none⟩) c202 ([rb232]))) (y := pPl m1 c1 E ps) rfl rfl (by decide) rb232 (by simp [pRow, rl]) hq)) (kcons (by intro hq; cases hq) (kcons (by intro hq; cases hq) knil))))))) rfl).put (d := some 88) (v := .tuple #[.slice none 0 0, .int .i64 ((c1 : Nat) : Int)]) (T' := [(88, .tuple #[.slice none 0 0, .int .i64 ((c1 : Nat) : Int)]), (87, .slice (some ⟨b253, 0, none⟩) 1 1), (15, .pointer (some ⟨b243, 0, none⟩)), (11, .pointer (some ⟨b190, 0, none⟩)), (58, .slice (some ⟨rb179, 0, none⟩) (((liveP E 4 256) ++ (liveP E 5 256)).length) c157), (0, .pointer (some ⟨kb, 0, none⟩)), (2, .bool false), (3, .map (some m1)), (4, .map (some m2)), (8, .pointer (some ⟨bo, 0, none⟩)), (59, .int .i64 ((((liveP E 4 256) ++ (liveP E 5 256)).length : Nat) : Int)), (60, .int .i64 m), (77, .slice (some ⟨rb232, 0, none⟩) ((refsP E (Q (.w i))).length) c202), (78, .int .i64 (((refsP E (Q (.w i))).length : Nat) : Int)), (79, .int .i64 j), (83, .map (some m1)), (84, .agg #[.int .u16 ((refP E (x : Int)).idx), .int .u32 ((refP E (x : Int)).gen)]), (86, .agg #[.int .u16 ((refAtP E (i : Int)).idx), .int .u32 ((refAtP E (i : Int)).gen)])]) rfl
          have hszh262 : w.heap.size ≤ _ := h256.frame.size
          clear h256
          refine nd_batch tabOk tabZ_ok [(5, {})] [88, 87, 15, 11, 58, 0, 2, 3, 4, 8, 59, 60, 77, 78, 79, 83, 85] (T' := [(88, .tuple #[.slice none 0 0, .int .i64 ((c1 : Nat) : Int)]), (87, .slice (some ⟨b253, 0, none⟩) 1 1), (15, .pointer (some ⟨b243, 0, none⟩)), (11, .pointer (some ⟨b190, 0, none⟩)), (58, .slice (some ⟨rb179, 0, none⟩) (((liveP E 4 256) ++ (liveP E 5 256)).length) c157), (0, .pointer (some ⟨kb, 0, none⟩)), (2, .bool false), (3, .map (some m1)), (4, .map (some m2)), (8, .pointer (some ⟨bo, 0, none⟩)), (59, .int .i64 ((((liveP E 4 256) ++ (liveP E 5 256)).length : Nat) : Int)), (60, .int .i64 m), (77, .slice (some ⟨rb232, 0, none⟩) ((refsP E (Q (.w i))).length) c202), (78, .int .i64 (((refsP E (Q (.w i))).length : Nat) : Int)), (79, .int .i64 j), (83, .map (some m1)), (85, .slice none 0 0)]) (φ := True) (rest := [6, 7, 8]) h262 (by kernel_rfl) rfl trivial fun a263 h264 => ?_
          clear h262
          refine nd_op ?_
          refine op_append tabOk (e := 39) (so := none) (n := 0) (c := 0) (xo := some ⟨b253, 0, none⟩) (m := 1) (cx := 1) (vals := ([] : List Rf).flatMap rfC) (vs := [.int .u16 ((refAtP E (i : Int)).idx), .int .u32 ((refAtP E (i : Int)).gen)]) (F := []) h264 rfl rfl rfl rfl rfl rfl rfl rfl rfl rfl rfl rfl (rl_nil rfC _ 39 2) (src_one (h264.kn (k := 6) rfl) rfl ⟨rfl, rfl, trivial⟩) (by decide) rfl ?_
          intro o265 c266 F267 w268 hr269 hf270 hF271
          have hr2692 : (rl rfC 39 2 [(refAtP E (i : Int))] o265 c266 F267).at w268 := rl_app1 (enc := rfC) (xs := []) (y := (refAtP E (i : Int))) hr269
          have h272 := (h264.pcAdd (p' := pRow (rl rfC 39 2 ([(refAtP E (i : Int))]) o265 c266 F267)) (ps' := [pPlN m1 c1 E ps (refP E (x : Int)), pPr m2 c2 E qs, pRow (rl rfC 39 2 ((liveP E 4 256) ++ (liveP E 5 256)) (some ⟨rb179, 0, none⟩) c157 ([rb179])), pRow (rl rfC 39 2 (refsP E (Q (.w i))) (some ⟨rb232, 0, none⟩) c202 ([rb232])), pRow (rl rfC 39 2 ([(refAtP E (i : Int))]) o265 c266 F267)]) (pRow_ok hr2692) hf270 (fun b hb => (hF271 b hb).elim (fun h => by cases h) id) rfl).put (d := some 89) (v := .slice o265 1 c266) (T' := [(89, .slice o265 1 c266), (88, .tuple #[.slice none 0 0, .int .i64 ((c1 : Nat) : Int)]), (87, .slice (some ⟨b253, 0, none⟩) 1 1), (15, .pointer (some ⟨b243, 0, none⟩)), (11, .pointer (some ⟨b190, 0, none⟩)), (58, .slice (some ⟨rb179, 0, none⟩) (((liveP E 4 256) ++ (liveP E 5 256)).length) c157), (0, .pointer (some ⟨kb, 0, none⟩)), (2, .bool false), (3, .map (some m1)), (4, .map (some m2)), (8, .pointer (some ⟨bo, 0, none⟩)), (59, .int .i64 ((((liveP E 4 256) ++ (liveP E 5 256)).length : Nat) : Int)), (60, .int .i64 m), (77, .slice (some ⟨rb232, 0, none⟩) ((refsP E (Q (.w i))).length) c202), (78, .int .i64 (((refsP E (Q (.w i))).length : Nat) : Int)), (79, .int .i64 j), (83, .map (some m1)), (85, .slice none 0 0)]) rfl
          have hszh272 : w.heap.size ≤ _ := h264.frame.size
          clear h264
          refine nd_batch tabOk tabZ_ok [(7, {})] [89, 15, 11, 58, 0, 2, 3, 4, 8, 59, 60, 77, 78, 79, 83, 90] (T' := [(89, .slice o265 1 c266), (15, .pointer (some ⟨b243, 0, none⟩)), (11, .pointer (some ⟨b190, 0, none⟩)), (58, .slice (some ⟨rb179, 0, none⟩) (((liveP E 4 256) ++ (liveP E 5 256)).length) c157), (0, .pointer (some ⟨kb, 0, none⟩)), (2, .bool false), (3, .map (some m1)), (4, .map (some m2)), (8, .pointer (some ⟨bo, 0, none⟩)), (59, .int .i64 ((((liveP E 4 256) ++ (liveP E 5 256)).length : Nat) : Int)), (60, .int .i64 m), (77, .slice (some ⟨rb232, 0, none⟩) ((refsP E (Q (.w i))).length) c202), (78, .int .i64 (((refsP E (Q (.w i))).length : Nat) : Int)), (79, .int .i64 j), (83, .map (some m1)), (90, .int .i64 ((c1 : Nat) : Int))]) (φ := True) (rest := [8]) h272 (by kernel_rfl) rfl trivial fun a273 h274 => ?_
          clear h272
          refine nd_op ?_
          have hd278 : ∀ b ∈ F267, b ∉ plF m1 ps := Pf_nodup h274.inv.nd (i := 4) (j := 0) (x := pRow (rl rfC 39 2 ([(refAtP E (i : Int))]) o265 c266 F267)) (y := pPlN m1 c1 E ps (refP E (x : Int))) rfl rfl (by decide)
          refine op_entryStore (t := x) (at_ := (refAtP E (i : Int))) (F := F267) h274 rfl rfl rfl rfl rfl rfl (h274.inv.get (j := 0) (p := pPlN m1 c1 E ps (refP E (x : Int))) rfl) (h274.inv.get (j := 4) (p := pRow (rl rfC 39 2 ([(refAtP E (i : Int))]) o265 c266 F267)) rfl) hd278 ?_
          intro w275 hp276 hf277
          have h279 := (St.pcInto (ps := [pPlN m1 c1 E ps (refP E (x : Int)), pPr m2 c2 E qs, pRow (rl rfC 39 2 ((liveP E 4 256) ++ (liveP E 5 256)) (some ⟨rb179, 0, none⟩) c157 ([rb179])), pRow (rl rfC 39 2 (refsP E (Q (.w i))) (some ⟨rb232, 0, none⟩) c202 ([rb232]))]) (q := pRow (rl rfC 39 2 ([(refAtP E (i : Int))]) o265 c266 F267)) (p := pPlN m1 c1 E ps (refP E (x : Int))) (p' := pPl m1 (c1 + 1) E (ps ++ [(⟨x, (refAtP E (i : Int)), o265, c266, F267, c1⟩ : Pe)])) (ps' := [pPl m1 (c1 + 1) E (ps ++ [(⟨x, (refAtP E (i : Int)), o265, c266, F267, c1⟩ : Pe)]), pPr m2 c2 E qs, pRow (rl rfC 39 2 ((liveP E 4 256) ++ (liveP E 5 256)) (some ⟨rb179, 0, none⟩) c157 ([rb179])), pRow (rl rfC 39 2 (refsP E (Q (.w i))) (some ⟨rb232, 0, none⟩) c202 ([rb232]))]) h274 (j := 0) rfl (hp276.ok) (pl_F1 m1 ps (⟨x, (refAtP E (i : Int)), o265, c266, F267, c1⟩ : Pe)) hf277 (fun b hb => by simp at hb; rw [hb]; exact List.mem_cons_self ..) (kcons (fun _ => (fun hq => by have := h274.inv.newOf (j := 0) (p := pPlN m1 c1 E ps (refP E (x : Int))) rfl kb hq; omega)) (kcons (fun _ => (fun hq => by have := h274.inv.newOf (j := 0) (p := pPlN m1 c1 E ps (refP E (x : Int))) rfl bo hq; omega)) (kcons (fun _ => (fun hq => by have := h274.inv.newOf (j := 0) (p := pPlN m1 c1 E ps (refP E (x : Int))) rfl 0 hq; omega)) (kcons (by intro hq; cases hq) (kcons (fun _ => (fun hq => Pf_nodup h274.inv.nd (i := 3) (j := 0) (x := pRow (rl rfC 39 2 (refsP E (Q (.w i))) (some ⟨rb232, 0, none⟩) c202 ([rb232]))) (y := pPlN m1 c1 E ps (refP E (x : Int))) rfl rfl (by decide) rb232 (by simp [pRow, rl]) hq)) (kcons (by intro hq; cases hq) (kcons (by intro hq; cases hq) knil))))))) rfl).put (d := none) (v := undef) (T' := [(89, .slice o265 1 c266), (15, .pointer (some ⟨b243, 0, none⟩)), (11, .pointer (some ⟨b190, 0, none⟩)), (58, .slice (some ⟨rb179, 0, none⟩) (((liveP E 4 256) ++ (liveP E 5 256)).length) c157), (0, .pointer (some ⟨kb, 0, none⟩)), (2, .bool false), (3, .map (some m1)), (4, .map (some m2)), (8, .pointer (some ⟨bo, 0, none⟩)), (59, .int .i64 ((((liveP E 4 256) ++ (liveP E 5 256)).length : Nat) : Int)), (60, .int .i64 m), (77, .slice (some ⟨rb232, 0, none⟩) ((refsP E (Q (.w i))).length) c202), (78, .int .i64 (((refsP E (Q (.w i))).length : Nat) : Int)), (79, .int .i64 j), (83, .map (some m1)), (90, .int .i64 ((c1 : Nat) : Int))]) rfl
          have hszh279 : w.heap.size ≤ _ := h274.frame.size
          clear h274
          refine nd_done ?_
          refine hK239 _ _ ?_
          clear hK239
          refine nd_start (l := [0, 1]) rfl ?_
          refine nd_batch tabOk tabZ_ok [(0, {}), (1, {})] [15, 11, 58, 0, 2, 3, 4, 8, 59, 60, 77, 78, 79] (T' := [(15, .pointer (some ⟨b243, 0, none⟩)), (11, .pointer (some ⟨b190, 0, none⟩)), (58, .slice (some ⟨rb179, 0, none⟩) (((liveP E 4 256) ++ (liveP E 5 256)).length) c157), (0, .pointer (some ⟨kb, 0, none⟩)), (2, .bool false), (3, .map (some m1)), (4, .map (some m2)), (8, .pointer (some ⟨bo, 0, none⟩)), (59, .int .i64 ((((liveP E 4 256) ++ (liveP E 5 256)).length : Nat) : Int)), (60, .int .i64 m), (77, .slice (some ⟨rb232, 0, none⟩) ((refsP E (Q (.w i))).length) c202), (78, .int .i64 (((refsP E (Q (.w i))).length : Nat) : Int)), (79, .int .i64 (j + 1))]) (φ := inR .i64 (j + 1) ∧ True) (rest := []) h279 (by kernel_rfl) rfl ⟨⟨by omega, by omega⟩, trivial⟩ fun a280 h281 => ?_
          clear h279
          refine nd_done ?_
          have h282 := h281.memMono (L' := [(kb, ⟨kC bo bc S, 90, true⟩), (bo, ⟨stC E, 131, true⟩), (0, ⟨[.int .u16 0, .int .u32 0], ty0, true⟩), (b190, ⟨[.int .u16 ((refAtP E (i : Int)).idx), .int .u32 ((refAtP E (i : Int)).gen)], 39, false⟩)]) (List.Sublist.cons_cons _ (List.Sublist.cons_cons _ (List.Sublist.cons_cons _ (List.Sublist.cons_cons _ (List.Sublist.cons _ (List.Sublist.cons _ (List.Sublist.cons _ List.Sublist.slnil)))))))
          clear h281
          exact ⟨(g2 - 1), by omega, (ps ++ [(⟨x, (refAtP E (i : Int)), o265, c266, F267, c1⟩ : Pe)]), (c1 + 1), (j + 1), by omega, ⟨by omega, by omega⟩, (by rw [show (j + 1).toNat = j.toNat + 1 by omega, absW_one Q E hi hx, List.map_append, hps]; rfl), (nodup_snoc hnx (fun e he => (hfp e he).2)), (h282.slotsMono (restr_spec (keep := [11, 58, 0, 2, 3, 4, 8, 59, 60, 77, 78, 79]) rfl))⟩
        ·
          have hc231f : ¬ j < (((refsP E (Q (.w i))).length : Nat) : Int) := by simpa using hc231
          rw [absW_next Q E hi (by omega)] at hps
          refine wp_exit ?_
          refine hK186 _ _ ?_
          clear hK186
          refine nd_start (l := [0, 1]) rfl ?_
          refine nd_batch tabOk tabZ_ok [(0, {}), (1, {})] [11, 58, 0, 2, 3, 4, 8, 59, 77, 78, 79, 60] (T' := [(11, .pointer (some ⟨b190, 0, none⟩)), (58, .slice (some ⟨rb179, 0, none⟩) (((liveP E 4 256) ++ (liveP E 5 256)).length) c157), (0, .pointer (some ⟨kb, 0, none⟩)), (2, .bool false), (3, .map (some m1)), (4, .map (some m2)), (8, .pointer (some ⟨bo, 0, none⟩)), (59, .int .i64 ((((liveP E 4 256) ++ (liveP E 5 256)).length : Nat) : Int)), (77, .slice o201 ((refsP E (Q (.w i))).length) c202), (78, .int .i64 (((refsP E (Q (.w i))).length : Nat) : Int)), (79, .int .i64 j), (60, .int .i64 (m + 1))]) (φ := inR .i64 (m + 1) ∧ True) (rest := []) h229 (by kernel_rfl) rfl ⟨⟨by omega, by omega⟩, trivial⟩ fun a283 h284 => ?_
          clear h229
          refine nd_done ?_
          have h285 := h284.memMono (L' := [(kb, ⟨kC bo bc S, 90, true⟩), (bo, ⟨stC E, 131, true⟩), (0, ⟨[.int .u16 0, .int .u32 0], ty0, true⟩)]) (List.Sublist.cons_cons _ (List.Sublist.cons_cons _ (List.Sublist.cons_cons _ (List.Sublist.cons _ List.Sublist.slnil))))
          clear h284
          have h286 := h285.pcSub (ps' := [pPl m1 c1 E ps, pPr m2 c2 E qs, pRow (rl rfC 39 2 ((liveP E 4 256) ++ (liveP E 5 256)) (some ⟨rb179, 0, none⟩) c157 ([rb179]))]) (List.Sublist.cons_cons _ (List.Sublist.cons_cons _ (List.Sublist.cons_cons _ (List.Sublist.cons _ List.Sublist.slnil))))
          clear h285
          exact ⟨(g - 1), by omega, ps, c1, (m + 1), by omega, ⟨by omega, by omega⟩, (by rw [show (m + 1).toNat = m.toNat + 1 by omega]; exact hps), hnx, (h286.slotsMono (restr_spec (keep := [58, 0, 2, 3, 4, 8, 59, 60]) rfl))⟩
      ·
        have hb213f : ¬ (((refsP E (Q (.w i))).length : Nat) : Int) > 0 := by simpa using hb213
        refine nd_start (l := [0, 1, 2, 3, 4, 5, 6]) rfl ?_
        refine nd_batch tabOk tabZ_ok [(0, {}), (1, {}), (2, {f := 1}), (3, {}), (4, {}), (5, {}), (6, {})] [11, 58, 0, 2, 3, 4, 8, 59, 60, 12, 13, 76] (T' := [(11, .pointer (some ⟨b190, 0, none⟩)), (58, .slice (some ⟨rb179, 0, none⟩) (((liveP E 4 256) ++ (liveP E 5 256)).length) c157), (0, .pointer (some ⟨kb, 0, none⟩)), (2, .bool false), (3, .map (some m1)), (4, .map (some m2)), (8, .pointer (some ⟨bo, 0, none⟩)), (59, .int .i64 ((((liveP E 4 256) ++ (liveP E 5 256)).length : Nat) : Int)), (60, .int .i64 m), (12, .slice o201 ((refsP E (Q (.w i))).length) c202), (13, .int .u64 (S.word i)), (76, .bool false)]) (φ := (decide ((((refsP E (Q (.w i))).length : Nat) : Int) > 0)) = false ∧ True) (rest := []) h210 (by kernel_rfl) rfl ⟨hb213, trivial⟩ fun a287 h288 => ?_
        clear h210
        refine nd_done ?_
        refine hK212 _ _ ?_
        clear hK212
        refine c_false h288 rfl ?_
        refine wp_skip ?_
        refine hK211 _ _ ?_
        clear hK211
        refine wp_seq_k fun K289 hK289 => ?_
        refine nd_start (l := [0, 1, 2]) rfl ?_
        refine nd_batch tabOk tabZ_ok [(0, {}), (1, {}), (2, {})] [11, 58, 0, 2, 3, 4, 8, 59, 60, 12, 13, 77, 78, 79] (T' := [(11, .pointer (some ⟨b190, 0, none⟩)), (58, .slice (some ⟨rb179, 0, none⟩) (((liveP E 4 256) ++ (liveP E 5 256)).length) c157), (0, .pointer (some ⟨kb, 0, none⟩)), (2, .bool false), (3, .map (some m1)), (4, .map (some m2)), (8, .pointer (some ⟨bo, 0, none⟩)), (59, .int .i64 ((((liveP E 4 256) ++ (liveP E 5 256)).length : Nat) : Int)), (60, .int .i64 m), (12, .slice o201 ((refsP E (Q (.w i))).length) c202), (13, .int .u64 (S.word i)), (77, .slice o201 ((refsP E (Q (.w i))).length) c202), (78, .int .i64 (((refsP E (Q (.w i))).length : Nat) : Int)), (79, .int .i64 0)]) (φ := True) (rest := []) h288 (by kernel_rfl) rfl trivial fun a290 h291 => ?_
        clear h288
        refine nd_done ?_
        refine hK289 _ _ ?_
        clear hK289
        refine wp_block ?_
        have h292 := h291.memMono (L' := [(kb, ⟨kC bo bc S, 90, true⟩), (bo, ⟨stC E, 131, true⟩), (0, ⟨[.int .u16 0, .int .u32 0], ty0, true⟩), (b190, ⟨[.int .u16 ((refAtP E (i : Int)).idx), .int .u32 ((refAtP E (i : Int)).gen)], 39, false⟩)]) (List.Sublist.cons_cons _ (List.Sublist.cons_cons _ (List.Sublist.cons_cons _ (List.Sublist.cons _ (List.Sublist.cons_cons _ List.Sublist.slnil)))))
        clear h291
        have hps3 := hps
        have hnx3 := hnx
        clear hps hnx
        refine wp_loop_ghost (fun g2 ga gw => ∃ (ps : List Pe) (c1 : Nat) (j : Int), ((g2 : Int) = (Q (.w i)).length - j) ∧ (0 ≤ j ∧ j ≤ (Q (.w i)).length) ∧ (ps.map (fun e => (e.x, e.at_)) = absW Q E m.toNat j.toNat) ∧ ((ps.map (·.x)).Nodup) ∧ St ⟨238, [], w, Pk w.heap.size [pPl m1 c1 E ps, pPr m2 c2 E qs, pRow (rl rfC 39 2 ((liveP E 4 256) ++ (liveP E 5 256)) (some ⟨rb179, 0, none⟩) c157 ([rb179])), pRow (rl rfC 39 2 (refsP E (Q (.w i))) o201 c202 F203)], Pf [pPl m1 c1 E ps, pPr m2 c2 E qs, pRow (rl rfC 39 2 ((liveP E 4 256) ++ (liveP E 5 256)) (some ⟨rb179, 0, none⟩) c157 ([rb179])), pRow (rl rfC 39 2 (refsP E (Q (.w i))) o201 c202 F203)]⟩ [(11, .pointer (some ⟨b190, 0, none⟩)), (58, .slice (some ⟨rb179, 0, none⟩) (((liveP E 4 256) ++ (liveP E 5 256)).length) c157), (0, .pointer (some ⟨kb, 0, none⟩)), (2, .bool false), (3, .map (some m1)), (4, .map (some m2)), (8, .pointer (some ⟨bo, 0, none⟩)), (59, .int .i64 ((((liveP E 4 256) ++ (liveP E 5 256)).length : Nat) : Int)), (60, .int .i64 m), (77, .slice o201 ((refsP E (Q (.w i))).length) c202), (78, .int .i64 (((refsP E (Q (.w i))).length : Nat) : Int)), (79, .int .i64 j)] [(kb, ⟨kC bo bc S, 90, true⟩), (bo, ⟨stC E, 131, true⟩), (0, ⟨[.int .u16 0, .int .u32 0], ty0, true⟩), (b190, ⟨[.int .u16 ((refAtP E (i : Int)).idx), .int .u32 ((refAtP E (i : Int)).gen)], 39, false⟩)] ga gw) (Q (.w i)).length ⟨ps, c1, 0, by simp, ⟨by simp, by simp⟩, hps3, hnx3, (h292.slotsMono (restr_spec (keep := [11, 58, 0, 2, 3, 4, 8, 59, 60, 77, 78, 79]) rfl))⟩ ?_
        clear h292
        rintro g2 a293 w294 ⟨ps, c1, j, hi296, hi297, hi298, hi299, h295⟩
        have hjg := hi296
        have hj0 := hi297
        have hps := hi298
        have hnx := hi299
        refine wp_seq_k fun K300 hK300 => ?_
        refine nd_start (l := [0]) rfl ?_
        refine nd_batch tabOk tabZ_ok [(0, {})] [11, 58, 0, 2, 3, 4, 8, 59, 60, 77, 78, 79, 80] (T' := [(11, .pointer (some ⟨b190, 0, none⟩)), (58, .slice (some ⟨rb179, 0, none⟩) (((liveP E 4 256) ++ (liveP E 5 256)).length) c157), (0, .pointer (some ⟨kb, 0, none⟩)), (2, .bool false), (3, .map (some m1)), (4, .map (some m2)), (8, .pointer (some ⟨bo, 0, none⟩)), (59, .int .i64 ((((liveP E 4 256) ++ (liveP E 5 256)).length : Nat) : Int)), (60, .int .i64 m), (77, .slice o201 ((refsP E (Q (.w i))).length) c202), (78, .int .i64 (((refsP E (Q (.w i))).length : Nat) : Int)), (79, .int .i64 j), (80, .bool (decide (j < (((refsP E (Q (.w i))).length : Nat) : Int))))]) (φ := True) (rest := []) h295 (by kernel_rfl) rfl trivial fun a301 h302 => ?_
        clear h295
        refine nd_done ?_
        refine hK300 _ _ ?_
        clear hK300
        refine wp_seq_k fun K303 hK303 => ?_
        refine c_split h302 (b := decide (j < (((refsP E (Q (.w i))).length : Nat) : Int))) rfl (fun hc304 => ?_) (fun hc304 => ?_)
        ·
          have hc304f : j < (((refsP E (Q (.w i))).length : Nat) : Int) := by simpa using hc304
          obtain ⟨x, hx⟩ : ∃ x, (Q (.w i))[j.toNat]? = some x := ⟨(Q (.w i))[j.toNat]'(by omega), by simp⟩
          have hr8 := refs_get (E := E) hx
          obtain ⟨hx256, hfr1⟩ := fresh_w (E := E) hQ hi hx
          have hfp : ∀ e ∈ ps, e.x < 256 ∧ e.x ≠ x := fun e he => hfr1 (e.x, e.at_) (by rw [← hps]; exact List.mem_map.2 ⟨e, he, rfl⟩)
          obtain ⟨rb305, cs306, ho308, hb307, hrd310, hF309, _⟩ := rl_open (h302.inv.get (j := 3) (p := pRow (rl rfC 39 2 (refsP E (Q (.w i))) o201 c202 F203)) rfl) rfC_len hr8
          subst ho308 hF309
          have h311 := h302.open_ hb307 (h302.notinL (by simp [Pf, pRow, rl]) (kcons (fun _ e => by have := h302.inv.newOf (j := 3) (p := pRow (rl rfC 39 2 (refsP E (Q (.w i))) (some ⟨rb305, 0, none⟩) c202 ([rb305]))) rfl rb305 (by simp [pRow, rl]); omega) (kcons (fun _ e => by have := h302.inv.newOf (j := 3) (p := pRow (rl rfC 39 2 (refsP E (Q (.w i))) (some ⟨rb305, 0, none⟩) c202 ([rb305]))) rfl rb305 (by simp [pRow, rl]); omega) (kcons (fun _ e => by have := h302.inv.newOf (j := 3) (p := pRow (rl rfC 39 2 (refsP E (Q (.w i))) (some ⟨rb305, 0, none⟩) c202 ([rb305]))) rfl rb305 (by simp [pRow, rl]); omega) (kcons (by intro hq; cases hq) knil)))))
          clear h302
          refine wp_skip ?_
          refine hK303 _ _ ?_
          clear hK303
          refine wp_seq_k fun K312 hK312 => ?_
          refine wp_block ?_
          refine wp_seq_k fun K313 hK313 => ?_
          refine nd_start (l := [0, 1, 2, 3]) rfl ?_
          refine nd_batch tabOk tabZ_ok [(0, {}), (1, {k := 4, m := 1, vs := [.int .u16 ((refP E (x : Int)).idx), .int .u32 ((refP E (x : Int)).gen)]})] [11, 58, 0, 2, 3, 4, 8, 59, 60, 77, 78, 79, 82] (T' := [(11, .pointer (some ⟨b190, 0, none⟩)), (58, .slice (some ⟨rb179, 0, none⟩) (((liveP E 4 256) ++ (liveP E 5 256)).length) c157), (0, .pointer (some ⟨kb, 0, none⟩)), (2, .bool false), (3, .map (some m1)), (4, .map (some m2)), (8, .pointer (some ⟨bo, 0, none⟩)), (59, .int .i64 ((((liveP E 4 256) ++ (liveP E 5 256)).length : Nat) : Int)), (60, .int .i64 m), (77, .slice (some ⟨rb305, 0, none⟩) ((refsP E (Q (.w i))).length) c202), (78, .int .i64 (((refsP E (Q (.w i))).length : Nat) : Int)), (79, .int .i64 j), (82, .agg #[.int .u16 ((refP E (x : Int)).idx), .int .u32 ((refP E (x : Int)).gen)])]) (φ := (0 ≤ j ∧ j < (((refsP E (Q (.w i))).length : Nat) : Int)) ∧ (rb305 = rb305 ∧ cellsAre cs306 (0 + (j.toNat * 2)) [.int .u16 ((refP E (x : Int)).idx), .int .u32 ((refP E (x : Int)).gen)]) ∧ True) (rest := [2, 3]) h311 (by kernel_rfl) rfl ⟨⟨by omega, by omega⟩, ⟨rfl, (by rw [Nat.zero_add]; exact hrd310)⟩, trivial⟩ fun a314 h315 => ?_
          clear h311
          refine nd_op ?_
          refine op_new tabOk (cells := [.int .u16 0, .int .u32 0]) (ty := 39) (ln := none) (L1 := fun b316 => [(kb, ⟨kC bo bc S, 90, true⟩), (bo, ⟨stC E, 131, true⟩), (0, ⟨[.int .u16 0, .int .u32 0], ty0, true⟩), (b190, ⟨[.int .u16 ((refAtP E (i : Int)).idx), .int .u32 ((refAtP E (i : Int)).gen)], 39, false⟩), (rb305, ⟨cs306, 39, true⟩), (b316, ⟨[.int .u16 0, .int .u32 0], 39, false⟩)]) h315 rfl rfl rfl rfl (by kernel_rfl) (fun _ => rfl) fun b316 w317 a318 h319 hf320 hn321 => ?_
          clear h315
          refine nd_op ?_
          refine op_store tabOk {k := 5} (L' := [(kb, ⟨kC bo bc S, 90, true⟩), (bo, ⟨stC E, 131, true⟩), (0, ⟨[.int .u16 0, .int .u32 0], ty0, true⟩), (b190, ⟨[.int .u16 ((refAtP E (i : Int)).idx), .int .u32 ((refAtP E (i : Int)).gen)], 39, false⟩), (rb305, ⟨cs306, 39, true⟩), (b316, ⟨[.int .u16 ((refP E (x : Int)).idx), .int .u32 ((refP E (x : Int)).gen)], 39, false⟩)]) (φ := b316 = b316 ∧ Nat.ble (0 + 2) 2 = true) h319 rfl rfl rfl (by kernel_rfl) ⟨rfl, rfl⟩ fun w322 h323 => ?_
          clear h319
          refine nd_done ?_
          refine hK313 _ _ ?_
          clear hK313
          refine nd_start (l := [0, 1, 2, 3, 4, 5, 6, 7, 8]) rfl ?_
          refine nd_batch tabOk tabZ_ok [(0, {}), (1, {k := 5}), (2, {k := 3})] [15, 11, 58, 0, 2, 3, 4, 8, 59, 60, 77, 78, 79, 83, 84, 86] (T' := [(15, .pointer (some ⟨b316, 0, none⟩)), (11, .pointer (some ⟨b190, 0, none⟩)), (58, .slice (some ⟨rb179, 0, none⟩) (((liveP E 4 256) ++ (liveP E 5 256)).length) c157), (0, .pointer (some ⟨kb, 0, none⟩)), (2, .bool false), (3, .map (some m1)), (4, .map (some m2)), (8, .pointer (some ⟨bo, 0, none⟩)), (59, .int .i64 ((((liveP E 4 256) ++ (liveP E 5 256)).length : Nat) : Int)), (60, .int .i64 m), (77, .slice (some ⟨rb305, 0, none⟩) ((refsP E (Q (.w i))).length) c202), (78, .int .i64 (((refsP E (Q (.w i))).length : Nat) : Int)), (79, .int .i64 j), (83, .map (some m1)), (84, .agg #[.int .u16 ((refP E (x : Int)).idx), .int .u32 ((refP E (x : Int)).gen)]), (86, .agg #[.int .u16 ((refAtP E (i : Int)).idx), .int .u32 ((refAtP E (i : Int)).gen)])]) (φ := (b316 = b316 ∧ Nat.ble (0 + 2) 2 = true) ∧ (b190 = b190 ∧ Nat.ble (0 + 2) 2 = true) ∧ True) (rest := [3, 4, 5, 6, 7, 8]) h323 (by kernel_rfl) rfl ⟨⟨rfl, rfl⟩, ⟨rfl, rfl⟩, trivial⟩ fun a324 h325 => ?_
          clear h323
          refine nd_op ?_
          refine op_new tabOk (cells := [.int .u16 ((refAtP E (i : Int)).idx), .int .u32 ((refAtP E (i : Int)).gen)]) (ty := 39) (ln := (some 1)) (L1 := fun b326 => [(kb, ⟨kC bo bc S, 90, true⟩), (bo, ⟨stC E, 131, true⟩), (0, ⟨[.int .u16 0, .int .u32 0], ty0, true⟩), (b190, ⟨[.int .u16 ((refAtP E (i : Int)).idx), .int .u32 ((refAtP E (i : Int)).gen)], 39, false⟩), (rb305, ⟨cs306, 39, true⟩), (b316, ⟨[.int .u16 ((refP E (x : Int)).idx), .int .u32 ((refP E (x : Int)).gen)], 39, false⟩), (b326, ⟨[.int .u16 ((refAtP E (i : Int)).idx), .int .u32 ((refAtP E (i : Int)).gen)], 39, false⟩)]) h325 rfl rfl rfl rfl (by kernel_rfl) (fun _ => rfl) fun b326 w327 a328 h329 hf330 hn331 => ?_
          clear h325
          refine nd_op ?_
          refine op_mapEntry (t := x) h329 rfl rfl rfl rfl rfl (h329.inv.get (j := 0) (p := pPl m1 c1 E ps) rfl) hx256 hfp ?_
          intro w332 hp333 hf334
          have h335 := (h329.pcSet (j := 0) (p := pPl m1 c1 E ps) (p' := pPlN m1 c1 E ps (refP E (x : Int))) (ps' := [pPlN m1 c1 E ps (refP E (x : Int)), pPr m2 c2 E qs, pRow (rl rfC 39 2 ((liveP E 4 256) ++ (liveP E 5 256)) (some ⟨rb179, 0, none⟩) c157 ([rb179])), pRow (rl rfC 39 2 (refsP E (Q (.w i))) (some ⟨rb305, 0, none⟩) c202 ([rb305]))]) rfl (hp333.ok) hf334 (fun b hb => by simp at hb; rw [hb]; exact List.mem_cons_self ..) (fun b hb => .inl hb) (kcons (fun _ => (fun hq => by have := h329.inv.newOf (j := 0) (p := pPl m1 c1 E ps) rfl kb hq; omega)) (kcons (fun _ => (fun hq => by have := h329.inv.newOf (j := 0) (p := pPl m1 c1 E ps) rfl bo hq; omega)) (kcons (fun _ => (fun hq => by have := h329.inv.newOf (j := 0) (p := pPl m1 c1 E ps) rfl 0 hq; omega)) (kcons (by intro hq; cases hq) (kcons (fun _ => (fun hq => Pf_nodup h329.inv.nd (i := 3) (j := 0) (x := pRow (rl rfC 39 2 (refsP E (Q (.w i))) (some ⟨rb305, 0, none⟩) c202 ([rb305]))) (y := pPl m1 c1 E ps) rfl rfl (by decide) rb305 (by simp [pRow, rl]) hq)) (kcons (by intro hq; cases hq) (kcons (by intro hq; cases hq) knil))))))) rfl).put (d := some 88) (v := .tuple #[.slice none 0 0, .int .i64 ((c1 : Nat) : Int)]) (T' := [(88, .tuple #[.slice none 0 0, .int .i64 ((c1 : Nat) : Int)]), (87, .slice (some ⟨b326, 0, none⟩) 1 1), (15, .pointer (some ⟨b316, 0, none⟩)), (11, .pointer (some ⟨b190, 0, none⟩)), (58, .slice (some ⟨rb179, 0, none⟩) (((liveP E 4 256) ++ (liveP E 5 256)).length) c157), (0, .pointer (some ⟨kb, 0, none⟩)), (2, .bool false), (3, .map (some m1)), (4, .map (some m2)), (8, .pointer (some ⟨bo, 0, none⟩)), (59, .int .i64 ((((liveP E 4 256) ++ (liveP E 5 256)).length : Nat) : Int)), (60, .int .i64 m), (77, .slice (some ⟨rb305, 0, none⟩) ((refsP E (Q (.w i))).length) c202), (78, .int .i64 (((refsP E (Q (.w i))).length : Nat) : Int)), (79, .int .i64 j), (83, .map (some m1)), (84, .agg #[.int .u16 ((refP E (x : Int)).idx), .int .u32 ((refP E (x : Int)).gen)]), (86, .agg #[.int .u16 ((refAtP E (i : Int)).idx), .int .u32 ((refAtP E (i : Int)).gen)])]) rfl
          have hszh335 : w.heap.size ≤ _ := h329.frame.size
          clear h329
          refine nd_batch tabOk tabZ_ok [(5, {})] [88, 87, 15, 11, 58, 0, 2, 3, 4, 8, 59, 60, 77, 78, 79, 83, 85] (T' := [(88, .tuple #[.slice none 0 0, .int .i64 ((c1 : Nat) : Int)]), (87, .slice (some ⟨b326, 0, none⟩) 1 1), (15, .pointer (some ⟨b316, 0, none⟩)), (11, .pointer (some ⟨b190, 0, none⟩)), (58, .slice (some ⟨rb179, 0, none⟩) (((liveP E 4 256) ++ (liveP E 5 256)).length) c157), (0, .pointer (some ⟨kb, 0, none⟩)), (2, .bool false), (3, .map (some m1)), (4, .map (some m2)), (8, .pointer (some ⟨bo, 0, none⟩)), (59, .int .i64 ((((liveP E 4 256) ++ (liveP E 5 256)).length : Nat) : Int)), (60, .int .i64 m), (77, .slice (some ⟨rb305, 0, none⟩) ((refsP E (Q (.w i))).length) c202), (78, .int .i64 (((refsP E (Q (.w i))).length : Nat) : Int)), (79, .int .i64 j), (83, .map (some m1)), (85, .slice none 0 0)]) (φ := True) (rest := [6, 7, 8]) h335 (by kernel_rfl) rfl trivial fun a336 h337 => ?_
          clear h335
          refine nd_op ?_
          refine op_append tabOk (e := 39) (so := none) (n := 0) (c := 0) (xo := some ⟨b326, 0, none⟩) (m := 1) (cx := 1) (vals := ([] : List Rf).flatMap rfC) (vs := [.int .u16 ((refAtP E (i : Int)).idx), .int .u32 ((refAtP E (i : Int)).gen)]) (F := []) h337 rfl rfl rfl rfl rfl rfl rfl rfl rfl rfl rfl rfl (rl_nil rfC _ 39 2) (src_one (h337.kn (k := 6) rfl) rfl ⟨rfl, rfl, trivial⟩) (by decide) rfl ?_
          intro o338 c339 F340 w341 hr342 hf343 hF344
          have hr3422 : (rl rfC 39 2 [(refAtP E (i : Int))] o338 c339 F340).at w341 := rl_app1 (enc := rfC) (xs := []) (y := (refAtP E (i : Int))) hr342
          have h345 := (h337.pcAdd (p' := pRow (rl rfC 39 2 ([(refAtP E (i : Int))]) o338 c339 F340)) (ps' := [pPlN m1 c1 E ps (refP E (x : Int)), pPr m2 c2 E qs, pRow (rl rfC 39 2 ((liveP E 4 256) ++ (liveP E 5 256)) (some ⟨rb179, 0, none⟩) c157 ([rb179])), pRow (rl rfC 39 2 (refsP E (Q (.w i))) (some ⟨rb305, 0, none⟩) c202 ([rb305])), pRow (rl rfC 39 2 ([(refAtP E (i : Int))]) o338 c339 F340)]) (pRow_ok hr3422) hf343 (fun b hb => (hF344 b hb).elim (fun h => by cases h) id) rfl).put (d := some 89) (v := .slice o338 1 c339) (T' := [(89, .slice o338 1 c339), (88, .tuple #[.slice none 0 0, .int .i64 ((c1 : Nat) : Int)]), (87, .slice (some ⟨b326, 0, none⟩) 1 1), (15, .pointer (some ⟨b316, 0, none⟩)), (11, .pointer (some ⟨b190, 0, none⟩)), (58, .slice (some ⟨rb179, 0, none⟩) (((liveP E 4 256) ++ (liveP E 5 256)).length) c157), (0, .pointer (some ⟨kb, 0, none⟩)), (2, .bool false), (3, .map (some m1)), (4, .map (some m2)), (8, .pointer (some ⟨bo, 0, none⟩)), (59, .int .i64 ((((liveP E 4 256) ++ (liveP E 5 256)).length : Nat) : Int)), (60, .int .i64 m), (77, .slice (some ⟨rb305, 0, none⟩) ((refsP E (Q (.w i))).length) c202), (78, .int .i64 (((refsP E (Q (.w i))).length : Nat) : Int)), (79, .int .i64 j), (83, .map (some m1)), (85, .slice none 0 0)]) rfl
          have hszh345 : w.heap.size ≤ _ := h337.frame.size
          clear h337
          refine nd_batch tabOk tabZ_ok [(7, {})] [89, 15, 11, 58, 0, 2, 3, 4, 8, 59, 60, 77, 78, 79, 83, 90] (T' := [(89, .slice o338 1 c339), (15, .pointer (some ⟨b316, 0, none⟩)), (11, .pointer (some ⟨b190, 0, none⟩)), (58, .slice (some ⟨rb179, 0, none⟩) (((liveP E 4 256) ++ (liveP E 5 256)).length) c157), (0, .pointer (some ⟨kb, 0, none⟩)), (2, .bool false), (3, .map (some m1)), (4, .map (some m2)), (8, .pointer (some ⟨bo, 0, none⟩)), (59, .int .i64 ((((liveP E 4 256) ++ (liveP E 5 256)).length : Nat) : Int)), (60, .int .i64 m), (77, .slice (some ⟨rb305, 0, none⟩) ((refsP E (Q (.w i))).length) c202), (78, .int .i64 (((refsP E (Q (.w i))).length : Nat) : Int)), (79, .int .i64 j), (83, .map (some m1)), (90, .int .i64 ((c1 : Nat) : Int))]) (φ := True) (rest := [8]) h345 (by kernel_rfl) rfl trivial fun a346 h347 => ?_
          clear h345
          refine nd_op ?_
          have hd351 : ∀ b ∈ F340, b ∉ plF m1 ps := Pf_nodup h347.inv.nd (i := 4) (j := 0) (x := pRow (rl rfC 39 2 ([(refAtP E (i : Int))]) o338 c339 F340)) (y := pPlN m1 c1 E ps (refP E (x : Int))) rfl rfl (by decide)
          refine op_entryStore (t := x) (at_ := (refAtP E (i : Int))) (F := F340) h347 rfl rfl rfl rfl rfl rfl (h347.inv.get (j := 0) (p := pPlN m1 c1 E ps (refP E (x : Int))) rfl) (h347.inv.get (j := 4) (p := pRow (rl rfC 39 2 ([(refAtP E (i : Int))]) o338 c339 F340)) rfl) hd351 ?_
          intro w348 hp349 hf350
          have h352 := (St.pcInto (ps := [pPlN m1 c1 E ps (refP E (x : Int)), pPr m2 c2 E qs, pRow (rl rfC 39 2 ((liveP E 4 256) ++ (liveP E 5 256)) (some ⟨rb179, 0, none⟩) c157 ([rb179])), pRow (rl rfC 39 2 (refsP E (Q (.w i))) (some ⟨rb305, 0, none⟩) c202 ([rb305]))]) (q := pRow (rl rfC 39 2 ([(refAtP E (i : Int))]) o338 c339 F340)) (p := pPlN m1 c1 E ps (refP E (x : Int))) (p' := pPl m1 (c1 + 1) E (ps ++ [(⟨x, (refAtP E (i : Int)), o338, c339, F340, c1⟩ : Pe)])) (ps' := [pPl m1 (c1 + 1) E (ps ++ [(⟨x, (refAtP E (i : Int)), o338, c339, F340, c1⟩ : Pe)]), pPr m2 c2 E qs, pRow (rl rfC 39 2 ((liveP E 4 256) ++ (liveP E 5 256)) (some ⟨rb179, 0, none⟩) c157 ([rb179])), pRow (rl rfC 39 2 (refsP E (Q (.w i))) (some ⟨rb305, 0, none⟩) c202 ([rb305]))]) h347 (j := 0) rfl (hp349.ok) (pl_F1 m1 ps (⟨x, (refAtP E (i : Int)), o338, c339, F340, c1⟩ : Pe)) hf350 (fun b hb => by simp at hb; rw [hb]; exact List.mem_cons_self ..) (kcons (fun _ => (fun hq => by have := h347.inv.newOf (j := 0) (p := pPlN m1 c1 E ps (refP E (x : Int))) rfl kb hq; omega)) (kcons (fun _ => (fun hq => by have := h347.inv.newOf (j := 0) (p := pPlN m1 c1 E ps (refP E (x : Int))) rfl bo hq; omega)) (kcons (fun _ => (fun hq => by have := h347.inv.newOf (j := 0) (p := pPlN m1 c1 E ps (refP E (x : Int))) rfl 0 hq; omega)) (kcons (by intro hq; cases hq) (kcons (fun _ => (fun hq => Pf_nodup h347.inv.nd (i := 3) (j := 0) (x := pRow (rl rfC 39 2 (refsP E (Q (.w i))) (some ⟨rb305, 0, none⟩) c202 ([rb305]))) (y := pPlN m1 c1 E ps (refP E (x : Int))) rfl rfl (by decide) rb305 (by simp [pRow, rl]) hq)) (kcons (by intro hq; cases hq) (kcons (by intro hq; cases hq) knil))))))) rfl).put (d := none) (v := undef) (T' := [(89, .slice o338 1 c339), (15, .pointer (some ⟨b316, 0, none⟩)), (11, .pointer (some ⟨b190, 0, none⟩)), (58, .slice (some ⟨rb179, 0, none⟩) (((liveP E 4 256) ++ (liveP E 5 256)).length) c157), (0, .pointer (some ⟨kb, 0, none⟩)), (2, .bool false), (3, .map (some m1)), (4, .map (some m2)), (8, .pointer (some ⟨bo, 0, none⟩)), (59, .int .i64 ((((liveP E 4 256) ++ (liveP E 5 256)).length : Nat) : Int)), (60, .int .i64 m), (77, .slice (some ⟨rb305, 0, none⟩) ((refsP E (Q (.w i))).length) c202), (78, .int .i64 (((refsP E (Q (.w i))).length : Nat) : Int)), (79, .int .i64 j), (83, .map (some m1)), (90, .int .i64 ((c1 : Nat) : Int))]) rfl
          have hszh352 : w.heap.size ≤ _ := h347.frame.size
          clear h347
          refine nd_done ?_
          refine hK312 _ _ ?_
          clear hK312
          refine nd_start (l := [0, 1]) rfl ?_
          refine nd_batch tabOk tabZ_ok [(0, {}), (1, {})] [15, 11, 58, 0, 2, 3, 4, 8, 59, 60, 77, 78, 79] (T' := [(15, .pointer (some ⟨b316, 0, none⟩)), (11, .pointer (some ⟨b190, 0, none⟩)), (58, .slice (some ⟨rb179, 0, none⟩) (((liveP E 4 256) ++ (liveP E 5 256)).length) c157), (0, .pointer (some ⟨kb, 0, none⟩)), (2, .bool false), (3, .map (some m1)), (4, .map (some m2)), (8, .pointer (some ⟨bo, 0, none⟩)), (59, .int .i64 ((((liveP E 4 256) ++ (liveP E 5 256)).length : Nat) : Int)), (60, .int .i64 m), (77, .slice (some ⟨rb305, 0, none⟩) ((refsP E (Q (.w i))).length) c202), (78, .int .i64 (((refsP E (Q (.w i))).length : Nat) : Int)), (79, .int .i64 (j + 1))]) (φ := inR .i64 (j + 1) ∧ True) (rest := []) h352 (by kernel_rfl) rfl ⟨⟨by omega, by omega⟩, trivial⟩ fun a353 h354 => ?_
          clear h352
          refine nd_done ?_
          have h355 := h354.memMono (L' := [(kb, ⟨kC bo bc S, 90, true⟩), (bo, ⟨stC E, 131, true⟩), (0, ⟨[.int .u16 0, .int .u32 0], ty0, true⟩), (b190, ⟨[.int .u16 ((refAtP E (i : Int)).idx), .int .u32 ((refAtP E (i : Int)).gen)], 39, false⟩)]) (List.Sublist.cons_cons _ (List.Sublist.cons_cons _ (List.Sublist.cons_cons _ (List.Sublist.cons_cons _ (List.Sublist.cons _ (List.Sublist.cons _ (List.Sublist.cons _ List.Sublist.slnil)))))))
          clear h354
          exact ⟨(g2 - 1), by omega, (ps ++ [(⟨x, (refAtP E (i : Int)), o338, c339, F340, c1⟩ : Pe)]), (c1 + 1), (j + 1), by omega, ⟨by omega, by omega⟩, (by rw [show (j + 1).toNat = j.toNat + 1 by omega, absW_one Q E hi hx, List.map_append, hps]; rfl), (nodup_snoc hnx (fun e he => (hfp e he).2)), (h355.slotsMono (restr_spec (keep := [11, 58, 0, 2, 3, 4, 8, 59, 60, 77, 78, 79]) rfl))⟩
        ·
          have hc304f : ¬ j < (((refsP E (Q (.w i))).length : Nat) : Int) := by simpa using hc304
          rw [absW_next Q E hi (by omega)] at hps
          refine wp_exit ?_
          refine hK186 _ _ ?_
          clear hK186
          refine nd_start (l := [0, 1]) rfl ?_
          refine nd_batch tabOk tabZ_ok [(0, {}), (1, {})] [11, 58, 0, 2, 3, 4, 8, 59, 77, 78, 79, 60] (T' := [(11, .pointer (some ⟨b190, 0, none⟩)), (58, .slice (some ⟨rb179, 0, none⟩) (((liveP E 4 256) ++ (liveP E 5 256)).length) c157), (0, .pointer (some ⟨kb, 0, none⟩)), (2, .bool false), (3, .map (some m1)), (4, .map (some m2)), (8, .pointer (some ⟨bo, 0, none⟩)), (59, .int .i64 ((((liveP E 4 256) ++ (liveP E 5 256)).length : Nat) : Int)), (77, .slice o201 ((refsP E (Q (.w i))).length) c202), (78, .int .i64 (((refsP E (Q (.w i))).length : Nat) : Int)), (79, .int .i64 j), (60, .int .i64 (m + 1))]) (φ := inR .i64 (m + 1) ∧ True) (rest := []) h302 (by kernel_rfl) rfl ⟨⟨by omega, by omega⟩, trivial⟩ fun a356 h357 => ?_
          clear h302
          refine nd_done ?_
          have h358 := h357.memMono (L' := [(kb, ⟨kC bo bc S, 90, true⟩), (bo, ⟨stC E, 131, true⟩), (0, ⟨[.int .u16 0, .int .u32 0], ty0, true⟩)]) (List.Sublist.cons_cons _ (List.Sublist.cons_cons _ (List.Sublist.cons_cons _ (List.Sublist.cons _ List.Sublist.slnil))))
          clear h357
          have h359 := h358.pcSub (ps' := [pPl m1 c1 E ps, pPr m2 c2 E qs, pRow (rl rfC 39 2 ((liveP E 4 256) ++ (liveP E 5 256)) (some ⟨rb179, 0, none⟩) c157 ([rb179]))]) (List.Sublist.cons_cons _ (List.Sublist.cons_cons _ (List.Sublist.cons_cons _ (List.Sublist.cons _ List.Sublist.slnil))))
          clear h358
          exact ⟨(g - 1), by omega, ps, c1, (m + 1), by omega, ⟨by omega, by omega⟩, (by rw [show (m + 1).toNat = m.toNat + 1 by omega]; exact hps), hnx, (h359.slotsMono (restr_spec (keep := [58, 0, 2, 3, 4, 8, 59, 60]) rfl))⟩
    ·
      have hc178f : ¬ m < ((((liveP E 4 256) ++ (liveP E 5 256)).length : Nat) : Int) := by simpa using hc178
      rw [absW_all Q E (by omega)] at hps
      refine wp_exit ?_
      refine hK134 _ _ ?_
      clear hK134
      refine wp_seq_k fun K360 hK360 => ?_
      refine nd_start (l := [0]) rfl ?_
      refine nd_batch tabOk tabZ_ok [(0, {})] [58, 0, 2, 3, 4, 8, 59, 60, 16] (T' := [(58, .slice o156 (((liveP E 4 256) ++ (liveP E 5 256)).length) c157), (0, .pointer (some ⟨kb, 0, none⟩)), (2, .bool false), (3, .map (some m1)), (4, .map (some m2)), (8, .pointer (some ⟨bo, 0, none⟩)), (59, .int .i64 ((((liveP E 4 256) ++ (liveP E 5 256)).length : Nat) : Int)), (60, .int .i64 m), (16, .int .i64 0)]) (φ := True) (rest := []) h176 (by kernel_rfl) rfl trivial fun a361 h362 => ?_
      clear h176
      refine nd_done ?_
      refine hK360 _ _ ?_
      clear hK360
      refine wp_seq_k fun K363 hK363 => ?_
      refine wp_seq_k fun K364 hK364 => ?_
      refine nd_start (l := [0, 1, 2, 3]) rfl ?_
      refine nd_batch tabOk tabZ_ok [(0, {})] [58, 0, 2, 3, 4, 8, 59, 60, 16, 93] (T' := [(58, .slice o156 (((liveP E 4 256) ++ (liveP E 5 256)).length) c157), (0, .pointer (some ⟨kb, 0, none⟩)), (2, .bool false), (3, .map (some m1)), (4, .map (some m2)), (8, .pointer (some ⟨bo, 0, none⟩)), (59, .int .i64 ((((liveP E 4 256) ++ (liveP E 5 256)).length : Nat) : Int)), (60, .int .i64 m), (16, .int .i64 0), (93, .pointer (some ⟨kb, 0, none⟩))]) (φ := True) (rest := [1, 2, 3]) h362 (by kernel_rfl) rfl trivial fun a365 h366 => ?_
      clear h362
      refine nd_op ?_
      refine op_call h366 rfl rfl rfl (callOk Tryd.func27 (by decide) rfl) (args := [.pointer (some ⟨kb, 0, none⟩), .int .u8 3]) rfl (live_ok kb bo bc S E 3 _ (heap_fr hb h366.frame) (heap_fr hs h366.frame) hne) ?_
      rintro _ w373 ⟨o367, c368, F369, rfl, hr370, hf371, hF372⟩
      refine ⟨_, rfl, ?_⟩
      have h374 := (h366.pcAdd (p' := pRow (rl rfC 39 2 (liveP E 3 256) o367 c368 F369)) (ps' := [pPl m1 c1 E ps, pPr m2 c2 E qs, pRow (rl rfC 39 2 ((liveP E 4 256) ++ (liveP E 5 256)) o156 c157 F158), pRow (rl rfC 39 2 (liveP E 3 256) o367 c368 F369)]) (pRow_ok hr370) hf371 hF372 rfl).put (d := some 94) (v := .slice o367 ((liveP E 3 256).length) c368) (T' := [(94, .slice o367 ((liveP E 3 256).length) c368), (58, .slice o156 (((liveP E 4 256) ++ (liveP E 5 256)).length) c157), (0, .pointer (some ⟨kb, 0, none⟩)), (2, .bool false), (3, .map (some m1)), (4, .map (some m2)), (8, .pointer (some ⟨bo, 0, none⟩)), (59, .int .i64 ((((liveP E 4 256) ++ (liveP E 5 256)).length : Nat) : Int)), (60, .int .i64 m), (16, .int .i64 0), (93, .pointer (some ⟨kb, 0, none⟩))]) rfl
      have hszh374 : w.heap.size ≤ _ := h366.frame.size
      clear h366
      refine nd_batch tabOk tabZ_ok [(2, {}), (3, {})] [94, 58, 0, 2, 3, 4, 8, 59, 60, 16, 95, 96] (T' := [(94, .slice o367 ((liveP E 3 256).length) c368), (58, .slice o156 (((liveP E 4 256) ++ (liveP E 5 256)).length) c157), (0, .pointer (some ⟨kb, 0, none⟩)), (2, .bool false), (3, .map (some m1)), (4, .map (some m2)), (8, .pointer (some ⟨bo, 0, none⟩)), (59, .int .i64 ((((liveP E 4 256) ++ (liveP E 5 256)).length : Nat) : Int)), (60, .int .i64 m), (16, .int .i64 0), (95, .int .i64 (((liveP E 3 256).length : Nat) : Int)), (96, .int .i64 0)]) (φ := True) (rest := []) h374 (by kernel_rfl) rfl trivial fun a375 h376 => ?_
      clear h374
      refine nd_done ?_
      refine hK364 _ _ ?_
      clear hK364
      refine wp_block ?_
      have h377 := h376.pcSub (ps' := [pPl m1 c1 E ps, pPr m2 c2 E qs, pRow (rl rfC 39 2 (liveP E 3 256) o367 c368 F369)]) (List.Sublist.cons_cons _ (List.Sublist.cons_cons _ (List.Sublist.cons _ (List.Sublist.cons_cons _ List.Sublist.slnil))))
      clear h376
      have hp3 := P3.start hQ hps hnx
      clear hps hnx
      have hll : (liveP E 3 256).length = (ids3 E).length := by rw [ids3_live, List.length_map]
      have hil3 := ids3_len E
      refine wp_loop_ghost (fun g ga gw => ∃ (ps : List Pe) (j : Int) (n : Int), ((g : Int) = (ids3 E).length - j) ∧ (0 ≤ j ∧ j ≤ (ids3 E).length) ∧ (P3 Q E ps j.toNat) ∧ (Rn S E j.toNat n) ∧ St ⟨238, [], w, Pk w.heap.size [pPl m1 c1 E ps, pPr m2 c2 E qs, pRow (rl rfC 39 2 (liveP E 3 256) o367 c368 F369)], Pf [pPl m1 c1 E ps, pPr m2 c2 E qs, pRow (rl rfC 39 2 (liveP E 3 256) o367 c368 F369)]⟩ [(94, .slice o367 ((liveP E 3 256).length) c368), (0, .pointer (some ⟨kb, 0, none⟩)), (2, .bool false), (3, .map (some m1)), (4, .map (some m2)), (8, .pointer (some ⟨bo, 0, none⟩)), (95, .int .i64 (((liveP E 3 256).length : Nat) : Int)), (96, .int .i64 j), (16, .int .i64 n)] [(kb, ⟨kC bo bc S, 90, true⟩), (bo, ⟨stC E, 131, true⟩), (0, ⟨[.int .u16 0, .int .u32 0], ty0, true⟩)] ga gw) (ids3 E).length ⟨ps, 0, 0, by simp, ⟨by simp, by simp⟩, hp3, (.inl ⟨rfl, fun y hy => by simp at hy⟩), (h377.slotsMono (restr_spec (keep := [94, 0, 2, 3, 4, 8, 95, 96, 16]) rfl))⟩ ?_
      clear h377
      rintro g a378 w379 ⟨ps, j, n, hi381, hi382, hi383, hi384, h380⟩
      have hjg := hi381
      have hj0 := hi382
      have hP3 := hi383
      have hRn := hi384
      refine wp_seq_k fun K385 hK385 => ?_
      refine nd_start (l := [0]) rfl ?_
      refine nd_batch tabOk tabZ_ok [(0, {})] [94, 0, 2, 3, 4, 8, 95, 96, 16, 97] (T' := [(94, .slice o367 ((liveP E 3 256).length) c368), (0, .pointer (some ⟨kb, 0, none⟩)), (2, .bool false), (3, .map (some m1)), (4, .map (some m2)), (8, .pointer (some ⟨bo, 0, none⟩)), (95, .int .i64 (((liveP E 3 256).length : Nat) : Int)), (96, .int .i64 j), (16, .int .i64 n), (97, .bool (decide (j < (((liveP E 3 256).length : Nat) : Int))))]) (φ := True) (rest := []) h380 (by kernel_rfl) rfl trivial fun a386 h387 => ?_
      clear h380
      refine nd_done ?_
      refine hK385 _ _ ?_
      clear hK385
      refine wp_seq_k fun K388 hK388 => ?_
      refine c_split h387 (b := decide (j < (((liveP E 3 256).length : Nat) : Int))) rfl (fun hc389 => ?_) (fun hc389 => ?_)
      ·
        have hc389f : j < (((liveP E 3 256).length : Nat) : Int) := by simpa using hc389
        obtain ⟨x, hxj⟩ : ∃ x, (ids3 E)[j.toNat]? = some x := ⟨(ids3 E)[j.toNat]'(by omega), by simp⟩
        obtain ⟨hx256, hxt⟩ := ids3_mem.1 (List.mem_of_getElem? hxj)
        have hr9 : (liveP E 3 256)[j.toNat]? = some (refP E (x : Int)) := by rw [ids3_live, List.getElem?_map, hxj]; rfl
        have hrx : (refP E (x : Int)).idx = (x : Int) := by rw [← ref_at]; exact refAt_idx ⟨by omega, by omega⟩
        obtain ⟨rb390, cs391, ho393, hb392, hrd395, hF394, _⟩ := rl_open (h387.inv.get (j := 2) (p := pRow (rl rfC 39 2 (liveP E 3 256) o367 c368 F369)) rfl) rfC_len hr9
        subst ho393 hF394
        have h396 := h387.open_ hb392 (h387.notinL (by simp [Pf, pRow, rl]) (kcons (fun _ e => by have := h387.inv.newOf (j := 2) (p := pRow (rl rfC 39 2 (liveP E 3 256) (some ⟨rb390, 0, none⟩) c368 ([rb390]))) rfl rb390 (by simp [pRow, rl]); omega) (kcons (fun _ e => by have := h387.inv.newOf (j := 2) (p := pRow (rl rfC 39 2 (liveP E 3 256) (some ⟨rb390, 0, none⟩) c368 ([rb390]))) rfl rb390 (by simp [pRow, rl]); omega) (kcons (fun _ e => by have := h387.inv.newOf (j := 2) (p := pRow (rl rfC 39 2 (liveP E 3 256) (some ⟨rb390, 0, none⟩) c368 ([rb390]))) rfl rb390 (by simp [pRow, rl]); omega) knil))))
        clear h387
        refine wp_skip ?_
        refine hK388 _ _ ?_
        clear hK388
        refine wp_seq_k fun K397 hK397 => ?_
        refine wp_block ?_
        refine wp_seq_k fun K398 hK398 => ?_
        refine nd_start (l := [0, 1, 2, 3]) rfl ?_
        refine nd_batch tabOk tabZ_ok [(0, {}), (1, {k := 3, m := 1, vs := [.int .u16 ((refP E (x : Int)).idx), .int .u32 ((refP E (x : Int)).gen)]})] [94, 0, 2, 3, 4, 8, 95, 96, 16, 99] (T' := [(94, .slice (some ⟨rb390, 0, none⟩) ((liveP E 3 256).length) c368), (0, .pointer (some ⟨kb, 0, none⟩)), (2, .bool false), (3, .map (some m1)), (4, .map (some m2)), (8, .pointer (some ⟨bo, 0, none⟩)), (95, .int .i64 (((liveP E 3 256).length : Nat) : Int)), (96, .int .i64 j), (16, .int .i64 n), (99, .agg #[.int .u16 ((refP E (x : Int)).idx), .int .u32 ((refP E (x : Int)).gen)])]) (φ := (0 ≤ j ∧ j < (((liveP E 3 256).length : Nat) : Int)) ∧ (rb390 = rb390 ∧ cellsAre cs391 (0 + (j.toNat * 2)) [.int .u16 ((refP E (x : Int)).idx), .int .u32 ((refP E (x : Int)).gen)]) ∧ True) (rest := [2, 3]) h396 (by kernel_rfl) rfl ⟨⟨by omega, by omega⟩, ⟨rfl, (by rw [Nat.zero_add]; exact hrd395)⟩, trivial⟩ fun a399 h400 => ?_
        clear h396
        refine nd_op ?_
        refine op_new tabOk (cells := [.int .u16 0, .int .u32 0]) (ty := 39) (ln := none) (L1 := fun b401 => [(kb, ⟨kC bo bc S, 90, true⟩), (bo, ⟨stC E, 131, true⟩), (0, ⟨[.int .u16 0, .int .u32 0], ty0, true⟩), (rb390, ⟨cs391, 39, true⟩), (b401, ⟨[.int .u16 0, .int .u32 0], 39, false⟩)]) h400 rfl rfl rfl rfl (by kernel_rfl) (fun _ => rfl) fun b401 w402 a403 h404 hf405 hn406 => ?_
        clear h400
        refine nd_op ?_
        refine op_store tabOk {k := 4} (L' := [(kb, ⟨kC bo bc S, 90, true⟩), (bo, ⟨stC E, 131, true⟩), (0, ⟨[.int .u16 0, .int .u32 0], ty0, true⟩), (rb390, ⟨cs391, 39, true⟩), (b401, ⟨[.int .u16 ((refP E (x : Int)).idx), .int .u32 ((refP E (x : Int)).gen)], 39, false⟩)]) (φ := b401 = b401 ∧ Nat.ble (0 + 2) 2 = true) h404 rfl rfl rfl (by kernel_rfl) ⟨rfl, rfl⟩ fun w407 h408 => ?_
        clear h404
        refine nd_done ?_
        refine hK398 _ _ ?_
        clear hK398
        refine wp_seq_k fun K409 hK409 => ?_
        refine nd_start (l := [0, 1, 2, 3, 4, 5, 6, 7, 8]) rfl ?_
        refine nd_batch tabOk tabZ_ok [(0, {}), (1, {k := 4})] [18, 94, 0, 2, 3, 4, 8, 95, 96, 16, 101, 102] (T' := [(18, .pointer (some ⟨b401, 0, none⟩)), (94, .slice (some ⟨rb390, 0, none⟩) ((liveP E 3 256).length) c368), (0, .pointer (some ⟨kb, 0, none⟩)), (2, .bool false), (3, .map (some m1)), (4, .map (some m2)), (8, .pointer (some ⟨bo, 0, none⟩)), (95, .int .i64 (((liveP E 3 256).length : Nat) : Int)), (96, .int .i64 j), (16, .int .i64 n), (101, .pointer (some ⟨kb, 0, none⟩)), (102, .agg #[.int .u16 ((refP E (x : Int)).idx), .int .u32 ((refP E (x : Int)).gen)])]) (φ := (b401 = b401 ∧ Nat.ble (0 + 2) 2 = true) ∧ True) (rest := [2, 3, 4, 5, 6, 7, 8]) h408 (by kernel_rfl) rfl ⟨⟨rfl, rfl⟩, trivial⟩ fun a410 h411 => ?_
        clear h408
        refine nd_op ?_
        have hthr : threadP S E (refP E (x : Int)) = (S.tcb x, true) := by rw [thread_live ⟨by omega, by omega⟩ (by rw [Int.toNat_natCast]; exact hxt), Int.toNat_natCast]
        have xt := hX x hx256
        have hprx := (rS.t hx256).pr
        have hwi := (rS.t hx256).wi
        have hcl7 : (S.tcb x).st = 0 ∨ (S.tcb x).st = 1 ∨ (S.tcb x).st = 2 ∨ (S.tcb x).st = 3 ∨ (S.tcb x).st = 4 ∨ (S.tcb x).st = 5 ∨ (S.tcb x).st = 6 := by have h1 : 0 ≤ (S.tcb x).st ∧ (S.tcb x).st ≤ 6 := xt.rng; omega
        rcases hcl7 with hsx | hsx | hsx | hsx | hsx | hsx | hsx
        ·
          have hwz : (S.tcb x).wait = ⟨0, 0⟩ := xt.idle (by show (S.tcb x).st ≤ 2; omega)
          obtain ⟨hpN, hP3'⟩ := hP3.out hxj (place_none (by omega) hQ)
          have hRn' := hRn.skip hQ hxj (by omega)
          refine op_call h411 rfl rfl rfl (callOk Tryd.func25 (by decide) rfl) (args := [.pointer (some ⟨kb, 0, none⟩), .agg #[.int .u16 ((refP E (x : Int)).idx), .int .u32 ((refP E (x : Int)).gen)]]) rfl ((by have hq := threadE kb bo bc S rS h256 (refP E (x : Int)) ⟨by rw [hrx]; omega, by rw [hrx]; omega⟩ _ (heap_fr hb h411.frame) (heap_fr hs h411.frame) hne hthr; unfold thC at hq; rw [hsx] at hq; rw [hwz] at hq; exact hq)) ?_
          rintro _ w412 ⟨rfl, hf414⟩
          refine ⟨_, rfl, ?_⟩
          have h413 := (h411.grow hf414).put (d := some 103) (v := .tuple #[.agg #[.int .u8 0, .int .u8 ((S.tcb x).prio), .int .u16 0, .int .u32 0, .int .u16 ((S.tcb x).cs.idx), .int .u32 ((S.tcb x).cs.gen), .int .u16 ((S.tcb x).rep.idx), .int .u32 ((S.tcb x).rep.gen), .int .u64 ((S.tcb x).badge), .int .u64 ((S.tcb x).m0), .int .u64 ((S.tcb x).m1), .int .u64 ((S.tcb x).m2), .int .u64 ((S.tcb x).m3), .int .u8 ((S.tcb x).len), .int .u8 ((S.tcb x).got), .int .u32 ((S.tcb x).xfer), .int .u32 ((S.tcb x).dst), .bool ((S.tcb x).grant), .bool ((S.tcb x).call)], .bool true]) (T' := [(103, .tuple #[.agg #[.int .u8 0, .int .u8 ((S.tcb x).prio), .int .u16 0, .int .u32 0, .int .u16 ((S.tcb x).cs.idx), .int .u32 ((S.tcb x).cs.gen), .int .u16 ((S.tcb x).rep.idx), .int .u32 ((S.tcb x).rep.gen), .int .u64 ((S.tcb x).badge), .int .u64 ((S.tcb x).m0), .int .u64 ((S.tcb x).m1), .int .u64 ((S.tcb x).m2), .int .u64 ((S.tcb x).m3), .int .u8 ((S.tcb x).len), .int .u8 ((S.tcb x).got), .int .u32 ((S.tcb x).xfer), .int .u32 ((S.tcb x).dst), .bool ((S.tcb x).grant), .bool ((S.tcb x).call)], .bool true]), (18, .pointer (some ⟨b401, 0, none⟩)), (94, .slice (some ⟨rb390, 0, none⟩) ((liveP E 3 256).length) c368), (0, .pointer (some ⟨kb, 0, none⟩)), (2, .bool false), (3, .map (some m1)), (4, .map (some m2)), (8, .pointer (some ⟨bo, 0, none⟩)), (95, .int .i64 (((liveP E 3 256).length : Nat) : Int)), (96, .int .i64 j), (16, .int .i64 n), (101, .pointer (some ⟨kb, 0, none⟩)), (102, .agg #[.int .u16 ((refP E (x : Int)).idx), .int .u32 ((refP E (x : Int)).gen)])]) rfl
          clear h411
          refine nd_batch tabOk tabZ_ok [(3, {}), (4, {}), (5, {})] [18, 94, 0, 2, 3, 4, 8, 95, 96, 16, 104, 105] (T' := [(18, .pointer (some ⟨b401, 0, none⟩)), (94, .slice (some ⟨rb390, 0, none⟩) ((liveP E 3 256).length) c368), (0, .pointer (some ⟨kb, 0, none⟩)), (2, .bool false), (3, .map (some m1)), (4, .map (some m2)), (8, .pointer (some ⟨bo, 0, none⟩)), (95, .int .i64 (((liveP E 3 256).length : Nat) : Int)), (96, .int .i64 j), (16, .int .i64 n), (104, .agg #[.int .u8 0, .int .u8 ((S.tcb x).prio), .int .u16 0, .int .u32 0, .int .u16 ((S.tcb x).cs.idx), .int .u32 ((S.tcb x).cs.gen), .int .u16 ((S.tcb x).rep.idx), .int .u32 ((S.tcb x).rep.gen), .int .u64 ((S.tcb x).badge), .int .u64 ((S.tcb x).m0), .int .u64 ((S.tcb x).m1), .int .u64 ((S.tcb x).m2), .int .u64 ((S.tcb x).m3), .int .u8 ((S.tcb x).len), .int .u8 ((S.tcb x).got), .int .u32 ((S.tcb x).xfer), .int .u32 ((S.tcb x).dst), .bool ((S.tcb x).grant), .bool ((S.tcb x).call)]), (105, .bool true)]) (φ := True) (rest := [6, 7, 8]) h413 (by kernel_rfl) rfl trivial fun a415 h416 => ?_
          clear h413
          refine nd_op ?_
          refine op_new tabOk (cells := [.int .u8 0, .int .u8 0, .int .u16 0, .int .u32 0, .int .u16 0, .int .u32 0, .int .u16 0, .int .u32 0, .int .u64 0, .int .u64 0, .int .u64 0, .int .u64 0, .int .u64 0, .int .u8 0, .int .u8 0, .int .u32 0, .int .u32 0, .bool false, .bool false]) (ty := 59) (ln := none) (L1 := fun b417 => [(kb, ⟨kC bo bc S, 90, true⟩), (bo, ⟨stC E, 131, true⟩), (0, ⟨[.int .u16 0, .int .u32 0], ty0, true⟩), (rb390, ⟨cs391, 39, true⟩), (b401, ⟨[.int .u16 ((refP E (x : Int)).idx), .int .u32 ((refP E (x : Int)).gen)], 39, false⟩), (b417, ⟨[.int .u8 0, .int .u8 0, .int .u16 0, .int .u32 0, .int .u16 0, .int .u32 0, .int .u16 0, .int .u32 0, .int .u64 0, .int .u64 0, .int .u64 0, .int .u64 0, .int .u64 0, .int .u8 0, .int .u8 0, .int .u32 0, .int .u32 0, .bool false, .bool false], 59, false⟩)]) h416 rfl rfl rfl rfl (by kernel_rfl) (fun _ => rfl) fun b417 w418 a419 h420 hf421 hn422 => ?_
          clear h416
          refine nd_op ?_
          refine op_store tabOk {k := 5} (L' := [(kb, ⟨kC bo bc S, 90, true⟩), (bo, ⟨stC E, 131, true⟩), (0, ⟨[.int .u16 0, .int .u32 0], ty0, true⟩), (rb390, ⟨cs391, 39, true⟩), (b401, ⟨[.int .u16 ((refP E (x : Int)).idx), .int .u32 ((refP E (x : Int)).gen)], 39, false⟩), (b417, ⟨[.int .u8 0, .int .u8 ((S.tcb x).prio), .int .u16 0, .int .u32 0, .int .u16 ((S.tcb x).cs.idx), .int .u32 ((S.tcb x).cs.gen), .int .u16 ((S.tcb x).rep.idx), .int .u32 ((S.tcb x).rep.gen), .int .u64 ((S.tcb x).badge), .int .u64 ((S.tcb x).m0), .int .u64 ((S.tcb x).m1), .int .u64 ((S.tcb x).m2), .int .u64 ((S.tcb x).m3), .int .u8 ((S.tcb x).len), .int .u8 ((S.tcb x).got), .int .u32 ((S.tcb x).xfer), .int .u32 ((S.tcb x).dst), .bool ((S.tcb x).grant), .bool ((S.tcb x).call)], 59, false⟩)]) (φ := b417 = b417 ∧ Nat.ble (0 + 19) 19 = true) h420 rfl rfl rfl (by kernel_rfl) ⟨rfl, rfl⟩ fun w423 h424 => ?_
          clear h420
          refine nd_batch tabOk tabZ_ok [(8, {})] [19, 18, 94, 0, 2, 3, 4, 8, 95, 96, 16] (T' := [(19, .pointer (some ⟨b417, 0, none⟩)), (18, .pointer (some ⟨b401, 0, none⟩)), (94, .slice (some ⟨rb390, 0, none⟩) ((liveP E 3 256).length) c368), (0, .pointer (some ⟨kb, 0, none⟩)), (2, .bool false), (3, .map (some m1)), (4, .map (some m2)), (8, .pointer (some ⟨bo, 0, none⟩)), (95, .int .i64 (((liveP E 3 256).length : Nat) : Int)), (96, .int .i64 j), (16, .int .i64 n)]) (φ := True) (rest := []) h424 (by kernel_rfl) rfl trivial fun a425 h426 => ?_
          clear h424
          refine nd_done ?_
          refine hK409 _ _ ?_
          clear hK409
          refine wp_seq_k fun K427 hK427 => ?_
          refine nd_start (l := [0, 1, 2, 3]) rfl ?_
          refine nd_batch tabOk tabZ_ok [(0, {}), (1, {k := 4})] [19, 18, 94, 0, 2, 3, 4, 8, 95, 96, 16, 106, 107] (T' := [(19, .pointer (some ⟨b417, 0, none⟩)), (18, .pointer (some ⟨b401, 0, none⟩)), (94, .slice (some ⟨rb390, 0, none⟩) ((liveP E 3 256).length) c368), (0, .pointer (some ⟨kb, 0, none⟩)), (2, .bool false), (3, .map (some m1)), (4, .map (some m2)), (8, .pointer (some ⟨bo, 0, none⟩)), (95, .int .i64 (((liveP E 3 256).length : Nat) : Int)), (96, .int .i64 j), (16, .int .i64 n), (106, .map (some m1)), (107, .agg #[.int .u16 ((refP E (x : Int)).idx), .int .u32 ((refP E (x : Int)).gen)])]) (φ := (b401 = b401 ∧ Nat.ble (0 + 2) 2 = true) ∧ True) (rest := [2, 3]) h426 (by kernel_rfl) rfl ⟨⟨rfl, rfl⟩, trivial⟩ fun a428 h429 => ?_
          clear h426
          refine nd_op ?_
          refine op_plLookN (t := x) h429 rfl rfl rfl rfl rfl (h429.inv.get (j := 0) (p := pPl m1 c1 E ps) rfl) hx256 hpN ?_
          have h430 := (h429).put (d := some 108) (v := .slice none 0 0) (T' := [(108, .slice none 0 0), (19, .pointer (some ⟨b417, 0, none⟩)), (18, .pointer (some ⟨b401, 0, none⟩)), (94, .slice (some ⟨rb390, 0, none⟩) ((liveP E 3 256).length) c368), (0, .pointer (some ⟨kb, 0, none⟩)), (2, .bool false), (3, .map (some m1)), (4, .map (some m2)), (8, .pointer (some ⟨bo, 0, none⟩)), (95, .int .i64 (((liveP E 3 256).length : Nat) : Int)), (96, .int .i64 j), (16, .int .i64 n), (106, .map (some m1)), (107, .agg #[.int .u16 ((refP E (x : Int)).idx), .int .u32 ((refP E (x : Int)).gen)])]) rfl
          have hszh430 : w.heap.size ≤ _ := h429.frame.size
          clear h429
          refine nd_batch tabOk tabZ_ok [(3, {})] [19, 18, 94, 0, 2, 3, 4, 8, 95, 96, 16, 21] (T' := [(19, .pointer (some ⟨b417, 0, none⟩)), (18, .pointer (some ⟨b401, 0, none⟩)), (94, .slice (some ⟨rb390, 0, none⟩) ((liveP E 3 256).length) c368), (0, .pointer (some ⟨kb, 0, none⟩)), (2, .bool false), (3, .map (some m1)), (4, .map (some m2)), (8, .pointer (some ⟨bo, 0, none⟩)), (95, .int .i64 (((liveP E 3 256).length : Nat) : Int)), (96, .int .i64 j), (16, .int .i64 n), (21, .slice none 0 0)]) (φ := True) (rest := []) h430 (by kernel_rfl) rfl trivial fun a431 h432 => ?_
          clear h430
          refine nd_done ?_
          refine hK427 _ _ ?_
          clear hK427
          refine wp_seq_k fun K433 hK433 => ?_
          refine nd_start (l := [0, 1, 2]) rfl ?_
          refine nd_batch tabOk tabZ_ok [(0, {}), (1, {k := 4})] [19, 18, 94, 0, 2, 3, 4, 8, 95, 96, 16, 21, 109, 110] (T' := [(19, .pointer (some ⟨b417, 0, none⟩)), (18, .pointer (some ⟨b401, 0, none⟩)), (94, .slice (some ⟨rb390, 0, none⟩) ((liveP E 3 256).length) c368), (0, .pointer (some ⟨kb, 0, none⟩)), (2, .bool false), (3, .map (some m1)), (4, .map (some m2)), (8, .pointer (some ⟨bo, 0, none⟩)), (95, .int .i64 (((liveP E 3 256).length : Nat) : Int)), (96, .int .i64 j), (16, .int .i64 n), (21, .slice none 0 0), (109, .map (some m1)), (110, .agg #[.int .u16 ((refP E (x : Int)).idx), .int .u32 ((refP E (x : Int)).gen)])]) (φ := (b401 = b401 ∧ Nat.ble (0 + 2) 2 = true) ∧ True) (rest := [2]) h432 (by kernel_rfl) rfl ⟨⟨rfl, rfl⟩, trivial⟩ fun a434 h435 => ?_
          clear h432
          refine nd_op ?_
          refine op_plDelN (t := x) h435 rfl rfl rfl rfl rfl (h435.inv.get (j := 0) (p := pPl m1 c1 E ps) rfl) hx256 hpN ?_
          intro w436 hp437 hf438
          have h440 := (h435.pcSet (j := 0) (p := pPl m1 c1 E ps) (p' := pPl m1 c1 E ps) (ps' := [pPl m1 c1 E ps, pPr m2 c2 E qs, pRow (rl rfC 39 2 (liveP E 3 256) (some ⟨rb390, 0, none⟩) c368 ([rb390]))]) rfl (hp437.ok) hf438 (fun b hb => by simp at hb; rw [hb]; exact List.mem_cons_self ..) (fun b hb => .inl hb) (kcons (fun _ => (fun hq => by have := h435.inv.newOf (j := 0) (p := pPl m1 c1 E ps) rfl kb hq; omega)) (kcons (fun _ => (fun hq => by have := h435.inv.newOf (j := 0) (p := pPl m1 c1 E ps) rfl bo hq; omega)) (kcons (fun _ => (fun hq => by have := h435.inv.newOf (j := 0) (p := pPl m1 c1 E ps) rfl 0 hq; omega)) (kcons (fun _ => (fun hq => Pf_nodup h435.inv.nd (i := 2) (j := 0) (x := pRow (rl rfC 39 2 (liveP E 3 256) (some ⟨rb390, 0, none⟩) c368 ([rb390]))) (y := pPl m1 c1 E ps) rfl rfl (by decide) rb390 (by simp [pRow, rl]) hq)) (kcons (by intro hq; cases hq) (kcons (by intro hq; cases hq) knil)))))) rfl).put (d := none) (v := .tuple #[]) (T' := [(19, .pointer (some ⟨b417, 0, none⟩)), (18, .pointer (some ⟨b401, 0, none⟩)), (94, .slice (some ⟨rb390, 0, none⟩) ((liveP E 3 256).length) c368), (0, .pointer (some ⟨kb, 0, none⟩)), (2, .bool false), (3, .map (some m1)), (4, .map (some m2)), (8, .pointer (some ⟨bo, 0, none⟩)), (95, .int .i64 (((liveP E 3 256).length : Nat) : Int)), (96, .int .i64 j), (16, .int .i64 n), (21, .slice none 0 0), (109, .map (some m1)), (110, .agg #[.int .u16 ((refP E (x : Int)).idx), .int .u32 ((refP E (x : Int)).gen)])]) rfl
          have hszh440 : w.heap.size ≤ _ := h435.frame.size
          clear h435
          refine nd_done ?_
          refine hK433 _ _ ?_
          clear hK433
          refine wp_seq_k fun K441 hK441 => ?_
          refine nd_start (l := [0]) rfl ?_
          refine nd_batch tabOk tabZ_ok [(0, {})] [19, 18, 94, 0, 2, 3, 4, 8, 95, 96, 16, 21, 22] (T' := [(19, .pointer (some ⟨b417, 0, none⟩)), (18, .pointer (some ⟨b401, 0, none⟩)), (94, .slice (some ⟨rb390, 0, none⟩) ((liveP E 3 256).length) c368), (0, .pointer (some ⟨kb, 0, none⟩)), (2, .bool false), (3, .map (some m1)), (4, .map (some m2)), (8, .pointer (some ⟨bo, 0, none⟩)), (95, .int .i64 (((liveP E 3 256).length : Nat) : Int)), (96, .int .i64 j), (16, .int .i64 n), (21, .slice none 0 0), (22, .bool false)]) (φ := True) (rest := []) h440 (by kernel_rfl) rfl trivial fun a442 h443 => ?_
          clear h440
          refine nd_done ?_
          refine hK441 _ _ ?_
          clear hK441
          refine wp_seq_k fun K444 hK444 => ?_
          refine wp_seq_k fun K445 hK445 => ?_
          refine nd_start (l := [0, 1]) rfl ?_
          refine nd_batch tabOk tabZ_ok [(0, {}), (1, {k := 5})] [19, 18, 94, 0, 2, 3, 4, 8, 95, 96, 16, 21, 22, 112] (T' := [(19, .pointer (some ⟨b417, 0, none⟩)), (18, .pointer (some ⟨b401, 0, none⟩)), (94, .slice (some ⟨rb390, 0, none⟩) ((liveP E 3 256).length) c368), (0, .pointer (some ⟨kb, 0, none⟩)), (2, .bool false), (3, .map (some m1)), (4, .map (some m2)), (8, .pointer (some ⟨bo, 0, none⟩)), (95, .int .i64 (((liveP E 3 256).length : Nat) : Int)), (96, .int .i64 j), (16, .int .i64 n), (21, .slice none 0 0), (22, .bool false), (112, .int .u8 0)]) (φ := (b417 = b417 ∧ Nat.ble (0 + 1) 19 = true) ∧ True) (rest := []) h443 (by kernel_rfl) rfl ⟨⟨rfl, rfl⟩, trivial⟩ fun a446 h447 => ?_
          clear h443
          refine nd_done ?_
          refine hK445 _ _ ?_
          clear hK445
          refine wp_block ?_
          refine wp_seq_k fun K448 hK448 => ?_
          refine nd_start (l := [0, 1]) rfl ?_
          refine nd_batch tabOk tabZ_ok [(0, {}), (1, {})] [19, 18, 94, 0, 2, 3, 4, 8, 95, 96, 16, 21, 22, 112, 113] (T' := [(19, .pointer (some ⟨b417, 0, none⟩)), (18, .pointer (some ⟨b401, 0, none⟩)), (94, .slice (some ⟨rb390, 0, none⟩) ((liveP E 3 256).length) c368), (0, .pointer (some ⟨kb, 0, none⟩)), (2, .bool false), (3, .map (some m1)), (4, .map (some m2)), (8, .pointer (some ⟨bo, 0, none⟩)), (95, .int .i64 (((liveP E 3 256).length : Nat) : Int)), (96, .int .i64 j), (16, .int .i64 n), (21, .slice none 0 0), (22, .bool false), (112, .int .u8 0), (113, .bool true)]) (φ := True) (rest := []) h447 (by kernel_rfl) rfl trivial fun a449 h450 => ?_
          clear h447
          refine nd_done ?_
          refine hK448 _ _ ?_
          clear hK448
          refine c_true h450 rfl ?_
          refine nd_start (l := [0, 1, 2, 3, 4, 5, 6, 7, 8, 9]) rfl ?_
          refine nd_batch tabOk tabZ_ok [(0, {}), (1, {}), (2, {}), (3, {}), (4, {}), (5, {k := 5}), (6, {k := 2}), (7, {f := 2}), (8, {}), (9, {})] [19, 18, 94, 0, 2, 3, 4, 8, 95, 96, 16, 21, 112, 22] (T' := [(19, .pointer (some ⟨b417, 0, none⟩)), (18, .pointer (some ⟨b401, 0, none⟩)), (94, .slice (some ⟨rb390, 0, none⟩) ((liveP E 3 256).length) c368), (0, .pointer (some ⟨kb, 0, none⟩)), (2, .bool false), (3, .map (some m1)), (4, .map (some m2)), (8, .pointer (some ⟨bo, 0, none⟩)), (95, .int .i64 (((liveP E 3 256).length : Nat) : Int)), (96, .int .i64 j), (16, .int .i64 n), (21, .slice none 0 0), (112, .int .u8 0), (22, .bool true)]) (φ := (b417 = b417 ∧ Nat.ble (2 + 2) 19 = true) ∧ (0 = 0 ∧ Nat.ble (0 + 2) 2 = true) ∧ EqRun Tryd.prog 39 (.agg #[.int .u16 0, .int .u32 0]) (.agg #[.int .u16 0, .int .u32 0]) true ∧ True) (rest := []) h450 (by kernel_rfl) rfl ⟨⟨rfl, rfl⟩, ⟨rfl, rfl⟩, (runRfS ⟨0, 0⟩), trivial⟩ fun a451 h452 => ?_
          clear h450
          refine nd_done ?_
          refine hK444 _ _ ?_
          clear hK444
          refine wp_seq_k fun K453 hK453 => ?_
          refine nd_start (l := [0, 1]) rfl ?_
          refine nd_batch tabOk tabZ_ok [(0, {}), (1, {})] [19, 18, 94, 0, 2, 3, 4, 8, 95, 96, 16, 21, 112, 22, 224] (T' := [(19, .pointer (some ⟨b417, 0, none⟩)), (18, .pointer (some ⟨b401, 0, none⟩)), (94, .slice (some ⟨rb390, 0, none⟩) ((liveP E 3 256).length) c368), (0, .pointer (some ⟨kb, 0, none⟩)), (2, .bool false), (3, .map (some m1)), (4, .map (some m2)), (8, .pointer (some ⟨bo, 0, none⟩)), (95, .int .i64 (((liveP E 3 256).length : Nat) : Int)), (96, .int .i64 j), (16, .int .i64 n), (21, .slice none 0 0), (112, .int .u8 0), (22, .bool true), (224, .bool false)]) (φ := True) (rest := []) h452 (by kernel_rfl) rfl trivial fun a454 h455 => ?_
          clear h452
          refine nd_done ?_
          refine hK453 _ _ ?_
          clear hK453
          refine c_false h455 rfl ?_
          refine wp_skip ?_
          refine hK397 _ _ ?_
          clear hK397
          refine nd_start (l := [0, 1]) rfl ?_
          refine nd_batch tabOk tabZ_ok [(0, {}), (1, {})] [19, 18, 94, 0, 2, 3, 4, 8, 95, 16, 21, 112, 22, 96] (T' := [(19, .pointer (some ⟨b417, 0, none⟩)), (18, .pointer (some ⟨b401, 0, none⟩)), (94, .slice (some ⟨rb390, 0, none⟩) ((liveP E 3 256).length) c368), (0, .pointer (some ⟨kb, 0, none⟩)), (2, .bool false), (3, .map (some m1)), (4, .map (some m2)), (8, .pointer (some ⟨bo, 0, none⟩)), (95, .int .i64 (((liveP E 3 256).length : Nat) : Int)), (16, .int .i64 n), (21, .slice none 0 0), (112, .int .u8 0), (22, .bool true), (96, .int .i64 (j + 1))]) (φ := inR .i64 (j + 1) ∧ True) (rest := []) h455 (by kernel_rfl) rfl ⟨⟨by omega, by omega⟩, trivial⟩ fun a456 h457 => ?_
          clear h455
          refine nd_done ?_
          have h458 := h457.memMono (L' := [(kb, ⟨kC bo bc S, 90, true⟩), (bo, ⟨stC E, 131, true⟩), (0, ⟨[.int .u16 0, .int .u32 0], ty0, true⟩)]) (List.Sublist.cons_cons _ (List.Sublist.cons_cons _ (List.Sublist.cons_cons _ (List.Sublist.cons _ (List.Sublist.cons _ (List.Sublist.cons _ List.Sublist.slnil))))))
          clear h457
          exact ⟨(g - 1), by omega, ps, (j + 1), n, by omega, ⟨by omega, by omega⟩, (by rw [show (j + 1).toNat = j.toNat + 1 by omega]; exact hP3'), (by rw [show (j + 1).toNat = j.toNat + 1 by omega]; exact hRn'), (h458.slotsMono (restr_spec (keep := [94, 0, 2, 3, 4, 8, 95, 96, 16]) rfl))⟩
        ·
          have hwz : (S.tcb x).wait = ⟨0, 0⟩ := xt.idle (by show (S.tcb x).st ≤ 2; omega)
          have hin := in_ready (E := E) hQ rS hx256 hsx
          obtain ⟨qpre, qb, qpost, hqs2, hqpre⟩ := prio_at hQ rS hqs hx256 hsx
          obtain ⟨pre, eo, ecp, eF, eb, post, hps, hpre, hP3'⟩ := hP3.inn hxj hin
          have hr0 : [zRf][0]? = some zRf := rfl
          have hRn' := hRn.skip hQ hxj (by omega)
          refine op_call h411 rfl rfl rfl (callOk Tryd.func25 (by decide) rfl) (args := [.pointer (some ⟨kb, 0, none⟩), .agg #[.int .u16 ((refP E (x : Int)).idx), .int .u32 ((refP E (x : Int)).gen)]]) rfl ((by have hq := threadE kb bo bc S rS h256 (refP E (x : Int)) ⟨by rw [hrx]; omega, by rw [hrx]; omega⟩ _ (heap_fr hb h411.frame) (heap_fr hs h411.frame) hne hthr; unfold thC at hq; rw [hsx] at hq; rw [hwz] at hq; exact hq)) ?_
          rintro _ w459 ⟨rfl, hf461⟩
          refine ⟨_, rfl, ?_⟩
          have h460 := (h411.grow hf461).put (d := some 103) (v := .tuple #[.agg #[.int .u8 1, .int .u8 ((S.tcb x).prio), .int .u16 0, .int .u32 0, .int .u16 ((S.tcb x).cs.idx), .int .u32 ((S.tcb x).cs.gen), .int .u16 ((S.tcb x).rep.idx), .int .u32 ((S.tcb x).rep.gen), .int .u64 ((S.tcb x).badge), .int .u64 ((S.tcb x).m0), .int .u64 ((S.tcb x).m1), .int .u64 ((S.tcb x).m2), .int .u64 ((S.tcb x).m3), .int .u8 ((S.tcb x).len), .int .u8 ((S.tcb x).got), .int .u32 ((S.tcb x).xfer), .int .u32 ((S.tcb x).dst), .bool ((S.tcb x).grant), .bool ((S.tcb x).call)], .bool true]) (T' := [(103, .tuple #[.agg #[.int .u8 1, .int .u8 ((S.tcb x).prio), .int .u16 0, .int .u32 0, .int .u16 ((S.tcb x).cs.idx), .int .u32 ((S.tcb x).cs.gen), .int .u16 ((S.tcb x).rep.idx), .int .u32 ((S.tcb x).rep.gen), .int .u64 ((S.tcb x).badge), .int .u64 ((S.tcb x).m0), .int .u64 ((S.tcb x).m1), .int .u64 ((S.tcb x).m2), .int .u64 ((S.tcb x).m3), .int .u8 ((S.tcb x).len), .int .u8 ((S.tcb x).got), .int .u32 ((S.tcb x).xfer), .int .u32 ((S.tcb x).dst), .bool ((S.tcb x).grant), .bool ((S.tcb x).call)], .bool true]), (18, .pointer (some ⟨b401, 0, none⟩)), (94, .slice (some ⟨rb390, 0, none⟩) ((liveP E 3 256).length) c368), (0, .pointer (some ⟨kb, 0, none⟩)), (2, .bool false), (3, .map (some m1)), (4, .map (some m2)), (8, .pointer (some ⟨bo, 0, none⟩)), (95, .int .i64 (((liveP E 3 256).length : Nat) : Int)), (96, .int .i64 j), (16, .int .i64 n), (101, .pointer (some ⟨kb, 0, none⟩)), (102, .agg #[.int .u16 ((refP E (x : Int)).idx), .int .u32 ((refP E (x : Int)).gen)])]) rfl
          clear h411
          refine nd_batch tabOk tabZ_ok [(3, {}), (4, {}), (5, {})] [18, 94, 0, 2, 3, 4, 8, 95, 96, 16, 104, 105] (T' := [(18, .pointer (some ⟨b401, 0, none⟩)), (94, .slice (some ⟨rb390, 0, none⟩) ((liveP E 3 256).length) c368), (0, .pointer (some ⟨kb, 0, none⟩)), (2, .bool false), (3, .map (some m1)), (4, .map (some m2)), (8, .pointer (some ⟨bo, 0, none⟩)), (95, .int .i64 (((liveP E 3 256).length : Nat) : Int)), (96, .int .i64 j), (16, .int .i64 n), (104, .agg #[.int .u8 1, .int .u8 ((S.tcb x).prio), .int .u16 0, .int .u32 0, .int .u16 ((S.tcb x).cs.idx), .int .u32 ((S.tcb x).cs.gen), .int .u16 ((S.tcb x).rep.idx), .int .u32 ((S.tcb x).rep.gen), .int .u64 ((S.tcb x).badge), .int .u64 ((S.tcb x).m0), .int .u64 ((S.tcb x).m1), .int .u64 ((S.tcb x).m2), .int .u64 ((S.tcb x).m3), .int .u8 ((S.tcb x).len), .int .u8 ((S.tcb x).got), .int .u32 ((S.tcb x).xfer), .int .u32 ((S.tcb x).dst), .bool ((S.tcb x).grant), .bool ((S.tcb x).call)]), (105, .bool true)]) (φ := True) (rest := [6, 7, 8]) h460 (by kernel_rfl) rfl trivial fun a462 h463 => ?_
          clear h460
          refine nd_op ?_
          refine op_new tabOk (cells := [.int .u8 0, .int .u8 0, .int .u16 0, .int .u32 0, .int .u16 0, .int .u32 0, .int .u16 0, .int .u32 0, .int .u64 0, .int .u64 0, .int .u64 0, .int .u64 0, .int .u64 0, .int .u8 0, .int .u8 0, .int .u32 0, .int .u32 0, .bool false, .bool false]) (ty := 59) (ln := none) (L1 := fun b464 => [(kb, ⟨kC bo bc S, 90, true⟩), (bo, ⟨stC E, 131, true⟩), (0, ⟨[.int .u16 0, .int .u32 0], ty0, true⟩), (rb390, ⟨cs391, 39, true⟩), (b401, ⟨[.int .u16 ((refP E (x : Int)).idx), .int .u32 ((refP E (x : Int)).gen)], 39, false⟩), (b464, ⟨[.int .u8 0, .int .u8 0, .int .u16 0, .int .u32 0, .int .u16 0, .int .u32 0, .int .u16 0, .int .u32 0, .int .u64 0, .int .u64 0, .int .u64 0, .int .u64 0, .int .u64 0, .int .u8 0, .int .u8 0, .int .u32 0, .int .u32 0, .bool false, .bool false], 59, false⟩)]) h463 rfl rfl rfl rfl (by kernel_rfl) (fun _ => rfl) fun b464 w465 a466 h467 hf468 hn469 => ?_
          clear h463
          refine nd_op ?_
          refine op_store tabOk {k := 5} (L' := [(kb, ⟨kC bo bc S, 90, true⟩), (bo, ⟨stC E, 131, true⟩), (0, ⟨[.int .u16 0, .int .u32 0], ty0, true⟩), (rb390, ⟨cs391, 39, true⟩), (b401, ⟨[.int .u16 ((refP E (x : Int)).idx), .int .u32 ((refP E (x : Int)).gen)], 39, false⟩), (b464, ⟨[.int .u8 1, .int .u8 ((S.tcb x).prio), .int .u16 0, .int .u32 0, .int .u16 ((S.tcb x).cs.idx), .int .u32 ((S.tcb x).cs.gen), .int .u16 ((S.tcb x).rep.idx), .int .u32 ((S.tcb x).rep.gen), .int .u64 ((S.tcb x).badge), .int .u64 ((S.tcb x).m0), .int .u64 ((S.tcb x).m1), .int .u64 ((S.tcb x).m2), .int .u64 ((S.tcb x).m3), .int .u8 ((S.tcb x).len), .int .u8 ((S.tcb x).got), .int .u32 ((S.tcb x).xfer), .int .u32 ((S.tcb x).dst), .bool ((S.tcb x).grant), .bool ((S.tcb x).call)], 59, false⟩)]) (φ := b464 = b464 ∧ Nat.ble (0 + 19) 19 = true) h467 rfl rfl rfl (by kernel_rfl) ⟨rfl, rfl⟩ fun w470 h471 => ?_
          clear h467
          refine nd_batch tabOk tabZ_ok [(8, {})] [19, 18, 94, 0, 2, 3, 4, 8, 95, 96, 16] (T' := [(19, .pointer (some ⟨b464, 0, none⟩)), (18, .pointer (some ⟨b401, 0, none⟩)), (94, .slice (some ⟨rb390, 0, none⟩) ((liveP E 3 256).length) c368), (0, .pointer (some ⟨kb, 0, none⟩)), (2, .bool false), (3, .map (some m1)), (4, .map (some m2)), (8, .pointer (some ⟨bo, 0, none⟩)), (95, .int .i64 (((liveP E 3 256).length : Nat) : Int)), (96, .int .i64 j), (16, .int .i64 n)]) (φ := True) (rest := []) h471 (by kernel_rfl) rfl trivial fun a472 h473 => ?_
          clear h471
          refine nd_done ?_
          refine hK409 _ _ ?_
          clear hK409
          refine wp_seq_k fun K474 hK474 => ?_
          refine nd_start (l := [0, 1, 2, 3]) rfl ?_
          refine nd_batch tabOk tabZ_ok [(0, {}), (1, {k := 4})] [19, 18, 94, 0, 2, 3, 4, 8, 95, 96, 16, 106, 107] (T' := [(19, .pointer (some ⟨b464, 0, none⟩)), (18, .pointer (some ⟨b401, 0, none⟩)), (94, .slice (some ⟨rb390, 0, none⟩) ((liveP E 3 256).length) c368), (0, .pointer (some ⟨kb, 0, none⟩)), (2, .bool false), (3, .map (some m1)), (4, .map (some m2)), (8, .pointer (some ⟨bo, 0, none⟩)), (95, .int .i64 (((liveP E 3 256).length : Nat) : Int)), (96, .int .i64 j), (16, .int .i64 n), (106, .map (some m1)), (107, .agg #[.int .u16 ((refP E (x : Int)).idx), .int .u32 ((refP E (x : Int)).gen)])]) (φ := (b401 = b401 ∧ Nat.ble (0 + 2) 2 = true) ∧ True) (rest := [2, 3]) h473 (by kernel_rfl) rfl ⟨⟨rfl, rfl⟩, trivial⟩ fun a475 h476 => ?_
          clear h473
          refine nd_op ?_
          refine op_plLook (e := (⟨x, zRf, eo, ecp, eF, eb⟩ : Pe)) (pre := pre) (post := post) h476 rfl rfl rfl rfl rfl (by rw [← hps]; exact (h476.inv.get (j := 0) (p := pPl m1 c1 E ps) rfl)) hx256 hpre ?_
          have h477 := (h476).put (d := some 108) (v := .slice eo 1 ecp) (T' := [(108, .slice eo 1 ecp), (19, .pointer (some ⟨b464, 0, none⟩)), (18, .pointer (some ⟨b401, 0, none⟩)), (94, .slice (some ⟨rb390, 0, none⟩) ((liveP E 3 256).length) c368), (0, .pointer (some ⟨kb, 0, none⟩)), (2, .bool false), (3, .map (some m1)), (4, .map (some m2)), (8, .pointer (some ⟨bo, 0, none⟩)), (95, .int .i64 (((liveP E 3 256).length : Nat) : Int)), (96, .int .i64 j), (16, .int .i64 n), (106, .map (some m1)), (107, .agg #[.int .u16 ((refP E (x : Int)).idx), .int .u32 ((refP E (x : Int)).gen)])]) rfl
          have hszh477 : w.heap.size ≤ _ := h476.frame.size
          clear h476
          refine nd_batch tabOk tabZ_ok [(3, {})] [19, 18, 94, 0, 2, 3, 4, 8, 95, 96, 16, 21] (T' := [(19, .pointer (some ⟨b464, 0, none⟩)), (18, .pointer (some ⟨b401, 0, none⟩)), (94, .slice (some ⟨rb390, 0, none⟩) ((liveP E 3 256).length) c368), (0, .pointer (some ⟨kb, 0, none⟩)), (2, .bool false), (3, .map (some m1)), (4, .map (some m2)), (8, .pointer (some ⟨bo, 0, none⟩)), (95, .int .i64 (((liveP E 3 256).length : Nat) : Int)), (96, .int .i64 j), (16, .int .i64 n), (21, .slice eo 1 ecp)]) (φ := True) (rest := []) h477 (by kernel_rfl) rfl trivial fun a478 h479 => ?_
          clear h477
          refine nd_done ?_
          refine hK474 _ _ ?_
          clear hK474
          refine wp_seq_k fun K480 hK480 => ?_
          refine nd_start (l := [0, 1, 2]) rfl ?_
          refine nd_batch tabOk tabZ_ok [(0, {}), (1, {k := 4})] [19, 18, 94, 0, 2, 3, 4, 8, 95, 96, 16, 21, 109, 110] (T' := [(19, .pointer (some ⟨b464, 0, none⟩)), (18, .pointer (some ⟨b401, 0, none⟩)), (94, .slice (some ⟨rb390, 0, none⟩) ((liveP E 3 256).length) c368), (0, .pointer (some ⟨kb, 0, none⟩)), (2, .bool false), (3, .map (some m1)), (4, .map (some m2)), (8, .pointer (some ⟨bo, 0, none⟩)), (95, .int .i64 (((liveP E 3 256).length : Nat) : Int)), (96, .int .i64 j), (16, .int .i64 n), (21, .slice eo 1 ecp), (109, .map (some m1)), (110, .agg #[.int .u16 ((refP E (x : Int)).idx), .int .u32 ((refP E (x : Int)).gen)])]) (φ := (b401 = b401 ∧ Nat.ble (0 + 2) 2 = true) ∧ True) (rest := [2]) h479 (by kernel_rfl) rfl ⟨⟨rfl, rfl⟩, trivial⟩ fun a481 h482 => ?_
          clear h479
          refine nd_op ?_
          refine op_plDel (e := (⟨x, zRf, eo, ecp, eF, eb⟩ : Pe)) (pre := pre) (post := post) h482 rfl rfl rfl rfl rfl (by rw [← hps]; exact (h482.inv.get (j := 0) (p := pPl m1 c1 E ps) rfl)) hx256 hpre ?_
          intro w483 hp484 hr486 hf485
          have hq487 := pl_part (mb := m1) (pre := pre) (post := post) (e := (⟨x, zRf, eo, ecp, eF, eb⟩ : Pe)) (by rw [← hps]; exact ((h482.inv.get (j := 0) (p := pPl m1 c1 E ps) rfl)).nd)
          rw [← hps] at hq487
          have h488 := (St.pcPart h482 (j := 0) (p := pPl m1 c1 E ps) (p' := pPl m1 c1 E (pre ++ post)) (q := pRow (rl rfC 39 2 ([zRf]) eo ecp eF)) (ps' := [pPl m1 c1 E (pre ++ post), pPr m2 c2 E qs, pRow (rl rfC 39 2 (liveP E 3 256) (some ⟨rb390, 0, none⟩) c368 ([rb390])), pRow (rl rfC 39 2 ([zRf]) eo ecp eF)]) rfl (hp484.ok) (pRow_ok hr486) hq487.1 hq487.2.1 hq487.2.2 hf485 (fun b hb => by simp at hb; rw [hb]; exact List.mem_cons_self ..) (kcons (fun _ => (fun hq => by have := h482.inv.newOf (j := 0) (p := pPl m1 c1 E ps) rfl kb hq; omega)) (kcons (fun _ => (fun hq => by have := h482.inv.newOf (j := 0) (p := pPl m1 c1 E ps) rfl bo hq; omega)) (kcons (fun _ => (fun hq => by have := h482.inv.newOf (j := 0) (p := pPl m1 c1 E ps) rfl 0 hq; omega)) (kcons (fun _ => (fun hq => Pf_nodup h482.inv.nd (i := 2) (j := 0) (x := pRow (rl rfC 39 2 (liveP E 3 256) (some ⟨rb390, 0, none⟩) c368 ([rb390]))) (y := pPl m1 c1 E ps) rfl rfl (by decide) rb390 (by simp [pRow, rl]) hq)) (kcons (by intro hq; cases hq) (kcons (by intro hq; cases hq) knil)))))) rfl).put (d := none) (v := .tuple #[]) (T' := [(19, .pointer (some ⟨b464, 0, none⟩)), (18, .pointer (some ⟨b401, 0, none⟩)), (94, .slice (some ⟨rb390, 0, none⟩) ((liveP E 3 256).length) c368), (0, .pointer (some ⟨kb, 0, none⟩)), (2, .bool false), (3, .map (some m1)), (4, .map (some m2)), (8, .pointer (some ⟨bo, 0, none⟩)), (95, .int .i64 (((liveP E 3 256).length : Nat) : Int)), (96, .int .i64 j), (16, .int .i64 n), (21, .slice eo 1 ecp), (109, .map (some m1)), (110, .agg #[.int .u16 ((refP E (x : Int)).idx), .int .u32 ((refP E (x : Int)).gen)])]) rfl
          have hszh488 : w.heap.size ≤ _ := h482.frame.size
          clear h482
          obtain ⟨rb489, cs490, ho492, hb491, hrd494, hF493, _⟩ := rl_open (h488.inv.get (j := 3) (p := pRow (rl rfC 39 2 ([zRf]) eo ecp eF)) rfl) rfC_len hr0
          subst ho492 hF493
          have h495 := h488.open_ hb491 (h488.notinL (by simp [Pf, pRow, rl]) (kcons (fun _ e => by have := h488.inv.newOf (j := 3) (p := pRow (rl rfC 39 2 ([zRf]) (some ⟨rb489, 0, none⟩) ecp ([rb489]))) rfl rb489 (by simp [pRow, rl]); omega) (kcons (fun _ e => by have := h488.inv.newOf (j := 3) (p := pRow (rl rfC 39 2 ([zRf]) (some ⟨rb489, 0, none⟩) ecp ([rb489]))) rfl rb489 (by simp [pRow, rl]); omega) (kcons (fun _ e => by have := h488.inv.newOf (j := 3) (p := pRow (rl rfC 39 2 ([zRf]) (some ⟨rb489, 0, none⟩) ecp ([rb489]))) rfl rb489 (by simp [pRow, rl]); omega) (kcons (fun _ e => (fun hq => Pf_nodup h488.inv.nd (i := 2) (j := 3) (x := pRow (rl rfC 39 2 (liveP E 3 256) (some ⟨rb390, 0, none⟩) c368 ([rb390]))) (y := pRow (rl rfC 39 2 ([zRf]) (some ⟨rb489, 0, none⟩) ecp ([rb489]))) rfl rfl (by decide) rb390 (by simp [pRow, rl]) hq) (by first | (have e9 : rb390 = rb489 := e; simp [pRow, rl, e9]) | (have e9 : rb489 = rb390 := e; simp [pRow, rl, e9]))) (kcons (by intro hq; cases hq) (kcons (by intro hq; cases hq) knil)))))))
          clear h488
          refine nd_done ?_
          refine hK480 _ _ ?_
          clear hK480
          refine wp_seq_k fun K496 hK496 => ?_
          refine nd_start (l := [0]) rfl ?_
          refine nd_batch tabOk tabZ_ok [(0, {})] [19, 18, 94, 0, 2, 3, 4, 8, 95, 96, 16, 21, 22] (T' := [(19, .pointer (some ⟨b464, 0, none⟩)), (18, .pointer (some ⟨b401, 0, none⟩)), (94, .slice (some ⟨rb390, 0, none⟩) ((liveP E 3 256).length) c368), (0, .pointer (some ⟨kb, 0, none⟩)), (2, .bool false), (3, .map (some m1)), (4, .map (some m2)), (8, .pointer (some ⟨bo, 0, none⟩)), (95, .int .i64 (((liveP E 3 256).length : Nat) : Int)), (96, .int .i64 j), (16, .int .i64 n), (21, .slice (some ⟨rb489, 0, none⟩) 1 ecp), (22, .bool false)]) (φ := True) (rest := []) h495 (by kernel_rfl) rfl trivial fun a497 h498 => ?_
          clear h495
          refine nd_done ?_
          refine hK496 _ _ ?_
          clear hK496
          refine wp_seq_k fun K499 hK499 => ?_
          refine wp_seq_k fun K500 hK500 => ?_
          refine nd_start (l := [0, 1]) rfl ?_
          refine nd_batch tabOk tabZ_ok [(0, {}), (1, {k := 5})] [19, 18, 94, 0, 2, 3, 4, 8, 95, 96, 16, 21, 22, 112] (T' := [(19, .pointer (some ⟨b464, 0, none⟩)), (18, .pointer (some ⟨b401, 0, none⟩)), (94, .slice (some ⟨rb390, 0, none⟩) ((liveP E 3 256).length) c368), (0, .pointer (some ⟨kb, 0, none⟩)), (2, .bool false), (3, .map (some m1)), (4, .map (some m2)), (8, .pointer (some ⟨bo, 0, none⟩)), (95, .int .i64 (((liveP E 3 256).length : Nat) : Int)), (96, .int .i64 j), (16, .int .i64 n), (21, .slice (some ⟨rb489, 0, none⟩) 1 ecp), (22, .bool false), (112, .int .u8 1)]) (φ := (b464 = b464 ∧ Nat.ble (0 + 1) 19 = true) ∧ True) (rest := []) h498 (by kernel_rfl) rfl ⟨⟨rfl, rfl⟩, trivial⟩ fun a501 h502 => ?_
          clear h498
          refine nd_done ?_
          refine hK500 _ _ ?_
          clear hK500
          refine wp_block ?_
          refine wp_seq_k fun K503 hK503 => ?_
          refine nd_start (l := [0, 1]) rfl ?_
          refine nd_batch tabOk tabZ_ok [(0, {}), (1, {})] [19, 18, 94, 0, 2, 3, 4, 8, 95, 96, 16, 21, 22, 112, 113] (T' := [(19, .pointer (some ⟨b464, 0, none⟩)), (18, .pointer (some ⟨b401, 0, none⟩)), (94, .slice (some ⟨rb390, 0, none⟩) ((liveP E 3 256).length) c368), (0, .pointer (some ⟨kb, 0, none⟩)), (2, .bool false), (3, .map (some m1)), (4, .map (some m2)), (8, .pointer (some ⟨bo, 0, none⟩)), (95, .int .i64 (((liveP E 3 256).length : Nat) : Int)), (96, .int .i64 j), (16, .int .i64 n), (21, .slice (some ⟨rb489, 0, none⟩) 1 ecp), (22, .bool false), (112, .int .u8 1), (113, .bool false)]) (φ := True) (rest := []) h502 (by kernel_rfl) rfl trivial fun a504 h505 => ?_
          clear h502
          refine nd_done ?_
          refine hK503 _ _ ?_
          clear hK503
          refine c_false h505 rfl ?_
          refine wp_seq_k fun K506 hK506 => ?_
          refine nd_start (l := [0, 1]) rfl ?_
          refine nd_batch tabOk tabZ_ok [(0, {}), (1, {})] [19, 18, 94, 0, 2, 3, 4, 8, 95, 96, 16, 21, 22, 112, 124] (T' := [(19, .pointer (some ⟨b464, 0, none⟩)), (18, .pointer (some ⟨b401, 0, none⟩)), (94, .slice (some ⟨rb390, 0, none⟩) ((liveP E 3 256).length) c368), (0, .pointer (some ⟨kb, 0, none⟩)), (2, .bool false), (3, .map (some m1)), (4, .map (some m2)), (8, .pointer (some ⟨bo, 0, none⟩)), (95, .int .i64 (((liveP E 3 256).length : Nat) : Int)), (96, .int .i64 j), (16, .int .i64 n), (21, .slice (some ⟨rb489, 0, none⟩) 1 ecp), (22, .bool false), (112, .int .u8 1), (124, .bool false)]) (φ := True) (rest := []) h505 (by kernel_rfl) rfl trivial fun a507 h508 => ?_
          clear h505
          refine nd_done ?_
          refine hK506 _ _ ?_
          clear hK506
          refine c_false h508 rfl ?_
          refine wp_seq_k fun K509 hK509 => ?_
          refine nd_start (l := [0, 1]) rfl ?_
          refine nd_batch tabOk tabZ_ok [(0, {}), (1, {})] [19, 18, 94, 0, 2, 3, 4, 8, 95, 96, 16, 21, 22, 112, 143] (T' := [(19, .pointer (some ⟨b464, 0, none⟩)), (18, .pointer (some ⟨b401, 0, none⟩)), (94, .slice (some ⟨rb390, 0, none⟩) ((liveP E 3 256).length) c368), (0, .pointer (some ⟨kb, 0, none⟩)), (2, .bool false), (3, .map (some m1)), (4, .map (some m2)), (8, .pointer (some ⟨bo, 0, none⟩)), (95, .int .i64 (((liveP E 3 256).length : Nat) : Int)), (96, .int .i64 j), (16, .int .i64 n), (21, .slice (some ⟨rb489, 0, none⟩) 1 ecp), (22, .bool false), (112, .int .u8 1), (143, .bool true)]) (φ := True) (rest := []) h508 (by kernel_rfl) rfl trivial fun a510 h511 => ?_
          clear h508
          refine nd_done ?_
          refine hK509 _ _ ?_
          clear hK509
          refine c_true h511 rfl ?_
          refine dr_start (KB := [kb, bo, 0, rb390, b401, b464, rb489]) (Bi := [[0, 1, 2, 3, 4, 5, 6], [0, 1, 2, 3, 4, 5, 6], [0, 1, 2, 3, 4, 5, 6], [0, 1, 2, 3, 4, 5, 6], [0, 1, 2, 3, 4, 5, 6], [0, 1, 2, 3, 4, 5, 6], [0, 1, 2, 3, 4, 5, 6], [0, 1, 2, 3, 4, 5, 6], [0, 1, 2, 3, 4, 5, 6], [0, 1, 2, 3, 4, 5, 6], [0, 1, 2, 3, 4, 5, 6], [0, 1, 2, 3, 4, 5, 6], [0, 1, 2, 3, 4, 5, 6], [0, 1, 2, 3, 4, 5, 6], [0, 1, 2, 3, 4, 5, 6], [0, 1, 2, 3, 4, 5, 6], [0, 1, 2, 3, 4, 5, 6], [0, 1, 2, 3, 4, 5, 6], [0, 1, 2, 3, 4, 5, 6], [5], [0, 1, 2, 3, 4, 5, 6], [0, 1, 2, 3, 4, 5, 6], [0, 1, 2, 3, 4, 5, 6], [0, 1, 2, 3, 4, 5, 6], [0, 1, 2, 3, 4, 5, 6], [0, 1, 2, 3, 4, 5, 6]]) mixed h511 fun w512 h513 => ?_
          clear h511
          refine dr_batch tabOk tabZ_ok (by repeat (first | with_reducible exact PF.body | with_reducible apply PF.inB | with_reducible apply PF.next)) [(0, {}), (1, {}), (2, {}), (3, {}), (4, {}), (5, {}), (6, {k := 6, m := 1, vs := [.int .u16 0, .int .u32 0], p := 6}), (7, {k := 2, p := 2}), (8, {f := 2}), (9, {}), (10, {}), (11, {}), (12, {k := 5, p := 5}), (13, {k := 2, p := 2}), (14, {f := 2}), (15, {}), (16, {}), (17, {}), (18, {k := 4, p := 4}), (20, {}), (21, {k := 5, p := 5}), (22, {})] [19, 18, 94, 0, 2, 3, 4, 8, 95, 96, 16, 21, 22, 112, 161, 162, 163, 167] (T' := [(19, .pointer (some ⟨b464, 0, none⟩)), (18, .pointer (some ⟨b401, 0, none⟩)), (94, .slice (some ⟨rb390, 0, none⟩) ((liveP E 3 256).length) c368), (0, .pointer (some ⟨kb, 0, none⟩)), (2, .bool false), (3, .map (some m1)), (4, .map (some m2)), (8, .pointer (some ⟨bo, 0, none⟩)), (95, .int .i64 (((liveP E 3 256).length : Nat) : Int)), (96, .int .i64 j), (16, .int .i64 n), (21, .slice (some ⟨rb489, 0, none⟩) 1 ecp), (22, .bool false), (112, .int .u8 1), (161, .bool true), (162, .map (some m2)), (163, .agg #[.int .u16 ((refP E (x : Int)).idx), .int .u32 ((refP E (x : Int)).gen)]), (167, .int .i64 ((S.tcb x).prio))]) (φ := (0 ≤ (0 : Int) ∧ (0 : Int) < 1) ∧ (rb489 = rb489 ∧ cellsAre cs490 0 [.int .u16 0, .int .u32 0]) ∧ (0 = 0 ∧ Nat.ble (0 + 2) 2 = true) ∧ EqRun Tryd.prog 39 (.agg #[.int .u16 0, .int .u32 0]) (.agg #[.int .u16 0, .int .u32 0]) true ∧ (b464 = b464 ∧ Nat.ble (2 + 2) 19 = true) ∧ (0 = 0 ∧ Nat.ble (0 + 2) 2 = true) ∧ EqRun Tryd.prog 39 (.agg #[.int .u16 0, .int .u32 0]) (.agg #[.int .u16 0, .int .u32 0]) true ∧ (b401 = b401 ∧ Nat.ble (0 + 2) 2 = true) ∧ (b464 = b464 ∧ Nat.ble (1 + 1) 19 = true) ∧ inR .i64 ((S.tcb x).prio) ∧ True) (fuel := 4) h513 (by kernel_rfl) rfl (by kernel_rfl) (by kernel_rfl) ⟨trivial, trivial, trivial, trivial, trivial, trivial, rfl, rfl, trivial, trivial, trivial, trivial, rfl, rfl, trivial, trivial, trivial, trivial, rfl, trivial, rfl, trivial, trivial⟩ ⟨⟨by decide, by decide⟩, ⟨rfl, (by exact hrd494)⟩, ⟨rfl, rfl⟩, (runRfS ⟨0, 0⟩), ⟨rfl, rfl⟩, ⟨rfl, rfl⟩, (runRfS ⟨0, 0⟩), ⟨rfl, rfl⟩, ⟨rfl, rfl⟩, ⟨by omega, by omega⟩, trivial⟩ fun a515 h516 => ?_
          clear h513
          refine wpAnyK_one (i := 19) (fuel := 3) (by kernel_rfl) ?_
          refine op_prLook (e1 := ⟨x, (S.tcb x).prio, qb⟩) (pr1 := qpre) (po1 := qpost) h516 rfl rfl rfl rfl rfl (by rw [← hqs2]; exact (h516.inv.get (j := 1) (p := pPr m2 c2 E qs) rfl)) hx256 hqpre ?_
          have h517 := (h516).put (d := some 164) (v := .int .i64 ((S.tcb x).prio)) (T' := [(164, .int .i64 ((S.tcb x).prio)), (19, .pointer (some ⟨b464, 0, none⟩)), (18, .pointer (some ⟨b401, 0, none⟩)), (94, .slice (some ⟨rb390, 0, none⟩) ((liveP E 3 256).length) c368), (0, .pointer (some ⟨kb, 0, none⟩)), (2, .bool false), (3, .map (some m1)), (4, .map (some m2)), (8, .pointer (some ⟨bo, 0, none⟩)), (95, .int .i64 (((liveP E 3 256).length : Nat) : Int)), (96, .int .i64 j), (16, .int .i64 n), (21, .slice (some ⟨rb489, 0, none⟩) 1 ecp), (22, .bool false), (112, .int .u8 1), (161, .bool true), (162, .map (some m2)), (163, .agg #[.int .u16 ((refP E (x : Int)).idx), .int .u32 ((refP E (x : Int)).gen)]), (167, .int .i64 ((S.tcb x).prio))]) rfl
          have hkh517 := h516.known
          refine ⟨(keepOf hkh517 h517.known (kcons (keepAt (q := 5) (q' := 5) rfl rfl) knil)), ?_⟩
          have hszh517 : w.heap.size ≤ _ := h516.frame.size
          clear h516
          refine dr_batch tabOk tabZ_ok (by repeat (first | with_reducible exact PF.body | with_reducible apply PF.inB | with_reducible apply PF.next)) [(23, {f := 2}), (24, {}), (25, {})] [19, 18, 94, 0, 2, 3, 4, 8, 95, 96, 16, 21, 112, 22] (T' := [(19, .pointer (some ⟨b464, 0, none⟩)), (18, .pointer (some ⟨b401, 0, none⟩)), (94, .slice (some ⟨rb390, 0, none⟩) ((liveP E 3 256).length) c368), (0, .pointer (some ⟨kb, 0, none⟩)), (2, .bool false), (3, .map (some m1)), (4, .map (some m2)), (8, .pointer (some ⟨bo, 0, none⟩)), (95, .int .i64 (((liveP E 3 256).length : Nat) : Int)), (96, .int .i64 j), (16, .int .i64 n), (21, .slice (some ⟨rb489, 0, none⟩) 1 ecp), (112, .int .u8 1), (22, .bool true)]) (φ := (((S.tcb x).prio == (S.tcb x).prio)) = true ∧ True) (fuel := 0) h517 (by kernel_rfl) rfl (by kernel_rfl) (by kernel_rfl) ⟨trivial, trivial, trivial, trivial⟩ ⟨(by simp), trivial⟩ fun a518 h519 => ?_
          clear h517
          refine wpAnyK_done (by kernel_rfl) ?_ _
          refine hK499 _ _ ?_
          clear hK499
          refine wp_seq_k fun K520 hK520 => ?_
          refine nd_start (l := [0, 1]) rfl ?_
          refine nd_batch tabOk tabZ_ok [(0, {}), (1, {})] [19, 18, 94, 0, 2, 3, 4, 8, 95, 96, 16, 21, 112, 22, 224] (T' := [(19, .pointer (some ⟨b464, 0, none⟩)), (18, .pointer (some ⟨b401, 0, none⟩)), (94, .slice (some ⟨rb390, 0, none⟩) ((liveP E 3 256).length) c368), (0, .pointer (some ⟨kb, 0, none⟩)), (2, .bool false), (3, .map (some m1)), (4, .map (some m2)), (8, .pointer (some ⟨bo, 0, none⟩)), (95, .int .i64 (((liveP E 3 256).length : Nat) : Int)), (96, .int .i64 j), (16, .int .i64 n), (21, .slice (some ⟨rb489, 0, none⟩) 1 ecp), (112, .int .u8 1), (22, .bool true), (224, .bool false)]) (φ := True) (rest := []) h519 (by kernel_rfl) rfl trivial fun a521 h522 => ?_
          clear h519
          refine nd_done ?_
          refine hK520 _ _ ?_
          clear hK520
          refine c_false h522 rfl ?_
          refine wp_skip ?_
          refine hK397 _ _ ?_
          clear hK397
          refine nd_start (l := [0, 1]) rfl ?_
          refine nd_batch tabOk tabZ_ok [(0, {}), (1, {})] [19, 18, 94, 0, 2, 3, 4, 8, 95, 16, 21, 112, 22, 96] (T' := [(19, .pointer (some ⟨b464, 0, none⟩)), (18, .pointer (some ⟨b401, 0, none⟩)), (94, .slice (some ⟨rb390, 0, none⟩) ((liveP E 3 256).length) c368), (0, .pointer (some ⟨kb, 0, none⟩)), (2, .bool false), (3, .map (some m1)), (4, .map (some m2)), (8, .pointer (some ⟨bo, 0, none⟩)), (95, .int .i64 (((liveP E 3 256).length : Nat) : Int)), (16, .int .i64 n), (21, .slice (some ⟨rb489, 0, none⟩) 1 ecp), (112, .int .u8 1), (22, .bool true), (96, .int .i64 (j + 1))]) (φ := inR .i64 (j + 1) ∧ True) (rest := []) h522 (by kernel_rfl) rfl ⟨⟨by omega, by omega⟩, trivial⟩ fun a523 h524 => ?_
          clear h522
          refine nd_done ?_
          have h525 := h524.memMono (L' := [(kb, ⟨kC bo bc S, 90, true⟩), (bo, ⟨stC E, 131, true⟩), (0, ⟨[.int .u16 0, .int .u32 0], ty0, true⟩)]) (List.Sublist.cons_cons _ (List.Sublist.cons_cons _ (List.Sublist.cons_cons _ (List.Sublist.cons _ (List.Sublist.cons _ (List.Sublist.cons _ (List.Sublist.cons _ List.Sublist.slnil)))))))
          clear h524
          have h526 := h525.pcSub (ps' := [pPl m1 c1 E (pre ++ post), pPr m2 c2 E qs, pRow (rl rfC 39 2 (liveP E 3 256) (some ⟨rb390, 0, none⟩) c368 ([rb390]))]) (List.Sublist.cons_cons _ (List.Sublist.cons_cons _ (List.Sublist.cons_cons _ (List.Sublist.cons _ List.Sublist.slnil))))
          clear h525
          exact ⟨(g - 1), by omega, (pre ++ post), (j + 1), n, by omega, ⟨by omega, by omega⟩, (by rw [show (j + 1).toNat = j.toNat + 1 by omega]; exact hP3'), (by rw [show (j + 1).toNat = j.toNat + 1 by omega]; exact hRn'), (h526.slotsMono (restr_spec (keep := [94, 0, 2, 3, 4, 8, 95, 96, 16]) rfl))⟩
        ·
          have hwz : (S.tcb x).wait = ⟨0, 0⟩ := xt.idle (by show (S.tcb x).st ≤ 2; omega)
          obtain ⟨hpN, hP3'⟩ := hP3.out hxj (place_none (by omega) hQ)
          obtain ⟨hn0, hcx, hRn'⟩ := hRn.hit hQ hxj hsx
          subst hn0
          refine op_call h411 rfl rfl rfl (callOk Tryd.func25 (by decide) rfl) (args := [.pointer (some ⟨kb, 0, none⟩), .agg #[.int .u16 ((refP E (x : Int)).idx), .int .u32 ((refP E (x : Int)).gen)]]) rfl ((by have hq := threadE kb bo bc S rS h256 (refP E (x : Int)) ⟨by rw [hrx]; omega, by rw [hrx]; omega⟩ _ (heap_fr hb h411.frame) (heap_fr hs h411.frame) hne hthr; unfold thC at hq; rw [hsx] at hq; rw [hwz] at hq; exact hq)) ?_
          rintro _ w527 ⟨rfl, hf529⟩
          refine ⟨_, rfl, ?_⟩
          have h528 := (h411.grow hf529).put (d := some 103) (v := .tuple #[.agg #[.int .u8 2, .int .u8 ((S.tcb x).prio), .int .u16 0, .int .u32 0, .int .u16 ((S.tcb x).cs.idx), .int .u32 ((S.tcb x).cs.gen), .int .u16 ((S.tcb x).rep.idx), .int .u32 ((S.tcb x).rep.gen), .int .u64 ((S.tcb x).badge), .int .u64 ((S.tcb x).m0), .int .u64 ((S.tcb x).m1), .int .u64 ((S.tcb x).m2), .int .u64 ((S.tcb x).m3), .int .u8 ((S.tcb x).len), .int .u8 ((S.tcb x).got), .int .u32 ((S.tcb x).xfer), .int .u32 ((S.tcb x).dst), .bool ((S.tcb x).grant), .bool ((S.tcb x).call)], .bool true]) (T' := [(103, .tuple #[.agg #[.int .u8 2, .int .u8 ((S.tcb x).prio), .int .u16 0, .int .u32 0, .int .u16 ((S.tcb x).cs.idx), .int .u32 ((S.tcb x).cs.gen), .int .u16 ((S.tcb x).rep.idx), .int .u32 ((S.tcb x).rep.gen), .int .u64 ((S.tcb x).badge), .int .u64 ((S.tcb x).m0), .int .u64 ((S.tcb x).m1), .int .u64 ((S.tcb x).m2), .int .u64 ((S.tcb x).m3), .int .u8 ((S.tcb x).len), .int .u8 ((S.tcb x).got), .int .u32 ((S.tcb x).xfer), .int .u32 ((S.tcb x).dst), .bool ((S.tcb x).grant), .bool ((S.tcb x).call)], .bool true]), (18, .pointer (some ⟨b401, 0, none⟩)), (94, .slice (some ⟨rb390, 0, none⟩) ((liveP E 3 256).length) c368), (0, .pointer (some ⟨kb, 0, none⟩)), (2, .bool false), (3, .map (some m1)), (4, .map (some m2)), (8, .pointer (some ⟨bo, 0, none⟩)), (95, .int .i64 (((liveP E 3 256).length : Nat) : Int)), (96, .int .i64 j), (16, .int .i64 0), (101, .pointer (some ⟨kb, 0, none⟩)), (102, .agg #[.int .u16 ((refP E (x : Int)).idx), .int .u32 ((refP E (x : Int)).gen)])]) rfl
          clear h411
          refine nd_batch tabOk tabZ_ok [(3, {}), (4, {}), (5, {})] [18, 94, 0, 2, 3, 4, 8, 95, 96, 16, 104, 105] (T' := [(18, .pointer (some ⟨b401, 0, none⟩)), (94, .slice (some ⟨rb390, 0, none⟩) ((liveP E 3 256).length) c368), (0, .pointer (some ⟨kb, 0, none⟩)), (2, .bool false), (3, .map (some m1)), (4, .map (some m2)), (8, .pointer (some ⟨bo, 0, none⟩)), (95, .int .i64 (((liveP E 3 256).length : Nat) : Int)), (96, .int .i64 j), (16, .int .i64 0), (104, .agg #[.int .u8 2, .int .u8 ((S.tcb x).prio), .int .u16 0, .int .u32 0, .int .u16 ((S.tcb x).cs.idx), .int .u32 ((S.tcb x).cs.gen), .int .u16 ((S.tcb x).rep.idx), .int .u32 ((S.tcb x).rep.gen), .int .u64 ((S.tcb x).badge), .int .u64 ((S.tcb x).m0), .int .u64 ((S.tcb x).m1), .int .u64 ((S.tcb x).m2), .int .u64 ((S.tcb x).m3), .int .u8 ((S.tcb x).len), .int .u8 ((S.tcb x).got), .int .u32 ((S.tcb x).xfer), .int .u32 ((S.tcb x).dst), .bool ((S.tcb x).grant), .bool ((S.tcb x).call)]), (105, .bool true)]) (φ := True) (rest := [6, 7, 8]) h528 (by kernel_rfl) rfl trivial fun a530 h531 => ?_
          clear h528
          refine nd_op ?_
          refine op_new tabOk (cells := [.int .u8 0, .int .u8 0, .int .u16 0, .int .u32 0, .int .u16 0, .int .u32 0, .int .u16 0, .int .u32 0, .int .u64 0, .int .u64 0, .int .u64 0, .int .u64 0, .int .u64 0, .int .u8 0, .int .u8 0, .int .u32 0, .int .u32 0, .bool false, .bool false]) (ty := 59) (ln := none) (L1 := fun b532 => [(kb, ⟨kC bo bc S, 90, true⟩), (bo, ⟨stC E, 131, true⟩), (0, ⟨[.int .u16 0, .int .u32 0], ty0, true⟩), (rb390, ⟨cs391, 39, true⟩), (b401, ⟨[.int .u16 ((refP E (x : Int)).idx), .int .u32 ((refP E (x : Int)).gen)], 39, false⟩), (b532, ⟨[.int .u8 0, .int .u8 0, .int .u16 0, .int .u32 0, .int .u16 0, .int .u32 0, .int .u16 0, .int .u32 0, .int .u64 0, .int .u64 0, .int .u64 0, .int .u64 0, .int .u64 0, .int .u8 0, .int .u8 0, .int .u32 0, .int .u32 0, .bool false, .bool false], 59, false⟩)]) h531 rfl rfl rfl rfl (by kernel_rfl) (fun _ => rfl) fun b532 w533 a534 h535 hf536 hn537 => ?_
          clear h531
          refine nd_op ?_
          refine op_store tabOk {k := 5} (L' := [(kb, ⟨kC bo bc S, 90, true⟩), (bo, ⟨stC E, 131, true⟩), (0, ⟨[.int .u16 0, .int .u32 0], ty0, true⟩), (rb390, ⟨cs391, 39, true⟩), (b401, ⟨[.int .u16 ((refP E (x : Int)).idx), .int .u32 ((refP E (x : Int)).gen)], 39, false⟩), (b532, ⟨[.int .u8 2, .int .u8 ((S.tcb x).prio), .int .u16 0, .int .u32 0, .int .u16 ((S.tcb x).cs.idx), .int .u32 ((S.tcb x).cs.gen), .int .u16 ((S.tcb x).rep.idx), .int .u32 ((S.tcb x).rep.gen), .int .u64 ((S.tcb x).badge), .int .u64 ((S.tcb x).m0), .int .u64 ((S.tcb x).m1), .int .u64 ((S.tcb x).m2), .int .u64 ((S.tcb x).m3), .int .u8 ((S.tcb x).len), .int .u8 ((S.tcb x).got), .int .u32 ((S.tcb x).xfer), .int .u32 ((S.tcb x).dst), .bool ((S.tcb x).grant), .bool ((S.tcb x).call)], 59, false⟩)]) (φ := b532 = b532 ∧ Nat.ble (0 + 19) 19 = true) h535 rfl rfl rfl (by kernel_rfl) ⟨rfl, rfl⟩ fun w538 h539 => ?_
          clear h535
          refine nd_batch tabOk tabZ_ok [(8, {})] [19, 18, 94, 0, 2, 3, 4, 8, 95, 96, 16] (T' := [(19, .pointer (some ⟨b532, 0, none⟩)), (18, .pointer (some ⟨b401, 0, none⟩)), (94, .slice (some ⟨rb390, 0, none⟩) ((liveP E 3 256).length) c368), (0, .pointer (some ⟨kb, 0, none⟩)), (2, .bool false), (3, .map (some m1)), (4, .map (some m2)), (8, .pointer (some ⟨bo, 0, none⟩)), (95, .int .i64 (((liveP E 3 256).length : Nat) : Int)), (96, .int .i64 j), (16, .int .i64 0)]) (φ := True) (rest := []) h539 (by kernel_rfl) rfl trivial fun a540 h541 => ?_
          clear h539
          refine nd_done ?_
          refine hK409 _ _ ?_
          clear hK409
          refine wp_seq_k fun K542 hK542 => ?_
          refine nd_start (l := [0, 1, 2, 3]) rfl ?_
          refine nd_batch tabOk tabZ_ok [(0, {}), (1, {k := 4})] [19, 18, 94, 0, 2, 3, 4, 8, 95, 96, 16, 106, 107] (T' := [(19, .pointer (some ⟨b532, 0, none⟩)), (18, .pointer (some ⟨b401, 0, none⟩)), (94, .slice (some ⟨rb390, 0, none⟩) ((liveP E 3 256).length) c368), (0, .pointer (some ⟨kb, 0, none⟩)), (2, .bool false), (3, .map (some m1)), (4, .map (some m2)), (8, .pointer (some ⟨bo, 0, none⟩)), (95, .int .i64 (((liveP E 3 256).length : Nat) : Int)), (96, .int .i64 j), (16, .int .i64 0), (106, .map (some m1)), (107, .agg #[.int .u16 ((refP E (x : Int)).idx), .int .u32 ((refP E (x : Int)).gen)])]) (φ := (b401 = b401 ∧ Nat.ble (0 + 2) 2 = true) ∧ True) (rest := [2, 3]) h541 (by kernel_rfl) rfl ⟨⟨rfl, rfl⟩, trivial⟩ fun a543 h544 => ?_
          clear h541
          refine nd_op ?_
          refine op_plLookN (t := x) h544 rfl rfl rfl rfl rfl (h544.inv.get (j := 0) (p := pPl m1 c1 E ps) rfl) hx256 hpN ?_
          have h545 := (h544).put (d := some 108) (v := .slice none 0 0) (T' := [(108, .slice none 0 0), (19, .pointer (some ⟨b532, 0, none⟩)), (18, .pointer (some ⟨b401, 0, none⟩)), (94, .slice (some ⟨rb390, 0, none⟩) ((liveP E 3 256).length) c368), (0, .pointer (some ⟨kb, 0, none⟩)), (2, .bool false), (3, .map (some m1)), (4, .map (some m2)), (8, .pointer (some ⟨bo, 0, none⟩)), (95, .int .i64 (((liveP E 3 256).length : Nat) : Int)), (96, .int .i64 j), (16, .int .i64 0), (106, .map (some m1)), (107, .agg #[.int .u16 ((refP E (x : Int)).idx), .int .u32 ((refP E (x : Int)).gen)])]) rfl
          have hszh545 : w.heap.size ≤ _ := h544.frame.size
          clear h544
          refine nd_batch tabOk tabZ_ok [(3, {})] [19, 18, 94, 0, 2, 3, 4, 8, 95, 96, 16, 21] (T' := [(19, .pointer (some ⟨b532, 0, none⟩)), (18, .pointer (some ⟨b401, 0, none⟩)), (94, .slice (some ⟨rb390, 0, none⟩) ((liveP E 3 256).length) c368), (0, .pointer (some ⟨kb, 0, none⟩)), (2, .bool false), (3, .map (some m1)), (4, .map (some m2)), (8, .pointer (some ⟨bo, 0, none⟩)), (95, .int .i64 (((liveP E 3 256).length : Nat) : Int)), (96, .int .i64 j), (16, .int .i64 0), (21, .slice none 0 0)]) (φ := True) (rest := []) h545 (by kernel_rfl) rfl trivial fun a546 h547 => ?_
          clear h545
          refine nd_done ?_
          refine hK542 _ _ ?_
          clear hK542
          refine wp_seq_k fun K548 hK548 => ?_
          refine nd_start (l := [0, 1, 2]) rfl ?_
          refine nd_batch tabOk tabZ_ok [(0, {}), (1, {k := 4})] [19, 18, 94, 0, 2, 3, 4, 8, 95, 96, 16, 21, 109, 110] (T' := [(19, .pointer (some ⟨b532, 0, none⟩)), (18, .pointer (some ⟨b401, 0, none⟩)), (94, .slice (some ⟨rb390, 0, none⟩) ((liveP E 3 256).length) c368), (0, .pointer (some ⟨kb, 0, none⟩)), (2, .bool false), (3, .map (some m1)), (4, .map (some m2)), (8, .pointer (some ⟨bo, 0, none⟩)), (95, .int .i64 (((liveP E 3 256).length : Nat) : Int)), (96, .int .i64 j), (16, .int .i64 0), (21, .slice none 0 0), (109, .map (some m1)), (110, .agg #[.int .u16 ((refP E (x : Int)).idx), .int .u32 ((refP E (x : Int)).gen)])]) (φ := (b401 = b401 ∧ Nat.ble (0 + 2) 2 = true) ∧ True) (rest := [2]) h547 (by kernel_rfl) rfl ⟨⟨rfl, rfl⟩, trivial⟩ fun a549 h550 => ?_
          clear h547
          refine nd_op ?_
          refine op_plDelN (t := x) h550 rfl rfl rfl rfl rfl (h550.inv.get (j := 0) (p := pPl m1 c1 E ps) rfl) hx256 hpN ?_
          intro w551 hp552 hf553
          have h555 := (h550.pcSet (j := 0) (p := pPl m1 c1 E ps) (p' := pPl m1 c1 E ps) (ps' := [pPl m1 c1 E ps, pPr m2 c2 E qs, pRow (rl rfC 39 2 (liveP E 3 256) (some ⟨rb390, 0, none⟩) c368 ([rb390]))]) rfl (hp552.ok) hf553 (fun b hb => by simp at hb; rw [hb]; exact List.mem_cons_self ..) (fun b hb => .inl hb) (kcons (fun _ => (fun hq => by have := h550.inv.newOf (j := 0) (p := pPl m1 c1 E ps) rfl kb hq; omega)) (kcons (fun _ => (fun hq => by have := h550.inv.newOf (j := 0) (p := pPl m1 c1 E ps) rfl bo hq; omega)) (kcons (fun _ => (fun hq => by have := h550.inv.newOf (j := 0) (p := pPl m1 c1 E ps) rfl 0 hq; omega)) (kcons (fun _ => (fun hq => Pf_nodup h550.inv.nd (i := 2) (j := 0) (x := pRow (rl rfC 39 2 (liveP E 3 256) (some ⟨rb390, 0, none⟩) c368 ([rb390]))) (y := pPl m1 c1 E ps) rfl rfl (by decide) rb390 (by simp [pRow, rl]) hq)) (kcons (by intro hq; cases hq) (kcons (by intro hq; cases hq) knil)))))) rfl).put (d := none) (v := .tuple #[]) (T' := [(19, .pointer (some ⟨b532, 0, none⟩)), (18, .pointer (some ⟨b401, 0, none⟩)), (94, .slice (some ⟨rb390, 0, none⟩) ((liveP E 3 256).length) c368), (0, .pointer (some ⟨kb, 0, none⟩)), (2, .bool false), (3, .map (some m1)), (4, .map (some m2)), (8, .pointer (some ⟨bo, 0, none⟩)), (95, .int .i64 (((liveP E 3 256).length : Nat) : Int)), (96, .int .i64 j), (16, .int .i64 0), (21, .slice none 0 0), (109, .map (some m1)), (110, .agg #[.int .u16 ((refP E (x : Int)).idx), .int .u32 ((refP E (x : Int)).gen)])]) rfl
          have hszh555 : w.heap.size ≤ _ := h550.frame.size
          clear h550
          refine nd_done ?_
          refine hK548 _ _ ?_
          clear hK548
          refine wp_seq_k fun K556 hK556 => ?_
          refine nd_start (l := [0]) rfl ?_
          refine nd_batch tabOk tabZ_ok [(0, {})] [19, 18, 94, 0, 2, 3, 4, 8, 95, 96, 16, 21, 22] (T' := [(19, .pointer (some ⟨b532, 0, none⟩)), (18, .pointer (some ⟨b401, 0, none⟩)), (94, .slice (some ⟨rb390, 0, none⟩) ((liveP E 3 256).length) c368), (0, .pointer (some ⟨kb, 0, none⟩)), (2, .bool false), (3, .map (some m1)), (4, .map (some m2)), (8, .pointer (some ⟨bo, 0, none⟩)), (95, .int .i64 (((liveP E 3 256).length : Nat) : Int)), (96, .int .i64 j), (16, .int .i64 0), (21, .slice none 0 0), (22, .bool false)]) (φ := True) (rest := []) h555 (by kernel_rfl) rfl trivial fun a557 h558 => ?_
          clear h555
          refine nd_done ?_
          refine hK556 _ _ ?_
          clear hK556
          refine wp_seq_k fun K559 hK559 => ?_
          refine wp_seq_k fun K560 hK560 => ?_
          refine nd_start (l := [0, 1]) rfl ?_
          refine nd_batch tabOk tabZ_ok [(0, {}), (1, {k := 5})] [19, 18, 94, 0, 2, 3, 4, 8, 95, 96, 16, 21, 22, 112] (T' := [(19, .pointer (some ⟨b532, 0, none⟩)), (18, .pointer (some ⟨b401, 0, none⟩)), (94, .slice (some ⟨rb390, 0, none⟩) ((liveP E 3 256).length) c368), (0, .pointer (some ⟨kb, 0, none⟩)), (2, .bool false), (3, .map (some m1)), (4, .map (some m2)), (8, .pointer (some ⟨bo, 0, none⟩)), (95, .int .i64 (((liveP E 3 256).length : Nat) : Int)), (96, .int .i64 j), (16, .int .i64 0), (21, .slice none 0 0), (22, .bool false), (112, .int .u8 2)]) (φ := (b532 = b532 ∧ Nat.ble (0 + 1) 19 = true) ∧ True) (rest := []) h558 (by kernel_rfl) rfl ⟨⟨rfl, rfl⟩, trivial⟩ fun a561 h562 => ?_
          clear h558
          refine nd_done ?_
          refine hK560 _ _ ?_
          clear hK560
          refine wp_block ?_
          refine wp_seq_k fun K563 hK563 => ?_
          refine nd_start (l := [0, 1]) rfl ?_
          refine nd_batch tabOk tabZ_ok [(0, {}), (1, {})] [19, 18, 94, 0, 2, 3, 4, 8, 95, 96, 16, 21, 22, 112, 113] (T' := [(19, .pointer (some ⟨b532, 0, none⟩)), (18, .pointer (some ⟨b401, 0, none⟩)), (94, .slice (some ⟨rb390, 0, none⟩) ((liveP E 3 256).length) c368), (0, .pointer (some ⟨kb, 0, none⟩)), (2, .bool false), (3, .map (some m1)), (4, .map (some m2)), (8, .pointer (some ⟨bo, 0, none⟩)), (95, .int .i64 (((liveP E 3 256).length : Nat) : Int)), (96, .int .i64 j), (16, .int .i64 0), (21, .slice none 0 0), (22, .bool false), (112, .int .u8 2), (113, .bool false)]) (φ := True) (rest := []) h562 (by kernel_rfl) rfl trivial fun a564 h565 => ?_
          clear h562
          refine nd_done ?_
          refine hK563 _ _ ?_
          clear hK563
          refine c_false h565 rfl ?_
          refine wp_seq_k fun K566 hK566 => ?_
          refine nd_start (l := [0, 1]) rfl ?_
          refine nd_batch tabOk tabZ_ok [(0, {}), (1, {})] [19, 18, 94, 0, 2, 3, 4, 8, 95, 96, 16, 21, 22, 112, 124] (T' := [(19, .pointer (some ⟨b532, 0, none⟩)), (18, .pointer (some ⟨b401, 0, none⟩)), (94, .slice (some ⟨rb390, 0, none⟩) ((liveP E 3 256).length) c368), (0, .pointer (some ⟨kb, 0, none⟩)), (2, .bool false), (3, .map (some m1)), (4, .map (some m2)), (8, .pointer (some ⟨bo, 0, none⟩)), (95, .int .i64 (((liveP E 3 256).length : Nat) : Int)), (96, .int .i64 j), (16, .int .i64 0), (21, .slice none 0 0), (22, .bool false), (112, .int .u8 2), (124, .bool true)]) (φ := True) (rest := []) h565 (by kernel_rfl) rfl trivial fun a567 h568 => ?_
          clear h565
          refine nd_done ?_
          refine hK566 _ _ ?_
          clear hK566
          refine c_true h568 rfl ?_
          refine wp_seq_k fun K569 hK569 => ?_
          refine nd_start (l := [0, 1, 2]) rfl ?_
          refine nd_batch tabOk tabZ_ok [(0, {}), (1, {}), (2, {})] [19, 18, 94, 0, 2, 3, 4, 8, 95, 96, 21, 22, 112, 16] (T' := [(19, .pointer (some ⟨b532, 0, none⟩)), (18, .pointer (some ⟨b401, 0, none⟩)), (94, .slice (some ⟨rb390, 0, none⟩) ((liveP E 3 256).length) c368), (0, .pointer (some ⟨kb, 0, none⟩)), (2, .bool false), (3, .map (some m1)), (4, .map (some m2)), (8, .pointer (some ⟨bo, 0, none⟩)), (95, .int .i64 (((liveP E 3 256).length : Nat) : Int)), (96, .int .i64 j), (21, .slice none 0 0), (22, .bool false), (112, .int .u8 2), (16, .int .i64 1)]) (φ := inR .i64 1 ∧ True) (rest := []) h568 (by kernel_rfl) rfl ⟨⟨by decide, by decide⟩, trivial⟩ fun a570 h571 => ?_
          clear h568
          refine nd_done ?_
          refine hK569 _ _ ?_
          clear hK569
          refine dr_start (KB := [kb, bo, 0, rb390, b401, b532]) (Bi := [[0, 1, 2, 3, 4, 5], [0, 1, 2, 3, 4, 5], [0, 1, 2, 3, 4, 5], [0, 1, 2, 3, 4, 5], [0, 1, 2, 3, 4, 5], [0, 1, 2, 3, 4, 5], [0, 1, 2, 3, 4, 5], [0, 1, 2, 3, 4, 5], [0, 1, 2, 3, 4, 5], [0, 1, 2, 3, 4, 5], [0, 1, 2, 3, 4, 5], [4], [0, 1, 2, 3, 4, 5], [0, 1, 2, 3, 4, 5], [0, 1, 2, 3, 4, 5], [0, 1, 2, 3, 4, 5]]) mixed h571 fun w572 h573 => ?_
          clear h571
          refine dr_batch tabOk tabZ_ok (by repeat (first | with_reducible exact PF.body | with_reducible apply PF.inB | with_reducible apply PF.next)) [(0, {}), (1, {}), (2, {}), (3, {}), (4, {}), (5, {k := 5, p := 5}), (6, {k := 2, p := 2}), (7, {f := 2}), (8, {}), (9, {}), (10, {}), (12, {k := 4, p := 4})] [19, 18, 94, 0, 2, 3, 4, 8, 95, 96, 21, 22, 112, 16, 137, 138, 140] (T' := [(19, .pointer (some ⟨b532, 0, none⟩)), (18, .pointer (some ⟨b401, 0, none⟩)), (94, .slice (some ⟨rb390, 0, none⟩) ((liveP E 3 256).length) c368), (0, .pointer (some ⟨kb, 0, none⟩)), (2, .bool false), (3, .map (some m1)), (4, .map (some m2)), (8, .pointer (some ⟨bo, 0, none⟩)), (95, .int .i64 (((liveP E 3 256).length : Nat) : Int)), (96, .int .i64 j), (21, .slice none 0 0), (22, .bool false), (112, .int .u8 2), (16, .int .i64 1), (137, .bool true), (138, .pointer (some ⟨kb, 0, none⟩)), (140, .agg #[.int .u16 ((refP E (x : Int)).idx), .int .u32 ((refP E (x : Int)).gen)])]) (φ := (b532 = b532 ∧ Nat.ble (2 + 2) 19 = true) ∧ (0 = 0 ∧ Nat.ble (0 + 2) 2 = true) ∧ EqRun Tryd.prog 39 (.agg #[.int .u16 0, .int .u32 0]) (.agg #[.int .u16 0, .int .u32 0]) true ∧ (b401 = b401 ∧ Nat.ble (0 + 2) 2 = true) ∧ True) (fuel := 4) h573 (by kernel_rfl) rfl (by kernel_rfl) (by kernel_rfl) ⟨trivial, trivial, trivial, trivial, trivial, rfl, rfl, trivial, trivial, trivial, trivial, rfl, trivial⟩ ⟨⟨rfl, rfl⟩, ⟨rfl, rfl⟩, (runRfS ⟨0, 0⟩), ⟨rfl, rfl⟩, trivial⟩ fun a575 h576 => ?_
          clear h573
          refine wpAnyK_one (i := 11) (fuel := 3) (by kernel_rfl) ?_
          refine op_call h576 rfl rfl rfl (callOk Tryd.func18 (by decide) rfl) (args := [.pointer (some ⟨kb, 0, none⟩)]) rfl ((by have hq := running_ok kb bo bc S rS E _ (heap_fr hb h576.frame) (heap_fr hs h576.frame) hne; rw [hcx] at hq; exact hq)) ?_
          rintro _ w577 ⟨rfl, hf579⟩
          refine ⟨_, rfl, ?_⟩
          have h578 := (h576.grow hf579).put (d := some 139) (v := .agg #[.int .u16 ((refP E (x : Int)).idx), .int .u32 ((refP E (x : Int)).gen)]) (T' := [(139, .agg #[.int .u16 ((refP E (x : Int)).idx), .int .u32 ((refP E (x : Int)).gen)]), (19, .pointer (some ⟨b532, 0, none⟩)), (18, .pointer (some ⟨b401, 0, none⟩)), (94, .slice (some ⟨rb390, 0, none⟩) ((liveP E 3 256).length) c368), (0, .pointer (some ⟨kb, 0, none⟩)), (2, .bool false), (3, .map (some m1)), (4, .map (some m2)), (8, .pointer (some ⟨bo, 0, none⟩)), (95, .int .i64 (((liveP E 3 256).length : Nat) : Int)), (96, .int .i64 j), (21, .slice none 0 0), (22, .bool false), (112, .int .u8 2), (16, .int .i64 1), (137, .bool true), (138, .pointer (some ⟨kb, 0, none⟩)), (140, .agg #[.int .u16 ((refP E (x : Int)).idx), .int .u32 ((refP E (x : Int)).gen)])]) rfl
          refine ⟨(h576.keepFr hf579 (kcons (by simp) knil)), ?_⟩
          clear h576
          refine dr_batch tabOk tabZ_ok (by repeat (first | with_reducible exact PF.body | with_reducible apply PF.inB | with_reducible apply PF.next)) [(13, {f := 2}), (14, {}), (15, {})] [19, 18, 94, 0, 2, 3, 4, 8, 95, 96, 21, 112, 16, 22] (T' := [(19, .pointer (some ⟨b532, 0, none⟩)), (18, .pointer (some ⟨b401, 0, none⟩)), (94, .slice (some ⟨rb390, 0, none⟩) ((liveP E 3 256).length) c368), (0, .pointer (some ⟨kb, 0, none⟩)), (2, .bool false), (3, .map (some m1)), (4, .map (some m2)), (8, .pointer (some ⟨bo, 0, none⟩)), (95, .int .i64 (((liveP E 3 256).length : Nat) : Int)), (96, .int .i64 j), (21, .slice none 0 0), (112, .int .u8 2), (16, .int .i64 1), (22, .bool true)]) (φ := EqRun Tryd.prog 39 (.agg #[.int .u16 ((refP E (x : Int)).idx), .int .u32 ((refP E (x : Int)).gen)]) (.agg #[.int .u16 ((refP E (x : Int)).idx), .int .u32 ((refP E (x : Int)).gen)]) true ∧ True) (fuel := 0) h578 (by kernel_rfl) rfl (by kernel_rfl) (by kernel_rfl) ⟨trivial, trivial, trivial, trivial⟩ ⟨(runRfS (refP E (x : Int))), trivial⟩ fun a580 h581 => ?_
          clear h578
          refine wpAnyK_done (by kernel_rfl) ?_ _
          refine hK559 _ _ ?_
          clear hK559
          refine wp_seq_k fun K582 hK582 => ?_
          refine nd_start (l := [0, 1]) rfl ?_
          refine nd_batch tabOk tabZ_ok [(0, {}), (1, {})] [19, 18, 94, 0, 2, 3, 4, 8, 95, 96, 21, 112, 16, 22, 224] (T' := [(19, .pointer (some ⟨b532, 0, none⟩)), (18, .pointer (some ⟨b401, 0, none⟩)), (94, .slice (some ⟨rb390, 0, none⟩) ((liveP E 3 256).length) c368), (0, .pointer (some ⟨kb, 0, none⟩)), (2, .bool false), (3, .map (some m1)), (4, .map (some m2)), (8, .pointer (some ⟨bo, 0, none⟩)), (95, .int .i64 (((liveP E 3 256).length : Nat) : Int)), (96, .int .i64 j), (21, .slice none 0 0), (112, .int .u8 2), (16, .int .i64 1), (22, .bool true), (224, .bool false)]) (φ := True) (rest := []) h581 (by kernel_rfl) rfl trivial fun a583 h584 => ?_
          clear h581
          refine nd_done ?_
          refine hK582 _ _ ?_
          clear hK582
          refine c_false h584 rfl ?_
          refine wp_skip ?_
          refine hK397 _ _ ?_
          clear hK397
          refine nd_start (l := [0, 1]) rfl ?_
          refine nd_batch tabOk tabZ_ok [(0, {}), (1, {})] [19, 18, 94, 0, 2, 3, 4, 8, 95, 21, 112, 16, 22, 96] (T' := [(19, .pointer (some ⟨b532, 0, none⟩)), (18, .pointer (some ⟨b401, 0, none⟩)), (94, .slice (some ⟨rb390, 0, none⟩) ((liveP E 3 256).length) c368), (0, .pointer (some ⟨kb, 0, none⟩)), (2, .bool false), (3, .map (some m1)), (4, .map (some m2)), (8, .pointer (some ⟨bo, 0, none⟩)), (95, .int .i64 (((liveP E 3 256).length : Nat) : Int)), (21, .slice none 0 0), (112, .int .u8 2), (16, .int .i64 1), (22, .bool true), (96, .int .i64 (j + 1))]) (φ := inR .i64 (j + 1) ∧ True) (rest := []) h584 (by kernel_rfl) rfl ⟨⟨by omega, by omega⟩, trivial⟩ fun a585 h586 => ?_
          clear h584
          refine nd_done ?_
          have h587 := h586.memMono (L' := [(kb, ⟨kC bo bc S, 90, true⟩), (bo, ⟨stC E, 131, true⟩), (0, ⟨[.int .u16 0, .int .u32 0], ty0, true⟩)]) (List.Sublist.cons_cons _ (List.Sublist.cons_cons _ (List.Sublist.cons_cons _ (List.Sublist.cons _ (List.Sublist.cons _ (List.Sublist.cons _ List.Sublist.slnil))))))
          clear h586
          exact ⟨(g - 1), by omega, ps, (j + 1), 1, by omega, ⟨by omega, by omega⟩, (by rw [show (j + 1).toNat = j.toNat + 1 by omega]; exact hP3'), (by rw [show (j + 1).toNat = j.toNat + 1 by omega]; exact hRn'), (h587.slotsMono (restr_spec (keep := [94, 0, 2, 3, 4, 8, 95, 96, 16]) rfl))⟩
        ·
          obtain ⟨hin, hty⟩ := in_wait (k := 4) hQ rS hX hx256 (by omega)
          obtain ⟨pre, eo, ecp, eF, eb, post, hps, hpre, hP3'⟩ := hP3.inn hxj hin
          have hr0 : [(S.tcb x).wait][0]? = some (S.tcb x).wait := rfl
          have hRn' := hRn.skip hQ hxj (by omega)
          refine op_call h411 rfl rfl rfl (callOk Tryd.func25 (by decide) rfl) (args := [.pointer (some ⟨kb, 0, none⟩), .agg #[.int .u16 ((refP E (x : Int)).idx), .int .u32 ((refP E (x : Int)).gen)]]) rfl ((by have hq := threadE kb bo bc S rS h256 (refP E (x : Int)) ⟨by rw [hrx]; omega, by rw [hrx]; omega⟩ _ (heap_fr hb h411.frame) (heap_fr hs h411.frame) hne hthr; unfold thC at hq; rw [hsx] at hq; exact hq)) ?_
          rintro _ w588 ⟨rfl, hf590⟩
          refine ⟨_, rfl, ?_⟩
          have h589 := (h411.grow hf590).put (d := some 103) (v := .tuple #[.agg #[.int .u8 3, .int .u8 ((S.tcb x).prio), .int .u16 ((S.tcb x).wait.idx), .int .u32 ((S.tcb x).wait.gen), .int .u16 ((S.tcb x).cs.idx), .int .u32 ((S.tcb x).cs.gen), .int .u16 ((S.tcb x).rep.idx), .int .u32 ((S.tcb x).rep.gen), .int .u64 ((S.tcb x).badge), .int .u64 ((S.tcb x).m0), .int .u64 ((S.tcb x).m1), .int .u64 ((S.tcb x).m2), .int .u64 ((S.tcb x).m3), .int .u8 ((S.tcb x).len), .int .u8 ((S.tcb x).got), .int .u32 ((S.tcb x).xfer), .int .u32 ((S.tcb x).dst), .bool ((S.tcb x).grant), .bool ((S.tcb x).call)], .bool true]) (T' := [(103, .tuple #[.agg #[.int .u8 3, .int .u8 ((S.tcb x).prio), .int .u16 ((S.tcb x).wait.idx), .int .u32 ((S.tcb x).wait.gen), .int .u16 ((S.tcb x).cs.idx), .int .u32 ((S.tcb x).cs.gen), .int .u16 ((S.tcb x).rep.idx), .int .u32 ((S.tcb x).rep.gen), .int .u64 ((S.tcb x).badge), .int .u64 ((S.tcb x).m0), .int .u64 ((S.tcb x).m1), .int .u64 ((S.tcb x).m2), .int .u64 ((S.tcb x).m3), .int .u8 ((S.tcb x).len), .int .u8 ((S.tcb x).got), .int .u32 ((S.tcb x).xfer), .int .u32 ((S.tcb x).dst), .bool ((S.tcb x).grant), .bool ((S.tcb x).call)], .bool true]), (18, .pointer (some ⟨b401, 0, none⟩)), (94, .slice (some ⟨rb390, 0, none⟩) ((liveP E 3 256).length) c368), (0, .pointer (some ⟨kb, 0, none⟩)), (2, .bool false), (3, .map (some m1)), (4, .map (some m2)), (8, .pointer (some ⟨bo, 0, none⟩)), (95, .int .i64 (((liveP E 3 256).length : Nat) : Int)), (96, .int .i64 j), (16, .int .i64 n), (101, .pointer (some ⟨kb, 0, none⟩)), (102, .agg #[.int .u16 ((refP E (x : Int)).idx), .int .u32 ((refP E (x : Int)).gen)])]) rfl
          clear h411
          refine nd_batch tabOk tabZ_ok [(3, {}), (4, {}), (5, {})] [18, 94, 0, 2, 3, 4, 8, 95, 96, 16, 104, 105] (T' := [(18, .pointer (some ⟨b401, 0, none⟩)), (94, .slice (some ⟨rb390, 0, none⟩) ((liveP E 3 256).length) c368), (0, .pointer (some ⟨kb, 0, none⟩)), (2, .bool false), (3, .map (some m1)), (4, .map (some m2)), (8, .pointer (some ⟨bo, 0, none⟩)), (95, .int .i64 (((liveP E 3 256).length : Nat) : Int)), (96, .int .i64 j), (16, .int .i64 n), (104, .agg #[.int .u8 3, .int .u8 ((S.tcb x).prio), .int .u16 ((S.tcb x).wait.idx), .int .u32 ((S.tcb x).wait.gen), .int .u16 ((S.tcb x).cs.idx), .int .u32 ((S.tcb x).cs.gen), .int .u16 ((S.tcb x).rep.idx), .int .u32 ((S.tcb x).rep.gen), .int .u64 ((S.tcb x).badge), .int .u64 ((S.tcb x).m0), .int .u64 ((S.tcb x).m1), .int .u64 ((S.tcb x).m2), .int .u64 ((S.tcb x).m3), .int .u8 ((S.tcb x).len), .int .u8 ((S.tcb x).got), .int .u32 ((S.tcb x).xfer), .int .u32 ((S.tcb x).dst), .bool ((S.tcb x).grant), .bool ((S.tcb x).call)]), (105, .bool true)]) (φ := True) (rest := [6, 7, 8]) h589 (by kernel_rfl) rfl trivial fun a591 h592 => ?_
          clear h589
          refine nd_op ?_
          refine op_new tabOk (cells := [.int .u8 0, .int .u8 0, .int .u16 0, .int .u32 0, .int .u16 0, .int .u32 0, .int .u16 0, .int .u32 0, .int .u64 0, .int .u64 0, .int .u64 0, .int .u64 0, .int .u64 0, .int .u8 0, .int .u8 0, .int .u32 0, .int .u32 0, .bool false, .bool false]) (ty := 59) (ln := none) (L1 := fun b593 => [(kb, ⟨kC bo bc S, 90, true⟩), (bo, ⟨stC E, 131, true⟩), (0, ⟨[.int .u16 0, .int .u32 0], ty0, true⟩), (rb390, ⟨cs391, 39, true⟩), (b401, ⟨[.int .u16 ((refP E (x : Int)).idx), .int .u32 ((refP E (x : Int)).gen)], 39, false⟩), (b593, ⟨[.int .u8 0, .int .u8 0, .int .u16 0, .int .u32 0, .int .u16 0, .int .u32 0, .int .u16 0, .int .u32 0, .int .u64 0, .int .u64 0, .int .u64 0, .int .u64 0, .int .u64 0, .int .u8 0, .int .u8 0, .int .u32 0, .int .u32 0, .bool false, .bool false], 59, false⟩)]) h592 rfl rfl rfl rfl (by kernel_rfl) (fun _ => rfl) fun b593 w594 a595 h596 hf597 hn598 => ?_
          clear h592
          refine nd_op ?_
          refine op_store tabOk {k := 5} (L' := [(kb, ⟨kC bo bc S, 90, true⟩), (bo, ⟨stC E, 131, true⟩), (0, ⟨[.int .u16 0, .int .u32 0], ty0, true⟩), (rb390, ⟨cs391, 39, true⟩), (b401, ⟨[.int .u16 ((refP E (x : Int)).idx), .int .u32 ((refP E (x : Int)).gen)], 39, false⟩), (b593, ⟨[.int .u8 3, .int .u8 ((S.tcb x).prio), .int .u16 ((S.tcb x).wait.idx), .int .u32 ((S.tcb x).wait.gen), .int .u16 ((S.tcb x).cs.idx), .int .u32 ((S.tcb x).cs.gen), .int .u16 ((S.tcb x).rep.idx), .int .u32 ((S.tcb x).rep.gen), .int .u64 ((S.tcb x).badge), .int .u64 ((S.tcb x).m0), .int .u64 ((S.tcb x).m1), .int .u64 ((S.tcb x).m2), .int .u64 ((S.tcb x).m3), .int .u8 ((S.tcb x).len), .int .u8 ((S.tcb x).got), .int .u32 ((S.tcb x).xfer), .int .u32 ((S.tcb x).dst), .bool ((S.tcb x).grant), .bool ((S.tcb x).call)], 59, false⟩)]) (φ := b593 = b593 ∧ Nat.ble (0 + 19) 19 = true) h596 rfl rfl rfl (by kernel_rfl) ⟨rfl, rfl⟩ fun w599 h600 => ?_
          clear h596
          refine nd_batch tabOk tabZ_ok [(8, {})] [19, 18, 94, 0, 2, 3, 4, 8, 95, 96, 16] (T' := [(19, .pointer (some ⟨b593, 0, none⟩)), (18, .pointer (some ⟨b401, 0, none⟩)), (94, .slice (some ⟨rb390, 0, none⟩) ((liveP E 3 256).length) c368), (0, .pointer (some ⟨kb, 0, none⟩)), (2, .bool false), (3, .map (some m1)), (4, .map (some m2)), (8, .pointer (some ⟨bo, 0, none⟩)), (95, .int .i64 (((liveP E 3 256).length : Nat) : Int)), (96, .int .i64 j), (16, .int .i64 n)]) (φ := True) (rest := []) h600 (by kernel_rfl) rfl trivial fun a601 h602 => ?_
          clear h600
          refine nd_done ?_
          refine hK409 _ _ ?_
          clear hK409
          refine wp_seq_k fun K603 hK603 => ?_
          refine nd_start (l := [0, 1, 2, 3]) rfl ?_
          refine nd_batch tabOk tabZ_ok [(0, {}), (1, {k := 4})] [19, 18, 94, 0, 2, 3, 4, 8, 95, 96, 16, 106, 107] (T' := [(19, .pointer (some ⟨b593, 0, none⟩)), (18, .pointer (some ⟨b401, 0, none⟩)), (94, .slice (some ⟨rb390, 0, none⟩) ((liveP E 3 256).length) c368), (0, .pointer (some ⟨kb, 0, none⟩)), (2, .bool false), (3, .map (some m1)), (4, .map (some m2)), (8, .pointer (some ⟨bo, 0, none⟩)), (95, .int .i64 (((liveP E 3 256).length : Nat) : Int)), (96, .int .i64 j), (16, .int .i64 n), (106, .map (some m1)), (107, .agg #[.int .u16 ((refP E (x : Int)).idx), .int .u32 ((refP E (x : Int)).gen)])]) (φ := (b401 = b401 ∧ Nat.ble (0 + 2) 2 = true) ∧ True) (rest := [2, 3]) h602 (by kernel_rfl) rfl ⟨⟨rfl, rfl⟩, trivial⟩ fun a604 h605 => ?_
          clear h602
          refine nd_op ?_
          refine op_plLook (e := (⟨x, (S.tcb x).wait, eo, ecp, eF, eb⟩ : Pe)) (pre := pre) (post := post) h605 rfl rfl rfl rfl rfl (by rw [← hps]; exact (h605.inv.get (j := 0) (p := pPl m1 c1 E ps) rfl)) hx256 hpre ?_
          have h606 := (h605).put (d := some 108) (v := .slice eo 1 ecp) (T' := [(108, .slice eo 1 ecp), (19, .pointer (some ⟨b593, 0, none⟩)), (18, .pointer (some ⟨b401, 0, none⟩)), (94, .slice (some ⟨rb390, 0, none⟩) ((liveP E 3 256).length) c368), (0, .pointer (some ⟨kb, 0, none⟩)), (2, .bool false), (3, .map (some m1)), (4, .map (some m2)), (8, .pointer (some ⟨bo, 0, none⟩)), (95, .int .i64 (((liveP E 3 256).length : Nat) : Int)), (96, .int .i64 j), (16, .int .i64 n), (106, .map (some m1)), (107, .agg #[.int .u16 ((refP E (x : Int)).idx), .int .u32 ((refP E (x : Int)).gen)])]) rfl
          have hszh606 : w.heap.size ≤ _ := h605.frame.size
          clear h605
          refine nd_batch tabOk tabZ_ok [(3, {})] [19, 18, 94, 0, 2, 3, 4, 8, 95, 96, 16, 21] (T' := [(19, .pointer (some ⟨b593, 0, none⟩)), (18, .pointer (some ⟨b401, 0, none⟩)), (94, .slice (some ⟨rb390, 0, none⟩) ((liveP E 3 256).length) c368), (0, .pointer (some ⟨kb, 0, none⟩)), (2, .bool false), (3, .map (some m1)), (4, .map (some m2)), (8, .pointer (some ⟨bo, 0, none⟩)), (95, .int .i64 (((liveP E 3 256).length : Nat) : Int)), (96, .int .i64 j), (16, .int .i64 n), (21, .slice eo 1 ecp)]) (φ := True) (rest := []) h606 (by kernel_rfl) rfl trivial fun a607 h608 => ?_
          clear h606
          refine nd_done ?_
          refine hK603 _ _ ?_
          clear hK603
          refine wp_seq_k fun K609 hK609 => ?_
          refine nd_start (l := [0, 1, 2]) rfl ?_
          refine nd_batch tabOk tabZ_ok [(0, {}), (1, {k := 4})] [19, 18, 94, 0, 2, 3, 4, 8, 95, 96, 16, 21, 109, 110] (T' := [(19, .pointer (some ⟨b593, 0, none⟩)), (18, .pointer (some ⟨b401, 0, none⟩)), (94, .slice (some ⟨rb390, 0, none⟩) ((liveP E 3 256).length) c368), (0, .pointer (some ⟨kb, 0, none⟩)), (2, .bool false), (3, .map (some m1)), (4, .map (some m2)), (8, .pointer (some ⟨bo, 0, none⟩)), (95, .int .i64 (((liveP E 3 256).length : Nat) : Int)), (96, .int .i64 j), (16, .int .i64 n), (21, .slice eo 1 ecp), (109, .map (some m1)), (110, .agg #[.int .u16 ((refP E (x : Int)).idx), .int .u32 ((refP E (x : Int)).gen)])]) (φ := (b401 = b401 ∧ Nat.ble (0 + 2) 2 = true) ∧ True) (rest := [2]) h608 (by kernel_rfl) rfl ⟨⟨rfl, rfl⟩, trivial⟩ fun a610 h611 => ?_
          clear h608
          refine nd_op ?_
          refine op_plDel (e := (⟨x, (S.tcb x).wait, eo, ecp, eF, eb⟩ : Pe)) (pre := pre) (post := post) h611 rfl rfl rfl rfl rfl (by rw [← hps]; exact (h611.inv.get (j := 0) (p := pPl m1 c1 E ps) rfl)) hx256 hpre ?_
          intro w612 hp613 hr615 hf614
          have hq616 := pl_part (mb := m1) (pre := pre) (post := post) (e := (⟨x, (S.tcb x).wait, eo, ecp, eF, eb⟩ : Pe)) (by rw [← hps]; exact ((h611.inv.get (j := 0) (p := pPl m1 c1 E ps) rfl)).nd)
          rw [← hps] at hq616
          have h617 := (St.pcPart h611 (j := 0) (p := pPl m1 c1 E ps) (p' := pPl m1 c1 E (pre ++ post)) (q := pRow (rl rfC 39 2 ([(S.tcb x).wait]) eo ecp eF)) (ps' := [pPl m1 c1 E (pre ++ post), pPr m2 c2 E qs, pRow (rl rfC 39 2 (liveP E 3 256) (some ⟨rb390, 0, none⟩) c368 ([rb390])), pRow (rl rfC 39 2 ([(S.tcb x).wait]) eo ecp eF)]) rfl (hp613.ok) (pRow_ok hr615) hq616.1 hq616.2.1 hq616.2.2 hf614 (fun b hb => by simp at hb; rw [hb]; exact List.mem_cons_self ..) (kcons (fun _ => (fun hq => by have := h611.inv.newOf (j := 0) (p := pPl m1 c1 E ps) rfl kb hq; omega)) (kcons (fun _ => (fun hq => by have := h611.inv.newOf (j := 0) (p := pPl m1 c1 E ps) rfl bo hq; omega)) (kcons (fun _ => (fun hq => by have := h611.inv.newOf (j := 0) (p := pPl m1 c1 E ps) rfl 0 hq; omega)) (kcons (fun _ => (fun hq => Pf_nodup h611.inv.nd (i := 2) (j := 0) (x := pRow (rl rfC 39 2 (liveP E 3 256) (some ⟨rb390, 0, none⟩) c368 ([rb390]))) (y := pPl m1 c1 E ps) rfl rfl (by decide) rb390 (by simp [pRow, rl]) hq)) (kcons (by intro hq; cases hq) (kcons (by intro hq; cases hq) knil)))))) rfl).put (d := none) (v := .tuple #[]) (T' := [(19, .pointer (some ⟨b593, 0, none⟩)), (18, .pointer (some ⟨b401, 0, none⟩)), (94, .slice (some ⟨rb390, 0, none⟩) ((liveP E 3 256).length) c368), (0, .pointer (some ⟨kb, 0, none⟩)), (2, .bool false), (3, .map (some m1)), (4, .map (some m2)), (8, .pointer (some ⟨bo, 0, none⟩)), (95, .int .i64 (((liveP E 3 256).length : Nat) : Int)), (96, .int .i64 j), (16, .int .i64 n), (21, .slice eo 1 ecp), (109, .map (some m1)), (110, .agg #[.int .u16 ((refP E (x : Int)).idx), .int .u32 ((refP E (x : Int)).gen)])]) rfl
          have hszh617 : w.heap.size ≤ _ := h611.frame.size
          clear h611
          obtain ⟨rb618, cs619, ho621, hb620, hrd623, hF622, _⟩ := rl_open (h617.inv.get (j := 3) (p := pRow (rl rfC 39 2 ([(S.tcb x).wait]) eo ecp eF)) rfl) rfC_len hr0
          subst ho621 hF622
          have h624 := h617.open_ hb620 (h617.notinL (by simp [Pf, pRow, rl]) (kcons (fun _ e => by have := h617.inv.newOf (j := 3) (p := pRow (rl rfC 39 2 ([(S.tcb x).wait]) (some ⟨rb618, 0, none⟩) ecp ([rb618]))) rfl rb618 (by simp [pRow, rl]); omega) (kcons (fun _ e => by have := h617.inv.newOf (j := 3) (p := pRow (rl rfC 39 2 ([(S.tcb x).wait]) (some ⟨rb618, 0, none⟩) ecp ([rb618]))) rfl rb618 (by simp [pRow, rl]); omega) (kcons (fun _ e => by have := h617.inv.newOf (j := 3) (p := pRow (rl rfC 39 2 ([(S.tcb x).wait]) (some ⟨rb618, 0, none⟩) ecp ([rb618]))) rfl rb618 (by simp [pRow, rl]); omega) (kcons (fun _ e => (fun hq => Pf_nodup h617.inv.nd (i := 2) (j := 3) (x := pRow (rl rfC 39 2 (liveP E 3 256) (some ⟨rb390, 0, none⟩) c368 ([rb390]))) (y := pRow (rl rfC 39 2 ([(S.tcb x).wait]) (some ⟨rb618, 0, none⟩) ecp ([rb618]))) rfl rfl (by decide) rb390 (by simp [pRow, rl]) hq) (by first | (have e9 : rb390 = rb618 := e; simp [pRow, rl, e9]) | (have e9 : rb618 = rb390 := e; simp [pRow, rl, e9]))) (kcons (by intro hq; cases hq) (kcons (by intro hq; cases hq) knil)))))))
          clear h617
          refine nd_done ?_
          refine hK609 _ _ ?_
          clear hK609
          refine wp_seq_k fun K625 hK625 => ?_
          refine nd_start (l := [0]) rfl ?_
          refine nd_batch tabOk tabZ_ok [(0, {})] [19, 18, 94, 0, 2, 3, 4, 8, 95, 96, 16, 21, 22] (T' := [(19, .pointer (some ⟨b593, 0, none⟩)), (18, .pointer (some ⟨b401, 0, none⟩)), (94, .slice (some ⟨rb390, 0, none⟩) ((liveP E 3 256).length) c368), (0, .pointer (some ⟨kb, 0, none⟩)), (2, .bool false), (3, .map (some m1)), (4, .map (some m2)), (8, .pointer (some ⟨bo, 0, none⟩)), (95, .int .i64 (((liveP E 3 256).length : Nat) : Int)), (96, .int .i64 j), (16, .int .i64 n), (21, .slice (some ⟨rb618, 0, none⟩) 1 ecp), (22, .bool false)]) (φ := True) (rest := []) h624 (by kernel_rfl) rfl trivial fun a626 h627 => ?_
          clear h624
          refine nd_done ?_
          refine hK625 _ _ ?_
          clear hK625
          refine wp_seq_k fun K628 hK628 => ?_
          refine wp_seq_k fun K629 hK629 => ?_
          refine nd_start (l := [0, 1]) rfl ?_
          refine nd_batch tabOk tabZ_ok [(0, {}), (1, {k := 5})] [19, 18, 94, 0, 2, 3, 4, 8, 95, 96, 16, 21, 22, 112] (T' := [(19, .pointer (some ⟨b593, 0, none⟩)), (18, .pointer (some ⟨b401, 0, none⟩)), (94, .slice (some ⟨rb390, 0, none⟩) ((liveP E 3 256).length) c368), (0, .pointer (some ⟨kb, 0, none⟩)), (2, .bool false), (3, .map (some m1)), (4, .map (some m2)), (8, .pointer (some ⟨bo, 0, none⟩)), (95, .int .i64 (((liveP E 3 256).length : Nat) : Int)), (96, .int .i64 j), (16, .int .i64 n), (21, .slice (some ⟨rb618, 0, none⟩) 1 ecp), (22, .bool false), (112, .int .u8 3)]) (φ := (b593 = b593 ∧ Nat.ble (0 + 1) 19 = true) ∧ True) (rest := []) h627 (by kernel_rfl) rfl ⟨⟨rfl, rfl⟩, trivial⟩ fun a630 h631 => ?_
          clear h627
          refine nd_done ?_
          refine hK629 _ _ ?_
          clear hK629
          refine wp_block ?_
          refine wp_seq_k fun K632 hK632 => ?_
          refine nd_start (l := [0, 1]) rfl ?_
          refine nd_batch tabOk tabZ_ok [(0, {}), (1, {})] [19, 18, 94, 0, 2, 3, 4, 8, 95, 96, 16, 21, 22, 112, 113] (T' := [(19, .pointer (some ⟨b593, 0, none⟩)), (18, .pointer (some ⟨b401, 0, none⟩)), (94, .slice (some ⟨rb390, 0, none⟩) ((liveP E 3 256).length) c368), (0, .pointer (some ⟨kb, 0, none⟩)), (2, .bool false), (3, .map (some m1)), (4, .map (some m2)), (8, .pointer (some ⟨bo, 0, none⟩)), (95, .int .i64 (((liveP E 3 256).length : Nat) : Int)), (96, .int .i64 j), (16, .int .i64 n), (21, .slice (some ⟨rb618, 0, none⟩) 1 ecp), (22, .bool false), (112, .int .u8 3), (113, .bool false)]) (φ := True) (rest := []) h631 (by kernel_rfl) rfl trivial fun a633 h634 => ?_
          clear h631
          refine nd_done ?_
          refine hK632 _ _ ?_
          clear hK632
          refine c_false h634 rfl ?_
          refine wp_seq_k fun K635 hK635 => ?_
          refine nd_start (l := [0, 1]) rfl ?_
          refine nd_batch tabOk tabZ_ok [(0, {}), (1, {})] [19, 18, 94, 0, 2, 3, 4, 8, 95, 96, 16, 21, 22, 112, 124] (T' := [(19, .pointer (some ⟨b593, 0, none⟩)), (18, .pointer (some ⟨b401, 0, none⟩)), (94, .slice (some ⟨rb390, 0, none⟩) ((liveP E 3 256).length) c368), (0, .pointer (some ⟨kb, 0, none⟩)), (2, .bool false), (3, .map (some m1)), (4, .map (some m2)), (8, .pointer (some ⟨bo, 0, none⟩)), (95, .int .i64 (((liveP E 3 256).length : Nat) : Int)), (96, .int .i64 j), (16, .int .i64 n), (21, .slice (some ⟨rb618, 0, none⟩) 1 ecp), (22, .bool false), (112, .int .u8 3), (124, .bool false)]) (φ := True) (rest := []) h634 (by kernel_rfl) rfl trivial fun a636 h637 => ?_
          clear h634
          refine nd_done ?_
          refine hK635 _ _ ?_
          clear hK635
          refine c_false h637 rfl ?_
          refine wp_seq_k fun K638 hK638 => ?_
          refine nd_start (l := [0, 1]) rfl ?_
          refine nd_batch tabOk tabZ_ok [(0, {}), (1, {})] [19, 18, 94, 0, 2, 3, 4, 8, 95, 96, 16, 21, 22, 112, 143] (T' := [(19, .pointer (some ⟨b593, 0, none⟩)), (18, .pointer (some ⟨b401, 0, none⟩)), (94, .slice (some ⟨rb390, 0, none⟩) ((liveP E 3 256).length) c368), (0, .pointer (some ⟨kb, 0, none⟩)), (2, .bool false), (3, .map (some m1)), (4, .map (some m2)), (8, .pointer (some ⟨bo, 0, none⟩)), (95, .int .i64 (((liveP E 3 256).length : Nat) : Int)), (96, .int .i64 j), (16, .int .i64 n), (21, .slice (some ⟨rb618, 0, none⟩) 1 ecp), (22, .bool false), (112, .int .u8 3), (143, .bool false)]) (φ := True) (rest := []) h637 (by kernel_rfl) rfl trivial fun a639 h640 => ?_
          clear h637
          refine nd_done ?_
          refine hK638 _ _ ?_
          clear hK638
          refine c_false h640 rfl ?_
          refine wp_seq_k fun K641 hK641 => ?_
          refine wp_seq_k fun K642 hK642 => ?_
          refine nd_start (l := [0, 1]) rfl ?_
          refine nd_batch tabOk tabZ_ok [(0, {}), (1, {})] [19, 18, 94, 0, 2, 3, 4, 8, 95, 96, 16, 21, 22, 112, 170] (T' := [(19, .pointer (some ⟨b593, 0, none⟩)), (18, .pointer (some ⟨b401, 0, none⟩)), (94, .slice (some ⟨rb390, 0, none⟩) ((liveP E 3 256).length) c368), (0, .pointer (some ⟨kb, 0, none⟩)), (2, .bool false), (3, .map (some m1)), (4, .map (some m2)), (8, .pointer (some ⟨bo, 0, none⟩)), (95, .int .i64 (((liveP E 3 256).length : Nat) : Int)), (96, .int .i64 j), (16, .int .i64 n), (21, .slice (some ⟨rb618, 0, none⟩) 1 ecp), (22, .bool false), (112, .int .u8 3), (170, .bool true)]) (φ := True) (rest := []) h640 (by kernel_rfl) rfl trivial fun a643 h644 => ?_
          clear h640
          refine nd_done ?_
          refine hK642 _ _ ?_
          clear hK642
          refine c_true h644 rfl ?_
          refine wp_skip ?_
          refine hK641 _ _ ?_
          clear hK641
          refine c_true h644 rfl ?_
          refine dr_start (KB := [kb, bo, 0, rb390, b401, b593, rb618]) (Bi := [[0, 1, 2, 3, 4, 5, 6], [0, 1, 2, 3, 4, 5, 6], [0, 1, 2, 3, 4, 5, 6], [0, 1, 2, 3, 4, 5, 6], [0, 1, 2, 3, 4, 5, 6], [0, 1, 2, 3, 4, 5, 6], [0, 1, 2, 3, 4, 5, 6], [0, 1, 2, 3, 4, 5, 6], [0, 1, 2, 3, 4, 5, 6], [0, 1, 2, 3, 4, 5, 6], [0, 1, 2, 3, 4, 5, 6], [0, 1, 2, 3, 4, 5, 6], [0, 1, 2, 3, 4, 5, 6], [0, 1, 2, 3, 4, 5, 6], [0, 1, 2, 3, 4, 5, 6], [], [0, 1, 2, 3, 4, 5, 6], [0, 1, 2, 3, 4, 5, 6], [0, 1, 2, 3, 4, 5, 6]]) mixed h644 fun w645 h646 => ?_
          clear h644
          refine dr_batch tabOk tabZ_ok (by repeat (first | with_reducible exact PF.body | with_reducible apply PF.inB | with_reducible apply PF.next)) [(0, {}), (1, {}), (2, {}), (3, {}), (4, {}), (5, {}), (6, {k := 6, m := 1, vs := [.int .u16 ((S.tcb x).wait.idx), .int .u32 ((S.tcb x).wait.gen)], p := 6}), (7, {}), (8, {k := 5, p := 5}), (9, {f := 2}), (10, {}), (11, {}), (12, {}), (13, {}), (14, {k := 5, p := 5})] [19, 18, 94, 0, 2, 3, 4, 8, 95, 96, 16, 21, 22, 112, 170, 184, 185, 187] (T' := [(19, .pointer (some ⟨b593, 0, none⟩)), (18, .pointer (some ⟨b401, 0, none⟩)), (94, .slice (some ⟨rb390, 0, none⟩) ((liveP E 3 256).length) c368), (0, .pointer (some ⟨kb, 0, none⟩)), (2, .bool false), (3, .map (some m1)), (4, .map (some m2)), (8, .pointer (some ⟨bo, 0, none⟩)), (95, .int .i64 (((liveP E 3 256).length : Nat) : Int)), (96, .int .i64 j), (16, .int .i64 n), (21, .slice (some ⟨rb618, 0, none⟩) 1 ecp), (22, .bool false), (112, .int .u8 3), (170, .bool true), (184, .bool true), (185, .pointer (some ⟨bo, 0, none⟩)), (187, .agg #[.int .u16 ((S.tcb x).wait.idx), .int .u32 ((S.tcb x).wait.gen)])]) (φ := (0 ≤ (0 : Int) ∧ (0 : Int) < 1) ∧ (rb618 = rb618 ∧ cellsAre cs619 0 [.int .u16 ((S.tcb x).wait.idx), .int .u32 ((S.tcb x).wait.gen)]) ∧ (b593 = b593 ∧ Nat.ble (2 + 2) 19 = true) ∧ EqRun Tryd.prog 39 (.agg #[.int .u16 ((S.tcb x).wait.idx), .int .u32 ((S.tcb x).wait.gen)]) (.agg #[.int .u16 ((S.tcb x).wait.idx), .int .u32 ((S.tcb x).wait.gen)]) true ∧ (b593 = b593 ∧ Nat.ble (2 + 2) 19 = true) ∧ True) (fuel := 4) h646 (by kernel_rfl) rfl (by kernel_rfl) (by kernel_rfl) ⟨trivial, trivial, trivial, trivial, trivial, trivial, rfl, trivial, rfl, trivial, trivial, trivial, trivial, trivial, rfl, trivial⟩ ⟨⟨by decide, by decide⟩, ⟨rfl, (by exact hrd623)⟩, ⟨rfl, rfl⟩, (runRfS (S.tcb x).wait), ⟨rfl, rfl⟩, trivial⟩ fun a648 h649 => ?_
          clear h646
          refine wpAnyK_one (i := 15) (fuel := 3) (by kernel_rfl) ?_
          refine op_call h649 rfl rfl rfl (callOk Tryd.func53 (by decide) rfl) (args := [.pointer (some ⟨bo, 0, none⟩), .agg #[.int .u16 ((S.tcb x).wait.idx), .int .u32 ((S.tcb x).wait.gen)]]) rfl ((by have hq := typeOf_ok bo E (S.tcb x).wait ⟨hwi.1, by omega⟩ _ (heap_fr hs h649.frame); rw [hty] at hq; exact hq)) ?_
          rintro _ w650 ⟨rfl, hf652⟩
          refine ⟨_, rfl, ?_⟩
          have h651 := (h649.grow hf652).put (d := some 188) (v := .int .u8 4) (T' := [(188, .int .u8 4), (19, .pointer (some ⟨b593, 0, none⟩)), (18, .pointer (some ⟨b401, 0, none⟩)), (94, .slice (some ⟨rb390, 0, none⟩) ((liveP E 3 256).length) c368), (0, .pointer (some ⟨kb, 0, none⟩)), (2, .bool false), (3, .map (some m1)), (4, .map (some m2)), (8, .pointer (some ⟨bo, 0, none⟩)), (95, .int .i64 (((liveP E 3 256).length : Nat) : Int)), (96, .int .i64 j), (16, .int .i64 n), (21, .slice (some ⟨rb618, 0, none⟩) 1 ecp), (22, .bool false), (112, .int .u8 3), (170, .bool true), (184, .bool true), (185, .pointer (some ⟨bo, 0, none⟩)), (187, .agg #[.int .u16 ((S.tcb x).wait.idx), .int .u32 ((S.tcb x).wait.gen)])]) rfl
          refine ⟨keepNil, ?_⟩
          clear h649
          refine dr_batch tabOk tabZ_ok (by repeat (first | with_reducible exact PF.body | with_reducible apply PF.inB | with_reducible apply PF.next)) [(16, {}), (17, {}), (18, {})] [19, 18, 94, 0, 2, 3, 4, 8, 95, 96, 16, 21, 112, 170, 22] (T' := [(19, .pointer (some ⟨b593, 0, none⟩)), (18, .pointer (some ⟨b401, 0, none⟩)), (94, .slice (some ⟨rb390, 0, none⟩) ((liveP E 3 256).length) c368), (0, .pointer (some ⟨kb, 0, none⟩)), (2, .bool false), (3, .map (some m1)), (4, .map (some m2)), (8, .pointer (some ⟨bo, 0, none⟩)), (95, .int .i64 (((liveP E 3 256).length : Nat) : Int)), (96, .int .i64 j), (16, .int .i64 n), (21, .slice (some ⟨rb618, 0, none⟩) 1 ecp), (112, .int .u8 3), (170, .bool true), (22, .bool true)]) (φ := True) (fuel := 0) h651 (by kernel_rfl) rfl (by kernel_rfl) (by kernel_rfl) ⟨trivial, trivial, trivial, trivial⟩ trivial fun a653 h654 => ?_
          clear h651
          refine wpAnyK_done (by kernel_rfl) ?_ _
          refine hK628 _ _ ?_
          clear hK628
          refine wp_seq_k fun K655 hK655 => ?_
          refine nd_start (l := [0, 1]) rfl ?_
          refine nd_batch tabOk tabZ_ok [(0, {}), (1, {})] [19, 18, 94, 0, 2, 3, 4, 8, 95, 96, 16, 21, 112, 170, 22, 224] (T' := [(19, .pointer (some ⟨b593, 0, none⟩)), (18, .pointer (some ⟨b401, 0, none⟩)), (94, .slice (some ⟨rb390, 0, none⟩) ((liveP E 3 256).length) c368), (0, .pointer (some ⟨kb, 0, none⟩)), (2, .bool false), (3, .map (some m1)), (4, .map (some m2)), (8, .pointer (some ⟨bo, 0, none⟩)), (95, .int .i64 (((liveP E 3 256).length : Nat) : Int)), (96, .int .i64 j), (16, .int .i64 n), (21, .slice (some ⟨rb618, 0, none⟩) 1 ecp), (112, .int .u8 3), (170, .bool true), (22, .bool true), (224, .bool false)]) (φ := True) (rest := []) h654 (by kernel_rfl) rfl trivial fun a656 h657 => ?_
          clear h654
          refine nd_done ?_
          refine hK655 _ _ ?_
          clear hK655
          refine c_false h657 rfl ?_
          refine wp_skip ?_
          refine hK397 _ _ ?_
          clear hK397
          refine nd_start (l := [0, 1]) rfl ?_
          refine nd_batch tabOk tabZ_ok [(0, {}), (1, {})] [19, 18, 94, 0, 2, 3, 4, 8, 95, 16, 21, 112, 170, 22, 96] (T' := [(19, .pointer (some ⟨b593, 0, none⟩)), (18, .pointer (some ⟨b401, 0, none⟩)), (94, .slice (some ⟨rb390, 0, none⟩) ((liveP E 3 256).length) c368), (0, .pointer (some ⟨kb, 0, none⟩)), (2, .bool false), (3, .map (some m1)), (4, .map (some m2)), (8, .pointer (some ⟨bo, 0, none⟩)), (95, .int .i64 (((liveP E 3 256).length : Nat) : Int)), (16, .int .i64 n), (21, .slice (some ⟨rb618, 0, none⟩) 1 ecp), (112, .int .u8 3), (170, .bool true), (22, .bool true), (96, .int .i64 (j + 1))]) (φ := inR .i64 (j + 1) ∧ True) (rest := []) h657 (by kernel_rfl) rfl ⟨⟨by omega, by omega⟩, trivial⟩ fun a658 h659 => ?_
          clear h657
          refine nd_done ?_
          have h660 := h659.memMono (L' := [(kb, ⟨kC bo bc S, 90, true⟩), (bo, ⟨stC E, 131, true⟩), (0, ⟨[.int .u16 0, .int .u32 0], ty0, true⟩)]) (List.Sublist.cons_cons _ (List.Sublist.cons_cons _ (List.Sublist.cons_cons _ (List.Sublist.cons _ (List.Sublist.cons _ (List.Sublist.cons _ (List.Sublist.cons _ List.Sublist.slnil)))))))
          clear h659
          have h661 := h660.pcSub (ps' := [pPl m1 c1 E (pre ++ post), pPr m2 c2 E qs, pRow (rl rfC 39 2 (liveP E 3 256) (some ⟨rb390, 0, none⟩) c368 ([rb390]))]) (List.Sublist.cons_cons _ (List.Sublist.cons_cons _ (List.Sublist.cons_cons _ (List.Sublist.cons _ List.Sublist.slnil))))
          clear h660
          exact ⟨(g - 1), by omega, (pre ++ post), (j + 1), n, by omega, ⟨by omega, by omega⟩, (by rw [show (j + 1).toNat = j.toNat + 1 by omega]; exact hP3'), (by rw [show (j + 1).toNat = j.toNat + 1 by omega]; exact hRn'), (h661.slotsMono (restr_spec (keep := [94, 0, 2, 3, 4, 8, 95, 96, 16]) rfl))⟩
        ·
          obtain ⟨hin, hty⟩ := in_wait (k := 4) hQ rS hX hx256 (by omega)
          obtain ⟨pre, eo, ecp, eF, eb, post, hps, hpre, hP3'⟩ := hP3.inn hxj hin
          have hr0 : [(S.tcb x).wait][0]? = some (S.tcb x).wait := rfl
          have hRn' := hRn.skip hQ hxj (by omega)
          refine op_call h411 rfl rfl rfl (callOk Tryd.func25 (by decide) rfl) (args := [.pointer (some ⟨kb, 0, none⟩), .agg #[.int .u16 ((refP E (x : Int)).idx), .int .u32 ((refP E (x : Int)).gen)]]) rfl ((by have hq := threadE kb bo bc S rS h256 (refP E (x : Int)) ⟨by rw [hrx]; omega, by rw [hrx]; omega⟩ _ (heap_fr hb h411.frame) (heap_fr hs h411.frame) hne hthr; unfold thC at hq; rw [hsx] at hq; exact hq)) ?_
          rintro _ w662 ⟨rfl, hf664⟩
          refine ⟨_, rfl, ?_⟩
          have h663 := (h411.grow hf664).put (d := some 103) (v := .tuple #[.agg #[.int .u8 4, .int .u8 ((S.tcb x).prio), .int .u16 ((S.tcb x).wait.idx), .int .u32 ((S.tcb x).wait.gen), .int .u16 ((S.tcb x).cs.idx), .int .u32 ((S.tcb x).cs.gen), .int .u16 ((S.tcb x).rep.idx), .int .u32 ((S.tcb x).rep.gen), .int .u64 ((S.tcb x).badge), .int .u64 ((S.tcb x).m0), .int .u64 ((S.tcb x).m1), .int .u64 ((S.tcb x).m2), .int .u64 ((S.tcb x).m3), .int .u8 ((S.tcb x).len), .int .u8 ((S.tcb x).got), .int .u32 ((S.tcb x).xfer), .int .u32 ((S.tcb x).dst), .bool ((S.tcb x).grant), .bool ((S.tcb x).call)], .bool true]) (T' := [(103, .tuple #[.agg #[.int .u8 4, .int .u8 ((S.tcb x).prio), .int .u16 ((S.tcb x).wait.idx), .int .u32 ((S.tcb x).wait.gen), .int .u16 ((S.tcb x).cs.idx), .int .u32 ((S.tcb x).cs.gen), .int .u16 ((S.tcb x).rep.idx), .int .u32 ((S.tcb x).rep.gen), .int .u64 ((S.tcb x).badge), .int .u64 ((S.tcb x).m0), .int .u64 ((S.tcb x).m1), .int .u64 ((S.tcb x).m2), .int .u64 ((S.tcb x).m3), .int .u8 ((S.tcb x).len), .int .u8 ((S.tcb x).got), .int .u32 ((S.tcb x).xfer), .int .u32 ((S.tcb x).dst), .bool ((S.tcb x).grant), .bool ((S.tcb x).call)], .bool true]), (18, .pointer (some ⟨b401, 0, none⟩)), (94, .slice (some ⟨rb390, 0, none⟩) ((liveP E 3 256).length) c368), (0, .pointer (some ⟨kb, 0, none⟩)), (2, .bool false), (3, .map (some m1)), (4, .map (some m2)), (8, .pointer (some ⟨bo, 0, none⟩)), (95, .int .i64 (((liveP E 3 256).length : Nat) : Int)), (96, .int .i64 j), (16, .int .i64 n), (101, .pointer (some ⟨kb, 0, none⟩)), (102, .agg #[.int .u16 ((refP E (x : Int)).idx), .int .u32 ((refP E (x : Int)).gen)])]) rfl
          clear h411
          refine nd_batch tabOk tabZ_ok [(3, {}), (4, {}), (5, {})] [18, 94, 0, 2, 3, 4, 8, 95, 96, 16, 104, 105] (T' := [(18, .pointer (some ⟨b401, 0, none⟩)), (94, .slice (some ⟨rb390, 0, none⟩) ((liveP E 3 256).length) c368), (0, .pointer (some ⟨kb, 0, none⟩)), (2, .bool false), (3, .map (some m1)), (4, .map (some m2)), (8, .pointer (some ⟨bo, 0, none⟩)), (95, .int .i64 (((liveP E 3 256).length : Nat) : Int)), (96, .int .i64 j), (16, .int .i64 n), (104, .agg #[.int .u8 4, .int .u8 ((S.tcb x).prio), .int .u16 ((S.tcb x).wait.idx), .int .u32 ((S.tcb x).wait.gen), .int .u16 ((S.tcb x).cs.idx), .int .u32 ((S.tcb x).cs.gen), .int .u16 ((S.tcb x).rep.idx), .int .u32 ((S.tcb x).rep.gen), .int .u64 ((S.tcb x).badge), .int .u64 ((S.tcb x).m0), .int .u64 ((S.tcb x).m1), .int .u64 ((S.tcb x).m2), .int .u64 ((S.tcb x).m3), .int .u8 ((S.tcb x).len), .int .u8 ((S.tcb x).got), .int .u32 ((S.tcb x).xfer), .int .u32 ((S.tcb x).dst), .bool ((S.tcb x).grant), .bool ((S.tcb x).call)]), (105, .bool true)]) (φ := True) (rest := [6, 7, 8]) h663 (by kernel_rfl) rfl trivial fun a665 h666 => ?_
          clear h663
          refine nd_op ?_
          refine op_new tabOk (cells := [.int .u8 0, .int .u8 0, .int .u16 0, .int .u32 0, .int .u16 0, .int .u32 0, .int .u16 0, .int .u32 0, .int .u64 0, .int .u64 0, .int .u64 0, .int .u64 0, .int .u64 0, .int .u8 0, .int .u8 0, .int .u32 0, .int .u32 0, .bool false, .bool false]) (ty := 59) (ln := none) (L1 := fun b667 => [(kb, ⟨kC bo bc S, 90, true⟩), (bo, ⟨stC E, 131, true⟩), (0, ⟨[.int .u16 0, .int .u32 0], ty0, true⟩), (rb390, ⟨cs391, 39, true⟩), (b401, ⟨[.int .u16 ((refP E (x : Int)).idx), .int .u32 ((refP E (x : Int)).gen)], 39, false⟩), (b667, ⟨[.int .u8 0, .int .u8 0, .int .u16 0, .int .u32 0, .int .u16 0, .int .u32 0, .int .u16 0, .int .u32 0, .int .u64 0, .int .u64 0, .int .u64 0, .int .u64 0, .int .u64 0, .int .u8 0, .int .u8 0, .int .u32 0, .int .u32 0, .bool false, .bool false], 59, false⟩)]) h666 rfl rfl rfl rfl (by kernel_rfl) (fun _ => rfl) fun b667 w668 a669 h670 hf671 hn672 => ?_
          clear h666
          refine nd_op ?_
          refine op_store tabOk {k := 5} (L' := [(kb, ⟨kC bo bc S, 90, true⟩), (bo, ⟨stC E, 131, true⟩), (0, ⟨[.int .u16 0, .int .u32 0], ty0, true⟩), (rb390, ⟨cs391, 39, true⟩), (b401, ⟨[.int .u16 ((refP E (x : Int)).idx), .int .u32 ((refP E (x : Int)).gen)], 39, false⟩), (b667, ⟨[.int .u8 4, .int .u8 ((S.tcb x).prio), .int .u16 ((S.tcb x).wait.idx), .int .u32 ((S.tcb x).wait.gen), .int .u16 ((S.tcb x).cs.idx), .int .u32 ((S.tcb x).cs.gen), .int .u16 ((S.tcb x).rep.idx), .int .u32 ((S.tcb x).rep.gen), .int .u64 ((S.tcb x).badge), .int .u64 ((S.tcb x).m0), .int .u64 ((S.tcb x).m1), .int .u64 ((S.tcb x).m2), .int .u64 ((S.tcb x).m3), .int .u8 ((S.tcb x).len), .int .u8 ((S.tcb x).got), .int .u32 ((S.tcb x).xfer), .int .u32 ((S.tcb x).dst), .bool ((S.tcb x).grant), .bool ((S.tcb x).call)], 59, false⟩)]) (φ := b667 = b667 ∧ Nat.ble (0 + 19) 19 = true) h670 rfl rfl rfl (by kernel_rfl) ⟨rfl, rfl⟩ fun w673 h674 => ?_
          clear h670
          refine nd_batch tabOk tabZ_ok [(8, {})] [19, 18, 94, 0, 2, 3, 4, 8, 95, 96, 16] (T' := [(19, .pointer (some ⟨b667, 0, none⟩)), (18, .pointer (some ⟨b401, 0, none⟩)), (94, .slice (some ⟨rb390, 0, none⟩) ((liveP E 3 256).length) c368), (0, .pointer (some ⟨kb, 0, none⟩)), (2, .bool false), (3, .map (some m1)), (4, .map (some m2)), (8, .pointer (some ⟨bo, 0, none⟩)), (95, .int .i64 (((liveP E 3 256).length : Nat) : Int)), (96, .int .i64 j), (16, .int .i64 n)]) (φ := True) (rest := []) h674 (by kernel_rfl) rfl trivial fun a675 h676 => ?_
          clear h674
          refine nd_done ?_
          refine hK409 _ _ ?_
          clear hK409
          refine wp_seq_k fun K677 hK677 => ?_
          refine nd_start (l := [0, 1, 2, 3]) rfl ?_
          refine nd_batch tabOk tabZ_ok [(0, {}), (1, {k := 4})] [19, 18, 94, 0, 2, 3, 4, 8, 95, 96, 16, 106, 107] (T' := [(19, .pointer (some ⟨b667, 0, none⟩)), (18, .pointer (some ⟨b401, 0, none⟩)), (94, .slice (some ⟨rb390, 0, none⟩) ((liveP E 3 256).length) c368), (0, .pointer (some ⟨kb, 0, none⟩)), (2, .bool false), (3, .map (some m1)), (4, .map (some m2)), (8, .pointer (some ⟨bo, 0, none⟩)), (95, .int .i64 (((liveP E 3 256).length : Nat) : Int)), (96, .int .i64 j), (16, .int .i64 n), (106, .map (some m1)), (107, .agg #[.int .u16 ((refP E (x : Int)).idx), .int .u32 ((refP E (x : Int)).gen)])]) (φ := (b401 = b401 ∧ Nat.ble (0 + 2) 2 = true) ∧ True) (rest := [2, 3]) h676 (by kernel_rfl) rfl ⟨⟨rfl, rfl⟩, trivial⟩ fun a678 h679 => ?_
          clear h676
          refine nd_op ?_
          refine op_plLook (e := (⟨x, (S.tcb x).wait, eo, ecp, eF, eb⟩ : Pe)) (pre := pre) (post := post) h679 rfl rfl rfl rfl rfl (by rw [← hps]; exact (h679.inv.get (j := 0) (p := pPl m1 c1 E ps) rfl)) hx256 hpre ?_
          have h680 := (h679).put (d := some 108) (v := .slice eo 1 ecp) (T' := [(108, .slice eo 1 ecp), (19, .pointer (some ⟨b667, 0, none⟩)), (18, .pointer (some ⟨b401, 0, none⟩)), (94, .slice (some ⟨rb390, 0, none⟩) ((liveP E 3 256).length) c368), (0, .pointer (some ⟨kb, 0, none⟩)), (2, .bool false), (3, .map (some m1)), (4, .map (some m2)), (8, .pointer (some ⟨bo, 0, none⟩)), (95, .int .i64 (((liveP E 3 256).length : Nat) : Int)), (96, .int .i64 j), (16, .int .i64 n), (106, .map (some m1)), (107, .agg #[.int .u16 ((refP E (x : Int)).idx), .int .u32 ((refP E (x : Int)).gen)])]) rfl
          have hszh680 : w.heap.size ≤ _ := h679.frame.size
          clear h679
          refine nd_batch tabOk tabZ_ok [(3, {})] [19, 18, 94, 0, 2, 3, 4, 8, 95, 96, 16, 21] (T' := [(19, .pointer (some ⟨b667, 0, none⟩)), (18, .pointer (some ⟨b401, 0, none⟩)), (94, .slice (some ⟨rb390, 0, none⟩) ((liveP E 3 256).length) c368), (0, .pointer (some ⟨kb, 0, none⟩)), (2, .bool false), (3, .map (some m1)), (4, .map (some m2)), (8, .pointer (some ⟨bo, 0, none⟩)), (95, .int .i64 (((liveP E 3 256).length : Nat) : Int)), (96, .int .i64 j), (16, .int .i64 n), (21, .slice eo 1 ecp)]) (φ := True) (rest := []) h680 (by kernel_rfl) rfl trivial fun a681 h682 => ?_
          clear h680
          refine nd_done ?_
          refine hK677 _ _ ?_
          clear hK677
          refine wp_seq_k fun K683 hK683 => ?_
          refine nd_start (l := [0, 1, 2]) rfl ?_
          refine nd_batch tabOk tabZ_ok [(0, {}), (1, {k := 4})] [19, 18, 94, 0, 2, 3, 4, 8, 95, 96, 16, 21, 109, 110] (T' := [(19, .pointer (some ⟨b667, 0, none⟩)), (18, .pointer (some ⟨b401, 0, none⟩)), (94, .slice (some ⟨rb390, 0, none⟩) ((liveP E 3 256).length) c368), (0, .pointer (some ⟨kb, 0, none⟩)), (2, .bool false), (3, .map (some m1)), (4, .map (some m2)), (8, .pointer (some ⟨bo, 0, none⟩)), (95, .int .i64 (((liveP E 3 256).length : Nat) : Int)), (96, .int .i64 j), (16, .int .i64 n), (21, .slice eo 1 ecp), (109, .map (some m1)), (110, .agg #[.int .u16 ((refP E (x : Int)).idx), .int .u32 ((refP E (x : Int)).gen)])]) (φ := (b401 = b401 ∧ Nat.ble (0 + 2) 2 = true) ∧ True) (rest := [2]) h682 (by kernel_rfl) rfl ⟨⟨rfl, rfl⟩, trivial⟩ fun a684 h685 => ?_
          clear h682
          refine nd_op ?_
          refine op_plDel (e := (⟨x, (S.tcb x).wait, eo, ecp, eF, eb⟩ : Pe)) (pre := pre) (post := post) h685 rfl rfl rfl rfl rfl (by rw [← hps]; exact (h685.inv.get (j := 0) (p := pPl m1 c1 E ps) rfl)) hx256 hpre ?_
          intro w686 hp687 hr689 hf688
          have hq690 := pl_part (mb := m1) (pre := pre) (post := post) (e := (⟨x, (S.tcb x).wait, eo, ecp, eF, eb⟩ : Pe)) (by rw [← hps]; exact ((h685.inv.get (j := 0) (p := pPl m1 c1 E ps) rfl)).nd)
          rw [← hps] at hq690
          have h691 := (St.pcPart h685 (j := 0) (p := pPl m1 c1 E ps) (p' := pPl m1 c1 E (pre ++ post)) (q := pRow (rl rfC 39 2 ([(S.tcb x).wait]) eo ecp eF)) (ps' := [pPl m1 c1 E (pre ++ post), pPr m2 c2 E qs, pRow (rl rfC 39 2 (liveP E 3 256) (some ⟨rb390, 0, none⟩) c368 ([rb390])), pRow (rl rfC 39 2 ([(S.tcb x).wait]) eo ecp eF)]) rfl (hp687.ok) (pRow_ok hr689) hq690.1 hq690.2.1 hq690.2.2 hf688 (fun b hb => by simp at hb; rw [hb]; exact List.mem_cons_self ..) (kcons (fun _ => (fun hq => by have := h685.inv.newOf (j := 0) (p := pPl m1 c1 E ps) rfl kb hq; omega)) (kcons (fun _ => (fun hq => by have := h685.inv.newOf (j := 0) (p := pPl m1 c1 E ps) rfl bo hq; omega)) (kcons (fun _ => (fun hq => by have := h685.inv.newOf (j := 0) (p := pPl m1 c1 E ps) rfl 0 hq; omega)) (kcons (fun _ => (fun hq => Pf_nodup h685.inv.nd (i := 2) (j := 0) (x := pRow (rl rfC 39 2 (liveP E 3 256) (some ⟨rb390, 0, none⟩) c368 ([rb390]))) (y := pPl m1 c1 E ps) rfl rfl (by decide) rb390 (by simp [pRow, rl]) hq)) (kcons (by intro hq; cases hq) (kcons (by intro hq; cases hq) knil)))))) rfl).put (d := none) (v := .tuple #[]) (T' := [(19, .pointer (some ⟨b667, 0, none⟩)), (18, .pointer (some ⟨b401, 0, none⟩)), (94, .slice (some ⟨rb390, 0, none⟩) ((liveP E 3 256).length) c368), (0, .pointer (some ⟨kb, 0, none⟩)), (2, .bool false), (3, .map (some m1)), (4, .map (some m2)), (8, .pointer (some ⟨bo, 0, none⟩)), (95, .int .i64 (((liveP E 3 256).length : Nat) : Int)), (96, .int .i64 j), (16, .int .i64 n), (21, .slice eo 1 ecp), (109, .map (some m1)), (110, .agg #[.int .u16 ((refP E (x : Int)).idx), .int .u32 ((refP E (x : Int)).gen)])]) rfl
          have hszh691 : w.heap.size ≤ _ := h685.frame.size
          clear h685
          obtain ⟨rb692, cs693, ho695, hb694, hrd697, hF696, _⟩ := rl_open (h691.inv.get (j := 3) (p := pRow (rl rfC 39 2 ([(S.tcb x).wait]) eo ecp eF)) rfl) rfC_len hr0
          subst ho695 hF696
          have h698 := h691.open_ hb694 (h691.notinL (by simp [Pf, pRow, rl]) (kcons (fun _ e => by have := h691.inv.newOf (j := 3) (p := pRow (rl rfC 39 2 ([(S.tcb x).wait]) (some ⟨rb692, 0, none⟩) ecp ([rb692]))) rfl rb692 (by simp [pRow, rl]); omega) (kcons (fun _ e => by have := h691.inv.newOf (j := 3) (p := pRow (rl rfC 39 2 ([(S.tcb x).wait]) (some ⟨rb692, 0, none⟩) ecp ([rb692]))) rfl rb692 (by simp [pRow, rl]); omega) (kcons (fun _ e => by have := h691.inv.newOf (j := 3) (p := pRow (rl rfC 39 2 ([(S.tcb x).wait]) (some ⟨rb692, 0, none⟩) ecp ([rb692]))) rfl rb692 (by simp [pRow, rl]); omega) (kcons (fun _ e => (fun hq => Pf_nodup h691.inv.nd (i := 2) (j := 3) (x := pRow (rl rfC 39 2 (liveP E 3 256) (some ⟨rb390, 0, none⟩) c368 ([rb390]))) (y := pRow (rl rfC 39 2 ([(S.tcb x).wait]) (some ⟨rb692, 0, none⟩) ecp ([rb692]))) rfl rfl (by decide) rb390 (by simp [pRow, rl]) hq) (by first | (have e9 : rb390 = rb692 := e; simp [pRow, rl, e9]) | (have e9 : rb692 = rb390 := e; simp [pRow, rl, e9]))) (kcons (by intro hq; cases hq) (kcons (by intro hq; cases hq) knil)))))))
          clear h691
          refine nd_done ?_
          refine hK683 _ _ ?_
          clear hK683
          refine wp_seq_k fun K699 hK699 => ?_
          refine nd_start (l := [0]) rfl ?_
          refine nd_batch tabOk tabZ_ok [(0, {})] [19, 18, 94, 0, 2, 3, 4, 8, 95, 96, 16, 21, 22] (T' := [(19, .pointer (some ⟨b667, 0, none⟩)), (18, .pointer (some ⟨b401, 0, none⟩)), (94, .slice (some ⟨rb390, 0, none⟩) ((liveP E 3 256).length) c368), (0, .pointer (some ⟨kb, 0, none⟩)), (2, .bool false), (3, .map (some m1)), (4, .map (some m2)), (8, .pointer (some ⟨bo, 0, none⟩)), (95, .int .i64 (((liveP E 3 256).length : Nat) : Int)), (96, .int .i64 j), (16, .int .i64 n), (21, .slice (some ⟨rb692, 0, none⟩) 1 ecp), (22, .bool false)]) (φ := True) (rest := []) h698 (by kernel_rfl) rfl trivial fun a700 h701 => ?_
          clear h698
          refine nd_done ?_
          refine hK699 _ _ ?_
          clear hK699
          refine wp_seq_k fun K702 hK702 => ?_
          refine wp_seq_k fun K703 hK703 => ?_
          refine nd_start (l := [0, 1]) rfl ?_
          refine nd_batch tabOk tabZ_ok [(0, {}), (1, {k := 5})] [19, 18, 94, 0, 2, 3, 4, 8, 95, 96, 16, 21, 22, 112] (T' := [(19, .pointer (some ⟨b667, 0, none⟩)), (18, .pointer (some ⟨b401, 0, none⟩)), (94, .slice (some ⟨rb390, 0, none⟩) ((liveP E 3 256).length) c368), (0, .pointer (some ⟨kb, 0, none⟩)), (2, .bool false), (3, .map (some m1)), (4, .map (some m2)), (8, .pointer (some ⟨bo, 0, none⟩)), (95, .int .i64 (((liveP E 3 256).length : Nat) : Int)), (96, .int .i64 j), (16, .int .i64 n), (21, .slice (some ⟨rb692, 0, none⟩) 1 ecp), (22, .bool false), (112, .int .u8 4)]) (φ := (b667 = b667 ∧ Nat.ble (0 + 1) 19 = true) ∧ True) (rest := []) h701 (by kernel_rfl) rfl ⟨⟨rfl, rfl⟩, trivial⟩ fun a704 h705 => ?_
          clear h701
          refine nd_done ?_
          refine hK703 _ _ ?_
          clear hK703
          refine wp_block ?_
          refine wp_seq_k fun K706 hK706 => ?_
          refine nd_start (l := [0, 1]) rfl ?_
          refine nd_batch tabOk tabZ_ok [(0, {}), (1, {})] [19, 18, 94, 0, 2, 3, 4, 8, 95, 96, 16, 21, 22, 112, 113] (T' := [(19, .pointer (some ⟨b667, 0, none⟩)), (18, .pointer (some ⟨b401, 0, none⟩)), (94, .slice (some ⟨rb390, 0, none⟩) ((liveP E 3 256).length) c368), (0, .pointer (some ⟨kb, 0, none⟩)), (2, .bool false), (3, .map (some m1)), (4, .map (some m2)), (8, .pointer (some ⟨bo, 0, none⟩)), (95, .int .i64 (((liveP E 3 256).length : Nat) : Int)), (96, .int .i64 j), (16, .int .i64 n), (21, .slice (some ⟨rb692, 0, none⟩) 1 ecp), (22, .bool false), (112, .int .u8 4), (113, .bool false)]) (φ := True) (rest := []) h705 (by kernel_rfl) rfl trivial fun a707 h708 => ?_
          clear h705
          refine nd_done ?_
          refine hK706 _ _ ?_
          clear hK706
          refine c_false h708 rfl ?_
          refine wp_seq_k fun K709 hK709 => ?_
          refine nd_start (l := [0, 1]) rfl ?_
          refine nd_batch tabOk tabZ_ok [(0, {}), (1, {})] [19, 18, 94, 0, 2, 3, 4, 8, 95, 96, 16, 21, 22, 112, 124] (T' := [(19, .pointer (some ⟨b667, 0, none⟩)), (18, .pointer (some ⟨b401, 0, none⟩)), (94, .slice (some ⟨rb390, 0, none⟩) ((liveP E 3 256).length) c368), (0, .pointer (some ⟨kb, 0, none⟩)), (2, .bool false), (3, .map (some m1)), (4, .map (some m2)), (8, .pointer (some ⟨bo, 0, none⟩)), (95, .int .i64 (((liveP E 3 256).length : Nat) : Int)), (96, .int .i64 j), (16, .int .i64 n), (21, .slice (some ⟨rb692, 0, none⟩) 1 ecp), (22, .bool false), (112, .int .u8 4), (124, .bool false)]) (φ := True) (rest := []) h708 (by kernel_rfl) rfl trivial fun a710 h711 => ?_
          clear h708
          refine nd_done ?_
          refine hK709 _ _ ?_
          clear hK709
          refine c_false h711 rfl ?_
          refine wp_seq_k fun K712 hK712 => ?_
          refine nd_start (l := [0, 1]) rfl ?_
          refine nd_batch tabOk tabZ_ok [(0, {}), (1, {})] [19, 18, 94, 0, 2, 3, 4, 8, 95, 96, 16, 21, 22, 112, 143] (T' := [(19, .pointer (some ⟨b667, 0, none⟩)), (18, .pointer (some ⟨b401, 0, none⟩)), (94, .slice (some ⟨rb390, 0, none⟩) ((liveP E 3 256).length) c368), (0, .pointer (some ⟨kb, 0, none⟩)), (2, .bool false), (3, .map (some m1)), (4, .map (some m2)), (8, .pointer (some ⟨bo, 0, none⟩)), (95, .int .i64 (((liveP E 3 256).length : Nat) : Int)), (96, .int .i64 j), (16, .int .i64 n), (21, .slice (some ⟨rb692, 0, none⟩) 1 ecp), (22, .bool false), (112, .int .u8 4), (143, .bool false)]) (φ := True) (rest := []) h711 (by kernel_rfl) rfl trivial fun a713 h714 => ?_
          clear h711
          refine nd_done ?_
          refine hK712 _ _ ?_
          clear hK712
          refine c_false h714 rfl ?_
          refine wp_seq_k fun K715 hK715 => ?_
          refine wp_seq_k fun K716 hK716 => ?_
          refine nd_start (l := [0, 1]) rfl ?_
          refine nd_batch tabOk tabZ_ok [(0, {}), (1, {})] [19, 18, 94, 0, 2, 3, 4, 8, 95, 96, 16, 21, 22, 112, 170] (T' := [(19, .pointer (some ⟨b667, 0, none⟩)), (18, .pointer (some ⟨b401, 0, none⟩)), (94, .slice (some ⟨rb390, 0, none⟩) ((liveP E 3 256).length) c368), (0, .pointer (some ⟨kb, 0, none⟩)), (2, .bool false), (3, .map (some m1)), (4, .map (some m2)), (8, .pointer (some ⟨bo, 0, none⟩)), (95, .int .i64 (((liveP E 3 256).length : Nat) : Int)), (96, .int .i64 j), (16, .int .i64 n), (21, .slice (some ⟨rb692, 0, none⟩) 1 ecp), (22, .bool false), (112, .int .u8 4), (170, .bool false)]) (φ := True) (rest := []) h714 (by kernel_rfl) rfl trivial fun a717 h718 => ?_
          clear h714
          refine nd_done ?_
          refine hK716 _ _ ?_
          clear hK716
          refine c_false h718 rfl ?_
          refine nd_start (l := [0, 1]) rfl ?_
          refine nd_batch tabOk tabZ_ok [(0, {}), (1, {})] [19, 18, 94, 0, 2, 3, 4, 8, 95, 96, 16, 21, 22, 112, 170] (T' := [(19, .pointer (some ⟨b667, 0, none⟩)), (18, .pointer (some ⟨b401, 0, none⟩)), (94, .slice (some ⟨rb390, 0, none⟩) ((liveP E 3 256).length) c368), (0, .pointer (some ⟨kb, 0, none⟩)), (2, .bool false), (3, .map (some m1)), (4, .map (some m2)), (8, .pointer (some ⟨bo, 0, none⟩)), (95, .int .i64 (((liveP E 3 256).length : Nat) : Int)), (96, .int .i64 j), (16, .int .i64 n), (21, .slice (some ⟨rb692, 0, none⟩) 1 ecp), (22, .bool false), (112, .int .u8 4), (170, .bool true)]) (φ := True) (rest := []) h718 (by kernel_rfl) rfl trivial fun a719 h720 => ?_
          clear h718
          refine nd_done ?_
          refine hK715 _ _ ?_
          clear hK715
          refine c_true h720 rfl ?_
          refine dr_start (KB := [kb, bo, 0, rb390, b401, b667, rb692]) (Bi := [[0, 1, 2, 3, 4, 5, 6], [0, 1, 2, 3, 4, 5, 6], [0, 1, 2, 3, 4, 5, 6], [0, 1, 2, 3, 4, 5, 6], [0, 1, 2, 3, 4, 5, 6], [0, 1, 2, 3, 4, 5, 6], [0, 1, 2, 3, 4, 5, 6], [0, 1, 2, 3, 4, 5, 6], [0, 1, 2, 3, 4, 5, 6], [0, 1, 2, 3, 4, 5, 6], [0, 1, 2, 3, 4, 5, 6], [0, 1, 2, 3, 4, 5, 6], [0, 1, 2, 3, 4, 5, 6], [0, 1, 2, 3, 4, 5, 6], [0, 1, 2, 3, 4, 5, 6], [], [0, 1, 2, 3, 4, 5, 6], [0, 1, 2, 3, 4, 5, 6], [0, 1, 2, 3, 4, 5, 6]]) mixed h720 fun w721 h722 => ?_
          clear h720
          refine dr_batch tabOk tabZ_ok (by repeat (first | with_reducible exact PF.body | with_reducible apply PF.inB | with_reducible apply PF.next)) [(0, {}), (1, {}), (2, {}), (3, {}), (4, {}), (5, {}), (6, {k := 6, m := 1, vs := [.int .u16 ((S.tcb x).wait.idx), .int .u32 ((S.tcb x).wait.gen)], p := 6}), (7, {}), (8, {k := 5, p := 5}), (9, {f := 2}), (10, {}), (11, {}), (12, {}), (13, {}), (14, {k := 5, p := 5})] [19, 18, 94, 0, 2, 3, 4, 8, 95, 96, 16, 21, 22, 112, 170, 184, 185, 187] (T' := [(19, .pointer (some ⟨b667, 0, none⟩)), (18, .pointer (some ⟨b401, 0, none⟩)), (94, .slice (some ⟨rb390, 0, none⟩) ((liveP E 3 256).length) c368), (0, .pointer (some ⟨kb, 0, none⟩)), (2, .bool false), (3, .map (some m1)), (4, .map (some m2)), (8, .pointer (some ⟨bo, 0, none⟩)), (95, .int .i64 (((liveP E 3 256).length : Nat) : Int)), (96, .int .i64 j), (16, .int .i64 n), (21, .slice (some ⟨rb692, 0, none⟩) 1 ecp), (22, .bool false), (112, .int .u8 4), (170, .bool true), (184, .bool true), (185, .pointer (some ⟨bo, 0, none⟩)), (187, .agg #[.int .u16 ((S.tcb x).wait.idx), .int .u32 ((S.tcb x).wait.gen)])]) (φ := (0 ≤ (0 : Int) ∧ (0 : Int) < 1) ∧ (rb692 = rb692 ∧ cellsAre cs693 0 [.int .u16 ((S.tcb x).wait.idx), .int .u32 ((S.tcb x).wait.gen)]) ∧ (b667 = b667 ∧ Nat.ble (2 + 2) 19 = true) ∧ EqRun Tryd.prog 39 (.agg #[.int .u16 ((S.tcb x).wait.idx), .int .u32 ((S.tcb x).wait.gen)]) (.agg #[.int .u16 ((S.tcb x).wait.idx), .int .u32 ((S.tcb x).wait.gen)]) true ∧ (b667 = b667 ∧ Nat.ble (2 + 2) 19 = true) ∧ True) (fuel := 4) h722 (by kernel_rfl) rfl (by kernel_rfl) (by kernel_rfl) ⟨trivial, trivial, trivial, trivial, trivial, trivial, rfl, trivial, rfl, trivial, trivial, trivial, trivial, trivial, rfl, trivial⟩ ⟨⟨by decide, by decide⟩, ⟨rfl, (by exact hrd697)⟩, ⟨rfl, rfl⟩, (runRfS (S.tcb x).wait), ⟨rfl, rfl⟩, trivial⟩ fun a724 h725 => ?_
          clear h722
          refine wpAnyK_one (i := 15) (fuel := 3) (by kernel_rfl) ?_
          refine op_call h725 rfl rfl rfl (callOk Tryd.func53 (by decide) rfl) (args := [.pointer (some ⟨bo, 0, none⟩), .agg #[.int .u16 ((S.tcb x).wait.idx), .int .u32 ((S.tcb x).wait.gen)]]) rfl ((by have hq := typeOf_ok bo E (S.tcb x).wait ⟨hwi.1, by omega⟩ _ (heap_fr hs h725.frame); rw [hty] at hq; exact hq)) ?_
          rintro _ w726 ⟨rfl, hf728⟩
          refine ⟨_, rfl, ?_⟩
          have h727 := (h725.grow hf728).put (d := some 188) (v := .int .u8 4) (T' := [(188, .int .u8 4), (19, .pointer (some ⟨b667, 0, none⟩)), (18, .pointer (some ⟨b401, 0, none⟩)), (94, .slice (some ⟨rb390, 0, none⟩) ((liveP E 3 256).length) c368), (0, .pointer (some ⟨kb, 0, none⟩)), (2, .bool false), (3, .map (some m1)), (4, .map (some m2)), (8, .pointer (some ⟨bo, 0, none⟩)), (95, .int .i64 (((liveP E 3 256).length : Nat) : Int)), (96, .int .i64 j), (16, .int .i64 n), (21, .slice (some ⟨rb692, 0, none⟩) 1 ecp), (22, .bool false), (112, .int .u8 4), (170, .bool true), (184, .bool true), (185, .pointer (some ⟨bo, 0, none⟩)), (187, .agg #[.int .u16 ((S.tcb x).wait.idx), .int .u32 ((S.tcb x).wait.gen)])]) rfl
          refine ⟨keepNil, ?_⟩
          clear h725
          refine dr_batch tabOk tabZ_ok (by repeat (first | with_reducible exact PF.body | with_reducible apply PF.inB | with_reducible apply PF.next)) [(16, {}), (17, {}), (18, {})] [19, 18, 94, 0, 2, 3, 4, 8, 95, 96, 16, 21, 112, 170, 22] (T' := [(19, .pointer (some ⟨b667, 0, none⟩)), (18, .pointer (some ⟨b401, 0, none⟩)), (94, .slice (some ⟨rb390, 0, none⟩) ((liveP E 3 256).length) c368), (0, .pointer (some ⟨kb, 0, none⟩)), (2, .bool false), (3, .map (some m1)), (4, .map (some m2)), (8, .pointer (some ⟨bo, 0, none⟩)), (95, .int .i64 (((liveP E 3 256).length : Nat) : Int)), (96, .int .i64 j), (16, .int .i64 n), (21, .slice (some ⟨rb692, 0, none⟩) 1 ecp), (112, .int .u8 4), (170, .bool true), (22, .bool true)]) (φ := True) (fuel := 0) h727 (by kernel_rfl) rfl (by kernel_rfl) (by kernel_rfl) ⟨trivial, trivial, trivial, trivial⟩ trivial fun a729 h730 => ?_
          clear h727
          refine wpAnyK_done (by kernel_rfl) ?_ _
          refine hK702 _ _ ?_
          clear hK702
          refine wp_seq_k fun K731 hK731 => ?_
          refine nd_start (l := [0, 1]) rfl ?_
          refine nd_batch tabOk tabZ_ok [(0, {}), (1, {})] [19, 18, 94, 0, 2, 3, 4, 8, 95, 96, 16, 21, 112, 170, 22, 224] (T' := [(19, .pointer (some ⟨b667, 0, none⟩)), (18, .pointer (some ⟨b401, 0, none⟩)), (94, .slice (some ⟨rb390, 0, none⟩) ((liveP E 3 256).length) c368), (0, .pointer (some ⟨kb, 0, none⟩)), (2, .bool false), (3, .map (some m1)), (4, .map (some m2)), (8, .pointer (some ⟨bo, 0, none⟩)), (95, .int .i64 (((liveP E 3 256).length : Nat) : Int)), (96, .int .i64 j), (16, .int .i64 n), (21, .slice (some ⟨rb692, 0, none⟩) 1 ecp), (112, .int .u8 4), (170, .bool true), (22, .bool true), (224, .bool false)]) (φ := True) (rest := []) h730 (by kernel_rfl) rfl trivial fun a732 h733 => ?_
          clear h730
          refine nd_done ?_
          refine hK731 _ _ ?_
          clear hK731
          refine c_false h733 rfl ?_
          refine wp_skip ?_
          refine hK397 _ _ ?_
          clear hK397
          refine nd_start (l := [0, 1]) rfl ?_
          refine nd_batch tabOk tabZ_ok [(0, {}), (1, {})] [19, 18, 94, 0, 2, 3, 4, 8, 95, 16, 21, 112, 170, 22, 96] (T' := [(19, .pointer (some ⟨b667, 0, none⟩)), (18, .pointer (some ⟨b401, 0, none⟩)), (94, .slice (some ⟨rb390, 0, none⟩) ((liveP E 3 256).length) c368), (0, .pointer (some ⟨kb, 0, none⟩)), (2, .bool false), (3, .map (some m1)), (4, .map (some m2)), (8, .pointer (some ⟨bo, 0, none⟩)), (95, .int .i64 (((liveP E 3 256).length : Nat) : Int)), (16, .int .i64 n), (21, .slice (some ⟨rb692, 0, none⟩) 1 ecp), (112, .int .u8 4), (170, .bool true), (22, .bool true), (96, .int .i64 (j + 1))]) (φ := inR .i64 (j + 1) ∧ True) (rest := []) h733 (by kernel_rfl) rfl ⟨⟨by omega, by omega⟩, trivial⟩ fun a734 h735 => ?_
          clear h733
          refine nd_done ?_
          have h736 := h735.memMono (L' := [(kb, ⟨kC bo bc S, 90, true⟩), (bo, ⟨stC E, 131, true⟩), (0, ⟨[.int .u16 0, .int .u32 0], ty0, true⟩)]) (List.Sublist.cons_cons _ (List.Sublist.cons_cons _ (List.Sublist.cons_cons _ (List.Sublist.cons _ (List.Sublist.cons _ (List.Sublist.cons _ (List.Sublist.cons _ List.Sublist.slnil)))))))
          clear h735
          have h737 := h736.pcSub (ps' := [pPl m1 c1 E (pre ++ post), pPr m2 c2 E qs, pRow (rl rfC 39 2 (liveP E 3 256) (some ⟨rb390, 0, none⟩) c368 ([rb390]))]) (List.Sublist.cons_cons _ (List.Sublist.cons_cons _ (List.Sublist.cons_cons _ (List.Sublist.cons _ List.Sublist.slnil))))
          clear h736
          exact ⟨(g - 1), by omega, (pre ++ post), (j + 1), n, by omega, ⟨by omega, by omega⟩, (by rw [show (j + 1).toNat = j.toNat + 1 by omega]; exact hP3'), (by rw [show (j + 1).toNat = j.toNat + 1 by omega]; exact hRn'), (h737.slotsMono (restr_spec (keep := [94, 0, 2, 3, 4, 8, 95, 96, 16]) rfl))⟩
        ·
          obtain ⟨hin, hty⟩ := in_wait (k := 5) hQ rS hX hx256 (by omega)
          obtain ⟨pre, eo, ecp, eF, eb, post, hps, hpre, hP3'⟩ := hP3.inn hxj hin
          have hr0 : [(S.tcb x).wait][0]? = some (S.tcb x).wait := rfl
          have hRn' := hRn.skip hQ hxj (by omega)
          refine op_call h411 rfl rfl rfl (callOk Tryd.func25 (by decide) rfl) (args := [.pointer (some ⟨kb, 0, none⟩), .agg #[.int .u16 ((refP E (x : Int)).idx), .int .u32 ((refP E (x : Int)).gen)]]) rfl ((by have hq := threadE kb bo bc S rS h256 (refP E (x : Int)) ⟨by rw [hrx]; omega, by rw [hrx]; omega⟩ _ (heap_fr hb h411.frame) (heap_fr hs h411.frame) hne hthr; unfold thC at hq; rw [hsx] at hq; exact hq)) ?_
          rintro _ w738 ⟨rfl, hf740⟩
          refine ⟨_, rfl, ?_⟩
          have h739 := (h411.grow hf740).put (d := some 103) (v := .tuple #[.agg #[.int .u8 5, .int .u8 ((S.tcb x).prio), .int .u16 ((S.tcb x).wait.idx), .int .u32 ((S.tcb x).wait.gen), .int .u16 ((S.tcb x).cs.idx), .int .u32 ((S.tcb x).cs.gen), .int .u16 ((S.tcb x).rep.idx), .int .u32 ((S.tcb x).rep.gen), .int .u64 ((S.tcb x).badge), .int .u64 ((S.tcb x).m0), .int .u64 ((S.tcb x).m1), .int .u64 ((S.tcb x).m2), .int .u64 ((S.tcb x).m3), .int .u8 ((S.tcb x).len), .int .u8 ((S.tcb x).got), .int .u32 ((S.tcb x).xfer), .int .u32 ((S.tcb x).dst), .bool ((S.tcb x).grant), .bool ((S.tcb x).call)], .bool true]) (T' := [(103, .tuple #[.agg #[.int .u8 5, .int .u8 ((S.tcb x).prio), .int .u16 ((S.tcb x).wait.idx), .int .u32 ((S.tcb x).wait.gen), .int .u16 ((S.tcb x).cs.idx), .int .u32 ((S.tcb x).cs.gen), .int .u16 ((S.tcb x).rep.idx), .int .u32 ((S.tcb x).rep.gen), .int .u64 ((S.tcb x).badge), .int .u64 ((S.tcb x).m0), .int .u64 ((S.tcb x).m1), .int .u64 ((S.tcb x).m2), .int .u64 ((S.tcb x).m3), .int .u8 ((S.tcb x).len), .int .u8 ((S.tcb x).got), .int .u32 ((S.tcb x).xfer), .int .u32 ((S.tcb x).dst), .bool ((S.tcb x).grant), .bool ((S.tcb x).call)], .bool true]), (18, .pointer (some ⟨b401, 0, none⟩)), (94, .slice (some ⟨rb390, 0, none⟩) ((liveP E 3 256).length) c368), (0, .pointer (some ⟨kb, 0, none⟩)), (2, .bool false), (3, .map (some m1)), (4, .map (some m2)), (8, .pointer (some ⟨bo, 0, none⟩)), (95, .int .i64 (((liveP E 3 256).length : Nat) : Int)), (96, .int .i64 j), (16, .int .i64 n), (101, .pointer (some ⟨kb, 0, none⟩)), (102, .agg #[.int .u16 ((refP E (x : Int)).idx), .int .u32 ((refP E (x : Int)).gen)])]) rfl
          clear h411
          refine nd_batch tabOk tabZ_ok [(3, {}), (4, {}), (5, {})] [18, 94, 0, 2, 3, 4, 8, 95, 96, 16, 104, 105] (T' := [(18, .pointer (some ⟨b401, 0, none⟩)), (94, .slice (some ⟨rb390, 0, none⟩) ((liveP E 3 256).length) c368), (0, .pointer (some ⟨kb, 0, none⟩)), (2, .bool false), (3, .map (some m1)), (4, .map (some m2)), (8, .pointer (some ⟨bo, 0, none⟩)), (95, .int .i64 (((liveP E 3 256).length : Nat) : Int)), (96, .int .i64 j), (16, .int .i64 n), (104, .agg #[.int .u8 5, .int .u8 ((S.tcb x).prio), .int .u16 ((S.tcb x).wait.idx), .int .u32 ((S.tcb x).wait.gen), .int .u16 ((S.tcb x).cs.idx), .int .u32 ((S.tcb x).cs.gen), .int .u16 ((S.tcb x).rep.idx), .int .u32 ((S.tcb x).rep.gen), .int .u64 ((S.tcb x).badge), .int .u64 ((S.tcb x).m0), .int .u64 ((S.tcb x).m1), .int .u64 ((S.tcb x).m2), .int .u64 ((S.tcb x).m3), .int .u8 ((S.tcb x).len), .int .u8 ((S.tcb x).got), .int .u32 ((S.tcb x).xfer), .int .u32 ((S.tcb x).dst), .bool ((S.tcb x).grant), .bool ((S.tcb x).call)]), (105, .bool true)]) (φ := True) (rest := [6, 7, 8]) h739 (by kernel_rfl) rfl trivial fun a741 h742 => ?_
          clear h739
          refine nd_op ?_
          refine op_new tabOk (cells := [.int .u8 0, .int .u8 0, .int .u16 0, .int .u32 0, .int .u16 0, .int .u32 0, .int .u16 0, .int .u32 0, .int .u64 0, .int .u64 0, .int .u64 0, .int .u64 0, .int .u64 0, .int .u8 0, .int .u8 0, .int .u32 0, .int .u32 0, .bool false, .bool false]) (ty := 59) (ln := none) (L1 := fun b743 => [(kb, ⟨kC bo bc S, 90, true⟩), (bo, ⟨stC E, 131, true⟩), (0, ⟨[.int .u16 0, .int .u32 0], ty0, true⟩), (rb390, ⟨cs391, 39, true⟩), (b401, ⟨[.int .u16 ((refP E (x : Int)).idx), .int .u32 ((refP E (x : Int)).gen)], 39, false⟩), (b743, ⟨[.int .u8 0, .int .u8 0, .int .u16 0, .int .u32 0, .int .u16 0, .int .u32 0, .int .u16 0, .int .u32 0, .int .u64 0, .int .u64 0, .int .u64 0, .int .u64 0, .int .u64 0, .int .u8 0, .int .u8 0, .int .u32 0, .int .u32 0, .bool false, .bool false], 59, false⟩)]) h742 rfl rfl rfl rfl (by kernel_rfl) (fun _ => rfl) fun b743 w744 a745 h746 hf747 hn748 => ?_
          clear h742
          refine nd_op ?_
          refine op_store tabOk {k := 5} (L' := [(kb, ⟨kC bo bc S, 90, true⟩), (bo, ⟨stC E, 131, true⟩), (0, ⟨[.int .u16 0, .int .u32 0], ty0, true⟩), (rb390, ⟨cs391, 39, true⟩), (b401, ⟨[.int .u16 ((refP E (x : Int)).idx), .int .u32 ((refP E (x : Int)).gen)], 39, false⟩), (b743, ⟨[.int .u8 5, .int .u8 ((S.tcb x).prio), .int .u16 ((S.tcb x).wait.idx), .int .u32 ((S.tcb x).wait.gen), .int .u16 ((S.tcb x).cs.idx), .int .u32 ((S.tcb x).cs.gen), .int .u16 ((S.tcb x).rep.idx), .int .u32 ((S.tcb x).rep.gen), .int .u64 ((S.tcb x).badge), .int .u64 ((S.tcb x).m0), .int .u64 ((S.tcb x).m1), .int .u64 ((S.tcb x).m2), .int .u64 ((S.tcb x).m3), .int .u8 ((S.tcb x).len), .int .u8 ((S.tcb x).got), .int .u32 ((S.tcb x).xfer), .int .u32 ((S.tcb x).dst), .bool ((S.tcb x).grant), .bool ((S.tcb x).call)], 59, false⟩)]) (φ := b743 = b743 ∧ Nat.ble (0 + 19) 19 = true) h746 rfl rfl rfl (by kernel_rfl) ⟨rfl, rfl⟩ fun w749 h750 => ?_
          clear h746
          refine nd_batch tabOk tabZ_ok [(8, {})] [19, 18, 94, 0, 2, 3, 4, 8, 95, 96, 16] (T' := [(19, .pointer (some ⟨b743, 0, none⟩)), (18, .pointer (some ⟨b401, 0, none⟩)), (94, .slice (some ⟨rb390, 0, none⟩) ((liveP E 3 256).length) c368), (0, .pointer (some ⟨kb, 0, none⟩)), (2, .bool false), (3, .map (some m1)), (4, .map (some m2)), (8, .pointer (some ⟨bo, 0, none⟩)), (95, .int .i64 (((liveP E 3 256).length : Nat) : Int)), (96, .int .i64 j), (16, .int .i64 n)]) (φ := True) (rest := []) h750 (by kernel_rfl) rfl trivial fun a751 h752 => ?_
          clear h750
          refine nd_done ?_
          refine hK409 _ _ ?_
          clear hK409
          refine wp_seq_k fun K753 hK753 => ?_
          refine nd_start (l := [0, 1, 2, 3]) rfl ?_
          refine nd_batch tabOk tabZ_ok [(0, {}), (1, {k := 4})] [19, 18, 94, 0, 2, 3, 4, 8, 95, 96, 16, 106, 107] (T' := [(19, .pointer (some ⟨b743, 0, none⟩)), (18, .pointer (some ⟨b401, 0, none⟩)), (94, .slice (some ⟨rb390, 0, none⟩) ((liveP E 3 256).length) c368), (0, .pointer (some ⟨kb, 0, none⟩)), (2, .bool false), (3, .map (some m1)), (4, .map (some m2)), (8, .pointer (some ⟨bo, 0, none⟩)), (95, .int .i64 (((liveP E 3 256).length : Nat) : Int)), (96, .int .i64 j), (16, .int .i64 n), (106, .map (some m1)), (107, .agg #[.int .u16 ((refP E (x : Int)).idx), .int .u32 ((refP E (x : Int)).gen)])]) (φ := (b401 = b401 ∧ Nat.ble (0 + 2) 2 = true) ∧ True) (rest := [2, 3]) h752 (by kernel_rfl) rfl ⟨⟨rfl, rfl⟩, trivial⟩ fun a754 h755 => ?_
          clear h752
          refine nd_op ?_
          refine op_plLook (e := (⟨x, (S.tcb x).wait, eo, ecp, eF, eb⟩ : Pe)) (pre := pre) (post := post) h755 rfl rfl rfl rfl rfl (by rw [← hps]; exact (h755.inv.get (j := 0) (p := pPl m1 c1 E ps) rfl)) hx256 hpre ?_
          have h756 := (h755).put (d := some 108) (v := .slice eo 1 ecp) (T' := [(108, .slice eo 1 ecp), (19, .pointer (some ⟨b743, 0, none⟩)), (18, .pointer (some ⟨b401, 0, none⟩)), (94, .slice (some ⟨rb390, 0, none⟩) ((liveP E 3 256).length) c368), (0, .pointer (some ⟨kb, 0, none⟩)), (2, .bool false), (3, .map (some m1)), (4, .map (some m2)), (8, .pointer (some ⟨bo, 0, none⟩)), (95, .int .i64 (((liveP E 3 256).length : Nat) : Int)), (96, .int .i64 j), (16, .int .i64 n), (106, .map (some m1)), (107, .agg #[.int .u16 ((refP E (x : Int)).idx), .int .u32 ((refP E (x : Int)).gen)])]) rfl
          have hszh756 : w.heap.size ≤ _ := h755.frame.size
          clear h755
          refine nd_batch tabOk tabZ_ok [(3, {})] [19, 18, 94, 0, 2, 3, 4, 8, 95, 96, 16, 21] (T' := [(19, .pointer (some ⟨b743, 0, none⟩)), (18, .pointer (some ⟨b401, 0, none⟩)), (94, .slice (some ⟨rb390, 0, none⟩) ((liveP E 3 256).length) c368), (0, .pointer (some ⟨kb, 0, none⟩)), (2, .bool false), (3, .map (some m1)), (4, .map (some m2)), (8, .pointer (some ⟨bo, 0, none⟩)), (95, .int .i64 (((liveP E 3 256).length : Nat) : Int)), (96, .int .i64 j), (16, .int .i64 n), (21, .slice eo 1 ecp)]) (φ := True) (rest := []) h756 (by kernel_rfl) rfl trivial fun a757 h758 => ?_
          clear h756
          refine nd_done ?_
          refine hK753 _ _ ?_
          clear hK753
          refine wp_seq_k fun K759 hK759 => ?_
          refine nd_start (l := [0, 1, 2]) rfl ?_
          refine nd_batch tabOk tabZ_ok [(0, {}), (1, {k := 4})] [19, 18, 94, 0, 2, 3, 4, 8, 95, 96, 16, 21, 109, 110] (T' := [(19, .pointer (some ⟨b743, 0, none⟩)), (18, .pointer (some ⟨b401, 0, none⟩)), (94, .slice (some ⟨rb390, 0, none⟩) ((liveP E 3 256).length) c368), (0, .pointer (some ⟨kb, 0, none⟩)), (2, .bool false), (3, .map (some m1)), (4, .map (some m2)), (8, .pointer (some ⟨bo, 0, none⟩)), (95, .int .i64 (((liveP E 3 256).length : Nat) : Int)), (96, .int .i64 j), (16, .int .i64 n), (21, .slice eo 1 ecp), (109, .map (some m1)), (110, .agg #[.int .u16 ((refP E (x : Int)).idx), .int .u32 ((refP E (x : Int)).gen)])]) (φ := (b401 = b401 ∧ Nat.ble (0 + 2) 2 = true) ∧ True) (rest := [2]) h758 (by kernel_rfl) rfl ⟨⟨rfl, rfl⟩, trivial⟩ fun a760 h761 => ?_
          clear h758
          refine nd_op ?_
          refine op_plDel (e := (⟨x, (S.tcb x).wait, eo, ecp, eF, eb⟩ : Pe)) (pre := pre) (post := post) h761 rfl rfl rfl rfl rfl (by rw [← hps]; exact (h761.inv.get (j := 0) (p := pPl m1 c1 E ps) rfl)) hx256 hpre ?_
          intro w762 hp763 hr765 hf764
          have hq766 := pl_part (mb := m1) (pre := pre) (post := post) (e := (⟨x, (S.tcb x).wait, eo, ecp, eF, eb⟩ : Pe)) (by rw [← hps]; exact ((h761.inv.get (j := 0) (p := pPl m1 c1 E ps) rfl)).nd)
          rw [← hps] at hq766
          have h767 := (St.pcPart h761 (j := 0) (p := pPl m1 c1 E ps) (p' := pPl m1 c1 E (pre ++ post)) (q := pRow (rl rfC 39 2 ([(S.tcb x).wait]) eo ecp eF)) (ps' := [pPl m1 c1 E (pre ++ post), pPr m2 c2 E qs, pRow (rl rfC 39 2 (liveP E 3 256) (some ⟨rb390, 0, none⟩) c368 ([rb390])), pRow (rl rfC 39 2 ([(S.tcb x).wait]) eo ecp eF)]) rfl (hp763.ok) (pRow_ok hr765) hq766.1 hq766.2.1 hq766.2.2 hf764 (fun b hb => by simp at hb; rw [hb]; exact List.mem_cons_self ..) (kcons (fun _ => (fun hq => by have := h761.inv.newOf (j := 0) (p := pPl m1 c1 E ps) rfl kb hq; omega)) (kcons (fun _ => (fun hq => by have := h761.inv.newOf (j := 0) (p := pPl m1 c1 E ps) rfl bo hq; omega)) (kcons (fun _ => (fun hq => by have := h761.inv.newOf (j := 0) (p := pPl m1 c1 E ps) rfl 0 hq; omega)) (kcons (fun _ => (fun hq => Pf_nodup h761.inv.nd (i := 2) (j := 0) (x := pRow (rl rfC 39 2 (liveP E 3 256) (some ⟨rb390, 0, none⟩) c368 ([rb390]))) (y := pPl m1 c1 E ps) rfl rfl (by decide) rb390 (by simp [pRow, rl]) hq)) (kcons (by intro hq; cases hq) (kcons (by intro hq; cases hq) knil)))))) rfl).put (d := none) (v := .tuple #[]) (T' := [(19, .pointer (some ⟨b743, 0, none⟩)), (18, .pointer (some ⟨b401, 0, none⟩)), (94, .slice (some ⟨rb390, 0, none⟩) ((liveP E 3 256).length) c368), (0, .pointer (some ⟨kb, 0, none⟩)), (2, .bool false), (3, .map (some m1)), (4, .map (some m2)), (8, .pointer (some ⟨bo, 0, none⟩)), (95, .int .i64 (((liveP E 3 256).length : Nat) : Int)), (96, .int .i64 j), (16, .int .i64 n), (21, .slice eo 1 ecp), (109, .map (some m1)), (110, .agg #[.int .u16 ((refP E (x : Int)).idx), .int .u32 ((refP E (x : Int)).gen)])]) rfl
          have hszh767 : w.heap.size ≤ _ := h761.frame.size
          clear h761
          obtain ⟨rb768, cs769, ho771, hb770, hrd773, hF772, _⟩ := rl_open (h767.inv.get (j := 3) (p := pRow (rl rfC 39 2 ([(S.tcb x).wait]) eo ecp eF)) rfl) rfC_len hr0
          subst ho771 hF772
          have h774 := h767.open_ hb770 (h767.notinL (by simp [Pf, pRow, rl]) (kcons (fun _ e => by have := h767.inv.newOf (j := 3) (p := pRow (rl rfC 39 2 ([(S.tcb x).wait]) (some ⟨rb768, 0, none⟩) ecp ([rb768]))) rfl rb768 (by simp [pRow, rl]); omega) (kcons (fun _ e => by have := h767.inv.newOf (j := 3) (p := pRow (rl rfC 39 2 ([(S.tcb x).wait]) (some ⟨rb768, 0, none⟩) ecp ([rb768]))) rfl rb768 (by simp [pRow, rl]); omega) (kcons (fun _ e => by have := h767.inv.newOf (j := 3) (p := pRow (rl rfC 39 2 ([(S.tcb x).wait]) (some ⟨rb768, 0, none⟩) ecp ([rb768]))) rfl rb768 (by simp [pRow, rl]); omega) (kcons (fun _ e => (fun hq => Pf_nodup h767.inv.nd (i := 2) (j := 3) (x := pRow (rl rfC 39 2 (liveP E 3 256) (some ⟨rb390, 0, none⟩) c368 ([rb390]))) (y := pRow (rl rfC 39 2 ([(S.tcb x).wait]) (some ⟨rb768, 0, none⟩) ecp ([rb768]))) rfl rfl (by decide) rb390 (by simp [pRow, rl]) hq) (by first | (have e9 : rb390 = rb768 := e; simp [pRow, rl, e9]) | (have e9 : rb768 = rb390 := e; simp [pRow, rl, e9]))) (kcons (by intro hq; cases hq) (kcons (by intro hq; cases hq) knil)))))))
          clear h767
          refine nd_done ?_
          refine hK759 _ _ ?_
          clear hK759
          refine wp_seq_k fun K775 hK775 => ?_
          refine nd_start (l := [0]) rfl ?_
          refine nd_batch tabOk tabZ_ok [(0, {})] [19, 18, 94, 0, 2, 3, 4, 8, 95, 96, 16, 21, 22] (T' := [(19, .pointer (some ⟨b743, 0, none⟩)), (18, .pointer (some ⟨b401, 0, none⟩)), (94, .slice (some ⟨rb390, 0, none⟩) ((liveP E 3 256).length) c368), (0, .pointer (some ⟨kb, 0, none⟩)), (2, .bool false), (3, .map (some m1)), (4, .map (some m2)), (8, .pointer (some ⟨bo, 0, none⟩)), (95, .int .i64 (((liveP E 3 256).length : Nat) : Int)), (96, .int .i64 j), (16, .int .i64 n), (21, .slice (some ⟨rb768, 0, none⟩) 1 ecp), (22, .bool false)]) (φ := True) (rest := []) h774 (by kernel_rfl) rfl trivial fun a776 h777 => ?_
          clear h774
          refine nd_done ?_
          refine hK775 _ _ ?_
          clear hK775
          refine wp_seq_k fun K778 hK778 => ?_
          refine wp_seq_k fun K779 hK779 => ?_
          refine nd_start (l := [0, 1]) rfl ?_
          refine nd_batch tabOk tabZ_ok [(0, {}), (1, {k := 5})] [19, 18, 94, 0, 2, 3, 4, 8, 95, 96, 16, 21, 22, 112] (T' := [(19, .pointer (some ⟨b743, 0, none⟩)), (18, .pointer (some ⟨b401, 0, none⟩)), (94, .slice (some ⟨rb390, 0, none⟩) ((liveP E 3 256).length) c368), (0, .pointer (some ⟨kb, 0, none⟩)), (2, .bool false), (3, .map (some m1)), (4, .map (some m2)), (8, .pointer (some ⟨bo, 0, none⟩)), (95, .int .i64 (((liveP E 3 256).length : Nat) : Int)), (96, .int .i64 j), (16, .int .i64 n), (21, .slice (some ⟨rb768, 0, none⟩) 1 ecp), (22, .bool false), (112, .int .u8 5)]) (φ := (b743 = b743 ∧ Nat.ble (0 + 1) 19 = true) ∧ True) (rest := []) h777 (by kernel_rfl) rfl ⟨⟨rfl, rfl⟩, trivial⟩ fun a780 h781 => ?_
          clear h777
          refine nd_done ?_
          refine hK779 _ _ ?_
          clear hK779
          refine wp_block ?_
          refine wp_seq_k fun K782 hK782 => ?_
          refine nd_start (l := [0, 1]) rfl ?_
          refine nd_batch tabOk tabZ_ok [(0, {}), (1, {})] [19, 18, 94, 0, 2, 3, 4, 8, 95, 96, 16, 21, 22, 112, 113] (T' := [(19, .pointer (some ⟨b743, 0, none⟩)), (18, .pointer (some ⟨b401, 0, none⟩)), (94, .slice (some ⟨rb390, 0, none⟩) ((liveP E 3 256).length) c368), (0, .pointer (some ⟨kb, 0, none⟩)), (2, .bool false), (3, .map (some m1)), (4, .map (some m2)), (8, .pointer (some ⟨bo, 0, none⟩)), (95, .int .i64 (((liveP E 3 256).length : Nat) : Int)), (96, .int .i64 j), (16, .int .i64 n), (21, .slice (some ⟨rb768, 0, none⟩) 1 ecp), (22, .bool false), (112, .int .u8 5), (113, .bool false)]) (φ := True) (rest := []) h781 (by kernel_rfl) rfl trivial fun a783 h784 => ?_
          clear h781
          refine nd_done ?_
          refine hK782 _ _ ?_
          clear hK782
          refine c_false h784 rfl ?_
          refine wp_seq_k fun K785 hK785 => ?_
          refine nd_start (l := [0, 1]) rfl ?_
          refine nd_batch tabOk tabZ_ok [(0, {}), (1, {})] [19, 18, 94, 0, 2, 3, 4, 8, 95, 96, 16, 21, 22, 112, 124] (T' := [(19, .pointer (some ⟨b743, 0, none⟩)), (18, .pointer (some ⟨b401, 0, none⟩)), (94, .slice (some ⟨rb390, 0, none⟩) ((liveP E 3 256).length) c368), (0, .pointer (some ⟨kb, 0, none⟩)), (2, .bool false), (3, .map (some m1)), (4, .map (some m2)), (8, .pointer (some ⟨bo, 0, none⟩)), (95, .int .i64 (((liveP E 3 256).length : Nat) : Int)), (96, .int .i64 j), (16, .int .i64 n), (21, .slice (some ⟨rb768, 0, none⟩) 1 ecp), (22, .bool false), (112, .int .u8 5), (124, .bool false)]) (φ := True) (rest := []) h784 (by kernel_rfl) rfl trivial fun a786 h787 => ?_
          clear h784
          refine nd_done ?_
          refine hK785 _ _ ?_
          clear hK785
          refine c_false h787 rfl ?_
          refine wp_seq_k fun K788 hK788 => ?_
          refine nd_start (l := [0, 1]) rfl ?_
          refine nd_batch tabOk tabZ_ok [(0, {}), (1, {})] [19, 18, 94, 0, 2, 3, 4, 8, 95, 96, 16, 21, 22, 112, 143] (T' := [(19, .pointer (some ⟨b743, 0, none⟩)), (18, .pointer (some ⟨b401, 0, none⟩)), (94, .slice (some ⟨rb390, 0, none⟩) ((liveP E 3 256).length) c368), (0, .pointer (some ⟨kb, 0, none⟩)), (2, .bool false), (3, .map (some m1)), (4, .map (some m2)), (8, .pointer (some ⟨bo, 0, none⟩)), (95, .int .i64 (((liveP E 3 256).length : Nat) : Int)), (96, .int .i64 j), (16, .int .i64 n), (21, .slice (some ⟨rb768, 0, none⟩) 1 ecp), (22, .bool false), (112, .int .u8 5), (143, .bool false)]) (φ := True) (rest := []) h787 (by kernel_rfl) rfl trivial fun a789 h790 => ?_
          clear h787
          refine nd_done ?_
          refine hK788 _ _ ?_
          clear hK788
          refine c_false h790 rfl ?_
          refine wp_seq_k fun K791 hK791 => ?_
          refine wp_seq_k fun K792 hK792 => ?_
          refine nd_start (l := [0, 1]) rfl ?_
          refine nd_batch tabOk tabZ_ok [(0, {}), (1, {})] [19, 18, 94, 0, 2, 3, 4, 8, 95, 96, 16, 21, 22, 112, 170] (T' := [(19, .pointer (some ⟨b743, 0, none⟩)), (18, .pointer (some ⟨b401, 0, none⟩)), (94, .slice (some ⟨rb390, 0, none⟩) ((liveP E 3 256).length) c368), (0, .pointer (some ⟨kb, 0, none⟩)), (2, .bool false), (3, .map (some m1)), (4, .map (some m2)), (8, .pointer (some ⟨bo, 0, none⟩)), (95, .int .i64 (((liveP E 3 256).length : Nat) : Int)), (96, .int .i64 j), (16, .int .i64 n), (21, .slice (some ⟨rb768, 0, none⟩) 1 ecp), (22, .bool false), (112, .int .u8 5), (170, .bool false)]) (φ := True) (rest := []) h790 (by kernel_rfl) rfl trivial fun a793 h794 => ?_
          clear h790
          refine nd_done ?_
          refine hK792 _ _ ?_
          clear hK792
          refine c_false h794 rfl ?_
          refine nd_start (l := [0, 1]) rfl ?_
          refine nd_batch tabOk tabZ_ok [(0, {}), (1, {})] [19, 18, 94, 0, 2, 3, 4, 8, 95, 96, 16, 21, 22, 112, 170] (T' := [(19, .pointer (some ⟨b743, 0, none⟩)), (18, .pointer (some ⟨b401, 0, none⟩)), (94, .slice (some ⟨rb390, 0, none⟩) ((liveP E 3 256).length) c368), (0, .pointer (some ⟨kb, 0, none⟩)), (2, .bool false), (3, .map (some m1)), (4, .map (some m2)), (8, .pointer (some ⟨bo, 0, none⟩)), (95, .int .i64 (((liveP E 3 256).length : Nat) : Int)), (96, .int .i64 j), (16, .int .i64 n), (21, .slice (some ⟨rb768, 0, none⟩) 1 ecp), (22, .bool false), (112, .int .u8 5), (170, .bool false)]) (φ := True) (rest := []) h794 (by kernel_rfl) rfl trivial fun a795 h796 => ?_
          clear h794
          refine nd_done ?_
          refine hK791 _ _ ?_
          clear hK791
          refine c_false h796 rfl ?_
          refine wp_seq_k fun K797 hK797 => ?_
          refine nd_start (l := [0, 1]) rfl ?_
          refine nd_batch tabOk tabZ_ok [(0, {}), (1, {})] [19, 18, 94, 0, 2, 3, 4, 8, 95, 96, 16, 21, 22, 112, 170, 191] (T' := [(19, .pointer (some ⟨b743, 0, none⟩)), (18, .pointer (some ⟨b401, 0, none⟩)), (94, .slice (some ⟨rb390, 0, none⟩) ((liveP E 3 256).length) c368), (0, .pointer (some ⟨kb, 0, none⟩)), (2, .bool false), (3, .map (some m1)), (4, .map (some m2)), (8, .pointer (some ⟨bo, 0, none⟩)), (95, .int .i64 (((liveP E 3 256).length : Nat) : Int)), (96, .int .i64 j), (16, .int .i64 n), (21, .slice (some ⟨rb768, 0, none⟩) 1 ecp), (22, .bool false), (112, .int .u8 5), (170, .bool false), (191, .bool true)]) (φ := True) (rest := []) h796 (by kernel_rfl) rfl trivial fun a798 h799 => ?_
          clear h796
          refine nd_done ?_
          refine hK797 _ _ ?_
          clear hK797
          refine c_true h799 rfl ?_
          refine dr_start (KB := [kb, bo, 0, rb390, b401, b743, rb768]) (Bi := [[0, 1, 2, 3, 4, 5, 6], [0, 1, 2, 3, 4, 5, 6], [0, 1, 2, 3, 4, 5, 6], [0, 1, 2, 3, 4, 5, 6], [0, 1, 2, 3, 4, 5, 6], [0, 1, 2, 3, 4, 5, 6], [0, 1, 2, 3, 4, 5, 6], [0, 1, 2, 3, 4, 5, 6], [0, 1, 2, 3, 4, 5, 6], [0, 1, 2, 3, 4, 5, 6], [0, 1, 2, 3, 4, 5, 6], [0, 1, 2, 3, 4, 5, 6], [0, 1, 2, 3, 4, 5, 6], [0, 1, 2, 3, 4, 5, 6], [0, 1, 2, 3, 4, 5, 6], [], [0, 1, 2, 3, 4, 5, 6], [0, 1, 2, 3, 4, 5, 6], [0, 1, 2, 3, 4, 5, 6]]) mixed h799 fun w800 h801 => ?_
          clear h799
          refine dr_batch tabOk tabZ_ok (by repeat (first | with_reducible exact PF.body | with_reducible apply PF.inB | with_reducible apply PF.next)) [(0, {}), (1, {}), (2, {}), (3, {}), (4, {}), (5, {}), (6, {k := 6, m := 1, vs := [.int .u16 ((S.tcb x).wait.idx), .int .u32 ((S.tcb x).wait.gen)], p := 6}), (7, {}), (8, {k := 5, p := 5}), (9, {f := 2}), (10, {}), (11, {}), (12, {}), (13, {}), (14, {k := 5, p := 5})] [19, 18, 94, 0, 2, 3, 4, 8, 95, 96, 16, 21, 22, 112, 170, 204, 205, 207] (T' := [(19, .pointer (some ⟨b743, 0, none⟩)), (18, .pointer (some ⟨b401, 0, none⟩)), (94, .slice (some ⟨rb390, 0, none⟩) ((liveP E 3 256).length) c368), (0, .pointer (some ⟨kb, 0, none⟩)), (2, .bool false), (3, .map (some m1)), (4, .map (some m2)), (8, .pointer (some ⟨bo, 0, none⟩)), (95, .int .i64 (((liveP E 3 256).length : Nat) : Int)), (96, .int .i64 j), (16, .int .i64 n), (21, .slice (some ⟨rb768, 0, none⟩) 1 ecp), (22, .bool false), (112, .int .u8 5), (170, .bool false), (204, .bool true), (205, .pointer (some ⟨bo, 0, none⟩)), (207, .agg #[.int .u16 ((S.tcb x).wait.idx), .int .u32 ((S.tcb x).wait.gen)])]) (φ := (0 ≤ (0 : Int) ∧ (0 : Int) < 1) ∧ (rb768 = rb768 ∧ cellsAre cs769 0 [.int .u16 ((S.tcb x).wait.idx), .int .u32 ((S.tcb x).wait.gen)]) ∧ (b743 = b743 ∧ Nat.ble (2 + 2) 19 = true) ∧ EqRun Tryd.prog 39 (.agg #[.int .u16 ((S.tcb x).wait.idx), .int .u32 ((S.tcb x).wait.gen)]) (.agg #[.int .u16 ((S.tcb x).wait.idx), .int .u32 ((S.tcb x).wait.gen)]) true ∧ (b743 = b743 ∧ Nat.ble (2 + 2) 19 = true) ∧ True) (fuel := 4) h801 (by kernel_rfl) rfl (by kernel_rfl) (by kernel_rfl) ⟨trivial, trivial, trivial, trivial, trivial, trivial, rfl, trivial, rfl, trivial, trivial, trivial, trivial, trivial, rfl, trivial⟩ ⟨⟨by decide, by decide⟩, ⟨rfl, (by exact hrd773)⟩, ⟨rfl, rfl⟩, (runRfS (S.tcb x).wait), ⟨rfl, rfl⟩, trivial⟩ fun a803 h804 => ?_
          clear h801
          refine wpAnyK_one (i := 15) (fuel := 3) (by kernel_rfl) ?_
          refine op_call h804 rfl rfl rfl (callOk Tryd.func53 (by decide) rfl) (args := [.pointer (some ⟨bo, 0, none⟩), .agg #[.int .u16 ((S.tcb x).wait.idx), .int .u32 ((S.tcb x).wait.gen)]]) rfl ((by have hq := typeOf_ok bo E (S.tcb x).wait ⟨hwi.1, by omega⟩ _ (heap_fr hs h804.frame); rw [hty] at hq; exact hq)) ?_
          rintro _ w805 ⟨rfl, hf807⟩
          refine ⟨_, rfl, ?_⟩
          have h806 := (h804.grow hf807).put (d := some 208) (v := .int .u8 5) (T' := [(208, .int .u8 5), (19, .pointer (some ⟨b743, 0, none⟩)), (18, .pointer (some ⟨b401, 0, none⟩)), (94, .slice (some ⟨rb390, 0, none⟩) ((liveP E 3 256).length) c368), (0, .pointer (some ⟨kb, 0, none⟩)), (2, .bool false), (3, .map (some m1)), (4, .map (some m2)), (8, .pointer (some ⟨bo, 0, none⟩)), (95, .int .i64 (((liveP E 3 256).length : Nat) : Int)), (96, .int .i64 j), (16, .int .i64 n), (21, .slice (some ⟨rb768, 0, none⟩) 1 ecp), (22, .bool false), (112, .int .u8 5), (170, .bool false), (204, .bool true), (205, .pointer (some ⟨bo, 0, none⟩)), (207, .agg #[.int .u16 ((S.tcb x).wait.idx), .int .u32 ((S.tcb x).wait.gen)])]) rfl
          refine ⟨keepNil, ?_⟩
          clear h804
          refine dr_batch tabOk tabZ_ok (by repeat (first | with_reducible exact PF.body | with_reducible apply PF.inB | with_reducible apply PF.next)) [(16, {}), (17, {}), (18, {})] [19, 18, 94, 0, 2, 3, 4, 8, 95, 96, 16, 21, 112, 170, 22] (T' := [(19, .pointer (some ⟨b743, 0, none⟩)), (18, .pointer (some ⟨b401, 0, none⟩)), (94, .slice (some ⟨rb390, 0, none⟩) ((liveP E 3 256).length) c368), (0, .pointer (some ⟨kb, 0, none⟩)), (2, .bool false), (3, .map (some m1)), (4, .map (some m2)), (8, .pointer (some ⟨bo, 0, none⟩)), (95, .int .i64 (((liveP E 3 256).length : Nat) : Int)), (96, .int .i64 j), (16, .int .i64 n), (21, .slice (some ⟨rb768, 0, none⟩) 1 ecp), (112, .int .u8 5), (170, .bool false), (22, .bool true)]) (φ := True) (fuel := 0) h806 (by kernel_rfl) rfl (by kernel_rfl) (by kernel_rfl) ⟨trivial, trivial, trivial, trivial⟩ trivial fun a808 h809 => ?_
          clear h806
          refine wpAnyK_done (by kernel_rfl) ?_ _
          refine hK778 _ _ ?_
          clear hK778
          refine wp_seq_k fun K810 hK810 => ?_
          refine nd_start (l := [0, 1]) rfl ?_
          refine nd_batch tabOk tabZ_ok [(0, {}), (1, {})] [19, 18, 94, 0, 2, 3, 4, 8, 95, 96, 16, 21, 112, 170, 22, 224] (T' := [(19, .pointer (some ⟨b743, 0, none⟩)), (18, .pointer (some ⟨b401, 0, none⟩)), (94, .slice (some ⟨rb390, 0, none⟩) ((liveP E 3 256).length) c368), (0, .pointer (some ⟨kb, 0, none⟩)), (2, .bool false), (3, .map (some m1)), (4, .map (some m2)), (8, .pointer (some ⟨bo, 0, none⟩)), (95, .int .i64 (((liveP E 3 256).length : Nat) : Int)), (96, .int .i64 j), (16, .int .i64 n), (21, .slice (some ⟨rb768, 0, none⟩) 1 ecp), (112, .int .u8 5), (170, .bool false), (22, .bool true), (224, .bool false)]) (φ := True) (rest := []) h809 (by kernel_rfl) rfl trivial fun a811 h812 => ?_
          clear h809
          refine nd_done ?_
          refine hK810 _ _ ?_
          clear hK810
          refine c_false h812 rfl ?_
          refine wp_skip ?_
          refine hK397 _ _ ?_
          clear hK397
          refine nd_start (l := [0, 1]) rfl ?_
          refine nd_batch tabOk tabZ_ok [(0, {}), (1, {})] [19, 18, 94, 0, 2, 3, 4, 8, 95, 16, 21, 112, 170, 22, 96] (T' := [(19, .pointer (some ⟨b743, 0, none⟩)), (18, .pointer (some ⟨b401, 0, none⟩)), (94, .slice (some ⟨rb390, 0, none⟩) ((liveP E 3 256).length) c368), (0, .pointer (some ⟨kb, 0, none⟩)), (2, .bool false), (3, .map (some m1)), (4, .map (some m2)), (8, .pointer (some ⟨bo, 0, none⟩)), (95, .int .i64 (((liveP E 3 256).length : Nat) : Int)), (16, .int .i64 n), (21, .slice (some ⟨rb768, 0, none⟩) 1 ecp), (112, .int .u8 5), (170, .bool false), (22, .bool true), (96, .int .i64 (j + 1))]) (φ := inR .i64 (j + 1) ∧ True) (rest := []) h812 (by kernel_rfl) rfl ⟨⟨by omega, by omega⟩, trivial⟩ fun a813 h814 => ?_
          clear h812
          refine nd_done ?_
          have h815 := h814.memMono (L' := [(kb, ⟨kC bo bc S, 90, true⟩), (bo, ⟨stC E, 131, true⟩), (0, ⟨[.int .u16 0, .int .u32 0], ty0, true⟩)]) (List.Sublist.cons_cons _ (List.Sublist.cons_cons _ (List.Sublist.cons_cons _ (List.Sublist.cons _ (List.Sublist.cons _ (List.Sublist.cons _ (List.Sublist.cons _ List.Sublist.slnil)))))))
          clear h814
          have h816 := h815.pcSub (ps' := [pPl m1 c1 E (pre ++ post), pPr m2 c2 E qs, pRow (rl rfC 39 2 (liveP E 3 256) (some ⟨rb390, 0, none⟩) c368 ([rb390]))]) (List.Sublist.cons_cons _ (List.Sublist.cons_cons _ (List.Sublist.cons_cons _ (List.Sublist.cons _ List.Sublist.slnil))))
          clear h815
          exact ⟨(g - 1), by omega, (pre ++ post), (j + 1), n, by omega, ⟨by omega, by omega⟩, (by rw [show (j + 1).toNat = j.toNat + 1 by omega]; exact hP3'), (by rw [show (j + 1).toNat = j.toNat + 1 by omega]; exact hRn'), (h816.slotsMono (restr_spec (keep := [94, 0, 2, 3, 4, 8, 95, 96, 16]) rfl))⟩
        ·
          obtain ⟨hpN, hP3'⟩ := hP3.out hxj (place_none (by omega) hQ)
          have hty : typeOfP E (S.tcb x).wait = 3 := xt.w6 hsx
          have hRn' := hRn.skip hQ hxj (by omega)
          refine op_call h411 rfl rfl rfl (callOk Tryd.func25 (by decide) rfl) (args := [.pointer (some ⟨kb, 0, none⟩), .agg #[.int .u16 ((refP E (x : Int)).idx), .int .u32 ((refP E (x : Int)).gen)]]) rfl ((by have hq := threadE kb bo bc S rS h256 (refP E (x : Int)) ⟨by rw [hrx]; omega, by rw [hrx]; omega⟩ _ (heap_fr hb h411.frame) (heap_fr hs h411.frame) hne hthr; unfold thC at hq; rw [hsx] at hq; exact hq)) ?_
          rintro _ w817 ⟨rfl, hf819⟩
          refine ⟨_, rfl, ?_⟩
          have h818 := (h411.grow hf819).put (d := some 103) (v := .tuple #[.agg #[.int .u8 6, .int .u8 ((S.tcb x).prio), .int .u16 ((S.tcb x).wait.idx), .int .u32 ((S.tcb x).wait.gen), .int .u16 ((S.tcb x).cs.idx), .int .u32 ((S.tcb x).cs.gen), .int .u16 ((S.tcb x).rep.idx), .int .u32 ((S.tcb x).rep.gen), .int .u64 ((S.tcb x).badge), .int .u64 ((S.tcb x).m0), .int .u64 ((S.tcb x).m1), .int .u64 ((S.tcb x).m2), .int .u64 ((S.tcb x).m3), .int .u8 ((S.tcb x).len), .int .u8 ((S.tcb x).got), .int .u32 ((S.tcb x).xfer), .int .u32 ((S.tcb x).dst), .bool ((S.tcb x).grant), .bool ((S.tcb x).call)], .bool true]) (T' := [(103, .tuple #[.agg #[.int .u8 6, .int .u8 ((S.tcb x).prio), .int .u16 ((S.tcb x).wait.idx), .int .u32 ((S.tcb x).wait.gen), .int .u16 ((S.tcb x).cs.idx), .int .u32 ((S.tcb x).cs.gen), .int .u16 ((S.tcb x).rep.idx), .int .u32 ((S.tcb x).rep.gen), .int .u64 ((S.tcb x).badge), .int .u64 ((S.tcb x).m0), .int .u64 ((S.tcb x).m1), .int .u64 ((S.tcb x).m2), .int .u64 ((S.tcb x).m3), .int .u8 ((S.tcb x).len), .int .u8 ((S.tcb x).got), .int .u32 ((S.tcb x).xfer), .int .u32 ((S.tcb x).dst), .bool ((S.tcb x).grant), .bool ((S.tcb x).call)], .bool true]), (18, .pointer (some ⟨b401, 0, none⟩)), (94, .slice (some ⟨rb390, 0, none⟩) ((liveP E 3 256).length) c368), (0, .pointer (some ⟨kb, 0, none⟩)), (2, .bool false), (3, .map (some m1)), (4, .map (some m2)), (8, .pointer (some ⟨bo, 0, none⟩)), (95, .int .i64 (((liveP E 3 256).length : Nat) : Int)), (96, .int .i64 j), (16, .int .i64 n), (101, .pointer (some ⟨kb, 0, none⟩)), (102, .agg #[.int .u16 ((refP E (x : Int)).idx), .int .u32 ((refP E (x : Int)).gen)])]) rfl
          clear h411
          refine nd_batch tabOk tabZ_ok [(3, {}), (4, {}), (5, {})] [18, 94, 0, 2, 3, 4, 8, 95, 96, 16, 104, 105] (T' := [(18, .pointer (some ⟨b401, 0, none⟩)), (94, .slice (some ⟨rb390, 0, none⟩) ((liveP E 3 256).length) c368), (0, .pointer (some ⟨kb, 0, none⟩)), (2, .bool false), (3, .map (some m1)), (4, .map (some m2)), (8, .pointer (some ⟨bo, 0, none⟩)), (95, .int .i64 (((liveP E 3 256).length : Nat) : Int)), (96, .int .i64 j), (16, .int .i64 n), (104, .agg #[.int .u8 6, .int .u8 ((S.tcb x).prio), .int .u16 ((S.tcb x).wait.idx), .int .u32 ((S.tcb x).wait.gen), .int .u16 ((S.tcb x).cs.idx), .int .u32 ((S.tcb x).cs.gen), .int .u16 ((S.tcb x).rep.idx), .int .u32 ((S.tcb x).rep.gen), .int .u64 ((S.tcb x).badge), .int .u64 ((S.tcb x).m0), .int .u64 ((S.tcb x).m1), .int .u64 ((S.tcb x).m2), .int .u64 ((S.tcb x).m3), .int .u8 ((S.tcb x).len), .int .u8 ((S.tcb x).got), .int .u32 ((S.tcb x).xfer), .int .u32 ((S.tcb x).dst), .bool ((S.tcb x).grant), .bool ((S.tcb x).call)]), (105, .bool true)]) (φ := True) (rest := [6, 7, 8]) h818 (by kernel_rfl) rfl trivial fun a820 h821 => ?_
          clear h818
          refine nd_op ?_
          refine op_new tabOk (cells := [.int .u8 0, .int .u8 0, .int .u16 0, .int .u32 0, .int .u16 0, .int .u32 0, .int .u16 0, .int .u32 0, .int .u64 0, .int .u64 0, .int .u64 0, .int .u64 0, .int .u64 0, .int .u8 0, .int .u8 0, .int .u32 0, .int .u32 0, .bool false, .bool false]) (ty := 59) (ln := none) (L1 := fun b822 => [(kb, ⟨kC bo bc S, 90, true⟩), (bo, ⟨stC E, 131, true⟩), (0, ⟨[.int .u16 0, .int .u32 0], ty0, true⟩), (rb390, ⟨cs391, 39, true⟩), (b401, ⟨[.int .u16 ((refP E (x : Int)).idx), .int .u32 ((refP E (x : Int)).gen)], 39, false⟩), (b822, ⟨[.int .u8 0, .int .u8 0, .int .u16 0, .int .u32 0, .int .u16 0, .int .u32 0, .int .u16 0, .int .u32 0, .int .u64 0, .int .u64 0, .int .u64 0, .int .u64 0, .int .u64 0, .int .u8 0, .int .u8 0, .int .u32 0, .int .u32 0, .bool false, .bool false], 59, false⟩)]) h821 rfl rfl rfl rfl (by kernel_rfl) (fun _ => rfl) fun b822 w823 a824 h825 hf826 hn827 => ?_
          clear h821
          refine nd_op ?_
          refine op_store tabOk {k := 5} (L' := [(kb, ⟨kC bo bc S, 90, true⟩), (bo, ⟨stC E, 131, true⟩), (0, ⟨[.int .u16 0, .int .u32 0], ty0, true⟩), (rb390, ⟨cs391, 39, true⟩), (b401, ⟨[.int .u16 ((refP E (x : Int)).idx), .int .u32 ((refP E (x : Int)).gen)], 39, false⟩), (b822, ⟨[.int .u8 6, .int .u8 ((S.tcb x).prio), .int .u16 ((S.tcb x).wait.idx), .int .u32 ((S.tcb x).wait.gen), .int .u16 ((S.tcb x).cs.idx), .int .u32 ((S.tcb x).cs.gen), .int .u16 ((S.tcb x).rep.idx), .int .u32 ((S.tcb x).rep.gen), .int .u64 ((S.tcb x).badge), .int .u64 ((S.tcb x).m0), .int .u64 ((S.tcb x).m1), .int .u64 ((S.tcb x).m2), .int .u64 ((S.tcb x).m3), .int .u8 ((S.tcb x).len), .int .u8 ((S.tcb x).got), .int .u32 ((S.tcb x).xfer), .int .u32 ((S.tcb x).dst), .bool ((S.tcb x).grant), .bool ((S.tcb x).call)], 59, false⟩)]) (φ := b822 = b822 ∧ Nat.ble (0 + 19) 19 = true) h825 rfl rfl rfl (by kernel_rfl) ⟨rfl, rfl⟩ fun w828 h829 => ?_
          clear h825
          refine nd_batch tabOk tabZ_ok [(8, {})] [19, 18, 94, 0, 2, 3, 4, 8, 95, 96, 16] (T' := [(19, .pointer (some ⟨b822, 0, none⟩)), (18, .pointer (some ⟨b401, 0, none⟩)), (94, .slice (some ⟨rb390, 0, none⟩) ((liveP E 3 256).length) c368), (0, .pointer (some ⟨kb, 0, none⟩)), (2, .bool false), (3, .map (some m1)), (4, .map (some m2)), (8, .pointer (some ⟨bo, 0, none⟩)), (95, .int .i64 (((liveP E 3 256).length : Nat) : Int)), (96, .int .i64 j), (16, .int .i64 n)]) (φ := True) (rest := []) h829 (by kernel_rfl) rfl trivial fun a830 h831 => ?_
          clear h829
          refine nd_done ?_
          refine hK409 _ _ ?_
          clear hK409
          refine wp_seq_k fun K832 hK832 => ?_
          refine nd_start (l := [0, 1, 2, 3]) rfl ?_
          refine nd_batch tabOk tabZ_ok [(0, {}), (1, {k := 4})] [19, 18, 94, 0, 2, 3, 4, 8, 95, 96, 16, 106, 107] (T' := [(19, .pointer (some ⟨b822, 0, none⟩)), (18, .pointer (some ⟨b401, 0, none⟩)), (94, .slice (some ⟨rb390, 0, none⟩) ((liveP E 3 256).length) c368), (0, .pointer (some ⟨kb, 0, none⟩)), (2, .bool false), (3, .map (some m1)), (4, .map (some m2)), (8, .pointer (some ⟨bo, 0, none⟩)), (95, .int .i64 (((liveP E 3 256).length : Nat) : Int)), (96, .int .i64 j), (16, .int .i64 n), (106, .map (some m1)), (107, .agg #[.int .u16 ((refP E (x : Int)).idx), .int .u32 ((refP E (x : Int)).gen)])]) (φ := (b401 = b401 ∧ Nat.ble (0 + 2) 2 = true) ∧ True) (rest := [2, 3]) h831 (by kernel_rfl) rfl ⟨⟨rfl, rfl⟩, trivial⟩ fun a833 h834 => ?_
          clear h831
          refine nd_op ?_
          refine op_plLookN (t := x) h834 rfl rfl rfl rfl rfl (h834.inv.get (j := 0) (p := pPl m1 c1 E ps) rfl) hx256 hpN ?_
          have h835 := (h834).put (d := some 108) (v := .slice none 0 0) (T' := [(108, .slice none 0 0), (19, .pointer (some ⟨b822, 0, none⟩)), (18, .pointer (some ⟨b401, 0, none⟩)), (94, .slice (some ⟨rb390, 0, none⟩) ((liveP E 3 256).length) c368), (0, .pointer (some ⟨kb, 0, none⟩)), (2, .bool false), (3, .map (some m1)), (4, .map (some m2)), (8, .pointer (some ⟨bo, 0, none⟩)), (95, .int .i64 (((liveP E 3 256).length : Nat) : Int)), (96, .int .i64 j), (16, .int .i64 n), (106, .map (some m1)), (107, .agg #[.int .u16 ((refP E (x : Int)).idx), .int .u32 ((refP E (x : Int)).gen)])]) rfl
          have hszh835 : w.heap.size ≤ _ := h834.frame.size
          clear h834
          refine nd_batch tabOk tabZ_ok [(3, {})] [19, 18, 94, 0, 2, 3, 4, 8, 95, 96, 16, 21] (T' := [(19, .pointer (some ⟨b822, 0, none⟩)), (18, .pointer (some ⟨b401, 0, none⟩)), (94, .slice (some ⟨rb390, 0, none⟩) ((liveP E 3 256).length) c368), (0, .pointer (some ⟨kb, 0, none⟩)), (2, .bool false), (3, .map (some m1)), (4, .map (some m2)), (8, .pointer (some ⟨bo, 0, none⟩)), (95, .int .i64 (((liveP E 3 256).length : Nat) : Int)), (96, .int .i64 j), (16, .int .i64 n), (21, .slice none 0 0)]) (φ := True) (rest := []) h835 (by kernel_rfl) rfl trivial fun a836 h837 => ?_
          clear h835
          refine nd_done ?_
          refine hK832 _ _ ?_
          clear hK832
          refine wp_seq_k fun K838 hK838 => ?_
          refine nd_start (l := [0, 1, 2]) rfl ?_
          refine nd_batch tabOk tabZ_ok [(0, {}), (1, {k := 4})] [19, 18, 94, 0, 2, 3, 4, 8, 95, 96, 16, 21, 109, 110] (T' := [(19, .pointer (some ⟨b822, 0, none⟩)), (18, .pointer (some ⟨b401, 0, none⟩)), (94, .slice (some ⟨rb390, 0, none⟩) ((liveP E 3 256).length) c368), (0, .pointer (some ⟨kb, 0, none⟩)), (2, .bool false), (3, .map (some m1)), (4, .map (some m2)), (8, .pointer (some ⟨bo, 0, none⟩)), (95, .int .i64 (((liveP E 3 256).length : Nat) : Int)), (96, .int .i64 j), (16, .int .i64 n), (21, .slice none 0 0), (109, .map (some m1)), (110, .agg #[.int .u16 ((refP E (x : Int)).idx), .int .u32 ((refP E (x : Int)).gen)])]) (φ := (b401 = b401 ∧ Nat.ble (0 + 2) 2 = true) ∧ True) (rest := [2]) h837 (by kernel_rfl) rfl ⟨⟨rfl, rfl⟩, trivial⟩ fun a839 h840 => ?_
          clear h837
          refine nd_op ?_
          refine op_plDelN (t := x) h840 rfl rfl rfl rfl rfl (h840.inv.get (j := 0) (p := pPl m1 c1 E ps) rfl) hx256 hpN ?_
          intro w841 hp842 hf843
          have h845 := (h840.pcSet (j := 0) (p := pPl m1 c1 E ps) (p' := pPl m1 c1 E ps) (ps' := [pPl m1 c1 E ps, pPr m2 c2 E qs, pRow (rl rfC 39 2 (liveP E 3 256) (some ⟨rb390, 0, none⟩) c368 ([rb390]))]) rfl (hp842.ok) hf843 (fun b hb => by simp at hb; rw [hb]; exact List.mem_cons_self ..) (fun b hb => .inl hb) (kcons (fun _ => (fun hq => by have := h840.inv.newOf (j := 0) (p := pPl m1 c1 E ps) rfl kb hq; omega)) (kcons (fun _ => (fun hq => by have := h840.inv.newOf (j := 0) (p := pPl m1 c1 E ps) rfl bo hq; omega)) (kcons (fun _ => (fun hq => by have := h840.inv.newOf (j := 0) (p := pPl m1 c1 E ps) rfl 0 hq; omega)) (kcons (fun _ => (fun hq => Pf_nodup h840.inv.nd (i := 2) (j := 0) (x := pRow (rl rfC 39 2 (liveP E 3 256) (some ⟨rb390, 0, none⟩) c368 ([rb390]))) (y := pPl m1 c1 E ps) rfl rfl (by decide) rb390 (by simp [pRow, rl]) hq)) (kcons (by intro hq; cases hq) (kcons (by intro hq; cases hq) knil)))))) rfl).put (d := none) (v := .tuple #[]) (T' := [(19, .pointer (some ⟨b822, 0, none⟩)), (18, .pointer (some ⟨b401, 0, none⟩)), (94, .slice (some ⟨rb390, 0, none⟩) ((liveP E 3 256).length) c368), (0, .pointer (some ⟨kb, 0, none⟩)), (2, .bool false), (3, .map (some m1)), (4, .map (some m2)), (8, .pointer (some ⟨bo, 0, none⟩)), (95, .int .i64 (((liveP E 3 256).length : Nat) : Int)), (96, .int .i64 j), (16, .int .i64 n), (21, .slice none 0 0), (109, .map (some m1)), (110, .agg #[.int .u16 ((refP E (x : Int)).idx), .int .u32 ((refP E (x : Int)).gen)])]) rfl
          have hszh845 : w.heap.size ≤ _ := h840.frame.size
          clear h840
          refine nd_done ?_
          refine hK838 _ _ ?_
          clear hK838
          refine wp_seq_k fun K846 hK846 => ?_
          refine nd_start (l := [0]) rfl ?_
          refine nd_batch tabOk tabZ_ok [(0, {})] [19, 18, 94, 0, 2, 3, 4, 8, 95, 96, 16, 21, 22] (T' := [(19, .pointer (some ⟨b822, 0, none⟩)), (18, .pointer (some ⟨b401, 0, none⟩)), (94, .slice (some ⟨rb390, 0, none⟩) ((liveP E 3 256).length) c368), (0, .pointer (some ⟨kb, 0, none⟩)), (2, .bool false), (3, .map (some m1)), (4, .map (some m2)), (8, .pointer (some ⟨bo, 0, none⟩)), (95, .int .i64 (((liveP E 3 256).length : Nat) : Int)), (96, .int .i64 j), (16, .int .i64 n), (21, .slice none 0 0), (22, .bool false)]) (φ := True) (rest := []) h845 (by kernel_rfl) rfl trivial fun a847 h848 => ?_
          clear h845
          refine nd_done ?_
          refine hK846 _ _ ?_
          clear hK846
          refine wp_seq_k fun K849 hK849 => ?_
          refine wp_seq_k fun K850 hK850 => ?_
          refine nd_start (l := [0, 1]) rfl ?_
          refine nd_batch tabOk tabZ_ok [(0, {}), (1, {k := 5})] [19, 18, 94, 0, 2, 3, 4, 8, 95, 96, 16, 21, 22, 112] (T' := [(19, .pointer (some ⟨b822, 0, none⟩)), (18, .pointer (some ⟨b401, 0, none⟩)), (94, .slice (some ⟨rb390, 0, none⟩) ((liveP E 3 256).length) c368), (0, .pointer (some ⟨kb, 0, none⟩)), (2, .bool false), (3, .map (some m1)), (4, .map (some m2)), (8, .pointer (some ⟨bo, 0, none⟩)), (95, .int .i64 (((liveP E 3 256).length : Nat) : Int)), (96, .int .i64 j), (16, .int .i64 n), (21, .slice none 0 0), (22, .bool false), (112, .int .u8 6)]) (φ := (b822 = b822 ∧ Nat.ble (0 + 1) 19 = true) ∧ True) (rest := []) h848 (by kernel_rfl) rfl ⟨⟨rfl, rfl⟩, trivial⟩ fun a851 h852 => ?_
          clear h848
          refine nd_done ?_
          refine hK850 _ _ ?_
          clear hK850
          refine wp_block ?_
          refine wp_seq_k fun K853 hK853 => ?_
          refine nd_start (l := [0, 1]) rfl ?_
          refine nd_batch tabOk tabZ_ok [(0, {}), (1, {})] [19, 18, 94, 0, 2, 3, 4, 8, 95, 96, 16, 21, 22, 112, 113] (T' := [(19, .pointer (some ⟨b822, 0, none⟩)), (18, .pointer (some ⟨b401, 0, none⟩)), (94, .slice (some ⟨rb390, 0, none⟩) ((liveP E 3 256).length) c368), (0, .pointer (some ⟨kb, 0, none⟩)), (2, .bool false), (3, .map (some m1)), (4, .map (some m2)), (8, .pointer (some ⟨bo, 0, none⟩)), (95, .int .i64 (((liveP E 3 256).length : Nat) : Int)), (96, .int .i64 j), (16, .int .i64 n), (21, .slice none 0 0), (22, .bool false), (112, .int .u8 6), (113, .bool false)]) (φ := True) (rest := []) h852 (by kernel_rfl) rfl trivial fun a854 h855 => ?_
          clear h852
          refine nd_done ?_
          refine hK853 _ _ ?_
          clear hK853
          refine c_false h855 rfl ?_
          refine wp_seq_k fun K856 hK856 => ?_
          refine nd_start (l := [0, 1]) rfl ?_
          refine nd_batch tabOk tabZ_ok [(0, {}), (1, {})] [19, 18, 94, 0, 2, 3, 4, 8, 95, 96, 16, 21, 22, 112, 124] (T' := [(19, .pointer (some ⟨b822, 0, none⟩)), (18, .pointer (some ⟨b401, 0, none⟩)), (94, .slice (some ⟨rb390, 0, none⟩) ((liveP E 3 256).length) c368), (0, .pointer (some ⟨kb, 0, none⟩)), (2, .bool false), (3, .map (some m1)), (4, .map (some m2)), (8, .pointer (some ⟨bo, 0, none⟩)), (95, .int .i64 (((liveP E 3 256).length : Nat) : Int)), (96, .int .i64 j), (16, .int .i64 n), (21, .slice none 0 0), (22, .bool false), (112, .int .u8 6), (124, .bool false)]) (φ := True) (rest := []) h855 (by kernel_rfl) rfl trivial fun a857 h858 => ?_
          clear h855
          refine nd_done ?_
          refine hK856 _ _ ?_
          clear hK856
          refine c_false h858 rfl ?_
          refine wp_seq_k fun K859 hK859 => ?_
          refine nd_start (l := [0, 1]) rfl ?_
          refine nd_batch tabOk tabZ_ok [(0, {}), (1, {})] [19, 18, 94, 0, 2, 3, 4, 8, 95, 96, 16, 21, 22, 112, 143] (T' := [(19, .pointer (some ⟨b822, 0, none⟩)), (18, .pointer (some ⟨b401, 0, none⟩)), (94, .slice (some ⟨rb390, 0, none⟩) ((liveP E 3 256).length) c368), (0, .pointer (some ⟨kb, 0, none⟩)), (2, .bool false), (3, .map (some m1)), (4, .map (some m2)), (8, .pointer (some ⟨bo, 0, none⟩)), (95, .int .i64 (((liveP E 3 256).length : Nat) : Int)), (96, .int .i64 j), (16, .int .i64 n), (21, .slice none 0 0), (22, .bool false), (112, .int .u8 6), (143, .bool false)]) (φ := True) (rest := []) h858 (by kernel_rfl) rfl trivial fun a860 h861 => ?_
          clear h858
          refine nd_done ?_
          refine hK859 _ _ ?_
          clear hK859
          refine c_false h861 rfl ?_
          refine wp_seq_k fun K862 hK862 => ?_
          refine wp_seq_k fun K863 hK863 => ?_
          refine nd_start (l := [0, 1]) rfl ?_
          refine nd_batch tabOk tabZ_ok [(0, {}), (1, {})] [19, 18, 94, 0, 2, 3, 4, 8, 95, 96, 16, 21, 22, 112, 170] (T' := [(19, .pointer (some ⟨b822, 0, none⟩)), (18, .pointer (some ⟨b401, 0, none⟩)), (94, .slice (some ⟨rb390, 0, none⟩) ((liveP E 3 256).length) c368), (0, .pointer (some ⟨kb, 0, none⟩)), (2, .bool false), (3, .map (some m1)), (4, .map (some m2)), (8, .pointer (some ⟨bo, 0, none⟩)), (95, .int .i64 (((liveP E 3 256).length : Nat) : Int)), (96, .int .i64 j), (16, .int .i64 n), (21, .slice none 0 0), (22, .bool false), (112, .int .u8 6), (170, .bool false)]) (φ := True) (rest := []) h861 (by kernel_rfl) rfl trivial fun a864 h865 => ?_
          clear h861
          refine nd_done ?_
          refine hK863 _ _ ?_
          clear hK863
          refine c_false h865 rfl ?_
          refine nd_start (l := [0, 1]) rfl ?_
          refine nd_batch tabOk tabZ_ok [(0, {}), (1, {})] [19, 18, 94, 0, 2, 3, 4, 8, 95, 96, 16, 21, 22, 112, 170] (T' := [(19, .pointer (some ⟨b822, 0, none⟩)), (18, .pointer (some ⟨b401, 0, none⟩)), (94, .slice (some ⟨rb390, 0, none⟩) ((liveP E 3 256).length) c368), (0, .pointer (some ⟨kb, 0, none⟩)), (2, .bool false), (3, .map (some m1)), (4, .map (some m2)), (8, .pointer (some ⟨bo, 0, none⟩)), (95, .int .i64 (((liveP E 3 256).length : Nat) : Int)), (96, .int .i64 j), (16, .int .i64 n), (21, .slice none 0 0), (22, .bool false), (112, .int .u8 6), (170, .bool false)]) (φ := True) (rest := []) h865 (by kernel_rfl) rfl trivial fun a866 h867 => ?_
          clear h865
          refine nd_done ?_
          refine hK862 _ _ ?_
          clear hK862
          refine c_false h867 rfl ?_
          refine wp_seq_k fun K868 hK868 => ?_
          refine nd_start (l := [0, 1]) rfl ?_
          refine nd_batch tabOk tabZ_ok [(0, {}), (1, {})] [19, 18, 94, 0, 2, 3, 4, 8, 95, 96, 16, 21, 22, 112, 170, 191] (T' := [(19, .pointer (some ⟨b822, 0, none⟩)), (18, .pointer (some ⟨b401, 0, none⟩)), (94, .slice (some ⟨rb390, 0, none⟩) ((liveP E 3 256).length) c368), (0, .pointer (some ⟨kb, 0, none⟩)), (2, .bool false), (3, .map (some m1)), (4, .map (some m2)), (8, .pointer (some ⟨bo, 0, none⟩)), (95, .int .i64 (((liveP E 3 256).length : Nat) : Int)), (96, .int .i64 j), (16, .int .i64 n), (21, .slice none 0 0), (22, .bool false), (112, .int .u8 6), (170, .bool false), (191, .bool false)]) (φ := True) (rest := []) h867 (by kernel_rfl) rfl trivial fun a869 h870 => ?_
          clear h867
          refine nd_done ?_
          refine hK868 _ _ ?_
          clear hK868
          refine c_false h870 rfl ?_
          refine wp_seq_k fun K871 hK871 => ?_
          refine nd_start (l := [0, 1]) rfl ?_
          refine nd_batch tabOk tabZ_ok [(0, {}), (1, {})] [19, 18, 94, 0, 2, 3, 4, 8, 95, 96, 16, 21, 22, 112, 170, 211] (T' := [(19, .pointer (some ⟨b822, 0, none⟩)), (18, .pointer (some ⟨b401, 0, none⟩)), (94, .slice (some ⟨rb390, 0, none⟩) ((liveP E 3 256).length) c368), (0, .pointer (some ⟨kb, 0, none⟩)), (2, .bool false), (3, .map (some m1)), (4, .map (some m2)), (8, .pointer (some ⟨bo, 0, none⟩)), (95, .int .i64 (((liveP E 3 256).length : Nat) : Int)), (96, .int .i64 j), (16, .int .i64 n), (21, .slice none 0 0), (22, .bool false), (112, .int .u8 6), (170, .bool false), (211, .bool true)]) (φ := True) (rest := []) h870 (by kernel_rfl) rfl trivial fun a872 h873 => ?_
          clear h870
          refine nd_done ?_
          refine hK871 _ _ ?_
          clear hK871
          refine c_true h873 rfl ?_
          refine nd_start (l := [0, 1, 2, 3, 4, 5, 6, 7, 8, 9, 10]) rfl ?_
          refine nd_batch tabOk tabZ_ok [(0, {}), (1, {}), (2, {}), (3, {}), (4, {}), (5, {}), (6, {k := 5})] [19, 18, 94, 0, 2, 3, 4, 8, 95, 96, 16, 21, 22, 112, 170, 216, 217, 219] (T' := [(19, .pointer (some ⟨b822, 0, none⟩)), (18, .pointer (some ⟨b401, 0, none⟩)), (94, .slice (some ⟨rb390, 0, none⟩) ((liveP E 3 256).length) c368), (0, .pointer (some ⟨kb, 0, none⟩)), (2, .bool false), (3, .map (some m1)), (4, .map (some m2)), (8, .pointer (some ⟨bo, 0, none⟩)), (95, .int .i64 (((liveP E 3 256).length : Nat) : Int)), (96, .int .i64 j), (16, .int .i64 n), (21, .slice none 0 0), (22, .bool false), (112, .int .u8 6), (170, .bool false), (216, .bool true), (217, .pointer (some ⟨bo, 0, none⟩)), (219, .agg #[.int .u16 ((S.tcb x).wait.idx), .int .u32 ((S.tcb x).wait.gen)])]) (φ := (b822 = b822 ∧ Nat.ble (2 + 2) 19 = true) ∧ True) (rest := [7, 8, 9, 10]) h873 (by kernel_rfl) rfl ⟨⟨rfl, rfl⟩, trivial⟩ fun a874 h875 => ?_
          clear h873
          refine nd_op ?_
          refine op_call h875 rfl rfl rfl (callOk Tryd.func53 (by decide) rfl) (args := [.pointer (some ⟨bo, 0, none⟩), .agg #[.int .u16 ((S.tcb x).wait.idx), .int .u32 ((S.tcb x).wait.gen)]]) rfl ((by have hq := typeOf_ok bo E (S.tcb x).wait ⟨hwi.1, by omega⟩ _ (heap_fr hs h875.frame); rw [hty] at hq; exact hq)) ?_
          rintro _ w876 ⟨rfl, hf878⟩
          refine ⟨_, rfl, ?_⟩
          have h877 := (h875.grow hf878).put (d := some 220) (v := .int .u8 3) (T' := [(220, .int .u8 3), (19, .pointer (some ⟨b822, 0, none⟩)), (18, .pointer (some ⟨b401, 0, none⟩)), (94, .slice (some ⟨rb390, 0, none⟩) ((liveP E 3 256).length) c368), (0, .pointer (some ⟨kb, 0, none⟩)), (2, .bool false), (3, .map (some m1)), (4, .map (some m2)), (8, .pointer (some ⟨bo, 0, none⟩)), (95, .int .i64 (((liveP E 3 256).length : Nat) : Int)), (96, .int .i64 j), (16, .int .i64 n), (21, .slice none 0 0), (22, .bool false), (112, .int .u8 6), (170, .bool false), (216, .bool true), (217, .pointer (some ⟨bo, 0, none⟩)), (219, .agg #[.int .u16 ((S.tcb x).wait.idx), .int .u32 ((S.tcb x).wait.gen)])]) rfl
          clear h875
          refine nd_batch tabOk tabZ_ok [(8, {}), (9, {}), (10, {})] [19, 18, 94, 0, 2, 3, 4, 8, 95, 96, 16, 21, 112, 170, 22] (T' := [(19, .pointer (some ⟨b822, 0, none⟩)), (18, .pointer (some ⟨b401, 0, none⟩)), (94, .slice (some ⟨rb390, 0, none⟩) ((liveP E 3 256).length) c368), (0, .pointer (some ⟨kb, 0, none⟩)), (2, .bool false), (3, .map (some m1)), (4, .map (some m2)), (8, .pointer (some ⟨bo, 0, none⟩)), (95, .int .i64 (((liveP E 3 256).length : Nat) : Int)), (96, .int .i64 j), (16, .int .i64 n), (21, .slice none 0 0), (112, .int .u8 6), (170, .bool false), (22, .bool true)]) (φ := True) (rest := []) h877 (by kernel_rfl) rfl trivial fun a879 h880 => ?_
          clear h877
          refine nd_done ?_
          refine hK849 _ _ ?_
          clear hK849
          refine wp_seq_k fun K881 hK881 => ?_
          refine nd_start (l := [0, 1]) rfl ?_
          refine nd_batch tabOk tabZ_ok [(0, {}), (1, {})] [19, 18, 94, 0, 2, 3, 4, 8, 95, 96, 16, 21, 112, 170, 22, 224] (T' := [(19, .pointer (some ⟨b822, 0, none⟩)), (18, .pointer (some ⟨b401, 0, none⟩)), (94, .slice (some ⟨rb390, 0, none⟩) ((liveP E 3 256).length) c368), (0, .pointer (some ⟨kb, 0, none⟩)), (2, .bool false), (3, .map (some m1)), (4, .map (some m2)), (8, .pointer (some ⟨bo, 0, none⟩)), (95, .int .i64 (((liveP E 3 256).length : Nat) : Int)), (96, .int .i64 j), (16, .int .i64 n), (21, .slice none 0 0), (112, .int .u8 6), (170, .bool false), (22, .bool true), (224, .bool false)]) (φ := True) (rest := []) h880 (by kernel_rfl) rfl trivial fun a882 h883 => ?_
          clear h880
          refine nd_done ?_
          refine hK881 _ _ ?_
          clear hK881
          refine c_false h883 rfl ?_
          refine wp_skip ?_
          refine hK397 _ _ ?_
          clear hK397
          refine nd_start (l := [0, 1]) rfl ?_
          refine nd_batch tabOk tabZ_ok [(0, {}), (1, {})] [19, 18, 94, 0, 2, 3, 4, 8, 95, 16, 21, 112, 170, 22, 96] (T' := [(19, .pointer (some ⟨b822, 0, none⟩)), (18, .pointer (some ⟨b401, 0, none⟩)), (94, .slice (some ⟨rb390, 0, none⟩) ((liveP E 3 256).length) c368), (0, .pointer (some ⟨kb, 0, none⟩)), (2, .bool false), (3, .map (some m1)), (4, .map (some m2)), (8, .pointer (some ⟨bo, 0, none⟩)), (95, .int .i64 (((liveP E 3 256).length : Nat) : Int)), (16, .int .i64 n), (21, .slice none 0 0), (112, .int .u8 6), (170, .bool false), (22, .bool true), (96, .int .i64 (j + 1))]) (φ := inR .i64 (j + 1) ∧ True) (rest := []) h883 (by kernel_rfl) rfl ⟨⟨by omega, by omega⟩, trivial⟩ fun a884 h885 => ?_
          clear h883
          refine nd_done ?_
          have h886 := h885.memMono (L' := [(kb, ⟨kC bo bc S, 90, true⟩), (bo, ⟨stC E, 131, true⟩), (0, ⟨[.int .u16 0, .int .u32 0], ty0, true⟩)]) (List.Sublist.cons_cons _ (List.Sublist.cons_cons _ (List.Sublist.cons_cons _ (List.Sublist.cons _ (List.Sublist.cons _ (List.Sublist.cons _ List.Sublist.slnil))))))
          clear h885
          exact ⟨(g - 1), by omega, ps, (j + 1), n, by omega, ⟨by omega, by omega⟩, (by rw [show (j + 1).toNat = j.toNat + 1 by omega]; exact hP3'), (by rw [show (j + 1).toNat = j.toNat + 1 by omega]; exact hRn'), (h886.slotsMono (restr_spec (keep := [94, 0, 2, 3, 4, 8, 95, 96, 16]) rfl))⟩
      ·
        have hc389f : ¬ j < (((liveP E 3 256).length : Nat) : Int) := by simpa using hc389
        have hps0 : ps = [] := hP3.done hQ hX (by omega)
        rcases hRn.end_ hQ rS hX (by omega) with ⟨hcu, hn⟩ | ⟨hcu, hn⟩
        all_goals subst hn
        ·
          have hcn : refP E S.cur = ⟨0, 0⟩ := by unfold refP; rw [if_pos hcu]
          refine wp_exit ?_
          refine hK363 _ _ ?_
          clear hK363
          refine wp_seq_k fun K887 hK887 => ?_
          refine dr_start (KB := [kb, bo, 0]) (Bi := [[0, 1, 2], [], [0, 1, 2], [0, 1, 2], [0, 1, 2], [0, 1, 2], [0, 1, 2], [2], [0, 1, 2], [0, 1, 2], [0, 1, 2], [0, 1, 2], [0, 1, 2]]) mixed h387 fun w888 h889 => ?_
          clear h387
          refine dr_batch tabOk tabZ_ok (by repeat (first | with_reducible exact PF.body | with_reducible apply PF.inB | with_reducible apply PF.next)) [(0, {})] [94, 0, 2, 3, 4, 8, 95, 96, 16, 226] (T' := [(94, .slice o367 ((liveP E 3 256).length) c368), (0, .pointer (some ⟨kb, 0, none⟩)), (2, .bool false), (3, .map (some m1)), (4, .map (some m2)), (8, .pointer (some ⟨bo, 0, none⟩)), (95, .int .i64 (((liveP E 3 256).length : Nat) : Int)), (96, .int .i64 j), (16, .int .i64 0), (226, .map (some m1))]) (φ := True) (fuel := 12) h889 (by kernel_rfl) rfl (by kernel_rfl) (by kernel_rfl) ⟨trivial, trivial⟩ trivial fun a891 h892 => ?_
          clear h889
          refine wpAnyK_one (i := 1) (fuel := 11) (by kernel_rfl) ?_
          refine op_plLen h892 rfl rfl rfl rfl (h892.inv.get (j := 0) (p := pPl m1 c1 E ps) rfl) ?_
          rw [hps0]
          have h893 := (h892).put (d := some 227) (v := .int .i64 (([] : List Pe).length : Int)) (T' := [(227, .int .i64 (([] : List Pe).length : Int)), (94, .slice o367 ((liveP E 3 256).length) c368), (0, .pointer (some ⟨kb, 0, none⟩)), (2, .bool false), (3, .map (some m1)), (4, .map (some m2)), (8, .pointer (some ⟨bo, 0, none⟩)), (95, .int .i64 (((liveP E 3 256).length : Nat) : Int)), (96, .int .i64 j), (16, .int .i64 0), (226, .map (some m1))]) rfl
          have hkh893 := h892.known
          refine ⟨keepNil, ?_⟩
          have hszh893 : w.heap.size ≤ _ := h892.frame.size
          clear h892
          refine dr_batch tabOk tabZ_ok (by repeat (first | with_reducible exact PF.body | with_reducible apply PF.inB | with_reducible apply PF.next)) [(2, {f := 2}), (3, {}), (4, {}), (5, {}), (6, {}), (8, {k := 2, p := 2})] [94, 0, 2, 3, 4, 8, 95, 96, 16, 229, 231, 232, 234] (T' := [(94, .slice o367 ((liveP E 3 256).length) c368), (0, .pointer (some ⟨kb, 0, none⟩)), (2, .bool false), (3, .map (some m1)), (4, .map (some m2)), (8, .pointer (some ⟨bo, 0, none⟩)), (95, .int .i64 (((liveP E 3 256).length : Nat) : Int)), (96, .int .i64 j), (16, .int .i64 0), (229, .bool true), (231, .bool false), (232, .pointer (some ⟨kb, 0, none⟩)), (234, .agg #[.int .u16 0, .int .u32 0])]) (φ := (((([] : List Pe).length : Int) == 0)) = true ∧ (0 = 0 ∧ Nat.ble (0 + 2) 2 = true) ∧ True) (fuel := 5) h893 (by kernel_rfl) rfl (by kernel_rfl) (by kernel_rfl) ⟨trivial, trivial, trivial, trivial, trivial, rfl, trivial⟩ ⟨(by rfl), ⟨rfl, rfl⟩, trivial⟩ fun a894 h895 => ?_
          clear h893
          refine wpAnyK_one (i := 7) (fuel := 4) (by kernel_rfl) ?_
          refine op_call h895 rfl rfl rfl (callOk Tryd.func18 (by decide) rfl) (args := [.pointer (some ⟨kb, 0, none⟩)]) rfl ((by have hq := running_ok kb bo bc S rS E _ (heap_fr hb h895.frame) (heap_fr hs h895.frame) hne; rw [hcn] at hq; exact hq)) ?_
          rintro _ w896 ⟨rfl, hf898⟩
          refine ⟨_, rfl, ?_⟩
          have h897 := (h895.grow hf898).put (d := some 233) (v := .agg #[.int .u16 0, .int .u32 0]) (T' := [(233, .agg #[.int .u16 0, .int .u32 0]), (94, .slice o367 ((liveP E 3 256).length) c368), (0, .pointer (some ⟨kb, 0, none⟩)), (2, .bool false), (3, .map (some m1)), (4, .map (some m2)), (8, .pointer (some ⟨bo, 0, none⟩)), (95, .int .i64 (((liveP E 3 256).length : Nat) : Int)), (96, .int .i64 j), (16, .int .i64 0), (229, .bool true), (231, .bool false), (232, .pointer (some ⟨kb, 0, none⟩)), (234, .agg #[.int .u16 0, .int .u32 0])]) rfl
          refine ⟨(h895.keepFr hf898 (kcons (by simp) knil)), ?_⟩
          clear h895
          refine dr_batch tabOk tabZ_ok (by repeat (first | with_reducible exact PF.body | with_reducible apply PF.inB | with_reducible apply PF.next)) [(9, {f := 1}), (10, {}), (11, {}), (12, {})] [94, 0, 3, 4, 8, 95, 96, 16, 2] (T' := [(94, .slice o367 ((liveP E 3 256).length) c368), (0, .pointer (some ⟨kb, 0, none⟩)), (3, .map (some m1)), (4, .map (some m2)), (8, .pointer (some ⟨bo, 0, none⟩)), (95, .int .i64 (((liveP E 3 256).length : Nat) : Int)), (96, .int .i64 j), (16, .int .i64 0), (2, .bool true)]) (φ := EqRun Tryd.prog 39 (.agg #[.int .u16 0, .int .u32 0]) (.agg #[.int .u16 0, .int .u32 0]) true ∧ True) (fuel := 0) h897 (by kernel_rfl) rfl (by kernel_rfl) (by kernel_rfl) ⟨trivial, trivial, trivial, trivial, trivial⟩ ⟨(runRfS ⟨0, 0⟩), trivial⟩ fun a899 h900 => ?_
          clear h897
          refine wpAnyK_done (by kernel_rfl) ?_ _
          refine hK887 _ _ ?_
          clear hK887
          refine wp_ret ?_
          try simp only [Exit.then, Exit.inBlock]
          try rw [if_pos trivial]
          exact s_ret tabOk tabZ_ok h900 [(.tmp 2, {})] (vs := [.bool true]) (φ := True) rfl (by kernel_rfl) trivial ⟨rfl, h900.frame⟩
        ·
          have hcr := ref_live_none hG hcu
          refine wp_exit ?_
          refine hK363 _ _ ?_
          clear hK363
          refine wp_seq_k fun K901 hK901 => ?_
          refine dr_start (KB := [kb, bo, 0]) (Bi := [[0, 1, 2], [], [0, 1, 2], [0, 1, 2], [0, 1, 2], [0, 1, 2], [0, 1, 2], [2], [0, 1, 2], [0, 1, 2], [0, 1, 2], [0, 1, 2], [0, 1, 2]]) mixed h387 fun w902 h903 => ?_
          clear h387
          refine dr_batch tabOk tabZ_ok (by repeat (first | with_reducible exact PF.body | with_reducible apply PF.inB | with_reducible apply PF.next)) [(0, {})] [94, 0, 2, 3, 4, 8, 95, 96, 16, 226] (T' := [(94, .slice o367 ((liveP E 3 256).length) c368), (0, .pointer (some ⟨kb, 0, none⟩)), (2, .bool false), (3, .map (some m1)), (4, .map (some m2)), (8, .pointer (some ⟨bo, 0, none⟩)), (95, .int .i64 (((liveP E 3 256).length : Nat) : Int)), (96, .int .i64 j), (16, .int .i64 1), (226, .map (some m1))]) (φ := True) (fuel := 12) h903 (by kernel_rfl) rfl (by kernel_rfl) (by kernel_rfl) ⟨trivial, trivial⟩ trivial fun a905 h906 => ?_
          clear h903
          refine wpAnyK_one (i := 1) (fuel := 11) (by kernel_rfl) ?_
          refine op_plLen h906 rfl rfl rfl rfl (h906.inv.get (j := 0) (p := pPl m1 c1 E ps) rfl) ?_
          rw [hps0]
          have h907 := (h906).put (d := some 227) (v := .int .i64 (([] : List Pe).length : Int)) (T' := [(227, .int .i64 (([] : List Pe).length : Int)), (94, .slice o367 ((liveP E 3 256).length) c368), (0, .pointer (some ⟨kb, 0, none⟩)), (2, .bool false), (3, .map (some m1)), (4, .map (some m2)), (8, .pointer (some ⟨bo, 0, none⟩)), (95, .int .i64 (((liveP E 3 256).length : Nat) : Int)), (96, .int .i64 j), (16, .int .i64 1), (226, .map (some m1))]) rfl
          have hkh907 := h906.known
          refine ⟨keepNil, ?_⟩
          have hszh907 : w.heap.size ≤ _ := h906.frame.size
          clear h906
          refine dr_batch tabOk tabZ_ok (by repeat (first | with_reducible exact PF.body | with_reducible apply PF.inB | with_reducible apply PF.next)) [(2, {f := 2}), (3, {}), (4, {}), (5, {}), (6, {}), (8, {k := 2, p := 2})] [94, 0, 2, 3, 4, 8, 95, 96, 16, 229, 231, 232, 234] (T' := [(94, .slice o367 ((liveP E 3 256).length) c368), (0, .pointer (some ⟨kb, 0, none⟩)), (2, .bool false), (3, .map (some m1)), (4, .map (some m2)), (8, .pointer (some ⟨bo, 0, none⟩)), (95, .int .i64 (((liveP E 3 256).length : Nat) : Int)), (96, .int .i64 j), (16, .int .i64 1), (229, .bool true), (231, .bool true), (232, .pointer (some ⟨kb, 0, none⟩)), (234, .agg #[.int .u16 0, .int .u32 0])]) (φ := (((([] : List Pe).length : Int) == 0)) = true ∧ (0 = 0 ∧ Nat.ble (0 + 2) 2 = true) ∧ True) (fuel := 5) h907 (by kernel_rfl) rfl (by kernel_rfl) (by kernel_rfl) ⟨trivial, trivial, trivial, trivial, trivial, rfl, trivial⟩ ⟨(by rfl), ⟨rfl, rfl⟩, trivial⟩ fun a908 h909 => ?_
          clear h907
          refine wpAnyK_one (i := 7) (fuel := 4) (by kernel_rfl) ?_
          refine op_call h909 rfl rfl rfl (callOk Tryd.func18 (by decide) rfl) (args := [.pointer (some ⟨kb, 0, none⟩)]) rfl (running_ok kb bo bc S rS E _ (heap_fr hb h909.frame) (heap_fr hs h909.frame) hne) ?_
          rintro _ w910 ⟨rfl, hf912⟩
          refine ⟨_, rfl, ?_⟩
          have h911 := (h909.grow hf912).put (d := some 233) (v := .agg #[.int .u16 ((refP E S.cur).idx), .int .u32 ((refP E S.cur).gen)]) (T' := [(233, .agg #[.int .u16 ((refP E S.cur).idx), .int .u32 ((refP E S.cur).gen)]), (94, .slice o367 ((liveP E 3 256).length) c368), (0, .pointer (some ⟨kb, 0, none⟩)), (2, .bool false), (3, .map (some m1)), (4, .map (some m2)), (8, .pointer (some ⟨bo, 0, none⟩)), (95, .int .i64 (((liveP E 3 256).length : Nat) : Int)), (96, .int .i64 j), (16, .int .i64 1), (229, .bool true), (231, .bool true), (232, .pointer (some ⟨kb, 0, none⟩)), (234, .agg #[.int .u16 0, .int .u32 0])]) rfl
          refine ⟨(h909.keepFr hf912 (kcons (by simp) knil)), ?_⟩
          clear h909
          refine dr_batch tabOk tabZ_ok (by repeat (first | with_reducible exact PF.body | with_reducible apply PF.inB | with_reducible apply PF.next)) [(9, {f := 2}), (10, {}), (11, {}), (12, {})] [94, 0, 3, 4, 8, 95, 96, 16, 2] (T' := [(94, .slice o367 ((liveP E 3 256).length) c368), (0, .pointer (some ⟨kb, 0, none⟩)), (3, .map (some m1)), (4, .map (some m2)), (8, .pointer (some ⟨bo, 0, none⟩)), (95, .int .i64 (((liveP E 3 256).length : Nat) : Int)), (96, .int .i64 j), (16, .int .i64 1), (2, .bool true)]) (φ := EqRun Tryd.prog 39 (.agg #[.int .u16 ((refP E S.cur).idx), .int .u32 ((refP E S.cur).gen)]) (.agg #[.int .u16 0, .int .u32 0]) false ∧ True) (fuel := 0) h911 (by kernel_rfl) rfl (by kernel_rfl) (by kernel_rfl) ⟨trivial, trivial, trivial, trivial, trivial⟩ ⟨(runRfD (a := refP E S.cur) (b := ⟨0, 0⟩) (by simp [hcr])), trivial⟩ fun a913 h914 => ?_
          clear h911
          refine wpAnyK_done (by kernel_rfl) ?_ _
          refine hK901 _ _ ?_
          clear hK901
          refine wp_ret ?_
          try simp only [Exit.then, Exit.inBlock]
          try rw [if_pos trivial]
          exact s_ret tabOk tabZ_ok h914 [(.tmp 2, {})] (vs := [.bool true]) (φ := True) rfl (by kernel_rfl) trivial ⟨rfl, h914.frame⟩

end Go.Proofs.Qxb6500918aDoor
