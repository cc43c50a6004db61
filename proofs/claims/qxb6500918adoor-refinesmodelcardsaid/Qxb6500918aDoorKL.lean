/-
  below, the next to revoke. (Made by program: a symbolic walk that prints its steps.)
-/
import Derived.Test.Qxb6500918aDoorKK
import Derived.Test.Qxb6500918aDoorKv
namespace Go.Proofs.Qxb6500918aDoor
open Go.Sx Go.Kn
set_option maxRecDepth 100000
set_option maxHeartbeats 4000000
set_option linter.unusedVariables false
set_option linter.unusedSimpArgs false

theorem parentE (bo bc : Nat) (nd : Nat → Nat) (C : CP) {q : Nat} (hq : q < 4096) (hp : C.pres (q / 16) = true) {s : Int} (hs : s = (q : Int)) (w : World) (hc : CapAt w bo bc nd C) :
    Calls Tryd.prog 115 #[.pointer (some ⟨bc, 0, none⟩), .int .i64 s] w fun e w' => e = .returned (.int .i64 (C.cel s.toNat).parent) ∧ Fr [] w w' := by
  subst hs
  have h := parent_ok bo bc nd C.pres C.cel (q / 16) (q % 16) (by omega) (by omega) hp w hc.sp (hc.no (by omega) hp) (hc.n1 (by omega) hp).2.symm
  rw [show q / 16 * 16 + q % 16 = q by omega] at h
  rw [Int.toNat_natCast]
  exact h

theorem below_ok (bo bc : Nat) (nd : Nat → Nat) (C : CP) (hC : CI C) (x : Nat) (hx4 : x < 4096) (hxp : C.pres (x / 16) = true) (sl : Int) (w : World) (hc : CapAt w bo bc nd C) :
    Calls Tryd.prog 112 #[.pointer (some ⟨bc, 0, none⟩), .int .i64 (x : Int), .int .i64 sl] w fun e w' => e = .returned (.bool (belowP C.cel sl (C.cel x).parent)) ∧ Fr [] w w' := by
  obtain ⟨rk, hrk⟩ := hC.acyc
  refine enter (n := 19) (K := []) (A := fun w => CapAt w bo bc nd C) (F := (capF bo bc nd C)) (T := [(0, .pointer (some ⟨bc, 0, none⟩)), (1, .int .i64 ((x : Nat) : Int)), (2, .int .i64 sl)]) (L := []) (args := [.pointer (some ⟨bc, 0, none⟩), .int .i64 ((x : Nat) : Int), .int .i64 sl]) Tryd.func112 rfl rfl rfl rfl knil (by simp) knil hc CapAt.stable hc.low knil ?_
  intro a h
  refine wp_seq_k fun K1 hK1 => ?_
  refine nd_start (l := [0]) rfl ?_
  refine nd_batch tabOk tabZ_ok [(0, {})] [0, 1, 2, 6] (T' := [(0, .pointer (some ⟨bc, 0, none⟩)), (1, .int .i64 ((x : Nat) : Int)), (2, .int .i64 sl), (6, .bool false)]) (φ := True) (rest := []) h (by kernel_rfl) rfl trivial fun a2 h3 => ?_
  clear h
  refine nd_done ?_
  refine hK1 _ _ ?_
  clear hK1
  refine wp_seq_k fun K4 hK4 => ?_
  refine wp_seq_k fun K5 hK5 => ?_
  refine nd_start (l := [0, 1, 2, 3]) rfl ?_
  refine nd_batch tabOk tabZ_ok [(0, {}), (1, {})] [0, 1, 2, 6, 8, 9] (T' := [(0, .pointer (some ⟨bc, 0, none⟩)), (1, .int .i64 ((x : Nat) : Int)), (2, .int .i64 sl), (6, .bool false), (8, .pointer (some ⟨bc, 0, none⟩)), (9, .int .i64 ((x : Nat) : Int))]) (φ := True) (rest := [2, 3]) h3 (by kernel_rfl) rfl trivial fun a6 h7 => ?_
  clear h3
  refine nd_op ?_
  refine op_call h7 rfl rfl rfl (callOk Tryd.func115 (by decide) rfl) (args := [.pointer (some ⟨bc, 0, none⟩), .int .i64 ((x : Nat) : Int)]) rfl (parentE bo bc nd C hx4 hxp rfl _ h7.inv) ?_
  rintro _ w8 ⟨rfl, hf10⟩
  refine ⟨_, rfl, ?_⟩
  have h9 := (h7.grow hf10).put (d := some 10) (v := .int .i64 ((C.cel ((x : Nat) : Int).toNat).parent)) (T' := [(10, .int .i64 ((C.cel ((x : Nat) : Int).toNat).parent)), (0, .pointer (some ⟨bc, 0, none⟩)), (1, .int .i64 ((x : Nat) : Int)), (2, .int .i64 sl), (6, .bool false), (8, .pointer (some ⟨bc, 0, none⟩)), (9, .int .i64 ((x : Nat) : Int))]) rfl
  clear h7
  refine nd_batch tabOk tabZ_ok [(3, {})] [0, 1, 2, 6, 7] (T' := [(0, .pointer (some ⟨bc, 0, none⟩)), (1, .int .i64 ((x : Nat) : Int)), (2, .int .i64 sl), (6, .bool false), (7, .int .i64 ((C.cel ((x : Nat) : Int).toNat).parent))]) (φ := True) (rest := []) h9 (by kernel_rfl) rfl trivial fun a11 h12 => ?_
  clear h9
  refine nd_done ?_
  refine hK5 _ _ ?_
  clear hK5
  refine wp_block ?_
  refine wp_loop_ghost (fun g ga gw => ∃ (p : Int), (Anc C.cel sl p ↔ Anc C.cel sl (C.cel x).parent) ∧ (p = -1 ∨ ∃ q : Nat, p = (q : Int) ∧ Full C q ∧ rk q < g) ∧ St ⟨19, [], w, fun w => CapAt w bo bc nd C, (capF bo bc nd C)⟩ [(0, .pointer (some ⟨bc, 0, none⟩)), (1, .int .i64 ((x : Nat) : Int)), (2, .int .i64 sl), (6, .bool false), (7, .int .i64 p)] [] ga gw) (rk x) ⟨((C.cel ((x : Nat) : Int).toNat).parent), (by rw [Int.toNat_natCast]), (by rw [Int.toNat_natCast]; exact (hC.par hx4 hxp).imp id (fun ⟨r, h1, h2, _⟩ => ⟨r, h1, h2, hrk hx4 hxp h1⟩)), (h12.slotsMono (restr_spec (keep := [0, 1, 2, 6, 7]) rfl))⟩ ?_
  clear h12
  rintro g a13 w14 ⟨p, hi16, hi17, h15⟩
  have hanc := hi16
  have hpp := hi17
  refine wp_seq_k fun K18 hK18 => ?_
  refine wp_seq_k fun K19 hK19 => ?_
  refine nd_start (l := [0, 1]) rfl ?_
  refine nd_batch tabOk tabZ_ok [(0, {}), (1, {})] [0, 1, 2, 6, 7, 12] (T' := [(0, .pointer (some ⟨bc, 0, none⟩)), (1, .int .i64 ((x : Nat) : Int)), (2, .int .i64 sl), (6, .bool false), (7, .int .i64 p), (12, .bool (p != -1))]) (φ := True) (rest := []) h15 (by kernel_rfl) rfl trivial fun a20 h21 => ?_
  clear h15
  refine nd_done ?_
  refine hK19 _ _ ?_
  clear hK19
  refine c_split h21 (b := (p != -1)) rfl (fun hc22 => ?_) (fun hc22 => ?_)
  ·
    have hc22f : p ≠ -1 := by simpa using hc22
    obtain ⟨q, hpq, hq, hrq⟩ := hpp.resolve_left hc22f
    refine wp_skip ?_
    refine hK18 _ _ ?_
    clear hK18
    refine wp_seq_k fun K23 hK23 => ?_
    refine wp_block ?_
    refine wp_seq_k fun K24 hK24 => ?_
    refine nd_start (l := [0, 1, 2]) rfl ?_
    refine nd_batch tabOk tabZ_ok [(0, {}), (1, {}), (2, {})] [0, 1, 2, 6, 7, 18] (T' := [(0, .pointer (some ⟨bc, 0, none⟩)), (1, .int .i64 ((x : Nat) : Int)), (2, .int .i64 sl), (6, .bool false), (7, .int .i64 p), (18, .bool (p == sl))]) (φ := True) (rest := []) h21 (by kernel_rfl) rfl trivial fun a25 h26 => ?_
    clear h21
    refine nd_done ?_
    refine hK24 _ _ ?_
    clear hK24
    refine c_split h26 (b := (p == sl)) rfl (fun hc27 => ?_) (fun hc27 => ?_)
    ·
      have hc27f : p = sl := by simpa using hc27
      have hres : belowP C.cel sl (C.cel x).parent = true := below_iff.2 (hanc.1 (Anc.here hc22f hc27f))
      refine wp_seq_k fun K28 hK28 => ?_
      refine nd_start (l := [0]) rfl ?_
      refine nd_batch tabOk tabZ_ok [(0, {})] [0, 1, 2, 7, 6] (T' := [(0, .pointer (some ⟨bc, 0, none⟩)), (1, .int .i64 ((x : Nat) : Int)), (2, .int .i64 sl), (7, .int .i64 p), (6, .bool true)]) (φ := True) (rest := []) h26 (by kernel_rfl) rfl trivial fun a29 h30 => ?_
      clear h26
      refine nd_done ?_
      refine hK28 _ _ ?_
      clear hK28
      refine wp_ret ?_
      try simp only [Exit.then, Exit.inBlock]
      try rw [if_pos trivial]
      exact s_ret tabOk tabZ_ok h30 [(.tmp 6, {})] (vs := [.bool true]) (φ := True) rfl (by kernel_rfl) trivial (by rw [hres]; exact ⟨rfl, h30.frame⟩)
    ·
      have hc27f : p ≠ sl := by simpa using hc27
      have hanc2 := (anc_up hc22f hc27f).symm.trans hanc
      refine wp_skip ?_
      refine hK23 _ _ ?_
      clear hK23
      refine nd_start (l := [0, 1, 2, 3]) rfl ?_
      refine nd_batch tabOk tabZ_ok [(0, {}), (1, {})] [0, 1, 2, 6, 7, 13, 14] (T' := [(0, .pointer (some ⟨bc, 0, none⟩)), (1, .int .i64 ((x : Nat) : Int)), (2, .int .i64 sl), (6, .bool false), (7, .int .i64 p), (13, .pointer (some ⟨bc, 0, none⟩)), (14, .int .i64 p)]) (φ := True) (rest := [2, 3]) h26 (by kernel_rfl) rfl trivial fun a31 h32 => ?_
      clear h26
      refine nd_op ?_
      refine op_call h32 rfl rfl rfl (callOk Tryd.func115 (by decide) rfl) (args := [.pointer (some ⟨bc, 0, none⟩), .int .i64 p]) rfl (parentE bo bc nd C hq.1 hq.2.1 hpq _ h32.inv) ?_
      rintro _ w33 ⟨rfl, hf35⟩
      refine ⟨_, rfl, ?_⟩
      have h34 := (h32.grow hf35).put (d := some 15) (v := .int .i64 ((C.cel p.toNat).parent)) (T' := [(15, .int .i64 ((C.cel p.toNat).parent)), (0, .pointer (some ⟨bc, 0, none⟩)), (1, .int .i64 ((x : Nat) : Int)), (2, .int .i64 sl), (6, .bool false), (7, .int .i64 p), (13, .pointer (some ⟨bc, 0, none⟩)), (14, .int .i64 p)]) rfl
      clear h32
      refine nd_batch tabOk tabZ_ok [(3, {})] [0, 1, 2, 6, 7] (T' := [(0, .pointer (some ⟨bc, 0, none⟩)), (1, .int .i64 ((x : Nat) : Int)), (2, .int .i64 sl), (6, .bool false), (7, .int .i64 ((C.cel p.toNat).parent))]) (φ := True) (rest := []) h34 (by kernel_rfl) rfl trivial fun a36 h37 => ?_
      clear h34
      refine nd_done ?_
      exact ⟨(rk p.toNat), (by rw [hpq, Int.toNat_natCast]; exact hrq), ((C.cel p.toNat).parent), hanc2, (by rw [hpq, Int.toNat_natCast]; exact (hC.par hq.1 hq.2.1).imp id (fun ⟨r, h1, h2, _⟩ => ⟨r, h1, h2, hrk hq.1 hq.2.1 h1⟩)), (h37.slotsMono (restr_spec (keep := [0, 1, 2, 6, 7]) rfl))⟩
  ·
    have hc22f : p = -1 := by simpa using hc22
    have hres : belowP C.cel sl (C.cel x).parent = false := by cases hb9 : belowP C.cel sl (C.cel x).parent; rfl; exact absurd (hanc.2 (below_iff.1 hb9)) (anc_end hc22f)
    refine wp_exit ?_
    refine hK4 _ _ ?_
    clear hK4
    refine wp_seq_k fun K38 hK38 => ?_
    refine nd_start (l := [0]) rfl ?_
    refine nd_batch tabOk tabZ_ok [(0, {})] [0, 1, 2, 7, 6] (T' := [(0, .pointer (some ⟨bc, 0, none⟩)), (1, .int .i64 ((x : Nat) : Int)), (2, .int .i64 sl), (7, .int .i64 p), (6, .bool false)]) (φ := True) (rest := []) h21 (by kernel_rfl) rfl trivial fun a39 h40 => ?_
    clear h21
    refine nd_done ?_
    refine hK38 _ _ ?_
    clear hK38
    refine wp_ret ?_
    try simp only [Exit.then, Exit.inBlock]
    try rw [if_pos trivial]
    exact s_ret tabOk tabZ_ok h40 [(.tmp 6, {})] (vs := [.bool false]) (φ := True) rfl (by kernel_rfl) trivial (by rw [hres]; exact ⟨rfl, h40.frame⟩)

theorem revoke1_ok (bo bc : Nat) (nd : Nat → Nat) (C : CP) (hC : CI C) (i j : Nat) (hi : i < 256) (hj : j < 16) (hp : C.pres i = true) (b6 b2 b3 : Nat) (nx sl : Int) (w : World) (hc : CapAt w bo bc nd C) (h6 : w.heap[b6]? = some (Blk.obj ⟨[.int .i64 nx], 3, false⟩)) (h2 : w.heap[b2]? = some (Blk.obj ⟨[.pointer (some ⟨bc, 0, none⟩)], 79, false⟩)) (h3 : w.heap[b3]? = some (Blk.obj ⟨[.int .i64 sl], 3, false⟩)) (hne : nd i ≠ b6 ∧ nd i ≠ b2 ∧ nd i ≠ b3 ∧ b6 ≠ b2 ∧ b6 ≠ b3 ∧ b2 ≠ b3) (hdb6 : b6 ∉ capF bo bc nd C) :
    Calls Tryd.prog 111 #[.int .i64 ((i * 16 + j : Nat) : Int), .pointer (some ⟨nd i, j * 6, none⟩), .pointer (some ⟨b6, 0, none⟩), .pointer (some ⟨b2, 0, none⟩), .pointer (some ⟨b3, 0, none⟩)] w fun e w' => e = .returned (.tuple #[]) ∧ w'.heap[b6]? = some (Blk.obj ⟨[.int .i64 (if nx = -1 ∧ (C.cel (i * 16 + j)).cap.ty ≠ 0 ∧ belowP C.cel sl (C.cel (i * 16 + j)).parent = true then ((i * 16 + j : Nat) : Int) else nx)], 3, false⟩) ∧ Fr [b6] w w' := by
  have hn := hc.no hi hp
  refine enter (n := 24) (K := [b6]) (A := fun w => CapAt w bo bc nd C) (F := (capF bo bc nd C)) (T := [(0, .int .i64 ((i * 16 + j : Nat) : Int)), (1, .pointer (some ⟨(nd i), (j * 6), none⟩)), (2, .pointer (some ⟨b6, 0, none⟩)), (3, .pointer (some ⟨b2, 0, none⟩)), (4, .pointer (some ⟨b3, 0, none⟩))]) (L := [((nd i), ⟨ndC C.cel i, 146, true⟩), (b6, ⟨[.int .i64 nx], 3, false⟩), (b2, ⟨[.pointer (some ⟨bc, 0, none⟩)], 79, true⟩), (b3, ⟨[.int .i64 sl], 3, true⟩)]) (args := [.int .i64 ((i * 16 + j : Nat) : Int), .pointer (some ⟨(nd i), (j * 6), none⟩), .pointer (some ⟨b6, 0, none⟩), .pointer (some ⟨b2, 0, none⟩), .pointer (some ⟨b3, 0, none⟩)]) Tryd.func111 rfl rfl rfl rfl (kcons hn (kcons h6 (kcons h2 (kcons h3 knil)))) (by simp; exact ⟨⟨hne.1, hne.2.1, hne.2.2.1⟩, ⟨hne.2.2.2.1, hne.2.2.2.2.1⟩, hne.2.2.2.2.2⟩) (kcons (by intro hq; cases hq) (kcons (fun _ => by simp) (kcons (by intro hq; cases hq) (kcons (by intro hq; cases hq) knil)))) hc CapAt.stable hc.low (kcons (by intro hq; cases hq) (kcons (fun _ => hdb6) (kcons (by intro hq; cases hq) (kcons (by intro hq; cases hq) knil)))) ?_
  intro a h
  refine wp_seq_k fun K1 hK1 => ?_
  rcases Bool.eq_false_or_eq_true ((nx == -1)) with hb2 | hb2
  ·
    have hb2f : nx = -1 := by simpa using hb2
    rcases Bool.eq_false_or_eq_true (((C.cel (i * 16 + j)).cap.ty != 0)) with hb3 | hb3
    ·
      have hb3f : (C.cel (i * 16 + j)).cap.ty ≠ 0 := by simpa using hb3
      refine nd_start (l := [0, 1, 2, 3, 4, 5, 6, 7, 8, 9, 10, 11, 12, 13, 14, 15]) rfl ?_
      refine nd_batch tabOk tabZ_ok [(0, {k := 1}), (1, {f := 2}), (2, {}), (3, {}), (4, {}), (5, {}), (6, {}), (7, {k := 0, m := 1, vs := [.int .u8 ((C.cel (i * 16 + j)).cap.ty)]}), (8, {f := 2}), (9, {}), (10, {}), (11, {k := 2}), (12, {}), (13, {k := 3})] [0, 1, 2, 3, 4, 17, 18, 19, 20] (T' := [(0, .int .i64 ((i * 16 + j : Nat) : Int)), (1, .pointer (some ⟨(nd i), (j * 6), none⟩)), (2, .pointer (some ⟨b6, 0, none⟩)), (3, .pointer (some ⟨b2, 0, none⟩)), (4, .pointer (some ⟨b3, 0, none⟩)), (17, .bool true), (18, .pointer (some ⟨bc, 0, none⟩)), (19, .int .i64 ((i * 16 + j : Nat) : Int)), (20, .int .i64 sl)]) (φ := (b6 = b6 ∧ Nat.ble (0 + 1) 1 = true) ∧ ((nx == -1)) = true ∧ ((nd i) = (nd i) ∧ cellsAre (ndC C.cel i) (j * 6) [.int .u8 ((C.cel (i * 16 + j)).cap.ty)]) ∧ (((C.cel (i * 16 + j)).cap.ty != 0)) = true ∧ (b2 = b2 ∧ Nat.ble (0 + 1) 1 = true) ∧ (b3 = b3 ∧ Nat.ble (0 + 1) 1 = true) ∧ True) (rest := [14, 15]) h (by kernel_rfl) rfl ⟨⟨rfl, rfl⟩, hb2, ⟨rfl, (nd_read (j := j) (k := 0) hj (by omega) ⟨rfl, trivial⟩)⟩, hb3, ⟨rfl, rfl⟩, ⟨rfl, rfl⟩, trivial⟩ fun a4 h5 => ?_
      clear h
      refine nd_op ?_
      refine op_call h5 rfl rfl rfl (callOk Tryd.func112 (by decide) rfl) (args := [.pointer (some ⟨bc, 0, none⟩), .int .i64 ((i * 16 + j : Nat) : Int), .int .i64 sl]) rfl (below_ok bo bc nd C hC (i * 16 + j) (by omega) (by rw [show (i * 16 + j) / 16 = i by omega]; exact hp) sl _ h5.inv) ?_
      rintro _ w6 ⟨rfl, hf8⟩
      refine ⟨_, rfl, ?_⟩
      have h7 := (h5.grow hf8).put (d := some 21) (v := .bool (belowP C.cel sl (C.cel (i * 16 + j)).parent)) (T' := [(21, .bool (belowP C.cel sl (C.cel (i * 16 + j)).parent)), (0, .int .i64 ((i * 16 + j : Nat) : Int)), (1, .pointer (some ⟨(nd i), (j * 6), none⟩)), (2, .pointer (some ⟨b6, 0, none⟩)), (3, .pointer (some ⟨b2, 0, none⟩)), (4, .pointer (some ⟨b3, 0, none⟩)), (17, .bool true), (18, .pointer (some ⟨bc, 0, none⟩)), (19, .int .i64 ((i * 16 + j : Nat) : Int)), (20, .int .i64 sl)]) rfl
      clear h5
      refine nd_batch tabOk tabZ_ok [(15, {})] [0, 1, 2, 3, 4, 22] (T' := [(0, .int .i64 ((i * 16 + j : Nat) : Int)), (1, .pointer (some ⟨(nd i), (j * 6), none⟩)), (2, .pointer (some ⟨b6, 0, none⟩)), (3, .pointer (some ⟨b2, 0, none⟩)), (4, .pointer (some ⟨b3, 0, none⟩)), (22, .bool (belowP C.cel sl (C.cel (i * 16 + j)).parent))]) (φ := True) (rest := []) h7 (by kernel_rfl) rfl trivial fun a9 h10 => ?_
      clear h7
      refine nd_done ?_
      refine hK1 _ _ ?_
      clear hK1
      refine c_split h10 (b := (belowP C.cel sl (C.cel (i * 16 + j)).parent)) rfl (fun hc11 => ?_) (fun hc11 => ?_)
      ·
        refine nd_start (l := [0, 1]) rfl ?_
        refine nd_batch tabOk tabZ_ok [(0, {})] [0, 1, 2, 3, 4, 23] (T' := [(0, .int .i64 ((i * 16 + j : Nat) : Int)), (1, .pointer (some ⟨(nd i), (j * 6), none⟩)), (2, .pointer (some ⟨b6, 0, none⟩)), (3, .pointer (some ⟨b2, 0, none⟩)), (4, .pointer (some ⟨b3, 0, none⟩)), (23, .int .i64 ((i * 16 + j : Nat) : Int))]) (φ := True) (rest := [1]) h10 (by kernel_rfl) rfl trivial fun a12 h13 => ?_
        clear h10
        refine nd_op ?_
        refine op_store tabOk {k := 1} (L' := [((nd i), ⟨ndC C.cel i, 146, true⟩), (b6, ⟨[.int .i64 ((i * 16 + j : Nat) : Int)], 3, false⟩), (b2, ⟨[.pointer (some ⟨bc, 0, none⟩)], 79, true⟩), (b3, ⟨[.int .i64 sl], 3, true⟩)]) (φ := b6 = b6 ∧ Nat.ble (0 + 1) 1 = true) h13 rfl rfl rfl (by kernel_rfl) ⟨rfl, rfl⟩ fun w14 h15 => ?_
        clear h13
        refine nd_done ?_
        try simp only [Exit.then, Exit.inBlock]
        try rw [if_pos trivial]
        exact s_end tabOk tabZ_ok h15 [] (vs := []) (φ := True) rfl (by kernel_rfl) trivial ⟨rfl, (by rw [if_pos ⟨hb2f, hb3f, hc11⟩]; exact h15.kn (k := 1) rfl), h15.frame⟩
      ·
        refine wp_skip ?_
        try simp only [Exit.then, Exit.inBlock]
        try rw [if_pos trivial]
        exact s_end tabOk tabZ_ok h10 [] (vs := []) (φ := True) rfl (by kernel_rfl) trivial ⟨rfl, (by rw [if_neg (fun hz => by have := hz.2.2; rw [hc11] at this; cases this)]; exact h10.kn (k := 1) rfl), h10.frame⟩
    ·
      have hb3f : (C.cel (i * 16 + j)).cap.ty = 0 := by simpa using hb3
      refine nd_start (l := [0, 1, 2, 3, 4, 5, 6, 7, 8, 9, 10, 11, 12, 13, 14, 15]) rfl ?_
      refine nd_batch tabOk tabZ_ok [(0, {k := 1}), (1, {f := 2}), (2, {}), (3, {}), (4, {}), (5, {}), (6, {}), (7, {k := 0, m := 1, vs := [.int .u8 ((C.cel (i * 16 + j)).cap.ty)]}), (8, {f := 1}), (9, {}), (10, {}), (11, {}), (12, {}), (13, {})] [0, 1, 2, 3, 4, 17, 18, 19, 20] (T' := [(0, .int .i64 ((i * 16 + j : Nat) : Int)), (1, .pointer (some ⟨(nd i), (j * 6), none⟩)), (2, .pointer (some ⟨b6, 0, none⟩)), (3, .pointer (some ⟨b2, 0, none⟩)), (4, .pointer (some ⟨b3, 0, none⟩)), (17, .bool false), (18, .tuple #[]), (19, .tuple #[]), (20, .tuple #[])]) (φ := (b6 = b6 ∧ Nat.ble (0 + 1) 1 = true) ∧ ((nx == -1)) = true ∧ ((nd i) = (nd i) ∧ cellsAre (ndC C.cel i) (j * 6) [.int .u8 ((C.cel (i * 16 + j)).cap.ty)]) ∧ (((C.cel (i * 16 + j)).cap.ty != 0)) = false ∧ True) (rest := [14, 15]) h (by kernel_rfl) rfl ⟨⟨rfl, rfl⟩, hb2, ⟨rfl, (nd_read (j := j) (k := 0) hj (by omega) ⟨rfl, trivial⟩)⟩, hb3, trivial⟩ fun a16 h17 => ?_
      clear h
      refine nd_batch tabOk tabZ_ok [(14, {})] [0, 1, 2, 3, 4, 17, 21] (T' := [(0, .int .i64 ((i * 16 + j : Nat) : Int)), (1, .pointer (some ⟨(nd i), (j * 6), none⟩)), (2, .pointer (some ⟨b6, 0, none⟩)), (3, .pointer (some ⟨b2, 0, none⟩)), (4, .pointer (some ⟨b3, 0, none⟩)), (17, .bool false), (21, .tuple #[])]) (φ := True) (rest := [15]) h17 (by kernel_rfl) rfl trivial fun a18 h19 => ?_
      clear h17
      refine nd_batch tabOk tabZ_ok [(15, {})] [0, 1, 2, 3, 4, 22] (T' := [(0, .int .i64 ((i * 16 + j : Nat) : Int)), (1, .pointer (some ⟨(nd i), (j * 6), none⟩)), (2, .pointer (some ⟨b6, 0, none⟩)), (3, .pointer (some ⟨b2, 0, none⟩)), (4, .pointer (some ⟨b3, 0, none⟩)), (22, .bool false)]) (φ := True) (rest := []) h19 (by kernel_rfl) rfl trivial fun a20 h21 => ?_
      clear h19
      refine nd_done ?_
      refine hK1 _ _ ?_
      clear hK1
      refine c_false h21 rfl ?_
      refine wp_skip ?_
      try simp only [Exit.then, Exit.inBlock]
      try rw [if_pos trivial]
      exact s_end tabOk tabZ_ok h21 [] (vs := []) (φ := True) rfl (by kernel_rfl) trivial ⟨rfl, (by rw [if_neg (fun hz => hz.2.1 hb3f)]; exact h21.kn (k := 1) rfl), h21.frame⟩
  ·
    have hb2f : nx ≠ -1 := by simpa using hb2
    refine nd_start (l := [0, 1, 2, 3, 4, 5, 6, 7, 8, 9, 10, 11, 12, 13, 14, 15]) rfl ?_
    refine nd_batch tabOk tabZ_ok [(0, {k := 1}), (1, {f := 1}), (2, {}), (3, {}), (4, {}), (5, {}), (6, {}), (7, {}), (8, {}), (9, {}), (10, {}), (11, {}), (12, {}), (13, {})] [0, 1, 2, 3, 4, 17, 18, 19, 20] (T' := [(0, .int .i64 ((i * 16 + j : Nat) : Int)), (1, .pointer (some ⟨(nd i), (j * 6), none⟩)), (2, .pointer (some ⟨b6, 0, none⟩)), (3, .pointer (some ⟨b2, 0, none⟩)), (4, .pointer (some ⟨b3, 0, none⟩)), (17, .bool false), (18, .tuple #[]), (19, .tuple #[]), (20, .tuple #[])]) (φ := (b6 = b6 ∧ Nat.ble (0 + 1) 1 = true) ∧ ((nx == -1)) = false ∧ True) (rest := [14, 15]) h (by kernel_rfl) rfl ⟨⟨rfl, rfl⟩, hb2, trivial⟩ fun a22 h23 => ?_
    clear h
    refine nd_batch tabOk tabZ_ok [(14, {})] [0, 1, 2, 3, 4, 17, 21] (T' := [(0, .int .i64 ((i * 16 + j : Nat) : Int)), (1, .pointer (some ⟨(nd i), (j * 6), none⟩)), (2, .pointer (some ⟨b6, 0, none⟩)), (3, .pointer (some ⟨b2, 0, none⟩)), (4, .pointer (some ⟨b3, 0, none⟩)), (17, .bool false), (21, .tuple #[])]) (φ := True) (rest := [15]) h23 (by kernel_rfl) rfl trivial fun a24 h25 => ?_
    clear h23
    refine nd_batch tabOk tabZ_ok [(15, {})] [0, 1, 2, 3, 4, 22] (T' := [(0, .int .i64 ((i * 16 + j : Nat) : Int)), (1, .pointer (some ⟨(nd i), (j * 6), none⟩)), (2, .pointer (some ⟨b6, 0, none⟩)), (3, .pointer (some ⟨b2, 0, none⟩)), (4, .pointer (some ⟨b3, 0, none⟩)), (22, .bool false)]) (φ := True) (rest := []) h25 (by kernel_rfl) rfl trivial fun a26 h27 => ?_
    clear h25
    refine nd_done ?_
    refine hK1 _ _ ?_
    clear hK1
    refine c_false h27 rfl ?_
    refine wp_skip ?_
    try simp only [Exit.then, Exit.inBlock]
    try rw [if_pos trivial]
    exact s_end tabOk tabZ_ok h27 [] (vs := []) (φ := True) rfl (by kernel_rfl) trivial ⟨rfl, (by rw [if_neg (fun hz => hb2f hz.1)]; exact h27.kn (k := 1) rfl), h27.frame⟩

theorem next_each (bo bc : Nat) (nd : Nat → Nat) (C : CP) (hC : CI C) (b6 b2 b3 : Nat) (sl : Int) (w : World) (hc : CapAt w bo bc nd C) (h6 : w.heap[b6]? = some (Blk.obj ⟨[.int .i64 (-1)], 3, false⟩)) (h2 : w.heap[b2]? = some (Blk.obj ⟨[.pointer (some ⟨bc, 0, none⟩)], 79, false⟩)) (h3 : w.heap[b3]? = some (Blk.obj ⟨[.int .i64 sl], 3, false⟩)) (hne : b6 ≠ b2 ∧ b6 ≠ b3 ∧ b2 ≠ b3) (hd : b6 ∉ capF bo bc nd C ∧ b2 ∉ capF bo bc nd C ∧ b3 ∉ capF bo bc nd C) :
    Calls Tryd.prog 70 #[.pointer (some ⟨bc, 0, none⟩), .func (.func 111) #[] #[.pointer (some ⟨b6, 0, none⟩), .pointer (some ⟨b2, 0, none⟩), .pointer (some ⟨b3, 0, none⟩)]] w fun e w' => e = .returned (.tuple #[]) ∧ w'.heap[b6]? = some (Blk.obj ⟨[.int .i64 (nextUp C sl 4096)], 3, false⟩) ∧ Fr [b6] w w' := by
  refine each_ok bo bc nd C.pres 111 [.pointer (some ⟨b6, 0, none⟩), .pointer (some ⟨b2, 0, none⟩), .pointer (some ⟨b3, 0, none⟩)] (callOk Tryd.func111 (by decide) rfl) [b6] (fun n w1 => w1.heap[b6]? = some (Blk.obj ⟨[.int .i64 (nextUp C sl n)], 3, false⟩)) w hc.sp h6 ?_ ?_
  · intro i j hi hj hp w1 hI hf
    have hm : nd i ∈ capF bo bc nd C := mem_capF.2 (.inr (.inr ⟨i, hi, hp, rfl⟩))
    have hc1 : CapAt w1 bo bc nd C := hc.fr hf (fun b hb hq => by simp at hq; subst hq; exact hd.1 hb)
    have e2 : w1.heap[b2]? = some (Blk.obj ⟨[.pointer (some ⟨bc, 0, none⟩)], 79, false⟩) := by rw [hf.block _ (lt_of_heap h2) (by simp; exact hne.1.symm)]; exact h2
    have e3 : w1.heap[b3]? = some (Blk.obj ⟨[.int .i64 sl], 3, false⟩) := by rw [hf.block _ (lt_of_heap h3) (by simp; exact hne.2.1.symm)]; exact h3
    refine (revoke1_ok bo bc nd C hC i j hi hj hp b6 b2 b3 _ sl w1 hc1 hI e2 e3 ⟨fun hq => hd.1 (hq ▸ hm), fun hq => hd.2.1 (hq ▸ hm), fun hq => hd.2.2 (hq ▸ hm), hne.1, hne.2.1, hne.2.2⟩ hd.1).mono ?_
    rintro e w' ⟨rfl, g1, g2⟩
    refine ⟨rfl, ?_, hf.trans g2 (fun _ hq => .inl hq)⟩
    rw [nextUp, show (i * 16 + j) / 16 = i by omega, hp]
    simpa using g1
  · intro i hi hp w1 h
    rw [nextUp_skip hp 16 (by omega)]; exact h

end Go.Proofs.Qxb6500918aDoor
