/-
  RefusalsChangeNothing. (Made by program: a symbolic walk that prints its steps.)
-/
import Derived.Test.Qxb6500918aDoorM2
import Derived.Test.Qxb6500918aDoorM3
import Derived.Test.Qxb6500918aDoorM4
import Derived.Test.Qxb6500918aDoorLm
namespace Go.Proofs.Qxb6500918aDoor
open Go.Sx Go.Kn
set_option maxRecDepth 100000
set_option maxHeartbeats 4000000
set_option linter.unusedVariables false
set_option linter.unusedSimpArgs false

theorem equalE {xs ys : List Int} (hxy : ys = xs) (h0 : 0 < xs.length) {o1 o2 : Option Addr} {c1 c2 : Nat} {F1 F2 : List Nat} {w : World} (h1 : (rl u8C 5 1 xs o1 c1 F1).at w) (h2 : (rl u8C 5 1 ys o2 c2 F2).at w) :
    Calls Tryd.prog 17 #[.slice o1 xs.length c1, .slice o2 ys.length c2] w fun e w' => e = .returned (.bool true) ∧ Fr [] w w' := by
  subst hxy; exact equal_ok _ h0 o1 o2 c1 c2 F1 F2 w h1 h2

theorem scr_fr {w w' : World} {o : Option Addr} {ops : List OpV} (h : Scr w o ops) (hf : Fr [] w w') : Scr w' o ops := by
  refine ⟨fun {i x} hx => ?_⟩
  obtain ⟨b, k, h1, h2, h3⟩ := h.get hx
  exact ⟨b, k, h1, Nat.lt_of_lt_of_le h2 hf.size, fun j y hy => (h3 j y hy).fr hf h2⟩

theorem bytes_pos (S : KP) (Q : QL → List Nat) (C : CP) : 0 < (uvs (bytesN S Q C)).length := by
  have h1 : uvs (bytesN S Q C) = uvs (entsN C.ent 257) ++ (uv 257 ++ uvs (spaceN C ++ (headN S ++ (slotsN S Q C.ent 256 ++ (rdysN S Q 8 ++ irqsN S 16))))) := by
    unfold bytesN storeN; rw [uvs_app, uvs_app, List.append_assoc]; simp [uvs]
  have h2 : 0 < (uv 257).length := by decide
  rw [h1, List.length_append, List.length_append]; omega

theorem boot_UR : UR bootS where
  t i := by
    have h : bootS.tcb i = if i = 1 then ⟨2, 4, ⟨0, 0⟩, ⟨0, 1⟩, ⟨0, 0⟩, 0, 0, 0, 0, 0, 0, 0, 0, 0, false, false, -1, -1⟩ else if i < 256 then noT else zT := by
      unfold bootS KP.setT bootK2 bootK1; dsimp only; unfold upd; rfl
    rw [h]; split
    · exact ⟨u64z, u64z, u64z, u64z, u64z⟩
    · split <;> exact ⟨u64z, u64z, u64z, u64z, u64z⟩
  w _ := u64z
  i _ := u64z
  n := u64z

theorem boot_UC : UC bootC where
  e i := by
    rw [boot_ent]; split
    · exact ⟨by unfold u64r; decide, by unfold u64r; decide⟩
    · split
      · exact ⟨by unfold u64r; decide, by unfold u64r; decide⟩
      · split
        · exact ⟨by unfold u64r; decide, by unfold u64r; decide⟩
        · exact ⟨u64z, u64z⟩
  c s := by
    show u64r (upd (upd (upd (fun s => if s / 16 = 0 then celE else celZ) 2 _) 0 _) 1 _ s).cap.badge
    unfold upd
    split
    · exact u64z
    · split
      · exact u64z
      · split
        · exact u64z
        · dsimp only; split <;> exact u64z

theorem law4_ok (ops : List OpV) (o : Option Addr) (c : Nat) (w : World) (hscr : Scr w o ops) (hev : ∀ x ∈ ops, EvOk x.ev ∧ EvU x.ev) (hwd : ∀ x ∈ ops, WordsAt [] w x.xo x.ev.ws) (hg1 : CellsAt w 1 0 (tcbC noT)) (hgs1 : 1 < w.heap.size) (hg2 : CellsAt w 2 0 (quC noQ)) (hgs2 : 2 < w.heap.size) :
    Calls Tryd.prog 4 #[.slice o ops.length c] w fun e w' => e = .returned (.bool true) ∧ Fr [] w w' := by
  refine enter0 (n := 37) (K := []) (T := [(0, .slice o ops.length c)]) (L := []) (args := [.slice o ops.length c]) Tryd.func4 rfl rfl rfl rfl knil (by simp) knil ?_
  intro a h
  refine wp_seq_k fun K1 hK1 => ?_
  refine nd_start (l := [0]) rfl ?_
  refine nd_batch tabOk tabZ_ok [(0, {})] [0, 2] (T' := [(0, .slice o ops.length c), (2, .bool false)]) (φ := True) (rest := []) h (by kernel_rfl) rfl trivial fun a2 h3 => ?_
  clear h
  refine nd_done ?_
  refine hK1 _ _ ?_
  clear hK1
  refine wp_seq_k fun K4 hK4 => ?_
  refine wp_seq_k fun K5 hK5 => ?_
  refine nd_start (l := [0, 1, 2]) rfl ?_
  refine nd_batch tabOk tabZ_ok [(0, {})] [0, 2, 9] (T' := [(0, .slice o ops.length c), (2, .bool false), (9, .slice o ops.length c)]) (φ := True) (rest := [1, 2]) h3 (by kernel_rfl) rfl trivial fun a6 h7 => ?_
  clear h3
  refine nd_op ?_
  refine op_call h7 rfl rfl rfl (callOk Tryd.func10 (by decide) rfl) (args := [.slice o ops.length c]) rfl (small_ok ops o c _ (scr_fr hscr h7.frame)) ?_
  rintro _ w8 ⟨bb, rfl, hbb, hf9⟩
  refine ⟨_, rfl, ?_⟩
  have h10 := (h7.grow hf9).put (d := some 10) (v := .bool bb) (T' := [(10, .bool bb), (0, .slice o ops.length c), (2, .bool false), (9, .slice o ops.length c)]) rfl
  clear h7
  refine nd_batch tabOk tabZ_ok [(2, {})] [0, 2, 11] (T' := [(0, .slice o ops.length c), (2, .bool false), (11, .bool (!bb))]) (φ := True) (rest := []) h10 (by kernel_rfl) rfl trivial fun a11 h12 => ?_
  clear h10
  refine nd_done ?_
  refine hK5 _ _ ?_
  clear hK5
  refine c_split h12 (b := !bb) rfl (fun hc13 => ?_) (fun hc13 => ?_)
  ·
    refine wp_seq_k fun K14 hK14 => ?_
    refine nd_start (l := [0]) rfl ?_
    refine nd_batch tabOk tabZ_ok [(0, {})] [0, 2] (T' := [(0, .slice o ops.length c), (2, .bool true)]) (φ := True) (rest := []) h12 (by kernel_rfl) rfl trivial fun a15 h16 => ?_
    clear h12
    refine nd_done ?_
    refine hK14 _ _ ?_
    clear hK14
    refine wp_ret ?_
    try simp only [Exit.then, Exit.inBlock]
    try rw [if_pos trivial]
    exact s_ret tabOk tabZ_ok h16 [(.tmp 2, {})] (vs := [.bool true]) (φ := True) rfl (by kernel_rfl) trivial ⟨rfl, h16.frame⟩
  ·
    have hol := hbb (by simpa using hc13)
    refine wp_skip ?_
    refine hK4 _ _ ?_
    clear hK4
    refine wp_seq_k fun K17 hK17 => ?_
    refine nd_start (l := [0, 1]) rfl ?_
    refine nd_op ?_
    have h18 := h12.slotsMono (restr_spec (keep := [0, 2]) rfl)
    clear h12
    refine op_call h18 rfl rfl rfl (callOk Tryd.func11 (by decide) rfl) (args := []) rfl (new_ok _ (cellsK hg1 h18.frame hgs1 (by simp)) (Nat.lt_of_lt_of_le hgs1 h18.frame.size) (cellsK hg2 h18.frame hgs2 (by simp)) (Nat.lt_of_lt_of_le hgs2 h18.frame.size)) ?_
    rintro _ w19 ⟨kb, bo, bc, nd, rfl, hk9, hcp9, hnk9, hkn9, hcn9, hf20⟩
    refine ⟨_, rfl, ?_⟩
    have hsz9 : w.heap.size ≤ _ := h18.frame.size
    have h21 := (h18.grow hf20).put (d := some 12) (v := .pointer (some ⟨kb, 0, none⟩)) (T' := [(12, .pointer (some ⟨kb, 0, none⟩)), (0, .slice o ops.length c), (2, .bool false)]) rfl
    have hKB : KB w.heap.size kb bo bc nd bootS bootC ([] : List Int) none 0 ([] : List Nat) ([] : List Int) none 0 ([] : List Nat) w19 := ⟨hk9, hcp9, hnk9, rl_nil u8C _ 5 1, rl_nil u8C _ 5 1, fun _ hq => (by cases hq), fun _ hq => (by cases hq), fun b hb => by rcases List.mem_cons.1 hb with e | hb; (rw [e]; exact Nat.le_trans hsz9 hkn9); rw [List.append_nil, List.append_nil] at hb; exact Nat.le_trans hsz9 (hcn9 b hb)⟩
    have h22 := h21.as (L' := []) (List.Sublist.refl _) (A' := KB w.heap.size kb bo bc nd bootS bootC ([] : List Int) none 0 ([] : List Nat) ([] : List Int) none 0 ([] : List Nat)) (F' := (kb :: (capF bo bc nd bootC ++ (([] : List Nat) ++ ([] : List Nat))))) hKB KB.stable hKB.low knil
    clear h18 h21
    refine nd_batch tabOk tabZ_ok [(1, {})] [0, 2, 3] (T' := [(0, .slice o ops.length c), (2, .bool false), (3, .pointer (some ⟨kb, 0, none⟩))]) (φ := True) (rest := []) h22 (by kernel_rfl) rfl trivial fun a23 h24 => ?_
    clear h22
    refine nd_done ?_
    refine hK17 _ _ ?_
    clear hK17
    refine wp_seq_k fun K25 hK25 => ?_
    refine nd_start (l := [0, 1, 2]) rfl ?_
    refine nd_batch tabOk tabZ_ok [(0, {})] [0, 2, 3, 13] (T' := [(0, .slice o ops.length c), (2, .bool false), (3, .pointer (some ⟨kb, 0, none⟩)), (13, .pointer (some ⟨kb, 0, none⟩))]) (φ := True) (rest := [1, 2]) h24 (by kernel_rfl) rfl trivial fun a26 h27 => ?_
    clear h24
    refine nd_op ?_
    obtain ⟨Q38, hQ39⟩ := boot_LI
    refine op_call h27 rfl rfl rfl (callOk Tryd.func16 (by decide) rfl) (args := [.pointer (some ⟨kb, 0, none⟩)]) rfl (bytes_ok kb bo bc nd bootS boot_RI Q38 hQ39 bootC boot_UR boot_UC _ h27.inv.ker h27.inv.cap h27.inv.nk) ?_
    rintro _ w28 ⟨o32, c33, F34, rfl, hr35, hn36, hf29⟩
    refine ⟨_, rfl, ?_⟩
    have hKB37 := h27.inv.row2 h27.frame.size hf29 hr35 hn36
    have h30 := (h27.grow hf29).put (d := some 14) (v := .slice o32 ((uvs (bytesN bootS Q38 bootC)).length) c33) (T' := [(14, .slice o32 ((uvs (bytesN bootS Q38 bootC)).length) c33), (0, .slice o ops.length c), (2, .bool false), (3, .pointer (some ⟨kb, 0, none⟩)), (13, .pointer (some ⟨kb, 0, none⟩))]) rfl
    have h31 := h30.as (L' := []) (List.Sublist.refl _) (A' := KB w.heap.size kb bo bc nd bootS bootC ([] : List Int) none 0 ([] : List Nat) (uvs (bytesN bootS Q38 bootC)) o32 c33 F34) (F' := (kb :: (capF bo bc nd bootC ++ (([] : List Nat) ++ F34)))) hKB37 KB.stable hKB37.low knil
    clear h27 h30
    refine nd_batch tabOk tabZ_ok [(2, {})] [0, 2, 3, 4] (T' := [(0, .slice o ops.length c), (2, .bool false), (3, .pointer (some ⟨kb, 0, none⟩)), (4, .slice o32 ((uvs (bytesN bootS Q38 bootC)).length) c33)]) (φ := True) (rest := []) h31 (by kernel_rfl) rfl trivial fun a40 h41 => ?_
    clear h31
    refine nd_done ?_
    refine hK25 _ _ ?_
    clear hK25
    refine wp_seq_k fun K42 hK42 => ?_
    refine wp_seq_k fun K43 hK43 => ?_
    refine nd_start (l := [0, 1, 2]) rfl ?_
    refine nd_batch tabOk tabZ_ok [(0, {}), (1, {}), (2, {})] [0, 2, 3, 4, 15, 16, 17] (T' := [(0, .slice o ops.length c), (2, .bool false), (3, .pointer (some ⟨kb, 0, none⟩)), (4, .slice o32 ((uvs (bytesN bootS Q38 bootC)).length) c33), (15, .slice o ops.length c), (16, .int .i64 ((ops.length : Nat) : Int)), (17, .int .i64 0)]) (φ := True) (rest := []) h41 (by kernel_rfl) rfl trivial fun a44 h45 => ?_
    clear h41
    refine nd_done ?_
    refine hK43 _ _ ?_
    clear hK43
    refine wp_block ?_
    have h46 := h45.as (L' := []) (List.Sublist.refl _) (A' := KB w.heap.size kb bo bc nd bootS bootC (uvs (bytesN bootS Q38 bootC)) o32 c33 F34 ([] : List Int) none 0 ([] : List Nat)) (F' := (kb :: (capF bo bc nd bootC ++ (F34 ++ ([] : List Nat))))) h45.inv.shift KB.stable h45.inv.shift.low knil
    clear h45
    refine wp_loop_ghost (fun g ga gw => ∃ (nd : Nat → Nat) (S : KP) (C : CP) (Q : QL → List Nat) (xs : List Int) (o1 : Option Addr) (c1 : Nat) (F1 : List Nat) (i : Int), ((g : Int) = ops.length - i) ∧ (0 ≤ i ∧ i ≤ ops.length) ∧ (Ok2 S) ∧ (CI C) ∧ (UR S) ∧ (UC C) ∧ (LIQ S Q) ∧ (xs = uvs (bytesN S Q C)) ∧ St ⟨37, [], w, KB w.heap.size kb bo bc nd S C xs o1 c1 F1 ([] : List Int) none 0 ([] : List Nat), (kb :: (capF bo bc nd C ++ (F1 ++ ([] : List Nat))))⟩ [(3, .pointer (some ⟨kb, 0, none⟩)), (15, .slice o ops.length c), (16, .int .i64 ((ops.length : Nat) : Int)), (4, .slice o1 xs.length c1), (17, .int .i64 i)] [] ga gw) ops.length ⟨nd, bootS, bootC, Q38, (uvs (bytesN bootS Q38 bootC)), o32, c33, F34, 0, by simp, ⟨by simp, by simp⟩, ⟨boot_RI, boot_LI⟩, boot_CI, boot_UR, boot_UC, hQ39, rfl, (h46.slotsMono (restr_spec (keep := [3, 15, 16, 4, 17]) rfl))⟩ ?_
    clear h46
    rintro g a47 w48 ⟨nd, S, C, Q, xs, o1, c1, F1, i, hi50, hi51, hi52, hi53, hi54, hi55, hi56, hi57, h49⟩
    have hig := hi50
    have hi0 := hi51
    have hok := hi52
    have hci := hi53
    have hur := hi54
    have huc := hi55
    have hQ := hi56
    have hxs := hi57
    refine wp_seq_k fun K58 hK58 => ?_
    refine nd_start (l := [0]) rfl ?_
    refine nd_batch tabOk tabZ_ok [(0, {})] [3, 15, 16, 4, 17, 18] (T' := [(3, .pointer (some ⟨kb, 0, none⟩)), (15, .slice o ops.length c), (16, .int .i64 ((ops.length : Nat) : Int)), (4, .slice o1 xs.length c1), (17, .int .i64 i), (18, .bool (decide (i < ((ops.length : Nat) : Int))))]) (φ := True) (rest := []) h49 (by kernel_rfl) rfl trivial fun a59 h60 => ?_
    clear h49
    refine nd_done ?_
    refine hK58 _ _ ?_
    clear hK58
    refine wp_seq_k fun K61 hK61 => ?_
    refine c_split h60 (b := decide (i < ((ops.length : Nat) : Int))) rfl (fun hc62 => ?_) (fun hc62 => ?_)
    ·
      have hc62f : i < ((ops.length : Nat) : Int) := by simpa using hc62
      obtain ⟨x, hx⟩ : ∃ x, ops[i.toNat]? = some x := ⟨ops[i.toNat]'(by omega), by simp⟩
      have hxm := List.mem_of_getElem? hx
      obtain ⟨sb63, k064, ho9, hsb65, hsc66⟩ := hscr.get hx
      subst ho9
      refine wp_skip ?_
      refine hK61 _ _ ?_
      clear hK61
      refine wp_seq_k fun K67 hK67 => ?_
      refine wp_block ?_
      refine wp_seq_k fun K68 hK68 => ?_
      refine nd_start (l := [0, 1, 2, 3]) rfl ?_
      refine nd_batch tabOk tabZ_ok [(0, {})] [3, 15, 16, 4, 17, 19] (T' := [(3, .pointer (some ⟨kb, 0, none⟩)), (15, .slice (some ⟨sb63, k064, none⟩) ops.length c), (16, .int .i64 ((ops.length : Nat) : Int)), (4, .slice o1 xs.length c1), (17, .int .i64 i), (19, .pointer (some ⟨sb63, k064 + (i.toNat * 11), none⟩))]) (φ := (0 ≤ i ∧ i < ((ops.length : Nat) : Int)) ∧ True) (rest := [1, 2, 3]) h60 (by kernel_rfl) rfl ⟨⟨by omega, by omega⟩, trivial⟩ fun a69 h70 => ?_
      clear h60
      refine nd_op ?_
      refine op_loadx tabOk (b := sb63) (k := k064 + (i.toNat * 11)) (vs := opC x) h70 rfl rfl rfl rfl rfl rfl rfl (CellsAt.fr (hsc66 _ _ hx) h70.frame hsb65) ?_
      have h71 := h70.put (d := some 20) (v := .agg #[.int .u8 x.ev.kind, .int .u32 x.ev.pick, .int .u64 x.ev.draw, .int .u32 x.ev.addr, .int .u32 x.ev.node, .int .u32 x.ev.dst, .int .u32 x.ev.xfer, .int .u8 x.ev.ty, .int .u64 x.ev.arg, .int .u64 x.ev.badge, .slice x.xo x.ev.ws.length x.cx]) (T' := [(20, .agg #[.int .u8 x.ev.kind, .int .u32 x.ev.pick, .int .u64 x.ev.draw, .int .u32 x.ev.addr, .int .u32 x.ev.node, .int .u32 x.ev.dst, .int .u32 x.ev.xfer, .int .u8 x.ev.ty, .int .u64 x.ev.arg, .int .u64 x.ev.badge, .slice x.xo x.ev.ws.length x.cx]), (3, .pointer (some ⟨kb, 0, none⟩)), (15, .slice (some ⟨sb63, k064, none⟩) ops.length c), (16, .int .i64 ((ops.length : Nat) : Int)), (4, .slice o1 xs.length c1), (17, .int .i64 i), (19, .pointer (some ⟨sb63, k064 + (i.toNat * 11), none⟩))]) rfl
      clear h70
      refine nd_op ?_
      refine op_new tabOk (cells := [.int .u8 0, .int .u32 0, .int .u64 0, .int .u32 0, .int .u32 0, .int .u32 0, .int .u32 0, .int .u8 0, .int .u64 0, .int .u64 0, .slice none 0 0]) (ty := 35) (ln := none) (L1 := fun b72 => [(b72, ⟨[.int .u8 0, .int .u32 0, .int .u64 0, .int .u32 0, .int .u32 0, .int .u32 0, .int .u32 0, .int .u8 0, .int .u64 0, .int .u64 0, .slice none 0 0], 35, false⟩)]) h71 rfl rfl rfl rfl (by kernel_rfl) (fun _ => rfl) fun b72 w73 a74 h75 hf76 hn77 => ?_
      clear h71
      refine nd_op ?_
      refine op_store tabOk {k := 0} (L' := [(b72, ⟨[.int .u8 x.ev.kind, .int .u32 x.ev.pick, .int .u64 x.ev.draw, .int .u32 x.ev.addr, .int .u32 x.ev.node, .int .u32 x.ev.dst, .int .u32 x.ev.xfer, .int .u8 x.ev.ty, .int .u64 x.ev.arg, .int .u64 x.ev.badge, .slice x.xo x.ev.ws.length x.cx], 35, false⟩)]) (φ := b72 = b72 ∧ Nat.ble (0 + 11) 11 = true) h75 rfl rfl rfl (by kernel_rfl) ⟨rfl, rfl⟩ fun w78 h79 => ?_
      clear h75
      refine nd_done ?_
      refine hK68 _ _ ?_
      clear hK68
      refine wp_seq_k fun K80 hK80 => ?_
      refine nd_start (l := [0, 1, 2, 3, 4]) rfl ?_
      refine nd_batch tabOk tabZ_ok [(0, {}), (1, {k := 0})] [6, 3, 15, 16, 4, 17, 21, 22] (T' := [(6, .pointer (some ⟨b72, 0, none⟩)), (3, .pointer (some ⟨kb, 0, none⟩)), (15, .slice (some ⟨sb63, k064, none⟩) ops.length c), (16, .int .i64 ((ops.length : Nat) : Int)), (4, .slice o1 xs.length c1), (17, .int .i64 i), (21, .pointer (some ⟨kb, 0, none⟩)), (22, .agg #[.int .u8 x.ev.kind, .int .u32 x.ev.pick, .int .u64 x.ev.draw, .int .u32 x.ev.addr, .int .u32 x.ev.node, .int .u32 x.ev.dst, .int .u32 x.ev.xfer, .int .u8 x.ev.ty, .int .u64 x.ev.arg, .int .u64 x.ev.badge, .slice x.xo x.ev.ws.length x.cx])]) (φ := (b72 = b72 ∧ Nat.ble (0 + 11) 11 = true) ∧ True) (rest := [2, 3, 4]) h79 (by kernel_rfl) rfl ⟨⟨rfl, rfl⟩, trivial⟩ fun a81 h82 => ?_
      clear h79
      refine nd_op ?_
      obtain ⟨Sz, Cz, oz, ez⟩ : ∃ a b c, stepP S C x.ev = (a, b, c) := ⟨_, _, _, rfl⟩
      have hnwk : ∀ b ∈ kb :: capF bo bc nd C, w.heap.size ≤ b := fun b hb => h82.inv.nw b ((List.mem_cons.1 hb).elim (fun e => by rw [e]; exact List.mem_cons_self ..) (fun e => List.mem_cons_of_mem _ (List.mem_append_left _ e)))
      have hkk := hnwk kb (List.mem_cons_self ..)
      have hst := step_ok kb bo bc nd S hok.ri C hok.li hci x.ev (hev x hxm).1 x.xo x.cx _ h82.inv.ker h82.inv.cap h82.inv.nk (cellsK hg1 h82.frame hgs1 (by simp)) (Nat.lt_of_lt_of_le hgs1 h82.frame.size) (by omega) (fun hq => by have := hnwk 1 (List.mem_cons_of_mem _ hq); omega) (words_at (hwd x hxm) h82.frame hnwk)
      rw [ez] at hst
      refine op_call h82 rfl rfl rfl (callOk Tryd.func14 (by decide) rfl) (args := [.pointer (some ⟨kb, 0, none⟩), .agg #[.int .u8 x.ev.kind, .int .u32 x.ev.pick, .int .u64 x.ev.draw, .int .u32 x.ev.addr, .int .u32 x.ev.node, .int .u32 x.ev.dst, .int .u32 x.ev.xfer, .int .u8 x.ev.ty, .int .u64 x.ev.arg, .int .u64 x.ev.badge, .slice x.xo x.ev.ws.length x.cx]]) rfl hst ?_
      rintro _ w83 ⟨rfl, hk9, nd9, hc9, hs9, hf9⟩
      refine ⟨_, rfl, ?_⟩
      dsimp only at hk9 hc9 hs9 ⊢
      have hKz := h82.inv.step h82.frame.size hk9 hc9 hs9 hf9
      have h84 := (h82.callF hf9 (fun b hb => (List.mem_cons.1 hb).elim (fun e => by rw [e]; exact List.mem_cons_self ..) (fun e => List.mem_cons_of_mem _ (List.mem_append_left _ e))) (fun b hb => .inr (hnwk b hb)) (A' := KB w.heap.size kb bo bc nd9 Sz Cz xs o1 c1 F1 ([] : List Int) none 0 ([] : List Nat)) (F' := (kb :: (capF bo bc nd9 Cz ++ (F1 ++ ([] : List Nat))))) (kcons (by intro hq; cases hq) knil) hKz KB.stable hKz.low (fun b hb => by rcases List.mem_cons.1 hb with e | hb; exact .inl (by rw [e]; exact List.mem_cons_self ..); rcases List.mem_append.1 hb with hb | hb; exact (hs9 b hb).imp (fun h => List.mem_cons_of_mem _ (List.mem_append_left _ h)) id; exact .inl (List.mem_cons_of_mem _ (List.mem_append_right _ hb)))).put (d := some 23) (v := .agg #[.int .u8 oz.code, .int .u16 oz.run.idx, .int .u32 oz.run.gen, .int .u64 oz.badge, .int .u64 oz.m0, .int .u64 oz.m1, .int .u64 oz.m2, .int .u64 oz.m3, .int .u8 oz.len, .int .u8 oz.got]) (T' := [(23, .agg #[.int .u8 oz.code, .int .u16 oz.run.idx, .int .u32 oz.run.gen, .int .u64 oz.badge, .int .u64 oz.m0, .int .u64 oz.m1, .int .u64 oz.m2, .int .u64 oz.m3, .int .u8 oz.len, .int .u8 oz.got]), (6, .pointer (some ⟨b72, 0, none⟩)), (3, .pointer (some ⟨kb, 0, none⟩)), (15, .slice (some ⟨sb63, k064, none⟩) ops.length c), (16, .int .i64 ((ops.length : Nat) : Int)), (4, .slice o1 xs.length c1), (17, .int .i64 i), (21, .pointer (some ⟨kb, 0, none⟩)), (22, .agg #[.int .u8 x.ev.kind, .int .u32 x.ev.pick, .int .u64 x.ev.draw, .int .u32 x.ev.addr, .int .u32 x.ev.node, .int .u32 x.ev.dst, .int .u32 x.ev.xfer, .int .u8 x.ev.ty, .int .u64 x.ev.arg, .int .u64 x.ev.badge, .slice x.xo x.ev.ws.length x.cx])]) rfl
      have hiv := step_inv hok hci (hev x hxm).1
      have huv := step_U hur huc (hev x hxm).2
      rw [ez] at hiv huv
      dsimp only at hiv huv
      have hQz : ∃ Qz, LIQ Sz Qz ∧ (oz.code ≠ 0 → uvs (bytesN Sz Qz Cz) = xs) := by
        by_cases hcd : oz.code ≠ 0
        · have hrf := step_ref (S := S) (C := C) (ev := x.ev) (by rw [ez]; exact hcd)
          rw [ez] at hrf; dsimp only at hrf
          refine ⟨Q, by rw [hrf.1]; exact hQ, fun _ => by rw [hrf.1, hrf.2]; exact hxs.symm⟩
        · obtain ⟨Qz, hQz⟩ := hiv.1.li
          exact ⟨Qz, hQz, fun h => absurd h hcd⟩
      obtain ⟨Qz, hQz, hQe⟩ := hQz
      clear h82
      refine nd_op ?_
      refine op_new tabOk (cells := [.int .u8 0, .int .u16 0, .int .u32 0, .int .u64 0, .int .u64 0, .int .u64 0, .int .u64 0, .int .u64 0, .int .u8 0, .int .u8 0]) (ty := 42) (ln := none) (L1 := fun b85 => [(b72, ⟨[.int .u8 x.ev.kind, .int .u32 x.ev.pick, .int .u64 x.ev.draw, .int .u32 x.ev.addr, .int .u32 x.ev.node, .int .u32 x.ev.dst, .int .u32 x.ev.xfer, .int .u8 x.ev.ty, .int .u64 x.ev.arg, .int .u64 x.ev.badge, .slice x.xo x.ev.ws.length x.cx], 35, false⟩), (b85, ⟨[.int .u8 0, .int .u16 0, .int .u32 0, .int .u64 0, .int .u64 0, .int .u64 0, .int .u64 0, .int .u64 0, .int .u8 0, .int .u8 0], 42, false⟩)]) h84 rfl rfl rfl rfl (by kernel_rfl) (fun _ => rfl) fun b85 w86 a87 h88 hf89 hn90 => ?_
      clear h84
      refine nd_op ?_
      refine op_store tabOk {k := 1} (L' := [(b72, ⟨[.int .u8 x.ev.kind, .int .u32 x.ev.pick, .int .u64 x.ev.draw, .int .u32 x.ev.addr, .int .u32 x.ev.node, .int .u32 x.ev.dst, .int .u32 x.ev.xfer, .int .u8 x.ev.ty, .int .u64 x.ev.arg, .int .u64 x.ev.badge, .slice x.xo x.ev.ws.length x.cx], 35, false⟩), (b85, ⟨[.int .u8 oz.code, .int .u16 oz.run.idx, .int .u32 oz.run.gen, .int .u64 oz.badge, .int .u64 oz.m0, .int .u64 oz.m1, .int .u64 oz.m2, .int .u64 oz.m3, .int .u8 oz.len, .int .u8 oz.got], 42, false⟩)]) (φ := b85 = b85 ∧ Nat.ble (0 + 10) 10 = true) h88 rfl rfl rfl (by kernel_rfl) ⟨rfl, rfl⟩ fun w91 h92 => ?_
      clear h88
      refine nd_done ?_
      refine hK80 _ _ ?_
      clear hK80
      refine wp_seq_k fun K93 hK93 => ?_
      refine nd_start (l := [0, 1, 2]) rfl ?_
      refine nd_batch tabOk tabZ_ok [(0, {})] [7, 6, 3, 15, 16, 4, 17, 24] (T' := [(7, .pointer (some ⟨b85, 0, none⟩)), (6, .pointer (some ⟨b72, 0, none⟩)), (3, .pointer (some ⟨kb, 0, none⟩)), (15, .slice (some ⟨sb63, k064, none⟩) ops.length c), (16, .int .i64 ((ops.length : Nat) : Int)), (4, .slice o1 xs.length c1), (17, .int .i64 i), (24, .pointer (some ⟨kb, 0, none⟩))]) (φ := True) (rest := [1, 2]) h92 (by kernel_rfl) rfl trivial fun a94 h95 => ?_
      clear h92
      refine nd_op ?_
      refine op_call h95 rfl rfl rfl (callOk Tryd.func16 (by decide) rfl) (args := [.pointer (some ⟨kb, 0, none⟩)]) rfl (bytes_ok kb bo bc nd9 Sz hiv.1.ri Qz hQz Cz huv.1 huv.2 _ h95.inv.ker h95.inv.cap h95.inv.nk) ?_
      rintro _ w96 ⟨o100, c101, F102, rfl, hr103, hn104, hf97⟩
      refine ⟨_, rfl, ?_⟩
      have hKB105 := h95.inv.row2 h95.frame.size hf97 hr103 hn104
      have h98 := (h95.grow hf97).put (d := some 25) (v := .slice o100 ((uvs (bytesN Sz Qz Cz)).length) c101) (T' := [(25, .slice o100 ((uvs (bytesN Sz Qz Cz)).length) c101), (7, .pointer (some ⟨b85, 0, none⟩)), (6, .pointer (some ⟨b72, 0, none⟩)), (3, .pointer (some ⟨kb, 0, none⟩)), (15, .slice (some ⟨sb63, k064, none⟩) ops.length c), (16, .int .i64 ((ops.length : Nat) : Int)), (4, .slice o1 xs.length c1), (17, .int .i64 i), (24, .pointer (some ⟨kb, 0, none⟩))]) rfl
      have h99 := h98.as (L' := [(b72, ⟨[.int .u8 x.ev.kind, .int .u32 x.ev.pick, .int .u64 x.ev.draw, .int .u32 x.ev.addr, .int .u32 x.ev.node, .int .u32 x.ev.dst, .int .u32 x.ev.xfer, .int .u8 x.ev.ty, .int .u64 x.ev.arg, .int .u64 x.ev.badge, .slice x.xo x.ev.ws.length x.cx], 35, false⟩), (b85, ⟨[.int .u8 oz.code, .int .u16 oz.run.idx, .int .u32 oz.run.gen, .int .u64 oz.badge, .int .u64 oz.m0, .int .u64 oz.m1, .int .u64 oz.m2, .int .u64 oz.m3, .int .u8 oz.len, .int .u8 oz.got], 42, false⟩)]) (List.Sublist.refl _) (A' := KB w.heap.size kb bo bc nd9 Sz Cz xs o1 c1 F1 (uvs (bytesN Sz Qz Cz)) o100 c101 F102) (F' := (kb :: (capF bo bc nd9 Cz ++ (F1 ++ F102)))) hKB105 KB.stable hKB105.low (kcons (fun _ hq => by rcases List.mem_cons.1 hq with e | hq; exact h95.dj (k := 0) rfl rfl (List.mem_cons.2 (.inl e)); rcases List.mem_append.1 hq with hq | hq; exact h95.dj (k := 0) rfl rfl (List.mem_cons_of_mem _ (List.mem_append_left _ hq)); rcases List.mem_append.1 hq with hq | hq; exact h95.dj (k := 0) rfl rfl (List.mem_cons_of_mem _ (List.mem_append_right _ (List.mem_append_left _ hq))); have h8 := hn104 _ hq; have h9 := lt_of_heap (h95.kn (k := 0) rfl); omega) (kcons (fun _ hq => by rcases List.mem_cons.1 hq with e | hq; exact h95.dj (k := 1) rfl rfl (List.mem_cons.2 (.inl e)); rcases List.mem_append.1 hq with hq | hq; exact h95.dj (k := 1) rfl rfl (List.mem_cons_of_mem _ (List.mem_append_left _ hq)); rcases List.mem_append.1 hq with hq | hq; exact h95.dj (k := 1) rfl rfl (List.mem_cons_of_mem _ (List.mem_append_right _ (List.mem_append_left _ hq))); have h8 := hn104 _ hq; have h9 := lt_of_heap (h95.kn (k := 1) rfl); omega) knil))
      clear h95 h98
      refine nd_batch tabOk tabZ_ok [(2, {})] [7, 6, 3, 15, 16, 4, 17, 8] (T' := [(7, .pointer (some ⟨b85, 0, none⟩)), (6, .pointer (some ⟨b72, 0, none⟩)), (3, .pointer (some ⟨kb, 0, none⟩)), (15, .slice (some ⟨sb63, k064, none⟩) ops.length c), (16, .int .i64 ((ops.length : Nat) : Int)), (4, .slice o1 xs.length c1), (17, .int .i64 i), (8, .slice o100 ((uvs (bytesN Sz Qz Cz)).length) c101)]) (φ := True) (rest := []) h99 (by kernel_rfl) rfl trivial fun a108 h109 => ?_
      clear h99
      refine nd_done ?_
      refine hK93 _ _ ?_
      clear hK93
      refine wp_seq_k fun K110 hK110 => ?_
      refine wp_seq_k fun K111 hK111 => ?_
      rcases Bool.eq_false_or_eq_true ((oz.code != 0)) with hb112 | hb112
      ·
        have hb112f : oz.code ≠ 0 := by simpa using hb112
        refine nd_start (l := [0, 1, 2, 3, 4, 5, 6, 7, 8]) rfl ?_
        refine nd_batch tabOk tabZ_ok [(0, {}), (1, {k := 1}), (2, {f := 2}), (3, {}), (4, {}), (5, {})] [7, 6, 3, 15, 16, 4, 17, 8, 29, 30, 31] (T' := [(7, .pointer (some ⟨b85, 0, none⟩)), (6, .pointer (some ⟨b72, 0, none⟩)), (3, .pointer (some ⟨kb, 0, none⟩)), (15, .slice (some ⟨sb63, k064, none⟩) ops.length c), (16, .int .i64 ((ops.length : Nat) : Int)), (4, .slice o1 xs.length c1), (17, .int .i64 i), (8, .slice o100 ((uvs (bytesN Sz Qz Cz)).length) c101), (29, .bool true), (30, .slice o1 xs.length c1), (31, .slice o100 ((uvs (bytesN Sz Qz Cz)).length) c101)]) (φ := (b85 = b85 ∧ Nat.ble (0 + 1) 10 = true) ∧ ((oz.code != 0)) = true ∧ True) (rest := [6, 7, 8]) h109 (by kernel_rfl) rfl ⟨⟨rfl, rfl⟩, hb112, trivial⟩ fun a113 h114 => ?_
        clear h109
        refine nd_op ?_
        have hex := hQe hb112f
        have hnz : 0 < xs.length := by rw [hxs]; exact bytes_pos _ _ _
        have heq2 := equalE hex hnz h114.inv.r1 h114.inv.r2
        refine op_call h114 rfl rfl rfl (callOk Tryd.func17 (by decide) rfl) (args := [.slice o1 xs.length c1, .slice o100 ((uvs (bytesN Sz Qz Cz)).length) c101]) rfl (heq2) ?_
        rintro _ w115 ⟨rfl, hf117⟩
        refine ⟨_, rfl, ?_⟩
        have h116 := (h114.grow hf117).put (d := some 32) (v := .bool true) (T' := [(32, .bool true), (7, .pointer (some ⟨b85, 0, none⟩)), (6, .pointer (some ⟨b72, 0, none⟩)), (3, .pointer (some ⟨kb, 0, none⟩)), (15, .slice (some ⟨sb63, k064, none⟩) ops.length c), (16, .int .i64 ((ops.length : Nat) : Int)), (4, .slice o1 xs.length c1), (17, .int .i64 i), (8, .slice o100 ((uvs (bytesN Sz Qz Cz)).length) c101), (29, .bool true), (30, .slice o1 xs.length c1), (31, .slice o100 ((uvs (bytesN Sz Qz Cz)).length) c101)]) rfl
        clear h114
        refine nd_batch tabOk tabZ_ok [(7, {}), (8, {})] [7, 6, 3, 15, 16, 4, 17, 8, 34] (T' := [(7, .pointer (some ⟨b85, 0, none⟩)), (6, .pointer (some ⟨b72, 0, none⟩)), (3, .pointer (some ⟨kb, 0, none⟩)), (15, .slice (some ⟨sb63, k064, none⟩) ops.length c), (16, .int .i64 ((ops.length : Nat) : Int)), (4, .slice o1 xs.length c1), (17, .int .i64 i), (8, .slice o100 ((uvs (bytesN Sz Qz Cz)).length) c101), (34, .bool false)]) (φ := True) (rest := []) h116 (by kernel_rfl) rfl trivial fun a118 h119 => ?_
        clear h116
        refine nd_done ?_
        refine hK111 _ _ ?_
        clear hK111
        refine c_false h119 rfl ?_
        refine wp_skip ?_
        refine hK110 _ _ ?_
        clear hK110
        refine nd_start (l := [0, 1]) rfl ?_
        refine nd_batch tabOk tabZ_ok [(0, {}), (1, {})] [7, 6, 3, 15, 16, 17, 8, 4] (T' := [(7, .pointer (some ⟨b85, 0, none⟩)), (6, .pointer (some ⟨b72, 0, none⟩)), (3, .pointer (some ⟨kb, 0, none⟩)), (15, .slice (some ⟨sb63, k064, none⟩) ops.length c), (16, .int .i64 ((ops.length : Nat) : Int)), (17, .int .i64 i), (8, .slice o100 ((uvs (bytesN Sz Qz Cz)).length) c101), (4, .slice o100 ((uvs (bytesN Sz Qz Cz)).length) c101)]) (φ := True) (rest := []) h119 (by kernel_rfl) rfl trivial fun a120 h121 => ?_
        clear h119
        refine nd_done ?_
        refine hK67 _ _ ?_
        clear hK67
        refine nd_start (l := [0, 1]) rfl ?_
        refine nd_batch tabOk tabZ_ok [(0, {}), (1, {})] [7, 6, 3, 15, 16, 8, 4, 17] (T' := [(7, .pointer (some ⟨b85, 0, none⟩)), (6, .pointer (some ⟨b72, 0, none⟩)), (3, .pointer (some ⟨kb, 0, none⟩)), (15, .slice (some ⟨sb63, k064, none⟩) ops.length c), (16, .int .i64 ((ops.length : Nat) : Int)), (8, .slice o100 ((uvs (bytesN Sz Qz Cz)).length) c101), (4, .slice o100 ((uvs (bytesN Sz Qz Cz)).length) c101), (17, .int .i64 (i + 1))]) (φ := inR .i64 (i + 1) ∧ True) (rest := []) h121 (by kernel_rfl) rfl ⟨⟨by omega, by omega⟩, trivial⟩ fun a122 h123 => ?_
        clear h121
        refine nd_done ?_
        have h124 := h123.memMono (L' := []) (List.Sublist.cons _ (List.Sublist.cons _ List.Sublist.slnil))
        clear h123
        have h125 := h124.as (L' := []) (List.Sublist.refl _) (A' := KB w.heap.size kb bo bc nd9 Sz Cz (uvs (bytesN Sz Qz Cz)) o100 c101 F102 ([] : List Int) none 0 ([] : List Nat)) (F' := (kb :: (capF bo bc nd9 Cz ++ (F102 ++ ([] : List Nat))))) h124.inv.shift KB.stable h124.inv.shift.low knil
        clear h124
        exact ⟨(g - 1), by omega, nd9, Sz, Cz, Qz, (uvs (bytesN Sz Qz Cz)), o100, c101, F102, (i + 1), by omega, ⟨by omega, by omega⟩, hiv.1, hiv.2, huv.1, huv.2, hQz, rfl, (h125.slotsMono (restr_spec (keep := [3, 15, 16, 4, 17]) rfl))⟩
      ·
        have hb112f : oz.code = 0 := by simpa using hb112
        refine nd_start (l := [0, 1, 2, 3, 4, 5, 6, 7, 8]) rfl ?_
        refine nd_batch tabOk tabZ_ok [(0, {}), (1, {k := 1}), (2, {f := 1}), (3, {}), (4, {}), (5, {})] [7, 6, 3, 15, 16, 4, 17, 8, 29, 30, 31] (T' := [(7, .pointer (some ⟨b85, 0, none⟩)), (6, .pointer (some ⟨b72, 0, none⟩)), (3, .pointer (some ⟨kb, 0, none⟩)), (15, .slice (some ⟨sb63, k064, none⟩) ops.length c), (16, .int .i64 ((ops.length : Nat) : Int)), (4, .slice o1 xs.length c1), (17, .int .i64 i), (8, .slice o100 ((uvs (bytesN Sz Qz Cz)).length) c101), (29, .bool false), (30, .tuple #[]), (31, .tuple #[])]) (φ := (b85 = b85 ∧ Nat.ble (0 + 1) 10 = true) ∧ ((oz.code != 0)) = false ∧ True) (rest := [6, 7, 8]) h109 (by kernel_rfl) rfl ⟨⟨rfl, rfl⟩, hb112, trivial⟩ fun a126 h127 => ?_
        clear h109
        refine nd_batch tabOk tabZ_ok [(6, {})] [7, 6, 3, 15, 16, 4, 17, 8, 29, 32] (T' := [(7, .pointer (some ⟨b85, 0, none⟩)), (6, .pointer (some ⟨b72, 0, none⟩)), (3, .pointer (some ⟨kb, 0, none⟩)), (15, .slice (some ⟨sb63, k064, none⟩) ops.length c), (16, .int .i64 ((ops.length : Nat) : Int)), (4, .slice o1 xs.length c1), (17, .int .i64 i), (8, .slice o100 ((uvs (bytesN Sz Qz Cz)).length) c101), (29, .bool false), (32, .tuple #[])]) (φ := True) (rest := [7, 8]) h127 (by kernel_rfl) rfl trivial fun a128 h129 => ?_
        clear h127
        refine nd_batch tabOk tabZ_ok [(7, {}), (8, {})] [7, 6, 3, 15, 16, 4, 17, 8, 34] (T' := [(7, .pointer (some ⟨b85, 0, none⟩)), (6, .pointer (some ⟨b72, 0, none⟩)), (3, .pointer (some ⟨kb, 0, none⟩)), (15, .slice (some ⟨sb63, k064, none⟩) ops.length c), (16, .int .i64 ((ops.length : Nat) : Int)), (4, .slice o1 xs.length c1), (17, .int .i64 i), (8, .slice o100 ((uvs (bytesN Sz Qz Cz)).length) c101), (34, .bool false)]) (φ := True) (rest := []) h129 (by kernel_rfl) rfl trivial fun a130 h131 => ?_
        clear h129
        refine nd_done ?_
        refine hK111 _ _ ?_
        clear hK111
        refine c_false h131 rfl ?_
        refine wp_skip ?_
        refine hK110 _ _ ?_
        clear hK110
        refine nd_start (l := [0, 1]) rfl ?_
        refine nd_batch tabOk tabZ_ok [(0, {}), (1, {})] [7, 6, 3, 15, 16, 17, 8, 4] (T' := [(7, .pointer (some ⟨b85, 0, none⟩)), (6, .pointer (some ⟨b72, 0, none⟩)), (3, .pointer (some ⟨kb, 0, none⟩)), (15, .slice (some ⟨sb63, k064, none⟩) ops.length c), (16, .int .i64 ((ops.length : Nat) : Int)), (17, .int .i64 i), (8, .slice o100 ((uvs (bytesN Sz Qz Cz)).length) c101), (4, .slice o100 ((uvs (bytesN Sz Qz Cz)).length) c101)]) (φ := True) (rest := []) h131 (by kernel_rfl) rfl trivial fun a132 h133 => ?_
        clear h131
        refine nd_done ?_
        refine hK67 _ _ ?_
        clear hK67
        refine nd_start (l := [0, 1]) rfl ?_
        refine nd_batch tabOk tabZ_ok [(0, {}), (1, {})] [7, 6, 3, 15, 16, 8, 4, 17] (T' := [(7, .pointer (some ⟨b85, 0, none⟩)), (6, .pointer (some ⟨b72, 0, none⟩)), (3, .pointer (some ⟨kb, 0, none⟩)), (15, .slice (some ⟨sb63, k064, none⟩) ops.length c), (16, .int .i64 ((ops.length : Nat) : Int)), (8, .slice o100 ((uvs (bytesN Sz Qz Cz)).length) c101), (4, .slice o100 ((uvs (bytesN Sz Qz Cz)).length) c101), (17, .int .i64 (i + 1))]) (φ := inR .i64 (i + 1) ∧ True) (rest := []) h133 (by kernel_rfl) rfl ⟨⟨by omega, by omega⟩, trivial⟩ fun a134 h135 => ?_
        clear h133
        refine nd_done ?_
        have h136 := h135.memMono (L' := []) (List.Sublist.cons _ (List.Sublist.cons _ List.Sublist.slnil))
        clear h135
        have h137 := h136.as (L' := []) (List.Sublist.refl _) (A' := KB w.heap.size kb bo bc nd9 Sz Cz (uvs (bytesN Sz Qz Cz)) o100 c101 F102 ([] : List Int) none 0 ([] : List Nat)) (F' := (kb :: (capF bo bc nd9 Cz ++ (F102 ++ ([] : List Nat))))) h136.inv.shift KB.stable h136.inv.shift.low knil
        clear h136
        exact ⟨(g - 1), by omega, nd9, Sz, Cz, Qz, (uvs (bytesN Sz Qz Cz)), o100, c101, F102, (i + 1), by omega, ⟨by omega, by omega⟩, hiv.1, hiv.2, huv.1, huv.2, hQz, rfl, (h137.slotsMono (restr_spec (keep := [3, 15, 16, 4, 17]) rfl))⟩
    ·
      have hc62f : ¬ i < ((ops.length : Nat) : Int) := by simpa using hc62
      refine wp_exit ?_
      refine hK42 _ _ ?_
      clear hK42
      refine wp_seq_k fun K138 hK138 => ?_
      refine nd_start (l := [0]) rfl ?_
      refine nd_batch tabOk tabZ_ok [(0, {})] [3, 15, 16, 4, 17, 2] (T' := [(3, .pointer (some ⟨kb, 0, none⟩)), (15, .slice o ops.length c), (16, .int .i64 ((ops.length : Nat) : Int)), (4, .slice o1 xs.length c1), (17, .int .i64 i), (2, .bool true)]) (φ := True) (rest := []) h60 (by kernel_rfl) rfl trivial fun a139 h140 => ?_
      clear h60
      refine nd_done ?_
      refine hK138 _ _ ?_
      clear hK138
      refine wp_ret ?_
      try simp only [Exit.then, Exit.inBlock]
      try rw [if_pos trivial]
      exact s_ret tabOk tabZ_ok h140 [(.tmp 2, {})] (vs := [.bool true]) (φ := True) rfl (by kernel_rfl) trivial ⟨rfl, h140.frame⟩

end Go.Proofs.Qxb6500918aDoor
