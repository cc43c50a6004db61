/-
  Revoke. (Made by program: a symbolic walk that prints its steps.)
-/
import Derived.Test.Qxb6500918aDoorKL
namespace Go.Proofs.Qxb6500918aDoor
open Go.Sx Go.Kn
set_option maxRecDepth 100000
set_option maxHeartbeats 4000000
set_option linter.unusedVariables false
set_option linter.unusedSimpArgs false

theorem revoke_ok (bo bc : Nat) (nd : Nat → Nat) (C : CP) (hC : CI C) (sl : Int) (w : World) (hc : CapAt w bo bc nd C) :
    Calls Tryd.prog 96 #[.pointer (some ⟨bc, 0, none⟩), .int .i64 sl] w (DelR bo bc nd C (revokeP 4097 C sl []) w) := by
  refine enter (n := 18) (K := (capF bo bc nd C)) (A := fun w => CapAt w bo bc nd C) (F := (capF bo bc nd C)) (T := [(0, .pointer (some ⟨bc, 0, none⟩)), (1, .int .i64 sl)]) (L := []) (args := [.pointer (some ⟨bc, 0, none⟩), .int .i64 sl]) Tryd.func96 rfl rfl rfl rfl knil (by simp) knil hc CapAt.stable hc.low knil ?_
  intro a h
  refine wp_seq_k fun K1 hK1 => ?_
  refine nd_start (l := [0, 1, 2]) rfl ?_
  refine nd_op ?_
  refine op_new tabOk (cells := [.pointer (some ⟨bc, 0, none⟩)]) (ty := 79) (ln := none) (L1 := fun b2 => [(b2, ⟨[.pointer (some ⟨bc, 0, none⟩)], 79, false⟩)]) h rfl rfl rfl rfl (by kernel_rfl) (fun _ => rfl) fun b2 w3 a4 h5 hf6 hn7 => ?_
  clear h
  refine nd_op ?_
  refine op_new tabOk (cells := [.int .i64 sl]) (ty := 3) (ln := none) (L1 := fun b8 => [(b2, ⟨[.pointer (some ⟨bc, 0, none⟩)], 79, false⟩), (b8, ⟨[.int .i64 sl], 3, false⟩)]) h5 rfl rfl rfl rfl (by kernel_rfl) (fun _ => rfl) fun b8 w9 a10 h11 hf12 hn13 => ?_
  clear h5
  refine nd_batch tabOk tabZ_ok [(2, {})] [3, 2, 0, 1, 4] (T' := [(3, .pointer (some ⟨b8, 0, none⟩)), (2, .pointer (some ⟨b2, 0, none⟩)), (0, .pointer (some ⟨bc, 0, none⟩)), (1, .int .i64 sl), (4, .slice none 0 0)]) (φ := True) (rest := []) h11 (by kernel_rfl) rfl trivial fun a14 h15 => ?_
  clear h11
  refine nd_done ?_
  refine hK1 _ _ ?_
  clear hK1
  refine wp_seq_k fun K16 hK16 => ?_
  refine nd_start (l := [0]) rfl ?_
  refine nd_batch tabOk tabZ_ok [(0, {})] [3, 2, 0, 1, 4, 5] (T' := [(3, .pointer (some ⟨b8, 0, none⟩)), (2, .pointer (some ⟨b2, 0, none⟩)), (0, .pointer (some ⟨bc, 0, none⟩)), (1, .int .i64 sl), (4, .slice none 0 0), (5, .slice none 0 0)]) (φ := True) (rest := []) h15 (by kernel_rfl) rfl trivial fun a17 h18 => ?_
  clear h15
  refine nd_done ?_
  refine hK16 _ _ ?_
  clear hK16
  refine wp_block ?_
  have hR0 : CRow bo bc nd C [] none 0 [] _ := ⟨h18.inv, rl_nil cpC _ 49 5, fun _ hq => by cases hq⟩
  have h19 := h18.as (L' := [(b2, ⟨[.pointer (some ⟨bc, 0, none⟩)], 79, false⟩), (b8, ⟨[.int .i64 sl], 3, false⟩)]) (List.Sublist.refl _) (A' := CRow bo bc nd C [] none 0 []) (F' := capF bo bc nd C ++ []) hR0 CRow.stable hR0.low (kcons (fun _ hq => (List.mem_append.1 hq).elim (h18.dj (k := 0) rfl rfl) (fun h => by cases h)) (kcons (fun _ hq => (List.mem_append.1 hq).elim (h18.dj (k := 1) rfl rfl) (fun h => by cases h)) knil))
  clear h18
  refine wp_loop_ghost (fun g ga gw => ∃ (Ck : CP) (l : List Cp) (o' : Option Addr) (c' : Nat) (Fk : List Nat), (CI Ck) ∧ (cnt Ck ≤ g) ∧ (revokeP (g + 1) Ck sl l = revokeP 4097 C sl []) ∧ (∀ b ∈ Fk, w.heap.size ≤ b) ∧ (∀ x ∈ capF bo bc nd Ck, x ∈ capF bo bc nd C) ∧ (l.length + cnt Ck ≤ 4096) ∧ St ⟨18, capF bo bc nd C, w, CRow bo bc nd Ck l o' c' Fk, capF bo bc nd Ck ++ Fk⟩ [(3, .pointer (some ⟨b8, 0, none⟩)), (2, .pointer (some ⟨b2, 0, none⟩)), (4, .slice none 0 0), (5, .slice o' l.length c')] [(b2, ⟨[.pointer (some ⟨bc, 0, none⟩)], 79, false⟩), (b8, ⟨[.int .i64 sl], 3, false⟩)] ga gw) 4096 ⟨C, [], none, 0, [], hC, cnt_le, rfl, (fun _ hq => by cases hq), (fun _ hq => hq), (by have := cnt_le (C := C); simp; omega), (h19.slotsMono (restr_spec (keep := [3, 2, 4, 5]) rfl))⟩ ?_
  clear h19
  rintro g a20 w21 ⟨Ck, l, o', c', Fk, hi23, hi24, hi25, hi26, hi27, hi28, h22⟩
  have k1 := hi23
  have hcg := hi24
  have hrev := hi25
  have hnewk := hi26
  have hsubk := hi27
  have hll := hi28
  have hcl := cnt_le (C := C)
  refine wp_block ?_
  refine wp_seq_k fun K29 hK29 => ?_
  refine nd_start (l := [0, 1]) rfl ?_
  refine nd_op ?_
  refine op_new tabOk (cells := [.int .i64 0]) (ty := 3) (ln := none) (L1 := fun b30 => [(b2, ⟨[.pointer (some ⟨bc, 0, none⟩)], 79, false⟩), (b8, ⟨[.int .i64 sl], 3, false⟩), (b30, ⟨[.int .i64 0], 3, false⟩)]) h22 rfl rfl rfl rfl (by kernel_rfl) (fun _ => rfl) fun b30 w31 a32 h33 hf34 hn35 => ?_
  clear h22
  refine nd_op ?_
  refine op_store tabOk {k := 2} (L' := [(b2, ⟨[.pointer (some ⟨bc, 0, none⟩)], 79, false⟩), (b8, ⟨[.int .i64 sl], 3, false⟩), (b30, ⟨[.int .i64 (-1)], 3, false⟩)]) (φ := b30 = b30 ∧ Nat.ble (0 + 1) 1 = true) h33 rfl rfl rfl (by kernel_rfl) ⟨rfl, rfl⟩ fun w36 h37 => ?_
  clear h33
  refine nd_done ?_
  refine hK29 _ _ ?_
  clear hK29
  refine wp_seq_k fun K38 hK38 => ?_
  refine nd_start (l := [0, 1, 2]) rfl ?_
  refine nd_batch tabOk tabZ_ok [(0, {k := 0}), (1, {})] [6, 3, 2, 4, 5, 7, 8] (T' := [(6, .pointer (some ⟨b30, 0, none⟩)), (3, .pointer (some ⟨b8, 0, none⟩)), (2, .pointer (some ⟨b2, 0, none⟩)), (4, .slice none 0 0), (5, .slice o' l.length c'), (7, .pointer (some ⟨bc, 0, none⟩)), (8, .func (.func 111) #[] #[.pointer (some ⟨b30, 0, none⟩), .pointer (some ⟨b2, 0, none⟩), .pointer (some ⟨b8, 0, none⟩)])]) (φ := (b2 = b2 ∧ Nat.ble (0 + 1) 1 = true) ∧ True) (rest := [2]) h37 (by kernel_rfl) rfl ⟨⟨rfl, rfl⟩, trivial⟩ fun a39 h40 => ?_
  clear h37
  refine nd_op ?_
  refine op_call h40 rfl rfl rfl (callOk Tryd.func70 (by decide) rfl) (args := [.pointer (some ⟨bc, 0, none⟩), .func (.func 111) #[] #[.pointer (some ⟨b30, 0, none⟩), .pointer (some ⟨b2, 0, none⟩), .pointer (some ⟨b8, 0, none⟩)]]) rfl (next_each bo bc nd Ck k1 b30 b2 b8 sl _ h40.inv.cap (h40.kn (k := 2) rfl) (h40.kn (k := 0) rfl) (h40.kn (k := 1) rfl) ⟨nodup_key h40.nodup (i := 2) (j := 0) rfl rfl (by decide), nodup_key h40.nodup (i := 2) (j := 1) rfl rfl (by decide), nodup_key h40.nodup (i := 0) (j := 1) rfl rfl (by decide)⟩ ⟨(fun hq => h40.dj (k := 2) rfl rfl (List.mem_append_left _ hq)), (fun hq => h40.dj (k := 0) rfl rfl (List.mem_append_left _ hq)), (fun hq => h40.dj (k := 1) rfl rfl (List.mem_append_left _ hq))⟩) ?_
  rintro _ w41 ⟨rfl, hr44, hf42⟩
  refine ⟨_, rfl, ?_⟩
  have h43 := (h40.setBlk (k := 2) rfl rfl hf42 hr44 (L' := [(b2, ⟨[.pointer (some ⟨bc, 0, none⟩)], 79, false⟩), (b8, ⟨[.int .i64 sl], 3, false⟩), (b30, ⟨[.int .i64 (nextUp Ck sl 4096)], 3, false⟩)]) rfl).put (d := some 9) (v := .tuple #[]) (T' := [(9, .tuple #[]), (6, .pointer (some ⟨b30, 0, none⟩)), (3, .pointer (some ⟨b8, 0, none⟩)), (2, .pointer (some ⟨b2, 0, none⟩)), (4, .slice none 0 0), (5, .slice o' l.length c'), (7, .pointer (some ⟨bc, 0, none⟩)), (8, .func (.func 111) #[] #[.pointer (some ⟨b30, 0, none⟩), .pointer (some ⟨b2, 0, none⟩), .pointer (some ⟨b8, 0, none⟩)])]) rfl
  clear h40
  refine nd_done ?_
  refine hK38 _ _ ?_
  clear hK38
  refine wp_seq_k fun K45 hK45 => ?_
  refine wp_seq_k fun K46 hK46 => ?_
  refine nd_start (l := [0, 1]) rfl ?_
  refine nd_batch tabOk tabZ_ok [(0, {k := 2}), (1, {})] [6, 3, 2, 4, 5, 11] (T' := [(6, .pointer (some ⟨b30, 0, none⟩)), (3, .pointer (some ⟨b8, 0, none⟩)), (2, .pointer (some ⟨b2, 0, none⟩)), (4, .slice none 0 0), (5, .slice o' l.length c'), (11, .bool ((nextUp Ck sl 4096) == -1))]) (φ := (b30 = b30 ∧ Nat.ble (0 + 1) 1 = true) ∧ True) (rest := []) h43 (by kernel_rfl) rfl ⟨⟨rfl, rfl⟩, trivial⟩ fun a47 h48 => ?_
  clear h43
  refine nd_done ?_
  refine hK46 _ _ ?_
  clear hK46
  refine c_split h48 (b := ((nextUp Ck sl 4096) == -1)) rfl (fun hc49 => ?_) (fun hc49 => ?_)
  ·
    have hc49f : (nextUp Ck sl 4096) = -1 := by simpa using hc49
    rw [revokeP, if_pos hc49f] at hrev
    refine wp_seq_k fun K50 hK50 => ?_
    refine nd_start (l := [0, 1]) rfl ?_
    refine nd_batch tabOk tabZ_ok [(0, {}), (1, {})] [6, 3, 2, 5, 4] (T' := [(6, .pointer (some ⟨b30, 0, none⟩)), (3, .pointer (some ⟨b8, 0, none⟩)), (2, .pointer (some ⟨b2, 0, none⟩)), (5, .slice o' l.length c'), (4, .slice o' l.length c')]) (φ := True) (rest := []) h48 (by kernel_rfl) rfl trivial fun a51 h52 => ?_
    clear h48
    refine nd_done ?_
    refine hK50 _ _ ?_
    clear hK50
    refine wp_ret ?_
    try simp only [Exit.then, Exit.inBlock]
    try rw [if_pos trivial]
    exact s_ret tabOk tabZ_ok h52 [(.tmp 4, {})] (vs := [.slice o' l.length c']) (φ := True) rfl (by kernel_rfl) trivial (by rw [← hrev]; exact ⟨o', c', Fk, rfl, h52.inv, hnewk, hsubk, h52.frame⟩)
  ·
    have hc49f : (nextUp Ck sl 4096) ≠ -1 := by simpa using hc49
    obtain ⟨m, hm, hm4, hmf⟩ := (nextUp_full (C := Ck) (s := sl) (n := 4096) (Nat.le_refl _)).resolve_left hc49f
    rw [revokeP, if_neg hc49f] at hrev
    rw [hm, Int.toNat_natCast] at hrev
    have hdo := del_ok 4097 Ck m k1 (by have := cnt_le (C := Ck); omega) hmf.1 hmf.2.1
    have hless := hdo.less hmf.2.2
    refine wp_skip ?_
    refine hK45 _ _ ?_
    clear hK45
    refine nd_start (l := [0, 1, 2, 3, 4, 5]) rfl ?_
    refine nd_batch tabOk tabZ_ok [(0, {}), (1, {k := 0}), (2, {k := 2})] [6, 3, 2, 4, 5, 13, 14, 15] (T' := [(6, .pointer (some ⟨b30, 0, none⟩)), (3, .pointer (some ⟨b8, 0, none⟩)), (2, .pointer (some ⟨b2, 0, none⟩)), (4, .slice none 0 0), (5, .slice o' l.length c'), (13, .slice o' l.length c'), (14, .pointer (some ⟨bc, 0, none⟩)), (15, .int .i64 (nextUp Ck sl 4096))]) (φ := (b2 = b2 ∧ Nat.ble (0 + 1) 1 = true) ∧ (b30 = b30 ∧ Nat.ble (0 + 1) 1 = true) ∧ True) (rest := [3, 4, 5]) h48 (by kernel_rfl) rfl ⟨⟨rfl, rfl⟩, ⟨rfl, rfl⟩, trivial⟩ fun a53 h54 => ?_
    clear h48
    refine nd_op ?_
    have hih := delete_ok bo bc 4097 nd Ck m k1 (by have := cnt_le (C := Ck); omega) hmf.1 hmf.2.1 _ h54.inv.cap
    rw [show (m : Int) = nextUp Ck sl 4096 from hm.symm] at hih
    obtain ⟨Cd, eCd⟩ : ∃ x, x = (deleteP 4097 Ck m).1 := ⟨_, rfl⟩
    obtain ⟨ld, eld⟩ : ∃ x, x = (deleteP 4097 Ck m).2 := ⟨_, rfl⟩
    refine op_call h54 rfl rfl rfl (callOk Tryd.func95 (by decide) rfl) (args := [.pointer (some ⟨bc, 0, none⟩), .int .i64 (nextUp Ck sl 4096)]) rfl hih ?_
    rintro _ w55 ⟨od, cd, Fd, rfl, hRd, hnd, hsd, hfd⟩
    refine ⟨_, rfl, ?_⟩
    have hld := hdo.len
    rw [← eCd, ← eld] at hRd hld
    rw [← eCd] at hsd hless
    rw [← eld]
    have hR2 : CRow bo bc nd Cd l o' c' Fk w55 := ⟨hRd.cap, Row.fr h54.inv.row hfd h54.inv.dis, fun b hb hq => h54.inv.dis b hb (hsd b hq)⟩
    have h56 := (h54.callF hfd (fun b hb => List.mem_append_left _ hb) (fun b hb => .inl (hsubk b hb)) (A' := CRow bo bc nd Cd l o' c' Fk) (F' := capF bo bc nd Cd ++ Fk) (kcons (by intro hq; cases hq) (kcons (by intro hq; cases hq) (kcons (by intro hq; cases hq) knil))) hR2 CRow.stable hR2.low (fun b hb => .inl ((List.mem_append.1 hb).elim (fun h => List.mem_append_left _ (hsd b h)) (fun h => List.mem_append_right _ h)))).put (d := some 16) (v := .slice od ld.length cd) (T' := [(16, .slice od ld.length cd), (6, .pointer (some ⟨b30, 0, none⟩)), (3, .pointer (some ⟨b8, 0, none⟩)), (2, .pointer (some ⟨b2, 0, none⟩)), (4, .slice none 0 0), (5, .slice o' l.length c'), (13, .slice o' l.length c'), (14, .pointer (some ⟨bc, 0, none⟩)), (15, .int .i64 (nextUp Ck sl 4096))]) rfl
    clear h54
    refine nd_op ?_
    refine op_append tabOk (e := 49) (so := o') (n := l.length) (c := c') (xo := od) (m := ld.length) (cx := cd) (vals := l.flatMap cpC) (vs := ld.flatMap cpC) (F := Fk) h56 rfl rfl rfl rfl rfl rfl rfl rfl rfl rfl rfl rfl h56.inv.row (src_row hRd.row) (by omega) (allOne_caps ld) ?_
    intro o57 c58 F59 w60 hr61 hf62 hF63
    have hr612 := rl_app (enc := cpC) (xs := l) (ys := ld) hr61
    have hRa : CRow bo bc nd Cd (l ++ ld) o57 c58 F59 w60 := ⟨h56.inv.cap.fr hf62 (fun b hb hq => h56.inv.dis b hq hb), hr612, fun b hb hq => (hF63 b hb).elim (fun h => h56.inv.dis b h hq) (fun h => by have := h56.inv.cap.low b hq; omega)⟩
    rw [show l.length + ld.length = (l ++ ld).length by simp]
    have h64 := (h56.callF hf62 (fun b hb => List.mem_append_right _ hb) (fun b hb => .inr (hnewk b hb)) (A' := CRow bo bc nd Cd (l ++ ld) o57 c58 F59) (F' := capF bo bc nd Cd ++ F59) (kcons (by intro hq; cases hq) (kcons (by intro hq; cases hq) (kcons (by intro hq; cases hq) knil))) hRa CRow.stable hRa.low (fun b hb => (List.mem_append.1 hb).elim (fun h => .inl (List.mem_append_left _ h)) (fun h => (hF63 b h).elim (fun h => .inl (List.mem_append_right _ h)) .inr))).put (d := some 17) (v := .slice o57 ((l ++ ld).length) c58) (T' := [(17, .slice o57 ((l ++ ld).length) c58), (16, .slice od ld.length cd), (6, .pointer (some ⟨b30, 0, none⟩)), (3, .pointer (some ⟨b8, 0, none⟩)), (2, .pointer (some ⟨b2, 0, none⟩)), (4, .slice none 0 0), (5, .slice o' l.length c'), (13, .slice o' l.length c'), (14, .pointer (some ⟨bc, 0, none⟩)), (15, .int .i64 (nextUp Ck sl 4096))]) rfl
    have hnewa : ∀ b ∈ F59, w.heap.size ≤ b := fun b hb => (hF63 b hb).elim (hnewk b) (fun h => by have hq : w.heap.size ≤ _ := h56.frame.size; omega)
    have hsuba : ∀ x ∈ capF bo bc nd Cd, x ∈ capF bo bc nd C := fun x hx => hsubk x (hsd x hx)
    clear h56
    refine nd_batch tabOk tabZ_ok [(5, {})] [6, 3, 2, 4, 5] (T' := [(6, .pointer (some ⟨b30, 0, none⟩)), (3, .pointer (some ⟨b8, 0, none⟩)), (2, .pointer (some ⟨b2, 0, none⟩)), (4, .slice none 0 0), (5, .slice o57 ((l ++ ld).length) c58)]) (φ := True) (rest := []) h64 (by kernel_rfl) rfl trivial fun a65 h66 => ?_
    clear h64
    refine nd_done ?_
    have h67 := h66.memMono (L' := [(b2, ⟨[.pointer (some ⟨bc, 0, none⟩)], 79, false⟩), (b8, ⟨[.int .i64 sl], 3, false⟩)]) (List.Sublist.cons_cons _ (List.Sublist.cons_cons _ (List.Sublist.cons _ List.Sublist.slnil)))
    clear h66
    exact ⟨(g - 1), by omega, Cd, (l ++ ld), o57, c58, F59, (by rw [eCd]; exact hdo.ci), by omega, (by rw [show g - 1 + 1 = g by omega, eCd, eld]; exact hrev), hnewa, hsuba, (by rw [List.length_append]; omega), (h67.slotsMono (restr_spec (keep := [3, 2, 4, 5]) rfl))⟩

end Go.Proofs.Qxb6500918aDoor
