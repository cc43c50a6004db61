/-
  schedule. (Made by program: a symbolic walk that prints its steps.)
-/
import Derived.Test.Qxb6500918aDoorKO
import Derived.Test.Qxb6500918aDoorLa
namespace Go.Proofs.Qxb6500918aDoor
open Go.Sx Go.Kn
set_option maxRecDepth 100000
set_option maxHeartbeats 4000000
set_option linter.unusedVariables false
set_option linter.unusedSimpArgs false

def chk8 (s : ByteArray) : Bool := decide (s.size = 256) && (List.range 256).all fun b => (s.data.toList[b]?).map (fun x => (x.toNat : Int)) == some (topP (b : Int) + 1)

theorem pure_len8 {T : Slots} {a : Act} {o : Oper} {y : Operand} {s : ByteArray} {b : Int} (hs : SlotsOk T a) (hop : o.op = .index 9 (.const (.string s)) y) (hy : evO T y = some (.int .u8 b)) (hc : chk8 s = true) (hb : 0 ≤ b ∧ b < 256) : Pure Tryd.prog a o (.int .u8 (topP b + 1)) := by
  intro w
  unfold chk8 at hc
  rw [Bool.and_eq_true, decide_eq_true_eq, List.all_eq_true] at hc
  have h1 := hc.2 b.toNat (List.mem_range.2 (by omega))
  rw [show ((b.toNat : Nat) : Int) = b by omega, beq_iff_eq] at h1
  have e1 := evO_eval hs hy
  have e2 : a.eval (.const (.string s)) = .string s := rfl
  have hlt : b.toNat < s.size := by rw [hc.1]; omega
  have hin : 0 ≤ b ∧ b < (s.size : Int) := ⟨hb.1, by omega⟩
  simp only [execOp, hop, e1, e2, Sem.run_bind, run_index_string w 9 s .u8 b Tryd.underlying9, dif_pos hin, Result.andThen_ok, Sem.run_pure]
  have h2 : ((s[b.toNat]'hlt).toNat : Int) = topP b + 1 := by
    have h3 : s.data.toList[b.toNat]? = some (s[b.toNat]'hlt) := by
      rw [List.getElem?_eq_getElem (by simpa using hlt)]; rfl
    rw [h3] at h1
    simpa using h1
  rw [h2]

theorem len8_ok (b : Int) (hb : 0 ≤ b ∧ b < 256) (w : World) : Calls Tryd.prog 86 #[.int .u8 b] w fun e w' => e = .returned (.int .i64 (topP b + 1)) ∧ Fr [] w w' := by
  have htp := top_all hb
  refine enter0 (n := 6) (K := []) (T := [(0, .int .u8 b)]) (L := []) (args := [.int .u8 b]) Tryd.func86 rfl rfl rfl rfl knil (by simp) knil ?_
  intro a h
  refine wp_seq_k fun K1 hK1 => ?_
  refine nd_start (l := [0]) rfl ?_
  refine nd_batch tabOk tabZ_ok [(0, {})] [0, 2] (T' := [(0, .int .u8 b), (2, .int .i64 0)]) (φ := True) (rest := []) h (by kernel_rfl) rfl trivial fun a2 h3 => ?_
  clear h
  refine nd_done ?_
  refine hK1 _ _ ?_
  clear hK1
  refine wp_seq_k fun K4 hK4 => ?_
  refine nd_start (l := [0, 1, 2, 3]) rfl ?_
  refine nd_batch tabOk tabZ_ok [(0, {})] [0, 2, 3] (T' := [(0, .int .u8 b), (2, .int .i64 0), (3, .int .u8 b)]) (φ := True) (rest := [1, 2, 3]) h3 (by kernel_rfl) rfl trivial fun a5 h6 => ?_
  clear h3
  refine nd_op ?_
  refine op_pure (v := .int .u8 (topP b + 1)) h6 rfl rfl (pure_len8 h6.slots rfl rfl (by kernel_rfl) hb) ?_
  have h7 := h6.put (d := some 4) (v := .int .u8 (topP b + 1)) (T' := [(4, .int .u8 (topP b + 1)), (0, .int .u8 b), (2, .int .i64 0), (3, .int .u8 b)]) rfl
  clear h6
  refine nd_batch tabOk tabZ_ok [(2, {}), (3, {})] [0, 2] (T' := [(0, .int .u8 b), (2, .int .i64 (topP b + 1))]) (φ := inR .i64 (topP b + 1) ∧ True) (rest := []) h7 (by kernel_rfl) rfl ⟨⟨by omega, by omega⟩, trivial⟩ fun a8 h9 => ?_
  clear h7
  refine nd_done ?_
  refine hK4 _ _ ?_
  clear hK4
  refine wp_ret ?_
  try simp only [Exit.then, Exit.inBlock]
  try rw [if_pos trivial]
  exact s_ret tabOk tabZ_ok h9 [(.tmp 2, {})] (vs := [.int .i64 (topP b + 1)]) (φ := True) rfl (by kernel_rfl) trivial ⟨rfl, h9.frame⟩

theorem sched_walk (kb bo bc : Nat) (S : KP) (rS : RI S) (Q : QL → List Nat) (hQ : LIQ S Q) (pick : Int) (hpk : 0 ≤ pick) (w : World) (hb : w.heap[kb]? = some (Blk.obj ⟨kC bo bc S, 90, false⟩)) :
    Calls Tryd.prog 50 #[.pointer (some ⟨kb, 0, none⟩), .int .u32 pick] w fun e w' => e = .returned (.tuple #[]) ∧ w'.heap[kb]? = some (Blk.obj ⟨kC bo bc (schedP S pick), 90, false⟩) ∧ Fr [kb] w w' := by
  refine enter0 (n := 81) (K := [kb]) (T := [(0, .pointer (some ⟨kb, 0, none⟩)), (1, .int .u32 pick)]) (L := [(kb, ⟨kC bo bc S, 90, false⟩)]) (args := [.pointer (some ⟨kb, 0, none⟩), .int .u32 pick]) Tryd.func50 rfl rfl rfl rfl (kcons hb knil) (by simp) (kcons (by simp) knil) ?_
  intro a h
  refine wp_seq_k fun K1 hK1 => ?_
  refine nd_start (l := [0, 1, 2, 3, 4, 5, 6]) rfl ?_
  refine nd_batch tabOk tabZ_ok [(0, {}), (1, {}), (2, {}), (3, {k := 0, m := 1, vs := [.int .u8 S.busy]})] [0, 1, 10] (T' := [(0, .pointer (some ⟨kb, 0, none⟩)), (1, .int .u32 pick), (10, .int .u8 S.busy)]) (φ := (kb = kb ∧ cellsAre (kC bo bc S) 6426 [.int .u8 S.busy]) ∧ True) (rest := [4, 5, 6]) h (by kernel_rfl) rfl ⟨⟨rfl, k_busy⟩, trivial⟩ fun a2 h3 => ?_
  clear h
  refine nd_op ?_
  have htp := top_all hQ.by_
  refine op_call h3 rfl rfl rfl (callOk Tryd.func86 (by decide) rfl) (args := [.int .u8 S.busy]) rfl (len8_ok S.busy hQ.by_ _) ?_
  rintro _ w4 ⟨rfl, hf6⟩
  refine ⟨_, rfl, ?_⟩
  have h5 := (h3.grow hf6).put (d := some 11) (v := .int .i64 (topP S.busy + 1)) (T' := [(11, .int .i64 (topP S.busy + 1)), (0, .pointer (some ⟨kb, 0, none⟩)), (1, .int .u32 pick), (10, .int .u8 S.busy)]) rfl
  clear h3
  refine nd_batch tabOk tabZ_ok [(5, {}), (6, {})] [0, 1, 4] (T' := [(0, .pointer (some ⟨kb, 0, none⟩)), (1, .int .u32 pick), (4, .int .i64 ((topP S.busy + 1) - 1))]) (φ := inR .i64 ((topP S.busy + 1) - 1) ∧ True) (rest := []) h5 (by kernel_rfl) rfl ⟨⟨by omega, by omega⟩, trivial⟩ fun a7 h8 => ?_
  clear h5
  refine nd_done ?_
  refine hK1 _ _ ?_
  clear hK1
  refine wp_seq_k fun K9 hK9 => ?_
  refine wp_seq_k fun K10 hK10 => ?_
  refine nd_start (l := [0, 1, 2, 3, 4]) rfl ?_
  refine nd_batch tabOk tabZ_ok [(0, {}), (1, {}), (2, {}), (3, {k := 0, m := 1, vs := [.int .i16 S.cur]}), (4, {})] [0, 1, 4, 17] (T' := [(0, .pointer (some ⟨kb, 0, none⟩)), (1, .int .u32 pick), (4, .int .i64 ((topP S.busy + 1) - 1)), (17, .bool (S.cur != -1))]) (φ := (kb = kb ∧ cellsAre (kC bo bc S) 6427 [.int .i16 S.cur]) ∧ True) (rest := []) h8 (by kernel_rfl) rfl ⟨⟨rfl, k_cur⟩, trivial⟩ fun a11 h12 => ?_
  clear h8
  refine nd_done ?_
  refine hK10 _ _ ?_
  clear hK10
  refine c_split h12 (b := (S.cur != -1)) rfl (fun hc13 => ?_) (fun hc13 => ?_)
  ·
    have hc13f : S.cur ≠ -1 := by simpa using hc13
    have h14 := h12
    rw [show (topP S.busy + 1) - 1 = topP S.busy by omega] at h14
    clear h12
    have hcur := lk_nat rS.cur hc13f
    have hprc := (rS.t (i := S.cur.toNat) (by omega)).pr
    refine wp_seq_k fun K15 hK15 => ?_
    refine wp_seq_k fun K16 hK16 => ?_
    refine dr_start (KB := [kb]) (Bi := [[0], [0], [0], [0], [0], [0], [0], [0], [0], [0], [0], [0], [0], [0]]) mixed h14 fun w17 h18 => ?_
    clear h14
    refine dr_batch tabOk tabZ_ok (by repeat (first | with_reducible exact PF.body | with_reducible apply PF.inB | with_reducible apply PF.next)) [(0, {}), (1, {}), (2, {}), (3, {}), (4, {}), (5, {k := 0, m := 1, vs := [.int .i16 S.cur], p := 0}), (6, {}), (7, {}), (8, {}), (9, {}), (10, {}), (11, {k := 0, m := 1, vs := [.int .u8 ((S.tcb S.cur.toNat).prio)], p := 0}), (12, {}), (13, {})] [0, 1, 4, 31] (T' := [(0, .pointer (some ⟨kb, 0, none⟩)), (1, .int .u32 pick), (4, .int .i64 (topP S.busy)), (31, .bool (decide ((topP S.busy) ≤ (S.tcb S.cur.toNat).prio)))]) (φ := (kb = kb ∧ cellsAre (kC bo bc S) 6427 [.int .i16 S.cur]) ∧ (0 ≤ S.cur ∧ S.cur < 256) ∧ (kb = kb ∧ cellsAre (kC bo bc S) (2 + (S.cur.toNat * 21) + 1) [.int .u8 ((S.tcb S.cur.toNat).prio)]) ∧ inR .i64 ((S.tcb S.cur.toNat).prio) ∧ True) (fuel := 0) h18 (by kernel_rfl) rfl (by kernel_rfl) (by kernel_rfl) ⟨trivial, trivial, trivial, trivial, trivial, rfl, trivial, trivial, trivial, trivial, trivial, rfl, trivial, trivial, trivial⟩ ⟨⟨rfl, k_cur⟩, ⟨by omega, by omega⟩, ⟨rfl, (k_tcb (i := S.cur.toNat) (k := 1) (by omega) (by omega) ⟨rfl, trivial⟩)⟩, ⟨by omega, by omega⟩, trivial⟩ fun a20 h21 => ?_
    clear h18
    refine wpAnyK_done (by kernel_rfl) ?_ _
    refine hK16 _ _ ?_
    clear hK16
    refine c_split h21 (b := decide ((topP S.busy) ≤ (S.tcb S.cur.toNat).prio)) rfl (fun hc22 => ?_) (fun hc22 => ?_)
    ·
      have hc22f : (topP S.busy) ≤ (S.tcb S.cur.toNat).prio := by simpa using hc22
      refine wp_ret ?_
      try simp only [Exit.then, Exit.inBlock]
      try rw [if_pos trivial]
      exact s_ret tabOk tabZ_ok h21 [] (vs := []) (φ := True) rfl (by kernel_rfl) trivial ⟨rfl, (by rw [show schedP S pick = S from (by unfold schedP; (first | rw [if_pos hc13f] | rw [if_pos (fun hz => hz hc13f)]); (first | rw [if_pos hc22f] | rw [if_pos (fun hz => hz hc22f)]))]; exact h21.kn (k := 0) rfl), h21.frame⟩
    ·
      have hc22f : ¬ (topP S.busy) ≤ (S.tcb S.cur.toNat).prio := by simpa using hc22
      refine wp_skip ?_
      refine hK15 _ _ ?_
      clear hK15
      refine nd_start (l := [0, 1, 2, 3, 4, 5]) rfl ?_
      refine nd_batch tabOk tabZ_ok [(0, {}), (1, {}), (2, {}), (3, {}), (4, {k := 0, m := 1, vs := [.int .i16 S.cur]})] [0, 1, 4, 32, 36] (T' := [(0, .pointer (some ⟨kb, 0, none⟩)), (1, .int .u32 pick), (4, .int .i64 (topP S.busy)), (32, .pointer (some ⟨kb, 0, none⟩)), (36, .int .i16 S.cur)]) (φ := (kb = kb ∧ cellsAre (kC bo bc S) 6427 [.int .i16 S.cur]) ∧ True) (rest := [5]) h21 (by kernel_rfl) rfl ⟨⟨rfl, k_cur⟩, trivial⟩ fun a23 h24 => ?_
      clear h21
      refine nd_op ?_
      refine op_call h24 rfl rfl rfl (callOk Tryd.func47 (by decide) rfl) (args := [.pointer (some ⟨kb, 0, none⟩), .int .i16 S.cur]) rfl (wake_ok kb bo bc S rS S.cur hcur _ (h24.kn (k := 0) rfl)) ?_
      rintro _ w28 ⟨rfl, hb26, hf27⟩
      refine ⟨_, rfl, ?_⟩
      obtain ⟨S25, eS25⟩ : ∃ S9, S9 = wakeP S S.cur := ⟨_, rfl⟩
      rw [← eS25] at hb26
      have rS25 : RI S25 := by rw [eS25]; exact wake_RI rS hcur
      have h29 := (h24.setBlk (k := 0) rfl rfl hf27 hb26 (L' := [(kb, ⟨kC bo bc S25, 90, false⟩)]) rfl).put (d := some 37) (v := .tuple #[]) (T' := [(37, .tuple #[]), (0, .pointer (some ⟨kb, 0, none⟩)), (1, .int .u32 pick), (4, .int .i64 (topP S.busy)), (32, .pointer (some ⟨kb, 0, none⟩)), (36, .int .i16 S.cur)]) rfl
      clear h24
      refine nd_done ?_
      refine hK9 _ _ ?_
      clear hK9
      refine wp_seq_k fun K30 hK30 => ?_
      refine wp_seq_k fun K31 hK31 => ?_
      refine nd_start (l := [0, 1]) rfl ?_
      refine nd_batch tabOk tabZ_ok [(0, {}), (1, {})] [0, 1, 4, 39] (T' := [(0, .pointer (some ⟨kb, 0, none⟩)), (1, .int .u32 pick), (4, .int .i64 (topP S.busy)), (39, .bool (decide ((topP S.busy) < 0)))]) (φ := True) (rest := []) h29 (by kernel_rfl) rfl trivial fun a32 h33 => ?_
      clear h29
      refine nd_done ?_
      refine hK31 _ _ ?_
      clear hK31
      refine c_split h33 (b := decide ((topP S.busy) < 0)) rfl (fun hc34 => ?_) (fun hc34 => ?_)
      ·
        have hc34f : (topP S.busy) < 0 := by simpa using hc34
        refine wp_ret ?_
        try simp only [Exit.then, Exit.inBlock]
        try rw [if_pos trivial]
        exact s_ret tabOk tabZ_ok h33 [] (vs := []) (φ := True) rfl (by kernel_rfl) trivial ⟨rfl, (by rw [show schedP S pick = S25 from (by unfold schedP; (first | rw [if_pos hc13f] | rw [if_pos (fun hz => hz hc13f)]); (first | rw [if_neg hc22f] | rw [if_neg (fun hz => hz hc22f)]); (first | rw [if_pos hc34f] | rw [if_pos (fun hz => hz hc34f)]); rw [← eS25])]; exact h33.kn (k := 0) rfl), h33.frame⟩
      ·
        have hc34f : ¬ (topP S.busy) < 0 := by simpa using hc34
        have hav : ∃ xs, Avail S25 (topP S.busy) xs := by
          have hst : (S.tcb S.cur.toNat).st = 2 := (hQ.cu S.cur.toNat (by omega)).2 (by omega)
          have hpl : place (S.tcb S.cur.toNat) = none := by unfold place; rw [hst]; rfl
          have hw := wake_LIQ rS hQ (t := S.cur.toNat) (by omega)
          rw [show ((S.cur.toNat : Nat) : Int) = S.cur by omega, hpl, ← eS25] at hw
          refine ⟨_, hw.lx.ch (show _ < 8 by omega), ?_⟩
          unfold qPush qCut
          rw [if_neg (by intro hq; simp at hq; omega), if_neg (by intro hq; cases hq)]
          exact (hQ.bz _ (by omega)).1 (htp.2.2.1 (by omega))
        obtain ⟨xs, hav⟩ := hav
        have hnn := hav.n
        have hmod := Int.emod_nonneg pick (b := (S25.rdy (topP S.busy).toNat).n) (by omega)
        have hmlt := Int.emod_lt_of_pos pick (b := (S25.rdy (topP S.busy).toNat).n) (by omega)
        obtain ⟨ty, hty, hty2, htyw⟩ := pick_at hav hpk
        have hxl := nodup_len hav.ch.nd hav.ch.lt
        refine wp_skip ?_
        refine hK30 _ _ ?_
        clear hK30
        refine wp_seq_k fun K35 hK35 => ?_
        refine nd_start (l := [0, 1, 2, 3, 4, 5, 6, 7]) rfl ?_
        refine nd_batch tabOk tabZ_ok [(0, {}), (1, {}), (2, {}), (3, {}), (4, {}), (5, {}), (6, {k := 0, m := 1, vs := [.int .i16 ((S25.rdy ((topP S.busy).toNat)).head)]}), (7, {})] [0, 1, 4, 5] (T' := [(0, .pointer (some ⟨kb, 0, none⟩)), (1, .int .u32 pick), (4, .int .i64 (topP S.busy)), (5, .int .i16 ((S25.rdy ((topP S.busy).toNat)).head))]) (φ := (0 ≤ (topP S.busy) ∧ (topP S.busy) < 8) ∧ (kb = kb ∧ cellsAre (kC bo bc S25) (6402 + (((topP S.busy).toNat) * 3)) [.int .i16 ((S25.rdy ((topP S.busy).toNat)).head)]) ∧ True) (rest := []) h33 (by kernel_rfl) rfl ⟨⟨by omega, by omega⟩, ⟨rfl, (k_rdy (i := ((topP S.busy).toNat)) (k := 0) (by omega) (by omega) ⟨rfl, trivial⟩)⟩, trivial⟩ fun a36 h37 => ?_
        clear h33
        refine nd_done ?_
        refine hK35 _ _ ?_
        clear hK35
        refine wp_seq_k fun K38 hK38 => ?_
        refine wp_seq_k fun K39 hK39 => ?_
        refine nd_start (l := [0, 1, 2, 3, 4, 5, 6, 7, 8, 9]) rfl ?_
        refine nd_batch tabOk tabZ_ok [(0, {}), (1, {}), (2, {}), (3, {}), (4, {}), (5, {}), (6, {}), (7, {k := 0, m := 1, vs := [.int .u32 ((S25.rdy ((topP S.busy).toNat)).n)]}), (8, {}), (9, {})] [0, 1, 4, 5, 6] (T' := [(0, .pointer (some ⟨kb, 0, none⟩)), (1, .int .u32 pick), (4, .int .i64 (topP S.busy)), (5, .int .i16 ((S25.rdy ((topP S.busy).toNat)).head)), (6, .int .u32 (pick % (S25.rdy ((topP S.busy).toNat)).n))]) (φ := (0 ≤ (topP S.busy) ∧ (topP S.busy) < 8) ∧ (kb = kb ∧ cellsAre (kC bo bc S25) (6402 + (((topP S.busy).toNat) * 3) + 2) [.int .u32 ((S25.rdy ((topP S.busy).toNat)).n)]) ∧ (0 ≤ pick ∧ 0 < ((S25.rdy ((topP S.busy).toNat)).n)) ∧ True) (rest := []) h37 (by kernel_rfl) rfl ⟨⟨by omega, by omega⟩, ⟨rfl, (k_rdy (i := ((topP S.busy).toNat)) (k := 2) (by omega) (by omega) ⟨rfl, trivial⟩)⟩, ⟨by omega, by omega⟩, trivial⟩ fun a40 h41 => ?_
        clear h37
        refine nd_done ?_
        refine hK39 _ _ ?_
        clear hK39
        refine wp_block ?_
        refine wp_loop_ghost (fun g ga gw => ∃ (t i : Int), ((g : Int) = i) ∧ (0 ≤ i ∧ i ≤ (pick % (S25.rdy (topP S.busy).toNat).n)) ∧ (walkP S25 i.toNat t = walkP S25 (pick % (S25.rdy (topP S.busy).toNat).n).toNat (S25.rdy (topP S.busy).toNat).head) ∧ (∃ m tn : Nat, (m : Int) + i = (pick % (S25.rdy (topP S.busy).toNat).n) ∧ xs[m]? = some tn ∧ t = (tn : Int)) ∧ St ⟨81, [kb], w, fun _ => True, []⟩ [(0, .pointer (some ⟨kb, 0, none⟩)), (1, .int .u32 pick), (4, .int .i64 (topP S.busy)), (5, .int .i16 t), (6, .int .u32 i)] [(kb, ⟨kC bo bc S25, 90, false⟩)] ga gw) (pick % (S25.rdy (topP S.busy).toNat).n).toNat ⟨(S25.rdy (topP S.busy).toNat).head, (pick % (S25.rdy (topP S.busy).toNat).n), by omega, ⟨hmod, Int.le_refl _⟩, rfl, (by have hhd : (S25.rdy (topP S.busy).toNat).head = hdI xs (-1) := hav.ch.hd; cases hx0 : xs with | nil => exact absurd hx0 hav.ne | cons a r => exact ⟨0, a, by simp, rfl, by rw [hhd, hx0]; rfl⟩), (h41.slotsMono (restr_spec (keep := [0, 1, 4, 5, 6]) rfl))⟩ ?_
        clear h41
        rintro g a42 w43 ⟨t, i, hi45, hi46, hi47, hi48, h44⟩
        have hig := hi45
        have hi0 := hi46
        have hwk := hi47
        have hpos := hi48
        refine wp_seq_k fun K49 hK49 => ?_
        refine wp_seq_k fun K50 hK50 => ?_
        refine nd_start (l := [0, 1]) rfl ?_
        refine nd_batch tabOk tabZ_ok [(0, {}), (1, {})] [0, 1, 4, 5, 6, 57] (T' := [(0, .pointer (some ⟨kb, 0, none⟩)), (1, .int .u32 pick), (4, .int .i64 (topP S.busy)), (5, .int .i16 t), (6, .int .u32 i), (57, .bool (decide (i > 0)))]) (φ := True) (rest := []) h44 (by kernel_rfl) rfl trivial fun a51 h52 => ?_
        clear h44
        refine nd_done ?_
        refine hK50 _ _ ?_
        clear hK50
        refine c_split h52 (b := decide (i > 0)) rfl (fun hc53 => ?_) (fun hc53 => ?_)
        ·
          have hc53f : i > 0 := by simpa using hc53
          obtain ⟨m, tn, hm1, hm2, hm3⟩ := hpos
          have htn := hav.ch.lt tn (List.mem_of_getElem? hm2)
          have htt : 0 ≤ t ∧ t < 256 := by omega
          obtain ⟨tz, hz⟩ : ∃ z, xs[m + 1]? = some z := ⟨xs[m + 1]'(by omega), by simp⟩
          have hnx := chain_next hav.ch hm2 hz
          have hnx2 : (S25.tcb t.toNat).next = (tz : Int) := by rw [hm3, Int.toNat_natCast]; exact hnx
          refine wp_skip ?_
          refine hK49 _ _ ?_
          clear hK49
          refine wp_seq_k fun K54 hK54 => ?_
          refine wp_block ?_
          refine nd_start (l := [0, 1, 2, 3, 4, 5, 6, 7]) rfl ?_
          refine nd_batch tabOk tabZ_ok [(0, {}), (1, {}), (2, {}), (3, {}), (4, {}), (5, {}), (6, {k := 0, m := 1, vs := [.int .i16 ((S25.tcb t.toNat).next)]}), (7, {})] [0, 1, 4, 6, 5] (T' := [(0, .pointer (some ⟨kb, 0, none⟩)), (1, .int .u32 pick), (4, .int .i64 (topP S.busy)), (6, .int .u32 i), (5, .int .i16 ((S25.tcb t.toNat).next))]) (φ := (0 ≤ t ∧ t < 256) ∧ (kb = kb ∧ cellsAre (kC bo bc S25) (2 + (t.toNat * 21) + 19) [.int .i16 ((S25.tcb t.toNat).next)]) ∧ True) (rest := []) h52 (by kernel_rfl) rfl ⟨⟨by omega, by omega⟩, ⟨rfl, (k_tcb (i := t.toNat) (k := 19) (by omega) (by omega) ⟨rfl, trivial⟩)⟩, trivial⟩ fun a55 h56 => ?_
          clear h52
          refine nd_done ?_
          refine hK54 _ _ ?_
          clear hK54
          refine nd_start (l := [0, 1, 2]) rfl ?_
          refine nd_batch tabOk tabZ_ok [(0, {}), (1, {}), (2, {})] [0, 1, 4, 5, 6] (T' := [(0, .pointer (some ⟨kb, 0, none⟩)), (1, .int .u32 pick), (4, .int .i64 (topP S.busy)), (5, .int .i16 ((S25.tcb t.toNat).next)), (6, .int .u32 (i - 1))]) (φ := inR .u32 (i - 1) ∧ True) (rest := []) h56 (by kernel_rfl) rfl ⟨⟨by omega, by omega⟩, trivial⟩ fun a57 h58 => ?_
          clear h56
          refine nd_done ?_
          exact ⟨(g - 1), by omega, ((S25.tcb t.toNat).next), (i - 1), by omega, ⟨by omega, by omega⟩, (by rw [← hwk, show i.toNat = (i - 1).toNat + 1 by omega]; rfl), ⟨m + 1, tz, by omega, hz, hnx2⟩, (h58.slotsMono (restr_spec (keep := [0, 1, 4, 5, 6]) rfl))⟩
        ·
          have hc53f : ¬ i > 0 := by simpa using hc53
          obtain ⟨m, tn, hm1, hm2, hm3⟩ := hpos
          have htn := hav.ch.lt tn (List.mem_of_getElem? hm2)
          have htt : 0 ≤ t ∧ t < 256 := by omega
          rw [show i.toNat = 0 by omega] at hwk
          have hfin : t = walkP S25 (pick % (S25.rdy (topP S.busy).toNat).n).toNat (S25.rdy (topP S.busy).toNat).head := hwk
          refine wp_exit ?_
          refine hK38 _ _ ?_
          clear hK38
          refine wp_seq_k fun K59 hK59 => ?_
          refine nd_start (l := [0, 1, 2]) rfl ?_
          refine nd_batch tabOk tabZ_ok [(0, {}), (1, {})] [0, 1, 4, 5, 6, 67, 68] (T' := [(0, .pointer (some ⟨kb, 0, none⟩)), (1, .int .u32 pick), (4, .int .i64 (topP S.busy)), (5, .int .i16 t), (6, .int .u32 i), (67, .pointer (some ⟨kb, 0, none⟩)), (68, .int .i16 t)]) (φ := True) (rest := [2]) h52 (by kernel_rfl) rfl trivial fun a60 h61 => ?_
          clear h52
          refine nd_op ?_
          refine op_call h61 rfl rfl rfl (callOk Tryd.func72 (by decide) rfl) (args := [.pointer (some ⟨kb, 0, none⟩), .int .i16 t]) rfl (leave_ok kb bo bc S25 rS25 t htt _ (h61.kn (k := 0) rfl)) ?_
          rintro _ w65 ⟨rfl, hb63, hf64⟩
          refine ⟨_, rfl, ?_⟩
          obtain ⟨S62, eS62⟩ : ∃ S9, S9 = leaveP S25 t := ⟨_, rfl⟩
          rw [← eS62] at hb63
          have rS62 : RI S62 := by rw [eS62]; exact leave_RI rS25 htt
          have h66 := (h61.setBlk (k := 0) rfl rfl hf64 hb63 (L' := [(kb, ⟨kC bo bc S62, 90, false⟩)]) rfl).put (d := some 69) (v := .tuple #[]) (T' := [(69, .tuple #[]), (0, .pointer (some ⟨kb, 0, none⟩)), (1, .int .u32 pick), (4, .int .i64 (topP S.busy)), (5, .int .i16 t), (6, .int .u32 i), (67, .pointer (some ⟨kb, 0, none⟩)), (68, .int .i16 t)]) rfl
          clear h61
          refine nd_done ?_
          refine hK59 _ _ ?_
          clear hK59
          refine wp_seq_k fun K67 hK67 => ?_
          refine nd_start (l := [0, 1, 2, 3, 4, 5, 6, 7]) rfl ?_
          refine nd_batch tabOk tabZ_ok [(0, {}), (1, {}), (2, {}), (3, {}), (4, {}), (5, {}), (6, {})] [0, 1, 4, 5, 6, 76] (T' := [(0, .pointer (some ⟨kb, 0, none⟩)), (1, .int .u32 pick), (4, .int .i64 (topP S.busy)), (5, .int .i16 t), (6, .int .u32 i), (76, .pointer (some ⟨kb, 2 + (t.toNat * 21), none⟩))]) (φ := (0 ≤ t ∧ t < 256) ∧ True) (rest := [7]) h66 (by kernel_rfl) rfl ⟨⟨by omega, by omega⟩, trivial⟩ fun a68 h69 => ?_
          clear h66
          refine nd_op ?_
          refine op_store tabOk {k := 0, m := 1, vs := kC bo bc (S62.setT t.toNat { S62.tcb t.toNat with st := 2 })} (L' := [(kb, ⟨kC bo bc (S62.setT t.toNat { S62.tcb t.toNat with st := 2 }), 90, false⟩)]) (φ := kb = kb ∧ Nat.ble (2 + (t.toNat * 21) + 1) (kC bo bc S62).length = true ∧ splice (kC bo bc S62) (2 + (t.toNat * 21)) [.int .u8 2] = kC bo bc (S62.setT t.toNat { S62.tcb t.toNat with st := 2 })) h69 rfl rfl rfl (by kernel_rfl) ⟨rfl, k_in (by omega), (k_tcb_w (i := t.toNat) (k := 0) (by omega) (Nat.le_of_ble_eq_true rfl) (by omega) rfl)⟩ fun w71 h72 => ?_
          obtain ⟨S70, eS70⟩ : ∃ S9, S9 = (S62.setT t.toNat { S62.tcb t.toNat with st := 2 }) := ⟨_, rfl⟩
          rw [← eS70] at h72
          have rS70 : RI S70 := by rw [eS70]; exact rS62.setT ⟨(rS62.t (i := t.toNat) (by omega)).nx, (rS62.t (i := t.toNat) (by omega)).pv, (rS62.t (i := t.toNat) (by omega)).pr, (rS62.t (i := t.toNat) (by omega)).wi, (rS62.t (i := t.toNat) (by omega)).ci, (rS62.t (i := t.toNat) (by omega)).ri, (rS62.t (i := t.toNat) (by omega)).ds⟩
          clear h69
          refine nd_done ?_
          refine hK67 _ _ ?_
          clear hK67
          refine nd_start (l := [0, 1, 2, 3, 4]) rfl ?_
          refine nd_batch tabOk tabZ_ok [(0, {}), (1, {}), (2, {}), (3, {})] [0, 1, 4, 5, 6, 78, 80] (T' := [(0, .pointer (some ⟨kb, 0, none⟩)), (1, .int .u32 pick), (4, .int .i64 (topP S.busy)), (5, .int .i16 t), (6, .int .u32 i), (78, .int .i16 t), (80, .pointer (some ⟨kb, 6427, none⟩))]) (φ := True) (rest := [4]) h72 (by kernel_rfl) rfl trivial fun a73 h74 => ?_
          clear h72
          refine nd_op ?_
          refine op_store tabOk {k := 0, m := 1, vs := kC bo bc ({ S70 with cur := t })} (L' := [(kb, ⟨kC bo bc ({ S70 with cur := t }), 90, false⟩)]) (φ := kb = kb ∧ Nat.ble (6427 + 1) (kC bo bc S70).length = true ∧ splice (kC bo bc S70) 6427 [.int .i16 t] = kC bo bc ({ S70 with cur := t })) h74 rfl rfl rfl (by kernel_rfl) ⟨rfl, k_in (by omega), (k_cur_w t)⟩ fun w76 h77 => ?_
          obtain ⟨S75, eS75⟩ : ∃ S9, S9 = { S70 with cur := t } := ⟨_, rfl⟩
          rw [← eS75] at h77
          have rS75 : RI S75 := by rw [eS75]; exact rS70.setCur (.inr htt)
          clear h74
          refine nd_done ?_
          try simp only [Exit.then, Exit.inBlock]
          try rw [if_pos trivial]
          exact s_end tabOk tabZ_ok h77 [] (vs := []) (φ := True) rfl (by kernel_rfl) trivial ⟨rfl, (by rw [show schedP S pick = S75 from (by unfold schedP; (first | rw [if_pos hc13f] | rw [if_pos (fun hz => hz hc13f)]); (first | rw [if_neg hc22f] | rw [if_neg (fun hz => hz hc22f)]); (first | rw [if_neg hc34f] | rw [if_neg (fun hz => hz hc34f)]); rw [← eS25]; unfold pickP; dsimp only; rw [← hfin, ← eS62, ← eS70, ← eS75])]; exact h77.kn (k := 0) rfl), h77.frame⟩
  ·
    have hc13f : S.cur = -1 := by simpa using hc13
    have h78 := h12
    rw [show (topP S.busy + 1) - 1 = topP S.busy by omega] at h78
    clear h12
    have hcn : S.cur = -1 := hc13f
    refine wp_skip ?_
    refine hK9 _ _ ?_
    clear hK9
    refine wp_seq_k fun K79 hK79 => ?_
    refine wp_seq_k fun K80 hK80 => ?_
    refine nd_start (l := [0, 1]) rfl ?_
    refine nd_batch tabOk tabZ_ok [(0, {}), (1, {})] [0, 1, 4, 39] (T' := [(0, .pointer (some ⟨kb, 0, none⟩)), (1, .int .u32 pick), (4, .int .i64 (topP S.busy)), (39, .bool (decide ((topP S.busy) < 0)))]) (φ := True) (rest := []) h78 (by kernel_rfl) rfl trivial fun a81 h82 => ?_
    clear h78
    refine nd_done ?_
    refine hK80 _ _ ?_
    clear hK80
    refine c_split h82 (b := decide ((topP S.busy) < 0)) rfl (fun hc83 => ?_) (fun hc83 => ?_)
    ·
      have hc83f : (topP S.busy) < 0 := by simpa using hc83
      refine wp_ret ?_
      try simp only [Exit.then, Exit.inBlock]
      try rw [if_pos trivial]
      exact s_ret tabOk tabZ_ok h82 [] (vs := []) (φ := True) rfl (by kernel_rfl) trivial ⟨rfl, (by rw [show schedP S pick = S from (by unfold schedP; (first | rw [if_neg hc13f] | rw [if_neg (fun hz => hz hc13f)]); (first | rw [if_pos hc83f] | rw [if_pos (fun hz => hz hc83f)]))]; exact h82.kn (k := 0) rfl), h82.frame⟩
    ·
      have hc83f : ¬ (topP S.busy) < 0 := by simpa using hc83
      have hav : ∃ xs, Avail S (topP S.busy) xs := ⟨_, hQ.lx.ch (show _ < 8 by omega), (hQ.bz _ (by omega)).1 (htp.2.2.1 (by omega))⟩
      obtain ⟨xs, hav⟩ := hav
      have hnn := hav.n
      have hmod := Int.emod_nonneg pick (b := (S.rdy (topP S.busy).toNat).n) (by omega)
      have hmlt := Int.emod_lt_of_pos pick (b := (S.rdy (topP S.busy).toNat).n) (by omega)
      obtain ⟨ty, hty, hty2, htyw⟩ := pick_at hav hpk
      have hxl := nodup_len hav.ch.nd hav.ch.lt
      refine wp_skip ?_
      refine hK79 _ _ ?_
      clear hK79
      refine wp_seq_k fun K84 hK84 => ?_
      refine nd_start (l := [0, 1, 2, 3, 4, 5, 6, 7]) rfl ?_
      refine nd_batch tabOk tabZ_ok [(0, {}), (1, {}), (2, {}), (3, {}), (4, {}), (5, {}), (6, {k := 0, m := 1, vs := [.int .i16 ((S.rdy ((topP S.busy).toNat)).head)]}), (7, {})] [0, 1, 4, 5] (T' := [(0, .pointer (some ⟨kb, 0, none⟩)), (1, .int .u32 pick), (4, .int .i64 (topP S.busy)), (5, .int .i16 ((S.rdy ((topP S.busy).toNat)).head))]) (φ := (0 ≤ (topP S.busy) ∧ (topP S.busy) < 8) ∧ (kb = kb ∧ cellsAre (kC bo bc S) (6402 + (((topP S.busy).toNat) * 3)) [.int .i16 ((S.rdy ((topP S.busy).toNat)).head)]) ∧ True) (rest := []) h82 (by kernel_rfl) rfl ⟨⟨by omega, by omega⟩, ⟨rfl, (k_rdy (i := ((topP S.busy).toNat)) (k := 0) (by omega) (by omega) ⟨rfl, trivial⟩)⟩, trivial⟩ fun a85 h86 => ?_
      clear h82
      refine nd_done ?_
      refine hK84 _ _ ?_
      clear hK84
      refine wp_seq_k fun K87 hK87 => ?_
      refine wp_seq_k fun K88 hK88 => ?_
      refine nd_start (l := [0, 1, 2, 3, 4, 5, 6, 7, 8, 9]) rfl ?_
      refine nd_batch tabOk tabZ_ok [(0, {}), (1, {}), (2, {}), (3, {}), (4, {}), (5, {}), (6, {}), (7, {k := 0, m := 1, vs := [.int .u32 ((S.rdy ((topP S.busy).toNat)).n)]}), (8, {}), (9, {})] [0, 1, 4, 5, 6] (T' := [(0, .pointer (some ⟨kb, 0, none⟩)), (1, .int .u32 pick), (4, .int .i64 (topP S.busy)), (5, .int .i16 ((S.rdy ((topP S.busy).toNat)).head)), (6, .int .u32 (pick % (S.rdy ((topP S.busy).toNat)).n))]) (φ := (0 ≤ (topP S.busy) ∧ (topP S.busy) < 8) ∧ (kb = kb ∧ cellsAre (kC bo bc S) (6402 + (((topP S.busy).toNat) * 3) + 2) [.int .u32 ((S.rdy ((topP S.busy).toNat)).n)]) ∧ (0 ≤ pick ∧ 0 < ((S.rdy ((topP S.busy).toNat)).n)) ∧ True) (rest := []) h86 (by kernel_rfl) rfl ⟨⟨by omega, by omega⟩, ⟨rfl, (k_rdy (i := ((topP S.busy).toNat)) (k := 2) (by omega) (by omega) ⟨rfl, trivial⟩)⟩, ⟨by omega, by omega⟩, trivial⟩ fun a89 h90 => ?_
      clear h86
      refine nd_done ?_
      refine hK88 _ _ ?_
      clear hK88
      refine wp_block ?_
      refine wp_loop_ghost (fun g ga gw => ∃ (t i : Int), ((g : Int) = i) ∧ (0 ≤ i ∧ i ≤ (pick % (S.rdy (topP S.busy).toNat).n)) ∧ (walkP S i.toNat t = walkP S (pick % (S.rdy (topP S.busy).toNat).n).toNat (S.rdy (topP S.busy).toNat).head) ∧ (∃ m tn : Nat, (m : Int) + i = (pick % (S.rdy (topP S.busy).toNat).n) ∧ xs[m]? = some tn ∧ t = (tn : Int)) ∧ St ⟨81, [kb], w, fun _ => True, []⟩ [(0, .pointer (some ⟨kb, 0, none⟩)), (1, .int .u32 pick), (4, .int .i64 (topP S.busy)), (5, .int .i16 t), (6, .int .u32 i)] [(kb, ⟨kC bo bc S, 90, false⟩)] ga gw) (pick % (S.rdy (topP S.busy).toNat).n).toNat ⟨(S.rdy (topP S.busy).toNat).head, (pick % (S.rdy (topP S.busy).toNat).n), by omega, ⟨hmod, Int.le_refl _⟩, rfl, (by have hhd : (S.rdy (topP S.busy).toNat).head = hdI xs (-1) := hav.ch.hd; cases hx0 : xs with | nil => exact absurd hx0 hav.ne | cons a r => exact ⟨0, a, by simp, rfl, by rw [hhd, hx0]; rfl⟩), (h90.slotsMono (restr_spec (keep := [0, 1, 4, 5, 6]) rfl))⟩ ?_
      clear h90
      rintro g a91 w92 ⟨t, i, hi94, hi95, hi96, hi97, h93⟩
      have hig := hi94
      have hi0 := hi95
      have hwk := hi96
      have hpos := hi97
      refine wp_seq_k fun K98 hK98 => ?_
      refine wp_seq_k fun K99 hK99 => ?_
      refine nd_start (l := [0, 1]) rfl ?_
      refine nd_batch tabOk tabZ_ok [(0, {}), (1, {})] [0, 1, 4, 5, 6, 57] (T' := [(0, .pointer (some ⟨kb, 0, none⟩)), (1, .int .u32 pick), (4, .int .i64 (topP S.busy)), (5, .int .i16 t), (6, .int .u32 i), (57, .bool (decide (i > 0)))]) (φ := True) (rest := []) h93 (by kernel_rfl) rfl trivial fun a100 h101 => ?_
      clear h93
      refine nd_done ?_
      refine hK99 _ _ ?_
      clear hK99
      refine c_split h101 (b := decide (i > 0)) rfl (fun hc102 => ?_) (fun hc102 => ?_)
      ·
        have hc102f : i > 0 := by simpa using hc102
        obtain ⟨m, tn, hm1, hm2, hm3⟩ := hpos
        have htn := hav.ch.lt tn (List.mem_of_getElem? hm2)
        have htt : 0 ≤ t ∧ t < 256 := by omega
        obtain ⟨tz, hz⟩ : ∃ z, xs[m + 1]? = some z := ⟨xs[m + 1]'(by omega), by simp⟩
        have hnx := chain_next hav.ch hm2 hz
        have hnx2 : (S.tcb t.toNat).next = (tz : Int) := by rw [hm3, Int.toNat_natCast]; exact hnx
        refine wp_skip ?_
        refine hK98 _ _ ?_
        clear hK98
        refine wp_seq_k fun K103 hK103 => ?_
        refine wp_block ?_
        refine nd_start (l := [0, 1, 2, 3, 4, 5, 6, 7]) rfl ?_
        refine nd_batch tabOk tabZ_ok [(0, {}), (1, {}), (2, {}), (3, {}), (4, {}), (5, {}), (6, {k := 0, m := 1, vs := [.int .i16 ((S.tcb t.toNat).next)]}), (7, {})] [0, 1, 4, 6, 5] (T' := [(0, .pointer (some ⟨kb, 0, none⟩)), (1, .int .u32 pick), (4, .int .i64 (topP S.busy)), (6, .int .u32 i), (5, .int .i16 ((S.tcb t.toNat).next))]) (φ := (0 ≤ t ∧ t < 256) ∧ (kb = kb ∧ cellsAre (kC bo bc S) (2 + (t.toNat * 21) + 19) [.int .i16 ((S.tcb t.toNat).next)]) ∧ True) (rest := []) h101 (by kernel_rfl) rfl ⟨⟨by omega, by omega⟩, ⟨rfl, (k_tcb (i := t.toNat) (k := 19) (by omega) (by omega) ⟨rfl, trivial⟩)⟩, trivial⟩ fun a104 h105 => ?_
        clear h101
        refine nd_done ?_
        refine hK103 _ _ ?_
        clear hK103
        refine nd_start (l := [0, 1, 2]) rfl ?_
        refine nd_batch tabOk tabZ_ok [(0, {}), (1, {}), (2, {})] [0, 1, 4, 5, 6] (T' := [(0, .pointer (some ⟨kb, 0, none⟩)), (1, .int .u32 pick), (4, .int .i64 (topP S.busy)), (5, .int .i16 ((S.tcb t.toNat).next)), (6, .int .u32 (i - 1))]) (φ := inR .u32 (i - 1) ∧ True) (rest := []) h105 (by kernel_rfl) rfl ⟨⟨by omega, by omega⟩, trivial⟩ fun a106 h107 => ?_
        clear h105
        refine nd_done ?_
        exact ⟨(g - 1), by omega, ((S.tcb t.toNat).next), (i - 1), by omega, ⟨by omega, by omega⟩, (by rw [← hwk, show i.toNat = (i - 1).toNat + 1 by omega]; rfl), ⟨m + 1, tz, by omega, hz, hnx2⟩, (h107.slotsMono (restr_spec (keep := [0, 1, 4, 5, 6]) rfl))⟩
      ·
        have hc102f : ¬ i > 0 := by simpa using hc102
        obtain ⟨m, tn, hm1, hm2, hm3⟩ := hpos
        have htn := hav.ch.lt tn (List.mem_of_getElem? hm2)
        have htt : 0 ≤ t ∧ t < 256 := by omega
        rw [show i.toNat = 0 by omega] at hwk
        have hfin : t = walkP S (pick % (S.rdy (topP S.busy).toNat).n).toNat (S.rdy (topP S.busy).toNat).head := hwk
        refine wp_exit ?_
        refine hK87 _ _ ?_
        clear hK87
        refine wp_seq_k fun K108 hK108 => ?_
        refine nd_start (l := [0, 1, 2]) rfl ?_
        refine nd_batch tabOk tabZ_ok [(0, {}), (1, {})] [0, 1, 4, 5, 6, 67, 68] (T' := [(0, .pointer (some ⟨kb, 0, none⟩)), (1, .int .u32 pick), (4, .int .i64 (topP S.busy)), (5, .int .i16 t), (6, .int .u32 i), (67, .pointer (some ⟨kb, 0, none⟩)), (68, .int .i16 t)]) (φ := True) (rest := [2]) h101 (by kernel_rfl) rfl trivial fun a109 h110 => ?_
        clear h101
        refine nd_op ?_
        refine op_call h110 rfl rfl rfl (callOk Tryd.func72 (by decide) rfl) (args := [.pointer (some ⟨kb, 0, none⟩), .int .i16 t]) rfl (leave_ok kb bo bc S rS t htt _ (h110.kn (k := 0) rfl)) ?_
        rintro _ w114 ⟨rfl, hb112, hf113⟩
        refine ⟨_, rfl, ?_⟩
        obtain ⟨S111, eS111⟩ : ∃ S9, S9 = leaveP S t := ⟨_, rfl⟩
        rw [← eS111] at hb112
        have rS111 : RI S111 := by rw [eS111]; exact leave_RI rS htt
        have h115 := (h110.setBlk (k := 0) rfl rfl hf113 hb112 (L' := [(kb, ⟨kC bo bc S111, 90, false⟩)]) rfl).put (d := some 69) (v := .tuple #[]) (T' := [(69, .tuple #[]), (0, .pointer (some ⟨kb, 0, none⟩)), (1, .int .u32 pick), (4, .int .i64 (topP S.busy)), (5, .int .i16 t), (6, .int .u32 i), (67, .pointer (some ⟨kb, 0, none⟩)), (68, .int .i16 t)]) rfl
        clear h110
        refine nd_done ?_
        refine hK108 _ _ ?_
        clear hK108
        refine wp_seq_k fun K116 hK116 => ?_
        refine nd_start (l := [0, 1, 2, 3, 4, 5, 6, 7]) rfl ?_
        refine nd_batch tabOk tabZ_ok [(0, {}), (1, {}), (2, {}), (3, {}), (4, {}), (5, {}), (6, {})] [0, 1, 4, 5, 6, 76] (T' := [(0, .pointer (some ⟨kb, 0, none⟩)), (1, .int .u32 pick), (4, .int .i64 (topP S.busy)), (5, .int .i16 t), (6, .int .u32 i), (76, .pointer (some ⟨kb, 2 + (t.toNat * 21), none⟩))]) (φ := (0 ≤ t ∧ t < 256) ∧ True) (rest := [7]) h115 (by kernel_rfl) rfl ⟨⟨by omega, by omega⟩, trivial⟩ fun a117 h118 => ?_
        clear h115
        refine nd_op ?_
        refine op_store tabOk {k := 0, m := 1, vs := kC bo bc (S111.setT t.toNat { S111.tcb t.toNat with st := 2 })} (L' := [(kb, ⟨kC bo bc (S111.setT t.toNat { S111.tcb t.toNat with st := 2 }), 90, false⟩)]) (φ := kb = kb ∧ Nat.ble (2 + (t.toNat * 21) + 1) (kC bo bc S111).length = true ∧ splice (kC bo bc S111) (2 + (t.toNat * 21)) [.int .u8 2] = kC bo bc (S111.setT t.toNat { S111.tcb t.toNat with st := 2 })) h118 rfl rfl rfl (by kernel_rfl) ⟨rfl, k_in (by omega), (k_tcb_w (i := t.toNat) (k := 0) (by omega) (Nat.le_of_ble_eq_true rfl) (by omega) rfl)⟩ fun w120 h121 => ?_
        obtain ⟨S119, eS119⟩ : ∃ S9, S9 = (S111.setT t.toNat { S111.tcb t.toNat with st := 2 }) := ⟨_, rfl⟩
        rw [← eS119] at h121
        have rS119 : RI S119 := by rw [eS119]; exact rS111.setT ⟨(rS111.t (i := t.toNat) (by omega)).nx, (rS111.t (i := t.toNat) (by omega)).pv, (rS111.t (i := t.toNat) (by omega)).pr, (rS111.t (i := t.toNat) (by omega)).wi, (rS111.t (i := t.toNat) (by omega)).ci, (rS111.t (i := t.toNat) (by omega)).ri, (rS111.t (i := t.toNat) (by omega)).ds⟩
        clear h118
        refine nd_done ?_
        refine hK116 _ _ ?_
        clear hK116
        refine nd_start (l := [0, 1, 2, 3, 4]) rfl ?_
        refine nd_batch tabOk tabZ_ok [(0, {}), (1, {}), (2, {}), (3, {})] [0, 1, 4, 5, 6, 78, 80] (T' := [(0, .pointer (some ⟨kb, 0, none⟩)), (1, .int .u32 pick), (4, .int .i64 (topP S.busy)), (5, .int .i16 t), (6, .int .u32 i), (78, .int .i16 t), (80, .pointer (some ⟨kb, 6427, none⟩))]) (φ := True) (rest := [4]) h121 (by kernel_rfl) rfl trivial fun a122 h123 => ?_
        clear h121
        refine nd_op ?_
        refine op_store tabOk {k := 0, m := 1, vs := kC bo bc ({ S119 with cur := t })} (L' := [(kb, ⟨kC bo bc ({ S119 with cur := t }), 90, false⟩)]) (φ := kb = kb ∧ Nat.ble (6427 + 1) (kC bo bc S119).length = true ∧ splice (kC bo bc S119) 6427 [.int .i16 t] = kC bo bc ({ S119 with cur := t })) h123 rfl rfl rfl (by kernel_rfl) ⟨rfl, k_in (by omega), (k_cur_w t)⟩ fun w125 h126 => ?_
        obtain ⟨S124, eS124⟩ : ∃ S9, S9 = { S119 with cur := t } := ⟨_, rfl⟩
        rw [← eS124] at h126
        have rS124 : RI S124 := by rw [eS124]; exact rS119.setCur (.inr htt)
        clear h123
        refine nd_done ?_
        try simp only [Exit.then, Exit.inBlock]
        try rw [if_pos trivial]
        exact s_end tabOk tabZ_ok h126 [] (vs := []) (φ := True) rfl (by kernel_rfl) trivial ⟨rfl, (by rw [show schedP S pick = S124 from (by unfold schedP; (first | rw [if_neg hc13f] | rw [if_neg (fun hz => hz hc13f)]); (first | rw [if_neg hc83f] | rw [if_neg (fun hz => hz hc83f)]); unfold pickP; dsimp only; rw [← hfin, ← eS111, ← eS119, ← eS124])]; exact h126.kn (k := 0) rfl), h126.frame⟩

end Go.Proofs.Qxb6500918aDoor
