/-
  AppendUvarint. (Made by program: a symbolic walk that prints its steps.)
-/
import Derived.Test.Qxb6500918aDoorLh
namespace Go.Proofs.Qxb6500918aDoor
open Go.Sx Go.Kn
set_option maxRecDepth 100000
set_option maxHeartbeats 4000000
set_option linter.unusedVariables false
set_option linter.unusedSimpArgs false

theorem uvar_ok (o : Option Addr) (c : Nat) (F : List Nat) (bs : List Int) (v : Int) (hv : u64r v) (hn : bs.length ≤ 100000000) (w : World) (hA : Rws [rl u8C 5 1 bs o c F] w) :
    Calls Tryd.prog 58 #[.slice o bs.length c, .int .u64 v] w fun e w' => ∃ o' c' F', e = .returned (.slice o' (bs ++ uv v).length c') ∧ (rl u8C 5 1 (bs ++ uv v) o' c' F').at w' ∧ Fr F w w' ∧ (∀ b ∈ F', b ∈ F ∨ w.heap.size ≤ b) := by
  have hv1 := hv.1
  have hv2 := hv.2
  refine enter (n := 21) (K := F) (A := Rws [rl u8C 5 1 bs o c F]) (F := Ff [rl u8C 5 1 bs o c F]) (T := [(0, .slice o bs.length c), (1, .int .u64 v)]) (L := []) (args := [.slice o bs.length c, .int .u64 v]) Tryd.func58 rfl rfl rfl rfl knil (by simp) knil hA Rws.stable (hA).low knil ?_
  intro a h
  refine wp_seq_k fun K1 hK1 => ?_
  refine nd_start (l := [0]) rfl ?_
  refine nd_batch tabOk tabZ_ok [(0, {})] [0, 1, 4] (T' := [(0, .slice o bs.length c), (1, .int .u64 v), (4, .slice none 0 0)]) (φ := True) (rest := []) h (by kernel_rfl) rfl trivial fun a2 h3 => ?_
  clear h
  refine nd_done ?_
  refine hK1 _ _ ?_
  clear hK1
  refine wp_seq_k fun K4 hK4 => ?_
  refine wp_block ?_
  refine wp_loop_ghost (fun g ga gw => ∃ (o' : Option Addr) (c' : Nat) (F' : List Nat) (bs' : List Int) (v' : Int), (0 ≤ v' ∧ v' < 18446744073709551616) ∧ (v' < 128 ^ (g + 1)) ∧ (bs' ++ uvar g v' = bs ++ uvar 9 v) ∧ (∀ b ∈ F', b ∈ F ∨ w.heap.size ≤ b) ∧ St ⟨21, F, w, Rws [rl u8C 5 1 bs' o' c' F'], Ff [rl u8C 5 1 bs' o' c' F']⟩ [(0, .slice o' bs'.length c'), (1, .int .u64 v')] [] ga gw) 9 ⟨o, c, F, bs, v, hv, (u64_pow hv), rfl, (fun _ hq => .inl hq), (h3.slotsMono (restr_spec (keep := [0, 1]) rfl))⟩ ?_
  clear h3
  rintro g a5 w6 ⟨o', c', F', bs', v', hi8, hi9, hi10, hi11, h7⟩
  have hFK := hi11
  have hle : bs'.length ≤ bs.length + 10 := by have h1 := congrArg List.length hi10; have h2 := uvar_len 9 v; simp at h1; omega
  refine wp_seq_k fun K12 hK12 => ?_
  refine wp_seq_k fun K13 hK13 => ?_
  refine nd_start (l := [0, 1]) rfl ?_
  refine nd_batch tabOk tabZ_ok [(0, {}), (1, {})] [0, 1, 6] (T' := [(0, .slice o' bs'.length c'), (1, .int .u64 v'), (6, .bool (decide (v' ≥ 128)))]) (φ := True) (rest := []) h7 (by kernel_rfl) rfl trivial fun a14 h15 => ?_
  clear h7
  refine nd_done ?_
  refine hK13 _ _ ?_
  clear hK13
  refine c_split h15 (b := decide (v' ≥ 128)) rfl (fun hc16 => ?_) (fun hc16 => ?_)
  ·
    have hc16f : v' ≥ 128 := by simpa using hc16
    have hc : 128 ≤ v' := hc16f
    obtain ⟨g', rfl, hg2⟩ := pow_step hc hi9
    refine wp_skip ?_
    refine hK12 _ _ ?_
    clear hK12
    refine wp_block ?_
    refine wp_seq_k fun K17 hK17 => ?_
    refine nd_start (l := [0, 1, 2, 3, 4, 5, 6, 7]) rfl ?_
    refine nd_batch tabOk tabZ_ok [(0, {}), (1, {}), (2, {}), (3, {}), (4, {})] [0, 1, 7, 11] (T' := [(0, .slice o' bs'.length c'), (1, .int .u64 v'), (7, .slice o' bs'.length c'), (11, .int .u8 ((v' % 128) + 128))]) (φ := (0 ≤ v' ∧ 0 < (128 : Int)) ∧ inR .u8 (v' % 128) ∧ inR .u8 ((v' % 128) + 128) ∧ True) (rest := [5, 6, 7]) h15 (by kernel_rfl) rfl ⟨⟨by omega, by omega⟩, ⟨by omega, by omega⟩, ⟨by omega, by omega⟩, trivial⟩ fun a18 h19 => ?_
    clear h15
    refine nd_op ?_
    refine op_new tabOk (cells := [.int .u8 ((v' % 128) + 128)]) (ty := 5) (ln := (some 1)) (L1 := fun b20 => [(b20, ⟨[.int .u8 ((v' % 128) + 128)], 5, false⟩)]) h19 rfl rfl rfl rfl (by kernel_rfl) (fun _ => rfl) fun b20 w21 a22 h23 hf24 hn25 => ?_
    clear h19
    refine nd_op ?_
    refine op_append tabOk (e := 5) (so := o') (n := bs'.length) (c := c') (xo := some ⟨b20, 0, none⟩) (m := 1) (cx := 1) (vals := bs'.flatMap u8C) (vs := [.int .u8 ((v' % 128) + 128)]) (F := F') h23 rfl rfl rfl rfl rfl rfl rfl rfl rfl rfl rfl rfl (h23.inv.get (j := 0) rfl) (src_one (h23.kn (k := 0) rfl) rfl ⟨rfl, trivial⟩) (by omega) rfl ?_
    intro o26 c27 F28 w29 hr30 hf31 hF32
    have hr302 := rl_app1 (enc := u8C) (xs := bs') (y := ((v' % 128) + 128)) hr30
    have hKh33 := row1_keys (K := F) hFK h23.frame.size hF32
    rw [show bs'.length + 1 = (bs' ++ [((v' % 128) + 128)]).length by simp]
    have h33 := (h23.rowSet (j := 0) (r' := rl u8C 5 1 (bs' ++ [((v' % 128) + 128)]) o26 c27 F28) (R' := [rl u8C 5 1 (bs' ++ [((v' % 128) + 128)]) o26 c27 F28]) rfl hr302 hf31 hF32 hFK (kcons (by intro hq; cases hq) knil) rfl).put (d := some 13) (v := .slice o26 ((bs' ++ [((v' % 128) + 128)]).length) c27) (T' := [(13, .slice o26 ((bs' ++ [((v' % 128) + 128)]).length) c27), (12, .slice (some ⟨b20, 0, none⟩) 1 1), (0, .slice o' bs'.length c'), (1, .int .u64 v'), (7, .slice o' bs'.length c'), (11, .int .u8 ((v' % 128) + 128))]) rfl
    clear h23
    refine nd_batch tabOk tabZ_ok [(7, {})] [1, 0] (T' := [(1, .int .u64 v'), (0, .slice o26 ((bs' ++ [((v' % 128) + 128)]).length) c27)]) (φ := True) (rest := []) h33 (by kernel_rfl) rfl trivial fun a34 h35 => ?_
    clear h33
    refine nd_done ?_
    refine hK17 _ _ ?_
    clear hK17
    refine nd_start (l := [0, 1, 2]) rfl ?_
    refine nd_batch tabOk tabZ_ok [(0, {}), (1, {}), (2, {})] [0, 1] (T' := [(0, .slice o26 ((bs' ++ [((v' % 128) + 128)]).length) c27), (1, .int .u64 (v' / 128))]) (φ := (0 ≤ v' ∧ 0 < (128 : Int) ∧ inR .u64 (v' / 128)) ∧ True) (rest := []) h35 (by kernel_rfl) rfl ⟨⟨by omega, by decide, by omega, by omega⟩, trivial⟩ fun a36 h37 => ?_
    clear h35
    refine nd_done ?_
    have h38 := h37.memMono (L' := []) (List.Sublist.cons _ List.Sublist.slnil)
    clear h37
    exact ⟨g', by omega, o26, c27, F28, (bs' ++ [v' % 128 + 128]), (v' / 128), ⟨by omega, by omega⟩, hg2, by rw [← hi10, uvar_step hc]; simp, hKh33, (h38.slotsMono (restr_spec (keep := [0, 1]) rfl))⟩
  ·
    have hc16f : ¬ v' ≥ 128 := by simpa using hc16
    have hc : ¬ 128 ≤ v' := by omega
    rw [uvar_stop hc] at hi10
    refine wp_exit ?_
    refine hK4 _ _ ?_
    clear hK4
    refine wp_seq_k fun K39 hK39 => ?_
    refine nd_start (l := [0, 1, 2, 3, 4, 5]) rfl ?_
    refine nd_batch tabOk tabZ_ok [(0, {}), (1, {}), (2, {})] [0, 1, 16, 18] (T' := [(0, .slice o' bs'.length c'), (1, .int .u64 v'), (16, .slice o' bs'.length c'), (18, .int .u8 v')]) (φ := inR .u8 v' ∧ True) (rest := [3, 4, 5]) h15 (by kernel_rfl) rfl ⟨⟨by omega, by omega⟩, trivial⟩ fun a40 h41 => ?_
    clear h15
    refine nd_op ?_
    refine op_new tabOk (cells := [.int .u8 v']) (ty := 5) (ln := (some 1)) (L1 := fun b42 => [(b42, ⟨[.int .u8 v'], 5, false⟩)]) h41 rfl rfl rfl rfl (by kernel_rfl) (fun _ => rfl) fun b42 w43 a44 h45 hf46 hn47 => ?_
    clear h41
    refine nd_op ?_
    refine op_append tabOk (e := 5) (so := o') (n := bs'.length) (c := c') (xo := some ⟨b42, 0, none⟩) (m := 1) (cx := 1) (vals := bs'.flatMap u8C) (vs := [.int .u8 v']) (F := F') h45 rfl rfl rfl rfl rfl rfl rfl rfl rfl rfl rfl rfl (h45.inv.get (j := 0) rfl) (src_one (h45.kn (k := 0) rfl) rfl ⟨rfl, trivial⟩) (by omega) rfl ?_
    intro o48 c49 F50 w51 hr52 hf53 hF54
    have hr522 := rl_app1 (enc := u8C) (xs := bs') (y := v') hr52
    have hKh55 := row1_keys (K := F) hFK h45.frame.size hF54
    rw [show bs'.length + 1 = (bs' ++ [v']).length by simp]
    have h55 := (h45.rowSet (j := 0) (r' := rl u8C 5 1 (bs' ++ [v']) o48 c49 F50) (R' := [rl u8C 5 1 (bs' ++ [v']) o48 c49 F50]) rfl hr522 hf53 hF54 hFK (kcons (by intro hq; cases hq) knil) rfl).put (d := some 20) (v := .slice o48 ((bs' ++ [v']).length) c49) (T' := [(20, .slice o48 ((bs' ++ [v']).length) c49), (19, .slice (some ⟨b42, 0, none⟩) 1 1), (0, .slice o' bs'.length c'), (1, .int .u64 v'), (16, .slice o' bs'.length c'), (18, .int .u8 v')]) rfl
    clear h45
    refine nd_batch tabOk tabZ_ok [(5, {})] [0, 1, 4] (T' := [(0, .slice o' bs'.length c'), (1, .int .u64 v'), (4, .slice o48 ((bs' ++ [v']).length) c49)]) (φ := True) (rest := []) h55 (by kernel_rfl) rfl trivial fun a56 h57 => ?_
    clear h55
    refine nd_done ?_
    refine hK39 _ _ ?_
    clear hK39
    refine wp_ret ?_
    try simp only [Exit.then, Exit.inBlock]
    try rw [if_pos trivial]
    exact s_ret tabOk tabZ_ok h57 [(.tmp 4, {})] (vs := [.slice o48 ((bs' ++ [v']).length) c49]) (φ := True) rfl (by kernel_rfl) trivial ⟨o48, c49, F50, by rw [uv, ← hi10]; rfl, by rw [uv, ← hi10]; exact h57.inv.get (j := 0) rfl, h57.frame, hKh55⟩

end Go.Proofs.Qxb6500918aDoor
