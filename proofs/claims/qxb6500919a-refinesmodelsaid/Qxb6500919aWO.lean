/-
  The model: Fold, held, answer, refuse, move, seek, New. (Made by program: a symbolic walk that prints its steps.)
-/
import Derived.Test.Qxb6500919aTab
import Derived.Test.Qxb6500919aLib
import Derived.Test.Qxb6500919aMd
import Derived.Test.Qxb6500919aW1
import Derived.Test.Qxb6500919aW2
import Derived.Test.Qxb6500919aW3
import Derived.Test.Qxb6500919aW4
namespace Go.Proofs.Qxb6500919a
open Go.Sx Go.Rp
set_option maxRecDepth 100000
set_option maxHeartbeats 4000000
set_option linter.unusedVariables false
set_option linter.unusedSimpArgs false

theorem rws1 {r : RS} {w : World} (h : r.at w) : Rws [r] w := by
  refine ⟨?_, fun x hx => by simp at hx; subst hx; exact h⟩
  show ([r].flatMap (·.F)).Nodup
  simp only [List.flatMap_cons, List.flatMap_nil, List.append_nil]
  exact Row.nodup h

theorem _root_.Go.Rp.ModAt.fr {w w' : World} {bm bl : Nat} {d : Hd} {a : Ah} {m : Md} (h : ModAt w bm bl d a m) (hfr : Fr [] w w') : ModAt w' bm bl d a m :=
  ModAt.stable w w' (fun b hb => hfr.block b (h.low b hb) (fun hq => by cases hq)) h

theorem _root_.Go.Rp.ModAt.turn {w w' : World} {bm bl : Nat} {d : Hd} {a : Ah} {m : Md} (h : ModAt w bm bl d a m) (hfr : Fr [bm] w w') {pos : Int} {live : Bool}
    (hb : w'.heap[bm]? = some (Blk.obj ⟨modC (.slice a.o m.all.length a.c) (.pointer (some ⟨bl, 0, none⟩)) pos live, 52, false⟩)) : ModAt w' bm bl d a { m with pos := pos, live := live } := by
  have h1 := (List.nodup_cons.1 h.nd).1
  simp only [List.mem_append, List.mem_cons, not_or] at h1
  refine ⟨hb, ?_, ?_, h.nd⟩
  · exact Row.fr h.row hfr (fun b hb hq => by rw [List.mem_singleton.1 hq] at hb; exact h1.1 hb)
  · exact h.log.fr hfr (fun b hb hq => by rw [List.mem_singleton.1 hq] at hb; rcases List.mem_cons.1 hb with h2 | h2; exact h1.2.1 h2; exact h1.2.2 h2)


theorem fold_ok (xs : List Ev) (o1 : Option Addr) (c1 : Nat) (F1 : List Nat) (w : World) (hA : Rws [rl evC 33 3 xs o1 c1 F1] w) (hev : ∀ e ∈ xs, e.ok) (hn : xs.length ≤ 1000000) :
    Calls Try.prog 14 #[.slice o1 xs.length c1] w fun e w' => e = .returned (.tuple #[.agg (machC (runF xs (mach0, out0)).1).toArray, .agg (outC (runF xs (mach0, out0)).2).toArray]) ∧ Fr [] w w' := by
  refine enter (n := 20) (K := []) (A := Rws [rl evC 33 3 xs o1 c1 F1]) (F := Ff [rl evC 33 3 xs o1 c1 F1]) (T := [(0, .slice o1 xs.length c1)]) (L := []) (args := [.slice o1 xs.length c1]) Try.func14 rfl rfl rfl rfl knil (by simp) knil hA Rws.stable (hA).low knil ?_
  intro a h
  refine wp_seq_k fun K1 hK1 => ?_
  refine nd_start (l := [0, 1]) rfl ?_
  refine nd_op ?_
  refine op_new tabOk (cells := [.int .u64 0, .int .i8 0, .int .u8 0, .int .u8 0, .int .u8 0, .int .u8 0, .int .u64 0, .int .u64 0, .int .u64 0, .int .u64 0, .int .u64 0]) (ty := 46) (ln := none) (L1 := fun b2 => [(b2, ⟨[.int .u64 0, .int .i8 0, .int .u8 0, .int .u8 0, .int .u8 0, .int .u8 0, .int .u64 0, .int .u64 0, .int .u64 0, .int .u64 0, .int .u64 0], 46, false⟩)]) h rfl rfl rfl rfl (by kernel_rfl) (fun _ => rfl) fun b2 w3 a4 h5 hf6 hn7 => ?_
  clear h
  refine nd_op ?_
  refine op_new tabOk (cells := [.bool false, .int .i8 0, .int .u64 0]) (ty := 39) (ln := none) (L1 := fun b8 => [(b2, ⟨[.int .u64 0, .int .i8 0, .int .u8 0, .int .u8 0, .int .u8 0, .int .u8 0, .int .u64 0, .int .u64 0, .int .u64 0, .int .u64 0, .int .u64 0], 46, false⟩), (b8, ⟨[.bool false, .int .i8 0, .int .u64 0], 39, false⟩)]) h5 rfl rfl rfl rfl (by kernel_rfl) (fun _ => rfl) fun b8 w9 a10 h11 hf12 hn13 => ?_
  clear h5
  refine nd_done ?_
  refine hK1 _ _ ?_
  clear hK1
  refine wp_seq_k fun K14 hK14 => ?_
  refine nd_start (l := [0, 1, 2]) rfl ?_
  refine nd_op ?_
  refine op_call h11 rfl rfl rfl (callOk Try.func48 (by decide) rfl) (args := []) rfl (knew_ok _) ?_
  rintro _ w15 ⟨rfl, hf17⟩
  refine ⟨_, rfl, ?_⟩
  have h16 := (h11.grow hf17).put (d := some 8) (v := .agg #[.int .u64 mach0.now, .int .i8 mach0.cur, .int .u8 mach0.s0, .int .u8 mach0.s1, .int .u8 mach0.s2, .int .u8 mach0.s3, .int .u64 mach0.r0, .int .u64 mach0.r1, .int .u64 mach0.r2, .int .u64 mach0.r3, .int .u64 mach0.word]) (T' := [(8, .agg #[.int .u64 mach0.now, .int .i8 mach0.cur, .int .u8 mach0.s0, .int .u8 mach0.s1, .int .u8 mach0.s2, .int .u8 mach0.s3, .int .u64 mach0.r0, .int .u64 mach0.r1, .int .u64 mach0.r2, .int .u64 mach0.r3, .int .u64 mach0.word]), (3, .pointer (some ⟨b8, 0, none⟩)), (2, .pointer (some ⟨b2, 0, none⟩)), (0, .slice o1 xs.length c1)]) rfl
  clear h11
  refine nd_op ?_
  refine op_new tabOk (cells := [.int .u64 0, .int .i8 0, .int .u8 0, .int .u8 0, .int .u8 0, .int .u8 0, .int .u64 0, .int .u64 0, .int .u64 0, .int .u64 0, .int .u64 0]) (ty := 46) (ln := none) (L1 := fun b18 => [(b2, ⟨[.int .u64 0, .int .i8 0, .int .u8 0, .int .u8 0, .int .u8 0, .int .u8 0, .int .u64 0, .int .u64 0, .int .u64 0, .int .u64 0, .int .u64 0], 46, false⟩), (b8, ⟨[.bool false, .int .i8 0, .int .u64 0], 39, false⟩), (b18, ⟨[.int .u64 0, .int .i8 0, .int .u8 0, .int .u8 0, .int .u8 0, .int .u8 0, .int .u64 0, .int .u64 0, .int .u64 0, .int .u64 0, .int .u64 0], 46, false⟩)]) h16 rfl rfl rfl rfl (by kernel_rfl) (fun _ => rfl) fun b18 w19 a20 h21 hf22 hn23 => ?_
  clear h16
  refine nd_op ?_
  refine op_store tabOk {k := 2} (L' := [(b2, ⟨[.int .u64 0, .int .i8 0, .int .u8 0, .int .u8 0, .int .u8 0, .int .u8 0, .int .u64 0, .int .u64 0, .int .u64 0, .int .u64 0, .int .u64 0], 46, false⟩), (b8, ⟨[.bool false, .int .i8 0, .int .u64 0], 39, false⟩), (b18, ⟨[.int .u64 mach0.now, .int .i8 mach0.cur, .int .u8 mach0.s0, .int .u8 mach0.s1, .int .u8 mach0.s2, .int .u8 mach0.s3, .int .u64 mach0.r0, .int .u64 mach0.r1, .int .u64 mach0.r2, .int .u64 mach0.r3, .int .u64 mach0.word], 46, false⟩)]) (φ := b18 = b18 ∧ Nat.ble (0 + 11) 11 = true) h21 rfl rfl rfl (by kernel_rfl) ⟨rfl, rfl⟩ fun w24 h25 => ?_
  clear h21
  refine nd_done ?_
  refine hK14 _ _ ?_
  clear hK14
  refine wp_seq_k fun K26 hK26 => ?_
  refine nd_start (l := [0]) rfl ?_
  refine nd_op ?_
  refine op_new tabOk (cells := [.bool false, .int .i8 0, .int .u64 0]) (ty := 39) (ln := none) (L1 := fun b27 => [(b2, ⟨[.int .u64 0, .int .i8 0, .int .u8 0, .int .u8 0, .int .u8 0, .int .u8 0, .int .u64 0, .int .u64 0, .int .u64 0, .int .u64 0, .int .u64 0], 46, false⟩), (b8, ⟨[.bool false, .int .i8 0, .int .u64 0], 39, false⟩), (b18, ⟨[.int .u64 mach0.now, .int .i8 mach0.cur, .int .u8 mach0.s0, .int .u8 mach0.s1, .int .u8 mach0.s2, .int .u8 mach0.s3, .int .u64 mach0.r0, .int .u64 mach0.r1, .int .u64 mach0.r2, .int .u64 mach0.r3, .int .u64 mach0.word], 46, false⟩), (b27, ⟨[.bool false, .int .i8 0, .int .u64 0], 39, false⟩)]) h25 rfl rfl rfl rfl (by kernel_rfl) (fun _ => rfl) fun b27 w28 a29 h30 hf31 hn32 => ?_
  clear h25
  refine nd_done ?_
  refine hK26 _ _ ?_
  clear hK26
  refine wp_seq_k fun K33 hK33 => ?_
  refine wp_seq_k fun K34 hK34 => ?_
  refine nd_start (l := [0, 1, 2]) rfl ?_
  refine nd_batch tabOk tabZ_ok [(0, {}), (1, {}), (2, {})] [5, 4, 3, 2, 0, 9, 10, 11] (T' := [(5, .pointer (some ⟨b27, 0, none⟩)), (4, .pointer (some ⟨b18, 0, none⟩)), (3, .pointer (some ⟨b8, 0, none⟩)), (2, .pointer (some ⟨b2, 0, none⟩)), (0, .slice o1 xs.length c1), (9, .slice o1 xs.length c1), (10, .int .i64 ((xs.length : Nat) : Int)), (11, .int .i64 0)]) (φ := True) (rest := []) h30 (by kernel_rfl) rfl trivial fun a35 h36 => ?_
  clear h30
  refine nd_done ?_
  refine hK34 _ _ ?_
  clear hK34
  refine wp_block ?_
  refine wp_loop_ghost (fun g ga gw => ∃ (i : Nat) (m' : Mach) (o' : Ot), (i ≤ xs.length) ∧ (g = xs.length - i) ∧ (runF (xs.take i) (mach0, out0) = (m', o')) ∧ (m'.ok) ∧ St ⟨20, [], w, Rws [rl evC 33 3 xs o1 c1 F1], Ff [rl evC 33 3 xs o1 c1 F1]⟩ [(2, .pointer (some ⟨b2, 0, none⟩)), (3, .pointer (some ⟨b8, 0, none⟩)), (4, .pointer (some ⟨b18, 0, none⟩)), (5, .pointer (some ⟨b27, 0, none⟩)), (9, .slice o1 xs.length c1), (10, .int .i64 ((xs.length : Nat) : Int)), (11, .int .i64 ((i : Nat) : Int))] [(b2, ⟨[.int .u64 0, .int .i8 0, .int .u8 0, .int .u8 0, .int .u8 0, .int .u8 0, .int .u64 0, .int .u64 0, .int .u64 0, .int .u64 0, .int .u64 0], 46, false⟩), (b8, ⟨[.bool false, .int .i8 0, .int .u64 0], 39, false⟩), (b18, ⟨machC m', 46, false⟩), (b27, ⟨outC o', 39, false⟩)] ga gw) xs.length ⟨0, mach0, out0, Nat.zero_le _, rfl, rfl, mach0_ok, (h36.slotsMono (restr_spec (keep := [2, 3, 4, 5, 9, 10, 11]) rfl))⟩ ?_
  clear h36
  rintro g a37 w38 ⟨i, m', o', hi40, hi41, hi42, hi43, h39⟩
  have hi := hi40
  have hg := hi41
  have hrun := hi42
  have hmo := hi43
  refine wp_seq_k fun K44 hK44 => ?_
  refine nd_start (l := [0]) rfl ?_
  refine nd_batch tabOk tabZ_ok [(0, {})] [2, 3, 4, 5, 9, 10, 11, 12] (T' := [(2, .pointer (some ⟨b2, 0, none⟩)), (3, .pointer (some ⟨b8, 0, none⟩)), (4, .pointer (some ⟨b18, 0, none⟩)), (5, .pointer (some ⟨b27, 0, none⟩)), (9, .slice o1 xs.length c1), (10, .int .i64 ((xs.length : Nat) : Int)), (11, .int .i64 ((i : Nat) : Int)), (12, .bool (decide (((i : Nat) : Int) < ((xs.length : Nat) : Int))))]) (φ := True) (rest := []) h39 (by kernel_rfl) rfl trivial fun a45 h46 => ?_
  clear h39
  refine nd_done ?_
  refine hK44 _ _ ?_
  clear hK44
  refine wp_seq_k fun K47 hK47 => ?_
  refine c_split h46 (b := decide (((i : Nat) : Int) < ((xs.length : Nat) : Int))) rfl (fun hc48 => ?_) (fun hc48 => ?_)
  ·
    have hc48f : ((i : Nat) : Int) < ((xs.length : Nat) : Int) := by simpa using hc48
    obtain ⟨x, hx⟩ := Sx.get_some (xs := xs) (i := i) (by omega)
    have hxe := hev x (List.mem_of_getElem? hx)
    obtain ⟨b49, cs50, ho51, hb52, hc53, hF54, hq56, hl57⟩ := rl_open (h46.inv.get (j := 0) rfl) evC_len hx
    subst ho51 hF54
    have h55 := h46.open_ hb52 (h46.notinL (by simp [Ff]) (kcons (by intro hq; cases hq) (kcons (by intro hq; cases hq) (kcons (by intro hq; cases hq) (kcons (by intro hq; cases hq) knil)))))
    clear h46
    refine wp_skip ?_
    refine hK47 _ _ ?_
    clear hK47
    refine wp_seq_k fun K58 hK58 => ?_
    refine wp_block ?_
    refine wp_seq_k fun K59 hK59 => ?_
    refine nd_start (l := [0, 1, 2, 3]) rfl ?_
    refine nd_batch tabOk tabZ_ok [(0, {}), (1, {k := 4, m := 1, vs := [.int .u8 x.kind, .int .u32 x.pick, .int .u64 x.arg]})] [2, 3, 4, 5, 9, 10, 11, 14] (T' := [(2, .pointer (some ⟨b2, 0, none⟩)), (3, .pointer (some ⟨b8, 0, none⟩)), (4, .pointer (some ⟨b18, 0, none⟩)), (5, .pointer (some ⟨b27, 0, none⟩)), (9, .slice (some ⟨b49, 0, none⟩) xs.length c1), (10, .int .i64 ((xs.length : Nat) : Int)), (11, .int .i64 ((i : Nat) : Int)), (14, .agg #[.int .u8 x.kind, .int .u32 x.pick, .int .u64 x.arg])]) (φ := (0 ≤ ((i : Nat) : Int) ∧ ((i : Nat) : Int) < ((xs.length : Nat) : Int)) ∧ (b49 = b49 ∧ cellsAre cs50 (0 + (i * 3)) [.int .u8 x.kind, .int .u32 x.pick, .int .u64 x.arg]) ∧ True) (rest := [2, 3]) h55 (by kernel_rfl) rfl ⟨⟨by omega, by omega⟩, ⟨rfl, (by rw [Nat.zero_add]; exact hc53)⟩, trivial⟩ fun a60 h61 => ?_
    clear h55
    refine nd_op ?_
    refine op_new tabOk (cells := [.int .u8 0, .int .u32 0, .int .u64 0]) (ty := 33) (ln := none) (L1 := fun b62 => [(b2, ⟨[.int .u64 0, .int .i8 0, .int .u8 0, .int .u8 0, .int .u8 0, .int .u8 0, .int .u64 0, .int .u64 0, .int .u64 0, .int .u64 0, .int .u64 0], 46, false⟩), (b8, ⟨[.bool false, .int .i8 0, .int .u64 0], 39, false⟩), (b18, ⟨machC m', 46, false⟩), (b27, ⟨outC o', 39, false⟩), (b49, ⟨cs50, 33, true⟩), (b62, ⟨[.int .u8 0, .int .u32 0, .int .u64 0], 33, false⟩)]) h61 rfl rfl rfl rfl (by kernel_rfl) (fun _ => rfl) fun b62 w63 a64 h65 hf66 hn67 => ?_
    clear h61
    refine nd_op ?_
    refine op_store tabOk {k := 5} (L' := [(b2, ⟨[.int .u64 0, .int .i8 0, .int .u8 0, .int .u8 0, .int .u8 0, .int .u8 0, .int .u64 0, .int .u64 0, .int .u64 0, .int .u64 0, .int .u64 0], 46, false⟩), (b8, ⟨[.bool false, .int .i8 0, .int .u64 0], 39, false⟩), (b18, ⟨machC m', 46, false⟩), (b27, ⟨outC o', 39, false⟩), (b49, ⟨cs50, 33, true⟩), (b62, ⟨[.int .u8 x.kind, .int .u32 x.pick, .int .u64 x.arg], 33, false⟩)]) (φ := b62 = b62 ∧ Nat.ble (0 + 3) 3 = true) h65 rfl rfl rfl (by kernel_rfl) ⟨rfl, rfl⟩ fun w68 h69 => ?_
    clear h65
    refine nd_done ?_
    refine hK59 _ _ ?_
    clear hK59
    refine nd_start (l := [0, 1, 2]) rfl ?_
    refine nd_batch tabOk tabZ_ok [(0, {k := 5})] [7, 2, 3, 4, 5, 9, 10, 11, 15] (T' := [(7, .pointer (some ⟨b62, 0, none⟩)), (2, .pointer (some ⟨b2, 0, none⟩)), (3, .pointer (some ⟨b8, 0, none⟩)), (4, .pointer (some ⟨b18, 0, none⟩)), (5, .pointer (some ⟨b27, 0, none⟩)), (9, .slice (some ⟨b49, 0, none⟩) xs.length c1), (10, .int .i64 ((xs.length : Nat) : Int)), (11, .int .i64 ((i : Nat) : Int)), (15, .agg #[.int .u8 x.kind, .int .u32 x.pick, .int .u64 x.arg])]) (φ := (b62 = b62 ∧ Nat.ble (0 + 3) 3 = true) ∧ True) (rest := [1, 2]) h69 (by kernel_rfl) rfl ⟨⟨rfl, rfl⟩, trivial⟩ fun a70 h71 => ?_
    clear h69
    refine nd_op ?_
    refine op_call h71 rfl rfl rfl (callOk Try.func49 (by decide) rfl) (args := [.pointer (some ⟨b18, 0, none⟩), .agg #[.int .u8 x.kind, .int .u32 x.pick, .int .u64 x.arg]]) rfl (step_calls [] [] m' hmo x hxe b18 46 false _ (h71.kn (k := 2) (blk := ⟨machC m', 46, false⟩) rfl)) ?_
    rintro _ w72 ⟨rfl, hbs, hf74⟩
    refine ⟨_, rfl, ?_⟩
    have h73 := (h71.setBlk (k := 2) rfl rfl hf74 hbs (L' := [(b2, ⟨[.int .u64 0, .int .i8 0, .int .u8 0, .int .u8 0, .int .u8 0, .int .u8 0, .int .u64 0, .int .u64 0, .int .u64 0, .int .u64 0, .int .u64 0], 46, false⟩), (b8, ⟨[.bool false, .int .i8 0, .int .u64 0], 39, false⟩), (b18, ⟨machC ((kstep m' x).1), 46, false⟩), (b27, ⟨outC o', 39, false⟩), (b49, ⟨cs50, 33, true⟩), (b62, ⟨[.int .u8 x.kind, .int .u32 x.pick, .int .u64 x.arg], 33, false⟩)]) rfl).put (d := some 16) (v := .agg #[.bool ((kstep m' x).2.refused), .int .i8 ((kstep m' x).2.running), .int .u64 ((kstep m' x).2.value)]) (T' := [(16, .agg #[.bool ((kstep m' x).2.refused), .int .i8 ((kstep m' x).2.running), .int .u64 ((kstep m' x).2.value)]), (7, .pointer (some ⟨b62, 0, none⟩)), (2, .pointer (some ⟨b2, 0, none⟩)), (3, .pointer (some ⟨b8, 0, none⟩)), (4, .pointer (some ⟨b18, 0, none⟩)), (5, .pointer (some ⟨b27, 0, none⟩)), (9, .slice (some ⟨b49, 0, none⟩) xs.length c1), (10, .int .i64 ((xs.length : Nat) : Int)), (11, .int .i64 ((i : Nat) : Int)), (15, .agg #[.int .u8 x.kind, .int .u32 x.pick, .int .u64 x.arg])]) rfl
    clear h71
    refine nd_op ?_
    refine op_store tabOk {k := 3} (L' := [(b2, ⟨[.int .u64 0, .int .i8 0, .int .u8 0, .int .u8 0, .int .u8 0, .int .u8 0, .int .u64 0, .int .u64 0, .int .u64 0, .int .u64 0, .int .u64 0], 46, false⟩), (b8, ⟨[.bool false, .int .i8 0, .int .u64 0], 39, false⟩), (b18, ⟨machC ((kstep m' x).1), 46, false⟩), (b27, ⟨[.bool ((kstep m' x).2.refused), .int .i8 ((kstep m' x).2.running), .int .u64 ((kstep m' x).2.value)], 39, false⟩), (b49, ⟨cs50, 33, true⟩), (b62, ⟨[.int .u8 x.kind, .int .u32 x.pick, .int .u64 x.arg], 33, false⟩)]) (φ := b27 = b27 ∧ Nat.ble (0 + 3) 3 = true) h73 rfl rfl rfl (by kernel_rfl) ⟨rfl, rfl⟩ fun w75 h76 => ?_
    clear h73
    refine nd_done ?_
    refine hK58 _ _ ?_
    clear hK58
    refine nd_start (l := [0, 1]) rfl ?_
    refine nd_batch tabOk tabZ_ok [(0, {}), (1, {})] [7, 2, 3, 4, 5, 9, 10, 11] (T' := [(7, .pointer (some ⟨b62, 0, none⟩)), (2, .pointer (some ⟨b2, 0, none⟩)), (3, .pointer (some ⟨b8, 0, none⟩)), (4, .pointer (some ⟨b18, 0, none⟩)), (5, .pointer (some ⟨b27, 0, none⟩)), (9, .slice (some ⟨b49, 0, none⟩) xs.length c1), (10, .int .i64 ((xs.length : Nat) : Int)), (11, .int .i64 (((i : Nat) : Int) + 1))]) (φ := inR .i64 (((i : Nat) : Int) + 1) ∧ True) (rest := []) h76 (by kernel_rfl) rfl ⟨⟨by omega, by omega⟩, trivial⟩ fun a77 h78 => ?_
    clear h76
    refine nd_done ?_
    have h79 := h78.memMono (L' := [(b2, ⟨[.int .u64 0, .int .i8 0, .int .u8 0, .int .u8 0, .int .u8 0, .int .u8 0, .int .u64 0, .int .u64 0, .int .u64 0, .int .u64 0, .int .u64 0], 46, false⟩), (b8, ⟨[.bool false, .int .i8 0, .int .u64 0], 39, false⟩), (b18, ⟨machC ((kstep m' x).1), 46, false⟩), (b27, ⟨[.bool ((kstep m' x).2.refused), .int .i8 ((kstep m' x).2.running), .int .u64 ((kstep m' x).2.value)], 39, false⟩)]) (List.Sublist.cons_cons _ (List.Sublist.cons_cons _ (List.Sublist.cons_cons _ (List.Sublist.cons_cons _ (List.Sublist.cons _ (List.Sublist.cons _ List.Sublist.slnil))))))
    clear h78
    exact ⟨(g - 1), by omega, (i + 1), (kstep m' x).1, (kstep m' x).2, by omega, by omega, (by rw [Sx.take_snoc hx, runF_snoc, hrun]), (kstep_ok hmo hxe), (h79.slotsMono (restr_spec (keep := [2, 3, 4, 5, 9, 10, 11]) rfl))⟩
  ·
    have hc48f : ¬ ((i : Nat) : Int) < ((xs.length : Nat) : Int) := by simpa using hc48
    have h80 := h46.slotsMono (T' := [(2, .pointer (some ⟨b2, 0, none⟩)), (3, .pointer (some ⟨b8, 0, none⟩)), (4, .pointer (some ⟨b18, 0, none⟩)), (5, .pointer (some ⟨b27, 0, none⟩))]) (restr_spec (keep := [2, 3, 4, 5]) rfl)
    clear h46
    have hii : i = xs.length := by omega
    subst hii
    rw [List.take_length] at hrun
    refine wp_exit ?_
    refine hK33 _ _ ?_
    clear hK33
    refine wp_seq_k fun K81 hK81 => ?_
    refine dr_start (KB := [b2, b8, b18, b27]) (Bi := [[0, 1, 2, 3], [0, 1, 2, 3], [3], []]) mixed h80 fun w82 h83 => ?_
    clear h80
    refine dr_batch tabOk tabZ_ok (by repeat (first | exact PF.body | with_reducible apply PF.inB | with_reducible apply PF.next)) [(0, {k := 2, p := 2}), (1, {k := 3, p := 3})] [2, 3, 4, 5, 18, 19] (T' := [(2, .pointer (some ⟨b2, 0, none⟩)), (3, .pointer (some ⟨b8, 0, none⟩)), (4, .pointer (some ⟨b18, 0, none⟩)), (5, .pointer (some ⟨b27, 0, none⟩)), (18, .agg #[.int .u64 m'.now, .int .i8 m'.cur, .int .u8 m'.s0, .int .u8 m'.s1, .int .u8 m'.s2, .int .u8 m'.s3, .int .u64 m'.r0, .int .u64 m'.r1, .int .u64 m'.r2, .int .u64 m'.r3, .int .u64 m'.word]), (19, .agg #[.bool o'.refused, .int .i8 o'.running, .int .u64 o'.value])]) (φ := (b18 = b18 ∧ Nat.ble (0 + 11) 11 = true) ∧ (b27 = b27 ∧ Nat.ble (0 + 3) 3 = true) ∧ True) (fuel := 2) h83 (by kernel_rfl) rfl (by kernel_rfl) (by kernel_rfl) ⟨rfl, rfl, trivial⟩ ⟨⟨rfl, rfl⟩, ⟨rfl, rfl⟩, trivial⟩ fun a85 h86 => ?_
    clear h83
    refine wpAnyK_one (i := 2) (fuel := 1) (by kernel_rfl) ?_
    refine op_store tabOk {k := 0} (L' := [(b2, ⟨[.int .u64 m'.now, .int .i8 m'.cur, .int .u8 m'.s0, .int .u8 m'.s1, .int .u8 m'.s2, .int .u8 m'.s3, .int .u64 m'.r0, .int .u64 m'.r1, .int .u64 m'.r2, .int .u64 m'.r3, .int .u64 m'.word], 46, false⟩), (b8, ⟨[.bool false, .int .i8 0, .int .u64 0], 39, false⟩), (b18, ⟨machC m', 46, false⟩), (b27, ⟨outC o', 39, false⟩)]) (φ := b2 = b2 ∧ Nat.ble (0 + 11) 11 = true) h86 rfl rfl rfl (by kernel_rfl) ⟨rfl, rfl⟩ fun w87 h88 => ?_
    have hkh88 := h86.known
    refine ⟨(keepOf hkh88 h88.known (kcons (keepAt (q := 3) (q' := 3) rfl rfl) knil)), ?_⟩
    clear h86
    refine wpAnyK_one (i := 3) (fuel := 0) (by kernel_rfl) ?_
    refine op_store tabOk {k := 1} (L' := [(b2, ⟨[.int .u64 m'.now, .int .i8 m'.cur, .int .u8 m'.s0, .int .u8 m'.s1, .int .u8 m'.s2, .int .u8 m'.s3, .int .u64 m'.r0, .int .u64 m'.r1, .int .u64 m'.r2, .int .u64 m'.r3, .int .u64 m'.word], 46, false⟩), (b8, ⟨[.bool o'.refused, .int .i8 o'.running, .int .u64 o'.value], 39, false⟩), (b18, ⟨machC m', 46, false⟩), (b27, ⟨outC o', 39, false⟩)]) (φ := b8 = b8 ∧ Nat.ble (0 + 3) 3 = true) h88 rfl rfl rfl (by kernel_rfl) ⟨rfl, rfl⟩ fun w89 h90 => ?_
    have hkh90 := h88.known
    refine ⟨keepNil, ?_⟩
    clear h88
    refine wpAnyK_done (by kernel_rfl) ?_ _
    refine hK81 _ _ ?_
    clear hK81
    refine wp_ret ?_
    try simp only [Exit.then, Exit.inBlock]
    try rw [if_pos trivial]
    exact s_ret tabOk tabZ_ok h90 [(.cell 2 46, {k := 0}), (.cell 3 39, {k := 1})] (vs := [.agg #[.int .u64 m'.now, .int .i8 m'.cur, .int .u8 m'.s0, .int .u8 m'.s1, .int .u8 m'.s2, .int .u8 m'.s3, .int .u64 m'.r0, .int .u64 m'.r1, .int .u64 m'.r2, .int .u64 m'.r3, .int .u64 m'.word], .agg #[.bool o'.refused, .int .i8 o'.running, .int .u64 o'.value]]) (φ := (b2 = b2 ∧ Nat.ble (0 + 11) 11 = true) ∧ (b8 = b8 ∧ Nat.ble (0 + 3) 3 = true) ∧ True) rfl (by kernel_rfl) ⟨⟨rfl, rfl⟩, ⟨rfl, rfl⟩, trivial⟩ ⟨by rw [hrun]; rfl, h90.frame⟩

theorem held_ok (bm bl : Nat) (d : Hd) (a : Ah) (m : Md) (w : World) (hm : ModAt w bm bl d a m) (n : Int) (hsl : m.lg.sns.length ≤ 1000) :
    Calls Try.prog 47 #[.pointer (some ⟨bm, 0, none⟩), .int .i64 n] w fun e w' => e = .returned (.bool (m.lg.point n).isSome) ∧ Fr [] w w' := by
  obtain ⟨ao, ac, aF⟩ := a
  obtain ⟨eo, ec, eF, mo, mc, mF, so, sc, sF⟩ := d
  obtain ⟨all, lg, pos, live⟩ := m
  have hR := hm.rows
  have hne := hm.ne
  have hsA := hm.sepA
  have hsL := hm.sepL
  have hsR := hm.sepR
  have hm0 := hm
  obtain ⟨hblk, hrow, ⟨hbl, hA, hsep⟩, hnd⟩ := hm
  simp only at hblk hbl hR hsA hsL hsR
  simp only at hsl ⊢
  refine enter (n := 34) (K := []) (A := Rws [rl evC 33 3 all ao ac aF, rl evC 33 3 lg.evs eo ec eF, rl mkC 78 2 lg.mks mo mc mF, rl ptC 66 15 lg.sns so sc sF]) (F := Ff [rl evC 33 3 all ao ac aF, rl evC 33 3 lg.evs eo ec eF, rl mkC 78 2 lg.mks mo mc mF, rl ptC 66 15 lg.sns so sc sF]) (T := [(0, .pointer (some ⟨bm, 0, none⟩)), (1, .int .i64 n)]) (L := [(bm, ⟨modC (.slice ao all.length ac) (.pointer (some ⟨bl, 0, none⟩)) pos live, 52, true⟩), (bl, ⟨logC lg.base (.slice eo lg.evs.length ec) (.slice mo lg.mks.length mc) (.slice so lg.sns.length sc), 69, true⟩)]) (args := [.pointer (some ⟨bm, 0, none⟩), .int .i64 n]) Try.func47 rfl rfl rfl rfl (kcons hblk (kcons hbl knil)) (by simp [hne]) (kcons (by intro hq; cases hq) (kcons (by intro hq; cases hq) knil)) hR Rws.stable (hR).low (kcons (by intro hq; cases hq) (kcons (by intro hq; cases hq) knil)) ?_
  intro a h
  refine wp_seq_k fun K1 hK1 => ?_
  refine nd_start (l := [0]) rfl ?_
  refine nd_batch tabOk tabZ_ok [(0, {})] [0, 1, 4] (T' := [(0, .pointer (some ⟨bm, 0, none⟩)), (1, .int .i64 n), (4, .bool false)]) (φ := True) (rest := []) h (by kernel_rfl) rfl trivial fun a2 h3 => ?_
  clear h
  refine nd_done ?_
  refine hK1 _ _ ?_
  clear hK1
  refine wp_seq_k fun K4 hK4 => ?_
  refine wp_seq_k fun K5 hK5 => ?_
  refine nd_start (l := [0, 1, 2, 3, 4, 5, 6, 7, 8]) rfl ?_
  refine nd_batch tabOk tabZ_ok [(0, {}), (1, {}), (2, {}), (3, {k := 0}), (4, {}), (5, {}), (6, {k := 1}), (7, {}), (8, {})] [0, 1, 4, 13, 14, 15] (T' := [(0, .pointer (some ⟨bm, 0, none⟩)), (1, .int .i64 n), (4, .bool false), (13, .slice so lg.sns.length sc), (14, .int .i64 ((lg.sns.length : Nat) : Int)), (15, .int .i64 0)]) (φ := (bm = bm ∧ Nat.ble (1 + 1) 4 = true) ∧ (bl = bl ∧ Nat.ble (17 + 1) 18 = true) ∧ True) (rest := []) h3 (by kernel_rfl) rfl ⟨⟨rfl, rfl⟩, ⟨rfl, rfl⟩, trivial⟩ fun a6 h7 => ?_
  clear h3
  refine nd_done ?_
  refine hK5 _ _ ?_
  clear hK5
  refine wp_block ?_
  refine wp_loop_ghost (fun g ga gw => ∃ (k : Nat), (k ≤ lg.sns.length) ∧ (g = lg.sns.length - k) ∧ (∀ y ∈ lg.sns.take k, y.idx ≠ n) ∧ St ⟨34, [], w, Rws [rl evC 33 3 all ao ac aF, rl evC 33 3 lg.evs eo ec eF, rl mkC 78 2 lg.mks mo mc mF, rl ptC 66 15 lg.sns so sc sF], Ff [rl evC 33 3 all ao ac aF, rl evC 33 3 lg.evs eo ec eF, rl mkC 78 2 lg.mks mo mc mF, rl ptC 66 15 lg.sns so sc sF]⟩ [(0, .pointer (some ⟨bm, 0, none⟩)), (1, .int .i64 n), (13, .slice so lg.sns.length sc), (14, .int .i64 ((lg.sns.length : Nat) : Int)), (15, .int .i64 ((k : Nat) : Int))] [(bm, ⟨modC (.slice ao all.length ac) (.pointer (some ⟨bl, 0, none⟩)) pos live, 52, true⟩), (bl, ⟨logC lg.base (.slice eo lg.evs.length ec) (.slice mo lg.mks.length mc) (.slice so lg.sns.length sc), 69, true⟩)] ga gw) lg.sns.length ⟨0, Nat.zero_le _, rfl, (fun y hy => by simp at hy), (h7.slotsMono (restr_spec (keep := [0, 1, 13, 14, 15]) rfl))⟩ ?_
  clear h7
  rintro g a8 w9 ⟨k, hi11, hi12, hi13, h10⟩
  have hk := hi11
  have hg := hi12
  have hno := hi13
  refine wp_seq_k fun K14 hK14 => ?_
  refine nd_start (l := [0]) rfl ?_
  refine nd_batch tabOk tabZ_ok [(0, {})] [0, 1, 13, 14, 15, 16] (T' := [(0, .pointer (some ⟨bm, 0, none⟩)), (1, .int .i64 n), (13, .slice so lg.sns.length sc), (14, .int .i64 ((lg.sns.length : Nat) : Int)), (15, .int .i64 ((k : Nat) : Int)), (16, .bool (decide (((k : Nat) : Int) < ((lg.sns.length : Nat) : Int))))]) (φ := True) (rest := []) h10 (by kernel_rfl) rfl trivial fun a15 h16 => ?_
  clear h10
  refine nd_done ?_
  refine hK14 _ _ ?_
  clear hK14
  refine wp_seq_k fun K17 hK17 => ?_
  refine c_split h16 (b := decide (((k : Nat) : Int) < ((lg.sns.length : Nat) : Int))) rfl (fun hc18 => ?_) (fun hc18 => ?_)
  ·
    have hc18f : ((k : Nat) : Int) < ((lg.sns.length : Nat) : Int) := by simpa using hc18
    obtain ⟨x, hx⟩ := Sx.get_some (xs := lg.sns) (i := k) (by omega)
    obtain ⟨b19, cs20, ho21, hb22, hc23, hF24, hq26, hl27⟩ := rl_open (h16.inv.get (j := 3) rfl) ptC_len hx
    subst ho21 hF24
    have h25 := h16.open_ hb22 (h16.notinL (by simp [Ff]) (kcons (fun _ => (fun hq => hsL (by have hq2 : bm = b19 := hq; rw [hq2]; simp [Hd.F]))) (kcons (fun _ => (fun hq => hsep (by have hq2 : bl = b19 := hq; rw [hq2]; simp [Hd.F]))) knil)))
    clear h16
    refine wp_skip ?_
    refine hK17 _ _ ?_
    clear hK17
    refine wp_seq_k fun K28 hK28 => ?_
    refine wp_block ?_
    refine wp_seq_k fun K29 hK29 => ?_
    refine nd_start (l := [0, 1, 2, 3]) rfl ?_
    refine nd_batch tabOk tabZ_ok [(0, {}), (1, {k := 2, m := 1, vs := [.int .i64 x.idx, .int .u64 x.st.now, .int .i8 x.st.cur, .int .u8 x.st.s0, .int .u8 x.st.s1, .int .u8 x.st.s2, .int .u8 x.st.s3, .int .u64 x.st.r0, .int .u64 x.st.r1, .int .u64 x.st.r2, .int .u64 x.st.r3, .int .u64 x.st.word, .bool x.out.refused, .int .i8 x.out.running, .int .u64 x.out.value]})] [0, 1, 13, 14, 15, 18] (T' := [(0, .pointer (some ⟨bm, 0, none⟩)), (1, .int .i64 n), (13, .slice (some ⟨b19, 0, none⟩) lg.sns.length sc), (14, .int .i64 ((lg.sns.length : Nat) : Int)), (15, .int .i64 ((k : Nat) : Int)), (18, .agg #[.int .i64 x.idx, .int .u64 x.st.now, .int .i8 x.st.cur, .int .u8 x.st.s0, .int .u8 x.st.s1, .int .u8 x.st.s2, .int .u8 x.st.s3, .int .u64 x.st.r0, .int .u64 x.st.r1, .int .u64 x.st.r2, .int .u64 x.st.r3, .int .u64 x.st.word, .bool x.out.refused, .int .i8 x.out.running, .int .u64 x.out.value])]) (φ := (0 ≤ ((k : Nat) : Int) ∧ ((k : Nat) : Int) < ((lg.sns.length : Nat) : Int)) ∧ (b19 = b19 ∧ cellsAre cs20 (0 + (k * 15)) [.int .i64 x.idx, .int .u64 x.st.now, .int .i8 x.st.cur, .int .u8 x.st.s0, .int .u8 x.st.s1, .int .u8 x.st.s2, .int .u8 x.st.s3, .int .u64 x.st.r0, .int .u64 x.st.r1, .int .u64 x.st.r2, .int .u64 x.st.r3, .int .u64 x.st.word, .bool x.out.refused, .int .i8 x.out.running, .int .u64 x.out.value]) ∧ True) (rest := [2, 3]) h25 (by kernel_rfl) rfl ⟨⟨by omega, by omega⟩, ⟨rfl, (by rw [Nat.zero_add]; exact hc23)⟩, trivial⟩ fun a30 h31 => ?_
    clear h25
    refine nd_op ?_
    refine op_new tabOk (cells := [.int .i64 0, .int .u64 0, .int .i8 0, .int .u8 0, .int .u8 0, .int .u8 0, .int .u8 0, .int .u64 0, .int .u64 0, .int .u64 0, .int .u64 0, .int .u64 0, .bool false, .int .i8 0, .int .u64 0]) (ty := 66) (ln := none) (L1 := fun b32 => [(bm, ⟨modC (.slice ao all.length ac) (.pointer (some ⟨bl, 0, none⟩)) pos live, 52, true⟩), (bl, ⟨logC lg.base (.slice eo lg.evs.length ec) (.slice mo lg.mks.length mc) (.slice (some ⟨b19, 0, none⟩) lg.sns.length sc), 69, true⟩), (b19, ⟨cs20, 66, true⟩), (b32, ⟨[.int .i64 0, .int .u64 0, .int .i8 0, .int .u8 0, .int .u8 0, .int .u8 0, .int .u8 0, .int .u64 0, .int .u64 0, .int .u64 0, .int .u64 0, .int .u64 0, .bool false, .int .i8 0, .int .u64 0], 66, false⟩)]) h31 rfl rfl rfl rfl (by kernel_rfl) (fun _ => rfl) fun b32 w33 a34 h35 hf36 hn37 => ?_
    clear h31
    refine nd_op ?_
    refine op_store tabOk {k := 3} (L' := [(bm, ⟨modC (.slice ao all.length ac) (.pointer (some ⟨bl, 0, none⟩)) pos live, 52, true⟩), (bl, ⟨logC lg.base (.slice eo lg.evs.length ec) (.slice mo lg.mks.length mc) (.slice (some ⟨b19, 0, none⟩) lg.sns.length sc), 69, true⟩), (b19, ⟨cs20, 66, true⟩), (b32, ⟨[.int .i64 x.idx, .int .u64 x.st.now, .int .i8 x.st.cur, .int .u8 x.st.s0, .int .u8 x.st.s1, .int .u8 x.st.s2, .int .u8 x.st.s3, .int .u64 x.st.r0, .int .u64 x.st.r1, .int .u64 x.st.r2, .int .u64 x.st.r3, .int .u64 x.st.word, .bool x.out.refused, .int .i8 x.out.running, .int .u64 x.out.value], 66, false⟩)]) (φ := b32 = b32 ∧ Nat.ble (0 + 15) 15 = true) h35 rfl rfl rfl (by kernel_rfl) ⟨rfl, rfl⟩ fun w38 h39 => ?_
    clear h35
    refine nd_done ?_
    refine hK29 _ _ ?_
    clear hK29
    refine wp_seq_k fun K40 hK40 => ?_
    refine nd_start (l := [0, 1, 2, 3]) rfl ?_
    refine nd_batch tabOk tabZ_ok [(0, {}), (1, {k := 3}), (2, {}), (3, {})] [6, 0, 1, 13, 14, 15, 22] (T' := [(6, .pointer (some ⟨b32, 0, none⟩)), (0, .pointer (some ⟨bm, 0, none⟩)), (1, .int .i64 n), (13, .slice (some ⟨b19, 0, none⟩) lg.sns.length sc), (14, .int .i64 ((lg.sns.length : Nat) : Int)), (15, .int .i64 ((k : Nat) : Int)), (22, .bool (x.idx == n))]) (φ := (b32 = b32 ∧ Nat.ble (0 + 1) 15 = true) ∧ True) (rest := []) h39 (by kernel_rfl) rfl ⟨⟨rfl, rfl⟩, trivial⟩ fun a41 h42 => ?_
    clear h39
    refine nd_done ?_
    refine hK40 _ _ ?_
    clear hK40
    refine c_split h42 (b := (x.idx == n)) rfl (fun hc43 => ?_) (fun hc43 => ?_)
    ·
      have hc43f : x.idx = n := by simpa using hc43
      have hP : (lg.point n).isSome = true := (held_iff lg n).2 (.inl ⟨x, List.mem_of_getElem? hx, hc43f⟩)
      refine wp_seq_k fun K44 hK44 => ?_
      refine nd_start (l := [0]) rfl ?_
      refine nd_batch tabOk tabZ_ok [(0, {})] [6, 0, 1, 13, 14, 15, 4] (T' := [(6, .pointer (some ⟨b32, 0, none⟩)), (0, .pointer (some ⟨bm, 0, none⟩)), (1, .int .i64 n), (13, .slice (some ⟨b19, 0, none⟩) lg.sns.length sc), (14, .int .i64 ((lg.sns.length : Nat) : Int)), (15, .int .i64 ((k : Nat) : Int)), (4, .bool true)]) (φ := True) (rest := []) h42 (by kernel_rfl) rfl trivial fun a45 h46 => ?_
      clear h42
      refine nd_done ?_
      refine hK44 _ _ ?_
      clear hK44
      refine wp_ret ?_
      try simp only [Exit.then, Exit.inBlock]
      try rw [if_pos trivial]
      exact s_ret tabOk tabZ_ok h46 [(.tmp 4, {})] (vs := [.bool true]) (φ := True) rfl (by kernel_rfl) trivial ⟨by rw [hP]; rfl, h46.frame⟩
    ·
      have hc43f : x.idx ≠ n := by simpa using hc43
      have hxn : x.idx ≠ n := hc43f
      refine wp_skip ?_
      refine hK28 _ _ ?_
      clear hK28
      refine nd_start (l := [0, 1]) rfl ?_
      refine nd_batch tabOk tabZ_ok [(0, {}), (1, {})] [6, 0, 1, 13, 14, 15] (T' := [(6, .pointer (some ⟨b32, 0, none⟩)), (0, .pointer (some ⟨bm, 0, none⟩)), (1, .int .i64 n), (13, .slice (some ⟨b19, 0, none⟩) lg.sns.length sc), (14, .int .i64 ((lg.sns.length : Nat) : Int)), (15, .int .i64 (((k : Nat) : Int) + 1))]) (φ := inR .i64 (((k : Nat) : Int) + 1) ∧ True) (rest := []) h42 (by kernel_rfl) rfl ⟨⟨by omega, by omega⟩, trivial⟩ fun a47 h48 => ?_
      clear h42
      refine nd_done ?_
      have h49 := h48.memMono (L' := [(bm, ⟨modC (.slice ao all.length ac) (.pointer (some ⟨bl, 0, none⟩)) pos live, 52, true⟩), (bl, ⟨logC lg.base (.slice eo lg.evs.length ec) (.slice mo lg.mks.length mc) (.slice (some ⟨b19, 0, none⟩) lg.sns.length sc), 69, true⟩)]) (List.Sublist.cons_cons _ (List.Sublist.cons_cons _ (List.Sublist.cons _ (List.Sublist.cons _ List.Sublist.slnil))))
      clear h48
      exact ⟨(g - 1), by omega, (k + 1), by omega, by omega, (by intro y hy; rw [Sx.take_snoc hx] at hy; rcases List.mem_append.1 hy with h1 | h1; exact hno y h1; simp at h1; subst h1; exact hxn), (h49.slotsMono (restr_spec (keep := [0, 1, 13, 14, 15]) rfl))⟩
  ·
    have hc18f : ¬ ((k : Nat) : Int) < ((lg.sns.length : Nat) : Int) := by simpa using hc18
    have h50 := h16.slotsMono (T' := [(0, .pointer (some ⟨bm, 0, none⟩)), (1, .int .i64 n)]) (restr_spec (keep := [0, 1]) rfl)
    clear h16
    have hkk : k = lg.sns.length := by omega
    subst hkk
    rw [List.take_length] at hno
    refine wp_exit ?_
    refine hK4 _ _ ?_
    clear hK4
    refine wp_seq_k fun K51 hK51 => ?_
    refine nd_start (l := [0, 1, 2, 3, 4, 5, 6, 7, 8, 9, 10]) rfl ?_
    refine nd_batch tabOk tabZ_ok [(0, {}), (1, {}), (2, {}), (3, {}), (4, {k := 0}), (5, {}), (6, {}), (7, {}), (8, {k := 1}), (9, {}), (10, {})] [0, 1, 4] (T' := [(0, .pointer (some ⟨bm, 0, none⟩)), (1, .int .i64 n), (4, .bool (n == lg.base.idx))]) (φ := (bm = bm ∧ Nat.ble (1 + 1) 4 = true) ∧ (bl = bl ∧ Nat.ble (0 + 1) 18 = true) ∧ True) (rest := []) h50 (by kernel_rfl) rfl ⟨⟨rfl, rfl⟩, ⟨rfl, rfl⟩, trivial⟩ fun a52 h53 => ?_
    clear h50
    refine nd_done ?_
    refine hK51 _ _ ?_
    clear hK51
    refine wp_ret ?_
    have hP : (lg.point n).isSome = (n == lg.base.idx) := by rw [Bool.eq_iff_iff, held_iff]; constructor; (rintro (⟨p, h1, h2⟩ | h1); exact absurd h2 (hno p h1); simpa using h1); (intro h1; exact .inr (by simpa using h1))
    try simp only [Exit.then, Exit.inBlock]
    try rw [if_pos trivial]
    exact s_ret tabOk tabZ_ok h53 [(.tmp 4, {})] (vs := [.bool (n == lg.base.idx)]) (φ := True) rfl (by kernel_rfl) trivial ⟨by rw [hP]; rfl, h53.frame⟩

theorem answer_ok (bm bl : Nat) (d : Hd) (a : Ah) (m : Md) (w : World) (hm : ModAt w bm bl d a m) (code n : Int) (hn0 : 0 ≤ n) (hn1 : n ≤ (m.all.length : Int)) (hev : ∀ e ∈ m.all, e.ok) (hal : m.all.length ≤ 1000000) :
    Calls Try.prog 42 #[.pointer (some ⟨bm, 0, none⟩), .int .u8 code, .int .i64 n] w fun e w' => e = .returned (.agg (resC (mans m code n)).toArray) ∧ Fr [] w w' := by
  obtain ⟨ao, ac, aF⟩ := a
  obtain ⟨eo, ec, eF, mo, mc, mF, so, sc, sF⟩ := d
  obtain ⟨all, lg, pos, live⟩ := m
  have hR := hm.rows
  have hne := hm.ne
  have hsA := hm.sepA
  have hsL := hm.sepL
  have hsR := hm.sepR
  have hm0 := hm
  obtain ⟨hblk, hrow, ⟨hbl, hA, hsep⟩, hnd⟩ := hm
  simp only at hblk hbl hR hsA hsL hsR
  simp only at hn1 hev hal ⊢
  have hcap : all.length ≤ ac := rl_cap hrow
  have hnl : n.toNat ≤ all.length := by omega
  have hlt : (all.take n.toNat).length = n.toNat := by rw [List.length_take]; omega
  have hmo : (stAt all n).1.ok := runF_ok _ _ mach0_ok (fun e he => hev e (List.mem_of_mem_take he))
  refine enter (n := 48) (K := []) (A := Rws [rl evC 33 3 all ao ac aF, rl evC 33 3 lg.evs eo ec eF, rl mkC 78 2 lg.mks mo mc mF, rl ptC 66 15 lg.sns so sc sF]) (F := Ff [rl evC 33 3 all ao ac aF, rl evC 33 3 lg.evs eo ec eF, rl mkC 78 2 lg.mks mo mc mF, rl ptC 66 15 lg.sns so sc sF]) (T := [(0, .pointer (some ⟨bm, 0, none⟩)), (1, .int .u8 code), (2, .int .i64 n)]) (L := [(bm, ⟨modC (.slice ao all.length ac) (.pointer (some ⟨bl, 0, none⟩)) pos live, 52, true⟩), (bl, ⟨logC lg.base (.slice eo lg.evs.length ec) (.slice mo lg.mks.length mc) (.slice so lg.sns.length sc), 69, true⟩)]) (args := [.pointer (some ⟨bm, 0, none⟩), .int .u8 code, .int .i64 n]) Try.func42 rfl rfl rfl rfl (kcons hblk (kcons hbl knil)) (by simp [hne]) (kcons (by intro hq; cases hq) (kcons (by intro hq; cases hq) knil)) hR Rws.stable (hR).low (kcons (by intro hq; cases hq) (kcons (by intro hq; cases hq) knil)) ?_
  intro a h
  refine wp_seq_k fun K1 hK1 => ?_
  refine nd_start (l := [0]) rfl ?_
  refine nd_op ?_
  refine op_new tabOk (cells := [.int .u8 0, .int .i64 0, .int .i64 0, .int .i64 0, .bool false, .bool false, .int .i8 0, .int .u64 0, .int .u64 0, .int .i64 0, .int .i64 0, .int .i64 0]) (ty := 41) (ln := none) (L1 := fun b2 => [(bm, ⟨modC (.slice ao all.length ac) (.pointer (some ⟨bl, 0, none⟩)) pos live, 52, true⟩), (bl, ⟨logC lg.base (.slice eo lg.evs.length ec) (.slice mo lg.mks.length mc) (.slice so lg.sns.length sc), 69, true⟩), (b2, ⟨[.int .u8 0, .int .i64 0, .int .i64 0, .int .i64 0, .bool false, .bool false, .int .i8 0, .int .u64 0, .int .u64 0, .int .i64 0, .int .i64 0, .int .i64 0], 41, false⟩)]) h rfl rfl rfl rfl (by kernel_rfl) (fun _ => rfl) fun b2 w3 a4 h5 hf6 hn7 => ?_
  clear h
  refine nd_done ?_
  refine hK1 _ _ ?_
  clear hK1
  refine wp_seq_k fun K8 hK8 => ?_
  refine nd_start (l := [0, 1, 2, 3, 4, 5, 6, 7, 8, 9, 10, 11, 12, 13]) rfl ?_
  refine nd_batch tabOk tabZ_ok [(0, {}), (1, {}), (2, {}), (3, {k := 0}), (4, {}), (5, {})] [6, 0, 1, 2, 15] (T' := [(6, .pointer (some ⟨b2, 0, none⟩)), (0, .pointer (some ⟨bm, 0, none⟩)), (1, .int .u8 code), (2, .int .i64 n), (15, .slice ao n.toNat ac)]) (φ := (bm = bm ∧ Nat.ble (0 + 1) 4 = true) ∧ (0 ≤ n ∧ n ≤ ((ac : Nat) : Int)) ∧ True) (rest := [6, 7, 8, 9, 10, 11, 12, 13]) h5 (by kernel_rfl) rfl ⟨⟨rfl, rfl⟩, ⟨by omega, by omega⟩, trivial⟩ fun a9 h10 => ?_
  clear h5
  refine nd_op ?_
  refine op_call h10 rfl rfl rfl (callOk Try.func14 (by decide) rfl) (args := [.slice ao n.toNat ac]) rfl ((by have hq := fold_ok (all.take n.toNat) ao ac aF _ (rws1 (rl_cut (h10.inv.get (j := 0) (r := rl evC 33 3 all ao ac aF) rfl) evC_len hnl)) (fun e he => hev e (List.mem_of_mem_take he)) (by rw [List.length_take]; omega); rw [hlt] at hq; exact hq)) ?_
  rintro _ w11 ⟨rfl, hf13⟩
  refine ⟨_, rfl, ?_⟩
  have h12 := (h10.grow hf13).put (d := some 16) (v := .tuple #[.agg #[.int .u64 ((stAt all n).1.now), .int .i8 ((stAt all n).1.cur), .int .u8 ((stAt all n).1.s0), .int .u8 ((stAt all n).1.s1), .int .u8 ((stAt all n).1.s2), .int .u8 ((stAt all n).1.s3), .int .u64 ((stAt all n).1.r0), .int .u64 ((stAt all n).1.r1), .int .u64 ((stAt all n).1.r2), .int .u64 ((stAt all n).1.r3), .int .u64 ((stAt all n).1.word)], .agg #[.bool ((stAt all n).2.refused), .int .i8 ((stAt all n).2.running), .int .u64 ((stAt all n).2.value)]]) (T' := [(16, .tuple #[.agg #[.int .u64 ((stAt all n).1.now), .int .i8 ((stAt all n).1.cur), .int .u8 ((stAt all n).1.s0), .int .u8 ((stAt all n).1.s1), .int .u8 ((stAt all n).1.s2), .int .u8 ((stAt all n).1.s3), .int .u64 ((stAt all n).1.r0), .int .u64 ((stAt all n).1.r1), .int .u64 ((stAt all n).1.r2), .int .u64 ((stAt all n).1.r3), .int .u64 ((stAt all n).1.word)], .agg #[.bool ((stAt all n).2.refused), .int .i8 ((stAt all n).2.running), .int .u64 ((stAt all n).2.value)]]), (6, .pointer (some ⟨b2, 0, none⟩)), (0, .pointer (some ⟨bm, 0, none⟩)), (1, .int .u8 code), (2, .int .i64 n), (15, .slice ao n.toNat ac)]) rfl
  clear h10
  refine nd_batch tabOk tabZ_ok [(7, {}), (8, {}), (9, {})] [6, 0, 1, 2, 17, 18] (T' := [(6, .pointer (some ⟨b2, 0, none⟩)), (0, .pointer (some ⟨bm, 0, none⟩)), (1, .int .u8 code), (2, .int .i64 n), (17, .agg #[.int .u64 ((stAt all n).1.now), .int .i8 ((stAt all n).1.cur), .int .u8 ((stAt all n).1.s0), .int .u8 ((stAt all n).1.s1), .int .u8 ((stAt all n).1.s2), .int .u8 ((stAt all n).1.s3), .int .u64 ((stAt all n).1.r0), .int .u64 ((stAt all n).1.r1), .int .u64 ((stAt all n).1.r2), .int .u64 ((stAt all n).1.r3), .int .u64 ((stAt all n).1.word)]), (18, .agg #[.bool ((stAt all n).2.refused), .int .i8 ((stAt all n).2.running), .int .u64 ((stAt all n).2.value)])]) (φ := True) (rest := [10, 11, 12, 13]) h12 (by kernel_rfl) rfl trivial fun a14 h15 => ?_
  clear h12
  refine nd_op ?_
  refine op_new tabOk (cells := [.int .u64 0, .int .i8 0, .int .u8 0, .int .u8 0, .int .u8 0, .int .u8 0, .int .u64 0, .int .u64 0, .int .u64 0, .int .u64 0, .int .u64 0]) (ty := 46) (ln := none) (L1 := fun b16 => [(bm, ⟨modC (.slice ao all.length ac) (.pointer (some ⟨bl, 0, none⟩)) pos live, 52, true⟩), (bl, ⟨logC lg.base (.slice eo lg.evs.length ec) (.slice mo lg.mks.length mc) (.slice so lg.sns.length sc), 69, true⟩), (b2, ⟨[.int .u8 0, .int .i64 0, .int .i64 0, .int .i64 0, .bool false, .bool false, .int .i8 0, .int .u64 0, .int .u64 0, .int .i64 0, .int .i64 0, .int .i64 0], 41, false⟩), (b16, ⟨[.int .u64 0, .int .i8 0, .int .u8 0, .int .u8 0, .int .u8 0, .int .u8 0, .int .u64 0, .int .u64 0, .int .u64 0, .int .u64 0, .int .u64 0], 46, false⟩)]) h15 rfl rfl rfl rfl (by kernel_rfl) (fun _ => rfl) fun b16 w17 a18 h19 hf20 hn21 => ?_
  clear h15
  refine nd_op ?_
  refine op_new tabOk (cells := [.bool false, .int .i8 0, .int .u64 0]) (ty := 39) (ln := none) (L1 := fun b22 => [(bm, ⟨modC (.slice ao all.length ac) (.pointer (some ⟨bl, 0, none⟩)) pos live, 52, true⟩), (bl, ⟨logC lg.base (.slice eo lg.evs.length ec) (.slice mo lg.mks.length mc) (.slice so lg.sns.length sc), 69, true⟩), (b2, ⟨[.int .u8 0, .int .i64 0, .int .i64 0, .int .i64 0, .bool false, .bool false, .int .i8 0, .int .u64 0, .int .u64 0, .int .i64 0, .int .i64 0, .int .i64 0], 41, false⟩), (b16, ⟨[.int .u64 0, .int .i8 0, .int .u8 0, .int .u8 0, .int .u8 0, .int .u8 0, .int .u64 0, .int .u64 0, .int .u64 0, .int .u64 0, .int .u64 0], 46, false⟩), (b22, ⟨[.bool false, .int .i8 0, .int .u64 0], 39, false⟩)]) h19 rfl rfl rfl rfl (by kernel_rfl) (fun _ => rfl) fun b22 w23 a24 h25 hf26 hn27 => ?_
  clear h19
  refine nd_op ?_
  refine op_store tabOk {k := 3} (L' := [(bm, ⟨modC (.slice ao all.length ac) (.pointer (some ⟨bl, 0, none⟩)) pos live, 52, true⟩), (bl, ⟨logC lg.base (.slice eo lg.evs.length ec) (.slice mo lg.mks.length mc) (.slice so lg.sns.length sc), 69, true⟩), (b2, ⟨[.int .u8 0, .int .i64 0, .int .i64 0, .int .i64 0, .bool false, .bool false, .int .i8 0, .int .u64 0, .int .u64 0, .int .i64 0, .int .i64 0, .int .i64 0], 41, false⟩), (b16, ⟨[.int .u64 ((stAt all n).1.now), .int .i8 ((stAt all n).1.cur), .int .u8 ((stAt all n).1.s0), .int .u8 ((stAt all n).1.s1), .int .u8 ((stAt all n).1.s2), .int .u8 ((stAt all n).1.s3), .int .u64 ((stAt all n).1.r0), .int .u64 ((stAt all n).1.r1), .int .u64 ((stAt all n).1.r2), .int .u64 ((stAt all n).1.r3), .int .u64 ((stAt all n).1.word)], 46, false⟩), (b22, ⟨[.bool false, .int .i8 0, .int .u64 0], 39, false⟩)]) (φ := b16 = b16 ∧ Nat.ble (0 + 11) 11 = true) h25 rfl rfl rfl (by kernel_rfl) ⟨rfl, rfl⟩ fun w28 h29 => ?_
  clear h25
  refine nd_op ?_
  refine op_store tabOk {k := 4} (L' := [(bm, ⟨modC (.slice ao all.length ac) (.pointer (some ⟨bl, 0, none⟩)) pos live, 52, true⟩), (bl, ⟨logC lg.base (.slice eo lg.evs.length ec) (.slice mo lg.mks.length mc) (.slice so lg.sns.length sc), 69, true⟩), (b2, ⟨[.int .u8 0, .int .i64 0, .int .i64 0, .int .i64 0, .bool false, .bool false, .int .i8 0, .int .u64 0, .int .u64 0, .int .i64 0, .int .i64 0, .int .i64 0], 41, false⟩), (b16, ⟨[.int .u64 ((stAt all n).1.now), .int .i8 ((stAt all n).1.cur), .int .u8 ((stAt all n).1.s0), .int .u8 ((stAt all n).1.s1), .int .u8 ((stAt all n).1.s2), .int .u8 ((stAt all n).1.s3), .int .u64 ((stAt all n).1.r0), .int .u64 ((stAt all n).1.r1), .int .u64 ((stAt all n).1.r2), .int .u64 ((stAt all n).1.r3), .int .u64 ((stAt all n).1.word)], 46, false⟩), (b22, ⟨[.bool ((stAt all n).2.refused), .int .i8 ((stAt all n).2.running), .int .u64 ((stAt all n).2.value)], 39, false⟩)]) (φ := b22 = b22 ∧ Nat.ble (0 + 3) 3 = true) h29 rfl rfl rfl (by kernel_rfl) ⟨rfl, rfl⟩ fun w30 h31 => ?_
  clear h29
  refine nd_done ?_
  refine hK8 _ _ ?_
  clear hK8
  refine wp_seq_k fun K32 hK32 => ?_
  refine dr_start (KB := [bm, bl, b2, b16, b22]) (Bi := [[0, 1, 2, 3, 4], [0, 1, 2, 3, 4], [0, 1, 2, 3, 4], [0, 1, 2, 3, 4], [0, 1, 2, 3, 4], [0, 1, 2, 3, 4], [0, 1, 2, 3, 4], [0, 1, 2, 3, 4], [0, 1, 2, 3, 4], [0, 1, 2, 3, 4], [0, 1, 2, 3, 4], [0, 1, 2, 3, 4], [0, 1, 2, 3, 4], [0, 1, 2, 3, 4], [0, 1, 2, 3, 4], [0, 1, 2, 3, 4], [0, 1, 2, 3, 4], [0, 1, 2, 3, 4], [0, 1, 2, 3, 4], [0, 1, 2, 3, 4], [0, 1, 2, 3, 4], [0, 1, 2, 3, 4], [0, 1, 2, 3, 4], [0, 1, 4], [0, 1, 2, 3, 4], [0, 1, 2, 3, 4], [0, 1, 2, 3, 4], [0, 1, 2, 3, 4], [0, 1, 2, 3, 4], []]) mixed h31 fun w33 h34 => ?_
  clear h31
  refine dr_batch tabOk tabZ_ok (by repeat (first | exact PF.body | with_reducible apply PF.inB | with_reducible apply PF.next)) [(0, {}), (1, {}), (2, {}), (3, {}), (4, {k := 0, p := 0}), (5, {}), (6, {}), (7, {}), (8, {k := 0, p := 0}), (9, {}), (10, {}), (11, {}), (12, {k := 1, p := 1}), (13, {}), (14, {}), (15, {}), (16, {k := 0, p := 0}), (17, {}), (18, {}), (19, {}), (20, {}), (21, {k := 0, p := 0}), (22, {k := 4, p := 4}), (24, {}), (25, {}), (26, {}), (27, {k := 0, p := 0})] [8, 7, 6, 0, 1, 2, 19, 23, 31, 36, 40, 41, 46] (T' := [(8, .pointer (some ⟨b22, 0, none⟩)), (7, .pointer (some ⟨b16, 0, none⟩)), (6, .pointer (some ⟨b2, 0, none⟩)), (0, .pointer (some ⟨bm, 0, none⟩)), (1, .int .u8 code), (2, .int .i64 n), (19, .int .u8 code), (23, .int .i64 pos), (31, .int .i64 lg.base.idx), (36, .int .i64 ((all.length : Nat) : Int)), (40, .bool live), (41, .agg #[.bool ((stAt all n).2.refused), .int .i8 ((stAt all n).2.running), .int .u64 ((stAt all n).2.value)]), (46, .int .i64 pos)]) (φ := (bm = bm ∧ Nat.ble (2 + 1) 4 = true) ∧ (bm = bm ∧ Nat.ble (1 + 1) 4 = true) ∧ (bl = bl ∧ Nat.ble (0 + 1) 18 = true) ∧ (bm = bm ∧ Nat.ble (0 + 1) 4 = true) ∧ (bm = bm ∧ Nat.ble (3 + 1) 4 = true) ∧ (b22 = b22 ∧ Nat.ble (0 + 3) 3 = true) ∧ (bm = bm ∧ Nat.ble (2 + 1) 4 = true) ∧ True) (fuel := 3) h34 (by kernel_rfl) rfl (by kernel_rfl) (by kernel_rfl) ⟨trivial, trivial, trivial, trivial, rfl, trivial, trivial, trivial, rfl, trivial, trivial, trivial, rfl, trivial, trivial, trivial, rfl, trivial, trivial, trivial, trivial, rfl, rfl, trivial, trivial, trivial, rfl, trivial⟩ ⟨⟨rfl, rfl⟩, ⟨rfl, rfl⟩, ⟨rfl, rfl⟩, ⟨rfl, rfl⟩, ⟨rfl, rfl⟩, ⟨rfl, rfl⟩, ⟨rfl, rfl⟩, trivial⟩ fun a36 h37 => ?_
  clear h34
  refine wpAnyK_one (i := 23) (fuel := 2) (by kernel_rfl) ?_
  refine op_call h37 rfl rfl rfl (callOk Try.func52 (by decide) rfl) (args := [.pointer (some ⟨b16, 0, none⟩)]) rfl (digest_ok [] [] (stAt all n).1 hmo b16 46 false _ (h37.kn (k := 3) (blk := ⟨machC (stAt all n).1, 46, false⟩) rfl)) ?_
  rintro _ w38 ⟨rfl, hf40⟩
  refine ⟨_, rfl, ?_⟩
  have h39 := (h37.grow hf40).put (d := some 42) (v := .int .u64 (dig (stAt all n).1)) (T' := [(42, .int .u64 (dig (stAt all n).1)), (8, .pointer (some ⟨b22, 0, none⟩)), (7, .pointer (some ⟨b16, 0, none⟩)), (6, .pointer (some ⟨b2, 0, none⟩)), (0, .pointer (some ⟨bm, 0, none⟩)), (1, .int .u8 code), (2, .int .i64 n), (19, .int .u8 code), (23, .int .i64 pos), (31, .int .i64 lg.base.idx), (36, .int .i64 ((all.length : Nat) : Int)), (40, .bool live), (41, .agg #[.bool ((stAt all n).2.refused), .int .i8 ((stAt all n).2.running), .int .u64 ((stAt all n).2.value)]), (46, .int .i64 pos)]) rfl
  refine ⟨(h37.keepFr hf40 (kcons (by simp) (kcons (by simp) (kcons (by simp) knil)))), ?_⟩
  clear h37
  refine dr_batch tabOk tabZ_ok (by repeat (first | exact PF.body | with_reducible apply PF.inB | with_reducible apply PF.next)) [(28, {})] [8, 7, 6, 0, 1, 2, 47] (T' := [(8, .pointer (some ⟨b22, 0, none⟩)), (7, .pointer (some ⟨b16, 0, none⟩)), (6, .pointer (some ⟨b2, 0, none⟩)), (0, .pointer (some ⟨bm, 0, none⟩)), (1, .int .u8 code), (2, .int .i64 n), (47, .agg #[.int .u8 code, .int .i64 pos, .int .i64 lg.base.idx, .int .i64 ((all.length : Nat) : Int), .bool live, .bool ((stAt all n).2.refused), .int .i8 ((stAt all n).2.running), .int .u64 ((stAt all n).2.value), .int .u64 (dig (stAt all n).1), .int .i64 pos, .int .i64 0, .int .i64 (-1)])]) (φ := True) (fuel := 1) h39 (by kernel_rfl) rfl (by kernel_rfl) (by kernel_rfl) ⟨trivial, trivial⟩ trivial fun a41 h42 => ?_
  clear h39
  refine wpAnyK_one (i := 29) (fuel := 0) (by kernel_rfl) ?_
  refine op_store tabOk {k := 2} (L' := [(bm, ⟨modC (.slice ao all.length ac) (.pointer (some ⟨bl, 0, none⟩)) pos live, 52, true⟩), (bl, ⟨logC lg.base (.slice eo lg.evs.length ec) (.slice mo lg.mks.length mc) (.slice so lg.sns.length sc), 69, true⟩), (b2, ⟨[.int .u8 code, .int .i64 pos, .int .i64 lg.base.idx, .int .i64 ((all.length : Nat) : Int), .bool live, .bool ((stAt all n).2.refused), .int .i8 ((stAt all n).2.running), .int .u64 ((stAt all n).2.value), .int .u64 (dig (stAt all n).1), .int .i64 pos, .int .i64 0, .int .i64 (-1)], 41, false⟩), (b16, ⟨[.int .u64 ((stAt all n).1.now), .int .i8 ((stAt all n).1.cur), .int .u8 ((stAt all n).1.s0), .int .u8 ((stAt all n).1.s1), .int .u8 ((stAt all n).1.s2), .int .u8 ((stAt all n).1.s3), .int .u64 ((stAt all n).1.r0), .int .u64 ((stAt all n).1.r1), .int .u64 ((stAt all n).1.r2), .int .u64 ((stAt all n).1.r3), .int .u64 ((stAt all n).1.word)], 46, false⟩), (b22, ⟨[.bool ((stAt all n).2.refused), .int .i8 ((stAt all n).2.running), .int .u64 ((stAt all n).2.value)], 39, false⟩)]) (φ := b2 = b2 ∧ Nat.ble (0 + 12) 12 = true) h42 rfl rfl rfl (by kernel_rfl) ⟨rfl, rfl⟩ fun w43 h44 => ?_
  have hkh44 := h42.known
  refine ⟨keepNil, ?_⟩
  clear h42
  refine wpAnyK_done (by kernel_rfl) ?_ _
  refine hK32 _ _ ?_
  clear hK32
  refine wp_ret ?_
  try simp only [Exit.then, Exit.inBlock]
  try rw [if_pos trivial]
  exact s_ret tabOk tabZ_ok h44 [(.cell 6 41, {k := 2})] (vs := [.agg #[.int .u8 code, .int .i64 pos, .int .i64 lg.base.idx, .int .i64 ((all.length : Nat) : Int), .bool live, .bool ((stAt all n).2.refused), .int .i8 ((stAt all n).2.running), .int .u64 ((stAt all n).2.value), .int .u64 (dig (stAt all n).1), .int .i64 pos, .int .i64 0, .int .i64 (-1)]]) (φ := (b2 = b2 ∧ Nat.ble (0 + 12) 12 = true) ∧ True) rfl (by kernel_rfl) ⟨⟨rfl, rfl⟩, trivial⟩ ⟨rfl, h44.frame⟩

theorem refuse_ok (bm bl : Nat) (d : Hd) (a : Ah) (m : Md) (w : World) (hm : ModAt w bm bl d a m) (code : Int) (hp0 : 0 ≤ m.pos) (hp1 : m.pos ≤ (m.all.length : Int)) (hev : ∀ e ∈ m.all, e.ok) (hal : m.all.length ≤ 1000000) :
    Calls Try.prog 40 #[.pointer (some ⟨bm, 0, none⟩), .int .u8 code] w fun e w' => e = .returned (.agg (resC (mans m code m.pos)).toArray) ∧ Fr [] w w' := by
  obtain ⟨ao, ac, aF⟩ := a
  obtain ⟨eo, ec, eF, mo, mc, mF, so, sc, sF⟩ := d
  obtain ⟨all, lg, pos, live⟩ := m
  have hR := hm.rows
  have hne := hm.ne
  have hsA := hm.sepA
  have hsL := hm.sepL
  have hsR := hm.sepR
  have hm0 := hm
  obtain ⟨hblk, hrow, ⟨hbl, hA, hsep⟩, hnd⟩ := hm
  simp only at hblk hbl hR hsA hsL hsR
  simp only at hp0 hp1 hev hal ⊢
  refine enter0 (n := 12) (K := []) (T := [(0, .pointer (some ⟨bm, 0, none⟩)), (1, .int .u8 code)]) (L := [(bm, ⟨modC (.slice ao all.length ac) (.pointer (some ⟨bl, 0, none⟩)) pos live, 52, true⟩)]) (args := [.pointer (some ⟨bm, 0, none⟩), .int .u8 code]) Try.func40 rfl rfl rfl rfl (kcons hblk knil) (by simp) (kcons (by intro hq; cases hq) knil) ?_
  intro a h
  refine wp_seq_k fun K1 hK1 => ?_
  refine nd_start (l := [0]) rfl ?_
  refine nd_op ?_
  refine op_new tabOk (cells := [.int .u8 0, .int .i64 0, .int .i64 0, .int .i64 0, .bool false, .bool false, .int .i8 0, .int .u64 0, .int .u64 0, .int .i64 0, .int .i64 0, .int .i64 0]) (ty := 41) (ln := none) (L1 := fun b2 => [(bm, ⟨modC (.slice ao all.length ac) (.pointer (some ⟨bl, 0, none⟩)) pos live, 52, true⟩), (b2, ⟨[.int .u8 0, .int .i64 0, .int .i64 0, .int .i64 0, .bool false, .bool false, .int .i8 0, .int .u64 0, .int .u64 0, .int .i64 0, .int .i64 0, .int .i64 0], 41, false⟩)]) h rfl rfl rfl rfl (by kernel_rfl) (fun _ => rfl) fun b2 w3 a4 h5 hf6 hn7 => ?_
  clear h
  refine nd_done ?_
  refine hK1 _ _ ?_
  clear hK1
  refine wp_seq_k fun K8 hK8 => ?_
  refine nd_start (l := [0, 1, 2, 3, 4, 5, 6, 7]) rfl ?_
  refine nd_batch tabOk tabZ_ok [(0, {}), (1, {}), (2, {}), (3, {}), (4, {}), (5, {k := 0})] [4, 0, 1, 5, 6, 10] (T' := [(4, .pointer (some ⟨b2, 0, none⟩)), (0, .pointer (some ⟨bm, 0, none⟩)), (1, .int .u8 code), (5, .pointer (some ⟨bm, 0, none⟩)), (6, .int .u8 code), (10, .int .i64 pos)]) (φ := (bm = bm ∧ Nat.ble (2 + 1) 4 = true) ∧ True) (rest := [6, 7]) h5 (by kernel_rfl) rfl ⟨⟨rfl, rfl⟩, trivial⟩ fun a9 h10 => ?_
  clear h5
  refine nd_op ?_
  refine op_call h10 rfl rfl rfl (callOk Try.func42 (by decide) rfl) (args := [.pointer (some ⟨bm, 0, none⟩), .int .u8 code, .int .i64 pos]) rfl (answer_ok bm bl _ _ _ _ (hm0.fr h10.frame) code pos hp0 hp1 hev hal) ?_
  rintro _ w11 ⟨rfl, hf13⟩
  refine ⟨_, rfl, ?_⟩
  have h12 := (h10.grow hf13).put (d := some 11) (v := .agg #[.int .u8 code, .int .i64 pos, .int .i64 lg.base.idx, .int .i64 ((all.length : Nat) : Int), .bool live, .bool ((stAt all pos).2.refused), .int .i8 ((stAt all pos).2.running), .int .u64 ((stAt all pos).2.value), .int .u64 (dig (stAt all pos).1), .int .i64 pos, .int .i64 0, .int .i64 (-1)]) (T' := [(11, .agg #[.int .u8 code, .int .i64 pos, .int .i64 lg.base.idx, .int .i64 ((all.length : Nat) : Int), .bool live, .bool ((stAt all pos).2.refused), .int .i8 ((stAt all pos).2.running), .int .u64 ((stAt all pos).2.value), .int .u64 (dig (stAt all pos).1), .int .i64 pos, .int .i64 0, .int .i64 (-1)]), (4, .pointer (some ⟨b2, 0, none⟩)), (0, .pointer (some ⟨bm, 0, none⟩)), (1, .int .u8 code), (5, .pointer (some ⟨bm, 0, none⟩)), (6, .int .u8 code), (10, .int .i64 pos)]) rfl
  clear h10
  refine nd_op ?_
  refine op_store tabOk {k := 1} (L' := [(bm, ⟨modC (.slice ao all.length ac) (.pointer (some ⟨bl, 0, none⟩)) pos live, 52, true⟩), (b2, ⟨[.int .u8 code, .int .i64 pos, .int .i64 lg.base.idx, .int .i64 ((all.length : Nat) : Int), .bool live, .bool ((stAt all pos).2.refused), .int .i8 ((stAt all pos).2.running), .int .u64 ((stAt all pos).2.value), .int .u64 (dig (stAt all pos).1), .int .i64 pos, .int .i64 0, .int .i64 (-1)], 41, false⟩)]) (φ := b2 = b2 ∧ Nat.ble (0 + 12) 12 = true) h12 rfl rfl rfl (by kernel_rfl) ⟨rfl, rfl⟩ fun w14 h15 => ?_
  clear h12
  refine nd_done ?_
  refine hK8 _ _ ?_
  clear hK8
  refine wp_ret ?_
  try simp only [Exit.then, Exit.inBlock]
  try rw [if_pos trivial]
  exact s_ret tabOk tabZ_ok h15 [(.cell 4 41, {k := 1})] (vs := [.agg #[.int .u8 code, .int .i64 pos, .int .i64 lg.base.idx, .int .i64 ((all.length : Nat) : Int), .bool live, .bool ((stAt all pos).2.refused), .int .i8 ((stAt all pos).2.running), .int .u64 ((stAt all pos).2.value), .int .u64 (dig (stAt all pos).1), .int .i64 pos, .int .i64 0, .int .i64 (-1)]]) (φ := (b2 = b2 ∧ Nat.ble (0 + 12) 12 = true) ∧ True) rfl (by kernel_rfl) ⟨⟨rfl, rfl⟩, trivial⟩ ⟨rfl, h15.frame⟩

theorem move_ok (bm bl : Nat) (d : Hd) (a : Ah) (m : Md) (w : World) (hm : ModAt w bm bl d a m) (n f : Int) (hn0 : 0 ≤ n) (hn1 : n ≤ (m.all.length : Int)) (hf0 : 0 ≤ f) (hf1 : f ≤ n) (hev : ∀ e ∈ m.all, e.ok) (hal : m.all.length ≤ 1000000) :
    Calls Try.prog 44 #[.pointer (some ⟨bm, 0, none⟩), .int .i64 n, .int .i64 f] w fun e w' => e = .returned (.agg (resC (mmove m n f).1).toArray) ∧ ModAt w' bm bl d a (mmove m n f).2 ∧ Fr [bm] w w' := by
  obtain ⟨ao, ac, aF⟩ := a
  obtain ⟨eo, ec, eF, mo, mc, mF, so, sc, sF⟩ := d
  obtain ⟨all, lg, pos, live⟩ := m
  have hR := hm.rows
  have hne := hm.ne
  have hsA := hm.sepA
  have hsL := hm.sepL
  have hsR := hm.sepR
  have hm0 := hm
  obtain ⟨hblk, hrow, ⟨hbl, hA, hsep⟩, hnd⟩ := hm
  simp only at hblk hbl hR hsA hsL hsR
  simp only at hn1 hev hal ⊢
  refine enter0 (n := 25) (K := [bm]) (T := [(0, .pointer (some ⟨bm, 0, none⟩)), (1, .int .i64 n), (2, .int .i64 f)]) (L := [(bm, ⟨modC (.slice ao all.length ac) (.pointer (some ⟨bl, 0, none⟩)) pos live, 52, false⟩)]) (args := [.pointer (some ⟨bm, 0, none⟩), .int .i64 n, .int .i64 f]) Try.func44 rfl rfl rfl rfl (kcons hblk knil) (by simp) (kcons (by simp) knil) ?_
  intro a h
  refine wp_seq_k fun K1 hK1 => ?_
  refine nd_start (l := [0]) rfl ?_
  refine nd_op ?_
  refine op_new tabOk (cells := [.int .u8 0, .int .i64 0, .int .i64 0, .int .i64 0, .bool false, .bool false, .int .i8 0, .int .u64 0, .int .u64 0, .int .i64 0, .int .i64 0, .int .i64 0]) (ty := 41) (ln := none) (L1 := fun b2 => [(bm, ⟨modC (.slice ao all.length ac) (.pointer (some ⟨bl, 0, none⟩)) pos live, 52, false⟩), (b2, ⟨[.int .u8 0, .int .i64 0, .int .i64 0, .int .i64 0, .bool false, .bool false, .int .i8 0, .int .u64 0, .int .u64 0, .int .i64 0, .int .i64 0, .int .i64 0], 41, false⟩)]) h rfl rfl rfl rfl (by kernel_rfl) (fun _ => rfl) fun b2 w3 a4 h5 hf6 hn7 => ?_
  clear h
  refine nd_done ?_
  refine hK1 _ _ ?_
  clear hK1
  refine wp_seq_k fun K8 hK8 => ?_
  refine nd_start (l := [0, 1, 2, 3, 4, 5, 6, 7, 8]) rfl ?_
  refine nd_batch tabOk tabZ_ok [(0, {}), (1, {}), (2, {}), (3, {}), (4, {})] [6, 0, 1, 2, 9, 10, 12] (T' := [(6, .pointer (some ⟨b2, 0, none⟩)), (0, .pointer (some ⟨bm, 0, none⟩)), (1, .int .i64 n), (2, .int .i64 f), (9, .pointer (some ⟨bm, 0, none⟩)), (10, .int .i64 n), (12, .pointer (some ⟨bm, 2, none⟩))]) (φ := True) (rest := [5, 6, 7, 8]) h5 (by kernel_rfl) rfl trivial fun a9 h10 => ?_
  clear h5
  refine nd_op ?_
  refine op_store tabOk {k := 0} (L' := [(bm, ⟨[.slice ao all.length ac, .pointer (some ⟨bl, 0, none⟩), .int .i64 n, .bool live], 52, false⟩), (b2, ⟨[.int .u8 0, .int .i64 0, .int .i64 0, .int .i64 0, .bool false, .bool false, .int .i8 0, .int .u64 0, .int .u64 0, .int .i64 0, .int .i64 0, .int .i64 0], 41, false⟩)]) (φ := bm = bm ∧ Nat.ble (2 + 1) 4 = true) h10 rfl rfl rfl (by kernel_rfl) ⟨rfl, rfl⟩ fun w11 h12 => ?_
  clear h10
  refine nd_batch tabOk tabZ_ok [(6, {}), (7, {})] [6, 0, 1, 2, 14] (T' := [(6, .pointer (some ⟨b2, 0, none⟩)), (0, .pointer (some ⟨bm, 0, none⟩)), (1, .int .i64 n), (2, .int .i64 f), (14, .pointer (some ⟨bm, 3, none⟩))]) (φ := True) (rest := [8]) h12 (by kernel_rfl) rfl trivial fun a13 h14 => ?_
  clear h12
  refine nd_op ?_
  refine op_store tabOk {k := 0} (L' := [(bm, ⟨[.slice ao all.length ac, .pointer (some ⟨bl, 0, none⟩), .int .i64 n, .bool false], 52, false⟩), (b2, ⟨[.int .u8 0, .int .i64 0, .int .i64 0, .int .i64 0, .bool false, .bool false, .int .i8 0, .int .u64 0, .int .u64 0, .int .i64 0, .int .i64 0, .int .i64 0], 41, false⟩)]) (φ := bm = bm ∧ Nat.ble (3 + 1) 4 = true) h14 rfl rfl rfl (by kernel_rfl) ⟨rfl, rfl⟩ fun w15 h16 => ?_
  clear h14
  refine nd_done ?_
  refine hK8 _ _ ?_
  clear hK8
  refine wp_seq_k fun K17 hK17 => ?_
  refine nd_start (l := [0, 1, 2, 3, 4]) rfl ?_
  refine nd_batch tabOk tabZ_ok [(0, {}), (1, {})] [6, 0, 1, 2, 15, 16] (T' := [(6, .pointer (some ⟨b2, 0, none⟩)), (0, .pointer (some ⟨bm, 0, none⟩)), (1, .int .i64 n), (2, .int .i64 f), (15, .pointer (some ⟨bm, 0, none⟩)), (16, .int .i64 n)]) (φ := True) (rest := [2, 3, 4]) h16 (by kernel_rfl) rfl trivial fun a18 h19 => ?_
  clear h16
  refine nd_op ?_
  refine op_call h19 rfl rfl rfl (callOk Try.func42 (by decide) rfl) (args := [.pointer (some ⟨bm, 0, none⟩), .int .u8 0, .int .i64 n]) rfl (answer_ok bm bl _ _ _ _ (hm0.turn h19.frame (pos := n) (live := false) (h19.kn (k := 0) (blk := ⟨modC (.slice ao all.length ac) (.pointer (some ⟨bl, 0, none⟩)) n false, 52, false⟩) rfl)) 0 n hn0 hn1 hev hal) ?_
  rintro _ w20 ⟨rfl, hf22⟩
  refine ⟨_, rfl, ?_⟩
  have h21 := (h19.grow hf22).put (d := some 17) (v := .agg #[.int .u8 0, .int .i64 n, .int .i64 lg.base.idx, .int .i64 ((all.length : Nat) : Int), .bool false, .bool ((stAt all n).2.refused), .int .i8 ((stAt all n).2.running), .int .u64 ((stAt all n).2.value), .int .u64 (dig (stAt all n).1), .int .i64 n, .int .i64 0, .int .i64 (-1)]) (T' := [(17, .agg #[.int .u8 0, .int .i64 n, .int .i64 lg.base.idx, .int .i64 ((all.length : Nat) : Int), .bool false, .bool ((stAt all n).2.refused), .int .i8 ((stAt all n).2.running), .int .u64 ((stAt all n).2.value), .int .u64 (dig (stAt all n).1), .int .i64 n, .int .i64 0, .int .i64 (-1)]), (6, .pointer (some ⟨b2, 0, none⟩)), (0, .pointer (some ⟨bm, 0, none⟩)), (1, .int .i64 n), (2, .int .i64 f), (15, .pointer (some ⟨bm, 0, none⟩)), (16, .int .i64 n)]) rfl
  clear h19
  refine nd_op ?_
  refine op_new tabOk (cells := [.int .u8 0, .int .i64 0, .int .i64 0, .int .i64 0, .bool false, .bool false, .int .i8 0, .int .u64 0, .int .u64 0, .int .i64 0, .int .i64 0, .int .i64 0]) (ty := 41) (ln := none) (L1 := fun b23 => [(bm, ⟨[.slice ao all.length ac, .pointer (some ⟨bl, 0, none⟩), .int .i64 n, .bool false], 52, false⟩), (b2, ⟨[.int .u8 0, .int .i64 0, .int .i64 0, .int .i64 0, .bool false, .bool false, .int .i8 0, .int .u64 0, .int .u64 0, .int .i64 0, .int .i64 0, .int .i64 0], 41, false⟩), (b23, ⟨[.int .u8 0, .int .i64 0, .int .i64 0, .int .i64 0, .bool false, .bool false, .int .i8 0, .int .u64 0, .int .u64 0, .int .i64 0, .int .i64 0, .int .i64 0], 41, false⟩)]) h21 rfl rfl rfl rfl (by kernel_rfl) (fun _ => rfl) fun b23 w24 a25 h26 hf27 hn28 => ?_
  clear h21
  refine nd_op ?_
  refine op_store tabOk {k := 2} (L' := [(bm, ⟨[.slice ao all.length ac, .pointer (some ⟨bl, 0, none⟩), .int .i64 n, .bool false], 52, false⟩), (b2, ⟨[.int .u8 0, .int .i64 0, .int .i64 0, .int .i64 0, .bool false, .bool false, .int .i8 0, .int .u64 0, .int .u64 0, .int .i64 0, .int .i64 0, .int .i64 0], 41, false⟩), (b23, ⟨[.int .u8 0, .int .i64 n, .int .i64 lg.base.idx, .int .i64 ((all.length : Nat) : Int), .bool false, .bool ((stAt all n).2.refused), .int .i8 ((stAt all n).2.running), .int .u64 ((stAt all n).2.value), .int .u64 (dig (stAt all n).1), .int .i64 n, .int .i64 0, .int .i64 (-1)], 41, false⟩)]) (φ := b23 = b23 ∧ Nat.ble (0 + 12) 12 = true) h26 rfl rfl rfl (by kernel_rfl) ⟨rfl, rfl⟩ fun w29 h30 => ?_
  clear h26
  refine nd_done ?_
  refine hK17 _ _ ?_
  clear hK17
  refine wp_seq_k fun K31 hK31 => ?_
  refine nd_start (l := [0, 1, 2, 3, 4, 5, 6, 7]) rfl ?_
  refine nd_batch tabOk tabZ_ok [(0, {}), (1, {}), (2, {}), (3, {}), (4, {})] [7, 6, 0, 1, 2, 18, 21, 22] (T' := [(7, .pointer (some ⟨b23, 0, none⟩)), (6, .pointer (some ⟨b2, 0, none⟩)), (0, .pointer (some ⟨bm, 0, none⟩)), (1, .int .i64 n), (2, .int .i64 f), (18, .int .i64 f), (21, .int .i64 (n - f)), (22, .pointer (some ⟨b23, 9, none⟩))]) (φ := inR .i64 (n - f) ∧ True) (rest := [5, 6, 7]) h30 (by kernel_rfl) rfl ⟨⟨by omega, by omega⟩, trivial⟩ fun a32 h33 => ?_
  clear h30
  refine nd_op ?_
  refine op_store tabOk {k := 2} (L' := [(bm, ⟨[.slice ao all.length ac, .pointer (some ⟨bl, 0, none⟩), .int .i64 n, .bool false], 52, false⟩), (b2, ⟨[.int .u8 0, .int .i64 0, .int .i64 0, .int .i64 0, .bool false, .bool false, .int .i8 0, .int .u64 0, .int .u64 0, .int .i64 0, .int .i64 0, .int .i64 0], 41, false⟩), (b23, ⟨[.int .u8 0, .int .i64 n, .int .i64 lg.base.idx, .int .i64 ((all.length : Nat) : Int), .bool false, .bool ((stAt all n).2.refused), .int .i8 ((stAt all n).2.running), .int .u64 ((stAt all n).2.value), .int .u64 (dig (stAt all n).1), .int .i64 f, .int .i64 0, .int .i64 (-1)], 41, false⟩)]) (φ := b23 = b23 ∧ Nat.ble (9 + 1) 12 = true) h33 rfl rfl rfl (by kernel_rfl) ⟨rfl, rfl⟩ fun w34 h35 => ?_
  clear h33
  refine nd_batch tabOk tabZ_ok [(6, {})] [7, 6, 0, 1, 2, 21, 23] (T' := [(7, .pointer (some ⟨b23, 0, none⟩)), (6, .pointer (some ⟨b2, 0, none⟩)), (0, .pointer (some ⟨bm, 0, none⟩)), (1, .int .i64 n), (2, .int .i64 f), (21, .int .i64 (n - f)), (23, .pointer (some ⟨b23, 10, none⟩))]) (φ := True) (rest := [7]) h35 (by kernel_rfl) rfl trivial fun a36 h37 => ?_
  clear h35
  refine nd_op ?_
  refine op_store tabOk {k := 2} (L' := [(bm, ⟨[.slice ao all.length ac, .pointer (some ⟨bl, 0, none⟩), .int .i64 n, .bool false], 52, false⟩), (b2, ⟨[.int .u8 0, .int .i64 0, .int .i64 0, .int .i64 0, .bool false, .bool false, .int .i8 0, .int .u64 0, .int .u64 0, .int .i64 0, .int .i64 0, .int .i64 0], 41, false⟩), (b23, ⟨[.int .u8 0, .int .i64 n, .int .i64 lg.base.idx, .int .i64 ((all.length : Nat) : Int), .bool false, .bool ((stAt all n).2.refused), .int .i8 ((stAt all n).2.running), .int .u64 ((stAt all n).2.value), .int .u64 (dig (stAt all n).1), .int .i64 f, .int .i64 (n - f), .int .i64 (-1)], 41, false⟩)]) (φ := b23 = b23 ∧ Nat.ble (10 + 1) 12 = true) h37 rfl rfl rfl (by kernel_rfl) ⟨rfl, rfl⟩ fun w38 h39 => ?_
  clear h37
  refine nd_done ?_
  refine hK31 _ _ ?_
  clear hK31
  refine wp_seq_k fun K40 hK40 => ?_
  refine nd_start (l := [0, 1]) rfl ?_
  refine nd_batch tabOk tabZ_ok [(0, {k := 2})] [7, 6, 0, 1, 2, 24] (T' := [(7, .pointer (some ⟨b23, 0, none⟩)), (6, .pointer (some ⟨b2, 0, none⟩)), (0, .pointer (some ⟨bm, 0, none⟩)), (1, .int .i64 n), (2, .int .i64 f), (24, .agg #[.int .u8 0, .int .i64 n, .int .i64 lg.base.idx, .int .i64 ((all.length : Nat) : Int), .bool false, .bool ((stAt all n).2.refused), .int .i8 ((stAt all n).2.running), .int .u64 ((stAt all n).2.value), .int .u64 (dig (stAt all n).1), .int .i64 f, .int .i64 (n - f), .int .i64 (-1)])]) (φ := (b23 = b23 ∧ Nat.ble (0 + 12) 12 = true) ∧ True) (rest := [1]) h39 (by kernel_rfl) rfl ⟨⟨rfl, rfl⟩, trivial⟩ fun a41 h42 => ?_
  clear h39
  refine nd_op ?_
  refine op_store tabOk {k := 1} (L' := [(bm, ⟨[.slice ao all.length ac, .pointer (some ⟨bl, 0, none⟩), .int .i64 n, .bool false], 52, false⟩), (b2, ⟨[.int .u8 0, .int .i64 n, .int .i64 lg.base.idx, .int .i64 ((all.length : Nat) : Int), .bool false, .bool ((stAt all n).2.refused), .int .i8 ((stAt all n).2.running), .int .u64 ((stAt all n).2.value), .int .u64 (dig (stAt all n).1), .int .i64 f, .int .i64 (n - f), .int .i64 (-1)], 41, false⟩), (b23, ⟨[.int .u8 0, .int .i64 n, .int .i64 lg.base.idx, .int .i64 ((all.length : Nat) : Int), .bool false, .bool ((stAt all n).2.refused), .int .i8 ((stAt all n).2.running), .int .u64 ((stAt all n).2.value), .int .u64 (dig (stAt all n).1), .int .i64 f, .int .i64 (n - f), .int .i64 (-1)], 41, false⟩)]) (φ := b2 = b2 ∧ Nat.ble (0 + 12) 12 = true) h42 rfl rfl rfl (by kernel_rfl) ⟨rfl, rfl⟩ fun w43 h44 => ?_
  clear h42
  refine nd_done ?_
  refine hK40 _ _ ?_
  clear hK40
  refine wp_ret ?_
  try simp only [Exit.then, Exit.inBlock]
  try rw [if_pos trivial]
  exact s_ret tabOk tabZ_ok h44 [(.cell 6 41, {k := 1})] (vs := [.agg #[.int .u8 0, .int .i64 n, .int .i64 lg.base.idx, .int .i64 ((all.length : Nat) : Int), .bool false, .bool ((stAt all n).2.refused), .int .i8 ((stAt all n).2.running), .int .u64 ((stAt all n).2.value), .int .u64 (dig (stAt all n).1), .int .i64 f, .int .i64 (n - f), .int .i64 (-1)]]) (φ := (b2 = b2 ∧ Nat.ble (0 + 12) 12 = true) ∧ True) rfl (by kernel_rfl) ⟨⟨rfl, rfl⟩, trivial⟩ ⟨rfl, hm0.turn h44.frame (pos := n) (live := false) (h44.kn (k := 0) (blk := ⟨modC (.slice ao all.length ac) (.pointer (some ⟨bl, 0, none⟩)) n false, 52, false⟩) rfl), h44.frame⟩

theorem mseek_ok (bm bl : Nat) (d : Hd) (a : Ah) (m : Md) (w : World) (hm : ModAt w bm bl d a m) (n : Int) {B : Int} (hB : B ≤ 900000000) (hwf : m.lg.wf B) (hp0 : 0 ≤ m.pos) (hp1 : m.pos ≤ (m.all.length : Int)) (hev : ∀ e ∈ m.all, e.ok) (hal : m.all.length ≤ 1000000) :
    Calls Try.prog 43 #[.pointer (some ⟨bm, 0, none⟩), .int .i64 n] w fun e w' => e = .returned (.agg (resC (mseek m n).1).toArray) ∧ ModAt w' bm bl d a (mseek m n).2 ∧ Fr [bm] w w' := by
  obtain ⟨ao, ac, aF⟩ := a
  obtain ⟨eo, ec, eF, mo, mc, mF, so, sc, sF⟩ := d
  obtain ⟨all, lg, pos, live⟩ := m
  have hR := hm.rows
  have hne := hm.ne
  have hsA := hm.sepA
  have hsL := hm.sepL
  have hsR := hm.sepR
  have hm0 := hm
  obtain ⟨hblk, hrow, ⟨hbl, hA, hsep⟩, hnd⟩ := hm
  simp only at hblk hbl hR hsA hsL hsR
  simp only at hp0 hp1 hev hal hwf ⊢
  have hb0 := hwf.b0
  refine enter0 (n := 38) (K := [bm]) (T := [(0, .pointer (some ⟨bm, 0, none⟩)), (1, .int .i64 n)]) (L := [(bm, ⟨modC (.slice ao all.length ac) (.pointer (some ⟨bl, 0, none⟩)) pos live, 52, false⟩), (bl, ⟨logC lg.base (.slice eo lg.evs.length ec) (.slice mo lg.mks.length mc) (.slice so lg.sns.length sc), 69, true⟩)]) (args := [.pointer (some ⟨bm, 0, none⟩), .int .i64 n]) Try.func43 rfl rfl rfl rfl (kcons hblk (kcons hbl knil)) (by simp [hne]) (kcons (by simp) (kcons (by intro hq; cases hq) knil)) ?_
  intro a h
  refine wp_seq_k fun K1 hK1 => ?_
  refine nd_start (l := [0]) rfl ?_
  refine nd_op ?_
  refine op_new tabOk (cells := [.int .u8 0, .int .i64 0, .int .i64 0, .int .i64 0, .bool false, .bool false, .int .i8 0, .int .u64 0, .int .u64 0, .int .i64 0, .int .i64 0, .int .i64 0]) (ty := 41) (ln := none) (L1 := fun b2 => [(bm, ⟨modC (.slice ao all.length ac) (.pointer (some ⟨bl, 0, none⟩)) pos live, 52, false⟩), (bl, ⟨logC lg.base (.slice eo lg.evs.length ec) (.slice mo lg.mks.length mc) (.slice so lg.sns.length sc), 69, true⟩), (b2, ⟨[.int .u8 0, .int .i64 0, .int .i64 0, .int .i64 0, .bool false, .bool false, .int .i8 0, .int .u64 0, .int .u64 0, .int .i64 0, .int .i64 0, .int .i64 0], 41, false⟩)]) h rfl rfl rfl rfl (by kernel_rfl) (fun _ => rfl) fun b2 w3 a4 h5 hf6 hn7 => ?_
  clear h
  refine nd_done ?_
  refine hK1 _ _ ?_
  clear hK1
  refine wp_seq_k fun K8 hK8 => ?_
  refine wp_seq_k fun K9 hK9 => ?_
  rcases Bool.eq_false_or_eq_true (decide (n < lg.base.idx)) with hb10 | hb10
  ·
    have hb10f : n < lg.base.idx := by simpa using hb10
    refine nd_start (l := [0, 1, 2, 3, 4, 5, 6, 7, 8, 9, 10, 11, 12, 13, 14, 15, 16, 17, 18]) rfl ?_
    refine nd_batch tabOk tabZ_ok [(0, {}), (1, {}), (2, {}), (3, {}), (4, {k := 0}), (5, {}), (6, {}), (7, {}), (8, {k := 1}), (9, {f := 2}), (10, {}), (11, {}), (12, {}), (13, {}), (14, {}), (15, {}), (16, {}), (17, {}), (18, {})] [4, 0, 1, 24] (T' := [(4, .pointer (some ⟨b2, 0, none⟩)), (0, .pointer (some ⟨bm, 0, none⟩)), (1, .int .i64 n), (24, .bool true)]) (φ := (bm = bm ∧ Nat.ble (1 + 1) 4 = true) ∧ (bl = bl ∧ Nat.ble (0 + 1) 18 = true) ∧ (decide (n < lg.base.idx)) = true ∧ True) (rest := []) h5 (by kernel_rfl) rfl ⟨⟨rfl, rfl⟩, ⟨rfl, rfl⟩, hb10, trivial⟩ fun a11 h12 => ?_
    clear h5
    refine nd_done ?_
    refine hK9 _ _ ?_
    clear hK9
    refine c_true h12 rfl ?_
    refine wp_seq_k fun K13 hK13 => ?_
    refine nd_start (l := [0, 1, 2]) rfl ?_
    refine nd_batch tabOk tabZ_ok [(0, {})] [4, 0, 1, 25] (T' := [(4, .pointer (some ⟨b2, 0, none⟩)), (0, .pointer (some ⟨bm, 0, none⟩)), (1, .int .i64 n), (25, .pointer (some ⟨bm, 0, none⟩))]) (φ := True) (rest := [1, 2]) h12 (by kernel_rfl) rfl trivial fun a14 h15 => ?_
    clear h12
    refine nd_op ?_
    refine op_call h15 rfl rfl rfl (callOk Try.func40 (by decide) rfl) (args := [.pointer (some ⟨bm, 0, none⟩), .int .u8 1]) rfl (refuse_ok bm bl _ _ _ _ (hm0.turn h15.frame (h15.kn (k := 0) (blk := ⟨modC (.slice ao all.length ac) (.pointer (some ⟨bl, 0, none⟩)) pos live, 52, false⟩) rfl)) 1 hp0 hp1 hev hal) ?_
    rintro _ w16 ⟨rfl, hf18⟩
    refine ⟨_, rfl, ?_⟩
    have h17 := (h15.grow hf18).put (d := some 26) (v := .agg #[.int .u8 1, .int .i64 pos, .int .i64 lg.base.idx, .int .i64 ((all.length : Nat) : Int), .bool live, .bool ((stAt all pos).2.refused), .int .i8 ((stAt all pos).2.running), .int .u64 ((stAt all pos).2.value), .int .u64 (dig (stAt all pos).1), .int .i64 pos, .int .i64 0, .int .i64 (-1)]) (T' := [(26, .agg #[.int .u8 1, .int .i64 pos, .int .i64 lg.base.idx, .int .i64 ((all.length : Nat) : Int), .bool live, .bool ((stAt all pos).2.refused), .int .i8 ((stAt all pos).2.running), .int .u64 ((stAt all pos).2.value), .int .u64 (dig (stAt all pos).1), .int .i64 pos, .int .i64 0, .int .i64 (-1)]), (4, .pointer (some ⟨b2, 0, none⟩)), (0, .pointer (some ⟨bm, 0, none⟩)), (1, .int .i64 n), (25, .pointer (some ⟨bm, 0, none⟩))]) rfl
    clear h15
    refine nd_op ?_
    refine op_store tabOk {k := 2} (L' := [(bm, ⟨modC (.slice ao all.length ac) (.pointer (some ⟨bl, 0, none⟩)) pos live, 52, false⟩), (bl, ⟨logC lg.base (.slice eo lg.evs.length ec) (.slice mo lg.mks.length mc) (.slice so lg.sns.length sc), 69, true⟩), (b2, ⟨[.int .u8 1, .int .i64 pos, .int .i64 lg.base.idx, .int .i64 ((all.length : Nat) : Int), .bool live, .bool ((stAt all pos).2.refused), .int .i8 ((stAt all pos).2.running), .int .u64 ((stAt all pos).2.value), .int .u64 (dig (stAt all pos).1), .int .i64 pos, .int .i64 0, .int .i64 (-1)], 41, false⟩)]) (φ := b2 = b2 ∧ Nat.ble (0 + 12) 12 = true) h17 rfl rfl rfl (by kernel_rfl) ⟨rfl, rfl⟩ fun w19 h20 => ?_
    clear h17
    refine nd_done ?_
    refine hK13 _ _ ?_
    clear hK13
    refine wp_ret ?_
    have hS : mseek ⟨all, lg, pos, live⟩ n = (mans ⟨all, lg, pos, live⟩ 1 pos, ⟨all, lg, pos, live⟩) := by unfold mseek; rw [if_pos (by show n < lg.base.idx ∨ (all.length : Int) < n; omega)]
    try simp only [Exit.then, Exit.inBlock]
    try rw [if_pos trivial]
    exact s_ret tabOk tabZ_ok h20 [(.cell 4 41, {k := 2})] (vs := [.agg #[.int .u8 1, .int .i64 pos, .int .i64 lg.base.idx, .int .i64 ((all.length : Nat) : Int), .bool live, .bool ((stAt all pos).2.refused), .int .i8 ((stAt all pos).2.running), .int .u64 ((stAt all pos).2.value), .int .u64 (dig (stAt all pos).1), .int .i64 pos, .int .i64 0, .int .i64 (-1)]]) (φ := (b2 = b2 ∧ Nat.ble (0 + 12) 12 = true) ∧ True) rfl (by kernel_rfl) ⟨⟨rfl, rfl⟩, trivial⟩ ⟨by rw [hS]; rfl, by rw [hS]; exact (hm0.turn h20.frame (h20.kn (k := 0) (blk := ⟨modC (.slice ao all.length ac) (.pointer (some ⟨bl, 0, none⟩)) pos live, 52, false⟩) rfl)), h20.frame⟩
  ·
    have hb10f : ¬ (n < lg.base.idx) := by simpa using hb10
    refine nd_start (l := [0, 1, 2, 3, 4, 5, 6, 7, 8, 9, 10, 11, 12, 13, 14, 15, 16, 17, 18]) rfl ?_
    refine nd_batch tabOk tabZ_ok [(0, {}), (1, {}), (2, {}), (3, {}), (4, {k := 0}), (5, {}), (6, {}), (7, {}), (8, {k := 1}), (9, {f := 1}), (10, {}), (11, {}), (12, {}), (13, {}), (14, {}), (15, {k := 0}), (16, {}), (17, {}), (18, {})] [4, 0, 1, 24] (T' := [(4, .pointer (some ⟨b2, 0, none⟩)), (0, .pointer (some ⟨bm, 0, none⟩)), (1, .int .i64 n), (24, .bool (decide (n > ((all.length : Nat) : Int))))]) (φ := (bm = bm ∧ Nat.ble (1 + 1) 4 = true) ∧ (bl = bl ∧ Nat.ble (0 + 1) 18 = true) ∧ (decide (n < lg.base.idx)) = false ∧ (bm = bm ∧ Nat.ble (0 + 1) 4 = true) ∧ True) (rest := []) h5 (by kernel_rfl) rfl ⟨⟨rfl, rfl⟩, ⟨rfl, rfl⟩, hb10, ⟨rfl, rfl⟩, trivial⟩ fun a21 h22 => ?_
    clear h5
    refine nd_done ?_
    refine hK9 _ _ ?_
    clear hK9
    refine c_split h22 (b := decide (n > ((all.length : Nat) : Int))) rfl (fun hc23 => ?_) (fun hc23 => ?_)
    ·
      have hc23f : n > ((all.length : Nat) : Int) := by simpa using hc23
      refine wp_seq_k fun K24 hK24 => ?_
      refine nd_start (l := [0, 1, 2]) rfl ?_
      refine nd_batch tabOk tabZ_ok [(0, {})] [4, 0, 1, 25] (T' := [(4, .pointer (some ⟨b2, 0, none⟩)), (0, .pointer (some ⟨bm, 0, none⟩)), (1, .int .i64 n), (25, .pointer (some ⟨bm, 0, none⟩))]) (φ := True) (rest := [1, 2]) h22 (by kernel_rfl) rfl trivial fun a25 h26 => ?_
      clear h22
      refine nd_op ?_
      refine op_call h26 rfl rfl rfl (callOk Try.func40 (by decide) rfl) (args := [.pointer (some ⟨bm, 0, none⟩), .int .u8 1]) rfl (refuse_ok bm bl _ _ _ _ (hm0.turn h26.frame (h26.kn (k := 0) (blk := ⟨modC (.slice ao all.length ac) (.pointer (some ⟨bl, 0, none⟩)) pos live, 52, false⟩) rfl)) 1 hp0 hp1 hev hal) ?_
      rintro _ w27 ⟨rfl, hf29⟩
      refine ⟨_, rfl, ?_⟩
      have h28 := (h26.grow hf29).put (d := some 26) (v := .agg #[.int .u8 1, .int .i64 pos, .int .i64 lg.base.idx, .int .i64 ((all.length : Nat) : Int), .bool live, .bool ((stAt all pos).2.refused), .int .i8 ((stAt all pos).2.running), .int .u64 ((stAt all pos).2.value), .int .u64 (dig (stAt all pos).1), .int .i64 pos, .int .i64 0, .int .i64 (-1)]) (T' := [(26, .agg #[.int .u8 1, .int .i64 pos, .int .i64 lg.base.idx, .int .i64 ((all.length : Nat) : Int), .bool live, .bool ((stAt all pos).2.refused), .int .i8 ((stAt all pos).2.running), .int .u64 ((stAt all pos).2.value), .int .u64 (dig (stAt all pos).1), .int .i64 pos, .int .i64 0, .int .i64 (-1)]), (4, .pointer (some ⟨b2, 0, none⟩)), (0, .pointer (some ⟨bm, 0, none⟩)), (1, .int .i64 n), (25, .pointer (some ⟨bm, 0, none⟩))]) rfl
      clear h26
      refine nd_op ?_
      refine op_store tabOk {k := 2} (L' := [(bm, ⟨modC (.slice ao all.length ac) (.pointer (some ⟨bl, 0, none⟩)) pos live, 52, false⟩), (bl, ⟨logC lg.base (.slice eo lg.evs.length ec) (.slice mo lg.mks.length mc) (.slice so lg.sns.length sc), 69, true⟩), (b2, ⟨[.int .u8 1, .int .i64 pos, .int .i64 lg.base.idx, .int .i64 ((all.length : Nat) : Int), .bool live, .bool ((stAt all pos).2.refused), .int .i8 ((stAt all pos).2.running), .int .u64 ((stAt all pos).2.value), .int .u64 (dig (stAt all pos).1), .int .i64 pos, .int .i64 0, .int .i64 (-1)], 41, false⟩)]) (φ := b2 = b2 ∧ Nat.ble (0 + 12) 12 = true) h28 rfl rfl rfl (by kernel_rfl) ⟨rfl, rfl⟩ fun w30 h31 => ?_
      clear h28
      refine nd_done ?_
      refine hK24 _ _ ?_
      clear hK24
      refine wp_ret ?_
      have hS : mseek ⟨all, lg, pos, live⟩ n = (mans ⟨all, lg, pos, live⟩ 1 pos, ⟨all, lg, pos, live⟩) := by unfold mseek; rw [if_pos (by show n < lg.base.idx ∨ (all.length : Int) < n; omega)]
      try simp only [Exit.then, Exit.inBlock]
      try rw [if_pos trivial]
      exact s_ret tabOk tabZ_ok h31 [(.cell 4 41, {k := 2})] (vs := [.agg #[.int .u8 1, .int .i64 pos, .int .i64 lg.base.idx, .int .i64 ((all.length : Nat) : Int), .bool live, .bool ((stAt all pos).2.refused), .int .i8 ((stAt all pos).2.running), .int .u64 ((stAt all pos).2.value), .int .u64 (dig (stAt all pos).1), .int .i64 pos, .int .i64 0, .int .i64 (-1)]]) (φ := (b2 = b2 ∧ Nat.ble (0 + 12) 12 = true) ∧ True) rfl (by kernel_rfl) ⟨⟨rfl, rfl⟩, trivial⟩ ⟨by rw [hS]; rfl, by rw [hS]; exact (hm0.turn h31.frame (h31.kn (k := 0) (blk := ⟨modC (.slice ao all.length ac) (.pointer (some ⟨bl, 0, none⟩)) pos live, 52, false⟩) rfl)), h31.frame⟩
    ·
      have hc23f : ¬ n > ((all.length : Nat) : Int) := by simpa using hc23
      refine wp_skip ?_
      refine hK8 _ _ ?_
      clear hK8
      refine wp_seq_k fun K32 hK32 => ?_
      refine nd_start (l := [0, 1]) rfl ?_
      refine nd_batch tabOk tabZ_ok [(0, {}), (1, {})] [4, 0, 1, 5] (T' := [(4, .pointer (some ⟨b2, 0, none⟩)), (0, .pointer (some ⟨bm, 0, none⟩)), (1, .int .i64 n), (5, .int .i64 n)]) (φ := True) (rest := []) h22 (by kernel_rfl) rfl trivial fun a33 h34 => ?_
      clear h22
      refine nd_done ?_
      refine hK32 _ _ ?_
      clear hK32
      refine wp_seq_k fun K35 hK35 => ?_
      refine wp_block ?_
      have hlon : lg.base.idx ≤ n := by omega
      have hnl := near_le lg hlon
      have hng := near_ge hwf n
      obtain ⟨pn, hpn⟩ := near_point (lg := lg) hlon
      refine wp_loop_ghost (fun g ga gw => ∃ (f : Int), ((lg.near n).idx ≤ f) ∧ (f ≤ n) ∧ (g = (f - lg.base.idx).toNat) ∧ St ⟨38, [bm], w, fun _ => True, []⟩ [(0, .pointer (some ⟨bm, 0, none⟩)), (1, .int .i64 n), (4, .pointer (some ⟨b2, 0, none⟩)), (5, .int .i64 f)] [(bm, ⟨modC (.slice ao all.length ac) (.pointer (some ⟨bl, 0, none⟩)) pos live, 52, false⟩), (bl, ⟨logC lg.base (.slice eo lg.evs.length ec) (.slice mo lg.mks.length mc) (.slice so lg.sns.length sc), 69, true⟩), (b2, ⟨[.int .u8 0, .int .i64 0, .int .i64 0, .int .i64 0, .bool false, .bool false, .int .i8 0, .int .u64 0, .int .u64 0, .int .i64 0, .int .i64 0, .int .i64 0], 41, false⟩)] ga gw) (n - lg.base.idx).toNat ⟨n, hnl, Int.le_refl _, rfl, (h34.slotsMono (restr_spec (keep := [0, 1, 4, 5]) rfl))⟩ ?_
      clear h34
      rintro g a36 w37 ⟨f, hi39, hi40, hi41, h38⟩
      have hf1 := hi39
      have hf2 := hi40
      have hg := hi41
      refine wp_seq_k fun K42 hK42 => ?_
      refine wp_seq_k fun K43 hK43 => ?_
      refine nd_start (l := [0, 1, 2, 3]) rfl ?_
      refine nd_batch tabOk tabZ_ok [(0, {}), (1, {})] [0, 1, 4, 5, 28, 29] (T' := [(0, .pointer (some ⟨bm, 0, none⟩)), (1, .int .i64 n), (4, .pointer (some ⟨b2, 0, none⟩)), (5, .int .i64 f), (28, .pointer (some ⟨bm, 0, none⟩)), (29, .int .i64 f)]) (φ := True) (rest := [2, 3]) h38 (by kernel_rfl) rfl trivial fun a44 h45 => ?_
      clear h38
      refine nd_op ?_
      refine op_call h45 rfl rfl rfl (callOk Try.func47 (by decide) rfl) (args := [.pointer (some ⟨bm, 0, none⟩), .int .i64 f]) rfl (held_ok bm bl _ _ _ _ (hm0.turn h45.frame (h45.kn (k := 0) (blk := ⟨modC (.slice ao all.length ac) (.pointer (some ⟨bl, 0, none⟩)) pos live, 52, false⟩) rfl)) f (by have := hwf.slen; show lg.sns.length ≤ 1000; omega)) ?_
      rintro _ w46 ⟨rfl, hf48⟩
      refine ⟨_, rfl, ?_⟩
      have h47 := (h45.grow hf48).put (d := some 30) (v := .bool ((lg.point f).isSome)) (T' := [(30, .bool ((lg.point f).isSome)), (0, .pointer (some ⟨bm, 0, none⟩)), (1, .int .i64 n), (4, .pointer (some ⟨b2, 0, none⟩)), (5, .int .i64 f), (28, .pointer (some ⟨bm, 0, none⟩)), (29, .int .i64 f)]) rfl
      clear h45
      refine nd_batch tabOk tabZ_ok [(3, {})] [0, 1, 4, 5, 31] (T' := [(0, .pointer (some ⟨bm, 0, none⟩)), (1, .int .i64 n), (4, .pointer (some ⟨b2, 0, none⟩)), (5, .int .i64 f), (31, .bool (!((lg.point f).isSome)))]) (φ := True) (rest := []) h47 (by kernel_rfl) rfl trivial fun a49 h50 => ?_
      clear h47
      refine nd_done ?_
      refine hK43 _ _ ?_
      clear hK43
      refine c_split h50 (b := !((lg.point f).isSome)) rfl (fun hc51 => ?_) (fun hc51 => ?_)
      ·
        have hno : (lg.point f).isSome = false := by simpa using hc51
        have hfn : f ≠ (lg.near n).idx := fun hq => by rw [hq, hpn] at hno; cases hno
        refine wp_skip ?_
        refine hK42 _ _ ?_
        clear hK42
        refine wp_block ?_
        refine nd_start (l := [0, 1, 2]) rfl ?_
        refine nd_batch tabOk tabZ_ok [(0, {}), (1, {}), (2, {})] [0, 1, 4, 5] (T' := [(0, .pointer (some ⟨bm, 0, none⟩)), (1, .int .i64 n), (4, .pointer (some ⟨b2, 0, none⟩)), (5, .int .i64 (f - 1))]) (φ := inR .i64 (f - 1) ∧ True) (rest := []) h50 (by kernel_rfl) rfl ⟨⟨by omega, by omega⟩, trivial⟩ fun a52 h53 => ?_
        clear h50
        refine nd_done ?_
        exact ⟨(g - 1), by omega, (f - 1), by omega, by omega, by omega, (h53.slotsMono (restr_spec (keep := [0, 1, 4, 5]) rfl))⟩
      ·
        have hyes : (lg.point f).isSome = true := by simpa using hc51
        have hfe : f = (lg.near n).idx := by have := point_near hwf hf2 hyes; omega
        subst hfe
        refine wp_exit ?_
        refine hK35 _ _ ?_
        clear hK35
        refine wp_seq_k fun K54 hK54 => ?_
        refine nd_start (l := [0, 1, 2, 3, 4]) rfl ?_
        refine nd_batch tabOk tabZ_ok [(0, {}), (1, {}), (2, {})] [0, 1, 4, 5, 34, 35, 36] (T' := [(0, .pointer (some ⟨bm, 0, none⟩)), (1, .int .i64 n), (4, .pointer (some ⟨b2, 0, none⟩)), (5, .int .i64 ((lg.near n).idx)), (34, .pointer (some ⟨bm, 0, none⟩)), (35, .int .i64 n), (36, .int .i64 ((lg.near n).idx))]) (φ := True) (rest := [3, 4]) h50 (by kernel_rfl) rfl trivial fun a55 h56 => ?_
        clear h50
        refine nd_op ?_
        refine op_call h56 rfl rfl rfl (callOk Try.func44 (by decide) rfl) (args := [.pointer (some ⟨bm, 0, none⟩), .int .i64 n, .int .i64 ((lg.near n).idx)]) rfl (move_ok bm bl _ _ _ _ (hm0.turn h56.frame (h56.kn (k := 0) (blk := ⟨modC (.slice ao all.length ac) (.pointer (some ⟨bl, 0, none⟩)) pos live, 52, false⟩) rfl)) n (lg.near n).idx (by omega) (by show n ≤ (all.length : Int); omega) (by omega) hnl hev hal) ?_
        rintro _ w57 ⟨rfl, hmv, hf59⟩
        refine ⟨_, rfl, ?_⟩
        have h58 := (h56.setBlk (k := 0) rfl rfl hf59 hmv.blk (L' := [(bm, ⟨modC (.slice ao all.length ac) (.pointer (some ⟨bl, 0, none⟩)) n false, 52, false⟩), (bl, ⟨logC lg.base (.slice eo lg.evs.length ec) (.slice mo lg.mks.length mc) (.slice so lg.sns.length sc), 69, true⟩), (b2, ⟨[.int .u8 0, .int .i64 0, .int .i64 0, .int .i64 0, .bool false, .bool false, .int .i8 0, .int .u64 0, .int .u64 0, .int .i64 0, .int .i64 0, .int .i64 0], 41, false⟩)]) rfl).put (d := some 37) (v := .agg #[.int .u8 0, .int .i64 n, .int .i64 lg.base.idx, .int .i64 ((all.length : Nat) : Int), .bool false, .bool ((stAt all n).2.refused), .int .i8 ((stAt all n).2.running), .int .u64 ((stAt all n).2.value), .int .u64 (dig (stAt all n).1), .int .i64 ((lg.near n).idx), .int .i64 (n - (lg.near n).idx), .int .i64 (-1)]) (T' := [(37, .agg #[.int .u8 0, .int .i64 n, .int .i64 lg.base.idx, .int .i64 ((all.length : Nat) : Int), .bool false, .bool ((stAt all n).2.refused), .int .i8 ((stAt all n).2.running), .int .u64 ((stAt all n).2.value), .int .u64 (dig (stAt all n).1), .int .i64 ((lg.near n).idx), .int .i64 (n - (lg.near n).idx), .int .i64 (-1)]), (0, .pointer (some ⟨bm, 0, none⟩)), (1, .int .i64 n), (4, .pointer (some ⟨b2, 0, none⟩)), (5, .int .i64 ((lg.near n).idx)), (34, .pointer (some ⟨bm, 0, none⟩)), (35, .int .i64 n), (36, .int .i64 ((lg.near n).idx))]) rfl
        clear h56
        refine nd_op ?_
        refine op_store tabOk {k := 2} (L' := [(bm, ⟨modC (.slice ao all.length ac) (.pointer (some ⟨bl, 0, none⟩)) n false, 52, false⟩), (bl, ⟨logC lg.base (.slice eo lg.evs.length ec) (.slice mo lg.mks.length mc) (.slice so lg.sns.length sc), 69, true⟩), (b2, ⟨[.int .u8 0, .int .i64 n, .int .i64 lg.base.idx, .int .i64 ((all.length : Nat) : Int), .bool false, .bool ((stAt all n).2.refused), .int .i8 ((stAt all n).2.running), .int .u64 ((stAt all n).2.value), .int .u64 (dig (stAt all n).1), .int .i64 ((lg.near n).idx), .int .i64 (n - (lg.near n).idx), .int .i64 (-1)], 41, false⟩)]) (φ := b2 = b2 ∧ Nat.ble (0 + 12) 12 = true) h58 rfl rfl rfl (by kernel_rfl) ⟨rfl, rfl⟩ fun w60 h61 => ?_
        clear h58
        refine nd_done ?_
        refine hK54 _ _ ?_
        clear hK54
        refine wp_ret ?_
        have hS : mseek ⟨all, lg, pos, live⟩ n = mmove ⟨all, lg, pos, live⟩ n (lg.near n).idx := by unfold mseek; rw [if_neg (by show ¬ (n < lg.base.idx ∨ (all.length : Int) < n); omega)]
        try simp only [Exit.then, Exit.inBlock]
        try rw [if_pos trivial]
        exact s_ret tabOk tabZ_ok h61 [(.cell 4 41, {k := 2})] (vs := [.agg #[.int .u8 0, .int .i64 n, .int .i64 lg.base.idx, .int .i64 ((all.length : Nat) : Int), .bool false, .bool ((stAt all n).2.refused), .int .i8 ((stAt all n).2.running), .int .u64 ((stAt all n).2.value), .int .u64 (dig (stAt all n).1), .int .i64 ((lg.near n).idx), .int .i64 (n - (lg.near n).idx), .int .i64 (-1)]]) (φ := (b2 = b2 ∧ Nat.ble (0 + 12) 12 = true) ∧ True) rfl (by kernel_rfl) ⟨⟨rfl, rfl⟩, trivial⟩ ⟨by rw [hS]; rfl, by rw [hS]; exact (hm0.turn h61.frame (pos := n) (live := false) (h61.kn (k := 0) (blk := ⟨modC (.slice ao all.length ac) (.pointer (some ⟨bl, 0, none⟩)) n false, 52, false⟩) rfl)), h61.frame⟩

theorem mnew_ok (w : World) : Calls Try.prog 11 #[] w fun e w' => ∃ bm bl, e = .returned (.pointer (some ⟨bm, 0, none⟩)) ∧ ModAt w' bm bl hd0 ⟨none, 0, []⟩ (mdOf [] ss0) ∧ Fr [] w w' ∧ w.heap.size ≤ bm ∧ w.heap.size ≤ bl := by
  refine enter0 (n := 4) (K := []) (T := []) (L := []) (args := []) Try.func11 rfl rfl rfl rfl knil (by simp) knil ?_
  intro a h
  refine wp_seq_k fun K1 hK1 => ?_
  refine nd_start (l := [0]) rfl ?_
  refine nd_batch tabOk tabZ_ok [(0, {})] [0] (T' := [(0, .pointer none)]) (φ := True) (rest := []) h (by kernel_rfl) rfl trivial fun a2 h3 => ?_
  clear h
  refine nd_done ?_
  refine hK1 _ _ ?_
  clear hK1
  refine wp_seq_k fun K4 hK4 => ?_
  refine nd_start (l := [0, 1, 2, 3]) rfl ?_
  refine nd_op ?_
  refine op_call h3 rfl rfl rfl (callOk Try.func30 (by decide) rfl) (args := []) rfl (lnew_ok _) ?_
  rintro _ w9 ⟨b5, rfl, hb6, hf7, hn8⟩
  refine ⟨_, rfl, ?_⟩
  have h10q : St _ _ [(b5, ⟨logC pt0 (.slice none 0 0) (.slice none 0 0) (.slice none 0 0), 69, false⟩)] _ _ := h3.fresh hf7 hn8 hb6
  have h10 := h10q.put (d := some 1) (v := .pointer (some ⟨b5, 0, none⟩)) (T' := [(1, .pointer (some ⟨b5, 0, none⟩)), (0, .pointer none)]) rfl
  clear h3 h10q
  refine nd_batch tabOk tabZ_ok [(1, {})] [0, 2] (T' := [(0, .pointer none), (2, .agg #[.slice none 0 0, .pointer (some ⟨b5, 0, none⟩), .int .i64 0, .bool true])]) (φ := True) (rest := [2, 3]) h10 (by kernel_rfl) rfl trivial fun a11 h12 => ?_
  clear h10
  refine nd_op ?_
  refine op_new tabOk (cells := [.slice none 0 0, .pointer (some ⟨b5, 0, none⟩), .int .i64 0, .bool true]) (ty := 52) (ln := none) (L1 := fun b13 => [(b5, ⟨logC pt0 (.slice none 0 0) (.slice none 0 0) (.slice none 0 0), 69, false⟩), (b13, ⟨[.slice none 0 0, .pointer (some ⟨b5, 0, none⟩), .int .i64 0, .bool true], 52, false⟩)]) h12 rfl rfl rfl rfl (by kernel_rfl) (fun _ => rfl) fun b13 w14 a15 h16 hf17 hn18 => ?_
  clear h12
  refine nd_batch tabOk tabZ_ok [(3, {})] [0] (T' := [(0, .pointer (some ⟨b13, 0, none⟩))]) (φ := True) (rest := []) h16 (by kernel_rfl) rfl trivial fun a19 h20 => ?_
  clear h16
  refine nd_done ?_
  refine hK4 _ _ ?_
  clear hK4
  refine wp_ret ?_
  try simp only [Exit.then, Exit.inBlock]
  try rw [if_pos trivial]
  exact s_ret tabOk tabZ_ok h20 [(.tmp 0, {})] (vs := [.pointer (some ⟨b13, 0, none⟩)]) (φ := True) rfl (by kernel_rfl) trivial ⟨b13, b5, rfl, ⟨h20.kn (k := 1) rfl, Row.nil _ _ _, ⟨h20.kn (k := 0) rfl, ⟨List.nodup_nil, by intro r hr; simp [Hd.rows, hd0] at hr; rcases hr with rfl | rfl | rfl <;> exact Row.nil _ _ _⟩, by simp [Hd.F, hd0]⟩, (by have hq := h20.ne 1 0 rfl rfl rfl; simpa [MF, Hd.F, hd0] using hq)⟩, h20.frame, h20.newer (k := 1) rfl rfl, h20.newer (k := 0) rfl rfl⟩

end Go.Proofs.Qxb6500919a
