/-
  EveryIndexFromEveryPoint, plainly.
-/
import Derived.Test.Qxb6500919aFmtPc
namespace Go.Rp
open Go.Sx Go.Proofs.Qxb6500919aFmt

structure Seen where
  dig : Int
  out : Ot

def seenC (x : Seen) : List Value := .int .u64 x.dig :: outC x.out
theorem seenC_len (x : Seen) : (seenC x).length = 4 := rfl
theorem seenC_one (x : Seen) : allOne (seenC x) = true := rfl

def snAt (all : List Ev) (i : Int) : Seen := ⟨dig (stAt all i).1, (stAt all i).2⟩

/-- What a run shows at each of its indices. -/
def runL (all : List Ev) : List Seen := (List.range (all.length + 1)).map (fun i => snAt all (i : Nat))

theorem runL_len (all : List Ev) : (runL all).length = all.length + 1 := by simp [runL]

theorem runL_get {all : List Ev} {i : Nat} (h : i ≤ all.length) : (runL all)[i]? = some (snAt all (i : Nat)) := by
  unfold runL
  rw [List.getElem?_map, List.getElem?_range (by omega)]
  rfl

theorem runL_snoc (all : List Ev) (e : Ev) : runL (all ++ [e]) = runL all ++ [snAt (all ++ [e]) ((all.length + 1 : Nat) : Int)] := by
  unfold runL
  rw [List.length_append, List.length_singleton, List.range_succ, List.map_append]
  have h1 : (List.range (all.length + 1)).map (fun i => snAt (all ++ [e]) (i : Nat)) = (List.range (all.length + 1)).map (fun i => snAt all (i : Nat)) := by
    apply List.map_congr_left
    intro i hi
    have := List.mem_range.1 hi
    unfold snAt
    rw [stAt_app (by omega)]
  rw [h1, List.map_cons, List.map_nil]

theorem runL_take {all : List Ev} {n : Nat} (h : n ≤ all.length) : (runL all).take (n + 1) = runL (all.take n) := by
  apply List.ext_getElem?
  intro i
  by_cases hi : i ≤ n
  · rw [List.getElem?_take_of_lt (by omega), runL_get (by omega), runL_get (by rw [List.length_take]; omega)]
    have := stAt_take (all := all) (n := (n : Int)) (m := (i : Int)) (by omega)
    rw [show (n : Int).toNat = n by omega] at this
    have h2 : snAt all (i : Nat) = snAt (all.take n) (i : Nat) := by unfold snAt; rw [this]
    rw [h2]
  · rw [List.getElem?_eq_none (by rw [List.length_take]; omega), List.getElem?_eq_none (by rw [runL_len, List.length_take]; omega)]

theorem runL_nil : runL [] = [⟨dig mach0, out0⟩] := rfl

theorem do_k0 {s : Ss} {op : Opn} (h : op.kind = 0) : doR s op = stepR s op.ev := by unfold doR; rw [if_pos h]
theorem do_k5 {s : Ss} {op : Opn} (h : op.kind = 5) : doR s op = resumeR s := by
  unfold doR; rw [if_neg (by omega), if_neg (by omega), if_neg (by omega), if_neg (by omega), if_neg (by omega), if_pos h]
theorem do_where (s : Ss) (n m : Int) (e : Ev) : doR s ⟨8, n, m, e⟩ = (s.stat 0, s) := by simp [doR]
theorem do_seek (s : Ss) (n m : Int) (e : Ev) : doR s ⟨1, n, m, e⟩ = seekR s n := by simp [doR]
theorem do_forw (s : Ss) (n m : Int) (e : Ev) : doR s ⟨3, n, m, e⟩ = forwR s n := by simp [doR]
theorem do_check (s : Ss) (n m : Int) (e : Ev) : doR s ⟨6, n, m, e⟩ = (checkR s n, s) := by simp [doR]

/-- An accepted step. -/
theorem step6 {B : Int} {all : List Ev} {s : Ss} {op : Opn} (h : s.wf B) (hh : Hon all s) (hk : op.kind = 0) (hc : (doR s op).1.code = 0) :
    nextAll s all op = all ++ [op.ev] ∧ runL all ++ [⟨(doR s op).1.dig, (doR s op).1.out⟩] = runL (all ++ [op.ev]) := by
  have hn : nextAll s all op = all ++ [op.ev] := by
    unfold nextAll
    rw [do_k0 hk] at hc
    rw [if_pos hk, if_pos hc]
  refine ⟨hn, ?_⟩
  have hon := do_hon' h hh op
  rw [hn] at hon
  rw [do_k0 hk] at hc hon ⊢
  rcases step_ref s op.ev with ⟨c, hc1, h1⟩ | ⟨h1, h2, h3⟩
  · rw [h1] at hc
    have h7 : c = 0 := hc
    omega
  · rw [h3] at hon ⊢
    rw [runL_snoc]
    have hp := h.live h1
    have hf := hon_fin hh.lg h.lg.b0
    have h4 := hon.cur
    have h5 : (s.recd op.ev).pos = ((all.length + 1 : Nat) : Int) := by show s.pos + 1 = _; omega
    rw [h5] at h4
    have h6 : Seen.mk (stepRes s op.ev).dig (stepRes s op.ev).out = snAt (all ++ [op.ev]) ((all.length + 1 : Nat) : Int) := by
      show Seen.mk (dig (s.recd op.ev).m) (s.recd op.ev).out = _
      unfold snAt
      rw [← h4]
    rw [h6]

theorem step6no {s : Ss} {op : Opn} (hk : op.kind = 0) (hc : (doR s op).1.code ≠ 0) (all : List Ev) :
    nextAll s all op = all ∧ (doR s op).1.pos = s.pos ∧ (doR s op).1.fin = s.lg.fin ∧ (doR s op).1.dig = dig s.m := by
  have hn : nextAll s all op = all := by
    unfold nextAll
    rw [do_k0 hk] at hc
    rw [if_pos hk, if_neg hc]
  refine ⟨hn, ?_⟩
  rw [do_k0 hk] at hc ⊢
  rcases step_ref s op.ev with ⟨c, hc1, h1⟩ | ⟨h1, h2, h3⟩
  · rw [h1]; exact ⟨rfl, rfl, rfl⟩
  · rw [h3] at hc; exact absurd rfl hc

theorem resume6 {B : Int} {s : Ss} {op : Opn} {all : List Ev} (h : s.wf B) (hh : Hon all s) (hk : op.kind = 5) :
    nextAll s all op = all.take s.pos.toNat ∧ (doR s op).1.pos = s.pos ∧ 0 ≤ s.pos ∧ s.pos.toNat ≤ all.length ∧ (runL all).take (s.pos + 1).toNat = runL (all.take s.pos.toNat) := by
  have h1 : nextAll s all op = all.take s.pos.toNat := by unfold nextAll; rw [if_neg (by omega), if_pos hk]
  have hf := hon_fin hh.lg h.lg.b0
  have hb := h.lg.b0
  have hlo := h.lo
  have hhi := h.hi
  have h2 : s.pos.toNat ≤ all.length := by omega
  refine ⟨h1, by rw [do_k5 hk]; rfl, by omega, h2, ?_⟩
  rw [show (s.pos + 1).toNat = s.pos.toNat + 1 by omega]
  exact runL_take h2

theorem else6 {s : Ss} {op : Opn} (h0 : op.kind ≠ 0) (h5 : op.kind ≠ 5) (all : List Ev) : nextAll s all op = all := by
  unfold nextAll; rw [if_neg h0, if_neg h5]

/-- A session as it is opened on a log. -/
def ssOf (lg : Lg) : Ss := ⟨lg, lg.base.st, lg.base.out, lg.base.idx, false⟩

theorem ssOf_wf {B : Int} {lg : Lg} (h : lg.wf B) : (ssOf lg).wf B :=
  ⟨h, h.bst, Int.le_refl _, by show lg.base.idx ≤ lg.fin; unfold Lg.fin; omega, fun hq => by cases hq⟩

theorem ssOf_hon {all : List Ev} {lg : Lg} (h : HonL all lg) : Hon all (ssOf lg) := ⟨h, h.base⟩

/-- A replay that stands at index i. -/
def ssAt (lg : Lg) (all : List Ev) (i : Int) : Ss := ⟨lg, (stAt all i).1, (stAt all i).2, i, false⟩

theorem seek6 {B : Int} {lg : Lg} {all : List Ev} (h : lg.wf B) (hh : HonL all lg) {p : Int} (h1 : lg.base.idx ≤ p) (h2 : p ≤ lg.fin) :
    seekR (ssOf lg) p = (({ (ssAt lg all p).stat 0 with from_ := (lg.near p).idx, replayed := p - (lg.near p).idx } : Res), ssAt lg all p) := by
  unfold seekR
  rw [if_neg (by show ¬ (p < lg.base.idx ∨ lg.fin < p); omega)]
  have hp : ((lg.near p).st, (lg.near p).out) = stAt all (lg.near p).idx := by
    rcases near_mem lg p with h1 | h1
    · rw [h1]; exact hh.base
    · exact hh.sns _ h1
  have hr : (ssOf lg).lg.run (((ssOf lg).lg.near p).st, ((ssOf lg).lg.near p).out) ((ssOf lg).lg.near p).idx p = stAt all p := by
    show lg.run ((lg.near p).st, (lg.near p).out) (lg.near p).idx p = stAt all p
    rw [hp, hon_run hh h.b0 (near_ge h p) (near_le lg h1)]
  simp only [hr]
  rfl

theorem forw6 {B : Int} {lg : Lg} {all : List Ev} (h : lg.wf B) (hh : HonL all lg) {i : Int} (h1 : lg.base.idx ≤ i) (h2 : i < lg.fin) :
    forwR (ssAt lg all i) 1 = (({ (ssAt lg all (i + 1)).stat 0 with from_ := i + 1 - 1, replayed := 1 } : Res), ssAt lg all (i + 1)) := by
  unfold forwR
  rw [if_neg (by show ¬ ((1 : Int) < 0 ∨ lg.fin - i < 1); omega)]
  have hr : (ssAt lg all i).lg.run ((ssAt lg all i).m, (ssAt lg all i).out) (ssAt lg all i).pos ((ssAt lg all i).pos + 1) = stAt all (i + 1) := by
    show lg.run (stAt all i) i (i + 1) = _
    rw [hon_run hh h.b0 h1 (by omega)]
  simp only [hr]
  rfl

theorem ssAt_wf {B : Int} {lg : Lg} {all : List Ev} (h : lg.wf B) (hh : HonL all lg) {i : Int} (h1 : lg.base.idx ≤ i) (h2 : i ≤ lg.fin) : (ssAt lg all i).wf B := by
  have := seek_wf (ssOf_wf h) i
  rw [seek6 h hh h1 h2] at this
  exact this

end Go.Rp
