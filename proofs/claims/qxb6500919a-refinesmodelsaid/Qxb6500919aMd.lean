/-
  The model of the replayer: how it lies in memory; what it answers, plainly.
-/
import Derived.Test.Qxb6500919aSxL
import Derived.Test.Qxb6500919aLc
namespace Go.Rp
open Go.Sx Go.Proofs.Qxb6500919a
set_option linter.unusedVariables false

/-- How the list of all events stands. -/
structure Ah where
  o : Option Addr
  c : Nat
  F : List Nat

structure Md where
  all : List Ev
  lg : Lg
  pos : Int
  live : Bool

def modC (ev lp : Value) (pos : Int) (live : Bool) : List Value := [ev, lp, .int .i64 pos, .bool live]

abbrev MF (bm bl : Nat) (d : Hd) (a : Ah) : List Nat := bm :: (a.F ++ (bl :: d.F))

structure ModAt (w : World) (bm bl : Nat) (d : Hd) (a : Ah) (m : Md) : Prop where
  blk : w.heap[bm]? = some (Blk.obj ⟨modC (.slice a.o m.all.length a.c) (.pointer (some ⟨bl, 0, none⟩)) m.pos m.live, 52, false⟩)
  row : (rl evC 33 3 m.all a.o a.c a.F).at w
  log : LogAt w bl d m.lg
  nd : (MF bm bl d a).Nodup

theorem ModAt.stable {bm bl : Nat} {d : Hd} {a : Ah} {m : Md} : Stable (fun w => ModAt w bm bl d a m) (MF bm bl d a) := by
  intro w w' h hm
  refine ⟨by rw [h bm (by simp)]; exact hm.blk, ?_, ?_, hm.nd⟩
  · exact Row.stable w w' (fun b hb => h b (by simp only [MF, List.mem_cons, List.mem_append]; exact .inr (.inl hb))) hm.row
  · exact LogAt.stable w w' (fun b hb => h b (by simp only [MF, List.mem_cons, List.mem_append] at hb ⊢; exact .inr (.inr hb))) hm.log

theorem ModAt.low {w : World} {bm bl : Nat} {d : Hd} {a : Ah} {m : Md} (h : ModAt w bm bl d a m) : ∀ b ∈ MF bm bl d a, b < w.heap.size := by
  intro b hb
  rcases List.mem_cons.1 hb with rfl | hb
  · exact lt_of_heap h.blk
  · rcases List.mem_append.1 hb with hb | hb
    · exact Row.low h.row b hb
    · exact h.log.low b hb

abbrev pMod (bm bl : Nat) (d : Hd) (a : Ah) (m : Md) : Pc := ⟨fun w => ModAt w bm bl d a m, MF bm bl d a⟩
theorem pMod_ok {w : World} {bm bl : Nat} {d : Hd} {a : Ah} {m : Md} (h : ModAt w bm bl d a m) : PcOk (pMod bm bl d a m) w := ⟨h, ModAt.stable, h.low, h.nd⟩

theorem ModAt.ne {w : World} {bm bl : Nat} {d : Hd} {a : Ah} {m : Md} (h : ModAt w bm bl d a m) : bm ≠ bl := by
  have := (List.nodup_cons.1 h.nd).1
  simp only [List.mem_append, List.mem_cons, not_or] at this
  exact this.2.1

theorem ModAt.sepA {w : World} {bm bl : Nat} {d : Hd} {a : Ah} {m : Md} (h : ModAt w bm bl d a m) : bm ∉ a.F := by
  have := (List.nodup_cons.1 h.nd).1
  simp only [List.mem_append, List.mem_cons, not_or] at this
  exact this.1

theorem ModAt.sepL {w : World} {bm bl : Nat} {d : Hd} {a : Ah} {m : Md} (h : ModAt w bm bl d a m) : bm ∉ d.F := by
  have := (List.nodup_cons.1 h.nd).1
  simp only [List.mem_append, List.mem_cons, not_or] at this
  exact this.2.2

/-- The four rows of a model. -/
theorem ModAt.rows {w : World} {bm bl : Nat} {d : Hd} {a : Ah} {m : Md} (h : ModAt w bm bl d a m) : Rws (rl evC 33 3 m.all a.o a.c a.F :: d.rows m.lg) w := by
  have h1 := (List.nodup_cons.1 h.nd).2
  rw [List.nodup_append] at h1
  refine ⟨?_, fun r hr => ?_⟩
  · show (a.F ++ (d.rows m.lg).flatMap (·.F)).Nodup
    rw [List.nodup_append]
    refine ⟨h1.1, h.log.rows.1, fun x hx y hy he => ?_⟩
    have h2 : y ∈ d.F := by rw [Hd.F_rows d m.lg]; exact hy
    exact h1.2.2 x hx y (List.mem_cons_of_mem _ h2) he
  · rcases List.mem_cons.1 hr with rfl | hr
    · exact h.row
    · exact h.log.rows.2 r hr

/-- The log's block apart from the rows. -/
theorem ModAt.sepR {w : World} {bm bl : Nat} {d : Hd} {a : Ah} {m : Md} (h : ModAt w bm bl d a m) : bl ∉ a.F := by
  have h1 := (List.nodup_cons.1 h.nd).2
  rw [List.nodup_append] at h1
  intro hq
  exact h1.2.2 bl hq bl (by simp) rfl

def mans (m : Md) (code n : Int) : Res := ⟨code, m.pos, m.lg.base.idx, m.all.length, m.live, (stAt m.all n).2, dig (stAt m.all n).1, m.pos, 0, -1⟩

def mdOf (all : List Ev) (s : Ss) : Md := ⟨all, s.lg, s.pos, s.live⟩

theorem mans_stat {B : Int} {all : List Ev} {s : Ss} (h : s.wf B) (hh : Hon all s) (code : Int) : mans (mdOf all s) code s.pos = s.stat code := by
  have hf := hon_fin hh.lg h.lg.b0
  have hc := hh.cur
  unfold mans mdOf Ss.stat
  simp only [← hc, hf]

/-- To index n from index f. -/
def mmove (m : Md) (n f : Int) : Res × Md := ({ mans { m with pos := n, live := false } 0 n with from_ := f, replayed := n - f }, { m with pos := n, live := false })

def mseek (m : Md) (n : Int) : Res × Md :=
  if n < m.lg.base.idx ∨ (m.all.length : Int) < n then (mans m 1 m.pos, m) else mmove m n (m.lg.near n).idx

theorem mseek_eq {B : Int} {all : List Ev} {s : Ss} (h : s.wf B) (hh : Hon all s) (n : Int) : mseek (mdOf all s) n = ((seekR s n).1, mdOf all (seekR s n).2) := by
  have hf := hon_fin hh.lg h.lg.b0
  unfold mseek
  show (if n < s.lg.base.idx ∨ (all.length : Int) < n then (mans (mdOf all s) 1 s.pos, mdOf all s) else mmove (mdOf all s) n (s.lg.near n).idx) = _
  by_cases hn : n < s.lg.base.idx ∨ (all.length : Int) < n
  · rw [if_pos hn]
    unfold seekR
    rw [if_pos (by omega)]
    show (mans (mdOf all s) 1 s.pos, _) = _
    rw [mans_stat h hh]
  · rw [if_neg hn]
    have hon := seek_hon h hh n
    have hwf := seek_wf h n
    have hs : seekR s n = ({ (s.go (s.lg.run ((s.lg.near n).st, (s.lg.near n).out) (s.lg.near n).idx n) n).stat 0 with from_ := (s.lg.near n).idx, replayed := n - (s.lg.near n).idx }, s.go (s.lg.run ((s.lg.near n).st, (s.lg.near n).out) (s.lg.near n).idx n) n) := by
      unfold seekR; rw [if_neg (by omega)]
    rw [hs] at hon hwf ⊢
    simp only at hon hwf ⊢
    have h1 := mans_stat hwf hon 0
    unfold mmove
    rw [← h1]
    rfl

theorem mforw_eq {B : Int} {all : List Ev} {s : Ss} (h : s.wf B) (hh : Hon all s) {n : Int} (h0 : 0 ≤ n) (h1 : n ≤ (all.length : Int) - s.pos) : mmove (mdOf all s) (s.pos + n) s.pos = ((forwR s n).1, mdOf all (forwR s n).2) := by
  have hf := hon_fin hh.lg h.lg.b0
  have hon := forw_hon h hh n
  have hwf := forw_wf h n
  have hs : forwR s n = ({ (s.go (s.lg.run (s.m, s.out) s.pos (s.pos + n)) (s.pos + n)).stat 0 with from_ := s.pos + n - n, replayed := n }, s.go (s.lg.run (s.m, s.out) s.pos (s.pos + n)) (s.pos + n)) := by
    unfold forwR; rw [if_neg (by omega)]
  rw [hs] at hon hwf ⊢
  simp only at hon hwf ⊢
  have h2 := mans_stat hwf hon 0
  unfold mmove
  rw [← h2, show s.pos + n - s.pos = n by omega, show s.pos + n - n = s.pos by omega]
  rfl

theorem near_point {lg : Lg} {n : Int} (hb : lg.base.idx ≤ n) : ∃ p, lg.point (lg.near n).idx = some p := by
  unfold Lg.point
  by_cases h : (lg.near n).idx = lg.base.idx
  · rw [if_pos h]; exact ⟨_, rfl⟩
  · rw [if_neg h]
    rcases near_mem lg n with h1 | h1
    · rw [h1] at h; exact absurd rfl h
    · unfold Lg.snap
      cases hq : lg.sns.find? (fun p => p.idx == (lg.near n).idx) with
      | some p => exact ⟨p, rfl⟩
      | none =>
        have := List.find?_eq_none.1 hq (lg.near n) h1
        simp at this

theorem point_near {B : Int} {lg : Lg} (h : lg.wf B) {n f : Int} (hf : f ≤ n) (hp : (lg.point f).isSome = true) : f ≤ (lg.near n).idx := by
  unfold Lg.point at hp
  split at hp
  · rename_i h1
    have := near_ge h n
    omega
  · obtain ⟨p, hq⟩ := Option.isSome_iff_exists.1 hp
    unfold Lg.snap at hq
    have h1 := List.mem_of_find?_eq_some hq
    have h2 : p.idx = f := by simpa using List.find?_some hq
    have := near_max h h1 (n := n) (by omega)
    omega

theorem held_iff (lg : Lg) (n : Int) : (lg.point n).isSome = true ↔ ((∃ p ∈ lg.sns, p.idx = n) ∨ n = lg.base.idx) := by
  unfold Lg.point
  by_cases h : n = lg.base.idx
  · rw [if_pos h]; simp [h]
  · rw [if_neg h]
    unfold Lg.snap
    constructor
    · intro hq
      obtain ⟨p, hp⟩ := Option.isSome_iff_exists.1 hq
      exact .inl ⟨p, List.mem_of_find?_eq_some hp, by simpa using List.find?_some hp⟩
    · rintro (⟨p, h1, h2⟩ | h1)
      · cases hq : lg.sns.find? (fun p => p.idx == n) with
        | some p => rfl
        | none =>
          have := List.find?_eq_none.1 hq p h1
          simp [h2] at this
      · exact absurd h1 h

/-! An honest log never diverges. -/

theorem hon_sAt {B : Int} {all : List Ev} {lg : Lg} (h : lg.wf B) (hh : HonL all lg) {p : Pt} (hp : (p.st, p.out) = stAt all p.idx) (h1 : lg.base.idx ≤ p.idx) {i : Int} (h2 : p.idx ≤ i) : sAt lg p i = stAt all i := by
  unfold sAt
  rw [hp, hon_run hh h.b0 h1 h2]

theorem hon_good {B : Int} {all : List Ev} {lg : Lg} (h : lg.wf B) (hh : HonL all lg) {p : Pt} (hp : (p.st, p.out) = stAt all p.idx) (h1 : lg.base.idx ≤ p.idx) : IsFD lg p (-1) := by
  refine .inl ⟨rfl, fun i h2 h3 hb => ?_⟩
  unfold Bad BadS at hb
  rw [hon_sAt h hh hp h1 h2] at hb
  rcases hb with ⟨k, k1, k2, k3⟩ | ⟨k, k1, k2, k3⟩
  · exact k3 (by rw [hh.mks k k1, k2])
  · exact k3 (by rw [hh.sns k k1, k2])

theorem vloop_rep {B : Int} {lg : Lg} (h : lg.wf B) {p0 : Int} (hp : 0 ≤ p0) : ∀ (g : Nat) (c pos good : Int) (s : Mach × Ot), (mF lg c).length + (sF lg c).length < g → 0 ≤ c →
    (vloop lg p0 g (mF lg c) (sF lg c) s pos good).at_ = -1 → (vloop lg p0 g (mF lg c) (sF lg c) s pos good).rep = lg.fin - p0
  | 0, _, _, _, _, hg, _ => absurd hg (Nat.not_lt_zero _)
  | g + 1, c, pos, good, s, hg, hc => by
    rcases next_spec h c with ⟨hn, hm0, hs0⟩ | ⟨nx, hn, hcn, hnf, hck, hgm2, hgs2, hat⟩
    · rw [vloop_end hn (by omega)]; intro _; rfl
    · have hfin : ¬ lg.fin < nx := by omega
      rcases vm_spec (nx := nx) (dg := dig (runF (seg lg.evs (pos - lg.base.idx).toNat (nx - pos).toNat) s).1) (mF lg c) hgm2 (h.msort.filter _) with ⟨hv, _⟩ | ⟨hv, hvm⟩
      · rw [vloop_mark hn hfin rfl hv]
        intro hq
        have : nx = -1 := hq
        omega
      · rcases vs_spec (nx := nx) (s := runF (seg lg.evs (pos - lg.base.idx).toNat (nx - pos).toNat) s) (sF lg c) hgs2 (h.ssort.filter _) with ⟨hv2, _⟩ | ⟨hv2, hvs⟩
        · rw [vloop_snap hn hfin rfl hv hv2]
          intro hq
          have : nx = -1 := hq
          omega
        · rw [vloop_next hn hfin rfl hv hv2, mF_mF lg (by omega), sF_sF lg (by omega)]
          have hlen : (mF lg (nx + 1)).length + (sF lg (nx + 1)).length < g := by
            have e1 := mF_mF lg (c := c) (d := nx + 1) (by omega)
            have e2 := sF_sF lg (c := c) (d := nx + 1) (by omega)
            have l1 := List.length_filter_le (fun k : Mk => decide (nx + 1 ≤ k.idx)) (mF lg c)
            have l2 := List.length_filter_le (fun k : Pt => decide (nx + 1 ≤ k.idx)) (sF lg c)
            rw [e1] at l1
            rw [e2] at l2
            rcases hat with ⟨k, h1, h2⟩ | ⟨k, h1, h2⟩
            · have := filter_lt (f := fun k : Mk => decide (nx + 1 ≤ k.idx)) h1 (by simp; omega)
              rw [e1] at this; omega
            · have := filter_lt (f := fun k : Pt => decide (nx + 1 ≤ k.idx)) h1 (by simp; omega)
              rw [e2] at this; omega
          exact vloop_rep h hp g (nx + 1) nx nx _ hlen (by omega)

theorem vfy_hon {B : Int} {all : List Ev} {lg : Lg} (h : lg.wf B) (hh : HonL all lg) {p : Pt} (hp : (p.st, p.out) = stAt all p.idx) (h1 : lg.base.idx ≤ p.idx) (h2 : p.idx ≤ lg.fin) : (vfy lg p).at_ = -1 ∧ (vfy lg p).rep = lg.fin - p.idx := by
  have hb := h.b0
  have h3 : (vfy lg p).at_ = -1 := IsFD.unique (by omega) (vfy_law h h1 h2).1 (hon_good h hh hp h1)
  refine ⟨h3, ?_⟩
  have hl : (mF lg p.idx).length + (sF lg p.idx).length < lg.mks.length + lg.sns.length + 1 := by
    have l1 : (mF lg p.idx).length ≤ lg.mks.length := List.length_filter_le (fun k : Mk => decide (p.idx ≤ k.idx)) lg.mks
    have l2 : (sF lg p.idx).length ≤ lg.sns.length := List.length_filter_le (fun k : Pt => decide (p.idx ≤ k.idx)) lg.sns
    omega
  unfold vfy at h3 ⊢
  rw [dropW_mk _ _ h.msort, dropW_pt _ _ h.ssort] at h3 ⊢
  exact vloop_rep h (by omega) _ _ _ _ _ hl (by omega) h3

theorem point_state {B : Int} {all : List Ev} {lg : Lg} (h : lg.wf B) (hh : HonL all lg) {n : Int} {p : Pt} (hp : lg.point n = some p) : p.idx = n ∧ (p.st, p.out) = stAt all p.idx ∧ lg.base.idx ≤ p.idx ∧ p.idx ≤ lg.fin := by
  obtain ⟨h1, h2, h3, _⟩ := point_facts h hp
  refine ⟨h1, ?_, h2, h3⟩
  unfold Lg.point at hp
  split at hp
  · cases hp; exact hh.base
  · exact hh.sns p (List.mem_of_find?_eq_some hp)

/-- Check, on an honest log. -/
theorem check3 {B : Int} {all : List Ev} {s : Ss} (h : s.wf B) (hh : Hon all s) (n : Int) :
    checkR s n = if (s.lg.point n).isSome = true then ({ mans (mdOf all s) 0 s.pos with from_ := n, replayed := (all.length : Int) - n } : Res) else mans (mdOf all s) 2 s.pos := by
  have hf := hon_fin hh.lg h.lg.b0
  unfold checkR
  rw [mans_stat h hh, mans_stat h hh]
  cases hp : s.lg.point n with
  | none => rfl
  | some p =>
    obtain ⟨h1, h2, h3, h4⟩ := point_state h.lg hh.lg hp
    obtain ⟨h5, h6⟩ := vfy_hon h.lg hh.lg h2 h3 h4
    simp only [Option.isSome_some, if_true, h5, h6, h1, hf]
    rfl

theorem replay3 {B : Int} {all : List Ev} {s : Ss} (h : s.wf B) (hh : Hon all s) (n m : Int) :
    replayR s n m = if (s.lg.point n).isSome = true then (if m < n ∨ (all.length : Int) < m then mans (mdOf all s) 1 s.pos else ({ mans (mdOf all s) 0 m with from_ := n, replayed := m - n } : Res)) else mans (mdOf all s) 2 s.pos := by
  have hf := hon_fin hh.lg h.lg.b0
  unfold replayR
  rw [mans_stat h hh, mans_stat h hh]
  cases hp : s.lg.point n with
  | none => rfl
  | some p =>
    obtain ⟨h1, h2, h3, h4⟩ := point_state h.lg hh.lg hp
    simp only [Option.isSome_some, if_true]
    by_cases hm : m < n ∨ (all.length : Int) < m
    · rw [if_pos hm, if_pos (by omega)]
    · rw [if_neg hm, if_neg (by omega), h2, hon_run hh.lg h.lg.b0 h3 (by omega)]
      unfold mans mdOf Ss.stat
      simp only [hf]

end Go.Rp
