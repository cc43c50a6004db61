/-
  What holds between the threads and the store: burials, the step, the start.
-/
import Derived.Test.Qxb6500918aDoorOb
namespace Go.Kn
open Go.Sx

theorem del_fre (f : Nat) : ∀ (C : CP) (s : Nat), CI C → cnt C < f → s < 4096 → C.pres (s / 16) = true → Fre C.ent (deleteP f C s).1.ent (deleteP f C s).2 := by
  induction f with
  | zero => intro C s _ hf; omega
  | succ f ih =>
    intro C s h hf hs hp
    rw [deleteP]
    by_cases h0 : (C.cel s).cap.ty = 0
    · rw [if_pos h0]; exact Fre.refl _
    rw [if_neg h0]
    have hfull : Full C s := ⟨hs, hp, h0⟩
    have hcut := cut_CI h hfull
    have hcc := cut_cnt hfull
    by_cases h1 : (C.cel s).cap.ty = 1 ∨ namedP (cutP C s) (C.cel s).cap.obj = true
    · rw [if_pos h1]; exact Fre.refl _
    rw [if_neg h1]
    have hok : 2 ≤ (C.cel s).cap.ty ∧ (C.cel s).cap.ty < 6 ∧ 0 ≤ (C.cel s).cap.obj.idx ∧ (C.cel s).cap.obj.idx < 256 ∧ (C.ent (C.cel s).cap.obj.idx.toNat).gen = (C.cel s).cap.obj.gen ∧ (C.ent (C.cel s).cap.obj.idx.toNat).ty = (C.cel s).cap.ty := by
      rcases h.cap hfull with hq | hq
      · exact absurd (.inl hq.1) h1
      · exact hq
    have hun := unnamed_idx hcut (c := (C.cel s).cap) hok (fun hq => h1 (.inr hq))
    have hN : (C.cel s).cap.obj.idx.toNat < 256 := by omega
    have hun' : ∀ t, Full (cutP C s) t → ((cutP C s).cel t).cap.obj.idx ≠ (((C.cel s).cap.obj.idx.toNat : Nat) : Int) := fun t ht => by
      have := hun t ht; omega
    by_cases h2 : (C.cel s).cap.ty = 2
    · rw [if_pos h2]
      have hpN : (cutP C s).pres (C.cel s).cap.obj.idx.toNat = true := (h.node hN).1 (by rw [hok.2.2.2.2.2, h2])
      have hrow : ∀ n, n ≤ 16 → (fun (r : CP × List Cp) => CI r.1 ∧ Shr (cutP C s) r.1 ∧ Fre C.ent r.1.ent r.2 ∧ (C.cel s).cap ∈ r.2) ((List.range n).foldl (fun (acc : CP × List Cp) j => ((deleteP f acc.1 ((C.cel s).cap.obj.idx.toNat * 16 + j)).1, acc.2 ++ (deleteP f acc.1 ((C.cel s).cap.obj.idx.toNat * 16 + j)).2)) (cutP C s, [(C.cel s).cap])) := by
        intro n hn
        refine foldl_range (fun (acc : CP × List Cp) j => ((deleteP f acc.1 ((C.cel s).cap.obj.idx.toNat * 16 + j)).1, acc.2 ++ (deleteP f acc.1 ((C.cel s).cap.obj.idx.toNat * 16 + j)).2)) (fun _ r => CI r.1 ∧ Shr (cutP C s) r.1 ∧ Fre C.ent r.1.ent r.2 ∧ (C.cel s).cap ∈ r.2) (cutP C s, [(C.cel s).cap]) n ?_ ?_
        · exact ⟨hcut, Shr.refl _, fun _ => .inl rfl, by simp⟩
        · rintro j ⟨Ck, l⟩ hj ⟨k1, k2, k3, k4⟩
          dsimp only at k1 k2 k3 k4 ⊢
          have hpk := (k2.stay _ hN hpN hun').1
          have hck : cnt Ck ≤ cnt (cutP C s) := cnt_mono (fun t ht => (k2.full ht).1)
          have hd : ((C.cel s).cap.obj.idx.toNat * 16 + j) / 16 = (C.cel s).cap.obj.idx.toNat := by omega
          have d := del_ok f Ck ((C.cel s).cap.obj.idx.toNat * 16 + j) k1 (by omega) (by omega) (by rw [hd]; exact hpk)
          have d2 := ih Ck ((C.cel s).cap.obj.idx.toNat * 16 + j) k1 (by omega) (by omega) (by rw [hd]; exact hpk)
          exact ⟨d.ci, k2.trans d.shr, k3.trans d2, List.mem_append_left _ k4⟩
      have hr := hrow 16 (Nat.le_refl _)
      dsimp only at hr ⊢
      generalize (List.range 16).foldl (fun (acc : CP × List Cp) j => ((deleteP f acc.1 ((C.cel s).cap.obj.idx.toNat * 16 + j)).1, acc.2 ++ (deleteP f acc.1 ((C.cel s).cap.obj.idx.toNat * 16 + j)).2)) (cutP C s, [(C.cel s).cap]) = r at hr ⊢
      obtain ⟨_, k2, k3, k4⟩ := hr
      have hst2 := (k2.stay _ hN hpN hun').2
      have hf1 := free_fre (E := r.1.ent) (c := (C.cel s).cap) ⟨hok.1, hok.2.1, hok.2.2.1, hok.2.2.2.1, by rw [hst2]; exact hok.2.2.2.2.1, by rw [hst2]; exact hok.2.2.2.2.2⟩
      refine (k3.trans hf1).mono (fun c hc => ?_)
      rcases List.mem_append.1 hc with hc | hc
      · exact hc
      · simp at hc; subst hc; exact k4
    · rw [if_neg h2]; exact free_fre hok

theorem rev_fre (s : Int) : ∀ (f : Nat) (C : CP) (acc : List Cp), CI C → (∀ c ∈ acc, c ∈ (revokeP f C s acc).2) ∧ Fre C.ent (revokeP f C s acc).1.ent (revokeP f C s acc).2
  | 0, C, acc, _ => ⟨fun _ h => h, fun _ => .inl rfl⟩
  | f + 1, C, acc, h => by
    rw [revokeP]
    split
    · exact ⟨fun _ h => h, fun _ => .inl rfl⟩
    · rename_i hne
      rcases nextUp_full (C := C) (s := s) (n := 4096) (Nat.le_refl _) with hq | ⟨m, h1, h2, h3⟩
      · exact absurd hq hne
      · rw [h1, Int.toNat_natCast]
        have hlt : cnt C < 4097 := by have := cnt_le (C := C); omega
        have d := del_ok 4097 C m h hlt h3.1 h3.2.1
        have d2 := del_fre 4097 C m h hlt h3.1 h3.2.1
        have r := rev_fre s f (deleteP 4097 C m).1 (acc ++ (deleteP 4097 C m).2) d.ci
        refine ⟨fun c hc => r.1 c (List.mem_append_left _ hc), (d2.trans r.2).mono (fun c hc => ?_)⟩
        rcases List.mem_append.1 hc with hc | hc
        · exact r.1 c (List.mem_append_right _ hc)
        · exact hc

/-! Burials -/

/-- Nobody is, or waits on, what the capability names. -/
structure Clean (S : KP) (c : Cp) : Prop where
  thr : c.ty = 3 → (S.tcb c.obj.idx.toNat).st = 0 ∧ ∀ i, i < 256 → ¬ ((S.tcb i).st = 6 ∧ (S.tcb i).wait = c.obj)
  que : c.ty = 4 ∨ c.ty = 5 → ∀ i, i < 256 → ¬ (((S.tcb i).st = 3 ∨ (S.tcb i).st = 4 ∨ (S.tcb i).st = 5) ∧ (S.tcb i).wait.idx.toNat = c.obj.idx.toNat)

theorem Clean.tame {S S' : KP} {c : Cp} (h : Clean S c) (ht : Tame S S') : Clean S' c where
  thr hc := by
    obtain ⟨h1, h2⟩ := h.thr hc
    refine ⟨?_, fun i hi hq => ?_⟩
    · rcases ht.t c.obj.idx.toNat with a | a
      · exact (congrArg Prod.fst a).trans h1
      · exact Classical.byContradiction fun hq => a.2.2 hq h1
    · rcases ht.t i with a | a
      · have e1 : (S'.tcb i).st = (S.tcb i).st := congrArg Prod.fst a
        have e2 : (S'.tcb i).wait = (S.tcb i).wait := congrArg Prod.snd a
        rw [e1, e2] at hq; exact h2 i hi hq
      · have := a.1; omega
  que hc i hi hq := by
    rcases ht.t i with a | a
    · have e1 : (S'.tcb i).st = (S.tcb i).st := congrArg Prod.fst a
      have e2 : (S'.tcb i).wait = (S.tcb i).wait := congrArg Prod.snd a
      rw [e1, e2] at hq; exact h.que hc i hi hq
    · have := a.1; omega

theorem tame_wakeRep (S : KP) (o : Rf) : ∀ n, Tame S (wakeRep S o n)
  | 0 => Tame.refl S
  | n + 1 => by
    rw [wakeRep]; split
    · rename_i h
      exact (tame_wakeRep S o n).trans (tame_wake (by rw [Int.toNat_natCast]; omega))
    · exact tame_wakeRep S o n

theorem wakeRep_none (S : KP) (o : Rf) : ∀ n i, i < n → ¬ (((wakeRep S o n).tcb i).st = 6 ∧ ((wakeRep S o n).tcb i).wait = o)
  | 0, i, hi => by omega
  | n + 1, i, hi => by
    rw [wakeRep]
    by_cases hc : ((wakeRep S o n).tcb n).st = 6 ∧ ((wakeRep S o n).tcb n).wait = o
    · rw [if_pos hc]
      have hs := sw_wake (wakeRep S o n) (n : Int) i
      rw [Int.toNat_natCast] at hs
      by_cases e : i = n
      · rw [if_pos e] at hs
        have h1 : ((wakeP (wakeRep S o n) (n : Int)).tcb i).st = 1 := congrArg Prod.fst hs
        intro hq; omega
      · rw [if_neg e] at hs
        have h1 : ((wakeP (wakeRep S o n) (n : Int)).tcb i).st = ((wakeRep S o n).tcb i).st := congrArg Prod.fst hs
        have h2 : ((wakeP (wakeRep S o n) (n : Int)).tcb i).wait = ((wakeRep S o n).tcb i).wait := congrArg Prod.snd hs
        rw [h1, h2]; exact wakeRep_none S o n i (by omega)
    · rw [if_neg hc]
      by_cases e : i = n
      · subst e; exact hc
      · exact wakeRep_none S o n i (by omega)

theorem tame_drain : ∀ (f : Nat) {S : KP}, RI S → LI S → ∀ {i : Nat}, i < 256 → Tame S (drainP f S i)
  | 0, S, _, _, _, _ => Tame.refl S
  | f + 1, S, hR, ⟨Q, hQ⟩, i, hi => by
    rw [drainP]; split
    · exact Tame.refl S
    · rename_i hne
      have hd := hQ.head hi
      cases hq : Q (.w i) with
      | nil => rw [hq] at hd; exact absurd hd hne
      | cons x r =>
        have hd' : (S.wq i).head = (x : Int) := by rw [hd, hq]; rfl
        obtain ⟨hx, Q', h1, h2⟩ := wake_head hR hQ hi hq
        have hp : place (S.tcb x) = some (.w i) := (hQ.lx.mem (L := .w i) hi x hx).1 (by rw [hq]; simp)
        have hst : (S.tcb x).st ≠ 0 := by
          intro h0; unfold place at hp; rw [h0, if_neg (by decide), if_neg (by decide)] at hp; cases hp
        rw [hd']
        exact (tame_wake (by rw [Int.toNat_natCast]; exact hst)).trans (tame_drain f (wake_RI hR ⟨by omega, by omega⟩) ⟨Q', h1⟩ hi)

theorem tame_bury {S : KP} (hR : RI S) (hL : LI S) {c : Cp} (hc : 0 ≤ c.obj.idx ∧ c.obj.idx < 256) : Tame S (buryP S c) ∧ Clean (buryP S c) c := by
  unfold buryP
  split
  · rename_i h3
    have t1 : Tame S ((leaveP S c.obj.idx).setT c.obj.idx.toNat noT) := by
      refine (tame_leave S c.obj.idx).trans ⟨fun i => ?_, fun i => .inl rfl⟩
      by_cases e : i = c.obj.idx.toNat
      · rw [e, setT_same]; exact .inr ⟨by decide, rfl, fun hq => absurd rfl hq⟩
      · rw [setT_other _ _ e]; exact .inl rfl
    have h0 : (((leaveP S c.obj.idx).setT c.obj.idx.toNat noT).tcb c.obj.idx.toNat).st = 0 := by rw [setT_same]; rfl
    generalize (leaveP S c.obj.idx).setT c.obj.idx.toNat noT = S1 at t1 h0 ⊢
    have t2 := tame_wakeRep S1 c.obj 256
    have hn := wakeRep_none S1 c.obj 256
    obtain ⟨S2, hS2⟩ : ∃ x, wakeRep S1 c.obj 256 = x := ⟨_, rfl⟩
    rw [hS2] at t2 hn ⊢
    refine ⟨t1.trans t2, ⟨fun _ => ⟨?_, hn⟩, fun hq => by omega⟩⟩
    rcases t2.t c.obj.idx.toNat with a | a
    · exact (congrArg Prod.fst a).trans h0
    · exact Classical.byContradiction fun hq => a.2.2 hq h0
  · split
    · rename_i h3 h4
      obtain ⟨Q, hQ⟩ := hL
      have hl := nodup_len (hQ.lx.ch (L := .w c.obj.idx.toNat) (show _ < 256 by omega)).nd (hQ.lx.ch (L := .w c.obj.idx.toNat) (show _ < 256 by omega)).lt
      obtain ⟨r1, ⟨Q1, l1⟩, hh⟩ := drain_ok 257 hR hQ (i := c.obj.idx.toNat) (by omega) (by omega)
      have t1 := tame_drain 257 hR ⟨Q, hQ⟩ (i := c.obj.idx.toNat) (by omega)
      obtain ⟨S1, hS1⟩ : ∃ x, drainP 257 S c.obj.idx.toNat = x := ⟨_, rfl⟩
      rw [hS1] at r1 l1 hh t1 ⊢
      have t2 : Tame S1 { S1 with word := upd S1.word c.obj.idx.toNat 0 } := ⟨fun _ => .inl rfl, fun i => by
        dsimp only; unfold upd; split
        · exact .inr rfl
        · exact .inl rfl⟩
      refine ⟨t1.trans t2, ⟨fun hq => absurd hq h3, fun _ i hi hq => ?_⟩⟩
      have hd := l1.head (i := c.obj.idx.toNat) (by omega)
      rw [hh] at hd
      have hnil := hdI_neg hd.symm
      have hp : place (S1.tcb i) = some (.w c.obj.idx.toNat) := by
        have hq1 := hq.1
        have hq2 := hq.2
        dsimp only at hq1 hq2
        unfold place; rw [if_neg (by omega), if_pos hq1, hq2]
      have := (l1.lx.mem (L := .w c.obj.idx.toNat) (show _ < 256 by omega) i hi).2 hp
      rw [hnil] at this; cases this
    · rename_i h3 h4
      exact ⟨Tame.refl S, ⟨fun hq => absurd hq h3, fun hq => absurd hq h4⟩⟩

theorem tame_buryAll : ∀ (l : List Cp) {S : KP}, RI S → LI S → (∀ c ∈ l, 2 ≤ c.ty ∧ c.ty < 6 ∧ 0 ≤ c.obj.idx ∧ c.obj.idx < 256) → Tame S (buryAll S l) ∧ ∀ c ∈ l, Clean (buryAll S l) c
  | [], S, _, _, _ => ⟨Tame.refl S, fun _ h => by cases h⟩
  | c :: l, S, hR, h, hc => by
    have h1 := bury_ok hR h (c := c) (hc c (by simp)).2.2
    have t1 := tame_bury hR h (c := c) (hc c (by simp)).2.2
    have t2 := tame_buryAll l h1.1 h1.2 (fun x hx => hc x (List.mem_cons_of_mem _ hx))
    refine ⟨t1.1.trans t2.1, fun x hx => ?_⟩
    rcases List.mem_cons.1 hx with e | e
    · subst e; exact t1.2.tame t2.1
    · exact t2.2 x e

/-- What is freed and buried is named by no thread. -/
theorem XI.freed {S : KP} {E E' : Nat → Ent} {l : List Cp} (h : XI S E) (hf : Fre E E' l) (hR : RI S) (hc : ∀ c ∈ l, Clean S c) : XI S E' := by
  intro i hi
  have xt := h i hi
  have hwi := (hR.t hi).wi
  have key : ∀ k, k ≠ 0 → typeOfP E (S.tcb i).wait = k → (∀ c ∈ l, ¬ (c.ty = k ∧ c.obj = (S.tcb i).wait)) → typeOfP E' (S.tcb i).wait = k := by
    intro k hk ht hn
    have ht' := ht
    unfold typeOfP at ht ⊢
    rw [if_neg (by omega)] at ht ⊢
    split at ht
    · exact absurd ht.symm hk
    · rename_i hg
      rcases hf (S.tcb i).wait.idx.toNat with a | ⟨c, hcl, a⟩
      · rw [a, if_neg hg]; exact ht
      · exfalso
        refine hn c hcl ⟨?_, ?_⟩
        · rw [← a.2.2.2.2.2.1]; exact ht
        · have e1 : c.obj.idx = (S.tcb i).wait.idx := by have := a.2.2.2.2.1; omega
          have e2 : c.obj.gen = (S.tcb i).wait.gen := by rw [← a.2.2.2.2.2.2]; exact Classical.byContradiction hg
          cases hx : c.obj; cases hy : (S.tcb i).wait
          rw [hx, hy] at e1 e2; simp only at e1 e2; rw [e1, e2]
  refine ⟨xt.rng, fun hs => ?_, xt.idle, fun hs => ?_, fun hs => ⟨?_, (xt.w5 hs).2⟩, fun hs => ?_⟩
  · rcases hf i with a | ⟨c, hcl, a⟩
    · rw [a]; exact xt.live hs
    · exfalso
      have h3 : c.ty = 3 := by rw [← a.2.2.2.2.2.1]; exact xt.live hs
      have := ((hc c hcl).thr h3).1
      rw [a.2.2.2.2.1] at this
      exact hs this
  · refine key 4 (by decide) (xt.w4 hs) (fun c hcl hq => ?_)
    refine (hc c hcl).que (.inl hq.1) i hi ⟨?_, by rw [hq.2]⟩
    rcases hs with hs | hs
    · exact .inl hs
    · exact .inr (.inl hs)
  · refine key 5 (by decide) (xt.w5 hs).1 (fun c hcl hq => ?_)
    exact (hc c hcl).que (.inr hq.1) i hi ⟨.inr (.inr hs), by rw [hq.2]⟩
  · refine key 3 (by decide) (xt.w6 hs) (fun c hcl hq => ?_)
    exact ((hc c hcl).thr hq.1).2 i hi ⟨hs, hq.2.symm⟩

section
variable {S : KP} {C : CP} {ev : Ev}

theorem XI.bury (h : XI S C.ent) (h2 : Ok2 S) {r : CP × List Cp} (hf : Fre C.ent r.1.ent r.2) (hd : ∀ c ∈ r.2, 2 ≤ c.ty ∧ c.ty < 6 ∧ 0 ≤ c.obj.idx ∧ c.obj.idx < 256) : XI (buryAll S r.2) r.1.ent := by
  have b := buryAll_ok r.2 h2.ri h2.li hd
  have t := tame_buryAll r.2 h2.ri h2.li hd
  exact (h.tame t.1).freed hf b.1 t.2

theorem XI.drop (h : XI S C.ent) (h2 : Ok2 S) (hC : CI C) (he : EvOk ev) (hcur : 0 ≤ S.cur ∧ S.cur < 256) : XI (dropP S C ev).1 (dropP S C ev).2.1.ent := by
  have hn : S.cur.toNat < 256 := by omega
  have hci := (h2.ri.t hn).ci
  unfold dropP
  dsimp only
  split
  · exact h
  rename_i h0
  split
  · exact h
  obtain ⟨i, j, h1, h2', h3, h4⟩ := look_fact hC (r := (S.tcb S.cur.toNat).cs) hci.1 he.addr.1 (s := (lookP C.ent (S.tcb S.cur.toNat).cs ev.addr).1) (k := (lookP C.ent (S.tcb S.cur.toNat).cs ev.addr).2) rfl (Classical.byContradiction h0)
  split
  · have r := rev_ok (lookP C.ent (S.tcb S.cur.toNat).cs ev.addr).1 4097 C [] hC (fun _ hq => by cases hq)
    have r2 := (rev_fre (lookP C.ent (S.tcb S.cur.toNat).cs ev.addr).1 4097 C [] hC).2
    obtain ⟨rr, hrr⟩ : ∃ x, revokeP 4097 C (lookP C.ent (S.tcb S.cur.toNat).cs ev.addr).1 [] = x := ⟨_, rfl⟩
    rw [hrr] at r r2 ⊢
    exact h.bury h2 r2 r.dead
  · have hlt : cnt C < 4097 := by have := cnt_le (C := C); omega
    have d := del_ok 4097 C (lookP C.ent (S.tcb S.cur.toNat).cs ev.addr).1.toNat hC hlt (by rw [h4]; omega) (by rw [h4, Int.toNat_natCast, show (i * 16 + j) / 16 = i by omega]; exact h3)
    have d2 := del_fre 4097 C (lookP C.ent (S.tcb S.cur.toNat).cs ev.addr).1.toNat hC hlt (by rw [h4]; omega) (by rw [h4, Int.toNat_natCast, show (i * 16 + j) / 16 = i by omega]; exact h3)
    obtain ⟨rr, hrr⟩ : ∃ x, deleteP 4097 C (lookP C.ent (S.tcb S.cur.toNat).cs ev.addr).1.toNat = x := ⟨_, rfl⟩
    rw [hrr] at d d2 ⊢
    exact h.bury h2 d2 d.dead

/-- A new entry in a free place. -/
theorem XI.fresh {E : Nat → Ent} (h : XI S E) {k : Nat} {e : Ent} (hk : (E k).ty = 0) : XI S (upd E k e) := by
  intro i hi
  have xt := h i hi
  have key : ∀ (r : Rf) (q : Int), q ≠ 0 → typeOfP E r = q → typeOfP (upd E k e) r = q := by
    intro r q hq ht
    unfold typeOfP at ht ⊢
    split at ht
    · exact absurd ht.symm hq
    · rename_i hr
      rw [if_neg hr]
      by_cases ek : r.idx.toNat = k
      · rw [ek] at ht; rw [hk] at ht; exfalso
        split at ht <;> exact hq ht.symm
      · rw [upd_other _ _ ek]; exact ht
  refine ⟨xt.rng, fun hs => ?_, xt.idle, fun hs => key _ _ (by decide) (xt.w4 hs), fun hs => ⟨key _ _ (by decide) (xt.w5 hs).1, (xt.w5 hs).2⟩, fun hs => key _ _ (by decide) (xt.w6 hs)⟩
  have := xt.live hs
  rw [upd_other _ _ (fun e => by rw [e, hk] at this; cases this)]; exact this

theorem XI.retype0 {E : Nat → Ent} (h : XI S E) (t : Int) : XI S (retype0 E t).1 := by
  have hsc := scan_slot (E := E) 256 0 (-1) (by decide) (by decide) (by decide) (by decide)
  unfold Kn.retype0
  dsimp only
  generalize scanP E 256 0 (-1) = sc at hsc ⊢
  split
  · exact h
  split
  · exact h
  · rename_i h1 h2
    dsimp only
    refine h.fresh ?_
    rcases hsc.2.2.2 with e | e
    · omega
    · exact e.2

theorem retype_ent (S : KP) (C : CP) (ev : Ev) : (retypeP S C ev).1.ent = C.ent ∨ (retypeP S C ev).1.ent = (retype0 C.ent ev.ty).1 := by
  unfold retypeP; dsimp only
  split
  · exact .inl rfl
  split
  · exact .inl rfl
  split
  · exact .inl rfl
  split
  · exact .inl rfl
  split
  · exact .inr rfl
  split
  · exact .inr rfl
  · exact .inr rfl

theorem XI.retype (h : XI S C.ent) : XI S (retypeP S C ev).1.ent := by
  rcases retype_ent S C ev with e | e
  · rw [e]; exact h
  · rw [e]; exact h.retype0 _

theorem copy_ent (S : KP) (C : CP) (ev : Ev) : (copyCapP S C ev).1.ent = C.ent := by
  unfold copyCapP; dsimp only
  split
  · rfl
  split
  · rfl
  split <;> rfl

theorem send_ent (S : KP) (C : CP) (ev : Ev) : (sendP S C ev).2.1.ent = C.ent := by
  unfold sendP
  extract_lets f t S1 x1 S2 x2 S3 x3 S4 x4 S5 d S7
  split
  · rfl
  split
  · rfl
  split
  · rfl
  · exact deliver_ent _ _ _ _

theorem recv_ent (S : KP) (C : CP) (ev : Ev) (ou : Outp) : (recvP S C ev ou).2.1.ent = C.ent := by
  unfold recvP; dsimp only
  split
  · rfl
  split
  · rfl
  · exact deliver_ent _ _ _ _

theorem XI.sys (h : XI S C.ent) (h2 : Ok2 S) (hC : CI C) (he : EvOk ev) (hcur : 0 ≤ S.cur ∧ S.cur < 256) (ou : Outp) : XI (sysP S C ev ou).1 (sysP S C ev ou).2.1.ent := by
  have hcl := h.curLive h2 hcur
  unfold sysP
  by_cases k0 : ev.kind = 2
  · rw [if_pos k0]; exact h.wake hcl.2
  rw [if_neg k0]
  by_cases k1 : ev.kind = 3
  · rw [if_pos k1]; exact h.tame (tame_draw _ _)
  rw [if_neg k1]
  by_cases k2 : ev.kind = 4 ∨ ev.kind = 5
  · rw [if_pos k2]; dsimp only; rw [send_ent]; exact h.send h2 hC he hcur
  rw [if_neg k2]
  by_cases k3 : ev.kind = 6
  · rw [if_pos k3]; rw [recv_ent]; exact h.recv h2 hC he hcur ou
  rw [if_neg k3]
  by_cases k4 : ev.kind = 7
  · rw [if_pos k4]; exact h.reply h2 hcur
  rw [if_neg k4]
  by_cases k5 : ev.kind = 8
  · rw [if_pos k5]; exact h.sig h2 hC he hcur
  rw [if_neg k5]
  by_cases k6 : ev.kind = 9
  · rw [if_pos k6]; exact h.wait h2 hC he hcur ou
  rw [if_neg k6]
  by_cases k7 : ev.kind = 10
  · rw [if_pos k7]; exact h.retype
  rw [if_neg k7]
  by_cases k8 : ev.kind = 11
  · rw [if_pos k8]; dsimp only; rw [copy_ent]; exact h
  rw [if_neg k8]
  by_cases k9 : ev.kind = 12 ∨ ev.kind = 13
  · rw [if_pos k9]; exact h.drop h2 hC he hcur
  rw [if_neg k9]
  by_cases k10 : ev.kind = 18 ∨ ev.kind = 19
  · rw [if_pos k10]; exact h.line
  rw [if_neg k10]
  exact h.control h2 hC he hcur

theorem XI.step0 (h : XI S C.ent) (h2 : Ok2 S) (hC : CI C) (he : EvOk ev) : XI (step0 S C ev).1 (step0 S C ev).2.1.ent := by
  unfold Kn.step0
  by_cases k0 : ev.kind = 0
  · rw [if_pos k0]
    dsimp only
    have h1 : XI { S with now := IntKind.wrap .u64 (S.now + 1) } C.ent := h
    by_cases hc : S.cur ≠ -1
    · rw [if_pos hc]
      exact h1.wake (h.curLive h2 (lk_nat h2.ri.cur hc)).2
    · rw [if_neg hc]; exact h1
  rw [if_neg k0]
  by_cases k1 : ev.kind = 1
  · rw [if_pos k1]; exact h.int h2 he.arg.1
  rw [if_neg k1]
  by_cases k2 : ev.kind ≥ 20
  · rw [if_pos k2]; exact h
  rw [if_neg k2]
  by_cases k3 : S.cur = -1
  · rw [if_pos k3]; exact h
  rw [if_neg k3]
  exact h.sys h2 hC he (lk_nat h2.ri.cur k3) out0

end

/-! The scheduler -/

/-- What the scheduler leaves alone. -/
structure Sch (S S' : KP) (Q : QL → List Nat) : Prop where
  tm : Tame S S'
  rs : Rst S S'
  qs : ∃ Q', LIQ S' Q' ∧ ∀ i, i < 256 → Q' (.w i) = Q (.w i)
  un : ∀ i, unl (S'.tcb i) = unl { S.tcb i with st := (S'.tcb i).st, wait := (S'.tcb i).wait }
  st : ∀ i, i < 256 → (S'.tcb i).st = (S.tcb i).st ∨ (((S.tcb i).st = 1 ∨ (S.tcb i).st = 2) ∧ ((S'.tcb i).st = 1 ∨ (S'.tcb i).st = 2))

theorem unl_sw {x y : Tcb} (h : unl x = unl y) : unl x = unl { y with st := x.st, wait := x.wait } := by
  have h1 : x.st = y.st := show (unl x).st = (unl y).st by rw [h]
  have h2 : x.wait = y.wait := show (unl x).wait = (unl y).wait by rw [h]
  rw [h1, h2]; exact h

theorem Sch.refl {S : KP} {Q : QL → List Nat} (h : LIQ S Q) : Sch S S Q := ⟨Tame.refl S, Rst.refl S, ⟨Q, h, fun _ _ => rfl⟩, fun _ => rfl, fun _ _ => .inl rfl⟩

theorem Sch.trans {S S1 S2 : KP} {Q Q1 : QL → List Nat} (h : Sch S S1 Q) (hq : ∀ i, i < 256 → Q1 (.w i) = Q (.w i)) (h' : Sch S1 S2 Q1) : Sch S S2 Q where
  tm := h.tm.trans h'.tm
  rs := h.rs.trans h'.rs
  qs := by
    obtain ⟨Q2, a, b⟩ := h'.qs
    exact ⟨Q2, a, fun i hi => (b i hi).trans (hq i hi)⟩
  un i := by
    rw [h'.un i]
    have := h.un i
    have key : ∀ (x y : Tcb) (s : Int) (w : Rf), unl x = unl { y with st := x.st, wait := x.wait } → unl { x with st := s, wait := w } = unl { y with st := s, wait := w } := by
      intro x y s w e
      have e2 : ({ unl x with st := s, wait := w } : Tcb) = { unl { y with st := x.st, wait := x.wait } with st := s, wait := w } := by rw [e]
      exact e2
    exact key _ _ _ _ this
  st i hi := by
    rcases h.st i hi with a | a <;> rcases h'.st i hi with b | b
    · exact .inl (b.trans a)
    · rw [a] at b; exact .inr b
    · right; rw [b]; exact a
    · exact .inr ⟨a.1, b.2⟩

theorem unl_ite {x y : Tcb} {p : Prop} [Decidable p] {s : Int} {w : Rf} (h : unl x = unl (if p then { y with st := s, wait := w } else y)) : unl x = unl { y with st := x.st, wait := x.wait } := by
  by_cases hp : p
  · rw [if_pos hp] at h
    have h1 : x.st = s := show (unl x).st = s by rw [h]; rfl
    have h2 : x.wait = w := show (unl x).wait = w by rw [h]; rfl
    rw [h1, h2]; exact h
  · rw [if_neg hp] at h; exact unl_sw h

theorem sch_wake {S : KP} (hR : RI S) {Q : QL → List Nat} (hQ : LIQ S Q) {t : Nat} (ht : t < 256) (hs : (S.tcb t).st = 2) : Sch S (wakeP S (t : Int)) Q := by
  have hpl : place (S.tcb t) = none := by unfold place; rw [hs]; rfl
  have hw := wake_LIQ hR hQ ht
  rw [hpl] at hw
  refine ⟨tame_wake (by rw [Int.toNat_natCast]; omega), wake_rst _ _, ⟨_, hw, fun i _ => ?_⟩, fun i => unl_ite (unl_wake S (t : Int) i), fun i _ => ?_⟩
  · unfold qPush qCut
    rw [if_neg (by intro hz; cases hz), if_neg (by intro hz; cases hz)]
  · have h1 := sw_wake S (t : Int) i
    rw [Int.toNat_natCast] at h1
    by_cases e : i = t
    · rw [if_pos e] at h1
      have h2 : ((wakeP S (t : Int)).tcb i).st = 1 := congrArg Prod.fst h1
      rw [h2, e, hs]; exact .inr ⟨.inr rfl, .inl rfl⟩
    · rw [if_neg e] at h1; exact .inl (congrArg Prod.fst h1)

theorem sch_pick {S : KP} (hR : RI S) {Q : QL → List Nat} (hQ : LIQ S Q) {top pick : Int} (ht : 0 ≤ top ∧ top < 8) (hne : Q (.r top.toNat) ≠ []) (hp : 0 ≤ pick) (hc : S.cur = -1) : Sch S (pickP S top pick) Q := by
  have hav : Avail S top (Q (.r top.toNat)) := ⟨hQ.lx.ch (show _ < 8 by omega), hne⟩
  obtain ⟨y, h1, hy, e⟩ := pick_at hav hp
  obtain ⟨y', h1', _, hl⟩ := pick_LIQ hR hQ ht hne hp hc
  have hpl : place (S.tcb y) = some (.r top.toNat) := (hQ.lx.mem (show _ < 8 by omega) y hy).1 (List.mem_of_getElem? h1)
  have hst : (S.tcb y).st = 1 := by
    unfold place at hpl
    split at hpl
    · assumption
    · split at hpl <;> cases hpl
  have hpk : pickP S top pick = { (leaveP S (y : Int)).setT y { (leaveP S (y : Int)).tcb y with st := 2 } with cur := (y : Int) } := by
    unfold pickP; dsimp only; rw [e, Int.toNat_natCast]
  have hsw : ∀ i, sw ((pickP S top pick).tcb i) = if i = y then (2, ⟨0, 0⟩) else sw (S.tcb i) := by
    intro i
    rw [hpk]
    show sw (((leaveP S (y : Int)).setT y { (leaveP S (y : Int)).tcb y with st := 2 }).tcb i) = _
    have h2 := sw_leave S (y : Int) i
    rw [Int.toNat_natCast] at h2
    by_cases e2 : i = y
    · rw [if_pos e2] at h2 ⊢; rw [e2, setT_same]; rw [e2] at h2
      have h3 : ((leaveP S (y : Int)).tcb y).wait = ⟨0, 0⟩ := congrArg Prod.snd h2
      unfold sw; dsimp only; rw [h3]
    · rw [if_neg e2] at h2 ⊢; rw [setT_other _ _ e2]; exact h2
  have hrs : Rst S (pickP S top pick) := by
    have := leave_rst S (y : Int)
    rw [hpk]; exact ⟨this.w, this.i, this.n⟩
  refine ⟨⟨fun i => ?_, fun i => .inl (by rw [hrs.w])⟩, hrs, ⟨_, hl, fun i _ => ?_⟩, fun i => ?_, fun i _ => ?_⟩
  · have h2 := hsw i
    by_cases e2 : i = y
    · rw [if_pos e2] at h2
      have h3 : ((pickP S top pick).tcb i).st = 2 := congrArg Prod.fst h2
      have h4 : ((pickP S top pick).tcb i).wait = ⟨0, 0⟩ := congrArg Prod.snd h2
      exact .inr ⟨by omega, h4, fun _ => by rw [e2]; omega⟩
    · rw [if_neg e2] at h2; exact .inl h2
  · unfold qCut; rw [if_neg (by intro hz; cases hz)]
  · have h2 := unl_ite (unl_leave S (y : Int) i)
    have key : ∀ (x z w : Tcb), unl x = unl { z with st := x.st, wait := x.wait } → unl { x with st := w.st } = unl { z with st := w.st, wait := x.wait } := by
      intro x z w e
      have e2 : ({ unl x with st := w.st } : Tcb) = { unl { z with st := x.st, wait := x.wait } with st := w.st } := by rw [e]
      exact e2
    rw [hpk]
    show unl (((leaveP S (y : Int)).setT y { (leaveP S (y : Int)).tcb y with st := 2 }).tcb i) = unl { S.tcb i with st := (((leaveP S (y : Int)).setT y { (leaveP S (y : Int)).tcb y with st := 2 }).tcb i).st, wait := (((leaveP S (y : Int)).setT y { (leaveP S (y : Int)).tcb y with st := 2 }).tcb i).wait }
    by_cases e2 : i = y
    · subst e2; rw [setT_same]
      exact key ((leaveP S (i : Int)).tcb i) (S.tcb i) { (leaveP S (i : Int)).tcb i with st := 2 } h2
    · rw [setT_other _ _ e2]; exact h2
  · have h2 := hsw i
    by_cases e2 : i = y
    · rw [if_pos e2] at h2
      have h3 : ((pickP S top pick).tcb i).st = 2 := congrArg Prod.fst h2
      right; rw [h3, e2, hst]; exact ⟨.inl rfl, .inr rfl⟩
    · rw [if_neg e2] at h2; exact .inl (congrArg Prod.fst h2)

theorem sched_sch {S : KP} (hR : RI S) {Q : QL → List Nat} (hQ : LIQ S Q) {pick : Int} (hp : 0 ≤ pick) : Sch S (schedP S pick) Q := by
  have ht := top_all hQ.by_
  unfold schedP
  split
  · rename_i hc
    have hcur := lk_nat hR.cur hc
    split
    · exact Sch.refl hQ
    · rename_i hlt
      have hst : (S.tcb S.cur.toNat).st = 2 := (hQ.cu S.cur.toNat (by omega)).2 (by omega)
      have hpl : place (S.tcb S.cur.toNat) = none := by unfold place; rw [hst]; rfl
      have hw := wake_LIQ hR hQ (t := S.cur.toNat) (by omega)
      have hsw := sch_wake hR hQ (t := S.cur.toNat) (by omega) hst
      have hwR := wake_RI hR hcur
      rw [show ((S.cur.toNat : Nat) : Int) = S.cur by omega] at hw hsw
      rw [hpl] at hw
      have hpr := (hR.t (i := S.cur.toNat) (by omega)).pr
      split
      · exact hsw
      · have hne : qPush (qCut Q none S.cur.toNat) (.r (S.tcb S.cur.toNat).prio.toNat) S.cur.toNat (.r (topP S.busy).toNat) ≠ [] := by
          unfold qPush qCut
          rw [if_neg (by intro hq; simp at hq; omega), if_neg (by intro hq; cases hq)]
          exact (hQ.bz _ (by omega)).1 (ht.2.2.1 (by omega))
        have hwc : (wakeP S S.cur).cur = -1 := by
          unfold wakeP; dsimp only; rw [push_cur, setT_cur, leave_curE, if_pos hst]
        refine hsw.trans (fun i _ => ?_) (sch_pick hwR hw (top := topP S.busy) (pick := pick) ⟨by omega, ht.2.1⟩ hne hp hwc)
        unfold qPush qCut
        rw [if_neg (by intro hz; cases hz), if_neg (by intro hz; cases hz)]
  · rename_i hc
    have hc' : S.cur = -1 := Classical.byContradiction hc
    split
    · exact Sch.refl hQ
    · have hne : Q (.r (topP S.busy).toNat) ≠ [] := (hQ.bz _ (by omega)).1 (ht.2.2.1 (by omega))
      exact sch_pick hR hQ (top := topP S.busy) (pick := pick) ⟨by omega, ht.2.1⟩ hne hp hc'

theorem XI.step {S : KP} {C : CP} {ev : Ev} (h : XI S C.ent) (h2 : Ok2 S) (hC : CI C) (he : EvOk ev) : XI (stepP S C ev).1 (stepP S C ev).2.1.ent := by
  have h0 := h.step0 h2 hC he
  have h1 := step0_inv h2 hC he
  unfold stepP
  extract_lets r
  have g0 : XI r.1 r.2.1.ent := h0
  have g1 : Ok2 r.1 := h1.1
  clear_value r
  split
  · obtain ⟨Q, hQ⟩ := g1.li
    exact g0.tame (sched_sch g1.ri hQ he.pick.1).tm
  · exact g0

end Go.Kn

namespace Go.Proofs.Qxb6500918aDoor
open Go.Sx Go.Kn

theorem boot_XI : XI bootS bootC.ent := by
  intro i hi
  rw [boot_tcb i hi]
  split
  · rename_i e
    subst e
    exact xt_idle (by decide) (fun _ => by rw [boot_ent]; rfl)
  · exact xt_idle (by decide) (fun hq => absurd rfl hq)

end Go.Proofs.Qxb6500918aDoor
