/-
  What a deletion takes away: the dead are old objects, each once; all else stays.
-/
import Derived.Test.Qxb6500918aDoorOc
namespace Go.Kn
open Go.Sx

structure DL (E E' : Nat → Ent) (l : List Cp) : Prop where
  nd : (l.map (fun c => c.obj.idx.toNat)).Nodup
  dd : ∀ c ∈ l, (2 ≤ c.ty ∧ c.ty < 6 ∧ 0 ≤ c.obj.idx ∧ c.obj.idx < 256 ∧ (E c.obj.idx.toNat).gen = c.obj.gen ∧ (E c.obj.idx.toNat).ty = c.ty) ∧ E' c.obj.idx.toNat = ⟨0, IntKind.wrap .u32 (c.obj.gen + 1), 0, 0⟩
  st : ∀ i, (∀ c ∈ l, c.obj.idx.toNat ≠ i) → E' i = E i

theorem DL.nil (E : Nat → Ent) : DL E E [] := ⟨by simp, (fun c hc => by cases hc), fun _ _ => rfl⟩

theorem DL.perm {E E' : Nat → Ent} {l l' : List Cp} (h : DL E E' l) (hp : l.Perm l') : DL E E' l' :=
  ⟨(hp.map _).nodup_iff.1 h.nd, fun c hc => h.dd c (hp.mem_iff.2 hc), fun i hi => h.st i (fun c hc => hi c (hp.mem_iff.1 hc))⟩

theorem DL.trans {E E1 E2 : Nat → Ent} {l l' : List Cp} (h : DL E E1 l) (h' : DL E1 E2 l') : DL E E2 (l ++ l') := by
  have hdis : ∀ c ∈ l, ∀ d ∈ l', d.obj.idx.toNat ≠ c.obj.idx.toNat := fun c hc d hd e => by
    have h1 := (h.dd c hc).2
    have h2 := (h'.dd d hd).1
    rw [e, h1] at h2
    have h3 : (0 : Int) = d.ty := h2.2.2.2.2.2
    omega
  refine ⟨?_, fun c hc => ?_, fun i hi => ?_⟩
  · rw [List.map_append, List.nodup_append]
    refine ⟨h.nd, h'.nd, fun x hx y hy e => ?_⟩
    obtain ⟨c, hc, rfl⟩ := List.mem_map.1 hx
    obtain ⟨d, hd, rfl⟩ := List.mem_map.1 hy
    exact hdis c hc d hd e.symm
  · rcases List.mem_append.1 hc with hc | hc
    · have h1 := h.dd c hc
      refine ⟨h1.1, ?_⟩
      rw [h'.st _ (fun d hd => hdis c hc d hd)]
      exact h1.2
    · have h1 := h'.dd c hc
      have h2 : E1 c.obj.idx.toNat = E c.obj.idx.toNat := h.st _ (fun d hd e => hdis d hd c hc e.symm)
      rw [h2] at h1
      exact h1
  · rw [h'.st i (fun c hc => hi c (List.mem_append_right _ hc))]
    exact h.st i (fun c hc => hi c (List.mem_append_left _ hc))

theorem DL.free {E : Nat → Ent} {c : Cp} (hc : 2 ≤ c.ty ∧ c.ty < 6 ∧ 0 ≤ c.obj.idx ∧ c.obj.idx < 256 ∧ (E c.obj.idx.toNat).gen = c.obj.gen ∧ (E c.obj.idx.toNat).ty = c.ty) : DL E (freeP E c.obj) [c] := by
  rw [free_live hc]
  refine ⟨by simp, fun d hd => ?_, fun i hi => upd_other _ _ (fun e => hi c (by simp) e.symm)⟩
  simp at hd; subst hd
  exact ⟨hc, upd_same _ _ _⟩

theorem del_dl (f : Nat) : ∀ (C : CP) (s : Nat), CI C → cnt C < f → s < 4096 → C.pres (s / 16) = true → DL C.ent (deleteP f C s).1.ent (deleteP f C s).2 := by
  induction f with
  | zero => intro C s _ hf; omega
  | succ f ih =>
    intro C s h hf hs hp
    rw [deleteP]
    by_cases h0 : (C.cel s).cap.ty = 0
    · rw [if_pos h0]; exact DL.nil _
    rw [if_neg h0]
    have hfull : Full C s := ⟨hs, hp, h0⟩
    have hcut := cut_CI h hfull
    have hcc := cut_cnt hfull
    by_cases h1 : (C.cel s).cap.ty = 1 ∨ namedP (cutP C s) (C.cel s).cap.obj = true
    · rw [if_pos h1]; exact DL.nil _
    rw [if_neg h1]
    have hok : 2 ≤ (C.cel s).cap.ty ∧ (C.cel s).cap.ty < 6 ∧ 0 ≤ (C.cel s).cap.obj.idx ∧ (C.cel s).cap.obj.idx < 256 ∧ (C.ent (C.cel s).cap.obj.idx.toNat).gen = (C.cel s).cap.obj.gen ∧ (C.ent (C.cel s).cap.obj.idx.toNat).ty = (C.cel s).cap.ty := by
      rcases h.cap hfull with hq | hq
      · exact absurd (.inl hq.1) h1
      · exact hq
    have hun := unnamed_idx hcut (c := (C.cel s).cap) hok (fun hq => h1 (.inr hq))
    have hN : (C.cel s).cap.obj.idx.toNat < 256 := by omega
    have hun' : ∀ t, Full (cutP C s) t → ((cutP C s).cel t).cap.obj.idx ≠ (((C.cel s).cap.obj.idx.toNat : Nat) : Int) := fun t ht => by
      have := hun t ht; omega
    by_cases h2 : (C.cel s).cap.ty = 2
    · rw [if_pos h2]
      have hpN : (cutP C s).pres (C.cel s).cap.obj.idx.toNat = true := (h.node hN).1 (by rw [hok.2.2.2.2.2, h2])
      have hrow : ∀ n, n ≤ 16 → (fun (r : CP × List Cp) => CI r.1 ∧ Shr (cutP C s) r.1 ∧ ∃ l, r.2 = (C.cel s).cap :: l ∧ DL C.ent r.1.ent l) ((List.range n).foldl (fun (acc : CP × List Cp) j => ((deleteP f acc.1 ((C.cel s).cap.obj.idx.toNat * 16 + j)).1, acc.2 ++ (deleteP f acc.1 ((C.cel s).cap.obj.idx.toNat * 16 + j)).2)) (cutP C s, [(C.cel s).cap])) := by
        intro n hn
        refine foldl_range (fun (acc : CP × List Cp) j => ((deleteP f acc.1 ((C.cel s).cap.obj.idx.toNat * 16 + j)).1, acc.2 ++ (deleteP f acc.1 ((C.cel s).cap.obj.idx.toNat * 16 + j)).2)) (fun _ r => CI r.1 ∧ Shr (cutP C s) r.1 ∧ ∃ l, r.2 = (C.cel s).cap :: l ∧ DL C.ent r.1.ent l) (cutP C s, [(C.cel s).cap]) n ?_ ?_
        · exact ⟨hcut, Shr.refl _, [], rfl, DL.nil _⟩
        · rintro j ⟨Ck, l⟩ hj ⟨k1, k2, l0, k3, k4⟩
          dsimp only at k1 k2 k3 k4 ⊢
          have hpk := (k2.stay _ hN hpN hun').1
          have hck : cnt Ck ≤ cnt (cutP C s) := cnt_mono (fun t ht => (k2.full ht).1)
          have hd : ((C.cel s).cap.obj.idx.toNat * 16 + j) / 16 = (C.cel s).cap.obj.idx.toNat := by omega
          have d := del_ok f Ck ((C.cel s).cap.obj.idx.toNat * 16 + j) k1 (by omega) (by omega) (by rw [hd]; exact hpk)
          have d2 := ih Ck ((C.cel s).cap.obj.idx.toNat * 16 + j) k1 (by omega) (by omega) (by rw [hd]; exact hpk)
          exact ⟨d.ci, k2.trans d.shr, _, by rw [k3]; rfl, k4.trans d2⟩
      have hr := hrow 16 (Nat.le_refl _)
      dsimp only at hr ⊢
      generalize (List.range 16).foldl (fun (acc : CP × List Cp) j => ((deleteP f acc.1 ((C.cel s).cap.obj.idx.toNat * 16 + j)).1, acc.2 ++ (deleteP f acc.1 ((C.cel s).cap.obj.idx.toNat * 16 + j)).2)) (cutP C s, [(C.cel s).cap]) = r at hr ⊢
      obtain ⟨_, k2, l, k3, k4⟩ := hr
      have hst2 := (k2.stay _ hN hpN hun').2
      have hf1 := DL.free (E := r.1.ent) (c := (C.cel s).cap) ⟨hok.1, hok.2.1, hok.2.2.1, hok.2.2.2.1, by rw [hst2]; exact hok.2.2.2.2.1, by rw [hst2]; exact hok.2.2.2.2.2⟩
      rw [k3]
      exact (k4.trans hf1).perm (List.perm_append_singleton _ _)
    · rw [if_neg h2]; exact DL.free hok

theorem rev_dl (s : Int) : ∀ (f : Nat) (C : CP) (acc : List Cp), CI C → ∃ l, (revokeP f C s acc).2 = acc ++ l ∧ DL C.ent (revokeP f C s acc).1.ent l
  | 0, C, acc, _ => ⟨[], by simp [revokeP], by rw [revokeP]; exact DL.nil _⟩
  | f + 1, C, acc, h => by
    rw [revokeP]
    split
    · exact ⟨[], by simp, DL.nil _⟩
    · rename_i hne
      rcases nextUp_full (C := C) (s := s) (n := 4096) (Nat.le_refl _) with hq | ⟨m, h1, h2, h3⟩
      · exact absurd hq hne
      · rw [h1, Int.toNat_natCast]
        have hlt : cnt C < 4097 := by have := cnt_le (C := C); omega
        have d := del_ok 4097 C m h hlt h3.1 h3.2.1
        have d2 := del_dl 4097 C m h hlt h3.1 h3.2.1
        obtain ⟨l, r1, r2⟩ := rev_dl s f (deleteP 4097 C m).1 (acc ++ (deleteP 4097 C m).2) d.ci
        exact ⟨(deleteP 4097 C m).2 ++ l, by rw [r1, List.append_assoc], d2.trans r2⟩
end Go.Kn
