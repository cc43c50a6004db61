/-
  What deleting leaves: the invariant, fewer full cells.
-/
import Derived.Test.Qxb6500918aDoorKt
namespace Go.Kn
open Go.Sx

def fullB (C : CP) (s : Nat) : Bool := C.pres (s / 16) && decide ((C.cel s).cap.ty ≠ 0)
def cnt (C : CP) : Nat := (List.range 4096).countP (fullB C)

theorem full_iff {C : CP} {s : Nat} : Full C s ↔ s < 4096 ∧ fullB C s = true := by
  unfold Full fullB; simp

theorem cnt_le {C : CP} : cnt C ≤ 4096 := by
  have := List.countP_le_length (p := fullB C) (l := List.range 4096)
  simpa [cnt] using this

theorem countP_lt {p q : Nat → Bool} : ∀ {l : List Nat}, (∀ x ∈ l, p x = true → q x = true) → ∀ {y : Nat}, y ∈ l → p y = false → q y = true → l.countP p < l.countP q
  | [], _, _, hy, _, _ => by cases hy
  | x :: l, h, y, hy, hp, hq => by
    have hm : l.countP p ≤ l.countP q := List.countP_mono_left (fun z hz => h z (List.mem_cons_of_mem _ hz))
    rw [List.countP_cons, List.countP_cons]
    rcases List.mem_cons.1 hy with rfl | hy
    · rw [hp, hq]; simp; omega
    · have := countP_lt (fun z hz => h z (List.mem_cons_of_mem _ hz)) hy hp hq
      have hx := h x (List.mem_cons_self ..)
      cases hpx : p x
      · simp; omega
      · rw [hx hpx]; simp; omega

theorem cnt_mono {C C' : CP} (h : ∀ s, Full C' s → Full C s) : cnt C' ≤ cnt C :=
  List.countP_mono_left (fun s hs hq => (full_iff.1 (h s (full_iff.2 ⟨List.mem_range.1 hs, hq⟩))).2)

theorem cnt_lt {C C' : CP} (h : ∀ s, Full C' s → Full C s) {s : Nat} (h1 : Full C s) (h2 : ¬ Full C' s) : cnt C' < cnt C := by
  have h1' := full_iff.1 h1
  refine countP_lt (fun t ht hq => (full_iff.1 (h t (full_iff.2 ⟨List.mem_range.1 ht, hq⟩))).2) (List.mem_range.2 h1'.1) ?_ h1'.2
  cases hq : fullB C' s with
  | false => rfl
  | true => exact absurd (full_iff.2 ⟨h1'.1, hq⟩) h2

/-- What is left is part of what was; a node that nobody names stays. -/
structure Shr (C C' : CP) : Prop where
  pres : ∀ i : Nat, i < 256 → C'.pres i = true → C.pres i = true
  cell : ∀ s : Nat, s < 4096 → C'.pres (s / 16) = true → (C'.cel s).cap = (C.cel s).cap ∨ (C'.cel s).cap.ty = 0
  stay : ∀ i : Nat, i < 256 → C.pres i = true → (∀ s, Full C s → (C.cel s).cap.obj.idx ≠ i) → C'.pres i = true ∧ C'.ent i = C.ent i

theorem Shr.refl (C : CP) : Shr C C := ⟨fun _ _ h => h, fun _ _ _ => .inl rfl, fun _ _ h _ => ⟨h, rfl⟩⟩

theorem Shr.full {C C' : CP} (h : Shr C C') {s : Nat} (hs : Full C' s) : Full C s ∧ (C'.cel s).cap = (C.cel s).cap := by
  obtain ⟨h1, h2, h3⟩ := hs
  rcases h.cell s h1 h2 with e | e
  · exact ⟨⟨h1, h.pres _ (by omega) h2, by rw [← e]; exact h3⟩, e⟩
  · exact absurd e h3

theorem Shr.trans {C C1 C2 : CP} (h : Shr C C1) (h' : Shr C1 C2) : Shr C C2 where
  pres i hi hp := h.pres i hi (h'.pres i hi hp)
  cell s hs hp := by
    rcases h'.cell s hs hp with e | e
    · rcases h.cell s hs (h'.pres _ (by omega) hp) with e2 | e2
      · exact .inl (e.trans e2)
      · exact .inr (by rw [e]; exact e2)
    · exact .inr e
  stay i hi hp hn := by
    obtain ⟨h1, h2⟩ := h.stay i hi hp hn
    obtain ⟨h3, h4⟩ := h'.stay i hi h1 (fun s hs => by have := h.full hs; rw [this.2]; exact hn s this.1)
    exact ⟨h3, h4.trans h2⟩

theorem Shr.empty {C C' : CP} (h : Shr C C') {s : Nat} (hs : s < 4096) (hp : C'.pres (s / 16) = true) (he : (C.cel s).cap.ty = 0) : (C'.cel s).cap.ty = 0 := by
  rcases h.cell s hs hp with e | e
  · rw [e]; exact he
  · exact e

theorem reparP_cap (cel : Nat → Cel) (s p : Int) (t : Nat) : (reparP cel s p t).cap = (cel t).cap := by
  unfold reparP reparUp; split <;> rfl

theorem cut_same (C : CP) (s : Nat) : ((cutP C s).cel s) = celE := by simp [cutP, upd_same]
theorem cut_other {C : CP} {s t : Nat} (h : t ≠ s) : ((cutP C s).cel t) = reparP C.cel s (C.cel s).parent t := by simp [cutP, upd_other _ _ h]
theorem cut_cap {C : CP} {s t : Nat} (h : t ≠ s) : ((cutP C s).cel t).cap = (C.cel t).cap := by rw [cut_other h, reparP_cap]

theorem cut_full {C : CP} {s t : Nat} : Full (cutP C s) t ↔ t ≠ s ∧ Full C t := by
  constructor
  · rintro ⟨h1, h2, h3⟩
    by_cases e : t = s
    · subst e; rw [cut_same] at h3; exact absurd rfl h3
    · rw [cut_cap e] at h3; exact ⟨e, h1, h2, h3⟩
  · rintro ⟨e, h1, h2, h3⟩
    exact ⟨h1, h2, by rw [cut_cap e]; exact h3⟩

theorem cut_CI {C : CP} (h : CI C) {s : Nat} (hs : Full C s) : CI (cutP C s) := by
  obtain ⟨rk, hrk⟩ := h.acyc
  refine ⟨h.reg, fun hi => h.node hi, fun {t} ht => ?_, fun {t} h1 h2 => ?_, rk, fun {t p} h1 h2 h3 => ?_⟩
  · have := cut_full.1 ht
    rw [cut_cap this.1]; exact h.cap this.2
  · by_cases e : t = s
    · subst e; rw [cut_same]; exact .inl rfl
    · rw [cut_other e]
      rcases h.par h1 h2 with hp | ⟨p, hp, hf, ht⟩
      · have : ¬ (t < 4096 ∧ (C.cel t).parent = (s : Int)) := by rw [hp]; omega
        left; unfold reparP reparUp; rw [if_neg this]; exact hp
      · by_cases e2 : p = s
        · subst e2
          have : t < 4096 ∧ (C.cel t).parent = (p : Int) := ⟨h1, hp⟩
          rw [show reparP C.cel p (C.cel p).parent t = { C.cel t with parent := (C.cel p).parent } from if_pos this]
          dsimp only
          rcases h.par hs.1 hs.2.1 with hq | ⟨q, hq, hf2, _⟩
          · exact .inl hq
          · right
            refine ⟨q, hq, cut_full.2 ⟨?_, hf2⟩, cut_full.2 ⟨e, ht⟩⟩
            intro he; subst he
            have := hrk hs.1 hs.2.1 hq; omega
        · have : ¬ (t < 4096 ∧ (C.cel t).parent = (s : Int)) := by rw [hp]; omega
          rw [show reparP C.cel s (C.cel s).parent t = C.cel t from if_neg this]
          exact .inr ⟨p, hp, cut_full.2 ⟨e2, hf⟩, cut_full.2 ⟨e, ht⟩⟩
  · by_cases e : t = s
    · subst e; rw [cut_same] at h3; exact absurd h3 (by show (-1 : Int) ≠ _; omega)
    · rw [cut_other e] at h3
      by_cases e2 : t < 4096 ∧ (C.cel t).parent = (s : Int)
      · rw [show reparP C.cel s (C.cel s).parent t = { C.cel t with parent := (C.cel s).parent } from if_pos e2] at h3
        have a1 := hrk h1 h2 e2.2
        have a2 := hrk hs.1 hs.2.1 h3
        omega
      · rw [show reparP C.cel s (C.cel s).parent t = C.cel t from if_neg e2] at h3
        exact hrk h1 h2 h3

theorem cut_Shr {C : CP} {s : Nat} : Shr C (cutP C s) where
  pres _ _ h := h
  cell t _ _ := by
    by_cases e : t = s
    · subst e; rw [cut_same]; exact .inr rfl
    · exact .inl (cut_cap e)
  stay _ _ h _ := ⟨h, rfl⟩

theorem cut_cnt {C : CP} {s : Nat} (hs : Full C s) : cnt (cutP C s) < cnt C :=
  cnt_lt (fun _ ht => (cut_full.1 ht).2) hs (fun hq => (cut_full.1 hq).1 rfl)

theorem free_live {E : Nat → Ent} {c : Cp} (h : 2 ≤ c.ty ∧ c.ty < 6 ∧ 0 ≤ c.obj.idx ∧ c.obj.idx < 256 ∧ (E c.obj.idx.toNat).gen = c.obj.gen ∧ (E c.obj.idx.toNat).ty = c.ty) :
    freeP E c.obj = upd E c.obj.idx.toNat ⟨0, IntKind.wrap .u32 (c.obj.gen + 1), 0, 0⟩ := by
  unfold freeP
  rw [if_pos]
  unfold typeOfP
  rw [if_neg (by omega), if_neg (by simp [h.2.2.2.2.1]), h.2.2.2.2.2]
  omega

theorem foldl_range {β : Type} (g : β → Nat → β) (P : Nat → β → Prop) (b : β) : ∀ n, P 0 b → (∀ j x, j < n → P j x → P (j + 1) (g x j)) → P n ((List.range n).foldl g b)
  | 0, h0, _ => h0
  | n + 1, h0, hs => by
    rw [List.range_succ, List.foldl_append]
    exact hs n _ (by omega) (foldl_range g P b n h0 (fun j x hj hp => hs j x (by omega) hp))

/-- What a deletion yields. -/
structure DelOk (C : CP) (s : Nat) (r : CP × List Cp) : Prop where
  ci : CI r.1
  shr : Shr C r.1
  gone : r.1.pres (s / 16) = true → (r.1.cel s).cap.ty = 0
  dead : ∀ c ∈ r.2, 2 ≤ c.ty ∧ c.ty < 6 ∧ 0 ≤ c.obj.idx ∧ c.obj.idx < 256
  len : r.2.length + cnt r.1 ≤ cnt C
  less : (C.cel s).cap.ty ≠ 0 → cnt r.1 < cnt C

theorem unnamed_idx {C : CP} (h : CI C) {c : Cp} (hc : 2 ≤ c.ty ∧ c.ty < 6 ∧ 0 ≤ c.obj.idx ∧ c.obj.idx < 256 ∧ (C.ent c.obj.idx.toNat).gen = c.obj.gen ∧ (C.ent c.obj.idx.toNat).ty = c.ty) (hn : ¬ namedP C c.obj = true) :
    ∀ t, Full C t → (C.cel t).cap.obj.idx ≠ c.obj.idx := by
  intro t ht he
  apply hn
  rw [named_iff]
  refine ⟨t, ht, ?_⟩
  rcases h.cap ht with hq | hq
  · rw [hq.2] at he; simp at he; omega
  · have h1 := hq.2.2.2.2.1
    rw [he, hc.2.2.2.2.1] at h1
    cases hx : (C.cel t).cap.obj
    cases hy : c.obj
    rw [hx] at he h1; rw [hy] at he h1
    simp only [Rf.mk.injEq] at he h1 ⊢
    exact ⟨he, h1.symm⟩

theorem del_row {f : Nat} {C2 : CP} {N : Nat} (ih : ∀ (C : CP) (s : Nat), CI C → cnt C < f → s < 4096 → C.pres (s / 16) = true → DelOk C s (deleteP f C s)) (h2 : CI C2) (hN : N < 256) (hp : C2.pres N = true) (hu : ∀ t, Full C2 t → (C2.cel t).cap.obj.idx ≠ N) (hc : cnt C2 < f) (c : Cp) (hcc : 2 ≤ c.ty ∧ c.ty < 6 ∧ 0 ≤ c.obj.idx ∧ c.obj.idx < 256) (n : Nat) (hn : n ≤ 16) :
    let r := (List.range n).foldl (fun (acc : CP × List Cp) j => ((deleteP f acc.1 (N * 16 + j)).1, acc.2 ++ (deleteP f acc.1 (N * 16 + j)).2)) (C2, [c])
    CI r.1 ∧ Shr C2 r.1 ∧ (∀ j, j < n → (r.1.cel (N * 16 + j)).cap.ty = 0) ∧ (∀ c ∈ r.2, 2 ≤ c.ty ∧ c.ty < 6 ∧ 0 ≤ c.obj.idx ∧ c.obj.idx < 256) ∧ r.2.length + cnt r.1 ≤ 1 + cnt C2 := by
  refine foldl_range (fun (acc : CP × List Cp) j => ((deleteP f acc.1 (N * 16 + j)).1, acc.2 ++ (deleteP f acc.1 (N * 16 + j)).2))
    (fun n r => CI r.1 ∧ Shr C2 r.1 ∧ (∀ j, j < n → (r.1.cel (N * 16 + j)).cap.ty = 0) ∧ (∀ c ∈ r.2, 2 ≤ c.ty ∧ c.ty < 6 ∧ 0 ≤ c.obj.idx ∧ c.obj.idx < 256) ∧ r.2.length + cnt r.1 ≤ 1 + cnt C2) (C2, [c]) n ?_ ?_
  · exact ⟨h2, Shr.refl _, fun j hj => by omega, fun x hx => by simp at hx; subst hx; exact hcc, by simp⟩
  · rintro j ⟨Ck, l⟩ hj ⟨k1, k2, k3, k4, k5⟩
    dsimp only at k1 k2 k3 k4 k5 ⊢
    have hpk := (k2.stay N hN hp hu).1
    have hck : cnt Ck ≤ cnt C2 := cnt_mono (fun t ht => (k2.full ht).1)
    have hd : (N * 16 + j) / 16 = N := by omega
    have d := ih Ck (N * 16 + j) k1 (by omega) (by omega) (by rw [hd]; exact hpk)
    have k2' := k2.trans d.shr
    have hpd := (k2'.stay N hN hp hu).1
    refine ⟨d.ci, k2', ?_, ?_, ?_⟩
    · intro j' hj'
      by_cases e : j' = j
      · subst e; exact d.gone (by rw [hd]; exact hpd)
      · exact d.shr.empty (by omega) (by rw [show (N * 16 + j') / 16 = N by omega]; exact hpd) (k3 j' (by omega))
    · intro x hx
      rcases List.mem_append.1 hx with hx | hx
      · exact k4 x hx
      · exact d.dead x hx
    · rw [List.length_append]; have := d.len; omega

theorem del_ok (f : Nat) : ∀ (C : CP) (s : Nat), CI C → cnt C < f → s < 4096 → C.pres (s / 16) = true → DelOk C s (deleteP f C s) := by
  induction f with
  | zero => intro C s _ hf; omega
  | succ f ih =>
    intro C s h hf hs hp
    rw [deleteP]
    by_cases h0 : (C.cel s).cap.ty = 0
    · rw [if_pos h0]
      exact ⟨h, Shr.refl C, fun _ => h0, fun _ hq => (by cases hq), (by simp), fun hq => absurd h0 hq⟩
    rw [if_neg h0]
    have hfull : Full C s := ⟨hs, hp, h0⟩
    have hcut := cut_CI h hfull
    have hcc := cut_cnt hfull
    have hgone : (((cutP C s).cel s)).cap.ty = 0 := by rw [cut_same]; rfl
    by_cases h1 : (C.cel s).cap.ty = 1 ∨ namedP (cutP C s) (C.cel s).cap.obj = true
    · rw [if_pos h1]
      exact ⟨hcut, cut_Shr, fun _ => hgone, fun _ hq => (by cases hq), (by simp; omega), fun _ => hcc⟩
    rw [if_neg h1]
    have hok : 2 ≤ (C.cel s).cap.ty ∧ (C.cel s).cap.ty < 6 ∧ 0 ≤ (C.cel s).cap.obj.idx ∧ (C.cel s).cap.obj.idx < 256 ∧ (C.ent (C.cel s).cap.obj.idx.toNat).gen = (C.cel s).cap.obj.gen ∧ (C.ent (C.cel s).cap.obj.idx.toNat).ty = (C.cel s).cap.ty := by
      rcases h.cap hfull with hq | hq
      · exact absurd (.inl hq.1) h1
      · exact hq
    have hun := unnamed_idx hcut (c := (C.cel s).cap) hok (fun hq => h1 (.inr hq))
    have hN : (C.cel s).cap.obj.idx.toNat < 256 := by omega
    have hun' : ∀ t, Full (cutP C s) t → ((cutP C s).cel t).cap.obj.idx ≠ (((C.cel s).cap.obj.idx.toNat : Nat) : Int) := fun t ht => by
      have := hun t ht; omega
    by_cases h2 : (C.cel s).cap.ty = 2
    · rw [if_pos h2]
      have hpN : (cutP C s).pres (C.cel s).cap.obj.idx.toNat = true := (h.node hN).1 (by rw [hok.2.2.2.2.2, h2])
      have hrow := del_row (f := f) (ih := ih) hcut hN hpN hun' (by omega) (C.cel s).cap ⟨hok.1, hok.2.1, hok.2.2.1, hok.2.2.2.1⟩ 16 (by omega)
      dsimp only at hrow ⊢
      generalize (List.range 16).foldl (fun (acc : CP × List Cp) j => ((deleteP f acc.1 ((C.cel s).cap.obj.idx.toNat * 16 + j)).1, acc.2 ++ (deleteP f acc.1 ((C.cel s).cap.obj.idx.toNat * 16 + j)).2)) (cutP C s, [(C.cel s).cap]) = r at hrow ⊢
      obtain ⟨k1, k2, k3, k4, k5⟩ := hrow
      obtain ⟨hst1, hst2⟩ := k2.stay _ hN hpN hun'
      have hfe : freeP r.1.ent (C.cel s).cap.obj = upd r.1.ent (C.cel s).cap.obj.idx.toNat ⟨0, IntKind.wrap .u32 ((C.cel s).cap.obj.gen + 1), 0, 0⟩ := by
        refine free_live ⟨hok.1, hok.2.1, hok.2.2.1, hok.2.2.2.1, ?_, ?_⟩
        · rw [hst2]; exact hok.2.2.2.2.1
        · rw [hst2]; exact hok.2.2.2.2.2
      rw [hfe]
      have hunr : ∀ t, Full r.1 t → (r.1.cel t).cap.obj.idx ≠ (((C.cel s).cap.obj.idx.toNat : Nat) : Int) := fun t ht => by
        have := k2.full ht; rw [this.2]; exact hun' t this.1
      have hfull4 : ∀ t, (t < 4096 ∧ upd r.1.pres (C.cel s).cap.obj.idx.toNat false (t / 16) = true ∧ (r.1.cel t).cap.ty ≠ 0) ↔ (Full r.1 t) := by
        intro t
        constructor
        · rintro ⟨a1, a2, a3⟩
          refine ⟨a1, ?_, a3⟩
          unfold upd at a2; split at a2
          · cases a2
          · exact a2
        · rintro ⟨a1, a2, a3⟩
          refine ⟨a1, ?_, a3⟩
          have hne : t / 16 ≠ (C.cel s).cap.obj.idx.toNat := by
            intro he
            have := k3 (t % 16) (by omega)
            rw [show (C.cel s).cap.obj.idx.toNat * 16 + t % 16 = t by omega] at this
            exact a3 this
          rw [upd_other _ _ hne]; exact a2
      refine ⟨⟨?_, ?_, ?_, ?_, ?_⟩, ⟨?_, ?_, ?_⟩, ?_, k4, ?_, ?_⟩
      · dsimp only; rw [upd_other _ _ (by omega)]; exact k1.reg
      · intro i hi
        dsimp only
        by_cases e : i = (C.cel s).cap.obj.idx.toNat
        · subst e; rw [upd_same, upd_same]; simp
        · rw [upd_other _ _ e, upd_other _ _ e]; exact k1.node hi
      · intro t ht
        have ht' := (hfull4 t).1 ht
        rcases k1.cap ht' with hq | hq
        · exact .inl hq
        · have hne : (r.1.cel t).cap.obj.idx.toNat ≠ (C.cel s).cap.obj.idx.toNat := by
            have := hunr t ht'; omega
          right
          dsimp only
          rw [upd_other _ _ hne]; exact hq
      · intro t a1 a2
        have a2' : r.1.pres (t / 16) = true := by
          dsimp only at a2
          unfold upd at a2; split at a2
          · cases a2
          · exact a2
        rcases k1.par a1 a2' with hq | ⟨p, q1, q2, q3⟩
        · exact .inl hq
        · exact .inr ⟨p, q1, (hfull4 p).2 q2, (hfull4 t).2 q3⟩
      · obtain ⟨rk, hrk⟩ := k1.acyc
        refine ⟨rk, fun {t p} a1 a2 a3 => hrk a1 ?_ a3⟩
        dsimp only at a2
        unfold upd at a2; split at a2
        · cases a2
        · exact a2
      · intro i hi hq
        dsimp only at hq
        have : r.1.pres i = true := by
          unfold upd at hq; split at hq
          · cases hq
          · exact hq
        exact (cut_Shr.trans k2).pres i hi this
      · intro t a1 a2
        dsimp only at a2
        have : r.1.pres (t / 16) = true := by
          unfold upd at a2; split at a2
          · cases a2
          · exact a2
        exact (cut_Shr.trans k2).cell t a1 this
      · intro i hi a1 a2
        obtain ⟨b1, b2⟩ := (cut_Shr.trans k2).stay i hi a1 a2
        have hne : i ≠ (C.cel s).cap.obj.idx.toNat := by
          have := a2 s hfull; omega
        dsimp only
        rw [upd_other _ _ hne, upd_other _ _ hne]
        exact ⟨b1, b2⟩
      · intro hq
        dsimp only at hq ⊢
        have : r.1.pres (s / 16) = true := by
          unfold upd at hq; split at hq
          · cases hq
          · exact hq
        exact k2.empty hs this hgone
      · have : cnt (⟨upd r.1.ent (C.cel s).cap.obj.idx.toNat ⟨0, IntKind.wrap .u32 ((C.cel s).cap.obj.gen + 1), 0, 0⟩, upd r.1.pres (C.cel s).cap.obj.idx.toNat false, r.1.cel⟩ : CP) ≤ cnt r.1 := cnt_mono (fun t ht => (hfull4 t).1 ht)
        dsimp only; omega
      · intro _
        have h5 : cnt (⟨upd r.1.ent (C.cel s).cap.obj.idx.toNat ⟨0, IntKind.wrap .u32 ((C.cel s).cap.obj.gen + 1), 0, 0⟩, upd r.1.pres (C.cel s).cap.obj.idx.toNat false, r.1.cel⟩ : CP) ≤ cnt r.1 := cnt_mono (fun t ht => (hfull4 t).1 ht)
        have h6 : cnt r.1 ≤ cnt (cutP C s) := cnt_mono (fun t ht => (k2.full ht).1)
        dsimp only; omega
    · rw [if_neg h2]
      have hfe : freeP (cutP C s).ent (C.cel s).cap.obj = upd C.ent (C.cel s).cap.obj.idx.toNat ⟨0, IntKind.wrap .u32 ((C.cel s).cap.obj.gen + 1), 0, 0⟩ := free_live hok
      rw [hfe]
      have hpN : ¬ C.pres (C.cel s).cap.obj.idx.toNat = true := fun hq => h2 (by rw [← hok.2.2.2.2.2]; exact (h.node hN).2 hq)
      refine ⟨⟨?_, ?_, ?_, ?_, ?_⟩, ⟨?_, ?_, ?_⟩, fun _ => hgone, ?_, ?_, ?_⟩
      · dsimp only; rw [upd_other _ _ (by omega)]; exact h.reg
      · intro i hi
        dsimp only
        by_cases e : i = (C.cel s).cap.obj.idx.toNat
        · subst e; rw [upd_same]; constructor
          · intro hq; cases hq
          · intro hq; exact absurd hq hpN
        · rw [upd_other _ _ e]; exact h.node hi
      · intro t ht
        have ht' : Full (cutP C s) t := ht
        rcases hcut.cap ht' with hq | hq
        · exact .inl hq
        · have hne : ((cutP C s).cel t).cap.obj.idx.toNat ≠ (C.cel s).cap.obj.idx.toNat := by
            have := hun t ht'; omega
          right
          dsimp only
          rw [upd_other _ _ hne]; exact hq
      · intro t a1 a2
        exact hcut.par a1 a2
      · exact hcut.acyc
      · intro i hi hq; exact hq
      · intro t a1 a2; exact cut_Shr.cell t a1 a2
      · intro i hi a1 a2
        have hne : i ≠ (C.cel s).cap.obj.idx.toNat := fun he => hpN (he ▸ a1)
        dsimp only
        rw [upd_other _ _ hne]
        exact ⟨a1, rfl⟩
      · intro x hx
        simp at hx; subst hx; exact ⟨hok.1, hok.2.1, hok.2.2.1, hok.2.2.2.1⟩
      · have : cnt (⟨upd C.ent (C.cel s).cap.obj.idx.toNat ⟨0, IntKind.wrap .u32 ((C.cel s).cap.obj.gen + 1), 0, 0⟩, (cutP C s).pres, (cutP C s).cel⟩ : CP) = cnt (cutP C s) := rfl
        dsimp only [List.length_cons, List.length_nil]; omega
      · intro _
        have : cnt (⟨upd C.ent (C.cel s).cap.obj.idx.toNat ⟨0, IntKind.wrap .u32 ((C.cel s).cap.obj.gen + 1), 0, 0⟩, (cutP C s).pres, (cutP C s).cel⟩ : CP) = cnt (cutP C s) := rfl
        dsimp only; omega

end Go.Kn
