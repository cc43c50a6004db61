/-
  Deletion: what the model's entries are afterwards.
-/
import Derived.Test.Qxb6500918aDoorWd
import Derived.Test.Qxb6500918aDoorWa
namespace Go.Proofs.Qxb6500918aDoor
open Go.Sx Go.Kn

section
variable {Z : MZ} {R : MR} {a : AK} {E E' : Nat → Ent} {l : List Cp}

theorem fok_of (zo : ZOk Z E) {c : Cp} (hc : 2 ≤ c.ty ∧ c.ty < 6 ∧ 0 ≤ c.obj.idx ∧ c.obj.idx < 256 ∧ (E c.obj.idx.toNat).gen = c.obj.gen ∧ (E c.obj.idx.toNat).ty = c.ty) : FOk Z c := by
  obtain ⟨h1, h2, h3, h4, h5, h6⟩ := hc
  have hi : c.obj.idx.toNat < 256 := by omega
  have hk : c.obj = Z.ky c.obj.idx.toNat := by rw [zo.ky _ hi, ref_live ⟨h3, h4⟩ h5]
  by_cases e3 : c.ty = 3
  · exact .inr (.inl ⟨e3, _, (zo.td _ hi).1 (by rw [h6, e3]), hk⟩)
  · by_cases e2 : c.ty = 2
    · exact .inl e2
    · have e4 : c.ty = 4 ∨ c.ty = 5 := by omega
      exact .inr (.inr ⟨e4, _, (zo.qd _ hi).1 (by rw [h6]; exact e4), hk⟩)

theorem forget_Z (E : Nat → Ent) (s : MZ × AK) (c : Cp) : (forgetM E s c).1 = if c.ty = 3 then s.1.delT c.obj.idx.toNat else if c.ty = 4 ∨ c.ty = 5 then s.1.delQ c.obj.idx.toNat else s.1 := by
  unfold forgetM
  split
  · rfl
  · split <;> rfl

theorem forget_tl (E : Nat → Ent) (s : MZ × AK) (c : Cp) (x : Nat) : x ∈ sl (forgetM E s c).1.tl ↔ x ∈ sl s.1.tl ∧ (c.ty = 3 → c.obj.idx.toNat ≠ x) := by
  rw [forget_Z]
  by_cases h3 : c.ty = 3
  · rw [if_pos h3]
    constructor
    · intro h; exact ⟨(sl_del.1 h).1, fun _ e => (sl_del.1 h).2 e.symm⟩
    · intro h; exact sl_del.2 ⟨h.1, fun e => h.2 h3 e.symm⟩
  · rw [if_neg h3]
    constructor
    · intro h; refine ⟨?_, fun q => absurd q h3⟩; split at h <;> exact h
    · intro h; split <;> exact h.1

theorem forget_ql (E : Nat → Ent) (s : MZ × AK) (c : Cp) (x : Nat) : x ∈ sl (forgetM E s c).1.ql ↔ x ∈ sl s.1.ql ∧ (c.ty = 4 ∨ c.ty = 5 → c.obj.idx.toNat ≠ x) := by
  rw [forget_Z]
  by_cases h3 : c.ty = 3
  · rw [if_pos h3]
    constructor
    · intro h; exact ⟨h, fun q => by omega⟩
    · intro h; exact h.1
  · rw [if_neg h3]
    by_cases h4 : c.ty = 4 ∨ c.ty = 5
    · rw [if_pos h4]
      constructor
      · intro h; exact ⟨(sl_del.1 h).1, fun _ e => (sl_del.1 h).2 e.symm⟩
      · intro h; exact sl_del.2 ⟨h.1, fun e => h.2 h4 e.symm⟩
    · rw [if_neg h4]
      constructor
      · intro h; exact ⟨h, fun q => absurd q h4⟩
      · intro h; exact h.1

theorem forget_ky (E : Nat → Ent) (s : MZ × AK) (c : Cp) : (forgetM E s c).1.ky = s.1.ky := by
  rw [forget_Z]; split
  · rfl
  · split <;> rfl

theorem fall_of : ∀ (l : List Cp) {s : MZ × AK}, (∀ x, x < 256 → (s.1.ky x).idx = (x : Int)) → (∀ x ∈ sl s.1.tl, x < 256) → (∀ x ∈ sl s.1.ql, x < 256) → (∀ c ∈ l, FOk s.1 c) → (l.map (fun c => c.obj.idx.toNat)).Nodup → FAll E s l
  | [], _, _, _, _, _, _ => trivial
  | c :: r, s, hk, ht, hq, hc, hn => by
    refine ⟨hc c (by simp), ?_⟩
    rw [List.map_cons, List.nodup_cons] at hn
    have hk' : ∀ x, x < 256 → ((forgetM E s c).1.ky x).idx = (x : Int) := fun x hx => by rw [forget_ky]; exact hk x hx
    refine fall_of r hk' (fun x hx => ht x ((forget_tl E s c x).1 hx).1) (fun x hx => hq x ((forget_ql E s c x).1 hx).1) (fun d hd => ?_) hn.2
    have hne : d.obj.idx.toNat ≠ c.obj.idx.toNat := fun e => hn.1 (by rw [← e]; exact List.mem_map.2 ⟨d, hd, rfl⟩)
    rcases hc d (List.mem_cons_of_mem _ hd) with h1 | ⟨h1, o, ho, e⟩ | ⟨h1, i, hi, e⟩
    · exact .inl h1
    · have : d.obj.idx.toNat = o := by rw [e, hk o (ht o ho)]; rfl
      exact .inr (.inl ⟨h1, o, (forget_tl E s c o).2 ⟨ho, fun _ q => hne (by rw [this, q])⟩, by rw [forget_ky]; exact e⟩)
    · have : d.obj.idx.toNat = i := by rw [e, hk i (hq i hi)]; rfl
      exact .inr (.inr ⟨h1, i, (forget_ql E s c i).2 ⟨hi, fun _ q => hne (by rw [this, q])⟩, by rw [forget_ky]; exact e⟩)

theorem fold_Z : ∀ (l : List Cp) (s : MZ × AK), (l.foldl (forgetM E) s).1.ky = s.1.ky ∧ (∀ x, x ∈ sl (l.foldl (forgetM E) s).1.tl ↔ x ∈ sl s.1.tl ∧ ∀ c ∈ l, c.ty = 3 → c.obj.idx.toNat ≠ x) ∧ (∀ x, x ∈ sl (l.foldl (forgetM E) s).1.ql ↔ x ∈ sl s.1.ql ∧ ∀ c ∈ l, c.ty = 4 ∨ c.ty = 5 → c.obj.idx.toNat ≠ x)
  | [], s => ⟨rfl, fun x => by simp, fun x => by simp⟩
  | c :: r, s => by
    rw [List.foldl_cons]
    obtain ⟨h1, h2, h3⟩ := fold_Z r (forgetM E s c)
    refine ⟨h1.trans (forget_ky E s c), fun x => ?_, fun x => ?_⟩
    · rw [h2 x, forget_tl]
      constructor
      · rintro ⟨⟨q1, q2⟩, q3⟩
        refine ⟨q1, fun d hd => ?_⟩
        rcases List.mem_cons.1 hd with e | hd
        · rw [e]; exact q2
        · exact q3 d hd
      · rintro ⟨q1, q2⟩
        exact ⟨⟨q1, q2 c (by simp)⟩, fun d hd => q2 d (List.mem_cons_of_mem _ hd)⟩
    · rw [h3 x, forget_ql]
      constructor
      · rintro ⟨⟨q1, q2⟩, q3⟩
        refine ⟨q1, fun d hd => ?_⟩
        rcases List.mem_cons.1 hd with e | hd
        · rw [e]; exact q2
        · exact q3 d hd
      · rintro ⟨q1, q2⟩
        exact ⟨⟨q1, q2 c (by simp)⟩, fun d hd => q2 d (List.mem_cons_of_mem _ hd)⟩

/-- New names. -/
def _root_.Go.Kn.MZ.rekey (Z : MZ) (E : Nat → Ent) : MZ := { Z with ky := fun i => refAtP E (i : Int) }

theorem dl_out (hd : DL E E' l) {x : Nat} {t : Int} (ht : (E x).ty = t) (hl : ∀ c ∈ l, c.ty = t → c.obj.idx.toNat ≠ x) : E' x = E x := by
  refine hd.st x (fun c hc e => ?_)
  have h1 := (hd.dd c hc).1.2.2.2.2.2
  rw [e, ht] at h1
  exact hl c hc h1.symm e

theorem zok_drop (zo : ZOk Z E) (hd : DL E E' l) (a : AK) : ZOk ((l.foldl (forgetM E') (Z, a)).1.rekey E') E' := by
  obtain ⟨_, h2, h3⟩ := fold_Z (E := E') l (Z, a)
  refine ⟨fun i _ => rfl, fun i hi => ?_, fun i hi => ?_, fun x hx => zo.tx x ((h2 x).1 hx).1, fun x hx => zo.qx x ((h3 x).1 hx).1⟩
  · show _ ↔ i ∈ sl (l.foldl (forgetM E') (Z, a)).1.tl
    rw [h2 i]
    by_cases e : ∃ c ∈ l, c.obj.idx.toNat = i
    · obtain ⟨c, hc, e⟩ := e
      have h4 := hd.dd c hc
      rw [e] at h4
      rw [h4.2]
      constructor
      · intro q; exact absurd q (by show (0 : Int) ≠ 3; decide)
      · rintro ⟨q1, q2⟩
        have h5 := (zo.td i hi).2 q1
        exact absurd e (q2 c hc (by rw [← h4.1.2.2.2.2.2, h5]))
    · have h4 : E' i = E i := hd.st i (fun c hc q => e ⟨c, hc, q⟩)
      rw [h4, zo.td i hi]
      exact ⟨fun q => ⟨q, fun c hc _ q => e ⟨c, hc, q⟩⟩, fun q => q.1⟩
  · show _ ↔ i ∈ sl (l.foldl (forgetM E') (Z, a)).1.ql
    rw [h3 i]
    by_cases e : ∃ c ∈ l, c.obj.idx.toNat = i
    · obtain ⟨c, hc, e⟩ := e
      have h4 := hd.dd c hc
      rw [e] at h4
      rw [h4.2]
      constructor
      · intro q; exact absurd q (by show ¬ ((0 : Int) = 4 ∨ (0 : Int) = 5); decide)
      · rintro ⟨q1, q2⟩
        have h5 := (zo.qd i hi).2 q1
        exact absurd e (q2 c hc (by rw [← h4.1.2.2.2.2.2]; exact h5))
    · have h4 : E' i = E i := hd.st i (fun c hc q => e ⟨c, hc, q⟩)
      rw [h4, zo.qd i hi]
      exact ⟨fun q => ⟨q, fun c hc _ q => e ⟨c, hc, q⟩⟩, fun q => q.1⟩

theorem refAt_gen {E E' : Nat → Ent} {x : Nat} (h : E' x = E x) : refAtP E' (x : Int) = refAtP E (x : Int) := by
  unfold refAtP
  rw [Int.toNat_natCast, h]

theorem rekey_t (zo : ZOk Z E) (hd : DL E E' l) (a : AK) {x : Nat} (hx : x ∈ sl (l.foldl (forgetM E') (Z, a)).1.tl) : refAtP E' (x : Int) = (l.foldl (forgetM E') (Z, a)).1.ky x := by
  obtain ⟨h1, h2, h3⟩ := fold_Z (E := E') l (Z, a)
  obtain ⟨q1, q2⟩ := (h2 x).1 hx
  have hx2 := zo.tx x q1
  rw [h1, zo.ky x hx2]
  exact refAt_gen (dl_out hd (t := 3) ((zo.td x hx2).2 q1) q2)

theorem rekey_q (zo : ZOk Z E) (hd : DL E E' l) (a : AK) {x : Nat} (hx : x ∈ sl (l.foldl (forgetM E') (Z, a)).1.ql) : refAtP E' (x : Int) = (l.foldl (forgetM E') (Z, a)).1.ky x := by
  obtain ⟨h1, h2, h3⟩ := fold_Z (E := E') l (Z, a)
  obtain ⟨q1, q2⟩ := (h3 x).1 hx
  have hx2 := zo.qx x q1
  rw [h1, zo.ky x hx2]
  rcases (zo.qd x hx2).2 q1 with e | e
  · exact refAt_gen (dl_out hd e (fun c hc q => q2 c hc (.inl q)))
  · exact refAt_gen (dl_out hd e (fun c hc q => q2 c hc (.inr q)))

/-- What the call left, by the new names. -/
theorem rekey_mg {mb : Nat} {C C' : CP} {w w' : World} {Z2 : MZ} {R2 : MR} {a2 : AK} (h : MG mb Z R C w Z2 R2 a2 C' w') (hg : ∀ i, 1 ≤ (E' i).gen) (ht : ∀ x ∈ sl Z2.tl, refAtP E' (x : Int) = Z2.ky x) (hq : ∀ x ∈ sl Z2.ql, refAtP E' (x : Int) = Z2.ky x) (hP : MP (Z2.rekey E') a2) : MG mb Z R C w (Z2.rekey E') R2 a2 C' w' := by
  have hm := h.mh
  have hqx := hm.md.k.qx
  refine ⟨⟨hm.md.rekey (ky := fun i => refAtP E' (i : Int)) (fun x hx => refAt_idx ⟨by omega, by omega⟩) (fun x _ => hg x) ht hq (fun x hx => ?_) (fun i hi x hx => (hP.mq (.w i) (hqx i hi) x hx).1) (fun p hp x hx => (hP.mq (.r p) hp x hx).1) hP.cr, hm.ho, hm.n3, hm.g3⟩, h.fr, h.sub⟩
  rcases hm.md.k.wq x hx with e | e
  · exact hq x e
  · rw [hm.ho] at e; cases e

/-- The dead, buried in both ways. -/
theorem drop_same {S : KP} (ab : Abs S a) (xi : XI S E) (zo : ZOk Z E) (hd : DL E E' l) (hg : ∀ c ∈ l, refAtP E' ((c.obj.idx.toNat : Nat) : Int) ≠ c.obj) : (l.foldl (forgetM E') (Z, a)).2 = buryAllA a l := by
  refine buryAll_rel l (RelK.start ab (fun x => ∃ c ∈ l, c.ty = 3 ∧ c.obj.idx.toNat = x)) ⟨fun n hn hU hs => ?_, fun n hU => ?_⟩ (fun c hc => ⟨(hd.dd c hc).1.1, (hd.dd c hc).1.2.1, (hd.dd c hc).1.2.2.1, (hd.dd c hc).1.2.2.2.1⟩) (fun x hx => hx)
  · have h3 : (E n).ty = 3 := xi.lv hn (by rw [ab.th n hn] at hs; exact hs)
    refine ⟨(zo.td n hn).1 h3, ?_⟩
    rw [zo.ky n hn]
    exact (refAt_gen (dl_out hd h3 (fun c hc h q => hU ⟨c, hc, h, q⟩))).symm
  · obtain ⟨c, hc, h3, e⟩ := hU
    have h1 := (hd.dd c hc).1
    have hn : n < 256 := by omega
    rw [zo.ky n hn]
    have h2 : refAtP E (n : Int) = c.obj := by rw [← e]; exact ref_live ⟨h1.2.2.1, h1.2.2.2.1⟩ h1.2.2.2.2.1
    rw [h2, ← e]
    exact fun q => hg c hc q.symm

end
end Go.Proofs.Qxb6500918aDoor
