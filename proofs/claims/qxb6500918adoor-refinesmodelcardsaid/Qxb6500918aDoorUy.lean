/-
  Objects are forgotten one after the other: the plain side.
-/
import Derived.Test.Qxb6500918aDoorUx
namespace Go.Proofs.Qxb6500918aDoor
open Go.Sx Go.Kn

def forgetM (E : Nat → Ent) (s : MZ × AK) (c : Cp) : MZ × AK :=
  if c.ty = 3 then (s.1.delT c.obj.idx.toNat, wakeM (s.1.delT c.obj.idx.toNat) E ((leaveA s.2 c.obj.idx.toNat).setT c.obj.idx.toNat (unl noT)) c.obj 256)
  else if c.ty = 4 ∨ c.ty = 5 then (s.1.delQ c.obj.idx.toNat, ((s.2.q (.w c.obj.idx.toNat)).foldl wakeA s.2).setW c.obj.idx.toNat 0)
  else s

/-- The capability names an entry. -/
def FOk (Z : MZ) (c : Cp) : Prop :=
  c.ty = 2 ∨ (c.ty = 3 ∧ ∃ o : Nat, o ∈ sl Z.tl ∧ c.obj = Z.ky o) ∨ ((c.ty = 4 ∨ c.ty = 5) ∧ ∃ i : Nat, i ∈ sl Z.ql ∧ c.obj = Z.ky i)

def FAll (E : Nat → Ent) : MZ × AK → List Cp → Prop
  | _, [] => True
  | s, c :: r => FOk s.1 c ∧ FAll E (forgetM E s c) r

section
variable {Z : MZ} {R : MR} {a : AK} {E : Nat → Ent} {C : CP} {mb : Nat}

theorem FAll.at {dead : List Cp} : ∀ {s : MZ × AK} {m : Nat} {c : Cp}, FAll E s dead → dead[m]? = some c → FOk ((dead.take m).foldl (forgetM E) s).1 c := by
  induction dead with
  | nil => intro s m c _ h; cases h
  | cons d r ih =>
    intro s m c h hc
    cases m with
    | zero => simp at hc; subst hc; exact h.1
    | succ m => simpa using ih h.2 (by simpa using hc)

theorem forget_MP (h : MP Z a) (hk : MK Z R) {c : Cp} (hc : FOk Z c) : MP (forgetM E (Z, a) c).1 (forgetM E (Z, a) c).2 := by
  unfold forgetM
  rcases hc with h1 | ⟨h1, o, ho, e⟩ | ⟨h1, i, hi, e⟩
  · rw [if_neg (by omega), if_neg (by omega)]; exact h
  · rw [if_pos h1, e, hk.kx o (hk.tx o ho), Int.toNat_natCast]
    exact (h.forgetT hk ho).wakeM (R := R) ⟨nodup_del hk.tn, hk.qn, hk.wn, hk.bq, fun e he => hk.tc e (List.mem_filter.1 he).1, hk.qc, fun x hx => hk.tx x (sl_del.1 hx).1, hk.qx, hk.wx, hk.kx, hk.kg, hk.wq⟩ _ _
  · rw [if_neg (by omega), if_pos h1, e, hk.kx i (hk.qx i hi), Int.toNat_natCast]
    have h2 := fold_wake h hk (hk.qx i hi) (a.q (.w i)).length (Nat.le_refl _)
    rw [List.take_length, List.drop_length] at h2
    exact (h2.1.delQ h2.2).same rfl rfl rfl

theorem forget_ok (mb : Nat) (Z : MZ) (R : MR) (a : AK) (C : CP) (c : Cp) (hc : FOk Z c) (hP : MP Z a) (w : World) (hH : MH mb Z R a C w) :
    Calls Tryd.prog 97 #[.pointer (some ⟨mb, 0, none⟩), .agg #[.int .u8 c.ty, .int .u16 c.obj.idx, .int .u32 c.obj.gen, .int .u8 c.rights, .int .u64 c.badge]] w fun e w' => e = .returned (.tuple #[]) ∧ ∃ R', MG mb Z R C w (forgetM C.ent (Z, a) c).1 R' (forgetM C.ent (Z, a) c).2 C w' := by
  have hk := hH.md.k
  obtain ⟨ty, ob, rt, bd⟩ := c
  rcases hc with h1 | ⟨h1, o, ho, e⟩ | ⟨h1, i, hi, e⟩
  · simp only at h1
    subst h1
    have e1 : forgetM C.ent (Z, a) ⟨2, ob, rt, bd⟩ = (Z, a) := by unfold forgetM; dsimp only; rw [if_neg (by decide), if_neg (by decide)]
    rw [e1]
    refine (forget2 mb Z R a C ⟨2, ob, rt, bd⟩ w hH).mono ?_
    rintro e w' ⟨h1, h2⟩
    exact ⟨h1, R, h2⟩
  · simp only at h1 e
    subst h1 e
    have e1 : forgetM C.ent (Z, a) ⟨3, Z.ky o, rt, bd⟩ = (Z.delT o, wakeM (Z.delT o) C.ent ((leaveA a o).setT o (unl noT)) (Z.ky o) 256) := by
      unfold forgetM; rw [if_pos rfl]; dsimp only; rw [hk.kx o (hk.tx o ho), Int.toNat_natCast]
    rw [e1]
    exact forgetT_ok mb Z R a C o ho rt bd hP w hH
  · simp only at h1 e
    subst e
    have e1 : forgetM C.ent (Z, a) ⟨ty, Z.ky i, rt, bd⟩ = (Z.delQ i, ((a.q (.w i)).foldl wakeA a).setW i 0) := by
      unfold forgetM; dsimp only; rw [if_neg (by omega), if_pos h1, hk.kx i (hk.qx i hi), Int.toNat_natCast]
    rw [e1]
    by_cases hq : a.q (.w i) = []
    · rcases h1 with rfl | rfl
      · exact forget4e mb Z R a C i hi rt bd hP hq w hH
      · exact forget5e mb Z R a C i hi rt bd hP hq w hH
    · have hl : 0 < (a.q (.w i)).length := List.length_pos_iff.2 hq
      rcases h1 with rfl | rfl
      · exact forget4n mb Z R a C i hi rt bd hP hl w hH
      · exact forget5n mb Z R a C i hi rt bd hP hl w hH

/-- Behind a call that turns the space and hands back a row. -/
theorem st_capR {n : Nat} {K : List Nat} {w0 w w' : World} {T : Slots} {L : Mem} {act : Act} {C' : CP} (hst : St (MCx n K w0 mb Z R a C) T L act w) (hc : CapAt w' Z.mo Z.mc Z.nd C') (hf : Fr (capF Z.mo Z.mc Z.nd C) w w') (hs : ∀ b ∈ capF Z.mo Z.mc Z.nd C', b ∈ capF Z.mo Z.mc Z.nd C) (hL : ∀ kb ∈ L, kb.2.ro = true → kb.1 = 3) {b : Nat} {blk : Blk} (hb : w'.heap[b]? = some blk.obj) (hn : w.heap.size ≤ b) : St (MCx n K w0 mb Z R a C') T (L ++ [(b, blk)]) act w' := by
  have h1 := st_cap hst hc hf (fun x hx => .inl (hs x hx)) hL
  have hz : w0.heap.size ≤ w.heap.size := hst.frame.size
  have hlt : ∀ kb ∈ L, kb.1 < w.heap.size := fun kb h => lt_of_heap (hst.known kb h)
  have hbF : b ∉ mdF mb Z R C' := fun hq => by
    obtain ⟨l, hl, hq⟩ := mem_mdF.1 hq
    have : b ∈ mdF mb Z R C := by
      cases l <;> first | exact mem_mdF.2 ⟨_, hl, hq⟩ | exact mem_mdF.2 ⟨.cp, trivial, hs b hq⟩
    have := hst.inv.1.low b this
    omega
  refine ⟨h1.size, h1.defs, h1.slots, ?_, ?_, ?_, h1.frame, h1.inv, h1.stab, h1.low, ?_⟩
  · intro kb h
    rcases List.mem_append.1 h with h | h
    · exact h1.known kb h
    · simp at h; subst h; exact hb
  · rw [List.map_append, List.nodup_append]
    refine ⟨h1.nodup, by simp, fun x hx y hy => ?_⟩
    simp at hy
    obtain ⟨kb, hkb, rfl⟩ := List.mem_map.1 hx
    have := hlt kb hkb
    omega
  · intro kb h hr
    rcases List.mem_append.1 h with h | h
    · exact h1.keys kb h hr
    · simp at h; subst h; exact .inr (show w0.heap.size ≤ b by omega)
  · intro kb h hr
    rcases List.mem_append.1 h with h | h
    · exact h1.disj kb h hr
    · simp at h; subst h; exact hbF

end
end Go.Proofs.Qxb6500918aDoor
