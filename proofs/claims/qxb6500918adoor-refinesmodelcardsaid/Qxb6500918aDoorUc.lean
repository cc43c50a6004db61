/-
  The model as a call finds and leaves it; what its queues and threads keep.
-/
import Derived.Test.Qxb6500918aDoorUb
namespace Go.Proofs.Qxb6500918aDoor
open Go.Sx Go.Kn

structure MH (mb : Nat) (Z : MZ) (R : MR) (a : AK) (C : CP) (w : World) : Prop where
  md : MD0 mb Z R a C w
  ho : R.ho = none
  n3 : 3 ∉ mdF mb Z R C
  g3 : ∃ ty, w.heap[3]? = some (Blk.obj ⟨[.int .u16 0, .int .u32 0], ty, true⟩)

theorem MH.mD {mb : Nat} {Z : MZ} {R : MR} {a : AK} {C : CP} {w : World} (h : MH mb Z R a C w) : MD (mdF mb Z R C) w.heap.size mb Z R a C w :=
  ⟨h.md, fun b hb => ⟨.inl hb, fun e => h.n3 (by rw [← e]; exact hb)⟩, by obtain ⟨_, hg⟩ := h.g3; exact lt_of_heap hg⟩

/-- What a call leaves. -/
structure MG (mb : Nat) (Z : MZ) (R : MR) (C : CP) (w : World) (Z' : MZ) (R' : MR) (a' : AK) (C' : CP) (w' : World) : Prop where
  mh : MH mb Z' R' a' C' w'
  fr : Fr (mdF mb Z R C) w w'
  sub : ∀ b ∈ mdF mb Z' R' C', b ∈ mdF mb Z R C ∨ w.heap.size ≤ b

section
variable {n : Nat} {mb : Nat} {Z Z' : MZ} {R R' : MR} {a a' : AK} {C C' : CP} {w w' : World} {T : Slots} {L : Mem} {act : Act}

theorem mg_end (h : MH mb Z R a C w) (hst : St (MCx n (mdF mb Z R C) w mb Z' R' a' C') T L act w') (ho : R'.ho = none) {a'' : AK} (he : a' = a'') : MG mb Z R C w Z' R' a'' C' w' := by
  subst he
  refine ⟨⟨hst.inv.1, ho, fun hq => (hst.inv.2.1 3 hq).2 rfl, ?_⟩, hst.frame, fun b hb => (hst.inv.2.1 b hb).1⟩
  obtain ⟨ty, hg⟩ := h.g3
  exact ⟨ty, by rw [hst.frame.block 3 (lt_of_heap hg) h.n3]; exact hg⟩

theorem st_mg {K : List Nat} {w0 : World} (hst : St (MCx n K w0 mb Z R a C) T L act w) (h : MG mb Z R C w Z' R' a' C' w') (hL : ∀ kb ∈ L, kb.2.ro = true → kb.1 = 3) : St (MCx n K w0 mb Z' R' a' C') T L act w' :=
  st_call hst h.mh.md h.fr h.sub hL

theorem mh_of {K : List Nat} {w0 : World} (hst : St (MCx n K w0 mb Z R a C) T L act w) (ho : R.ho = none) {k : Nat} {ty : TypeId} (hk : nth L k = some (3, ⟨[.int .u16 0, .int .u32 0], ty, true⟩)) : MH mb Z R a C w :=
  ⟨hst.inv.1, ho, fun hq => (hst.inv.2.1 3 hq).2 rfl, ⟨ty, hst.kn hk⟩⟩

theorem mh_grow (h : MH mb Z R a C w) (hf : Fr [] w w') : MH mb Z R a C w' := by
  obtain ⟨ty, hg⟩ := h.g3
  exact ⟨h.md.fr hf (fun _ _ h => by cases h), h.ho, h.n3, ty, by rw [hf.block 3 (lt_of_heap hg) (by simp)]; exact hg⟩
end

/-- What the model's queues and threads keep. -/
structure MP (Z : MZ) (a : AK) : Prop where
  nd : ∀ L : QL, L.ok → (a.q L).Nodup
  mq : ∀ L : QL, L.ok → ∀ x ∈ a.q L, x ∈ sl Z.tl ∧ place (a.th x) = some L
  me : ∀ x ∈ sl Z.tl, ∀ L : QL, place (a.th x) = some L → x ∈ a.q L
  wq : ∀ x ∈ sl Z.tl, ∀ i, place (a.th x) = some (.w i) → i ∈ sl Z.ql ∧ (a.th x).wait = Z.ky i
  wn : ∀ x ∈ sl Z.tl, (∀ i, place (a.th x) ≠ some (.w i)) → ∀ i ∈ sl Z.ql, Z.ky i ≠ (a.th x).wait
  pr : ∀ x ∈ sl Z.tl, 0 ≤ (a.th x).prio ∧ (a.th x).prio < 8
  cu : ∀ x ∈ sl Z.tl, ((a.th x).st = 2 ↔ a.cur = (x : Int))
  cr : a.cur = -1 ∨ ∃ x ∈ sl Z.tl, a.cur = (x : Int)

theorem erase_filter {x : Nat} {xs : List Nat} (h : xs.Nodup) : xs.filter (fun y => decide (y ≠ x)) = xs.erase x := by
  rw [List.Nodup.erase_eq_filter h]
  congr 1
  funext y
  by_cases e : y = x <;> simp [e]

theorem filter_out {x : Nat} {xs : List Nat} (h : x ∉ xs) : xs.filter (fun y => decide (y ≠ x)) = xs := by
  rw [List.filter_eq_self]
  intro y hy
  simp only [ne_eq, decide_eq_true_eq]
  intro e
  exact h (by rw [← e]; exact hy)

section
variable {Z : MZ} {R : MR} {a : AK}

theorem MP.len (h : MP Z a) (hk : MK Z R) {L : QL} (hL : L.ok) : (a.q L).length ≤ 256 := nodup_len (h.nd L hL) (fun x hx => hk.tx x (h.mq L hL x hx).1)

theorem MP.klen (h : MP Z a) (hk : MK Z R) {L : QL} (hL : L.ok) : (kys Z (a.q L)).length ≤ 256 := by simpa using h.len hk hL

theorem MP.sep (h : MP Z a) (hk : MK Z R) {L : QL} (hL : L.ok) {x : Nat} (hx : x ∈ sl Z.tl) : ∀ y ∈ a.q L, Z.ky y = Z.ky x → y = x := fun y hy e => hk.inj (hk.tx y (h.mq L hL y hy).1) (hk.tx x hx) e

theorem curR_iff (h : MP Z a) (hk : MK Z R) {x : Nat} (hx : x ∈ sl Z.tl) : curR Z a = Z.ky x ↔ (a.th x).st = 2 := by
  rw [h.cu x hx]
  unfold curR
  rcases h.cr with e | ⟨y, hy, e⟩
  · rw [if_pos e]
    constructor
    · intro h1; exact absurd h1.symm (hk.ne0 (hk.tx x hx))
    · intro h1; omega
  · rw [if_neg (by omega), e]
    constructor
    · intro h1
      rw [Int.toNat_natCast] at h1
      have := hk.inj (hk.tx y hy) (hk.tx x hx) h1
      omega
    · intro h1
      have : y = x := by omega
      subst this; rw [Int.toNat_natCast]

theorem place_r {t : Tcb} {p : Nat} (h : place t = some (.r p)) : t.st = 1 ∧ p = t.prio.toNat := by
  unfold place at h
  split at h
  · rename_i e; simp at h; exact ⟨e, h.symm⟩
  · split at h <;> simp at h

/-- idle, where the thread waits on no queue. -/
theorem idleN (h : MP Z a) {x : Nat} (hx : x ∈ sl Z.tl) (hn : ∀ i, place (a.th x) ≠ some (.w i)) (c : Int) (hc : c = if (a.th x).st = 2 then -1 else a.cur) :
    ((({ a with cur := c } : AK).setQ (.r (a.th x).prio.toNat) ((a.q (.r (a.th x).prio.toNat)).filter (fun y => decide (y ≠ x)))).setT x { a.th x with st := 0 }).setT x { a.th x with st := 0, wait := ⟨0, 0⟩ } = leaveA a x := by
  unfold leaveA AK.setT AK.setQ
  simp only [AK.mk.injEq]
  have hok : (QL.r (a.th x).prio.toNat).ok := by have := h.pr x hx; show _ < 8; omega
  refine ⟨?_, ?_, trivial, hc, trivial, trivial⟩
  · funext j
    by_cases e : j = x
    · subst e; rw [upd_same, upd_same]
    · rw [upd_other _ _ e, upd_other _ _ e, upd_other _ _ e]
  · funext L
    unfold qCut
    by_cases e : L = .r (a.th x).prio.toNat
    · subst e
      rw [if_pos rfl]
      by_cases e2 : place (a.th x) = some (.r (a.th x).prio.toNat)
      · rw [if_pos e2]; exact erase_filter (h.nd _ hok)
      · rw [if_neg e2]; exact filter_out (fun hq => e2 (h.mq _ hok x hq).2)
    · rw [if_neg e]
      rw [if_neg]
      intro hp
      cases L with
      | r p => exact e (by rw [(place_r hp).2])
      | w i => exact hn i hp

/-- idle, where it waits on queue i. -/
theorem idleW (h : MP Z a) {x i : Nat} (hx : x ∈ sl Z.tl) (hi : i < 256) (hp : place (a.th x) = some (.w i)) (c : Int) (hc : c = if (a.th x).st = 2 then -1 else a.cur) :
    (((({ a with cur := c } : AK).setQ (.r (a.th x).prio.toNat) ((a.q (.r (a.th x).prio.toNat)).filter (fun y => decide (y ≠ x)))).setQ (.w i) ((a.q (.w i)).filter (fun y => decide (y ≠ x)))).setT x { a.th x with st := 0 }).setT x { a.th x with st := 0, wait := ⟨0, 0⟩ } = leaveA a x := by
  unfold leaveA AK.setT AK.setQ
  simp only [AK.mk.injEq]
  have hok : (QL.r (a.th x).prio.toNat).ok := by have := h.pr x hx; show _ < 8; omega
  refine ⟨?_, ?_, trivial, hc, trivial, trivial⟩
  · funext j
    by_cases e : j = x
    · subst e; rw [upd_same, upd_same]
    · rw [upd_other _ _ e, upd_other _ _ e, upd_other _ _ e]
  · funext L
    unfold qCut
    rw [hp]
    by_cases e : L = .w i
    · subst e
      rw [if_pos rfl, if_pos rfl]
      exact erase_filter (h.nd _ (show i < 256 from hi))
    · have hne : ¬ some (QL.w i) = some L := fun q => e (by simpa using q.symm)
      rw [if_neg e, if_neg hne]
      by_cases e1 : L = .r (a.th x).prio.toNat
      · subst e1
        rw [if_pos rfl]
        exact filter_out (fun hq => by have := (h.mq _ hok x hq).2; rw [hp] at this; simp at this)
      · rw [if_neg e1]
end
end Go.Proofs.Qxb6500918aDoor
