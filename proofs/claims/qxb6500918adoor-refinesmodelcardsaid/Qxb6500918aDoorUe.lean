/-
  What the model's queues and threads keep, through the moves of a thread.
-/
import Derived.Test.Qxb6500918aDoorUd
namespace Go.Proofs.Qxb6500918aDoor
open Go.Sx Go.Kn

section
variable {Z : MZ} {R : MR} {a : AK}

def qMove (q : QL → List Nat) (o : Option QL) (p : Option QL) (x : Nat) : QL → List Nat := fun L => if p = some L then qCut q o x L ++ [x] else qCut q o x L

theorem qMove_none (q : QL → List Nat) (o : Option QL) (x : Nat) : qMove q o none x = qCut q o x := by
  funext L; unfold qMove; rw [if_neg (by simp)]
theorem qMove_some (q : QL → List Nat) (o : Option QL) (L : QL) (x : Nat) : qMove q o (some L) x = qPush (qCut q o x) L x := by
  funext L'
  unfold qMove qPush
  by_cases e : L' = L
  · subst e; rw [if_pos rfl, if_pos rfl]
  · rw [if_neg (fun q => e (by simpa using q.symm)), if_neg e]

theorem qMove_mem {q : QL → List Nat} {o p : Option QL} {x z : Nat} {L : QL} (h : z ∈ qMove q o p x L) : z ∈ qCut q o x L ∨ (z = x ∧ p = some L) := by
  unfold qMove at h
  split at h
  · rename_i e
    rcases List.mem_append.1 h with h | h
    · exact .inl h
    · simp at h; exact .inr ⟨h, e⟩
  · exact .inl h

theorem MP.cut_out (h : MP Z a) {x : Nat} {L : QL} (hL : L.ok) : x ∉ qCut a.q (place (a.th x)) x L := by
  unfold qCut
  split
  · exact fun hq => ((h.nd L hL).mem_erase_iff.1 hq).1 rfl
  · rename_i e
    exact fun hq => e (h.mq L hL x hq).2

theorem cut_sub {q : QL → List Nat} {o : Option QL} {x z : Nat} {L : QL} (h : z ∈ qCut q o x L) : z ∈ q L := by
  unfold qCut at h
  split at h
  · exact List.mem_of_mem_erase h
  · exact h

theorem MP.cut_nd (h : MP Z a) {x : Nat} {L : QL} (hL : L.ok) {o : Option QL} : (qCut a.q o x L).Nodup := by
  unfold qCut
  split
  · exact (h.nd L hL).erase _
  · exact h.nd L hL

/-- A thread's block anew, and the thread to where the block says. -/
theorem MP.move (h : MP Z a) {x : Nat} (hx : x ∈ sl Z.tl) {y : Tcb} (hpr : 0 ≤ y.prio ∧ y.prio < 8) (hw1 : ∀ i, place y = some (.w i) → i ∈ sl Z.ql ∧ y.wait = Z.ky i) (hw2 : (∀ i, place y ≠ some (.w i)) → ∀ i ∈ sl Z.ql, Z.ky i ≠ y.wait)
    {c : Int} (hc1 : y.st = 2 ↔ c = (x : Int)) (hc2 : ∀ z ∈ sl Z.tl, z ≠ x → ((a.th z).st = 2 ↔ c = (z : Int))) (hc3 : c = -1 ∨ ∃ z ∈ sl Z.tl, c = (z : Int)) {q : QL → List Nat} (hq : q = qMove a.q (place (a.th x)) (place y) x) {b : AK} (hb : b.th = upd a.th x y ∧ b.q = q ∧ b.cur = c) : MP Z b := by
  obtain ⟨b1, b2, b3⟩ := hb
  have hth : ∀ z, z ≠ x → b.th z = a.th z := fun z hz => by rw [b1]; exact upd_other _ _ hz
  have htx : b.th x = y := by rw [b1]; exact upd_same _ _ _
  have key : ∀ z, z ∈ sl Z.tl → (z = x ∧ b.th z = y) ∨ (z ≠ x ∧ b.th z = a.th z) := fun z _ => by
    by_cases e : z = x
    · subst e; exact .inl ⟨rfl, htx⟩
    · exact .inr ⟨e, hth z e⟩
  refine ⟨fun L hL => ?_, fun L hL z hz => ?_, fun z hz L hp => ?_, fun z hz i hp => ?_, fun z hz hn i hi => ?_, fun z hz => ?_, fun z hz => ?_, by rw [b3]; exact hc3⟩
  · rw [b2, hq]
    unfold qMove
    split
    · rw [List.nodup_append]
      refine ⟨h.cut_nd hL, by simp, fun u hu v hv e => ?_⟩
      simp at hv
      rw [e, hv] at hu
      exact h.cut_out hL hu
    · exact h.cut_nd hL
  · rw [b2, hq] at hz
    rcases qMove_mem hz with hz | ⟨rfl, hp⟩
    · have hne : z ≠ x := fun e => h.cut_out hL (by rw [e] at hz; exact hz)
      rw [hth z hne]
      exact h.mq L hL z (cut_sub hz)
    · exact ⟨hx, by rw [htx]; exact hp⟩
  · rw [b2, hq]
    unfold qMove
    rcases key z hz with ⟨e, e2⟩ | ⟨e, e2⟩
    · rw [e2] at hp; rw [if_pos hp, e]; simp
    · rw [e2] at hp
      have h1 := h.me z hz L hp
      have h2 : z ∈ qCut a.q (place (a.th x)) x L := by
        unfold qCut
        split
        · exact (List.mem_erase_of_ne e).2 h1
        · exact h1
      split
      · exact List.mem_append_left _ h2
      · exact h2
  · rcases key z hz with ⟨e, e2⟩ | ⟨e, e2⟩
    · rw [e2] at hp ⊢; exact hw1 i hp
    · rw [e2] at hp ⊢; exact h.wq z hz i hp
  · rcases key z hz with ⟨e, e2⟩ | ⟨e, e2⟩
    · rw [e2] at hn ⊢; exact hw2 hn i hi
    · rw [e2] at hn ⊢; exact h.wn z hz hn i hi
  · rcases key z hz with ⟨e, e2⟩ | ⟨e, e2⟩
    · rw [e2]; exact hpr
    · rw [e2]; exact h.pr z hz
  · rw [b3]
    rcases key z hz with ⟨e, e2⟩ | ⟨e, e2⟩
    · rw [e2, e]; exact hc1
    · rw [e2]; exact hc2 z hz e

/-- Where the running thread leaves: what is left. -/
theorem MP.cut_cur (h : MP Z a) {x : Nat} (hx : x ∈ sl Z.tl) : (∀ z ∈ sl Z.tl, z ≠ x → ((a.th z).st = 2 ↔ (if (a.th x).st = 2 then -1 else a.cur) = (z : Int))) ∧ ((if (a.th x).st = 2 then -1 else a.cur) = -1 ∨ ∃ z ∈ sl Z.tl, (if (a.th x).st = 2 then -1 else a.cur) = (z : Int)) ∧ (if (a.th x).st = 2 then -1 else a.cur) ≠ (x : Int) := by
  have h1 := h.cu x hx
  split
  · rename_i e
    refine ⟨fun z hz hne => ?_, .inl rfl, by omega⟩
    have := h.cu z hz
    constructor
    · intro h2; have := this.1 h2; have := h1.1 e; omega
    · intro h2; omega
  · rename_i e
    exact ⟨fun z hz _ => h.cu z hz, h.cr, fun h2 => e (h1.2 h2)⟩

theorem MP.leave (h : MP Z a) (hk : MK Z R) {x : Nat} (hx : x ∈ sl Z.tl) : MP Z (leaveA a x) := by
  obtain ⟨c1, c2, c3⟩ := h.cut_cur hx
  refine h.move hx (y := { a.th x with st := 0, wait := ⟨0, 0⟩ }) (h.pr x hx) (fun i hp => ?_) (fun _ i hi => hk.ne0 (hk.qx i hi)) (c := if (a.th x).st = 2 then -1 else a.cur) ⟨fun e => ?_, fun e => absurd e c3⟩ c1 c2 rfl ⟨rfl, ?_, rfl⟩
  · simp [place] at hp
  · have : (0 : Int) = 2 := e; omega
  · exact (qMove_none _ _ _).symm

theorem MP.wake (h : MP Z a) (hk : MK Z R) {x : Nat} (hx : x ∈ sl Z.tl) : MP Z (wakeA a x) := by
  obtain ⟨c1, c2, c3⟩ := h.cut_cur hx
  refine h.move hx (y := { a.th x with st := 1, wait := ⟨0, 0⟩ }) (h.pr x hx) (fun i hp => ?_) (fun _ i hi => hk.ne0 (hk.qx i hi)) (c := if (a.th x).st = 2 then -1 else a.cur) ⟨fun e => ?_, fun e => absurd e c3⟩ c1 c2 rfl ⟨rfl, ?_, rfl⟩
  · simp [place] at hp
  · have : (1 : Int) = 2 := e; omega
  · exact (qMove_some _ _ _ _).symm

theorem place_b {t : Tcb} (h : t.st = 3 ∨ t.st = 4 ∨ t.st = 5) : place t = some (.w t.wait.idx.toNat) := by
  unfold place
  rw [if_neg (by omega), if_pos h]

theorem MP.block (h : MP Z a) (hk : MK Z R) {x i : Nat} (hx : x ∈ sl Z.tl) (hi : i ∈ sl Z.ql) {s : Int} (hs : s = 3 ∨ s = 4 ∨ s = 5) : MP Z (blockA a x s (Z.ky i)) := by
  obtain ⟨c1, c2, c3⟩ := h.cut_cur hx
  have hkx := hk.kx i (hk.qx i hi)
  have hp : place { a.th x with st := s, wait := Z.ky i } = some (.w i) := by
    rw [place_b hs]
    show some (QL.w (Z.ky i).idx.toNat) = _
    rw [hkx, Int.toNat_natCast]
  refine h.move hx (y := { a.th x with st := s, wait := Z.ky i }) (h.pr x hx) (fun j hq => ?_) (fun hn => absurd hp (hn i)) (c := if (a.th x).st = 2 then -1 else a.cur) ⟨fun e => ?_, fun e => absurd e c3⟩ c1 c2 rfl ⟨rfl, ?_, rfl⟩
  · rw [hp] at hq; simp at hq; subst hq; exact ⟨hi, rfl⟩
  · have e2 : s = 2 := e
    rcases hs with h1 | h1 | h1 <;> rw [h1] at e2 <;> exact absurd e2 (by decide)
  · have h6 : s ≠ 6 := by rcases hs with h1 | h1 | h1 <;> rw [h1] <;> decide
    show (if s = 6 then _ else qPush (qCut a.q (place (a.th x)) x) (.w (Z.ky i).idx.toNat) x) = _
    rw [if_neg h6, hp, hkx, Int.toNat_natCast, qMove_some]

theorem MP.blockR (h : MP Z a) {x : Nat} (hx : x ∈ sl Z.tl) {o : Rf} (ho : ∀ i ∈ sl Z.ql, Z.ky i ≠ o) : MP Z (blockA a x 6 o) := by
  obtain ⟨c1, c2, c3⟩ := h.cut_cur hx
  have hp : place { a.th x with st := 6, wait := o } = none := rfl
  refine h.move hx (y := { a.th x with st := 6, wait := o }) (h.pr x hx) (fun j hq => ?_) (fun hn => ho) (c := if (a.th x).st = 2 then -1 else a.cur) ⟨fun e => ?_, fun e => absurd e c3⟩ c1 c2 rfl ⟨rfl, ?_, rfl⟩
  · rw [hp] at hq; cases hq
  · have : (6 : Int) = 2 := e; omega
  · exact (qMove_none _ _ _).symm

/-- A thread's block anew in what no queue looks at. -/
theorem MP.like (h : MP Z a) {x : Nat} {y : Tcb} (h1 : y.st = (a.th x).st) (h2 : y.wait = (a.th x).wait) (h3 : y.prio = (a.th x).prio) : MP Z (a.setT x y) := by
  have hp : place y = place (a.th x) := by unfold place; rw [h1, h2, h3]
  have key : ∀ z, place ((a.setT x y).th z) = place (a.th z) ∧ ((a.setT x y).th z).st = (a.th z).st ∧ ((a.setT x y).th z).wait = (a.th z).wait ∧ ((a.setT x y).th z).prio = (a.th z).prio := fun z => by
    show place (upd a.th x y z) = _ ∧ (upd a.th x y z).st = _ ∧ (upd a.th x y z).wait = _ ∧ (upd a.th x y z).prio = _
    by_cases e : z = x
    · subst e; rw [upd_same]; exact ⟨hp, h1, h2, h3⟩
    · rw [upd_other _ _ e]; exact ⟨rfl, rfl, rfl, rfl⟩
  refine ⟨h.nd, fun L hL z hz => ?_, fun z hz L hq => ?_, fun z hz i hq => ?_, fun z hz hn i hi => ?_, fun z hz => ?_, fun z hz => ?_, h.cr⟩
  · rw [(key z).1]; exact h.mq L hL z hz
  · rw [(key z).1] at hq; exact h.me z hz L hq
  · rw [(key z).1] at hq; rw [(key z).2.2.1]; exact h.wq z hz i hq
  · rw [(key z).2.2.1]; exact h.wn z hz (fun i => by rw [← (key z).1]; exact hn i) i hi
  · rw [(key z).2.2.2]; exact h.pr z hz
  · rw [(key z).2.1]; exact h.cu z hz

theorem MP.same (h : MP Z a) {b : AK} (h1 : b.th = a.th) (h2 : b.q = a.q) (h3 : b.cur = a.cur) : MP Z b := by
  refine ⟨by rw [h2]; exact h.nd, by rw [h1, h2]; exact h.mq, by rw [h1, h2]; exact h.me, by rw [h1]; exact h.wq, by rw [h1]; exact h.wn, by rw [h1]; exact h.pr, by rw [h1, h3]; exact h.cu, by rw [h3]; exact h.cr⟩

theorem leave_th (a : AK) (x : Nat) : (leaveA a x).th x = { a.th x with st := 0, wait := ⟨0, 0⟩ } := upd_same _ _ _
theorem leave_tho {x z : Nat} (h : z ≠ x) : (leaveA a x).th z = a.th z := upd_other _ _ h
theorem wake_th (a : AK) (x : Nat) : (wakeA a x).th x = { a.th x with st := 1, wait := ⟨0, 0⟩ } := upd_same _ _ _
theorem wake_tho {x z : Nat} (h : z ≠ x) : (wakeA a x).th z = a.th z := upd_other _ _ h
theorem block_th (a : AK) (x : Nat) (s : Int) (o : Rf) : (blockA a x s o).th x = { a.th x with st := s, wait := o } := upd_same _ _ _
theorem block_tho {x z : Nat} {s : Int} {o : Rf} (h : z ≠ x) : (blockA a x s o).th z = a.th z := upd_other _ _ h

/-- ready, as the model does it. -/
theorem ready_eq (a : AK) (x : Nat) : ((leaveA a x).setT x { a.th x with st := 1, wait := ⟨0, 0⟩ }).setQ (.r (a.th x).prio.toNat) ((leaveA a x).q (.r (a.th x).prio.toNat) ++ [x]) = wakeA a x := by
  unfold leaveA wakeA AK.setT AK.setQ
  simp only [AK.mk.injEq]
  refine ⟨?_, ?_, trivial, trivial, trivial, trivial⟩
  · funext j
    by_cases e : j = x
    · subst e; rw [upd_same, upd_same]
    · rw [upd_other _ _ e, upd_other _ _ e, upd_other _ _ e]
  · funext L
    unfold qPush
    by_cases e : L = .r (a.th x).prio.toNat
    · subst e; rw [if_pos rfl]
    · rw [if_neg e, if_neg e]

theorem queue_eq (hk : MK Z R) {x i : Nat} (hi : i ∈ sl Z.ql) {s : Int} (hs : s ≠ 6) : (((leaveA a x).setT x { a.th x with st := s, wait := ⟨0, 0⟩ }).setT x { a.th x with st := s, wait := Z.ky i }).setQ (.w i) ((leaveA a x).q (.w i) ++ [x]) = blockA a x s (Z.ky i) := by
  have hkx := hk.kx i (hk.qx i hi)
  unfold leaveA blockA AK.setT AK.setQ
  simp only [AK.mk.injEq]
  refine ⟨?_, ?_, trivial, trivial, trivial, trivial⟩
  · funext j
    by_cases e : j = x
    · subst e; rw [upd_same, upd_same]
    · rw [upd_other _ _ e, upd_other _ _ e, upd_other _ _ e, upd_other _ _ e]
  · rw [if_neg hs, hkx, Int.toNat_natCast]
    funext L
    unfold qPush
    by_cases e : L = .w i
    · subst e; rw [if_pos rfl]
    · rw [if_neg e, if_neg e]
end
end Go.Proofs.Qxb6500918aDoor
