/-
  An object is forgotten: the plain side.
-/
import Derived.Test.Qxb6500918aDoorUs
namespace Go.Proofs.Qxb6500918aDoor
open Go.Sx Go.Kn

/-- Who waits for a reply from r, and is known by its name at hand, is made ready. -/
def wakeM (Z : MZ) (E : Nat → Ent) (a : AK) (r : Rf) : Nat → AK
  | 0 => a
  | n + 1 => if n ∈ sl Z.tl ∧ Z.ky n = refAtP E (n : Int) ∧ ((wakeM Z E a r n).th n).st = 6 ∧ ((wakeM Z E a r n).th n).wait = r then wakeA (wakeM Z E a r n) n else wakeM Z E a r n

section
variable {Z : MZ} {R : MR} {a : AK} {E : Nat → Ent} {w : World}

theorem MP.delT (h : MP Z a) {o : Nat} (hq : ∀ L : QL, L.ok → o ∉ a.q L) (hc : a.cur ≠ (o : Int)) : MP (Z.delT o) a := by
  refine ⟨h.nd, fun L hL x hx => ?_, fun x hx => h.me x (sl_del.1 hx).1, fun x hx => h.wq x (sl_del.1 hx).1, fun x hx => h.wn x (sl_del.1 hx).1, fun x hx => h.pr x (sl_del.1 hx).1, fun x hx => h.cu x (sl_del.1 hx).1, ?_⟩
  · have h1 := h.mq L hL x hx
    exact ⟨sl_del.2 ⟨h1.1, fun e => hq L hL (by rw [← e]; exact hx)⟩, h1.2⟩
  · rcases h.cr with e | ⟨x, hx, e⟩
    · exact .inl e
    · exact .inr ⟨x, sl_del.2 ⟨hx, fun q => hc (by rw [e, q])⟩, e⟩

theorem MP.dead (h : MP Z a) {o : Nat} (ho : o ∉ sl Z.tl) (y : Tcb) : MP Z (a.setT o y) := by
  have key : ∀ x ∈ sl Z.tl, (a.setT o y).th x = a.th x := fun x hx => upd_other _ _ (fun e => ho (by rw [← e]; exact hx))
  refine ⟨h.nd, fun L hL x hx => ?_, fun x hx L hp => ?_, fun x hx i hp => ?_, fun x hx hn i hi => ?_, fun x hx => ?_, fun x hx => ?_, h.cr⟩
  · have h1 := h.mq L hL x hx
    rw [key x h1.1]; exact h1
  · rw [key x hx] at hp; exact h.me x hx L hp
  · rw [key x hx] at hp ⊢; exact h.wq x hx i hp
  · rw [key x hx] at hn ⊢; exact h.wn x hx hn i hi
  · rw [key x hx]; exact h.pr x hx
  · rw [key x hx]; exact h.cu x hx

theorem MP.delQ (h : MP Z a) {i : Nat} (hq : a.q (.w i) = []) : MP (Z.delQ i) a := by
  refine ⟨h.nd, h.mq, h.me, fun x hx j hp => ?_, fun x hx hn j hj => h.wn x hx hn j (sl_del.1 hj).1, h.pr, h.cu, h.cr⟩
  have h1 := h.wq x hx j hp
  refine ⟨sl_del.2 ⟨h1.1, fun e => ?_⟩, h1.2⟩
  have h2 := h.me x hx _ hp
  rw [e, hq] at h2
  cases h2

/-- A thread that has left is nowhere. -/
theorem MP.out (h : MP Z a) (hk : MK Z R) {o : Nat} (ho : o ∈ sl Z.tl) : (∀ L : QL, L.ok → o ∉ (leaveA a o).q L) ∧ (leaveA a o).cur ≠ (o : Int) := by
  have h1 := h.leave hk ho
  have hs : ((leaveA a o).th o).st = 0 := by rw [leave_th]
  refine ⟨fun L hL hq => ?_, fun e => ?_⟩
  · have := (h1.mq L hL o hq).2
    rw [leave_th] at this
    simp [place] at this
  · have := (h1.cu o ho).2 e
    rw [hs] at this
    exact absurd this (by decide)

theorem MP.forgetT (h : MP Z a) (hk : MK Z R) {o : Nat} (ho : o ∈ sl Z.tl) : MP (Z.delT o) ((leaveA a o).setT o (unl noT)) :=
  ((h.leave hk ho).delT (h.out hk ho).1 (h.out hk ho).2).dead (fun hq => (sl_del.1 hq).2 rfl) _

theorem MP.wakeM (h : MP Z a) (hk : MK Z R) (r : Rf) : ∀ n, MP Z (wakeM Z E a r n)
  | 0 => h
  | n + 1 => by
    have ih := MP.wakeM h hk r n
    rw [Go.Proofs.Qxb6500918aDoor.wakeM]
    split
    · rename_i e; exact ih.wake hk e.1
    · exact ih

theorem wake_qw (h : MP Z a) {i x : Nat} {r : List Nat} (hi : i < 256) (hq : a.q (.w i) = x :: r) : (wakeA a x).q (.w i) = r := by
  have hp := (h.mq (.w i) hi x (by rw [hq]; simp)).2
  show qPush (qCut a.q (place (a.th x)) x) (.r (a.th x).prio.toNat) x (.w i) = r
  unfold qPush qCut
  rw [if_neg (by intro hz; cases hz), hp, if_pos rfl, hq]
  simp

/-- The waiters of a queue go one by one. -/
theorem fold_wake (h : MP Z a) (hk : MK Z R) {i : Nat} (hi : i < 256) : ∀ m, m ≤ (a.q (.w i)).length → MP Z (((a.q (.w i)).take m).foldl wakeA a) ∧ (((a.q (.w i)).take m).foldl wakeA a).q (.w i) = (a.q (.w i)).drop m
  | 0, _ => ⟨by simpa using h, by simp⟩
  | m + 1, hm => by
    have ih := fold_wake h hk hi m (by omega)
    obtain ⟨x, hx⟩ : ∃ x, (a.q (.w i))[m]? = some x := ⟨(a.q (.w i))[m]'(by omega), by simp⟩
    have hd : (a.q (.w i)).drop m = x :: (a.q (.w i)).drop (m + 1) := by
      rw [List.drop_eq_getElem_cons (by omega)]
      rw [List.getElem?_eq_getElem (by omega)] at hx
      simp only [Option.some.injEq] at hx
      rw [hx]
    rw [List.take_add_one, hx, Option.toList, List.foldl_append]
    refine ⟨ih.1.wake hk (h.mq (.w i) hi x (List.mem_of_getElem? hx)).1, ?_⟩
    exact wake_qw ih.1 hi (by rw [ih.2, hd])

theorem row_all {xs : List Rf} {o : Option Addr} {c : Nat} {F : List Nat} (h : (rl rfC 39 2 xs o c F).at w) (hn : 0 < xs.length) : ∃ b cs, o = some ⟨b, 0, none⟩ ∧ w.heap[b]? = some (Blk.obj ⟨cs, 39, false⟩) ∧ F = [b] ∧ ∀ j x, xs[j]? = some x → cellsAre cs (j * 2) (rfC x) := by
  obtain ⟨b, cs, h1, h2, h3, h4, h5, h6⟩ := Row.open_ h hn
  exact ⟨b, cs, h1, h2, h6, fun j x hx => Row.read rfC_len h5 hx (List.getElem?_eq_some_iff.1 hx).1⟩

theorem rowC_all {xs : List Cp} {o : Option Addr} {c : Nat} {F : List Nat} (h : (rl cpC 49 5 xs o c F).at w) (hn : 0 < xs.length) : ∃ b cs, o = some ⟨b, 0, none⟩ ∧ w.heap[b]? = some (Blk.obj ⟨cs, 49, false⟩) ∧ F = [b] ∧ ∀ j x, xs[j]? = some x → cellsAre cs (j * 5) (cpC x) := by
  obtain ⟨b, cs, h1, h2, h3, h4, h5, h6⟩ := Row.open_ h hn
  exact ⟨b, cs, h1, h2, h6, fun j x hx => Row.read (enc := cpC) (sz := 5) (fun _ => rfl) h5 hx (List.getElem?_eq_some_iff.1 hx).1⟩

end
end Go.Proofs.Qxb6500918aDoor
