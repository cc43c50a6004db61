/-
  Small helpers over the log and the session.
-/
import Derived.Test.Qxb6500919aFmtPl
import Derived.Test.Qxb6500919aFmtSxI
namespace Go.Rp
open Go.Sx

theorem LogAt.of {w : World} {bl : Nat} {d : Hd} {lg : Lg} {ro : Bool} (h : w.heap[bl]? = some (Blk.obj ⟨logB d lg, 89, ro⟩)) (h2 : Rws (d.rows lg) w) (h3 : bl ∉ d.F) : LogAt w bl d lg := ⟨h, h2, h3⟩

theorem Hd.F_rows (d : Hd) (lg : Lg) : d.F = Ff (d.rows lg) := by simp [Hd.F, Ff, Hd.rows]

theorem LogAt.ofSt {n : Nat} {K : List Nat} {w0 w : World} {R : List RS} {T : Slots} {L : Mem} {a : Act} {bl : Nat} {d : Hd} {lg : Lg} (h : St ⟨n, K, w0, Rws R, Ff R⟩ T L a w) {k : Nat}
    (hk : nth L k = some (bl, ⟨logB d lg, 89, false⟩)) (hs : List.Sublist (d.rows lg) R) : LogAt w bl d lg := by
  refine ⟨h.kn hk, h.inv.sub hs, fun hq => ?_⟩
  rw [d.F_rows lg] at hq
  exact h.disj (bl, _) (by rw [nth_eq] at hk; exact List.mem_of_getElem? hk) rfl ((Ff_sub hs).mem hq)

theorem Rws.perm {R R' : List RS} {w : World} (h : Rws R w) (hp : List.Perm R R') : Rws R' w :=
  ⟨(hp.flatMap_right _).nodup_iff.1 h.1, fun r hr => h.2 r (hp.mem_iff.2 hr)⟩

theorem LogAt.ofSt' {n : Nat} {K : List Nat} {w0 w : World} {R R2 : List RS} {T : Slots} {L : Mem} {a : Act} {bl : Nat} {d : Hd} {lg : Lg} (h : St ⟨n, K, w0, Rws R, Ff R⟩ T L a w) {k : Nat}
    (hk : nth L k = some (bl, ⟨logB d lg, 89, false⟩)) (hs : List.Sublist R2 R) (hp : List.Perm R2 (d.rows lg)) : LogAt w bl d lg := by
  refine ⟨h.kn hk, Rws.perm (h.inv.sub hs) hp, fun hq => ?_⟩
  rw [d.F_rows lg] at hq
  exact h.disj (bl, _) (by rw [nth_eq] at hk; exact List.mem_of_getElem? hk) rfl ((Ff_sub hs).mem ((hp.flatMap_right _).mem_iff.2 hq))

/-- A row said otherwise, nothing done. -/
theorem _root_.Go.Sx.St.rowAs {nn : Nat} {K : List Nat} {w0 w : World} {R R' : List RS} {r r' : RS} {T : Slots} {L : Mem} {a : Act} (hst : St ⟨nn, K, w0, Rws R, Ff R⟩ T L a w) {j : Nat} (hj : nth R j = some r) (hr : r'.at w)
    (hF : r'.F = r.F) (hR : setR R j r' = R') : St ⟨nn, K, w0, Rws R', Ff R'⟩ T L a w := by
  subst hR
  have hsub : ∀ b ∈ Ff (setR R j r'), b ∈ Ff R := by
    intro b hb
    obtain ⟨q, hq, hbq⟩ := List.mem_flatMap.1 hb
    rcases setR_mem R j r' q hq with h0 | ⟨i, hi, hx'⟩
    · subst h0
      refine List.mem_flatMap.2 ⟨r, ?_, by rw [← hF]; exact hbq⟩
      rw [nth_eq] at hj; exact List.mem_of_getElem? hj
    · rw [nth_eq] at hx'
      exact List.mem_flatMap.2 ⟨q, List.mem_of_getElem? hx', hbq⟩
  exact hst.say (hst.inv.set hj hr (Fr.refl _ _) (fun b hb => .inl (by rw [← hF]; exact hb))) Rws.stable (fun b hb => hst.low b (hsub b hb)) (fun kb h1 h2 h3 => hst.disj kb h1 h2 (hsub _ h3))

theorem find_at {α : Type} {p : α → Bool} : ∀ {l : List α} {k : Nat} {x : α}, l[k]? = some x → p x = true → (∀ q ∈ l.take k, p q = false) → l.find? p = some x
  | [], k, x, h, _, _ => by simp at h
  | y :: l, 0, x, h, hp, _ => by simp at h; subst h; simp [hp]
  | y :: l, k + 1, x, h, hp, hq => by
    have hy : p y = false := hq y (by simp)
    rw [List.find?_cons_of_neg (by simp [hy])]
    exact find_at (by simpa using h) hp (fun q hm => hq q (by simp [hm]))

theorem freshOf {F : List Nat} {bl n : Nat} (h : ∀ b ∈ F, b ∈ [bl] ∨ n ≤ b) (hn : bl ∉ F) : ∀ b ∈ F, n ≤ b := by
  intro b hb
  rcases h b hb with h1 | h1
  · simp at h1; subst h1; exact absurd hb hn
  · exact h1

end Go.Rp
