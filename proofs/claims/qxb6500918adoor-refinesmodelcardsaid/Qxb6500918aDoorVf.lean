/-
  Kernel and model side by side: facts for the comparison.
-/
import Derived.Test.Qxb6500918aDoorVe
import Derived.Test.Qxb6500918aDoorUm
import Derived.Test.Qxb6500918aDoorPI
import Derived.Test.Qxb6500918aDoorPE
import Derived.Test.Qxb6500918aDoorP9
import Derived.Test.Qxb6500918aDoorKY
namespace Go.Proofs.Qxb6500918aDoor
open Go.Sx Go.Kn

theorem kpK {w w' : World} {b : Nat} {o : Obj} {K : List Nat} (h : w.heap[b]? = some o) (hf : Fr K w w') (hK : b ∉ K) : w'.heap[b]? = some o := (hf.block b (lt_of_heap h) hK).trans h
theorem cpK {w w' : World} {kb bo bc : Nat} {nd : Nat → Nat} {C : CP} {K : List Nat} (h : CapAt w bo bc nd C) (hf : Fr K w w') (hK : ∀ b ∈ kb :: capF bo bc nd C, b ∉ K) : CapAt w' bo bc nd C :=
  CapAt.stable w w' (fun b hb => hf.block b (h.low b hb) (hK b (List.mem_cons_of_mem _ hb))) h
theorem rwsNil {w : World} : Rws [rl u8C 5 1 [] none 0 []] w := ⟨by simp [Ff], fun r hr => by simp at hr; subst hr; exact rl_nil _ _ _ _⟩
theorem storeN_pos (E : Nat → Ent) : 0 < (([] : List Int) ++ uvs (storeN E)).length := by
  have h2 : 0 < (uv 257).length := by decide
  unfold storeN; rw [List.nil_append, uvs_app, List.length_append]
  have : uvs [257] = uv 257 := by simp [uvs]
  rw [this]; omega
theorem spaceN_pos (C : CP) : 0 < (([] : List Int) ++ uvs (spaceN C)).length := by
  have h2 : 0 < (uv 4096).length := by decide
  unfold spaceN; rw [List.nil_append, uvs_app, List.length_append]
  have : uvs [4096] = uv 4096 := by simp [uvs]
  rw [this]; omega

/-- Two lists of different numbers with the same members are of one length. -/
theorem sub_len : ∀ {xs ys : List Nat}, xs.Nodup → (∀ x ∈ xs, x ∈ ys) → xs.length ≤ ys.length
  | [], ys, _, _ => Nat.zero_le _
  | x :: r, ys, h1, h => by
    rw [List.nodup_cons] at h1
    have hx := h x (by simp)
    have ih := sub_len (ys := ys.erase x) h1.2 (fun y hy => (List.mem_erase_of_ne (fun e => h1.1 (by rw [← e]; exact hy))).2 (h y (List.mem_cons_of_mem _ hy)))
    rw [List.length_erase_of_mem hx] at ih
    have := List.length_pos_of_mem hx
    simp only [List.length_cons]
    omega
theorem same_len {xs ys : List Nat} (h1 : xs.Nodup) (h2 : ys.Nodup) (h : ∀ x, x ∈ xs ↔ x ∈ ys) : xs.length = ys.length :=
  Nat.le_antisymm (sub_len h1 (fun x hx => (h x).1 hx)) (sub_len h2 (fun x hx => (h x).2 hx))

section
variable {Z : MZ} {R : MR} {a : AK} {C : CP} {S : KP} {n : Int}

def liveI (E : Nat → Ent) (t : Int) : List Nat := (List.range 256).filter (fun i => decide ((E i).ty = t))
theorem liveP_eq (E : Nat → Ent) (t : Int) : liveP E t 256 = (liveI E t).map (fun (i : Nat) => refAtP E (i : Int)) := rfl
theorem liveI_nd (E : Nat → Ent) (t : Int) : (liveI E t).Nodup := List.filter_sublist.nodup List.nodup_range
theorem liveI_mem {E : Nat → Ent} {t : Int} {i : Nat} : i ∈ liveI E t ↔ i < 256 ∧ (E i).ty = t := by simp [liveI]

theorem live_kys (h : MI Z a C) (t : Int) : liveP C.ent t 256 = kys Z (liveI C.ent t) := by
  rw [liveP_eq]
  exact List.map_congr_left (fun i hi => (h.ky i (liveI_mem.1 hi).1).symm)

theorem live_len3 (h : MI Z a C) (hk : MK Z R) : (liveP C.ent 3 256).length = Z.tl.length := by
  rw [liveP_eq, List.length_map, show Z.tl.length = (sl Z.tl).length by simp [sl]]
  refine same_len (liveI_nd _ _) hk.tn (fun x => ?_)
  rw [liveI_mem]
  constructor
  · rintro ⟨h1, h2⟩; exact (h.td x h1).1 h2
  · intro hx
    have h1 := hk.tx x hx
    exact ⟨h1, (h.td x h1).2 hx⟩

theorem live_nd45 (C : CP) : (liveI C.ent 4 ++ liveI C.ent 5).Nodup := by
  rw [List.nodup_append]
  refine ⟨liveI_nd _ _, liveI_nd _ _, fun x hx y hy e => ?_⟩
  have h1 := (liveI_mem.1 hx).2
  have h2 := (liveI_mem.1 hy).2
  rw [e, h2] at h1
  exact absurd h1 (by decide)

theorem live_len45 (h : MI Z a C) (hk : MK Z R) : (liveI C.ent 4 ++ liveI C.ent 5).length = Z.ql.length := by
  rw [show Z.ql.length = (sl Z.ql).length by simp [sl]]
  refine same_len (live_nd45 C) hk.qn (fun x => ?_)
  rw [List.mem_append, liveI_mem, liveI_mem]
  constructor
  · rintro (⟨h1, h2⟩ | ⟨h1, h2⟩)
    · exact (h.qd x h1).1 (.inl h2)
    · exact (h.qd x h1).1 (.inr h2)
  · intro hx
    have h1 := hk.qx x hx
    exact ((h.qd x h1).2 hx).imp (fun q => ⟨h1, q⟩) (fun q => ⟨h1, q⟩)

theorem cur_same (h : MI Z a C) (hk : MK Z R) (hv : Iv S a C n) : refP C.ent S.cur = curR Z a := by
  unfold refP curR
  rw [← hv.ab.cu]
  rcases h.mp.cr with e | ⟨x, hx, e⟩
  · rw [if_pos e, if_pos e]
  · rw [if_neg (by omega), if_neg (by omega), e, Int.toNat_natCast, h.ky x (hk.tx x hx)]

theorem thread_same (h : MI Z a C) (hk : MK Z R) (hv : Iv S a C n) {i : Nat} (hi : i ∈ sl Z.tl) : thC (threadP S C.ent (Z.ky i)).1 = thC (a.th i) ∧ (threadP S C.ent (Z.ky i)).2 = true := by
  have hx := hk.tx i hi
  have hty : typeOfP C.ent (Z.ky i) = 3 := by
    have := typeOf_ref (E := C.ent) (t := (i : Int)) ⟨by omega, by omega⟩
    unfold refP at this
    rw [if_neg (by omega), ← h.ky i hx, Int.toNat_natCast] at this
    rw [this]; exact (h.td i hx).2 hi
  unfold threadP
  rw [if_pos hty, hk.kx i hx, Int.toNat_natCast, hv.ab.th i hx]
  exact ⟨rfl, rfl⟩

theorem waiters_same (h : MI Z a C) (hk : MK Z R) (hv : Iv S a C n) {i : Nat} (hi : i ∈ sl Z.ql) : waitersP S a.q C.ent (Z.ky i) = (kys Z (a.q (.w i)), a.word i) := by
  have hx := hk.qx i hi
  have hty : typeOfP C.ent (Z.ky i) = (C.ent i).ty := by
    have := typeOf_ref (E := C.ent) (t := (i : Int)) ⟨by omega, by omega⟩
    unfold refP at this
    rw [if_neg (by omega), ← h.ky i hx, Int.toNat_natCast] at this
    exact this
  unfold waitersP
  rw [hty, if_pos ((h.qd i hx).2 hi), hk.kx i hx, Int.toNat_natCast, hv.ab.wd i hx]
  congr 1
  unfold refsP kys
  refine List.map_congr_left (fun x hq => ?_)
  have hm := (h.mp.mq (.w i) hx x hq).1
  have := hk.tx x hm
  rw [h.ky x this]
  unfold refP; rw [if_neg (by omega)]

theorem ready_same (h : MI Z a C) (hk : MK Z R) {p : Nat} (hp : p < 8) : refsP C.ent (a.q (.r p)) = kys Z (a.q (.r p)) := by
  unfold refsP kys
  refine List.map_congr_left (fun x hq => ?_)
  have hm := (h.mp.mq (.r p) hp x hq).1
  have := hk.tx x hm
  rw [h.ky x this]
  unfold refP; rw [if_neg (by omega)]
end
end Go.Proofs.Qxb6500918aDoor
