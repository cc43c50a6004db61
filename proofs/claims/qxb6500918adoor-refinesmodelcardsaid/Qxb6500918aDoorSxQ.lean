/-
  A call that turns one known block and the carried fact.
-/
import Derived.Test.Qxb6500918aDoorSxP
namespace Go.Sx

section
variable {P : Program} {C : Ctx} {T : Slots} {L L' : Mem} {w w' : World} {a : Act}

theorem St.turnAt (hst : St C T L a w) {k b : Nat} {blk blk' : Blk} (hk : nth L k = some (b, blk)) (hro : blk.ro = false) (hro' : blk'.ro = false) (hfr : Fr (b :: C.F) w w') (hb : w'.heap[b]? = some blk'.obj)
    (hK : ∀ x ∈ C.F, x ∈ C.K ∨ C.w0.heap.size ≤ x) (hr : ∀ kb ∈ L, kb.2.ro = true → kb.1 ∉ C.F) (hL : setM L k blk' = L') {A' : World → Prop} {F' : List Nat}
    (hA : A' w') (hs : Stable A' F') (hlow : ∀ x ∈ F', x < w'.heap.size) (hF : ∀ x ∈ F', x ∈ C.F ∨ w.heap.size ≤ x) : St ⟨C.n, C.K, C.w0, A', F'⟩ T L' a w' := by
  subst hL
  have hmem : (b, blk) ∈ L := by rw [nth_eq] at hk; exact List.mem_of_getElem? hk
  have hset : setM L k blk' = L.set k (b, blk') := by rw [setM_eq, hk]
  have hlt : k < L.length := by rw [nth_eq] at hk; exact (List.getElem?_eq_some_iff.1 hk).1
  have hget : L[k] = (b, blk) := by rw [nth_eq] at hk; exact (List.getElem?_eq_some_iff.1 hk).2
  refine hst.turn hfr ?_ ?_ ?_ hA hs hlow hF
  · intro x hx
    rcases List.mem_cons.1 hx with rfl | hx
    · exact hst.keys _ hmem hro
    · exact hK x hx
  · rw [hset, List.map_set]
    apply List.ext_getElem?
    intro j
    by_cases e : j = k
    · subst e
      simp [hlt, hget, hro, hro']
    · simp [Ne.symm e]
  · intro kb hkb
    rw [hset] at hkb
    obtain ⟨j, hj, rfl⟩ := List.mem_iff_getElem.1 hkb
    rw [List.getElem_set]
    by_cases e : k = j
    · rw [if_pos e]; exact hb
    · rw [if_neg e]
      have hjl : j < L.length := by simpa using hj
      have hm : L[j] ∈ L := List.getElem_mem hjl
      have hne : L[j].1 ≠ b := by
        have := nodup_key hst.nodup (i := j) (j := k) (x := L[j]) (y := (b, blk)) (by rw [nth_eq]; simp) hk (Ne.symm e)
        exact this
      rw [hfr.block _ (lt_of_heap (hst.known _ hm)) ?_]
      · exact hst.known _ hm
      · intro hq
        rcases List.mem_cons.1 hq with hq | hq
        · exact hne hq
        · cases hrr : L[j].2.ro with
          | true => exact hr _ hm hrr hq
          | false => exact hst.disj _ hm hrr hq

end
end Go.Sx
