/-
  Blocks of a walk beside the model: new ones may turn, a block comes in.
-/
import Derived.Test.Qxb6500918aDoorVf
namespace Go.Proofs.Qxb6500918aDoor
open Go.Sx Go.Kn

section
variable {n : Nat} {K : List Nat} {w0 : World} {mb : Nat} {Z : MZ} {R : MR} {a : AK} {C : CP} {w w' : World} {T : Slots} {L : Mem} {act : Act}

theorem st_new (hst : St (MCx n K w0 mb Z R a C) T L act w) {M : List Nat} (hf : Fr M w w') (hL : ∀ kb ∈ L, kb.1 ∉ M) (hF : ∀ b ∈ mdF mb Z R C, b ∉ M) (hK : ∀ b ∈ M, w0.heap.size ≤ b) : St (MCx n K w0 mb Z R a C) T L act w' := by
  have h0 := hst.inv.1.fr hf hF
  refine hst.call hf (fun b hb => .inr (hK b hb)) (fun kb hkb => ?_) hst.nodup hst.keys ⟨h0, hst.inv.2⟩ MD.stable h0.low hst.disj
  have h := hst.known kb hkb
  exact (hf.block kb.1 (lt_of_heap h) (hL kb hkb)).trans h

theorem st_addL (hst : St (MCx n K w0 mb Z R a C) T L act w) {b : Nat} {blk : Blk} (hb : w.heap[b]? = some blk.obj) (hL : ∀ kb ∈ L, kb.1 ≠ b) (hK : w0.heap.size ≤ b) (hF : b ∉ mdF mb Z R C) : St (MCx n K w0 mb Z R a C) T (L ++ [(b, blk)]) act w := by
  refine ⟨hst.size, hst.defs, hst.slots, ?_, ?_, ?_, hst.frame, hst.inv, hst.stab, hst.low, ?_⟩
  · intro kb h
    rcases List.mem_append.1 h with h | h
    · exact hst.known kb h
    · simp at h; subst h; exact hb
  · rw [List.map_append, List.nodup_append]
    refine ⟨hst.nodup, by simp, fun x hx y hy e => ?_⟩
    simp at hy
    obtain ⟨kb, hkb, rfl⟩ := List.mem_map.1 hx
    exact hL kb hkb (by rw [← hy]; exact e)
  · intro kb h hr
    rcases List.mem_append.1 h with h | h
    · exact hst.keys kb h hr
    · simp at h; subst h; exact .inr hK
  · intro kb h hr
    rcases List.mem_append.1 h with h | h
    · exact hst.disj kb h hr
    · simp at h; subst h; exact hF
end
end Go.Proofs.Qxb6500918aDoor
