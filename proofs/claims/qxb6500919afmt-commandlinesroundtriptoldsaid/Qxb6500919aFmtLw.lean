/-
  For the laws: the points of a log; a block that becomes a row.
-/
import Derived.Test.Qxb6500919aFmtSeX
namespace Go.Rp
open Go.Sx Go.Proofs.Qxb6500919aFmt

def ptsOf (b : Int) (l : List Pt) : List Int := b :: (l.filter (fun p => p.idx != b)).map (·.idx)

theorem ptsOf_len (b : Int) (l : List Pt) : (ptsOf b l).length ≤ l.length + 1 := by
  simp only [ptsOf, List.length_cons, List.length_map]
  have := List.length_filter_le (fun p => p.idx != b) l
  omega

theorem _root_.Go.Sx.St.rowOf {nn : Nat} {K : List Nat} {w0 w : World} {R : List RS} {r : RS} {T : Slots} {L : Mem} {a : Act} {b : Nat} {cs : List Value} {e : TypeId}
    (hst : St ⟨nn, K, w0, Rws R, Ff R⟩ T (L ++ [(b, ⟨cs, e, false⟩)]) a w) (hF : r.F = [b]) (hr : r.at w) : St ⟨nn, K, w0, Rws (R ++ [r]), Ff (R ++ [r])⟩ T L a w := by
  have hff : Ff (R ++ [r]) = Ff R ++ [b] := by simp [Ff, hF]
  have hb : b ∉ Ff R := hst.disj (b, ⟨cs, e, false⟩) (by simp) rfl
  have h2 := hst.drop1
  refine h2.say ⟨?_, fun q hq => ?_⟩ Rws.stable ?_ ?_
  · rw [hff, List.nodup_append]
    exact ⟨hst.inv.1, by simp, fun x hx y hy => by simp at hy; subst hy; intro h; subst h; exact hb hx⟩
  · rcases List.mem_append.1 hq with h | h
    · exact hst.inv.2 q h
    · simp at h; subst h; exact hr
  · intro x hx
    rw [hff] at hx
    rcases List.mem_append.1 hx with h | h
    · exact hst.low x h
    · simp at h; subst h; exact lt_of_heap (hst.known (x, ⟨cs, e, false⟩) (by simp))
  · intro kb hk hro hx
    rw [hff] at hx
    rcases List.mem_append.1 hx with h | h
    · exact h2.disj kb hk hro h
    · simp at h
      have := hst.nodup
      rw [List.map_append, List.nodup_append] at this
      exact this.2.2 kb.1 (List.mem_map.2 ⟨kb, hk, rfl⟩) b (by simp) h

end Go.Rp
