/-
  The model at boot: its memory, piece by piece.
-/
import Derived.Test.Qxb6500918aDoorVb
import Derived.Test.Qxb6500918aDoorKT
namespace Go.Proofs.Qxb6500918aDoor
open Go.Sx Go.Kn
set_option maxRecDepth 100000

/-- Empty maps. -/
def N3 (l : List Nat) (w : World) : Prop := ∀ r ∈ l, w.heap[r]? = some (mapO [] 0)

section
variable {n : Nat} {K : List Nat} {w0 w w' : World} {T : Slots} {L : Mem} {act : Act} {l : List Nat}

theorem N3.stable : Stable (N3 l) l := fun w w' hs h r hr => by rw [hs r hr]; exact h r hr
theorem N3.low (h : N3 l w) : ∀ b ∈ l, b < w.heap.size := fun b hb => lt_of_heap (h b hb)

theorem st_mkmap (hst : St ⟨n, K, w0, N3 l, l⟩ T L act w) {b : Nat} (hb : w'.heap[b]? = some (mapO [] 0)) (hf : Fr [] w w') (hn : w.heap.size ≤ b) : St ⟨n, K, w0, N3 (b :: l), b :: l⟩ T L act w' := by
  have h1 := hst.grow hf
  have hA : N3 (b :: l) w' := fun r hr => by
    rcases List.mem_cons.1 hr with e | hr
    · rw [e]; exact hb
    · exact h1.inv r hr
  refine ⟨h1.size, h1.defs, h1.slots, h1.known, h1.nodup, h1.keys, h1.frame, hA, N3.stable, hA.low, fun kb hkb hro hq => ?_⟩
  rcases List.mem_cons.1 hq with e | hq
  · have := lt_of_heap (hst.known kb hkb); omega
  · exact h1.disj kb hkb hro hq

def bootZ (mo mc tb qb wb : Nat) : MZ := ⟨mo, mc, fun _ => 0, tb, qb, wb, [], 0, fun _ => 0, [], 0, fun i => ⟨(i : Int), 1⟩⟩
def bootR : MR := ⟨fun _ => none, fun _ => 0, fun _ => [], fun _ => none, fun _ => 0, fun _ => [], [], 0, none⟩
def bootA0 (Q : QL → List Nat) : AK := { bootA Q with cur := -1 }

def mdZ (mo mc tb qb wb : Nat) : List Value :=
  [.pointer (some ⟨mo, 0, none⟩), .pointer (some ⟨mc, 0, none⟩), .map (some tb), .map (some qb), .map (some wb)] ++ (arr 8 one (fun _ => .slice none 0 0) ++ ([.int .u16 0, .int .u32 0] ++ (arr 16 irqC (fun _ => ⟨⟨0, 0⟩, 0, false⟩) ++ [.int .u64 0])))

theorem boot_md0 {Q : QL → List Nat} (hQ : LIQ bootS Q) {mb mo mc tb qb wb : Nat} (hm : w.heap[mb]? = some (Blk.obj ⟨mdZ mo mc tb qb wb, 104, false⟩)) (h3 : N3 [wb, qb, tb] w) (hc : CapAt w mo mc (fun _ => 0) bootC0) (hnd : [mb, tb, qb, wb, mo, mc].Nodup) : MD0 mb (bootZ mo mc tb qb wb) bootR (bootA0 Q) bootC0 w := by
  have hq0 : ∀ L : QL, L.ok → Q L = [] := fun L hL => by
    have hch := hQ.lx.ch hL
    have h1 := hch.n
    rw [boot_q L hL] at h1
    have : (Q L).length = 0 := by have h2 : (0 : Int) = ((Q L).length : Int) := h1; omega
    exact List.length_eq_zero_iff.1 this
  have hF0 : ∀ x, x ∈ capF mo mc (fun _ => 0) bootC0 → x = mo ∨ x = mc := fun x hx => (mem_capF.1 hx).elim .inl (fun h => h.elim .inr (fun ⟨_, _, hq, _⟩ => by cases hq))
  have hz1 : ∀ x, x ∉ sl (bootZ mo mc tb qb wb).tl := fun x hx => by cases hx
  have hz2 : ∀ x, x ∉ sl (bootZ mo mc tb qb wb).ql := fun x hx => by cases hx
  have hz3 : ∀ x, x ∉ sl bootR.wl := fun x hx => by cases hx
  have hk : MK (bootZ mo mc tb qb wb) bootR := ⟨List.nodup_nil, List.nodup_nil, List.nodup_nil, List.nodup_nil, (fun e he => by cases he), (fun e he => by cases he), (fun x hx => absurd hx (hz1 x)), (fun x hx => absurd hx (hz2 x)), (fun x hx => absurd hx (hz3 x)), (fun x _ => rfl), (fun x _ => by show (1 : Int) ≤ 1; omega), (fun x hx => absurd hx (hz3 x))⟩
  refine ⟨hk, ?_, h3 tb (by simp), (fun x hx => absurd hx (hz1 x)), h3 qb (by simp), (fun i hi => absurd hi (hz2 i)), h3 wb (by simp), fun p hp _ => ?_, (fun l hl => by cases hl), hc, ?_, (fun i hi => absurd hi (hz2 i))⟩
  · rw [hm]
    have e1 : mdC (bootZ mo mc tb qb wb) bootR (bootA0 Q) = mdZ mo mc tb qb wb := by
      unfold mdC mdZ
      rw [arr_ext (f := slV (bootZ mo mc tb qb wb) bootR (bootA0 Q)) (g := fun _ => .slice none 0 0) (fun p hp => by
        unfold slV
        rw [show (bootA0 Q).q (.r p) = [] from hq0 (.r p) hp]; rfl)]
      rw [arr_ext (f := (bootA0 Q).irq) (g := fun _ => ⟨⟨0, 0⟩, 0, false⟩) (fun p _ => rfl)]
      rfl
    rw [e1]
  · show (rowR (bootZ mo mc tb qb wb) bootR (bootA0 Q) p).at w
    unfold rowR
    rw [show (bootA0 Q).q (.r p) = [] from hq0 (.r p) hp]
    exact rl_nil _ _ _ _
  · simp only [List.nodup_cons, List.mem_cons, List.not_mem_nil, or_false, not_or, List.nodup_nil, not_false_eq_true, and_true] at hnd
    obtain ⟨⟨a1, a2, a3, a4, a5⟩, ⟨b1, b2, b3, b4⟩, ⟨c1, c2, c3⟩, ⟨d1, d2⟩, e1⟩ := hnd
    have hl : ∀ (l : MLoc) (b : Nat), l.ok (bootZ mo mc tb qb wb) → b ∈ locF mb (bootZ mo mc tb qb wb) bootR bootC0 l → (l = .m ∧ b = mb) ∨ (l = .t ∧ b = tb) ∨ (l = .q ∧ b = qb) ∨ (l = .w ∧ b = wb) ∨ (l = .cp ∧ (b = mo ∨ b = mc)) := fun l b ho hb => by
      cases l with
      | m => exact .inl ⟨rfl, by simpa [locF] using hb⟩
      | t => exact .inr (.inl ⟨rfl, by simpa [locF, bootZ] using hb⟩)
      | q => exact .inr (.inr (.inl ⟨rfl, by simpa [locF, bootZ] using hb⟩))
      | w => exact .inr (.inr (.inr (.inl ⟨rfl, by simpa [locF, bootZ] using hb⟩)))
      | cp => exact .inr (.inr (.inr (.inr ⟨rfl, hF0 b hb⟩)))
      | th x => exact absurd ho (by simp [MLoc.ok, bootZ, sl])
      | qr i => exact absurd ho (by simp [MLoc.ok, bootZ, sl])
      | rr p => simp [locF, bootR] at hb
    intro l l' ho ho' hne b hb hb'
    have h1 := hl l b ho hb
    have h2 := hl l' b ho' hb'
    rcases h1 with ⟨rfl, h1⟩ | ⟨rfl, h1⟩ | ⟨rfl, h1⟩ | ⟨rfl, h1⟩ | ⟨rfl, h1⟩ <;> rcases h2 with ⟨rfl, h2⟩ | ⟨rfl, h2⟩ | ⟨rfl, h2⟩ | ⟨rfl, h2⟩ | ⟨rfl, h2⟩ <;> first | exact absurd rfl hne | (exfalso; omega)

end
end Go.Proofs.Qxb6500918aDoor
