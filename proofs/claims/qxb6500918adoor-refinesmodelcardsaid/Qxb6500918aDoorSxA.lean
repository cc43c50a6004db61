/-
  A region that draws its order, walked in one canonical order: reads and pure operations first, the others one by one.
-/
import Derived.OrdersHeld
import Derived.Deep.LoopGhost
namespace Go.Sx

/-- The named blocks hold what they held. -/
def Keep (bs : List Nat) (w w' : World) : Prop := ∀ b ∈ bs, w'.heap[b]? = w.heap[b]?

theorem Keep.refl (bs : List Nat) (w : World) : Keep bs w w := fun _ _ => rfl

/-- A panic's exit does not look at the temporaries. -/
def PF (Q : Exit → Act → World → Prop) : Prop := ∀ c (a a' : Act) w, a'.defers = a.defers → Q (.panic c) a' w → Q (.panic c) a w

theorem PF.body {P : Program} {fn : Func} {R : Ending → World → Prop} : PF (bodyPost P fn R) := by
  intro c a a' w h hq
  exact ⟨h ▸ hq.1, hq.2⟩

theorem PF.next {K : Act → World → Prop} {Q : Exit → Act → World → Prop} (h : PF Q) : PF (Exit.then K Q) :=
  fun c a a' w hd hq => h c a a' w hd hq

theorem PF.inB {id : Nat} {Q : Exit → Act → World → Prop} (h : PF Q) : PF (Exit.inBlock id Q) :=
  fun c a a' w hd hq => h c a a' w hd hq

theorem put_defers (a : Act) (d : Option Tmp) (v : Value) : (a.put d v).defers = a.defers := by
  cases d <;> rfl

section
variable {P : Program} {ops : Array Oper} {Q : Exit → Act → World → Prop} {B : Nat → List Nat}

/-- Whatever order is picked from here on; behind operation i the blocks of 'B i' hold what they held. -/
def wpAnyK (P : Program) (ops : Array Oper) (Q : Exit → Act → World → Prop) (B : Nat → List Nat) : Nat → Array Bool → Act → World → Prop
  | 0, listed, a, w => Region.ready .any ops listed = [] ∧ Q .normal a w
  | fuel + 1, listed, a, w =>
    (Region.ready .any ops listed = [] → Q .normal a w) ∧
    ∀ i ∈ Region.ready .any ops listed, wpOp P ops Q i (fun a' w' => Keep (B i) w w' ∧ wpAnyK P ops Q B fuel (listed.setIfInBounds i true) a' w') a w

theorem wpAny_of_K : ∀ (fuel : Nat) (listed : Array Bool) (a : Act) (w : World), wpAnyK P ops Q B fuel listed a w → wpAny P .any ops Q fuel listed a w
  | 0, _, _, _, h => h
  | fuel + 1, _, _, _, h => ⟨h.1, fun i hi => wpOp_mono (fun a' w' h' => wpAny_of_K fuel _ a' w' h'.2) (h.2 i hi)⟩

/-- The operations that wait for operation i, by whatever chain. -/
def waitGo (ops : Array Oper) (i : Nat) : List Nat → List Nat → List Nat
  | [], acc => acc
  | j :: r, acc => match (match ops[j]? with
      | some oj => oj.after.any (fun e => Region.binds .any e && (i :: acc).contains e.on)
      | none => false) with
    | true => waitGo ops i r (j :: acc)
    | false => waitGo ops i r acc

def waits (ops : Array Oper) (i : Nat) : List Nat := waitGo ops i (List.range ops.size) []

theorem waitGo_mono {i : Nat} : ∀ (l acc : List Nat), ∀ x ∈ acc, x ∈ waitGo ops i l acc
  | [], _, _, h => h
  | j :: r, acc, x, h => by
    simp only [waitGo]
    split
    · exact waitGo_mono r _ x (List.mem_cons_of_mem _ h)
    · exact waitGo_mono r _ x h

theorem waitGo_spec {i : Nat} : ∀ (l acc : List Nat), ∀ x ∈ waitGo ops i l acc, x ∈ acc ∨ ∃ o, ops[x]? = some o ∧ ∃ e ∈ o.after, Region.binds .any e = true ∧ (e.on = i ∨ e.on ∈ waitGo ops i l acc)
  | [], _, _, h => .inl h
  | j :: r, acc, x, h => by
    simp only [waitGo] at h ⊢
    split at h
    · rename_i hb
      rcases waitGo_spec r (j :: acc) x h with h1 | h1
      · rcases List.mem_cons.1 h1 with rfl | h1
        · right
          split at hb
          · rename_i oj hoj
            obtain ⟨e, he, hc⟩ := Array.any_eq_true'.1 hb
            simp only [Bool.and_eq_true, List.contains_iff_mem, List.mem_cons] at hc
            refine ⟨oj, hoj, e, he, hc.1, ?_⟩
            rcases hc.2 with h2 | h2
            · exact .inl h2
            · exact .inr (waitGo_mono r _ _ (List.mem_cons_of_mem _ h2))
          · cases hb
        · exact .inl h1
      · exact .inr h1
    · exact waitGo_spec r acc x h

theorem waits_spec {i x : Nat} (h : x ∈ waits ops i) : ∃ o, ops[x]? = some o ∧ ∃ e ∈ o.after, Region.binds .any e = true ∧ (e.on = i ∨ e.on ∈ waits ops i) :=
  (waitGo_spec (List.range ops.size) [] x h).resolve_left (by simp)

theorem unlisted {listed : Array Bool} {i : Nat} (h : listed.getD i true = false) : listed.getD i false = false := by
  rcases Nat.lt_or_ge i listed.size with h' | h'
  · simp [h'] at h ⊢; exact h
  · simp [Array.getElem?_eq_none h']

theorem not_waits {listed : Array Bool} {i j : Nat} (hW : ∀ k ∈ waits ops i, listed.getD k true = false) (hi : listed.getD i true = false) (hj : j ∈ Region.ready .any ops listed) : j ∉ waits ops i := by
  intro hw
  obtain ⟨o, ho, e, he, hb, hon⟩ := waits_spec hw
  obtain ⟨_, o', ho', hall⟩ := mem_ready.1 hj
  rw [ho] at ho'
  cases ho'
  have h1 := hall e he hb
  rcases hon with h | h
  · rw [h, unlisted hi] at h1; cases h1
  · rw [unlisted (hW _ h)] at h1; cases h1

theorem wpAnyK_first {i : Nat} {oi : Oper} {v : Value} (S : World → Prop) (hi : ops[i]? = some oi)
    (hsel : ∀ (j : Nat) (o : Oper) cs b, ops[j]? = some o → o.op ≠ .select cs b)
    (hQ : PF Q) :
    ∀ (fuel : Nat) (listed : Array Bool) (a : Act) (w : World),
      (∀ k ∈ waits ops i, listed.getD k true = false) →
      (∀ j oj, ops[j]? = some oj → j ≠ i → listed.getD j true = false → j ∉ waits ops i →
        oi.apart ops oj = true ∧ ∀ w w', Keep (B j) w w' → S w → S w') →
      i ∈ Region.ready .any ops listed → YieldsIf P ops S oi v a → S w →
      wpAnyK P ops Q B fuel (listed.setIfInBounds i true) (a.put oi.dst v) w → wpAnyK P ops Q B (fuel + 1) listed a w := by
  intro fuel
  induction fuel with
  | zero =>
    intro listed a w _ _ hr hy hS H
    refine ⟨fun h => (by rw [h] at hr; cases hr), fun j hj => ?_⟩
    by_cases hji : j = i
    · subst hji; exact hy.wpOp hi hS ⟨Keep.refl _ _, H⟩
    · have := ready_mono hj hji
      rw [H.1] at this
      cases this
  | succ fuel ih =>
    intro listed a w hW hfree hr hy hS H
    refine ⟨fun h => (by rw [h] at hr; cases hr), fun j hj => ?_⟩
    by_cases hji : j = i
    · subst hji; exact hy.wpOp hi hS ⟨Keep.refl _ _, H⟩
    · have h1 := H.2 j (ready_mono hj hji)
      obtain ⟨hjun, oj, hoj, hall⟩ := mem_ready.1 hj
      have hnw := not_waits hW (mem_ready.1 hr).1 hj
      have hf := hfree j oj hoj hji hjun hnw
      have h2 := wpOp_putIf hoj hf.1 (fun cs b => hsel i oi cs b hi) (fun cs b => hsel j oj cs b hoj)
        (fun c a w hq => hQ c a _ w (put_defers _ _ _) hq) hy h1
      have hW' : ∀ k ∈ waits ops i, (listed.setIfInBounds j true).getD k true = false := fun k hk => by
        have hne : j ≠ k := fun h => hnw (by rw [h]; exact hk)
        rw [getD_set_ne true hne]; exact hW k hk
      have hfree' : ∀ k ok, ops[k]? = some ok → k ≠ i → (listed.setIfInBounds j true).getD k true = false →
          k ∉ waits ops i → oi.apart ops ok = true ∧ ∀ w w', Keep (B k) w w' → S w → S w' :=
        fun k ok hk hki hun hno => by
        refine hfree k ok hk hki ?_ hno
        by_cases hjk : j = k
        · subst hjk; exact hjun
        · rw [getD_set_ne true hjk] at hun; exact hun
      refine wpOp_mono (fun a' w' h3 => ⟨h3.2.1, ih (listed.setIfInBounds j true) a' w' hW' hfree' (ready_mono hr (Ne.symm hji)) h3.1 (hf.2 w w' h3.2.1 hS) ?_⟩) h2
      rw [Array.setIfInBounds_comm _ _ hji]
      exact h3.2.2

/-- May operation i be taken first, if it reads block number p of the list (none: it reads nothing)? -/
def freeK (ops : Array Oper) (Bi : List (List Nat)) (listed : Array Bool) (i : Nat) (rd : Option Nat) : Bool :=
  match ops[i]? with
  | none => false
  | some oi => (waits ops i).all (fun k => !listed.getD k true) &&
    (let ws := waits ops i
     (List.range ops.size).all fun j => j == i || listed.getD j true || ws.contains j || match ops[j]? with
      | some oj => oi.apart ops oj && (match rd with | none => true | some p => (Bi.getD j []).contains p)
      | none => true)

theorem freeK_spec {Bi : List (List Nat)} {i : Nat} {oi : Oper} {listed : Array Bool} {rd : Option Nat} (hi : ops[i]? = some oi) (h : freeK ops Bi listed i rd = true) :
    (∀ k ∈ waits ops i, listed.getD k true = false) ∧ ∀ (j : Nat) (oj : Oper)
    (_ : ops[j]? = some oj) (_ : j ≠ i) (_ : listed.getD j true = false) (_ : j ∉ waits ops i),
    oi.apart ops oj = true ∧ ∀ p, rd = some p → p ∈ Bi.getD j [] := by
  simp only [freeK, hi, Bool.and_eq_true, List.all_eq_true, List.mem_range, Bool.not_eq_true'] at h
  refine ⟨h.1, fun j oj hj hne hun hno => ?_⟩
  have h1 := h.2 j (Array.getElem?_eq_some_iff.1 hj).1
  simp only [hj, Bool.or_eq_true, beq_iff_eq, hne, false_or, hun, Bool.false_eq_true, Bool.and_eq_true, List.contains_iff_mem, hno] at h1
  refine ⟨h1.1, fun p hp => ?_⟩
  subst hp
  simpa using h1.2

theorem wpAnyK_take {KB : List Nat} {Bi : List (List Nat)} {i : Nat} {oi : Oper} {v : Value} {fuel : Nat} {listed : Array Bool} {a : Act} {w : World} {rd : Option Nat}
    (hi : ops[i]? = some oi) (hs : Region.noSelect ops = true) (hf : freeK ops Bi listed i rd = true) (hr : (Region.ready .any ops listed).contains i = true)
    (hQ : PF Q)
    (hy : YieldsIf P ops (fun w' => ∀ p, rd = some p → w'.heap[KB.getD p 0]? = w.heap[KB.getD p 0]?) oi v a)
    (h : wpAnyK P ops Q (fun j => (Bi.getD j []).map (KB.getD · 0)) fuel (listed.setIfInBounds i true) (a.put oi.dst v) w) :
    wpAnyK P ops Q (fun j => (Bi.getD j []).map (KB.getD · 0)) (fuel + 1) listed a w := by
  refine wpAnyK_first _ hi (Region.noSelect_spec hs) hQ fuel listed a w (freeK_spec hi hf).1 (fun j oj hj hne hun hno => ?_) (by simpa using hr) hy (fun _ _ => rfl) h
  have := (freeK_spec hi hf).2 j oj hj hne hun hno
  refine ⟨this.1, fun w1 w2 hk hS p hp => ?_⟩
  rw [hk _ (List.mem_map.2 ⟨p, this.2 p hp, rfl⟩)]
  exact hS p hp

theorem wpAnyK_one {i : Nat} {fuel : Nat} {listed : Array Bool} {a : Act} {w : World} (hr : Region.ready .any ops listed = [i])
    (h : wpOp P ops Q i (fun a' w' => Keep (B i) w w' ∧ wpAnyK P ops Q B fuel (listed.setIfInBounds i true) a' w') a w) : wpAnyK P ops Q B (fuel + 1) listed a w :=
  ⟨fun h0 => (by rw [hr] at h0; cases h0), fun j hj => (by rw [hr] at hj; simp at hj; subst hj; exact h)⟩

theorem wpAnyK_two {i j : Nat} {fuel : Nat} {listed : Array Bool} {a : Act} {w : World} (hr : Region.ready .any ops listed = [i, j])
    (h : wpOp P ops Q i (fun a' w' => Keep (B i) w w' ∧ wpAnyK P ops Q B fuel (listed.setIfInBounds i true) a' w') a w)
    (h' : wpOp P ops Q j (fun a' w' => Keep (B j) w w' ∧ wpAnyK P ops Q B fuel (listed.setIfInBounds j true) a' w') a w) : wpAnyK P ops Q B (fuel + 1) listed a w :=
  ⟨fun h0 => (by rw [hr] at h0; cases h0), fun k hk => (by rw [hr] at hk; simp at hk; rcases hk with rfl | rfl; exact h; exact h')⟩

theorem wpAnyK_three {i j k : Nat} {fuel : Nat} {listed : Array Bool} {a : Act} {w : World} (hr : Region.ready .any ops listed = [i, j, k])
    (h : wpOp P ops Q i (fun a' w' => Keep (B i) w w' ∧ wpAnyK P ops Q B fuel (listed.setIfInBounds i true) a' w') a w)
    (h' : wpOp P ops Q j (fun a' w' => Keep (B j) w w' ∧ wpAnyK P ops Q B fuel (listed.setIfInBounds j true) a' w') a w)
    (h'' : wpOp P ops Q k (fun a' w' => Keep (B k) w w' ∧ wpAnyK P ops Q B fuel (listed.setIfInBounds k true) a' w') a w) : wpAnyK P ops Q B (fuel + 1) listed a w :=
  ⟨fun h0 => (by rw [hr] at h0; cases h0), fun x hx => (by rw [hr] at hx; simp at hx; rcases hx with rfl | rfl | rfl; exact h; exact h'; exact h'')⟩

theorem wpAnyK_done {listed : Array Bool} {a : Act} {w : World} (hr : Region.ready .any ops listed = []) (h : Q .normal a w) :
    ∀ fuel, wpAnyK P ops Q B fuel listed a w
  | 0 => ⟨hr, h⟩
  | _ + 1 => ⟨fun _ => h, by rw [hr]; simp⟩

theorem wp_region_K {id : Nat} {a : Act} {w : World} (hm : P.follows .mixedOrders = true)
    (h : wpAnyK P ops Q B ops.size (Array.replicate ops.size false) a { w with drawn := w.drawn + 1 }) : (Code.region id ops true).wp P Q a w :=
  wp_region_any hm (wpAny_of_K _ _ _ _ h)
end
end Go.Sx
