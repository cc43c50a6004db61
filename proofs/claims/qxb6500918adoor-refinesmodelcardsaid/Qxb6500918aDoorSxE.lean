/-
  The state of a walk: known temporaries, known blocks, a frame; batches of operations; single effects.
-/
import Derived.Test.Qxb6500918aDoorSxD
namespace Go.Sx

/-- Of what was there, the blocks outside K are as they were. -/
structure Fr (K : List Nat) (w0 w : World) : Prop where
  os : w.os = w0.os
  tape : w.tape = w0.tape
  output : w.output = w0.output
  size : w0.heap.size ≤ w.heap.size
  block : ∀ b, b < w0.heap.size → b ∉ K → w.heap[b]? = w0.heap[b]?

theorem Fr.refl (K : List Nat) (w : World) : Fr K w w := ⟨rfl, rfl, rfl, Nat.le_refl _, fun _ _ _ => rfl⟩

theorem Fr.trans {K M : List Nat} {w0 w w' : World} (h : Fr K w0 w) (h' : Fr M w w') (hM : ∀ b ∈ M, b ∈ K ∨ w0.heap.size ≤ b) : Fr K w0 w' :=
  ⟨h'.os.trans h.os, h'.tape.trans h.tape, h'.output.trans h.output, Nat.le_trans h.size h'.size, fun b hb hk => by
    rw [h'.block b (Nat.lt_of_lt_of_le hb h.size) (fun hm => (hM b hm).elim hk (fun h => by omega)), h.block b hb hk]⟩

theorem Fr.mono {K K' : List Nat} {w0 w : World} (h : Fr K w0 w) (hs : ∀ b ∈ K, b ∈ K') : Fr K' w0 w :=
  ⟨h.os, h.tape, h.output, h.size, fun b hb hk => h.block b hb (fun hm => hk (hs b hm))⟩

theorem Fr.drop {K K' : List Nat} {w0 w : World} (h : Fr K w0 w) (hs : ∀ b ∈ K, b ∈ K' ∨ w0.heap.size ≤ b) : Fr K' w0 w :=
  ⟨h.os, h.tape, h.output, h.size, fun b hb hk => h.block b hb (fun hm => (hs b hm).elim hk (fun h => by omega))⟩

theorem lt_of_heap {w : World} {b : Nat} {o : Obj} (h : w.heap[b]? = some o) : b < w.heap.size := by
  rcases Nat.lt_or_ge b w.heap.size with h' | h'
  · exact h'
  · rw [Array.getElem?_eq_none h'] at h; cases h

/-- What holds throughout a stretch of a walk: the number of temporaries; the blocks of old that may turn; the world of old; a fact about the world that hangs on the blocks F alone. -/
structure Ctx where
  n : Nat
  K : List Nat
  w0 : World
  A : World → Prop
  F : List Nat

def Stable (A : World → Prop) (F : List Nat) : Prop := ∀ w w' : World, (∀ b ∈ F, w'.heap[b]? = w.heap[b]?) → A w → A w'

structure St (C : Ctx) (T : Slots) (L : Mem) (a : Act) (w : World) : Prop where
  size : a.tmps.size = C.n
  defs : a.defers = []
  slots : SlotsOk T a
  known : ∀ kb ∈ L, w.heap[kb.1]? = some kb.2.obj
  nodup : (L.map (·.1)).Nodup
  keys : ∀ kb ∈ L, kb.2.ro = false → kb.1 ∈ C.K ∨ C.w0.heap.size ≤ kb.1
  frame : Fr C.K C.w0 w
  inv : C.A w
  stab : Stable C.A C.F
  low : ∀ b ∈ C.F, b < w.heap.size
  disj : ∀ kb ∈ L, kb.2.ro = false → kb.1 ∉ C.F

theorem kcons {α : Type} {p : α → Prop} {x : α} {l : List α} (h : p x) (hl : ∀ y ∈ l, p y) : ∀ y ∈ x :: l, p y :=
  List.forall_mem_cons.2 ⟨h, hl⟩
theorem knil {α : Type} {p : α → Prop} : ∀ y ∈ ([] : List α), p y := fun _ h => by cases h

section
variable {P : Program} {tab : Tab} {C : Ctx} {T T' : Slots} {L L' : Mem} {w w' : World} {a : Act} {ops : List Oper} {Q : Exit → Act → World → Prop}

theorem SlotsOk.put (hs : SlotsOk T a) {d : Nat} (hd : d < a.tmps.size) (v : Value) : SlotsOk ((d, v) :: T) (a.put (some d) v) := by
  intro t u h
  simp only [look] at h
  cases hb : Nat.beq d t with
  | true =>
    rw [hb] at h
    simp only [Option.some.injEq] at h
    have := Nat.eq_of_beq_eq_true hb
    subst this h
    simp [Act.put, hd]
  | false =>
    rw [hb] at h
    have hne : d ≠ t := Nat.ne_of_beq_eq_false hb
    have := hs t u h
    simpa [Act.put, Array.getElem?_setIfInBounds_ne hne] using this

def putS (n : Nat) (T : Slots) (d : Option Tmp) (v : Value) : Option Slots :=
  match d with
  | none => some T
  | some t => match Nat.blt t n with
    | true => some ((t, v) :: T)
    | false => none

theorem put_size (a : Act) (d : Option Tmp) (v : Value) : (a.put d v).tmps.size = a.tmps.size := by
  cases d <;> simp [Act.put]

theorem St.put (hst : St C T L a w) {d : Option Tmp} {v : Value} (h : putS C.n T d v = some T') : St C T' L (a.put d v) w := by
  refine ⟨(put_size a d v).trans hst.size, (put_defers a d v).trans hst.defs, ?_, hst.known, hst.nodup, hst.keys, hst.frame, hst.inv, hst.stab, hst.low, hst.disj⟩
  unfold putS at h
  split at h
  · simp only [Option.some.injEq] at h; subst h; exact hst.slots
  · rename_i t
    split at h
    · rename_i hb
      simp only [Option.some.injEq] at h
      subst h
      have : t < C.n := Nat.lt_of_succ_le (by simpa [Nat.blt] using hb)
      exact hst.slots.put (by rw [hst.size]; exact this) v
    · cases h

def wantE (ops : List Oper) (T : Slots) (g : Option (Nat × Bool)) : Option Bool :=
  match g with
  | none => some true
  | some (j, want) => match nth ops j with
    | some o => match o.dst with
      | some d => match look T d with
        | some (.bool b) => some (match b, want with | true, true => true | false, false => true | _, _ => false)
        | some (.tuple _) => some false
        | _ => none
      | none => none
    | none => none

theorem getElem?_of_getD {xs : Array Value} {d : Nat} {v : Value} (h : xs.getD d undef = v) (hv : v ≠ undef) : xs[d]? = some v := by
  rcases Nat.lt_or_ge d xs.size with hd | hd
  · simp [hd] at h; simp [hd, h]
  · simp [hd] at h; exact absurd h.symm hv

theorem wantE_spec (hs : SlotsOk T a) {o : Oper} {b : Bool} (h : wantE ops T o.guard = some b) : Region.wanted o (yielded ops.toArray a.tmps) = b := by
  unfold Region.wanted
  cases hg : o.guard with
  | none => rw [hg] at h; simpa [wantE] using h
  | some g =>
    obtain ⟨j, want⟩ := g
    rw [hg] at h
    simp only [wantE] at h
    simp only [yielded]
    split at h
    · rename_i oj hj
      rw [nth_eq] at hj
      split at h
      · rename_i d hd
        split at h
        · rename_i c hc
          have h1 := getElem?_of_getD (hs d _ hc) (by simp [undef])
          simp only [List.getElem?_toArray, hj, Option.bind_some, hd, h1]
          simp only [Option.some.injEq] at h
          subst h
          cases c <;> cases want <;> rfl
        · rename_i vs hc
          have h0 := hs d _ hc
          simp only [Option.some.injEq] at h
          subst h
          simp only [List.getElem?_toArray, hj, Option.bind_some, hd]
          rcases Nat.lt_or_ge d a.tmps.size with hlt | hge
          · simp [hlt] at h0
            simp [hlt, h0]
          · simp [Array.getElem?_eq_none hge]
        · cases h
      · cases h
    · cases h

/-- A batch of pure operations and reads, in the order given. -/
def evB (P : Program) (tab : Tab) (n : Nat) (ops : List Oper) (L : Mem) : Slots → List (Nat × H) → Option (Slots × Prop)
  | T, [] => some (T, True)
  | T, (i, h) :: r => match nth ops i with
    | none => none
    | some o => match wantE ops T o.guard with
      | none => none
      | some false => match putS n T o.dst undef with
        | some T' => evB P tab n ops L T' r
        | none => none
      | some true => match evY P tab L T o.op h with
        | some (v, φ) => match putS n T o.dst v with
          | some T' => match evB P tab n ops L T' r with
            | some (T'', ψ) => some (T'', match φ with | none => ψ | some p => p ∧ ψ)
            | none => none
          | none => none
        | none => none

def restr (T : Slots) : List Nat → Option Slots
  | [] => some []
  | t :: r => match look T t, restr T r with
    | some v, some T' => some ((t, v) :: T')
    | _, _ => none

theorem restr_spec : ∀ {keep : List Nat} {T' : Slots}, restr T keep = some T' → ∀ t v, look T' t = some v → look T t = some v
  | [], T', h, t, v, hl => by simp only [restr, Option.some.injEq] at h; subst h; cases hl
  | k :: r, T', h, t, v, hl => by
    simp only [restr] at h
    cases h1 : look T k with
    | none => rw [h1] at h; cases h
    | some u =>
      cases h2 : restr T r with
      | none => rw [h1, h2] at h; cases h
      | some T2 =>
        rw [h1, h2] at h
        simp only [Option.some.injEq] at h
        subst h
        simp only [look] at hl
        cases hb : Nat.beq k t with
        | true =>
          rw [hb] at hl
          have := Nat.eq_of_beq_eq_true hb
          subst this
          rw [h1]; exact hl
        | false => rw [hb] at hl; exact restr_spec h2 t v hl

def evBK (P : Program) (tab : Tab) (n : Nat) (ops : List Oper) (L : Mem) (T : Slots) (b : List (Nat × H)) (keep : List Nat) : Option (Slots × Prop) :=
  match evB P tab n ops L T b with
  | some (T', φ) => match restr T' keep with
    | some T'' => some (T'', φ)
    | none => none
  | none => none

theorem St.slotsMono (hst : St C T L a w) (h : ∀ t v, look T' t = some v → look T t = some v) : St C T' L a w :=
  ⟨hst.size, hst.defs, fun t v hl => hst.slots t v (h t v hl), hst.known, hst.nodup, hst.keys, hst.frame, hst.inv, hst.stab, hst.low, hst.disj⟩

def TabZ (tab : Tab) : Prop := ∀ t ti, look tab t = some ti → isAggD ti.desc = true → 0 < ti.size

def tabZ : Tab → Bool
  | [] => true
  | (_, ti) :: r => match isAggD ti.desc with
    | true => match Nat.beq ti.size 0 with
      | true => false
      | false => tabZ r
    | false => tabZ r

theorem tabZ_spec : ∀ {tab : Tab}, tabZ tab = true → TabZ tab
  | [], _ => fun t ti h => by cases h
  | (t, ti) :: r, h => fun t' ti' hl hagg => by
    simp only [tabZ] at h
    simp only [look] at hl
    cases hb : Nat.beq t t' with
    | true =>
      rw [hb] at hl
      simp only [Option.some.injEq] at hl
      subst hl
      rw [hagg] at h
      simp only at h
      split at h
      · cases h
      · rename_i hz; have := Nat.ne_of_beq_eq_false hz; omega
    | false =>
      rw [hb] at hl
      refine tabZ_spec (tab := r) ?_ t' ti' hl hagg
      split at h
      · split at h
        · cases h
        · exact h
      · exact h

theorem nd_batch0 (ht : TabOk P tab) (hz : TabZ tab) {rest : List Nat} : ∀ (b : List (Nat × H)) (T T' : Slots) (φ : Prop) (a : Act), St C T L a w →
    evB P tab C.n ops L T b = some (T', φ) → φ → (∀ a', St C T' L a' w → wpOps P ops.toArray Q rest a' w) → wpOps P ops.toArray Q (b.map (·.1) ++ rest) a w
  | [], T, T', φ, a, hst, he, _, hn => by
    simp only [evB, Option.some.injEq, Prod.mk.injEq] at he
    obtain ⟨rfl, rfl⟩ := he
    exact hn a hst
  | (i, h) :: b, T, T', φ, a, hst, he, hφ, hn => by
    simp only [evB] at he
    split at he
    · cases he
    · rename_i o hi
      rw [nth_eq] at hi
      simp only [List.map_cons, List.cons_append]
      rw [wpOps_cons]
      unfold wpOp
      simp only [List.getElem?_toArray, hi]
      split at he
      · cases he
      · rename_i hw
        rw [wantE_spec hst.slots hw]
        simp only [Bool.false_eq_true, if_false]
        split at he
        · rename_i T1 hp
          exact nd_batch0 ht hz b T1 T' φ _ (hst.put hp) he hφ hn
        · cases he
      · rename_i hw
        rw [wantE_spec hst.slots hw]
        simp only [if_true]
        split at he
        · rename_i v ψ hv
          split at he
          · rename_i T1 hp
            split at he
            · rename_i T2 χ hb
              simp only [Option.some.injEq, Prod.mk.injEq] at he
              obtain ⟨rfl, rfl⟩ := he
              have hψχ : holdsP ψ ∧ χ := by
                cases ψ with
                | none => exact ⟨trivial, hφ⟩
                | some p => exact hφ
              left
              have hr := evY_run (w := w) ht hst.slots hv hψχ.1 (fun _ kb hk => hst.known kb (by rw [nth_eq] at hk; exact List.mem_of_getElem? hk)) hz
              simp only [Oper.wp, hr, Oper.upon]
              exact nd_batch0 ht hz b T1 T2 χ _ (hst.put hp) hb hψχ.2 hn
            · cases he
          · cases he
        · cases he

theorem nd_batch (ht : TabOk P tab) (hz : TabZ tab) (b : List (Nat × H)) (keep : List Nat) {l rest : List Nat} {φ : Prop} (hst : St C T L a w)
    (he : evBK P tab C.n ops L T b keep = some (T', φ)) (hl : l = b.map (·.1) ++ rest) (hφ : φ)
    (hn : ∀ a', St C T' L a' w → wpOps P ops.toArray Q rest a' w) : wpOps P ops.toArray Q l a w := by
  subst hl
  unfold evBK at he
  split at he
  · rename_i T1 ψ h1
    split at he
    · rename_i T2 h2
      simp only [Option.some.injEq, Prod.mk.injEq] at he
      obtain ⟨rfl, rfl⟩ := he
      exact nd_batch0 ht hz b T T1 ψ a hst h1 hφ (fun a' h => hn a' (h.slotsMono (restr_spec h2)))
    · cases he
  · cases he

/-! A region that draws its order -/

def rdOf (ops : List Oper) (i : Nat) (h : H) : Option Nat :=
  match nth ops i with
  | some o => match isLoad o.op with
    | true => some h.p
    | false => none
  | none => none

def setAll (l : Array Bool) : List Nat → Array Bool
  | [] => l
  | i :: r => setAll (l.setIfInBounds i true) r

def canonB (ops : Array Oper) (opsL : List Oper) (Bi : List (List Nat)) (listed : Array Bool) : List (Nat × H) → Bool
  | [] => true
  | (i, h) :: r => freeK ops Bi listed i (rdOf opsL i h) && ((Region.ready .any ops listed).contains i && canonB ops opsL Bi (listed.setIfInBounds i true) r)

def kbOk (ops : List Oper) (L : Mem) (KB : List Nat) : List (Nat × H) → Prop
  | [] => True
  | (i, h) :: r => (match rdOf ops i h with
    | some p => (nth L h.k).map (·.1) = some (KB.getD p 0)
    | none => True) ∧ kbOk ops L KB r

abbrev Bof (KB : List Nat) (Bi : List (List Nat)) : Nat → List Nat := fun j => (Bi.getD j []).map (KB.getD · 0)

theorem dr_batch0 (ht : TabOk P tab) (hz : TabZ tab) (hQ : PF Q) (hs : Region.noSelect ops.toArray = true) {KB : List Nat} {Bi : List (List Nat)} {fuel : Nat} :
    ∀ (b : List (Nat × H)) (T T' : Slots) (φ : Prop) (a : Act) (listed : Array Bool), St C T L a w →
    evB P tab C.n ops L T b = some (T', φ) → φ → canonB ops.toArray ops Bi listed b = true → kbOk ops L KB b →
    (∀ a', St C T' L a' w → wpAnyK P ops.toArray Q (Bof KB Bi) fuel (setAll listed (b.map (·.1))) a' w) →
    wpAnyK P ops.toArray Q (Bof KB Bi) (fuel + b.length) listed a w
  | [], T, T', φ, a, listed, hst, he, _, _, _, hn => by
    simp only [evB, Option.some.injEq, Prod.mk.injEq] at he
    obtain ⟨rfl, rfl⟩ := he
    exact hn a hst
  | (i, h) :: b, T, T', φ, a, listed, hst, he, hφ, hc, hkb, hn => by
    simp only [canonB, Bool.and_eq_true] at hc
    obtain ⟨hc1, hc2, hc3⟩ := hc
    obtain ⟨hkb1, hkb2⟩ := hkb
    simp only [evB] at he
    split at he
    · cases he
    · rename_i o hi
      have hi' := hi
      rw [nth_eq] at hi
      have hia : ops.toArray[i]? = some o := by simpa using hi
      split at he
      · cases he
      · rename_i hw
        split at he
        · rename_i T1 hp
          refine wpAnyK_take (v := undef) hia hs hc1 hc2 hQ (.inr ⟨wantE_spec hst.slots hw, rfl⟩) ?_
          exact dr_batch0 ht hz hQ hs b T1 T' φ _ _ (hst.put hp) he hφ hc3 hkb2 hn
        · cases he
      · rename_i hw
        split at he
        · rename_i v ψ hv
          split at he
          · rename_i T1 hp
            split at he
            · rename_i T2 χ hb
              simp only [Option.some.injEq, Prod.mk.injEq] at he
              obtain ⟨rfl, rfl⟩ := he
              have hψχ : holdsP ψ ∧ χ := by
                cases ψ with
                | none => exact ⟨trivial, hφ⟩
                | some p => exact hφ
              refine wpAnyK_take (v := v) hia hs hc1 hc2 hQ (.inl ⟨wantE_spec hst.slots hw, fun w1 hS => ?_⟩) ?_
              · refine evY_run (w := w1) ht hst.slots hv hψχ.1 (fun hload kb hk => ?_) hz
                have hrd : rdOf ops i h = some h.p := by simp [rdOf, hi', hload]
                rw [hrd, hk] at hkb1
                simp only [Option.map_some, Option.some.injEq] at hkb1
                have h1 := hS h.p hrd
                rw [← hkb1] at h1
                rw [h1]
                exact hst.known kb (by rw [nth_eq] at hk; exact List.mem_of_getElem? hk)
              · exact dr_batch0 ht hz hQ hs b T1 T2 χ _ _ (hst.put hp) hb hψχ.2 hc3 hkb2 hn
            · cases he
          · cases he
        · cases he

theorem dr_batch (ht : TabOk P tab) (hz : TabZ tab) (hQ : PF Q) (b : List (Nat × H)) (keep : List Nat) {KB : List Nat} {Bi : List (List Nat)} {N fuel : Nat} {listed : Array Bool} {φ : Prop}
    (hst : St C T L a w) (he : evBK P tab C.n ops L T b keep = some (T', φ)) (hN : N = fuel + b.length)
    (hs : Region.noSelect ops.toArray = true) (hc : canonB ops.toArray ops Bi listed b = true) (hkb : kbOk ops L KB b) (hφ : φ)
    (hn : ∀ a', St C T' L a' w → wpAnyK P ops.toArray Q (Bof KB Bi) fuel (setAll listed (b.map (·.1))) a' w) :
    wpAnyK P ops.toArray Q (Bof KB Bi) N listed a w := by
  subst hN
  unfold evBK at he
  split at he
  · rename_i T1 ψ h1
    split at he
    · rename_i T2 h2
      simp only [Option.some.injEq, Prod.mk.injEq] at he
      obtain ⟨rfl, rfl⟩ := he
      exact dr_batch0 ht hz hQ hs b T T1 ψ a listed hst h1 hφ hc hkb (fun a' h => hn a' (h.slotsMono (restr_spec h2)))
    · cases he
  · cases he

theorem St.drew (hst : St C T L a w) : St C T L a { w with drawn := w.drawn + 1 } :=
  ⟨hst.size, hst.defs, hst.slots, hst.known, hst.nodup, hst.keys, ⟨hst.frame.os, hst.frame.tape, hst.frame.output, hst.frame.size, hst.frame.block⟩,
   hst.stab w _ (fun _ _ => rfl) hst.inv, hst.stab, hst.low, hst.disj⟩

theorem dr_start {KB : List Nat} {Bi : List (List Nat)} (hm : P.follows .mixedOrders = true) (hst : St C T L a w) {id : Nat}
    (h : ∀ w, St C T L a w → wpAnyK P ops.toArray Q (Bof KB Bi) ops.length (Array.replicate ops.length false) a w) : (Code.region id ops.toArray true).wp P Q a w :=
  wp_region_K hm (by simpa using h _ hst.drew)

theorem nd_start {id : Nat} {l : List Nat} (hl : List.range ops.length = l) (h : wpOps P ops.toArray Q l a w) : (Code.region id ops.toArray false).wp P Q a w :=
  wp_region (by rw [List.size_toArray, hl]; exact h)

theorem nd_done (h : Q .normal a w) : wpOps P ops.toArray Q [] a w := h

theorem nd_op {i : Nat} {rest : List Nat} (h : wpOp P ops.toArray Q i (wpOps P ops.toArray Q rest) a w) : wpOps P ops.toArray Q (i :: rest) a w := by
  rw [wpOps_cons]; exact h

end
end Go.Sx
