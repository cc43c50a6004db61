/-
  Several rows carried at once; rows of encoded elements.
-/
import Derived.Test.Qxb6500918aDoorSxG
namespace Go.Sx

theorem orMap {a b c d : Prop} (h : a ∨ b) (f : a → c) (g : b → d) : c ∨ d := h.elim (fun x => .inl (f x)) (fun x => .inr (g x))

/-- A row as it is carried. -/
structure RS where
  o : Option Addr
  n : Nat
  c : Nat
  e : TypeId
  sz : Nat
  vals : List Value
  F : List Nat

def RS.at (r : RS) (w : World) : Prop := Row w r.o r.n r.c r.e r.sz r.vals r.F

def Ff (R : List RS) : List Nat := R.flatMap (·.F)

/-- All rows hold, over blocks that are apart. -/
def Rws (R : List RS) (w : World) : Prop := (Ff R).Nodup ∧ ∀ r ∈ R, r.at w

/-- A row of encoded elements. -/
abbrev rl {α : Type} (enc : α → List Value) (e : TypeId) (sz : Nat) (xs : List α) (o : Option Addr) (c : Nat) (F : List Nat) : RS := ⟨o, xs.length, c, e, sz, xs.flatMap enc, F⟩

section
variable {P : Program} {tab : Tab} {C : Ctx} {T T' : Slots} {L L' : Mem} {w w' : World} {a : Act} {ops : List Oper} {Q : Exit → Act → World → Prop}
  {Kc : Act → World → Prop} {R R' : List RS} {r r' : RS} {nn : Nat} {K : List Nat} {w0 : World}

theorem Rws.stable : Stable (Rws R) (Ff R) := by
  intro w w' h hr
  refine ⟨hr.1, fun r hm => ?_⟩
  exact Row.stable w w' (fun b hb => h b (List.mem_flatMap.2 ⟨r, hm, hb⟩)) (hr.2 r hm)

theorem Rws.low (h : Rws R w) : ∀ b ∈ Ff R, b < w.heap.size := by
  intro b hb
  obtain ⟨r, hm, hb⟩ := List.mem_flatMap.1 hb
  exact Row.low (h.2 r hm) b hb

theorem Rws.nil : Rws [] w := ⟨List.nodup_nil, fun _ h => by cases h⟩

theorem Rws.get (h : Rws R w) {j : Nat} (hj : nth R j = some r) : r.at w := h.2 r (by rw [nth_eq] at hj; exact List.mem_of_getElem? hj)

theorem Rws.fr (h : Rws R w) {M : List Nat} (hfr : Fr M w w') (hM : ∀ b ∈ Ff R, b ∉ M) : Rws R w' :=
  Rws.stable w w' (fun b hb => hfr.block b (h.low b hb) (hM b hb)) h

def setR (R : List RS) : Nat → RS → List RS :=
  match R with
  | [] => fun _ _ => []
  | x :: l => fun k r => match k with
    | 0 => r :: l
    | m + 1 => x :: setR l m r

theorem setR_mem : ∀ (R : List RS) (j : Nat) (r' x : RS), x ∈ setR R j r' → x = r' ∨ ∃ i, i ≠ j ∧ nth R i = some x
  | [], _, _, _, h => by cases h
  | y :: l, 0, r', x, h => by
    rcases List.mem_cons.1 h with rfl | h
    · exact .inl rfl
    · obtain ⟨i, hi⟩ := List.getElem?_of_mem h
      exact .inr ⟨i + 1, by omega, by simp [nth, nth_eq, hi]⟩
  | y :: l, j + 1, r', x, h => by
    rcases List.mem_cons.1 h with rfl | h
    · exact .inr ⟨0, by omega, rfl⟩
    · rcases setR_mem l j r' x h with rfl | ⟨i, hi, hx⟩
      · exact .inl rfl
      · exact .inr ⟨i + 1, by omega, hx⟩

theorem Ff_nodup : ∀ {R : List RS} {i j : Nat} {x y : RS}, (Ff R).Nodup → nth R i = some x → nth R j = some y → i ≠ j → ∀ b ∈ x.F, b ∉ y.F
  | [], _, _, _, _, _, h, _, _ => by cases h
  | z :: l, 0, 0, x, y, _, _, _, hne => absurd rfl hne
  | z :: l, 0, j + 1, x, y, hn, hi, hj, _ => by
    intro b hb hc
    simp only [nth, Option.some.injEq] at hi
    subst hi
    rw [Ff, List.flatMap_cons, List.nodup_append] at hn
    simp only [nth] at hj
    rw [nth_eq] at hj
    exact hn.2.2 b hb b (List.mem_flatMap.2 ⟨y, List.mem_of_getElem? hj, hc⟩) rfl
  | z :: l, i + 1, 0, x, y, hn, hi, hj, _ => by
    intro b hb hc
    simp only [nth, Option.some.injEq] at hj
    subst hj
    rw [Ff, List.flatMap_cons, List.nodup_append] at hn
    simp only [nth] at hi
    rw [nth_eq] at hi
    exact hn.2.2 b hc b (List.mem_flatMap.2 ⟨x, List.mem_of_getElem? hi, hb⟩) rfl
  | z :: l, i + 1, j + 1, x, y, hn, hi, hj, hne => by
    rw [Ff, List.flatMap_cons, List.nodup_append] at hn
    exact Ff_nodup (R := l) (i := i) (j := j) hn.2.1 hi hj (by omega)

theorem Ff_set_nodup : ∀ {R : List RS} {j : Nat} {r r' : RS}, (Ff R).Nodup → nth R j = some r → r'.F.Nodup → (∀ b ∈ r'.F, b ∈ r.F ∨ b ∉ Ff R) → (Ff (setR R j r')).Nodup
  | [], _, _, _, _, h, _, _ => by cases h
  | z :: l, 0, r, r', hn, hj, hd, hs => by
    simp only [nth, Option.some.injEq] at hj
    subst hj
    rw [Ff, List.flatMap_cons, List.nodup_append] at hn
    show (Ff (r' :: l)).Nodup
    rw [Ff, List.flatMap_cons, List.nodup_append]
    refine ⟨hd, hn.2.1, fun x hx y hy he => ?_⟩
    subst he
    rcases hs x hx with h | h
    · exact hn.2.2 x h x hy rfl
    · exact h (by rw [Ff, List.flatMap_cons]; exact List.mem_append.2 (.inr hy))
  | z :: l, j + 1, r, r', hn, hj, hd, hs => by
    rw [Ff, List.flatMap_cons, List.nodup_append] at hn
    show (Ff (z :: setR l j r')).Nodup
    rw [Ff, List.flatMap_cons, List.nodup_append]
    refine ⟨hn.1, Ff_set_nodup (R := l) hn.2.1 hj hd (fun b hb => orMap (hs b hb) id (fun h hc => h (by rw [Ff, List.flatMap_cons]; exact List.mem_append.2 (.inr hc)))), fun x hx y hy he => ?_⟩
    subst he
    obtain ⟨q, hq, hb⟩ := List.mem_flatMap.1 hy
    rcases setR_mem l j r' q hq with rfl | ⟨i, hi, hx'⟩
    · rcases hs x hb with h | h
      · have hr : nth l j = some r := hj
        rw [nth_eq] at hr
        exact hn.2.2 x hx x (List.mem_flatMap.2 ⟨r, List.mem_of_getElem? hr, h⟩) rfl
      · exact h (by rw [Ff, List.flatMap_cons]; exact List.mem_append.2 (.inl hx))
    · rw [nth_eq] at hx'
      exact hn.2.2 x hx x (List.mem_flatMap.2 ⟨q, List.mem_of_getElem? hx', hb⟩) rfl

theorem Rws.set (h : Rws R w) {j : Nat} (hj : nth R j = some r) (hr : r'.at w') (hfr : Fr r.F w w') (hF : ∀ b ∈ r'.F, b ∈ r.F ∨ w.heap.size ≤ b) : Rws (setR R j r') w' := by
  refine ⟨Ff_set_nodup h.1 hj (Row.nodup hr) (fun b hb => orMap (hF b hb) id (fun h1 hc => ?_)), fun x hx => ?_⟩
  · have := h.low b hc; omega
  · rcases setR_mem R j r' x hx with rfl | ⟨i, hi, hx'⟩
    · exact hr
    · exact Row.fr (h.get hx') hfr (fun b hb => Ff_nodup h.1 hx' hj hi b hb)

theorem Ff_set_sub {j : Nat} (hj : nth R j = some r) (hF : ∀ b ∈ r'.F, b ∈ r.F ∨ w.heap.size ≤ b) : ∀ b ∈ Ff (setR R j r'), b ∈ Ff R ∨ w.heap.size ≤ b := by
  intro b hb
  obtain ⟨q, hq, hbq⟩ := List.mem_flatMap.1 hb
  rcases setR_mem R j r' q hq with h0 | ⟨i, hi, hx'⟩
  · subst h0
    refine orMap (hF b hbq) (fun h => List.mem_flatMap.2 ⟨r, ?_, h⟩) id
    rw [nth_eq] at hj; exact List.mem_of_getElem? hj
  · rw [nth_eq] at hx'
    exact .inl (List.mem_flatMap.2 ⟨q, List.mem_of_getElem? hx', hbq⟩)

/-- Behind an append to row j. -/
theorem St.rowSet (hst : St ⟨nn, K, w0, Rws R, Ff R⟩ T L a w) {j : Nat} (hj : nth R j = some r) (hr : r'.at w') (hfr : Fr r.F w w') (hF : ∀ b ∈ r'.F, b ∈ r.F ∨ w.heap.size ≤ b)
    (hK : ∀ b ∈ r.F, b ∈ K ∨ w0.heap.size ≤ b) (hL : ∀ kb ∈ L, kb.2.ro = true → kb.1 ∉ r.F) (hR : setR R j r' = R') : St ⟨nn, K, w0, Rws R', Ff R'⟩ T L a w' := by
  subst hR
  have hn := hst.inv.set hj hr hfr hF
  exact hst.callF hfr (fun b hb => List.mem_flatMap.2 ⟨r, by rw [nth_eq] at hj; exact List.mem_of_getElem? hj, hb⟩) hK hL hn Rws.stable hn.low (Ff_set_sub hj hF)

/-- One row more: a nil slice. -/
theorem St.rowNil (hst : St ⟨nn, K, w0, Rws R, Ff R⟩ T L a w) (e : TypeId) (sz : Nat) : St ⟨nn, K, w0, Rws (R ++ [⟨none, 0, 0, e, sz, [], []⟩]), Ff (R ++ [⟨none, 0, 0, e, sz, [], []⟩])⟩ T L a w := by
  have hff : Ff (R ++ [⟨none, 0, 0, e, sz, [], []⟩]) = Ff R := by simp [Ff]
  refine hst.say ⟨by rw [hff]; exact hst.inv.1, fun r hr => ?_⟩ Rws.stable (by rw [hff]; exact hst.low) (by rw [hff]; exact hst.disj)
  rcases List.mem_append.1 hr with h | h
  · exact hst.inv.2 r h
  · simp at h; subst h; exact Row.nil w e sz

theorem St.rows0 (hst : St ⟨nn, K, w0, fun _ => True, []⟩ T L a w) : St ⟨nn, K, w0, Rws [], Ff []⟩ T L a w :=
  hst.say Rws.nil Rws.stable (fun _ h => by cases h) (fun _ _ _ h => by cases h)

end

section
variable {α : Type} {enc : α → List Value} {w : World} {o : Option Addr} {c : Nat} {e : TypeId} {sz : Nat} {xs : List α} {F : List Nat}

theorem rl_nil (enc : α → List Value) (w : World) (e : TypeId) (sz : Nat) : (rl enc e sz [] none 0 []).at w := Row.nil w e sz

theorem rl_app1 {y : α} (h : Row w o (xs.length + 1) c e sz (xs.flatMap enc ++ enc y) F) : (rl enc e sz (xs ++ [y]) o c F).at w := by
  simpa [RS.at, rl] using h

theorem rl_app {ys : List α} (h : Row w o (xs.length + ys.length) c e sz (xs.flatMap enc ++ ys.flatMap enc) F) : (rl enc e sz (xs ++ ys) o c F).at w := by
  simpa [RS.at, rl] using h

theorem rl_open (h : (rl enc e sz xs o c F).at w) (hsz : ∀ x, (enc x).length = sz) {i : Nat} {x : α} (hx : xs[i]? = some x) :
    ∃ b cs, o = some ⟨b, 0, none⟩ ∧ w.heap[b]? = some (Blk.obj ⟨cs, e, true⟩) ∧ cellsAre cs (i * sz) (enc x) ∧ F = [b] ∧ xs.length ≤ c ∧ cs.length = c * sz := by
  have hlt := (List.getElem?_eq_some_iff.1 hx).1
  obtain ⟨b, cs, h1, h2, h3, h4, h5, h6⟩ := Row.open_ h (by show 0 < xs.length; omega)
  exact ⟨b, cs, h1, h2, Row.read hsz h5 hx hlt, h6, h4, h3⟩

theorem rl_cap (h : (rl enc e sz xs o c F).at w) : xs.length ≤ c := by
  rcases h.2 with ⟨_, h2, h3, _⟩ | ⟨b, cs, h1, h2, h3, h4, h5, h6⟩
  · simp only at h2; omega
  · exact h4

theorem get_some {xs : List α} {i : Nat} (h : i < xs.length) : ∃ x, xs[i]? = some x := ⟨xs[i], by simp [h]⟩

theorem take_snoc {xs : List α} {i : Nat} {x : α} (h : xs[i]? = some x) : xs.take (i + 1) = xs.take i ++ [x] := by
  obtain ⟨hlt, hx⟩ := List.getElem?_eq_some_iff.1 h
  rw [List.take_succ_eq_append_getElem hlt, hx]

end

section
variable {C : Ctx} {T : Slots} {L L' : Mem} {w : World} {a : Act}

theorem St.kn (hst : St C T L a w) {k b : Nat} {blk : Blk} (hk : nth L k = some (b, blk)) : w.heap[b]? = some blk.obj :=
  hst.known (b, blk) (by rw [nth_eq] at hk; exact List.mem_of_getElem? hk)

theorem St.notinL (hst : St C T L a w) {b : Nat} (hb : b ∈ C.F) (hro : ∀ kb ∈ L, kb.2.ro = true → kb.1 ≠ b) : b ∉ L.map (·.1) := by
  intro hm
  obtain ⟨kb, h1, rfl⟩ := List.mem_map.1 hm
  cases h : kb.2.ro with
  | true => exact hro kb h1 h rfl
  | false => exact hst.disj kb h1 h hb

theorem St.newer {n : Nat} {w0 : World} {A : World → Prop} {F : List Nat} (hst : St ⟨n, [], w0, A, F⟩ T L a w) {k b : Nat} {blk : Blk} (hk : nth L k = some (b, blk)) (hro : blk.ro = false) : w0.heap.size ≤ b := by
  have h := hst.keys (b, blk) (by rw [nth_eq] at hk; exact List.mem_of_getElem? hk) hro
  simpa using h

theorem notinK {K F : List Nat} {n b : Nat} (hK : ∀ x ∈ F, x ∈ K ∨ n ≤ x) (h1 : b ∉ K) (h2 : b < n) : b ∉ F := by
  intro hb
  rcases hK b hb with h | h
  · exact h1 h
  · omega

theorem keepAt {q q' b : Nat} {blk : Blk} (h1 : nth L q = some (b, blk)) (h2 : nth L' q' = some (b, blk)) : ∃ blk, (b, blk) ∈ L ∧ (b, blk) ∈ L' := by
  rw [nth_eq] at h1 h2
  exact ⟨blk, List.mem_of_getElem? h1, List.mem_of_getElem? h2⟩

/-- Behind a call that turns one known block. -/
theorem St.setBlk {w' : World} (hst : St C T L a w) {k b : Nat} {blk blk' : Blk} (hk : nth L k = some (b, blk)) (hro : blk.ro = false) (hfr : Fr [b] w w') (hb : w'.heap[b]? = some blk'.obj) (hL : setM L k blk' = L') : St C T L' a w' := by
  subst hL
  have hmem : (b, blk) ∈ L := by rw [nth_eq] at hk; exact List.mem_of_getElem? hk
  have hcase : ∀ kb ∈ setM L k blk', kb = (b, blk') ∨ kb ∈ L := by
    intro kb hkb
    rw [setM_eq, hk] at hkb
    simp only at hkb
    rcases List.mem_or_eq_of_mem_set hkb with h | h
    · exact .inr h
    · exact .inl h
  refine ⟨hst.size, hst.defs, hst.slots, ?_, ?_, ?_, ?_, ?_, hst.stab, ?_, ?_⟩
  · intro kb hkb
    rw [setM_eq, hk] at hkb
    simp only at hkb
    obtain ⟨i, hi⟩ := List.getElem?_of_mem hkb
    rw [List.getElem?_set] at hi
    split at hi
    · split at hi
      · simp only [Option.some.injEq] at hi; subst hi; exact hb
      · cases hi
    · rename_i hne
      have hin : nth L i = some kb := by rw [nth_eq]; exact hi
      have hkb' := hst.known kb (List.mem_of_getElem? hi)
      rw [hfr.block kb.1 (lt_of_heap hkb') (by simpa using nodup_key hst.nodup hin hk (fun h => hne h.symm))]
      exact hkb'
  · rw [setM_keys]; exact hst.nodup
  · intro kb hkb h
    rcases hcase kb hkb with rfl | h'
    · exact hst.keys (b, blk) hmem hro
    · exact hst.keys kb h' h
  · refine hst.frame.trans hfr ?_
    intro x hx
    simp at hx
    subst hx
    exact hst.keys _ hmem hro
  · refine hst.stab w w' (fun x hx => hfr.block x (hst.low x hx) (fun h => ?_)) hst.inv
    simp at h
    subst h
    exact hst.disj _ hmem hro hx
  · intro x hx; exact Nat.lt_of_lt_of_le (hst.low x hx) hfr.size
  · intro kb hkb h
    rcases hcase kb hkb with rfl | h'
    · exact hst.disj (b, blk) hmem hro
    · exact hst.disj kb h' h

theorem St.drop1 {x : Nat × Blk} (hst : St C T (L ++ [x]) a w) : St C T L a w := hst.memMono (List.sublist_append_left L [x])

end
end Go.Sx
