/-
  Calls that turn several known blocks and the carried fact; closures; parts of rows.
-/
import Derived.Test.Qxb6500918aDoorSxH
namespace Go.Sx

section
variable {P : Program} {tab : Tab} {C : Ctx} {T T' : Slots} {L L' : Mem} {w w' : World} {a : Act} {ops : List Oper} {Q : Exit → Act → World → Prop}
  {Kc : Act → World → Prop}

/-- Behind a call that turns known blocks and the carried fact. -/
theorem St.turn (hst : St C T L a w) {M : List Nat} (hfr : Fr M w w') (hM : ∀ b ∈ M, b ∈ C.K ∨ C.w0.heap.size ≤ b) {A' : World → Prop} {F' : List Nat}
    (hkr : L'.map (fun kb => (kb.1, kb.2.ro)) = L.map (fun kb => (kb.1, kb.2.ro))) (hk : ∀ kb ∈ L', w'.heap[kb.1]? = some kb.2.obj)
    (hA : A' w') (hs : Stable A' F') (hlow : ∀ b ∈ F', b < w'.heap.size) (hF : ∀ b ∈ F', b ∈ C.F ∨ w.heap.size ≤ b) : St ⟨C.n, C.K, C.w0, A', F'⟩ T L' a w' := by
  have hmem : ∀ kb ∈ L', ∃ kb0 ∈ L, kb0.1 = kb.1 ∧ kb0.2.ro = kb.2.ro := by
    intro kb h
    have h1 : (kb.1, kb.2.ro) ∈ L'.map (fun kb => (kb.1, kb.2.ro)) := List.mem_map.2 ⟨kb, h, rfl⟩
    rw [hkr] at h1
    obtain ⟨kb0, h2, h3⟩ := List.mem_map.1 h1
    simp only [Prod.mk.injEq] at h3
    exact ⟨kb0, h2, h3.1, h3.2⟩
  have hkeys : L'.map (·.1) = L.map (·.1) := by
    have := congrArg (List.map Prod.fst) hkr
    rw [List.map_map, List.map_map] at this
    exact this
  refine hst.call hfr hM hk (by rw [hkeys]; exact hst.nodup) ?_ hA hs hlow ?_
  · intro kb h hr
    obtain ⟨kb0, h0, h1, h2⟩ := hmem kb h
    rw [← h1]; exact hst.keys kb0 h0 (by rw [h2]; exact hr)
  · intro kb h hr hf
    obtain ⟨kb0, h0, h1, h2⟩ := hmem kb h
    rw [← h1] at hf
    rcases hF _ hf with h3 | h3
    · exact hst.disj kb0 h0 (by rw [h2]; exact hr) h3
    · have := lt_of_heap (hst.known kb0 h0); omega

theorem callv_run {f : FuncId} (hc : CallOk P f) {o : Oper} {x : Operand} {xs : Array Operand} {tys : Array TypeId} {args first cap : List Value} (hs : SlotsOk T a) (hop : o.op = .call ⟨.value x, xs, tys⟩)
    (hx : evO T x = some (.func (.func f) first.toArray cap.toArray)) (ha : evOs T xs.toList = some args) : (execOp a.eval o).run P w = .ok (.enter f (first ++ args ++ cap).toArray) w := by
  have e1 : xs.map a.eval = args.toArray := Array.ext' (by rw [Array.toList_map, evOs_spec hs _ _ ha])
  have e2 := evO_eval hs hx
  simp only [execOp, hop, resolve, e2, Deferred.ofValue, Sem.run_bind, Sem.run_pure, Result.andThen_ok, invoke]
  simpa [e1] using hc (first ++ args ++ cap).toArray w

theorem op_callv {i f : Nat} {o : Oper} {x : Operand} {xs : Array Operand} {tys : Array TypeId} {args first cap : List Value} {R : Ending → World → Prop} (hst : St C T L a w) (hi : nth ops i = some o) (hw : wantE ops T o.guard = some true)
    (hop : o.op = .call ⟨.value x, xs, tys⟩) (hx : evO T x = some (.func (.func f) first.toArray cap.toArray)) (hc : CallOk P f) (ha : evOs T xs.toList = some args) (hC : Calls P f (first ++ args ++ cap).toArray w R)
    (hn : ∀ e w', R e w' → ∃ v, e = .returned v ∧ Kc (a.put o.dst v) w') : wpOp P ops.toArray Q i Kc a w := by
  unfold wpOp
  rw [nth_eq] at hi
  simp only [List.getElem?_toArray, hi, wantE_spec hst.slots hw, if_true]
  left
  simp only [Oper.wp, callv_run hc hst.slots hop hx ha, Oper.upon]
  refine hC.mono fun e w' hR => ?_
  obtain ⟨v, rfl, hv⟩ := hn e w' hR
  exact hv

end

section
variable {R R' : List RS} {w : World}

theorem Ff_sub : ∀ {R' R : List RS}, List.Sublist R' R → List.Sublist (Ff R') (Ff R)
  | _, _, .slnil => List.Sublist.slnil
  | _, _, .cons a h => by
    rw [Ff, Ff, List.flatMap_cons]
    exact (Ff_sub h).trans (List.sublist_append_right _ _)
  | _, _, .cons_cons a h => by
    rw [Ff, Ff, List.flatMap_cons, List.flatMap_cons]
    exact List.Sublist.append (List.Sublist.refl _) (Ff_sub h)

theorem Rws.sub (h : Rws R w) (hs : List.Sublist R' R) : Rws R' w :=
  ⟨h.1.sublist (Ff_sub hs), fun r hr => h.2 r (hs.mem hr)⟩

variable {α : Type} {enc : α → List Value} {o : Option Addr} {c : Nat} {e : TypeId} {sz : Nat} {xs : List α} {F : List Nat}

theorem rl_cut (h : (rl enc e sz xs o c F).at w) (hsz : ∀ x, (enc x).length = sz) {k : Nat} (hk : k ≤ xs.length) : (rl enc e sz (xs.take k) o c F).at w := by
  have := Row.cut hsz h hk
  simp only [RS.at, List.length_take, Nat.min_eq_left hk]
  exact this

theorem addr_add3 (b x n : Nat) : (⟨b, x, none⟩ : Addr).add n = ⟨b, x + n, none⟩ := by
  unfold Addr.add
  split
  · rename_i h; simp_all
  · rfl

theorem flat_drop (enc : α → List Value) (sz : Nat) (hsz : ∀ x, (enc x).length = sz) : ∀ (xs : List α) (k : Nat), (xs.flatMap enc).drop (k * sz) = (xs.drop k).flatMap enc
  | xs, 0 => by simp
  | [], k + 1 => by simp
  | x :: xs, k + 1 => by
    rw [List.flatMap_cons, Nat.succ_mul, Nat.add_comm, List.drop_succ_cons, ← flat_drop enc sz hsz xs k, ← List.drop_drop]
    rw [List.drop_append_of_le_length (by rw [hsz]; omega), ← hsz x, List.drop_length, List.nil_append, hsz x]

/-- A row from its element k on, as a source. -/
theorem src_from (h : (rl enc e sz xs o c F).at w) (hsz : ∀ x, (enc x).length = sz) {k : Nat} (hk : k ≤ xs.length) : Src w (sliceBase o c k sz) (xs.length - k) sz ((xs.drop k).flatMap enc) := by
  refine ⟨by rw [flat_length enc sz hsz, List.length_drop], ?_⟩
  rcases h.2 with ⟨_, h2, _⟩ | ⟨b, cs, h1, h2, h3, h4, h5, h6⟩
  · left; simp only at h2; omega
  · rcases Nat.eq_or_lt_of_le hk with h0 | h0
    · left; omega
    · right
      simp only at h1 h2 h3 h4 h5
      refine ⟨b, k * sz, _, ?_, h2, cellsAre_of_take _ _ ?_⟩
      · rw [h1, sliceBase, if_neg (by omega), Option.map_some, addr_add3, Nat.zero_add]
      · rw [flat_length enc sz hsz, List.length_drop]
        rw [take_drop_of_take h5 (by rw [← Nat.add_mul]; exact Nat.mul_le_mul_right sz (by omega)), flat_drop enc sz hsz, List.take_of_length_le]
        rw [flat_length enc sz hsz, List.length_drop]
        exact Nat.le_refl _

/-- The address behind k reslicings by one. -/
def winA (o : Option Addr) (c k sz : Nat) : Option Addr := o.map (·.add (min k (c - 1) * sz))

theorem winA_zero (o : Option Addr) (c sz : Nat) : winA o c 0 sz = o := by
  cases o <;> simp [winA, Addr.add]

theorem winA_some (b : Nat) {c k : Nat} (sz : Nat) (h : k < c) : winA (some ⟨b, 0, none⟩) c k sz = some ⟨b, k * sz, none⟩ := by
  have h1 : min k (c - 1) = k := by omega
  rw [winA, Option.map_some, addr_add3, h1, Nat.zero_add]

theorem winA_succ {o : Option Addr} {c k : Nat} (sz : Nat) (ho : o = none ∨ ∃ b, o = some ⟨b, 0, none⟩) (h : k < c) : sliceBase (winA o c k sz) (c - k) 1 sz = winA o c (k + 1) sz := by
  unfold sliceBase
  split
  · have : min k (c - 1) = min (k + 1) (c - 1) := by omega
    simp [winA, this]
  · rcases ho with rfl | ⟨b, rfl⟩
    · rfl
    · rw [winA_some b sz (by omega), winA_some b sz (by omega), Option.map_some, addr_add3, Nat.one_mul, Nat.succ_mul]

theorem rl_base (h : (rl enc e sz xs o c F).at w) : o = none ∨ ∃ b, o = some ⟨b, 0, none⟩ := by
  rcases h.2 with ⟨h1, _⟩ | ⟨b, cs, h1, _⟩
  · exact .inl h1
  · exact .inr ⟨b, h1⟩

end
end Go.Sx
