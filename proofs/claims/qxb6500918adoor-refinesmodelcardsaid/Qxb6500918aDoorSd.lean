/-
  Writes to the model as steps of a walk.
-/
import Derived.Test.Qxb6500918aDoorSc
import Derived.Test.Qxb6500918aDoorTa
namespace Go.Proofs.Qxb6500918aDoor
open Go.Sx Go.Kn
set_option maxRecDepth 100000

section
variable {n : Nat} {K : List Nat} {w0 : World} {mb : Nat} {Z : MZ} {R : MR} {a : AK} {C : CP} {w : World} {T : Slots} {L : Mem} {act : Act} {ops : List Oper} {Q : Exit → Act → World → Prop} {Kc : Act → World → Prop} {i : Nat} {o : Oper}

theorem thC_len (x : Tcb) : (thC x).length = 19 := rfl

theorem mdF_R {R' : MR} {w : World} {F : List Nat} {l0 : MLoc} (h0 : l0.ok Z) (hs : ∀ l, l ≠ l0 → locF mb Z R' C l = locF mb Z R C l) (he : locF mb Z R' C l0 = F) (hF : ∀ b ∈ F, b ∈ locF mb Z R C l0 ∨ w.heap.size ≤ b) : ∀ b ∈ mdF mb Z R' C, b ∈ mdF mb Z R C ∨ w.heap.size ≤ b :=
  mdF_upd hs (fun b hb => by
    rw [he] at hb
    exact (hF b hb).imp (fun h => mem_mdF.2 ⟨l0, h0, h⟩) id)

theorem op_mTh (hst : St (MCx n K w0 mb Z R a C) T L act w) (hi : nth ops i = some o) (hw : wantE ops T o.guard = some true) (hd : o.dst = none) {t : TypeId} {xa xv : Operand} {ti : TI} {off x : Nat} {v : Value} {y : Tcb}
    (hop : o.op = .store t xa xv) (ha : evO T xa = some (.pointer (some ⟨Z.tp x, off, none⟩))) (hv : evO T xv = some v) (hti : Sx.look tab2 t = some ti) (hlen : (vcells v).length = ti.size) (hone : allOne (vcells v) = true) (hx : x ∈ sl Z.tl)
    (hle : Nat.ble (off + (vcells v).length) 19 = true) (hs : splice (thC (a.th x)) off (vcells v) = thC y) (hL : ∀ kb ∈ L, kb.2.ro = true → kb.1 = 3)
    (hn : ∀ w', Fr (locF mb Z R C (.th x)) w w' → St (MCx n K w0 mb Z R (a.setT x y) C) T L act w' → Kc act w') : wpOp Tryd.prog ops.toArray Q i Kc act w := by
  refine op_put tabOk2 hst hi hw hd hop ha hv hti hlen hone (hst.inv.1.th x hx) (by have := Nat.le_of_ble_eq_true hle; simpa [thC_len] using this) (fun w' hb hf => hn w' hf ?_)
  dsimp only at hb
  rw [hs] at hb
  exact hst.md (hst.inv.1.setTh hx hb hf) hf (mdF_sub1 (l0 := .th x) hx (fun b hb => hb)) (fun b hb => .inl hb) hL

theorem op_mM (hst : St (MCx n K w0 mb Z R a C) T L act w) (hi : nth ops i = some o) (hw : wantE ops T o.guard = some true) (hd : o.dst = none) {t : TypeId} {xa xv : Operand} {ti : TI} {off : Nat} {v : Value} {a' : AK}
    (hop : o.op = .store t xa xv) (ha : evO T xa = some (.pointer (some ⟨mb, off, none⟩))) (hv : evO T xv = some v) (hti : Sx.look tab2 t = some ti) (hlen : (vcells v).length = ti.size) (hone : allOne (vcells v) = true)
    (hle : off + (vcells v).length ≤ 80) (hs : splice (mdC Z R a) off (vcells v) = mdC Z R a') (h1 : a'.th = a.th) (h2 : a'.q = a.q) (h3 : a'.word = a.word) (hL : ∀ kb ∈ L, kb.2.ro = true → kb.1 = 3)
    (hn : ∀ w', Fr (locF mb Z R C .m) w w' → St (MCx n K w0 mb Z R a' C) T L act w' → Kc act w') : wpOp Tryd.prog ops.toArray Q i Kc act w := by
  refine op_put tabOk2 hst hi hw hd hop ha hv hti hlen hone hst.inv.1.m (by rw [md_len]; exact hle) (fun w' hb hf => hn w' hf ?_)
  dsimp only at hb
  rw [hs] at hb
  exact hst.md (hst.inv.1.m1 hb hf h1 h2 h3) hf (mdF_sub1 (l0 := .m) trivial (fun b hb => hb)) (fun b hb => .inl hb) hL

/-- A new row for a priority. -/
theorem op_mRdy (hst : St (MCx n K w0 mb Z R a C) T L act w) (hi : nth ops i = some o) (hw : wantE ops T o.guard = some true) (hd : o.dst = none) {xa xv : Operand} {off p : Nat} {so : Option Addr} {c : Nat} {F ys : List Nat} {ln : Nat}
    (hop : o.op = .store 51 xa xv) (ha : evO T xa = some (.pointer (some ⟨mb, off, none⟩))) (hv : evO T xv = some (.slice so ln c)) (hln : ln = (kys Z ys).length) (hp : p < 8) (ho : off = 5 + p) (hho : R.ho = none ∨ R.ho = some (.rr p))
    (hr : (rl rfC 39 2 (kys Z ys) so c F).at w) (hap : ∀ l : MLoc, l.ok Z → l ≠ .rr p → ∀ b ∈ locF mb Z R C l, b ∉ F) (hF : ∀ b ∈ F, (b ∈ K ∨ w0.heap.size ≤ b) ∧ b ≠ 3) (hL : ∀ kb ∈ L, kb.2.ro = true → kb.1 = 3) (hLF : ∀ kb ∈ L, kb.2.ro = false → kb.1 ∉ F)
    (hn : ∀ w', Fr (locF mb Z R C .m) w w' → St (MCx n K w0 mb Z (R.setR p so c F) (a.setQ (.r p) ys) C) T L act w' → Kc act w') : wpOp Tryd.prog ops.toArray Q i Kc act w := by
  subst hln
  refine op_put tabOk2 hst hi hw hd hop ha hv (show Sx.look tab2 51 = some _ from rfl) rfl rfl hst.inv.1.m (by rw [md_len, ho]; show 5 + p + 1 ≤ 80; omega) (fun w' hb hf => hn w' hf ?_)
  have hs : splice (mdC Z R a) off (vcells (.slice so (kys Z ys).length c)) = mdC Z (R.setR p so c F) (a.setQ (.r p) ys) := by
    refine md_r_w hp ho ?_ (fun x hx hne => ?_) rfl rfl rfl
    · unfold slV MR.setR; rw [aq_same]; dsimp only; rw [upd_same, upd_same]
    · unfold slV MR.setR; rw [aq_other _ _ (by simp [hne])]; dsimp only; rw [upd_other _ _ hne, upd_other _ _ hne]
  dsimp only at hb
  rw [hs] at hb
  have h0 := hst.inv.1.setR hp hho hr hap hb hf
  have hsub : ∀ b ∈ mdF mb Z (R.setR p so c F) C, b ∈ mdF mb Z R C ∨ b ∈ F := fun b hb => by
    obtain ⟨l, hl, hb⟩ := mem_mdF.1 hb
    by_cases e : l = .rr p
    · subst e; rw [locF_setR_same] at hb; exact .inr hb
    · rw [locF_setR e] at hb; exact .inl (mem_mdF.2 ⟨l, hl, hb⟩)
  have h2 : ∀ b ∈ mdF mb Z (R.setR p so c F) C, (b ∈ K ∨ w0.heap.size ≤ b) ∧ b ≠ 3 := fun b hb => by
    rcases hsub b hb with hq | hq
    · exact hst.inv.2.1 b hq
    · exact hF b hq
  have hlt : ∀ kb ∈ L, kb.1 < w.heap.size := fun kb h => lt_of_heap (hst.known kb h)
  have hmM : mb ∈ mdF mb Z R C := List.mem_cons_self ..
  refine hst.call hf (fun b hb => ?_) (fun kb hkb => ?_) hst.nodup hst.keys ⟨h0, h2, hst.inv.2.2⟩ MD.stable h0.low (fun kb hkb hro hq => ?_)
  · simp at hb; rw [hb]; exact (hst.inv.2.1 mb hmM).1
  · rw [hf.block kb.1 (hlt kb hkb) (fun hq => ?_)]
    · exact hst.known kb hkb
    · simp at hq
      cases hro : kb.2.ro with
      | true => exact (hst.inv.2.1 mb hmM).2 (by rw [← hq]; exact hL kb hkb hro)
      | false => exact hst.disj kb hkb hro (by rw [hq]; exact hmM)
  · rcases hsub kb.1 hq with h1 | h1
    · exact hst.disj kb hkb hro h1
    · exact hLF kb hkb hro h1

/-- New blocks are none of the known ones. -/
theorem newL {Cx : Ctx} {F : List Nat} (hst : St Cx T L act w) (hF : ∀ b ∈ F, w.heap.size ≤ b) : ∀ kb ∈ L, kb.2.ro = false → kb.1 ∉ F := fun kb hkb _ hq => by
  have h1 := lt_of_heap (hst.known kb hkb)
  have h2 := hF _ hq
  omega

theorem newK {F : List Nat} (hst : St (MCx n K w0 mb Z R a C) T L act w) (hF : ∀ b ∈ F, w.heap.size ≤ b) : ∀ b ∈ F, (b ∈ K ∨ w0.heap.size ≤ b) ∧ b ≠ 3 := fun b hb => by
  have h1 := hF b hb
  have h2 : w0.heap.size ≤ w.heap.size := hst.frame.size
  have h3 : 3 < w0.heap.size := hst.inv.2.2
  exact ⟨.inr (by omega), by omega⟩

theorem md_grow {w' : World} (hst : St (MCx n K w0 mb Z R a C) T L act w) (hf : Fr [] w w') : MD0 mb Z R a C w' := hst.inv.1.fr hf (fun _ _ h => by cases h)

/-- append to the row of a priority: the row is out of its place. -/
theorem op_mAppR (hst : St (MCx n K w0 mb Z R a C) T L act w) (hi : nth ops i = some o) (hw : wantE ops T o.guard = some true) {s x : Operand} {p : Nat} {so : Option Addr} {ln c b cx : Nat} {r : Rf} {k : Nat}
    (hop : o.op = .call ⟨.builtin .append, #[s, x], #[51, 51]⟩) (hs : evO T s = some (.slice so ln c)) (hsv : .slice so ln c = slV Z R a p) (hx : evO T x = some (.slice (some ⟨b, 0, none⟩) 1 cx)) (hk : nth L k = some (b, ⟨[.int .u16 r.idx, .int .u32 r.gen], 39, false⟩)) (hp : p < 8) (hho : R.ho = none) (hq : (a.q (.r p)).length ≤ 256) (hL : ∀ kb ∈ L, kb.2.ro = true → kb.1 = 3)
    (hn : ∀ o' c' F' w', (rl rfC 39 2 (kys Z (a.q (.r p)) ++ [r]) o' c' F').at w' → Fr (locF mb Z R C (.rr p)) w w' → (∀ l : MLoc, l.ok Z → l ≠ .rr p → ∀ b ∈ locF mb Z (R.hole (.rr p)) C l, b ∉ F') → (∀ b ∈ F', (b ∈ K ∨ w0.heap.size ≤ b) ∧ b ≠ 3) → (∀ kb ∈ L, kb.2.ro = false → kb.1 ∉ F') →
      St (MCx n K w0 mb Z (R.hole (.rr p)) a C) T L act w' → Kc (act.put o.dst (.slice o' (kys Z (a.q (.r p)) ++ [r]).length c')) w') : wpOp Tryd.prog ops.toArray Q i Kc act w := by
  have hrow := hst.inv.1.rr p hp (by rw [hho]; simp)
  unfold slV at hsv
  simp only [Value.slice.injEq] at hsv
  obtain ⟨rfl, rfl, rfl⟩ := hsv
  have hb := hst.known _ (by rw [nth_eq] at hk; exact List.mem_of_getElem? hk)
  have hlen : (kys Z (a.q (.r p))).length ≤ 256 := by simpa using hq
  refine op_append tabOk2 (e := 39) (vals := (kys Z (a.q (.r p))).flatMap rfC) (vs := rfC r) (F := R.rF p) hst hi hw hop hs hx rfl rfl rfl rfl rfl rfl rfl hrow (src_one hb rfl ⟨rfl, rfl, trivial⟩) (by omega) rfl ?_
  intro o' c' F' w' hr hf hF
  have hr2 := rl_app1 (enc := rfC) (xs := kys Z (a.q (.r p))) (y := r) hr
  have hm := hst.inv.1
  have hl0 : (MLoc.rr p).ok Z := hp
  have hkF : ∀ b ∈ F', (b ∈ K ∨ w0.heap.size ≤ b) ∧ b ≠ 3 := fun b hb => by
    rcases hF b hb with h1 | h1
    · exact hst.inv.2.1 b (mem_mdF.2 ⟨.rr p, hp, h1⟩)
    · exact newK hst (F := [b]) (fun x hx => by simp at hx; rw [hx]; exact h1) b (by simp)
  have hs' : ∀ l, l ≠ .rr p → locF mb Z (R.hole (.rr p)) C l = locF mb Z R C l := fun l hl => by
    cases l <;> try rfl
    rename_i p'
    show upd R.rF p [] p' = R.rF p'
    exact upd_other _ _ (fun e => hl (by rw [e]))
  have hst' : St (MCx n K w0 mb Z (R.hole (.rr p)) a C) T L act w' := hst.md (hm.hole hl0 (.inl ⟨p, rfl⟩) hho hf) hf (mdF_sub1 hl0 (fun b hb => hb)) (mdF_upd (l0 := .rr p) hs' (fun b hb => by
    have : locF mb Z (R.hole (.rr p)) C (.rr p) = [] := upd_same _ _ _
    rw [this] at hb; cases hb)) hL
  have := hn o' c' F' w' hr2 hf (fun l hl hne b hb => by
    rw [hs' l hne] at hb
    exact hm.apart hl0 (Nat.le_refl _) hF hl hne b hb) hkF (fun kb hkb hro hq => by
      rcases hF _ hq with h1 | h1
      · exact hst.disj kb hkb hro (mem_mdF.2 ⟨.rr p, hp, h1⟩)
      · have := lt_of_heap (hst.known kb hkb); omega) hst'
  rw [show (kys Z (a.q (.r p)) ++ [r]).length = (kys Z (a.q (.r p))).length + 1 by simp] at this
  exact this

end
end Go.Proofs.Qxb6500918aDoor
