/-
  Writes to the model's maps as steps of a walk.
-/
import Derived.Test.Qxb6500918aDoorSd
namespace Go.Proofs.Qxb6500918aDoor
open Go.Sx Go.Kn
set_option maxRecDepth 100000

section
variable {n : Nat} {K : List Nat} {w0 : World} {mb : Nat} {Z : MZ} {R : MR} {a : AK} {C : CP} {w : World} {T : Slots} {L : Mem} {act : Act} {ops : List Oper} {Q : Exit → Act → World → Prop} {Kc : Act → World → Prop} {i : Nat} {o : Oper}

/-- A row takes its place in the model. -/
theorem st_row (hst : St (MCx n K w0 mb Z R a C) T L act w) {w' : World} {R' : MR} {a' : AK} {l0 : MLoc} {F M : List Nat} (h0 : MD0 mb Z R' a' C w') (hs : ∀ l, l ≠ l0 → locF mb Z R' C l = locF mb Z R C l) (he : locF mb Z R' C l0 = F) (hF : ∀ b ∈ F, (b ∈ K ∨ w0.heap.size ≤ b) ∧ b ≠ 3) (hLF : ∀ kb ∈ L, kb.2.ro = false → kb.1 ∉ F)
    (hf : Fr M w w') (hM : ∀ b ∈ M, b ∈ mdF mb Z R C) (hL : ∀ kb ∈ L, kb.2.ro = true → kb.1 = 3) : St (MCx n K w0 mb Z R' a' C) T L act w' := by
  have hsub : ∀ b ∈ mdF mb Z R' C, b ∈ mdF mb Z R C ∨ b ∈ F := fun b hb => by
    obtain ⟨l, hl, hb⟩ := mem_mdF.1 hb
    by_cases e : l = l0
    · subst e; rw [he] at hb; exact .inr hb
    · rw [hs l e] at hb; exact .inl (mem_mdF.2 ⟨l, hl, hb⟩)
  have h2 : ∀ b ∈ mdF mb Z R' C, (b ∈ K ∨ w0.heap.size ≤ b) ∧ b ≠ 3 := fun b hb => by
    rcases hsub b hb with hq | hq
    · exact hst.inv.2.1 b hq
    · exact hF b hq
  have hlt : ∀ kb ∈ L, kb.1 < w.heap.size := fun kb h => lt_of_heap (hst.known kb h)
  refine hst.call hf (fun b hb => (hst.inv.2.1 b (hM b hb)).1) (fun kb hkb => ?_) hst.nodup hst.keys ⟨h0, h2, hst.inv.2.2⟩ MD.stable h0.low (fun kb hkb hro hq => ?_)
  · rw [hf.block kb.1 (hlt kb hkb) (fun hq => ?_)]
    · exact hst.known kb hkb
    · cases hro : kb.2.ro with
      | true => exact (hst.inv.2.1 kb.1 (hM _ hq)).2 (hL kb hkb hro)
      | false => exact hst.disj kb hkb hro (hM _ hq)
  · rcases hsub kb.1 hq with h1 | h1
    · exact hst.disj kb hkb hro h1
    · exact hLF kb hkb hro h1

theorem qb_mem : Z.qb ∈ mdF mb Z R C := List.mem_cons_of_mem _ (List.mem_cons_of_mem _ (List.mem_cons_self ..))
theorem wb_mem : Z.wb ∈ mdF mb Z R C := List.mem_cons_of_mem _ (List.mem_cons_of_mem _ (List.mem_cons_of_mem _ (List.mem_cons_self ..)))

theorem op_mQ (hst : St (MCx n K w0 mb Z R a C) T L act w) (hi : nth ops i = some o) (hw : wantE ops T o.guard = some true) {x y z : Operand} {j : Nat} {so : Option Addr} {c ln : Nat} {F ys : List Nat}
    (hop : o.op = .mapUpdate 100 x y z) (hx : evO T x = some (.map (some Z.qb))) (hy : evO T y = some (rfV (Z.ky j))) (hz : evO T z = some (.slice so ln c)) (hln : ln = (kys Z ys).length) (hj : j ∈ sl Z.ql) (hho : R.ho = none)
    (hr : (rl rfC 39 2 (kys Z ys) so c F).at w) (hap : ∀ l : MLoc, l.ok Z → l ≠ .qr j → ∀ b ∈ locF mb Z R C l, b ∉ F) (hF : ∀ b ∈ F, (b ∈ K ∨ w0.heap.size ≤ b) ∧ b ≠ 3) (hLF : ∀ kb ∈ L, kb.2.ro = false → kb.1 ∉ F) (hL : ∀ kb ∈ L, kb.2.ro = true → kb.1 = 3)
    (hn : ∀ w', Fr (locF mb Z R C .q) w w' → St (MCx n K w0 mb Z (R.setQ j so c F) (a.setQ (.w j) ys) C) T L act w' → Kc (act.put o.dst undef) w') : wpOp Tryd.prog ops.toArray Q i Kc act w := by
  subst hln
  have hm := hst.inv.1
  obtain ⟨pre, b, post, e, h1, h2, h3, _⟩ := get_at hm.k (f := qE Z R a) (fun _ => rfl) hm.k.qn hm.k.qx hj
  have hq := hm.q
  rw [e, List.map_append, List.map_cons] at hq
  have hrun := run_update39e Tryd.underlying100 hq h1 rfl (.slice so (kys Z ys).length c)
  have hqe : Z.ql.map (qE Z (R.setQ j so c F) (a.setQ (.w j) ys)) = pre.map (qE Z R a) ++ ⟨Z.ky j, .slice so (kys Z ys).length c, (qE Z R a (j, b)).b⟩ :: post.map (qE Z R a) := by
    rw [e]; exact qE_upd h2 h3
  rw [← hqe] at hrun
  refine op_skip hst hi hw (exec_update hst.slots hop hx hy hz hrun) (hn _ putH_fr ?_)
  have h0 := hm.setQ hj (.inl hho) hr hap (putH_same hm.q) (putH_fr (r := Z.qb) (o := mapO (Z.ql.map (qE Z (R.setQ j so c F) (a.setQ (.w j) ys))) Z.qc))
  exact st_row hst h0 (fun l hl => locF_setQ hl) locF_setQ_same hF hLF putH_fr (fun b hb => by simp at hb; rw [hb]; exact qb_mem) hL

theorem op_mEnt (hst : St (MCx n K w0 mb Z R a C) T L act w) (hi : nth ops i = some o) (hw : wantE ops T o.guard = some true) {x y : Operand} {j b : Nat}
    (hop : o.op = .mapEntry 100 x y) (hx : evO T x = some (.map (some Z.qb))) (hy : evO T y = some (rfV (Z.ky j))) (hj : (j, b) ∈ Z.ql) (hL : ∀ kb ∈ L, kb.2.ro = true → kb.1 = 3)
    (hn : ∀ w', Fr (locF mb Z R C .q) w w' → w'.heap[Z.qb]? = w.heap[Z.qb]? → St (MCx n K w0 mb Z R a C) T L act w' → Kc (act.put o.dst (.tuple #[.slice (R.qo j) (kys Z (a.q (.w j))).length (R.qk j), .int .i64 (b : Int)])) w') : wpOp Tryd.prog ops.toArray Q i Kc act w := by
  have hm := hst.inv.1
  have hj' : j ∈ sl Z.ql := List.mem_map.2 ⟨(j, b), hj, rfl⟩
  obtain ⟨pre, b', post, e, h1, h2, h3, _⟩ := get_at hm.k (f := qE Z R a) (fun _ => rfl) hm.k.qn hm.k.qx hj'
  have hbb : b' = b := by
    rw [e] at hj
    rcases List.mem_append.1 hj with hq | hq
    · exact absurd (List.mem_map.2 ⟨(j, b), hq, rfl⟩) h2
    · rcases List.mem_cons.1 hq with hq | hq
      · simpa using hq.symm
      · exact absurd (List.mem_map.2 ⟨(j, b), hq, rfl⟩) h3
  subst hbb
  have hq := hm.q
  rw [e, List.map_append, List.map_cons] at hq
  have hrun := run_entry39e Tryd.underlying100 hq h1 rfl
  have hqe : pre.map (qE Z R a) ++ qE Z R a (j, b') :: post.map (qE Z R a) = Z.ql.map (qE Z R a) := by rw [e, List.map_append, List.map_cons]
  rw [hqe] at hrun
  have hsame : (putH w Z.qb (mapO (Z.ql.map (qE Z R a)) Z.qc)).heap[Z.qb]? = w.heap[Z.qb]? := by rw [putH_same hm.q, hm.q]
  refine op_now hst hi hw (exec_entry hst.slots hop hx hy hrun) (hn _ putH_fr hsame ?_)
  have h0 : MD0 mb Z R a C (putH w Z.qb (mapO (Z.ql.map (qE Z R a)) Z.qc)) := MD0.stable w _ (fun x hx => by
    by_cases ex : x = Z.qb
    · rw [ex]; exact hsame
    · exact (putH_fr (r := Z.qb) (o := mapO (Z.ql.map (qE Z R a)) Z.qc)).block x (hm.low x hx) (by simpa using ex)) hm
  exact hst.md h0 putH_fr (fun x hx => by simp at hx; rw [hx]; exact qb_mem) (fun x hx => .inl hx) hL

theorem op_mAppQ (hst : St (MCx n K w0 mb Z R a C) T L act w) (hi : nth ops i = some o) (hw : wantE ops T o.guard = some true) {s x : Operand} {j : Nat} {b cx : Nat} {r : Rf} {k : Nat}
    (hop : o.op = .call ⟨.builtin .append, #[s, x], #[51, 51]⟩) (hs : evO T s = some (.slice (R.qo j) (kys Z (a.q (.w j))).length (R.qk j))) (hx : evO T x = some (.slice (some ⟨b, 0, none⟩) 1 cx)) (hk : nth L k = some (b, ⟨[.int .u16 r.idx, .int .u32 r.gen], 39, false⟩)) (hj : j ∈ sl Z.ql) (hho : R.ho = none) (hq : (a.q (.w j)).length ≤ 256) (hL : ∀ kb ∈ L, kb.2.ro = true → kb.1 = 3)
    (hn : ∀ o' c' F' w', (rl rfC 39 2 (kys Z (a.q (.w j)) ++ [r]) o' c' F').at w' → Fr (locF mb Z R C (.qr j)) w w' → (∀ l : MLoc, l.ok Z → l ≠ .qr j → ∀ b ∈ locF mb Z (R.hole (.qr j)) C l, b ∉ F') → (∀ b ∈ F', (b ∈ K ∨ w0.heap.size ≤ b) ∧ b ≠ 3) → (∀ kb ∈ L, kb.2.ro = false → kb.1 ∉ F') →
      St (MCx n K w0 mb Z (R.hole (.qr j)) a C) T L act w' → Kc (act.put o.dst (.slice o' (kys Z (a.q (.w j)) ++ [r]).length c')) w') : wpOp Tryd.prog ops.toArray Q i Kc act w := by
  have hrow := hst.inv.1.qr j hj (by rw [hho]; simp)
  have hb := hst.known _ (by rw [nth_eq] at hk; exact List.mem_of_getElem? hk)
  have hlen : (kys Z (a.q (.w j))).length ≤ 256 := by simpa using hq
  refine op_append tabOk2 (e := 39) (vals := (kys Z (a.q (.w j))).flatMap rfC) (vs := rfC r) (F := R.qF j) hst hi hw hop hs hx rfl rfl rfl rfl rfl rfl rfl hrow (src_one hb rfl ⟨rfl, rfl, trivial⟩) (by omega) rfl ?_
  intro o' c' F' w' hr hf hF
  have hr2 := rl_app1 (enc := rfC) (xs := kys Z (a.q (.w j))) (y := r) hr
  have hm := hst.inv.1
  have hl0 : (MLoc.qr j).ok Z := hj
  have hkF : ∀ b ∈ F', (b ∈ K ∨ w0.heap.size ≤ b) ∧ b ≠ 3 := fun b hb => by
    rcases hF b hb with h1 | h1
    · exact hst.inv.2.1 b (mem_mdF.2 ⟨.qr j, hj, h1⟩)
    · exact newK hst (F := [b]) (fun x hx => by simp at hx; rw [hx]; exact h1) b (by simp)
  have hs' : ∀ l, l ≠ .qr j → locF mb Z (R.hole (.qr j)) C l = locF mb Z R C l := fun l hl => by
    cases l <;> try rfl
    rename_i p'
    show upd R.qF j [] p' = R.qF p'
    exact upd_other _ _ (fun e => hl (by rw [e]))
  have hst' : St (MCx n K w0 mb Z (R.hole (.qr j)) a C) T L act w' := hst.md (hm.hole hl0 (.inr ⟨j, rfl⟩) hho hf) hf (mdF_sub1 hl0 (fun b hb => hb)) (mdF_upd (l0 := .qr j) hs' (fun b hb => by
    have : locF mb Z (R.hole (.qr j)) C (.qr j) = [] := upd_same _ _ _
    rw [this] at hb; cases hb)) hL
  have := hn o' c' F' w' hr2 hf (fun l hl hne b hb => by
    rw [hs' l hne] at hb
    exact hm.apart hl0 (Nat.le_refl _) hF hl hne b hb) hkF (fun kb hkb hro hq => by
      rcases hF _ hq with h1 | h1
      · exact hst.disj kb hkb hro (mem_mdF.2 ⟨.qr j, hj, h1⟩)
      · have := lt_of_heap (hst.known kb hkb); omega) hst'
  rw [show (kys Z (a.q (.w j)) ++ [r]).length = (kys Z (a.q (.w j))).length + 1 by simp] at this
  exact this

theorem op_mESt (hst : St (MCx n K w0 mb Z R a C) T L act w) (hi : nth ops i = some o) (hw : wantE ops T o.guard = some true) {x y z : Operand} {j b : Nat} {so : Option Addr} {c ln : Nat} {F ys : List Nat}
    (hop : o.op = .entryStore 100 x y z) (hx : evO T x = some (.map (some Z.qb))) (hy : evO T y = some (.int .i64 (b : Int))) (hz : evO T z = some (.slice so ln c)) (hln : ln = (kys Z ys).length) (hj : (j, b) ∈ Z.ql) (hho : R.ho = none ∨ R.ho = some (.qr j))
    (hr : (rl rfC 39 2 (kys Z ys) so c F).at w) (hap : ∀ l : MLoc, l.ok Z → l ≠ .qr j → ∀ b ∈ locF mb Z R C l, b ∉ F) (hF : ∀ b ∈ F, (b ∈ K ∨ w0.heap.size ≤ b) ∧ b ≠ 3) (hLF : ∀ kb ∈ L, kb.2.ro = false → kb.1 ∉ F) (hL : ∀ kb ∈ L, kb.2.ro = true → kb.1 = 3)
    (hn : ∀ w', Fr (locF mb Z R C .q) w w' → St (MCx n K w0 mb Z (R.setQ j so c F) (a.setQ (.w j) ys) C) T L act w' → Kc (act.put o.dst undef) w') : wpOp Tryd.prog ops.toArray Q i Kc act w := by
  subst hln
  have hm := hst.inv.1
  have hj' : j ∈ sl Z.ql := List.mem_map.2 ⟨(j, b), hj, rfl⟩
  obtain ⟨pre, b', post, e, h1, h2, h3, _⟩ := get_at hm.k (f := qE Z R a) (fun _ => rfl) hm.k.qn hm.k.qx hj'
  have hbb : b' = b := by
    rw [e] at hj
    rcases List.mem_append.1 hj with hq | hq
    · exact absurd (List.mem_map.2 ⟨(j, b), hq, rfl⟩) h2
    · rcases List.mem_cons.1 hq with hq | hq
      · simpa using hq.symm
      · exact absurd (List.mem_map.2 ⟨(j, b), hq, rfl⟩) h3
  subst hbb
  have hq := hm.q
  rw [e, List.map_append, List.map_cons] at hq
  have hbn : ∀ y ∈ pre.map (qE Z R a), y.b ≠ (qE Z R a (j, b')).b := fun y hy hq => by
    obtain ⟨e', he', rfl⟩ := List.mem_map.1 hy
    have hnd := hm.k.bq
    rw [e, List.map_append, List.nodup_append] at hnd
    exact hnd.2.2 e'.2 (List.mem_map.2 ⟨e', he', rfl⟩) b' (by simp) hq
  have hrun := run_store39e (t := 100) (v := .slice so (kys Z ys).length c) hq hbn
  have hqe : Z.ql.map (qE Z (R.setQ j so c F) (a.setQ (.w j) ys)) = pre.map (qE Z R a) ++ ⟨(qE Z R a (j, b')).k, .slice so (kys Z ys).length c, (qE Z R a (j, b')).b⟩ :: post.map (qE Z R a) := by
    rw [e]; exact qE_upd h2 h3
  rw [← hqe] at hrun
  refine op_skip hst hi hw (exec_store hst.slots hop hx hy hz hrun) (hn _ putH_fr ?_)
  have h0 := hm.setQ hj' hho hr hap (putH_same hm.q) (putH_fr (r := Z.qb) (o := mapO (Z.ql.map (qE Z (R.setQ j so c F) (a.setQ (.w j) ys))) Z.qc))
  exact st_row hst h0 (fun l hl => locF_setQ hl) locF_setQ_same hF hLF putH_fr (fun b hb => by simp at hb; rw [hb]; exact qb_mem) hL

theorem op_mW (hst : St (MCx n K w0 mb Z R a C) T L act w) (hi : nth ops i = some o) (hw : wantE ops T o.guard = some true) {x y z : Operand} {j : Nat} {v : Int}
    (hop : o.op = .mapUpdate 101 x y z) (hx : evO T x = some (.map (some Z.wb))) (hy : evO T y = some (rfV (Z.ky j))) (hz : evO T z = some (.int .u64 v)) (hj : j ∈ sl Z.ql) (hL : ∀ kb ∈ L, kb.2.ro = true → kb.1 = 3)
    (hn : ∀ w', Fr (locF mb Z R C .w) w w' → St (MCx n K w0 mb Z (R.putW j) (a.setW j v) C) T L act w' → Kc (act.put o.dst undef) w') : wpOp Tryd.prog ops.toArray Q i Kc act w := by
  have hm := hst.inv.1
  have hwx : ∀ x ∈ sl R.wl, x < 256 := hm.k.wx
  have hsub : ∀ b ∈ mdF mb Z (R.putW j) C, b ∈ mdF mb Z R C ∨ w.heap.size ≤ b := fun b hb => by
    obtain ⟨l, hl, hb⟩ := mem_mdF.1 hb
    refine .inl (mem_mdF.2 ⟨l, hl, ?_⟩)
    have : locF mb Z (R.putW j) C l = locF mb Z R C l := by
      unfold MR.putW
      split
      · rfl
      · cases l <;> rfl
    rw [this] at hb; exact hb
  have key : (Instr.mapUpdate 101 (.map (some Z.wb)) (rfV (Z.ky j)) (.int .u64 v)).run Tryd.prog w = .ok () (putH w Z.wb (mapO ((R.putW j).wl.map (wE Z (a.setW j v))) (R.putW j).wc)) := by
    have key2 : ∀ l : List (Nat × Nat), j ∉ sl l → l.map (wE Z (a.setW j v)) = l.map (wE Z a) := fun l hl => List.map_congr_left (fun e he => by
      have hne : e.1 ≠ j := fun q => hl (by rw [← q]; exact List.mem_map.2 ⟨e, he, rfl⟩)
      unfold wE
      show (⟨Z.ky e.1, .int .u64 (upd a.word j v e.1), e.2⟩ : Mn) = _
      rw [upd_other _ _ hne])
    by_cases hw : j ∈ sl R.wl
    · obtain ⟨pre, b, post, e, h1, h2, h3, _⟩ := get_at hm.k (f := wE Z a) (fun _ => rfl) hm.k.wn hwx hw
      have hq := hm.wm
      rw [e, List.map_append, List.map_cons] at hq
      have hrun := run_update39e Tryd.underlying101 hq h1 rfl (.int .u64 v)
      have e1 : R.putW j = R := by unfold MR.putW; rw [if_pos hw]
      have hqe : R.wl.map (wE Z (a.setW j v)) = pre.map (wE Z a) ++ ⟨Z.ky j, .int .u64 v, (wE Z a (j, b)).b⟩ :: post.map (wE Z a) := by
        rw [e, List.map_append, List.map_cons, key2 pre h2, key2 post h3]
        congr 2
        unfold wE
        show (⟨Z.ky j, .int .u64 (upd a.word j v j), b⟩ : Mn) = _
        rw [upd_same]
      rw [e1, hqe]
      exact hrun
    · have e1 : R.putW j = { R with wl := R.wl ++ [(j, R.wc)], wc := R.wc + 1 } := by unfold MR.putW; rw [if_neg hw]
      have hno : fnd (Z.ky j) (R.wl.map (wE Z a)) 0 = none := fnd_none (fun y hy hq => by
        obtain ⟨e', he', rfl⟩ := List.mem_map.1 hy
        have hx' : e'.1 ∈ sl R.wl := List.mem_map.2 ⟨e', he', rfl⟩
        exact hw (by rw [← hm.k.inj (hwx _ hx') (hm.k.qx j hj) hq]; exact hx'))
      have hrun := run_update39 Tryd.underlying101 hm.wm hno (.int .u64 v)
      have hqe : (R.wl ++ [(j, R.wc)]).map (wE Z (a.setW j v)) = R.wl.map (wE Z a) ++ [⟨Z.ky j, .int .u64 v, R.wc⟩] := by
        rw [List.map_append, key2 R.wl hw]
        congr 1
        unfold wE
        show [(⟨Z.ky j, .int .u64 (upd a.word j v j), R.wc⟩ : Mn)] = _
        rw [upd_same]
      rw [e1]
      dsimp only
      rw [hqe]
      exact hrun
  refine op_skip hst hi hw (exec_update hst.slots hop hx hy hz key) (hn _ putH_fr ?_)
  exact hst.md (hm.setW hj (putH_same hm.wm) putH_fr) putH_fr (fun x hx => by simp at hx; rw [hx]; exact wb_mem) hsub hL

/-- A call that leaves the model behind. -/
theorem st_call (hst : St (MCx n K w0 mb Z R a C) T L act w) {w' : World} {Z' : MZ} {R' : MR} {a' : AK} {C' : CP} (h0 : MD0 mb Z' R' a' C' w') (hf : Fr (mdF mb Z R C) w w') (hs : ∀ b ∈ mdF mb Z' R' C', b ∈ mdF mb Z R C ∨ w.heap.size ≤ b) (hL : ∀ kb ∈ L, kb.2.ro = true → kb.1 = 3) : St (MCx n K w0 mb Z' R' a' C') T L act w' :=
  hst.md h0 hf (fun _ hb => hb) hs hL

end
end Go.Proofs.Qxb6500918aDoor
