/-
  Entries come and go, as steps of a walk.
-/
import Derived.Test.Qxb6500918aDoorUr
namespace Go.Proofs.Qxb6500918aDoor
open Go.Sx Go.Kn
set_option maxRecDepth 100000

section
variable {n : Nat} {K : List Nat} {w0 : World} {mb : Nat} {Z : MZ} {R : MR} {a : AK} {C C' : CP} {w w' : World} {T : Slots} {L : Mem} {act : Act} {ops : List Oper} {Q : Exit → Act → World → Prop} {Kc : Act → World → Prop} {i : Nat} {o : Oper}

theorem addT_map {x b : Nat} (hx : x ∉ sl Z.tl) : (Z.addT x b).tl.map (tE (Z.addT x b)) = Z.tl.map (tE Z) ++ [⟨Z.ky x, .pointer (some ⟨b, 0, none⟩), Z.tc⟩] := by
  show (Z.tl ++ [(x, Z.tc)]).map (tE (Z.addT x b)) = _
  rw [List.map_append]
  congr 1
  · refine List.map_congr_left (fun e he => ?_)
    have hne : e.1 ≠ x := fun q => hx (by rw [← q]; exact List.mem_map.2 ⟨e, he, rfl⟩)
    unfold tE MZ.addT
    dsimp only
    rw [upd_other _ _ hne]
  · show [tE (Z.addT x b) (x, Z.tc)] = _
    unfold tE MZ.addT
    dsimp only
    rw [upd_same]

theorem addT_loc {x b : Nat} {l : MLoc} (hn : l ≠ .th x) : locF mb (Z.addT x b) R C l = locF mb Z R C l := by
  cases l <;> try rfl
  rename_i y
  show [upd Z.tp x b y] = [Z.tp y]
  rw [upd_other _ _ (fun e => hn (by rw [e]))]
theorem addT_ok {x b : Nat} {l : MLoc} (hl : l.ok (Z.addT x b)) (hn : l ≠ .th x) : l.ok Z := by
  cases l <;> try exact hl
  rename_i y
  rcases sl_add.1 hl with h1 | h1
  · exact h1
  · exact absurd (by rw [h1]) hn
theorem addQ_loc {x : Nat} {l : MLoc} (hn : l ≠ .qr x) : locF mb (Z.addQ x) (R.addQ x) C l = locF mb Z R C l := by
  cases l <;> try rfl
  rename_i y
  show upd R.qF x [] y = R.qF y
  rw [upd_other _ _ (fun e => hn (by rw [e]))]
theorem addQ_ok {x : Nat} {l : MLoc} (hl : l.ok (Z.addQ x)) (hn : l ≠ .qr x) : l.ok Z := by
  cases l <;> try exact hl
  rename_i y
  rcases sl_add.1 hl with h1 | h1
  · exact h1
  · exact absurd (by rw [h1]) hn
theorem delT_loc {x : Nat} {l : MLoc} : locF mb (Z.delT x) R C l = locF mb Z R C l := by cases l <;> rfl
theorem delQ_loc {x : Nat} {l : MLoc} : locF mb (Z.delQ x) R C l = locF mb Z R C l := by cases l <;> rfl
theorem delT_ok {x : Nat} {l : MLoc} (hl : l.ok (Z.delT x)) : l.ok Z := by
  cases l <;> try exact hl
  exact (sl_del.1 hl).1
theorem delQ_ok {x : Nat} {l : MLoc} (hl : l.ok (Z.delQ x)) : l.ok Z := by
  cases l <;> try exact hl
  exact (sl_del.1 hl).1

theorem op_mAddT {x b : Nat} {cs : List Value} (hst : St (MCx n K w0 mb Z R a C) T (L ++ [(b, ⟨cs, 59, false⟩)]) act w) (hcs : cs = thC (a.th x)) (hi : nth ops i = some o) (hw : wantE ops T o.guard = some true) {y z v : Operand}
    (hop : o.op = .mapUpdate 99 y z v) (hy : evO T y = some (.map (some Z.tb))) (hz : evO T z = some (rfV (Z.ky x))) (hv : evO T v = some (.pointer (some ⟨b, 0, none⟩))) (hx : x ∉ sl Z.tl) (hx2 : x < 256) (hb3 : b ≠ 3) (hL : ∀ kb ∈ L, kb.2.ro = true → kb.1 = 3)
    (hn : ∀ w', Fr (locF mb Z R C .t) w w' → St (MCx n K w0 mb (Z.addT x b) R a C) T L act w' → Kc (act.put o.dst undef) w') : wpOp Tryd.prog ops.toArray Q i Kc act w := by
  subst hcs
  have hm := hst.inv.1
  have hno : fnd (Z.ky x) (Z.tl.map (tE Z)) 0 = none := fnd_none (fun e he hq => by
    obtain ⟨e', he', rfl⟩ := List.mem_map.1 he
    have hx' : e'.1 ∈ sl Z.tl := List.mem_map.2 ⟨e', he', rfl⟩
    exact hx (by rw [← hm.k.inj (hm.k.tx _ hx') hx2 hq]; exact hx'))
  have hrun := run_update39 Tryd.underlying99 hm.t hno (.pointer (some ⟨b, 0, none⟩))
  rw [← addT_map hx] at hrun
  have hbL : (b, (⟨thC (a.th x), 59, false⟩ : Blk)) ∈ L ++ [(b, ⟨thC (a.th x), 59, false⟩)] := by simp
  have hbk := hst.known _ hbL
  have hbd := hst.disj _ hbL rfl
  have hbK := hst.keys _ hbL rfl
  have hnd := hst.nodup
  rw [List.map_append, List.nodup_append] at hnd
  have hbn : ∀ kb ∈ L, kb.1 ≠ b := fun kb h e => hnd.2.2 kb.1 (List.mem_map.2 ⟨kb, h, rfl⟩) b (by simp) e
  have h0 := hm.addT (b := b) hx hx2 hbk hbd (putH_same hm.t) (putH_fr (r := Z.tb) (o := mapO ((Z.addT x b).tl.map (tE (Z.addT x b))) (Z.tc + 1)))
  have hsub : ∀ c ∈ mdF mb (Z.addT x b) R C, c ∈ mdF mb Z R C ∨ c = b := fun c hc => by
    obtain ⟨l, hl, hc⟩ := mem_mdF.1 hc
    by_cases e : l = .th x
    · subst e
      have hc' : c ∈ [upd Z.tp x b x] := hc
      rw [upd_same] at hc'
      exact .inr (by simpa using hc')
    · rw [addT_loc e] at hc
      exact .inl (mem_mdF.2 ⟨l, addT_ok hl e, hc⟩)
  have h2 : ∀ c ∈ mdF mb (Z.addT x b) R C, (c ∈ K ∨ w0.heap.size ≤ c) ∧ c ≠ 3 := fun c hc => by
    rcases hsub c hc with h1 | h1
    · exact hst.inv.2.1 c h1
    · rw [h1]; exact ⟨hbK, hb3⟩
  have htm : Z.tb ∈ mdF mb Z R C := mem_mdF.2 ⟨.t, trivial, by simp [locF]⟩
  refine op_skip hst hi hw (exec_update hst.slots hop hy hz hv hrun) (hn _ putH_fr ?_)
  refine hst.call (putH_fr (r := Z.tb) (o := mapO ((Z.addT x b).tl.map (tE (Z.addT x b))) (Z.tc + 1))) (fun c hc => ?_) (fun kb hkb => ?_) hnd.1 (fun kb hkb hro => hst.keys kb (List.mem_append_left _ hkb) hro) ⟨h0, h2, hst.inv.2.2⟩ MD.stable h0.low (fun kb hkb hro hq => ?_)
  · simp at hc; rw [hc]; exact (hst.inv.2.1 Z.tb htm).1
  · have hkk := hst.known kb (List.mem_append_left _ hkb)
    rw [(putH_fr (r := Z.tb) (o := mapO ((Z.addT x b).tl.map (tE (Z.addT x b))) (Z.tc + 1))).block kb.1 (lt_of_heap hkk) (fun hq => ?_)]
    · exact hkk
    · simp at hq
      cases hro : kb.2.ro with
      | true => exact (hst.inv.2.1 Z.tb htm).2 (by rw [← hq]; exact hL kb hkb hro)
      | false => exact hst.disj kb (List.mem_append_left _ hkb) hro (by rw [hq]; exact htm)
  · rcases hsub kb.1 hq with h1 | h1
    · exact hst.disj kb (List.mem_append_left _ hkb) hro h1
    · exact hbn kb hkb h1

theorem op_mAddQ {x : Nat} (hst : St (MCx n K w0 mb Z R a C) T L act w) (hi : nth ops i = some o) (hw : wantE ops T o.guard = some true) {y z v : Operand}
    (hop : o.op = .mapUpdate 100 y z v) (hy : evO T y = some (.map (some Z.qb))) (hz : evO T z = some (rfV (Z.ky x))) (hv : evO T v = some (.slice none 0 0)) (hx : x ∉ sl Z.ql) (hx2 : x < 256) (hho : R.ho = none) (hq0 : a.q (.w x) = []) (hw0 : a.word x = 0) (hL : ∀ kb ∈ L, kb.2.ro = true → kb.1 = 3)
    (hn : ∀ w', Fr (locF mb Z R C .q) w w' → St (MCx n K w0 mb (Z.addQ x) (R.addQ x) a C) T L act w' → Kc (act.put o.dst undef) w') : wpOp Tryd.prog ops.toArray Q i Kc act w := by
  have hm := hst.inv.1
  have hno : fnd (Z.ky x) (Z.ql.map (qE Z R a)) 0 = none := fnd_none (fun e he hq => by
    obtain ⟨e', he', rfl⟩ := List.mem_map.1 he
    have hx' : e'.1 ∈ sl Z.ql := List.mem_map.2 ⟨e', he', rfl⟩
    exact hx (by rw [← hm.k.inj (hm.k.qx _ hx') hx2 hq]; exact hx'))
  have hrun := run_update39 Tryd.underlying100 hm.q hno (.slice none 0 0)
  have hmap : (Z.addQ x).ql.map (qE (Z.addQ x) (R.addQ x) a) = Z.ql.map (qE Z R a) ++ [⟨Z.ky x, .slice none 0 0, Z.qc⟩] := by
    show (Z.ql ++ [(x, Z.qc)]).map (qE (Z.addQ x) (R.addQ x) a) = _
    rw [List.map_append]
    congr 1
    · refine List.map_congr_left (fun e he => ?_)
      have hne : e.1 ≠ x := fun q => hx (by rw [← q]; exact List.mem_map.2 ⟨e, he, rfl⟩)
      unfold qE MR.addQ
      dsimp only
      rw [upd_other _ _ hne, upd_other _ _ hne]; rfl
    · show [qE (Z.addQ x) (R.addQ x) a (x, Z.qc)] = _
      unfold qE MR.addQ
      dsimp only
      rw [upd_same, upd_same, hq0]; rfl
  rw [← hmap] at hrun
  have h0 := hm.addQ hx hx2 hho hq0 hw0 (putH_same hm.q) (putH_fr (r := Z.qb) (o := mapO ((Z.addQ x).ql.map (qE (Z.addQ x) (R.addQ x) a)) (Z.qc + 1)))
  refine op_skip hst hi hw (exec_update hst.slots hop hy hz hv hrun) (hn _ putH_fr ?_)
  refine hst.md h0 putH_fr (fun b hb => by simp at hb; rw [hb]; exact qb_mem) (fun b hb => .inl ?_) hL
  obtain ⟨l, hl, hb⟩ := mem_mdF.1 hb
  by_cases e : l = .qr x
  · subst e
    have hb' : b ∈ upd R.qF x [] x := hb
    rw [upd_same] at hb'; cases hb'
  · rw [addQ_loc e] at hb
    exact mem_mdF.2 ⟨l, addQ_ok hl e, hb⟩

theorem filt_split {l pre post : List (Nat × Nat)} {x b : Nat} (e : l = pre ++ (x, b) :: post) (h1 : x ∉ sl pre) (h2 : x ∉ sl post) : l.filter (fun e => decide (e.1 ≠ x)) = pre ++ post := by
  have key : ∀ l : List (Nat × Nat), x ∉ sl l → l.filter (fun e => decide (e.1 ≠ x)) = l := fun l hl => by
    rw [List.filter_eq_self]
    intro y hy
    simp only [ne_eq, decide_eq_true_eq]
    exact fun q => hl (by rw [← q]; exact List.mem_map.2 ⟨y, hy, rfl⟩)
  rw [e, List.filter_append, List.filter_cons, key pre h1, key post h2]
  simp

theorem op_mDelT {x : Nat} (hst : St (MCx n K w0 mb Z R a C) T L act w) (hi : nth ops i = some o) (hw : wantE ops T o.guard = some true) {y z : Operand}
    (hop : o.op = .call ⟨.builtin .delete, #[y, z], #[99, 39]⟩) (hy : evO T y = some (.map (some Z.tb))) (hz : evO T z = some (rfV (Z.ky x))) (hx : x ∈ sl Z.tl) (hL : ∀ kb ∈ L, kb.2.ro = true → kb.1 = 3)
    (hn : ∀ w', Fr (locF mb Z R C .t) w w' → St (MCx n K w0 mb (Z.delT x) R a C) T L act w' → Kc (act.put o.dst (.tuple #[])) w') : wpOp Tryd.prog ops.toArray Q i Kc act w := by
  have hm := hst.inv.1
  obtain ⟨pre, b, post, e, h1, h2, h3, _⟩ := get_at hm.k (f := tE Z) (fun _ => rfl) hm.k.tn hm.k.tx hx
  have hq := hm.t
  rw [e, List.map_append, List.map_cons] at hq
  have hrun := run_delete39 (ty := o.type) Tryd.underlying99 hq h1 rfl
  rw [← List.map_append, ← filt_split e h2 h3] at hrun
  have h0 := hm.delT (o := x) (putH_same hm.t) (putH_fr (r := Z.tb) (o := mapO ((Z.delT x).tl.map (tE Z)) Z.tc))
  refine op_now hst hi hw (exec_delete hst.slots hop hy hz hrun) (hn _ putH_fr ?_)
  refine hst.md h0 putH_fr (fun b hb => by simp at hb; rw [hb]; exact mem_mdF.2 ⟨.t, trivial, by simp [locF]⟩) (fun b hb => .inl ?_) hL
  obtain ⟨l, hl, hb⟩ := mem_mdF.1 hb
  rw [delT_loc] at hb
  exact mem_mdF.2 ⟨l, delT_ok hl, hb⟩

theorem op_mDelQ {x : Nat} (hst : St (MCx n K w0 mb Z R a C) T L act w) (hi : nth ops i = some o) (hw : wantE ops T o.guard = some true) {y z : Operand}
    (hop : o.op = .call ⟨.builtin .delete, #[y, z], #[100, 39]⟩) (hy : evO T y = some (.map (some Z.qb))) (hz : evO T z = some (rfV (Z.ky x))) (hx : x ∈ sl Z.ql) (hho : R.ho = none) (hL : ∀ kb ∈ L, kb.2.ro = true → kb.1 = 3)
    (hn : ∀ w', Fr (locF mb Z R C .q) w w' → St (MCx n K w0 mb (Z.delQ x) (R.hole (.qr x)) a C) T L act w' → Kc (act.put o.dst (.tuple #[])) w') : wpOp Tryd.prog ops.toArray Q i Kc act w := by
  have hm := hst.inv.1
  obtain ⟨pre, b, post, e, h1, h2, h3, _⟩ := get_at hm.k (f := qE Z R a) (fun _ => rfl) hm.k.qn hm.k.qx hx
  have hq := hm.q
  rw [e, List.map_append, List.map_cons] at hq
  have hrun := run_delete39 (ty := o.type) Tryd.underlying100 hq h1 rfl
  rw [← List.map_append, ← filt_split e h2 h3] at hrun
  have h0 := hm.delQ (o := x) hho (putH_same hm.q) (putH_fr (r := Z.qb) (o := mapO ((Z.delQ x).ql.map (qE Z R a)) Z.qc))
  refine op_now hst hi hw (exec_delete hst.slots hop hy hz hrun) (hn _ putH_fr ?_)
  refine hst.md h0 putH_fr (fun b hb => by simp at hb; rw [hb]; exact qb_mem) (fun b hb => .inl ?_) hL
  obtain ⟨l, hl, hb⟩ := mem_mdF.1 hb
  have hne : l ≠ .qr x := fun e => by subst e; exact (sl_del.1 hl).2 rfl
  have hloc : locF mb (Z.delQ x) (R.hole (.qr x)) C l = locF mb Z R C l := by
    cases l <;> try rfl
    rename_i y
    exact upd_other _ _ (fun e => hne (by rw [e]))
  rw [hloc] at hb
  exact mem_mdF.2 ⟨l, delQ_ok hl, hb⟩

theorem op_mDelW {x : Nat} (hst : St (MCx n K w0 mb Z R a C) T L act w) (hi : nth ops i = some o) (hw : wantE ops T o.guard = some true) {y z : Operand}
    (hop : o.op = .call ⟨.builtin .delete, #[y, z], #[101, 39]⟩) (hy : evO T y = some (.map (some Z.wb))) (hz : evO T z = some (rfV (Z.ky x))) (hx : x ∉ sl Z.ql) (hho : R.ho = some (.qr x)) (hx2 : x < 256) (hL : ∀ kb ∈ L, kb.2.ro = true → kb.1 = 3)
    (hn : ∀ w', Fr (locF mb Z R C .w) w w' → St (MCx n K w0 mb Z (R.delW x) (a.setW x 0) C) T L act w' → Kc (act.put o.dst (.tuple #[])) w') : wpOp Tryd.prog ops.toArray Q i Kc act w := by
  have hm := hst.inv.1
  have hwE : ∀ l : List (Nat × Nat), x ∉ sl l → l.map (wE Z (a.setW x 0)) = l.map (wE Z a) := fun l hl => List.map_congr_left (fun e he => by
    have hne : e.1 ≠ x := fun q => hl (by rw [← q]; exact List.mem_map.2 ⟨e, he, rfl⟩)
    unfold wE
    show (⟨Z.ky e.1, .int .u64 (upd a.word x 0 e.1), e.2⟩ : Mn) = _
    rw [upd_other _ _ hne])
  have hnf : x ∉ sl (R.delW x).wl := fun hq => (sl_del.1 hq).2 rfl
  have hrun : (Builtin.delete_ #[101, 39] o.type #[.map (some Z.wb), rfV (Z.ky x)]).run Tryd.prog w = .ok (.tuple #[]) (putH w Z.wb (mapO ((R.delW x).wl.map (wE Z (a.setW x 0))) R.wc)) := by
    rw [hwE _ hnf]
    by_cases hw : x ∈ sl R.wl
    · obtain ⟨pre, b, post, e, h1, h2, h3, _⟩ := get_at hm.k (f := wE Z a) (fun _ => rfl) hm.k.wn hm.k.wx hw
      have hq := hm.wm
      rw [e, List.map_append, List.map_cons] at hq
      have hrun := run_delete39 (ty := o.type) Tryd.underlying101 hq h1 rfl
      rw [← List.map_append, ← filt_split e h2 h3] at hrun
      exact hrun
    · have hno : ∀ y ∈ R.wl.map (wE Z a), y.k ≠ Z.ky x := fun y hy hq => by
        obtain ⟨e', he', rfl⟩ := List.mem_map.1 hy
        have hx' : e'.1 ∈ sl R.wl := List.mem_map.2 ⟨e', he', rfl⟩
        exact hw (by rw [← hm.k.inj (hm.k.wx _ hx') hx2 hq]; exact hx')
      have hrun := run_delete39n (ty := o.type) Tryd.underlying101 hm.wm hno
      have e1 : (R.delW x).wl = R.wl := by
        show R.wl.filter _ = R.wl
        rw [List.filter_eq_self]
        intro y hy
        simp only [ne_eq, decide_eq_true_eq]
        exact fun q => hw (by rw [← q]; exact List.mem_map.2 ⟨y, hy, rfl⟩)
      rw [e1]
      exact hrun
  have h0 := hm.delW (o := x) hx hho (v := 0) (putH_same hm.wm) (putH_fr (r := Z.wb) (o := mapO ((R.delW x).wl.map (wE Z (a.setW x 0))) R.wc))
  refine op_now hst hi hw (exec_delete hst.slots hop hy hz hrun) (hn _ putH_fr ?_)
  refine hst.md h0 putH_fr (fun b hb => by simp at hb; rw [hb]; exact wb_mem) (fun b hb => .inl ?_) hL
  obtain ⟨l, hl, hb⟩ := mem_mdF.1 hb
  cases l <;> exact mem_mdF.2 ⟨_, hl, hb⟩

/-- The model said otherwise, nothing moves. -/
theorem st_say (hst : St (MCx n K w0 mb Z R a C) T L act w) {a' : AK} (h : MD0 mb Z R a' C w) : St (MCx n K w0 mb Z R a' C) T L act w :=
  hst.say ⟨h, hst.inv.2⟩ MD.stable h.low hst.disj

theorem _root_.Go.Kn.MD0.setCN (h : MD0 mb Z R a C w) {nd : Nat → Nat} (hc : CapAt w' Z.mo Z.mc nd C') (hf : Fr (capF Z.mo Z.mc Z.nd C) w w') (hs : ∀ b ∈ capF Z.mo Z.mc nd C', b ∈ capF Z.mo Z.mc Z.nd C ∨ w.heap.size ≤ b) : MD0 mb { Z with nd := nd } R a C' w' := by
  have kp : ∀ {l : MLoc}, l.ok Z → l ≠ .cp → ∀ b ∈ locF mb Z R C l, w'.heap[b]? = w.heap[b]? := fun hl hne => h.keep (l0 := .cp) trivial hl hne (fun b hb => hb) hf
  have hl : ∀ l, l ≠ .cp → locF mb { Z with nd := nd } R C' l = locF mb Z R C l := fun l hl => by
    cases l <;> first | rfl | exact absurd rfl hl
  have hok : ∀ l : MLoc, l.ok { Z with nd := nd } → l.ok Z := fun l hl => by cases l <;> exact hl
  refine ⟨⟨h.k.tn, h.k.qn, h.k.wn, h.k.bq, h.k.tc, h.k.qc, h.k.tx, h.k.qx, h.k.wx, h.k.kx, h.k.kg, h.k.wq⟩, ?_, ?_, fun x hx => ?_, ?_, fun i hi hho => ?_, ?_, fun p hp hho => ?_, fun l hq => ?_, hc, ?_, h.w0⟩
  · exact (kp (l := .m) trivial (by simp) mb (by simp [locF])).trans h.m
  · exact (kp (l := .t) trivial (by simp) Z.tb (by simp [locF])).trans h.t
  · exact (kp (l := .th x) hx (by simp) (Z.tp x) (by simp [locF])).trans (h.th x hx)
  · exact (kp (l := .q) trivial (by simp) Z.qb (by simp [locF])).trans h.q
  · exact Row.stable w w' (fun b hq => kp (l := .qr i) hi (by simp) b hq) (h.qr i hi hho)
  · exact (kp (l := .w) trivial (by simp) Z.wb (by simp [locF])).trans h.wm
  · exact Row.stable w w' (fun b hq => kp (l := .rr p) hp (by simp) b hq) (h.rr p hp hho)
  · have hne : l ≠ .cp := fun e => by
      subst e
      have : capF Z.mo Z.mc Z.nd C = [] := h.hh .cp hq
      simp [capF] at this
    rw [hl l hne]; exact h.hh l hq
  · intro l l' h1 h2 hne
    have := dj_upd (ok := MLoc.ok Z) (L1 := locF mb Z R C) (L2 := locF mb { Z with nd := nd } R C') (l0 := .cp) h.dj hl (fun l hok hne b hb => h.apart (l0 := .cp) trivial (Nat.le_refl _) hs hok hne b hb)
    exact this l l' (hok l h1) (hok l' h2) hne

theorem st_capN (hst : St (MCx n K w0 mb Z R a C) T L act w) {nd : Nat → Nat} (hc : CapAt w' Z.mo Z.mc nd C') (hf : Fr (capF Z.mo Z.mc Z.nd C) w w') (hs : ∀ b ∈ capF Z.mo Z.mc nd C', b ∈ capF Z.mo Z.mc Z.nd C ∨ w.heap.size ≤ b) (hL : ∀ kb ∈ L, kb.2.ro = true → kb.1 = 3) : St (MCx n K w0 mb { Z with nd := nd } R a C') T L act w' := by
  refine hst.md (hst.inv.1.setCN hc hf hs) hf (mdF_sub1 (l0 := .cp) trivial (fun _ hb => hb)) (fun b hb => ?_) hL
  obtain ⟨l, hl, hb⟩ := mem_mdF.1 hb
  by_cases e : l = .cp
  · subst e
    exact (hs b hb).imp (fun h => mem_mdF.2 ⟨.cp, trivial, h⟩) id
  · refine .inl (mem_mdF.2 ⟨l, by cases l <;> exact hl, ?_⟩)
    cases l <;> first | exact hb | exact absurd rfl e

theorem node_sub {bo bc : Nat} {nd : Nat → Nat} {x b m : Nat} (hb : m ≤ b) : ∀ c ∈ capF bo bc (upd nd x b) (nodeP C x), c ∈ capF bo bc nd C ∨ m ≤ c := fun c hc => by
  rcases mem_capF.1 hc with h | h | ⟨j, h1, h2, h3⟩
  · exact .inl (mem_capF.2 (.inl h))
  · exact .inl (mem_capF.2 (.inr (.inl h)))
  · by_cases e : j = x
    · subst e; rw [upd_same] at h3; exact .inr (by omega)
    · rw [upd_other _ _ e] at h3
      have h4 : upd C.pres x true j = true := h2
      rw [upd_other _ _ e] at h4
      exact .inl (mem_capF.2 (.inr (.inr ⟨j, h1, h4, h3⟩)))
end
end Go.Proofs.Qxb6500918aDoor
