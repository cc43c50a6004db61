/-
  Reads of the model as steps of a walk.
-/
import Derived.Test.Qxb6500918aDoorUa
namespace Go.Proofs.Qxb6500918aDoor
open Go.Sx Go.Kn
set_option maxRecDepth 100000

section
variable {n : Nat} {K : List Nat} {w0 : World} {mb : Nat} {Z : MZ} {R : MR} {a : AK} {C : CP} {w : World} {T : Slots} {L : Mem} {act : Act} {ops : List Oper} {Q : Exit → Act → World → Prop} {Kc : Act → World → Prop} {i : Nat} {o : Oper}

theorem rd_th (hst : St (MCx n K w0 mb Z R a C) T L act w) {x k : Nat} (hx : x ∈ sl Z.tl) {t : TypeId} {x0 : Operand} {ti : TI} {v : Value} (hop : o.op = .load t x0) (he : evO T x0 = some (.pointer (some ⟨Z.tp x, k, none⟩))) (hti : Sx.look tab2 t = some ti) (hagg : isAggD ti.desc = false) (hc : cellsAre (thC (a.th x)) k [v]) : Reads Tryd.prog act o (Z.tp x) w v :=
  rd_cell tabOk2 hst hop he hti hagg (cellsAt_blk (hst.inv.1.th x hx) hc)

theorem rd_thA (hst : St (MCx n K w0 mb Z R a C) T L act w) {x k : Nat} (hx : x ∈ sl Z.tl) {t : TypeId} {x0 : Operand} {ti : TI} {vs : List Value} (hop : o.op = .load t x0) (he : evO T x0 = some (.pointer (some ⟨Z.tp x, k, none⟩))) (hti : Sx.look tab2 t = some ti) (hagg : isAggD ti.desc = true) (hsz : ti.size = vs.length) (hc : cellsAre (thC (a.th x)) k vs) : Reads Tryd.prog act o (Z.tp x) w (.agg vs.toArray) :=
  rd_cells tabOk2 hst hop he hti hagg hsz (cellsAt_blk (hst.inv.1.th x hx) hc)

theorem rd_m (hst : St (MCx n K w0 mb Z R a C) T L act w) {k : Nat} {t : TypeId} {x0 : Operand} {ti : TI} {v : Value} (hop : o.op = .load t x0) (he : evO T x0 = some (.pointer (some ⟨mb, k, none⟩))) (hti : Sx.look tab2 t = some ti) (hagg : isAggD ti.desc = false) (hc : cellsAre (mdC Z R a) k [v]) : Reads Tryd.prog act o mb w v :=
  rd_cell tabOk2 hst hop he hti hagg (cellsAt_blk hst.inv.1.m hc)

theorem rd_mA (hst : St (MCx n K w0 mb Z R a C) T L act w) {k : Nat} {t : TypeId} {x0 : Operand} {ti : TI} {vs : List Value} (hop : o.op = .load t x0) (he : evO T x0 = some (.pointer (some ⟨mb, k, none⟩))) (hti : Sx.look tab2 t = some ti) (hagg : isAggD ti.desc = true) (hsz : ti.size = vs.length) (hc : cellsAre (mdC Z R a) k vs) : Reads Tryd.prog act o mb w (.agg vs.toArray) :=
  rd_cells tabOk2 hst hop he hti hagg hsz (cellsAt_blk hst.inv.1.m hc)

theorem rd_T (hst : St (MCx n K w0 mb Z R a C) T L act w) {x : Nat} (hx : x ∈ sl Z.tl) {y z : Operand} (hop : o.op = .lookup 99 y z false) (hy : evO T y = some (.map (some Z.tb))) (hz : evO T z = some (rfV (Z.ky x))) : Reads Tryd.prog act o Z.tb w (.pointer (some ⟨Z.tp x, 0, none⟩)) :=
  rd_look Tryd.underlying99 (fun _ => zero106) hst hop hy hz hst.inv.1.t (getT hst.inv.1.k hx _).1

theorem rd_TB (hst : St (MCx n K w0 mb Z R a C) T L act w) {x : Nat} (hx : x ∈ sl Z.tl) {y z : Operand} (hop : o.op = .lookup 99 y z true) (hy : evO T y = some (.map (some Z.tb))) (hz : evO T z = some (rfV (Z.ky x))) : Reads Tryd.prog act o Z.tb w (.tuple #[.pointer (some ⟨Z.tp x, 0, none⟩), .bool true]) :=
  rd_lookB Tryd.underlying99 (fun _ => zero106) hst hop hy hz hst.inv.1.t (getT hst.inv.1.k hx _).1 (getT hst.inv.1.k hx (.pointer none)).2

theorem rd_TN (hst : St (MCx n K w0 mb Z R a C) T L act w) {k : Rf} (hx : ∀ x ∈ sl Z.tl, Z.ky x ≠ k) {y z : Operand} (hop : o.op = .lookup 99 y z true) (hy : evO T y = some (.map (some Z.tb))) (hz : evO T z = some (rfV k)) : Reads Tryd.prog act o Z.tb w (.tuple #[.pointer none, .bool false]) :=
  rd_lookB Tryd.underlying99 (fun _ => zero106) hst hop hy hz hst.inv.1.t (getTn hx _).1 (getTn hx (.pointer none)).2

theorem rd_Q (hst : St (MCx n K w0 mb Z R a C) T L act w) {x : Nat} (hx : x ∈ sl Z.ql) {y z : Operand} (hop : o.op = .lookup 100 y z false) (hy : evO T y = some (.map (some Z.qb))) (hz : evO T z = some (rfV (Z.ky x))) : Reads Tryd.prog act o Z.qb w (.slice (R.qo x) (kys Z (a.q (.w x))).length (R.qk x)) :=
  rd_look Tryd.underlying100 (fun _ => zero51) hst hop hy hz hst.inv.1.q (getQ hst.inv.1.k hx _).1

theorem rd_QB (hst : St (MCx n K w0 mb Z R a C) T L act w) {x : Nat} (hx : x ∈ sl Z.ql) {y z : Operand} (hop : o.op = .lookup 100 y z true) (hy : evO T y = some (.map (some Z.qb))) (hz : evO T z = some (rfV (Z.ky x))) : Reads Tryd.prog act o Z.qb w (.tuple #[.slice (R.qo x) (kys Z (a.q (.w x))).length (R.qk x), .bool true]) :=
  rd_lookB Tryd.underlying100 (fun _ => zero51) hst hop hy hz hst.inv.1.q (getQ hst.inv.1.k hx _).1 (getQ (R := R) (a := a) hst.inv.1.k hx (.slice none 0 0)).2

theorem rd_QN (hst : St (MCx n K w0 mb Z R a C) T L act w) {k : Rf} (hx : ∀ x ∈ sl Z.ql, Z.ky x ≠ k) {y z : Operand} (hop : o.op = .lookup 100 y z true) (hy : evO T y = some (.map (some Z.qb))) (hz : evO T z = some (rfV k)) : Reads Tryd.prog act o Z.qb w (.tuple #[.slice none 0 0, .bool false]) :=
  rd_lookB Tryd.underlying100 (fun _ => zero51) hst hop hy hz hst.inv.1.q (getQn hx _).1 (getQn (R := R) (a := a) hx (.slice none 0 0)).2

theorem rd_W (hst : St (MCx n K w0 mb Z R a C) T L act w) {x : Nat} (hx : x ∈ sl Z.ql) {y z : Operand} (hop : o.op = .lookup 101 y z false) (hy : evO T y = some (.map (some Z.wb))) (hz : evO T z = some (rfV (Z.ky x))) : Reads Tryd.prog act o Z.wb w (.int .u64 (a.word x)) :=
  rd_look Tryd.underlying101 (fun _ => zero31) hst hop hy hz hst.inv.1.wm (getW hst.inv.1 hx)

/-- The first of a queue's row. -/
theorem rd_qrow (hst : St (MCx n K w0 mb Z R a C) T L act w) {x b j : Nat} {r : Rf} (hx : x ∈ sl Z.ql) (hho : R.ho = none) {k : Nat} {t : TypeId} {x0 : Operand} {ti : TI} (hb : R.qo x = some ⟨b, 0, none⟩) (hr : (kys Z (a.q (.w x)))[j]? = some r) (hk : k = j * 2) (hop : o.op = .load t x0) (he : evO T x0 = some (.pointer (some ⟨b, k, none⟩))) (hti : Sx.look tab2 t = some ti) (hagg : isAggD ti.desc = true) (hsz : ti.size = 2) : Reads Tryd.prog act o b w (.agg #[.int .u16 r.idx, .int .u32 r.gen]) := by
  have h1 := hst.inv.1.qr x hx (by rw [hho]; simp)
  obtain ⟨b', cs, h2, h3, h4, _, _, _⟩ := rl_open h1 rfC_len hr
  rw [hb] at h2
  simp only [Option.some.injEq, Addr.mk.injEq, and_true] at h2
  subst h2 hk
  exact rd_cells tabOk2 hst (vs := rfC r) hop he hti hagg hsz (cellsAt_blk h3 h4)

theorem rd_rrow (hst : St (MCx n K w0 mb Z R a C) T L act w) {p b j : Nat} {r : Rf} (hp : p < 8) (hho : R.ho = none) {k : Nat} {t : TypeId} {x0 : Operand} {ti : TI} (hb : R.ro p = some ⟨b, 0, none⟩) (hr : (kys Z (a.q (.r p)))[j]? = some r) (hk : k = j * 2) (hop : o.op = .load t x0) (he : evO T x0 = some (.pointer (some ⟨b, k, none⟩))) (hti : Sx.look tab2 t = some ti) (hagg : isAggD ti.desc = true) (hsz : ti.size = 2) : Reads Tryd.prog act o b w (.agg #[.int .u16 r.idx, .int .u32 r.gen]) := by
  have h1 := hst.inv.1.rr p hp (by rw [hho]; simp)
  obtain ⟨b', cs, h2, h3, h4, _, _, _⟩ := rl_open h1 rfC_len hr
  rw [hb] at h2
  simp only [Option.some.injEq, Addr.mk.injEq, and_true] at h2
  subst h2 hk
  exact rd_cells tabOk2 hst (vs := rfC r) hop he hti hagg hsz (cellsAt_blk h3 h4)

/-- Where a queue's row lies. -/
theorem qrow_blk (h : MD0 mb Z R a C w) {x j : Nat} {r : Rf} (hx : x ∈ sl Z.ql) (hho : R.ho = none) (hr : (kys Z (a.q (.w x)))[j]? = some r) : ∃ b, R.qo x = some ⟨b, 0, none⟩ ∧ locF mb Z R C (.qr x) = [b] := by
  obtain ⟨b', cs, h2, h3, h4, h5, _, _⟩ := rl_open (h.qr x hx (by rw [hho]; simp)) rfC_len hr
  exact ⟨b', h2, h5⟩
theorem rrow_blk (h : MD0 mb Z R a C w) {p j : Nat} {r : Rf} (hp : p < 8) (hho : R.ho = none) (hr : (kys Z (a.q (.r p)))[j]? = some r) : ∃ b, R.ro p = some ⟨b, 0, none⟩ ∧ locF mb Z R C (.rr p) = [b] := by
  obtain ⟨b', cs, h2, h3, h4, h5, _, _⟩ := rl_open (h.rr p hp (by rw [hho]; simp)) rfC_len hr
  exact ⟨b', h2, h5⟩

/-- Keeping, block by block. -/
theorem keepCons {b : Nat} {B : List Nat} {w w' : World} (h : w'.heap[b]? = w.heap[b]?) (hB : Keep B w w') : Keep (b :: B) w w' := List.forall_mem_cons.2 ⟨h, hB⟩

theorem kpL {Cx Cx' : Ctx} {L' : Mem} {act' : Act} {T' : Slots} {w' : World} (h : St Cx T L act w) (h' : St Cx' T' L' act' w') {q q' b : Nat} {blk : Blk} (h1 : nth L q = some (b, blk)) (h2 : nth L' q' = some (b, blk)) : w'.heap[b]? = w.heap[b]? :=
  (h'.kn h2).trans (h.kn h1).symm
theorem kpLk {L' : Mem} {w' : World} (h : ∀ kb ∈ L, w.heap[kb.1]? = some kb.2.obj) (h' : ∀ kb ∈ L', w'.heap[kb.1]? = some kb.2.obj) {q q' b : Nat} {blk : Blk} (h1 : nth L q = some (b, blk)) (h2 : nth L' q' = some (b, blk)) : w'.heap[b]? = w.heap[b]? := by
  rw [nth_eq] at h1 h2
  rw [h' _ (List.mem_of_getElem? h2), h _ (List.mem_of_getElem? h1)]
theorem kpLf {w' : World} (h : ∀ kb ∈ L, w.heap[kb.1]? = some kb.2.obj) (hf : Fr [] w w') {q b : Nat} {blk : Blk} (h1 : nth L q = some (b, blk)) : w'.heap[b]? = w.heap[b]? := by
  rw [nth_eq] at h1
  exact hf.block b (lt_of_heap (h _ (List.mem_of_getElem? h1))) (by simp)
theorem kpM (h : MD0 mb Z R a C w) {l : MLoc} (hl : l.ok Z) {b : Nat} {w' : World} (hb : b ∈ locF mb Z R C l) (hf : Fr [] w w') : w'.heap[b]? = w.heap[b]? := hf.block b (h.lowL hl b hb) (by simp)
theorem kpMM (h : MD0 mb Z R a C w) {l l0 : MLoc} (h0 : l0.ok Z) (hl : l.ok Z) (hne : l ≠ l0) {b : Nat} {w' : World} (hb : b ∈ locF mb Z R C l) (hf : Fr (locF mb Z R C l0) w w') : w'.heap[b]? = w.heap[b]? := h.keep h0 hl hne (fun _ h => h) hf b hb
end
end Go.Proofs.Qxb6500918aDoor
