/-
  The whole step on the state without links.
-/
import Derived.Test.Qxb6500918aDoorQa
namespace Go.Kn
open Go.Sx Go.Proofs.Qxb6500918aDoor

def ofA (a : AK) : KP := ⟨a.th, fun _ => ⟨-1, -1, 0⟩, a.word, fun _ => ⟨-1, -1, 0⟩, 0, a.cur, a.irq, a.now⟩

theorem find_ofA (a : AK) (C : CP) (ad want need : Int) : findP (ofA a) C ad want need = findA a C ad want need := rfl

section
variable {S : KP} {a : AK} {C : CP} {ev : Ev}

theorem Abs.copy (h : Abs S a) (hcur : 0 ≤ S.cur ∧ S.cur < 256) : copyCapP S C ev = copyCapP (ofA a) C ev := by
  unfold copyCapP
  rw [h.find hcur, find_ofA]
  rw [← h.cs hcur]; rfl

theorem Abs.retype (h : Abs S a) (hcur : 0 ≤ S.cur ∧ S.cur < 256) : retypeP S C ev = retypeP (ofA a) C ev := by
  unfold retypeP
  rw [h.find hcur, find_ofA]
  rw [← h.cs hcur]; rfl

def wakeRepA (a : AK) (o : Rf) : Nat → AK
  | 0 => a
  | n + 1 => if ((wakeRepA a o n).th n).st = 6 ∧ ((wakeRepA a o n).th n).wait = o then wakeA (wakeRepA a o n) n else wakeRepA a o n

def buryA (a : AK) (c : Cp) : AK :=
  if c.ty = 3 then wakeRepA ((leaveA a c.obj.idx.toNat).setT c.obj.idx.toNat (unl noT)) c.obj 256
  else if c.ty = 4 ∨ c.ty = 5 then ((a.q (.w c.obj.idx.toNat)).foldl wakeA a).setW c.obj.idx.toNat 0
  else a

def buryAllA (a : AK) (l : List Cp) : AK := l.foldl buryA a

theorem Abs.wakeRep (h : Abs S a) (o : Rf) : ∀ n, n ≤ 256 → Abs (Kn.wakeRep S o n) (wakeRepA a o n)
  | 0, _ => h
  | n + 1, hn => by
    have ih := Abs.wakeRep h o n (by omega)
    rw [Kn.wakeRep, wakeRepA]
    have e1 : ((wakeRepA a o n).th n).st = ((Kn.wakeRep S o n).tcb n).st := by rw [ih.th n (by omega)]; rfl
    have e2 : ((wakeRepA a o n).th n).wait = ((Kn.wakeRep S o n).tcb n).wait := by rw [ih.th n (by omega)]; rfl
    rw [e1, e2]
    split
    · have := ih.wake (t := (n : Int)) ⟨by omega, by omega⟩
      rw [Int.toNat_natCast] at this
      exact this
    · exact ih

theorem Abs.reset (h : Abs S a) {i : Int} (hi : 0 ≤ i ∧ i < 256) : Abs ((leaveP S i).setT i.toNat noT) ((leaveA a i.toNat).setT i.toNat (unl noT)) := by
  have h1 := leave_LIN h.ri h.li (t := i.toNat) (by omega)
  rw [show ((i.toNat : Nat) : Int) = i by omega] at h1
  have h2 := h1.setAny (by omega) noT
  have h3 := h2.rest (by rw [setT_same]; rfl) (by rw [setT_same]; show (0 : Int) ≠ 2; decide)
  refine (h.leave hi).one (reset_RI h.ri hi) ?_ (by rw [setT_same]) (fun j hj => setT_other _ _ hj) (setT_rst _ _ _) rfl
  show LIQ _ (qCut a.q (place (a.th i.toNat)) i.toNat)
  rw [show place (a.th i.toNat) = place (S.tcb i.toNat) by rw [h.th _ (by omega)]; rfl]
  exact h3

theorem Abs.drain {i : Nat} (hi : i < 256) : ∀ (xs : List Nat) (f : Nat) {S : KP} {a : AK}, Abs S a → a.q (.w i) = xs → xs.length < f → Abs (drainP f S i) (xs.foldl wakeA a) := by
  intro xs
  induction xs with
  | nil =>
    intro f S a h hq hl
    cases f with
    | zero => simp at hl
    | succ f =>
      rw [drainP, if_pos (by rw [h.li.head hi, hq]; rfl)]
      exact h
  | cons x r ih =>
    intro f S a h hq hl
    cases f with
    | zero => simp at hl
    | succ f =>
      have hc := h.li.lx.ch (L := .w i) hi
      rw [hq] at hc
      have hx : x < 256 := hc.lt x (by simp)
      have hp : place (a.th x) = some (.w i) := by
        rw [show place (a.th x) = place (S.tcb x) by rw [h.th _ hx]; rfl]
        exact (h.li.lx.mem (L := .w i) hi x hx).1 (by rw [hq]; simp)
      have hhd : (S.wq i).head = (x : Int) := by rw [h.li.head hi, hq]; rfl
      rw [drainP, if_neg (by rw [hhd]; omega), hhd]
      have h1 := h.wake (t := (x : Int)) ⟨by omega, by omega⟩
      rw [Int.toNat_natCast] at h1
      have hq1 : (wakeA a x).q (.w i) = r := by
        show qPush (qCut a.q (place (a.th x)) x) (.r (a.th x).prio.toNat) x (.w i) = r
        unfold qPush qCut
        rw [if_neg (by intro hz; cases hz), hp, if_pos rfl, hq]
        simp
      exact ih f h1 hq1 (by simp at hl; omega)

theorem Abs.bury (h : Abs S a) {c : Cp} (hc : 0 ≤ c.obj.idx ∧ c.obj.idx < 256) : Abs (buryP S c) (buryA a c) := by
  unfold buryP buryA
  split
  · exact (h.reset hc).wakeRep c.obj 256 (Nat.le_refl _)
  split
  · have hch := h.li.lx.ch (L := .w c.obj.idx.toNat) (show _ < 256 by omega)
    have hl := nodup_len hch.nd hch.lt
    exact (Abs.drain (i := c.obj.idx.toNat) (by omega) _ 257 h rfl (by omega)).setWord 0
  · exact h

theorem Abs.buryAll : ∀ (l : List Cp) {S : KP} {a : AK}, Abs S a → (∀ c ∈ l, 2 ≤ c.ty ∧ c.ty < 6 ∧ 0 ≤ c.obj.idx ∧ c.obj.idx < 256) → Abs (Kn.buryAll S l) (buryAllA a l)
  | [], _, _, h, _ => h
  | c :: l, _, _, h, hc => Abs.buryAll l (h.bury (hc c (by simp)).2.2) (fun x hx => hc x (List.mem_cons_of_mem _ hx))

noncomputable def dropA (a : AK) (C : CP) (ev : Ev) : AK × CP × Int :=
  let l := lookP C.ent (a.th a.cur.toNat).cs ev.addr
  if l.2 ≠ 0 then (a, C, l.2) else
  if (C.cel l.1.toNat).cap.ty = 0 then (a, C, 3) else
  if ev.kind = 13 then (buryAllA a (revokeP 4097 C l.1 []).2, (revokeP 4097 C l.1 []).1, 0)
  else (buryAllA a (deleteP 4097 C l.1.toNat).2, (deleteP 4097 C l.1.toNat).1, 0)

theorem Abs.drop (h : Abs S a) (hC : CI C) (he : EvOk ev) (hcur : 0 ≤ S.cur ∧ S.cur < 256) : Abs (dropP S C ev).1 (dropA a C ev).1 ∧ (dropP S C ev).2 = (dropA a C ev).2 := by
  have hn : S.cur.toNat < 256 := by omega
  have hci := (h.ri.t hn).ci
  unfold dropP dropA
  dsimp only
  rw [h.cs hcur]
  by_cases e0 : (lookP C.ent (S.tcb S.cur.toNat).cs ev.addr).2 ≠ 0
  · rw [if_pos e0, if_pos e0]; exact ⟨h, rfl⟩
  rw [if_neg e0, if_neg e0]
  by_cases e1 : (C.cel (lookP C.ent (S.tcb S.cur.toNat).cs ev.addr).1.toNat).cap.ty = 0
  · rw [if_pos e1, if_pos e1]; exact ⟨h, rfl⟩
  rw [if_neg e1, if_neg e1]
  have hs := look_slot hC hci.1 he.addr.1 (Classical.byContradiction e0)
  by_cases e2 : ev.kind = 13
  · rw [if_pos e2, if_pos e2]
    have hr := rev_ok (lookP C.ent (S.tcb S.cur.toNat).cs ev.addr).1 4097 C [] hC (fun c hc => by cases hc)
    obtain ⟨x, hx⟩ : ∃ x, revokeP 4097 C (lookP C.ent (S.tcb S.cur.toNat).cs ev.addr).1 [] = x := ⟨_, rfl⟩
    rw [hx] at hr ⊢
    exact ⟨Abs.buryAll _ h hr.dead, rfl⟩
  · rw [if_neg e2, if_neg e2]
    have hr := del_ok 4097 C (lookP C.ent (S.tcb S.cur.toNat).cs ev.addr).1.toNat hC (by have := cnt_le (C := C); omega) hs.1 hs.2
    obtain ⟨x, hx⟩ : ∃ x, deleteP 4097 C (lookP C.ent (S.tcb S.cur.toNat).cs ev.addr).1.toNat = x := ⟨_, rfl⟩
    rw [hx] at hr ⊢
    exact ⟨Abs.buryAll _ h hr.dead, rfl⟩

def topUp (a : AK) : Nat → Int
  | 0 => -1
  | n + 1 => if a.q (.r n) ≠ [] then (n : Int) else topUp a n

theorem topUp_cases (a : AK) : ∀ n, (topUp a n = -1 ∧ ∀ p, p < n → a.q (.r p) = []) ∨ ∃ p : Nat, p < n ∧ topUp a n = (p : Int) ∧ a.q (.r p) ≠ [] ∧ ∀ r, p < r → r < n → a.q (.r r) = []
  | 0 => .inl ⟨rfl, fun p hp => by omega⟩
  | n + 1 => by
    rw [topUp]
    split
    · rename_i e
      exact .inr ⟨n, by omega, rfl, e, fun r h1 h2 => by omega⟩
    · rename_i e
      have e' : a.q (.r n) = [] := Classical.byContradiction e
      rcases topUp_cases a n with ⟨h1, h2⟩ | ⟨p, h1, h2, h3, h4⟩
      · refine .inl ⟨h1, fun p hp => ?_⟩
        rcases Nat.lt_or_ge p n with hq | hq
        · exact h2 p hq
        · rw [show p = n by omega]; exact e'
      · refine .inr ⟨p, by omega, h2, h3, fun r hr1 hr2 => ?_⟩
        rcases Nat.lt_or_ge r n with hq | hq
        · exact h4 r hr1 hq
        · rw [show r = n by omega]; exact e'

theorem Abs.top (h : Abs S a) : topP S.busy = topUp a 8 := by
  have ht := top_all h.li.by_
  rcases topUp_cases a 8 with ⟨h1, h2⟩ | ⟨p, h1, h2, h3, h4⟩
  · rw [h1]
    refine Classical.byContradiction fun hne => ?_
    have h0 : 0 ≤ topP S.busy := by omega
    have := (h.li.bz (topP S.busy).toNat (by omega)).1 (ht.2.2.1 h0)
    exact this (h2 _ (by omega))
  · rw [h2]
    have g1 := ht.2.2.2 p h1 ((h.li.bz p h1).2 h3)
    rcases Int.lt_or_eq_of_le g1 with hlt | heq
    · have := (h.li.bz (topP S.busy).toNat (by omega)).1 (ht.2.2.1 (by omega))
      exact absurd (h4 (topP S.busy).toNat (by omega) (by omega)) this
    · exact heq.symm

def pickNo (a : AK) (top pick : Int) : Nat := ((a.q (.r top.toNat))[(pick % ((a.q (.r top.toNat)).length : Int)).toNat]?).getD 0

def pickA (a : AK) (top pick : Int) : AK :=
  { (leaveA a (pickNo a top pick)).setT (pickNo a top pick) { (leaveA a (pickNo a top pick)).th (pickNo a top pick) with st := 2 } with cur := (pickNo a top pick : Int) }

theorem Abs.pick (h : Abs S a) {top pick : Int} (ht : 0 ≤ top ∧ top < 8) (hne : a.q (.r top.toNat) ≠ []) (hp : 0 ≤ pick) (hc : S.cur = -1) : Abs (pickP S top pick) (pickA a top pick) := by
  have hav : Avail S top (a.q (.r top.toNat)) := ⟨h.li.lx.ch (show _ < 8 by omega), hne⟩
  obtain ⟨y, h1, hy, e⟩ := pick_at hav hp
  obtain ⟨y', h1', hy', hl⟩ := pick_LIQ h.ri h.li ht hne hp hc
  obtain rfl : y = y' := by rw [h1] at h1'; simpa using h1'
  have hno : pickNo a top pick = y := by
    unfold pickNo
    rw [← hav.n.2, h1]; rfl
  have hpl : place (a.th y) = some (.r top.toNat) := by
    rw [show place (a.th y) = place (S.tcb y) by rw [h.th _ hy]; rfl]
    exact (h.li.lx.mem (show _ < 8 by omega) y hy).1 (List.mem_of_getElem? h1)
  have h2 := h.leave (t := (y : Int)) ⟨by omega, by omega⟩
  rw [Int.toNat_natCast] at h2
  have hri := pick_RI h.ri hav hp
  unfold pickA
  rw [hno]
  unfold pickP at hri hl ⊢
  dsimp only at hri hl ⊢
  rw [e, Int.toNat_natCast] at hri hl ⊢
  refine ⟨hri, ?_, fun i hi => ?_, h2.wd, rfl, h2.ir, h2.nw⟩
  · show LIQ _ (qCut a.q (place (a.th y)) y)
    rw [hpl]; exact hl
  · show upd (leaveA a y).th y { (leaveA a y).th y with st := 2 } i = unl (upd (leaveP S (y : Int)).tcb y { (leaveP S (y : Int)).tcb y with st := 2 } i)
    by_cases ei : i = y
    · subst ei; rw [upd_same, upd_same, h2.th _ hy]; rfl
    · rw [upd_other _ _ ei, upd_other _ _ ei]; exact h2.th i hi

def schedA (a : AK) (pick : Int) : AK :=
  if a.cur ≠ -1 then
    if topUp a 8 ≤ (a.th a.cur.toNat).prio then a
    else if topUp a 8 < 0 then wakeA a a.cur.toNat else pickA (wakeA a a.cur.toNat) (topUp a 8) pick
  else if topUp a 8 < 0 then a else pickA a (topUp a 8) pick

theorem Abs.sched (h : Abs S a) {pick : Int} (hp : 0 ≤ pick) : Abs (schedP S pick) (schedA a pick) := by
  have ht := top_all h.li.by_
  unfold schedP schedA
  rw [h.cu]
  by_cases hc : S.cur ≠ -1
  · rw [if_pos hc, if_pos hc]
    have hcur := lk_nat h.ri.cur hc
    have epr : (a.th S.cur.toNat).prio = (S.tcb S.cur.toNat).prio := by rw [h.th _ (by omega)]; rfl
    rw [epr, ← h.top]
    split
    · exact h
    rename_i hlt
    have hw := h.wake hcur
    split
    · exact hw
    have hst : (S.tcb S.cur.toNat).st = 2 := (h.li.cu S.cur.toNat (by omega)).2 (by omega)
    have hpl : place (a.th S.cur.toNat) = none := by
      rw [show place (a.th S.cur.toNat) = place (S.tcb S.cur.toNat) by rw [h.th _ (by omega)]; rfl]
      unfold place; rw [hst]; rfl
    have hpr := (h.ri.t (i := S.cur.toNat) (by omega)).pr
    refine hw.pick ⟨by omega, ht.2.1⟩ ?_ hp ?_
    · show qPush (qCut a.q (place (a.th S.cur.toNat)) S.cur.toNat) (.r (a.th S.cur.toNat).prio.toNat) S.cur.toNat (.r (topP S.busy).toNat) ≠ []
      rw [hpl, epr]
      unfold qPush qCut
      rw [if_neg (by intro hq; simp at hq; omega), if_neg (by intro hq; cases hq)]
      exact (h.li.bz _ (by omega)).1 (ht.2.2.1 (by omega))
    · rw [wake_curE, if_pos hst]
  · rw [if_neg hc, if_neg hc, ← h.top]
    have hc' : S.cur = -1 := Classical.byContradiction hc
    split
    · exact h
    exact h.pick ⟨by omega, ht.2.1⟩ ((h.li.bz _ (by omega)).1 (ht.2.2.1 (by omega))) hp hc'

noncomputable def sysA (a : AK) (C : CP) (ev : Ev) (ou : Outp) : AK × CP × Outp × Int :=
  if ev.kind = 2 then (wakeA a a.cur.toNat, C, ou, 0) else
  if ev.kind = 3 then (drawA a ev.draw, C, reportA (drawA a ev.draw) ou, 0) else
  if ev.kind = 4 ∨ ev.kind = 5 then ((sendA a C ev).1, (sendA a C ev).2.1, ou, (sendA a C ev).2.2) else
  if ev.kind = 6 then recvA a C ev ou else
  if ev.kind = 7 then ((replyA a C ev).1, C, ou, (replyA a C ev).2) else
  if ev.kind = 8 then ((sigA a C ev).1, C, ou, (sigA a C ev).2) else
  if ev.kind = 9 then ((waitA a C ev ou).1, C, (waitA a C ev ou).2.1, (waitA a C ev ou).2.2) else
  if ev.kind = 10 then (a, (retypeP (ofA a) C ev).1, ou, (retypeP (ofA a) C ev).2) else
  if ev.kind = 11 then (a, (copyCapP (ofA a) C ev).1, ou, (copyCapP (ofA a) C ev).2) else
  if ev.kind = 12 ∨ ev.kind = 13 then ((dropA a C ev).1, (dropA a C ev).2.1, ou, (dropA a C ev).2.2) else
  if ev.kind = 18 ∨ ev.kind = 19 then ((lineA a C ev).1, C, ou, (lineA a C ev).2) else
  ((controlA a C ev).1, C, ou, (controlA a C ev).2)

theorem Abs.sys (h : Abs S a) (hC : CI C) (he : EvOk ev) (hcur : 0 ≤ S.cur ∧ S.cur < 256) (ou : Outp) : Abs (sysP S C ev ou).1 (sysA a C ev ou).1 ∧ (sysP S C ev ou).2 = (sysA a C ev ou).2 := by
  unfold sysP sysA
  by_cases k0 : ev.kind = 2
  · rw [if_pos k0, if_pos k0, h.cu]; exact ⟨h.wake hcur, rfl⟩
  rw [if_neg k0, if_neg k0]
  by_cases k1 : ev.kind = 3
  · rw [if_pos k1, if_pos k1]
    have h1 := h.draw hcur ev.draw
    exact ⟨h1, by rw [h1.report hcur]; rfl⟩
  rw [if_neg k1, if_neg k1]
  by_cases k2 : ev.kind = 4 ∨ ev.kind = 5
  · rw [if_pos k2, if_pos k2]
    have h1 := h.send hC he hcur
    exact ⟨h1.1, by rw [h1.2]⟩
  rw [if_neg k2, if_neg k2]
  by_cases k3 : ev.kind = 6
  · rw [if_pos k3, if_pos k3]; exact h.recv hC he hcur ou
  rw [if_neg k3, if_neg k3]
  by_cases k4 : ev.kind = 7
  · rw [if_pos k4, if_pos k4]
    have h1 := h.reply (C := C) (ev := ev) hcur
    exact ⟨h1.1, by rw [h1.2]⟩
  rw [if_neg k4, if_neg k4]
  by_cases k5 : ev.kind = 8
  · rw [if_pos k5, if_pos k5]
    have h1 := h.sig hC he hcur
    exact ⟨h1.1, by rw [h1.2]⟩
  rw [if_neg k5, if_neg k5]
  by_cases k6 : ev.kind = 9
  · rw [if_pos k6, if_pos k6]
    have h1 := h.wait hC he hcur ou
    exact ⟨h1.1, by rw [h1.2]⟩
  rw [if_neg k6, if_neg k6]
  by_cases k7 : ev.kind = 10
  · rw [if_pos k7, if_pos k7, h.retype hcur]; exact ⟨h, rfl⟩
  rw [if_neg k7, if_neg k7]
  by_cases k8 : ev.kind = 11
  · rw [if_pos k8, if_pos k8, h.copy hcur]; exact ⟨h, rfl⟩
  rw [if_neg k8, if_neg k8]
  by_cases k9 : ev.kind = 12 ∨ ev.kind = 13
  · rw [if_pos k9, if_pos k9]
    have h1 := h.drop hC he hcur
    exact ⟨h1.1, by rw [h1.2]⟩
  rw [if_neg k9, if_neg k9]
  by_cases k10 : ev.kind = 18 ∨ ev.kind = 19
  · rw [if_pos k10, if_pos k10]
    have h1 := h.line hC he hcur
    exact ⟨h1.1, by rw [h1.2]⟩
  rw [if_neg k10, if_neg k10]
  have h1 := h.control hC he hcur
  exact ⟨h1.1, by rw [h1.2]⟩

noncomputable def step0A (a : AK) (C : CP) (ev : Ev) : AK × CP × Outp :=
  if ev.kind = 0 then
    (if a.cur ≠ -1 then wakeA { a with now := IntKind.wrap .u64 (a.now + 1) } a.cur.toNat else { a with now := IntKind.wrap .u64 (a.now + 1) }, C, out0)
  else if ev.kind = 1 then ((interruptA a C ev.arg).1, C, { out0 with code := (interruptA a C ev.arg).2 })
  else if ev.kind ≥ 20 then (a, C, { out0 with code := 16 })
  else if a.cur = -1 then (a, C, { out0 with code := 1 })
  else ((sysA a C ev out0).1, (sysA a C ev out0).2.1, { (sysA a C ev out0).2.2.1 with code := (sysA a C ev out0).2.2.2 })

theorem Abs.setNow (h : Abs S a) : Abs { S with now := IntKind.wrap .u64 (S.now + 1) } { a with now := IntKind.wrap .u64 (a.now + 1) } :=
  ⟨h.ri.setNow _, h.li.same rfl (fun L => by cases L <;> rfl) rfl rfl, h.th, h.wd, h.cu, h.ir, by show IntKind.wrap .u64 (a.now + 1) = IntKind.wrap .u64 (S.now + 1); rw [h.nw]⟩

theorem Abs.step0 (h : Abs S a) (hC : CI C) (he : EvOk ev) : Abs (Kn.step0 S C ev).1 (step0A a C ev).1 ∧ (Kn.step0 S C ev).2 = (step0A a C ev).2 := by
  have hcu := h.cu
  unfold Kn.step0 step0A
  by_cases k0 : ev.kind = 0
  · rw [if_pos k0, if_pos k0]
    dsimp only
    by_cases hc : S.cur ≠ -1
    · rw [if_pos hc, if_pos (show a.cur ≠ -1 by rw [hcu]; exact hc)]
      have := h.setNow.wake (t := S.cur) (lk_nat h.ri.cur hc)
      refine ⟨?_, rfl⟩
      rw [show a.cur.toNat = S.cur.toNat by rw [hcu]]
      exact this
    · rw [if_neg hc, if_neg (show ¬ a.cur ≠ -1 by rw [hcu]; exact hc)]
      exact ⟨h.setNow, rfl⟩
  rw [if_neg k0, if_neg k0]
  by_cases k1 : ev.kind = 1
  · rw [if_pos k1, if_pos k1]
    have h1 := h.interrupt (C := C) he.arg.1
    exact ⟨h1.1, by rw [h1.2]⟩
  rw [if_neg k1, if_neg k1]
  by_cases k2 : ev.kind ≥ 20
  · rw [if_pos k2, if_pos k2]; exact ⟨h, rfl⟩
  rw [if_neg k2, if_neg k2, hcu]
  by_cases k3 : S.cur = -1
  · rw [if_pos k3, if_pos k3]; exact ⟨h, rfl⟩
  rw [if_neg k3, if_neg k3]
  have h1 := h.sys hC he (lk_nat h.ri.cur k3) out0
  exact ⟨h1.1, by rw [h1.2]⟩

noncomputable def stepA (a : AK) (C : CP) (ev : Ev) : AK × CP × Outp :=
  if (step0A a C ev).2.2.code = 0 then (schedA (step0A a C ev).1 ev.pick, (step0A a C ev).2.1, { (step0A a C ev).2.2 with run := refP (step0A a C ev).2.1.ent (schedA (step0A a C ev).1 ev.pick).cur })
  else ((step0A a C ev).1, (step0A a C ev).2.1, { (step0A a C ev).2.2 with run := refP (step0A a C ev).2.1.ent (step0A a C ev).1.cur })

theorem Abs.step (h : Abs S a) (hC : CI C) (he : EvOk ev) : Abs (stepP S C ev).1 (stepA a C ev).1 ∧ (stepP S C ev).2 = (stepA a C ev).2 := by
  have h0 := h.step0 hC he
  unfold stepP stepA
  dsimp only
  rw [h0.2]
  split
  · have h1 := h0.1.sched he.pick.1
    exact ⟨h1, by rw [h1.cu]⟩
  · exact ⟨h0.1, by rw [h0.1.cu]⟩

end
end Go.Kn
