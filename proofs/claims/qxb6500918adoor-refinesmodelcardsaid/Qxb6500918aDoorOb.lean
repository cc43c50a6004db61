/-
  What holds between the threads and the store is kept by every step.
-/
import Derived.Test.Qxb6500918aDoorOa
namespace Go.Kn
open Go.Sx

section
variable {S : KP} {C : CP} {ev : Ev}

theorem find_obj (hS : RI S) (hC : CI C) (hcur : 0 ≤ S.cur ∧ S.cur < 256) {ad want need : Int} (ha : 0 ≤ ad) (hw : want ≠ 1) (h0 : ¬ (findP S C ad want need).2.2 ≠ 0) :
    (0 ≤ (findP S C ad want need).1.obj.idx ∧ (findP S C ad want need).1.obj.idx < 256) ∧ typeOfP C.ent (findP S C ad want need).1.obj = want := by
  obtain ⟨i, j, q1, q2, q3, q4, q5, q6, q7, q8⟩ := find_fact hS hC hcur ha (c := (findP S C ad want need).1) (s := (findP S C ad want need).2.1) (k := (findP S C ad want need).2.2) rfl (Classical.byContradiction h0)
  generalize (findP S C ad want need).1 = c at q6 q7 q8 ⊢
  rcases q8 with a | a
  · exact absurd (q6.symm.trans a.1) hw
  · refine ⟨⟨a.2.2.1, a.2.2.2.1⟩, ?_⟩
    unfold typeOfP
    rw [if_neg (by omega), if_neg (fun hq => hq a.2.2.2.2.1), a.2.2.2.2.2]; exact q6

theorem XI.curLive (h : XI S C.ent) (h2 : Ok2 S) (hcur : 0 ≤ S.cur ∧ S.cur < 256) : (S.tcb S.cur.toNat).st = 2 ∧ (C.ent S.cur.toNat).ty = 3 := by
  obtain ⟨Q, hQ⟩ := h2.li
  have hst : (S.tcb S.cur.toNat).st = 2 := (hQ.cu S.cur.toNat (by omega)).2 (by omega)
  exact ⟨hst, h.lv (by omega) (by omega)⟩

theorem tame_st {S S' : KP} (h : ∀ i, sw (S'.tcb i) = sw (S.tcb i)) (i : Nat) : (S'.tcb i).st = (S.tcb i).st := congrArg Prod.fst (h i)

theorem XI.send (h : XI S C.ent) (h2 : Ok2 S) (hC : CI C) (he : EvOk ev) (hcur : 0 ≤ S.cur ∧ S.cur < 256) : XI (sendP S C ev).1 C.ent := by
  have hn : S.cur.toNat < 256 := by omega
  have hcl := h.curLive h2 hcur
  have h1 := load_ok2 h2 hcur ev.ws
  have t1 := tame_load S S.cur ev.ws
  unfold sendP
  extract_lets f t S1 x1 S2 x2 S3 x3 S4 x4 S5 d S7
  have g1 : Ok2 S1 := h1
  have g2 : Ok2 S2 := by refine Ok2.like (S := S1) (i := t.toNat) g1 hn ?_; exact ⟨rfl, rfl, rfl, rfl, rfl, rfl, rfl, rfl⟩
  have g3 : Ok2 S3 := by refine Ok2.like (S := S2) (i := t.toNat) g2 hn ?_; exact ⟨rfl, rfl, rfl, rfl, rfl, rfl, rfl, rfl⟩
  have g4 : Ok2 S4 := by refine Ok2.like (S := S3) (i := t.toNat) g3 hn ?_; exact ⟨rfl, rfl, rfl, rfl, rfl, rfl, rfl, rfl⟩
  have h6 : Ok2 S5 := by refine Ok2.like (S := S4) (i := t.toNat) g4 hn ?_; exact ⟨rfl, rfl, rfl, rfl, rfl, rfl, rfl, rfl⟩
  have s1 : Tame S S1 := t1
  have s2 : Tame S S2 := s1.trans (tame_setT rfl)
  have s3 : Tame S S3 := s2.trans (tame_setT rfl)
  have s4 : Tame S S4 := s3.trans (tame_setT rfl)
  have s5 : Tame S S5 := s4.trans (tame_setT rfl)
  have x5 : XI S5 C.ent := h.tame s5
  clear_value S5
  split
  · exact h
  rename_i h0
  have hx := find_obj h2.ri hC hcur he.addr.1 (by decide) h0
  split
  · exact h
  split
  · exact x5.block (s := 3) hcl.2 (by decide) (fun _ => hx.2) (fun hq => absurd hq (by decide)) (fun hq => absurd hq (by decide))
  · rename_i hne
    have hlk : 0 ≤ oldestP S5 f.1.obj 4 ∧ oldestP S5 f.1.obj 4 < 256 := lk_nat (oldest_lk h6.ri hx.1 4) hne
    have hst := oldest_st hne
    have hl : (C.ent (oldestP S5 f.1.obj 4).toNat).ty = 3 := x5.lv (by omega) (by omega)
    have xd : XI d.1 C.ent := x5.tame (tame_deliver _ _ _ _)
    have x7 : XI S7 C.ent := xd.wake hl
    have hent : d.2.ent = C.ent := deliver_ent _ _ _ _
    rw [hent]
    exact x7.settle hcl.2 hlk hl

theorem XI.recv (h : XI S C.ent) (h2 : Ok2 S) (hC : CI C) (he : EvOk ev) (hcur : 0 ≤ S.cur ∧ S.cur < 256) (ou : Outp) : XI (recvP S C ev ou).1 C.ent := by
  have hn : S.cur.toNat < 256 := by omega
  have hcl := h.curLive h2 hcur
  unfold recvP
  dsimp only
  split
  · exact h
  rename_i h0
  have hx := find_obj h2.ri hC hcur he.addr.1 (by decide) h0
  generalize findP S C ev.addr 4 1 = fd at hx ⊢
  have ht0 := h2.ri.t hn
  have g1 : Ok2 (S.setT S.cur.toNat { S.tcb S.cur.toNat with dst := ev.dst }) := h2.setT ⟨ht0.nx, ht0.pv, ht0.pr, ht0.wi, ht0.ci, ht0.ri, he.dst⟩ ⟨rfl, rfl⟩ rfl rfl
  have x1 : XI (S.setT S.cur.toNat { S.tcb S.cur.toNat with dst := ev.dst }) C.ent := h.tame (tame_setT rfl)
  have hc1 : (S.setT S.cur.toNat { S.tcb S.cur.toNat with dst := ev.dst }).cur = S.cur := rfl
  generalize S.setT S.cur.toNat { S.tcb S.cur.toNat with dst := ev.dst } = S1 at g1 x1 hc1 ⊢
  split
  · rw [hc1]
    exact x1.block (s := 4) hcl.2 (by decide) (fun _ => hx.2) (fun hq => absurd hq (by decide)) (fun hq => absurd hq (by decide))
  · rename_i hne
    have hlk := lk_nat (oldest_lk g1.ri hx.1 3) hne
    have hst := oldest_st hne
    have hl : (C.ent (oldestP S1 fd.1.obj 3).toNat).ty = 3 := x1.lv (by omega) (by omega)
    have xd : XI (deliverP S1 C (oldestP S1 fd.1.obj 3) S1.cur).1 C.ent := x1.tame (tame_deliver _ _ _ _)
    rw [deliver_ent, deliver_cur, hc1]
    rw [hc1] at xd
    exact xd.settle hl hcur hcl.2

theorem XI.reply (h : XI S C.ent) (h2 : Ok2 S) (hcur : 0 ≤ S.cur ∧ S.cur < 256) : XI (replyP S C ev).1 C.ent := by
  have hri := (h2.ri.t (i := S.cur.toNat) (by omega)).ri
  unfold replyP; dsimp only
  split
  · exact h
  split
  · exact h
  split
  · exact h
  rename_i h3
  have hst : (S.tcb (S.tcb S.cur.toNat).rep.idx.toNat).st = 6 := Classical.byContradiction fun hq => h3 (.inr (.inl hq))
  have hl : (C.ent (S.tcb S.cur.toNat).rep.idx.toNat).ty = 3 := h.lv (by omega) (by omega)
  have h1 := h.tame (tame_load S (S.tcb S.cur.toNat).rep.idx ev.ws)
  generalize loadP S (S.tcb S.cur.toNat).rep.idx ev.ws = S1 at h1 ⊢
  have g2 : XI (S1.setT (S.tcb S.cur.toNat).rep.idx.toNat { S1.tcb (S.tcb S.cur.toNat).rep.idx.toNat with badge := 0 }) C.ent := h1.tame (tame_setT rfl)
  generalize S1.setT (S.tcb S.cur.toNat).rep.idx.toNat { S1.tcb (S.tcb S.cur.toNat).rep.idx.toNat with badge := 0 } = S2 at g2 ⊢
  have g3 : XI (S2.setT (S.tcb S.cur.toNat).rep.idx.toNat { S2.tcb (S.tcb S.cur.toNat).rep.idx.toNat with got := 0 }) C.ent := g2.tame (tame_setT rfl)
  generalize S2.setT (S.tcb S.cur.toNat).rep.idx.toNat { S2.tcb (S.tcb S.cur.toNat).rep.idx.toNat with got := 0 } = S3 at g3 ⊢
  have g4 := g3.wake (t := (S.tcb S.cur.toNat).rep.idx) hl
  exact g4.tame (tame_setT rfl)

theorem XI.wait (h : XI S C.ent) (h2 : Ok2 S) (hC : CI C) (he : EvOk ev) (hcur : 0 ≤ S.cur ∧ S.cur < 256) (ou : Outp) : XI (waitP S C ev ou).1 C.ent := by
  have hcl := h.curLive h2 hcur
  unfold waitP; dsimp only
  split
  · exact h
  rename_i h0
  have hx := find_obj h2.ri hC hcur he.addr.1 (by decide) h0
  generalize findP S C ev.addr 5 1 = fd at hx ⊢
  split
  · rename_i hw
    exact h.block (s := 5) hcl.2 (by decide) (fun hq => by omega) (fun _ => ⟨hx.2, hw⟩) (fun hq => absurd hq (by decide))
  · have h1 : Tame S (S.setT S.cur.toNat { S.tcb S.cur.toNat with badge := S.word fd.1.obj.idx.toNat }) := tame_setT rfl
    refine h.tame (h1.trans ⟨fun _ => .inl rfl, fun i => ?_⟩)
    dsimp only
    unfold upd; split
    · exact .inr rfl
    · exact .inl rfl

theorem tame_setI (S : KP) (l : Nat) (q : Irq) : Tame S (S.setI l q) := ⟨fun _ => .inl rfl, fun _ => .inl rfl⟩

theorem setI_ok2 (h : Ok2 S) {l : Nat} {q : Irq} (hq : 0 ≤ q.ntfn.idx ∧ q.ntfn.idx < 256) : Ok2 (S.setI l q) := h.same (h.ri.setIrq hq) rfl (fun L => by cases L <;> rfl) rfl rfl

theorem XI.int (h : XI S C.ent) (h2 : Ok2 S) {l : Int} (hl : 0 ≤ l) : XI (interruptP S C l).1 C.ent := by
  unfold interruptP; dsimp only
  split
  · exact h
  rename_i k1
  split
  · exact h
  rename_i k2
  split
  · exact h
  have hi := h2.ri.irq (i := l.toNat) (by omega)
  have e1 : ((S.setI l.toNat { S.irq l.toNat with masked := true }).irq l.toNat) = { S.irq l.toNat with masked := true } := upd_same _ _ _
  have x1 : XI (S.setI l.toNat { S.irq l.toNat with masked := true }) C.ent := h.tame (tame_setI _ _ _)
  have o1 : Ok2 (S.setI l.toNat { S.irq l.toNat with masked := true }) := setI_ok2 h2 hi
  rw [e1]
  generalize S.setI l.toNat { S.irq l.toNat with masked := true } = S1 at x1 o1 ⊢
  exact x1.signal o1 hi (Classical.byContradiction k2) _

theorem XI.line (h : XI S C.ent) : XI (lineP S C ev).1 C.ent := by
  unfold lineP; dsimp only
  split
  · exact h
  split
  · split
    · exact h.tame (tame_setI _ _ _)
    · exact h
  · split
    · exact h
    split
    · exact h
    exact h.tame (tame_setI _ _ _)

theorem XI.control (h : XI S C.ent) (h2 : Ok2 S) (hC : CI C) (he : EvOk ev) (hcur : 0 ≤ S.cur ∧ S.cur < 256) : XI (controlP S C ev).1 C.ent := by
  unfold controlP; dsimp only
  split
  · exact h
  rename_i h0
  have hx := find_obj h2.ri hC hcur he.addr.1 (by decide) h0
  have hty := typeOf_ty (by decide) hx.2
  generalize (findP S C ev.addr 3 2).1 = fd at hx hty ⊢
  split
  · split
    · exact h
    · exact h.tame (tame_setT rfl)
  split
  · split
    · exact h
    split
    · exact h.tame (tame_setT rfl)
    · have h1 := h.tame (tame_leave S fd.obj.idx)
      generalize leaveP S fd.obj.idx = S1 at h1 ⊢
      have g2 : XI (S1.setT fd.obj.idx.toNat { S1.tcb fd.obj.idx.toNat with prio := ev.arg }) C.ent := h1.tame (tame_setT rfl)
      generalize S1.setT fd.obj.idx.toNat { S1.tcb fd.obj.idx.toNat with prio := ev.arg } = S2 at g2 ⊢
      exact g2.wake hty
  split
  · split
    · exact h
    · exact h.wake hty
  split
  · split
    · exact h
    · exact h.tame (tame_leave _ _)
  · exact h

theorem tame_draw (S : KP) (d : Int) : Tame S (drawP S d) := by
  unfold drawP
  refine (tame_setT ?_).trans (tame_setT ?_) <;> rfl

theorem XI.sig (h : XI S C.ent) (h2 : Ok2 S) (hC : CI C) (he : EvOk ev) (hcur : 0 ≤ S.cur ∧ S.cur < 256) : XI (sigP S C ev).1 C.ent := by
  unfold sigP; dsimp only
  split
  · rename_i h0
    have hx := find_obj h2.ri hC hcur he.addr.1 (want := 5) (need := 2) (by decide) (by rw [h0]; decide)
    exact h.signal h2 hx.1 hx.2 _
  · exact h

/-! What a deletion frees -/

/-- Every entry is as before, or freed and on the list. -/
def Fre (E E' : Nat → Ent) (l : List Cp) : Prop := ∀ i, E' i = E i ∨ ∃ c ∈ l, 2 ≤ c.ty ∧ c.ty < 6 ∧ 0 ≤ c.obj.idx ∧ c.obj.idx < 256 ∧ c.obj.idx.toNat = i ∧ (E i).ty = c.ty ∧ (E i).gen = c.obj.gen

theorem Fre.refl (E : Nat → Ent) : Fre E E [] := fun _ => .inl rfl

theorem Fre.mono {E E' : Nat → Ent} {l l' : List Cp} (h : Fre E E' l) (hl : ∀ c ∈ l, c ∈ l') : Fre E E' l' := fun i => by
  rcases h i with a | ⟨c, hc, a⟩
  · exact .inl a
  · exact .inr ⟨c, hl c hc, a⟩

theorem Fre.trans {E E1 E2 : Nat → Ent} {l l' : List Cp} (h : Fre E E1 l) (h' : Fre E1 E2 l') : Fre E E2 (l ++ l') := fun i => by
  rcases h i with a | ⟨c, hc, a⟩
  · rcases h' i with b | ⟨c, hc, b⟩
    · exact .inl (b.trans a)
    · rw [a] at b; exact .inr ⟨c, List.mem_append_right _ hc, b⟩
  · exact .inr ⟨c, List.mem_append_left _ hc, a⟩

theorem free_fre {E : Nat → Ent} {c : Cp} (hc : 2 ≤ c.ty ∧ c.ty < 6 ∧ 0 ≤ c.obj.idx ∧ c.obj.idx < 256 ∧ (E c.obj.idx.toNat).gen = c.obj.gen ∧ (E c.obj.idx.toNat).ty = c.ty) : Fre E (freeP E c.obj) [c] := fun i => by
  unfold freeP
  split
  · by_cases e : i = c.obj.idx.toNat
    · subst e
      exact .inr ⟨c, by simp, hc.1, hc.2.1, hc.2.2.1, hc.2.2.2.1, rfl, hc.2.2.2.2.2, hc.2.2.2.2.1⟩
    · rw [upd_other _ _ e]; exact .inl rfl
  · exact .inl rfl

end
end Go.Kn
