/-
  Sends and receives, one step, plainly: who joins, who meets.
-/
import Derived.Test.Qxb6500918aDoorOg
namespace Go.Kn
open Go.Sx Go.Proofs.Qxb6500918aDoor

def partnerP (k : Int) : Int := if k = 6 then 3 else 4

def sndP (ev : Ev) (c : Cp) : Tcb := { putMsg noT ev.ws with len := IntKind.wrap .u8 (ev.ws.length : Int), badge := c.badge, grant := (bitI .and .u8 c.rights 4 != 0), xfer := ev.xfer }

/-- What the law asks of a send or a receive. -/
def EFact (S : KP) (C : CP) (Q : QL → List Nat) (ev : Ev) (Sz : KP) (Cz : CP) (Qz : QL → List Nat) (ep : Cp) (me : Rf) : Prop :=
  ∃ bs wd us wd', waitersP S Q C.ent ep.obj = (bs, wd) ∧ waitersP Sz Qz Cz.ent ep.obj = (us, wd') ∧ bs.length ≤ 256 ∧
    (((bs = [] ∨ ∃ x rs, bs = x :: rs ∧ (0 ≤ x.idx ∧ x.idx < 256) ∧ (threadP S C.ent x).1.st ≠ partnerP ev.kind) ∧ us = bs ++ [me]) ∨
     (∃ x rs tx, bs = x :: rs ∧ us = rs ∧ (0 ≤ x.idx ∧ x.idx < 256) ∧ threadP S C.ent x = (tx, true) ∧ tx.st = partnerP ev.kind ∧
       (ev.kind ≠ 6 → ev.ws.length ≤ 4 ∧ MeetFact S C Sz Cz me x tx.dst (sndP ev ep)) ∧ (ev.kind = 6 → MeetFact S C Sz Cz x me ev.dst tx)))

def send5 (S : KP) (ev : Ev) (c : Cp) : KP :=
  let S1 := loadP S S.cur ev.ws
  let S2 := S1.setT S.cur.toNat { S1.tcb S.cur.toNat with badge := c.badge }
  let S3 := S2.setT S.cur.toNat { S2.tcb S.cur.toNat with grant := (bitI .and .u8 c.rights 4 != 0) }
  let S4 := S3.setT S.cur.toNat { S3.tcb S.cur.toNat with call := (ev.kind == 5) }
  S4.setT S.cur.toNat { S4.tcb S.cur.toNat with xfer := ev.xfer }

theorem LIQ.like {S : KP} {Q : QL → List Nat} (h : LIQ S Q) {i : Nat} {a : Tcb} (e : Like a (S.tcb i)) : LIQ (S.setT i a) Q := h.setT ⟨e.nx, e.pv⟩ e.st e.place

section
variable {S : KP} {C : CP} {ev : Ev} {c : Cp}

theorem send_eq : sendP S C ev = (if (findP S C ev.addr 4 2).2.2 ≠ 0 then (S, C, (findP S C ev.addr 4 2).2.2) else
    if (ev.ws.length : Int) > 4 then (S, C, 8) else
    if oldestP (send5 S ev (findP S C ev.addr 4 2).1) (findP S C ev.addr 4 2).1.obj 4 = -1 then (blockP (send5 S ev (findP S C ev.addr 4 2).1) S.cur 3 (findP S C ev.addr 4 2).1.obj, C, 0) else
    (settleP (wakeP (deliverP (send5 S ev (findP S C ev.addr 4 2).1) C S.cur (oldestP (send5 S ev (findP S C ev.addr 4 2).1) (findP S C ev.addr 4 2).1.obj 4)).1 (oldestP (send5 S ev (findP S C ev.addr 4 2).1) (findP S C ev.addr 4 2).1.obj 4)) (deliverP (send5 S ev (findP S C ev.addr 4 2).1) C S.cur (oldestP (send5 S ev (findP S C ev.addr 4 2).1) (findP S C ev.addr 4 2).1.obj 4)).2.ent S.cur (oldestP (send5 S ev (findP S C ev.addr 4 2).1) (findP S C ev.addr 4 2).1.obj 4), (deliverP (send5 S ev (findP S C ev.addr 4 2).1) C S.cur (oldestP (send5 S ev (findP S C ev.addr 4 2).1) (findP S C ev.addr 4 2).1.obj 4)).2, 0)) := rfl

theorem load_LIQ {Q : QL → List Nat} (h : LIQ S Q) (t : Int) (ws : List Int) : LIQ (loadP S t ws) Q := by
  unfold loadP; dsimp only
  refine LIQ.like (LIQ.like (LIQ.like h ?_) ?_) ?_
  · exact ⟨rfl, rfl, rfl, rfl, rfl, rfl, rfl, rfl⟩
  · exact putMsg_like _ _
  · exact ⟨rfl, rfl, rfl, rfl, rfl, rfl, rfl, rfl⟩

theorem send5_LIQ {Q : QL → List Nat} (h : LIQ S Q) : LIQ (send5 S ev c) Q := by
  have h0 := load_LIQ h S.cur ev.ws
  unfold send5; dsimp only
  refine LIQ.like (LIQ.like (LIQ.like (LIQ.like h0 ?_) ?_) ?_) ?_
  all_goals exact ⟨rfl, rfl, rfl, rfl, rfl, rfl, rfl, rfl⟩

theorem send5_ok2 (h : Ok2 S) (hcur : 0 ≤ S.cur ∧ S.cur < 256) : Ok2 (send5 S ev c) := by
  have hn : S.cur.toNat < 256 := by omega
  have h0 := load_ok2 h hcur ev.ws
  unfold send5; dsimp only
  refine Ok2.like (Ok2.like (Ok2.like (Ok2.like h0 hn ?_) hn ?_) hn ?_) hn ?_
  all_goals exact ⟨rfl, rfl, rfl, rfl, rfl, rfl, rfl, rfl⟩

theorem send5_o {i : Nat} (h : i ≠ S.cur.toNat) : (send5 S ev c).tcb i = S.tcb i := by
  unfold send5 loadP; dsimp only
  rw [setT_other _ _ h, setT_other _ _ h, setT_other _ _ h, setT_other _ _ h, setT_other _ _ h, setT_other _ _ h, setT_other _ _ h]

theorem send5_t : (send5 S ev c).tcb S.cur.toNat = { putMsg { S.tcb S.cur.toNat with m0 := 0, m1 := 0, m2 := 0, m3 := 0 } ev.ws with len := IntKind.wrap .u8 (ev.ws.length : Int), badge := c.badge, grant := (bitI .and .u8 c.rights 4 != 0), call := (ev.kind == 5), xfer := ev.xfer } := by
  unfold send5 loadP; dsimp only
  simp only [setT_same]

theorem putMsg_m (x : Tcb) (h : x.m0 = 0 ∧ x.m1 = 0 ∧ x.m2 = 0 ∧ x.m3 = 0) (ws : List Int) : (putMsg noT ws).m0 = (putMsg x ws).m0 ∧ (putMsg noT ws).m1 = (putMsg x ws).m1 ∧ (putMsg noT ws).m2 = (putMsg x ws).m2 ∧ (putMsg noT ws).m3 = (putMsg x ws).m3 := by
  obtain ⟨h0, h1, h2, h3⟩ := h
  rcases ws with _ | ⟨a, _ | ⟨b, _ | ⟨d, _ | ⟨e, r⟩⟩⟩⟩ <;> simp [putMsg, noT, h0, h1, h2, h3]

theorem send5_sw (i : Nat) : sw ((send5 S ev c).tcb i) = sw (S.tcb i) := by
  by_cases e : i = S.cur.toNat
  · subst e
    rw [send5_t]
    have h := putMsg_like { S.tcb S.cur.toNat with m0 := 0, m1 := 0, m2 := 0, m3 := 0 } ev.ws
    show (_, _) = (_, _)
    rw [h.st, h.wt]
  · rw [send5_o e]

theorem send5_cs (i : Nat) : ((send5 S ev c).tcb i).cs = (S.tcb i).cs := by
  by_cases e : i = S.cur.toNat
  · subst e
    rw [send5_t]
    exact (putMsg_like { S.tcb S.cur.toNat with m0 := 0, m1 := 0, m2 := 0, m3 := 0 } ev.ws).cs
  · rw [send5_o e]

/-- Who is oldest. -/
theorem oldest_cases {Q : QL → List Nat} {S5 : KP} (hQ : LIQ S5 Q) {o : Rf} (ho : 0 ≤ o.idx ∧ o.idx < 256) (s : Int) :
    (oldestP S5 o s = -1 ∧ (Q (.w o.idx.toNat) = [] ∨ ∃ x r, Q (.w o.idx.toNat) = x :: r ∧ x < 256 ∧ (S5.tcb x).st ≠ s)) ∨ ∃ x r, Q (.w o.idx.toNat) = x :: r ∧ x < 256 ∧ (S5.tcb x).st = s ∧ oldestP S5 o s = (x : Int) := by
  have hd := hQ.head (i := o.idx.toNat) (by omega)
  unfold oldestP
  cases hq : Q (.w o.idx.toNat) with
  | nil => rw [hq] at hd; exact .inl ⟨by rw [if_neg (fun hz => hz.1 hd)], .inl rfl⟩
  | cons x r =>
    rw [hq] at hd
    have hd' : (S5.wq o.idx.toNat).head = (x : Int) := hd
    have hx : x < 256 := (hQ.lx.ch (L := .w o.idx.toNat) (show _ < 256 by omega)).lt x (by rw [hq]; simp)
    by_cases hs : (S5.tcb x).st = s
    · exact .inr ⟨x, r, rfl, hx, hs, by rw [hd', if_pos ⟨by omega, by rw [Int.toNat_natCast]; exact hs⟩]⟩
    · exact .inl ⟨by rw [hd', if_neg (fun hz => hs (by have := hz.2; rw [Int.toNat_natCast] at this; exact this))], .inr ⟨x, r, rfl, hx, hs⟩⟩

theorem ref_ix {E : Nat → Ent} {x : Nat} (hx : x < 256) : 0 ≤ (refP E (x : Int)).idx ∧ (refP E (x : Int)).idx < 256 := by
  have : (refP E (x : Int)).idx = (x : Int) := by unfold refP; rw [if_neg (by omega)]; exact refAt_idx ⟨by omega, by omega⟩
  omega

/-- The running thread joins a queue. -/
theorem join_fact {S5 : KP} (hX : XI S C.ent) (hcl : (S5.tcb S.cur.toNat).st = 2) (h5 : Ok2 S5) (hcur : 0 ≤ S.cur ∧ S.cur < 256) {Q : QL → List Nat} (hQ : LIQ S Q) (h2 : RI S) (hQ5 : LIQ S5 Q) {o : Rf} (ho : 0 ≤ o.idx ∧ o.idx < 256) (ht : typeOfP C.ent o = 4) {s : Int} (hs : s = 3 ∨ s = 4) {pick : Int} (hp : 0 ≤ pick) {ep : Cp} (hep : ep.obj = o)
    (hb : Q (.w o.idx.toNat) = [] ∨ ∃ x r, Q (.w o.idx.toNat) = x :: r ∧ x < 256 ∧ (S.tcb x).st ≠ partnerP ev.kind) :
    ∃ Qz, LIQ (schedP (blockP S5 S.cur s o) pick) Qz ∧ EFact S C Q ev (schedP (blockP S5 S.cur s o) pick) C Qz ep (refP C.ent S.cur) := by
  have hpl : place (S5.tcb S.cur.toNat) = none := by unfold place; rw [hcl]; rfl
  have hl := block_LIQ h5.ri hQ5 (t := S.cur.toNat) (by omega) (s := s) (o := o) ho (by omega)
  rw [show ((S.cur.toNat : Nat) : Int) = S.cur by omega, hpl] at hl
  have hok := h5.block (t := S.cur) hcur (s := s) (o := o) ho (by omega)
  generalize blockP S5 S.cur s o = S1 at hok hl ⊢
  have hsc := sched_sch hok.ri hl hp
  obtain ⟨Qz, hz, hqz⟩ := hsc.qs
  have hlen := nodup_len (hQ.lx.ch (L := .w o.idx.toNat) (show _ < 256 by omega)).nd (hQ.lx.ch (L := .w o.idx.toNat) (show _ < 256 by omega)).lt
  subst hep
  refine ⟨Qz, hz, _, _, _, _, waiters_at (.inl ht), waiters_at (.inl ht), by unfold refsP; rw [List.length_map]; exact hlen, .inl ⟨?_, ?_⟩⟩
  · rcases hb with e | ⟨x, r, e, hx, hst⟩
    · rw [e]; exact .inl rfl
    · rw [e]
      refine .inr ⟨refP C.ent (x : Int), refsP C.ent r, rfl, ref_ix hx, ?_⟩
      have hw := hX.waits hQ h2 (i := ep.obj.idx.toNat) (x := x) (by omega) (by rw [e]; simp)
      have hl3 : (C.ent x).ty = 3 := hX.lv hx (by rcases hw.2.2 with a | a <;> omega)
      rw [thread_live ⟨by omega, by omega⟩ (by rw [Int.toNat_natCast]; exact hl3), Int.toNat_natCast]
      exact hst
  · rw [hqz _ (by omega)]
    have : qPush (qCut Q none S.cur.toNat) (.w ep.obj.idx.toNat) S.cur.toNat (.w ep.obj.idx.toNat) = Q (.w ep.obj.idx.toNat) ++ [S.cur.toNat] := by
      unfold qPush qCut; rw [if_pos rfl, if_neg (by intro hz; cases hz)]
    rw [this]
    unfold refsP
    rw [List.map_append, List.map_cons, List.map_nil, show ((S.cur.toNat : Nat) : Int) = S.cur by omega]

theorem send_fact (hX : XI S C.ent) (h2 : Ok2 S) (hC : CI C) (hXC : XC C) (he : EvOk ev) (hcur : 0 ≤ S.cur ∧ S.cur < 256) {Q : QL → List Nat} (hQ : LIQ S Q) (hk : ev.kind ≠ 6) (hc : (sendP S C ev).2.2 = 0) :
    (0 ≤ (capAtP S C (refP C.ent S.cur) ev.addr).obj.idx ∧ (capAtP S C (refP C.ent S.cur) ev.addr).obj.idx < 256) ∧ ∃ Qz, LIQ (schedP (sendP S C ev).1 ev.pick) Qz ∧ EFact S C Q ev (schedP (sendP S C ev).1 ev.pick) (sendP S C ev).2.1 Qz (capAtP S C (refP C.ent S.cur) ev.addr) (refP C.ent S.cur) := by
  have hcl := hX.curLive h2 hcur
  rw [send_eq] at hc ⊢
  by_cases k0 : (findP S C ev.addr 4 2).2.2 ≠ 0
  · rw [if_pos k0] at hc; exact absurd hc k0
  rw [if_neg k0] at hc ⊢
  by_cases k1 : (ev.ws.length : Int) > 4
  · rw [if_pos k1] at hc; exact absurd hc (by show (8 : Int) ≠ 0; decide)
  rw [if_neg k1] at hc ⊢
  have hf0 : (findP S C ev.addr 4 2).2.2 = 0 := Classical.byContradiction k0
  have hf := find_obj h2.ri hC hcur he.addr.1 (want := 4) (need := 2) (by decide) k0
  rw [capAt_find hX h2 hcur hf0]
  refine ⟨hf.1, ?_⟩
  generalize (findP S C ev.addr 4 2).1 = c at hf hc ⊢
  have hQ5 : LIQ (send5 S ev c) Q := send5_LIQ hQ
  have hok5 : Ok2 (send5 S ev c) := send5_ok2 h2 hcur
  have hsw := send5_sw (S := S) (ev := ev) (c := c)
  have hst5 : ∀ i, ((send5 S ev c).tcb i).st = (S.tcb i).st := fun i => congrArg Prod.fst (hsw i)
  have hcs5 := send5_cs (S := S) (ev := ev) (c := c)
  have ho5 : ∀ {i : Nat}, i ≠ S.cur.toNat → (send5 S ev c).tcb i = S.tcb i := fun h => send5_o h
  have ht5 := send5_t (S := S) (ev := ev) (c := c)
  have hc5 : (send5 S ev c).cur = S.cur := rfl
  have hpt : partnerP ev.kind = 4 := by unfold partnerP; rw [if_neg hk]
  generalize send5 S ev c = S5 at hQ5 hok5 hsw hst5 hcs5 ho5 ht5 hc5 hc ⊢
  rcases oldest_cases hQ5 hf.1 4 with ⟨e, hb⟩ | ⟨x, r, hq, hx, hs, e⟩
  · rw [if_pos e] at hc ⊢
    refine join_fact hX (by rw [hst5]; exact hcl.1) hok5 hcur hQ h2.ri hQ5 hf.1 hf.2 (.inl rfl) he.pick.1 rfl ?_
    rcases hb with a | ⟨x, r, a, b, d⟩
    · exact .inl a
    · exact .inr ⟨x, r, a, b, by rw [hpt, ← hst5]; exact d⟩
  · rw [e, if_neg (by omega)]
    dsimp only
    have hxs : (S.tcb x).st = 4 := by rw [← hst5]; exact hs
    have hxc : x ≠ S.cur.toNat := fun h => by rw [h, hcl.1] at hxs; exact absurd hxs (by decide)
    have hl3 : (C.ent x).ty = 3 := hX.lv hx (by omega)
    have hQd := deliver_LIQ hQ5 C S.cur (x : Int)
    have hokd := deliver_ok2 hok5 C (f := S.cur) (t := (x : Int)) ⟨by omega, by omega⟩
    have hdst := fun i => deliver_st (S := S5) (C := C) (f := S.cur) (t := (x : Int)) i
    have hdc : (deliverP S5 C S.cur (x : Int)).1.cur = S.cur := deliver_cur.trans hc5
    obtain ⟨D, hD⟩ : ∃ d, deliverP S5 C S.cur (x : Int) = d := ⟨_, rfl⟩
    have hpjD : ∀ Sz : KP, pj (Sz.tcb x) = pj (D.1.tcb x) → ∀ Cz, Cz = D.2 → MeetFact S C Sz Cz (refP C.ent S.cur) (refP C.ent (x : Int)) (S.tcb x).dst (sndP ev c) := by
      intro Sz hz Cz hcz
      have hpm := putMsg_m { S.tcb S.cur.toNat with m0 := 0, m1 := 0, m2 := 0, m3 := 0 } ⟨rfl, rfl, rfl, rfl⟩ ev.ws
      refine meet_of (S5 := S5) hXC hcur (t := (x : Int)) ⟨by omega, by omega⟩ (by rw [Int.toNat_natCast]; exact fun h => hxc h.symm) hcl.2 (by rw [Int.toNat_natCast]; exact hl3) (hcs5 _) (hcs5 _) (by rw [Int.toNat_natCast, ho5 hxc]) (by rw [Int.toNat_natCast, hD]; exact hz) (by rw [hD]; exact hcz) ?_
      rw [ht5]
      exact ⟨hpm.1, hpm.2.1, hpm.2.2.1, hpm.2.2.2, rfl, rfl, rfl, rfl⟩
    have hentD : D.2.ent = C.ent := by rw [← hD]; exact deliver_ent _ _ _ _
    rw [hD] at hQd hokd hdst hdc ⊢
    have hQdx : Q (.w c.obj.idx.toNat) = x :: r := hq
    obtain ⟨_, Q1, hQ1, hq1⟩ := wake_head hokd.ri hQd (i := c.obj.idx.toNat) (by omega) hQdx
    have hok1 := hokd.wake (t := (x : Int)) ⟨by omega, by omega⟩
    have hstx : (D.1.tcb x).st = 4 := by rw [hdst, hst5]; exact hxs
    have hc1 : (wakeP D.1 (x : Int)).cur = S.cur := by rw [wake_cur (by rw [Int.toNat_natCast]; omega)]; exact hdc
    have hswk := sw_wake D.1 (x : Int) S.cur.toNat
    rw [if_neg (by rw [Int.toNat_natCast]; exact fun h => hxc h.symm)] at hswk
    have hstc : ((wakeP D.1 (x : Int)).tcb S.cur.toNat).st = 2 := by
      have h1 : ((wakeP D.1 (x : Int)).tcb S.cur.toNat).st = (D.1.tcb S.cur.toNat).st := congrArg Prod.fst hswk
      rw [h1, hdst, hst5]; exact hcl.1
    have hpj1 : pj ((wakeP D.1 (x : Int)).tcb x) = pj (D.1.tcb x) := pj_wake _ _ _
    generalize wakeP D.1 (x : Int) = S7 at hQ1 hok1 hc1 hstc hpj1 ⊢
    -- settle
    have hset : ∃ Q2, LIQ (settleP S7 D.2.ent S.cur (x : Int)) Q2 ∧ Q2 (.w c.obj.idx.toNat) = r := by
      have hpl : place (S7.tcb S.cur.toNat) = none := by unfold place; rw [hstc]; rfl
      unfold settleP
      split
      · have hb := blockR_LIQ hok1.ri hQ1 (t := S.cur.toNat) (by omega) (o := refP D.2.ent (x : Int))
        rw [show ((S.cur.toNat : Nat) : Int) = S.cur by omega, hpl] at hb
        dsimp only
        generalize blockP S7 S.cur 6 (refP D.2.ent (x : Int)) = S8 at hb ⊢
        refine ⟨_, hb.setT ⟨rfl, rfl⟩ rfl rfl, ?_⟩
        unfold qCut; rw [if_neg (by intro hz; cases hz)]; exact hq1
      · rw [if_neg (by rw [hc1]; exact fun h => h rfl)]
        exact ⟨Q1, hQ1, hq1⟩
    have hoks := settle_ok2 hok1 D.2.ent (f := S.cur) (t := (x : Int)) hcur ⟨by omega, by omega⟩
    have hpjs : pj ((settleP S7 D.2.ent S.cur (x : Int)).tcb x) = pj (D.1.tcb x) := (pj_settle S7 D.2.ent S.cur (x : Int) x).trans hpj1
    obtain ⟨Q2, hQ2, hq2⟩ := hset
    generalize settleP S7 D.2.ent S.cur (x : Int) = S9 at hQ2 hoks hpjs ⊢
    have hsc := sched_sch hoks.ri hQ2 he.pick.1
    obtain ⟨Qz, hz, hqz⟩ := hsc.qs
    have hlen := nodup_len (hQ.lx.ch (L := .w c.obj.idx.toNat) (show _ < 256 by omega)).nd (hQ.lx.ch (L := .w c.obj.idx.toNat) (show _ < 256 by omega)).lt
    refine ⟨Qz, hz, _, _, _, _, waiters_at (.inl hf.2), waiters_at (.inl (by rw [hentD]; exact hf.2)), by unfold refsP; rw [List.length_map]; exact hlen, .inr ⟨refP C.ent (x : Int), refsP C.ent r, S.tcb x, ?_, ?_, ref_ix hx, ?_, ?_, fun _ => ⟨by omega, ?_⟩, fun h => absurd h hk⟩⟩
    · rw [hq]; rfl
    · rw [hentD, hqz _ (by omega), hq2]
    · have := thread_live (S := S) (E := C.ent) (t := (x : Int)) ⟨by omega, by omega⟩ (by rw [Int.toNat_natCast]; exact hl3)
      rw [Int.toNat_natCast] at this; exact this
    · rw [hpt]; exact hxs
    · exact hpjD _ ((hsc.field pj (fun _ _ _ => rfl) x).trans hpjs) _ rfl

theorem recv_fact (hX : XI S C.ent) (h2 : Ok2 S) (hC : CI C) (hXC : XC C) (he : EvOk ev) (hcur : 0 ≤ S.cur ∧ S.cur < 256) {Q : QL → List Nat} (hQ : LIQ S Q) (hk : ev.kind = 6) (ou : Outp) (hc : (recvP S C ev ou).2.2.2 = 0) :
    (0 ≤ (capAtP S C (refP C.ent S.cur) ev.addr).obj.idx ∧ (capAtP S C (refP C.ent S.cur) ev.addr).obj.idx < 256) ∧ ∃ Qz, LIQ (schedP (recvP S C ev ou).1 ev.pick) Qz ∧ EFact S C Q ev (schedP (recvP S C ev ou).1 ev.pick) (recvP S C ev ou).2.1 Qz (capAtP S C (refP C.ent S.cur) ev.addr) (refP C.ent S.cur) := by
  have hn : S.cur.toNat < 256 := by omega
  have hcl := hX.curLive h2 hcur
  unfold recvP at hc ⊢
  dsimp only at hc ⊢
  by_cases k0 : (findP S C ev.addr 4 1).2.2 ≠ 0
  · rw [if_pos k0] at hc; exact absurd hc k0
  rw [if_neg k0] at hc ⊢
  have hf0 : (findP S C ev.addr 4 1).2.2 = 0 := Classical.byContradiction k0
  have hf := find_obj h2.ri hC hcur he.addr.1 (want := 4) (need := 1) (by decide) k0
  rw [capAt_find hX h2 hcur hf0]
  refine ⟨hf.1, ?_⟩
  generalize (findP S C ev.addr 4 1).1 = c at hf hc ⊢
  have ht0 := h2.ri.t hn
  have hok5 : Ok2 (S.setT S.cur.toNat { S.tcb S.cur.toNat with dst := ev.dst }) := h2.setT ⟨ht0.nx, ht0.pv, ht0.pr, ht0.wi, ht0.ci, ht0.ri, he.dst⟩ ⟨rfl, rfl⟩ rfl rfl
  have hQ5 : LIQ (S.setT S.cur.toNat { S.tcb S.cur.toNat with dst := ev.dst }) Q := hQ.setT ⟨rfl, rfl⟩ rfl rfl
  have hst5 : ∀ i, ((S.setT S.cur.toNat { S.tcb S.cur.toNat with dst := ev.dst }).tcb i).st = (S.tcb i).st := fun i => congrArg Prod.fst (sw_setT (S := S) (j := S.cur.toNat) (a := { S.tcb S.cur.toNat with dst := ev.dst }) rfl i)
  have ho5 : ∀ {i : Nat}, i ≠ S.cur.toNat → (S.setT S.cur.toNat { S.tcb S.cur.toNat with dst := ev.dst }).tcb i = S.tcb i := fun h => setT_other _ _ h
  have ht5 : (S.setT S.cur.toNat { S.tcb S.cur.toNat with dst := ev.dst }).tcb S.cur.toNat = { S.tcb S.cur.toNat with dst := ev.dst } := setT_same _ _ _
  have hc5 : (S.setT S.cur.toNat { S.tcb S.cur.toNat with dst := ev.dst }).cur = S.cur := rfl
  have hpt : partnerP ev.kind = 3 := by unfold partnerP; rw [if_pos hk]
  generalize S.setT S.cur.toNat { S.tcb S.cur.toNat with dst := ev.dst } = S5 at hQ5 hok5 hst5 ho5 ht5 hc5 hc ⊢
  rw [hc5] at hc ⊢
  rcases oldest_cases hQ5 hf.1 3 with ⟨e, hb⟩ | ⟨x, r, hq, hx, hs, e⟩
  · rw [if_pos e]
    refine join_fact hX (by rw [hst5]; exact hcl.1) hok5 hcur hQ h2.ri hQ5 hf.1 hf.2 (.inr rfl) he.pick.1 rfl ?_
    rcases hb with a | ⟨x, r, a, b, d⟩
    · exact .inl a
    · exact .inr ⟨x, r, a, b, by rw [hpt, ← hst5]; exact d⟩
  · rw [e, if_neg (by omega)]
    dsimp only
    have hxs : (S.tcb x).st = 3 := by rw [← hst5]; exact hs
    have hxc : x ≠ S.cur.toNat := fun h => by rw [h, hcl.1] at hxs; exact absurd hxs (by decide)
    have hl3 : (C.ent x).ty = 3 := hX.lv hx (by omega)
    have hQd := deliver_LIQ hQ5 C (x : Int) S.cur
    have hokd := deliver_ok2 hok5 C (f := (x : Int)) (t := S.cur) hcur
    have hdst := fun i => deliver_st (S := S5) (C := C) (f := (x : Int)) (t := S.cur) i
    have hdc : (deliverP S5 C (x : Int) S.cur).1.cur = S.cur := deliver_cur.trans hc5
    obtain ⟨D, hD⟩ : ∃ d, deliverP S5 C (x : Int) S.cur = d := ⟨_, rfl⟩
    have hpjD : ∀ Sz : KP, pj (Sz.tcb S.cur.toNat) = pj (D.1.tcb S.cur.toNat) → ∀ Cz, Cz = D.2 → MeetFact S C Sz Cz (refP C.ent (x : Int)) (refP C.ent S.cur) ev.dst (S.tcb x) := by
      intro Sz hz Cz hcz
      refine meet_of (S5 := S5) hXC (f := (x : Int)) ⟨by omega, by omega⟩ hcur (by rw [Int.toNat_natCast]; exact hxc) (by rw [Int.toNat_natCast]; exact hl3) hcl.2 (by rw [Int.toNat_natCast, ho5 hxc]) (by rw [ht5]) (by rw [ht5]) (by rw [hD]; exact hz) (by rw [hD]; exact hcz) ?_
      rw [Int.toNat_natCast, ho5 hxc]
      exact ⟨rfl, rfl, rfl, rfl, rfl, rfl, rfl, rfl⟩
    have hentD : D.2.ent = C.ent := by rw [← hD]; exact deliver_ent _ _ _ _
    rw [hD] at hQd hokd hdst hdc ⊢
    rw [hdc]
    have hstx : (D.1.tcb x).st = 3 := by rw [hdst, hst5]; exact hxs
    have hset : ∃ Q2, LIQ (settleP D.1 D.2.ent (x : Int) S.cur) Q2 ∧ Q2 (.w c.obj.idx.toNat) = r := by
      have hplx : place (D.1.tcb x) = some (.w c.obj.idx.toNat) := (hQd.lx.mem (L := .w c.obj.idx.toNat) (show _ < 256 by omega) x hx).1 (by rw [hq]; simp)
      unfold settleP
      split
      · have hb := blockR_LIQ hokd.ri hQd (t := x) hx (o := refP D.2.ent S.cur)
        rw [hplx] at hb
        dsimp only
        generalize blockP D.1 (x : Int) 6 (refP D.2.ent S.cur) = S8 at hb ⊢
        refine ⟨_, hb.setT ⟨rfl, rfl⟩ rfl rfl, ?_⟩
        unfold qCut; rw [if_pos rfl, hq]; simp
      · rw [if_pos (by rw [hdc]; omega)]
        obtain ⟨_, Q1, hQ1, hq1⟩ := wake_head hokd.ri hQd (i := c.obj.idx.toNat) (by omega) hq
        exact ⟨Q1, hQ1, hq1⟩
    have hoks := settle_ok2 hokd D.2.ent (f := (x : Int)) (t := S.cur) ⟨by omega, by omega⟩ hcur
    have hpjs : pj ((settleP D.1 D.2.ent (x : Int) S.cur).tcb S.cur.toNat) = pj (D.1.tcb S.cur.toNat) := pj_settle D.1 D.2.ent (x : Int) S.cur S.cur.toNat
    obtain ⟨Q2, hQ2, hq2⟩ := hset
    generalize settleP D.1 D.2.ent (x : Int) S.cur = S9 at hQ2 hoks hpjs ⊢
    have hsc := sched_sch hoks.ri hQ2 he.pick.1
    obtain ⟨Qz, hz, hqz⟩ := hsc.qs
    have hlen := nodup_len (hQ.lx.ch (L := .w c.obj.idx.toNat) (show _ < 256 by omega)).nd (hQ.lx.ch (L := .w c.obj.idx.toNat) (show _ < 256 by omega)).lt
    refine ⟨Qz, hz, _, _, _, _, waiters_at (.inl hf.2), waiters_at (.inl (by rw [hentD]; exact hf.2)), by unfold refsP; rw [List.length_map]; exact hlen, .inr ⟨refP C.ent (x : Int), refsP C.ent r, S.tcb x, ?_, ?_, ref_ix hx, ?_, ?_, fun h => absurd hk h, fun _ => ?_⟩⟩
    · rw [hq]; rfl
    · rw [hentD, hqz _ (by omega), hq2]
    · have := thread_live (S := S) (E := C.ent) (t := (x : Int)) ⟨by omega, by omega⟩ (by rw [Int.toNat_natCast]; exact hl3)
      rw [Int.toNat_natCast] at this; exact this
    · rw [hpt]; exact hxs
    · exact hpjD _ ((hsc.field pj (fun _ _ _ => rfl) S.cur.toNat).trans hpjs) _ rfl

/-- The law's demands on one step. -/
structure FFact (S : KP) (C : CP) (Q : QL → List Nat) (ev : Ev) (Sz : KP) (Cz : CP) (oz : Outp) (Qz : QL → List Nat) : Prop where
  liq : LIQ Sz Qz
  main : oz.code = 0 → ev.kind = 4 ∨ ev.kind = 5 ∨ ev.kind = 6 → (0 ≤ S.cur ∧ S.cur < 256) ∧ EFact S C Q ev Sz Cz Qz (capAtP S C (refP C.ent S.cur) ev.addr) (refP C.ent S.cur)

theorem sys_send {ou : Outp} (k : ev.kind = 4 ∨ ev.kind = 5) : sysP S C ev ou = ((sendP S C ev).1, (sendP S C ev).2.1, ou, (sendP S C ev).2.2) := by
  unfold sysP
  rw [if_neg (by omega), if_neg (by omega), if_pos k]
theorem sys_recv {ou : Outp} (k : ev.kind = 6) : sysP S C ev ou = recvP S C ev ou := by
  unfold sysP
  rw [if_neg (by omega), if_neg (by omega), if_neg (by omega), if_pos k]

theorem step_F (hX : XI S C.ent) (h2 : Ok2 S) (hC : CI C) (hXC : XC C) (he : EvOk ev) {Q : QL → List Nat} (hQ : LIQ S Q) {Sz : KP} {Cz : CP} {oz : Outp} (ez : stepP S C ev = (Sz, Cz, oz)) : ∃ Qz, FFact S C Q ev Sz Cz oz Qz := by
  by_cases hc : oz.code = 0 ∧ (ev.kind = 4 ∨ ev.kind = 5 ∨ ev.kind = 6)
  · obtain ⟨hc, hk⟩ := hc
    obtain ⟨h0, e1, e2, e3⟩ := step_ok0 ez hc
    obtain ⟨hcr, hsc0, es⟩ := step0_sys (by omega) (by omega) h0
    have hcur := lk_nat h2.ri.cur hcr
    by_cases k6 : ev.kind = 6
    · rw [es, sys_recv k6] at h0 e1 e2
      dsimp only at h0 e1 e2
      obtain ⟨_, Qz, hz, hf⟩ := recv_fact hX h2 hC hXC he hcur hQ k6 out0 h0
      rw [← e1] at hz hf
      rw [← e2] at hf
      exact ⟨Qz, hz, fun _ _ => ⟨hcur, hf⟩⟩
    · rw [es, sys_send (by omega)] at h0 e1 e2
      dsimp only at h0 e1 e2
      obtain ⟨_, Qz, hz, hf⟩ := send_fact hX h2 hC hXC he hcur hQ k6 h0
      rw [← e1] at hz hf
      rw [← e2] at hf
      exact ⟨Qz, hz, fun _ _ => ⟨hcur, hf⟩⟩
  · have hiv := step_inv h2 hC he
    rw [ez] at hiv
    obtain ⟨Qz, hz⟩ := hiv.1.li
    exact ⟨Qz, hz, fun a b => absurd ⟨a, b⟩ hc⟩

end
end Go.Kn
