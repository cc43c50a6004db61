/-
  The canonical bytes tell the state.
-/
import Derived.Test.Qxb6500918aDoorQb
namespace Go.Kn
open Go.Sx Go.Proofs.Qxb6500918aDoor

/-! Numbers -/

theorem uvar_inj : ∀ (k : Nat) {v v' : Int} {r r' : List Int}, 0 ≤ v → v < 128 ^ (k + 1) → 0 ≤ v' → v' < 128 ^ (k + 1) → uvar k v ++ r = uvar k v' ++ r' → v = v' ∧ r = r'
  | 0, v, v', r, r', _, _, _, _, h => by simpa [uvar] using h
  | k + 1, v, v', r, r', h0, hb, h0', hb', h => by
    by_cases e : 128 ≤ v
    · by_cases e' : 128 ≤ v'
      · rw [uvar_step e, uvar_step e'] at h
        simp only [List.cons_append, List.cons.injEq] at h
        obtain ⟨g, hg, h1⟩ := pow_step e hb
        obtain ⟨g', hg', h1'⟩ := pow_step e' hb'
        obtain rfl : k = g := by omega
        obtain rfl : k = g' := by omega
        have := uvar_inj k (by omega) h1 (by omega) h1' h.2
        exact ⟨by omega, this.2⟩
      · rw [uvar_step e, uvar_stop e'] at h
        simp only [List.cons_append, List.nil_append, List.cons.injEq] at h
        omega
    · by_cases e' : 128 ≤ v'
      · rw [uvar_stop e, uvar_step e'] at h
        simp only [List.cons_append, List.nil_append, List.cons.injEq] at h
        omega
      · rw [uvar_stop e, uvar_stop e'] at h
        simpa using h

theorem uv_ne (v : Int) : uv v ≠ [] := by
  unfold uv
  by_cases h : 128 ≤ v
  · rw [uvar_step h]; simp
  · rw [uvar_stop h]; simp

theorem uvs_inj : ∀ {vs vs' : List Int}, (∀ v ∈ vs, u64r v) → (∀ v ∈ vs', u64r v) → uvs vs = uvs vs' → vs = vs'
  | [], [], _, _, _ => rfl
  | [], v' :: vs', _, _, h => by
    have : uv v' ++ uvs vs' = [] := h.symm
    exact absurd (List.append_eq_nil_iff.1 this).1 (uv_ne v')
  | v :: vs, [], _, _, h => by
    have : uv v ++ uvs vs = [] := h
    exact absurd (List.append_eq_nil_iff.1 this).1 (uv_ne v)
  | v :: vs, v' :: vs', h1, h2, h => by
    have h3 : uv v ++ uvs vs = uv v' ++ uvs vs' := h
    have a1 := h1 v (by simp)
    have a2 := h2 v' (by simp)
    have := uvar_inj 9 a1.1 (u64_pow a1) a2.1 (u64_pow a2) h3
    rw [this.1, uvs_inj (fun x hx => h1 x (List.mem_cons_of_mem _ hx)) (fun x hx => h2 x (List.mem_cons_of_mem _ hx)) this.2]

theorem w64 {x : Int} (h : u64r x) : IntKind.wrap .u64 x = x := by
  have h1 := h.1
  have h2 := h.2
  simp [IntKind.wrap, IntKind.bits, IntKind.signed]; omega

theorem w64_inj {x y : Int} (hx : u64r x) (hy : u64r y) (h : IntKind.wrap .u64 x = IntKind.wrap .u64 y) : x = y := by
  rwa [w64 hx, w64 hy] at h

def rfR (r : Rf) : Prop := (0 ≤ r.idx ∧ r.idx ≤ 65535) ∧ (0 ≤ r.gen ∧ r.gen < 4294967296)

theorem pack_eq {r : Rf} (h : rfR r) : packP r = r.gen * 65536 + r.idx := by
  obtain ⟨⟨h1, h2⟩, h3, h4⟩ := h
  obtain ⟨i, hi⟩ := Int.eq_ofNat_of_zero_le h1
  obtain ⟨g, hg⟩ := Int.eq_ofNat_of_zero_le h3
  unfold packP
  rw [w64 ⟨by omega, by omega⟩, w64 ⟨by omega, by omega⟩]
  have e1 : shlI .u64 r.gen 16 = ((g * 65536 : Nat) : Int) := by
    unfold shlI
    rw [show (min (16 : Int).toNat (IntKind.bits .u64)) = 16 by decide, hg]
    rw [show ((g : Int) * 2 ^ 16 : Int) = ((g * 65536 : Nat) : Int) by simp]
    rw [w64 ⟨by omega, by omega⟩]
  rw [e1, hi]
  unfold bitI
  dsimp only
  have hgb : g < 4294967296 := by omega
  have hib : i ≤ 65535 := by omega
  have e2 : (BitVec.ofInt (IntKind.bits .u64) ((g * 65536 : Nat) : Int) ||| BitVec.ofInt (IntKind.bits .u64) ((i : Nat) : Int)).toNat = g * 65536 + i := by
    rw [BitVec.toNat_or]
    have a1 : (BitVec.ofInt (IntKind.bits .u64) ((g * 65536 : Nat) : Int)).toNat = g * 65536 := by
      rw [BitVec.ofInt_natCast, BitVec.toNat_ofNat]
      show g * 65536 % 2 ^ 64 = _
      omega
    have a2 : (BitVec.ofInt (IntKind.bits .u64) ((i : Nat) : Int)).toNat = i := by
      rw [BitVec.ofInt_natCast, BitVec.toNat_ofNat]
      show i % 2 ^ 64 = _
      omega
    rw [a1, a2]
    have := Nat.shiftLeft_add_eq_or_of_lt (b := i) (i := 16) (by omega) g
    rw [Nat.shiftLeft_eq] at this
    exact this.symm
  rw [e2, w64 ⟨by omega, by omega⟩]
  rw [hg]
  simp

theorem pack_inj {r s : Rf} (hr : rfR r) (hs : rfR s) (h : packP r = packP s) : r = s := by
  rw [pack_eq hr, pack_eq hs] at h
  obtain ⟨⟨a1, a2⟩, a3, a4⟩ := hr
  obtain ⟨⟨b1, b2⟩, b3, b4⟩ := hs
  cases r; cases s
  simp only [Rf.mk.injEq] at *
  omega

theorem flag_inj {a b : Bool} (h : flagP a = flagP b) : a = b := by
  cases a <;> cases b <;> first | rfl | (simp [flagP] at h)

/-! Rows that name themselves -/

def Named (f : Nat → List Int) (m : Nat) (i : Nat) : Prop := f i = [] ∨ ∃ t, f i = (i : Int) :: t ∧ t.length = m

theorem row_head {f : Nat → List Int} {m : Nat} {N : Int} {r : List Int} : ∀ (k n : Nat), (∀ i, n ≤ i → i < n + k → Named f m i) → ((n + k : Nat) : Int) ≤ N → ∃ h t, (List.range' n k).flatMap f ++ (N :: r) = h :: t ∧ (n : Int) ≤ h
  | 0, n, _, hN => ⟨N, r, by simp, by omega⟩
  | k + 1, n, hf, hN => by
    rw [List.range'_succ, List.flatMap_cons]
    rcases hf n (Nat.le_refl _) (by omega) with h | ⟨t, h, _⟩
    · rw [h, List.nil_append]
      obtain ⟨x, t, h1, h2⟩ := row_head (f := f) (m := m) (N := N) (r := r) k (n + 1) (fun i h1 h2 => hf i (by omega) (by omega)) (by omega)
      exact ⟨x, t, h1, by omega⟩
    · rw [h]
      exact ⟨(n : Int), _, rfl, Int.le_refl _⟩

theorem row_inj {f f' : Nat → List Int} {m : Nat} {N : Int} {r r' : List Int} : ∀ (k n : Nat), (∀ i, n ≤ i → i < n + k → Named f m i) → (∀ i, n ≤ i → i < n + k → Named f' m i) → ((n + k : Nat) : Int) ≤ N →
    (List.range' n k).flatMap f ++ (N :: r) = (List.range' n k).flatMap f' ++ (N :: r') → (∀ i, n ≤ i → i < n + k → f i = f' i) ∧ r = r'
  | 0, n, _, _, _, h => ⟨fun i h1 h2 => by omega, by simpa using h⟩
  | k + 1, n, hf, hf', hN, h => by
    rw [List.range'_succ, List.flatMap_cons, List.flatMap_cons, List.append_assoc, List.append_assoc] at h
    have g := hf n (Nat.le_refl _) (by omega)
    have g' := hf' n (Nat.le_refl _) (by omega)
    have hh := row_head (f := f) (m := m) (N := N) (r := r) k (n + 1) (fun i h1 h2 => hf i (by omega) (by omega)) (by omega)
    have hh' := row_head (f := f') (m := m) (N := N) (r := r') k (n + 1) (fun i h1 h2 => hf' i (by omega) (by omega)) (by omega)
    have fin : f n = f' n → (List.range' (n + 1) k).flatMap f ++ (N :: r) = (List.range' (n + 1) k).flatMap f' ++ (N :: r') → (∀ i, n ≤ i → i < n + (k + 1) → f i = f' i) ∧ r = r' := by
      intro e1 e2
      have := row_inj (f := f) (f' := f') (m := m) k (n + 1) (fun i h1 h2 => hf i (by omega) (by omega)) (fun i h1 h2 => hf' i (by omega) (by omega)) (by omega) e2
      refine ⟨fun i h1 h2 => ?_, this.2⟩
      by_cases e : i = n
      · subst e; exact e1
      · exact this.1 i (by omega) (by omega)
    rcases g with g | ⟨t, g, gl⟩
    · rcases g' with g' | ⟨t', g', gl'⟩
      · rw [g, g', List.nil_append, List.nil_append] at h
        exact fin (by rw [g, g']) h
      · rw [g, g', List.nil_append] at h
        obtain ⟨x, y, h1, h2⟩ := hh
        rw [h1] at h
        simp only [List.cons_append, List.cons.injEq] at h
        omega
    · rcases g' with g' | ⟨t', g', gl'⟩
      · rw [g, g', List.nil_append] at h
        obtain ⟨x, y, h1, h2⟩ := hh'
        rw [h1] at h
        simp only [List.cons_append, List.cons.injEq] at h
        omega
      · rw [g, g'] at h
        simp only [List.cons_append, List.cons.injEq, true_and] at h
        have := List.append_inj h (by rw [gl, gl'])
        exact fin (by rw [g, g', this.1]) this.2

theorem ents_flat (E : Nat → Ent) : ∀ n, entsN E n = (List.range' 0 n).flatMap (fun (i : Nat) => entN (i : Int) (E i))
  | 0 => rfl
  | n + 1 => by rw [entsN, ents_flat E n, List.range'_concat, List.flatMap_append]; simp

theorem cels_flat (C : CP) : ∀ n, celsN C n = (List.range' 0 n).flatMap (fun (i : Nat) => if C.pres (i / 16) = true then celN (i : Int) (C.cel i) else [])
  | 0 => rfl
  | n + 1 => by rw [celsN, cels_flat C n, List.range'_concat, List.flatMap_append]; simp

def entR (e : Ent) : Prop := u64r e.ty ∧ u64r e.gen
def celR (c : Cel) : Prop := u64r c.cap.ty ∧ rfR c.cap.obj ∧ u64r c.cap.rights ∧ -1 ≤ c.parent ∧ c.parent < 4096

theorem entN_inj {i : Nat} {e e' : Ent} (h : entR e) (h' : entR e') (he : entN (i : Int) e = entN (i : Int) e') : e = e' := by
  unfold entN at he
  split at he
  · rename_i h1
    split at he
    · rename_i h2; rw [h1, h2]
    · cases he
  · split at he
    · cases he
    · simp only [List.cons.injEq, and_true] at he
      have a := w64_inj h.1 h'.1 he.2.1
      have b := w64_inj h.2 h'.2 he.2.2.1
      cases e; cases e'
      simp only [Ent.mk.injEq] at *
      exact ⟨a, b, he.2.2.2.1, he.2.2.2.2⟩

theorem par_inj {p p' : Int} (h : -1 ≤ p ∧ p < 4096) (h' : -1 ≤ p' ∧ p' < 4096) (he : IntKind.wrap .u64 (IntKind.wrap .i64 (p + 1)) = IntKind.wrap .u64 (IntKind.wrap .i64 (p' + 1))) : p = p' := by
  simp [IntKind.wrap, IntKind.bits, IntKind.signed] at he; omega

theorem celN_inj {i : Nat} {c c' : Cel} (h : c.cap.ty ≠ 0) (hr : celR c) (hr' : c'.cap.ty ≠ 0 → celR c') (he : celN (i : Int) c = celN (i : Int) c') : c = c' := by
  unfold celN at he
  rw [if_neg h] at he
  split at he
  · cases he
  · rename_i h2
    have r' := hr' h2
    simp only [List.cons.injEq, and_true] at he
    have a := w64_inj hr.1 r'.1 he.2.1
    have b := pack_inj hr.2.1 r'.2.1 he.2.2.1
    have d := w64_inj hr.2.2.1 r'.2.2.1 he.2.2.2.1
    have p := par_inj hr.2.2.2 r'.2.2.2 he.2.2.2.2.2
    obtain ⟨⟨t, o, ri, ba⟩, pa⟩ := c
    obtain ⟨⟨t', o', ri', ba'⟩, pa'⟩ := c'
    simp only [Cel.mk.injEq, Cp.mk.injEq] at *
    exact ⟨⟨a, b, d, he.2.2.2.2.1⟩, p⟩

theorem wn {n : Nat} (h : n < 18446744073709551616) : IntKind.wrap .u64 (n : Int) = (n : Int) := w64 ⟨by omega, by omega⟩

theorem store_inj {E E' : Nat → Ent} {r r' : List Int} (h : ∀ i, i < 257 → entR (E i)) (h' : ∀ i, i < 257 → entR (E' i)) (he : storeN E ++ r = storeN E' ++ r') : (∀ i, i < 257 → E i = E' i) ∧ r = r' := by
  unfold storeN at he
  rw [ents_flat, ents_flat, List.append_assoc, List.append_assoc] at he
  have nm : ∀ (F : Nat → Ent) (i : Nat), i < 257 → Named (fun (i : Nat) => entN (i : Int) (F i)) 4 i := by
    intro F i hi
    unfold Named
    dsimp only
    unfold entN
    split
    · exact .inl rfl
    · exact .inr ⟨_, by rw [wn (by omega)], rfl⟩
  have := row_inj (f := fun (i : Nat) => entN (i : Int) (E i)) (f' := fun (i : Nat) => entN (i : Int) (E' i)) (m := 4) (N := 257) (r := r) (r' := r') 257 0 (fun i _ hi => nm E i (by omega)) (fun i _ hi => nm E' i (by omega)) (by decide) he
  exact ⟨fun i hi => entN_inj (h i hi) (h' i hi) (this.1 i (by omega) (by omega)), this.2⟩

theorem space_inj {C C' : CP} {r r' : List Int} (hp : ∀ i, i < 256 → C.pres i = C'.pres i) (h : ∀ s, Full C s → celR (C.cel s)) (h' : ∀ s, Full C' s → celR (C'.cel s)) (he : spaceN C ++ r = spaceN C' ++ r') : (∀ s, Full C s ↔ Full C' s) ∧ (∀ s, Full C s → C.cel s = C'.cel s) ∧ r = r' := by
  unfold spaceN at he
  rw [cels_flat, cels_flat, List.append_assoc, List.append_assoc] at he
  have nm : ∀ (D : CP) (i : Nat), i < 4096 → Named (fun (i : Nat) => if D.pres (i / 16) = true then celN (i : Int) (D.cel i) else []) 5 i := by
    intro D i hi
    unfold Named
    dsimp only
    split
    · unfold celN
      split
      · exact .inl rfl
      · exact .inr ⟨_, by rw [wn (by omega)], rfl⟩
    · exact .inl rfl
  have := row_inj (m := 5) (N := 4096) (r := r) (r' := r') 4096 0 (fun i _ hi => nm C i (by omega)) (fun i _ hi => nm C' i (by omega)) (by decide) he
  have key : ∀ s, Full C s → Full C' s ∧ C.cel s = C'.cel s := by
    intro s hs
    have e := this.1 s (by omega) (by have := hs.1; omega)
    have hs1 := hs.1
    have hp' : C'.pres (s / 16) = true := by rw [← hp _ (by omega)]; exact hs.2.1
    rw [if_pos hs.2.1, if_pos hp'] at e
    have ec := celN_inj hs.2.2 (h s hs) (fun hz => h' s ⟨hs1, hp', hz⟩) e
    exact ⟨⟨hs1, hp', by rw [← ec]; exact hs.2.2⟩, ec⟩
  have key' : ∀ s, Full C' s → Full C s := by
    intro s hs
    have e := this.1 s (by omega) (by have := hs.1; omega)
    have hs1 := hs.1
    have hp' : C.pres (s / 16) = true := by rw [hp _ (by omega)]; exact hs.2.1
    rw [if_pos hs.2.1, if_pos hp'] at e
    have ec := celN_inj hs.2.2 (h' s hs) (fun hz => h s ⟨hs1, hp', hz⟩) e.symm
    exact ⟨hs1, hp', by rw [← ec]; exact hs.2.2⟩
  exact ⟨fun s => ⟨fun q => (key s q).1, key' s⟩, fun s q => (key s q).2, this.2⟩

/-! Rows that tell their length -/

theorem nat_map_inj : ∀ {xs ys : List Nat}, (∀ x ∈ xs, x < 256) → (∀ y ∈ ys, y < 256) → xs.map (fun (x : Nat) => IntKind.wrap .u64 (x : Int)) = ys.map (fun (x : Nat) => IntKind.wrap .u64 (x : Int)) → xs = ys
  | [], [], _, _, _ => rfl
  | [], _ :: _, _, _, h => by cases h
  | _ :: _, [], _, _, h => by cases h
  | x :: xs, y :: ys, h1, h2, h => by
    simp only [List.map_cons, List.cons.injEq] at h
    have a := h1 x (by simp)
    have b := h2 y (by simp)
    rw [wn (by omega), wn (by omega)] at h
    rw [show x = y by omega, nat_map_inj (fun z hz => h1 z (List.mem_cons_of_mem _ hz)) (fun z hz => h2 z (List.mem_cons_of_mem _ hz)) h.2]

theorem mem_inj {xs ys : List Nat} {r r' : List Int} (hx : ∀ x ∈ xs, x < 256) (hy : ∀ y ∈ ys, y < 256) (lx : xs.length ≤ 256) (ly : ys.length ≤ 256) (h : memN (xs.length : Int) xs ++ r = memN (ys.length : Int) ys ++ r') : xs = ys ∧ r = r' := by
  unfold memN at h
  simp only [List.cons_append, List.cons.injEq] at h
  rw [wn (by omega), wn (by omega)] at h
  have := List.append_inj h.2 (by simp; omega)
  exact ⟨nat_map_inj hx hy this.1, this.2⟩

structure TR (x : Tcb) : Prop where
  st : u64r x.st
  prio : u64r x.prio
  wait : rfR x.wait
  cs : rfR x.cs
  rep : rfR x.rep
  len : u64r x.len
  got : u64r x.got
  xfer : u64r x.xfer
  dst : u64r x.dst

theorem thr_inj {x y : Tcb} (hx : TR x) (hy : TR y) (h : thrA x ++ thrB x = thrA y ++ thrB y) : unl x = unl y := by
  unfold thrA thrB at h
  simp only [List.cons_append, List.nil_append, List.cons.injEq, and_true] at h
  obtain ⟨h1, h2, h3, h4, h5, h6, h7, h8, h9, h10, h11, h12, h13, h14, h15, h16⟩ := h
  have a1 := w64_inj hx.st hy.st h1
  have a2 := w64_inj hx.prio hy.prio h2
  have a3 := pack_inj hx.wait hy.wait h3
  have a4 := pack_inj hx.cs hy.cs h4
  have a5 := pack_inj hx.rep hy.rep h5
  have a7 := w64_inj hx.len hy.len h7
  have a8 := w64_inj hx.got hy.got h8
  have a9 := w64_inj hx.xfer hy.xfer h9
  have a10 := w64_inj hx.dst hy.dst h10
  have a11 := flag_inj h11
  have a12 := flag_inj h12
  unfold unl
  cases x; cases y
  simp only [Tcb.mk.injEq] at *
  exact ⟨a1, a2, a3, a4, a5, h6, h13, h14, h15, h16, a7, a8, a9, a10, a11, a12, trivial, trivial⟩

/-! The state without links, as numbers -/

def slotB (a : AK) (E : Nat → Ent) (i : Nat) : List Int :=
  if (E i).ty = 3 then thrA (a.th i) ++ thrB (a.th i)
  else if (E i).ty = 4 ∨ (E i).ty = 5 then [a.word i] ++ memN ((a.q (.w i)).length : Int) (a.q (.w i)) else []
def slotsB (a : AK) (E : Nat → Ent) (n : Nat) : List Int := (List.range' 0 n).flatMap (slotB a E)
def rdysB (a : AK) (n : Nat) : List Int := (List.range' 0 n).flatMap (fun p => memN ((a.q (.r p)).length : Int) (a.q (.r p)))
def irqsB (a : AK) (n : Nat) : List Int := (List.range' 0 n).flatMap (fun l => irqN (a.irq l))
def headB (a : AK) : List Int := [IntKind.wrap .u64 (IntKind.wrap .i16 (a.cur + 1)), a.now]
def bytesB (a : AK) (C : CP) : List Int := storeN C.ent ++ (spaceN C ++ (headB a ++ (slotsB a C.ent 256 ++ (rdysB a 8 ++ irqsB a 16))))

section
variable {S : KP} {a : AK}

theorem Abs.slots (h : Abs S a) (E : Nat → Ent) : ∀ n, n ≤ 256 → slotsN S a.q E n = slotsB a E n
  | 0, _ => rfl
  | n + 1, hn => by
    unfold slotsB
    rw [slotsN, Abs.slots h E n (by omega), List.range'_concat, List.flatMap_append]
    congr 1
    simp only [List.flatMap_cons, List.flatMap_nil, List.append_nil]
    rw [show 0 + 1 * n = n by omega]
    unfold slotN slotB
    have e1 : thrA (a.th n) = thrA (S.tcb n) := by rw [h.th n (by omega)]; rfl
    have e2 : thrB (a.th n) = thrB (S.tcb n) := by rw [h.th n (by omega)]; rfl
    have e3 : (S.wq n).n = ((a.q (.w n)).length : Int) := (h.li.lx.ch (L := .w n) (show n < 256 by omega)).n
    rw [e1, e2, e3, h.wd n (by omega)]

theorem Abs.rdys (h : Abs S a) : ∀ n, n ≤ 8 → rdysN S a.q n = rdysB a n
  | 0, _ => rfl
  | n + 1, hn => by
    unfold rdysB
    rw [rdysN, Abs.rdys h n (by omega), List.range'_concat, List.flatMap_append]
    congr 1
    simp only [List.flatMap_cons, List.flatMap_nil, List.append_nil]
    rw [show 0 + 1 * n = n by omega]
    have e3 : (S.rdy n).n = ((a.q (.r n)).length : Int) := (h.li.lx.ch (L := .r n) (show n < 8 by omega)).n
    rw [e3]

theorem Abs.irqs (h : Abs S a) : ∀ n, n ≤ 16 → irqsN S n = irqsB a n
  | 0, _ => rfl
  | n + 1, hn => by
    unfold irqsB
    rw [irqsN, Abs.irqs h n (by omega), List.range'_concat, List.flatMap_append]
    congr 1
    simp only [List.flatMap_cons, List.flatMap_nil, List.append_nil]
    rw [show 0 + 1 * n = n by omega, h.ir n (by omega)]

theorem Abs.bytes (h : Abs S a) (C : CP) : bytesN S a.q C = bytesB a C := by
  unfold bytesN bytesB
  rw [h.slots C.ent 256 (Nat.le_refl _), h.rdys 8 (Nat.le_refl _), h.irqs 16 (Nat.le_refl _)]
  unfold headN headB
  rw [h.cu, h.nw]

end

/-! What the numbers tell -/

structure BR (a : AK) (C : CP) : Prop where
  e : ∀ i, i < 257 → entR (C.ent i)
  c : ∀ s, Full C s → celR (C.cel s)
  t : ∀ i, i < 256 → TR (a.th i) ∧ unl (a.th i) = a.th i
  i : ∀ l, l < 16 → rfR (a.irq l).ntfn
  cu : lk a.cur
  q : ∀ L, L.ok → (∀ x ∈ a.q L, x < 256) ∧ (a.q L).length ≤ 256
  nd : ∀ i, i < 256 → ((C.ent i).ty = 2 ↔ C.pres i = true)
  z : ∀ i, i < 256 → (C.ent i).ty ≠ 3 → a.th i = unl noT
  wz : ∀ i, i < 256 → (C.ent i).ty ≠ 5 → a.word i = 0
  qz : ∀ i, i < 256 → (C.ent i).ty ≠ 4 → (C.ent i).ty ≠ 5 → a.q (.w i) = []

theorem slots_inj {a a' : AK} {E : Nat → Ent} {r r' : List Int} (ht : ∀ i, i < 256 → TR (a.th i) ∧ unl (a.th i) = a.th i) (ht' : ∀ i, i < 256 → TR (a'.th i) ∧ unl (a'.th i) = a'.th i)
    (hq : ∀ L, L.ok → (∀ x ∈ a.q L, x < 256) ∧ (a.q L).length ≤ 256) (hq' : ∀ L, L.ok → (∀ x ∈ a'.q L, x < 256) ∧ (a'.q L).length ≤ 256) :
    ∀ (k n : Nat), n + k ≤ 256 → (List.range' n k).flatMap (slotB a E) ++ r = (List.range' n k).flatMap (slotB a' E) ++ r' → (∀ i, n ≤ i → i < n + k → ((E i).ty = 3 → a.th i = a'.th i) ∧ ((E i).ty = 4 ∨ (E i).ty = 5 → a.word i = a'.word i ∧ a.q (.w i) = a'.q (.w i))) ∧ r = r'
  | 0, n, _, h => ⟨fun i h1 h2 => by omega, by simpa using h⟩
  | k + 1, n, hn, h => by
    rw [List.range'_succ, List.flatMap_cons, List.flatMap_cons, List.append_assoc, List.append_assoc] at h
    have key : (((E n).ty = 3 → a.th n = a'.th n) ∧ ((E n).ty = 4 ∨ (E n).ty = 5 → a.word n = a'.word n ∧ a.q (.w n) = a'.q (.w n))) ∧ (List.range' (n + 1) k).flatMap (slotB a E) ++ r = (List.range' (n + 1) k).flatMap (slotB a' E) ++ r' := by
      unfold slotB at h
      by_cases e3 : (E n).ty = 3
      · rw [if_pos e3, if_pos e3] at h
        have := List.append_inj h (by simp [thrA, thrB])
        have g := ht n (by omega)
        have g' := ht' n (by omega)
        refine ⟨⟨fun _ => ?_, fun hz => by omega⟩, this.2⟩
        rw [← g.2, ← g'.2]
        exact thr_inj g.1 g'.1 this.1
      · rw [if_neg e3, if_neg e3] at h
        by_cases e4 : (E n).ty = 4 ∨ (E n).ty = 5
        · rw [if_pos e4, if_pos e4, List.append_assoc, List.append_assoc] at h
          simp only [List.cons_append, List.nil_append, List.cons.injEq] at h
          have g := hq (.w n) (show n < 256 by omega)
          have g' := hq' (.w n) (show n < 256 by omega)
          have := mem_inj g.1 g'.1 g.2 g'.2 h.2
          exact ⟨⟨fun hz => absurd hz e3, fun _ => ⟨h.1, this.1⟩⟩, this.2⟩
        · rw [if_neg e4, if_neg e4, List.nil_append, List.nil_append] at h
          exact ⟨⟨fun hz => absurd hz e3, fun hz => absurd hz e4⟩, h⟩
    have ih := slots_inj ht ht' hq hq' k (n + 1) (by omega) key.2
    refine ⟨fun i h1 h2 => ?_, ih.2⟩
    by_cases e : i = n
    · subst e; exact key.1
    · exact ih.1 i (by omega) (by omega)

theorem rdys_inj {a a' : AK} {r r' : List Int} (hq : ∀ L, L.ok → (∀ x ∈ a.q L, x < 256) ∧ (a.q L).length ≤ 256) (hq' : ∀ L, L.ok → (∀ x ∈ a'.q L, x < 256) ∧ (a'.q L).length ≤ 256) :
    ∀ (k n : Nat), n + k ≤ 8 → (List.range' n k).flatMap (fun p => memN ((a.q (.r p)).length : Int) (a.q (.r p))) ++ r = (List.range' n k).flatMap (fun p => memN ((a'.q (.r p)).length : Int) (a'.q (.r p))) ++ r' → (∀ i, n ≤ i → i < n + k → a.q (.r i) = a'.q (.r i)) ∧ r = r'
  | 0, n, _, h => ⟨fun i h1 h2 => by omega, by simpa using h⟩
  | k + 1, n, hn, h => by
    rw [List.range'_succ, List.flatMap_cons, List.flatMap_cons, List.append_assoc, List.append_assoc] at h
    have g := hq (.r n) (show n < 8 by omega)
    have g' := hq' (.r n) (show n < 8 by omega)
    have key := mem_inj g.1 g'.1 g.2 g'.2 h
    have ih := rdys_inj hq hq' k (n + 1) (by omega) key.2
    refine ⟨fun i h1 h2 => ?_, ih.2⟩
    by_cases e : i = n
    · subst e; exact key.1
    · exact ih.1 i (by omega) (by omega)

theorem irqs_inj {a a' : AK} (hi : ∀ l, l < 16 → rfR (a.irq l).ntfn) (hi' : ∀ l, l < 16 → rfR (a'.irq l).ntfn) :
    ∀ (k n : Nat), n + k ≤ 16 → (List.range' n k).flatMap (fun l => irqN (a.irq l)) = (List.range' n k).flatMap (fun l => irqN (a'.irq l)) → ∀ i, n ≤ i → i < n + k → a.irq i = a'.irq i
  | 0, n, _, h => fun i h1 h2 => by omega
  | k + 1, n, hn, h => by
    rw [List.range'_succ, List.flatMap_cons, List.flatMap_cons] at h
    have key := List.append_inj h (by simp [irqN])
    have ih := irqs_inj hi hi' k (n + 1) (by omega) key.2
    intro i h1 h2
    by_cases e : i = n
    · subst e
      have k1 := key.1
      unfold irqN at k1
      simp only [List.cons.injEq, and_true] at k1
      have b1 := pack_inj (hi i (by omega)) (hi' i (by omega)) k1.1
      have b3 := flag_inj k1.2.2
      have b2 := k1.2.1
      generalize a.irq i = p at *
      generalize a'.irq i = p' at *
      cases p; cases p'
      simp only [Irq.mk.injEq] at *
      exact ⟨b1, b2, b3⟩
    · exact ih i (by omega) (by omega)

theorem cur_inj {c c' : Int} (h : lk c) (h' : lk c') (he : IntKind.wrap .u64 (IntKind.wrap .i16 (c + 1)) = IntKind.wrap .u64 (IntKind.wrap .i16 (c' + 1))) : c = c' := by
  unfold lk at h h'
  simp [IntKind.wrap, IntKind.bits, IntKind.signed] at he; omega

/-- Same on what the bytes tell. -/
structure AEq (a a' : AK) : Prop where
  th : ∀ i, i < 256 → a.th i = a'.th i
  q : ∀ L, L.ok → a.q L = a'.q L
  wd : ∀ i, i < 256 → a.word i = a'.word i
  cu : a.cur = a'.cur
  ir : ∀ l, l < 16 → a.irq l = a'.irq l
  nw : a.now = a'.now

theorem bytesB_inj {a a' : AK} {C C' : CP} (h : BR a C) (h' : BR a' C') (he : bytesB a C = bytesB a' C') :
    AEq a a' ∧ (∀ i, i < 257 → C.ent i = C'.ent i) ∧ (∀ i, i < 256 → C.pres i = C'.pres i) ∧ (∀ s, Full C s ↔ Full C' s) ∧ (∀ s, Full C s → C.cel s = C'.cel s) := by
  unfold bytesB at he
  obtain ⟨e1, he⟩ := store_inj h.e h'.e he
  have ep : ∀ i, i < 256 → C.pres i = C'.pres i := by
    intro i hi
    have a1 := h.nd i hi
    have a2 := h'.nd i hi
    rw [e1 i (by omega)] at a1
    rw [a1] at a2
    cases hc : C.pres i <;> cases hc' : C'.pres i <;> simp_all
  obtain ⟨e2, e3, he⟩ := space_inj ep h.c h'.c he
  unfold headB at he
  simp only [List.cons_append, List.nil_append, List.cons.injEq] at he
  obtain ⟨e4, e5, he⟩ := he
  have ecur := cur_inj h.cu h'.cu e4
  have hE : slotsB a' C'.ent 256 = slotsB a' C.ent 256 := by
    unfold slotsB
    have : ∀ i ∈ List.range' 0 256, slotB a' C'.ent i = slotB a' C.ent i := by
      intro i hi
      rw [List.mem_range'_1] at hi
      unfold slotB
      rw [e1 i (by omega)]
    simp only [List.flatMap]
    rw [List.map_congr_left this]
  rw [hE] at he
  obtain ⟨e6, he⟩ := slots_inj h.t h'.t h.q h'.q 256 0 (by decide) he
  obtain ⟨e7, he⟩ := rdys_inj h.q h'.q 8 0 (by decide) he
  have e8 := irqs_inj h.i h'.i 16 0 (by decide) he
  refine ⟨⟨fun i hi => ?_, fun L hL => ?_, fun i hi => ?_, ecur, fun l hl => e8 l (by omega) (by omega), e5⟩, e1, ep, e2, e3⟩
  · by_cases e : (C.ent i).ty = 3
    · exact (e6 i (by omega) (by omega)).1 e
    · rw [h.z i hi e, h'.z i hi (by rw [← e1 i (by omega)]; exact e)]
  · cases L with
    | r p => exact e7 p (by omega) (by have : p < 8 := hL; omega)
    | w i =>
      have hi : i < 256 := hL
      by_cases e : (C.ent i).ty = 4 ∨ (C.ent i).ty = 5
      · exact ((e6 i (by omega) (by omega)).2 e).2
      · have e' : ¬ ((C'.ent i).ty = 4 ∨ (C'.ent i).ty = 5) := by rw [← e1 i (by omega)]; exact e
        rw [h.qz i hi (fun hq => e (.inl hq)) (fun hq => e (.inr hq)), h'.qz i hi (fun hq => e' (.inl hq)) (fun hq => e' (.inr hq))]
  · by_cases e : (C.ent i).ty = 5
    · exact ((e6 i (by omega) (by omega)).2 (.inr e)).1
    · rw [h.wz i hi e, h'.wz i hi (by rw [← e1 i (by omega)]; exact e)]

end Go.Kn
