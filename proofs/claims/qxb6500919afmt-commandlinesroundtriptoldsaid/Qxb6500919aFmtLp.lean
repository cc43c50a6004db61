/-
  The plain law of the command lines: what Format writes, Parse reads back; with a word too many it is refused.
-/
import Derived.Test.Qxb6500919aFmtV3
import Derived.Test.Qxb6500919aFmtL6
namespace Go.Rp
open Go.Sx Go.Lib Go.Proofs.Qxb6500919aFmt

/-! Numbers -/

theorem decDigits_num (u : Nat) : ∀ c ∈ decDigits u, 48 ≤ c.toNat ∧ c.toNat ≤ 57 := by
  induction u using Nat.strongRecOn with
  | _ u ih =>
    intro c hc
    rw [decDigits] at hc
    split at hc
    · rename_i h
      rcases List.mem_singleton.1 hc with rfl
      have : (UInt8.ofNat (48 + u)).toNat = 48 + u := by simp [UInt8.toNat_ofNat']; omega
      omega
    · rename_i h
      rcases List.mem_append.1 hc with hc | hc
      · exact ih (u / 10) (by omega) c hc
      · rcases List.mem_singleton.1 hc with rfl
        have : (UInt8.ofNat (48 + u % 10)).toNat = 48 + u % 10 := by simp [UInt8.toNat_ofNat']; omega
        omega

theorem decDigits_ne (u : Nat) : decDigits u ≠ [] := by
  rw [decDigits]; split <;> simp

theorem parseM_app (M : Nat) : ∀ (l : List UInt8) (acc a : Nat) (c : UInt8), parseUintM M acc l = .ok a → parseUintM M acc (l ++ [c]) = parseUintM M a [c]
  | [], acc, a, c, h => by simp [parseUintM] at h; subst h; rfl
  | b :: l, acc, a, c, h => by
    simp only [List.cons_append, parseUintM] at h ⊢
    split at h
    · rename_i hb
      rw [if_pos hb]
      split at h
      · cases h
      · rename_i h1
        rw [if_neg h1]
        split at h
        · cases h
        · rename_i h2
          rw [if_neg h2]
          exact parseM_app M l _ a c h
    · cases h

theorem parseM_dec (M : Nat) (hM : M ≤ 18446744073709551615) (u : Nat) (hu : u ≤ M) : parseUintM M 0 (decDigits u) = .ok u := by
  induction u using Nat.strongRecOn with
  | _ u ih =>
    have hd : ∀ d, d < 10 → (UInt8.ofNat (48 + d)).toNat = 48 + d := fun d hd => by simp [UInt8.toNat_ofNat']; omega
    rw [decDigits]
    split
    · rename_i h
      simp only [parseUintM, hd u h]
      rw [if_pos ⟨by omega, by omega⟩, if_neg (by omega), if_neg (by omega)]
      congr 1; omega
    · rename_i h
      rw [parseM_app M _ 0 (u / 10) _ (ih (u / 10) (by omega) (by omega))]
      simp only [parseUintM, hd (u % 10) (by omega)]
      rw [if_pos ⟨by omega, by omega⟩, if_neg (by omega), if_neg (by omega)]
      congr 1; omega

theorem parseB_dec (B : Nat) (hB : 2 ^ B - 1 ≤ 18446744073709551615) (u : Nat) (hu : u ≤ 2 ^ B - 1) : parseUintB B (decDigits u) = .ok u := by
  rw [parseUintB, if_neg (decDigits_ne u)]
  exact parseM_dec _ hB u hu

theorem numB_itoa (B : Nat) (hB : 2 ^ B - 1 ≤ 18446744073709551615) (n : Int) (h0 : 0 ≤ n) (h1 : n.toNat ≤ 2 ^ B - 1) : numB B (itoa n) = some n := by
  rw [itoa, if_neg (by omega)]
  rw [numB_ok (parseB_dec B hB n.toNat h1)]
  congr 1; omega

theorem numI_itoa (n : Int) (h0 : -9223372036854775808 ≤ n) (h1 : n ≤ 9223372036854775807) : numI (itoa n) = some n := by
  apply numI_ok
  have hp : ∀ u : Nat, u < 18446744073709551616 → parseMag (decDigits u) = .ok u := fun u hu => by
    rw [← parseUintB_64]; exact parseB_dec 64 (by decide) u (by simp only [Nat.reducePow, Nat.reduceSub]; omega)
  rw [itoa]
  split
  · rename_i h
    simp only [atoiAll]
    rw [if_pos (.inr (by decide)), hp _ (by omega)]
    simp only
    rw [if_neg (fun hq => hq.1 rfl), if_neg (fun hq => by have := hq.2; omega), if_pos (by decide)]
    congr 1; omega
  · rename_i h
    cases hc : decDigits n.toNat with
    | nil => exact absurd hc (decDigits_ne _)
    | cons c r =>
      have hn := decDigits_num n.toNat c (by rw [hc]; simp)
      simp only [atoiAll]
      rw [if_neg (by omega), ← hc, hp _ (by omega)]
      simp only
      rw [if_neg (by omega), if_neg (by omega), if_neg (by omega)]
      congr 1; omega

/-! Words -/

def NoSp (x : List UInt8) : Prop := x ≠ [] ∧ ∀ c ∈ x, isSp c = false

theorem fgo_word : ∀ (x cur rest : List UInt8), (∀ c ∈ x, isSp c = false) → fieldsGo cur (x ++ rest) = fieldsGo (cur ++ x) rest
  | [], cur, rest, _ => by simp
  | b :: x, cur, rest, h => by
    have hb := h b (by simp)
    simp only [List.cons_append, fieldsGo, hb, Bool.false_eq_true, if_false]
    rw [fgo_word x (cur ++ [b]) rest (fun c hc => h c (List.mem_cons_of_mem _ hc))]
    simp

theorem fgo_sp {cur rest : List UInt8} (h : cur ≠ []) : fieldsGo cur (32 :: rest) = cur :: fieldsGo [] rest := by
  have : cur.isEmpty = false := by cases cur; exact absurd rfl h; rfl
  simp [fieldsGo, this, show isSp 32 = true from rfl]

theorem fgo_end {cur : List UInt8} (h : cur ≠ []) : fieldsGo cur [] = [cur] := by
  have : cur.isEmpty = false := by cases cur; exact absurd rfl h; rfl
  simp [fieldsGo, this]

theorem fields_one {a : List UInt8} (ha : NoSp a) : fields a = [a] := by
  have := fgo_word a [] [] ha.2
  rw [List.append_nil, List.nil_append, fgo_end ha.1] at this
  exact this

theorem fields_more {a : List UInt8} (ha : NoSp a) (r : List UInt8) : fields (a ++ 32 :: r) = a :: fields r := by
  unfold fields
  rw [fgo_word a [] _ ha.2, List.nil_append, fgo_sp ha.1]

theorem fgo_last : ∀ (l cur : List UInt8), fieldsGo cur (l ++ [32, 48]) = fieldsGo cur l ++ [[48]]
  | [], cur => by
    cases cur with
    | nil => rfl
    | cons a t => simp [fieldsGo, show isSp 32 = true from rfl, show isSp 48 = false from rfl]
  | b :: l, cur => by
    simp only [List.cons_append, fieldsGo]
    split
    · split
      · exact fgo_last l []
      · rw [fgo_last l [], List.cons_append]
    · exact fgo_last l (cur ++ [b])

theorem parse_more {l : List UInt8} {op : Opn} (h : parseP l = some op) : parseP (l ++ [32, 48]) = none := by
  unfold parseP at h ⊢
  have hf : fields (l ++ [32, 48]) = fields l ++ [[48]] := fgo_last l []
  rw [hf]
  cases hw : fields l with
  | nil => rw [hw] at h; cases h
  | cons x xs =>
    rw [hw] at h
    simp only [List.cons_append] at h ⊢
    split at h
    · cases h
    · rename_i hk
      rw [if_neg hk]
      apply parseW_none
      have : xs.length = verbN (kindP 9 x) := by
        rcases Nat.lt_or_ge 0 1 with _ | hq
        · apply Classical.byContradiction
          intro hne
          rw [parseW_none hne] at h
          cases h
        · omega
      simp; omega

theorem noSp_itoa (n : Int) : NoSp (itoa n) := by
  have hd : ∀ u, ∀ c ∈ decDigits u, isSp c = false := fun u c hc => by
    have h := decDigits_num u c hc
    have h9 : c ≠ 9 := by rintro rfl; revert h; decide
    have h10 : c ≠ 10 := by rintro rfl; revert h; decide
    have h11 : c ≠ 11 := by rintro rfl; revert h; decide
    have h12 : c ≠ 12 := by rintro rfl; revert h; decide
    have h13 : c ≠ 13 := by rintro rfl; revert h; decide
    have h32 : c ≠ 32 := by rintro rfl; revert h; decide
    simp [isSp, h9, h10, h11, h12, h13, h32]
  unfold itoa NoSp
  split
  · refine ⟨by simp, fun c hc => ?_⟩
    rcases List.mem_cons.1 hc with rfl | hc
    · rfl
    · exact hd _ c hc
  · exact ⟨decDigits_ne _, hd _⟩

theorem noSp_verb {k : Nat} (hk : k < 9) : NoSp (verbW k) := by
  match k, hk with
  | 0, _ => exact ⟨by decide, by decide⟩
  | 1, _ => exact ⟨by decide, by decide⟩
  | 2, _ => exact ⟨by decide, by decide⟩
  | 3, _ => exact ⟨by decide, by decide⟩
  | 4, _ => exact ⟨by decide, by decide⟩
  | 5, _ => exact ⟨by decide, by decide⟩
  | 6, _ => exact ⟨by decide, by decide⟩
  | 7, _ => exact ⟨by decide, by decide⟩
  | 8, _ => exact ⟨by decide, by decide⟩
  | n + 9, h => omega

theorem kindP_verb {k : Nat} (hk : k < 9) : kindP 9 (verbW k) = k := by
  match k, hk with
  | 0, _ => rfl
  | 1, _ => rfl
  | 2, _ => rfl
  | 3, _ => rfl
  | 4, _ => rfl
  | 5, _ => rfl
  | 6, _ => rfl
  | 7, _ => rfl
  | 8, _ => rfl
  | n + 9, h => omega

theorem parse_of {l : List UInt8} {k : Nat} (hk : k < 9) {xs : List (List UInt8)} (h : fields l = verbW k :: xs) : parseP l = parseW k xs := by
  unfold parseP
  rw [h]
  simp only
  rw [kindP_verb hk, if_neg (by omega)]

theorem parse_fmt (op : Opn) (hop : op.ok) (hk : op.kind < 9) (hn0 : -9223372036854775808 ≤ op.n) (hn1 : op.n ≤ 9223372036854775807) (hm0 : -9223372036854775808 ≤ op.m) (hm1 : op.m ≤ 9223372036854775807) : parseP (fmtP op) = some (plainP op) := by
  obtain ⟨k, n, m, e⟩ := op
  obtain ⟨a, b, c⟩ := e
  obtain ⟨⟨h0, h1⟩, ⟨ha0, ha1⟩, ⟨hb0, hb1⟩, ⟨hc0, hc1⟩⟩ := hop
  simp only at *
  have hI := numI_itoa n hn0 hn1
  have hJ := numI_itoa m hm0 hm1
  have one : ∀ j : Nat, j < 9 → verbN j = 1 → parseP (verbW j ++ ([32] ++ itoa n)) = some ⟨j, n, 0, ⟨0, 0, 0⟩⟩ := fun j hj hv => by
    rw [parse_of hj (xs := [itoa n]) (by rw [List.singleton_append, fields_more (noSp_verb hj), fields_one (noSp_itoa n)])]
    simp [parseW, hv, hI]
  have zero : ∀ j : Nat, j < 9 → verbN j = 0 → parseP (verbW j) = some ⟨j, 0, 0, ⟨0, 0, 0⟩⟩ := fun j hj hv => by
    rw [parse_of hj (xs := []) (fields_one (noSp_verb hj))]
    simp [parseW, hv]
  rcases (show k = 0 ∨ k = 1 ∨ k = 2 ∨ k = 3 ∨ k = 4 ∨ k = 5 ∨ k = 6 ∨ k = 7 ∨ k = 8 by omega) with rfl | rfl | rfl | rfl | rfl | rfl | rfl | rfl | rfl
  · show parseP (verbW 0 ++ ([32] ++ itoa a ++ [32] ++ itoa b ++ [32] ++ itoa c)) = some ⟨0, 0, 0, ⟨a, b, c⟩⟩
    rw [parse_of (k := 0) (by decide) (xs := [itoa a, itoa b, itoa c]) (by
      rw [show [32] ++ itoa a ++ [32] ++ itoa b ++ [32] ++ itoa c = 32 :: (itoa a ++ 32 :: (itoa b ++ 32 :: itoa c)) by simp]
      rw [fields_more (noSp_verb (by decide)), fields_more (noSp_itoa a), fields_more (noSp_itoa b), fields_one (noSp_itoa c)])]
    have e1 := numB_itoa 8 (by decide) a ha0 (by simp only [Nat.reducePow, Nat.reduceSub]; omega)
    have e2 := numB_itoa 32 (by decide) b hb0 (by simp only [Nat.reducePow, Nat.reduceSub]; omega)
    have e3 := numB_itoa 64 (by decide) c hc0 (by simp only [Nat.reducePow, Nat.reduceSub]; omega)
    simp [parseW, verbN, e1, e2, e3]
  · exact one 1 (by decide) rfl
  · exact one 2 (by decide) rfl
  · exact one 3 (by decide) rfl
  · exact one 4 (by decide) rfl
  · exact zero 5 (by decide) rfl
  · exact one 6 (by decide) rfl
  · show parseP (verbW 7 ++ ([32] ++ itoa n ++ [32] ++ itoa m)) = some ⟨7, n, m, ⟨0, 0, 0⟩⟩
    rw [parse_of (k := 7) (by decide) (xs := [itoa n, itoa m]) (by
      rw [show [32] ++ itoa n ++ [32] ++ itoa m = 32 :: (itoa n ++ 32 :: itoa m) by simp]
      rw [fields_more (noSp_verb (by decide)), fields_more (noSp_itoa n), fields_one (noSp_itoa m)])]
    simp [parseW, verbN, hI, hJ]
  · exact zero 8 (by decide) rfl

/-! The line's bytes -/

def Asc (x : List UInt8) : Prop := ∀ b ∈ x, b.toNat < 128

theorem asc_itoa (n : Int) : Asc (itoa n) := by
  have hd : ∀ u, Asc (decDigits u) := fun u c hc => by have := decDigits_num u c hc; omega
  unfold itoa
  split
  · intro c hc
    rcases List.mem_cons.1 hc with rfl | hc
    · decide
    · exact hd _ c hc
  · exact hd _

theorem asc_verb (k : Nat) : Asc (verbW k) := by
  unfold verbW; split <;> (unfold Asc; decide)

theorem Asc.app {x y : List UInt8} (hx : Asc x) (hy : Asc y) : Asc (x ++ y) := fun b hb => (List.mem_append.1 hb).elim (hx b) (hy b)
theorem asc_sp : Asc [32] := by unfold Asc; decide
theorem asc_sp0 : Asc [32, 48] := by unfold Asc; decide

theorem asc_fmt (op : Opn) : Asc (fmtP op) := by
  unfold fmtP
  split
  · exact (asc_verb _).app (((((asc_sp.app (asc_itoa _)).app asc_sp).app (asc_itoa _)).app asc_sp).app (asc_itoa _))
  · split
    · exact (asc_verb _).app (asc_sp.app (asc_itoa _))
    · split
      · exact (asc_verb _).app (((asc_sp.app (asc_itoa _)).app asc_sp).app (asc_itoa _))
      · exact asc_verb _

theorem asc_cut {x : List UInt8} (h : Asc x) (n m : Nat) : Asc (x.take n ++ x.drop m) := fun b hb => by
  rcases List.mem_append.1 hb with hb | hb
  · exact h b (List.mem_of_mem_take hb)
  · exact h b (List.mem_of_mem_drop hb)

theorem len_fmt (op : Opn) (hop : op.ok) (hk : op.kind < 9) (hn0 : -9223372036854775808 ≤ op.n) (hn1 : op.n ≤ 9223372036854775807) (hm0 : -9223372036854775808 ≤ op.m) (hm1 : op.m ≤ 9223372036854775807) : 0 < (fmtP op).length ∧ (fmtP op).length ≤ 200 := by
  have h0 := verbW_len op.kind.toNat
  have h00 := verbW_len 0
  have h1 := Extern.FmtText.itoa_length_le (wf_i64 ⟨hn0, hn1⟩)
  have h2 := Extern.FmtText.itoa_length_le (wf_i64 ⟨hm0, hm1⟩)
  have h3 := Extern.FmtText.itoa_length_le (wf_u8 hop.2.1)
  have h4 := Extern.FmtText.itoa_length_le (wf_u32 hop.2.2.1)
  have h5 := Extern.FmtText.itoa_length_le (wf_u64 hop.2.2.2)
  have h6 : 0 < (verbW op.kind.toNat).length := List.length_pos_iff.2 (noSp_verb (by have := hop.1.1; omega)).1
  unfold fmtP
  split
  · simp; omega
  · split
    · simp; omega
    · split
      · simp; omega
      · omega

/-! What a command does -/

theorem plain_kind (op : Opn) : (plainP op).kind = op.kind := by
  unfold plainP; repeat' split
  all_goals rfl

theorem plain_ok' {op : Opn} (h : op.ok) : (plainP op).ok := by
  have hz : (⟨0, 0, 0⟩ : Ev).ok := ⟨⟨(by decide : (0 : Int) ≤ 0), (by decide : (0 : Int) ≤ 255)⟩, ⟨(by decide : (0 : Int) ≤ 0), (by decide : (0 : Int) ≤ 4294967295)⟩, ⟨(by decide : (0 : Int) ≤ 0), (by decide : (0 : Int) ≤ 18446744073709551615)⟩⟩
  unfold plainP; repeat' split
  · exact ⟨h.1, h.2⟩
  all_goals exact ⟨h.1, hz⟩

theorem do_plain (s : Ss) (op : Opn) : doR s (plainP op) = doR s op := by
  obtain ⟨k, n, m, e⟩ := op
  unfold plainP
  simp only
  split
  · rename_i h; subst h; simp [doR]
  · rename_i h0
    split
    · rename_i h; subst h; simp [doR]
    · rename_i h7
      split
      · rename_i h; subst h; simp [doR]
      · split
        · rename_i h; subst h; simp [doR]
        · simp [doR, h0, h7]

theorem code_in {c : Int} (h : c = 0 ∨ c = 1 ∨ c = 2 ∨ c = 3 ∨ c = 4 ∨ c = 5) : 0 ≤ c ∧ c < 6 := by omega

theorem seek_code (s : Ss) (n : Int) : (seekR s n).1.code = 0 ∨ (seekR s n).1.code = 1 := by
  unfold seekR; split
  · exact .inr rfl
  · exact .inl rfl

theorem do_code (s : Ss) (op : Opn) : 0 ≤ (doR s op).1.code ∧ (doR s op).1.code < 6 := by
  apply code_in
  unfold doR
  split
  · unfold stepR; repeat' split
    all_goals first | exact .inl rfl | exact .inr (.inr (.inr (.inl rfl))) | exact .inr (.inr (.inr (.inr (.inl rfl))))
  split
  · rcases seek_code s op.n with h | h
    · exact .inl h
    · exact .inr (.inl h)
  split
  · unfold backR; split
    · exact .inr (.inl rfl)
    · rcases seek_code s (s.pos - op.n) with h | h
      · exact .inl h
      · exact .inr (.inl h)
  split
  · unfold forwR; split
    · exact .inr (.inl rfl)
    · exact .inl rfl
  split
  · unfold truncR; repeat' split
    all_goals first | exact .inl rfl | exact .inr (.inl rfl) | exact .inr (.inr (.inl rfl))
  split
  · exact .inl rfl
  split
  · unfold checkR; split
    · exact .inr (.inr (.inl rfl))
    · exact .inl rfl
  split
  · unfold replayR; repeat' split
    all_goals first | exact .inl rfl | exact .inr (.inl rfl) | exact .inr (.inr (.inl rfl))
  split
  · exact .inl rfl
  · exact .inr (.inr (.inr (.inr (.inr rfl))))

theorem do_out (s : Ss) (op : Opn) (h7 : op.kind ≠ 7) : (doR s op).1.out = (doR s op).2.out := by
  unfold doR
  split
  · unfold stepR; repeat' split
    all_goals rfl
  split
  · unfold seekR; split <;> rfl
  split
  · unfold backR; split
    · rfl
    · unfold seekR; split <;> rfl
  split
  · unfold forwR; split <;> rfl
  split
  · unfold truncR; repeat' split
    all_goals rfl
  split
  · rfl
  split
  · unfold checkR; split <;> rfl
  repeat' split
  all_goals rfl

theorem kstep_run (m : Mach) (e : Ev) : (kstep m e).2.running = (kstep m e).1.cur := by
  unfold kstep; split <;> rfl

theorem runF_run : ∀ (l : List Ev) (s : Mach × Ot), s.2.running = s.1.cur → (runF l s).2.running = (runF l s).1.cur
  | [], _, h => h
  | e :: l, s, _ => runF_run l (kstep s.1 e) (kstep_run s.1 e)

theorem stAt_run (all : List Ev) (n : Int) : (stAt all n).2.running = (stAt all n).1.cur := runF_run _ _ rfl

theorem do_rok {B : Int} {all : List Ev} {s : Ss} (h : s.wf B) (hh : Hon all s) (op : Opn) (he : op.ev.ok) : -128 ≤ (doR s op).1.out.running ∧ (doR s op).1.out.running ≤ 127 := by
  by_cases h7 : op.kind = 7
  · have hcur : s.out.running = s.m.cur := by
      have h1 := hh.cur
      have h2 := stAt_run all s.pos
      rw [← h1] at h2; exact h2
    have hm := h.m.cur
    have e7 : (doR s op).1 = replayR s op.n op.m := by simp [doR, h7]
    rw [e7]
    unfold replayR
    split
    · show -128 ≤ s.out.running ∧ s.out.running ≤ 127; omega
    · rename_i p hp
      split
      · show -128 ≤ s.out.running ∧ s.out.running ≤ 127; omega
      · show -128 ≤ (s.lg.run (p.st, p.out) p.idx op.m).2.running ∧ (s.lg.run (p.st, p.out) p.idx op.m).2.running ≤ 127
        have hpp : (p = s.lg.base) ∨ p ∈ s.lg.sns := by
          unfold Lg.point at hp
          split at hp
          · exact .inl (Option.some.inj hp).symm
          · unfold Lg.snap at hp; exact .inr (List.mem_of_find?_eq_some hp)
        have hst : p.st.ok := by
          rcases hpp with rfl | hq
          · exact h.lg.bst
          · exact h.lg.sst p hq
        have hrun : p.out.running = p.st.cur := by
          rcases hpp with rfl | hq
          · have h2 := stAt_run all s.lg.base.idx; rw [← hh.lg.base] at h2; exact h2
          · have h2 := stAt_run all p.idx; rw [← hh.lg.sns p hq] at h2; exact h2
        have h3 := runF_run (seg s.lg.evs (p.idx - s.lg.base.idx).toNat (op.m - p.idx).toNat) (p.st, p.out) hrun
        have h4 := (run_wf h.lg (s := (p.st, p.out)) hst p.idx op.m).cur
        unfold Lg.run at h4 ⊢
        omega
  · rw [do_out s op h7]
    have h1 := (do_hon' h hh op).cur
    have h2 := stAt_run (nextAll s all op) (doR s op).2.pos
    rw [← h1] at h2
    have h3 := (do_wf h op he).m.cur
    simp only at h2
    omega

end Go.Rp
