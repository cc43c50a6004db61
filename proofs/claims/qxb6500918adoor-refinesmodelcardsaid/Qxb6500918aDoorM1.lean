/-
  the members of a queue as bytes. (Made by program: a symbolic walk that prints its steps.)
-/
import Derived.Test.Qxb6500918aDoorKY
namespace Go.Proofs.Qxb6500918aDoor
open Go.Sx Go.Kn
set_option maxRecDepth 100000
set_option maxHeartbeats 4000000
set_option linter.unusedVariables false
set_option linter.unusedSimpArgs false

theorem chain_nextD {S : KP} {L : QL} {xs : List Nat} (h : Chain S L xs) {m x : Nat} (hx : xs[m]? = some x) : (S.tcb x).next = hdI (xs.drop (m + 1)) (-1) := by
  have hm : m < xs.length := (List.getElem?_eq_some_iff.1 hx).1
  have hsp : xs = xs.take m ++ x :: xs.drop (m + 1) := by
    conv => lhs; rw [← List.take_append_drop m xs]
    rw [List.drop_eq_getElem_cons hm]
    congr 2
    rw [List.getElem?_eq_getElem hm] at hx; simpa using hx
  have hd := h.dl
  rw [hsp, dll_app] at hd
  exact hd.2.2.1

theorem hd_drop {xs : List Nat} {m : Nat} (h : hdI (xs.drop m) (-1) ≠ -1) : ∃ x, xs[m]? = some x ∧ hdI (xs.drop m) (-1) = (x : Int) := by
  by_cases hm : m < xs.length
  · rw [List.drop_eq_getElem_cons hm]
    exact ⟨xs[m], by simp, rfl⟩
  · rw [List.drop_eq_nil_of_le (by omega)] at h
    exact absurd rfl h

def memN (n : Int) (xs : List Nat) : List Int := IntKind.wrap .u64 n :: xs.map (fun (x : Nat) => IntKind.wrap .u64 (x : Int))
theorem memN_len (n : Int) (xs : List Nat) : (memN n xs).length = xs.length + 1 := by simp [memN]
theorem memN_snoc (n : Int) (xs : List Nat) (x : Nat) : memN n (xs ++ [x]) = memN n xs ++ [IntKind.wrap .u64 (x : Int)] := by simp [memN]

theorem members_ok (kb bo bc : Nat) (S : KP) (rS : RI S) (L : QL) (hL : L.ok) (xs : List Nat) (hch : Chain S L xs) (b1 b3 b4 : Nat) (o : Option Addr) (c : Nat) (F : List Nat) (bs : List Int) (w : World) (hb : w.heap[kb]? = some (Blk.obj ⟨kC bo bc S, 90, true⟩)) (h3 : w.heap[b3]? = some (Blk.obj ⟨[.slice o bs.length c], 44, false⟩)) (h4 : w.heap[b4]? = some (Blk.obj ⟨[.func (.func 57) #[] #[.pointer (some ⟨b3, 0, none⟩)]], 124, true⟩)) (h1 : w.heap[b1]? = some (Blk.obj ⟨[.pointer (some ⟨kb, 0, none⟩)], 24, true⟩)) (hA : Rws [rl u8C 5 1 bs o c F] w) (hnd : [kb, b3, b4, b1].Nodup) (h3F : b3 ∉ F) (hkF : kb ∉ F) (h4F : b4 ∉ F) (h1F : b1 ∉ F) (hn : bs.length ≤ 90000000) :
    Calls Tryd.prog 59 #[.pointer (some ⟨kb, L.off, none⟩), .pointer (some ⟨b4, 0, none⟩), .pointer (some ⟨b1, 0, none⟩)] w fun e w' => ∃ o' c' F', e = .returned (.tuple #[]) ∧ w'.heap[b3]? = some (Blk.obj ⟨[.slice o' (bs ++ uvs (memN (S.q L).n xs)).length c'], 44, false⟩) ∧ (rl u8C 5 1 (bs ++ uvs (memN (S.q L).n xs)) o' c' F').at w' ∧ Fr (b3 :: F) w w' ∧ (∀ b ∈ F', b ∈ F ∨ w.heap.size ≤ b) := by
  have hF0 : ∀ b ∈ F, b ∈ b3 :: F ∨ w.heap.size ≤ b := fun b hb => .inl (List.mem_cons_of_mem _ hb)
  have hFXF : ∀ b ∈ F, b ∈ F ∨ w.heap.size ≤ b := fun _ hq => .inl hq
  have hxl := nodup_len hch.nd hch.lt
  have hlk := lt_of_heap hb
  have hl4 := lt_of_heap h4
  have hl1 := lt_of_heap h1
  refine enter (n := 31) (K := (b3 :: F)) (A := Rws [rl u8C 5 1 bs o c F]) (F := Ff [rl u8C 5 1 bs o c F]) (T := [(0, .pointer (some ⟨kb, L.off, none⟩)), (1, .pointer (some ⟨b4, 0, none⟩)), (2, .pointer (some ⟨b1, 0, none⟩))]) (L := [(kb, ⟨kC bo bc S, 90, true⟩), (b3, ⟨[.slice o bs.length c], 44, false⟩), (b4, ⟨[.func (.func 57) #[] #[.pointer (some ⟨b3, 0, none⟩)]], 124, true⟩), (b1, ⟨[.pointer (some ⟨kb, 0, none⟩)], 24, true⟩)]) (args := [.pointer (some ⟨kb, L.off, none⟩), .pointer (some ⟨b4, 0, none⟩), .pointer (some ⟨b1, 0, none⟩)]) Tryd.func59 rfl rfl rfl rfl (kcons hb (kcons h3 (kcons h4 (kcons h1 knil)))) hnd (kcons (by intro hq; cases hq) (kcons (fun _ => by simp) (kcons (by intro hq; cases hq) (kcons (by intro hq; cases hq) knil)))) hA Rws.stable hA.low (kcons (by intro hq; cases hq) (kcons (fun _ => by simpa [Ff, rl] using h3F) (kcons (by intro hq; cases hq) (kcons (by intro hq; cases hq) knil)))) ?_
  intro a h
  refine wp_seq_k fun K1 hK1 => ?_
  refine dr_start (KB := [kb, b3, b4, b1]) (Bi := [[0, 1, 2, 3], [0, 1, 2, 3], [0, 1, 2, 3], [0, 1, 2, 3], [0, 1, 2, 3], [0, 1, 2, 3], [0, 1, 2, 3], []]) mixed h fun w2 h3 => ?_
  clear h
  refine dr_batch tabOk tabZ_ok (by repeat (first | with_reducible exact PF.body | with_reducible apply PF.inB | with_reducible apply PF.next)) [(0, {k := 2, p := 2}), (1, {}), (2, {}), (3, {}), (4, {k := 0, m := 1, vs := [.int .u32 ((S.q L).n)], p := 0}), (5, {m := 1})] [0, 1, 2, 5, 10] (T' := [(0, .pointer (some ⟨kb, L.off, none⟩)), (1, .pointer (some ⟨b4, 0, none⟩)), (2, .pointer (some ⟨b1, 0, none⟩)), (5, .func (.func 57) #[] #[.pointer (some ⟨b3, 0, none⟩)]), (10, .int .u64 (IntKind.wrap .u64 ((S.q L).n)))]) (φ := (b4 = b4 ∧ Nat.ble (0 + 1) 1 = true) ∧ (kb = kb ∧ cellsAre (kC bo bc S) (L.off + 2) [.int .u32 ((S.q L).n)]) ∧ True) (fuel := 2) h3 (by kernel_rfl) rfl (by kernel_rfl) (by kernel_rfl) ⟨rfl, trivial, trivial, trivial, rfl, trivial, trivial⟩ ⟨⟨rfl, rfl⟩, ⟨rfl, (k_q (L := L) (k := 2) hL (by omega) ⟨rfl, trivial⟩)⟩, trivial⟩ fun a5 h6 => ?_
  clear h3
  refine wpAnyK_one (i := 6) (fuel := 1) (by kernel_rfl) ?_
  refine op_new tabOk (cells := [.int .u64 (IntKind.wrap .u64 ((S.q L).n))]) (ty := 31) (ln := (some 1)) (L1 := fun b7 => [(kb, ⟨kC bo bc S, 90, true⟩), (b3, ⟨[.slice o bs.length c], 44, false⟩), (b4, ⟨[.func (.func 57) #[] #[.pointer (some ⟨b3, 0, none⟩)]], 124, true⟩), (b1, ⟨[.pointer (some ⟨kb, 0, none⟩)], 24, true⟩), (b7, ⟨[.int .u64 (IntKind.wrap .u64 ((S.q L).n))], 31, false⟩)]) h6 rfl rfl rfl rfl (by kernel_rfl) (fun _ => rfl) fun b7 w8 a9 h10 hf11 hn12 => ?_
  refine ⟨(h6.keepFr hf11 (kcons (by simp) (kcons (by simp) (kcons (by simp) (kcons (by simp) knil))))), ?_⟩
  clear h6
  refine wpAnyK_one (i := 7) (fuel := 0) (by kernel_rfl) ?_
  have hsy13 : w.heap.size ≤ _ := h10.frame.size
  refine op_callv (f := 57) (first := []) (cap := [.pointer (some ⟨b3, 0, none⟩)]) (args := [.slice (some ⟨b7, 0, none⟩) 1 1]) h10 rfl rfl rfl rfl (callOk Tryd.func57 (by decide) rfl) rfl (put_ok b3 b7 0 1 31 ([.int .u64 (IntKind.wrap .u64 ((S.q L).n))]) [IntKind.wrap .u64 ((S.q L).n)] o c F bs _ (h10.kn (k := 1) rfl) h10.inv (h10.kn (k := 4) (blk := ⟨[.int .u64 (IntKind.wrap .u64 ((S.q L).n))], 31, false⟩) rfl) ⟨rfl, trivial⟩ (nodup_key h10.nodup (i := 1) (j := 4) rfl rfl (by decide)) (by have := h10.dj (k := 1) rfl rfl; simpa [Ff, rl] using this) (by have := h10.dj (k := 4) rfl rfl; simpa [Ff, rl] using this) (kcons (u64w _) knil) (by show _ + 1 * 10 ≤ _; omega)) ?_
  rintro _ w14 ⟨o17, c18, F19, rfl, k20, k21, hf15, hF22⟩
  refine ⟨_, rfl, ?_⟩
  have hsz23 : w.heap.size ≤ _ := h10.frame.size
  have hK24 : ∀ b ∈ F19, b ∈ b3 :: F ∨ w.heap.size ≤ b := fun b hb => (hF22 b hb).elim (hF0 b) (fun h => .inr (Nat.le_trans hsz23 h))
  have h16 := (h10.turn (L' := [(kb, ⟨kC bo bc S, 90, true⟩), (b3, ⟨[.slice o17 ((bs ++ uvs [IntKind.wrap .u64 ((S.q L).n)]).length) c18], 44, false⟩), (b4, ⟨[.func (.func 57) #[] #[.pointer (some ⟨b3, 0, none⟩)]], 124, true⟩), (b1, ⟨[.pointer (some ⟨kb, 0, none⟩)], 24, true⟩), (b7, ⟨[.int .u64 (IntKind.wrap .u64 ((S.q L).n))], 31, false⟩)]) (A' := Rws [rl u8C 5 1 (bs ++ uvs [IntKind.wrap .u64 ((S.q L).n)]) o17 c18 F19]) (F' := Ff [rl u8C 5 1 (bs ++ uvs [IntKind.wrap .u64 ((S.q L).n)]) o17 c18 F19]) hf15 (fun b hb => (List.mem_cons.1 hb).elim (fun e => by rw [e]; exact st_ky h10 (k := 1) rfl rfl) (fun e => hF0 b e)) rfl (kcons (by rw [hf15.block _ (lt_of_heap (h10.kn (k := 0) rfl)) (fun hq => (List.mem_cons.1 hq).elim (nodup_key h10.nodup (i := 0) (j := 1) rfl rfl (by decide)) (fun hq => (hFXF kb hq).elim hkF (fun h => by omega)))]; exact h10.kn (k := 0) rfl) (kcons k20 (kcons (by rw [hf15.block _ (lt_of_heap (h10.kn (k := 2) rfl)) (fun hq => (List.mem_cons.1 hq).elim (nodup_key h10.nodup (i := 2) (j := 1) rfl rfl (by decide)) (fun hq => (hFXF b4 hq).elim h4F (fun h => by omega)))]; exact h10.kn (k := 2) rfl) (kcons (by rw [hf15.block _ (lt_of_heap (h10.kn (k := 3) rfl)) (fun hq => (List.mem_cons.1 hq).elim (nodup_key h10.nodup (i := 3) (j := 1) rfl rfl (by decide)) (fun hq => (hFXF b1 hq).elim h1F (fun h => by omega)))]; exact h10.kn (k := 3) rfl) (kcons (by rw [hf15.block _ (lt_of_heap (h10.kn (k := 4) rfl)) (fun hq => (List.mem_cons.1 hq).elim (nodup_key h10.nodup (i := 4) (j := 1) rfl rfl (by decide)) (by have := h10.dj (k := 4) rfl rfl; simpa [Ff, rl] using this))]; exact h10.kn (k := 4) rfl) knil))))) (rws1 k21) Rws.stable (rws1 k21).low (fun b hb => by have hb2 : b ∈ F19 := (by simpa [Ff, rl] using hb); exact (hF22 b hb2).imp (fun h => by simpa [Ff, rl] using h) id)).put (d := some 12) (v := .tuple #[]) (T' := [(12, .tuple #[]), (11, .slice (some ⟨b7, 0, none⟩) 1 1), (0, .pointer (some ⟨kb, L.off, none⟩)), (1, .pointer (some ⟨b4, 0, none⟩)), (2, .pointer (some ⟨b1, 0, none⟩)), (5, .func (.func 57) #[] #[.pointer (some ⟨b3, 0, none⟩)]), (10, .int .u64 (IntKind.wrap .u64 ((S.q L).n)))]) rfl
  have hkh16 := h10.known
  refine ⟨keepNil, ?_⟩
  clear h10
  have hFXF19 : ∀ b ∈ F19, b ∈ F ∨ w.heap.size ≤ b := fun b hb => (hF22 b hb).elim (hFXF b) (fun h => .inr (Nat.le_trans hsy13 h))
  refine wpAnyK_done (by kernel_rfl) ?_ _
  refine hK1 _ _ ?_
  clear hK1
  refine wp_seq_k fun K25 hK25 => ?_
  refine nd_start (l := [0, 1, 2, 3, 4]) rfl ?_
  refine nd_batch tabOk tabZ_ok [(0, {}), (1, {}), (2, {}), (3, {k := 0, m := 1, vs := [.int .i16 ((S.q L).head)]}), (4, {})] [0, 1, 2, 4] (T' := [(0, .pointer (some ⟨kb, L.off, none⟩)), (1, .pointer (some ⟨b4, 0, none⟩)), (2, .pointer (some ⟨b1, 0, none⟩)), (4, .int .i16 ((S.q L).head))]) (φ := (kb = kb ∧ cellsAre (kC bo bc S) L.off [.int .i16 ((S.q L).head)]) ∧ True) (rest := []) h16 (by kernel_rfl) rfl ⟨⟨rfl, (k_q (L := L) (k := 0) hL (by omega) ⟨rfl, trivial⟩)⟩, trivial⟩ fun a26 h27 => ?_
  clear h16
  refine nd_done ?_
  refine hK25 _ _ ?_
  clear hK25
  refine wp_block ?_
  have h28 := h27.memMono (L' := [(kb, ⟨kC bo bc S, 90, true⟩), (b3, ⟨[.slice o17 ((bs ++ uvs [IntKind.wrap .u64 ((S.q L).n)]).length) c18], 44, false⟩), (b4, ⟨[.func (.func 57) #[] #[.pointer (some ⟨b3, 0, none⟩)]], 124, true⟩), (b1, ⟨[.pointer (some ⟨kb, 0, none⟩)], 24, true⟩)]) (List.Sublist.cons_cons _ (List.Sublist.cons_cons _ (List.Sublist.cons_cons _ (List.Sublist.cons_cons _ (List.Sublist.cons _ List.Sublist.slnil)))))
  clear h27
  refine wp_loop_ghost (fun g ga gw => ∃ (o' : Option Addr) (c' : Nat) (F' : List Nat) (bs' : List Int) (t : Int) (m : Nat), (g + m = xs.length ∨ (g = 0 ∧ xs.length ≤ m)) ∧ (t = hdI (xs.drop m) (-1)) ∧ (bs' = bs ++ uvs (memN (S.q L).n (xs.take m))) ∧ (∀ b ∈ F', b ∈ F ∨ w.heap.size ≤ b) ∧ St ⟨31, (b3 :: F), w, Rws [rl u8C 5 1 bs' o' c' F'], Ff [rl u8C 5 1 bs' o' c' F']⟩ [(0, .pointer (some ⟨kb, L.off, none⟩)), (1, .pointer (some ⟨b4, 0, none⟩)), (2, .pointer (some ⟨b1, 0, none⟩)), (4, .int .i16 t)] [(kb, ⟨kC bo bc S, 90, true⟩), (b3, ⟨[.slice o' bs'.length c'], 44, false⟩), (b4, ⟨[.func (.func 57) #[] #[.pointer (some ⟨b3, 0, none⟩)]], 124, true⟩), (b1, ⟨[.pointer (some ⟨kb, 0, none⟩)], 24, true⟩)] ga gw) xs.length ⟨o17, c18, F19, (bs ++ uvs [IntKind.wrap .u64 ((S.q L).n)]), (S.q L).head, 0, .inl (by omega), (by rw [List.drop_zero]; exact hch.hd), (by rw [List.take_zero]; rfl), hFXF19, (h28.slotsMono (restr_spec (keep := [0, 1, 2, 4]) rfl))⟩ ?_
  clear h28
  rintro g a29 w30 ⟨o', c', F', bs', t, m, hi32, hi33, hi34, hi35, h31⟩
  have hkg := hi32
  have ht := hi33
  have hbs := hi34
  have hFXFq := hi35
  have hFK : ∀ b ∈ F', b ∈ b3 :: F ∨ w.heap.size ≤ b := fun b hb => (hFXFq b hb).imp (List.mem_cons_of_mem _) id
  have hbl : bs'.length ≤ 91000000 := by have h1 := congrArg List.length hbs; have h2 := uvs_len (memN (S.q L).n (xs.take m)); rw [List.length_append] at h1; rw [memN_len, List.length_take] at h2; have h3 : min m xs.length ≤ xs.length := Nat.min_le_right _ _; omega
  refine wp_seq_k fun K36 hK36 => ?_
  refine wp_seq_k fun K37 hK37 => ?_
  refine nd_start (l := [0, 1]) rfl ?_
  refine nd_batch tabOk tabZ_ok [(0, {}), (1, {})] [0, 1, 2, 4, 18] (T' := [(0, .pointer (some ⟨kb, L.off, none⟩)), (1, .pointer (some ⟨b4, 0, none⟩)), (2, .pointer (some ⟨b1, 0, none⟩)), (4, .int .i16 t), (18, .bool (t != -1))]) (φ := True) (rest := []) h31 (by kernel_rfl) rfl trivial fun a38 h39 => ?_
  clear h31
  refine nd_done ?_
  refine hK37 _ _ ?_
  clear hK37
  refine c_split h39 (b := (t != -1)) rfl (fun hc40 => ?_) (fun hc40 => ?_)
  ·
    have hc40f : t ≠ -1 := by simpa using hc40
    obtain ⟨x, hx, htx⟩ := hd_drop (xs := xs) (m := m) (by rw [← ht]; exact hc40f)
    have htx2 : t = (x : Int) := ht.trans htx
    have hx256 := hch.lt x (List.mem_of_getElem? hx)
    have hmlt : m < xs.length := (List.getElem?_eq_some_iff.1 hx).1
    have hnx := chain_nextD hch hx
    refine wp_skip ?_
    refine hK36 _ _ ?_
    clear hK36
    refine wp_seq_k fun K41 hK41 => ?_
    refine wp_block ?_
    refine nd_start (l := [0, 1, 2, 3, 4]) rfl ?_
    refine nd_batch tabOk tabZ_ok [(0, {k := 2}), (1, {}), (2, {m := 1})] [0, 1, 2, 4, 26, 28] (T' := [(0, .pointer (some ⟨kb, L.off, none⟩)), (1, .pointer (some ⟨b4, 0, none⟩)), (2, .pointer (some ⟨b1, 0, none⟩)), (4, .int .i16 t), (26, .func (.func 57) #[] #[.pointer (some ⟨b3, 0, none⟩)]), (28, .int .u64 (IntKind.wrap .u64 t))]) (φ := (b4 = b4 ∧ Nat.ble (0 + 1) 1 = true) ∧ True) (rest := [3, 4]) h39 (by kernel_rfl) rfl ⟨⟨rfl, rfl⟩, trivial⟩ fun a42 h43 => ?_
    clear h39
    refine nd_op ?_
    refine op_new tabOk (cells := [.int .u64 (IntKind.wrap .u64 t)]) (ty := 31) (ln := (some 1)) (L1 := fun b44 => [(kb, ⟨kC bo bc S, 90, true⟩), (b3, ⟨[.slice o' bs'.length c'], 44, false⟩), (b4, ⟨[.func (.func 57) #[] #[.pointer (some ⟨b3, 0, none⟩)]], 124, true⟩), (b1, ⟨[.pointer (some ⟨kb, 0, none⟩)], 24, true⟩), (b44, ⟨[.int .u64 (IntKind.wrap .u64 t)], 31, false⟩)]) h43 rfl rfl rfl rfl (by kernel_rfl) (fun _ => rfl) fun b44 w45 a46 h47 hf48 hn49 => ?_
    clear h43
    refine nd_op ?_
    have hsy50 : w.heap.size ≤ _ := h47.frame.size
    refine op_callv (f := 57) (first := []) (cap := [.pointer (some ⟨b3, 0, none⟩)]) (args := [.slice (some ⟨b44, 0, none⟩) 1 1]) h47 rfl rfl rfl rfl (callOk Tryd.func57 (by decide) rfl) rfl (put_ok b3 b44 0 1 31 ([.int .u64 (IntKind.wrap .u64 t)]) [IntKind.wrap .u64 t] o' c' F' bs' _ (h47.kn (k := 1) rfl) h47.inv (h47.kn (k := 4) (blk := ⟨[.int .u64 (IntKind.wrap .u64 t)], 31, false⟩) rfl) ⟨rfl, trivial⟩ (nodup_key h47.nodup (i := 1) (j := 4) rfl rfl (by decide)) (by have := h47.dj (k := 1) rfl rfl; simpa [Ff, rl] using this) (by have := h47.dj (k := 4) rfl rfl; simpa [Ff, rl] using this) (kcons (u64w _) knil) (by show _ + 1 * 10 ≤ _; omega)) ?_
    rintro _ w51 ⟨o54, c55, F56, rfl, k57, k58, hf52, hF59⟩
    refine ⟨_, rfl, ?_⟩
    have hsz60 : w.heap.size ≤ _ := h47.frame.size
    have hK61 : ∀ b ∈ F56, b ∈ b3 :: F ∨ w.heap.size ≤ b := fun b hb => (hF59 b hb).elim (hFK b) (fun h => .inr (Nat.le_trans hsz60 h))
    have h53 := (h47.turn (L' := [(kb, ⟨kC bo bc S, 90, true⟩), (b3, ⟨[.slice o54 ((bs' ++ uvs [IntKind.wrap .u64 t]).length) c55], 44, false⟩), (b4, ⟨[.func (.func 57) #[] #[.pointer (some ⟨b3, 0, none⟩)]], 124, true⟩), (b1, ⟨[.pointer (some ⟨kb, 0, none⟩)], 24, true⟩), (b44, ⟨[.int .u64 (IntKind.wrap .u64 t)], 31, false⟩)]) (A' := Rws [rl u8C 5 1 (bs' ++ uvs [IntKind.wrap .u64 t]) o54 c55 F56]) (F' := Ff [rl u8C 5 1 (bs' ++ uvs [IntKind.wrap .u64 t]) o54 c55 F56]) hf52 (fun b hb => (List.mem_cons.1 hb).elim (fun e => by rw [e]; exact st_ky h47 (k := 1) rfl rfl) (fun e => hFK b e)) rfl (kcons (by rw [hf52.block _ (lt_of_heap (h47.kn (k := 0) rfl)) (fun hq => (List.mem_cons.1 hq).elim (nodup_key h47.nodup (i := 0) (j := 1) rfl rfl (by decide)) (fun hq => (hFXFq kb hq).elim hkF (fun h => by omega)))]; exact h47.kn (k := 0) rfl) (kcons k57 (kcons (by rw [hf52.block _ (lt_of_heap (h47.kn (k := 2) rfl)) (fun hq => (List.mem_cons.1 hq).elim (nodup_key h47.nodup (i := 2) (j := 1) rfl rfl (by decide)) (fun hq => (hFXFq b4 hq).elim h4F (fun h => by omega)))]; exact h47.kn (k := 2) rfl) (kcons (by rw [hf52.block _ (lt_of_heap (h47.kn (k := 3) rfl)) (fun hq => (List.mem_cons.1 hq).elim (nodup_key h47.nodup (i := 3) (j := 1) rfl rfl (by decide)) (fun hq => (hFXFq b1 hq).elim h1F (fun h => by omega)))]; exact h47.kn (k := 3) rfl) (kcons (by rw [hf52.block _ (lt_of_heap (h47.kn (k := 4) rfl)) (fun hq => (List.mem_cons.1 hq).elim (nodup_key h47.nodup (i := 4) (j := 1) rfl rfl (by decide)) (by have := h47.dj (k := 4) rfl rfl; simpa [Ff, rl] using this))]; exact h47.kn (k := 4) rfl) knil))))) (rws1 k58) Rws.stable (rws1 k58).low (fun b hb => by have hb2 : b ∈ F56 := (by simpa [Ff, rl] using hb); exact (hF59 b hb2).imp (fun h => by simpa [Ff, rl] using h) id)).put (d := some 30) (v := .tuple #[]) (T' := [(30, .tuple #[]), (29, .slice (some ⟨b44, 0, none⟩) 1 1), (0, .pointer (some ⟨kb, L.off, none⟩)), (1, .pointer (some ⟨b4, 0, none⟩)), (2, .pointer (some ⟨b1, 0, none⟩)), (4, .int .i16 t), (26, .func (.func 57) #[] #[.pointer (some ⟨b3, 0, none⟩)]), (28, .int .u64 (IntKind.wrap .u64 t))]) rfl
    clear h47
    have hFXF56 : ∀ b ∈ F56, b ∈ F ∨ w.heap.size ≤ b := fun b hb => (hF59 b hb).elim (hFXFq b) (fun h => .inr (Nat.le_trans hsy50 h))
    refine nd_done ?_
    refine hK41 _ _ ?_
    clear hK41
    refine nd_start (l := [0, 1, 2, 3, 4, 5, 6, 7]) rfl ?_
    refine nd_batch tabOk tabZ_ok [(0, {k := 3}), (1, {}), (2, {}), (3, {}), (4, {}), (5, {}), (6, {k := 0, m := 1, vs := [.int .i16 ((S.tcb t.toNat).next)]}), (7, {})] [0, 1, 2, 4] (T' := [(0, .pointer (some ⟨kb, L.off, none⟩)), (1, .pointer (some ⟨b4, 0, none⟩)), (2, .pointer (some ⟨b1, 0, none⟩)), (4, .int .i16 ((S.tcb t.toNat).next))]) (φ := (b1 = b1 ∧ Nat.ble (0 + 1) 1 = true) ∧ (0 ≤ t ∧ t < 256) ∧ (kb = kb ∧ cellsAre (kC bo bc S) (2 + (t.toNat * 21) + 19) [.int .i16 ((S.tcb t.toNat).next)]) ∧ True) (rest := []) h53 (by kernel_rfl) rfl ⟨⟨rfl, rfl⟩, ⟨by omega, by omega⟩, ⟨rfl, (k_tcb (i := t.toNat) (k := 19) (by omega) (by omega) ⟨rfl, trivial⟩)⟩, trivial⟩ fun a62 h63 => ?_
    clear h53
    refine nd_done ?_
    have h64 := h63.memMono (L' := [(kb, ⟨kC bo bc S, 90, true⟩), (b3, ⟨[.slice o54 ((bs' ++ uvs [IntKind.wrap .u64 t]).length) c55], 44, false⟩), (b4, ⟨[.func (.func 57) #[] #[.pointer (some ⟨b3, 0, none⟩)]], 124, true⟩), (b1, ⟨[.pointer (some ⟨kb, 0, none⟩)], 24, true⟩)]) (List.Sublist.cons_cons _ (List.Sublist.cons_cons _ (List.Sublist.cons_cons _ (List.Sublist.cons_cons _ (List.Sublist.cons _ List.Sublist.slnil)))))
    clear h63
    exact ⟨(g - 1), by omega, o54, c55, F56, (bs' ++ uvs [IntKind.wrap .u64 t]), ((S.tcb t.toNat).next), (m + 1), by omega, (by rw [htx2, Int.toNat_natCast]; exact hnx), (by rw [List.take_add_one, hx, Option.toList, memN_snoc, uvs_app, hbs, htx2, List.append_assoc]), hFXF56, (h64.slotsMono (restr_spec (keep := [0, 1, 2, 4]) rfl))⟩
  ·
    have hc40f : t = -1 := by simpa using hc40
    have hdn : xs.length ≤ m := Nat.le_of_not_lt (fun hq => by rw [ht, List.drop_eq_getElem_cons hq] at hc40f; simp [hdI] at hc40f)
    rw [List.take_of_length_le hdn] at hbs
    refine wp_exit ?_
    try simp only [Exit.then, Exit.inBlock]
    try rw [if_pos trivial]
    exact s_end tabOk tabZ_ok h39 [] (vs := []) (φ := True) rfl (by kernel_rfl) trivial ⟨o', c', F', rfl, by rw [← hbs]; exact h39.kn (k := 1) rfl, by rw [← hbs]; exact h39.inv.get (j := 0) rfl, h39.frame, hFXFq⟩

end Go.Proofs.Qxb6500918aDoor
