/-
  the bytes of the space. (Made by program: a symbolic walk that prints its steps.)
-/
import Derived.Test.Qxb6500918aDoorKX
namespace Go.Proofs.Qxb6500918aDoor
open Go.Sx Go.Kn
set_option maxRecDepth 100000
set_option maxHeartbeats 4000000
set_option linter.unusedVariables false
set_option linter.unusedSimpArgs false

theorem spaceBytes_ok (bo bc : Nat) (nd : Nat → Nat) (C : CP) (hC : UC C) (o : Option Addr) (c : Nat) (F : List Nat) (bs : List Int) (w : World) (hc : CapAt w bo bc nd C) (hA : Rws [rl u8C 5 1 bs o c F] w) (hFc : ∀ b ∈ capF bo bc nd C, b ∉ F) (hn : bs.length ≤ 200000) :
    Calls Tryd.prog 45 #[.pointer (some ⟨bc, 0, none⟩), .slice o bs.length c] w fun e w' => ∃ o' c' F', e = .returned (.slice o' (bs ++ uvs (spaceN C)).length c') ∧ (rl u8C 5 1 (bs ++ uvs (spaceN C)) o' c' F').at w' ∧ Fr F w w' ∧ (∀ b ∈ F', b ∈ F ∨ w.heap.size ≤ b) := by
  have hF0 : ∀ b ∈ F, b ∈ F ∨ w.heap.size ≤ b := fun _ hq => .inl hq
  refine enter (n := 10) (K := F) (A := Rws [rl u8C 5 1 bs o c F]) (F := Ff [rl u8C 5 1 bs o c F]) (T := [(0, .pointer (some ⟨bc, 0, none⟩)), (1, .slice o bs.length c)]) (L := []) (args := [.pointer (some ⟨bc, 0, none⟩), .slice o bs.length c]) Tryd.func45 rfl rfl rfl rfl knil (by simp) knil hA Rws.stable hA.low knil ?_
  intro a h
  refine wp_seq_k fun K1 hK1 => ?_
  refine nd_start (l := [0, 1]) rfl ?_
  refine nd_op ?_
  refine op_new tabOk (cells := [.slice o bs.length c]) (ty := 44) (ln := none) (L1 := fun b2 => [(b2, ⟨[.slice o bs.length c], 44, false⟩)]) h rfl rfl rfl rfl (by kernel_rfl) (fun _ => rfl) fun b2 w3 a4 h5 hf6 hn7 => ?_
  clear h
  refine nd_batch tabOk tabZ_ok [(1, {})] [3, 0, 1, 4] (T' := [(3, .pointer (some ⟨b2, 0, none⟩)), (0, .pointer (some ⟨bc, 0, none⟩)), (1, .slice o bs.length c), (4, .slice none 0 0)]) (φ := True) (rest := []) h5 (by kernel_rfl) rfl trivial fun a8 h9 => ?_
  clear h5
  refine nd_done ?_
  refine hK1 _ _ ?_
  clear hK1
  refine wp_seq_k fun K10 hK10 => ?_
  refine nd_start (l := [0, 1, 2]) rfl ?_
  refine nd_batch tabOk tabZ_ok [(0, {}), (1, {})] [3, 0, 1, 4, 5, 6] (T' := [(3, .pointer (some ⟨b2, 0, none⟩)), (0, .pointer (some ⟨bc, 0, none⟩)), (1, .slice o bs.length c), (4, .slice none 0 0), (5, .pointer (some ⟨bc, 0, none⟩)), (6, .func (.func 71) #[] #[.pointer (some ⟨b2, 0, none⟩)])]) (φ := True) (rest := [2]) h9 (by kernel_rfl) rfl trivial fun a11 h12 => ?_
  clear h9
  refine nd_op ?_
  refine op_call h12 rfl rfl rfl (callOk Tryd.func70 (by decide) rfl) (args := [.pointer (some ⟨bc, 0, none⟩), .func (.func 71) #[] #[.pointer (some ⟨b2, 0, none⟩)]]) rfl (cells_each bo bc nd C hC b2 o c F bs _ (hc.fr h12.frame hFc) (h12.kn (k := 0) rfl) (h12.inv.get (j := 0) rfl) (by have := h12.dj (k := 0) rfl rfl; simpa [Ff, rl] using this) (fun hq => by have h1 := hc.low _ hq; have h2 : w.heap.size ≤ b2 := (st_ky h12 (k := 0) rfl rfl).resolve_left (fun h => hFc _ hq h); omega) (fun b hb hq => hFc b hq hb) hn) ?_
  rintro _ w13 ⟨rfl, ⟨o2, c2, F2, k1, k2, k3, k4⟩, hf14⟩
  refine ⟨_, rfl, ?_⟩
  have hn3 : w.heap.size ≤ b2 ∨ b2 ∈ F := (st_ky h12 (k := 0) rfl rfl).symm
  have hsz2 : w.heap.size ≤ _ := h12.frame.size
  have hF2 : ∀ b ∈ F2, b ∈ F ∨ w.heap.size ≤ b := fun b hb => (k4 b hb).imp id (fun h => Nat.le_trans hsz2 h)
  have h15 := (h12.turn (L' := [(b2, ⟨[.slice o2 ((bs ++ uvs (celsN C 4096)).length) c2], 44, false⟩)]) (A' := Rws [rl u8C 5 1 (bs ++ uvs (celsN C 4096)) o2 c2 F2]) (F' := Ff [rl u8C 5 1 (bs ++ uvs (celsN C 4096)) o2 c2 F2]) hf14 (fun b hb => (List.mem_cons.1 hb).elim (fun e => by rw [e]; exact hn3.symm) (fun e => .inl e)) rfl (kcons k1 knil) (rws1 k2) Rws.stable (rws1 k2).low (fun b hb => by have hb2 : b ∈ F2 := (by simpa [Ff, rl] using hb); exact (k4 b hb2).imp (fun h => by simpa [Ff, rl] using h) id)).put (d := some 7) (v := .tuple #[]) (T' := [(7, .tuple #[]), (3, .pointer (some ⟨b2, 0, none⟩)), (0, .pointer (some ⟨bc, 0, none⟩)), (1, .slice o bs.length c), (4, .slice none 0 0), (5, .pointer (some ⟨bc, 0, none⟩)), (6, .func (.func 71) #[] #[.pointer (some ⟨b2, 0, none⟩)])]) rfl
  clear h12
  have hlenC := uvs_len (celsN C 4096)
  have hlenD := celsN_len C 4096
  refine nd_done ?_
  refine hK10 _ _ ?_
  clear hK10
  refine wp_seq_k fun K16 hK16 => ?_
  refine nd_start (l := [0, 1, 2]) rfl ?_
  refine nd_batch tabOk tabZ_ok [(0, {k := 0})] [3, 0, 1, 4, 8] (T' := [(3, .pointer (some ⟨b2, 0, none⟩)), (0, .pointer (some ⟨bc, 0, none⟩)), (1, .slice o bs.length c), (4, .slice none 0 0), (8, .slice o2 ((bs ++ uvs (celsN C 4096)).length) c2)]) (φ := (b2 = b2 ∧ Nat.ble (0 + 1) 1 = true) ∧ True) (rest := [1, 2]) h15 (by kernel_rfl) rfl ⟨⟨rfl, rfl⟩, trivial⟩ fun a17 h18 => ?_
  clear h15
  refine nd_op ?_
  refine op_call h18 rfl rfl rfl (callOk Tryd.func58 (by decide) rfl) (args := [.slice o2 ((bs ++ uvs (celsN C 4096)).length) c2, .int .u64 4096]) rfl (uvar_ok o2 c2 F2 (bs ++ uvs (celsN C 4096)) 4096 (by unfold u64r; decide) (by rw [List.length_append]; omega) _ h18.inv) ?_
  rintro _ w22 ⟨o19, c20, F21, rfl, hr23, hf24, hF25⟩
  refine ⟨_, rfl, ?_⟩
  have hKh26 := row1_keys (K := F) hF2 h18.frame.size hF25
  have h26 := (h18.rowSet (j := 0) (r' := rl u8C 5 1 ((bs ++ uvs (celsN C 4096)) ++ uv 4096) o19 c20 F21) (R' := [rl u8C 5 1 ((bs ++ uvs (celsN C 4096)) ++ uv 4096) o19 c20 F21]) rfl hr23 hf24 hF25 hF2 (kcons (by intro hq; cases hq) knil) rfl).put (d := some 9) (v := .slice o19 (((bs ++ uvs (celsN C 4096)) ++ uv 4096).length) c20) (T' := [(9, .slice o19 (((bs ++ uvs (celsN C 4096)) ++ uv 4096).length) c20), (3, .pointer (some ⟨b2, 0, none⟩)), (0, .pointer (some ⟨bc, 0, none⟩)), (1, .slice o bs.length c), (4, .slice none 0 0), (8, .slice o2 ((bs ++ uvs (celsN C 4096)).length) c2)]) rfl
  clear h18
  refine nd_batch tabOk tabZ_ok [(2, {})] [3, 0, 1, 4] (T' := [(3, .pointer (some ⟨b2, 0, none⟩)), (0, .pointer (some ⟨bc, 0, none⟩)), (1, .slice o bs.length c), (4, .slice o19 (((bs ++ uvs (celsN C 4096)) ++ uv 4096).length) c20)]) (φ := True) (rest := []) h26 (by kernel_rfl) rfl trivial fun a27 h28 => ?_
  clear h26
  refine nd_done ?_
  refine hK16 _ _ ?_
  clear hK16
  refine wp_ret ?_
  have hfin : bs ++ uvs (spaceN C) = (bs ++ uvs (celsN C 4096)) ++ uv 4096 := by rw [spaceN, uvs_app]; simp [uvs]
  try simp only [Exit.then, Exit.inBlock]
  try rw [if_pos trivial]
  exact s_ret tabOk tabZ_ok h28 [(.tmp 4, {})] (vs := [.slice o19 (((bs ++ uvs (celsN C 4096)) ++ uv 4096).length) c20]) (φ := True) rfl (by kernel_rfl) trivial ⟨o19, c20, F21, by rw [hfin]; rfl, by rw [hfin]; exact h28.inv.get (j := 0) rfl, h28.frame, hKh26⟩

end Go.Proofs.Qxb6500918aDoor
