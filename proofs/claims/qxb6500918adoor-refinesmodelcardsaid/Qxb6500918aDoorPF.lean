/-
  Bytes compared; calls seen. (Made by program: a symbolic walk that prints its steps.)
-/
import Derived.Test.Qxb6500918aDoorPC
import Derived.Test.Qxb6500918aDoorPE
import Derived.Test.Qxb6500918aDoorOi
import Derived.Test.Qxb6500918aDoorM2
import Derived.Test.Qxb6500918aDoorM3
namespace Go.Proofs.Qxb6500918aDoor
open Go.Sx Go.Kn
set_option maxRecDepth 100000
set_option maxHeartbeats 4000000
set_option linter.unusedVariables false
set_option linter.unusedSimpArgs false

theorem equalE {xs ys : List Int} (hxy : ys = xs) (h0 : 0 < xs.length) {o1 o2 : Option Addr} {c1 c2 : Nat} {F1 F2 : List Nat} {w : World} (h1 : (rl u8C 5 1 xs o1 c1 F1).at w) (h2 : (rl u8C 5 1 ys o2 c2 F2).at w) :
    Calls Tryd.prog 17 #[.slice o1 xs.length c1, .slice o2 ys.length c2] w fun e w' => e = .returned (.bool true) ∧ Fr [] w w' := by
  subst hxy; exact equal_ok _ h0 o1 o2 c1 c2 F1 F2 w h1 h2

theorem bytes_pos (S : KP) (Q : QL → List Nat) (C : CP) : 0 < (uvs (bytesN S Q C)).length := by
  have h1 : uvs (bytesN S Q C) = uvs (entsN C.ent 257) ++ (uv 257 ++ uvs (spaceN C ++ (headN S ++ (slotsN S Q C.ent 256 ++ (rdysN S Q 8 ++ irqsN S 16))))) := by
    unfold bytesN storeN; rw [uvs_app, uvs_app, List.append_assoc]; simp [uvs]
  have h2 : 0 < (uv 257).length := by decide
  rw [h1, List.length_append, List.length_append]; omega

theorem boot_UR : UR bootS where
  t i := by
    have h : bootS.tcb i = if i = 1 then ⟨2, 4, ⟨0, 0⟩, ⟨0, 1⟩, ⟨0, 0⟩, 0, 0, 0, 0, 0, 0, 0, 0, 0, false, false, -1, -1⟩ else if i < 256 then noT else zT := by
      unfold bootS KP.setT bootK2 bootK1; dsimp only; unfold upd; rfl
    rw [h]; split
    · exact ⟨u64z, u64z, u64z, u64z, u64z⟩
    · split <;> exact ⟨u64z, u64z, u64z, u64z, u64z⟩
  w _ := u64z
  i _ := u64z
  n := u64z

theorem boot_UC : UC bootC where
  e i := by
    rw [boot_ent]; split
    · exact ⟨by unfold u64r; decide, by unfold u64r; decide⟩
    · split
      · exact ⟨by unfold u64r; decide, by unfold u64r; decide⟩
      · split
        · exact ⟨by unfold u64r; decide, by unfold u64r; decide⟩
        · exact ⟨u64z, u64z⟩
  c s := by
    show u64r (upd (upd (upd (fun s => if s / 16 = 0 then celE else celZ) 2 _) 0 _) 1 _ s).cap.badge
    unfold upd
    split
    · exact u64z
    · split
      · exact u64z
      · split
        · exact u64z
        · dsimp only; split <;> exact u64z

theorem ref_none {E : Nat → Ent} {t : Int} (h : refP E t ≠ ⟨0, 0⟩) : t ≠ -1 := fun e => h (by unfold refP; rw [if_pos e])

theorem ref_at {E : Nat → Ent} {i : Nat} : refAtP E (i : Int) = refP E (i : Int) := by
  unfold refP; rw [if_neg (by omega)]

theorem ref_inj {E E' : Nat → Ent} {s t : Int} (hs : 0 ≤ s ∧ s < 256) (ht : 0 ≤ t ∧ t < 256) (h : refP E s = refP E' t) : s = t := by
  have h1 : (refP E s).idx = s := by unfold refP; rw [if_neg (by omega)]; exact refAt_idx ⟨by omega, by omega⟩
  have h2 : (refP E' t).idx = t := by unfold refP; rw [if_neg (by omega)]; exact refAt_idx ⟨by omega, by omega⟩
  rw [← h1, ← h2, h]

theorem runRfS (a : Rf) : EqRun Tryd.prog 39 (.agg #[.int .u16 a.idx, .int .u32 a.gen]) (.agg #[.int .u16 a.idx, .int .u32 a.gen]) true := by
  have hq := runRf a a
  rw [show decide (a = a) = true by simp] at hq
  exact hq

theorem runRfD {a b : Rf} {β : Bool} (h : decide (a = b) = β) : EqRun Tryd.prog 39 (.agg #[.int .u16 a.idx, .int .u32 a.gen]) (.agg #[.int .u16 b.idx, .int .u32 b.gen]) β := by
  rw [← h]; exact runRf a b

/-- The call that is taken, seen from the threads. -/
theorem call_seen {S Sz : KP} {C Cz : CP} (hE : Cz.ent = C.ent) {f t : Nat} (h : CallF S C.ent Sz f t) {j : Nat} (h6 : (Sz.tcb j).st = 6) (h6' : (S.tcb j).st ≠ 6) :
    (∃ g, threadP Sz Cz.ent (Sz.tcb j).wait = (g, true) ∧ g.rep = refAtP Cz.ent (j : Int)) ∧ (0 ≤ (Sz.tcb j).wait.idx ∧ (Sz.tcb j).wait.idx < 256) ∧
    ∀ i, i < 256 → (Cz.ent i).ty = 3 → refAtP Cz.ent (i : Int) ≠ (Sz.tcb j).wait → (threadP Sz Cz.ent (refAtP Cz.ent (i : Int))).1.rep = (threadP S C.ent (refAtP Cz.ent (i : Int))).1.rep := by
  have hjf : j = f := Classical.byContradiction fun hne => h6' (h.n6 j hne h6)
  subst hjf
  have hw : (Sz.tcb j).wait = refP C.ent (t : Int) := congrArg Prod.snd h.sw
  have htl := h.t2
  rw [hw, hE]
  refine ⟨⟨Sz.tcb t, ?_, ?_⟩, ref_ix h.t2, fun i hi hl hne => ?_⟩
  · have := thread_live (S := Sz) (E := C.ent) (t := (t : Int)) ⟨by omega, by omega⟩ (by rw [Int.toNat_natCast]; exact h.lt)
    rw [Int.toNat_natCast] at this; exact this
  · rw [h.rp, ref_at]
  · rw [ref_at] at hne ⊢
    have hit : i ≠ t := fun e => hne (by rw [e])
    have a1 := thread_live (S := Sz) (E := C.ent) (t := (i : Int)) ⟨by omega, by omega⟩ (by rw [Int.toNat_natCast]; exact hl)
    have a2 := thread_live (S := S) (E := C.ent) (t := (i : Int)) ⟨by omega, by omega⟩ (by rw [Int.toNat_natCast]; exact hl)
    rw [a1, a2, Int.toNat_natCast]
    exact h.oth i hit


end Go.Proofs.Qxb6500918aDoor
