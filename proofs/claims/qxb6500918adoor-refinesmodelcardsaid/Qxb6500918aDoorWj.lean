/-
  The model as a piece; agreement; the start.
-/
import Derived.Test.Qxb6500918aDoorWi
import Derived.Test.Qxb6500918aDoorVd
import Derived.Test.Qxb6500918aDoorVh
import Derived.Test.Qxb6500918aDoorPA
import Derived.Test.Qxb6500918aDoorKT
import Derived.Test.Qxb6500918aDoorRa
namespace Go.Proofs.Qxb6500918aDoor
open Go.Sx Go.Kn

def ndp : List Nat → List Nat
  | [] => []
  | x :: l => if x ∈ l then ndp l else x :: ndp l

theorem mem_ndp {b : Nat} : ∀ {l : List Nat}, b ∈ ndp l ↔ b ∈ l
  | [] => Iff.rfl
  | x :: l => by
    have ih := mem_ndp (b := b) (l := l)
    rw [ndp]
    split
    · rename_i h
      rw [ih, List.mem_cons]
      exact ⟨.inr, fun q => q.elim (fun e => by rw [e]; exact h) id⟩
    · rw [List.mem_cons, List.mem_cons, ih]

theorem nodup_ndp : ∀ (l : List Nat), (ndp l).Nodup
  | [] => List.nodup_nil
  | x :: l => by
    rw [ndp]
    split
    · exact nodup_ndp l
    · rename_i h
      rw [List.nodup_cons]
      exact ⟨fun q => h (mem_ndp.1 q), nodup_ndp l⟩

section
variable {mb : Nat} {Z Z' : MZ} {R R' : MR} {a a' : AK} {C C' : CP} {w w' : World} {S : KP} {n : Int}

structure MQ (mb : Nat) (Z : MZ) (R : MR) (a : AK) (C : CP) (w : World) : Prop where
  md : MD0 mb Z R a C w
  ho : R.ho = none
  n3 : 3 ∉ mdF mb Z R C

def pMod (mb : Nat) (Z : MZ) (R : MR) (a : AK) (C : CP) : Pc := ⟨fun w => MQ mb Z R a C w, ndp (mdF mb Z R C)⟩

theorem pMod_ok (h : MQ mb Z R a C w) : PcOk (pMod mb Z R a C) w :=
  ⟨h, fun w w' hb hm => ⟨MD0.stable w w' (fun b hb' => hb b (mem_ndp.2 hb')) hm.md, hm.ho, hm.n3⟩, fun b hb => h.md.low b (mem_ndp.1 hb), nodup_ndp _⟩

theorem MQ.mh (h : MQ mb Z R a C w) (hg : ∃ ty, w.heap[3]? = some (Blk.obj ⟨[.int .u16 0, .int .u32 0], ty, true⟩)) : MH mb Z R a C w := ⟨h.md, h.ho, h.n3, hg⟩
theorem MH.mq (h : MH mb Z R a C w) : MQ mb Z R a C w := ⟨h.md, h.ho, h.n3⟩

theorem mod_sub {m : Nat} (hs : ∀ b ∈ mdF mb Z' R' C', b ∈ mdF mb Z R C ∨ m ≤ b) : ∀ b ∈ (pMod mb Z' R' a' C').F, b ∈ (pMod mb Z R a C).F ∨ m ≤ b := fun b hb => (hs b (mem_ndp.1 hb)).imp (fun h => mem_ndp.2 h) id

theorem mod_in : ∀ b ∈ mdF mb Z R C, b ∈ (pMod mb Z R a C).F := fun _ hb => mem_ndp.2 hb

theorem g3_fr {ty : TypeId} (hg : w.heap[3]? = some (Blk.obj ⟨[.int .u16 0, .int .u32 0], ty, true⟩)) (hf : Fr [] w w') : ∃ ty, w'.heap[3]? = some (Blk.obj ⟨[.int .u16 0, .int .u32 0], ty, true⟩) :=
  ⟨ty, by rw [hf.block 3 (lt_of_heap hg) (by simp)]; exact hg⟩

theorem agrees_ok (kb bo bc : Nat) (nd : Nat → Nat) (zo : ZOk Z C.ent) (hv : Iv S a C n) (w : World) (hker : w.heap[kb]? = some (Blk.obj ⟨kC bo bc S, 90, false⟩)) (hcap : CapAt w bo bc nd C) (hkn : kb ∉ capF bo bc nd C) (hdis : ∀ b ∈ kb :: capF bo bc nd C, b ∉ mdF mb Z R C) (hH : MH mb Z R a C w) :
    Calls Tryd.prog 13 #[.pointer (some ⟨kb, 0, none⟩), .pointer (some ⟨mb, 0, none⟩)] w fun e w' => e = .returned (.bool true) ∧ MG mb Z R C w Z R a C w' := by
  have hI := (Iv.mi hv zo)
  obtain ⟨X3, h3⟩ : ∃ X, liveI C.ent 3 = X := ⟨_, rfl⟩
  obtain ⟨X4, h4⟩ : ∃ X, liveI C.ent 4 = X := ⟨_, rfl⟩
  obtain ⟨X5, h5⟩ : ∃ X, liveI C.ent 5 = X := ⟨_, rfl⟩
  obtain ⟨NS, hNS⟩ : ∃ X, [] ++ uvs (storeN C.ent) = X := ⟨_, rfl⟩
  obtain ⟨NP, hNP⟩ : ∃ X, [] ++ uvs (spaceN C) = X := ⟨_, rfl⟩
  by_cases e3 : X3 = []
  · by_cases e45 : X4 ++ X5 = []
    · exact agreesee kb bo bc nd S n mb Z R a C hI hv X3 X4 X5 h3 h4 h5 NS NP hNS hNP e3 e45 w hker hcap hkn hdis hH
    · exact agreesen kb bo bc nd S n mb Z R a C hI hv X3 X4 X5 h3 h4 h5 NS NP hNS hNP e3 (List.length_pos_iff.2 e45) w hker hcap hkn hdis hH
  · by_cases e45 : X4 ++ X5 = []
    · exact agreesne kb bo bc nd S n mb Z R a C hI hv X3 X4 X5 h3 h4 h5 NS NP hNS hNP (List.length_pos_iff.2 e3) e45 w hker hcap hkn hdis hH
    · exact agreesnn kb bo bc nd S n mb Z R a C hI hv X3 X4 X5 h3 h4 h5 NS NP hNS hNP (List.length_pos_iff.2 e3) (List.length_pos_iff.2 e45) w hker hcap hkn hdis hH

theorem zok_boot (ht : sl Z.tl = [1]) (hq : sl Z.ql = []) (hk : ∀ i : Nat, Z.ky i = ⟨(i : Int), 1⟩) : ZOk Z bootX.ent := by
  have he : ∀ i : Nat, bootX.ent i = if i = 1 then ⟨3, 1, 1024, 1024⟩ else if i = 0 then ⟨2, 1, 0, 512⟩ else if i = 256 then ⟨1, 1, 0, 8192⟩ else ⟨0, 1, 0, 0⟩ := boot_ent
  refine ⟨fun i hi => ?_, fun i hi => ?_, fun i hi => ?_, fun x hx => ?_, fun x hx => ?_⟩
  · rw [hk i]
    have h1 : (refAtP bootX.ent (i : Int)).idx = (i : Int) := refAt_idx ⟨by omega, by omega⟩
    have h2 : (refAtP bootX.ent (i : Int)).gen = 1 := by
      unfold refAtP
      rw [Int.toNat_natCast, he i]
      split
      · rfl
      · split
        · rfl
        · split <;> rfl
    generalize refAtP bootX.ent (i : Int) = q at h1 h2
    cases q
    simp only at h1 h2
    rw [h1, h2]
  · rw [ht, he i]
    split
    · rename_i e; subst e; simp
    · rename_i e
      have : (if i = 0 then (⟨2, 1, 0, 512⟩ : Ent) else if i = 256 then ⟨1, 1, 0, 8192⟩ else ⟨0, 1, 0, 0⟩).ty ≠ 3 := by
        split
        · decide
        · split <;> decide
      exact ⟨fun q => absurd q this, fun q => absurd (by simpa using q) e⟩
  · rw [hq, he i]
    have : ¬ ((if i = 1 then (⟨3, 1, 1024, 1024⟩ : Ent) else if i = 0 then ⟨2, 1, 0, 512⟩ else if i = 256 then ⟨1, 1, 0, 8192⟩ else ⟨0, 1, 0, 0⟩).ty = 4 ∨ (if i = 1 then (⟨3, 1, 1024, 1024⟩ : Ent) else if i = 0 then ⟨2, 1, 0, 512⟩ else if i = 256 then ⟨1, 1, 0, 8192⟩ else ⟨0, 1, 0, 0⟩).ty = 5) := by
      split
      · decide
      · split
        · decide
        · split <;> decide
    exact ⟨fun q => absurd q this, fun q => by cases q⟩
  · rw [ht] at hx
    have : x = 1 := by simpa using hx
    omega
  · rw [hq] at hx; cases hx

theorem MQ.bootX {Q : QL → List Nat} (h : MH mb Z R (bootA Q) bootC w) : MQ mb Z R (bootA Q) bootX w :=
  ⟨⟨h.md.k, h.md.m, h.md.t, h.md.th, h.md.q, h.md.qr, h.md.wm, h.md.rr, h.md.hh, bootX_at h.md.cp, h.md.dj, h.md.w0⟩, h.ho, h.n3⟩

end
end Go.Proofs.Qxb6500918aDoor
