/-
  The kernel as a piece; rows as pieces; an array of flags.
-/
import Derived.Test.Qxb6500918aDoorP9
import Derived.Test.Qxb6500918aDoorOd
import Derived.Test.Qxb6500918aDoorM4
import Derived.Test.Qxb6500918aDoorLm
namespace Go.Kn
open Go.Sx Go.Proofs.Qxb6500918aDoor

structure KAt (w : World) (kb bo bc : Nat) (nd : Nat → Nat) (S : KP) (C : CP) : Prop where
  ker : w.heap[kb]? = some (Blk.obj ⟨kC bo bc S, 90, false⟩)
  cap : CapAt w bo bc nd C
  nk : kb ∉ capF bo bc nd C

theorem KAt.ne {w : World} {kb bo bc : Nat} {nd : Nat → Nat} {S : KP} {C : CP} (h : KAt w kb bo bc nd S C) : kb ≠ bo := fun e => h.nk (mem_capF.2 (.inl e))

def pKer (kb bo bc : Nat) (nd : Nat → Nat) (S : KP) (C : CP) : Pc := ⟨fun w => KAt w kb bo bc nd S C, kb :: capF bo bc nd C⟩

theorem map_nodup {nd : Nat → Nat} : ∀ {l : List Nat}, l.Nodup → (∀ i ∈ l, ∀ j ∈ l, nd i = nd j → i = j) → (l.map nd).Nodup
  | [], _, _ => List.nodup_nil
  | x :: l, h, hi => by
    rw [List.nodup_cons] at h
    rw [List.map_cons, List.nodup_cons]
    refine ⟨fun hq => ?_, map_nodup h.2 (fun i a j b e => hi i (List.mem_cons_of_mem _ a) j (List.mem_cons_of_mem _ b) e)⟩
    obtain ⟨y, hy, e⟩ := List.mem_map.1 hq
    have := hi y (List.mem_cons_of_mem _ hy) x (List.mem_cons_self ..) e
    subst this; exact h.1 hy

theorem capF_nodup {w : World} {bo bc : Nat} {nd : Nat → Nat} {C : CP} (h : CapAt w bo bc nd C) : (capF bo bc nd C).Nodup := by
  have key : ∀ {i : Nat}, i ∈ (List.range 256).filter C.pres → i < 256 ∧ C.pres i = true := fun hi => by
    obtain ⟨a, b⟩ := List.mem_filter.1 hi; exact ⟨List.mem_range.1 a, b⟩
  unfold capF
  rw [List.nodup_cons, List.nodup_cons]
  refine ⟨fun hq => ?_, fun hq => ?_, map_nodup (List.nodup_range.filter _) (fun i hi j hj e => h.n2 (key hi).1 (key hj).1 (key hi).2 (key hj).2 e)⟩
  · rcases List.mem_cons.1 hq with e | hq
    · exact h.ap e
    · obtain ⟨i, hi, e⟩ := List.mem_map.1 hq
      exact (h.n1 (key hi).1 (key hi).2).1 e
  · obtain ⟨i, hi, e⟩ := List.mem_map.1 hq
    exact (h.n1 (key hi).1 (key hi).2).2 e

theorem pKer_ok {w : World} {kb bo bc : Nat} {nd : Nat → Nat} {S : KP} {C : CP} (h : KAt w kb bo bc nd S C) : PcOk (pKer kb bo bc nd S C) w where
  A := h
  st w1 w2 hs h1 := ⟨by rw [hs kb (List.mem_cons_self ..)]; exact h1.ker, CapAt.stable w1 w2 (fun b hb => hs b (List.mem_cons_of_mem _ hb)) h1.cap, h1.nk⟩
  low b hb := by
    rcases List.mem_cons.1 hb with e | hb
    · rw [e]; exact lt_of_heap h.ker
    · exact h.cap.low b hb
  nd := List.nodup_cons.2 ⟨h.nk, capF_nodup h.cap⟩

/-- Behind a step: the piece's blocks. -/
theorem ker_sub {kb bo bc n : Nat} {nd nd' : Nat → Nat} {S S' : KP} {C C' : CP} (h : ∀ x ∈ capF bo bc nd' C', x ∈ capF bo bc nd C ∨ n ≤ x) : ∀ b ∈ (pKer kb bo bc nd' S' C').F, b ∈ (pKer kb bo bc nd S C).F ∨ n ≤ b := fun b hb => by
  rcases List.mem_cons.1 hb with e | hb
  · exact .inl (by rw [e]; exact List.mem_cons_self ..)
  · exact (h b hb).imp (fun q => List.mem_cons_of_mem _ q) id

theorem ker_new {kb bo bc n n' : Nat} {nd nd' : Nat → Nat} {C C' : CP} (hk : kb ∉ capF bo bc nd C) (hl : kb < n) (h : ∀ x ∈ capF bo bc nd' C', x ∈ capF bo bc nd C ∨ n ≤ x) (_ : n ≤ n') : kb ∉ capF bo bc nd' C' := fun hq => (h kb hq).elim hk (fun e => by omega)

/-! Flags -/

def flC (b : Bool) : List Value := [.bool b]
theorem flC_len (b : Bool) : (flC b).length = 1 := rfl
def mkC (M : Nat → Bool) : List Value := [] ++ (arr 16 flC M ++ [])
theorem mk_len {M : Nat → Bool} : (mkC M).length = 16 := by simp only [mkC, List.length_append, arr_len flC_len]; rfl
theorem mk_in {M : Nat → Bool} {o : Nat} (h : o ≤ 16) : Nat.ble o (mkC M).length = true := by rw [mk_len]; exact Nat.ble_eq_true_of_le h
theorem mk_read {M : Nat → Bool} {i o : Nat} (hi : i < 16) (ho : o = i) {b : Bool} (hb : M i = b) : cellsAre (mkC M) o [.bool b] :=
  mid_read flC_len (pre := []) (k := 0) hi ⟨by rw [hb]; rfl, trivial⟩ (by simp [ho])
theorem mk_write {M : Nat → Bool} {i o : Nat} (hi : i < 16) (ho : o = i) (b : Bool) : splice (mkC M) o [.bool b] = mkC (upd M i b) :=
  mid_write flC_len (pre := []) (k := 0) (a' := b) hi (Nat.le_refl _) rfl (by simp [ho])
theorem mk_zero : mkC (fun _ => false) = [.bool false, .bool false, .bool false, .bool false, .bool false, .bool false, .bool false, .bool false, .bool false, .bool false, .bool false, .bool false, .bool false, .bool false, .bool false, .bool false] := rfl

end Go.Kn

namespace Go.Proofs.Qxb6500918aDoor
open Go.Sx Go.Kn

theorem scr_fr {w w' : World} {o : Option Addr} {ops : List OpV} (h : Scr w o ops) (hf : Fr [] w w') : Scr w' o ops := by
  refine ⟨fun {i x} hx => ?_⟩
  obtain ⟨b, k, h1, h2, h3⟩ := h.get hx
  exact ⟨b, k, h1, Nat.lt_of_lt_of_le h2 hf.size, fun j y hy => (h3 j y hy).fr hf h2⟩

theorem signalled_ok {kb bo bc : Nat} {nd : Nat → Nat} {S : KP} (rS : RI S) {C : CP} (hC : CI C) {Q : QL → List Nat} (hQ : LIQ S Q) {kb2 bo2 bc2 : Nat} {nd2 : Nat → Nat} {S2 : KP} (rS2 : RI S2) {C2 : CP} (hC2 : CI C2) {Q2 : QL → List Nat} (hQ2 : LIQ S2 Q2) {r : Rf} (hr : 0 ≤ r.idx ∧ r.idx < 256) {badge : Int}
    (hs : SigFact S Q C.ent S2 Q2 C2.ent r badge) {w : World} (h : KAt w kb bo bc nd S C) (h2 : KAt w kb2 bo2 bc2 nd2 S2 C2) :
    Calls Tryd.prog 32 #[.pointer (some ⟨kb, 0, none⟩), .pointer (some ⟨kb2, 0, none⟩), .agg #[.int .u16 r.idx, .int .u32 r.gen], .int .u64 badge] w fun e w' => e = .returned (.bool true) ∧ Fr [] w w' := by
  have hr' : 0 ≤ r.idx ∧ r.idx ≤ 65535 := ⟨hr.1, by omega⟩
  rcases hs with ⟨wd, e1, e2⟩ | ⟨x, rs, wd, tt, ok, hx, hrl, e1, e2, e3, hbd, hst⟩
  · exact signalled_0 kb bo bc S rS C.ent hC.reg.1 Q hQ kb2 bo2 bc2 S2 rS2 C2.ent hC2.reg.1 Q2 hQ2 r hr' badge wd e1 e2 w h.ker h.cap.st h.ne h2.ker h2.cap.st h2.ne
  · rcases hst with hst | hst
    · exact signalled_1 kb bo bc S rS C.ent hC.reg.1 Q hQ kb2 bo2 bc2 S2 rS2 C2.ent hC2.reg.1 Q2 hQ2 r hr' badge wd x hx rs hrl e1 e2 tt ok e3 hbd hst w h.ker h.cap.st h.ne h2.ker h2.cap.st h2.ne
    · exact signalled_2 kb bo bc S rS C.ent hC.reg.1 Q hQ kb2 bo2 bc2 S2 rS2 C2.ent hC2.reg.1 Q2 hQ2 r hr' badge wd x hx rs hrl e1 e2 tt ok e3 hbd hst w h.ker h.cap.st h.ne h2.ker h2.cap.st h2.ne

end Go.Proofs.Qxb6500918aDoor
