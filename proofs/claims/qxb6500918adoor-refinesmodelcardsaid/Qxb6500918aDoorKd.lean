/-
  The kernel's state as plain data, and how it lies in cells.
-/
import Derived.Test.Qxb6500918aDoorSxN
namespace Go.Kn
open Go.Sx

/-! Arrays as functions -/

def upd {α : Type} (f : Nat → α) (i : Nat) (a : α) : Nat → α := fun j => if j = i then a else f j

theorem upd_same {α : Type} (f : Nat → α) (i : Nat) (a : α) : upd f i a i = a := by simp [upd]
theorem upd_other {α : Type} (f : Nat → α) {i j : Nat} (a : α) (h : j ≠ i) : upd f i a j = f j := by simp [upd, h]
theorem upd_self {α : Type} (f : Nat → α) (i : Nat) : upd f i (f i) = f := by funext j; unfold upd; split <;> simp_all

def arr {α : Type} (n : Nat) (enc : α → List Value) (f : Nat → α) : List Value := (List.range n).flatMap (fun i => enc (f i))

section
variable {α : Type} {enc : α → List Value} {sz : Nat}

theorem arr_succ (n : Nat) (f : Nat → α) : arr (n + 1) enc f = arr n enc f ++ enc (f n) := by
  simp [arr, List.range_succ]

theorem arr_len (hl : ∀ a, (enc a).length = sz) : ∀ (n : Nat) (f : Nat → α), (arr n enc f).length = n * sz
  | 0, f => by simp [arr]
  | n + 1, f => by rw [arr_succ, List.length_append, arr_len hl n f, hl, Nat.succ_mul]

theorem cellsAre_app_right {a b vs : List Value} {k : Nat} (h : cellsAre b k vs) : cellsAre (a ++ b) (a.length + k) vs := by
  induction vs generalizing k with
  | nil => trivial
  | cons v vs ih =>
    refine ⟨?_, ?_⟩
    · have := h.1
      rw [nth_eq] at this ⊢
      rw [List.getElem?_append_right (by omega)]
      simpa using this
    · have := ih h.2
      rw [Nat.add_assoc]
      exact this

theorem cellsAre_app_left {a b vs : List Value} {k : Nat} (h : cellsAre a k vs) : cellsAre (a ++ b) k vs := by
  induction vs generalizing k with
  | nil => trivial
  | cons v vs ih =>
    refine ⟨?_, ih h.2⟩
    have := h.1
    rw [nth_eq] at this ⊢
    have hk : k < a.length := (List.getElem?_eq_some_iff.1 this).1
    rw [List.getElem?_append_left hk]
    exact this

theorem arr_read (hl : ∀ a, (enc a).length = sz) : ∀ {n : Nat} {f : Nat → α} {i k : Nat} {vs : List Value}, i < n → cellsAre (enc (f i)) k vs → cellsAre (arr n enc f) (i * sz + k) vs
  | 0, _, _, _, _, hi, _ => by omega
  | n + 1, f, i, k, vs, hi, h => by
    rw [arr_succ]
    rcases Nat.lt_or_ge i n with h1 | h1
    · exact cellsAre_app_left (arr_read hl h1 h)
    · obtain rfl : i = n := by omega
      have := cellsAre_app_right (a := arr i enc f) h
      rw [arr_len hl] at this
      exact this

theorem splice_app_left : ∀ (vs a b : List Value) (k : Nat), k + vs.length ≤ a.length → splice (a ++ b) k vs = splice a k vs ++ b
  | [], a, b, k, _ => rfl
  | v :: vs, a, b, k, h => by
    simp only [List.length_cons] at h
    simp only [splice, setL_eq]
    rw [List.set_append_left _ _ (by omega), splice_app_left vs (a.set k v) b (k + 1) (by rw [List.length_set]; omega)]

theorem splice_app_right : ∀ (vs a b : List Value) (k : Nat), splice (a ++ b) (a.length + k) vs = a ++ splice b k vs
  | [], a, b, k => rfl
  | v :: vs, a, b, k => by
    simp only [splice, setL_eq]
    rw [List.set_append_right _ _ (by omega), Nat.add_sub_cancel_left, Nat.add_assoc, splice_app_right vs a (b.set k v) (k + 1)]

theorem arr_upd_out : ∀ {n : Nat} {f : Nat → α} {i : Nat} {a : α}, n ≤ i → arr n enc (upd f i a) = arr n enc f
  | 0, _, _, _, _ => rfl
  | n + 1, f, i, a, h => by
    rw [arr_succ, arr_succ, arr_upd_out (by omega), upd_other _ _ (by omega)]

theorem arr_write (hl : ∀ a, (enc a).length = sz) : ∀ {n : Nat} {f : Nat → α} {i k : Nat} {vs : List Value} {a' : α}, i < n → k + vs.length ≤ sz → splice (enc (f i)) k vs = enc a' →
    splice (arr n enc f) (i * sz + k) vs = arr n enc (upd f i a')
  | 0, _, _, _, _, _, hi, _, _ => by omega
  | n + 1, f, i, k, vs, a', hi, hk, h => by
    rw [arr_succ, arr_succ]
    rcases Nat.lt_or_ge i n with h1 | h1
    · have hm : i * sz + sz ≤ n * sz := by rw [← Nat.succ_mul]; exact Nat.mul_le_mul_right _ h1
      rw [splice_app_left _ _ _ _ (by rw [arr_len hl]; omega), arr_write hl h1 hk h, upd_other _ _ (by omega)]
    · obtain rfl : i = n := by omega
      have := splice_app_right vs (arr i enc f) (enc (f i)) k
      rw [arr_len hl] at this
      rw [this, h, arr_upd_out (Nat.le_refl _), upd_same]

/-- An array between other cells. -/
theorem mid_read (hl : ∀ a, (enc a).length = sz) {pre post : List Value} {n : Nat} {f : Nat → α} {i k o : Nat} {vs : List Value} (hi : i < n) (h : cellsAre (enc (f i)) k vs) (ho : o = pre.length + (i * sz + k)) :
    cellsAre (pre ++ (arr n enc f ++ post)) o vs := by
  subst ho
  exact cellsAre_app_right (cellsAre_app_left (arr_read hl hi h))

theorem mid_write (hl : ∀ a, (enc a).length = sz) {pre post : List Value} {n : Nat} {f : Nat → α} {i k o : Nat} {vs : List Value} {a' : α} (hi : i < n) (hk : k + vs.length ≤ sz) (h : splice (enc (f i)) k vs = enc a') (ho : o = pre.length + (i * sz + k)) :
    splice (pre ++ (arr n enc f ++ post)) o vs = pre ++ (arr n enc (upd f i a') ++ post) := by
  subst ho
  have hm : i * sz + sz ≤ n * sz := by rw [← Nat.succ_mul]; exact Nat.mul_le_mul_right _ hi
  rw [splice_app_right, splice_app_left _ _ _ _ (by rw [arr_len hl]; omega), arr_write hl hi hk h]

end

/-! The data -/

structure Rf where
  idx : Int
  gen : Int
deriving DecidableEq

structure Tcb where
  st : Int
  prio : Int
  wait : Rf
  cs : Rf
  rep : Rf
  badge : Int
  m0 : Int
  m1 : Int
  m2 : Int
  m3 : Int
  len : Int
  got : Int
  xfer : Int
  dst : Int
  grant : Bool
  call : Bool
  next : Int
  prev : Int

structure Qu where
  head : Int
  tail : Int
  n : Int

structure Irq where
  ntfn : Rf
  badge : Int
  masked : Bool

structure Ent where
  ty : Int
  gen : Int
  base : Int
  size : Int

structure Cp where
  ty : Int
  obj : Rf
  rights : Int
  badge : Int

structure Cel where
  cap : Cp
  parent : Int

def tcbC (t : Tcb) : List Value := [.int .u8 t.st, .int .u8 t.prio, .int .u16 t.wait.idx, .int .u32 t.wait.gen, .int .u16 t.cs.idx, .int .u32 t.cs.gen, .int .u16 t.rep.idx, .int .u32 t.rep.gen, .int .u64 t.badge, .int .u64 t.m0, .int .u64 t.m1, .int .u64 t.m2, .int .u64 t.m3, .int .u8 t.len, .int .u8 t.got, .int .u32 t.xfer, .int .u32 t.dst, .bool t.grant, .bool t.call, .int .i16 t.next, .int .i16 t.prev]
def quC (q : Qu) : List Value := [.int .i16 q.head, .int .i16 q.tail, .int .u32 q.n]
def wdC (n : Int) : List Value := [.int .u64 n]
def irqC (q : Irq) : List Value := [.int .u16 q.ntfn.idx, .int .u32 q.ntfn.gen, .int .u64 q.badge, .bool q.masked]
def entC (e : Ent) : List Value := [.int .u8 e.ty, .int .u32 e.gen, .int .u64 e.base, .int .u64 e.size]
def cpC (c : Cp) : List Value := [.int .u8 c.ty, .int .u16 c.obj.idx, .int .u32 c.obj.gen, .int .u8 c.rights, .int .u64 c.badge]
def celC (c : Cel) : List Value := [.int .u8 c.cap.ty, .int .u16 c.cap.obj.idx, .int .u32 c.cap.obj.gen, .int .u8 c.cap.rights, .int .u64 c.cap.badge, .int .i64 c.parent]

theorem tcbC_len (t : Tcb) : (tcbC t).length = 21 := rfl
theorem quC_len (t : Qu) : (quC t).length = 3 := rfl
theorem wdC_len (t : Int) : (wdC t).length = 1 := rfl
theorem irqC_len (t : Irq) : (irqC t).length = 4 := rfl
theorem entC_len (t : Ent) : (entC t).length = 4 := rfl
theorem celC_len (t : Cel) : (celC t).length = 6 := rfl

/-- What the kernel itself keeps. -/
structure KP where
  tcb : Nat → Tcb
  wq : Nat → Qu
  word : Nat → Int
  rdy : Nat → Qu
  busy : Int
  cur : Int
  irq : Nat → Irq
  now : Int

def kpre (bo bc : Nat) : List Value := [.pointer (some ⟨bo, 0, none⟩), .pointer (some ⟨bc, 0, none⟩)]
def bcC (S : KP) : List Value := [.int .u8 S.busy, .int .i16 S.cur]
def kC (bo bc : Nat) (S : KP) : List Value :=
  kpre bo bc ++ (arr 256 tcbC S.tcb ++ (arr 256 quC S.wq ++ (arr 256 wdC S.word ++ (arr 8 quC S.rdy ++ (bcC S ++ (arr 16 irqC S.irq ++ [.int .u64 S.now]))))))

section
variable {bo bc : Nat} {S : KP} {i k o : Nat} {vs : List Value}

theorem k_len : (kC bo bc S).length = 6493 := by
  simp only [kC, List.length_append, arr_len tcbC_len, arr_len quC_len, arr_len wdC_len, arr_len irqC_len]
  rfl

theorem k_tcb (hi : i < 256) (ho : o = 2 + (i * 21 + k)) (h : cellsAre (tcbC (S.tcb i)) k vs) : cellsAre (kC bo bc S) o vs := mid_read tcbC_len (pre := kpre bo bc) hi h ho
theorem k_tcb_w {a' : Tcb} (hi : i < 256) (hk : k + vs.length ≤ 21) (ho : o = 2 + (i * 21 + k)) (h : splice (tcbC (S.tcb i)) k vs = tcbC a') : splice (kC bo bc S) o vs = kC bo bc { S with tcb := upd S.tcb i a' } :=
  mid_write tcbC_len (pre := kpre bo bc) hi hk h ho

theorem app3 (a b c : List Value) : a ++ (b ++ c) = (a ++ b) ++ c := (List.append_assoc a b c).symm

theorem kC_wq : kC bo bc S = (kpre bo bc ++ arr 256 tcbC S.tcb) ++ (arr 256 quC S.wq ++ (arr 256 wdC S.word ++ (arr 8 quC S.rdy ++ (bcC S ++ (arr 16 irqC S.irq ++ [.int .u64 S.now]))))) := by
  unfold kC; rw [app3 (kpre bo bc)]
theorem kpre_wq : (kpre bo bc ++ arr 256 tcbC S.tcb).length = 5378 := by rw [List.length_append, arr_len tcbC_len]; rfl
theorem k_wq (hi : i < 256) (ho : o = 5378 + (i * 3 + k)) (h : cellsAre (quC (S.wq i)) k vs) : cellsAre (kC bo bc S) o vs := by
  rw [kC_wq]; exact mid_read quC_len hi h (by rw [kpre_wq]; exact ho)
theorem k_wq_w {a' : Qu} (hi : i < 256) (hk : k + vs.length ≤ 3) (ho : o = 5378 + (i * 3 + k)) (h : splice (quC (S.wq i)) k vs = quC a') : splice (kC bo bc S) o vs = kC bo bc { S with wq := upd S.wq i a' } := by
  rw [kC_wq, kC_wq]; exact mid_write quC_len hi hk h (by rw [kpre_wq]; exact ho)

theorem kC_word : kC bo bc S = (kpre bo bc ++ arr 256 tcbC S.tcb ++ arr 256 quC S.wq) ++ (arr 256 wdC S.word ++ (arr 8 quC S.rdy ++ (bcC S ++ (arr 16 irqC S.irq ++ [.int .u64 S.now])))) := by
  rw [kC_wq, app3 (kpre bo bc ++ arr 256 tcbC S.tcb)]
theorem kpre_word : (kpre bo bc ++ arr 256 tcbC S.tcb ++ arr 256 quC S.wq).length = 6146 := by rw [List.length_append, kpre_wq, arr_len quC_len]
theorem k_word (hi : i < 256) (ho : o = 6146 + (i * 1 + k)) (h : cellsAre (wdC (S.word i)) k vs) : cellsAre (kC bo bc S) o vs := by
  rw [kC_word]; exact mid_read wdC_len hi h (by rw [kpre_word]; exact ho)
theorem k_word_w {a' : Int} (hi : i < 256) (hk : k + vs.length ≤ 1) (ho : o = 6146 + (i * 1 + k)) (h : splice (wdC (S.word i)) k vs = wdC a') : splice (kC bo bc S) o vs = kC bo bc { S with word := upd S.word i a' } := by
  rw [kC_word, kC_word]; exact mid_write wdC_len hi hk h (by rw [kpre_word]; exact ho)

theorem kC_rdy : kC bo bc S = (kpre bo bc ++ arr 256 tcbC S.tcb ++ arr 256 quC S.wq ++ arr 256 wdC S.word) ++ (arr 8 quC S.rdy ++ (bcC S ++ (arr 16 irqC S.irq ++ [.int .u64 S.now]))) := by
  rw [kC_word, app3 (kpre bo bc ++ arr 256 tcbC S.tcb ++ arr 256 quC S.wq)]
theorem kpre_rdy : (kpre bo bc ++ arr 256 tcbC S.tcb ++ arr 256 quC S.wq ++ arr 256 wdC S.word).length = 6402 := by rw [List.length_append, kpre_word, arr_len wdC_len]
theorem k_rdy (hi : i < 8) (ho : o = 6402 + (i * 3 + k)) (h : cellsAre (quC (S.rdy i)) k vs) : cellsAre (kC bo bc S) o vs := by
  rw [kC_rdy]; exact mid_read quC_len hi h (by rw [kpre_rdy]; exact ho)
theorem k_rdy_w {a' : Qu} (hi : i < 8) (hk : k + vs.length ≤ 3) (ho : o = 6402 + (i * 3 + k)) (h : splice (quC (S.rdy i)) k vs = quC a') : splice (kC bo bc S) o vs = kC bo bc { S with rdy := upd S.rdy i a' } := by
  rw [kC_rdy, kC_rdy]; exact mid_write quC_len hi hk h (by rw [kpre_rdy]; exact ho)

theorem kC_bc : kC bo bc S = (kpre bo bc ++ arr 256 tcbC S.tcb ++ arr 256 quC S.wq ++ arr 256 wdC S.word ++ arr 8 quC S.rdy) ++ (bcC S ++ (arr 16 irqC S.irq ++ [.int .u64 S.now])) := by
  rw [kC_rdy, app3 (kpre bo bc ++ arr 256 tcbC S.tcb ++ arr 256 quC S.wq ++ arr 256 wdC S.word)]
theorem kpre_bc : (kpre bo bc ++ arr 256 tcbC S.tcb ++ arr 256 quC S.wq ++ arr 256 wdC S.word ++ arr 8 quC S.rdy).length = 6426 := by rw [List.length_append, kpre_rdy, arr_len quC_len]
theorem k_bc (hk : cellsAre (bcC S) k vs) (ho : o = 6426 + k) : cellsAre (kC bo bc S) o vs := by
  subst ho
  have := cellsAre_app_right (a := kpre bo bc ++ arr 256 tcbC S.tcb ++ arr 256 quC S.wq ++ arr 256 wdC S.word ++ arr 8 quC S.rdy) (cellsAre_app_left (b := arr 16 irqC S.irq ++ [.int .u64 S.now]) hk)
  rw [kpre_bc, ← kC_bc] at this
  exact this
theorem k_busy : cellsAre (kC bo bc S) 6426 [.int .u8 S.busy] := k_bc (k := 0) ⟨rfl, trivial⟩ rfl
theorem k_cur : cellsAre (kC bo bc S) 6427 [.int .i16 S.cur] := k_bc (k := 1) ⟨rfl, trivial⟩ rfl
theorem k_busy_w (n : Int) : splice (kC bo bc S) 6426 [.int .u8 n] = kC bo bc { S with busy := n } := by
  rw [kC_bc, kC_bc]
  have := splice_app_right [.int .u8 n] (kpre bo bc ++ arr 256 tcbC S.tcb ++ arr 256 quC S.wq ++ arr 256 wdC S.word ++ arr 8 quC S.rdy) (bcC S ++ (arr 16 irqC S.irq ++ [.int .u64 S.now])) 0
  rw [kpre_bc] at this
  exact this
theorem k_cur_w (n : Int) : splice (kC bo bc S) 6427 [.int .i16 n] = kC bo bc { S with cur := n } := by
  rw [kC_bc, kC_bc]
  have := splice_app_right [.int .i16 n] (kpre bo bc ++ arr 256 tcbC S.tcb ++ arr 256 quC S.wq ++ arr 256 wdC S.word ++ arr 8 quC S.rdy) (bcC S ++ (arr 16 irqC S.irq ++ [.int .u64 S.now])) 1
  rw [kpre_bc] at this
  exact this

theorem kC_irq : kC bo bc S = (kpre bo bc ++ arr 256 tcbC S.tcb ++ arr 256 quC S.wq ++ arr 256 wdC S.word ++ arr 8 quC S.rdy ++ bcC S) ++ (arr 16 irqC S.irq ++ [.int .u64 S.now]) := by
  rw [kC_bc, app3 (kpre bo bc ++ arr 256 tcbC S.tcb ++ arr 256 quC S.wq ++ arr 256 wdC S.word ++ arr 8 quC S.rdy)]
theorem kpre_irq : (kpre bo bc ++ arr 256 tcbC S.tcb ++ arr 256 quC S.wq ++ arr 256 wdC S.word ++ arr 8 quC S.rdy ++ bcC S).length = 6428 := by rw [List.length_append, kpre_bc]; rfl
theorem k_irq (hi : i < 16) (ho : o = 6428 + (i * 4 + k)) (h : cellsAre (irqC (S.irq i)) k vs) : cellsAre (kC bo bc S) o vs := by
  rw [kC_irq]; exact mid_read irqC_len hi h (by rw [kpre_irq]; exact ho)
theorem k_irq_w {a' : Irq} (hi : i < 16) (hk : k + vs.length ≤ 4) (ho : o = 6428 + (i * 4 + k)) (h : splice (irqC (S.irq i)) k vs = irqC a') : splice (kC bo bc S) o vs = kC bo bc { S with irq := upd S.irq i a' } := by
  rw [kC_irq, kC_irq]; exact mid_write irqC_len hi hk h (by rw [kpre_irq]; exact ho)

theorem kC_now : kC bo bc S = (kpre bo bc ++ arr 256 tcbC S.tcb ++ arr 256 quC S.wq ++ arr 256 wdC S.word ++ arr 8 quC S.rdy ++ bcC S ++ arr 16 irqC S.irq) ++ [.int .u64 S.now] := by
  rw [kC_irq, app3 (kpre bo bc ++ arr 256 tcbC S.tcb ++ arr 256 quC S.wq ++ arr 256 wdC S.word ++ arr 8 quC S.rdy ++ bcC S)]
theorem kpre_now : (kpre bo bc ++ arr 256 tcbC S.tcb ++ arr 256 quC S.wq ++ arr 256 wdC S.word ++ arr 8 quC S.rdy ++ bcC S ++ arr 16 irqC S.irq).length = 6492 := by rw [List.length_append, kpre_irq, arr_len irqC_len]
theorem k_now : cellsAre (kC bo bc S) 6492 [.int .u64 S.now] := by
  have := cellsAre_app_right (a := kpre bo bc ++ arr 256 tcbC S.tcb ++ arr 256 quC S.wq ++ arr 256 wdC S.word ++ arr 8 quC S.rdy ++ bcC S ++ arr 16 irqC S.irq) (b := [.int .u64 S.now]) (k := 0) (vs := [.int .u64 S.now]) ⟨rfl, trivial⟩
  rw [kpre_now, ← kC_now] at this
  exact this
theorem k_now_w (n : Int) : splice (kC bo bc S) 6492 [.int .u64 n] = kC bo bc { S with now := n } := by
  rw [kC_now, kC_now]
  have := splice_app_right [.int .u64 n] (kpre bo bc ++ arr 256 tcbC S.tcb ++ arr 256 quC S.wq ++ arr 256 wdC S.word ++ arr 8 quC S.rdy ++ bcC S ++ arr 16 irqC S.irq) [.int .u64 S.now] 0
  rw [kpre_now] at this
  exact this
theorem k_objs : cellsAre (kC bo bc S) 0 [.pointer (some ⟨bo, 0, none⟩)] := cellsAre_app_left (a := kpre bo bc) ⟨rfl, trivial⟩
theorem k_caps : cellsAre (kC bo bc S) 1 [.pointer (some ⟨bc, 0, none⟩)] := cellsAre_app_left (a := kpre bo bc) ⟨rfl, trivial⟩
end

/-! A queue of the kernel, wherever it lies -/

inductive QL where
  | w (i : Nat)
  | r (p : Nat)

def QL.ok : QL → Prop
  | .w i => i < 256
  | .r p => p < 8
def QL.off : QL → Nat
  | .w i => 5378 + i * 3
  | .r p => 6402 + p * 3
def KP.q (S : KP) : QL → Qu
  | .w i => S.wq i
  | .r p => S.rdy p
def KP.setQ (S : KP) : QL → Qu → KP
  | .w i, q => { S with wq := upd S.wq i q }
  | .r p, q => { S with rdy := upd S.rdy p q }
def KP.setT (S : KP) (i : Nat) (t : Tcb) : KP := { S with tcb := upd S.tcb i t }

theorem k_q {bo bc : Nat} {S : KP} {L : QL} {k o : Nat} {vs : List Value} (hL : L.ok) (ho : o = L.off + k) (h : cellsAre (quC (S.q L)) k vs) : cellsAre (kC bo bc S) o vs := by
  cases L with
  | w i => exact k_wq hL (by simp only [QL.off] at ho; omega) h
  | r p => exact k_rdy hL (by simp only [QL.off] at ho; omega) h
theorem k_q_w {bo bc : Nat} {S : KP} {L : QL} {k o : Nat} {vs : List Value} {a' : Qu} (hL : L.ok) (hk : k + vs.length ≤ 3) (ho : o = L.off + k) (h : splice (quC (S.q L)) k vs = quC a') : splice (kC bo bc S) o vs = kC bo bc (S.setQ L a') := by
  cases L with
  | w i => exact k_wq_w hL hk (by simp only [QL.off] at ho; omega) h
  | r p => exact k_rdy_w hL hk (by simp only [QL.off] at ho; omega) h

theorem q_in {L : QL} (h : L.ok) {k : Nat} (hk : k ≤ 3) : L.off + k ≤ 6493 := by
  cases L with
  | w i => simp only [QL.off, QL.ok] at *; omega
  | r p => simp only [QL.off, QL.ok] at *; omega

end Go.Kn
