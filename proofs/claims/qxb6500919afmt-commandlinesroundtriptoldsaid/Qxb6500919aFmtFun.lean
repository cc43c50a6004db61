/-
  The plain functions that the kernel's model and the wire layer compute.
-/
import Derived.Test.Qxb6500919aFmtDat
namespace Go.Rp
open Go.Sx

def u64ok (n : Int) : Prop := 0 ≤ n ∧ n ≤ 18446744073709551615

def Ev.ok (e : Ev) : Prop := (0 ≤ e.kind ∧ e.kind ≤ 255) ∧ (0 ≤ e.pick ∧ e.pick ≤ 4294967295) ∧ u64ok e.arg

structure Mach.ok (m : Mach) : Prop where
  now : u64ok m.now
  cur : -1 ≤ m.cur ∧ m.cur ≤ 3
  s0 : 0 ≤ m.s0 ∧ m.s0 ≤ 255
  s1 : 0 ≤ m.s1 ∧ m.s1 ≤ 255
  s2 : 0 ≤ m.s2 ∧ m.s2 ≤ 255
  s3 : 0 ≤ m.s3 ∧ m.s3 ≤ 255
  r0 : u64ok m.r0
  r1 : u64ok m.r1
  r2 : u64ok m.r2
  r3 : u64ok m.r3
  word : u64ok m.word

def Mach.st (m : Mach) : Nat → Int
  | 0 => m.s0
  | 1 => m.s1
  | 2 => m.s2
  | _ => m.s3

def Mach.rg (m : Mach) : Nat → Int
  | 0 => m.r0
  | 1 => m.r1
  | 2 => m.r2
  | _ => m.r3

def Mach.setSt (m : Mach) (i : Nat) (v : Int) : Mach :=
  match i with
  | 0 => { m with s0 := v }
  | 1 => { m with s1 := v }
  | 2 => { m with s2 := v }
  | _ => { m with s3 := v }

def Mach.setRg (m : Mach) (i : Nat) (v : Int) : Mach :=
  match i with
  | 0 => { m with r0 := v }
  | 1 => { m with r1 := v }
  | 2 => { m with r2 := v }
  | _ => { m with r3 := v }

theorem lt4 {i : Nat} (h : i < 4) : i = 0 ∨ i = 1 ∨ i = 2 ∨ i = 3 := by omega

theorem mach_st (m : Mach) {i : Nat} (h : i < 4) : cellsAre (machC m) (2 + i) [.int .u8 (m.st i)] := by
  rcases lt4 h with rfl | rfl | rfl | rfl <;> exact ⟨rfl, trivial⟩
theorem mach_rg (m : Mach) {i : Nat} (h : i < 4) : cellsAre (machC m) (6 + i) [.int .u64 (m.rg i)] := by
  rcases lt4 h with rfl | rfl | rfl | rfl <;> exact ⟨rfl, trivial⟩
theorem mach_setSt (m : Mach) {i : Nat} (h : i < 4) (v : Int) : splice (machC m) (2 + i) [.int .u8 v] = machC (m.setSt i v) := by
  rcases lt4 h with rfl | rfl | rfl | rfl <;> rfl
theorem mach_setRg (m : Mach) {i : Nat} (h : i < 4) (v : Int) : splice (machC m) (6 + i) [.int .u64 v] = machC (m.setRg i v) := by
  rcases lt4 h with rfl | rfl | rfl | rfl <;> rfl

theorem Mach.ok.st {m : Mach} (h : m.ok) (i : Nat) : 0 ≤ m.st i ∧ m.st i ≤ 255 := by
  match i with
  | 0 => exact h.s0
  | 1 => exact h.s1
  | 2 => exact h.s2
  | _ + 3 => exact h.s3
theorem Mach.ok.rg {m : Mach} (h : m.ok) (i : Nat) : u64ok (m.rg i) := by
  match i with
  | 0 => exact h.r0
  | 1 => exact h.r1
  | 2 => exact h.r2
  | _ + 3 => exact h.r3
theorem Mach.ok.setSt {m : Mach} (h : m.ok) (i : Nat) {v : Int} (hv : 0 ≤ v ∧ v ≤ 255) : (m.setSt i v).ok := by
  match i with
  | 0 => exact { h with s0 := hv }
  | 1 => exact { h with s1 := hv }
  | 2 => exact { h with s2 := hv }
  | _ + 3 => exact { h with s3 := hv }
theorem Mach.ok.setRg {m : Mach} (h : m.ok) (i : Nat) {v : Int} (hv : u64ok v) : (m.setRg i v).ok := by
  match i with
  | 0 => exact { h with r0 := hv }
  | 1 => exact { h with r1 := hv }
  | 2 => exact { h with r2 := hv }
  | _ + 3 => exact { h with r3 := hv }

/-! A read and a store in the midst of a block -/

theorem cellsAre_mid {pre cs post : List Value} : ∀ {vs : List Value} {j : Nat}, cellsAre cs j vs → cellsAre (pre ++ cs ++ post) (pre.length + j) vs
  | [], _, _ => trivial
  | v :: vs, j, h => by
    obtain ⟨h1, h2⟩ := h
    refine ⟨?_, by simpa [Nat.add_assoc] using cellsAre_mid (pre := pre) (post := post) h2⟩
    rw [nth_eq] at h1 ⊢
    have hj := (List.getElem?_eq_some_iff.1 h1).1
    rw [List.append_assoc, List.getElem?_append_right (by omega), Nat.add_sub_cancel_left, List.getElem?_append_left hj]
    exact h1

theorem splice_mid {pre cs post : List Value} : ∀ {vs : List Value} {j : Nat} {cs' : List Value}, j + vs.length ≤ cs.length → splice cs j vs = cs' → splice (pre ++ cs ++ post) (pre.length + j) vs = pre ++ cs' ++ post := by
  intro vs j cs' hl h
  subst h
  rw [splice_eq _ _ _ hl, splice_eq _ _ _ (by simp; omega)]
  have h1 : (pre ++ cs ++ post).take (pre.length + j) = pre ++ cs.take j := by
    rw [List.append_assoc, List.take_length_add_append, List.take_append_of_le_length (by omega)]
  have h2 : (pre ++ cs ++ post).drop (pre.length + j + vs.length) = cs.drop (j + vs.length) ++ post := by
    rw [List.append_assoc, Nat.add_assoc, List.drop_length_add_append, List.drop_append_of_le_length (by omega)]
  rw [h1, h2]
  simp

/-! varints, the digest -/

def uvar : Nat → Int → List Int
  | 0, v => [v]
  | k + 1, v => if 128 ≤ v then (v % 128 + 128) :: uvar k (v / 128) else [v]

def u8C (x : Int) : List Value := [.int .u8 x]
def u8s (l : List Int) : List Value := l.flatMap u8C


theorem uvar_len : ∀ (k : Nat) (v : Int), (uvar k v).length ≤ k + 1
  | 0, v => by simp [uvar]
  | k + 1, v => by
    simp only [uvar]
    split
    · simp; exact uvar_len k _
    · simp

theorem uvar_byte : ∀ (k : Nat) (v : Int), 0 ≤ v → (v < 128 ^ (k + 1)) → ∀ x ∈ uvar k v, 0 ≤ x ∧ x ≤ 255
  | 0, v, h0, h1, x, hx => by simp [uvar] at hx; simp at h1; omega
  | k + 1, v, h0, h1, x, hx => by
    simp only [uvar] at hx
    split at hx
    · rcases List.mem_cons.1 hx with rfl | hx
      · omega
      · refine uvar_byte k (v / 128) (by omega) ?_ x hx
        rw [Int.pow_succ] at h1
        exact Int.ediv_lt_of_lt_mul (by omega) (by omega)
    · simp at hx; omega

def mbytes (m : Mach) : List Int :=
  uvar 9 m.now ++ uvar 9 (m.cur + 1) ++ (uvar 9 m.s0 ++ uvar 9 m.r0) ++ (uvar 9 m.s1 ++ uvar 9 m.r1) ++ (uvar 9 m.s2 ++ uvar 9 m.r2) ++ (uvar 9 m.s3 ++ uvar 9 m.r3) ++ uvar 9 m.word

def mbytesTo (m : Mach) : Nat → List Int
  | 0 => uvar 9 m.now ++ uvar 9 (m.cur + 1)
  | i + 1 => mbytesTo m i ++ (uvar 9 (m.st i) ++ uvar 9 (m.rg i))

theorem mbytes_to (m : Mach) : mbytesTo m 4 ++ uvar 9 m.word = mbytes m := by
  simp [mbytesTo, mbytes, Mach.st, Mach.rg]

theorem mbytesTo_len (m : Mach) : ∀ i, (mbytesTo m i).length ≤ 20 + 20 * i
  | 0 => by
    have h1 := uvar_len 9 m.now
    have h2 := uvar_len 9 (m.cur + 1)
    simp [mbytesTo]; omega
  | i + 1 => by
    have h0 := mbytesTo_len m i
    have h1 := uvar_len 9 (m.st i)
    have h2 := uvar_len 9 (m.rg i)
    simp [mbytesTo]; omega

theorem u64_pow {v : Int} (h : u64ok v) : 0 ≤ v ∧ v < 128 ^ (9 + 1) := ⟨h.1, by have := h.2; have : (128 : Int) ^ (9 + 1) = 1180591620717411303424 := by decide +kernel
                                                                                omega⟩

theorem mbytesTo_byte (m : Mach) (h : m.ok) : ∀ i, ∀ x ∈ mbytesTo m i, 0 ≤ x ∧ x ≤ 255
  | 0, x, hx => by
    rcases List.mem_append.1 hx with hx | hx
    · exact uvar_byte 9 _ (u64_pow h.now).1 (u64_pow h.now).2 x hx
    · have hc : u64ok (m.cur + 1) := by have := h.cur; constructor <;> omega
      exact uvar_byte 9 _ (u64_pow hc).1 (u64_pow hc).2 x hx
  | i + 1, x, hx => by
    rcases List.mem_append.1 hx with hx | hx
    · exact mbytesTo_byte m h i x hx
    · rcases List.mem_append.1 hx with hx | hx
      · have hc : u64ok (m.st i) := by have := h.st i; constructor <;> omega
        exact uvar_byte 9 _ (u64_pow hc).1 (u64_pow hc).2 x hx
      · exact uvar_byte 9 _ (u64_pow (h.rg i)).1 (u64_pow (h.rg i)).2 x hx

theorem mbytes_byte (m : Mach) (h : m.ok) : ∀ x ∈ mbytes m, 0 ≤ x ∧ x ≤ 255 := by
  rw [← mbytes_to]
  intro x hx
  rcases List.mem_append.1 hx with hx | hx
  · exact mbytesTo_byte m h 4 x hx
  · exact uvar_byte 9 _ (u64_pow h.word).1 (u64_pow h.word).2 x hx

theorem mbytes_len (m : Mach) : (mbytes m).length ≤ 110 := by
  rw [← mbytes_to, List.length_append]
  have := mbytesTo_len m 4
  have := uvar_len 9 m.word
  omega

def mix (h c : Int) : Int :=
  let h := bitI .xor .u64 h c
  let h := IntKind.wrap .u64 (h * 2685821657736338717)
  bitI .xor .u64 h (shrI .u64 h 31)

def digBytes (b : List Int) : Int :=
  let h := b.foldl mix 7640891576956012808
  let h := bitI .xor .u64 h b.length
  let h := IntKind.wrap .u64 (h * 11400714819323198485)
  bitI .xor .u64 h (shrI .u64 h 29)

/-- The digest of a machine. -/
def dig (m : Mach) : Int := digBytes (mbytes m)

theorem wrap_u64 (n : Int) : u64ok (IntKind.wrap .u64 n) := by
  simp only [u64ok, IntKind.wrap, IntKind.bits, IntKind.signed]
  simp
  omega

theorem bitI_u64 (op : BinOp) (x y : Int) : u64ok (bitI op .u64 x y) := by
  unfold bitI
  split <;> exact wrap_u64 _

theorem dig_ok (m : Mach) : u64ok (dig m) := by
  unfold dig digBytes
  exact bitI_u64 _ _ _

/-! width and cost -/

def widthN : Nat → Int → Int
  | 0, _ => 1
  | k + 1, v => if 128 ≤ v then 1 + widthN k (v / 128) else 1

def width (v : Int) : Int := widthN 9 v

theorem widthN_bd : ∀ (k : Nat) (v : Int), 1 ≤ widthN k v ∧ widthN k v ≤ k + 1
  | 0, v => by simp [widthN]
  | k + 1, v => by
    have := widthN_bd k (v / 128)
    simp only [widthN]
    split <;> omega

def cost (e : Ev) : Int := width e.kind + width e.pick + width e.arg + 2

theorem cost_bd (e : Ev) : 5 ≤ cost e ∧ cost e ≤ 32 := by
  have h1 := widthN_bd 9 e.kind
  have h2 := widthN_bd 9 e.pick
  have h3 := widthN_bd 9 e.arg
  unfold cost width
  omega

theorem pow_step {g : Nat} {v : Int} (h : 128 ≤ v) (hb : v < 128 ^ (g + 1)) : ∃ g', g = g' + 1 ∧ v / 128 < 128 ^ (g' + 1) := by
  cases g with
  | zero => simp at hb; omega
  | succ g' =>
    refine ⟨g', rfl, ?_⟩
    rw [Int.pow_succ] at hb
    exact Int.ediv_lt_of_lt_mul (by omega) (by omega)

theorem widthN_step {g : Nat} {v : Int} (h : 128 ≤ v) : widthN (g + 1) v = 1 + widthN g (v / 128) := by simp [widthN, h]
theorem widthN_stop {g : Nat} {v : Int} (h : ¬ 128 ≤ v) : widthN g v = 1 := by cases g <;> simp [widthN, h]
theorem uvar_step {g : Nat} {v : Int} (h : 128 ≤ v) : uvar (g + 1) v = (v % 128 + 128) :: uvar g (v / 128) := by simp [uvar, h]
theorem uvar_stop {g : Nat} {v : Int} (h : ¬ 128 ≤ v) : uvar g v = [v] := by cases g <;> simp [uvar, h]

/-! The cells of a machine in the midst of a block -/
section
variable (pre post : List Value) (m : Mach)

theorem mid_now : cellsAre (pre ++ machC m ++ post) pre.length [.int .u64 m.now] := cellsAre_mid (j := 0) ⟨rfl, trivial⟩
theorem mid_cur : cellsAre (pre ++ machC m ++ post) (pre.length + 1) [.int .i8 m.cur] := cellsAre_mid (j := 1) ⟨rfl, trivial⟩
theorem mid_word : cellsAre (pre ++ machC m ++ post) (pre.length + 10) [.int .u64 m.word] := cellsAre_mid (j := 10) ⟨rfl, trivial⟩
theorem mid_st {i : Nat} (h : i < 4) : cellsAre (pre ++ machC m ++ post) (pre.length + 2 + i * 1) [.int .u8 (m.st i)] := by
  have := cellsAre_mid (pre := pre) (post := post) (mach_st m h)
  simpa [Nat.add_assoc] using this
theorem mid_rg {i : Nat} (h : i < 4) : cellsAre (pre ++ machC m ++ post) (pre.length + 6 + i * 1) [.int .u64 (m.rg i)] := by
  have := cellsAre_mid (pre := pre) (post := post) (mach_rg m h)
  simpa [Nat.add_assoc] using this
theorem mid_all : cellsAre (pre ++ machC m ++ post) pre.length (machC m) := cellsAre_mid (j := 0) ⟨rfl, rfl, rfl, rfl, rfl, rfl, rfl, rfl, rfl, rfl, rfl, trivial⟩

theorem set_now (v : Int) : splice (pre ++ machC m ++ post) pre.length [.int .u64 v] = pre ++ machC { m with now := v } ++ post := splice_mid (j := 0) (by simp [machC]) rfl
theorem set_cur (v : Int) : splice (pre ++ machC m ++ post) (pre.length + 1) [.int .i8 v] = pre ++ machC { m with cur := v } ++ post := splice_mid (j := 1) (by simp [machC]) rfl
theorem set_word (v : Int) : splice (pre ++ machC m ++ post) (pre.length + 10) [.int .u64 v] = pre ++ machC { m with word := v } ++ post := splice_mid (j := 10) (by simp [machC]) rfl
theorem set_st {i : Nat} (h : i < 4) (v : Int) : splice (pre ++ machC m ++ post) (pre.length + 2 + i * 1) [.int .u8 v] = pre ++ machC (m.setSt i v) ++ post := by
  have := splice_mid (pre := pre) (post := post) (by simp [machC]; omega) (mach_setSt m h v)
  simpa [Nat.add_assoc] using this
theorem set_rg {i : Nat} (h : i < 4) (v : Int) : splice (pre ++ machC m ++ post) (pre.length + 6 + i * 1) [.int .u64 v] = pre ++ machC (m.setRg i v) ++ post := by
  have := splice_mid (pre := pre) (post := post) (by simp [machC]; omega) (mach_setRg m h v)
  simpa [Nat.add_assoc] using this

theorem mid_len {k : Nat} (h : k ≤ pre.length + 11) : Nat.ble k (pre ++ machC m ++ post).length = true := by
  apply Nat.ble_eq_true_of_le
  simp [machC]; omega
end

theorem u8C_len (x : Int) : (u8C x).length = 1 := rfl
theorem evC_len (x : Ev) : (evC x).length = 3 := rfl
theorem mkC_len (x : Mk) : (mkC x).length = 2 := rfl
theorem ptC_len (x : Pt) : (ptC x).length = 15 := rfl
theorem opC_len (x : Opn) : (opC x).length = 6 := rfl

def i64C (x : Int) : List Value := [.int .i64 x]
def i8C (x : Int) : List Value := [.int .i8 x]
theorem i64C_len (x : Int) : (i64C x).length = 1 := rfl
theorem i8C_len (x : Int) : (i8C x).length = 1 := rfl

theorem allOne_app {a b : List Value} (ha : allOne a = true) (hb : allOne b = true) : allOne (a ++ b) = true := by
  induction a with
  | nil => exact hb
  | cons x a ih => cases x <;> simp [allOne] at ha ⊢ <;> exact ih ha

theorem allOne_flat {α : Type} {enc : α → List Value} (h : ∀ x, allOne (enc x) = true) : ∀ xs : List α, allOne (xs.flatMap enc) = true
  | [] => rfl
  | x :: xs => by rw [List.flatMap_cons]; exact allOne_app (h x) (allOne_flat h xs)

theorem evC_one (x : Ev) : allOne (evC x) = true := rfl
theorem mkC_one (x : Mk) : allOne (mkC x) = true := rfl
theorem ptC_one (x : Pt) : allOne (ptC x) = true := rfl
theorem u8C_one (x : Int) : allOne (u8C x) = true := rfl

theorem cellsAre_split {cs : List Value} : ∀ {a b : List Value} {k : Nat}, cellsAre cs k (a ++ b) → cellsAre cs k a ∧ cellsAre cs (k + a.length) b
  | [], b, k, h => ⟨trivial, h⟩
  | x :: a, b, k, h => by
    obtain ⟨h1, h2⟩ := h
    have := cellsAre_split h2
    refine ⟨⟨h1, this.1⟩, ?_⟩
    have e : k + (x :: a).length = k + 1 + a.length := by simp; omega
    rw [e]; exact this.2

theorem pt_idx {cs : List Value} {k : Nat} {p : Pt} (h : cellsAre cs k (ptC p)) : cellsAre cs k [.int .i64 p.idx] := ⟨h.1, trivial⟩
theorem pt_st {cs : List Value} {k : Nat} {p : Pt} (h : cellsAre cs k (ptC p)) : cellsAre cs (k + 1) (machC p.st) := (cellsAre_split (a := machC p.st) h.2).1
theorem pt_out {cs : List Value} {k : Nat} {p : Pt} (h : cellsAre cs k (ptC p)) : cellsAre cs (k + 12) (outC p.out) := by
  have := (cellsAre_split (a := machC p.st) h.2).2
  simpa [machC, Nat.add_assoc] using this

def mach0 : Mach := { now := 0, cur := 0, s0 := 1, s1 := 0, s2 := 0, s3 := 0, r0 := 0, r1 := 0, r2 := 0, r3 := 0, word := 0 }
def out0 : Ot := { refused := false, running := 0, value := 0 }
def pt0 : Pt := { idx := 0, st := mach0, out := out0 }
def lg0 : Lg := { base := pt0, evs := [], mks := [], sns := [] }
def hd0 : Hd := { eo := none, ec := 0, eF := [], mo := none, mc := 0, mF := [], so := none, sc := 0, sF := [] }

theorem mach0_ok : mach0.ok := by constructor <;> (try unfold u64ok) <;> decide

/-! The transition function of the kernel -/

theorem Mach.setSt_cur (m : Mach) (i : Nat) (v : Int) : (m.setSt i v).cur = m.cur := by unfold Mach.setSt; split <;> rfl
theorem Mach.setSt_word (m : Mach) (i : Nat) (v : Int) : (m.setSt i v).word = m.word := by unfold Mach.setSt; split <;> rfl
theorem Mach.setSt_now (m : Mach) (i : Nat) (v : Int) : (m.setSt i v).now = m.now := by unfold Mach.setSt; split <;> rfl
theorem Mach.setRg_cur (m : Mach) (i : Nat) (v : Int) : (m.setRg i v).cur = m.cur := by unfold Mach.setRg; split <;> rfl
theorem Mach.setRg_word (m : Mach) (i : Nat) (v : Int) : (m.setRg i v).word = m.word := by unfold Mach.setRg; split <;> rfl
theorem Mach.setRg_now (m : Mach) (i : Nat) (v : Int) : (m.setRg i v).now = m.now := by unfold Mach.setRg; split <;> rfl
theorem Mach.setSt_rg (m : Mach) (i j : Nat) (v : Int) : (m.setSt i v).rg j = m.rg j := by unfold Mach.setSt; split <;> rfl

section
variable (pre post : List Value) (m : Mach)
theorem mid_now' {x : Int} (h : m.now = x) : cellsAre (pre ++ machC m ++ post) pre.length [.int .u64 x] := h ▸ mid_now pre post m
theorem mid_cur' {x : Int} (h : m.cur = x) : cellsAre (pre ++ machC m ++ post) (pre.length + 1) [.int .i8 x] := h ▸ mid_cur pre post m
theorem mid_word' {x : Int} (h : m.word = x) : cellsAre (pre ++ machC m ++ post) (pre.length + 10) [.int .u64 x] := h ▸ mid_word pre post m
end

def sigTo (m : Mach) (arg : Int) : Nat → Mach × Bool
  | 0 => (m, false)
  | i + 1 => if (sigTo m arg i).1.st i = 2 ∧ (sigTo m arg i).2 = false then (((sigTo m arg i).1.setSt i 0).setRg i arg, true) else sigTo m arg i

/-- What the event's own part does: none if it is refused. -/
def sw (m : Mach) (e : Ev) : Option (Mach × Int) :=
  if e.kind = 0 then
    some (if 0 ≤ m.cur then ({ (Mach.setSt { m with now := IntKind.wrap .u64 (m.now + 1) } m.cur.toNat 0) with cur := -1 }, 0) else ({ m with now := IntKind.wrap .u64 (m.now + 1) }, 0))
  else if e.kind = 1 then
    some (if (sigTo m e.arg 4).2 = true then ((sigTo m e.arg 4).1, 0) else ({ (sigTo m e.arg 4).1 with word := bitI .or .u64 (sigTo m e.arg 4).1.word e.arg }, 0))
  else if e.kind = 2 ∨ e.kind = 3 ∨ e.kind = 4 then
    if m.cur < 0 then none
    else if e.kind = 2 then some ({ (m.setSt m.cur.toNat 0) with cur := -1 }, 0)
    else if e.kind = 4 then some (m.setRg m.cur.toNat e.arg, e.arg)
    else if m.word ≠ 0 then some ({ (m.setRg m.cur.toNat m.word) with word := 0 }, m.word)
    else some ({ (m.setSt m.cur.toNat 2) with cur := -1 }, 0)
  else none

def readyTo (m : Mach) : Nat → List Int
  | 0 => []
  | i + 1 => readyTo m i ++ (if m.st i = 0 then [(i : Int)] else [])

def sched (m : Mach) (pick : Int) : Mach :=
  if m.cur < 0 then
    (if 0 < (readyTo m 4).length then
      Mach.setSt { m with cur := (readyTo m 4).getD (pick % (readyTo m 4).length).toNat 0 } ((readyTo m 4).getD (pick % (readyTo m 4).length).toNat 0).toNat 1
    else m)
  else m

def kstep (m : Mach) (e : Ev) : Mach × Ot :=
  match sw m e with
  | none => (m, ⟨true, m.cur, 0⟩)
  | some (m1, v) => (sched m1 e.pick, ⟨false, (sched m1 e.pick).cur, v⟩)

theorem readyTo_mem (m : Mach) : ∀ i, ∀ x ∈ readyTo m i, 0 ≤ x ∧ x < i
  | 0, x, h => by cases h
  | i + 1, x, h => by
    rcases List.mem_append.1 h with h | h
    · have := readyTo_mem m i x h; omega
    · split at h
      · simp at h; omega
      · cases h

theorem readyTo_len (m : Mach) : ∀ i, (readyTo m i).length ≤ i
  | 0 => by simp [readyTo]
  | i + 1 => by
    have := readyTo_len m i
    simp only [readyTo, List.length_append]
    split <;> simp <;> omega

theorem readyTo_at {m : Mach} {k : Nat} (h : k < (readyTo m 4).length) : ∃ x, (readyTo m 4)[k]? = some x ∧ (readyTo m 4).getD k 0 = x ∧ 0 ≤ x ∧ x ≤ 3 := by
  refine ⟨(readyTo m 4)[k], by simp [h], by simp [h], ?_⟩
  have := readyTo_mem m 4 _ (List.getElem_mem h)
  omega

theorem Mach.ok.cur' {m : Mach} (h : m.ok) {v : Int} (hv : -1 ≤ v ∧ v ≤ 3) : Mach.ok { m with cur := v } := { h with cur := hv }
theorem Mach.ok.word' {m : Mach} (h : m.ok) {v : Int} (hv : u64ok v) : Mach.ok { m with word := v } := { h with word := hv }
theorem Mach.ok.now' {m : Mach} (h : m.ok) {v : Int} (hv : u64ok v) : Mach.ok { m with now := v } := { h with now := hv }

theorem sigTo_ok {m : Mach} {arg : Int} (h : m.ok) (ha : u64ok arg) : ∀ i, (sigTo m arg i).1.ok
  | 0 => h
  | i + 1 => by
    simp only [sigTo]
    split
    · exact ((sigTo_ok h ha i).setSt i (by decide)).setRg i ha
    · exact sigTo_ok h ha i

theorem sw_ok {m m1 : Mach} {e : Ev} {v : Int} (h : m.ok) (he : e.ok) (hs : sw m e = some (m1, v)) : m1.ok ∧ u64ok v := by
  have z : u64ok 0 := by unfold u64ok; decide
  unfold sw at hs
  split at hs
  · simp only [Option.some.injEq] at hs
    split at hs <;> simp only [Prod.mk.injEq] at hs <;> obtain ⟨rfl, rfl⟩ := hs
    · exact ⟨((h.now' (wrap_u64 _)).setSt m.cur.toNat (v := 0) (by decide)).cur' (by decide), z⟩
    · exact ⟨h.now' (wrap_u64 _), z⟩
  · split at hs
    · simp only [Option.some.injEq] at hs
      split at hs <;> simp only [Prod.mk.injEq] at hs <;> obtain ⟨rfl, rfl⟩ := hs
      · exact ⟨sigTo_ok h he.2.2 4, z⟩
      · exact ⟨(sigTo_ok h he.2.2 4).word' (bitI_u64 _ _ _), z⟩
    · split at hs
      · split at hs
        · cases hs
        · split at hs
          · simp only [Option.some.injEq, Prod.mk.injEq] at hs
            obtain ⟨rfl, rfl⟩ := hs
            exact ⟨(h.setSt m.cur.toNat (v := 0) (by decide)).cur' (by decide), z⟩
          · split at hs
            · simp only [Option.some.injEq, Prod.mk.injEq] at hs
              obtain ⟨rfl, rfl⟩ := hs
              exact ⟨h.setRg _ he.2.2, he.2.2⟩
            · split at hs
              · simp only [Option.some.injEq, Prod.mk.injEq] at hs
                obtain ⟨rfl, rfl⟩ := hs
                exact ⟨(h.setRg m.cur.toNat h.word).word' z, h.word⟩
              · simp only [Option.some.injEq, Prod.mk.injEq] at hs
                obtain ⟨rfl, rfl⟩ := hs
                exact ⟨(h.setSt m.cur.toNat (v := 2) (by decide)).cur' (by decide), z⟩
      · cases hs

theorem sched_ok {m : Mach} {pick : Int} (h : m.ok) : (sched m pick).ok := by
  unfold sched
  split
  · split
    · rename_i hl
      have hk : (pick % (readyTo m 4).length).toNat < (readyTo m 4).length := by
        have := Int.emod_lt_of_pos pick (b := ((readyTo m 4).length : Int)) (by omega)
        have := Int.emod_nonneg pick (b := ((readyTo m 4).length : Int)) (by omega)
        omega
      obtain ⟨x, _, hx, h0, h3⟩ := readyTo_at hk
      rw [hx]
      exact (h.cur' (by omega)).setSt _ (by decide)
    · exact h
  · exact h

theorem kstep_ok {m : Mach} {e : Ev} (h : m.ok) (he : e.ok) : (kstep m e).1.ok := by
  unfold kstep
  split
  · exact h
  · rename_i m1 v hs
    exact sched_ok (sw_ok h he hs).1

def Ot.ok (o : Ot) : Prop := (-128 ≤ o.running ∧ o.running ≤ 127) ∧ u64ok o.value

/-- The kernel fed with events. -/
def runF (l : List Ev) (s : Mach × Ot) : Mach × Ot := l.foldl (fun s e => kstep s.1 e) s

def seg (l : List Ev) (j k : Nat) : List Ev := (l.drop j).take k

theorem seg_zero (l : List Ev) (j : Nat) : seg l j 0 = [] := by simp [seg]

theorem seg_succ {l : List Ev} {j k : Nat} {x : Ev} (h : l[j + k]? = some x) : seg l j (k + 1) = seg l j k ++ [x] := by
  unfold seg
  exact Sx.take_snoc (by simpa using h)

theorem runF_snoc (l : List Ev) (x : Ev) (s : Mach × Ot) : runF (l ++ [x]) s = kstep (runF l s).1 x := by simp [runF]

theorem runF_append (l l' : List Ev) (s : Mach × Ot) : runF (l ++ l') s = runF l' (runF l s) := by simp [runF]

theorem runF_ok : ∀ (l : List Ev) (s : Mach × Ot), s.1.ok → (∀ e ∈ l, e.ok) → (runF l s).1.ok
  | [], _, h, _ => h
  | e :: l, s, h, he => runF_ok l (kstep s.1 e) (kstep_ok h (he e (List.mem_cons_self ..))) (fun x hx => he x (List.mem_cons_of_mem _ hx))

theorem seg_ok {l : List Ev} (h : ∀ e ∈ l, e.ok) (j k : Nat) : ∀ e ∈ seg l j k, e.ok := fun e he => h e (List.mem_of_mem_drop (List.mem_of_mem_take he))

end Go.Rp
