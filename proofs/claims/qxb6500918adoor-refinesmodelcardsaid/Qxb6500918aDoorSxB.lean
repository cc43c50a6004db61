/-
  An evaluator for the pure operations and the reads of a region, over known temporaries and known blocks, and its soundness.
-/
import Derived.Test.Qxb6500918aDoorSxA
import Derived.Laws.Rows
import Derived.Laws.StructEq
import Derived.Laws.Slices
namespace Go.Sx

structure Blk where
  cells : List Value
  ty : TypeId
  ro : Bool := false

def Blk.obj (b : Blk) : Obj := .cells b.cells.toArray b.ty (0, 0)

abbrev Slots := List (Nat × Value)
abbrev Mem := List (Nat × Blk)

def nth {α : Type} : List α → Nat → Option α
  | [], _ => none
  | x :: _, 0 => some x
  | _ :: l, n + 1 => nth l n

theorem nth_eq {α : Type} : ∀ (l : List α) (n : Nat), nth l n = l[n]?
  | [], _ => by simp [nth]
  | _ :: _, 0 => by simp [nth]
  | _ :: l, n + 1 => by simp [nth, nth_eq l n]

def look {α : Type} : List (Nat × α) → Nat → Option α
  | [], _ => none
  | (t, v) :: r, n => match Nat.beq t n with
    | true => some v
    | false => look r n

structure TI where
  size : Nat
  bytes : Nat
  zero : Value
  desc : TypeDesc

abbrev Tab := List (Nat × TI)

/-- A field without its names. -/
def stripF (f : Field) : Field := { name := "", type := f.type, offset := f.offset, embedded := false, tag := "", pkgPath := "", byteOffset := 0 }

def strip : TypeDesc → TypeDesc
  | .struct fs => .struct (fs.map stripF)
  | d => d

def fld (t o : Nat) : Field := { name := "", type := t, offset := o, embedded := false, tag := "", pkgPath := "", byteOffset := 0 }

def TabOk (P : Program) (tab : Tab) : Prop := ∀ t ti, look tab t = some ti →
  (P.underlying t).map strip = some ti.desc ∧ ∃ i, P.info? t = some i ∧ i.size = ti.size ∧ i.bytes = ti.bytes ∧ i.zero = some ti.zero

def TabOkL (P : Program) : Tab → Prop
  | [] => True
  | (t, ti) :: r => ((P.underlying t).map strip = some ti.desc ∧ (P.info? t).map (fun i => (i.size, i.bytes, i.zero)) = some (ti.size, ti.bytes, some ti.zero)) ∧ TabOkL P r

theorem tabOk_of {P : Program} : ∀ {tab : Tab}, TabOkL P tab → TabOk P tab
  | [], _ => fun t ti h => by simp [look] at h
  | (t, ti) :: r, ⟨⟨h1, h2⟩, hr⟩ => fun t' ti' h => by
    simp only [look] at h
    cases hb : Nat.beq t t' with
    | true =>
      rw [hb] at h
      simp only [Option.some.injEq] at h
      subst h
      have := Nat.eq_of_beq_eq_true hb
      subst this
      refine ⟨h1, ?_⟩
      cases hi : P.info? t with
      | none => rw [hi] at h2; cases h2
      | some i =>
        rw [hi] at h2
        simp only [Option.map_some, Option.some.injEq, Prod.mk.injEq] at h2
        exact ⟨i, rfl, h2.1, h2.2.1, h2.2.2⟩
    | false =>
      rw [hb] at h
      exact tabOk_of hr t' ti' h

def vcells : Value → List Value
  | .agg cs => cs.toList
  | v => [v]

theorem vcells_eq (v : Value) : v.cells = (vcells v).toArray := by
  cases v <;> simp [Value.cells, vcells]

def inR : IntKind → Int → Prop
  | .i8, n => -128 ≤ n ∧ n ≤ 127
  | .i16, n => -32768 ≤ n ∧ n ≤ 32767
  | .i32, n => -2147483648 ≤ n ∧ n ≤ 2147483647
  | .i64, n => -9223372036854775808 ≤ n ∧ n ≤ 9223372036854775807
  | .u8, n => 0 ≤ n ∧ n ≤ 255
  | .u16, n => 0 ≤ n ∧ n ≤ 65535
  | .u32, n => 0 ≤ n ∧ n ≤ 4294967295
  | .u64, n => 0 ≤ n ∧ n ≤ 18446744073709551615

theorem wrap_inR {k : IntKind} {n : Int} (h : inR k n) : k.wrap n = n := by
  cases k <;> simp only [inR] at h <;> simp [IntKind.wrap, IntKind.bits, IntKind.signed] <;> first | omega | (split <;> omega)

structure H where
  k : Nat := 0
  p : Nat := 0
  f : Nat := 0
  m : Nat := 0
  vs : List Value := []

def bitI (op : BinOp) (k : IntKind) (x y : Int) : Int :=
  match op with
  | .and => k.wrap (BitVec.ofInt k.bits x &&& BitVec.ofInt k.bits y).toNat
  | .or => k.wrap (BitVec.ofInt k.bits x ||| BitVec.ofInt k.bits y).toNat
  | .xor => k.wrap (BitVec.ofInt k.bits x ^^^ BitVec.ofInt k.bits y).toNat
  | _ => k.wrap (BitVec.ofInt k.bits x &&& ~~~ BitVec.ofInt k.bits y).toNat

def shrI (k : IntKind) (x y : Int) : Int := x.fdiv (2 ^ (min y.toNat k.bits))
def shlI (k : IntKind) (x y : Int) : Int := k.wrap (x * 2 ^ (min y.toNat k.bits))

abbrev Out := Option (Value × Option Prop)

def force (b : Bool) (f : Nat) : Out :=
  match f with
  | 0 => some (.bool b, none)
  | 1 => some (.bool false, some (b = false))
  | _ => some (.bool true, some (b = true))

def arith (k : IntKind) (n : Int) (h : H) : Out :=
  match h.m with
  | 0 => some (.int k n, some (inR k n))
  | _ => some (.int k (k.wrap n), none)

def evInt (op : BinOp) (k : IntKind) (a b : Int) (h : H) : Out :=
  match op with
  | .add => arith k (a + b) h
  | .sub => arith k (a - b) h
  | .mul => arith k (a * b) h
  | .quo => some (.int k (a / b), some (0 ≤ a ∧ 0 < b ∧ inR k (a / b)))
  | .rem => match h.m with
    | 0 => some (.int k (a % b), some (0 ≤ a ∧ 0 < b))
    | _ => some (.int k (a.tmod b), some (b ≠ 0))
  | .and => some (.int k (bitI .and k a b), none)
  | .or => some (.int k (bitI .or k a b), none)
  | .xor => some (.int k (bitI .xor k a b), none)
  | .andNot => some (.int k (bitI .andNot k a b), none)
  | .shl => none
  | .shr => none
  | .eql => force (a == b) h.f
  | .neq => force (a != b) h.f
  | .lss => force (decide (a < b)) h.f
  | .leq => force (decide (a ≤ b)) h.f
  | .gtr => force (decide (a > b)) h.f
  | .geq => force (decide (a ≥ b)) h.f

/-- '==' of two values of a struct or array type comes to β, whatever the world. -/
def EqRun (P : Program) (t : TypeId) (x y : Value) (β : Bool) : Prop :=
  ∀ w, (Op.equal t x y).run P w = .ok β w ∧ ∀ op xo yo, (eqGuard op t xo yo x y).run P w = .ok () w

def evEqAgg (P : Program) (neg : Bool) (t : TypeId) (x y : Value) (h : H) : Out :=
  match h.f with
  | 0 => match h.vs with
    | [.bool β] => some (.bool (neg.xor β), some (EqRun P t x y β))
    | _ => none
  | 1 => some (.bool false, some (EqRun P t x y neg))
  | _ => some (.bool true, some (EqRun P t x y !neg))

def ptrEq : Option Addr → Option Addr → Option Bool
  | none, none => some true
  | some _, none => some false
  | none, some _ => some false
  | some _, some _ => none

def sameK : IntKind → IntKind → Bool
  | .i8, .i8 | .i16, .i16 | .i32, .i32 | .i64, .i64 | .u8, .u8 | .u16, .u16 | .u32, .u32 | .u64, .u64 => true
  | _, _ => false

theorem sameK_eq {k k' : IntKind} (h : sameK k k' = true) : k = k' := by
  cases k <;> cases k' <;> simp [sameK] at h <;> rfl

def evBin (P : Program) (tab : Tab) (op : BinOp) (t : TypeId) (x y : Value) (h : H) : Out :=
  match x, y with
  | .int k a, .int k' b => match op with
    | .shr => some (.int k (shrI k a b), some (0 ≤ b))
    | .shl => some (.int k (shlI k a b), some (0 ≤ b))
    | _ => match sameK k k' with
      | true => evInt op k a b h
      | false => none
  | .bool a, .bool b => match look tab t with
    | some { desc := .bool, .. } => match op with
      | .eql => force (a == b) h.f
      | .neq => force (a != b) h.f
      | _ => none
    | _ => none
  | .agg xs, .agg ys => match op with
    | .eql => evEqAgg P false t (.agg xs) (.agg ys) h
    | .neq => evEqAgg P true t (.agg xs) (.agg ys) h
    | _ => none
  | .pointer a, .pointer b => match look tab t with
    | some { desc := .pointer _, .. } => match ptrEq a b with
      | some c => match op with
        | .eql => some (.bool c, none)
        | .neq => some (.bool !c, none)
        | _ => none
      | none => none
    | _ => none
  | _, _ => none

def isAggD : TypeDesc → Bool
  | .struct _ => true
  | .array _ _ => true
  | _ => false

def cellsFrom (cs : List Value) (o : Nat) : Nat → List Value
  | 0 => []
  | n + 1 => (nth cs o).getD undef :: cellsFrom cs (o + 1) n

def cellsAre (cs : List Value) (o : Nat) : List Value → Prop
  | [] => True
  | v :: vs => nth cs o = some v ∧ cellsAre cs (o + 1) vs

/-- A read of n cells at offset o: by looking (m = 0), or as given (else). -/
def rdCells (cs : List Value) (o n : Nat) (h : H) : Option (List Value × Prop) :=
  match h.m with
  | 0 => some (cellsFrom cs o n, Nat.ble (o + n) cs.length = true)
  | _ => match Nat.beq h.vs.length n with
    | true => some (h.vs, cellsAre cs o h.vs)
    | false => none

def evLoad (tab : Tab) (L : Mem) (t : TypeId) (x : Value) (h : H) : Out :=
  match x with
  | .pointer (some ⟨b, o, none⟩) => match nth L h.k, look tab t with
    | some (key, blk), some ti => match isAggD ti.desc with
      | true => match rdCells blk.cells o ti.size h with
        | some (vs, φ) => some (.agg vs.toArray, some (b = key ∧ φ))
        | none => none
      | false => match rdCells blk.cells o 1 h with
        | some (v :: _, φ) => some (v, some (b = key ∧ φ))
        | _ => none
    | _, _ => none
  | _ => none

def setL (l : List Value) : Nat → Value → List Value :=
  match l with
  | [] => fun _ _ => []
  | x :: l' => fun n v => match n with
    | 0 => v :: l'
    | m + 1 => x :: setL l' m v

theorem setL_eq : ∀ (l : List Value) (n : Nat) (v : Value), setL l n v = l.set n v
  | [], _, _ => by simp [setL]
  | _ :: _, 0, _ => by simp [setL]
  | _ :: l, n + 1, v => by simp [setL, setL_eq l n v]

def splice (cells : List Value) (off : Nat) : List Value → List Value
  | [] => cells
  | v :: vs => splice (setL cells off v) (off + 1) vs

theorem splice_length : ∀ (vs cells : List Value) (off : Nat), (splice cells off vs).length = cells.length
  | [], _, _ => rfl
  | v :: vs, cells, off => by simp [splice, splice_length vs, setL_eq]

def fillE (place : Nat → Option (Nat × Nat)) (cells : List Value) : List (Nat × Value) → Option (List Value)
  | [] => some cells
  | (i, v) :: rest => match place i with
    | none => none
    | some (off, size) => match Nat.beq (vcells v).length size && Nat.ble (off + (vcells v).length) cells.length with
      | true => fillE place (splice cells off (vcells v)) rest
      | false => none

def evParts (T : Slots) (ev : Slots → Operand → Option Value) : List (Nat × Operand) → Option (List (Nat × Value))
  | [] => some []
  | (i, x) :: r => match ev T x, evParts T ev r with
    | some v, some vs => some ((i, v) :: vs)
    | _, _ => none

def evO (T : Slots) : Operand → Option Value
  | .tmp t => look T t
  | .const v => some v
  | .global g => some (.pointer (some ⟨g, 0, none⟩))
  | .func f => some (.func (.func f) #[] #[])

def evOs (T : Slots) : List Operand → Option (List Value)
  | [] => some []
  | x :: r => match evO T x, evOs T r with
    | some v, some vs => some (v :: vs)
    | _, _ => none

def placeS (tab : Tab) (fs : List Field) (i : Nat) : Option (Nat × Nat) :=
  match nth fs i with
  | some f => match look tab f.type with
    | some ti => some (f.offset, ti.size)
    | none => none
  | none => none

def allIn (tab : Tab) : List Field → Bool
  | [] => true
  | f :: fs => match look tab f.type with
    | some _ => allIn tab fs
    | none => false

def evBuild (tab : Tab) (t : TypeId) (parts : List (Nat × Value)) : Out :=
  match look tab t with
  | some ti => match ti.desc with
    | .struct fs => match allIn tab fs.toList with
      | true => match fillE (placeS tab fs.toList) (vcells ti.zero) parts with
        | some cs => some (.agg cs.toArray, none)
        | none => none
      | false => none
    | .array _ e => match look tab e with
      | some te => match fillE (fun i => some (i * te.size, te.size)) (vcells ti.zero) parts with
        | some cs => some (.agg cs.toArray, none)
        | none => none
      | none => none
    | _ => none
  | none => none

def evField (tab : Tab) (s : TypeId) (x : Value) (i : Nat) : Out :=
  match x with
  | .pointer (some ⟨b, o, none⟩) => match look tab s with
    | some { desc := .struct fs, .. } => match nth fs.toList i with
      | some f => match look tab f.type with
        | some ti => match Nat.beq ti.size 0 with
          | false => some (.pointer (some ⟨b, o + f.offset, none⟩), none)
          | true => none
        | none => none
      | none => none
    | _ => none
  | _ => none

def evIndexAddr (tab : Tab) (t : TypeId) (x ix : Value) : Out :=
  match ix with
  | .int _ i => match look tab t with
    | some ti => match ti.desc with
      | .slice e => match x, look tab e with
        | .slice (some ⟨b, o, none⟩) len _, some te => some (.pointer (some ⟨b, o + i.toNat * te.size, none⟩), some (0 ≤ i ∧ i < (len : Int)))
        | _, _ => none
      | .array n e => match x, look tab e with
        | .pointer (some ⟨b, o, none⟩), some te => some (.pointer (some ⟨b, o + i.toNat * te.size, none⟩), some (0 ≤ i ∧ i < (n : Int)))
        | _, _ => none
      | _ => none
    | none => none
  | _ => none

/-- The base of 'x[l:h]' over a slice with base a and capacity c. -/
def sliceBase (a : Option Addr) (c l size : Nat) : Option Addr := if c = l then a else a.map (·.add (l * size))

def evSlice (tab : Tab) (t : TypeId) (x : Value) (lo hi : Option Value) : Out :=
  match x with
  | .slice a len c => match look tab t with
    | some { desc := .slice e, .. } => match look tab e with
      | some te => match lo, hi with
        | none, some (.int _ n) => some (.slice a n.toNat c, some (0 ≤ n ∧ n ≤ (c : Int)))
        | some (.int _ l), none => some (.slice (sliceBase a c l.toNat te.size) (len - l.toNat) (c - l.toNat), some (0 ≤ l ∧ l ≤ (len : Int)))
        | some (.int _ l), some (.int _ n) => some (.slice (sliceBase a c l.toNat te.size) (n.toNat - l.toNat) (c - l.toNat), some (0 ≤ l ∧ l ≤ n ∧ n ≤ (c : Int)))
        | _, _ => none
      | none => none
    | _ => none
  | _ => none

def evLen (tab : Tab) (t : TypeId) (x : Value) : Out :=
  match look tab t with
  | some ti => match ti.desc with
    | .slice _ => match x with
      | .slice _ n _ => some (.int .i64 (n : Int), none)
      | _ => none
    | .array n _ => some (.int .i64 (n : Int), none)
    | _ => none
  | none => none

def evMax (x y : Value) : Out :=
  match x, y with
  | .int k a, .int _ b => some (.int k (if b > a then b else a), none)
  | _, _ => none

def evMin (x y : Value) : Out :=
  match x, y with
  | .int k a, .int _ b => some (.int k (if b < a then b else a), none)
  | _, _ => none

def optV (T : Slots) : Option Operand → Option (Option Value)
  | none => some none
  | some x => match evO T x with
    | some v => some (some v)
    | none => none

def evPick (c a b : Option Value) (h : H) : Out :=
  match c with
  | some (.bool β) => match h.m with
    | 0 => match β with
      | true => match a with | some v => some (v, none) | none => none
      | false => match b with | some v => some (v, none) | none => none
    | _ => match a, b with
      | some (.bool x), some (.bool y) => some (.bool (bif β then x else y), none)
      | _, _ => none
  | _ => none

def evConv (tab : Tab) (s d : TypeId) (x : Value) (h : H) : Out :=
  match look tab s, look tab d, x with
  | some _, some { desc := .int k, .. }, .int _ n => arith k n h
  | _, _, _ => none

def evPart (tab : Tab) (t : TypeId) (cs : List Value) (o : Nat) : Out :=
  match look tab t with
  | some ti => match isAggD ti.desc with
    | true => some (.agg (cellsFrom cs o ti.size).toArray, some (Nat.ble (o + ti.size) cs.length = true))
    | false => match nth cs o with
      | some v => some (v, none)
      | none => none
  | none => none

def evFieldV (tab : Tab) (t : TypeId) (x : Value) (i : Nat) : Out :=
  match x, look tab t with
  | .agg cs, some { desc := .struct fs, .. } => match nth fs.toList i with
    | some f => evPart tab f.type cs.toList f.offset
    | none => none
  | _, _ => none

def ev1 (T : Slots) (x : Operand) (f : Value → Out) : Out :=
  match evO T x with
  | some v => f v
  | none => none

def ev2 (T : Slots) (x y : Operand) (f : Value → Value → Out) : Out :=
  match evO T x, evO T y with
  | some v, some u => f v u
  | _, _ => none

def evNil : Value → Out
  | .pointer (some a) => some (.pointer (some a), none)
  | _ => none

def evExtract (i : Nat) : Value → Out
  | .tuple vs => match nth vs.toList i with
    | some v => some (v, none)
    | none => none
  | _ => none

def evNot : Value → Out
  | .bool b => some (.bool !b, none)
  | _ => none

def evCall (tab : Tab) (T : Slots) (c : Call) : Out :=
  match c.callee with
  | .builtin .len => match c.args.toList, c.argTypes.toList with
    | [x], t :: _ => ev1 T x (evLen tab t)
    | _, _ => none
  | .builtin .max => match c.args.toList with
    | [x, y] => ev2 T x y evMax
    | _ => none
  | .builtin .min => match c.args.toList with
    | [x, y] => ev2 T x y evMin
    | _ => none
  | _ => none

/-- One operation that is pure or only reads: what it yields, and what is to be shown for that. -/
def evY (P : Program) (tab : Tab) (L : Mem) (T : Slots) (op : Op) (h : H) : Out :=
  match op with
  | .move x => ev1 T x fun v => some (v, none)
  | .assign x => ev1 T x fun v => some (v, none)
  | .pick c a b => evPick (evO T c) (evO T a) (evO T b) h
  | .nilCheck x => ev1 T x evNil
  | .fieldAddr s x i => ev1 T x fun v => evField tab s v i
  | .load t x => ev1 T x fun v => evLoad tab L t v h
  | .binOp op t x y _ => ev2 T x y fun v u => evBin P tab op t v u h
  | .unOp .not _ x => ev1 T x evNot
  | .convert s d x => ev1 T x fun v => evConv tab s d v h
  | .indexAddr t x ix => ev2 T x ix fun v u => evIndexAddr tab t v u
  | .slice t x lo hi none => match optV T lo, optV T hi with
    | some l, some r => ev1 T x fun v => evSlice tab t v l r
    | _, _ => none
  | .build t parts => match evParts T evO parts.toList with
    | some ps => evBuild tab t ps
    | none => none
  | .extract x i => ev1 T x (evExtract i)
  | .field t x i => ev1 T x fun v => evFieldV tab t v i
  | .makeFunc fn first captured => match evOs T first.toList, evOs T captured.toList with
    | some vs, some us => some (.func fn vs.toArray us.toArray, none)
    | _, _ => none
  | .call c => evCall tab T c
  | _ => none

def isLoad : Op → Bool
  | .load _ _ => true
  | _ => false

def holdsP : Option Prop → Prop
  | none => True
  | some p => p

end Go.Sx
