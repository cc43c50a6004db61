/-
  The data of the replayer as plain structures, and how they lie in cells.
-/
import Derived.Test.Qxb6500919aFmtSxH
namespace Go.Rp

structure Ev where
  kind : Int
  pick : Int
  arg : Int

structure Mach where
  now : Int
  cur : Int
  s0 : Int
  s1 : Int
  s2 : Int
  s3 : Int
  r0 : Int
  r1 : Int
  r2 : Int
  r3 : Int
  word : Int

structure Ot where
  refused : Bool
  running : Int
  value : Int

structure Pt where
  idx : Int
  st : Mach
  out : Ot

structure Mk where
  idx : Int
  sum : Int

structure Opn where
  kind : Int
  n : Int
  m : Int
  ev : Ev

structure Res where
  code : Int
  pos : Int
  base : Int
  fin : Int
  live : Bool
  out : Ot
  dig : Int
  from_ : Int
  replayed : Int
  at_ : Int

structure Lg where
  base : Pt
  evs : List Ev
  mks : List Mk
  sns : List Pt

structure Ss where
  lg : Lg
  m : Mach
  out : Ot
  pos : Int
  live : Bool

def evC (e : Ev) : List Value := [.int .u8 e.kind, .int .u32 e.pick, .int .u64 e.arg]
def machC (m : Mach) : List Value := [.int .u64 m.now, .int .i8 m.cur, .int .u8 m.s0, .int .u8 m.s1, .int .u8 m.s2, .int .u8 m.s3, .int .u64 m.r0, .int .u64 m.r1, .int .u64 m.r2, .int .u64 m.r3, .int .u64 m.word]
def outC (o : Ot) : List Value := [.bool o.refused, .int .i8 o.running, .int .u64 o.value]
def ptC (p : Pt) : List Value := .int .i64 p.idx :: (machC p.st ++ outC p.out)
def mkC (k : Mk) : List Value := [.int .i64 k.idx, .int .u64 k.sum]
def opC (o : Opn) : List Value := .int .u8 o.kind :: .int .i64 o.n :: .int .i64 o.m :: evC o.ev
def resC (r : Res) : List Value := [.int .u8 r.code, .int .i64 r.pos, .int .i64 r.base, .int .i64 r.fin, .bool r.live, .bool r.out.refused, .int .i8 r.out.running, .int .u64 r.out.value, .int .u64 r.dig, .int .i64 r.from_, .int .i64 r.replayed, .int .i64 r.at_]

/-- The cells of a log: its base, and its three slices as they stand. -/
def logC (b : Pt) (ev mk sn : Value) : List Value := ptC b ++ [ev, mk, sn]
/-- The cells of a session. -/
def sessC (log : Value) (m : Mach) (o : Ot) (pos : Int) (live : Bool) : List Value := log :: (machC m ++ outC o ++ [.int .i64 pos, .bool live])

/-- The cells of a cursor. -/
def curC (m : Mach) (o : Ot) (pos : Int) : List Value := machC m ++ outC o ++ [.int .i64 pos]

/-- How the three slices of a log stand. -/
structure Hd where
  eo : Option Addr
  ec : Nat
  eF : List Nat
  mo : Option Addr
  mc : Nat
  mF : List Nat
  so : Option Addr
  sc : Nat
  sF : List Nat

open Go.Sx

def Hd.rows (d : Hd) (lg : Lg) : List RS := [rl evC 31 3 lg.evs d.eo d.ec d.eF, rl mkC 93 2 lg.mks d.mo d.mc d.mF, rl ptC 84 15 lg.sns d.so d.sc d.sF]

def Hd.F (d : Hd) : List Nat := d.eF ++ (d.mF ++ (d.sF ++ []))

def logB (d : Hd) (lg : Lg) : List Value := logC lg.base (.slice d.eo lg.evs.length d.ec) (.slice d.mo lg.mks.length d.mc) (.slice d.so lg.sns.length d.sc)

/-- The log lg lies at block bl. -/
structure LogAt (w : World) (bl : Nat) (d : Hd) (lg : Lg) : Prop where
  blk : w.heap[bl]? = some (Blk.obj ⟨logB d lg, 89, false⟩)
  rows : Rws (d.rows lg) w
  sep : bl ∉ d.F

theorem LogAt.stable {bl : Nat} {d : Hd} {lg : Lg} : Stable (fun w => LogAt w bl d lg) (bl :: d.F) := by
  intro w w' h hl
  exact ⟨by rw [h bl (by simp)]; exact hl.blk, Rws.stable w w' (fun b hb => h b (List.mem_cons_of_mem _ hb)) hl.rows, hl.sep⟩

theorem LogAt.low {w : World} {bl : Nat} {d : Hd} {lg : Lg} (h : LogAt w bl d lg) : ∀ b ∈ bl :: d.F, b < w.heap.size := by
  intro b hb
  rcases List.mem_cons.1 hb with rfl | hb
  · exact lt_of_heap h.blk
  · exact h.rows.low b hb

theorem LogAt.fr {w w' : World} {bl : Nat} {d : Hd} {lg : Lg} (h : LogAt w bl d lg) {M : List Nat} (hfr : Fr M w w') (hM : ∀ b ∈ bl :: d.F, b ∉ M) : LogAt w' bl d lg :=
  LogAt.stable w w' (fun b hb => hfr.block b (h.low b hb) (hM b hb)) h

/-- The session s lies at block bs, its log at block bl. -/
structure SessAt (w : World) (bs bl : Nat) (d : Hd) (s : Ss) : Prop where
  blk : w.heap[bs]? = some (Blk.obj ⟨sessC (.pointer (some ⟨bl, 0, none⟩)) s.m s.out s.pos s.live, 60, false⟩)
  log : LogAt w bl d s.lg
  ne : bs ≠ bl
  sep : bs ∉ d.F

theorem SessAt.stable {bs bl : Nat} {d : Hd} {s : Ss} : Stable (fun w => SessAt w bs bl d s) (bs :: bl :: d.F) := by
  intro w w' h hl
  exact ⟨by rw [h bs (by simp)]; exact hl.blk, LogAt.stable w w' (fun b hb => h b (List.mem_cons_of_mem _ hb)) hl.log, hl.ne, hl.sep⟩

theorem SessAt.low {w : World} {bs bl : Nat} {d : Hd} {s : Ss} (h : SessAt w bs bl d s) : ∀ b ∈ bs :: bl :: d.F, b < w.heap.size := by
  intro b hb
  rcases List.mem_cons.1 hb with rfl | hb
  · exact lt_of_heap h.blk
  · exact h.log.low b hb

theorem SessAt.fr {w w' : World} {bs bl : Nat} {d : Hd} {s : Ss} (h : SessAt w bs bl d s) {M : List Nat} (hfr : Fr M w w') (hM : ∀ b ∈ bs :: bl :: d.F, b ∉ M) : SessAt w' bs bl d s :=
  SessAt.stable w w' (fun b hb => hfr.block b (h.low b hb) (hM b hb)) h

end Go.Rp
