/-
  fmt.Sprintf at the program's formats: it stops; its text is told.
-/
import Derived.Test.Qxb6500919aFmtGv
import Derived.Stop.CallBack
import Derived.Stop.AnyFormat
import Derived.Stop.AnswerFmt
import Derived.Stop.Told
import Derived.Stop.Texts
import Derived.Stop.FmtTextKit
import Derived.Stop.FmtTextBases
namespace Go.Proofs.Qxb6500919aFmt
open Go.Sx Go.Rp Go.Extern.Stop Go.Stop Go.Extern Go.Kit
theorem call16 (args : Array Value) (w : World) : (callFunc 16 args).run Tryf.prog w = ((FmtStop.sprintf #[9, 192] #[9] args).run Tryf.prog w).andThen fun v w' => .ok (.value v) w' :=
  run_callFunc_extern Tryf.func16 (by kernel_rfl) (by kernel_rfl) (by kernel_rfl) (by kernel_rfl) args w
theorem sguard (name : String) (w : World) : (FmtStop.guard name).run Tryf.prog w = .ok () w := by kernel_rfl
def sh3 : List UInt8 := FmtStop.intCode .i64 :: [3, 0, 0, 0, 0, 0, 0, 0, 105, 110, 116]
def sh27 : List UInt8 := FmtStop.intCode .u8 :: [13, 0, 0, 0, 0, 0, 0, 0, 97, 112, 105, 46, 69, 118, 101, 110, 116, 75, 105, 110, 100]
def sh28 : List UInt8 := FmtStop.intCode .u32 :: [6, 0, 0, 0, 0, 0, 0, 0, 117, 105, 110, 116, 51, 50]
def sh29 : List UInt8 := FmtStop.intCode .u64 :: [6, 0, 0, 0, 0, 0, 0, 0, 117, 105, 110, 116, 54, 52]
def sh42 : List UInt8 := FmtStop.intCode .i8 :: [4, 0, 0, 0, 0, 0, 0, 0, 105, 110, 116, 56]
def sh9 : List UInt8 := [12, 6, 0, 0, 0, 0, 0, 0, 0, 115, 116, 114, 105, 110, 103]
theorem op3 (name : String) (x : Int) (w : World) : (FmtStop.operand name false 100 false (.iface 3 (.int .i64 x))).run Tryf.prog w = .ok (sh3, Go.Extern.Stop.digits 8 (x % 2 ^ 64).toNat) w := by kernel_rfl
theorem op27 (name : String) (x : Int) (w : World) : (FmtStop.operand name false 100 false (.iface 27 (.int .u8 x))).run Tryf.prog w = .ok (sh27, Go.Extern.Stop.digits 8 (x % 2 ^ 64).toNat) w := by kernel_rfl
theorem op28 (name : String) (x : Int) (w : World) : (FmtStop.operand name false 100 false (.iface 28 (.int .u32 x))).run Tryf.prog w = .ok (sh28, Go.Extern.Stop.digits 8 (x % 2 ^ 64).toNat) w := by kernel_rfl
theorem op29 (name : String) (x : Int) (w : World) : (FmtStop.operand name false 100 false (.iface 29 (.int .u64 x))).run Tryf.prog w = .ok (sh29, Go.Extern.Stop.digits 8 (x % 2 ^ 64).toNat) w := by kernel_rfl
theorem op29x (name : String) (x : Int) (w : World) : (FmtStop.operand name false 120 false (.iface 29 (.int .u64 x))).run Tryf.prog w = .ok (sh29, Go.Extern.Stop.digits 8 (x % 2 ^ 64).toNat) w := by kernel_rfl
theorem op42 (name : String) (x : Int) (w : World) : (FmtStop.operand name false 100 false (.iface 42 (.int .i8 x))).run Tryf.prog w = .ok (sh42, Go.Extern.Stop.digits 8 (x % 2 ^ 64).toNat) w := by kernel_rfl
theorem op9 (name : String) (x : ByteArray) (w : World) : (FmtStop.operand name false 115 false (.iface 9 (.string x))).run Tryf.prog w = .ok (sh9, FmtStop.pack x.data.toList) w := by kernel_rfl

def fm1 : List UInt8 := [32, 37, 100, 32, 37, 100, 32, 37, 100]
def fm2 : List UInt8 := [37, 115, 59, 32, 37, 115, 32, 97, 116, 32, 37, 100, 32, 111, 102, 32, 91, 37, 100, 44, 37, 100, 93, 44, 32, 116, 104, 114, 101, 97, 100, 32, 37, 100, 44, 32, 118, 97, 108, 117, 101, 32, 37, 100, 44, 32, 100, 105, 103, 101, 115, 116, 32, 37, 48, 49, 54, 120]
def fm3 : List UInt8 := [59, 32, 37, 100, 32, 101, 118, 101, 110, 116, 115, 32, 102, 114, 111, 109, 32, 37, 100]
def fm4 : List UInt8 := [59, 32, 68, 73, 86, 69, 82, 71, 69, 83, 32, 97, 116, 32, 37, 100]
theorem pr1 : FmtStop.printed? (bs fm1) 3 = some [(0, 100, false), (1, 100, false), (2, 100, false)] := by kernel_rfl
theorem pr2 : FmtStop.printed? (bs fm2) 8 = some [(0, 115, false), (1, 115, false), (2, 100, false), (3, 100, false), (4, 100, false), (5, 100, false), (6, 100, false), (7, 120, false)] := by kernel_rfl
theorem pr3 : FmtStop.printed? (bs fm3) 2 = some [(0, 100, false), (1, 100, false)] := by kernel_rfl
theorem pr4 : FmtStop.printed? (bs fm4) 1 = some [(0, 100, false)] := by kernel_rfl
theorem pa1 : (FmtText.parse fm1).map FmtText.glue = some [.lit [32], .verb {} 100, .lit [32], .verb {} 100, .lit [32], .verb {} 100] := by rfl
theorem pa2 : (FmtText.parse fm2).map FmtText.glue = some [.verb {} 115, .lit [59, 32], .verb {} 115, .lit [32, 97, 116, 32], .verb {} 100, .lit [32, 111, 102, 32, 91], .verb {} 100, .lit [44], .verb {} 100, .lit [93, 44, 32, 116, 104, 114, 101, 97, 100, 32], .verb {} 100, .lit [44, 32, 118, 97, 108, 117, 101, 32], .verb {} 100, .lit [44, 32, 100, 105, 103, 101, 115, 116, 32], .verb { widPresent := true, wid := 16, zero := true } 120] := by rfl
theorem pa3 : (FmtText.parse fm3).map FmtText.glue = some [.lit [59, 32], .verb {} 100, .lit [32, 101, 118, 101, 110, 116, 115, 32, 102, 114, 111, 109, 32], .verb {} 100] := by rfl
theorem pa4 : (FmtText.parse fm4).map FmtText.glue = some [.lit [59, 32, 68, 73, 86, 69, 82, 71, 69, 83, 32, 97, 116, 32], .verb {} 100] := by rfl


theorem sprintf_run (F : Interp) (w : World) (hF : F.answers w.tape) {f : List UInt8} {vs : List Value} {ps : List (Nat × UInt8 × Bool)} {ops : List (List UInt8 × List UInt8)} {b n c : Nat} {ro : Bool}
    (hp : FmtStop.printed? (bs f) n = some ps) (hr : (FmtStop.readAll "fmt.Sprintf" false vs ps).run Tryf.prog w = .ok ops w) (hb : w.heap[b]? = some (Blk.obj ⟨vs, 20, ro⟩)) (hn : n = vs.length) :
    (callFunc 16 #[.string (bs f), .slice (some ⟨b, 0, none⟩) n c]).run Tryf.prog w = .ok (.value (.string (FmtStop.textOf (F "fmt.Sprintf" (f :: ops.flatMap fun x => [x.1, x.2]) 0)))) w.drew := by
  subst hn
  rw [call16, FmtStop.sprintf_lit]
  have hc : (FmtStop.cells (.slice (some ⟨b, 0, none⟩) vs.length c)).run Tryf.prog w = .ok vs w := by
    have hq := Sx.run_loadCells (P := Tryf.prog) hb vs.length 0 0 #[] (by simp)
    simp only [FmtStop.cells, Sem.run_bind, loadCells, hq, Result.andThen_ok, Sem.run_pure]
    simp [cellsFrom_extract]
  simp only [Sem.run_bind, sguard, Result.andThen_ok, hc, hp, hr, FmtStop.run_text F _ _ _ w hF, bs_data]
  rfl

theorem told_text (F : Interp) {reading : List (List UInt8)} {t : List UInt8} (h : FmtText.text "fmt.Sprintf" reading = some t) (hl : t.length < 2 ^ 63) : FmtStop.textOf (F.told "fmt.Sprintf" reading 0) = bs t := by
  rw [← told_string F h hl, ← textOf_list, bs_of]

/-! " %d %d %d" -/
def txt1 (e : Ev) : List UInt8 := [32] ++ Lib.itoa e.kind ++ [32] ++ Lib.itoa e.pick ++ [32] ++ Lib.itoa e.arg
def rd1 (e : Ev) : List (List UInt8 × List UInt8) := [(sh27, digits 8 (e.kind % 2 ^ 64).toNat), (sh28, digits 8 (e.pick % 2 ^ 64).toNat), (sh29, digits 8 (e.arg % 2 ^ 64).toNat)]

theorem wf_u8 {x : Int} (h : 0 ≤ x ∧ x ≤ 255) : (Lit.int .u8 x).wf = true := by simp [Lit.wf, IntKind.min, IntKind.max, IntKind.signed, IntKind.bits]; omega
theorem wf_u32 {x : Int} (h : 0 ≤ x ∧ x ≤ 4294967295) : (Lit.int .u32 x).wf = true := by simp [Lit.wf, IntKind.min, IntKind.max, IntKind.signed, IntKind.bits]; omega
theorem wf_u64 {x : Int} (h : 0 ≤ x ∧ x ≤ 18446744073709551615) : (Lit.int .u64 x).wf = true := by simp [Lit.wf, IntKind.min, IntKind.max, IntKind.signed, IntKind.bits]; omega
theorem wf_i64 {x : Int} (h : -9223372036854775808 ≤ x ∧ x ≤ 9223372036854775807) : (Lit.int .i64 x).wf = true := by simp [Lit.wf, IntKind.min, IntKind.max, IntKind.signed, IntKind.bits]; omega
theorem wf_i8 {x : Int} (h : -128 ≤ x ∧ x ≤ 127) : (Lit.int .i8 x).wf = true := by simp [Lit.wf, IntKind.min, IntKind.max, IntKind.signed, IntKind.bits]; omega

theorem text1 (e : Ev) (he : e.ok) : FmtText.text "fmt.Sprintf" (fm1 :: (rd1 e).flatMap fun x => [x.1, x.2]) = some (txt1 e) := by
  have h1 := wf_u8 he.1
  have h2 := wf_u32 he.2.1
  have h3 := wf_u64 he.2.2
  have o1 := FmtText.operand_int_at (sh := sh27) (k := .u8) rfl rfl e.kind h1
  have o2 := FmtText.operand_int_at (sh := sh28) (k := .u32) rfl rfl e.pick h2
  have o3 := FmtText.operand_int_at (sh := sh29) (k := .u64) rfl rfl e.arg h3
  rw [show (fm1 :: (rd1 e).flatMap fun x => [x.1, x.2]) = fm1 :: [sh27, digits 8 (e.kind % 18446744073709551616).toNat, sh28, digits 8 (e.pick % 18446744073709551616).toNat, sh29, digits 8 (e.arg % 18446744073709551616).toNat] from rfl]
  rw [FmtText.text_sprintf_glued pa1 (FmtText.operands_cons o1 (FmtText.operands_cons o2 (FmtText.operands_cons o3 FmtText.operands_nil)))]
  simp [FmtText.render, FmtText.printArg_d _ _ h1, FmtText.printArg_d _ _ h2, FmtText.printArg_d _ _ h3, txt1]

theorem txt1_len (e : Ev) (he : e.ok) : (txt1 e).length ≤ 100 := by
  have := FmtText.itoa_length_le (wf_u8 he.1)
  have := FmtText.itoa_length_le (wf_u32 he.2.1)
  have := FmtText.itoa_length_le (wf_u64 he.2.2)
  simp [txt1]; omega

theorem read1 (e : Ev) (w : World) : (FmtStop.readAll "fmt.Sprintf" false [.iface 27 (.int .u8 e.kind), .iface 28 (.int .u32 e.pick), .iface 29 (.int .u64 e.arg)] [(0, 100, false), (1, 100, false), (2, 100, false)]).run Tryf.prog w = .ok (rd1 e) w := by
  simp [FmtStop.readAll, op27, op28, op29, rd1]

theorem sprintf1 (F : Interp) (e : Ev) (he : e.ok) (w : World) (hF : F.told.answers w.tape) {b c : Nat} {ro : Bool} (hb : w.heap[b]? = some (Blk.obj ⟨[.iface 27 (.int .u8 e.kind), .iface 28 (.int .u32 e.pick), .iface 29 (.int .u64 e.arg)], 20, ro⟩)) :
    (callFunc 16 #[.string (bs fm1), .slice (some ⟨b, 0, none⟩) 3 c]).run Tryf.prog w = .ok (.value (.string (bs (txt1 e)))) w.drew := by
  rw [← told_text F (text1 e he) (by have := txt1_len e he; omega)]
  exact sprintf_run F.told w hF pr1 (read1 e w) hb rfl

/-! The line that describes a result -/
def w64 (x : Int) : Int := IntKind.wrap .i64 x
def v64 (x : Int) : Int := x % 18446744073709551616
theorem w64_in (x : Int) : -9223372036854775808 ≤ w64 x ∧ w64 x ≤ 9223372036854775807 := by
  simp [w64, IntKind.wrap, IntKind.bits, IntKind.signed]; split <;> omega
theorem w64_mod (x : Int) : w64 x % 18446744073709551616 = x % 18446744073709551616 := by
  simp [w64, IntKind.wrap, IntKind.bits, IntKind.signed]; split <;> omega
theorem v64_in (x : Int) : 0 ≤ v64 x ∧ v64 x ≤ 18446744073709551615 := by unfold v64; omega
theorem v64_mod (x : Int) : v64 x % 18446744073709551616 = x % 18446744073709551616 := by unfold v64; omega

theorem o_i64 (x : Int) : FmtText.operand sh3 (digits 8 (x % 18446744073709551616).toNat) = some (.int [105, 110, 116] true (w64 x % 18446744073709551616).toNat) := by
  have := FmtText.operand_int_at (sh := sh3) (k := .i64) rfl rfl (w64 x) (wf_i64 (w64_in x))
  rw [w64_mod] at this ⊢
  exact this
theorem o_u64 (x : Int) : FmtText.operand sh29 (digits 8 (x % 18446744073709551616).toNat) = some (.int [117, 105, 110, 116, 54, 52] false (v64 x % 18446744073709551616).toNat) := by
  have := FmtText.operand_int_at (sh := sh29) (k := .u64) rfl rfl (v64 x) (wf_u64 (v64_in x))
  rw [v64_mod] at this ⊢
  exact this

def modeW (b : Bool) : List UInt8 := if b then [108, 105, 118, 101] else [114, 101, 112, 108, 97, 121]

def txt2 (r : Res) : List UInt8 := codeW r.code.toNat ++ ([59, 32] ++ (modeW r.live ++ ([32, 97, 116, 32] ++ (Lib.itoa (w64 r.pos) ++ ([32, 111, 102, 32, 91] ++ (Lib.itoa (w64 r.base) ++ ([44] ++ (Lib.itoa (w64 r.fin) ++ ([93, 44, 32, 116, 104, 114, 101, 97, 100, 32] ++ (Lib.itoa r.out.running ++ ([44, 32, 118, 97, 108, 117, 101, 32] ++ (Lib.itoa (v64 r.out.value) ++ ([44, 32, 100, 105, 103, 101, 115, 116, 32] ++ FmtText.hexZeros false false 16 (v64 r.dig))))))))))))))
def args2 (r : Res) : List Value := [.iface 9 (.string (bs (codeW r.code.toNat))), .iface 9 (.string (bs (modeW r.live))), .iface 3 (.int .i64 r.pos), .iface 3 (.int .i64 r.base), .iface 3 (.int .i64 r.fin), .iface 42 (.int .i8 r.out.running), .iface 29 (.int .u64 r.out.value), .iface 29 (.int .u64 r.dig)]
def rd2 (r : Res) : List (List UInt8 × List UInt8) := [(sh9, FmtStop.pack (codeW r.code.toNat)), (sh9, FmtStop.pack (modeW r.live)), (sh3, digits 8 (r.pos % 2 ^ 64).toNat), (sh3, digits 8 (r.base % 2 ^ 64).toNat), (sh3, digits 8 (r.fin % 2 ^ 64).toNat), (sh42, digits 8 (r.out.running % 2 ^ 64).toNat), (sh29, digits 8 (r.out.value % 2 ^ 64).toNat), (sh29, digits 8 (r.dig % 2 ^ 64).toNat)]
def txt3 (r : Res) : List UInt8 := [59, 32] ++ (Lib.itoa (w64 r.replayed) ++ ([32, 101, 118, 101, 110, 116, 115, 32, 102, 114, 111, 109, 32] ++ Lib.itoa (w64 r.from_)))
def args3 (r : Res) : List Value := [.iface 3 (.int .i64 r.replayed), .iface 3 (.int .i64 r.from_)]
def rd3 (r : Res) : List (List UInt8 × List UInt8) := [(sh3, digits 8 (r.replayed % 2 ^ 64).toNat), (sh3, digits 8 (r.from_ % 2 ^ 64).toNat)]
def txt4 (r : Res) : List UInt8 := [59, 32, 68, 73, 86, 69, 82, 71, 69, 83, 32, 97, 116, 32] ++ Lib.itoa (w64 r.at_)
def args4 (r : Res) : List Value := [.iface 3 (.int .i64 r.at_)]
def rd4 (r : Res) : List (List UInt8 × List UInt8) := [(sh3, digits 8 (r.at_ % 2 ^ 64).toNat)]

theorem modeW_len (b : Bool) : (modeW b).length ≤ 6 := by cases b <;> decide
theorem d_i64 (n : List UInt8) (x : Int) : FmtText.printArg false {} 100 (.int n true (w64 x % 18446744073709551616).toNat) = some (Lib.itoa (w64 x)) := FmtText.printArg_d (k := .i64) false n (wf_i64 (w64_in x))
theorem d_u64 (n : List UInt8) (x : Int) : FmtText.printArg false {} 100 (.int n false (v64 x % 18446744073709551616).toNat) = some (Lib.itoa (v64 x)) := FmtText.printArg_d (k := .u64) false n (wf_u64 (v64_in x))
theorem x_u64 (n : List UInt8) (x : Int) : FmtText.printArg false { widPresent := true, wid := 16, zero := true } 120 (.int n false (v64 x % 18446744073709551616).toNat) = some (FmtText.hexZeros false false 16 (v64 x)) := FmtText.printArg_x_zero (k := .u64) false false 16 n (wf_u64 (v64_in x))
theorem l_i64 (x : Int) : (Lib.itoa (w64 x)).length ≤ 21 := FmtText.itoa_length_le (wf_i64 (w64_in x))
theorem l_u64 (x : Int) : (Lib.itoa (v64 x)).length ≤ 21 := FmtText.itoa_length_le (wf_u64 (v64_in x))

theorem text2 (r : Res) (hr : -128 ≤ r.out.running ∧ r.out.running ≤ 127) : FmtText.text "fmt.Sprintf" (fm2 :: (rd2 r).flatMap fun x => [x.1, x.2]) = some (txt2 r) := by
  have h5 := wf_i8 hr
  have o0 := FmtText.operand_str_at (sh := sh9) rfl rfl (codeW r.code.toNat) (by have := codeW_len r.code.toNat; omega)
  have o1 := FmtText.operand_str_at (sh := sh9) rfl rfl (modeW r.live) (by have := modeW_len r.live; omega)
  have o5 := FmtText.operand_int_at (sh := sh42) (k := .i8) rfl rfl r.out.running h5
  rw [show (fm2 :: (rd2 r).flatMap fun x => [x.1, x.2]) = fm2 :: [sh9, FmtStop.pack (codeW r.code.toNat), sh9, FmtStop.pack (modeW r.live), sh3, digits 8 (r.pos % 18446744073709551616).toNat, sh3, digits 8 (r.base % 18446744073709551616).toNat, sh3, digits 8 (r.fin % 18446744073709551616).toNat, sh42, digits 8 (r.out.running % 18446744073709551616).toNat, sh29, digits 8 (r.out.value % 18446744073709551616).toNat, sh29, digits 8 (r.dig % 18446744073709551616).toNat] from rfl]
  rw [FmtText.text_sprintf_glued pa2 (FmtText.operands_cons o0 (FmtText.operands_cons o1 (FmtText.operands_cons (o_i64 _) (FmtText.operands_cons (o_i64 _) (FmtText.operands_cons (o_i64 _) (FmtText.operands_cons o5 (FmtText.operands_cons (o_u64 _) (FmtText.operands_cons (o_u64 _) FmtText.operands_nil))))))))]
  have e5 := FmtText.printArg_d false [105, 110, 116, 56] h5
  simp [FmtText.render, FmtText.printArg_s_str, d_i64, d_u64, x_u64, e5, txt2]

theorem text3 (r : Res) : FmtText.text "fmt.Sprintf" (fm3 :: (rd3 r).flatMap fun x => [x.1, x.2]) = some (txt3 r) := by
  rw [show (fm3 :: (rd3 r).flatMap fun x => [x.1, x.2]) = fm3 :: [sh3, digits 8 (r.replayed % 18446744073709551616).toNat, sh3, digits 8 (r.from_ % 18446744073709551616).toNat] from rfl]
  rw [FmtText.text_sprintf_glued pa3 (FmtText.operands_cons (o_i64 _) (FmtText.operands_cons (o_i64 _) FmtText.operands_nil))]
  simp [FmtText.render, d_i64, txt3]

theorem text4 (r : Res) : FmtText.text "fmt.Sprintf" (fm4 :: (rd4 r).flatMap fun x => [x.1, x.2]) = some (txt4 r) := by
  rw [show (fm4 :: (rd4 r).flatMap fun x => [x.1, x.2]) = fm4 :: [sh3, digits 8 (r.at_ % 18446744073709551616).toNat] from rfl]
  rw [FmtText.text_sprintf_glued pa4 (FmtText.operands_cons (o_i64 _) FmtText.operands_nil)]
  simp [FmtText.render, d_i64, txt4]

theorem txt2_len (r : Res) (hr : -128 ≤ r.out.running ∧ r.out.running ≤ 127) : (txt2 r).length ≤ 1000 := by
  have h0 := codeW_len r.code.toNat
  have h1 := modeW_len r.live
  have h2 := l_i64 r.pos
  have h3 := l_i64 r.base
  have h4 := l_i64 r.fin
  have h5 := FmtText.itoa_length_le (wf_i8 hr)
  have h6 := l_u64 r.out.value
  have h7 := FmtText.hexZeros_length_le false false 16 (v64 r.dig)
  simp [txt2]; omega
theorem txt3_len (r : Res) : (txt3 r).length ≤ 100 := by
  have h2 := l_i64 r.replayed
  have h3 := l_i64 r.from_
  simp [txt3]; omega
theorem txt4_len (r : Res) : (txt4 r).length ≤ 100 := by
  have h2 := l_i64 r.at_
  simp [txt4]; omega

theorem read2 (r : Res) (w : World) : (FmtStop.readAll "fmt.Sprintf" false (args2 r) [(0, 115, false), (1, 115, false), (2, 100, false), (3, 100, false), (4, 100, false), (5, 100, false), (6, 100, false), (7, 120, false)]).run Tryf.prog w = .ok (rd2 r) w := by
  simp [FmtStop.readAll, args2, op9, op3, op42, op29, op29x, rd2, bs_data]
theorem read3 (r : Res) (w : World) : (FmtStop.readAll "fmt.Sprintf" false (args3 r) [(0, 100, false), (1, 100, false)]).run Tryf.prog w = .ok (rd3 r) w := by
  simp [FmtStop.readAll, args3, op3, rd3]
theorem read4 (r : Res) (w : World) : (FmtStop.readAll "fmt.Sprintf" false (args4 r) [(0, 100, false)]).run Tryf.prog w = .ok (rd4 r) w := by
  simp [FmtStop.readAll, args4, op3, rd4]

theorem sprintf2 (F : Interp) (r : Res) (hr : -128 ≤ r.out.running ∧ r.out.running ≤ 127) (w : World) (hF : F.told.answers w.tape) {b c : Nat} {ro : Bool} (hb : w.heap[b]? = some (Blk.obj ⟨args2 r, 20, ro⟩)) :
    (callFunc 16 #[.string (bs fm2), .slice (some ⟨b, 0, none⟩) 8 c]).run Tryf.prog w = .ok (.value (.string (bs (txt2 r)))) w.drew := by
  rw [← told_text F (text2 r hr) (by have := txt2_len r hr; omega)]
  exact sprintf_run F.told w hF pr2 (read2 r w) hb rfl
theorem sprintf3 (F : Interp) (r : Res) (w : World) (hF : F.told.answers w.tape) {b c : Nat} {ro : Bool} (hb : w.heap[b]? = some (Blk.obj ⟨args3 r, 20, ro⟩)) :
    (callFunc 16 #[.string (bs fm3), .slice (some ⟨b, 0, none⟩) 2 c]).run Tryf.prog w = .ok (.value (.string (bs (txt3 r)))) w.drew := by
  rw [← told_text F (text3 r) (by have := txt3_len r; omega)]
  exact sprintf_run F.told w hF pr3 (read3 r w) hb rfl
theorem sprintf4 (F : Interp) (r : Res) (w : World) (hF : F.told.answers w.tape) {b c : Nat} {ro : Bool} (hb : w.heap[b]? = some (Blk.obj ⟨args4 r, 20, ro⟩)) :
    (callFunc 16 #[.string (bs fm4), .slice (some ⟨b, 0, none⟩) 1 c]).run Tryf.prog w = .ok (.value (.string (bs (txt4 r)))) w.drew := by
  rw [← told_text F (text4 r) (by have := txt4_len r; omega)]
  exact sprintf_run F.told w hF pr4 (read4 r w) hb rfl

theorem fr_drew (w : World) : Fr [] w w.drew := ⟨rfl, rfl, rfl, Nat.le_refl _, fun _ _ _ => rfl⟩

def descP (r : Res) : List UInt8 := txt2 r ++ (if r.replayed > 0 then txt3 r else []) ++ (if r.at_ ≥ 0 then txt4 r else [])

end Go.Proofs.Qxb6500919aFmt
