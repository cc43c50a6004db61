/-
  More types: strings, the table of the verbs, the slices of the fields, of the operands.
-/
import Derived.Test.Qxb6500919aFmtTab
import Derived.Test.Qxb6500919aFmtSxN
namespace Go.Proofs.Qxb6500919aFmt
open Go.Sx

def tab2 : Tab := [
  (20, ⟨1, 16, .nilIface, .interface #[]⟩),
  (61, ⟨2, 24, .agg #[.string ByteArray.empty, .int .i64 0], .struct #[fld 9 0, fld 3 1]⟩),
  (62, ⟨18, 216, .agg #[.string ByteArray.empty, .int .i64 0, .string ByteArray.empty, .int .i64 0, .string ByteArray.empty, .int .i64 0, .string ByteArray.empty, .int .i64 0, .string ByteArray.empty, .int .i64 0, .string ByteArray.empty, .int .i64 0, .string ByteArray.empty, .int .i64 0, .string ByteArray.empty, .int .i64 0, .string ByteArray.empty, .int .i64 0], .array 9 61⟩),
  (65, ⟨1, 24, .slice none 0 0, .slice 9⟩),
  (67, ⟨1, 8, .pointer none, .pointer 69⟩),
  (69, ⟨2, 24, .agg #[.int .i64 0, .string ByteArray.empty], .struct #[fld 3 0, fld 9 1]⟩),
  (70, ⟨3, 24, .agg #[.int .i64 0, .int .i64 0, .int .i64 0], .array 3 3⟩),
  (73, ⟨1, 24, .slice none 0 0, .slice 74⟩),
  (74, ⟨1, 8, .pointer none, .pointer 3⟩),
  (82, ⟨6, 96, .agg #[.string ByteArray.empty, .string ByteArray.empty, .string ByteArray.empty, .string ByteArray.empty, .string ByteArray.empty, .string ByteArray.empty], .array 6 9⟩),
  (192, ⟨1, 24, .slice none 0 0, .slice 20⟩)] ++ tab

theorem undx20 : (Tryf.prog.underlying 20).map strip = (Sx.look tab2 20).map (·.desc) := by kernel_rfl
theorem infx20 : (Tryf.prog.info? 20).map (fun i => (i.size, i.bytes, i.zero)) = (Sx.look tab2 20).map (fun ti => (ti.size, ti.bytes, some ti.zero)) := by kernel_rfl
theorem undx61 : (Tryf.prog.underlying 61).map strip = (Sx.look tab2 61).map (·.desc) := by kernel_rfl
theorem infx61 : (Tryf.prog.info? 61).map (fun i => (i.size, i.bytes, i.zero)) = (Sx.look tab2 61).map (fun ti => (ti.size, ti.bytes, some ti.zero)) := by kernel_rfl
theorem undx62 : (Tryf.prog.underlying 62).map strip = (Sx.look tab2 62).map (·.desc) := by kernel_rfl
theorem infx62 : (Tryf.prog.info? 62).map (fun i => (i.size, i.bytes, i.zero)) = (Sx.look tab2 62).map (fun ti => (ti.size, ti.bytes, some ti.zero)) := by kernel_rfl
theorem undx65 : (Tryf.prog.underlying 65).map strip = (Sx.look tab2 65).map (·.desc) := by kernel_rfl
theorem infx65 : (Tryf.prog.info? 65).map (fun i => (i.size, i.bytes, i.zero)) = (Sx.look tab2 65).map (fun ti => (ti.size, ti.bytes, some ti.zero)) := by kernel_rfl
theorem undx67 : (Tryf.prog.underlying 67).map strip = (Sx.look tab2 67).map (·.desc) := by kernel_rfl
theorem infx67 : (Tryf.prog.info? 67).map (fun i => (i.size, i.bytes, i.zero)) = (Sx.look tab2 67).map (fun ti => (ti.size, ti.bytes, some ti.zero)) := by kernel_rfl
theorem undx69 : (Tryf.prog.underlying 69).map strip = (Sx.look tab2 69).map (·.desc) := by kernel_rfl
theorem infx69 : (Tryf.prog.info? 69).map (fun i => (i.size, i.bytes, i.zero)) = (Sx.look tab2 69).map (fun ti => (ti.size, ti.bytes, some ti.zero)) := by kernel_rfl
theorem undx70 : (Tryf.prog.underlying 70).map strip = (Sx.look tab2 70).map (·.desc) := by kernel_rfl
theorem infx70 : (Tryf.prog.info? 70).map (fun i => (i.size, i.bytes, i.zero)) = (Sx.look tab2 70).map (fun ti => (ti.size, ti.bytes, some ti.zero)) := by kernel_rfl
theorem undx73 : (Tryf.prog.underlying 73).map strip = (Sx.look tab2 73).map (·.desc) := by kernel_rfl
theorem infx73 : (Tryf.prog.info? 73).map (fun i => (i.size, i.bytes, i.zero)) = (Sx.look tab2 73).map (fun ti => (ti.size, ti.bytes, some ti.zero)) := by kernel_rfl
theorem undx74 : (Tryf.prog.underlying 74).map strip = (Sx.look tab2 74).map (·.desc) := by kernel_rfl
theorem infx74 : (Tryf.prog.info? 74).map (fun i => (i.size, i.bytes, i.zero)) = (Sx.look tab2 74).map (fun ti => (ti.size, ti.bytes, some ti.zero)) := by kernel_rfl
theorem undx82 : (Tryf.prog.underlying 82).map strip = (Sx.look tab2 82).map (·.desc) := by kernel_rfl
theorem infx82 : (Tryf.prog.info? 82).map (fun i => (i.size, i.bytes, i.zero)) = (Sx.look tab2 82).map (fun ti => (ti.size, ti.bytes, some ti.zero)) := by kernel_rfl
theorem undx192 : (Tryf.prog.underlying 192).map strip = (Sx.look tab2 192).map (·.desc) := by kernel_rfl
theorem infx192 : (Tryf.prog.info? 192).map (fun i => (i.size, i.bytes, i.zero)) = (Sx.look tab2 192).map (fun ti => (ti.size, ti.bytes, some ti.zero)) := by kernel_rfl

theorem tabOk2 : TabOk Tryf.prog tab2 := tabOk_of ⟨⟨undx20, infx20⟩, ⟨undx61, infx61⟩, ⟨undx62, infx62⟩, ⟨undx65, infx65⟩, ⟨undx67, infx67⟩, ⟨undx69, infx69⟩, ⟨undx70, infx70⟩, ⟨undx73, infx73⟩, ⟨undx74, infx74⟩, ⟨undx82, infx82⟩, ⟨undx192, infx192⟩, ⟨und3, inf3⟩, ⟨und4, inf4⟩, ⟨und5, inf5⟩, ⟨und9, inf9⟩, ⟨und22, inf22⟩, ⟨und26, inf26⟩, ⟨und27, inf27⟩, ⟨und28, inf28⟩, ⟨und29, inf29⟩, ⟨und31, inf31⟩, ⟨und33, inf33⟩, ⟨und41, inf41⟩, ⟨und42, inf42⟩, ⟨und44, inf44⟩, ⟨und46, inf46⟩, ⟨und52, inf52⟩, ⟨und55, inf55⟩, ⟨und56, inf56⟩, ⟨und58, inf58⟩, ⟨und60, inf60⟩, ⟨und84, inf84⟩, ⟨und85, inf85⟩, ⟨und86, inf86⟩, ⟨und87, inf87⟩, ⟨und89, inf89⟩, ⟨und93, inf93⟩, ⟨und105, inf105⟩, ⟨und107, inf107⟩, ⟨und114, inf114⟩, ⟨und125, inf125⟩, ⟨und126, inf126⟩, ⟨und161, inf161⟩, trivial⟩

theorem tabZ_ok2 : TabZ tab2 := tabZ_spec rfl

theorem iface37 : isIface (Tryf.prog.underlying 37) = true := by kernel_rfl

end Go.Proofs.Qxb6500919aFmt
