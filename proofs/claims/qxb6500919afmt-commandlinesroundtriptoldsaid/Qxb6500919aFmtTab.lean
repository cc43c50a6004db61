/-
  The types of the program that the walks come to, without their names; that the program has them so.
-/
import Derived.Test.Qxb6500919aFmtRows
import Derived.Test.Qxb6500919aFmtSxH
import Derived.KernelRfl
namespace Go.Proofs.Qxb6500919aFmt
open Go.Sx

def tab : Tab := [
  (3, ⟨1, 8, .int .i64 0, .int .i64⟩),
  (4, ⟨1, 1, .bool false, .bool⟩),
  (5, ⟨1, 1, .int .u8 0, .int .u8⟩),
  (9, ⟨1, 16, .string ByteArray.empty, .string⟩),
  (22, ⟨1, 24, .slice none 0 0, .slice 33⟩),
  (26, ⟨1, 1, .int .u8 0, .int .u8⟩),
  (27, ⟨1, 1, .int .u8 0, .int .u8⟩),
  (28, ⟨1, 4, .int .u32 0, .int .u32⟩),
  (29, ⟨1, 8, .int .u64 0, .int .u64⟩),
  (31, ⟨3, 16, .agg #[.int .u8 0, .int .u32 0, .int .u64 0], .struct #[fld 27 0, fld 28 1, fld 29 2]⟩),
  (33, ⟨6, 40, .agg #[.int .u8 0, .int .i64 0, .int .i64 0, .int .u8 0, .int .u32 0, .int .u64 0], .struct #[fld 26 0, fld 3 1, fld 3 2, fld 31 3]⟩),
  (41, ⟨1, 1, .int .u8 0, .int .u8⟩),
  (42, ⟨1, 1, .int .i8 0, .int .i8⟩),
  (44, ⟨3, 16, .agg #[.bool false, .int .i8 0, .int .u64 0], .struct #[fld 4 0, fld 42 1, fld 29 2]⟩),
  (46, ⟨12, 88, .agg #[.int .u8 0, .int .i64 0, .int .i64 0, .int .i64 0, .bool false, .bool false, .int .i8 0, .int .u64 0, .int .u64 0, .int .i64 0, .int .i64 0, .int .i64 0], .struct #[fld 41 0, fld 3 1, fld 3 2, fld 3 3, fld 4 4, fld 44 5, fld 29 8, fld 3 9, fld 3 10, fld 3 11]⟩),
  (52, ⟨1, 8, .pointer none, .pointer 89⟩),
  (55, ⟨4, 4, .agg #[.int .u8 0, .int .u8 0, .int .u8 0, .int .u8 0], .array 4 5⟩),
  (56, ⟨4, 32, .agg #[.int .u64 0, .int .u64 0, .int .u64 0, .int .u64 0], .array 4 29⟩),
  (58, ⟨11, 56, .agg #[.int .u64 0, .int .i8 0, .int .u8 0, .int .u8 0, .int .u8 0, .int .u8 0, .int .u64 0, .int .u64 0, .int .u64 0, .int .u64 0, .int .u64 0], .struct #[fld 29 0, fld 42 1, fld 55 2, fld 56 6, fld 29 10]⟩),
  (60, ⟨17, 96, .agg #[.pointer none, .int .u64 0, .int .i8 0, .int .u8 0, .int .u8 0, .int .u8 0, .int .u8 0, .int .u64 0, .int .u64 0, .int .u64 0, .int .u64 0, .int .u64 0, .bool false, .int .i8 0, .int .u64 0, .int .i64 0, .bool false], .struct #[fld 52 0, fld 58 1, fld 44 12, fld 3 15, fld 4 16]⟩),
  (84, ⟨15, 80, .agg #[.int .i64 0, .int .u64 0, .int .i8 0, .int .u8 0, .int .u8 0, .int .u8 0, .int .u8 0, .int .u64 0, .int .u64 0, .int .u64 0, .int .u64 0, .int .u64 0, .bool false, .int .i8 0, .int .u64 0], .struct #[fld 3 0, fld 58 1, fld 44 12]⟩),
  (85, ⟨1, 24, .slice none 0 0, .slice 31⟩),
  (86, ⟨1, 24, .slice none 0 0, .slice 93⟩),
  (87, ⟨1, 24, .slice none 0 0, .slice 84⟩),
  (89, ⟨18, 152, .agg #[.int .i64 0, .int .u64 0, .int .i8 0, .int .u8 0, .int .u8 0, .int .u8 0, .int .u8 0, .int .u64 0, .int .u64 0, .int .u64 0, .int .u64 0, .int .u64 0, .bool false, .int .i8 0, .int .u64 0, .slice none 0 0, .slice none 0 0, .slice none 0 0], .struct #[fld 84 0, fld 85 15, fld 86 16, fld 87 17]⟩),
  (93, ⟨2, 16, .agg #[.int .i64 0, .int .u64 0], .struct #[fld 3 0, fld 29 1]⟩),
  (105, ⟨15, 80, .agg #[.int .u64 0, .int .i8 0, .int .u8 0, .int .u8 0, .int .u8 0, .int .u8 0, .int .u64 0, .int .u64 0, .int .u64 0, .int .u64 0, .int .u64 0, .bool false, .int .i8 0, .int .u64 0, .int .i64 0], .struct #[fld 58 0, fld 44 11, fld 3 14]⟩),
  (107, ⟨1, 8, .pointer none, .pointer 84⟩),
  (114, ⟨3, 24, .agg #[.int .i64 0, .int .i64 0, .int .i64 0], .struct #[fld 3 0, fld 3 1, fld 3 2]⟩),
  (125, ⟨1, 8, .int .u64 0, .int .u64⟩),
  (126, ⟨1, 24, .slice none 0 0, .slice 5⟩),
  (161, ⟨1, 24, .slice none 0 0, .slice 42⟩)]

theorem und3 : (Tryf.prog.underlying 3).map strip = (Sx.look tab 3).map (·.desc) := by kernel_rfl
theorem inf3 : (Tryf.prog.info? 3).map (fun i => (i.size, i.bytes, i.zero)) = (Sx.look tab 3).map (fun ti => (ti.size, ti.bytes, some ti.zero)) := by kernel_rfl
theorem und4 : (Tryf.prog.underlying 4).map strip = (Sx.look tab 4).map (·.desc) := by kernel_rfl
theorem inf4 : (Tryf.prog.info? 4).map (fun i => (i.size, i.bytes, i.zero)) = (Sx.look tab 4).map (fun ti => (ti.size, ti.bytes, some ti.zero)) := by kernel_rfl
theorem und5 : (Tryf.prog.underlying 5).map strip = (Sx.look tab 5).map (·.desc) := by kernel_rfl
theorem inf5 : (Tryf.prog.info? 5).map (fun i => (i.size, i.bytes, i.zero)) = (Sx.look tab 5).map (fun ti => (ti.size, ti.bytes, some ti.zero)) := by kernel_rfl
theorem und9 : (Tryf.prog.underlying 9).map strip = (Sx.look tab 9).map (·.desc) := by kernel_rfl
theorem inf9 : (Tryf.prog.info? 9).map (fun i => (i.size, i.bytes, i.zero)) = (Sx.look tab 9).map (fun ti => (ti.size, ti.bytes, some ti.zero)) := by kernel_rfl
theorem und22 : (Tryf.prog.underlying 22).map strip = (Sx.look tab 22).map (·.desc) := by kernel_rfl
theorem inf22 : (Tryf.prog.info? 22).map (fun i => (i.size, i.bytes, i.zero)) = (Sx.look tab 22).map (fun ti => (ti.size, ti.bytes, some ti.zero)) := by kernel_rfl
theorem und26 : (Tryf.prog.underlying 26).map strip = (Sx.look tab 26).map (·.desc) := by kernel_rfl
theorem inf26 : (Tryf.prog.info? 26).map (fun i => (i.size, i.bytes, i.zero)) = (Sx.look tab 26).map (fun ti => (ti.size, ti.bytes, some ti.zero)) := by kernel_rfl
theorem und27 : (Tryf.prog.underlying 27).map strip = (Sx.look tab 27).map (·.desc) := by kernel_rfl
theorem inf27 : (Tryf.prog.info? 27).map (fun i => (i.size, i.bytes, i.zero)) = (Sx.look tab 27).map (fun ti => (ti.size, ti.bytes, some ti.zero)) := by kernel_rfl
theorem und28 : (Tryf.prog.underlying 28).map strip = (Sx.look tab 28).map (·.desc) := by kernel_rfl
theorem inf28 : (Tryf.prog.info? 28).map (fun i => (i.size, i.bytes, i.zero)) = (Sx.look tab 28).map (fun ti => (ti.size, ti.bytes, some ti.zero)) := by kernel_rfl
theorem und29 : (Tryf.prog.underlying 29).map strip = (Sx.look tab 29).map (·.desc) := by kernel_rfl
theorem inf29 : (Tryf.prog.info? 29).map (fun i => (i.size, i.bytes, i.zero)) = (Sx.look tab 29).map (fun ti => (ti.size, ti.bytes, some ti.zero)) := by kernel_rfl
theorem und31 : (Tryf.prog.underlying 31).map strip = (Sx.look tab 31).map (·.desc) := by kernel_rfl
theorem inf31 : (Tryf.prog.info? 31).map (fun i => (i.size, i.bytes, i.zero)) = (Sx.look tab 31).map (fun ti => (ti.size, ti.bytes, some ti.zero)) := by kernel_rfl
theorem und33 : (Tryf.prog.underlying 33).map strip = (Sx.look tab 33).map (·.desc) := by kernel_rfl
theorem inf33 : (Tryf.prog.info? 33).map (fun i => (i.size, i.bytes, i.zero)) = (Sx.look tab 33).map (fun ti => (ti.size, ti.bytes, some ti.zero)) := by kernel_rfl
theorem und41 : (Tryf.prog.underlying 41).map strip = (Sx.look tab 41).map (·.desc) := by kernel_rfl
theorem inf41 : (Tryf.prog.info? 41).map (fun i => (i.size, i.bytes, i.zero)) = (Sx.look tab 41).map (fun ti => (ti.size, ti.bytes, some ti.zero)) := by kernel_rfl
theorem und42 : (Tryf.prog.underlying 42).map strip = (Sx.look tab 42).map (·.desc) := by kernel_rfl
theorem inf42 : (Tryf.prog.info? 42).map (fun i => (i.size, i.bytes, i.zero)) = (Sx.look tab 42).map (fun ti => (ti.size, ti.bytes, some ti.zero)) := by kernel_rfl
theorem und44 : (Tryf.prog.underlying 44).map strip = (Sx.look tab 44).map (·.desc) := by kernel_rfl
theorem inf44 : (Tryf.prog.info? 44).map (fun i => (i.size, i.bytes, i.zero)) = (Sx.look tab 44).map (fun ti => (ti.size, ti.bytes, some ti.zero)) := by kernel_rfl
theorem und46 : (Tryf.prog.underlying 46).map strip = (Sx.look tab 46).map (·.desc) := by kernel_rfl
theorem inf46 : (Tryf.prog.info? 46).map (fun i => (i.size, i.bytes, i.zero)) = (Sx.look tab 46).map (fun ti => (ti.size, ti.bytes, some ti.zero)) := by kernel_rfl
theorem und52 : (Tryf.prog.underlying 52).map strip = (Sx.look tab 52).map (·.desc) := by kernel_rfl
theorem inf52 : (Tryf.prog.info? 52).map (fun i => (i.size, i.bytes, i.zero)) = (Sx.look tab 52).map (fun ti => (ti.size, ti.bytes, some ti.zero)) := by kernel_rfl
theorem und55 : (Tryf.prog.underlying 55).map strip = (Sx.look tab 55).map (·.desc) := by kernel_rfl
theorem inf55 : (Tryf.prog.info? 55).map (fun i => (i.size, i.bytes, i.zero)) = (Sx.look tab 55).map (fun ti => (ti.size, ti.bytes, some ti.zero)) := by kernel_rfl
theorem und56 : (Tryf.prog.underlying 56).map strip = (Sx.look tab 56).map (·.desc) := by kernel_rfl
theorem inf56 : (Tryf.prog.info? 56).map (fun i => (i.size, i.bytes, i.zero)) = (Sx.look tab 56).map (fun ti => (ti.size, ti.bytes, some ti.zero)) := by kernel_rfl
theorem und58 : (Tryf.prog.underlying 58).map strip = (Sx.look tab 58).map (·.desc) := by kernel_rfl
theorem inf58 : (Tryf.prog.info? 58).map (fun i => (i.size, i.bytes, i.zero)) = (Sx.look tab 58).map (fun ti => (ti.size, ti.bytes, some ti.zero)) := by kernel_rfl
theorem und60 : (Tryf.prog.underlying 60).map strip = (Sx.look tab 60).map (·.desc) := by kernel_rfl
theorem inf60 : (Tryf.prog.info? 60).map (fun i => (i.size, i.bytes, i.zero)) = (Sx.look tab 60).map (fun ti => (ti.size, ti.bytes, some ti.zero)) := by kernel_rfl
theorem und84 : (Tryf.prog.underlying 84).map strip = (Sx.look tab 84).map (·.desc) := by kernel_rfl
theorem inf84 : (Tryf.prog.info? 84).map (fun i => (i.size, i.bytes, i.zero)) = (Sx.look tab 84).map (fun ti => (ti.size, ti.bytes, some ti.zero)) := by kernel_rfl
theorem und85 : (Tryf.prog.underlying 85).map strip = (Sx.look tab 85).map (·.desc) := by kernel_rfl
theorem inf85 : (Tryf.prog.info? 85).map (fun i => (i.size, i.bytes, i.zero)) = (Sx.look tab 85).map (fun ti => (ti.size, ti.bytes, some ti.zero)) := by kernel_rfl
theorem und86 : (Tryf.prog.underlying 86).map strip = (Sx.look tab 86).map (·.desc) := by kernel_rfl
theorem inf86 : (Tryf.prog.info? 86).map (fun i => (i.size, i.bytes, i.zero)) = (Sx.look tab 86).map (fun ti => (ti.size, ti.bytes, some ti.zero)) := by kernel_rfl
theorem und87 : (Tryf.prog.underlying 87).map strip = (Sx.look tab 87).map (·.desc) := by kernel_rfl
theorem inf87 : (Tryf.prog.info? 87).map (fun i => (i.size, i.bytes, i.zero)) = (Sx.look tab 87).map (fun ti => (ti.size, ti.bytes, some ti.zero)) := by kernel_rfl
theorem und89 : (Tryf.prog.underlying 89).map strip = (Sx.look tab 89).map (·.desc) := by kernel_rfl
theorem inf89 : (Tryf.prog.info? 89).map (fun i => (i.size, i.bytes, i.zero)) = (Sx.look tab 89).map (fun ti => (ti.size, ti.bytes, some ti.zero)) := by kernel_rfl
theorem und93 : (Tryf.prog.underlying 93).map strip = (Sx.look tab 93).map (·.desc) := by kernel_rfl
theorem inf93 : (Tryf.prog.info? 93).map (fun i => (i.size, i.bytes, i.zero)) = (Sx.look tab 93).map (fun ti => (ti.size, ti.bytes, some ti.zero)) := by kernel_rfl
theorem und105 : (Tryf.prog.underlying 105).map strip = (Sx.look tab 105).map (·.desc) := by kernel_rfl
theorem inf105 : (Tryf.prog.info? 105).map (fun i => (i.size, i.bytes, i.zero)) = (Sx.look tab 105).map (fun ti => (ti.size, ti.bytes, some ti.zero)) := by kernel_rfl
theorem und107 : (Tryf.prog.underlying 107).map strip = (Sx.look tab 107).map (·.desc) := by kernel_rfl
theorem inf107 : (Tryf.prog.info? 107).map (fun i => (i.size, i.bytes, i.zero)) = (Sx.look tab 107).map (fun ti => (ti.size, ti.bytes, some ti.zero)) := by kernel_rfl
theorem und114 : (Tryf.prog.underlying 114).map strip = (Sx.look tab 114).map (·.desc) := by kernel_rfl
theorem inf114 : (Tryf.prog.info? 114).map (fun i => (i.size, i.bytes, i.zero)) = (Sx.look tab 114).map (fun ti => (ti.size, ti.bytes, some ti.zero)) := by kernel_rfl
theorem und125 : (Tryf.prog.underlying 125).map strip = (Sx.look tab 125).map (·.desc) := by kernel_rfl
theorem inf125 : (Tryf.prog.info? 125).map (fun i => (i.size, i.bytes, i.zero)) = (Sx.look tab 125).map (fun ti => (ti.size, ti.bytes, some ti.zero)) := by kernel_rfl
theorem und126 : (Tryf.prog.underlying 126).map strip = (Sx.look tab 126).map (·.desc) := by kernel_rfl
theorem inf126 : (Tryf.prog.info? 126).map (fun i => (i.size, i.bytes, i.zero)) = (Sx.look tab 126).map (fun ti => (ti.size, ti.bytes, some ti.zero)) := by kernel_rfl
theorem und161 : (Tryf.prog.underlying 161).map strip = (Sx.look tab 161).map (·.desc) := by kernel_rfl
theorem inf161 : (Tryf.prog.info? 161).map (fun i => (i.size, i.bytes, i.zero)) = (Sx.look tab 161).map (fun ti => (ti.size, ti.bytes, some ti.zero)) := by kernel_rfl

theorem tabOk : TabOk Tryf.prog tab := tabOk_of ⟨⟨und3, inf3⟩, ⟨und4, inf4⟩, ⟨und5, inf5⟩, ⟨und9, inf9⟩, ⟨und22, inf22⟩, ⟨und26, inf26⟩, ⟨und27, inf27⟩, ⟨und28, inf28⟩, ⟨und29, inf29⟩, ⟨und31, inf31⟩, ⟨und33, inf33⟩, ⟨und41, inf41⟩, ⟨und42, inf42⟩, ⟨und44, inf44⟩, ⟨und46, inf46⟩, ⟨und52, inf52⟩, ⟨und55, inf55⟩, ⟨und56, inf56⟩, ⟨und58, inf58⟩, ⟨und60, inf60⟩, ⟨und84, inf84⟩, ⟨und85, inf85⟩, ⟨und86, inf86⟩, ⟨und87, inf87⟩, ⟨und89, inf89⟩, ⟨und93, inf93⟩, ⟨und105, inf105⟩, ⟨und107, inf107⟩, ⟨und114, inf114⟩, ⟨und125, inf125⟩, ⟨und126, inf126⟩, ⟨und161, inf161⟩, trivial⟩

theorem tabZ_ok : TabZ tab := tabZ_spec rfl

theorem mixed : Tryf.prog.follows .mixedOrders = true := by kernel_rfl

end Go.Proofs.Qxb6500919aFmt
