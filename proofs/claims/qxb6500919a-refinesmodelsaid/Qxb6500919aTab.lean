/-
  The types of the program that the walks come to, without their names; that the program has them so.
-/
import Derived.Test.Qxb6500919aRows
import Derived.Test.Qxb6500919aSxH
import Derived.KernelRfl
namespace Go.Proofs.Qxb6500919a
open Go.Sx

def tab : Tab := [
  (3, ⟨1, 8, .int .i64 0, .int .i64⟩),
  (4, ⟨1, 1, .bool false, .bool⟩),
  (5, ⟨1, 1, .int .u8 0, .int .u8⟩),
  (22, ⟨1, 24, .slice none 0 0, .slice 35⟩),
  (24, ⟨1, 8, .pointer none, .pointer 83⟩),
  (26, ⟨1, 8, .pointer none, .pointer 52⟩),
  (28, ⟨1, 1, .int .u8 0, .int .u8⟩),
  (29, ⟨1, 1, .int .u8 0, .int .u8⟩),
  (30, ⟨1, 4, .int .u32 0, .int .u32⟩),
  (31, ⟨1, 8, .int .u64 0, .int .u64⟩),
  (33, ⟨3, 16, .agg #[.int .u8 0, .int .u32 0, .int .u64 0], .struct #[fld 29 0, fld 30 1, fld 31 2]⟩),
  (35, ⟨6, 40, .agg #[.int .u8 0, .int .i64 0, .int .i64 0, .int .u8 0, .int .u32 0, .int .u64 0], .struct #[fld 28 0, fld 3 1, fld 3 2, fld 33 3]⟩),
  (36, ⟨1, 1, .int .u8 0, .int .u8⟩),
  (37, ⟨1, 1, .int .i8 0, .int .i8⟩),
  (39, ⟨3, 16, .agg #[.bool false, .int .i8 0, .int .u64 0], .struct #[fld 4 0, fld 37 1, fld 31 2]⟩),
  (41, ⟨12, 88, .agg #[.int .u8 0, .int .i64 0, .int .i64 0, .int .i64 0, .bool false, .bool false, .int .i8 0, .int .u64 0, .int .u64 0, .int .i64 0, .int .i64 0, .int .i64 0], .struct #[fld 36 0, fld 3 1, fld 3 2, fld 3 3, fld 4 4, fld 39 5, fld 31 8, fld 3 9, fld 3 10, fld 3 11]⟩),
  (43, ⟨4, 4, .agg #[.int .u8 0, .int .u8 0, .int .u8 0, .int .u8 0], .array 4 5⟩),
  (44, ⟨4, 32, .agg #[.int .u64 0, .int .u64 0, .int .u64 0, .int .u64 0], .array 4 31⟩),
  (46, ⟨11, 56, .agg #[.int .u64 0, .int .i8 0, .int .u8 0, .int .u8 0, .int .u8 0, .int .u8 0, .int .u64 0, .int .u64 0, .int .u64 0, .int .u64 0, .int .u64 0], .struct #[fld 31 0, fld 37 1, fld 43 2, fld 44 6, fld 31 10]⟩),
  (49, ⟨1, 24, .slice none 0 0, .slice 33⟩),
  (50, ⟨1, 8, .pointer none, .pointer 69⟩),
  (52, ⟨4, 48, .agg #[.slice none 0 0, .pointer none, .int .i64 0, .bool false], .struct #[fld 49 0, fld 50 1, fld 3 2, fld 4 3]⟩),
  (56, ⟨1, 24, .slice none 0 0, .slice 3⟩),
  (59, ⟨4, 24, .agg #[.int .u64 0, .bool false, .int .i8 0, .int .u64 0], .struct #[fld 31 0, fld 39 1]⟩),
  (60, ⟨1, 24, .slice none 0 0, .slice 59⟩),
  (64, ⟨1, 24, .slice none 0 0, .slice 66⟩),
  (66, ⟨15, 80, .agg #[.int .i64 0, .int .u64 0, .int .i8 0, .int .u8 0, .int .u8 0, .int .u8 0, .int .u8 0, .int .u64 0, .int .u64 0, .int .u64 0, .int .u64 0, .int .u64 0, .bool false, .int .i8 0, .int .u64 0], .struct #[fld 3 0, fld 46 1, fld 39 12]⟩),
  (67, ⟨1, 24, .slice none 0 0, .slice 78⟩),
  (69, ⟨18, 152, .agg #[.int .i64 0, .int .u64 0, .int .i8 0, .int .u8 0, .int .u8 0, .int .u8 0, .int .u8 0, .int .u64 0, .int .u64 0, .int .u64 0, .int .u64 0, .int .u64 0, .bool false, .int .i8 0, .int .u64 0, .slice none 0 0, .slice none 0 0, .slice none 0 0], .struct #[fld 66 0, fld 49 15, fld 67 16, fld 64 17]⟩),
  (72, ⟨3, 24, .agg #[.int .i64 0, .int .i64 0, .int .i64 0], .struct #[fld 3 0, fld 3 1, fld 3 2]⟩),
  (74, ⟨1, 8, .pointer none, .pointer 66⟩),
  (78, ⟨2, 16, .agg #[.int .i64 0, .int .u64 0], .struct #[fld 3 0, fld 31 1]⟩),
  (83, ⟨17, 96, .agg #[.pointer none, .int .u64 0, .int .i8 0, .int .u8 0, .int .u8 0, .int .u8 0, .int .u8 0, .int .u64 0, .int .u64 0, .int .u64 0, .int .u64 0, .int .u64 0, .bool false, .int .i8 0, .int .u64 0, .int .i64 0, .bool false], .struct #[fld 50 0, fld 46 1, fld 39 12, fld 3 15, fld 4 16]⟩),
  (91, ⟨1, 8, .pointer none, .pointer 46⟩),
  (100, ⟨15, 80, .agg #[.int .u64 0, .int .i8 0, .int .u8 0, .int .u8 0, .int .u8 0, .int .u8 0, .int .u64 0, .int .u64 0, .int .u64 0, .int .u64 0, .int .u64 0, .bool false, .int .i8 0, .int .u64 0, .int .i64 0], .struct #[fld 46 0, fld 39 11, fld 3 14]⟩),
  (109, ⟨1, 24, .slice none 0 0, .slice 37⟩),
  (111, ⟨1, 24, .slice none 0 0, .slice 5⟩),
  (113, ⟨1, 8, .pointer none, .pointer 100⟩),
  (116, ⟨1, 8, .int .u64 0, .int .u64⟩)]

theorem und3 : (Try.prog.underlying 3).map strip = (Sx.look tab 3).map (·.desc) := by kernel_rfl
theorem inf3 : (Try.prog.info? 3).map (fun i => (i.size, i.bytes, i.zero)) = (Sx.look tab 3).map (fun ti => (ti.size, ti.bytes, some ti.zero)) := by kernel_rfl
theorem und4 : (Try.prog.underlying 4).map strip = (Sx.look tab 4).map (·.desc) := by kernel_rfl
theorem inf4 : (Try.prog.info? 4).map (fun i => (i.size, i.bytes, i.zero)) = (Sx.look tab 4).map (fun ti => (ti.size, ti.bytes, some ti.zero)) := by kernel_rfl
theorem und5 : (Try.prog.underlying 5).map strip = (Sx.look tab 5).map (·.desc) := by kernel_rfl
theorem inf5 : (Try.prog.info? 5).map (fun i => (i.size, i.bytes, i.zero)) = (Sx.look tab 5).map (fun ti => (ti.size, ti.bytes, some ti.zero)) := by kernel_rfl
theorem und22 : (Try.prog.underlying 22).map strip = (Sx.look tab 22).map (·.desc) := by kernel_rfl
theorem inf22 : (Try.prog.info? 22).map (fun i => (i.size, i.bytes, i.zero)) = (Sx.look tab 22).map (fun ti => (ti.size, ti.bytes, some ti.zero)) := by kernel_rfl
theorem und24 : (Try.prog.underlying 24).map strip = (Sx.look tab 24).map (·.desc) := by kernel_rfl
theorem inf24 : (Try.prog.info? 24).map (fun i => (i.size, i.bytes, i.zero)) = (Sx.look tab 24).map (fun ti => (ti.size, ti.bytes, some ti.zero)) := by kernel_rfl
theorem und26 : (Try.prog.underlying 26).map strip = (Sx.look tab 26).map (·.desc) := by kernel_rfl
theorem inf26 : (Try.prog.info? 26).map (fun i => (i.size, i.bytes, i.zero)) = (Sx.look tab 26).map (fun ti => (ti.size, ti.bytes, some ti.zero)) := by kernel_rfl
theorem und28 : (Try.prog.underlying 28).map strip = (Sx.look tab 28).map (·.desc) := by kernel_rfl
theorem inf28 : (Try.prog.info? 28).map (fun i => (i.size, i.bytes, i.zero)) = (Sx.look tab 28).map (fun ti => (ti.size, ti.bytes, some ti.zero)) := by kernel_rfl
theorem und29 : (Try.prog.underlying 29).map strip = (Sx.look tab 29).map (·.desc) := by kernel_rfl
theorem inf29 : (Try.prog.info? 29).map (fun i => (i.size, i.bytes, i.zero)) = (Sx.look tab 29).map (fun ti => (ti.size, ti.bytes, some ti.zero)) := by kernel_rfl
theorem und30 : (Try.prog.underlying 30).map strip = (Sx.look tab 30).map (·.desc) := by kernel_rfl
theorem inf30 : (Try.prog.info? 30).map (fun i => (i.size, i.bytes, i.zero)) = (Sx.look tab 30).map (fun ti => (ti.size, ti.bytes, some ti.zero)) := by kernel_rfl
theorem und31 : (Try.prog.underlying 31).map strip = (Sx.look tab 31).map (·.desc) := by kernel_rfl
theorem inf31 : (Try.prog.info? 31).map (fun i => (i.size, i.bytes, i.zero)) = (Sx.look tab 31).map (fun ti => (ti.size, ti.bytes, some ti.zero)) := by kernel_rfl
theorem und33 : (Try.prog.underlying 33).map strip = (Sx.look tab 33).map (·.desc) := by kernel_rfl
theorem inf33 : (Try.prog.info? 33).map (fun i => (i.size, i.bytes, i.zero)) = (Sx.look tab 33).map (fun ti => (ti.size, ti.bytes, some ti.zero)) := by kernel_rfl
theorem und35 : (Try.prog.underlying 35).map strip = (Sx.look tab 35).map (·.desc) := by kernel_rfl
theorem inf35 : (Try.prog.info? 35).map (fun i => (i.size, i.bytes, i.zero)) = (Sx.look tab 35).map (fun ti => (ti.size, ti.bytes, some ti.zero)) := by kernel_rfl
theorem und36 : (Try.prog.underlying 36).map strip = (Sx.look tab 36).map (·.desc) := by kernel_rfl
theorem inf36 : (Try.prog.info? 36).map (fun i => (i.size, i.bytes, i.zero)) = (Sx.look tab 36).map (fun ti => (ti.size, ti.bytes, some ti.zero)) := by kernel_rfl
theorem und37 : (Try.prog.underlying 37).map strip = (Sx.look tab 37).map (·.desc) := by kernel_rfl
theorem inf37 : (Try.prog.info? 37).map (fun i => (i.size, i.bytes, i.zero)) = (Sx.look tab 37).map (fun ti => (ti.size, ti.bytes, some ti.zero)) := by kernel_rfl
theorem und39 : (Try.prog.underlying 39).map strip = (Sx.look tab 39).map (·.desc) := by kernel_rfl
theorem inf39 : (Try.prog.info? 39).map (fun i => (i.size, i.bytes, i.zero)) = (Sx.look tab 39).map (fun ti => (ti.size, ti.bytes, some ti.zero)) := by kernel_rfl
theorem und41 : (Try.prog.underlying 41).map strip = (Sx.look tab 41).map (·.desc) := by kernel_rfl
theorem inf41 : (Try.prog.info? 41).map (fun i => (i.size, i.bytes, i.zero)) = (Sx.look tab 41).map (fun ti => (ti.size, ti.bytes, some ti.zero)) := by kernel_rfl
theorem und43 : (Try.prog.underlying 43).map strip = (Sx.look tab 43).map (·.desc) := by kernel_rfl
theorem inf43 : (Try.prog.info? 43).map (fun i => (i.size, i.bytes, i.zero)) = (Sx.look tab 43).map (fun ti => (ti.size, ti.bytes, some ti.zero)) := by kernel_rfl
theorem und44 : (Try.prog.underlying 44).map strip = (Sx.look tab 44).map (·.desc) := by kernel_rfl
theorem inf44 : (Try.prog.info? 44).map (fun i => (i.size, i.bytes, i.zero)) = (Sx.look tab 44).map (fun ti => (ti.size, ti.bytes, some ti.zero)) := by kernel_rfl
theorem und46 : (Try.prog.underlying 46).map strip = (Sx.look tab 46).map (·.desc) := by kernel_rfl
theorem inf46 : (Try.prog.info? 46).map (fun i => (i.size, i.bytes, i.zero)) = (Sx.look tab 46).map (fun ti => (ti.size, ti.bytes, some ti.zero)) := by kernel_rfl
theorem und49 : (Try.prog.underlying 49).map strip = (Sx.look tab 49).map (·.desc) := by kernel_rfl
theorem inf49 : (Try.prog.info? 49).map (fun i => (i.size, i.bytes, i.zero)) = (Sx.look tab 49).map (fun ti => (ti.size, ti.bytes, some ti.zero)) := by kernel_rfl
theorem und50 : (Try.prog.underlying 50).map strip = (Sx.look tab 50).map (·.desc) := by kernel_rfl
theorem inf50 : (Try.prog.info? 50).map (fun i => (i.size, i.bytes, i.zero)) = (Sx.look tab 50).map (fun ti => (ti.size, ti.bytes, some ti.zero)) := by kernel_rfl
theorem und52 : (Try.prog.underlying 52).map strip = (Sx.look tab 52).map (·.desc) := by kernel_rfl
theorem inf52 : (Try.prog.info? 52).map (fun i => (i.size, i.bytes, i.zero)) = (Sx.look tab 52).map (fun ti => (ti.size, ti.bytes, some ti.zero)) := by kernel_rfl
theorem und56 : (Try.prog.underlying 56).map strip = (Sx.look tab 56).map (·.desc) := by kernel_rfl
theorem inf56 : (Try.prog.info? 56).map (fun i => (i.size, i.bytes, i.zero)) = (Sx.look tab 56).map (fun ti => (ti.size, ti.bytes, some ti.zero)) := by kernel_rfl
theorem und59 : (Try.prog.underlying 59).map strip = (Sx.look tab 59).map (·.desc) := by kernel_rfl
theorem inf59 : (Try.prog.info? 59).map (fun i => (i.size, i.bytes, i.zero)) = (Sx.look tab 59).map (fun ti => (ti.size, ti.bytes, some ti.zero)) := by kernel_rfl
theorem und60 : (Try.prog.underlying 60).map strip = (Sx.look tab 60).map (·.desc) := by kernel_rfl
theorem inf60 : (Try.prog.info? 60).map (fun i => (i.size, i.bytes, i.zero)) = (Sx.look tab 60).map (fun ti => (ti.size, ti.bytes, some ti.zero)) := by kernel_rfl
theorem und64 : (Try.prog.underlying 64).map strip = (Sx.look tab 64).map (·.desc) := by kernel_rfl
theorem inf64 : (Try.prog.info? 64).map (fun i => (i.size, i.bytes, i.zero)) = (Sx.look tab 64).map (fun ti => (ti.size, ti.bytes, some ti.zero)) := by kernel_rfl
theorem und66 : (Try.prog.underlying 66).map strip = (Sx.look tab 66).map (·.desc) := by kernel_rfl
theorem inf66 : (Try.prog.info? 66).map (fun i => (i.size, i.bytes, i.zero)) = (Sx.look tab 66).map (fun ti => (ti.size, ti.bytes, some ti.zero)) := by kernel_rfl
theorem und67 : (Try.prog.underlying 67).map strip = (Sx.look tab 67).map (·.desc) := by kernel_rfl
theorem inf67 : (Try.prog.info? 67).map (fun i => (i.size, i.bytes, i.zero)) = (Sx.look tab 67).map (fun ti => (ti.size, ti.bytes, some ti.zero)) := by kernel_rfl
theorem und69 : (Try.prog.underlying 69).map strip = (Sx.look tab 69).map (·.desc) := by kernel_rfl
theorem inf69 : (Try.prog.info? 69).map (fun i => (i.size, i.bytes, i.zero)) = (Sx.look tab 69).map (fun ti => (ti.size, ti.bytes, some ti.zero)) := by kernel_rfl
theorem und72 : (Try.prog.underlying 72).map strip = (Sx.look tab 72).map (·.desc) := by kernel_rfl
theorem inf72 : (Try.prog.info? 72).map (fun i => (i.size, i.bytes, i.zero)) = (Sx.look tab 72).map (fun ti => (ti.size, ti.bytes, some ti.zero)) := by kernel_rfl
theorem und74 : (Try.prog.underlying 74).map strip = (Sx.look tab 74).map (·.desc) := by kernel_rfl
theorem inf74 : (Try.prog.info? 74).map (fun i => (i.size, i.bytes, i.zero)) = (Sx.look tab 74).map (fun ti => (ti.size, ti.bytes, some ti.zero)) := by kernel_rfl
theorem und78 : (Try.prog.underlying 78).map strip = (Sx.look tab 78).map (·.desc) := by kernel_rfl
theorem inf78 : (Try.prog.info? 78).map (fun i => (i.size, i.bytes, i.zero)) = (Sx.look tab 78).map (fun ti => (ti.size, ti.bytes, some ti.zero)) := by kernel_rfl
theorem und83 : (Try.prog.underlying 83).map strip = (Sx.look tab 83).map (·.desc) := by kernel_rfl
theorem inf83 : (Try.prog.info? 83).map (fun i => (i.size, i.bytes, i.zero)) = (Sx.look tab 83).map (fun ti => (ti.size, ti.bytes, some ti.zero)) := by kernel_rfl
theorem und91 : (Try.prog.underlying 91).map strip = (Sx.look tab 91).map (·.desc) := by kernel_rfl
theorem inf91 : (Try.prog.info? 91).map (fun i => (i.size, i.bytes, i.zero)) = (Sx.look tab 91).map (fun ti => (ti.size, ti.bytes, some ti.zero)) := by kernel_rfl
theorem und100 : (Try.prog.underlying 100).map strip = (Sx.look tab 100).map (·.desc) := by kernel_rfl
theorem inf100 : (Try.prog.info? 100).map (fun i => (i.size, i.bytes, i.zero)) = (Sx.look tab 100).map (fun ti => (ti.size, ti.bytes, some ti.zero)) := by kernel_rfl
theorem und109 : (Try.prog.underlying 109).map strip = (Sx.look tab 109).map (·.desc) := by kernel_rfl
theorem inf109 : (Try.prog.info? 109).map (fun i => (i.size, i.bytes, i.zero)) = (Sx.look tab 109).map (fun ti => (ti.size, ti.bytes, some ti.zero)) := by kernel_rfl
theorem und111 : (Try.prog.underlying 111).map strip = (Sx.look tab 111).map (·.desc) := by kernel_rfl
theorem inf111 : (Try.prog.info? 111).map (fun i => (i.size, i.bytes, i.zero)) = (Sx.look tab 111).map (fun ti => (ti.size, ti.bytes, some ti.zero)) := by kernel_rfl
theorem und113 : (Try.prog.underlying 113).map strip = (Sx.look tab 113).map (·.desc) := by kernel_rfl
theorem inf113 : (Try.prog.info? 113).map (fun i => (i.size, i.bytes, i.zero)) = (Sx.look tab 113).map (fun ti => (ti.size, ti.bytes, some ti.zero)) := by kernel_rfl
theorem und116 : (Try.prog.underlying 116).map strip = (Sx.look tab 116).map (·.desc) := by kernel_rfl
theorem inf116 : (Try.prog.info? 116).map (fun i => (i.size, i.bytes, i.zero)) = (Sx.look tab 116).map (fun ti => (ti.size, ti.bytes, some ti.zero)) := by kernel_rfl

theorem tabOk : TabOk Try.prog tab := tabOk_of ⟨⟨und3, inf3⟩, ⟨und4, inf4⟩, ⟨und5, inf5⟩, ⟨und22, inf22⟩, ⟨und24, inf24⟩, ⟨und26, inf26⟩, ⟨und28, inf28⟩, ⟨und29, inf29⟩, ⟨und30, inf30⟩, ⟨und31, inf31⟩, ⟨und33, inf33⟩, ⟨und35, inf35⟩, ⟨und36, inf36⟩, ⟨und37, inf37⟩, ⟨und39, inf39⟩, ⟨und41, inf41⟩, ⟨und43, inf43⟩, ⟨und44, inf44⟩, ⟨und46, inf46⟩, ⟨und49, inf49⟩, ⟨und50, inf50⟩, ⟨und52, inf52⟩, ⟨und56, inf56⟩, ⟨und59, inf59⟩, ⟨und60, inf60⟩, ⟨und64, inf64⟩, ⟨und66, inf66⟩, ⟨und67, inf67⟩, ⟨und69, inf69⟩, ⟨und72, inf72⟩, ⟨und74, inf74⟩, ⟨und78, inf78⟩, ⟨und83, inf83⟩, ⟨und91, inf91⟩, ⟨und100, inf100⟩, ⟨und109, inf109⟩, ⟨und111, inf111⟩, ⟨und113, inf113⟩, ⟨und116, inf116⟩, trivial⟩

theorem tabZ_ok : TabZ tab := tabZ_spec rfl

theorem mixed : Try.prog.follows .mixedOrders = true := by kernel_rfl

end Go.Proofs.Qxb6500919a
