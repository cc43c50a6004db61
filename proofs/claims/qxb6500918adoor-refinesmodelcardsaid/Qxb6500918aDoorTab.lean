/-
  The types of the program that the walks come to, without their names; that the program has them so.
-/
import Derived.Test.Qxb6500918aDoorRows
import Derived.Test.Qxb6500918aDoorKf
import Derived.Test.Qxb6500918aDoorSxQ
import Derived.KernelRfl
namespace Go.Proofs.Qxb6500918aDoor
open Go.Sx
set_option maxRecDepth 100000

def z82 : Value := .agg (List.toArray ((List.replicate 256 ([Value.int .u8 0, Value.int .u8 0, Value.int .u16 0, Value.int .u32 0, Value.int .u16 0, Value.int .u32 0, Value.int .u16 0, Value.int .u32 0, Value.int .u64 0, Value.int .u64 0, Value.int .u64 0, Value.int .u64 0, Value.int .u64 0, Value.int .u8 0, Value.int .u8 0, Value.int .u32 0, Value.int .u32 0, Value.bool false, Value.bool false, Value.int .i16 0, Value.int .i16 0] : List Value)).flatten))
def z85 : Value := .agg (List.toArray ((List.replicate 256 ([Value.int .i16 0, Value.int .i16 0, Value.int .u32 0] : List Value)).flatten))
def z86 : Value := .agg (List.toArray ((List.replicate 256 ([Value.int .u64 0] : List Value)).flatten))
def z88 : Value := .agg (List.toArray ((List.replicate 16 ([Value.int .u16 0, Value.int .u32 0, Value.int .u64 0, Value.bool false] : List Value)).flatten))
def z89 : Value := .agg (List.toArray ((List.append ([Value.pointer none, Value.pointer none] : List Value) (List.append ((List.replicate 256 ([Value.int .u8 0, Value.int .u8 0, Value.int .u16 0, Value.int .u32 0, Value.int .u16 0, Value.int .u32 0, Value.int .u16 0, Value.int .u32 0, Value.int .u64 0, Value.int .u64 0, Value.int .u64 0, Value.int .u64 0, Value.int .u64 0, Value.int .u8 0, Value.int .u8 0, Value.int .u32 0, Value.int .u32 0, Value.bool false, Value.bool false, Value.int .i16 0, Value.int .i16 0] : List Value)).flatten) (List.append ((List.replicate 256 ([Value.int .i16 0, Value.int .i16 0, Value.int .u32 0] : List Value)).flatten) (List.append ((List.replicate 256 ([Value.int .u64 0] : List Value)).flatten) (List.append ([Value.int .i16 0, Value.int .i16 0, Value.int .u32 0, Value.int .i16 0, Value.int .i16 0, Value.int .u32 0, Value.int .i16 0, Value.int .i16 0, Value.int .u32 0, Value.int .i16 0, Value.int .i16 0, Value.int .u32 0, Value.int .i16 0, Value.int .i16 0, Value.int .u32 0, Value.int .i16 0, Value.int .i16 0, Value.int .u32 0, Value.int .i16 0, Value.int .i16 0, Value.int .u32 0, Value.int .i16 0, Value.int .i16 0, Value.int .u32 0, Value.int .u8 0, Value.int .i16 0] : List Value) (List.append ((List.replicate 16 ([Value.int .u16 0, Value.int .u32 0, Value.int .u64 0, Value.bool false] : List Value)).flatten) ([Value.int .u64 0] : List Value)))))))))
def z90 : Value := .agg (List.toArray ((List.append ([Value.pointer none, Value.pointer none] : List Value) (List.append ((List.replicate 256 ([Value.int .u8 0, Value.int .u8 0, Value.int .u16 0, Value.int .u32 0, Value.int .u16 0, Value.int .u32 0, Value.int .u16 0, Value.int .u32 0, Value.int .u64 0, Value.int .u64 0, Value.int .u64 0, Value.int .u64 0, Value.int .u64 0, Value.int .u8 0, Value.int .u8 0, Value.int .u32 0, Value.int .u32 0, Value.bool false, Value.bool false, Value.int .i16 0, Value.int .i16 0] : List Value)).flatten) (List.append ((List.replicate 256 ([Value.int .i16 0, Value.int .i16 0, Value.int .u32 0] : List Value)).flatten) (List.append ((List.replicate 256 ([Value.int .u64 0] : List Value)).flatten) (List.append ([Value.int .i16 0, Value.int .i16 0, Value.int .u32 0, Value.int .i16 0, Value.int .i16 0, Value.int .u32 0, Value.int .i16 0, Value.int .i16 0, Value.int .u32 0, Value.int .i16 0, Value.int .i16 0, Value.int .u32 0, Value.int .i16 0, Value.int .i16 0, Value.int .u32 0, Value.int .i16 0, Value.int .i16 0, Value.int .u32 0, Value.int .i16 0, Value.int .i16 0, Value.int .u32 0, Value.int .i16 0, Value.int .i16 0, Value.int .u32 0, Value.int .u8 0, Value.int .i16 0] : List Value) (List.append ((List.replicate 16 ([Value.int .u16 0, Value.int .u32 0, Value.int .u64 0, Value.bool false] : List Value)).flatten) ([Value.int .u64 0] : List Value)))))))))
def z129 : Value := .agg (List.toArray ((List.replicate 257 ([Value.int .u8 0, Value.int .u32 0, Value.int .u64 0, Value.int .u64 0] : List Value)).flatten))
def z130 : Value := .agg (List.toArray (((List.replicate 257 ([Value.int .u8 0, Value.int .u32 0, Value.int .u64 0, Value.int .u64 0] : List Value)).flatten)))
def z131 : Value := .agg (List.toArray (((List.replicate 257 ([Value.int .u8 0, Value.int .u32 0, Value.int .u64 0, Value.int .u64 0] : List Value)).flatten)))
def z140 : Value := .agg (List.toArray ((List.replicate 256 ([Value.pointer none] : List Value)).flatten))
def z141 : Value := .agg (List.toArray ((List.append ([Value.pointer none] : List Value) ((List.replicate 256 ([Value.pointer none] : List Value)).flatten))))
def z142 : Value := .agg (List.toArray ((List.append ([Value.pointer none] : List Value) ((List.replicate 256 ([Value.pointer none] : List Value)).flatten))))
def z146 : Value := .agg (List.toArray ((List.replicate 16 ([Value.int .u8 0, Value.int .u16 0, Value.int .u32 0, Value.int .u8 0, Value.int .u64 0, Value.int .i64 0] : List Value)).flatten))

def tab : Tab := [
  (3, ⟨1, 8, .int .i64 0, .int .i64⟩),
  (4, ⟨1, 1, .bool false, .bool⟩),
  (5, ⟨1, 1, .int .u8 0, .int .u8⟩),
  (9, ⟨1, 16, .string ByteArray.empty, .string⟩),
  (24, ⟨1, 8, .pointer none, .pointer 90⟩),
  (68, ⟨16, 16, .agg #[.bool false, .bool false, .bool false, .bool false, .bool false, .bool false, .bool false, .bool false, .bool false, .bool false, .bool false, .bool false, .bool false, .bool false, .bool false, .bool false], .array 16 4⟩),
  (124, ⟨1, 8, .nilFunc, .func #[33] #[] true⟩),
  (171, ⟨1, 8, .int .u64 0, .int .u64⟩),
  (21, ⟨1, 4, .int .i32 0, .int .i32⟩),
  (22, ⟨1, 24, .slice none 0 0, .slice 35⟩),
  (29, ⟨1, 1, .int .u8 0, .int .u8⟩),
  (30, ⟨1, 4, .int .u32 0, .int .u32⟩),
  (31, ⟨1, 8, .int .u64 0, .int .u64⟩),
  (32, ⟨1, 1, .int .u8 0, .int .u8⟩),
  (33, ⟨1, 24, .slice none 0 0, .slice 31⟩),
  (34, ⟨11, 80, .agg #[.int .u8 0, .int .u32 0, .int .u64 0, .int .u32 0, .int .u32 0, .int .u32 0, .int .u32 0, .int .u8 0, .int .u64 0, .int .u64 0, .slice none 0 0], .struct #[fld 29 0, fld 30 1, fld 31 2, fld 30 3, fld 30 4, fld 30 5, fld 30 6, fld 32 7, fld 31 8, fld 31 9, fld 33 10]⟩),
  (35, ⟨11, 80, .agg #[.int .u8 0, .int .u32 0, .int .u64 0, .int .u32 0, .int .u32 0, .int .u32 0, .int .u32 0, .int .u8 0, .int .u64 0, .int .u64 0, .slice none 0 0], .struct #[fld 29 0, fld 30 1, fld 31 2, fld 30 3, fld 30 4, fld 30 5, fld 30 6, fld 32 7, fld 31 8, fld 31 9, fld 33 10]⟩),
  (36, ⟨1, 1, .int .u8 0, .int .u8⟩),
  (37, ⟨1, 2, .int .u16 0, .int .u16⟩),
  (38, ⟨2, 8, .agg #[.int .u16 0, .int .u32 0], .struct #[fld 37 0, fld 30 1]⟩),
  (39, ⟨2, 8, .agg #[.int .u16 0, .int .u32 0], .struct #[fld 37 0, fld 30 1]⟩),
  (40, ⟨4, 32, .agg #[.int .u64 0, .int .u64 0, .int .u64 0, .int .u64 0], .array 4 31⟩),
  (41, ⟨10, 64, .agg #[.int .u8 0, .int .u16 0, .int .u32 0, .int .u64 0, .int .u64 0, .int .u64 0, .int .u64 0, .int .u64 0, .int .u8 0, .int .u8 0], .struct #[fld 36 0, fld 39 1, fld 31 3, fld 40 4, fld 5 8, fld 5 9]⟩),
  (42, ⟨10, 64, .agg #[.int .u8 0, .int .u16 0, .int .u32 0, .int .u64 0, .int .u64 0, .int .u64 0, .int .u64 0, .int .u64 0, .int .u8 0, .int .u8 0], .struct #[fld 36 0, fld 39 1, fld 31 3, fld 40 4, fld 5 8, fld 5 9]⟩),
  (44, ⟨1, 24, .slice none 0 0, .slice 5⟩),
  (48, ⟨5, 24, .agg #[.int .u8 0, .int .u16 0, .int .u32 0, .int .u8 0, .int .u64 0], .struct #[fld 32 0, fld 39 1, fld 5 3, fld 31 4]⟩),
  (49, ⟨5, 24, .agg #[.int .u8 0, .int .u16 0, .int .u32 0, .int .u8 0, .int .u64 0], .struct #[fld 32 0, fld 39 1, fld 5 3, fld 31 4]⟩),
  (51, ⟨1, 24, .slice none 0 0, .slice 39⟩),
  (54, ⟨1, 1, .int .u8 0, .int .u8⟩),
  (58, ⟨19, 88, .agg #[.int .u8 0, .int .u8 0, .int .u16 0, .int .u32 0, .int .u16 0, .int .u32 0, .int .u16 0, .int .u32 0, .int .u64 0, .int .u64 0, .int .u64 0, .int .u64 0, .int .u64 0, .int .u8 0, .int .u8 0, .int .u32 0, .int .u32 0, .bool false, .bool false], .struct #[fld 54 0, fld 5 1, fld 39 2, fld 39 4, fld 39 6, fld 31 8, fld 40 9, fld 5 13, fld 5 14, fld 30 15, fld 30 16, fld 4 17, fld 4 18]⟩),
  (59, ⟨19, 88, .agg #[.int .u8 0, .int .u8 0, .int .u16 0, .int .u32 0, .int .u16 0, .int .u32 0, .int .u16 0, .int .u32 0, .int .u64 0, .int .u64 0, .int .u64 0, .int .u64 0, .int .u64 0, .int .u8 0, .int .u8 0, .int .u32 0, .int .u32 0, .bool false, .bool false], .struct #[fld 54 0, fld 5 1, fld 39 2, fld 39 4, fld 39 6, fld 31 8, fld 40 9, fld 5 13, fld 5 14, fld 30 15, fld 30 16, fld 4 17, fld 4 18]⟩),
  (70, ⟨4, 24, .agg #[.int .u16 0, .int .u32 0, .int .u64 0, .bool false], .struct #[fld 39 0, fld 31 2, fld 4 3]⟩),
  (71, ⟨4, 24, .agg #[.int .u16 0, .int .u32 0, .int .u64 0, .bool false], .struct #[fld 39 0, fld 31 2, fld 4 3]⟩),
  (75, ⟨1, 24, .slice none 0 0, .slice 22⟩),
  (76, ⟨1, 8, .pointer none, .pointer 131⟩),
  (78, ⟨1, 2, .int .i16 0, .int .i16⟩),
  (79, ⟨1, 8, .pointer none, .pointer 142⟩),
  (80, ⟨21, 96, .agg #[.int .u8 0, .int .u8 0, .int .u16 0, .int .u32 0, .int .u16 0, .int .u32 0, .int .u16 0, .int .u32 0, .int .u64 0, .int .u64 0, .int .u64 0, .int .u64 0, .int .u64 0, .int .u8 0, .int .u8 0, .int .u32 0, .int .u32 0, .bool false, .bool false, .int .i16 0, .int .i16 0], .struct #[fld 59 0, fld 78 19, fld 78 20]⟩),
  (81, ⟨21, 96, .agg #[.int .u8 0, .int .u8 0, .int .u16 0, .int .u32 0, .int .u16 0, .int .u32 0, .int .u16 0, .int .u32 0, .int .u64 0, .int .u64 0, .int .u64 0, .int .u64 0, .int .u64 0, .int .u8 0, .int .u8 0, .int .u32 0, .int .u32 0, .bool false, .bool false, .int .i16 0, .int .i16 0], .struct #[fld 59 0, fld 78 19, fld 78 20]⟩),
  (82, ⟨5376, 24576, z82, .array 256 81⟩),
  (83, ⟨3, 8, .agg #[.int .i16 0, .int .i16 0, .int .u32 0], .struct #[fld 78 0, fld 78 1, fld 30 2]⟩),
  (84, ⟨3, 8, .agg #[.int .i16 0, .int .i16 0, .int .u32 0], .struct #[fld 78 0, fld 78 1, fld 30 2]⟩),
  (85, ⟨768, 2048, z85, .array 256 84⟩),
  (86, ⟨256, 2048, z86, .array 256 31⟩),
  (87, ⟨24, 64, .agg #[.int .i16 0, .int .i16 0, .int .u32 0, .int .i16 0, .int .i16 0, .int .u32 0, .int .i16 0, .int .i16 0, .int .u32 0, .int .i16 0, .int .i16 0, .int .u32 0, .int .i16 0, .int .i16 0, .int .u32 0, .int .i16 0, .int .i16 0, .int .u32 0, .int .i16 0, .int .i16 0, .int .u32 0, .int .i16 0, .int .i16 0, .int .u32 0], .array 8 84⟩),
  (88, ⟨64, 384, z88, .array 16 71⟩),
  (89, ⟨6493, 29152, z89, .struct #[fld 76 0, fld 79 1, fld 82 2, fld 85 5378, fld 86 6146, fld 87 6402, fld 5 6426, fld 78 6427, fld 88 6428, fld 31 6492]⟩),
  (90, ⟨6493, 29152, z90, .struct #[fld 76 0, fld 79 1, fld 82 2, fld 85 5378, fld 86 6146, fld 87 6402, fld 5 6426, fld 78 6427, fld 88 6428, fld 31 6492]⟩),
  (106, ⟨1, 8, .pointer none, .pointer 59⟩),
  (116, ⟨1, 8, .pointer none, .pointer 42⟩),
  (125, ⟨1, 8, .pointer none, .pointer 84⟩),
  (127, ⟨4, 24, .agg #[.int .u8 0, .int .u32 0, .int .u64 0, .int .u64 0], .struct #[fld 32 0, fld 30 1, fld 31 2, fld 31 3]⟩),
  (128, ⟨4, 24, .agg #[.int .u8 0, .int .u32 0, .int .u64 0, .int .u64 0], .struct #[fld 32 0, fld 30 1, fld 31 2, fld 31 3]⟩),
  (129, ⟨1028, 6168, z129, .array 257 128⟩),
  (130, ⟨1028, 6168, z130, .struct #[fld 129 0]⟩),
  (131, ⟨1028, 6168, z131, .struct #[fld 129 0]⟩),
  (132, ⟨1, 8, .pointer none, .pointer 81⟩),
  (139, ⟨1, 8, .pointer none, .pointer 146⟩),
  (140, ⟨256, 2048, z140, .array 256 139⟩),
  (141, ⟨257, 2056, z141, .struct #[fld 76 0, fld 140 1]⟩),
  (142, ⟨257, 2056, z142, .struct #[fld 76 0, fld 140 1]⟩),
  (144, ⟨6, 32, .agg #[.int .u8 0, .int .u16 0, .int .u32 0, .int .u8 0, .int .u64 0, .int .i64 0], .struct #[fld 49 0, fld 3 5]⟩),
  (145, ⟨6, 32, .agg #[.int .u8 0, .int .u16 0, .int .u32 0, .int .u8 0, .int .u64 0, .int .i64 0], .struct #[fld 49 0, fld 3 5]⟩),
  (146, ⟨96, 512, z146, .array 16 145⟩),
  (147, ⟨1, 8, .pointer none, .pointer 145⟩),
  (149, ⟨5, 40, .agg #[.int .u64 0, .int .u64 0, .int .u64 0, .int .u64 0, .int .u64 0], .array 5 31⟩),
  (151, ⟨6, 48, .agg #[.int .u64 0, .int .u64 0, .int .u64 0, .int .u64 0, .int .u64 0, .int .u64 0], .array 6 31⟩),
  (154, ⟨1, 8, .pointer none, .pointer 71⟩),
  (168, ⟨1, 24, .slice none 0 0, .slice 49⟩)]

theorem und3 : (Tryd.prog.underlying 3).map strip = (Sx.look tab 3).map (·.desc) := by kernel_rfl
theorem inf3 : (Tryd.prog.info? 3).map (fun i => (i.size, i.bytes, i.zero)) = (Sx.look tab 3).map (fun ti => (ti.size, ti.bytes, some ti.zero)) := by kernel_rfl
theorem und4 : (Tryd.prog.underlying 4).map strip = (Sx.look tab 4).map (·.desc) := by kernel_rfl
theorem inf4 : (Tryd.prog.info? 4).map (fun i => (i.size, i.bytes, i.zero)) = (Sx.look tab 4).map (fun ti => (ti.size, ti.bytes, some ti.zero)) := by kernel_rfl
theorem und5 : (Tryd.prog.underlying 5).map strip = (Sx.look tab 5).map (·.desc) := by kernel_rfl
theorem inf5 : (Tryd.prog.info? 5).map (fun i => (i.size, i.bytes, i.zero)) = (Sx.look tab 5).map (fun ti => (ti.size, ti.bytes, some ti.zero)) := by kernel_rfl
theorem und9 : (Tryd.prog.underlying 9).map strip = (Sx.look tab 9).map (·.desc) := by kernel_rfl
theorem inf9 : (Tryd.prog.info? 9).map (fun i => (i.size, i.bytes, i.zero)) = (Sx.look tab 9).map (fun ti => (ti.size, ti.bytes, some ti.zero)) := by kernel_rfl
theorem und24 : (Tryd.prog.underlying 24).map strip = (Sx.look tab 24).map (·.desc) := by kernel_rfl
theorem inf24 : (Tryd.prog.info? 24).map (fun i => (i.size, i.bytes, i.zero)) = (Sx.look tab 24).map (fun ti => (ti.size, ti.bytes, some ti.zero)) := by kernel_rfl
theorem und68 : (Tryd.prog.underlying 68).map strip = (Sx.look tab 68).map (·.desc) := by kernel_rfl
theorem inf68 : (Tryd.prog.info? 68).map (fun i => (i.size, i.bytes, i.zero)) = (Sx.look tab 68).map (fun ti => (ti.size, ti.bytes, some ti.zero)) := by kernel_rfl
theorem und124 : (Tryd.prog.underlying 124).map strip = (Sx.look tab 124).map (·.desc) := by kernel_rfl
theorem inf124 : (Tryd.prog.info? 124).map (fun i => (i.size, i.bytes, i.zero)) = (Sx.look tab 124).map (fun ti => (ti.size, ti.bytes, some ti.zero)) := by kernel_rfl
theorem und171 : (Tryd.prog.underlying 171).map strip = (Sx.look tab 171).map (·.desc) := by kernel_rfl
theorem inf171 : (Tryd.prog.info? 171).map (fun i => (i.size, i.bytes, i.zero)) = (Sx.look tab 171).map (fun ti => (ti.size, ti.bytes, some ti.zero)) := by kernel_rfl
theorem und21 : (Tryd.prog.underlying 21).map strip = (Sx.look tab 21).map (·.desc) := by kernel_rfl
theorem inf21 : (Tryd.prog.info? 21).map (fun i => (i.size, i.bytes, i.zero)) = (Sx.look tab 21).map (fun ti => (ti.size, ti.bytes, some ti.zero)) := by kernel_rfl
theorem und22 : (Tryd.prog.underlying 22).map strip = (Sx.look tab 22).map (·.desc) := by kernel_rfl
theorem inf22 : (Tryd.prog.info? 22).map (fun i => (i.size, i.bytes, i.zero)) = (Sx.look tab 22).map (fun ti => (ti.size, ti.bytes, some ti.zero)) := by kernel_rfl
theorem und29 : (Tryd.prog.underlying 29).map strip = (Sx.look tab 29).map (·.desc) := by kernel_rfl
theorem inf29 : (Tryd.prog.info? 29).map (fun i => (i.size, i.bytes, i.zero)) = (Sx.look tab 29).map (fun ti => (ti.size, ti.bytes, some ti.zero)) := by kernel_rfl
theorem und30 : (Tryd.prog.underlying 30).map strip = (Sx.look tab 30).map (·.desc) := by kernel_rfl
theorem inf30 : (Tryd.prog.info? 30).map (fun i => (i.size, i.bytes, i.zero)) = (Sx.look tab 30).map (fun ti => (ti.size, ti.bytes, some ti.zero)) := by kernel_rfl
theorem und31 : (Tryd.prog.underlying 31).map strip = (Sx.look tab 31).map (·.desc) := by kernel_rfl
theorem inf31 : (Tryd.prog.info? 31).map (fun i => (i.size, i.bytes, i.zero)) = (Sx.look tab 31).map (fun ti => (ti.size, ti.bytes, some ti.zero)) := by kernel_rfl
theorem und32 : (Tryd.prog.underlying 32).map strip = (Sx.look tab 32).map (·.desc) := by kernel_rfl
theorem inf32 : (Tryd.prog.info? 32).map (fun i => (i.size, i.bytes, i.zero)) = (Sx.look tab 32).map (fun ti => (ti.size, ti.bytes, some ti.zero)) := by kernel_rfl
theorem und33 : (Tryd.prog.underlying 33).map strip = (Sx.look tab 33).map (·.desc) := by kernel_rfl
theorem inf33 : (Tryd.prog.info? 33).map (fun i => (i.size, i.bytes, i.zero)) = (Sx.look tab 33).map (fun ti => (ti.size, ti.bytes, some ti.zero)) := by kernel_rfl
theorem und34 : (Tryd.prog.underlying 34).map strip = (Sx.look tab 34).map (·.desc) := by kernel_rfl
theorem inf34 : (Tryd.prog.info? 34).map (fun i => (i.size, i.bytes, i.zero)) = (Sx.look tab 34).map (fun ti => (ti.size, ti.bytes, some ti.zero)) := by kernel_rfl
theorem und35 : (Tryd.prog.underlying 35).map strip = (Sx.look tab 35).map (·.desc) := by kernel_rfl
theorem inf35 : (Tryd.prog.info? 35).map (fun i => (i.size, i.bytes, i.zero)) = (Sx.look tab 35).map (fun ti => (ti.size, ti.bytes, some ti.zero)) := by kernel_rfl
theorem und36 : (Tryd.prog.underlying 36).map strip = (Sx.look tab 36).map (·.desc) := by kernel_rfl
theorem inf36 : (Tryd.prog.info? 36).map (fun i => (i.size, i.bytes, i.zero)) = (Sx.look tab 36).map (fun ti => (ti.size, ti.bytes, some ti.zero)) := by kernel_rfl
theorem und37 : (Tryd.prog.underlying 37).map strip = (Sx.look tab 37).map (·.desc) := by kernel_rfl
theorem inf37 : (Tryd.prog.info? 37).map (fun i => (i.size, i.bytes, i.zero)) = (Sx.look tab 37).map (fun ti => (ti.size, ti.bytes, some ti.zero)) := by kernel_rfl
theorem und38 : (Tryd.prog.underlying 38).map strip = (Sx.look tab 38).map (·.desc) := by kernel_rfl
theorem inf38 : (Tryd.prog.info? 38).map (fun i => (i.size, i.bytes, i.zero)) = (Sx.look tab 38).map (fun ti => (ti.size, ti.bytes, some ti.zero)) := by kernel_rfl
theorem und39 : (Tryd.prog.underlying 39).map strip = (Sx.look tab 39).map (·.desc) := by kernel_rfl
theorem inf39 : (Tryd.prog.info? 39).map (fun i => (i.size, i.bytes, i.zero)) = (Sx.look tab 39).map (fun ti => (ti.size, ti.bytes, some ti.zero)) := by kernel_rfl
theorem und40 : (Tryd.prog.underlying 40).map strip = (Sx.look tab 40).map (·.desc) := by kernel_rfl
theorem inf40 : (Tryd.prog.info? 40).map (fun i => (i.size, i.bytes, i.zero)) = (Sx.look tab 40).map (fun ti => (ti.size, ti.bytes, some ti.zero)) := by kernel_rfl
theorem und41 : (Tryd.prog.underlying 41).map strip = (Sx.look tab 41).map (·.desc) := by kernel_rfl
theorem inf41 : (Tryd.prog.info? 41).map (fun i => (i.size, i.bytes, i.zero)) = (Sx.look tab 41).map (fun ti => (ti.size, ti.bytes, some ti.zero)) := by kernel_rfl
theorem und42 : (Tryd.prog.underlying 42).map strip = (Sx.look tab 42).map (·.desc) := by kernel_rfl
theorem inf42 : (Tryd.prog.info? 42).map (fun i => (i.size, i.bytes, i.zero)) = (Sx.look tab 42).map (fun ti => (ti.size, ti.bytes, some ti.zero)) := by kernel_rfl
theorem und44 : (Tryd.prog.underlying 44).map strip = (Sx.look tab 44).map (·.desc) := by kernel_rfl
theorem inf44 : (Tryd.prog.info? 44).map (fun i => (i.size, i.bytes, i.zero)) = (Sx.look tab 44).map (fun ti => (ti.size, ti.bytes, some ti.zero)) := by kernel_rfl
theorem und48 : (Tryd.prog.underlying 48).map strip = (Sx.look tab 48).map (·.desc) := by kernel_rfl
theorem inf48 : (Tryd.prog.info? 48).map (fun i => (i.size, i.bytes, i.zero)) = (Sx.look tab 48).map (fun ti => (ti.size, ti.bytes, some ti.zero)) := by kernel_rfl
theorem und49 : (Tryd.prog.underlying 49).map strip = (Sx.look tab 49).map (·.desc) := by kernel_rfl
theorem inf49 : (Tryd.prog.info? 49).map (fun i => (i.size, i.bytes, i.zero)) = (Sx.look tab 49).map (fun ti => (ti.size, ti.bytes, some ti.zero)) := by kernel_rfl
theorem und51 : (Tryd.prog.underlying 51).map strip = (Sx.look tab 51).map (·.desc) := by kernel_rfl
theorem inf51 : (Tryd.prog.info? 51).map (fun i => (i.size, i.bytes, i.zero)) = (Sx.look tab 51).map (fun ti => (ti.size, ti.bytes, some ti.zero)) := by kernel_rfl
theorem und54 : (Tryd.prog.underlying 54).map strip = (Sx.look tab 54).map (·.desc) := by kernel_rfl
theorem inf54 : (Tryd.prog.info? 54).map (fun i => (i.size, i.bytes, i.zero)) = (Sx.look tab 54).map (fun ti => (ti.size, ti.bytes, some ti.zero)) := by kernel_rfl
theorem und58 : (Tryd.prog.underlying 58).map strip = (Sx.look tab 58).map (·.desc) := by kernel_rfl
theorem inf58 : (Tryd.prog.info? 58).map (fun i => (i.size, i.bytes, i.zero)) = (Sx.look tab 58).map (fun ti => (ti.size, ti.bytes, some ti.zero)) := by kernel_rfl
theorem und59 : (Tryd.prog.underlying 59).map strip = (Sx.look tab 59).map (·.desc) := by kernel_rfl
theorem inf59 : (Tryd.prog.info? 59).map (fun i => (i.size, i.bytes, i.zero)) = (Sx.look tab 59).map (fun ti => (ti.size, ti.bytes, some ti.zero)) := by kernel_rfl
theorem und70 : (Tryd.prog.underlying 70).map strip = (Sx.look tab 70).map (·.desc) := by kernel_rfl
theorem inf70 : (Tryd.prog.info? 70).map (fun i => (i.size, i.bytes, i.zero)) = (Sx.look tab 70).map (fun ti => (ti.size, ti.bytes, some ti.zero)) := by kernel_rfl
theorem und71 : (Tryd.prog.underlying 71).map strip = (Sx.look tab 71).map (·.desc) := by kernel_rfl
theorem inf71 : (Tryd.prog.info? 71).map (fun i => (i.size, i.bytes, i.zero)) = (Sx.look tab 71).map (fun ti => (ti.size, ti.bytes, some ti.zero)) := by kernel_rfl
theorem und75 : (Tryd.prog.underlying 75).map strip = (Sx.look tab 75).map (·.desc) := by kernel_rfl
theorem inf75 : (Tryd.prog.info? 75).map (fun i => (i.size, i.bytes, i.zero)) = (Sx.look tab 75).map (fun ti => (ti.size, ti.bytes, some ti.zero)) := by kernel_rfl
theorem und76 : (Tryd.prog.underlying 76).map strip = (Sx.look tab 76).map (·.desc) := by kernel_rfl
theorem inf76 : (Tryd.prog.info? 76).map (fun i => (i.size, i.bytes, i.zero)) = (Sx.look tab 76).map (fun ti => (ti.size, ti.bytes, some ti.zero)) := by kernel_rfl
theorem und78 : (Tryd.prog.underlying 78).map strip = (Sx.look tab 78).map (·.desc) := by kernel_rfl
theorem inf78 : (Tryd.prog.info? 78).map (fun i => (i.size, i.bytes, i.zero)) = (Sx.look tab 78).map (fun ti => (ti.size, ti.bytes, some ti.zero)) := by kernel_rfl
theorem und79 : (Tryd.prog.underlying 79).map strip = (Sx.look tab 79).map (·.desc) := by kernel_rfl
theorem inf79 : (Tryd.prog.info? 79).map (fun i => (i.size, i.bytes, i.zero)) = (Sx.look tab 79).map (fun ti => (ti.size, ti.bytes, some ti.zero)) := by kernel_rfl
theorem und80 : (Tryd.prog.underlying 80).map strip = (Sx.look tab 80).map (·.desc) := by kernel_rfl
theorem inf80 : (Tryd.prog.info? 80).map (fun i => (i.size, i.bytes, i.zero)) = (Sx.look tab 80).map (fun ti => (ti.size, ti.bytes, some ti.zero)) := by kernel_rfl
theorem und81 : (Tryd.prog.underlying 81).map strip = (Sx.look tab 81).map (·.desc) := by kernel_rfl
theorem inf81 : (Tryd.prog.info? 81).map (fun i => (i.size, i.bytes, i.zero)) = (Sx.look tab 81).map (fun ti => (ti.size, ti.bytes, some ti.zero)) := by kernel_rfl
theorem und82 : (Tryd.prog.underlying 82).map strip = (Sx.look tab 82).map (·.desc) := by kernel_rfl
theorem inf82 : (Tryd.prog.info? 82).map (fun i => (i.size, i.bytes, i.zero)) = (Sx.look tab 82).map (fun ti => (ti.size, ti.bytes, some ti.zero)) := by kernel_rfl
theorem und83 : (Tryd.prog.underlying 83).map strip = (Sx.look tab 83).map (·.desc) := by kernel_rfl
theorem inf83 : (Tryd.prog.info? 83).map (fun i => (i.size, i.bytes, i.zero)) = (Sx.look tab 83).map (fun ti => (ti.size, ti.bytes, some ti.zero)) := by kernel_rfl
theorem und84 : (Tryd.prog.underlying 84).map strip = (Sx.look tab 84).map (·.desc) := by kernel_rfl
theorem inf84 : (Tryd.prog.info? 84).map (fun i => (i.size, i.bytes, i.zero)) = (Sx.look tab 84).map (fun ti => (ti.size, ti.bytes, some ti.zero)) := by kernel_rfl
theorem und85 : (Tryd.prog.underlying 85).map strip = (Sx.look tab 85).map (·.desc) := by kernel_rfl
theorem inf85 : (Tryd.prog.info? 85).map (fun i => (i.size, i.bytes, i.zero)) = (Sx.look tab 85).map (fun ti => (ti.size, ti.bytes, some ti.zero)) := by kernel_rfl
theorem und86 : (Tryd.prog.underlying 86).map strip = (Sx.look tab 86).map (·.desc) := by kernel_rfl
theorem inf86 : (Tryd.prog.info? 86).map (fun i => (i.size, i.bytes, i.zero)) = (Sx.look tab 86).map (fun ti => (ti.size, ti.bytes, some ti.zero)) := by kernel_rfl
theorem und87 : (Tryd.prog.underlying 87).map strip = (Sx.look tab 87).map (·.desc) := by kernel_rfl
theorem inf87 : (Tryd.prog.info? 87).map (fun i => (i.size, i.bytes, i.zero)) = (Sx.look tab 87).map (fun ti => (ti.size, ti.bytes, some ti.zero)) := by kernel_rfl
theorem und88 : (Tryd.prog.underlying 88).map strip = (Sx.look tab 88).map (·.desc) := by kernel_rfl
theorem inf88 : (Tryd.prog.info? 88).map (fun i => (i.size, i.bytes, i.zero)) = (Sx.look tab 88).map (fun ti => (ti.size, ti.bytes, some ti.zero)) := by kernel_rfl
theorem und89 : (Tryd.prog.underlying 89).map strip = (Sx.look tab 89).map (·.desc) := by kernel_rfl
theorem inf89 : (Tryd.prog.info? 89).map (fun i => (i.size, i.bytes, i.zero)) = (Sx.look tab 89).map (fun ti => (ti.size, ti.bytes, some ti.zero)) := by kernel_rfl
theorem und90 : (Tryd.prog.underlying 90).map strip = (Sx.look tab 90).map (·.desc) := by kernel_rfl
theorem inf90 : (Tryd.prog.info? 90).map (fun i => (i.size, i.bytes, i.zero)) = (Sx.look tab 90).map (fun ti => (ti.size, ti.bytes, some ti.zero)) := by kernel_rfl
theorem und106 : (Tryd.prog.underlying 106).map strip = (Sx.look tab 106).map (·.desc) := by kernel_rfl
theorem inf106 : (Tryd.prog.info? 106).map (fun i => (i.size, i.bytes, i.zero)) = (Sx.look tab 106).map (fun ti => (ti.size, ti.bytes, some ti.zero)) := by kernel_rfl
theorem und116 : (Tryd.prog.underlying 116).map strip = (Sx.look tab 116).map (·.desc) := by kernel_rfl
theorem inf116 : (Tryd.prog.info? 116).map (fun i => (i.size, i.bytes, i.zero)) = (Sx.look tab 116).map (fun ti => (ti.size, ti.bytes, some ti.zero)) := by kernel_rfl
theorem und125 : (Tryd.prog.underlying 125).map strip = (Sx.look tab 125).map (·.desc) := by kernel_rfl
theorem inf125 : (Tryd.prog.info? 125).map (fun i => (i.size, i.bytes, i.zero)) = (Sx.look tab 125).map (fun ti => (ti.size, ti.bytes, some ti.zero)) := by kernel_rfl
theorem und127 : (Tryd.prog.underlying 127).map strip = (Sx.look tab 127).map (·.desc) := by kernel_rfl
theorem inf127 : (Tryd.prog.info? 127).map (fun i => (i.size, i.bytes, i.zero)) = (Sx.look tab 127).map (fun ti => (ti.size, ti.bytes, some ti.zero)) := by kernel_rfl
theorem und128 : (Tryd.prog.underlying 128).map strip = (Sx.look tab 128).map (·.desc) := by kernel_rfl
theorem inf128 : (Tryd.prog.info? 128).map (fun i => (i.size, i.bytes, i.zero)) = (Sx.look tab 128).map (fun ti => (ti.size, ti.bytes, some ti.zero)) := by kernel_rfl
theorem und129 : (Tryd.prog.underlying 129).map strip = (Sx.look tab 129).map (·.desc) := by kernel_rfl
theorem inf129 : (Tryd.prog.info? 129).map (fun i => (i.size, i.bytes, i.zero)) = (Sx.look tab 129).map (fun ti => (ti.size, ti.bytes, some ti.zero)) := by kernel_rfl
theorem und130 : (Tryd.prog.underlying 130).map strip = (Sx.look tab 130).map (·.desc) := by kernel_rfl
theorem inf130 : (Tryd.prog.info? 130).map (fun i => (i.size, i.bytes, i.zero)) = (Sx.look tab 130).map (fun ti => (ti.size, ti.bytes, some ti.zero)) := by kernel_rfl
theorem und131 : (Tryd.prog.underlying 131).map strip = (Sx.look tab 131).map (·.desc) := by kernel_rfl
theorem inf131 : (Tryd.prog.info? 131).map (fun i => (i.size, i.bytes, i.zero)) = (Sx.look tab 131).map (fun ti => (ti.size, ti.bytes, some ti.zero)) := by kernel_rfl
theorem und132 : (Tryd.prog.underlying 132).map strip = (Sx.look tab 132).map (·.desc) := by kernel_rfl
theorem inf132 : (Tryd.prog.info? 132).map (fun i => (i.size, i.bytes, i.zero)) = (Sx.look tab 132).map (fun ti => (ti.size, ti.bytes, some ti.zero)) := by kernel_rfl
theorem und139 : (Tryd.prog.underlying 139).map strip = (Sx.look tab 139).map (·.desc) := by kernel_rfl
theorem inf139 : (Tryd.prog.info? 139).map (fun i => (i.size, i.bytes, i.zero)) = (Sx.look tab 139).map (fun ti => (ti.size, ti.bytes, some ti.zero)) := by kernel_rfl
theorem und140 : (Tryd.prog.underlying 140).map strip = (Sx.look tab 140).map (·.desc) := by kernel_rfl
theorem inf140 : (Tryd.prog.info? 140).map (fun i => (i.size, i.bytes, i.zero)) = (Sx.look tab 140).map (fun ti => (ti.size, ti.bytes, some ti.zero)) := by kernel_rfl
theorem und141 : (Tryd.prog.underlying 141).map strip = (Sx.look tab 141).map (·.desc) := by kernel_rfl
theorem inf141 : (Tryd.prog.info? 141).map (fun i => (i.size, i.bytes, i.zero)) = (Sx.look tab 141).map (fun ti => (ti.size, ti.bytes, some ti.zero)) := by kernel_rfl
theorem und142 : (Tryd.prog.underlying 142).map strip = (Sx.look tab 142).map (·.desc) := by kernel_rfl
theorem inf142 : (Tryd.prog.info? 142).map (fun i => (i.size, i.bytes, i.zero)) = (Sx.look tab 142).map (fun ti => (ti.size, ti.bytes, some ti.zero)) := by kernel_rfl
theorem und144 : (Tryd.prog.underlying 144).map strip = (Sx.look tab 144).map (·.desc) := by kernel_rfl
theorem inf144 : (Tryd.prog.info? 144).map (fun i => (i.size, i.bytes, i.zero)) = (Sx.look tab 144).map (fun ti => (ti.size, ti.bytes, some ti.zero)) := by kernel_rfl
theorem und145 : (Tryd.prog.underlying 145).map strip = (Sx.look tab 145).map (·.desc) := by kernel_rfl
theorem inf145 : (Tryd.prog.info? 145).map (fun i => (i.size, i.bytes, i.zero)) = (Sx.look tab 145).map (fun ti => (ti.size, ti.bytes, some ti.zero)) := by kernel_rfl
theorem und146 : (Tryd.prog.underlying 146).map strip = (Sx.look tab 146).map (·.desc) := by kernel_rfl
theorem inf146 : (Tryd.prog.info? 146).map (fun i => (i.size, i.bytes, i.zero)) = (Sx.look tab 146).map (fun ti => (ti.size, ti.bytes, some ti.zero)) := by kernel_rfl
theorem und147 : (Tryd.prog.underlying 147).map strip = (Sx.look tab 147).map (·.desc) := by kernel_rfl
theorem inf147 : (Tryd.prog.info? 147).map (fun i => (i.size, i.bytes, i.zero)) = (Sx.look tab 147).map (fun ti => (ti.size, ti.bytes, some ti.zero)) := by kernel_rfl
theorem und149 : (Tryd.prog.underlying 149).map strip = (Sx.look tab 149).map (·.desc) := by kernel_rfl
theorem inf149 : (Tryd.prog.info? 149).map (fun i => (i.size, i.bytes, i.zero)) = (Sx.look tab 149).map (fun ti => (ti.size, ti.bytes, some ti.zero)) := by kernel_rfl
theorem und151 : (Tryd.prog.underlying 151).map strip = (Sx.look tab 151).map (·.desc) := by kernel_rfl
theorem inf151 : (Tryd.prog.info? 151).map (fun i => (i.size, i.bytes, i.zero)) = (Sx.look tab 151).map (fun ti => (ti.size, ti.bytes, some ti.zero)) := by kernel_rfl
theorem und154 : (Tryd.prog.underlying 154).map strip = (Sx.look tab 154).map (·.desc) := by kernel_rfl
theorem inf154 : (Tryd.prog.info? 154).map (fun i => (i.size, i.bytes, i.zero)) = (Sx.look tab 154).map (fun ti => (ti.size, ti.bytes, some ti.zero)) := by kernel_rfl
theorem und168 : (Tryd.prog.underlying 168).map strip = (Sx.look tab 168).map (·.desc) := by kernel_rfl
theorem inf168 : (Tryd.prog.info? 168).map (fun i => (i.size, i.bytes, i.zero)) = (Sx.look tab 168).map (fun ti => (ti.size, ti.bytes, some ti.zero)) := by kernel_rfl

theorem tabOk : TabOk Tryd.prog tab := tabOk_of ⟨⟨und3, inf3⟩, ⟨und4, inf4⟩, ⟨und5, inf5⟩, ⟨und9, inf9⟩, ⟨und24, inf24⟩, ⟨und68, inf68⟩, ⟨und124, inf124⟩, ⟨und171, inf171⟩, ⟨und21, inf21⟩, ⟨und22, inf22⟩, ⟨und29, inf29⟩, ⟨und30, inf30⟩, ⟨und31, inf31⟩, ⟨und32, inf32⟩, ⟨und33, inf33⟩, ⟨und34, inf34⟩, ⟨und35, inf35⟩, ⟨und36, inf36⟩, ⟨und37, inf37⟩, ⟨und38, inf38⟩, ⟨und39, inf39⟩, ⟨und40, inf40⟩, ⟨und41, inf41⟩, ⟨und42, inf42⟩, ⟨und44, inf44⟩, ⟨und48, inf48⟩, ⟨und49, inf49⟩, ⟨und51, inf51⟩, ⟨und54, inf54⟩, ⟨und58, inf58⟩, ⟨und59, inf59⟩, ⟨und70, inf70⟩, ⟨und71, inf71⟩, ⟨und75, inf75⟩, ⟨und76, inf76⟩, ⟨und78, inf78⟩, ⟨und79, inf79⟩, ⟨und80, inf80⟩, ⟨und81, inf81⟩, ⟨und82, inf82⟩, ⟨und83, inf83⟩, ⟨und84, inf84⟩, ⟨und85, inf85⟩, ⟨und86, inf86⟩, ⟨und87, inf87⟩, ⟨und88, inf88⟩, ⟨und89, inf89⟩, ⟨und90, inf90⟩, ⟨und106, inf106⟩, ⟨und116, inf116⟩, ⟨und125, inf125⟩, ⟨und127, inf127⟩, ⟨und128, inf128⟩, ⟨und129, inf129⟩, ⟨und130, inf130⟩, ⟨und131, inf131⟩, ⟨und132, inf132⟩, ⟨und139, inf139⟩, ⟨und140, inf140⟩, ⟨und141, inf141⟩, ⟨und142, inf142⟩, ⟨und144, inf144⟩, ⟨und145, inf145⟩, ⟨und146, inf146⟩, ⟨und147, inf147⟩, ⟨und149, inf149⟩, ⟨und151, inf151⟩, ⟨und154, inf154⟩, ⟨und168, inf168⟩, trivial⟩

theorem tabZ_ok : TabZ tab := tabZ_spec rfl

theorem mixed : Tryd.prog.follows .mixedOrders = true := by kernel_rfl

end Go.Proofs.Qxb6500918aDoor
