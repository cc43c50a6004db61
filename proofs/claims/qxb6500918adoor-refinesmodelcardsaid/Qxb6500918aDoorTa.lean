/-
  More types: the model's maps and its struct.
-/
import Derived.Test.Qxb6500918aDoorTab
namespace Go.Proofs.Qxb6500918aDoor
open Go.Sx
set_option maxRecDepth 100000

def z104 : Value := .agg (List.toArray (List.append ([Value.pointer none, Value.pointer none, Value.map none, Value.map none, Value.map none] : List Value) (List.append (List.replicate 8 (Value.slice none 0 0)) (List.append ([Value.int .u16 0, Value.int .u32 0] : List Value) (List.append (List.replicate 16 ([Value.int .u16 0, Value.int .u32 0, Value.int .u64 0, Value.bool false] : List Value)).flatten ([Value.int .u64 0] : List Value))))))

def tab2 : Tab := [
  (99, ⟨1, 8, .map none, .map 39 106⟩),
  (100, ⟨1, 8, .map none, .map 39 51⟩),
  (101, ⟨1, 8, .map none, .map 39 31⟩),
  (102, ⟨8, 192, .agg #[.slice none 0 0, .slice none 0 0, .slice none 0 0, .slice none 0 0, .slice none 0 0, .slice none 0 0, .slice none 0 0, .slice none 0 0], .array 8 51⟩),
  (104, ⟨80, 632, z104, .struct #[fld 76 0, fld 79 1, fld 99 2, fld 100 3, fld 101 4, fld 102 5, fld 39 13, fld 88 15, fld 31 79]⟩)] ++ tab

theorem und99 : (Tryd.prog.underlying 99).map strip = (Sx.look tab2 99).map (·.desc) := by kernel_rfl
theorem inf99 : (Tryd.prog.info? 99).map (fun i => (i.size, i.bytes, i.zero)) = (Sx.look tab2 99).map (fun ti => (ti.size, ti.bytes, some ti.zero)) := by kernel_rfl
theorem und100 : (Tryd.prog.underlying 100).map strip = (Sx.look tab2 100).map (·.desc) := by kernel_rfl
theorem inf100 : (Tryd.prog.info? 100).map (fun i => (i.size, i.bytes, i.zero)) = (Sx.look tab2 100).map (fun ti => (ti.size, ti.bytes, some ti.zero)) := by kernel_rfl
theorem und101 : (Tryd.prog.underlying 101).map strip = (Sx.look tab2 101).map (·.desc) := by kernel_rfl
theorem inf101 : (Tryd.prog.info? 101).map (fun i => (i.size, i.bytes, i.zero)) = (Sx.look tab2 101).map (fun ti => (ti.size, ti.bytes, some ti.zero)) := by kernel_rfl
theorem und102 : (Tryd.prog.underlying 102).map strip = (Sx.look tab2 102).map (·.desc) := by kernel_rfl
theorem inf102 : (Tryd.prog.info? 102).map (fun i => (i.size, i.bytes, i.zero)) = (Sx.look tab2 102).map (fun ti => (ti.size, ti.bytes, some ti.zero)) := by kernel_rfl
theorem und104 : (Tryd.prog.underlying 104).map strip = (Sx.look tab2 104).map (·.desc) := by kernel_rfl
theorem inf104 : (Tryd.prog.info? 104).map (fun i => (i.size, i.bytes, i.zero)) = (Sx.look tab2 104).map (fun ti => (ti.size, ti.bytes, some ti.zero)) := by kernel_rfl

theorem tabOk2 : TabOk Tryd.prog tab2 := tabOk_of ⟨⟨und99, inf99⟩, ⟨und100, inf100⟩, ⟨und101, inf101⟩, ⟨und102, inf102⟩, ⟨und104, inf104⟩, ⟨und3, inf3⟩, ⟨und4, inf4⟩, ⟨und5, inf5⟩, ⟨und9, inf9⟩, ⟨und24, inf24⟩, ⟨und68, inf68⟩, ⟨und124, inf124⟩, ⟨und171, inf171⟩, ⟨und21, inf21⟩, ⟨und22, inf22⟩, ⟨und29, inf29⟩, ⟨und30, inf30⟩, ⟨und31, inf31⟩, ⟨und32, inf32⟩, ⟨und33, inf33⟩, ⟨und34, inf34⟩, ⟨und35, inf35⟩, ⟨und36, inf36⟩, ⟨und37, inf37⟩, ⟨und38, inf38⟩, ⟨und39, inf39⟩, ⟨und40, inf40⟩, ⟨und41, inf41⟩, ⟨und42, inf42⟩, ⟨und44, inf44⟩, ⟨und48, inf48⟩, ⟨und49, inf49⟩, ⟨und51, inf51⟩, ⟨und54, inf54⟩, ⟨und58, inf58⟩, ⟨und59, inf59⟩, ⟨und70, inf70⟩, ⟨und71, inf71⟩, ⟨und75, inf75⟩, ⟨und76, inf76⟩, ⟨und78, inf78⟩, ⟨und79, inf79⟩, ⟨und80, inf80⟩, ⟨und81, inf81⟩, ⟨und82, inf82⟩, ⟨und83, inf83⟩, ⟨und84, inf84⟩, ⟨und85, inf85⟩, ⟨und86, inf86⟩, ⟨und87, inf87⟩, ⟨und88, inf88⟩, ⟨und89, inf89⟩, ⟨und90, inf90⟩, ⟨und106, inf106⟩, ⟨und116, inf116⟩, ⟨und125, inf125⟩, ⟨und127, inf127⟩, ⟨und128, inf128⟩, ⟨und129, inf129⟩, ⟨und130, inf130⟩, ⟨und131, inf131⟩, ⟨und132, inf132⟩, ⟨und139, inf139⟩, ⟨und140, inf140⟩, ⟨und141, inf141⟩, ⟨und142, inf142⟩, ⟨und144, inf144⟩, ⟨und145, inf145⟩, ⟨und146, inf146⟩, ⟨und147, inf147⟩, ⟨und149, inf149⟩, ⟨und151, inf151⟩, ⟨und154, inf154⟩, ⟨und168, inf168⟩, trivial⟩

theorem tabZ_ok2 : TabZ tab2 := tabZ_spec rfl

end Go.Proofs.Qxb6500918aDoor
