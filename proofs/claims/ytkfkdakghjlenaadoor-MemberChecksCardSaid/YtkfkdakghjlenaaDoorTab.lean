/-
  Own text, printed by a program of mine (wip/gx): closed facts of the program's tables.
-/
import Derived.Test.YtkfkdakghjlenaaDoorProg
import Derived.Test.YtkfkdakghjlenaaDoorGxAgg
set_option linter.unusedSimpArgs false
set_option linter.unusedVariables false
namespace Go.Proofs.YtkfkdakghjlenaaDoor
open Go.RowKit Go.Gx
theorem sz5 : (Tryd.prog.info? 5).map (·.size) = some 1 := by kernel_rfl
theorem sz37 : (Tryd.prog.info? 37).map (·.size) = some 32 := by kernel_rfl
theorem sz38 : (Tryd.prog.info? 38).map (·.size) = some 32 := by kernel_rfl
theorem sz39 : (Tryd.prog.info? 39).map (·.size) = some 1 := by kernel_rfl
theorem sz45 : (Tryd.prog.info? 45).map (·.size) = some 66 := by kernel_rfl
theorem sz49 : (Tryd.prog.info? 49).map (·.size) = some 66 := by kernel_rfl
theorem sz107 : (Tryd.prog.info? 107).map (·.size) = some 1 := by kernel_rfl
theorem sz125 : (Tryd.prog.info? 125).map (·.size) = some 33 := by kernel_rfl
theorem sz126 : (Tryd.prog.info? 126).map (·.size) = some 33 := by kernel_rfl
theorem sz130 : (Tryd.prog.info? 130).map (·.size) = some 33 := by kernel_rfl
theorem sz135 : (Tryd.prog.info? 135).map (·.size) = some 64 := by kernel_rfl
theorem sz146 : (Tryd.prog.info? 146).map (·.size) = some 1 := by kernel_rfl
theorem sz200 : (Tryd.prog.info? 200).map (·.size) = some 8 := by kernel_rfl
theorem sz205 : (Tryd.prog.info? 205).map (·.size) = some 74 := by kernel_rfl
theorem sz213 : (Tryd.prog.info? 213).map (·.size) = some 64 := by kernel_rfl
theorem el43 : ElT Tryd.prog 43 125 33 40 := ElT.of (z := .agg #[.int .i64 0, .int .u8 0, .int .u8 0, .int .u8 0, .int .u8 0, .int .u8 0, .int .u8 0, .int .u8 0, .int .u8 0, .int .u8 0, .int .u8 0, .int .u8 0, .int .u8 0, .int .u8 0, .int .u8 0, .int .u8 0, .int .u8 0, .int .u8 0, .int .u8 0, .int .u8 0, .int .u8 0, .int .u8 0, .int .u8 0, .int .u8 0, .int .u8 0, .int .u8 0, .int .u8 0, .int .u8 0, .int .u8 0, .int .u8 0, .int .u8 0, .int .u8 0, .int .u8 0]) Tryd.underlying43 (by kernel_rfl) rfl (by decide)
theorem el47 : ElT Tryd.prog 47 126 33 40 := ElT.of (z := .agg #[.int .i64 0, .int .u8 0, .int .u8 0, .int .u8 0, .int .u8 0, .int .u8 0, .int .u8 0, .int .u8 0, .int .u8 0, .int .u8 0, .int .u8 0, .int .u8 0, .int .u8 0, .int .u8 0, .int .u8 0, .int .u8 0, .int .u8 0, .int .u8 0, .int .u8 0, .int .u8 0, .int .u8 0, .int .u8 0, .int .u8 0, .int .u8 0, .int .u8 0, .int .u8 0, .int .u8 0, .int .u8 0, .int .u8 0, .int .u8 0, .int .u8 0, .int .u8 0, .int .u8 0]) Tryd.underlying47 (by kernel_rfl) rfl (by decide)
theorem el107 : ElT Tryd.prog 107 5 1 1 := ElT.of (z := .int .u8 0) Tryd.underlying107 (by kernel_rfl) rfl (by decide)
theorem el127 : ElT Tryd.prog 127 130 33 40 := ElT.of (z := .agg #[.int .i64 0, .int .u8 0, .int .u8 0, .int .u8 0, .int .u8 0, .int .u8 0, .int .u8 0, .int .u8 0, .int .u8 0, .int .u8 0, .int .u8 0, .int .u8 0, .int .u8 0, .int .u8 0, .int .u8 0, .int .u8 0, .int .u8 0, .int .u8 0, .int .u8 0, .int .u8 0, .int .u8 0, .int .u8 0, .int .u8 0, .int .u8 0, .int .u8 0, .int .u8 0, .int .u8 0, .int .u8 0, .int .u8 0, .int .u8 0, .int .u8 0, .int .u8 0, .int .u8 0]) Tryd.underlying127 (by kernel_rfl) rfl (by decide)
theorem ent27 : Ent Tryd.prog 27 := ⟨_, _, Tryd.func27, by kernel_rfl, rfl⟩
theorem ent28 : Ent Tryd.prog 28 := ⟨_, _, Tryd.func28, by kernel_rfl, rfl⟩
theorem ent29 : Ent Tryd.prog 29 := ⟨_, _, Tryd.func29, by kernel_rfl, rfl⟩
theorem ent30 : Ent Tryd.prog 30 := ⟨_, _, Tryd.func30, by kernel_rfl, rfl⟩
theorem ent31 : Ent Tryd.prog 31 := ⟨_, _, Tryd.func31, by kernel_rfl, rfl⟩
theorem ent32 : Ent Tryd.prog 32 := ⟨_, _, Tryd.func32, by kernel_rfl, rfl⟩
theorem ent33 : Ent Tryd.prog 33 := ⟨_, _, Tryd.func33, by kernel_rfl, rfl⟩
theorem ent34 : Ent Tryd.prog 34 := ⟨_, _, Tryd.func34, by kernel_rfl, rfl⟩
theorem ent35 : Ent Tryd.prog 35 := ⟨_, _, Tryd.func35, by kernel_rfl, rfl⟩
theorem ent38 : Ent Tryd.prog 38 := ⟨_, _, Tryd.func38, by kernel_rfl, rfl⟩
theorem ent39 : Ent Tryd.prog 39 := ⟨_, _, Tryd.func39, by kernel_rfl, rfl⟩
theorem ent51 : Ent Tryd.prog 51 := ⟨_, _, Tryd.func51, by kernel_rfl, rfl⟩
theorem ent67 : Ent Tryd.prog 67 := ⟨_, _, Tryd.func67, by kernel_rfl, rfl⟩
theorem ent72 : Ent Tryd.prog 72 := ⟨_, _, Tryd.func72, by kernel_rfl, rfl⟩
theorem ent73 : Ent Tryd.prog 73 := ⟨_, _, Tryd.func73, by kernel_rfl, rfl⟩
theorem ent74 : Ent Tryd.prog 74 := ⟨_, _, Tryd.func74, by kernel_rfl, rfl⟩
theorem ent75 : Ent Tryd.prog 75 := ⟨_, _, Tryd.func75, by kernel_rfl, rfl⟩
theorem ent76 : Ent Tryd.prog 76 := ⟨_, _, Tryd.func76, by kernel_rfl, rfl⟩
theorem ent77 : Ent Tryd.prog 77 := ⟨_, _, Tryd.func77, by kernel_rfl, rfl⟩
theorem ent78 : Ent Tryd.prog 78 := ⟨_, _, Tryd.func78, by kernel_rfl, rfl⟩
theorem ent81 : Ent Tryd.prog 81 := ⟨_, _, Tryd.func81, by kernel_rfl, rfl⟩
theorem ent85 : Ent Tryd.prog 85 := ⟨_, _, Tryd.func85, by kernel_rfl, rfl⟩
theorem ent96 : Ent Tryd.prog 96 := ⟨_, _, Tryd.func96, by kernel_rfl, rfl⟩
theorem ent102 : Ent Tryd.prog 102 := ⟨_, _, Tryd.func102, by kernel_rfl, rfl⟩
theorem ent107 : Ent Tryd.prog 107 := ⟨_, _, Tryd.func107, by kernel_rfl, rfl⟩
theorem ent113 : Ent Tryd.prog 113 := ⟨_, _, Tryd.func113, by kernel_rfl, rfl⟩
theorem ent114 : Ent Tryd.prog 114 := ⟨_, _, Tryd.func114, by kernel_rfl, rfl⟩
theorem ent117 : Ent Tryd.prog 117 := ⟨_, _, Tryd.func117, by kernel_rfl, rfl⟩
theorem ent118 : Ent Tryd.prog 118 := ⟨_, _, Tryd.func118, by kernel_rfl, rfl⟩
theorem ent121 : Ent Tryd.prog 121 := ⟨_, _, Tryd.func121, by kernel_rfl, rfl⟩
theorem ent122 : Ent Tryd.prog 122 := ⟨_, _, Tryd.func122, by kernel_rfl, rfl⟩
theorem ent123 : Ent Tryd.prog 123 := ⟨_, _, Tryd.func123, by kernel_rfl, rfl⟩
theorem ent124 : Ent Tryd.prog 124 := ⟨_, _, Tryd.func124, by kernel_rfl, rfl⟩
theorem ent125 : Ent Tryd.prog 125 := ⟨_, _, Tryd.func125, by kernel_rfl, rfl⟩
theorem ent130 : Ent Tryd.prog 130 := ⟨_, _, Tryd.func130, by kernel_rfl, rfl⟩
theorem ent131 : Ent Tryd.prog 131 := ⟨_, _, Tryd.func131, by kernel_rfl, rfl⟩
theorem ent132 : Ent Tryd.prog 132 := ⟨_, _, Tryd.func132, by kernel_rfl, rfl⟩
theorem ent137 : Ent Tryd.prog 137 := ⟨_, _, Tryd.func137, by kernel_rfl, rfl⟩
theorem ent138 : Ent Tryd.prog 138 := ⟨_, _, Tryd.func138, by kernel_rfl, rfl⟩
end Go.Proofs.YtkfkdakghjlenaaDoor
