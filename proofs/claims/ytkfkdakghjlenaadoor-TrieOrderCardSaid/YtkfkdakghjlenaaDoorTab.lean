/-
  Own text, printed by a program of mine (wip/gx): closed facts of the program's tables.
-/
import Derived.Test.YtkfkdakghjlenaaDoorProg
import Derived.Test.YtkfkdakghjlenaaDoorGxAgg
set_option linter.unusedSimpArgs false
set_option linter.unusedVariables false
namespace Go.Proofs.YtkfkdakghjlenaaDoor
open Go.RowKit Go.Gx
theorem sz5 : (Tryd.prog.info? 5).map (·.size) = some 1 := by kernel_rfl
theorem sz37 : (Tryd.prog.info? 37).map (·.size) = some 32 := by kernel_rfl
theorem sz38 : (Tryd.prog.info? 38).map (·.size) = some 32 := by kernel_rfl
theorem sz39 : (Tryd.prog.info? 39).map (·.size) = some 1 := by kernel_rfl
theorem sz66 : (Tryd.prog.info? 66).map (·.size) = some 65 := by kernel_rfl
theorem sz81 : (Tryd.prog.info? 81).map (·.size) = some 64 := by kernel_rfl
theorem sz107 : (Tryd.prog.info? 107).map (·.size) = some 1 := by kernel_rfl
theorem sz142 : (Tryd.prog.info? 142).map (·.size) = some 2 := by kernel_rfl
theorem sz146 : (Tryd.prog.info? 146).map (·.size) = some 1 := by kernel_rfl
theorem sz200 : (Tryd.prog.info? 200).map (·.size) = some 8 := by kernel_rfl
theorem sz205 : (Tryd.prog.info? 205).map (·.size) = some 74 := by kernel_rfl
theorem sz213 : (Tryd.prog.info? 213).map (·.size) = some 64 := by kernel_rfl
theorem el27 : ElT Tryd.prog 27 81 64 64 := ElT.of (z := .agg #[.int .u8 0, .int .u8 0, .int .u8 0, .int .u8 0, .int .u8 0, .int .u8 0, .int .u8 0, .int .u8 0, .int .u8 0, .int .u8 0, .int .u8 0, .int .u8 0, .int .u8 0, .int .u8 0, .int .u8 0, .int .u8 0, .int .u8 0, .int .u8 0, .int .u8 0, .int .u8 0, .int .u8 0, .int .u8 0, .int .u8 0, .int .u8 0, .int .u8 0, .int .u8 0, .int .u8 0, .int .u8 0, .int .u8 0, .int .u8 0, .int .u8 0, .int .u8 0, .int .u8 0, .int .u8 0, .int .u8 0, .int .u8 0, .int .u8 0, .int .u8 0, .int .u8 0, .int .u8 0, .int .u8 0, .int .u8 0, .int .u8 0, .int .u8 0, .int .u8 0, .int .u8 0, .int .u8 0, .int .u8 0, .int .u8 0, .int .u8 0, .int .u8 0, .int .u8 0, .int .u8 0, .int .u8 0, .int .u8 0, .int .u8 0, .int .u8 0, .int .u8 0, .int .u8 0, .int .u8 0, .int .u8 0, .int .u8 0, .int .u8 0, .int .u8 0]) Tryd.underlying27 (by kernel_rfl) rfl (by decide)
theorem el107 : ElT Tryd.prog 107 5 1 1 := ElT.of (z := .int .u8 0) Tryd.underlying107 (by kernel_rfl) rfl (by decide)
theorem ent36 : Ent Tryd.prog 36 := ⟨_, _, Tryd.func36, by kernel_rfl, rfl⟩
theorem ent37 : Ent Tryd.prog 37 := ⟨_, _, Tryd.func37, by kernel_rfl, rfl⟩
theorem ent38 : Ent Tryd.prog 38 := ⟨_, _, Tryd.func38, by kernel_rfl, rfl⟩
theorem ent39 : Ent Tryd.prog 39 := ⟨_, _, Tryd.func39, by kernel_rfl, rfl⟩
theorem ent40 : Ent Tryd.prog 40 := ⟨_, _, Tryd.func40, by kernel_rfl, rfl⟩
theorem ent41 : Ent Tryd.prog 41 := ⟨_, _, Tryd.func41, by kernel_rfl, rfl⟩
theorem ent42 : Ent Tryd.prog 42 := ⟨_, _, Tryd.func42, by kernel_rfl, rfl⟩
theorem ent43 : Ent Tryd.prog 43 := ⟨_, _, Tryd.func43, by kernel_rfl, rfl⟩
theorem ent44 : Ent Tryd.prog 44 := ⟨_, _, Tryd.func44, by kernel_rfl, rfl⟩
theorem ent45 : Ent Tryd.prog 45 := ⟨_, _, Tryd.func45, by kernel_rfl, rfl⟩
theorem ent46 : Ent Tryd.prog 46 := ⟨_, _, Tryd.func46, by kernel_rfl, rfl⟩
theorem ent48 : Ent Tryd.prog 48 := ⟨_, _, Tryd.func48, by kernel_rfl, rfl⟩
theorem ent50 : Ent Tryd.prog 50 := ⟨_, _, Tryd.func50, by kernel_rfl, rfl⟩
theorem ent51 : Ent Tryd.prog 51 := ⟨_, _, Tryd.func51, by kernel_rfl, rfl⟩
theorem ent52 : Ent Tryd.prog 52 := ⟨_, _, Tryd.func52, by kernel_rfl, rfl⟩
theorem ent69 : Ent Tryd.prog 69 := ⟨_, _, Tryd.func69, by kernel_rfl, rfl⟩
theorem ent73 : Ent Tryd.prog 73 := ⟨_, _, Tryd.func73, by kernel_rfl, rfl⟩
theorem ent74 : Ent Tryd.prog 74 := ⟨_, _, Tryd.func74, by kernel_rfl, rfl⟩
theorem ent76 : Ent Tryd.prog 76 := ⟨_, _, Tryd.func76, by kernel_rfl, rfl⟩
theorem ent77 : Ent Tryd.prog 77 := ⟨_, _, Tryd.func77, by kernel_rfl, rfl⟩
theorem ent78 : Ent Tryd.prog 78 := ⟨_, _, Tryd.func78, by kernel_rfl, rfl⟩
theorem ent79 : Ent Tryd.prog 79 := ⟨_, _, Tryd.func79, by kernel_rfl, rfl⟩
theorem ent80 : Ent Tryd.prog 80 := ⟨_, _, Tryd.func80, by kernel_rfl, rfl⟩
theorem ent81 : Ent Tryd.prog 81 := ⟨_, _, Tryd.func81, by kernel_rfl, rfl⟩
theorem ent82 : Ent Tryd.prog 82 := ⟨_, _, Tryd.func82, by kernel_rfl, rfl⟩
theorem ent83 : Ent Tryd.prog 83 := ⟨_, _, Tryd.func83, by kernel_rfl, rfl⟩
theorem ent84 : Ent Tryd.prog 84 := ⟨_, _, Tryd.func84, by kernel_rfl, rfl⟩
theorem ent85 : Ent Tryd.prog 85 := ⟨_, _, Tryd.func85, by kernel_rfl, rfl⟩
theorem ent86 : Ent Tryd.prog 86 := ⟨_, _, Tryd.func86, by kernel_rfl, rfl⟩
theorem ent87 : Ent Tryd.prog 87 := ⟨_, _, Tryd.func87, by kernel_rfl, rfl⟩
theorem ent96 : Ent Tryd.prog 96 := ⟨_, _, Tryd.func96, by kernel_rfl, rfl⟩
theorem ent98 : Ent Tryd.prog 98 := ⟨_, _, Tryd.func98, by kernel_rfl, rfl⟩
theorem ent102 : Ent Tryd.prog 102 := ⟨_, _, Tryd.func102, by kernel_rfl, rfl⟩
theorem ent104 : Ent Tryd.prog 104 := ⟨_, _, Tryd.func104, by kernel_rfl, rfl⟩
theorem ent105 : Ent Tryd.prog 105 := ⟨_, _, Tryd.func105, by kernel_rfl, rfl⟩
theorem ent106 : Ent Tryd.prog 106 := ⟨_, _, Tryd.func106, by kernel_rfl, rfl⟩
theorem ent107 : Ent Tryd.prog 107 := ⟨_, _, Tryd.func107, by kernel_rfl, rfl⟩
theorem ent113 : Ent Tryd.prog 113 := ⟨_, _, Tryd.func113, by kernel_rfl, rfl⟩
theorem ent114 : Ent Tryd.prog 114 := ⟨_, _, Tryd.func114, by kernel_rfl, rfl⟩
theorem ent117 : Ent Tryd.prog 117 := ⟨_, _, Tryd.func117, by kernel_rfl, rfl⟩
theorem ent118 : Ent Tryd.prog 118 := ⟨_, _, Tryd.func118, by kernel_rfl, rfl⟩
theorem ent121 : Ent Tryd.prog 121 := ⟨_, _, Tryd.func121, by kernel_rfl, rfl⟩
theorem ent122 : Ent Tryd.prog 122 := ⟨_, _, Tryd.func122, by kernel_rfl, rfl⟩
theorem ent123 : Ent Tryd.prog 123 := ⟨_, _, Tryd.func123, by kernel_rfl, rfl⟩
theorem ent124 : Ent Tryd.prog 124 := ⟨_, _, Tryd.func124, by kernel_rfl, rfl⟩
theorem ent125 : Ent Tryd.prog 125 := ⟨_, _, Tryd.func125, by kernel_rfl, rfl⟩
theorem ent130 : Ent Tryd.prog 130 := ⟨_, _, Tryd.func130, by kernel_rfl, rfl⟩
theorem ent131 : Ent Tryd.prog 131 := ⟨_, _, Tryd.func131, by kernel_rfl, rfl⟩
theorem ent132 : Ent Tryd.prog 132 := ⟨_, _, Tryd.func132, by kernel_rfl, rfl⟩
theorem ent137 : Ent Tryd.prog 137 := ⟨_, _, Tryd.func137, by kernel_rfl, rfl⟩
theorem ent138 : Ent Tryd.prog 138 := ⟨_, _, Tryd.func138, by kernel_rfl, rfl⟩
end Go.Proofs.YtkfkdakghjlenaaDoor
