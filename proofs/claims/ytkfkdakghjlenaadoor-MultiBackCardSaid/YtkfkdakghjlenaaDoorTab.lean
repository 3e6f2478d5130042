/-
  Own text, printed by a program of mine (wip/gx): closed facts of the program's tables.
-/
import Derived.Test.YtkfkdakghjlenaaDoorProg
import Derived.Test.YtkfkdakghjlenaaDoorGxAgg
set_option linter.unusedSimpArgs false
set_option linter.unusedVariables false
namespace Go.Proofs.YtkfkdakghjlenaaDoor
open Go.RowKit Go.Gx
theorem sz5 : (Tryd.prog.info? 5).map (·.size) = some 1 := by kernel_rfl
theorem sz23 : (Tryd.prog.info? 23).map (·.size) = some 1 := by kernel_rfl
theorem sz37 : (Tryd.prog.info? 37).map (·.size) = some 32 := by kernel_rfl
theorem sz38 : (Tryd.prog.info? 38).map (·.size) = some 32 := by kernel_rfl
theorem sz39 : (Tryd.prog.info? 39).map (·.size) = some 1 := by kernel_rfl
theorem sz81 : (Tryd.prog.info? 81).map (·.size) = some 64 := by kernel_rfl
theorem sz107 : (Tryd.prog.info? 107).map (·.size) = some 1 := by kernel_rfl
theorem sz115 : (Tryd.prog.info? 115).map (·.size) = some 66 := by kernel_rfl
theorem sz116 : (Tryd.prog.info? 116).map (·.size) = some 64 := by kernel_rfl
theorem sz142 : (Tryd.prog.info? 142).map (·.size) = some 2 := by kernel_rfl
theorem sz146 : (Tryd.prog.info? 146).map (·.size) = some 1 := by kernel_rfl
theorem sz174 : (Tryd.prog.info? 174).map (·.size) = some 64 := by kernel_rfl
theorem sz187 : (Tryd.prog.info? 187).map (·.size) = some 2 := by kernel_rfl
theorem sz200 : (Tryd.prog.info? 200).map (·.size) = some 8 := by kernel_rfl
theorem sz205 : (Tryd.prog.info? 205).map (·.size) = some 74 := by kernel_rfl
theorem sz213 : (Tryd.prog.info? 213).map (·.size) = some 64 := by kernel_rfl
theorem el23 : ElT Tryd.prog 23 38 32 32 := ElT.of (z := .agg #[.int .u8 0, .int .u8 0, .int .u8 0, .int .u8 0, .int .u8 0, .int .u8 0, .int .u8 0, .int .u8 0, .int .u8 0, .int .u8 0, .int .u8 0, .int .u8 0, .int .u8 0, .int .u8 0, .int .u8 0, .int .u8 0, .int .u8 0, .int .u8 0, .int .u8 0, .int .u8 0, .int .u8 0, .int .u8 0, .int .u8 0, .int .u8 0, .int .u8 0, .int .u8 0, .int .u8 0, .int .u8 0, .int .u8 0, .int .u8 0, .int .u8 0, .int .u8 0]) Tryd.underlying23 (by kernel_rfl) rfl (by decide)
theorem el27 : ElT Tryd.prog 27 81 64 64 := ElT.of (z := .agg #[.int .u8 0, .int .u8 0, .int .u8 0, .int .u8 0, .int .u8 0, .int .u8 0, .int .u8 0, .int .u8 0, .int .u8 0, .int .u8 0, .int .u8 0, .int .u8 0, .int .u8 0, .int .u8 0, .int .u8 0, .int .u8 0, .int .u8 0, .int .u8 0, .int .u8 0, .int .u8 0, .int .u8 0, .int .u8 0, .int .u8 0, .int .u8 0, .int .u8 0, .int .u8 0, .int .u8 0, .int .u8 0, .int .u8 0, .int .u8 0, .int .u8 0, .int .u8 0, .int .u8 0, .int .u8 0, .int .u8 0, .int .u8 0, .int .u8 0, .int .u8 0, .int .u8 0, .int .u8 0, .int .u8 0, .int .u8 0, .int .u8 0, .int .u8 0, .int .u8 0, .int .u8 0, .int .u8 0, .int .u8 0, .int .u8 0, .int .u8 0, .int .u8 0, .int .u8 0, .int .u8 0, .int .u8 0, .int .u8 0, .int .u8 0, .int .u8 0, .int .u8 0, .int .u8 0, .int .u8 0, .int .u8 0, .int .u8 0, .int .u8 0, .int .u8 0]) Tryd.underlying27 (by kernel_rfl) rfl (by decide)
theorem el33 : ElT Tryd.prog 33 115 66 80 := ElT.of (z := .agg #[.int .i64 0, .int .i64 0, .int .u8 0, .int .u8 0, .int .u8 0, .int .u8 0, .int .u8 0, .int .u8 0, .int .u8 0, .int .u8 0, .int .u8 0, .int .u8 0, .int .u8 0, .int .u8 0, .int .u8 0, .int .u8 0, .int .u8 0, .int .u8 0, .int .u8 0, .int .u8 0, .int .u8 0, .int .u8 0, .int .u8 0, .int .u8 0, .int .u8 0, .int .u8 0, .int .u8 0, .int .u8 0, .int .u8 0, .int .u8 0, .int .u8 0, .int .u8 0, .int .u8 0, .int .u8 0, .int .u8 0, .int .u8 0, .int .u8 0, .int .u8 0, .int .u8 0, .int .u8 0, .int .u8 0, .int .u8 0, .int .u8 0, .int .u8 0, .int .u8 0, .int .u8 0, .int .u8 0, .int .u8 0, .int .u8 0, .int .u8 0, .int .u8 0, .int .u8 0, .int .u8 0, .int .u8 0, .int .u8 0, .int .u8 0, .int .u8 0, .int .u8 0, .int .u8 0, .int .u8 0, .int .u8 0, .int .u8 0, .int .u8 0, .int .u8 0, .int .u8 0, .int .u8 0]) Tryd.underlying33 (by kernel_rfl) rfl (by decide)
theorem el107 : ElT Tryd.prog 107 5 1 1 := ElT.of (z := .int .u8 0) Tryd.underlying107 (by kernel_rfl) rfl (by decide)
theorem el118 : ElT Tryd.prog 118 174 64 64 := ElT.of (z := .agg #[.int .u8 0, .int .u8 0, .int .u8 0, .int .u8 0, .int .u8 0, .int .u8 0, .int .u8 0, .int .u8 0, .int .u8 0, .int .u8 0, .int .u8 0, .int .u8 0, .int .u8 0, .int .u8 0, .int .u8 0, .int .u8 0, .int .u8 0, .int .u8 0, .int .u8 0, .int .u8 0, .int .u8 0, .int .u8 0, .int .u8 0, .int .u8 0, .int .u8 0, .int .u8 0, .int .u8 0, .int .u8 0, .int .u8 0, .int .u8 0, .int .u8 0, .int .u8 0, .int .u8 0, .int .u8 0, .int .u8 0, .int .u8 0, .int .u8 0, .int .u8 0, .int .u8 0, .int .u8 0, .int .u8 0, .int .u8 0, .int .u8 0, .int .u8 0, .int .u8 0, .int .u8 0, .int .u8 0, .int .u8 0, .int .u8 0, .int .u8 0, .int .u8 0, .int .u8 0, .int .u8 0, .int .u8 0, .int .u8 0, .int .u8 0, .int .u8 0, .int .u8 0, .int .u8 0, .int .u8 0, .int .u8 0, .int .u8 0, .int .u8 0, .int .u8 0]) Tryd.underlying118 (by kernel_rfl) rfl (by decide)
theorem el162 : ElT Tryd.prog 162 187 2 16 := ElT.of (z := .agg #[.int .i64 0, .int .i64 0]) Tryd.underlying162 (by kernel_rfl) rfl (by decide)
theorem ent20 : Ent Tryd.prog 20 := ⟨_, _, Tryd.func20, by kernel_rfl, rfl⟩
theorem ent21 : Ent Tryd.prog 21 := ⟨_, _, Tryd.func21, by kernel_rfl, rfl⟩
theorem ent24 : Ent Tryd.prog 24 := ⟨_, _, Tryd.func24, by kernel_rfl, rfl⟩
theorem ent36 : Ent Tryd.prog 36 := ⟨_, _, Tryd.func36, by kernel_rfl, rfl⟩
theorem ent37 : Ent Tryd.prog 37 := ⟨_, _, Tryd.func37, by kernel_rfl, rfl⟩
theorem ent38 : Ent Tryd.prog 38 := ⟨_, _, Tryd.func38, by kernel_rfl, rfl⟩
theorem ent39 : Ent Tryd.prog 39 := ⟨_, _, Tryd.func39, by kernel_rfl, rfl⟩
theorem ent44 : Ent Tryd.prog 44 := ⟨_, _, Tryd.func44, by kernel_rfl, rfl⟩
theorem ent46 : Ent Tryd.prog 46 := ⟨_, _, Tryd.func46, by kernel_rfl, rfl⟩
theorem ent51 : Ent Tryd.prog 51 := ⟨_, _, Tryd.func51, by kernel_rfl, rfl⟩
theorem ent52 : Ent Tryd.prog 52 := ⟨_, _, Tryd.func52, by kernel_rfl, rfl⟩
theorem ent56 : Ent Tryd.prog 56 := ⟨_, _, Tryd.func56, by kernel_rfl, rfl⟩
theorem ent60 : Ent Tryd.prog 60 := ⟨_, _, Tryd.func60, by kernel_rfl, rfl⟩
theorem ent64 : Ent Tryd.prog 64 := ⟨_, _, Tryd.func64, by kernel_rfl, rfl⟩
theorem ent65 : Ent Tryd.prog 65 := ⟨_, _, Tryd.func65, by kernel_rfl, rfl⟩
theorem ent66 : Ent Tryd.prog 66 := ⟨_, _, Tryd.func66, by kernel_rfl, rfl⟩
theorem ent67 : Ent Tryd.prog 67 := ⟨_, _, Tryd.func67, by kernel_rfl, rfl⟩
theorem ent68 : Ent Tryd.prog 68 := ⟨_, _, Tryd.func68, by kernel_rfl, rfl⟩
theorem ent69 : Ent Tryd.prog 69 := ⟨_, _, Tryd.func69, by kernel_rfl, rfl⟩
theorem ent70 : Ent Tryd.prog 70 := ⟨_, _, Tryd.func70, by kernel_rfl, rfl⟩
theorem ent73 : Ent Tryd.prog 73 := ⟨_, _, Tryd.func73, by kernel_rfl, rfl⟩
theorem ent74 : Ent Tryd.prog 74 := ⟨_, _, Tryd.func74, by kernel_rfl, rfl⟩
theorem ent76 : Ent Tryd.prog 76 := ⟨_, _, Tryd.func76, by kernel_rfl, rfl⟩
theorem ent79 : Ent Tryd.prog 79 := ⟨_, _, Tryd.func79, by kernel_rfl, rfl⟩
theorem ent81 : Ent Tryd.prog 81 := ⟨_, _, Tryd.func81, by kernel_rfl, rfl⟩
theorem ent83 : Ent Tryd.prog 83 := ⟨_, _, Tryd.func83, by kernel_rfl, rfl⟩
theorem ent85 : Ent Tryd.prog 85 := ⟨_, _, Tryd.func85, by kernel_rfl, rfl⟩
theorem ent87 : Ent Tryd.prog 87 := ⟨_, _, Tryd.func87, by kernel_rfl, rfl⟩
theorem ent88 : Ent Tryd.prog 88 := ⟨_, _, Tryd.func88, by kernel_rfl, rfl⟩
theorem ent93 : Ent Tryd.prog 93 := ⟨_, _, Tryd.func93, by kernel_rfl, rfl⟩
theorem ent94 : Ent Tryd.prog 94 := ⟨_, _, Tryd.func94, by kernel_rfl, rfl⟩
theorem ent95 : Ent Tryd.prog 95 := ⟨_, _, Tryd.func95, by kernel_rfl, rfl⟩
theorem ent96 : Ent Tryd.prog 96 := ⟨_, _, Tryd.func96, by kernel_rfl, rfl⟩
theorem ent98 : Ent Tryd.prog 98 := ⟨_, _, Tryd.func98, by kernel_rfl, rfl⟩
theorem ent99 : Ent Tryd.prog 99 := ⟨_, _, Tryd.func99, by kernel_rfl, rfl⟩
theorem ent100 : Ent Tryd.prog 100 := ⟨_, _, Tryd.func100, by kernel_rfl, rfl⟩
theorem ent102 : Ent Tryd.prog 102 := ⟨_, _, Tryd.func102, by kernel_rfl, rfl⟩
theorem ent104 : Ent Tryd.prog 104 := ⟨_, _, Tryd.func104, by kernel_rfl, rfl⟩
theorem ent105 : Ent Tryd.prog 105 := ⟨_, _, Tryd.func105, by kernel_rfl, rfl⟩
theorem ent106 : Ent Tryd.prog 106 := ⟨_, _, Tryd.func106, by kernel_rfl, rfl⟩
theorem ent107 : Ent Tryd.prog 107 := ⟨_, _, Tryd.func107, by kernel_rfl, rfl⟩
theorem ent109 : Ent Tryd.prog 109 := ⟨_, _, Tryd.func109, by kernel_rfl, rfl⟩
theorem ent110 : Ent Tryd.prog 110 := ⟨_, _, Tryd.func110, by kernel_rfl, rfl⟩
theorem ent111 : Ent Tryd.prog 111 := ⟨_, _, Tryd.func111, by kernel_rfl, rfl⟩
theorem ent112 : Ent Tryd.prog 112 := ⟨_, _, Tryd.func112, by kernel_rfl, rfl⟩
theorem ent113 : Ent Tryd.prog 113 := ⟨_, _, Tryd.func113, by kernel_rfl, rfl⟩
theorem ent114 : Ent Tryd.prog 114 := ⟨_, _, Tryd.func114, by kernel_rfl, rfl⟩
theorem ent115 : Ent Tryd.prog 115 := ⟨_, _, Tryd.func115, by kernel_rfl, rfl⟩
theorem ent116 : Ent Tryd.prog 116 := ⟨_, _, Tryd.func116, by kernel_rfl, rfl⟩
theorem ent117 : Ent Tryd.prog 117 := ⟨_, _, Tryd.func117, by kernel_rfl, rfl⟩
theorem ent118 : Ent Tryd.prog 118 := ⟨_, _, Tryd.func118, by kernel_rfl, rfl⟩
theorem ent121 : Ent Tryd.prog 121 := ⟨_, _, Tryd.func121, by kernel_rfl, rfl⟩
theorem ent122 : Ent Tryd.prog 122 := ⟨_, _, Tryd.func122, by kernel_rfl, rfl⟩
theorem ent123 : Ent Tryd.prog 123 := ⟨_, _, Tryd.func123, by kernel_rfl, rfl⟩
theorem ent124 : Ent Tryd.prog 124 := ⟨_, _, Tryd.func124, by kernel_rfl, rfl⟩
theorem ent125 : Ent Tryd.prog 125 := ⟨_, _, Tryd.func125, by kernel_rfl, rfl⟩
theorem ent130 : Ent Tryd.prog 130 := ⟨_, _, Tryd.func130, by kernel_rfl, rfl⟩
theorem ent131 : Ent Tryd.prog 131 := ⟨_, _, Tryd.func131, by kernel_rfl, rfl⟩
theorem ent132 : Ent Tryd.prog 132 := ⟨_, _, Tryd.func132, by kernel_rfl, rfl⟩
theorem ent137 : Ent Tryd.prog 137 := ⟨_, _, Tryd.func137, by kernel_rfl, rfl⟩
theorem ent138 : Ent Tryd.prog 138 := ⟨_, _, Tryd.func138, by kernel_rfl, rfl⟩
end Go.Proofs.YtkfkdakghjlenaaDoor
