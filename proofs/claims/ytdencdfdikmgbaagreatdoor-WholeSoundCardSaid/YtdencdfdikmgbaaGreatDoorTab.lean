/-
  Own text, printed by a program of mine (wip/gx): closed facts of the program's tables.
-/
import Derived.Test.YtdencdfdikmgbaaGreatDoorWm0
import Derived.Test.YtdencdfdikmgbaaGreatDoorProg
set_option linter.unusedSimpArgs false
set_option linter.unusedVariables false
namespace Go.Proofs.YtdencdfdikmgbaaGreatDoor
open Go.RowKit Go.Gx
theorem sz3 : (Tryz.prog.info? 3).map (·.size) = some 1 := by kernel_rfl
theorem sz4 : (Tryz.prog.info? 4).map (·.size) = some 1 := by kernel_rfl
theorem sz5 : (Tryz.prog.info? 5).map (·.size) = some 1 := by kernel_rfl
theorem sz9 : (Tryz.prog.info? 9).map (·.size) = some 1 := by kernel_rfl
theorem sz25 : (Tryz.prog.info? 25).map (·.size) = some 5 := by kernel_rfl
theorem sz28 : (Tryz.prog.info? 28).map (·.size) = some 6 := by kernel_rfl
theorem sz33 : (Tryz.prog.info? 33).map (·.size) = some 32 := by kernel_rfl
theorem sz34 : (Tryz.prog.info? 34).map (·.size) = some 32 := by kernel_rfl
theorem sz38 : (Tryz.prog.info? 38).map (·.size) = some 1 := by kernel_rfl
theorem sz52 : (Tryz.prog.info? 52).map (·.size) = some 3 := by kernel_rfl
theorem sz54 : (Tryz.prog.info? 54).map (·.size) = some 4 := by kernel_rfl
theorem sz81 : (Tryz.prog.info? 81).map (·.size) = some 1 := by kernel_rfl
theorem sz82 : (Tryz.prog.info? 82).map (·.size) = some 8 := by kernel_rfl
theorem sz164 : (Tryz.prog.info? 164).map (·.size) = some 2 := by kernel_rfl
theorem sz172 : (Tryz.prog.info? 172).map (·.size) = some 64 := by kernel_rfl
theorem sz236 : (Tryz.prog.info? 236).map (·.size) = some 2 := by kernel_rfl
theorem sz252 : (Tryz.prog.info? 252).map (·.size) = some 74 := by kernel_rfl
theorem el38 : ElT Tryz.prog 38 5 1 1 := ElT.of (z := .int .u8 0) Tryz.underlying38 (by kernel_rfl) rfl (by decide)
theorem el160 : ElT Tryz.prog 160 38 1 24 := ElT.of (z := .slice none 0 0) Tryz.underlying160 (by kernel_rfl) rfl (by decide)
theorem el161 : ElT Tryz.prog 161 4 1 1 := ElT.of (z := .bool false) Tryz.underlying161 (by kernel_rfl) rfl (by decide)
theorem el233 : ElT Tryz.prog 233 236 2 16 := ElT.of (z := .agg #[.int .i64 0, .bool false]) Tryz.underlying233 (by kernel_rfl) rfl (by decide)
theorem ent5 : Ent Tryz.prog 5 := ⟨_, _, Tryz.func5, by kernel_rfl, rfl⟩
theorem ent6 : Ent Tryz.prog 6 := ⟨_, _, Tryz.func6, by kernel_rfl, rfl⟩
theorem ent7 : Ent Tryz.prog 7 := ⟨_, _, Tryz.func7, by kernel_rfl, rfl⟩
theorem ent8 : Ent Tryz.prog 8 := ⟨_, _, Tryz.func8, by kernel_rfl, rfl⟩
theorem ent9 : Ent Tryz.prog 9 := ⟨_, _, Tryz.func9, by kernel_rfl, rfl⟩
theorem ent10 : Ent Tryz.prog 10 := ⟨_, _, Tryz.func10, by kernel_rfl, rfl⟩
theorem ent11 : Ent Tryz.prog 11 := ⟨_, _, Tryz.func11, by kernel_rfl, rfl⟩
theorem ent12 : Ent Tryz.prog 12 := ⟨_, _, Tryz.func12, by kernel_rfl, rfl⟩
theorem ent13 : Ent Tryz.prog 13 := ⟨_, _, Tryz.func13, by kernel_rfl, rfl⟩
theorem ent16 : Ent Tryz.prog 16 := ⟨_, _, Tryz.func16, by kernel_rfl, rfl⟩
theorem ent17 : Ent Tryz.prog 17 := ⟨_, _, Tryz.func17, by kernel_rfl, rfl⟩
theorem ent29 : Ent Tryz.prog 29 := ⟨_, _, Tryz.func29, by kernel_rfl, rfl⟩
theorem ent30 : Ent Tryz.prog 30 := ⟨_, _, Tryz.func30, by kernel_rfl, rfl⟩
theorem ent31 : Ent Tryz.prog 31 := ⟨_, _, Tryz.func31, by kernel_rfl, rfl⟩
theorem ent32 : Ent Tryz.prog 32 := ⟨_, _, Tryz.func32, by kernel_rfl, rfl⟩
theorem ent33 : Ent Tryz.prog 33 := ⟨_, _, Tryz.func33, by kernel_rfl, rfl⟩
theorem ent34 : Ent Tryz.prog 34 := ⟨_, _, Tryz.func34, by kernel_rfl, rfl⟩
theorem ent35 : Ent Tryz.prog 35 := ⟨_, _, Tryz.func35, by kernel_rfl, rfl⟩
theorem ent36 : Ent Tryz.prog 36 := ⟨_, _, Tryz.func36, by kernel_rfl, rfl⟩
theorem ent37 : Ent Tryz.prog 37 := ⟨_, _, Tryz.func37, by kernel_rfl, rfl⟩
theorem ent38 : Ent Tryz.prog 38 := ⟨_, _, Tryz.func38, by kernel_rfl, rfl⟩
theorem ent39 : Ent Tryz.prog 39 := ⟨_, _, Tryz.func39, by kernel_rfl, rfl⟩
theorem ent45 : Ent Tryz.prog 45 := ⟨_, _, Tryz.func45, by kernel_rfl, rfl⟩
theorem ent46 : Ent Tryz.prog 46 := ⟨_, _, Tryz.func46, by kernel_rfl, rfl⟩
theorem ent47 : Ent Tryz.prog 47 := ⟨_, _, Tryz.func47, by kernel_rfl, rfl⟩
theorem ent48 : Ent Tryz.prog 48 := ⟨_, _, Tryz.func48, by kernel_rfl, rfl⟩
theorem ent49 : Ent Tryz.prog 49 := ⟨_, _, Tryz.func49, by kernel_rfl, rfl⟩
theorem ent82 : Ent Tryz.prog 82 := ⟨_, _, Tryz.func82, by kernel_rfl, rfl⟩
theorem ent83 : Ent Tryz.prog 83 := ⟨_, _, Tryz.func83, by kernel_rfl, rfl⟩
theorem ent84 : Ent Tryz.prog 84 := ⟨_, _, Tryz.func84, by kernel_rfl, rfl⟩
theorem ent85 : Ent Tryz.prog 85 := ⟨_, _, Tryz.func85, by kernel_rfl, rfl⟩
theorem ent86 : Ent Tryz.prog 86 := ⟨_, _, Tryz.func86, by kernel_rfl, rfl⟩
theorem ent87 : Ent Tryz.prog 87 := ⟨_, _, Tryz.func87, by kernel_rfl, rfl⟩
theorem ent88 : Ent Tryz.prog 88 := ⟨_, _, Tryz.func88, by kernel_rfl, rfl⟩
theorem ent89 : Ent Tryz.prog 89 := ⟨_, _, Tryz.func89, by kernel_rfl, rfl⟩
theorem ent90 : Ent Tryz.prog 90 := ⟨_, _, Tryz.func90, by kernel_rfl, rfl⟩
theorem ent91 : Ent Tryz.prog 91 := ⟨_, _, Tryz.func91, by kernel_rfl, rfl⟩
theorem ent92 : Ent Tryz.prog 92 := ⟨_, _, Tryz.func92, by kernel_rfl, rfl⟩
theorem ent93 : Ent Tryz.prog 93 := ⟨_, _, Tryz.func93, by kernel_rfl, rfl⟩
theorem ent94 : Ent Tryz.prog 94 := ⟨_, _, Tryz.func94, by kernel_rfl, rfl⟩
theorem ent95 : Ent Tryz.prog 95 := ⟨_, _, Tryz.func95, by kernel_rfl, rfl⟩
theorem ent96 : Ent Tryz.prog 96 := ⟨_, _, Tryz.func96, by kernel_rfl, rfl⟩
theorem ent97 : Ent Tryz.prog 97 := ⟨_, _, Tryz.func97, by kernel_rfl, rfl⟩
theorem ent98 : Ent Tryz.prog 98 := ⟨_, _, Tryz.func98, by kernel_rfl, rfl⟩
theorem ent99 : Ent Tryz.prog 99 := ⟨_, _, Tryz.func99, by kernel_rfl, rfl⟩
theorem ent104 : Ent Tryz.prog 104 := ⟨_, _, Tryz.func104, by kernel_rfl, rfl⟩
theorem ent106 : Ent Tryz.prog 106 := ⟨_, _, Tryz.func106, by kernel_rfl, rfl⟩
theorem ent144 : Ent Tryz.prog 144 := ⟨_, _, Tryz.func144, by kernel_rfl, rfl⟩
theorem ent153 : Ent Tryz.prog 153 := ⟨_, _, Tryz.func153, by kernel_rfl, rfl⟩
theorem ent154 : Ent Tryz.prog 154 := ⟨_, _, Tryz.func154, by kernel_rfl, rfl⟩
theorem ent155 : Ent Tryz.prog 155 := ⟨_, _, Tryz.func155, by kernel_rfl, rfl⟩
theorem ent156 : Ent Tryz.prog 156 := ⟨_, _, Tryz.func156, by kernel_rfl, rfl⟩
theorem ent158 : Ent Tryz.prog 158 := ⟨_, _, Tryz.func158, by kernel_rfl, rfl⟩
theorem ent159 : Ent Tryz.prog 159 := ⟨_, _, Tryz.func159, by kernel_rfl, rfl⟩
theorem ent160 : Ent Tryz.prog 160 := ⟨_, _, Tryz.func160, by kernel_rfl, rfl⟩
theorem ent161 : Ent Tryz.prog 161 := ⟨_, _, Tryz.func161, by kernel_rfl, rfl⟩
theorem ent162 : Ent Tryz.prog 162 := ⟨_, _, Tryz.func162, by kernel_rfl, rfl⟩
theorem ent163 : Ent Tryz.prog 163 := ⟨_, _, Tryz.func163, by kernel_rfl, rfl⟩
theorem ent164 : Ent Tryz.prog 164 := ⟨_, _, Tryz.func164, by kernel_rfl, rfl⟩
theorem ent165 : Ent Tryz.prog 165 := ⟨_, _, Tryz.func165, by kernel_rfl, rfl⟩
theorem ent166 : Ent Tryz.prog 166 := ⟨_, _, Tryz.func166, by kernel_rfl, rfl⟩
theorem ent168 : Ent Tryz.prog 168 := ⟨_, _, Tryz.func168, by kernel_rfl, rfl⟩
theorem ent191 : Ent Tryz.prog 191 := ⟨_, _, Tryz.func191, by kernel_rfl, rfl⟩
theorem ent214 : Ent Tryz.prog 214 := ⟨_, _, Tryz.func214, by kernel_rfl, rfl⟩
theorem ent215 : Ent Tryz.prog 215 := ⟨_, _, Tryz.func215, by kernel_rfl, rfl⟩
theorem ent217 : Ent Tryz.prog 217 := ⟨_, _, Tryz.func217, by kernel_rfl, rfl⟩
theorem ent248 : Ent Tryz.prog 248 := ⟨_, _, Tryz.func248, by kernel_rfl, rfl⟩
theorem ent249 : Ent Tryz.prog 249 := ⟨_, _, Tryz.func249, by kernel_rfl, rfl⟩
theorem ent255 : Ent Tryz.prog 255 := ⟨_, _, Tryz.func255, by kernel_rfl, rfl⟩
theorem ent256 : Ent Tryz.prog 256 := ⟨_, _, Tryz.func256, by kernel_rfl, rfl⟩
end Go.Proofs.YtdencdfdikmgbaaGreatDoor
