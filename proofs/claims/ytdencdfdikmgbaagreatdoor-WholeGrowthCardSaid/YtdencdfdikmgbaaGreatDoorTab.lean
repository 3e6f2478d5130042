/-
 Own text, printed by a program of mine (wip/gx): closed facts of the program's tables.
-/
import Derived.Test.YtdencdfdikmgbaaGreatDoorWm0
import Derived.Test.YtdencdfdikmgbaaGreatDoorProg
set_option linter.unusedSimpArgs false
set_option linter.unusedVariables false
namespace Go.Proofs.YtdencdfdikmgbaaGreatDoor
open Go.RowKit Go.Gx
theorem sz3 : (Tryz.prog.info? 3).map (·.size) = some 1 := by kernel_rfl
theorem sz5 : (Tryz.prog.info? 5).map (·.size) = some 1 := by kernel_rfl
theorem sz9 : (Tryz.prog.info? 9).map (·.size) = some 1 := by kernel_rfl
theorem ej : (Tryz.prog.info? 25).map (·.size) = some 5 := by kernel_rfl
theorem lV : (Tryz.prog.info? 28).map (·.size) = some 6 := by kernel_rfl
theorem sz33 : (Tryz.prog.info? 33).map (·.size) = some 32 := by kernel_rfl
theorem au : (Tryz.prog.info? 34).map (·.size) = some 32 := by kernel_rfl
theorem sz38 : (Tryz.prog.info? 38).map (·.size) = some 1 := by kernel_rfl
theorem bA : (Tryz.prog.info? 52).map (·.size) = some 3 := by kernel_rfl
theorem cM : (Tryz.prog.info? 54).map (·.size) = some 4 := by kernel_rfl
theorem bi : (Tryz.prog.info? 81).map (·.size) = some 1 := by kernel_rfl
theorem tH : (Tryz.prog.info? 82).map (·.size) = some 8 := by kernel_rfl
theorem qf : (Tryz.prog.info? 88).map (·.size) = some 1 := by kernel_rfl
theorem bq : (Tryz.prog.info? 93).map (·.size) = some 35 := by kernel_rfl
theorem oH : (Tryz.prog.info? 172).map (·.size) = some 64 := by kernel_rfl
theorem oI : (Tryz.prog.info? 182).map (·.size) = some 4 := by kernel_rfl
theorem rq : (Tryz.prog.info? 186).map (·.size) = some 34 := by kernel_rfl
theorem rr : (Tryz.prog.info? 236).map (·.size) = some 2 := by kernel_rfl
theorem sz252 : (Tryz.prog.info? 252).map (·.size) = some 74 := by kernel_rfl
theorem dt : ElT Tryz.prog 38 5 1 1 := ElT.of (z := .int .u8 0) Tryz.underlying38 (by kernel_rfl) rfl (by decide)
theorem lW : ElT Tryz.prog 88 93 35 72 := ElT.of (z := .agg #[.int .i64 0, .int .i64 0, .int .u8 0, .int .u8 0, .int .u8 0, .int .u8 0, .int .u8 0, .int .u8 0, .int .u8 0, .int .u8 0, .int .u8 0, .int .u8 0, .int .u8 0, .int .u8 0, .int .u8 0, .int .u8 0, .int .u8 0, .int .u8 0, .int .u8 0, .int .u8 0, .int .u8 0, .int .u8 0, .int .u8 0, .int .u8 0, .int .u8 0, .int .u8 0, .int .u8 0, .int .u8 0, .int .u8 0, .int .u8 0, .int .u8 0, .int .u8 0, .int .u8 0, .int .u8 0, .slice none 0 0]) Tryz.underlying88 (by kernel_rfl) rfl (by decide)
theorem el179 : ElT Tryz.prog 179 182 4 32 := ElT.of (z := .agg #[.int .i64 0, .int .i64 0, .int .i64 0, .bool false]) Tryz.underlying179 (by kernel_rfl) rfl (by decide)
theorem el233 : ElT Tryz.prog 233 236 2 16 := ElT.of (z := .agg #[.int .i64 0, .bool false]) Tryz.underlying233 (by kernel_rfl) rfl (by decide)
theorem ent5 : Ent Tryz.prog 5 := ⟨_, _, Tryz.func5, by kernel_rfl, rfl⟩
theorem ent6 : Ent Tryz.prog 6 := ⟨_, _, Tryz.func6, by kernel_rfl, rfl⟩
theorem eO : Ent Tryz.prog 7 := ⟨_, _, Tryz.func7, by kernel_rfl, rfl⟩
theorem qg : Ent Tryz.prog 8 := ⟨_, _, Tryz.func8, by kernel_rfl, rfl⟩
theorem ent9 : Ent Tryz.prog 9 := ⟨_, _, Tryz.func9, by kernel_rfl, rfl⟩
theorem ent11 : Ent Tryz.prog 11 := ⟨_, _, Tryz.func11, by kernel_rfl, rfl⟩
theorem ru : Ent Tryz.prog 12 := ⟨_, _, Tryz.func12, by kernel_rfl, rfl⟩
theorem ent13 : Ent Tryz.prog 13 := ⟨_, _, Tryz.func13, by kernel_rfl, rfl⟩
theorem ent14 : Ent Tryz.prog 14 := ⟨_, _, Tryz.func14, by kernel_rfl, rfl⟩
theorem ent15 : Ent Tryz.prog 15 := ⟨_, _, Tryz.func15, by kernel_rfl, rfl⟩
theorem ent16 : Ent Tryz.prog 16 := ⟨_, _, Tryz.func16, by kernel_rfl, rfl⟩
theorem ent17 : Ent Tryz.prog 17 := ⟨_, _, Tryz.func17, by kernel_rfl, rfl⟩
theorem lX : Ent Tryz.prog 29 := ⟨_, _, Tryz.func29, by kernel_rfl, rfl⟩
theorem ent30 : Ent Tryz.prog 30 := ⟨_, _, Tryz.func30, by kernel_rfl, rfl⟩
theorem ent31 : Ent Tryz.prog 31 := ⟨_, _, Tryz.func31, by kernel_rfl, rfl⟩
theorem ent34 : Ent Tryz.prog 34 := ⟨_, _, Tryz.func34, by kernel_rfl, rfl⟩
theorem ent35 : Ent Tryz.prog 35 := ⟨_, _, Tryz.func35, by kernel_rfl, rfl⟩
theorem ent36 : Ent Tryz.prog 36 := ⟨_, _, Tryz.func36, by kernel_rfl, rfl⟩
theorem ent37 : Ent Tryz.prog 37 := ⟨_, _, Tryz.func37, by kernel_rfl, rfl⟩
theorem ent38 : Ent Tryz.prog 38 := ⟨_, _, Tryz.func38, by kernel_rfl, rfl⟩
theorem ent39 : Ent Tryz.prog 39 := ⟨_, _, Tryz.func39, by kernel_rfl, rfl⟩
theorem ent40 : Ent Tryz.prog 40 := ⟨_, _, Tryz.func40, by kernel_rfl, rfl⟩
theorem ent41 : Ent Tryz.prog 41 := ⟨_, _, Tryz.func41, by kernel_rfl, rfl⟩
theorem ent42 : Ent Tryz.prog 42 := ⟨_, _, Tryz.func42, by kernel_rfl, rfl⟩
theorem ent43 : Ent Tryz.prog 43 := ⟨_, _, Tryz.func43, by kernel_rfl, rfl⟩
theorem eP : Ent Tryz.prog 44 := ⟨_, _, Tryz.func44, by kernel_rfl, rfl⟩
theorem ent45 : Ent Tryz.prog 45 := ⟨_, _, Tryz.func45, by kernel_rfl, rfl⟩
theorem ent46 : Ent Tryz.prog 46 := ⟨_, _, Tryz.func46, by kernel_rfl, rfl⟩
theorem rv : Ent Tryz.prog 47 := ⟨_, _, Tryz.func47, by kernel_rfl, rfl⟩
theorem i6 : Ent Tryz.prog 48 := ⟨_, _, Tryz.func48, by kernel_rfl, rfl⟩
theorem iz : Ent Tryz.prog 49 := ⟨_, _, Tryz.func49, by kernel_rfl, rfl⟩
theorem ent82 : Ent Tryz.prog 82 := ⟨_, _, Tryz.func82, by kernel_rfl, rfl⟩
theorem i7 : Ent Tryz.prog 83 := ⟨_, _, Tryz.func83, by kernel_rfl, rfl⟩
theorem ent84 : Ent Tryz.prog 84 := ⟨_, _, Tryz.func84, by kernel_rfl, rfl⟩
theorem ent85 : Ent Tryz.prog 85 := ⟨_, _, Tryz.func85, by kernel_rfl, rfl⟩
theorem ry : Ent Tryz.prog 86 := ⟨_, _, Tryz.func86, by kernel_rfl, rfl⟩
theorem rz : Ent Tryz.prog 91 := ⟨_, _, Tryz.func91, by kernel_rfl, rfl⟩
theorem ent93 : Ent Tryz.prog 93 := ⟨_, _, Tryz.func93, by kernel_rfl, rfl⟩
theorem ent94 : Ent Tryz.prog 94 := ⟨_, _, Tryz.func94, by kernel_rfl, rfl⟩
theorem oJ : Ent Tryz.prog 95 := ⟨_, _, Tryz.func95, by kernel_rfl, rfl⟩
theorem i8 : Ent Tryz.prog 96 := ⟨_, _, Tryz.func96, by kernel_rfl, rfl⟩
theorem fF : Ent Tryz.prog 97 := ⟨_, _, Tryz.func97, by kernel_rfl, rfl⟩
theorem fG : Ent Tryz.prog 98 := ⟨_, _, Tryz.func98, by kernel_rfl, rfl⟩
theorem ent99 : Ent Tryz.prog 99 := ⟨_, _, Tryz.func99, by kernel_rfl, rfl⟩
theorem rA : Ent Tryz.prog 100 := ⟨_, _, Tryz.func100, by kernel_rfl, rfl⟩
theorem rB : Ent Tryz.prog 101 := ⟨_, _, Tryz.func101, by kernel_rfl, rfl⟩
theorem ent102 : Ent Tryz.prog 102 := ⟨_, _, Tryz.func102, by kernel_rfl, rfl⟩
theorem bL : Ent Tryz.prog 103 := ⟨_, _, Tryz.func103, by kernel_rfl, rfl⟩
theorem nA : Ent Tryz.prog 104 := ⟨_, _, Tryz.func104, by kernel_rfl, rfl⟩
theorem ent105 : Ent Tryz.prog 105 := ⟨_, _, Tryz.func105, by kernel_rfl, rfl⟩
theorem i9 : Ent Tryz.prog 106 := ⟨_, _, Tryz.func106, by kernel_rfl, rfl⟩
theorem ent107 : Ent Tryz.prog 107 := ⟨_, _, Tryz.func107, by kernel_rfl, rfl⟩
theorem ent144 : Ent Tryz.prog 144 := ⟨_, _, Tryz.func144, by kernel_rfl, rfl⟩
theorem ent153 : Ent Tryz.prog 153 := ⟨_, _, Tryz.func153, by kernel_rfl, rfl⟩
theorem ent154 : Ent Tryz.prog 154 := ⟨_, _, Tryz.func154, by kernel_rfl, rfl⟩
theorem rC : Ent Tryz.prog 155 := ⟨_, _, Tryz.func155, by kernel_rfl, rfl⟩
theorem ent158 : Ent Tryz.prog 158 := ⟨_, _, Tryz.func158, by kernel_rfl, rfl⟩
theorem kI : Ent Tryz.prog 159 := ⟨_, _, Tryz.func159, by kernel_rfl, rfl⟩
theorem ent160 : Ent Tryz.prog 160 := ⟨_, _, Tryz.func160, by kernel_rfl, rfl⟩
theorem ent161 : Ent Tryz.prog 161 := ⟨_, _, Tryz.func161, by kernel_rfl, rfl⟩
theorem rD : Ent Tryz.prog 162 := ⟨_, _, Tryz.func162, by kernel_rfl, rfl⟩
theorem ent163 : Ent Tryz.prog 163 := ⟨_, _, Tryz.func163, by kernel_rfl, rfl⟩
theorem ent164 : Ent Tryz.prog 164 := ⟨_, _, Tryz.func164, by kernel_rfl, rfl⟩
theorem rE : Ent Tryz.prog 165 := ⟨_, _, Tryz.func165, by kernel_rfl, rfl⟩
theorem ent166 : Ent Tryz.prog 166 := ⟨_, _, Tryz.func166, by kernel_rfl, rfl⟩
theorem ent168 : Ent Tryz.prog 168 := ⟨_, _, Tryz.func168, by kernel_rfl, rfl⟩
theorem ent191 : Ent Tryz.prog 191 := ⟨_, _, Tryz.func191, by kernel_rfl, rfl⟩
theorem ent214 : Ent Tryz.prog 214 := ⟨_, _, Tryz.func214, by kernel_rfl, rfl⟩
theorem ent215 : Ent Tryz.prog 215 := ⟨_, _, Tryz.func215, by kernel_rfl, rfl⟩
theorem ent217 : Ent Tryz.prog 217 := ⟨_, _, Tryz.func217, by kernel_rfl, rfl⟩
theorem ent248 : Ent Tryz.prog 248 := ⟨_, _, Tryz.func248, by kernel_rfl, rfl⟩
theorem ent249 : Ent Tryz.prog 249 := ⟨_, _, Tryz.func249, by kernel_rfl, rfl⟩
theorem ent255 : Ent Tryz.prog 255 := ⟨_, _, Tryz.func255, by kernel_rfl, rfl⟩
theorem dL : Ent Tryz.prog 256 := ⟨_, _, Tryz.func256, by kernel_rfl, rfl⟩
end Go.Proofs.YtdencdfdikmgbaaGreatDoor
