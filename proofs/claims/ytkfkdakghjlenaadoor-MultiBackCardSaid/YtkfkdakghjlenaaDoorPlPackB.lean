/-
  Own text: plain law of layer 1: what is written is read again; what is read is written again; order. No program in sight.
-/
import Derived.Test.YtkfkdakghjlenaaDoorPlPack
set_option linter.unusedSimpArgs false
set_option linter.unusedVariables false
namespace Go.Plain
open Go.Gx
theorem ofNat_toNat (x : UInt8) : UInt8.ofNat x.toNat = x := by simp
/-! ### Order -/
/-! ### What a reading is, written again -/
end Go.Plain
namespace Go.Plain
open Go.Gx
end Go.Plain
namespace Go.Plain
open Go.Gx
end Go.Plain
namespace Go.Plain
open Go.Gx
end Go.Plain
