/-
  Own text: plain: what a proof of one key says.
-/
import Derived.Test.YtkfkdakghjlenaaDoorPlEncs
set_option linter.unusedSimpArgs false
set_option linter.unusedVariables false
namespace Go.Plain
open Go.Gx
namespace Tr
end Tr
section
variable {e : Option Tr} {k a b u x v w : H8} {lf has ok is : Bool}
end
end Go.Plain
