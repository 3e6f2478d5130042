/-
  Own text: plain law of layer 4: what the kinds are hashed of. No program in sight.
-/
import Derived.Test.YtkfkdakghjlenaaDoorPlShaB
set_option linter.unusedSimpArgs false
set_option linter.unusedVariables false
namespace Go.Plain
open Go.Gx
def leafH (b : List UInt8) : List UInt8 := shaF (0 :: b)
def nodeH (a b : List UInt8) : List UInt8 := shaF (1 :: (a ++ b))
def keyH (k : List UInt8) : List UInt8 := shaF (2 :: k)
def itemH (k v : List UInt8) : List UInt8 := shaF (3 :: (k ++ v))
def forkH (bit : UInt8) (a b : List UInt8) : List UInt8 := shaF (4 :: bit :: (a ++ b))
def noneH : List UInt8 := shaF [5]
def valH (v : List UInt8) : List UInt8 := shaF (6 :: v)
def emptyH : List UInt8 := shaF []
theorem item_of (a b : List UInt8) : shaF ([3] ++ [a, b].flatten) = itemH a b := by simp [itemH]
theorem fork_of (x : UInt8) (a b : List UInt8) : shaF ([4] ++ [[x], a, b].flatten) = forkH x a b := by simp [forkH]
theorem none_of_ : shaF ([5] ++ ([] : List (List UInt8)).flatten) = noneH := rfl
theorem itemH_len (a b : List UInt8) : (itemH a b).length = 32 := shaF_len _
theorem forkH_len (x : UInt8) (a b : List UInt8) : (forkH x a b).length = 32 := shaF_len _
theorem noneH_len : noneH.length = 32 := shaF_len _
end Go.Plain
