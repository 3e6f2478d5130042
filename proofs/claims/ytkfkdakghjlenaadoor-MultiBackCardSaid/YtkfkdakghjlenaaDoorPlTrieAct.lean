/-
  Own text: plain: tries made by acts, and what the laws of layer 11 say of them.
-/
import Derived.Test.YtkfkdakghjlenaaDoorPlEncs
import Derived.KernelRfl
set_option linter.unusedSimpArgs false
set_option linter.unusedVariables false
namespace Go.Gx
open Go.Plain
/-! ### How many -/
section
variable {o s : Option Tr} {k v : H8}
/-! ### Acts -/
def actT (o : Option Tr) (a : AC) : Option Tr := if a.dr = true then dropT o a.k else putT o a.k a.v
def mkA (l : List AC) : Option Tr := l.foldl actT none
/-! ### Puts in any order; puts and their taking back -/
def putsI (o : Option Tr) (m : List (H8 × H8)) : Option Tr := m.foldl (fun o x => putT o x.1 x.2) o
def putsA (o : Option Tr) (l : List AC) : Option Tr := l.foldl (fun o x => putT o x.k x.v) o
def backA (t : Option Tr) (o : Option Tr) (l : List AC) : Option Tr := l.foldl (fun o x => match getT t x.k with | some v => putT o x.k v | none => dropT o x.k) o
end
end Go.Gx
