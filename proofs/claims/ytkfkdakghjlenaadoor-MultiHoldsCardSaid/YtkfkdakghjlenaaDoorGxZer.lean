/-
  Own text: noughts put behind a row of bytes; a slice's memory as an array.
-/
import Derived.Test.YtkfkdakghjlenaaDoorGxAny
import Derived.Lib.AppendZerosOnto
set_option linter.unusedSimpArgs false
set_option linter.unusedVariables false
namespace Go.Gx
open Go.RowKit
section
variable {P : Program} {Q : Exit → Act → World → Prop} {n : Nat} {e : Env} {w : World} {K : Env → World → Prop} {d : Nat} {rt : TypeId} {pos : String} {af : Array Edge} {gd : Option (Nat × Bool)}
end
section
variable {P : Program} {S : World → Prop} {n : Nat} {e : Env} {dst : Option Tmp} {rt : TypeId} {pos : String} {af : Array Edge} {gd : Option (Nat × Bool)}
theorem Sl.range {w : World} {F : Nat → Prop} {b o l c : Nat} {xs : List UInt8} (h : Sl w F u8v (some ⟨b, o, none⟩) l c xs) : w.rangeAt b o (xs.map u8v) := fun j v hv => by
  rcases h.rd with h1 | ⟨b', o', h1, _, h2⟩
  · rw [h1] at hv; simp at hv
  · cases h1; exact h2 j v hv
end
section
variable {P : Program} {Q : Exit → Act → World → Prop} {n : Nat} {e : Env} {w : World} {K : Env → World → Prop} {rt : TypeId} {pos : String} {af : Array Edge} {gd : Option (Nat × Bool)}
end
end Go.Gx
