/-
  Own text: a function value that is compared with nil.
-/
import Derived.Test.YtkfkdakghjlenaaDoorGxAgg
set_option linter.unusedSimpArgs false
set_option linter.unusedVariables false
namespace Go.Gx
open Go.RowKit
section
variable {P : Program} {S : World → Prop} {n : Nat} {e : Env} {dst : Option Tmp} {rt : TypeId} {pos : String} {af : Array Edge} {gd : Option (Nat × Bool)}
theorem p_eqFN {t t' : TypeId} {ps rs : Array TypeId} {vr : Bool} {x y : Operand} {f : Fn} {as bs : Array Value} (hx : ev e x = some (.func f as bs)) (hy : ev e y = some .nilFunc) (ht : P.underlying t = some (.func ps rs vr)) : Pu P S n ⟨dst, .binOp .eql t x y t', rt, pos, af, gd⟩ e (.bool false) := fun a F w _ => by
  have h : ∀ k, (Op.equalIn (k + 1) t (.func f as bs) .nilFunc).run P w = .ok false w := fun k => by simp [Op.equalIn, run_underlying ht]
  have h2 : (Op.equal t (.func f as bs) .nilFunc).run P w = .ok false w := h 9999
  simp [execOp, F.ev hx, F.ev hy, binOp, eqGuard, h2]
end
end Go.Gx
