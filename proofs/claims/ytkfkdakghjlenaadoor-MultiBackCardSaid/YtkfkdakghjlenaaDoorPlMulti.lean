/-
  Own text: plain: ways and proofs of keys: of one, of many; what they lead to, what they say of a key.
-/
import Derived.Test.YtkfkdakghjlenaaDoorPlTrieW
set_option linter.unusedSimpArgs false
set_option linter.unusedVariables false
namespace Go.Plain
open Go.Gx
/-! ### One key -/
structure Stp where
  bit : Int
  side : H8
namespace Tr
/-- The way down to where a key would be. -/
def way : Tr → H8 → List Stp
  | leaf _ _, _ => []
  | fork b x y, k => if bitN k b = 0 then ⟨(b : Int), y.root⟩ :: x.way k else ⟨(b : Int), x.root⟩ :: y.way k
end Tr
/-- Bits rise from last on, and are of a key. -/
def goodS : Int → List Stp → Bool
  | _, [] => true
  | last, s :: r => !(decide (s.bit ≤ last) || decide (255 < s.bit)) && goodS s.bit r
/-- Up along a way: none where the keys part. -/
def climbS (k key h0 : H8) : List Stp → Option H8
  | [] => some h0
  | s :: r => match climbS k key h0 r with
    | none => none
    | some h => if bitI k s.bit = bitI key s.bit then some (if bitI k s.bit = 0 then forkH (b8i s.bit) h s.side else forkH (b8i s.bit) s.side h) else none
structure Prf where
  steps : List Stp
  leaf : Bool
  key : H8
  val : H8
def Prf.good (p : Prf) : Bool := goodS (-1) p.steps && (p.leaf || (decide (p.steps = [] ∧ p.key = zeroH ∧ p.val = zeroH)))
instance : DecidableEq Stp := fun a b => by
  cases a; cases b
  rename_i x1 y1 x2 y2
  exact if h : x1 = x2 ∧ y1 = y2 then isTrue (by rw [h.1, h.2]) else isFalse (fun e => h (by injection e with e1 e2; exact ⟨e1, e2⟩))
def Prf.goodE (st : List Stp) (lf : Bool) (pk pv : H8) : Bool := Prf.good ⟨st, lf, pk, pv⟩
/-- What a proof leads to. -/
def climbP (k : H8) (st : List Stp) (lf : Bool) (pk pv : H8) : Option H8 := if Prf.goodE st lf pk pv = false then none else if lf = false then some noneH else climbS k pk (itemH pk pv) st
section
variable {k pk h0 h : H8} {st : List Stp} {y : Stp}
end
/-- What a proof says of a key under a root. -/
def checkP (r k : H8) (st : List Stp) (lf : Bool) (pk pv : H8) : H8 × Bool × Bool :=
  if (climbP k st lf pk pv).isSome = false ∨ (climbP k st lf pk pv).getD zeroH ≠ r then (zeroH, false, false) else if lf = true ∧ pk = k then (pv, true, true) else (zeroH, false, true)
section
variable {r k cu pk pv : H8} {st : List Stp} {lf cok : Bool} (hc : (cu, cok) = ((climbP k st lf pk pv).getD zeroH, (climbP k st lf pk pv).isSome))
include hc
end
end Go.Plain
