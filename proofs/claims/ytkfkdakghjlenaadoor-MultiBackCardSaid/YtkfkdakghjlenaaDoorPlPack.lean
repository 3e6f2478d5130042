/-
  Own text: plain law of layer 1: numbers as bytes. No program in sight.
-/
import Derived.Test.YtkfkdakghjlenaaDoorGxAux
set_option linter.unusedSimpArgs false
set_option linter.unusedVariables false
namespace Go.Plain
open Go.Gx
/-- The bytes of a number, greatest first, none for 0. -/
def be (x : Nat) : List UInt8 := if h : x = 0 then [] else be (x / 256) ++ [UInt8.ofNat x]
termination_by x
/-- A number as bytes. -/
def encN (x : Nat) : List UInt8 := if x < 248 then [UInt8.ofNat x] else UInt8.ofNat (247 + (be x).length) :: be x
/-- The number that bytes are, greatest first. -/
def val (l : List UInt8) : Nat := l.foldl (fun n x => n * 256 + x.toNat) 0
/-- What bytes begin with, as a number: the number, and how many bytes it takes. -/
def gn (b : List UInt8) : Option (Nat × Nat) :=
  if b.length = 0 then none
  else if (b.getD 0 0).toNat < 248 then some ((b.getD 0 0).toNat, 1)
  else if b.length ≤ (b.getD 0 0).toNat - 247 ∨ (b.getD 1 0).toNat = 0 then none
  else if val ((b.drop 1).take ((b.getD 0 0).toNat - 247)) < 248 then none
  else some (val ((b.drop 1).take ((b.getD 0 0).toNat - 247)), 1 + ((b.getD 0 0).toNat - 247))
def gnv (b : List UInt8) : Nat := ((gn b).getD (0, 0)).1
def gnk (b : List UInt8) : Nat := ((gn b).getD (0, 0)).2
def gno (b : List UInt8) : Bool := (gn b).isSome
/-- A text as bytes; texts as bytes. -/
def encS (s : ByteArray) : List UInt8 := encN s.size ++ s.data.toList
/-- The first k of q, behind how many there are. -/
def encP (q : List ByteArray) (k : Nat) : List UInt8 := encN q.length ++ ((q.take k).map encS).flatten
def encL (q : List ByteArray) : List UInt8 := encP q q.length
/-- A bound of how many bytes texts take. -/
def lstSz (q : List ByteArray) : Nat := 9 + (q.map fun s => s.size + 9).sum
/-- The text that bytes begin with: its bytes, and where it ends. -/
def gs (b : List UInt8) (most : Int) : Option (List UInt8 × Nat) :=
  match gn b with
  | none => none
  | some (n, k) => if most.toNat < n ∨ b.length - k < n then none else some ((b.drop k).take n, k + n)
def gss (b : List UInt8) (most : Int) : ByteArray := ⟨(((gs b most).getD ([], 0)).1).toArray⟩
def gsk (b : List UInt8) (most : Int) : Nat := ((gs b most).getD ([], 0)).2
def gso (b : List UInt8) (most : Int) : Bool := (gs b most).isSome
/-- The truth that bytes begin with. -/
def gfo (b : List UInt8) : Bool := decide (0 < b.length) && decide ((b.getD 0 0).toNat ≤ 1)
def gfv (b : List UInt8) : Bool := gfo b && decide ((b.getD 0 0).toNat = 1)
def gfk (b : List UInt8) : Nat := if gfo b then 1 else 0
/-- The first k texts behind place a. -/
def glk (b : List UInt8) (most : Int) (a : Nat) : Nat → Option (List ByteArray × Nat)
  | 0 => some ([], a)
  | k + 1 => match glk b most a k with
    | none => none
    | some (l, i) => match gs (b.drop i) most with
      | none => none
      | some (s, j) => some (l ++ [⟨s.toArray⟩], i + j)
def gl (b : List UInt8) (count most : Int) : Option (List ByteArray × Nat) :=
  match gn b with
  | none => none
  | some (n, k) => if count.toNat < n then none else glk b most k n

theorem getD_mem {l : List ByteArray} {k : Nat} {d : ByteArray} (h : k < l.length) : l.getD k d ∈ l := by
  simp [List.getD, List.getElem?_eq_getElem h]
/-- How many bytes texts have together. -/
def tot (q : List ByteArray) : Nat := (q.map (·.size)).sum
def lightB (q : List ByteArray) : Bool := decide (q.length ≤ 300) && decide (q.length + tot q ≤ 4000)
def glL (b : List UInt8) (count most : Int) : List ByteArray := ((gl b count most).getD ([], 0)).1
def glK (b : List UInt8) (count most : Int) : Nat := ((gl b count most).getD ([], 0)).2
def glO (b : List UInt8) (count most : Int) : Bool := (gl b count most).isSome
end Go.Plain
