/-
  Own text: plain law of layer 3, second part: a message's end byte by byte, the words out as bytes, the reference's formulas, digits. No program in sight.
-/
import Derived.Test.YtkfkdakghjlenaaDoorPlSha
set_option linter.unusedSimpArgs false
set_option linter.unusedVariables false
namespace Go.Plain
open Go.Gx
/-- A message with its 1 bit and j noughts. -/
def pz (m : List UInt8) (j : Nat) : List UInt8 := m ++ (128 : UInt8) :: List.replicate j 0
theorem pz_zero (m : List UInt8) : m ++ [128] = pz m 0 := rfl
theorem pz_len {m : List UInt8} {j : Nat} : (pz m j).length = m.length + 1 + j := by simp [pz]; omega
theorem pz_next {m : List UInt8} {j : Nat} : pz m j ++ [0] = pz m (j + 1) := by
  rw [pz, pz, List.append_assoc, List.cons_append, List.replicate_succ']
/-- With k bytes of its length. -/
def pq (m : List UInt8) (k : Nat) : List UInt8 := pz m (nz m.length) ++ (be8 (8 * m.length)).take k
theorem pq_zero (m : List UInt8) : pz m (nz m.length) = pq m 0 := by simp [pq]
theorem pq_len {m : List UInt8} {k : Nat} (h : k ≤ 8) : (pq m k).length = m.length + 1 + nz m.length + k := by
  rw [pq, List.length_append, pz_len, List.length_take]
  have : (be8 (8 * m.length)).length = 8 := rfl
  omega
theorem be8_get (n : Nat) {k : Nat} (h : k < 8) : (be8 n).getD k 0 = UInt8.ofNat (n / 2 ^ (56 - 8 * k)) := by
  match k, h with
  | 0, _ => rfl
  | 1, _ => rfl
  | 2, _ => rfl
  | 3, _ => rfl
  | 4, _ => rfl
  | 5, _ => rfl
  | 6, _ => rfl
  | 7, _ => rfl
theorem take_getD {α : Type} {l : List α} {k : Nat} (d : α) (h : k < l.length) : l.take k ++ [l.getD k d] = l.take (k + 1) := by
  rw [List.take_succ_eq_append_getElem h]
  simp [List.getD, List.getElem?_eq_getElem h]
theorem pq_next {m : List UInt8} {k : Nat} (h : k < 8) : pq m k ++ [UInt8.ofNat (8 * m.length / 2 ^ (56 - 8 * k))] = pq m (k + 1) := by
  rw [pq, pq, List.append_assoc, ← be8_get _ h, take_getD 0 h]
theorem pq_all (m : List UInt8) : pq m 8 = pad m := by
  rw [pq, pad, pz, List.take_of_length_le (show (be8 (8 * m.length)).length ≤ 8 from Nat.le_refl _)]
/-- The words out so far, and noughts behind. -/
def outN (h : List W32) (i : Nat) : List UInt8 := outB (h.take i) ++ List.replicate (32 - 4 * i) 0
theorem outN_zero (h : List W32) : outN h 0 = List.replicate 32 0 := rfl
theorem outN_all {h : List W32} (hh : h.length = 8) : outN h 8 = outB h := by
  rw [outN, List.take_of_length_le (by omega)]; simp
theorem outN_len {h : List W32} (hh : h.length = 8) {i : Nat} (hi : i ≤ 8) : (outN h i).length = 32 := by
  rw [outN, List.length_append, outB_len, List.length_take, List.length_replicate]; omega
theorem set4 {x : List UInt8} {n p : Nat} (hx : x.length = p) (a b c d : UInt8) (hn : 4 ≤ n) : ((((x ++ List.replicate n 0).set p a).set (p + 1) b).set (p + 2) c).set (p + 3) d = x ++ [a, b, c, d] ++ List.replicate (n - 4) 0 := by
  subst hx
  obtain ⟨k, rfl⟩ := Nat.exists_eq_add_of_le hn
  rw [show 4 + k - 4 = k by omega, show 4 + k = k + 1 + 1 + 1 + 1 by omega]
  simp [List.set_append_right, List.replicate_succ]
theorem outN_next {h : List W32} (hh : h.length = 8) {i : Nat} (hi : i < 8) : ((((outN h i).set (4 * i) (b8 (h.getD i 0#32) 24)).set (4 * i + 1) (b8 (h.getD i 0#32) 16)).set (4 * i + 2) (b8 (h.getD i 0#32) 8)).set (4 * i + 3) (UInt8.ofNat (h.getD i 0#32).toNat) = outN h (i + 1) := by
  rw [outN, set4 (by rw [outB_len, List.length_take]; omega) _ _ _ _ (by omega), outN, ← take_getD 0#32 (by omega)]
  have e : outB (h.take i ++ [h.getD i 0#32]) = outB (h.take i) ++ be4 (h.getD i 0#32) := by simp [outB]
  rw [e, show 32 - 4 * (i + 1) = 32 - 4 * i - 4 by omega, be4, show b8 (h.getD i 0#32) 0 = UInt8.ofNat (h.getD i 0#32).toNat by simp [b8]]
theorem shl3 {n : Nat} (h : n ≤ 4398046511104) : IntKind.u64.wrap ((n : Int) * 2 ^ (min ((3 : Int)).toNat IntKind.u64.bits)) = ((8 * n : Nat) : Int) := by
  rw [show min ((3 : Int)).toNat IntKind.u64.bits = 3 from rfl, wu64 (by omega)]; omega
/-! ### The reference's formulas -/
theorem ch_ref (x y z : W32) : (x &&& y) ^^^ (~~~x &&& z) = ch x y z := by
  apply BitVec.eq_of_getLsbD_eq
  intro i hi
  simp only [ch, BitVec.getLsbD_xor, BitVec.getLsbD_and, BitVec.getLsbD_not, hi, decide_true, Bool.true_and]
  cases x.getLsbD i <;> cases y.getLsbD i <;> cases z.getLsbD i <;> rfl
theorem maj_ref (x y z : W32) : (x &&& y) ^^^ (x &&& z) ^^^ (y &&& z) = maj x y z := by
  apply BitVec.eq_of_getLsbD_eq
  intro i hi
  simp only [maj, BitVec.getLsbD_xor, BitVec.getLsbD_and, BitVec.getLsbD_or]
  cases x.getLsbD i <;> cases y.getLsbD i <;> cases z.getLsbD i <;> rfl
/-! ### Digits -/
def dgt (x : Nat) : UInt8 := if x < 10 then UInt8.ofNat (48 + x) else UInt8.ofNat (87 + x)
/-- A hash's digits. -/
def hexF (h : List UInt8) : List UInt8 := (h.map fun x => [dgt (x.toNat / 16), dgt (x.toNat % 16)]).flatten
/-- A digit's number; none: it is none. -/
def ung (c : UInt8) : Option Nat := if 48 ≤ c.toNat ∧ c.toNat ≤ 57 then some (c.toNat - 48) else if 97 ≤ c.toNat ∧ c.toNat ≤ 102 then some (c.toNat - 87) else none
/-- The bytes that digits say. -/
def unhex : List UInt8 → Option (List UInt8)
  | [] => some []
  | [_] => none
  | a :: b :: r => match ung a, ung b, unhex r with
    | some x, some y, some l => some (UInt8.ofNat (16 * x + y) :: l)
    | _, _, _ => none
def digs : ByteArray := ⟨#[48, 49, 50, 51, 52, 53, 54, 55, 56, 57, 97, 98, 99, 100, 101, 102]⟩
/-- The digit's number, as a number with a sign. -/
def ungI (c : UInt8) : Int := match ung c with | some x => (x : Int) | none => -1
/-- The hash that a text's digits say. -/
def parF (s : List UInt8) : Option (List UInt8) := if s.length = 64 then unhex s else none
def parD (s : List UInt8) : List UInt8 := (parF s).getD (List.replicate 32 0)
def parO (s : List UInt8) : Bool := (parF s).isSome
end Go.Plain
