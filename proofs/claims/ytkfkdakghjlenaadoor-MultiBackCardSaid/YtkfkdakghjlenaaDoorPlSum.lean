/-
  Own text: plain law of layer 2: remainders of 32 bits: a step is linear, products, sums of bytes. No program in sight.
-/
import Derived.Test.YtkfkdakghjlenaaDoorGxAux
import Derived.Test.YtkfkdakghjlenaaDoorPlPackB
set_option linter.unusedSimpArgs false
set_option linter.unusedVariables false
namespace Go.Plain
open Go.Gx
abbrev W32 := BitVec 32
def poly : W32 := 0x82f63b78#32
def stp (s : W32) : W32 := if s.getLsbD 0 then s >>> 1 ^^^ poly else s >>> 1
theorem stp_zero : stp 0#32 = 0#32 := by decide
theorem stp_xor (a b : W32) : stp (a ^^^ b) = stp a ^^^ stp b := by
  unfold stp
  rw [BitVec.getLsbD_xor, BitVec.ushiftRight_xor_distrib]
  cases a.getLsbD 0 <;> cases b.getLsbD 0 <;> simp only [Bool.xor_false, Bool.xor_true, Bool.not_false, Bool.not_true, if_true, if_false, Bool.false_eq_true]
  · ac_rfl
  · ac_rfl
  · rw [show a >>> 1 ^^^ poly ^^^ (b >>> 1 ^^^ poly) = a >>> 1 ^^^ b >>> 1 ^^^ (poly ^^^ poly) by ac_rfl, BitVec.xor_self, BitVec.xor_zero]
/-- i steps. -/
def pw : Nat → W32 → W32
  | 0, b => b
  | i + 1, b => stp (pw i b)
theorem pw_xor (i : Nat) (a b : W32) : pw i (a ^^^ b) = pw i a ^^^ pw i b := by
  induction i with
  | zero => rfl
  | succ i ih => rw [pw, ih, stp_xor]; rfl
theorem pw_zero (i : Nat) : pw i 0#32 = 0#32 := by
  induction i with
  | zero => rfl
  | succ i ih => rw [pw, ih, stp_zero]
theorem pw_add (i j : Nat) (b : W32) : pw (i + j) b = pw i (pw j b) := by
  induction i with
  | zero => rw [Nat.zero_add]; rfl
  | succ i ih => rw [show i + 1 + j = (i + j) + 1 by omega, pw, ih]; rfl
theorem pw_comm (i j : Nat) (b : W32) : pw i (pw j b) = pw j (pw i b) := by rw [← pw_add, ← pw_add, Nat.add_comm]
/-- The first i of a product's summands. -/
def tm (a b : W32) (i : Nat) : W32 := if a.getLsbD (31 - i) then pw i b else 0#32
def acc (a b : W32) : Nat → W32
  | 0 => 0#32
  | i + 1 => acc a b i ^^^ tm a b i
def mul (a b : W32) : W32 := acc a b 32
theorem acc_lin {T : W32 → W32} (hx : ∀ a b, T (a ^^^ b) = T a ^^^ T b) (h0 : T 0#32 = 0#32) (hp : ∀ k b, T (pw k b) = pw k (T b)) (a b : W32) (i : Nat) : T (acc a b i) = acc a (T b) i := by
  induction i with
  | zero => exact h0
  | succ i ih =>
    rw [acc, hx, ih, acc, tm, tm]
    split
    · rw [hp]
    · rw [h0]
theorem acc_xor (a b c : W32) (i : Nat) : acc a (b ^^^ c) i = acc a b i ^^^ acc a c i := by
  induction i with
  | zero => simp [acc]
  | succ i ih =>
    rw [acc, ih, acc, acc, tm, tm, tm]
    split
    · rw [pw_xor]; ac_rfl
    · simp
theorem acc_zero (a : W32) (i : Nat) : acc a 0#32 i = 0#32 := by
  induction i with
  | zero => rfl
  | succ i ih => rw [acc, ih, tm, pw_zero]; split <;> rfl
theorem mul_xor (a b c : W32) : mul a (b ^^^ c) = mul a b ^^^ mul a c := acc_xor a b c 32
theorem mul_pw (a b : W32) (k : Nat) : mul a (pw k b) = pw k (mul a b) := (acc_lin (T := pw k) (pw_xor k) (pw_zero k) (fun j b => pw_comm k j b) a b 32).symm
def e0 : W32 := 0x80000000#32
theorem pw_e0 : ∀ i : Fin 32, pw i.val e0 = e0 >>> i.val := by decide +kernel
theorem e0_bit (i j : Nat) (hi : i < 32) (hj : j < 32) : (e0 >>> i).getLsbD j = decide (j = 31 - i) := by
  have key : ∀ i j : Fin 32, (e0 >>> i.val).getLsbD j.val = decide (j.val = 31 - i.val) := by decide +kernel
  exact key ⟨i, hi⟩ ⟨j, hj⟩
theorem acc_e0 (a : W32) (i : Nat) (hi : i ≤ 32) (j : Nat) (hj : j < 32) : (acc a e0 i).getLsbD j = (a.getLsbD j && decide (31 < j + i)) := by
  induction i with
  | zero => rw [acc, decide_eq_false (by omega), Bool.and_false]; simp
  | succ i ih =>
    rw [acc, BitVec.getLsbD_xor, ih (by omega), tm, pw_e0 ⟨i, by omega⟩]
    by_cases hji : j = 31 - i
    · subst hji
      rw [decide_eq_false (by omega), Bool.and_false, decide_eq_true (p := 31 < 31 - i + (i + 1)) (by omega), Bool.and_true]
      cases ha : a.getLsbD (31 - i) with
      | true => simp only [if_true]; rw [e0_bit i (31 - i) (by omega) hj, decide_eq_true rfl]; rfl
      | false => simp
    · have h2 : (if a.getLsbD (31 - i) = true then e0 >>> i else 0#32).getLsbD j = false := by
        split
        · rw [e0_bit i j (by omega) hj, decide_eq_false hji]
        · simp
      rw [h2, Bool.xor_false]
      congr 1
      exact decide_eq_decide.2 (by omega)
theorem mul_e0 (a : W32) : mul a e0 = a := by
  apply BitVec.eq_of_getLsbD_eq
  intro j hj
  rw [mul, acc_e0 a 32 (Nat.le_refl _) j hj, decide_eq_true (by omega), Bool.and_true]
theorem mul_zero (a : W32) : mul a 0#32 = 0#32 := acc_zero a 32
theorem mul_comm (a b : W32) : mul a b = mul b a := by
  have h := acc_lin (T := mul a) (mul_xor a) (mul_zero a) (fun k b => mul_pw a b k) b e0 32
  have h1 : acc b e0 32 = b := mul_e0 b
  rw [h1, mul_e0] at h
  exact h
theorem mul_assoc (a b c : W32) : mul (mul a b) c = mul a (mul b c) := by
  have h := acc_lin (T := mul a) (mul_xor a) (mul_zero a) (fun k b => mul_pw a b k) c b 32
  have h1 : mul (mul a b) c = mul c (mul a b) := mul_comm _ _
  have h2 : mul b c = mul c b := mul_comm _ _
  rw [h1, h2]
  exact h.symm
/-! ### Four steps by a table -/
def nib : List W32 := [0x00000000#32, 0x105ec76f#32, 0x20bd8ede#32, 0x30e349b1#32, 0x417b1dbc#32, 0x5125dad3#32, 0x61c69362#32, 0x7198540d#32, 0x82f63b78#32, 0x92a8fc17#32, 0xa24bb5a6#32, 0xb21572c9#32, 0xc38d26c4#32, 0xd3d3e1ab#32, 0xe330a81a#32, 0xf36e6f75#32]
theorem pw4_low : ∀ k : Fin 16, pw 4 (BitVec.ofNat 32 k.val) = nib.getD k.val 0#32 := by decide +kernel
theorem stp_even {s : W32} (h : s.getLsbD 0 = false) : stp s = s >>> 1 := by rw [stp, h]; rfl
def himask : W32 := 0xfffffff0#32
theorem himask_bit {j : Nat} (hj : j < 32) : himask.getLsbD j = decide (4 ≤ j) := by
  have key : ∀ j : Fin 32, himask.getLsbD j.val = decide (4 ≤ j.val) := by decide +kernel
  exact key ⟨j, hj⟩
theorem lomask_bit {j : Nat} (hj : j < 32) : (15#32).getLsbD j = decide (j < 4) := by
  have key : ∀ j : Fin 32, (15#32).getLsbD j.val = decide (j.val < 4) := by decide +kernel
  exact key ⟨j, hj⟩
theorem split4 (s : W32) : (s &&& himask) ^^^ (s &&& 15#32) = s := by
  apply BitVec.eq_of_getLsbD_eq
  intro j hj
  rw [BitVec.getLsbD_xor, BitVec.getLsbD_and, BitVec.getLsbD_and, himask_bit hj, lomask_bit hj]
  by_cases h : 4 ≤ j
  · rw [decide_eq_true h, decide_eq_false (by omega)]; simp
  · rw [decide_eq_false h, decide_eq_true (by omega)]; simp
theorem hi_bit (s : W32) (j : Nat) (hj : j < 4) : (s &&& himask).getLsbD j = false := by
  rw [BitVec.getLsbD_and, himask_bit (by omega), decide_eq_false (by omega), Bool.and_false]
theorem pw4_hi (s : W32) : pw 4 (s &&& himask) = s >>> 4 := by
  have h : pw 4 (s &&& himask) = (s &&& himask) >>> 4 := by
    have h1 : pw 1 (s &&& himask) = (s &&& himask) >>> 1 := stp_even (hi_bit s 0 (by omega))
    have h2 : pw 2 (s &&& himask) = (s &&& himask) >>> 1 >>> 1 := by
      rw [pw, h1, stp_even (by rw [BitVec.getLsbD_ushiftRight]; exact hi_bit s 1 (by omega))]
    have h3 : pw 3 (s &&& himask) = (s &&& himask) >>> 1 >>> 1 >>> 1 := by
      rw [pw, h2, stp_even (by rw [BitVec.getLsbD_ushiftRight, BitVec.getLsbD_ushiftRight]; exact hi_bit s 2 (by omega))]
    rw [pw, h3, stp_even (by rw [BitVec.getLsbD_ushiftRight, BitVec.getLsbD_ushiftRight, BitVec.getLsbD_ushiftRight]; exact hi_bit s 3 (by omega)), ← BitVec.shiftRight_add, ← BitVec.shiftRight_add, ← BitVec.shiftRight_add]
  rw [h]
  apply BitVec.eq_of_getLsbD_eq
  intro j hj
  rw [BitVec.getLsbD_ushiftRight, BitVec.getLsbD_ushiftRight, BitVec.getLsbD_and]
  by_cases h4 : 4 + j < 32
  · rw [himask_bit h4, decide_eq_true (by omega), Bool.and_true]
  · rw [BitVec.getLsbD_of_ge s (4 + j) (by omega), Bool.false_and]
theorem low_lt (s : W32) : (s &&& 15#32).toNat < 16 := by
  rw [BitVec.toNat_and]
  have : s.toNat &&& (15#32).toNat ≤ (15#32).toNat := Nat.and_le_right
  have h2 : (15#32).toNat = 15 := rfl
  omega
theorem four (s : W32) : s >>> 4 ^^^ nib.getD (s &&& 15#32).toNat 0#32 = pw 4 s := by
  have h := pw4_low ⟨_, low_lt s⟩
  simp only [BitVec.ofNat_toNat, BitVec.setWidth_eq] at h
  conv => rhs; rw [← split4 s, pw_xor, pw4_hi, h]
/-! ### Sums of bytes -/
def upd (s : W32) (x : UInt8) : W32 := pw 8 (s ^^^ BitVec.ofNat 32 x.toNat)
def crcF (s : W32) (b : List UInt8) : W32 := b.foldl upd s
def crcAdd (s : W32) (b : List UInt8) : W32 := ~~~ crcF (~~~ s) b
def crc (b : List UInt8) : W32 := crcAdd 0#32 b
theorem eight (s : W32) (x : UInt8) : upd s x = ((s ^^^ BitVec.ofNat 32 x.toNat) >>> 4 ^^^ nib.getD ((s ^^^ BitVec.ofNat 32 x.toNat) &&& 15#32).toNat 0#32) >>> 4 ^^^ nib.getD (((s ^^^ BitVec.ofNat 32 x.toNat) >>> 4 ^^^ nib.getD ((s ^^^ BitVec.ofNat 32 x.toNat) &&& 15#32).toNat 0#32) &&& 15#32).toNat 0#32 := by
  rw [four, four, upd, ← pw_add]
/-! ### Joining: what holds at a round's head -/
def JoinI (n n2 q : Nat) (x : W32) : Prop := n2 * 2 ^ q ≤ n ∧ n - n2 * 2 ^ q < 2 ^ q ∧ x = pw (8 * (n - n2 * 2 ^ q)) e0
/-! ### Frames -/
def b8 (s : W32) (k : Nat) : UInt8 := UInt8.ofNat (s >>> k).toNat
def be4 (s : W32) : List UInt8 := [b8 s 24, b8 s 16, b8 s 8, b8 s 0]
def frame (b : List UInt8) : List UInt8 := if 8192 < b.length then [] else (encN b.length ++ b) ++ be4 (crc (encN b.length ++ b))
end Go.Plain
