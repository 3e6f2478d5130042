/-
  Own text: plain: the bits of a key, and where two keys differ.
-/
import Derived.Test.YtkfkdakghjlenaaDoorPlPack
set_option linter.unusedSimpArgs false
set_option linter.unusedVariables false
namespace Go.Plain
/-- Bit j of a byte, the greatest first. -/
def bit8 (x : UInt8) (j : Nat) : Nat := x.toNat / 2 ^ (7 - j) % 2
def bitN (k : List UInt8) (i : Nat) : Nat := if i < 256 then bit8 (k.getD (i / 8) 0) (i % 8) else 0
def bitI (k : List UInt8) (i : Int) : Nat := if i < 0 then 0 else bitN k i.toNat
theorem bit8_lt (x : UInt8) (j : Nat) : bit8 x j < 2 := Nat.mod_lt _ (by omega)
theorem bitN_lt (k : List UInt8) (i : Nat) : bitN k i < 2 := by unfold bitN; split; exact bit8_lt _ _; omega
theorem bitI_nat (k : List UInt8) (i : Nat) : bitI k (i : Int) = bitN k i := by rw [bitI, if_neg (by omega), Int.toNat_natCast]
theorem bitI_out {k : List UInt8} {i : Int} (h : i < 0 ∨ 256 ≤ i) : bitI k i = 0 := by
  unfold bitI bitN
  split
  · rfl
  · rw [if_neg (by omega)]
theorem bitI_in {k : List UInt8} {n : Nat} (h : n < 256) : bitI k (n : Int) = bit8 (k.getD (n / 8) 0) (n % 8) := by rw [bitI_nat, bitN, if_pos h]
/-- The first bit from i on in which two keys differ; m are looked at. -/
def apF (a b : List UInt8) : Nat → Nat → Nat
  | 0, i => i
  | m + 1, i => if bitN a i ≠ bitN b i then i else apF a b m (i + 1)
def apartK (a b : List UInt8) : Nat := apF a b 256 0
section
variable {a b : List UInt8}
theorem apF_le : ∀ {m i : Nat}, i ≤ apF a b m i ∧ apF a b m i ≤ i + m
  | 0, i => ⟨Nat.le_refl _, Nat.le_refl _⟩
  | m + 1, i => by
    rw [apF]; split
    · omega
    · have := apF_le (m := m) (i := i + 1); omega
theorem apartK_le : apartK a b ≤ 256 := by have := apF_le (a := a) (b := b) (m := 256) (i := 0); unfold apartK; omega
theorem apF_eq : ∀ {m i k : Nat}, i ≤ k → k < apF a b m i → bitN a k = bitN b k
  | 0, i, k, h1, h2 => by rw [apF] at h2; omega
  | m + 1, i, k, h1, h2 => by
    rw [apF] at h2
    split at h2
    · omega
    · rename_i h
      rcases Nat.eq_or_lt_of_le h1 with e | e
      · subst e; exact Decidable.not_not.1 h
      · exact apF_eq (m := m) (i := i + 1) e h2
theorem apartK_same {k : Nat} (h : k < apartK a b) : bitN a k = bitN b k := apF_eq (Nat.zero_le _) h
theorem apF_ne : ∀ {m i : Nat}, apF a b m i < i + m → bitN a (apF a b m i) ≠ bitN b (apF a b m i)
  | 0, i, h => by rw [apF] at h; omega
  | m + 1, i, h => by
    rw [apF] at h ⊢
    split
    · assumption
    · rename_i hh
      rw [if_neg hh] at h
      exact apF_ne (m := m) (i := i + 1) (by omega)
theorem apartK_ne (h : apartK a b < 256) : bitN a (apartK a b) ≠ bitN b (apartK a b) := apF_ne (by simpa [apartK] using h)
theorem apartK_is {n : Nat} (hn : n ≤ 256) (h1 : ∀ k, k < n → bitN a k = bitN b k) (h2 : n < 256 → bitN a n ≠ bitN b n) : apartK a b = n := by
  rcases Nat.lt_trichotomy (apartK a b) n with h | h | h
  · exact absurd (h1 _ h) (apartK_ne (by omega))
  · exact h
  · exact absurd (apartK_same h) (h2 (by have := apartK_le (a := a) (b := b); omega))
end
/-! ### By bytes -/
def lenT : List UInt8 := (List.range 256).map fun x => UInt8.ofNat (if x = 0 then 0 else Nat.log2 x + 1)
def lz8 (x : UInt8) : Nat := 8 - (lenT.getD x.toNat 0).toNat
theorem lenT_le (x : UInt8) : (lenT.getD x.toNat 0).toNat ≤ 8 := by
  have : ∀ n : Fin 256, (lenT.getD n.val 0).toNat ≤ 8 := by decide +kernel
  exact this ⟨x.toNat, x.toNat_lt⟩
theorem lz8_first : ∀ x : Fin 256, x.val ≠ 0 → lz8 (UInt8.ofNat x.val) < 8 ∧ bit8 (UInt8.ofNat x.val) (lz8 (UInt8.ofNat x.val)) = 1 ∧ ∀ j : Fin 8, j.val < lz8 (UInt8.ofNat x.val) → bit8 (UInt8.ofNat x.val) j.val = 0 := by decide +kernel
theorem lz8_of {x : UInt8} (h : x ≠ 0) : lz8 x < 8 ∧ bit8 x (lz8 x) = 1 ∧ ∀ j, j < lz8 x → bit8 x j = 0 := by
  have h0 : x.toNat ≠ 0 := fun e => h (UInt8.toNat_inj.1 (by rw [e]; rfl))
  obtain ⟨h1, h2, h3⟩ := lz8_first ⟨x.toNat, x.toNat_lt⟩ h0
  simp only [UInt8.ofNat_toNat] at h1 h2 h3
  exact ⟨h1, h2, fun j hj => h3 ⟨j, by omega⟩ hj⟩
theorem bit8_test (x : UInt8) (j : Nat) : bit8 x j = (x.toNat.testBit (7 - j)).toNat := by
  rw [bit8, Nat.toNat_testBit]
theorem bit8_xor (x y : UInt8) (j : Nat) : bit8 (x ^^^ y) j = 1 ↔ bit8 x j ≠ bit8 y j := by
  rw [bit8_test, bit8_test, bit8_test, UInt8.toNat_xor, Nat.testBit_xor]
  cases x.toNat.testBit (7 - j) <;> cases y.toNat.testBit (7 - j) <;> simp
theorem bit8_xor0 (x y : UInt8) (j : Nat) (h : bit8 (x ^^^ y) j = 0) : bit8 x j = bit8 y j := Decidable.not_not.1 fun hn => by
  rw [(bit8_xor x y j).2 hn] at h; cases h
section
variable {a b : List UInt8}
theorem apartK_byte {i : Nat} (hi : i < 32) (h1 : ∀ k, k < i → a.getD k 0 = b.getD k 0) (h2 : a.getD i 0 ^^^ b.getD i 0 ≠ 0) : apartK a b = 8 * i + lz8 (a.getD i 0 ^^^ b.getD i 0) := by
  obtain ⟨e1, e2, e3⟩ := lz8_of h2
  refine apartK_is (by omega) (fun k hk => ?_) (fun _ => ?_)
  · unfold bitN
    rw [if_pos (by omega), if_pos (by omega)]
    by_cases h : k / 8 < i
    · rw [h1 _ h]
    · have : k / 8 = i := by omega
      rw [this]
      exact bit8_xor0 _ _ _ (e3 _ (by omega))
  · unfold bitN
    rw [if_pos (by omega), if_pos (by omega), show (8 * i + lz8 (a.getD i 0 ^^^ b.getD i 0)) / 8 = i by omega, show (8 * i + lz8 (a.getD i 0 ^^^ b.getD i 0)) % 8 = lz8 (a.getD i 0 ^^^ b.getD i 0) by omega]
    exact (bit8_xor _ _ _).1 e2
theorem apartK_none (h : ∀ k, k < 32 → a.getD k 0 = b.getD k 0) : apartK a b = 256 := apartK_is (Nat.le_refl _) (fun k hk => by
  unfold bitN; rw [if_pos hk, if_pos hk, h _ (by omega)]) (fun h => by omega)
theorem xor_zero {x y : UInt8} (h : x ^^^ y = 0) : x = y := by
  have := congrArg (· ^^^ y) h
  simpa [UInt8.xor_assoc] using this
/-- Two keys with the same bits are the same. -/
theorem byte_eq {x y : UInt8} (h : ∀ j, j < 8 → bit8 x j = bit8 y j) : x = y := by
  by_cases hx : x ^^^ y = 0
  · exact xor_zero hx
  · obtain ⟨e1, e2, _⟩ := lz8_of hx
    exact absurd (h _ e1) ((bit8_xor _ _ _).1 e2)
theorem apartK_eq (ha : a.length = 32) (hb : b.length = 32) : apartK a b = 256 ↔ a = b := by
  constructor
  · intro h
    refine List.ext_getElem? fun i => ?_
    by_cases hi : i < 32
    · have e : a.getD i 0 = b.getD i 0 := byte_eq fun j hj => by
        have := apartK_same (a := a) (b := b) (k := 8 * i + j) (by omega)
        unfold bitN at this
        rwa [if_pos (by omega), if_pos (by omega), show (8 * i + j) / 8 = i by omega, show (8 * i + j) % 8 = j by omega] at this
      simp only [List.getD, List.getElem?_eq_getElem (show i < a.length by omega), List.getElem?_eq_getElem (show i < b.length by omega), Option.getD_some] at e
      rw [List.getElem?_eq_getElem (show i < a.length by omega), List.getElem?_eq_getElem (show i < b.length by omega), e]
    · rw [List.getElem?_eq_none (by omega), List.getElem?_eq_none (by omega)]
  · intro h
    subst h
    exact apartK_none fun _ _ => rfl
end
end Go.Plain
