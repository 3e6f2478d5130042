/-
  Own text: plain law of layer 3: words, rounds, blocks, padding, the sum of bytes. No program in sight.
-/
import Derived.Test.YtkfkdakghjlenaaDoorPlSum
set_option linter.unusedSimpArgs false
set_option linter.unusedVariables false
namespace Go.Plain
open Go.Gx
def rotr (x : W32) (r : Nat) : W32 := x >>> r ||| x <<< (32 - r)
theorem rot_conv {r : Nat} (h1 : 1 ≤ r) (h2 : r ≤ 31) : IntKind.u64.wrap (-(r : Int)) = ((18446744073709551616 - r : Nat) : Int) := by
  rw [IntKind.wrap_u64]; omega
theorem rot_and {r : Nat} (h1 : 1 ≤ r) (h2 : r ≤ 31) : IntKind.u64.wrap (((BitVec.ofInt 64 ((18446744073709551616 - r : Nat) : Int)) &&& (BitVec.ofInt 64 31)).toNat : Int) = ((32 - r : Nat) : Int) := by
  have key : ∀ r : Fin 32, 1 ≤ r.val → IntKind.u64.wrap (((BitVec.ofInt 64 ((18446744073709551616 - r.val : Nat) : Int)) &&& (BitVec.ofInt 64 31)).toNat : Int) = ((32 - r.val : Nat) : Int) := by decide +kernel
  exact key ⟨r, by omega⟩ h1
def sig0 (x : W32) : W32 := rotr x 7 ^^^ rotr x 18 ^^^ x >>> 3
def sig1 (x : W32) : W32 := rotr x 17 ^^^ rotr x 19 ^^^ x >>> 10
def big1 (x : W32) : W32 := rotr x 6 ^^^ rotr x 11 ^^^ rotr x 25
def big0 (x : W32) : W32 := rotr x 2 ^^^ rotr x 13 ^^^ rotr x 22
def w8 (x : UInt8) : W32 := BitVec.ofNat 32 x.toNat
def word (B : List UInt8) (t : Nat) : W32 := w8 (B.getD (4 * t) 0) <<< 24 ||| w8 (B.getD (4 * t + 1) 0) <<< 16 ||| w8 (B.getD (4 * t + 2) 0) <<< 8 ||| w8 (B.getD (4 * t + 3) 0)
/-- The word behind those of l. -/
def nextW (B : List UInt8) (l : List W32) (t : Nat) : W32 := if t < 16 then word B t else l.getD (t - 16) 0#32 + sig0 (l.getD (t - 15) 0#32) + l.getD (t - 7) 0#32 + sig1 (l.getD (t - 2) 0#32)
def sch (B : List UInt8) : Nat → List W32
  | 0 => []
  | t + 1 => sch B t ++ [nextW B (sch B t) t]
theorem sch_len (B : List UInt8) : ∀ t, (sch B t).length = t
  | 0 => rfl
  | t + 1 => by rw [sch, List.length_append, sch_len B t]; rfl
/-- The words so far, and noughts behind. -/
def schZ (B : List UInt8) (t : Nat) : List W32 := sch B t ++ List.replicate (64 - t) 0#32
theorem schZ_len (B : List UInt8) {t : Nat} (h : t ≤ 64) : (schZ B t).length = 64 := by rw [schZ, List.length_append, sch_len, List.length_replicate]; omega
theorem schZ_zero (B : List UInt8) : schZ B 0 = List.replicate 64 0#32 := by rw [schZ, sch, List.nil_append]
theorem schZ_all (B : List UInt8) : schZ B 64 = sch B 64 := by rw [schZ, Nat.sub_self, List.replicate_zero, List.append_nil]
theorem schZ_get (B : List UInt8) {t i : Nat} (h : i < t) : (schZ B t).getD i 0#32 = (sch B t).getD i 0#32 := by
  rw [schZ, List.getD, List.getD, List.getElem?_append_left (by rw [sch_len]; exact h)]
theorem schZ_set (B : List UInt8) {t : Nat} (h : t < 64) : (schZ B t).set t (nextW B (sch B t) t) = schZ B (t + 1) := by
  rw [schZ, List.set_append_right _ _ (by rw [sch_len]; omega), sch_len, Nat.sub_self, show 64 - t = (64 - (t + 1)) + 1 by omega, List.replicate_succ, List.set_cons_zero, schZ, sch, List.append_assoc]; rfl
theorem next_low (B : List UInt8) (l : List W32) {t : Nat} (h : t < 16) : nextW B l t = word B t := by rw [nextW, if_pos h]
theorem next_high (B : List UInt8) {t : Nat} (h : 16 ≤ t) : nextW B (sch B t) t = (schZ B t).getD (t - 16) 0#32 + sig0 ((schZ B t).getD (t - 15) 0#32) + (schZ B t).getD (t - 7) 0#32 + sig1 ((schZ B t).getD (t - 2) 0#32) := by
  rw [nextW, if_neg (by omega), schZ_get B (by omega), schZ_get B (by omega), schZ_get B (by omega), schZ_get B (by omega)]
/-- The rounds' numbers. -/
def rk : List W32 := [0x428a2f98#32, 0x71374491#32, 0xb5c0fbcf#32, 0xe9b5dba5#32, 0x3956c25b#32, 0x59f111f1#32, 0x923f82a4#32, 0xab1c5ed5#32, 0xd807aa98#32, 0x12835b01#32, 0x243185be#32, 0x550c7dc3#32, 0x72be5d74#32, 0x80deb1fe#32, 0x9bdc06a7#32, 0xc19bf174#32, 0xe49b69c1#32, 0xefbe4786#32, 0x0fc19dc6#32, 0x240ca1cc#32, 0x2de92c6f#32, 0x4a7484aa#32, 0x5cb0a9dc#32, 0x76f988da#32, 0x983e5152#32, 0xa831c66d#32, 0xb00327c8#32, 0xbf597fc7#32, 0xc6e00bf3#32, 0xd5a79147#32, 0x06ca6351#32, 0x14292967#32, 0x27b70a85#32, 0x2e1b2138#32, 0x4d2c6dfc#32, 0x53380d13#32, 0x650a7354#32, 0x766a0abb#32, 0x81c2c92e#32, 0x92722c85#32, 0xa2bfe8a1#32, 0xa81a664b#32, 0xc24b8b70#32, 0xc76c51a3#32, 0xd192e819#32, 0xd6990624#32, 0xf40e3585#32, 0x106aa070#32, 0x19a4c116#32, 0x1e376c08#32, 0x2748774c#32, 0x34b0bcb5#32, 0x391c0cb3#32, 0x4ed8aa4a#32, 0x5b9cca4f#32, 0x682e6ff3#32, 0x748f82ee#32, 0x78a5636f#32, 0x84c87814#32, 0x8cc70208#32, 0x90befffa#32, 0xa4506ceb#32, 0xbef9a3f7#32, 0xc67178f2#32]
def ch (x y z : W32) : W32 := z ^^^ (x &&& (y ^^^ z))
def maj (x y z : W32) : W32 := x &&& y ||| z &&& (x ||| y)
/-- One round. -/
def rnd (v : List W32) (k w : W32) : List W32 :=
  let t := v.getD 7 0#32 + big1 (v.getD 4 0#32) + ch (v.getD 4 0#32) (v.getD 5 0#32) (v.getD 6 0#32) + k + w
  [t + big0 (v.getD 0 0#32) + maj (v.getD 0 0#32) (v.getD 1 0#32) (v.getD 2 0#32), v.getD 0 0#32, v.getD 1 0#32, v.getD 2 0#32, v.getD 3 0#32 + t, v.getD 4 0#32, v.getD 5 0#32, v.getD 6 0#32]
def rnds (w h : List W32) : Nat → List W32
  | 0 => h
  | t + 1 => rnd (rnds w h t) (rk.getD t 0#32) (w.getD t 0#32)
theorem rnds_len (w : List W32) {h : List W32} (hh : h.length = 8) : ∀ t, (rnds w h t).length = 8
  | 0 => hh
  | t + 1 => rfl
/-- The first i words of h with those of v. -/
def addN (h v : List W32) : Nat → List W32
  | 0 => h
  | i + 1 => (addN h v i).set i ((addN h v i).getD i 0#32 + v.getD i 0#32)
theorem addN_len (h v : List W32) : ∀ i, (addN h v i).length = h.length
  | 0 => rfl
  | i + 1 => by rw [addN, List.length_set, addN_len h v i]
def cmp (h : List W32) (B : List UInt8) : List W32 := addN h (rnds (sch B 64) h 64) 8
theorem cmp_len {h : List W32} (hh : h.length = 8) (B : List UInt8) : (cmp h B).length = 8 := by rw [cmp, addN_len, hh]
def iv : List W32 := [0x6a09e667#32, 0xbb67ae85#32, 0x3c6ef372#32, 0xa54ff53a#32, 0x510e527f#32, 0x9b05688c#32, 0x1f83d9ab#32, 0x5be0cd19#32]
/-- The words behind the first k blocks of m. -/
def hsh (m : List UInt8) : Nat → List W32
  | 0 => iv
  | k + 1 => cmp (hsh m k) ((m.drop (64 * k)).take 64)
theorem hsh_len (m : List UInt8) : ∀ k, (hsh m k).length = 8
  | 0 => rfl
  | k + 1 => cmp_len (hsh_len m k) _
theorem hsh_app (m r : List UInt8) : ∀ {k : Nat}, 64 * k ≤ m.length → hsh (m ++ r) k = hsh m k
  | 0, _ => rfl
  | k + 1, h => by
    rw [hsh, hsh, hsh_app m r (by omega)]
    congr 1
    rw [List.drop_append_of_le_length (by omega), List.take_append_of_le_length (by rw [List.length_drop]; omega)]
/-- A number of 64 bits as bytes, greatest first. -/
def be8 (n : Nat) : List UInt8 := [UInt8.ofNat (n / 2 ^ 56), UInt8.ofNat (n / 2 ^ 48), UInt8.ofNat (n / 2 ^ 40), UInt8.ofNat (n / 2 ^ 32), UInt8.ofNat (n / 2 ^ 24), UInt8.ofNat (n / 2 ^ 16), UInt8.ofNat (n / 2 ^ 8), UInt8.ofNat (n / 2 ^ 0)]
/-- How many noughts. -/
def nz (n : Nat) : Nat := (55 + 64 - n % 64) % 64
def pad (m : List UInt8) : List UInt8 := m ++ (128 : UInt8) :: List.replicate (nz m.length) 0 ++ be8 (8 * m.length)
theorem pad_len (m : List UInt8) : (pad m).length = m.length + 9 + nz m.length := by
  simp [pad, be8]; omega
theorem pad_mod (m : List UInt8) : (pad m).length % 64 = 0 := by
  rw [pad_len, nz]; omega
def outB (h : List W32) : List UInt8 := (h.map be4).flatten
/-- The sum of bytes. -/
def shaF (m : List UInt8) : List UInt8 := outB (hsh (pad m) ((pad m).length / 64))
theorem outB_len : ∀ {h : List W32}, (outB h).length = 4 * h.length
  | [] => rfl
  | x :: h => by
    have := outB_len (h := h)
    unfold outB at this ⊢
    rw [List.map_cons, List.flatten_cons, List.length_append, this, List.length_cons]
    show 4 + _ = _
    omega
theorem shaF_len (m : List UInt8) : (shaF m).length = 32 := by rw [shaF, outB_len, hsh_len]
end Go.Plain
namespace Go.Plain
/-- What a state's words and bytes are, m written so far. -/
structure Rep (m : List UInt8) (h : List W32) (rest : List UInt8) : Prop where
  words : h = hsh m (m.length / 64)
  len : rest.length = 64
  left : rest.take (m.length % 64) = m.drop (64 * (m.length / 64))
theorem Rep.hlen {m : List UInt8} {h : List W32} {rest : List UInt8} (r : Rep m h rest) : h.length = 8 := by rw [r.words, hsh_len]
theorem rep_nil : Rep [] iv (List.replicate 64 0) := ⟨rfl, by simp, by simp⟩
/-- The bytes c laid behind the r first. -/
def lay (rest : List UInt8) (r : Nat) (c : List UInt8) : List UInt8 := rest.take r ++ c ++ rest.drop (r + c.length)
theorem lay_len {rest c : List UInt8} {r : Nat} (hr : rest.length = 64) (h : r + c.length ≤ 64) : (lay rest r c).length = 64 := by
  simp [lay, hr]; omega
theorem lay_take {rest c : List UInt8} {r : Nat} (hr : rest.length = 64) (h : r + c.length ≤ 64) : (lay rest r c).take (r + c.length) = rest.take r ++ c := by
  rw [lay, List.take_left' (by rw [List.length_append, List.length_take, hr]; omega)]
theorem Rep.more {m c : List UInt8} {h : List W32} {rest : List UInt8} (r : Rep m h rest) (hc : m.length % 64 + c.length < 64) : Rep (m ++ c) h (lay rest (m.length % 64) c) := by
  have hl : (m ++ c).length = m.length + c.length := List.length_append
  have hd : (m.length + c.length) / 64 = m.length / 64 := by omega
  have hm : (m.length + c.length) % 64 = m.length % 64 + c.length := by omega
  refine ⟨?_, lay_len r.len (by omega), ?_⟩
  · rw [hl, hd, hsh_app m c (by omega)]; exact r.words
  · rw [hl, hd, hm, lay_take r.len (by omega), r.left, List.drop_append_of_le_length (by omega)]
theorem Rep.full {m c : List UInt8} {h : List W32} {rest : List UInt8} (r : Rep m h rest) (hc : m.length % 64 + c.length = 64) : Rep (m ++ c) (cmp h (lay rest (m.length % 64) c)) (lay rest (m.length % 64) c) := by
  have hl : (m ++ c).length = m.length + c.length := List.length_append
  have hd : (m.length + c.length) / 64 = m.length / 64 + 1 := by omega
  have hm : (m.length + c.length) % 64 = 0 := by omega
  have hlt := lay_take (rest := rest) (c := c) (r := m.length % 64) r.len (by omega)
  have hll := lay_len (rest := rest) (c := c) (r := m.length % 64) r.len (by omega)
  rw [hc, List.take_of_length_le (by omega), r.left] at hlt
  refine ⟨?_, hll, ?_⟩
  · rw [hl, hd, hsh, hsh_app m c (by omega), ← r.words, hlt]
    congr 1
    rw [List.drop_append_of_le_length (by omega), List.take_of_length_le (by rw [List.length_append, List.length_drop]; omega)]
  · rw [hl, hd, hm, List.take_zero, List.drop_of_length_le (by rw [List.length_append]; omega)]
end Go.Plain
namespace Go.Plain
theorem nz_stop {n j : Nat} (h : j ≤ nz n) (e : (n + 1 + j) % 64 = 56) : j = nz n := by
  unfold nz at *; omega
theorem nz_on {n j : Nat} (h : j ≤ nz n) (e : ¬ (n + 1 + j) % 64 = 56) : j < nz n := by
  unfold nz at *; omega
end Go.Plain
