/-
  Own text: plain law of layer 3, second part: a message's end byte by byte, the words out as bytes, the reference's formulas, digits. No program in sight.
-/
import Derived.Test.YtkfkdakghjlenaaDoorPlSha
set_option linter.unusedSimpArgs false
set_option linter.unusedVariables false
namespace Go.Plain
open Go.Gx
/-- A message with its 1 bit and j noughts. -/
def pz (m : List UInt8) (j : Nat) : List UInt8 := m ++ (128 : UInt8) :: List.replicate j 0
theorem pz_zero (m : List UInt8) : m ++ [128] = pz m 0 := rfl
theorem pz_len {m : List UInt8} {j : Nat} : (pz m j).length = m.length + 1 + j := by simp [pz]; omega
theorem pz_next {m : List UInt8} {j : Nat} : pz m j ++ [0] = pz m (j + 1) := by
  rw [pz, pz, List.append_assoc, List.cons_append, List.replicate_succ']
/-- With k bytes of its length. -/
def pq (m : List UInt8) (k : Nat) : List UInt8 := pz m (nz m.length) ++ (be8 (8 * m.length)).take k
theorem pq_zero (m : List UInt8) : pz m (nz m.length) = pq m 0 := by simp [pq]
theorem pq_len {m : List UInt8} {k : Nat} (h : k ≤ 8) : (pq m k).length = m.length + 1 + nz m.length + k := by
  rw [pq, List.length_append, pz_len, List.length_take]
  have : (be8 (8 * m.length)).length = 8 := rfl
  omega
theorem be8_get (n : Nat) {k : Nat} (h : k < 8) : (be8 n).getD k 0 = UInt8.ofNat (n / 2 ^ (56 - 8 * k)) := by
  match k, h with
  | 0, _ => rfl
  | 1, _ => rfl
  | 2, _ => rfl
  | 3, _ => rfl
  | 4, _ => rfl
  | 5, _ => rfl
  | 6, _ => rfl
  | 7, _ => rfl
theorem take_getD {α : Type} {l : List α} {k : Nat} (d : α) (h : k < l.length) : l.take k ++ [l.getD k d] = l.take (k + 1) := by
  rw [List.take_succ_eq_append_getElem h]
  simp [List.getD, List.getElem?_eq_getElem h]
theorem pq_next {m : List UInt8} {k : Nat} (h : k < 8) : pq m k ++ [UInt8.ofNat (8 * m.length / 2 ^ (56 - 8 * k))] = pq m (k + 1) := by
  rw [pq, pq, List.append_assoc, ← be8_get _ h, take_getD 0 h]
theorem pq_all (m : List UInt8) : pq m 8 = pad m := by
  rw [pq, pad, pz, List.take_of_length_le (show (be8 (8 * m.length)).length ≤ 8 from Nat.le_refl _)]
/-- The words out so far, and noughts behind. -/
def outN (h : List W32) (i : Nat) : List UInt8 := outB (h.take i) ++ List.replicate (32 - 4 * i) 0
theorem outN_zero (h : List W32) : outN h 0 = List.replicate 32 0 := rfl
theorem outN_all {h : List W32} (hh : h.length = 8) : outN h 8 = outB h := by
  rw [outN, List.take_of_length_le (by omega)]; simp
theorem outN_len {h : List W32} (hh : h.length = 8) {i : Nat} (hi : i ≤ 8) : (outN h i).length = 32 := by
  rw [outN, List.length_append, outB_len, List.length_take, List.length_replicate]; omega
theorem set4 {x : List UInt8} {n p : Nat} (hx : x.length = p) (a b c d : UInt8) (hn : 4 ≤ n) : ((((x ++ List.replicate n 0).set p a).set (p + 1) b).set (p + 2) c).set (p + 3) d = x ++ [a, b, c, d] ++ List.replicate (n - 4) 0 := by
  subst hx
  obtain ⟨k, rfl⟩ := Nat.exists_eq_add_of_le hn
  rw [show 4 + k - 4 = k by omega, show 4 + k = k + 1 + 1 + 1 + 1 by omega]
  simp [List.set_append_right, List.replicate_succ]
theorem outN_next {h : List W32} (hh : h.length = 8) {i : Nat} (hi : i < 8) : ((((outN h i).set (4 * i) (b8 (h.getD i 0#32) 24)).set (4 * i + 1) (b8 (h.getD i 0#32) 16)).set (4 * i + 2) (b8 (h.getD i 0#32) 8)).set (4 * i + 3) (UInt8.ofNat (h.getD i 0#32).toNat) = outN h (i + 1) := by
  rw [outN, set4 (by rw [outB_len, List.length_take]; omega) _ _ _ _ (by omega), outN, ← take_getD 0#32 (by omega)]
  have e : outB (h.take i ++ [h.getD i 0#32]) = outB (h.take i) ++ be4 (h.getD i 0#32) := by simp [outB]
  rw [e, show 32 - 4 * (i + 1) = 32 - 4 * i - 4 by omega, be4, show b8 (h.getD i 0#32) 0 = UInt8.ofNat (h.getD i 0#32).toNat by simp [b8]]
theorem shl3 {n : Nat} (h : n ≤ 4398046511104) : IntKind.u64.wrap ((n : Int) * 2 ^ (min ((3 : Int)).toNat IntKind.u64.bits)) = ((8 * n : Nat) : Int) := by
  rw [show min ((3 : Int)).toNat IntKind.u64.bits = 3 from rfl, wu64 (by omega)]; omega
/-! ### The reference's formulas -/
theorem ch_ref (x y z : W32) : (x &&& y) ^^^ (~~~x &&& z) = ch x y z := by
  apply BitVec.eq_of_getLsbD_eq
  intro i hi
  simp only [ch, BitVec.getLsbD_xor, BitVec.getLsbD_and, BitVec.getLsbD_not, hi, decide_true, Bool.true_and]
  cases x.getLsbD i <;> cases y.getLsbD i <;> cases z.getLsbD i <;> rfl
theorem maj_ref (x y z : W32) : (x &&& y) ^^^ (x &&& z) ^^^ (y &&& z) = maj x y z := by
  apply BitVec.eq_of_getLsbD_eq
  intro i hi
  simp only [maj, BitVec.getLsbD_xor, BitVec.getLsbD_and, BitVec.getLsbD_or]
  cases x.getLsbD i <;> cases y.getLsbD i <;> cases z.getLsbD i <;> rfl
/-- The document's example. -/
theorem sha_abc : shaF [97, 98, 99] = [0xba, 0x78, 0x16, 0xbf, 0x8f, 0x01, 0xcf, 0xea, 0x41, 0x41, 0x40, 0xde, 0x5d, 0xae, 0x22, 0x23, 0xb0, 0x03, 0x61, 0xa3, 0x96, 0x17, 0x7a, 0x9c, 0xb4, 0x10, 0xff, 0x61, 0xf2, 0x00, 0x15, 0xad] := by decide +kernel
/-! ### Digits -/
def dgt (x : Nat) : UInt8 := if x < 10 then UInt8.ofNat (48 + x) else UInt8.ofNat (87 + x)
/-- A hash's digits. -/
def hexF (h : List UInt8) : List UInt8 := (h.map fun x => [dgt (x.toNat / 16), dgt (x.toNat % 16)]).flatten
theorem hexF_len : ∀ h : List UInt8, (hexF h).length = 2 * h.length
  | [] => rfl
  | x :: h => by
    have := hexF_len h
    unfold hexF at this ⊢
    rw [List.map_cons, List.flatten_cons, List.length_append, this]
    show 2 + _ = 2 * (h.length + 1)
    omega
theorem hexF_app (a b : List UInt8) : hexF (a ++ b) = hexF a ++ hexF b := by simp [hexF]
/-- A digit's number; none: it is none. -/
def ung (c : UInt8) : Option Nat := if 48 ≤ c.toNat ∧ c.toNat ≤ 57 then some (c.toNat - 48) else if 97 ≤ c.toNat ∧ c.toNat ≤ 102 then some (c.toNat - 87) else none
theorem ung_dgt {x : Nat} (h : x < 16) : ung (dgt x) = some x := by
  have key : ∀ x : Fin 16, ung (dgt x.val) = some x.val := by decide +kernel
  exact key ⟨x, h⟩
theorem ung_lt {c : UInt8} {x : Nat} (h : ung c = some x) : x < 16 := by
  unfold ung at h
  split at h
  · injection h with h; omega
  · split at h
    · injection h with h; omega
    · cases h
theorem dgt_ung {c : UInt8} {x : Nat} (h : ung c = some x) : dgt x = c := by
  have key : ∀ c : Fin 256, ((ung (UInt8.ofNat c.val)).all fun x => dgt x == UInt8.ofNat c.val) = true := by decide +kernel
  have := key ⟨c.toNat, c.toNat_lt⟩
  simp only [UInt8.ofNat_toNat, h, Option.all_some, beq_iff_eq] at this
  exact this
/-- The bytes that digits say. -/
def unhex : List UInt8 → Option (List UInt8)
  | [] => some []
  | [_] => none
  | a :: b :: r => match ung a, ung b, unhex r with
    | some x, some y, some l => some (UInt8.ofNat (16 * x + y) :: l)
    | _, _, _ => none
theorem unhex_hex : ∀ h : List UInt8, unhex (hexF h) = some h
  | [] => rfl
  | x :: h => by
    have hx := x.toNat_lt
    show unhex (dgt (x.toNat / 16) :: dgt (x.toNat % 16) :: hexF h) = _
    rw [unhex, ung_dgt (by omega), ung_dgt (by omega), unhex_hex h]
    simp only [Option.some.injEq, List.cons.injEq, and_true]
    rw [show 16 * (x.toNat / 16) + x.toNat % 16 = x.toNat by omega]; simp
theorem hex_unhex : ∀ {s l : List UInt8}, unhex s = some l → hexF l = s
  | [], l, h => by injection h with h; subst h; rfl
  | [_], l, h => by cases h
  | a :: b :: r, l, h => by
    rw [unhex] at h
    cases ha : ung a with
    | none => simp [ha] at h
    | some x =>
      cases hb : ung b with
      | none => simp [ha, hb] at h
      | some y =>
        cases hr : unhex r with
        | none => simp [ha, hb, hr] at h
        | some k =>
          simp only [ha, hb, hr, Option.some.injEq] at h
          subst h
          have h1 := ung_lt ha; have h2 := ung_lt hb
          show dgt ((UInt8.ofNat (16 * x + y)).toNat / 16) :: dgt ((UInt8.ofNat (16 * x + y)).toNat % 16) :: hexF k = _
          rw [hex_unhex hr, show (UInt8.ofNat (16 * x + y)).toNat = 16 * x + y by simp; omega, show (16 * x + y) / 16 = x by omega, show (16 * x + y) % 16 = y by omega, dgt_ung ha, dgt_ung hb]
theorem hex_inj {a b : List UInt8} (h : hexF a = hexF b) : a = b := by
  have h1 := unhex_hex a
  rw [h, unhex_hex b] at h1
  exact (Option.some.inj h1).symm
theorem hexF_next {h : List UInt8} {i : Nat} (hi : i < h.length) : hexF (h.take i) ++ [dgt ((h.getD i 0).toNat / 2 ^ 4), dgt ((h.getD i 0).toNat % 16)] = hexF (h.take (i + 1)) := by
  rw [← take_getD 0 hi, hexF_app]; rfl
def digs : ByteArray := ⟨#[48, 49, 50, 51, 52, 53, 54, 55, 56, 57, 97, 98, 99, 100, 101, 102]⟩
theorem dig_get {x : Nat} (h : x < 16) : digs.data.toList[x]? = some (dgt x) := by
  have key : ∀ x : Fin 16, digs.data.toList[x.val]? = some (dgt x.val) := by decide +kernel
  exact key ⟨x, h⟩
theorem dig_cut {x : Nat} (h : x < 16) : (digs.data.toList.drop x).take (x + 1 - x) = [dgt x] := by
  have key : ∀ x : Fin 16, (digs.data.toList.drop x.val).take (x.val + 1 - x.val) = [dgt x.val] := by decide +kernel
  exact key ⟨x, h⟩
theorem and15 (b : UInt8) : IntKind.u8.wrap (((BitVec.ofInt IntKind.u8.bits (b.toNat : Int)) &&& (BitVec.ofInt IntKind.u8.bits 15)).toNat : Int) = ((b.toNat % 16 : Nat) : Int) := by
  have key : ∀ b : Fin 256, IntKind.u8.wrap (((BitVec.ofInt IntKind.u8.bits (b.val : Int)) &&& (BitVec.ofInt IntKind.u8.bits 15)).toNat : Int) = ((b.val % 16 : Nat) : Int) := by decide +kernel
  exact key ⟨b.toNat, b.toNat_lt⟩
theorem dgt_inj {x y : Nat} (hx : x < 16) (hy : y < 16) (h : dgt x = dgt y) : x = y := by
  have h1 := ung_dgt hx; rw [h, ung_dgt hy] at h1; exact (Option.some.inj h1).symm
/-- None of the first k digits. -/
theorem ung_none {c : UInt8} (h : ∀ j, j < 16 → dgt j ≠ c) : ung c = none := by
  cases e : ung c with
  | none => rfl
  | some x => exact absurd (dgt_ung e) (h x (ung_lt e))
theorem ung_low {c : UInt8} (h1 : 48 ≤ c.toNat) (h2 : c.toNat ≤ 57) : ung c = some (c.toNat - 48) := by rw [ung, if_pos ⟨h1, h2⟩]
theorem ung_high {c : UInt8} (h1 : 97 ≤ c.toNat) (h2 : c.toNat ≤ 102) : ung c = some (c.toNat - 87) := by rw [ung, if_neg (by omega), if_pos ⟨h1, h2⟩]
theorem ung_out {c : UInt8} (h1 : ¬ (48 ≤ c.toNat ∧ c.toNat ≤ 57)) (h2 : ¬ (97 ≤ c.toNat ∧ c.toNat ≤ 102)) : ung c = none := by rw [ung, if_neg h1, if_neg h2]
/-- The digit's number, as a number with a sign. -/
def ungI (c : UInt8) : Int := match ung c with | some x => (x : Int) | none => -1
theorem ungI_some {c : UInt8} {x : Nat} (h : ung c = some x) : ungI c = x := by rw [ungI, h]
theorem ungI_none {c : UInt8} (h : ung c = none) : ungI c = -1 := by rw [ungI, h]
theorem ungI_neg {c : UInt8} : ungI c < 0 ↔ ung c = none := by
  unfold ungI
  cases ung c with
  | none => simp
  | some x => simp
theorem ungI_le (c : UInt8) : -1 ≤ ungI c ∧ ungI c ≤ 15 := by
  cases h : ung c with
  | none => rw [ungI_none h]; omega
  | some x => have := ung_lt h; rw [ungI_some h]; omega
/-- The hash that a text's digits say. -/
def parF (s : List UInt8) : Option (List UInt8) := if s.length = 64 then unhex s else none
theorem unhex_app : ∀ {s l : List UInt8} (r : List UInt8), unhex s = some l → unhex (s ++ r) = (unhex r).map (l ++ ·)
  | [], l, r, h => by injection h with h; subst h; simp
  | [_], l, r, h => by cases h
  | a :: b :: s, l, r, h => by
    rw [unhex] at h
    cases ha : ung a with
    | none => simp [ha] at h
    | some x =>
      cases hb : ung b with
      | none => simp [ha, hb] at h
      | some y =>
        cases hr : unhex s with
        | none => simp [ha, hb, hr] at h
        | some k =>
          simp only [ha, hb, hr, Option.some.injEq] at h
          subst h
          show unhex (a :: b :: (s ++ r)) = _
          rw [unhex, ha, hb, unhex_app r hr]
          cases unhex r <;> simp
theorem unhex_len : ∀ {s l : List UInt8}, unhex s = some l → s.length = 2 * l.length
  | s, l, h => by rw [← hex_unhex h, hexF_len]
theorem unhex_two {a b : UInt8} {x y : Nat} (ha : ung a = some x) (hb : ung b = some y) : unhex [a, b] = some [UInt8.ofNat (16 * x + y)] := by rw [unhex, ha, hb]; rfl
theorem take_two {s : List UInt8} {k : Nat} (h : k + 1 < s.length) : s.take (k + 2) = s.take k ++ [s.getD k 0, s.getD (k + 1) 0] := by
  rw [← take_getD (k := k + 1) 0 h, ← take_getD (k := k) 0 (by omega), List.append_assoc]; rfl
theorem unhex_next {s l : List UInt8} {i x y : Nat} (h : 2 * i + 1 < s.length) (hl : unhex (s.take (2 * i)) = some l) (hx : ung (s.getD (2 * i) 0) = some x) (hy : ung (s.getD (2 * i + 1) 0) = some y) : unhex (s.take (2 * (i + 1))) = some (l ++ [UInt8.ofNat (16 * x + y)]) := by
  rw [show 2 * (i + 1) = 2 * i + 2 by omega, take_two h, unhex_app _ hl, unhex_two hx hy]; rfl
theorem unhex_bad {s l : List UInt8} {i : Nat} (h : 2 * i + 1 < s.length) (hl : unhex (s.take (2 * i)) = some l) (hx : ung (s.getD (2 * i) 0) = none ∨ ung (s.getD (2 * i + 1) 0) = none) : unhex s = none := by
  have e : s = s.take (2 * i) ++ (s.getD (2 * i) 0 :: s.getD (2 * i + 1) 0 :: s.drop (2 * i + 2)) := by
    have h2 := List.take_append_drop (2 * i + 2) s
    rw [take_two h, List.append_assoc] at h2
    exact h2.symm
  rw [e, unhex_app _ hl]
  rw [unhex]
  rcases hx with hx | hx
  · rw [hx]; rfl
  · rw [hx]; cases ung (s.getD (2 * i) 0) <;> rfl
/-- The hash so far, and noughts behind. -/
theorem parZ_set {l : List UInt8} {i : Nat} (x : UInt8) (hl : l.length = i) (hi : i < 32) : (l ++ List.replicate (32 - i) 0).set i x = (l ++ [x]) ++ List.replicate (32 - (i + 1)) 0 := by
  subst hl
  rw [List.set_append_right _ _ (Nat.le_refl _), Nat.sub_self, show 32 - l.length = (32 - (l.length + 1)) + 1 by omega, List.replicate_succ, List.set_cons_zero, List.append_assoc]; rfl
def parD (s : List UInt8) : List UInt8 := (parF s).getD (List.replicate 32 0)
def parO (s : List UInt8) : Bool := (parF s).isSome
theorem parD_len (s : List UInt8) : (parD s).length = 32 := by
  unfold parD
  cases h : parF s with
  | none => simp
  | some l =>
    unfold parF at h
    split at h
    · have := unhex_len h; simp; omega
    · cases h
theorem par_none {s : List UInt8} (h : parF s = none) : parD s = List.replicate 32 0 ∧ parO s = false := by rw [parD, parO, h]; exact ⟨rfl, rfl⟩
theorem par_some {s l : List UInt8} (h : parF s = some l) : parD s = l ∧ parO s = true := by rw [parD, parO, h]; exact ⟨rfl, rfl⟩
theorem par_long {s : List UInt8} (h : ¬ s.length = 64) : parF s = none := by rw [parF, if_neg h]
theorem par_bad {s : List UInt8} (h : unhex s = none) : parF s = none := by unfold parF; split <;> simp [h]
theorem par_good {s l : List UInt8} (h : s.length = 64) (h2 : unhex s = some l) : parF s = some l := by rw [parF, if_pos h, h2]
theorem par_hex {h : List UInt8} (hh : h.length = 32) : parF (hexF h) = some h := par_good (by rw [hexF_len]; omega) (unhex_hex h)
theorem lives_hex : ((str (hexF (shaF [97, 98, 99]))).toList == (ByteArray.mk #[98, 97, 55, 56, 49, 54, 98, 102, 56, 102, 48, 49, 99, 102, 101, 97, 52, 49, 52, 49, 52, 48, 100, 101, 53, 100, 97, 101, 50, 50, 50, 51, 98, 48, 48, 51, 54, 49, 97, 51, 57, 54, 49, 55, 55, 97, 57, 99, 98, 52, 49, 48, 102, 102, 54, 49, 102, 50, 48, 48, 49, 53, 97, 100]).toList) = true := by
  refine eqT_of ?_
  rw [sha_abc]
  show str _ = str _
  congr 1
theorem shl4or {x y : Nat} (hx : x < 16) (hy : y < 16) : IntKind.u8.wrap (((BitVec.ofInt 8 ((((UInt8.ofNat x).toNat * 2 ^ 4 % 256 : Nat)) : Int)) ||| (BitVec.ofInt 8 ((UInt8.ofNat y).toNat : Int))).toNat : Int) = ((UInt8.ofNat (16 * x + y)).toNat : Int) := by
  have key : ∀ x y : Fin 16, IntKind.u8.wrap (((BitVec.ofInt 8 ((((UInt8.ofNat x.val).toNat * 2 ^ 4 % 256 : Nat)) : Int)) ||| (BitVec.ofInt 8 ((UInt8.ofNat y.val).toNat : Int))).toNat : Int) = ((UInt8.ofNat (16 * x.val + y.val)).toNat : Int) := by decide +kernel
  exact key ⟨x, hx⟩ ⟨y, hy⟩
theorem shl4 {x : Nat} (hx : x < 16) : IntKind.u8.wrap (((UInt8.ofNat x).toNat : Int) * 2 ^ (min ((4 : Int)).toNat IntKind.u8.bits)) = (((UInt8.ofNat x).toNat * 2 ^ 4 % 256 : Nat) : Int) := by
  have key : ∀ x : Fin 16, IntKind.u8.wrap (((UInt8.ofNat x.val).toNat : Int) * 2 ^ (min ((4 : Int)).toNat IntKind.u8.bits)) = (((UInt8.ofNat x.val).toNat * 2 ^ 4 % 256 : Nat) : Int) := by decide +kernel
  exact key ⟨x, hx⟩
theorem hex_eqT {a b : List UInt8} : ((str (hexF a)).toList == (str (hexF b)).toList) = (a == b) := by
  by_cases h : a = b
  · subst h; rw [eqT_of rfl]; simp
  · have h1 : ¬ (str (hexF a)) = str (hexF b) := fun e => h (hex_inj (str_inj e))
    have h2 : (a == b) = false := by simpa using h
    rw [h2]
    cases h3 : ((str (hexF a)).toList == (str (hexF b)).toList) with
    | false => rfl
    | true => exact absurd (eqT_true h3) h1
theorem par_back {s : ByteArray} (h : parO s.data.toList = true) : ((str (hexF (parD s.data.toList))).toList == s.toList) = true := by
  refine eqT_of ?_
  unfold parO at h
  obtain ⟨l, hl⟩ := Option.isSome_iff_exists.1 h
  rw [(par_some hl).1]
  unfold parF at hl
  split at hl
  · rw [hex_unhex hl, str_of]
  · cases hl
theorem par_zero {s : ByteArray} (h : parO s.data.toList = false) : parD s.data.toList = List.replicate 32 0 := by
  unfold parO at h
  unfold parD
  cases e : parF s.data.toList with
  | none => rfl
  | some l => rw [e] at h; cases h
end Go.Plain
