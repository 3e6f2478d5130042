/-
  Own text: one lemma an operation: what it yields, out of what is known of the slots that it reads. Over any program.
-/
import Derived.Test.YtkfkdakghjlenaaDoorGxCore
set_option linter.unusedSimpArgs false
set_option linter.unusedVariables false
namespace Go.Gx
open Go.RowKit

/-! ### Words for values -/
abbrev i64 (x : Int) : Value := .int .i64 x
abbrev u8v (b : UInt8) : Value := .int .u8 (b.toNat : Int)
abbrev u32v (x : BitVec 32) : Value := .int .u32 (x.toNat : Int)
abbrev u64v (x : Nat) : Value := .int .u64 (x : Int)

theorem w64 {z : Int} (h : -9223372036854775808 ≤ z ∧ z ≤ 9223372036854775807) : IntKind.i64.wrap z = z := by rw [IntKind.wrap_i64]; omega
theorem wu8 {z : Int} (h : 0 ≤ z ∧ z ≤ 255) : IntKind.u8.wrap z = z := by
  simp only [IntKind.wrap, IntKind.bits, IntKind.signed]; simp; omega
theorem wu64 {z : Int} (h : 0 ≤ z ∧ z ≤ 18446744073709551615) : IntKind.u64.wrap z = z := by
  simp only [IntKind.wrap, IntKind.bits, IntKind.signed]; simp; omega
theorem wu8n (x : Nat) : IntKind.u8.wrap (x : Int) = ((x % 256 : Nat) : Int) := by
  simp only [IntKind.wrap, IntKind.bits, IntKind.signed]; simp
theorem wu32n (x : Nat) : IntKind.u32.wrap (x : Int) = ((x % 4294967296 : Nat) : Int) := by
  simp only [IntKind.wrap, IntKind.bits, IntKind.signed]; simp
theorem wu32b (x : BitVec 32) : IntKind.u32.wrap (x.toNat : Int) = (x.toNat : Int) := by
  have := x.isLt; rw [wu32n, Nat.mod_eq_of_lt (by omega)]

theorem and1_i64 (x : Nat) : IntKind.i64.wrap (((BitVec.ofInt 64 (x : Int)) &&& (BitVec.ofInt 64 1)).toNat : Int) = ((x % 2 : Nat) : Int) := by
  rw [BitVec.ofInt_natCast, BitVec.toNat_and, BitVec.toNat_ofNat, show (BitVec.ofInt 64 1).toNat = 1 from rfl, Nat.and_one_is_mod, w64 (by omega)]
  omega
section
variable {P : Program} {S : World → Prop} {n : Nat} {e : Env} {dst : Option Tmp} {rt : TypeId} {pos : String} {af : Array Edge} {gd : Option (Nat × Bool)}

theorem p_mv {x : Operand} {v : Value} (hx : ev e x = some v) : Pu P S n ⟨dst, .move x, rt, pos, af, gd⟩ e v := fun a F w _ => by
  simp [execOp, F.ev hx]
theorem p_as {x : Operand} {v : Value} (hx : ev e x = some v) : Pu P S n ⟨dst, .assign x, rt, pos, af, gd⟩ e v := fun a F w _ => by
  simp [execOp, F.ev hx]
theorem p_pickT {c x y : Operand} {v : Value} (hc : ev e c = some (.bool true)) (hx : ev e x = some v) : Pu P S n ⟨dst, .pick c x y, rt, pos, af, gd⟩ e v := fun a F w _ => by
  simp [execOp, F.ev hc, F.ev hx, asBool]
theorem p_pickF {c x y : Operand} {v : Value} (hc : ev e c = some (.bool false)) (hy : ev e y = some v) : Pu P S n ⟨dst, .pick c x y, rt, pos, af, gd⟩ e v := fun a F w _ => by
  simp [execOp, F.ev hc, F.ev hy, asBool]
theorem p_add {t t' : TypeId} {x y : Operand} {k : IntKind} {X Y Z : Int} (hx : ev e x = some (.int k X)) (hy : ev e y = some (.int k Y)) (hz : k.wrap (X + Y) = Z) : Pu P S n ⟨dst, .binOp .add t x y t', rt, pos, af, gd⟩ e (.int k Z) := fun a F w _ => by
  subst hz; simp [execOp, F.ev hx, F.ev hy, binOp, Op.intArith, eqGuard]
theorem p_sub {t t' : TypeId} {x y : Operand} {k : IntKind} {X Y Z : Int} (hx : ev e x = some (.int k X)) (hy : ev e y = some (.int k Y)) (hz : k.wrap (X - Y) = Z) : Pu P S n ⟨dst, .binOp .sub t x y t', rt, pos, af, gd⟩ e (.int k Z) := fun a F w _ => by
  subst hz; simp [execOp, F.ev hx, F.ev hy, binOp, Op.intArith, eqGuard]
theorem p_mul {t t' : TypeId} {x y : Operand} {k : IntKind} {X Y Z : Int} (hx : ev e x = some (.int k X)) (hy : ev e y = some (.int k Y)) (hz : k.wrap (X * Y) = Z) : Pu P S n ⟨dst, .binOp .mul t x y t', rt, pos, af, gd⟩ e (.int k Z) := fun a F w _ => by
  subst hz; simp [execOp, F.ev hx, F.ev hy, binOp, Op.intArith, eqGuard]
theorem p_quo {t t' : TypeId} {x y : Operand} {k : IntKind} {X Y Z : Int} (hx : ev e x = some (.int k X)) (hy : ev e y = some (.int k Y)) (h0 : Y ≠ 0) (hz : k.wrap (X.tdiv Y) = Z) : Pu P S n ⟨dst, .binOp .quo t x y t', rt, pos, af, gd⟩ e (.int k Z) := fun a F w _ => by
  subst hz; simp [execOp, F.ev hx, F.ev hy, binOp, Op.intDiv, eqGuard, h0]
theorem p_rem {t t' : TypeId} {x y : Operand} {k : IntKind} {X Y Z : Int} (hx : ev e x = some (.int k X)) (hy : ev e y = some (.int k Y)) (h0 : Y ≠ 0) (hz : X.tmod Y = Z) : Pu P S n ⟨dst, .binOp .rem t x y t', rt, pos, af, gd⟩ e (.int k Z) := fun a F w _ => by
  subst hz; simp [execOp, F.ev hx, F.ev hy, binOp, Op.intDiv, eqGuard, h0]
theorem p_lt {t t' : TypeId} {x y : Operand} {k : IntKind} {X Y : Int} (hx : ev e x = some (.int k X)) (hy : ev e y = some (.int k Y)) : Pu P S n ⟨dst, .binOp .lss t x y t', rt, pos, af, gd⟩ e (.bool (decide (X < Y))) := fun a F w _ => by
  simp [execOp, F.ev hx, F.ev hy, binOp, Op.intCmp, eqGuard]
theorem p_le {t t' : TypeId} {x y : Operand} {k : IntKind} {X Y : Int} (hx : ev e x = some (.int k X)) (hy : ev e y = some (.int k Y)) : Pu P S n ⟨dst, .binOp .leq t x y t', rt, pos, af, gd⟩ e (.bool (decide (X ≤ Y))) := fun a F w _ => by
  simp [execOp, F.ev hx, F.ev hy, binOp, Op.intCmp, eqGuard]
theorem p_gt {t t' : TypeId} {x y : Operand} {k : IntKind} {X Y : Int} (hx : ev e x = some (.int k X)) (hy : ev e y = some (.int k Y)) : Pu P S n ⟨dst, .binOp .gtr t x y t', rt, pos, af, gd⟩ e (.bool (decide (Y < X))) := fun a F w _ => by
  simp [execOp, F.ev hx, F.ev hy, binOp, Op.intCmp, eqGuard]
theorem p_ge {t t' : TypeId} {x y : Operand} {k : IntKind} {X Y : Int} (hx : ev e x = some (.int k X)) (hy : ev e y = some (.int k Y)) : Pu P S n ⟨dst, .binOp .geq t x y t', rt, pos, af, gd⟩ e (.bool (decide (Y ≤ X))) := fun a F w _ => by
  simp [execOp, F.ev hx, F.ev hy, binOp, Op.intCmp, eqGuard]
theorem p_eq {t t' : TypeId} {x y : Operand} {k : IntKind} {X Y : Int} (hx : ev e x = some (.int k X)) (hy : ev e y = some (.int k Y)) : Pu P S n ⟨dst, .binOp .eql t x y t', rt, pos, af, gd⟩ e (.bool (decide (X = Y))) := fun a F w _ => by
  have : (X == Y) = decide (X = Y) := by simp [BEq.beq]
  simp [execOp, F.ev hx, F.ev hy, binOp, Op.intCmp, eqGuard, this]
theorem p_ne {t t' : TypeId} {x y : Operand} {k : IntKind} {X Y : Int} (hx : ev e x = some (.int k X)) (hy : ev e y = some (.int k Y)) : Pu P S n ⟨dst, .binOp .neq t x y t', rt, pos, af, gd⟩ e (.bool (decide (X ≠ Y))) := fun a F w _ => by
  have : (X != Y) = decide (X ≠ Y) := by by_cases h : X = Y <;> simp [h]
  simp [execOp, F.ev hx, F.ev hy, binOp, Op.intCmp, eqGuard, this]
theorem p_not {t : TypeId} {x : Operand} {b : Bool} (hx : ev e x = some (.bool b)) : Pu P S n ⟨dst, .unOp .not t x, rt, pos, af, gd⟩ e (.bool (!b)) := fun a F w _ => by
  simp [execOp, F.ev hx, Op.unary]
theorem p_shr {t t' : TypeId} {x y : Operand} {k k' : IntKind} {X Y Z : Int} (hx : ev e x = some (.int k X)) (hy : ev e y = some (.int k' Y)) (h0 : 0 ≤ Y) (hz : X.fdiv (2 ^ (min Y.toNat k.bits)) = Z) : Pu P S n ⟨dst, .binOp .shr t x y t', rt, pos, af, gd⟩ e (.int k Z) := fun a F w _ => by
  subst hz
  have : ¬ Y < 0 := by omega
  simp [execOp, F.ev hx, F.ev hy, binOp, Op.shift, eqGuard, this]
theorem p_shl {t t' : TypeId} {x y : Operand} {k k' : IntKind} {X Y Z : Int} (hx : ev e x = some (.int k X)) (hy : ev e y = some (.int k' Y)) (h0 : 0 ≤ Y) (hz : k.wrap (X * 2 ^ (min Y.toNat k.bits)) = Z) : Pu P S n ⟨dst, .binOp .shl t x y t', rt, pos, af, gd⟩ e (.int k Z) := fun a F w _ => by
  subst hz
  have : ¬ Y < 0 := by omega
  simp [execOp, F.ev hx, F.ev hy, binOp, Op.shift, eqGuard, this]
theorem p_bits {op : BinOp} {t t' : TypeId} {x y : Operand} {k : IntKind} {X Y Z : Int} (hop : op = .and ∨ op = .or ∨ op = .xor ∨ op = .andNot) (hx : ev e x = some (.int k X)) (hy : ev e y = some (.int k Y)) (hz : ∀ w, (Op.intBits op k X Y).run P w = .ok (.int k Z) w) : Pu P S n ⟨dst, .binOp op t x y t', rt, pos, af, gd⟩ e (.int k Z) := fun a F w _ => by
  rcases hop with rfl | rfl | rfl | rfl <;> simp [execOp, F.ev hx, F.ev hy, binOp, eqGuard, hz w]
theorem ofInt_toNat32 (x : BitVec 32) : BitVec.ofInt 32 (x.toNat : Int) = x := by
  rw [BitVec.ofInt_natCast]
  apply BitVec.eq_of_toNat_eq
  rw [BitVec.toNat_ofNat]; exact Nat.mod_eq_of_lt x.isLt
theorem bits32 (f : BitVec 32 → BitVec 32 → BitVec 32) (X Y : BitVec 32) : IntKind.u32.wrap ((f (BitVec.ofInt 32 (X.toNat : Int)) (BitVec.ofInt 32 (Y.toNat : Int))).toNat : Int) = ((f X Y).toNat : Int) := by
  rw [ofInt_toNat32, ofInt_toNat32, wu32b]
theorem p_xor32 {t t' : TypeId} {x y : Operand} {X Y : BitVec 32} (hx : ev e x = some (u32v X)) (hy : ev e y = some (u32v Y)) : Pu P S n ⟨dst, .binOp .xor t x y t', rt, pos, af, gd⟩ e (u32v (X ^^^ Y)) :=
  p_bits (by simp) hx hy (fun w => by simp [Op.intBits]; exact bits32 (· ^^^ ·) X Y)
theorem p_and32 {t t' : TypeId} {x y : Operand} {X Y : BitVec 32} (hx : ev e x = some (u32v X)) (hy : ev e y = some (u32v Y)) : Pu P S n ⟨dst, .binOp .and t x y t', rt, pos, af, gd⟩ e (u32v (X &&& Y)) :=
  p_bits (by simp) hx hy (fun w => by simp [Op.intBits]; exact bits32 (· &&& ·) X Y)
theorem p_or32 {t t' : TypeId} {x y : Operand} {X Y : BitVec 32} (hx : ev e x = some (u32v X)) (hy : ev e y = some (u32v Y)) : Pu P S n ⟨dst, .binOp .or t x y t', rt, pos, af, gd⟩ e (u32v (X ||| Y)) :=
  p_bits (by simp) hx hy (fun w => by simp [Op.intBits]; exact bits32 (· ||| ·) X Y)
theorem p_add32 {t t' : TypeId} {x y : Operand} {X Y : BitVec 32} (hx : ev e x = some (u32v X)) (hy : ev e y = some (u32v Y)) : Pu P S n ⟨dst, .binOp .add t x y t', rt, pos, af, gd⟩ e (u32v (X + Y)) :=
  p_add hx hy (by rw [← Int.natCast_add, wu32n, BitVec.toNat_add])
theorem p_not32 {t : TypeId} {x : Operand} {X : BitVec 32} (hx : ev e x = some (u32v X)) : Pu P S n ⟨dst, .unOp .xor t x, rt, pos, af, gd⟩ e (u32v (~~~X)) := fun a F w _ => by
  have h2 : (Op.unary .xor (u32v X)).run P w = .ok (u32v (~~~X)) w := by
    have h1 : BitVec.ofInt 32 (4294967295 : Int) = BitVec.allOnes 32 := by decide
    have h3 := bits32 (fun _ y => BitVec.ofInt 32 (4294967295 : Int) ^^^ y) X X
    have h4 : BitVec.ofInt 32 (4294967295 : Int) ^^^ X = ~~~X := by rw [h1]; exact BitVec.allOnes_xor
    rw [h4] at h3
    show Result.ok (Value.int .u32 (IntKind.u32.wrap ((BitVec.ofInt 32 (4294967295 : Int) ^^^ BitVec.ofInt 32 (X.toNat : Int)).toNat : Int))) w = _
    rw [h3]
  simp [execOp, F.ev hx, h2]
/-- A shift to the right by a number of bits that is known. -/
theorem p_shr32 {t t' : TypeId} {x y : Operand} {k' : IntKind} {X : BitVec 32} {Y : Nat} (hx : ev e x = some (u32v X)) (hy : ev e y = some (.int k' (Y : Int))) : Pu P S n ⟨dst, .binOp .shr t x y t', rt, pos, af, gd⟩ e (u32v (X >>> Y)) :=
  p_shr hx hy (by omega) (by
    have hX := X.isLt
    simp only [Int.toNat_natCast, IntKind.bits, BitVec.toNat_ushiftRight]
    rw [show ((2 : Int) ^ (min Y 32)) = ((2 ^ (min Y 32) : Nat) : Int) by push_cast; rfl, Int.fdiv_eq_ediv_of_nonneg _ (Int.natCast_nonneg _), ← Int.natCast_ediv, Nat.shiftRight_eq_div_pow]
    rcases Nat.le_total Y 32 with h | h
    · rw [Nat.min_eq_left h]
    · rw [Nat.min_eq_right h, Nat.div_eq_of_lt (by omega), Nat.div_eq_of_lt (Nat.lt_of_lt_of_le hX (Nat.pow_le_pow_right (by omega) h))])
theorem p_shl32 {t t' : TypeId} {x y : Operand} {k' : IntKind} {X : BitVec 32} {Y : Nat} (hx : ev e x = some (u32v X)) (hy : ev e y = some (.int k' (Y : Int))) : Pu P S n ⟨dst, .binOp .shl t x y t', rt, pos, af, gd⟩ e (u32v (X <<< Y)) :=
  p_shl hx hy (by omega) (by
    simp only [Int.toNat_natCast, IntKind.bits, BitVec.toNat_shiftLeft]
    rw [show ((2 : Int) ^ (min Y 32)) = ((2 ^ (min Y 32) : Nat) : Int) by push_cast; rfl, ← Int.natCast_mul, wu32n, Nat.shiftLeft_eq]
    rcases Nat.le_total Y 32 with h | h
    · rw [Nat.min_eq_left h]
    · rw [Nat.min_eq_right h]
      congr 1
      obtain ⟨d, rfl⟩ := Nat.exists_eq_add_of_le h
      rw [Nat.pow_add, ← Nat.mul_assoc, Nat.mul_right_comm, Nat.mul_mod_left, Nat.mul_mod_left])
theorem p_conv {s t : TypeId} {x : Operand} {k k' : IntKind} {X Z : Int} {d : TypeDesc} (hs : P.underlying s = some d) (ht : P.underlying t = some (.int k')) (hx : ev e x = some (.int k X)) (hz : k'.wrap X = Z) : Pu P S n ⟨dst, .convert s t x, rt, pos, af, gd⟩ e (.int k' Z) := fun a F w _ => by
  subst hz; simp [execOp, F.ev hx, convert, run_underlying hs, run_underlying ht, Conv.intToInt]
theorem p_lenS {t : TypeId} {x : Operand} {E : TypeId} {A : Option Addr} {l c : Nat} (ht : P.underlying t = some (.slice E)) (hx : ev e x = some (.slice A l c)) : Pu P S n ⟨dst, .call { callee := .builtin .len, args := #[x], argTypes := #[t] }, rt, pos, af, gd⟩ e (i64 (l : Int)) := fun a F w _ => by
  simp [execOp, resolve, invoke, builtin, Builtin.len_, F.ev hx, run_underlying ht, goInt]
theorem p_ext {x : Operand} {i : Nat} {vs : Array Value} {v : Value} (hx : ev e x = some (.tuple vs)) (hv : vs[i]? = some v) : Pu P S n ⟨dst, .extract x i, rt, pos, af, gd⟩ e v := fun a F w _ => by
  simp [execOp, F.ev hx, Instr.extract, hv]
theorem p_nck {x : Operand} {p : Addr} (hx : ev e x = some (.pointer (some p))) : Pu P S n ⟨dst, .nilCheck x, rt, pos, af, gd⟩ e (.pointer (some p)) := fun a F w _ => by
  simp [execOp, F.ev hx]
theorem p_neT {t t' : TypeId} {x y : Operand} {s u : ByteArray} (hx : ev e x = some (.string s)) (hy : ev e y = some (.string u)) : Pu P S n ⟨dst, .binOp .neq t x y t', rt, pos, af, gd⟩ e (.bool (!(s.toList == u.toList))) := fun a F w _ => by
  simp [execOp, F.ev hx, F.ev hy, binOp, Op.stringOp, eqGuard]
theorem p_and64 {t t' : TypeId} {x y : Operand} {k : IntKind} {X Y Z : Int} (hx : ev e x = some (.int k X)) (hy : ev e y = some (.int k Y)) (hz : k.wrap ((BitVec.ofInt k.bits X &&& BitVec.ofInt k.bits Y).toNat : Int) = Z) : Pu P S n ⟨dst, .binOp .and t x y t', rt, pos, af, gd⟩ e (.int k Z) :=
  p_bits (by simp) hx hy (fun w => by subst hz; simp [Op.intBits])
theorem ofInt_toNat8 (x : UInt8) : BitVec.ofInt 8 (x.toNat : Int) = x.toBitVec := by
  rw [BitVec.ofInt_natCast]
  apply BitVec.eq_of_toNat_eq
  rw [BitVec.toNat_ofNat]; exact Nat.mod_eq_of_lt x.toNat_lt
theorem p_xor8 {t t' : TypeId} {x y : Operand} {X Y : UInt8} (hx : ev e x = some (u8v X)) (hy : ev e y = some (u8v Y)) : Pu P S n ⟨dst, .binOp .xor t x y t', rt, pos, af, gd⟩ e (u8v (X ^^^ Y)) :=
  p_bits (by simp) hx hy (fun w => by
    simp only [Op.intBits]
    show Result.ok (Value.int .u8 (IntKind.u8.wrap ((BitVec.ofInt 8 (X.toNat : Int) ^^^ BitVec.ofInt 8 (Y.toNat : Int)).toNat : Int))) w = _
    rw [ofInt_toNat8, ofInt_toNat8, ← UInt8.toBitVec_xor]
    rw [show ((X ^^^ Y).toBitVec.toNat : Int) = ((X ^^^ Y).toNat : Int) from rfl, wu8 (by have := (X ^^^ Y).toNat_lt; omega)])
theorem bit8 {k : Nat} (h : k < 8) (x : UInt8) : x ^^^ UInt8.ofNat (2 ^ k) ≠ x := by
  intro e
  have e2 := congrArg (fun z => x ^^^ z) e
  simp only [← UInt8.xor_assoc, UInt8.xor_self, UInt8.zero_xor] at e2
  have key : ∀ k : Fin 8, UInt8.ofNat (2 ^ k.val) ≠ 0 := by decide +kernel
  exact key ⟨k, h⟩ e2
/-- A string's byte. -/
theorem p_ixT {t : TypeId} {x i : Operand} {s : ByteArray} {k : IntKind} {I : Int} {b : UInt8} (ht : P.underlying t = some .string) (hx : ev e x = some (.string s)) (hi : ev e i = some (.int k I)) (h0 : 0 ≤ I) (hb : s.data.toList[I.toNat]? = some b) : Pu P S n ⟨dst, .index t x i, rt, pos, af, gd⟩ e (u8v b) := fun a F w _ => by
  have : s[I.toNat]? = some b := by
    have hlt : I.toNat < s.data.toList.length := by
      rcases Nat.lt_or_ge I.toNat s.data.toList.length with h | h
      · exact h
      · rw [List.getElem?_eq_none h] at hb; cases hb
    have hlt' : I.toNat < s.size := by rw [Array.length_toList] at hlt; exact hlt
    rw [getElem?_pos s I.toNat hlt']
    rw [List.getElem?_eq_getElem hlt] at hb
    rw [ByteArray.getElem_eq_getElem_data]
    simp only [Array.getElem_toList] at hb
    exact hb
  have h2 : (Instr.index t (.string s) (.int k I)).run P w = .ok (u8v b) w := by
    simp only [Instr.index, asIntOf, Sem.run_bind, Sem.run_pure, Result.andThen_ok, run_underlying ht, if_pos h0, this]
  simp only [execOp, F.ev hx, F.ev hi, Sem.run_bind, h2, Result.andThen_ok, Sem.run_pure]
end
end Go.Gx
