/-
  Own text: noughts put behind a row of bytes; a slice's memory as an array.
-/
import Derived.Test.YtkfkdakghjlenaaDoorGxAny
import Derived.Lib.AppendZerosOnto
set_option linter.unusedSimpArgs false
set_option linter.unusedVariables false
namespace Go.Gx
open Go.RowKit
theorem zc_u8 (m : Nat) : Builtin.zeroCells (Value.int IntKind.u8 0).cells m = (List.replicate m (Value.int IntKind.u8 0)).toArray := by
  apply Array.toList_inj.1
  have e : (Value.int IntKind.u8 0).cells = #[Value.int IntKind.u8 0] := rfl
  have h1 : (#[Value.int IntKind.u8 0] : Array Value).size = 1 := rfl
  rw [e]
  unfold Builtin.zeroCells
  rw [h1, Nat.mul_one, Array.toList_map, Array.toList_range, List.toList_toArray]
  have h2 : (fun i => (#[Value.int IntKind.u8 0] : Array Value)[i % 1]!) = fun _ : Nat => Value.int IntKind.u8 0 := by
    funext i
    rw [Nat.mod_one]
    rfl
  rw [h2]
  induction m with
  | zero => rfl
  | succ m ih => rw [List.range_succ, List.map_append, ih, List.map_cons, List.map_nil, List.replicate_succ']
section
variable {P : Program} {Q : Exit → Act → World → Prop} {n : Nat} {e : Env} {w : World} {K : Env → World → Prop} {d : Nat} {rt : TypeId} {pos : String} {af : Array Edge} {gd : Option (Nat × Bool)}
end
section
variable {P : Program} {S : World → Prop} {n : Nat} {e : Env} {dst : Option Tmp} {rt : TypeId} {pos : String} {af : Array Edge} {gd : Option (Nat × Bool)}
/-- A slice as a pointer to an array. -/
theorem p_s2a {t E : TypeId} {N l c : Nat} {A : Option Addr} {x : Operand} (ht : P.underlying t = some (.array N E)) (hx : ev e x = some (.slice A l c)) (hl : N ≤ l) : Pu P S n ⟨dst, .sliceToArrayPointer t x, rt, pos, af, gd⟩ e (.pointer A) := fun a F w _ => by
  have h : ¬ l < N := by omega
  simp [execOp, F.ev hx, Instr.arrayAt, run_underlying ht, h]
theorem Sl.range {w : World} {F : Nat → Prop} {b o l c : Nat} {xs : List UInt8} (h : Sl w F u8v (some ⟨b, o, none⟩) l c xs) : w.rangeAt b o (xs.map u8v) := fun j v hv => by
  rcases h.rd with h1 | ⟨b', o', h1, _, h2⟩
  · rw [h1] at hv; simp at hv
  · cases h1; exact h2 j v hv
end
section
variable {P : Program} {Q : Exit → Act → World → Prop} {n : Nat} {e : Env} {w : World} {K : Env → World → Prop} {rt : TypeId} {pos : String} {af : Array Edge} {gd : Option (Nat × Bool)}
end
end Go.Gx
