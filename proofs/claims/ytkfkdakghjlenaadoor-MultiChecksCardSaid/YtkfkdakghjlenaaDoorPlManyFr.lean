/-
  Own text: how a node of a proof of many keys is opened that came in.
-/
import Derived.Test.YtkfkdakghjlenaaDoorPlRecFr
import Derived.Test.YtkfkdakghjlenaaDoorPlMany
set_option linter.unusedSimpArgs false
set_option linter.unusedVariables false
namespace Go.Gx
open Go.RowKit Go.Plain
section
variable {H : Type} {enc : TypeId × Value → H} {P : Program} {w : World} {held : Bool} {fuel : Nat} {t : TypeId} {cs : List Value} {d : DataW H} {p : List MemPlace}
theorem tr_node {f0 f1 f2 f3 : Field} {b2 b3 : TypeId} (hu : P.underlying t = some (.struct #[f0, f1, f2, f3])) (hn : P.cellsOf t = 66) (ho : (f0.offset, f1.offset, f2.offset, f3.offset) = (0, 1, 2, 34)) (hc : (P.cellsOf f0.type, P.cellsOf f1.type, P.cellsOf f2.type, P.cellsOf f3.type) = (1, 1, 32, 32))
    (u0 : P.underlying f0.type = some (.int .i64)) (u1 : P.underlying f1.type = some (.int .i64)) (u2 : P.underlying f2.type = some (.array 32 b2)) (u3 : P.underlying f3.type = some (.array 32 b3)) (v2 : P.underlying b2 = some (.int .u8)) (v3 : P.underlying b3 = some (.int .u8)) (k2 : P.cellsOf b2 = 1) (k3 : P.cellsOf b3 = 1)
    (h : DataW.trod enc P w 0 (fun _ => true) held fuel t cs = some (d, p)) (hz : Light P t d) : ∃ x, cs = eND.f x ∧ eND.ok x := by
  obtain ⟨hl, hf⟩ := tr_fld hu h hz
  simp only [Prod.mk.injEq] at ho hc
  obtain ⟨m0, d0, p0, h0, z0⟩ := hf 0 f0 rfl
  obtain ⟨m1, d1, p1, h1, z1⟩ := hf 1 f1 rfl
  obtain ⟨m2, d2, p2, h2, z2⟩ := hf 2 f2 rfl
  obtain ⟨m3, d3, p3, h3, z3⟩ := hf 3 f3 rfl
  obtain ⟨a, ea, _⟩ := tr_int u0 h0
  obtain ⟨b, eb, _⟩ := tr_int u1 h1
  obtain ⟨pk, ek, lk⟩ := tr_hash u2 v2 k2 hc.2.2.1 h2 z2
  obtain ⟨pv, ev, lv⟩ := tr_hash u3 v3 k3 hc.2.2.2 h3 z3
  rw [ho.1, hc.1, List.drop_zero] at ea
  rw [ho.2.1, hc.2.1] at eb
  rw [ho.2.2.1, hc.2.2.1] at ek
  rw [ho.2.2.2, hc.2.2.2, List.take_of_length_le (by rw [List.length_drop, hl, hn]; omega)] at ev
  refine ⟨⟨a, b, pk, pv⟩, ?_, lk, lv⟩
  show cs = [i64 a, i64 b] ++ (List.map u8v pk ++ List.map u8v pv)
  rw [← ek, ← ev, show cs.drop 34 = (cs.drop 2).drop 32 by rw [List.drop_drop], List.take_append_drop, show ([i64 a, i64 b] : List Value) = [i64 a] ++ [i64 b] from rfl, show [i64 a] = cs.take 1 from ea.symm, show [i64 b] = (cs.drop 1).take 1 from eb.symm, List.append_assoc, show cs.drop 2 = (cs.drop 1).drop 1 by rw [List.drop_drop], List.take_append_drop, List.take_append_drop]
end
end Go.Gx
