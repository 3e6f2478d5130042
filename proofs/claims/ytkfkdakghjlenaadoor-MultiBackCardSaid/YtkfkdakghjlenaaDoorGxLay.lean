/-
  Own text: records that hold runs of cells (hashes beside single cells): what is read and stored there, how one is made. Over any program.
-/
import Derived.Test.YtkfkdakghjlenaaDoorGxAny
import Derived.Test.YtkfkdakghjlenaaDoorGxZer
set_option linter.unusedSimpArgs false
set_option linter.unusedVariables false
namespace Go.Gx
open Go.RowKit
/-- A hash's cells, one by one. -/
def hx (L : List UInt8) : List Value := (List.range 32).map (fun i => u8v (L.getD i 0))
theorem map_hx {L : List UInt8} (h : L.length = 32) : L.map u8v = hx L := by
  apply List.ext_getElem?
  intro i
  unfold hx
  rw [List.getElem?_map, List.getElem?_map]
  by_cases hi : i < 32
  · rw [List.getElem?_range hi, List.getElem?_eq_getElem (by omega)]
    simp [List.getD, List.getElem?_eq_getElem (show i < L.length by omega)]
  · rw [List.getElem?_eq_none (by omega), List.getElem?_eq_none (by simp; omega)]; rfl
theorem oneA {p q : List Value} (hp : ∀ u ∈ p, u.oneCell' = true) (hq : ∀ u ∈ q, u.oneCell' = true) : ∀ u ∈ p ++ q, u.oneCell' = true := fun u hu => (List.mem_append.1 hu).elim (hp u) (hq u)
section
variable {w : World} {g o : Nat} {t : TypeId} {cs p q r : List Value} {v : Value}
theorem cell_at (h : Blk w g t cs.toArray) (he : cs = p ++ v :: r) (hp : p.length = o) : w.cell? ⟨g, o, none⟩ = some v := by
  subst he
  refine h.cell ?_
  rw [List.getElem?_toArray, List.getElem?_append_right (by omega), hp, Nat.sub_self]
  rfl
theorem rng_at (h : Blk w g t cs.toArray) (he : cs = p ++ (q ++ r)) (hp : p.length = o) : w.rangeAt g o q := by
  subst he
  refine rng_blk h ?_
  rw [List.toList_toArray, ← hp, List.drop_left, List.take_left]
end
section
variable {P : Program} {Q : Exit → Act → World → Prop} {n : Nat} {e : Env} {w : World} {K : Env → World → Prop} {rt : TypeId} {pos : String} {af : Array Edge} {gd : Option (Nat × Bool)}
/-- One cell of a record is stored. -/
theorem e_stC {t : TypeId} {a b : Operand} {g o : Nat} {E : TypeId} {cs p r : List Value} {u v : Value} (hi : (P.info? t).map (·.size) = some 1) (h1 : v.oneCell' = true) (hx : ev e a = some (.pointer (some ⟨g, o, none⟩))) (hy : ev e b = some v) (hb : Blk w g E cs.toArray) (he : cs = p ++ u :: r) (hp : p.length = o)
    (k : ∀ w', Blk w' g E (p ++ v :: r).toArray → Ch (fun k => k = g) w w' → w'.heap.size = w.heap.size → K e w') : OpE P n ⟨none, .store t a b, rt, pos, af, gd⟩ e w Q K := by
  subst he
  refine e_st hi h1 hx hy hb (by simp; omega) (fun w' h => k w' ?_)
  have : (p ++ u :: r).toArray.setIfInBounds o v = (p ++ v :: r).toArray := by
    apply Array.toList_inj.1
    rw [Array.toList_setIfInBounds, List.toList_toArray, ← hp, List.set_append_right _ _ (Nat.le_refl _), Nat.sub_self]
    rfl
  rw [this] at h
  exact h
/-- A run of cells of a record is stored. -/
theorem e_stR2 {t : TypeId} {a b : Operand} {g o : Nat} {E : TypeId} {cs p q r vs : List Value} (hi : (P.info? t).map (·.size) = some vs.length) (h1 : ∀ v ∈ vs, v.oneCell' = true) (hx : ev e a = some (.pointer (some ⟨g, o, none⟩))) (hy : ev e b = some (.agg vs.toArray)) (hb : Blk w g E cs.toArray) (he : cs = p ++ (q ++ r)) (hp : p.length = o) (hq : q.length = vs.length)
    (k : ∀ w', Blk w' g E (p ++ (vs ++ r)).toArray → Ch (fun k => k = g) w w' → w'.heap.size = w.heap.size → K e w') : OpE P n ⟨none, .store t a b, rt, pos, af, gd⟩ e w Q K := by
  subst he
  refine e_stA hi h1 hx hy hb (by simp; omega) (fun w' cs' h2 h3 h4 h5 => k w' ?_ h4 h5)
  have : cs' = (p ++ (vs ++ r)).toArray := by
    apply Array.toList_inj.1
    rw [h3, List.toList_toArray, List.toList_toArray, ← hp, List.take_left, ← hq, ← List.drop_drop, List.drop_left, List.drop_left, List.append_assoc]
  rw [this] at h2
  exact h2
end
section
variable {P : Program} {S : World → Prop} {n : Nat} {e : Env} {dst : Option Tmp} {rt : TypeId} {pos : String} {af : Array Edge} {gd : Option (Nat × Bool)}
/-- A record is made of parts; vs' and cs' are the parts and the whole, cell by cell. -/
theorem p_bldX {t : TypeId} {parts : Array (Nat × Operand)} {vs vs' : List Value} {cs cs' : List Value} (hvs : evs e (parts.toList.map (·.2)) = some vs) (hv : vs = vs') (hc : cs = cs') (hr : ∀ w, (Instr.build t ((parts.toList.map (·.1)).zip vs').toArray).run P w = .ok (.agg cs'.toArray) w) : Pu P S n ⟨dst, .build t parts, rt, pos, af, gd⟩ e (.agg cs.toArray) := by
  subst hv; subst hc
  exact p_bldP hvs hr
end
theorem and7_i64 (x : Nat) : IntKind.i64.wrap (((BitVec.ofInt 64 (x : Int)) &&& (BitVec.ofInt 64 7)).toNat : Int) = ((x % 8 : Nat) : Int) := by
  rw [BitVec.ofInt_natCast, BitVec.toNat_and, BitVec.toNat_ofNat, show (BitVec.ofInt 64 7).toNat = 2 ^ 3 - 1 from rfl, Nat.and_two_pow_sub_one_eq_mod, w64 (by omega)]
  omega
end Go.Gx
