/-
  Own text: arrays of two arrays of bytes. Over any program.
-/
import Derived.Test.YtdbdconmcgcooaaDoorGxAgg
set_option linter.unusedVariables false
namespace Go.Gx
open Go.RowKit
section
variable {w : World} {g : Nat} {t : TypeId} {a b : List UInt8} {n : Nat}
theorem rng_fst (h : Blk w g t ((a ++ b).map u8v).toArray) : w.rangeAt g (0 + 0) (a.map u8v) := rng_blk h (by simp)
theorem rng_snd (h : Blk w g t ((a ++ b).map u8v).toArray) (ha : a.length = n) : w.rangeAt g (0 + n) (b.map u8v) := rng_blk h (by subst ha; simp; exact List.take_of_length_le (by simp))
theorem sl_fst (h : Blk w g t ((a ++ b).map u8v).toArray) (ha : a.length = n) : Sl w (fun k => k = g) u8v (some ⟨g, 0 + 0, none⟩) n n a :=
  ⟨.inr ⟨g, 0 + 0, rfl, rfl, fun j u hj => rng_fst h j u hj⟩, ha, Nat.le_refl _⟩
theorem sl_snd {m : Nat} (h : Blk w g t ((a ++ b).map u8v).toArray) (ha : a.length = n) (hb : b.length = m) : Sl w (fun k => k = g) u8v (some ⟨g, 0 + n, none⟩) m m b :=
  ⟨.inr ⟨g, 0 + n, rfl, rfl, fun j u hj => rng_snd h ha j u hj⟩, hb, Nat.le_refl _⟩
end
section
variable {P : Program} {S : World → Prop} {n : Nat} {e : Env} {dst : Option Tmp} {rt : TypeId} {pos : String} {af : Array Edge} {gd : Option (Nat × Bool)}
theorem ext_fst {a b : List UInt8} {m : Nat} (ha : a.length = m) : (((a ++ b).map u8v).toArray).extract 0 (0 + m) = (a.map u8v).toArray := by
  subst ha
  apply Array.toList_inj.1
  simp
theorem ext_snd {a b : List UInt8} {m : Nat} (ha : a.length = m) (hb : b.length = m) : (((a ++ b).map u8v).toArray).extract m (m + m) = (b.map u8v).toArray := by
  apply Array.toList_inj.1
  simp [List.extract_eq_take_drop, ← ha]
  exact List.take_of_length_le (by simp; omega)
theorem eqv_hash2 {d : Nat} {t E B : TypeId} {N : Nat} {i : TypeInfo} {a b x y : List UInt8} (ht : P.underlying t = some (.array 2 E)) (hE : P.underlying E = some (.array N B)) (hB : P.underlying B = some (.int .u8)) (hsz : (P.info? B).map (·.size) = some 1) (hi : P.info? E = some i) (hN : i.size = N) (hc : P.cellsOf E = i.size)
    (ha : a.length = N) (hb : b.length = N) (hx : x.length = N) (hy : y.length = N) : EqV P (d + 3) t (hv (a ++ b)) (hv (x ++ y)) (a == x && b == y) := by
  subst hN
  refine eqv_pair ht hE rfl hi hc ?_ ?_
  · rw [ext_fst ha, ext_fst hx]; exact eqv_hash hE hB hsz ha hx
  · rw [ext_snd ha hb, ext_snd hx hy]; exact eqv_hash hE hB hsz hb hy
theorem p_eqH2 {t t' E B : TypeId} {N : Nat} {x y : Operand} {a b c d : List UInt8} (hg : P.eqGuardType P.depth t = false) (ht : P.underlying t = some (.array 2 E)) (hE : P.underlying E = some (.array N B)) (hB : P.underlying B = some (.int .u8)) (hsz : (P.info? B).map (·.size) = some 1) (hi : (P.info? E).map (·.size) = some N) (hc : P.cellsOf E = N) (hx : ev e x = some (hv (a ++ b))) (hy : ev e y = some (hv (c ++ d)))
    (h1 : a.length = N) (h2 : b.length = N) (h3 : c.length = N) (h4 : d.length = N) : Pu P S n ⟨dst, .binOp .eql t x y t', rt, pos, af, gd⟩ e (.bool (a == c && b == d)) := by
  obtain ⟨i, hi', hs⟩ := Option.map_eq_some_iff.1 hi
  exact p_eqV hg hx hy (eqv_hash2 (d := 9997) ht hE hB hsz hi' hs (by rw [hc, hs]) h1 h2 h3 h4)
end
theorem b8i_idem (x : Int) : b8i ((b8i x).toNat : Int) = b8i x := by
  rw [b8i_nat]; simp
end Go.Gx
