/-
  Own text: plain law of layer 4: what the kinds are hashed of. No program in sight.
-/
import Derived.Test.YtkfkdakghjlenaaDoorPlShaB
set_option linter.unusedSimpArgs false
set_option linter.unusedVariables false
namespace Go.Plain
open Go.Gx
def leafH (b : List UInt8) : List UInt8 := shaF (0 :: b)
def nodeH (a b : List UInt8) : List UInt8 := shaF (1 :: (a ++ b))
def keyH (k : List UInt8) : List UInt8 := shaF (2 :: k)
def itemH (k v : List UInt8) : List UInt8 := shaF (3 :: (k ++ v))
def forkH (bit : UInt8) (a b : List UInt8) : List UInt8 := shaF (4 :: bit :: (a ++ b))
def noneH : List UInt8 := shaF [5]
def valH (v : List UInt8) : List UInt8 := shaF (6 :: v)
def emptyH : List UInt8 := shaF []
theorem leaf_of (b : List UInt8) : shaF ([0] ++ [b].flatten) = leafH b := by simp [leafH]
theorem node_of (a b : List UInt8) : shaF ([1] ++ [a, b].flatten) = nodeH a b := by simp [nodeH]
theorem key_of (b : List UInt8) : shaF ([2] ++ [b].flatten) = keyH b := by simp [keyH]
theorem item_of (a b : List UInt8) : shaF ([3] ++ [a, b].flatten) = itemH a b := by simp [itemH]
theorem fork_of (x : UInt8) (a b : List UInt8) : shaF ([4] ++ [[x], a, b].flatten) = forkH x a b := by simp [forkH]
theorem none_of_ : shaF ([5] ++ ([] : List (List UInt8)).flatten) = noneH := rfl
theorem val_of (b : List UInt8) : shaF ([6] ++ [b].flatten) = valH b := by simp [valH]
theorem leafH_len (b : List UInt8) : (leafH b).length = 32 := shaF_len _
theorem nodeH_len (a b : List UInt8) : (nodeH a b).length = 32 := shaF_len _
theorem keyH_len (b : List UInt8) : (keyH b).length = 32 := shaF_len _
theorem itemH_len (a b : List UInt8) : (itemH a b).length = 32 := shaF_len _
theorem forkH_len (x : UInt8) (a b : List UInt8) : (forkH x a b).length = 32 := shaF_len _
theorem noneH_len : noneH.length = 32 := shaF_len _
theorem valH_len (b : List UInt8) : (valH b).length = 32 := shaF_len _
theorem emptyH_len : emptyH.length = 32 := shaF_len _
theorem cat_two {a b c d : List UInt8} (h : a.length = c.length) : a ++ b = c ++ d ↔ a = c ∧ b = d := by
  constructor
  · intro e; exact List.append_inj e h
  · rintro ⟨rfl, rfl⟩; rfl
theorem beq_str {p q : List UInt8} : ((str p).toList == (str q).toList) = (p == q) := by
  by_cases h : p = q
  · subst h; rw [eqT_of rfl]; simp
  · have h1 : ¬ str p = str q := fun e => h (str_inj e)
    have h2 : (p == q) = false := by simpa using h
    rw [h2]
    cases h3 : ((str p).toList == (str q).toList) with
    | false => rfl
    | true => exact absurd (eqT_true h3) h1
theorem sides_one {a b c d : List UInt8} (h : a.length = c.length) : ((str ([1] ++ [a, b].flatten)).toList == (str ([1] ++ [c, d].flatten)).toList) = (a == c && b == d) := by
  rw [beq_str, Bool.eq_iff_iff]
  simp [cat_two h]
theorem sides_four {x : UInt8} {a b c d : List UInt8} (h : a.length = c.length) : ((str ([4] ++ [[x], a, b].flatten)).toList == (str ([4] ++ [[x], c, d].flatten)).toList) = (a == c && b == d) := by
  rw [beq_str, Bool.eq_iff_iff]
  simp [cat_two h]
theorem getD_memL {q : List (List UInt8)} {i : Nat} (h : i < q.length) : q.getD i [] ∈ q := by
  simp only [List.getD, List.getElem?_eq_getElem h, Option.getD_some]; exact List.getElem_mem h
end Go.Plain
