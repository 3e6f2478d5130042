/-
  Own text: a region that draws its order, whose operations only lay new blocks: whatever the order, behind it each slot holds a value of which its operation's word is true.
-/
import Derived.Test.YtkfkdakghjlenaaDoorGxAgg
set_option linter.unusedSimpArgs false
set_option linter.unusedVariables false
namespace Go.Gx
open Go.RowKit
section
variable {P : Program} {ops : Array Oper} {Q : Exit → Act → World → Prop} {n : Nat} {e : Env} {w : World}
/-- How many of the first N are left. -/
def left_ (p : Nat → Bool) : Nat → Nat
  | 0 => 0
  | N + 1 => left_ p N + (if p N then 1 else 0)
theorem left_le {p q : Nat → Bool} (h : ∀ i, q i = true → p i = true) : ∀ N, left_ q N ≤ left_ p N
  | 0 => Nat.le_refl _
  | N + 1 => by
    have ih := left_le h N
    simp only [left_]
    by_cases hq : q N = true
    · rw [if_pos hq, if_pos (h N hq)]; omega
    · rw [if_neg hq]; split <;> omega
theorem left_lt {p q : Nat → Bool} (h : ∀ i, q i = true → p i = true) {j : Nat} (hp : p j = true) (hq : ¬ q j = true) : ∀ N, j < N → left_ q N < left_ p N
  | 0, hj => by omega
  | N + 1, hj => by
    simp only [left_]
    by_cases e : j = N
    · subst e
      have := left_le h j
      rw [if_pos hp, if_neg hq]; omega
    · have ih := left_lt h hp hq N (by omega)
      by_cases hq2 : q N = true
      · rw [if_pos hq2, if_pos (h N hq2)]; omega
      · rw [if_neg hq2]; split <;> omega
theorem left_none {p : Nat → Bool} : ∀ {N : Nat}, left_ p N = 0 → ∀ i, i < N → p i = false
  | 0, _, i, hi => by omega
  | N + 1, h, i, hi => by
    simp only [left_] at h
    by_cases e : i = N
    · subst e
      cases hp : p i with
      | false => rfl
      | true => rw [hp] at h; simp at h
    · exact left_none (N := N) (by omega) i (by omega)
/-- With what the operations of the list have yielded known. -/
def AnyDeps (Φ : Nat → Value → World → Prop) (dst : Nat → Nat) (w1 : World) : List Nat → Env → (Env → Prop) → Prop
  | [], env, K => K env
  | j :: r, env, K => ∀ v, Φ j v w1 → AnyDeps Φ dst w1 r ((dst j, v) :: env) K
def AnyOp (P : Program) (ops : Array Oper) (Q : Exit → Act → World → Prop) (n : Nat) (e : Env) (w : World) (Φ : Nat → Value → World → Prop) (dst : Nat → Nat) (deps : Nat → List Nat) (i : Nat) (o : Oper) : Prop :=
  ∀ w1, Ch No w w1 → AnyDeps Φ dst w1 (deps i) e (fun env => (∀ a, Fr n a env → Region.wanted o (yielded ops a.tmps) = true) ∧ OpE P n o env w1 Q (fun e' w2 => Ch No w1 w2 ∧ ∃ v, look (dst i) e' = some v ∧ Φ i v w2))
def AllAny (P : Program) (ops : Array Oper) (Q : Exit → Act → World → Prop) (n : Nat) (e : Env) (w : World) (Φ : Nat → Value → World → Prop) (dst : Nat → Nat) (deps : Nat → List Nat) : Nat → List Oper → Prop
  | _, [] => True
  | i, o :: r => AnyOp P ops Q n e w Φ dst deps i o ∧ AllAny P ops Q n e w Φ dst deps (i + 1) r
theorem AllAny.at_ {Φ : Nat → Value → World → Prop} {dst : Nat → Nat} {deps : Nat → List Nat} : ∀ {l : List Oper} {k : Nat}, AllAny P ops Q n e w Φ dst deps k l → ∀ {i : Nat} {o : Oper}, l[i]? = some o → AnyOp P ops Q n e w Φ dst deps (k + i) o
  | [], _, _, i, o, h => by simp at h
  | x :: r, k, hA, 0, o, h => by simp at h; subst h; exact hA.1
  | x :: r, k, hA, i + 1, o, h => by
    have := AllAny.at_ hA.2 (i := i) (o := o) (by simpa using h)
    rwa [show k + 1 + i = k + (i + 1) by omega] at this
structure AnyInv (ops : Array Oper) (n : Nat) (e : Env) (w : World) (Φ : Nat → Value → World → Prop) (dst : Nat → Nat) (listed : Array Bool) (a : Act) (w1 : World) : Prop where
  fr : Fr n a e
  ch : Ch No w w1
  done : ∀ i, i < ops.size → listed.getD i false = true → Φ i (a.tmps.getD (dst i) undef) w1
theorem getD_set_true_self {listed : Array Bool} {i : Nat} (hi : i < listed.size) : (listed.setIfInBounds i true).getD i false = true := by
  rw [Array.getD_eq_getD_getElem?]
  simp [hi]
theorem getD_tf {listed : Array Bool} {i : Nat} (h : listed.getD i true = false) : listed.getD i false = false := by
  rw [Array.getD_eq_getD_getElem?] at h ⊢
  cases h2 : listed[i]? with
  | none => rfl
  | some b => rw [h2] at h; exact h
theorem getD_ft {listed : Array Bool} {i : Nat} (hi : i < listed.size) (h : listed.getD i false = false) : listed.getD i true = false := by
  rw [Array.getD_eq_getD_getElem?, Array.getElem?_eq_getElem hi] at h ⊢
  exact h
end
end Go.Gx
