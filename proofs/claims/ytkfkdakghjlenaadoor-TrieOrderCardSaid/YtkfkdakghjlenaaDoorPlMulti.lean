/-
  Own text: plain: ways and proofs of keys: of one, of many; what they lead to, what they say of a key.
-/
import Derived.Test.YtkfkdakghjlenaaDoorPlTrieW
set_option linter.unusedSimpArgs false
set_option linter.unusedVariables false
namespace Go.Plain
open Go.Gx
/-! ### One key -/
structure Stp where
  bit : Int
  side : H8
namespace Tr
/-- The way down to where a key would be. -/
def way : Tr → H8 → List Stp
  | leaf _ _, _ => []
  | fork b x y, k => if bitN k b = 0 then ⟨(b : Int), y.root⟩ :: x.way k else ⟨(b : Int), x.root⟩ :: y.way k
theorem way_len : ∀ (t : Tr) (k : H8), ∀ s ∈ t.way k, s.side.length = 32
  | leaf _ _, _, s, hs => by simp [way] at hs
  | fork b x y, k, s, hs => by
    rw [way] at hs
    split at hs
    · rcases List.mem_cons.1 hs with rfl | hs
      · exact root_len
      · exact way_len x k s hs
    · rcases List.mem_cons.1 hs with rfl | hs
      · exact root_len
      · exact way_len y k s hs
end Tr
/-- Bits rise from last on, and are of a key. -/
def goodS : Int → List Stp → Bool
  | _, [] => true
  | last, s :: r => !(decide (s.bit ≤ last) || decide (255 < s.bit)) && goodS s.bit r
/-- Up along a way: none where the keys part. -/
def climbS (k key h0 : H8) : List Stp → Option H8
  | [] => some h0
  | s :: r => match climbS k key h0 r with
    | none => none
    | some h => if bitI k s.bit = bitI key s.bit then some (if bitI k s.bit = 0 then forkH (b8i s.bit) h s.side else forkH (b8i s.bit) s.side h) else none
structure Prf where
  steps : List Stp
  leaf : Bool
  key : H8
  val : H8
def Prf.good (p : Prf) : Bool := goodS (-1) p.steps && (p.leaf || (decide (p.steps = [] ∧ p.key = zeroH ∧ p.val = zeroH)))
instance : DecidableEq Stp := fun a b => by
  cases a; cases b
  rename_i x1 y1 x2 y2
  exact if h : x1 = x2 ∧ y1 = y2 then isTrue (by rw [h.1, h.2]) else isFalse (fun e => h (by injection e with e1 e2; exact ⟨e1, e2⟩))
theorem prf_end {st : List Stp} {ls : Nat} {pk pv : H8} (h : st.length = ls) : (decide ((ls : Int) = 0) && ((pk == zeroH) && ((pv == zeroH) && true))) = decide (st = [] ∧ pk = zeroH ∧ pv = zeroH) := by
  have e : ((ls : Int) = 0) ↔ st = [] := by
    rw [← h]
    constructor
    · intro h0; exact List.eq_nil_of_length_eq_zero (by omega)
    · intro h0; subst h0; rfl
  have e2 : decide ((ls : Int) = 0) = decide (st = []) := decide_eq_decide.2 e
  rw [e2]
  by_cases h1 : st = [] <;> by_cases h2 : pk = zeroH <;> by_cases h3 : pv = zeroH <;> simp [h1, h2, h3]
def Prf.goodE (st : List Stp) (lf : Bool) (pk pv : H8) : Bool := Prf.good ⟨st, lf, pk, pv⟩
theorem good_no {st : List Stp} {lf : Bool} {pk pv : H8} (h : goodS (-1) st = false) : Prf.goodE st lf pk pv = false := by simp [Prf.goodE, Prf.good, h]
theorem good_lf {st : List Stp} {pk pv : H8} (h : goodS (-1) st = true) : Prf.goodE st true pk pv = true := by simp [Prf.goodE, Prf.good, h]
theorem good_end {st : List Stp} {pk pv : H8} (h : goodS (-1) st = true) : Prf.goodE st false pk pv = decide (st = [] ∧ pk = zeroH ∧ pv = zeroH) := by simp [Prf.goodE, Prf.good, h]
/-- What a proof leads to. -/
def climbP (k : H8) (st : List Stp) (lf : Bool) (pk pv : H8) : Option H8 := if Prf.goodE st lf pk pv = false then none else if lf = false then some noneH else climbS k pk (itemH pk pv) st
section
variable {k pk h0 h : H8} {st : List Stp} {y : Stp}
theorem climb_app : ∀ {l r : List Stp}, climbS k pk h0 r = none → climbS k pk h0 (l ++ r) = none
  | [], r, h => h
  | x :: l, r, h => by rw [List.cons_append, climbS, climb_app h]
theorem climb_no {x ls p : Nat} (hd : st.drop x = y :: st.drop (x + 1)) (hx : x + 1 = ls - p) (hc : climbS k pk h0 (st.drop (ls - p)) = some h) (hb : bitI k y.bit ≠ bitI pk y.bit) : climbS k pk h0 st = none := by
  rw [← hx] at hc
  have : climbS k pk h0 (st.drop x) = none := by rw [hd, climbS, hc]; simp [hb]
  rw [← List.take_append_drop x st]
  exact climb_app this
theorem climb_ok {x ls p s : Nat} {u : H8} (hd : st.drop x = y :: st.drop (x + 1)) (hx : x + 1 = ls - p) (hc : climbS k pk h0 (st.drop (ls - p)) = some h) (hb : bitI k y.bit = s) (hb2 : bitI pk y.bit = s) (hu : u = if s = 0 then forkH (b8i y.bit) h y.side else forkH (b8i y.bit) y.side h) : climbS k pk h0 (st.drop (ls - (p + 1))) = some u := by
  rw [← hx] at hc
  rw [show ls - (p + 1) = x by omega, hd, climbS, hc, hu, hb, hb2]
  simp
end
/-- What a proof says of a key under a root. -/
def checkP (r k : H8) (st : List Stp) (lf : Bool) (pk pv : H8) : H8 × Bool × Bool :=
  if (climbP k st lf pk pv).isSome = false ∨ (climbP k st lf pk pv).getD zeroH ≠ r then (zeroH, false, false) else if lf = true ∧ pk = k then (pv, true, true) else (zeroH, false, true)
section
variable {r k cu pk pv : H8} {st : List Stp} {lf cok : Bool} (hc : (cu, cok) = ((climbP k st lf pk pv).getD zeroH, (climbP k st lf pk pv).isSome))
include hc
theorem ck_a (h : (!cok) = true) : (zeroH, false, false) = checkP r k st lf pk pv := by
  injection hc with e1 e2
  unfold checkP
  rw [if_pos (.inl (by rw [← e2]; simpa using h))]
theorem ck_b (h : (!(cu == r)) = true) : (zeroH, false, false) = checkP r k st lf pk pv := by
  injection hc with e1 e2
  unfold checkP
  rw [if_pos (.inr (by rw [← e1]; simpa using h))]
theorem ck_e (h1 : (!cok) = false) (h2 : (!(cu == r)) = false) : checkP r k st lf pk pv = if lf = true ∧ pk = k then (pv, true, true) else (zeroH, false, true) := by
  injection hc with e1 e2
  unfold checkP
  rw [if_neg]
  rw [← e1, ← e2]
  intro h
  rcases h with h | h
  · rw [h] at h1; simp at h1
  · exact h (by simpa using h2)
theorem ck_c (h1 : (!cok) = false) (h2 : (!(cu == r)) = false) (h3 : lf = true) (h4 : (pk == k) = true) : (pv, true, true) = checkP r k st lf pk pv := by
  rw [ck_e hc h1 h2, if_pos ⟨h3, by simpa using h4⟩]
theorem ck_d (h1 : (!cok) = false) (h2 : (!(cu == r)) = false) (h3 : lf = false) : (zeroH, false, true) = checkP r k st lf pk pv := by
  rw [ck_e hc h1 h2, if_neg (by rw [h3]; simp)]
theorem ck_f (h1 : (!cok) = false) (h2 : (!(cu == r)) = false) (h4 : (pk == k) = false) : (zeroH, false, true) = checkP r k st lf pk pv := by
  rw [ck_e hc h1 h2, if_neg (fun h => by rw [h.2] at h4; simp at h4)]
end
end Go.Plain
