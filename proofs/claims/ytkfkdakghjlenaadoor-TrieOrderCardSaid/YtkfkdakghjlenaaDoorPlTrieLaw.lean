/-
  Own text: plain: what a proof of one key says.
-/
import Derived.Test.YtkfkdakghjlenaaDoorPlEncs
set_option linter.unusedSimpArgs false
set_option linter.unusedVariables false
namespace Go.Plain
open Go.Gx
namespace Tr
theorem way_good : ∀ {t : Tr} {k : H8} {last : Int}, t.WF → last < (t.bit : Int) → goodS last (t.way k) = true
  | leaf _ _, k, last, _, _ => rfl
  | fork b x y, k, last, h, hl => by
    obtain ⟨hb, hx, hy, hbx, hby, _⟩ := id h
    simp only [bit] at hl
    rw [way]
    split
    · rw [goodS, way_good (last := (b : Int)) hx (by omega)]; simp; omega
    · rw [goodS, way_good (last := (b : Int)) hy (by omega)]; simp; omega
theorem way_climb : ∀ {t : Tr} {k : H8}, t.WF → climbS k (t.find k).1 (itemH (t.find k).1 (t.find k).2) (t.way k) = some t.root
  | leaf _ _, k, _ => rfl
  | fork b x y, k, h => by
    obtain ⟨hb, hx, hy, hbx, hby, h0, h1, _⟩ := id h
    rw [way, find]
    split
    · rename_i hk
      rw [climbS, way_climb hx]
      have := h0 _ (find_mem (t := x) (k := k))
      simp only [bitI_nat, hk, this, if_true, root]
    · rename_i hk
      rw [climbS, way_climb hy]
      have := h1 _ (find_mem (t := y) (k := k))
      have hk1 : bitN k b = 1 := by have := bit01 k b; omega
      simp only [bitI_nat, hk1, this, if_true, root]
      simp
theorem way_other : ∀ {t : Tr} {a b : H8} {h : H8}, t.WF → climbS b (t.find a).1 (itemH (t.find a).1 (t.find a).2) (t.way a) = some h → t.find b = t.find a
  | leaf _ _, a, b, h, _, _ => rfl
  | fork c x y, a, b, h, hw, e => by
    obtain ⟨hb, hx, hy, hbx, hby, h0, h1, _⟩ := id hw
    rw [way, find] at e
    rw [find, find]
    split at e
    · rename_i hk
      rw [if_pos hk]
      rw [climbS] at e
      cases hr : climbS b (x.find a).1 (itemH (x.find a).1 (x.find a).2) (x.way a) with
      | none => rw [hr] at e; cases e
      | some h' =>
        rw [hr] at e
        have := h0 _ (find_mem (t := x) (k := a))
        simp only [bitI_nat, this] at e
        by_cases hbb : bitN b c = 0
        · rw [if_pos hbb]; exact way_other hx hr
        · rw [if_neg hbb] at e; cases e
    · rename_i hk
      rw [if_neg hk]
      rw [climbS] at e
      cases hr : climbS b (y.find a).1 (itemH (y.find a).1 (y.find a).2) (y.way a) with
      | none => rw [hr] at e; cases e
      | some h' =>
        rw [hr] at e
        have := h1 _ (find_mem (t := y) (k := a))
        simp only [bitI_nat, this] at e
        by_cases hbb : bitN b c = 1
        · rw [if_neg (by omega)]; exact way_other hy hr
        · rw [if_neg hbb] at e; cases e
end Tr
section
variable {e : Option Tr} {k a b u x v w : H8} {lf has ok is : Bool}
theorem bit_pos {t : Tr} (h : t.Ok) : (-1 : Int) < (t.bit : Int) := by omega
theorem good_ok (hw : WFO e) (he : (u, x, lf) = endT e k) : Prf.goodE (wayT e k) lf u x = true := by
  cases e with
  | none =>
    injection he with e1 e2
    injection e2 with e2 e3
    subst e1; subst e2; subst e3
    rw [good_end rfl]; simp [wayT]
  | some t =>
    injection he with e1 e2
    injection e2 with e2 e3
    subst e3
    exact good_lf (Tr.way_good (hw t rfl) (by omega))
theorem holds_ok (hw : WFO e) (he : (u, x, lf) = endT e k) (hc : (v, has, ok) = checkP (rootT e) k (wayT e k) lf u x) (hg : (w, is) = ((getT e k).getD zeroH, (getT e k).isSome)) :
    Prf.goodE (wayT e k) lf u x = true ∧ ok = true ∧ has = is ∧ v = w := by
  have hgood := good_ok hw he
  refine ⟨hgood, ?_⟩
  injection hg with g1 g2
  cases e with
  | none =>
    injection he with e1 e2
    injection e2 with e2 e3
    subst e1; subst e2; subst e3
    have : climbP k (wayT none k) false zeroH zeroH = some noneH := by rw [climbP, if_neg (by rw [hgood]; simp), if_pos rfl]
    rw [checkP, this] at hc
    simp [rootT] at hc
    simp [hc, g1, g2, getT]
  | some t =>
    have hwt := hw t rfl
    injection he with e1 e2
    injection e2 with e2 e3
    subst e1; subst e2; subst e3
    have hcl : climbP k (wayT (some t) k) true (t.find k).1 (t.find k).2 = some t.root := by
      rw [climbP, if_neg (by rw [hgood]; simp), if_neg (by simp)]; exact Tr.way_climb hwt
    rw [checkP, hcl] at hc
    rw [getT] at g1 g2
    by_cases hk : (t.find k).1 = k
    · simp [rootT, hk] at hc
      simp [hk] at g1 g2
      simp [hc, g1, g2]
    · simp [rootT, hk] at hc
      simp [hk] at g1 g2
      simp [hc, g1, g2]
theorem others_ok (hw : WFO e) (he : (u, x, lf) = endT e a) (hc : (v, has, ok) = checkP (rootT e) b (wayT e a) lf u x) (hg : (w, is) = ((getT e b).getD zeroH, (getT e b).isSome)) :
    (ok = false → v = zeroH ∧ has = false) ∧ (ok = true → has = is ∧ v = w) := by
  have hgood := good_ok hw he
  injection hg with g1 g2
  unfold checkP at hc
  split at hc
  · injection hc with c1 c2
    injection c2 with c2 c3
    exact ⟨fun _ => ⟨c1, c2⟩, fun h => absurd (c3.symm.trans h) (by simp)⟩
  · rename_i hn
    have hok : ok = true := by
      split at hc <;> (injection hc with c1 c2; injection c2 with c2 c3)
    refine ⟨fun h => absurd (hok.symm.trans h) (by simp), fun _ => ?_⟩
    cases e with
    | none =>
      injection he with e1 e2
      injection e2 with e2 e3
      subst e1; subst e2; subst e3
      simp at hc
      simp [getT] at g1 g2
      simp [hc, g1, g2]
    | some t =>
      have hwt := hw t rfl
      injection he with e1 e2
      injection e2 with e2 e3
      subst e1; subst e2; subst e3
      have hfb : t.find b = t.find a := by
        have h1 : (climbP b (wayT (some t) a) true (t.find a).1 (t.find a).2).isSome = true := by
          cases h : (climbP b (wayT (some t) a) true (t.find a).1 (t.find a).2).isSome with
          | true => rfl
          | false => exact absurd (.inl h) hn
        rw [climbP, if_neg (by rw [hgood]; simp), if_neg (by simp)] at h1
        obtain ⟨h, hh⟩ := Option.isSome_iff_exists.1 h1
        exact Tr.way_other hwt hh
      rw [getT, hfb] at g1 g2
      by_cases hk : (t.find a).1 = b
      · simp [hk] at hc g1 g2
        simp [hc, g1, g2]
      · simp [hk] at hc g1 g2
        simp [hc, g1, g2]
end
end Go.Plain
