/-
  Own text: plain: trees of keys in order: what a key has behind a put and a drop, the order of the items, that a tree is known by its items.
-/
import Derived.Test.YtkfkdakghjlenaaDoorPlTrie
set_option linter.unusedSimpArgs false
set_option linter.unusedVariables false
namespace Go.Plain
open Go.Gx
/-! ### The order of keys -/
def ltK (a b : H8) : Prop := apartK a b < 256 ∧ bitN a (apartK a b) = 0
instance (a b : H8) : Decidable (ltK a b) := inferInstanceAs (Decidable (_ ∧ _))
section
variable {a b c : H8}
end
/-- In order. -/
def Srt (m : List (H8 × H8)) : Prop := m.Pairwise (fun x y => ltK x.1 y.1)
/-! ### The reference's maps -/
def mputA (k v : H8) : List (H8 × H8) → Bool → List (H8 × H8)
  | [], d => if d then [] else [(k, v)]
  | x :: r, d => (if d = false ∧ ¬ ltK x.1 k then [(k, v)] else []) ++ ((if x.1 = k then [] else [x]) ++ mputA k v r (d || !decide (ltK x.1 k)))
def mput (m : List (H8 × H8)) (k v : H8) : List (H8 × H8) := mputA k v m false
def mdrop (m : List (H8 × H8)) (k : H8) : List (H8 × H8) := m.filter (fun x => !decide (x.1 = k))
def mget : List (H8 × H8) → H8 → Option H8
  | [], _ => none
  | x :: r, k => if x.1 = k then some x.2 else mget r k
section
variable {k v : H8}
end
namespace Tr
/-! ### Trees in order -/
def WF : Tr → Prop
  | leaf k v => k.length = 32 ∧ v.length = 32
  | fork b x y => b < 256 ∧ x.WF ∧ y.WF ∧ b < x.bit ∧ b < y.bit ∧ (∀ e ∈ x.items, bitN e.1 b = 0) ∧ (∀ e ∈ y.items, bitN e.1 b = 1) ∧ ∀ e ∈ x.items ++ y.items, ∀ i, i < b → bitN e.1 i = bitN x.key i
theorem WF.ok : ∀ {t : Tr}, t.WF → t.Ok
  | leaf _ _, h => h
  | fork b x y, h => ⟨h.1, h.2.1.ok, h.2.2.1.ok⟩
theorem items_cnt : ∀ t : Tr, t.items.length = t.cnt
  | leaf _ _ => rfl
  | fork b x y => by simp only [items, List.length_append, cnt, items_cnt x, items_cnt y]
theorem items_len : ∀ {t : Tr}, t.Ok → ∀ e ∈ t.items, e.1.length = 32 ∧ e.2.length = 32
  | leaf k v, h, e, he => by simp [items] at he; subst he; exact h
  | fork b x y, h, e, he => by
    simp only [items, List.mem_append] at he
    rcases he with he | he
    · exact items_len h.2.1 e he
    · exact items_len h.2.2 e he
/-- A fork's bit is where its first and last key differ; as many have 0 there as stand on the first side. -/
theorem WF.apart {b : Nat} {x y : Tr} (h : (fork b x y).WF) {a c : H8 × H8} (ha : a ∈ x.items) (hc : c ∈ y.items) : apartK a.1 c.1 = b := by
  have hal := h.2.2.2.2.2.2.2
  refine apartK_is (Nat.le_of_lt h.1) (fun k hk => (hal a (by simp [ha]) k hk).trans (hal c (by simp [hc]) k hk).symm) (fun _ => ?_)
  rw [h.2.2.2.2.2.1 a ha, h.2.2.2.2.2.2.1 c hc]; decide
/-! ### What a key has -/
end Tr
/-! ### Trees, or none -/
def itemsT : Option Tr → List (H8 × H8)
  | none => []
  | some t => t.items
def WFO (o : Option Tr) : Prop := ∀ t, o = some t → t.WF
def putT : Option Tr → H8 → H8 → Option Tr
  | none, k, v => some (.leaf k v)
  | some t, k, v => some (t.put k v)
def getT : Option Tr → H8 → Option H8
  | none, _ => none
  | some t, k => if (t.find k).1 = k then some (t.find k).2 else none
def dropT : Option Tr → H8 → Option Tr
  | none, _ => none
  | some t, k => if (t.find k).1 = k then t.drop k else some t
def rootT : Option Tr → H8
  | none => noneH
  | some t => t.root
def cntT : Option Tr → Nat
  | none => 0
  | some t => t.cnt
section
variable {o s : Option Tr} {k v : H8}
theorem WFO.len (h : WFO o) : ∀ e ∈ itemsT o, e.1.length = 32 ∧ e.2.length = 32 := by
  cases o with
  | none => intro e he; simp [itemsT] at he
  | some t => exact Tr.items_len (h t rfl).ok
end
/-! ### Where a map is cut -/
def cutI (m : List (H8 × H8)) : Nat := apartK (m.getD 0 (zeroH, zeroH)).1 (m.getD (m.length - 1) (zeroH, zeroH)).1
def cutN (m : List (H8 × H8)) (i : Nat) : Nat := (m.filter (fun x => decide (bitN x.1 i = 0))).length
theorem cut_fork {b : Nat} {x y : Tr} (h : (Tr.fork b x y).WF) : cutI (Tr.fork b x y).items = b ∧ cutN (Tr.fork b x y).items b = x.cnt ∧ (Tr.fork b x y).items.length = x.cnt + y.cnt := by
  have hx := Tr.items_cnt x
  have hy := Tr.items_cnt y
  have px := Tr.cnt_pos x
  have py := Tr.cnt_pos y
  have hl : (Tr.fork b x y).items.length = x.cnt + y.cnt := by simp [Tr.items, hx, hy]
  refine ⟨?_, ?_, hl⟩
  · unfold cutI
    rw [hl]
    have e1 : (Tr.fork b x y).items.getD 0 (zeroH, zeroH) ∈ x.items := by
      simp only [Tr.items, List.getD]
      rw [List.getElem?_append_left (by omega), List.getElem?_eq_getElem (by omega)]
      exact List.getElem_mem _
    have e2 : (Tr.fork b x y).items.getD (x.cnt + y.cnt - 1) (zeroH, zeroH) ∈ y.items := by
      simp only [Tr.items, List.getD]
      rw [List.getElem?_append_right (by omega), List.getElem?_eq_getElem (by omega)]
      exact List.getElem_mem _
    exact h.apart e1 e2
  · unfold cutN
    simp only [Tr.items, List.filter_append, List.length_append]
    have n1 : x.items.filter (fun c => decide (bitN c.1 b = 0)) = x.items := List.filter_eq_self.2 (fun c hc => by simpa using h.2.2.2.2.2.1 c hc)
    have n2 : y.items.filter (fun c => decide (bitN c.1 b = 0)) = [] := List.filter_eq_nil_iff.2 (fun c hc => by rw [h.2.2.2.2.2.2.1 c hc]; simp)
    rw [n1, n2, hx]; rfl
theorem fork_take {b : Nat} {x y : Tr} : (Tr.fork b x y).items.take x.cnt = x.items := by
  simp only [Tr.items]; rw [← Tr.items_cnt x, List.take_left]
theorem fork_drop {b : Nat} {x y : Tr} : (Tr.fork b x y).items.drop x.cnt = y.items := by
  simp only [Tr.items]; rw [← Tr.items_cnt x, List.drop_left]
end Go.Plain
