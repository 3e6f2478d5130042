/-
  Own text: plain: a tree of keys by their bits, with and without the places where its nodes stand.
-/
import Derived.Test.YtkfkdakghjlenaaDoorPlBits
import Derived.Test.YtkfkdakghjlenaaDoorPlTag
import Derived.Test.YtkfkdakghjlenaaDoorGxAgg
set_option linter.unusedSimpArgs false
set_option linter.unusedVariables false
namespace Go.Plain
open Go.Gx
abbrev H8 := List UInt8
def zeroH : H8 := List.replicate 32 0
theorem zeroH_len : zeroH.length = 32 := List.length_replicate ..
inductive Tr where
  | leaf (k v : H8)
  | fork (b : Nat) (x y : Tr)
namespace Tr
def key : Tr → H8
  | leaf k _ => k
  | fork _ x _ => x.key
def val : Tr → H8
  | leaf _ v => v
  | fork _ _ _ => zeroH
def bit : Tr → Nat
  | leaf _ _ => 256
  | fork b _ _ => b
def cnt : Tr → Nat
  | leaf _ _ => 1
  | fork _ x y => x.cnt + y.cnt
def size : Tr → Nat
  | leaf _ _ => 1
  | fork _ x y => x.size + y.size + 1
def root : Tr → H8
  | leaf k v => itemH k v
  | fork b x y => forkH (b8i (b : Int)) x.root y.root
def items : Tr → List (H8 × H8)
  | leaf k v => [(k, v)]
  | fork _ x y => x.items ++ y.items
/-- Two nodes under a new fork: on side s stands a. -/
def join (b s : Nat) (a x : Tr) : Tr := if s = 0 then fork b a x else fork b x a
def put : Tr → H8 → H8 → Tr
  | leaf k0 v0, k, v => if 256 ≤ apartK k0 k then leaf k v else join (apartK k0 k) (bitN k (apartK k0 k)) (leaf k v) (leaf k0 v0)
  | fork b x y, k, v => if b ≤ apartK x.key k then (if bitN k b = 0 then fork b (x.put k v) y else fork b x (y.put k v)) else join (apartK x.key k) (bitN k (apartK x.key k)) (leaf k v) (fork b x y)
def drop : Tr → H8 → Option Tr
  | leaf _ _, _ => none
  | fork b x y, k => if bitN k b = 0 then (match x.drop k with | none => some y | some x' => some (fork b x' y)) else (match y.drop k with | none => some x | some y' => some (fork b x y'))
def find : Tr → H8 → H8 × H8
  | leaf k v, _ => (k, v)
  | fork b x y, k => if bitN k b = 0 then x.find k else y.find k
/-- All keys and values are hashes, all bits are of a key; few nodes. -/
def Ok : Tr → Prop
  | leaf k v => k.length = 32 ∧ v.length = 32
  | fork b x y => b < 256 ∧ x.Ok ∧ y.Ok
theorem key_len : ∀ {t : Tr}, t.Ok → t.key.length = 32
  | leaf _ _, h => h.1
  | fork _ x _, h => key_len (t := x) h.2.1
theorem root_len : ∀ {t : Tr}, t.root.length = 32
  | leaf _ _ => itemH_len _ _
  | fork _ _ _ => forkH_len _ _ _
theorem cnt_pos : ∀ t : Tr, 0 < t.cnt
  | leaf _ _ => Nat.one_pos
  | fork _ x y => Nat.add_pos_left (cnt_pos x) _
theorem bit_le : ∀ {t : Tr}, t.Ok → t.bit ≤ 256
  | leaf _ _, _ => Nat.le_refl _
  | fork _ _ _, h => Nat.le_of_lt h.1
theorem join_ok {b s : Nat} {a x : Tr} (hb : b < 256) (ha : a.Ok) (hx : x.Ok) : (join b s a x).Ok := by
  unfold join; split
  · exact ⟨hb, ha, hx⟩
  · exact ⟨hb, hx, ha⟩
theorem put_ok : ∀ {t : Tr} {k v : H8}, t.Ok → k.length = 32 → v.length = 32 → (t.put k v).Ok
  | leaf k0 v0, k, v, h, hk, hv => by
    rw [put]; split
    · exact ⟨hk, hv⟩
    · exact join_ok (by omega) ⟨hk, hv⟩ h
  | fork b x y, k, v, h, hk, hv => by
    rw [put]; split
    · split
      · exact ⟨h.1, put_ok h.2.1 hk hv, h.2.2⟩
      · exact ⟨h.1, h.2.1, put_ok h.2.2 hk hv⟩
    · exact join_ok (by have := h.1; omega) ⟨hk, hv⟩ h
theorem join_cnt {b s : Nat} {a x : Tr} : (join b s a x).cnt = a.cnt + x.cnt := by
  unfold join; split
  · rfl
  · simp only [cnt]; omega
theorem put_cnt : ∀ {t : Tr} {k v : H8}, (t.put k v).cnt ≤ t.cnt + 1
  | leaf k0 v0, k, v => by
    rw [put]; split
    · simp [cnt]
    · rw [join_cnt]; simp [cnt]
  | fork b x y, k, v => by
    rw [put]; split
    · split
      · have := put_cnt (t := x) (k := k) (v := v); simp only [cnt]; omega
      · have := put_cnt (t := y) (k := k) (v := v); simp only [cnt]; omega
    · rw [join_cnt]; simp only [cnt]; omega
theorem drop_ok : ∀ {t t' : Tr} {k : H8}, t.Ok → t.drop k = some t' → t'.Ok ∧ t'.cnt ≤ t.cnt
  | leaf _ _, t', k, h, e => by simp [drop] at e
  | fork b x y, t', k, h, e => by
    rw [drop] at e
    have cx := cnt_pos x
    have cy := cnt_pos y
    split at e
    · cases hd : x.drop k with
      | none => rw [hd] at e; cases e; exact ⟨h.2.2, by simp only [cnt]; omega⟩
      | some x' =>
        rw [hd] at e; cases e
        obtain ⟨a1, a2⟩ := drop_ok h.2.1 hd
        exact ⟨⟨h.1, a1, h.2.2⟩, by simp only [cnt]; omega⟩
    · cases hd : y.drop k with
      | none => rw [hd] at e; cases e; exact ⟨h.2.1, by simp only [cnt]; omega⟩
      | some y' =>
        rw [hd] at e; cases e
        obtain ⟨a1, a2⟩ := drop_ok h.2.2 hd
        exact ⟨⟨h.1, h.2.1, a1⟩, by simp only [cnt]; omega⟩
theorem find_len : ∀ {t : Tr} {k : H8}, t.Ok → (t.find k).1.length = 32 ∧ (t.find k).2.length = 32
  | leaf _ _, _, h => h
  | fork b x y, k, h => by
    rw [find]; split
    · exact find_len h.2.1
    · exact find_len h.2.2
end Tr
/-! ### With places -/
inductive LT where
  | leaf (g : Nat) (k v : H8)
  | fork (g : Nat) (b : Nat) (x y : LT)
namespace LT
def adr : LT → Nat
  | leaf g _ _ => g
  | fork g _ _ _ => g
def er : LT → Tr
  | leaf _ k v => .leaf k v
  | fork _ b x y => .fork b x.er y.er
def ads : LT → List Nat
  | leaf g _ _ => [g]
  | fork g _ x y => g :: (x.ads ++ y.ads)
def size : LT → Nat
  | leaf _ _ _ => 1
  | fork _ _ x y => x.size + y.size + 1
theorem adr_mem : ∀ t : LT, t.adr ∈ t.ads
  | leaf _ _ _ => by simp [adr, ads]
  | fork _ _ _ _ => by simp [adr, ads]
end LT
end Go.Plain
