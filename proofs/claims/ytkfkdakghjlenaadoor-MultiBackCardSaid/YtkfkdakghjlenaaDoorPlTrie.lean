/-
  Own text: plain: a tree of keys by their bits, with and without the places where its nodes stand.
-/
import Derived.Test.YtkfkdakghjlenaaDoorPlBits
import Derived.Test.YtkfkdakghjlenaaDoorPlTag
import Derived.Test.YtkfkdakghjlenaaDoorGxAgg
set_option linter.unusedSimpArgs false
set_option linter.unusedVariables false
namespace Go.Plain
open Go.Gx
abbrev H8 := List UInt8
def zeroH : H8 := List.replicate 32 0
theorem zeroH_len : zeroH.length = 32 := List.length_replicate ..
inductive Tr where
  | leaf (k v : H8)
  | fork (b : Nat) (x y : Tr)
namespace Tr
def key : Tr → H8
  | leaf k _ => k
  | fork _ x _ => x.key
def val : Tr → H8
  | leaf _ v => v
  | fork _ _ _ => zeroH
def bit : Tr → Nat
  | leaf _ _ => 256
  | fork b _ _ => b
def cnt : Tr → Nat
  | leaf _ _ => 1
  | fork _ x y => x.cnt + y.cnt
def size : Tr → Nat
  | leaf _ _ => 1
  | fork _ x y => x.size + y.size + 1
def root : Tr → H8
  | leaf k v => itemH k v
  | fork b x y => forkH (b8i (b : Int)) x.root y.root
def items : Tr → List (H8 × H8)
  | leaf k v => [(k, v)]
  | fork _ x y => x.items ++ y.items
/-- Two nodes under a new fork: on side s stands a. -/
def join (b s : Nat) (a x : Tr) : Tr := if s = 0 then fork b a x else fork b x a
def put : Tr → H8 → H8 → Tr
  | leaf k0 v0, k, v => if 256 ≤ apartK k0 k then leaf k v else join (apartK k0 k) (bitN k (apartK k0 k)) (leaf k v) (leaf k0 v0)
  | fork b x y, k, v => if b ≤ apartK x.key k then (if bitN k b = 0 then fork b (x.put k v) y else fork b x (y.put k v)) else join (apartK x.key k) (bitN k (apartK x.key k)) (leaf k v) (fork b x y)
def drop : Tr → H8 → Option Tr
  | leaf _ _, _ => none
  | fork b x y, k => if bitN k b = 0 then (match x.drop k with | none => some y | some x' => some (fork b x' y)) else (match y.drop k with | none => some x | some y' => some (fork b x y'))
def find : Tr → H8 → H8 × H8
  | leaf k v, _ => (k, v)
  | fork b x y, k => if bitN k b = 0 then x.find k else y.find k
/-- All keys and values are hashes, all bits are of a key; few nodes. -/
def Ok : Tr → Prop
  | leaf k v => k.length = 32 ∧ v.length = 32
  | fork b x y => b < 256 ∧ x.Ok ∧ y.Ok
theorem key_len : ∀ {t : Tr}, t.Ok → t.key.length = 32
  | leaf _ _, h => h.1
  | fork _ x _, h => key_len (t := x) h.2.1
theorem root_len : ∀ {t : Tr}, t.root.length = 32
  | leaf _ _ => itemH_len _ _
  | fork _ _ _ => forkH_len _ _ _
theorem cnt_pos : ∀ t : Tr, 0 < t.cnt
  | leaf _ _ => Nat.one_pos
  | fork _ x y => Nat.add_pos_left (cnt_pos x) _
theorem bit_le : ∀ {t : Tr}, t.Ok → t.bit ≤ 256
  | leaf _ _, _ => Nat.le_refl _
  | fork _ _ _, h => Nat.le_of_lt h.1
theorem join_cnt {b s : Nat} {a x : Tr} : (join b s a x).cnt = a.cnt + x.cnt := by
  unfold join; split
  · rfl
  · simp only [cnt]; omega
theorem put_cnt : ∀ {t : Tr} {k v : H8}, (t.put k v).cnt ≤ t.cnt + 1
  | leaf k0 v0, k, v => by
    rw [put]; split
    · simp [cnt]
    · rw [join_cnt]; simp [cnt]
  | fork b x y, k, v => by
    rw [put]; split
    · split
      · have := put_cnt (t := x) (k := k) (v := v); simp only [cnt]; omega
      · have := put_cnt (t := y) (k := k) (v := v); simp only [cnt]; omega
    · rw [join_cnt]; simp only [cnt]; omega
end Tr
/-! ### With places -/
inductive LT where
  | leaf (g : Nat) (k v : H8)
  | fork (g : Nat) (b : Nat) (x y : LT)
namespace LT
def adr : LT → Nat
  | leaf g _ _ => g
  | fork g _ _ _ => g
def er : LT → Tr
  | leaf _ k v => .leaf k v
  | fork _ b x y => .fork b x.er y.er
def ads : LT → List Nat
  | leaf g _ _ => [g]
  | fork g _ x y => g :: (x.ads ++ y.ads)
def size : LT → Nat
  | leaf _ _ _ => 1
  | fork _ _ x y => x.size + y.size + 1
theorem adr_mem : ∀ t : LT, t.adr ∈ t.ads
  | leaf _ _ _ => by simp [adr, ads]
  | fork _ _ _ _ => by simp [adr, ads]
end LT
end Go.Plain
