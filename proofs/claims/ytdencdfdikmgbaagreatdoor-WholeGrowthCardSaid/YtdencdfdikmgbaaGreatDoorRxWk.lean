/-
 Own text, printed by a program of mine (wip/gx/rx/works.py): the contract of works: it answers true and changes nothing that stands.
-/
import Derived.Test.YtdencdfdikmgbaaGreatDoorRxW1
import Derived.Test.YtdencdfdikmgbaaGreatDoorRxVa
import Derived.Test.YtdencdfdikmgbaaGreatDoorRxVb
import Derived.Test.YtdencdfdikmgbaaGreatDoorRxVc
import Derived.Test.YtdencdfdikmgbaaGreatDoorRxVd
import Derived.Test.YtdencdfdikmgbaaGreatDoorRxVe
set_option linter.unusedSimpArgs false
set_option linter.unusedVariables false
set_option maxRecDepth 100000
namespace Go.Proofs.YtdencdfdikmgbaaGreatDoor
open Go.RowKit Go.Gx Go.Gx.Rx
def nib : List (BitVec 32) := [0, 274646895, 549293790, 820201905, 1098587580, 1361435347, 1640403810, 1905808397, 2197175160, 2460548119, 2722870694, 2987750089, 3280807620, 3553878443, 3811616794, 4084100981]
def db32 : List UInt8 := [0, 1, 28, 2, 29, 14, 24, 3, 30, 22, 20, 15, 25, 17, 4, 8, 31, 27, 13, 23, 21, 19, 16, 7, 26, 12, 18, 6, 11, 5, 10, 9]
def db64 : List UInt8 := [0, 1, 56, 2, 57, 49, 28, 3, 61, 58, 42, 50, 38, 29, 17, 4, 62, 47, 59, 36, 45, 43, 51, 22, 53, 39, 33, 30, 24, 18, 12, 5, 63, 55, 48, 27, 60, 41, 37, 16, 46, 35, 44, 21, 52, 32, 23, 11, 54, 26, 40, 15, 34, 20, 31, 10, 25, 14, 19, 9, 13, 8, 7, 6]
def nibL : L := nib.map fun x => (1, .i .u32 (x.toNat : Int))
/-- What the four tables read as. -/
structure Tabs (w : World) : Prop where
 rk : Sl w (fun k => k = 0) aO (some ⟨0, 0, none⟩) 64 64 Go.Plain.rk
 nib : Sl w (fun k => k = 1) aO (some ⟨1, 0, none⟩) 16 16 nib
 d32 : Sl w (fun k => k = 2) u8v (some ⟨2, 0, none⟩) 32 32 db32
 d64 : Sl w (fun k => k = 3) u8v (some ⟨3, 0, none⟩) 64 64 db64
theorem Tabs.no {w w' : World} (h : Tabs w) (c : Ch No w w') : Tabs w' := ⟨h.rk.no c, h.nib.no c, h.d32.no c, h.d64.no c⟩
theorem kJ {α : Type} {w : World} {F : Nat → Prop} {f : α → Value} {b l c : Nat} {xs : List α} (h : Sl w F f (some ⟨b, 0, none⟩) l c xs) (hx : 0 < l) : w.rangeAt b 0 (xs.map f) := by
 have hl := h.len
 rcases h.rd with h1 | ⟨b', o, h1, _, h3⟩
 ·exfalso; have : xs = [] := by simpa using h1
  rw [this] at hl; simp at hl; omega
 cases h1; exact h3
def m0 : M := fun id => if id < 4 then some (id, 0) else none
theorem oL {w : World} (h : Tabs w) : 3 < w.heap.size := h.d64.size (by omega) rfl
theorem hget0 {id : Nat} {b : B} (h : bF st0.H id = some b) : (id = 0 ∧ b = .rd rkL) ∨ (id = 2 ∧ b = .rd (ofB db32)) ∨ (id = 1 ∧ b = .rd nibL) ∨ (id = 3 ∧ b = .rd (ofB db64)) := by
 have hq := Tr.get_mem 24 st0.H id b h
 have e : Tr.list 24 st0.H = [(0, .rd rkL), (2, .rd (ofB db32)), (1, .rd nibL), (3, .rd (ofB db64))] := by kernel_rfl
 rw [e] at hq
 simp only [List.mem_cons, List.not_mem_nil, or_false, Prod.mk.injEq] at hq
 exact hq
theorem inv0 {w : World} (h : Tabs w) : Inv w 4 m0 st0.H w 4 := by
 have hlt := oL h
 refine ⟨Ch.refl _ _, fun id hid => if_neg (by omega), fun id q hq => ?_, fun id q h1 h2 => ?_, fun id b hb => ?_, fun id id' b b' q q' _ _ h3 h4 h5 => ?_⟩
 ·unfold m0 at hq; split at hq
  ·cases hq; show id < _; omega
  cases hq
 ·unfold m0 at h2; rw [if_neg (by omega)] at h2; cases h2
 ·rcases hget0 hb with ⟨rfl, rfl⟩ | ⟨rfl, rfl⟩ | ⟨rfl, rfl⟩ | ⟨rfl, rfl⟩
  ·exact ⟨_, rfl, _, lP m0 _, kJ h.rk (by decide)⟩
  ·exact ⟨_, rfl, _, lO m0 _, kJ h.d32 (by decide)⟩
  ·exact ⟨_, rfl, _, lP m0 _, kJ h.nib (by decide)⟩
  exact ⟨_, rfl, _, lO m0 _, kJ h.d64 (by decide)⟩
 unfold m0 at h3 h4
 split at h3
 ·split at h4
  ·cases h3; cases h4; exact h5
  cases h4
 cases h3
theorem rN : Tryz.f7.body = some co := by kernel_rfl
theorem qn : co = .seq (bP 0 co) (.seq (bP 1 co) (.seq (bP 2 co) (.seq (bP 3 co) (.seq (bP 4 co) (.seq (bP 5 co) (.seq (bP 6 co) (.seq (bP 7 co) (.seq (bP 8 co) (.ret))))))))) := by kernel_rfl
set_option maxHeartbeats 1000000 in
/-- works(): a small ledger works; nothing that stands is changed. -/
theorem bk {w : World} (h : Tabs w) : Calls Tryz.prog 7 #[] w fun e w' => e = .returned (.bool true) ∧ Ch No w w' := by
 refine aH (args := []) (n := 83) Tryz.func7 rN rfl rfl (fun a F => wpIn_wide.1 ((?_ : WX Tryz.prog _ 83 1 none [] co (eQ 0 []) w) a ⟨F.size, F.defs, F.get⟩))
 have R0 : ER m0 st0.E (eQ 0 []) := ⟨fun g hg => if_pos (by simpa [Nat.blt_eq] using hg), fun t V hV => by cases hV⟩
 have I0 := inv0 h
 rw [qn]
 refine lQ run0 (jP _) (by decide) rfl R0 I0 fun m1 e1 w1 R1 I1 => ?_
 refine lQ run1 (jP _) (by decide) rfl R1 I1 fun m2 e2 w2 R2 I2 => ?_
 refine lQ run2 (jP _) (by decide) rfl R2 I2 fun m3 e3 w3 R3 I3 => ?_
 refine lQ run3 (jP _) (by decide) rfl R3 I3 fun m4 e4 w4 R4 I4 => ?_
 refine lQ run4 (jP _) (by decide) rfl R4 I4 fun m5 e5 w5 R5 I5 => ?_
 refine lQ run5 (jP _) (by decide) rfl R5 I5 fun m6 e6 w6 R6 I6 => ?_
 refine lQ run6 (jP _) (by decide) rfl R6 I6 fun m7 e7 w7 R7 I7 => ?_
 refine lQ run7 (jP _) (by decide) rfl R7 I7 fun m8 e8 w8 R8 I8 => ?_
 refine lQ run8 (jP _) (by decide) rfl R8 I8 fun m9 e9 w9 R9 I9 => ?_
 intro a F
 refine (jP 5) 7 83 4 false .ret st9 .r st9 rfl (by decide) none rfl 1 _ m9 e9 w9 w [] rfl R9 I9 (fun m' e' w' ds' A R' D => ?_) a F
 have D : ds' = [] := D
 subst D
 obtain ⟨v, h1, h2⟩ := R'.get 0 _ rfl
 have h2 : v = .bool true := by simpa [vv, wv, cv1, cv] using h2.symm
 subst h2
 exact fun a F => aj (aK (by kernel_rfl) h1) ⟨rfl, A.inv.ch⟩ a ⟨F.size, F.defs, F.get⟩
end Go.Proofs.YtdencdfdikmgbaaGreatDoor
