/-
  Own text, printed by a program of mine (wip/gx): what functions of the program do, walked operation by operation.
-/
import Derived.Test.YtkfkdakghjlenaaDoorProg
import Derived.Test.YtkfkdakghjlenaaDoorGxAgg
import Derived.Test.YtkfkdakghjlenaaDoorTab
import Derived.Test.YtkfkdakghjlenaaDoorGxZer
import Derived.Test.YtkfkdakghjlenaaDoorGxLay
import Derived.Test.YtkfkdakghjlenaaDoorPlPack
import Derived.Test.YtkfkdakghjlenaaDoorPlSum
import Derived.Test.YtkfkdakghjlenaaDoorPlSha
import Derived.Test.YtkfkdakghjlenaaDoorPlTag
import Derived.Test.YtkfkdakghjlenaaDoorPlBits
import Derived.Test.YtkfkdakghjlenaaDoorPlShaSt
import Derived.Test.YtkfkdakghjlenaaDoorPlShaB
import Derived.Test.YtkfkdakghjlenaaDoorPlTrie
import Derived.Test.YtkfkdakghjlenaaDoorPlTrieSt
import Derived.Test.YtkfkdakghjlenaaDoorGxRec
import Derived.Test.YtkfkdakghjlenaaDoorGxYld
import Derived.Test.YtkfkdakghjlenaaDoorPlTrieFil
import Derived.Test.YtkfkdakghjlenaaDoorOnceC
import Derived.Test.YtkfkdakghjlenaaDoorPlTrieW
import Derived.Test.YtkfkdakghjlenaaDoorPlMulti
import Derived.Test.YtkfkdakghjlenaaDoorPlEncs
import Derived.Test.YtkfkdakghjlenaaDoorGxMark
import Derived.Test.YtkfkdakghjlenaaDoorPlTrieLaw
import Derived.Test.YtkfkdakghjlenaaDoorPlTrieAct
import Derived.Test.YtkfkdakghjlenaaDoorGxFun
import Derived.Test.YtkfkdakghjlenaaDoorGxPair
import Derived.Test.YtkfkdakghjlenaaDoorPlMany
import Derived.Test.YtkfkdakghjlenaaDoorGxCon
set_option linter.unusedVariables false
set_option linter.unusedSimpArgs false
namespace Go.Proofs.YtkfkdakghjlenaaDoor
open Go.RowKit Go.Gx
open Go.Plain
set_option maxHeartbeats 1000000 in
set_option maxRecDepth 20000 in
theorem len8_any {w : World} {x : UInt8}  :
    Calls Tryd.prog 104 #[u8v x] w fun e w' => e = .returned (i64 ((lenT.getD x.toNat 0).toNat : Int)) ∧ Ch No w w' := by
  have hxl := x.toNat_lt
  have hll : lenT.length = 256 := by decide +kernel
  have HC : Ch No w w := Ch.refl _ _
  refine enter' (args := [u8v x]) (n := 6) Tryd.func104 rfl rfl rfl ?_
  refine wc_seq ?_
  refine wc_region ?_
  refine wl rfl rfl rfl (p_as rfl) ?_
  refine wl_nil ?_
  refine x_seq ?_
  refine wc_seq ?_
  refine wc_region ?_
  refine wl rfl rfl rfl (p_mv rfl) ?_
  refine wl rfl rfl rfl (p_ixT (s := str lenT) (b := lenT.getD x.toNat 0) Tryd.underlying9 (show some (Value.string _) = some (.string (str lenT)) from by kernel_rfl) rfl (by omega) (by rw [Int.toNat_natCast, str_data]; exact getDT (by omega))) ?_
  refine wl rfl rfl rfl (p_conv Tryd.underlying5 Tryd.underlying3 rfl (wB_i64 _)) ?_
  refine wl rfl rfl rfl (p_as rfl) ?_
  refine wl_nil ?_
  refine x_seq ?_
  refine wc_ret ?_
  refine fin_run ((res1 rfl rfl)) ?_
  exact ⟨rfl, HC⟩

set_option maxHeartbeats 1000000 in
set_option maxRecDepth 20000 in
theorem lz8_any {w : World} {x : UInt8}  :
    Calls Tryd.prog 79 #[u8v x] w fun e w' => e = .returned (i64 (lz8 x : Int)) ∧ Ch No w w' := by
  have hll := lenT_le x
  have HC : Ch No w w := Ch.refl _ _
  refine enter' (args := [u8v x]) (n := 6) Tryd.func79 rfl rfl rfl ?_
  refine wc_seq ?_
  refine wc_region ?_
  refine wl rfl rfl rfl (p_as rfl) ?_
  refine wl_nil ?_
  refine x_seq ?_
  refine wc_seq ?_
  refine wc_region ?_
  refine wl rfl rfl rfl (p_mv rfl) ?_
  refine wle rfl (e_call ent104 rfl rfl (len8_any) ?_)
  rintro _ w1 ⟨rfl, hc⟩
  refine ⟨_, rfl, ?_⟩
  have hzw1 := hc.size
  have HC := HC.tr hc
  refine wl rfl rfl rfl (p_sub (Z := (lz8 x : Int)) rfl rfl (by unfold lz8; rw [w64 (by omega)]; omega)) ?_
  refine wl rfl rfl rfl (p_as rfl) ?_
  refine wl_nil ?_
  refine x_seq ?_
  refine wc_ret ?_
  refine fin_run ((res1 rfl rfl)) ?_
  exact ⟨rfl, HC⟩

set_option maxHeartbeats 1000000 in
set_option maxRecDepth 20000 in
theorem bit_any {w : World} {k : List UInt8} {i : Int} (hk : k.length = 32) :
    Calls Tryd.prog 38 #[hv k, i64 i] w fun e w' => e = .returned (i64 (bitI k i : Int)) ∧ Ch No w w' := by
  have HC : Ch No w w := Ch.refl _ _
  refine enter' (args := [hv k, i64 i]) (n := 21) Tryd.func38 rfl rfl rfl ?_
  refine wc_seq ?_
  refine wc_region ?_
  refine wle rfl (e_box (cs := (List.map u8v k).toArray) rfl rfl rfl (fun w1 g2 hg2 hb2 hc hsz2 => ?_))
  have hzw1 := hc.size
  have HC := HC.tr hc
  have hge2 : w.heap.size ≤ g2 := by have := HC.size; omega
  refine wl rfl rfl rfl (p_as rfl) ?_
  refine wl_nil ?_
  refine x_seq ?_
  refine wc_seq ?_
  refine wc_seq ?_
  refine wc_region ?_
  refine wl rfl rfl rfl (p_mv rfl) ?_
  refine wl rfl rfl rfl (p_lt rfl rfl) ?_
  refine wl rfl rfl rfl (p_mv rfl) ?_
  refine wl_split (d := 7) rfl (fun q7 => ?_) (fun q7 => ?_)
  ·
    have q7 := of_decide_eq_true q7
    have hbi : bitI k i = 0 := bitI_out (by omega)
    refine wl_s (gd_ rfl rfl rfl rfl rfl rfl) rfl rfl ?_
    refine wl_s (gd_ rfl rfl rfl rfl rfl rfl) rfl rfl ?_
    refine wl rfl rfl rfl (p_pickT rfl rfl) ?_
    refine wl_nil ?_
    refine x_seq ?_
    refine wc_yes rfl (rfl) ?_
    refine wc_seq ?_
    refine wc_region ?_
    refine wl rfl rfl rfl (p_as rfl) ?_
    refine wl_nil ?_
    refine x_seq ?_
    refine wc_ret ?_
    refine x_then_ret ?_
    refine fin_run ((res1 rfl rfl)) ?_
    first | (rw [hbi]; exact ⟨rfl, HC⟩) | (rw [bitI_out (by omega)]; exact ⟨rfl, HC⟩)
  ·
    have q7 := of_decide_eq_false q7
    refine wl_g (gd_ rfl rfl rfl rfl rfl rfl) rfl rfl (p_mv rfl) ?_
    refine wl_g (gd_ rfl rfl rfl rfl rfl rfl) rfl rfl (p_ge rfl rfl) ?_
    refine wl rfl rfl rfl (p_pickF rfl rfl) ?_
    refine wl_nil ?_
    refine x_seq ?_
    refine wc_if rfl (fun c0 => ?_) (fun c0 => ?_)
    ·
      have c0 := of_decide_eq_true c0
      refine wc_seq ?_
      refine wc_region ?_
      refine wl rfl rfl rfl (p_as rfl) ?_
      refine wl_nil ?_
      refine x_seq ?_
      refine wc_ret ?_
      refine x_then_ret ?_
      refine fin_run ((res1 rfl rfl)) ?_
      first | (rw [hbi]; exact ⟨rfl, HC⟩) | (rw [bitI_out (by omega)]; exact ⟨rfl, HC⟩)
    ·
      have c0 := of_decide_eq_false c0
      obtain ⟨n, rfl⟩ := Int.eq_ofNat_of_zero_le (show 0 ≤ i by omega)
      have hn : n < 256 := by omega
      have hbi := bitI_in (k := k) hn
      have hkl := (k.getD (n / 8) 0).toNat_lt
      obtain ⟨z, hz⟩ : ∃ z, z = (k.getD (n / 8) 0).toNat / 2 ^ (7 - n % 8) := ⟨_, rfl⟩
      have hzl : z ≤ 255 := by rw [hz]; exact Nat.le_trans (Nat.div_le_self _ _) (by omega)
      have hb8 : bit8 (k.getD (n / 8) 0) (n % 8) = z % 2 := by rw [hz]; rfl
      rw [hb8] at hbi
      refine wc_skip ?_
      refine x_seq ?_
      refine wc_seq ?_
      refine wc_region ?_
      refine wl rfl rfl rfl (p_mv rfl) ?_
      refine wl rfl rfl rfl ((p_shrN (X := n) (Y := 3) rfl rfl rfl).to (show Value.int .i64 ((n / 2 ^ 3 : Nat) : Int) = i64 ((n / 8 : Nat) : Int) from rfl)) ?_
      refine wl rfl rfl rfl (p_ixA1 Tryd.underlying38 sz5 rfl rfl (by omega) (by omega) (Int.toNat_natCast _)) ?_
      refine wl rfl rfl rfl (p_ld Tryd.underlying5 rfl rfl (ld (cellL hb2 (d := 0) (by first | (simp; done) | (simp; omega) | omega)))) ?_
      refine wl rfl rfl rfl (p_mv rfl) ?_
      refine wl rfl rfl rfl (p_and64 (Z := ((n % 8 : Nat) : Int)) rfl rfl (and7_i64 _)) ?_
      refine wl rfl rfl rfl (p_sub (Z := ((7 - n % 8 : Nat) : Int)) rfl rfl (by rw [w64 (by omega)]; omega)) ?_
      refine wl rfl rfl rfl ((p_shrN (k := .u8) (X := (k.getD (n / 8) 0).toNat) (Y := 7 - n % 8) rfl rfl (Nat.ble_eq_true_of_le (show 7 - n % 8 ≤ 8 by omega))).to (show _ = Value.int .u8 (z : Int) from by rw [hz])) ?_
      refine wl rfl rfl rfl (p_conv Tryd.underlying5 Tryd.underlying3 rfl (w64 (by omega))) ?_
      refine wl rfl rfl rfl (p_and64 (Z := ((z % 2 : Nat) : Int)) rfl rfl (and1_i64 _)) ?_
      refine wl rfl rfl rfl (p_as rfl) ?_
      refine wl_nil ?_
      refine x_seq ?_
      refine wc_ret ?_
      refine fin_run ((res1 rfl rfl)) ?_
      first | (rw [hbi]; exact ⟨rfl, HC⟩) | (rw [bitI_out (by omega)]; exact ⟨rfl, HC⟩)

set_option maxHeartbeats 1000000 in
set_option maxRecDepth 20000 in
theorem rbit_any {w : World} {k : List UInt8} {i : Int} (hk : k.length = 32) :
    Calls Tryd.prog 39 #[hv k, i64 i] w fun e w' => e = .returned (i64 (bitI k i : Int)) ∧ Ch No w w' := by
  have HC : Ch No w w := Ch.refl _ _
  refine enter' (args := [hv k, i64 i]) (n := 22) Tryd.func39 rfl rfl rfl ?_
  refine wc_seq ?_
  refine wc_region ?_
  refine wle rfl (e_box (cs := (List.map u8v k).toArray) rfl rfl rfl (fun w1 g2 hg2 hb2 hc hsz2 => ?_))
  have hzw1 := hc.size
  have HC := HC.tr hc
  have hge2 : w.heap.size ≤ g2 := by have := HC.size; omega
  refine wl rfl rfl rfl (p_as rfl) ?_
  refine wl_nil ?_
  refine x_seq ?_
  refine wc_seq ?_
  refine wc_seq ?_
  refine wc_region ?_
  refine wl rfl rfl rfl (p_mv rfl) ?_
  refine wl rfl rfl rfl (p_lt rfl rfl) ?_
  refine wl rfl rfl rfl (p_mv rfl) ?_
  refine wl_split (d := 7) rfl (fun q7 => ?_) (fun q7 => ?_)
  ·
    have q7 := of_decide_eq_true q7
    have hbi : bitI k i = 0 := bitI_out (by omega)
    refine wl_s (gd_ rfl rfl rfl rfl rfl rfl) rfl rfl ?_
    refine wl_s (gd_ rfl rfl rfl rfl rfl rfl) rfl rfl ?_
    refine wl rfl rfl rfl (p_pickT rfl rfl) ?_
    refine wl_nil ?_
    refine x_seq ?_
    refine wc_yes rfl (rfl) ?_
    refine wc_seq ?_
    refine wc_region ?_
    refine wl rfl rfl rfl (p_as rfl) ?_
    refine wl_nil ?_
    refine x_seq ?_
    refine wc_ret ?_
    refine x_then_ret ?_
    refine fin_run ((res1 rfl rfl)) ?_
    first | (rw [hbi]; exact ⟨rfl, HC⟩) | (rw [bitI_out (by omega)]; exact ⟨rfl, HC⟩)
  ·
    have q7 := of_decide_eq_false q7
    refine wl_g (gd_ rfl rfl rfl rfl rfl rfl) rfl rfl (p_mv rfl) ?_
    refine wl_g (gd_ rfl rfl rfl rfl rfl rfl) rfl rfl (p_gt rfl rfl) ?_
    refine wl rfl rfl rfl (p_pickF rfl rfl) ?_
    refine wl_nil ?_
    refine x_seq ?_
    refine wc_if rfl (fun c0 => ?_) (fun c0 => ?_)
    ·
      have c0 := of_decide_eq_true c0
      refine wc_seq ?_
      refine wc_region ?_
      refine wl rfl rfl rfl (p_as rfl) ?_
      refine wl_nil ?_
      refine x_seq ?_
      refine wc_ret ?_
      refine x_then_ret ?_
      refine fin_run ((res1 rfl rfl)) ?_
      first | (rw [hbi]; exact ⟨rfl, HC⟩) | (rw [bitI_out (by omega)]; exact ⟨rfl, HC⟩)
    ·
      have c0 := of_decide_eq_false c0
      obtain ⟨n, rfl⟩ := Int.eq_ofNat_of_zero_le (show 0 ≤ i by omega)
      have hn : n < 256 := by omega
      have hbi := bitI_in (k := k) hn
      have hkl := (k.getD (n / 8) 0).toNat_lt
      obtain ⟨z, hz⟩ : ∃ z, z = (k.getD (n / 8) 0).toNat / 2 ^ (7 - n % 8) := ⟨_, rfl⟩
      have hzl : z ≤ 255 := by rw [hz]; exact Nat.le_trans (Nat.div_le_self _ _) (by omega)
      have hb8 : bit8 (k.getD (n / 8) 0) (n % 8) = z % 2 := by rw [hz]; rfl
      rw [hb8] at hbi
      refine wc_skip ?_
      refine x_seq ?_
      refine wc_seq ?_
      refine wc_region ?_
      refine wl rfl rfl rfl (p_mv rfl) ?_
      refine wl rfl rfl rfl (p_quo (Z := ((n / 8 : Nat) : Int)) rfl rfl (by omega) (by rw [show ((n : Nat) : Int).tdiv 8 = ((n / 8 : Nat) : Int) from rfl, w64 (by omega)])) ?_
      refine wl rfl rfl rfl (p_ixA1 Tryd.underlying38 sz5 rfl rfl (by omega) (by omega) (Int.toNat_natCast _)) ?_
      refine wl rfl rfl rfl (p_ld Tryd.underlying5 rfl rfl (ld (cellL hb2 (d := 0) (by first | (simp; done) | (simp; omega) | omega)))) ?_
      refine wl rfl rfl rfl (p_mv rfl) ?_
      refine wl rfl rfl rfl (p_rem (Z := ((n % 8 : Nat) : Int)) rfl rfl (by omega) rfl) ?_
      refine wl rfl rfl rfl (p_sub (Z := ((7 - n % 8 : Nat) : Int)) rfl rfl (by rw [w64 (by omega)]; omega)) ?_
      refine wl rfl rfl rfl (p_conv (Z := ((7 - n % 8 : Nat) : Int)) Tryd.underlying3 Tryd.underlying74 rfl (wu64 (by omega))) ?_
      refine wl rfl rfl rfl ((p_shrN (k := .u8) (X := (k.getD (n / 8) 0).toNat) (Y := 7 - n % 8) rfl rfl (Nat.ble_eq_true_of_le (show 7 - n % 8 ≤ 8 by omega))).to (show _ = Value.int .u8 (z : Int) from by rw [hz])) ?_
      refine wl rfl rfl rfl (p_conv Tryd.underlying5 Tryd.underlying3 rfl (w64 (by omega))) ?_
      refine wl rfl rfl rfl (p_and64 (Z := ((z % 2 : Nat) : Int)) rfl rfl (and1_i64 _)) ?_
      refine wl rfl rfl rfl (p_as rfl) ?_
      refine wl_nil ?_
      refine x_seq ?_
      refine wc_ret ?_
      refine fin_run ((res1 rfl rfl)) ?_
      first | (rw [hbi]; exact ⟨rfl, HC⟩) | (rw [bitI_out (by omega)]; exact ⟨rfl, HC⟩)

set_option maxHeartbeats 1000000 in
set_option maxRecDepth 20000 in
theorem apart_any {w : World} {k : List UInt8}{y : List UInt8} (hk : k.length = 32) (hy : y.length = 32) :
    Calls Tryd.prog 36 #[hv k, hv y] w fun e w' => e = .returned (i64 (apartK k y : Int)) ∧ Ch No w w' := by
  have HC : Ch No w w := Ch.refl _ _
  refine enter' (args := [hv k, hv y]) (n := 25) Tryd.func36 rfl rfl rfl ?_
  refine wc_seq ?_
  refine wc_region ?_
  refine wle rfl (e_box (cs := (List.map u8v k).toArray) rfl rfl rfl (fun w1 g2 hg2 hb2 hc hsz2 => ?_))
  have hzw1 := hc.size
  have HC := HC.tr hc
  have hge2 : w.heap.size ≤ g2 := by have := HC.size; omega
  have hltg2 := hb2.lt
  refine wle rfl (e_box (cs := (List.map u8v y).toArray) rfl rfl rfl (fun w2 g3 hg3 hb3 hc hsz3 => ?_))
  have hzw2 := hc.size
  have HC := HC.tr hc
  have hb2 := hb2.ch hc (fun h => h)
  have hge3 : w.heap.size ≤ g3 := by have := HC.size; omega
  have neg2_3 : g2 < g3 := by omega
  refine wl rfl rfl rfl (p_as rfl) ?_
  refine wl_nil ?_
  refine x_seq ?_
  refine wc_seq ?_
  refine wc_seq ?_
  refine wc_region ?_
  refine wl rfl rfl rfl (p_mv rfl) ?_
  refine wl_nil ?_
  refine x_seq ?_
  refine wc_block ?_
  refine wc_loop (e' := [(2, .pointer (some ⟨g2, 0, none⟩)), (3, .pointer (some ⟨g3, 0, none⟩)), (4, i64 0), (7, i64 ((0) : Int))]) (fun mz ez uz => ∃ i : Nat, mz = 32 - i ∧ ez = [(2, .pointer (some ⟨g2, 0, none⟩)), (3, .pointer (some ⟨g3, 0, none⟩)), (4, i64 0), (7, i64 (i : Int))] ∧ (i ≤ 32) ∧ (∀ j, j < i → k.getD j 0 = y.getD j 0) ∧ (Blk uz g2 38 (List.map u8v k).toArray) ∧ (Blk uz g3 38 (List.map u8v y).toArray) ∧ (Ch No w uz))
    ⟨rfl, rfl, rfl, rfl, trivial⟩ ⟨0, rfl, rfl, by omega, (fun j hj => by omega), hb2, hb3, HC⟩ ?_
  rintro m0 e w3 ⟨i, hm0, rfl, hi, hsm, hb2, hb3, HC⟩
  have hzw3 := HC.size
  refine wc_seq ?_
  refine wc_region ?_
  refine wl rfl rfl rfl (p_lt rfl rfl) ?_
  refine wl_nil ?_
  refine x_seq ?_
  refine wc_seq ?_
  refine wc_if rfl (fun c0 => ?_) (fun c0 => ?_)
  ·
    have c0 := of_decide_eq_true c0
    refine wc_skip ?_
    refine x_seq ?_
    refine wc_seq ?_
    refine wc_block ?_
    refine wc_seq ?_
    refine wc_region ?_
    refine wl rfl rfl rfl (p_mv rfl) ?_
    refine wl rfl rfl rfl (p_as rfl) ?_
    refine wl_nil ?_
    refine x_seq ?_
    refine wc_seq ?_
    refine wc_draw (.st 0 0 (.st 1 0 (.st 2 1 (.st 3 0 (.st 4 0 (.st 5 1 (.st 6 0 (.st 7 0 .nil)))))))) 8 (by kernel_rfl) (by kernel_rfl) (by kernel_rfl) (by repeat (first | with_reducible exact pan_body | with_reducible apply pan_then | with_reducible apply pan_in)) (fun x => Ch No w3.drew x) (Ch.refl _ _) ?_
    obtain ⟨w4, ew4⟩ : ∃ x, x = w3.drew := ⟨_, rfl⟩
    rw [← ew4]
    have hc : Ch No w3 w4 := by rw [ew4]; exact Ch.drew _
    have hszw4 : w4.heap.size = w3.heap.size := by rw [ew4]; rfl
    clear ew4
    have hzw4 := hc.size
    have HC := HC.tr hc
    have hb2 := hb2.ch hc (fun h => h)
    have hb3 := hb3.ch hc (fun h => h)
    have hS : Ch No w4 w4 := Ch.refl _ _
    refine ws_p rfl rfl rfl rfl (p_mv rfl) ?_
    refine ws_p rfl rfl rfl rfl (p_ixA1 Tryd.underlying38 sz5 rfl rfl (by omega) (by omega) (Int.toNat_natCast _)) ?_
    refine ws_h rfl rfl rfl rfl (p_ld Tryd.underlying5 rfl rfl (fun _ h => h.cell (fun h => h) (cellL hb2 (d := 0) (by first | (simp; done) | (simp; omega) | omega)))) ?_
    refine ws_p rfl rfl rfl rfl (p_mv rfl) ?_
    refine ws_p rfl rfl rfl rfl (p_ixA1 Tryd.underlying38 sz5 rfl rfl (by omega) (by omega) (Int.toNat_natCast _)) ?_
    refine ws_h rfl rfl rfl rfl (p_ld Tryd.underlying5 rfl rfl (fun _ h => h.cell (fun h => h) (cellL hb3 (d := 0) (by first | (simp; done) | (simp; omega) | omega)))) ?_
    refine ws_p rfl rfl rfl rfl (p_xor8 rfl rfl) ?_
    refine ws_p rfl rfl rfl rfl (p_as rfl) ?_
    refine ws_n ?_
    refine x_seq ?_
    refine wc_seq ?_
    refine wc_region ?_
    refine wl rfl rfl rfl (p_mv rfl) ?_
    refine wl rfl rfl rfl (p_ne rfl rfl) ?_
    refine wl_nil ?_
    refine x_seq ?_
    refine wc_if rfl (fun c1 => ?_) (fun c1 => ?_)
    ·
      have c1 := of_decide_eq_true c1
      have hne : (k.getD i 0 ^^^ y.getD i 0) ≠ 0 := fun h => c1 (by rw [h]; rfl)
      have hap := apartK_byte (by omega) hsm hne
      have hlz : lz8 (k.getD i 0 ^^^ y.getD i 0) ≤ 8 := Nat.sub_le _ _
      refine wc_seq ?_
      refine wc_region ?_
      refine wl rfl rfl rfl (p_mv rfl) ?_
      refine wl rfl rfl rfl (p_shl (Z := ((8 * i : Nat) : Int)) rfl rfl (by omega) (by rw [show (2 : Int) ^ (min (3 : Int).toNat IntKind.i64.bits) = 8 from rfl, w64 (by omega)]; omega)) ?_
      refine wl rfl rfl rfl (p_mv rfl) ?_
      refine wle rfl (e_call ent79 rfl rfl (lz8_any) ?_)
      rintro _ w7 ⟨rfl, hc⟩
      refine ⟨_, rfl, ?_⟩
      have hzw7 := hc.size
      have HC := HC.tr hc
      have hb2 := hb2.ch hc (fun h => h)
      have hb3 := hb3.ch hc (fun h => h)
      refine wl rfl rfl rfl (p_add (Z := ((8 * i + lz8 (k.getD i 0 ^^^ y.getD i 0) : Nat) : Int)) rfl rfl (by rw [w64 (by omega)]; omega)) ?_
      refine wl rfl rfl rfl (p_as rfl) ?_
      refine wl_nil ?_
      refine x_seq ?_
      refine wc_ret ?_
      refine x_in_ret ?_
      refine x_then_ret ?_
      refine x_then_ret ?_
      refine x_in_ret ?_
      refine x_then_ret ?_
      refine fin_run ((res1 rfl rfl)) ?_
      rw [hap]; exact ⟨rfl, HC⟩
    ·
      have c1 := of_decide_eq_false c1
      have he : k.getD i 0 = y.getD i 0 := xor_zero (UInt8.toNat_inj.1 (by have := Decidable.not_not.1 c1; simpa using this))
      have hsm2 : ∀ j, j < i + 1 → k.getD j 0 = y.getD j 0 := fun j hj => by
        rcases Nat.lt_or_ge j i with h | h
        · exact hsm j h
        · rw [show j = i by omega]; exact he
      refine wc_skip ?_
      refine x_in_normal ?_
      refine x_seq ?_
      refine wc_region ?_
      refine wl rfl rfl rfl (p_add rfl rfl (w64 (by omega))) ?_
      refine wl rfl rfl rfl (p_mv rfl) ?_
      refine wl_nil ?_
      refine x_round (e' := [(2, .pointer (some ⟨g2, 0, none⟩)), (3, .pointer (some ⟨g3, 0, none⟩)), (4, i64 0), (7, i64 ((i + 1) : Int))]) ⟨rfl, rfl, rfl, rfl, trivial⟩ (by rw [hm0]; omega) ⟨i + 1, rfl, rfl, by omega, hsm2, hb2, hb3, HC⟩
  ·
    have c0 := of_decide_eq_false c0
    have hap := apartK_none (fun j hj => hsm j (by omega))
    refine wc_exit ?_
    refine x_then_exit ?_
    refine x_then_exit ?_
    refine x_in_here ?_
    refine x_seq ?_
    refine wc_seq ?_
    refine wc_region ?_
    refine wl rfl rfl rfl (p_as rfl) ?_
    refine wl_nil ?_
    refine x_seq ?_
    refine wc_ret ?_
    refine fin_run ((res1 rfl rfl)) ?_
    rw [hap]; exact ⟨rfl, HC⟩

set_option maxHeartbeats 1000000 in
set_option maxRecDepth 20000 in
theorem rapart_any {w : World} {k : List UInt8}{y : List UInt8} (hk : k.length = 32) (hy : y.length = 32) :
    Calls Tryd.prog 37 #[hv k, hv y] w fun e w' => e = .returned (i64 (apartK k y : Int)) ∧ Ch No w w' := by
  have HC : Ch No w w := Ch.refl _ _
  refine enter' (args := [hv k, hv y]) (n := 18) Tryd.func37 rfl rfl rfl ?_
  refine wc_seq ?_
  refine wc_region ?_
  refine wle rfl (e_box (cs := (List.map u8v k).toArray) rfl rfl rfl (fun w1 g2 hg2 hb2 hc hsz2 => ?_))
  have hzw1 := hc.size
  have HC := HC.tr hc
  have hge2 : w.heap.size ≤ g2 := by have := HC.size; omega
  have hltg2 := hb2.lt
  refine wle rfl (e_box (cs := (List.map u8v y).toArray) rfl rfl rfl (fun w2 g3 hg3 hb3 hc hsz3 => ?_))
  have hzw2 := hc.size
  have HC := HC.tr hc
  have hb2 := hb2.ch hc (fun h => h)
  have hge3 : w.heap.size ≤ g3 := by have := HC.size; omega
  have neg2_3 : g2 < g3 := by omega
  refine wl rfl rfl rfl (p_as rfl) ?_
  refine wl_nil ?_
  refine x_seq ?_
  refine wc_seq ?_
  refine wc_seq ?_
  refine wc_region ?_
  refine wl rfl rfl rfl (p_as rfl) ?_
  refine wl_nil ?_
  refine x_seq ?_
  refine wc_block ?_
  refine wc_loop (e' := [(2, .pointer (some ⟨g2, 0, none⟩)), (3, .pointer (some ⟨g3, 0, none⟩)), (4, i64 0), (5, i64 ((0) : Int))]) (fun mz ez uz => ∃ i : Nat, mz = 256 - i ∧ ez = [(2, .pointer (some ⟨g2, 0, none⟩)), (3, .pointer (some ⟨g3, 0, none⟩)), (4, i64 0), (5, i64 (i : Int))] ∧ (i ≤ 256) ∧ (∀ j, j < i → bitN k j = bitN y j) ∧ (Blk uz g2 38 (List.map u8v k).toArray) ∧ (Blk uz g3 38 (List.map u8v y).toArray) ∧ (Ch No w uz))
    ⟨rfl, rfl, rfl, rfl, trivial⟩ ⟨0, rfl, rfl, by omega, (fun j hj => by omega), hb2, hb3, HC⟩ ?_
  rintro m0 e w3 ⟨i, hm0, rfl, hi, hsm, hb2, hb3, HC⟩
  have hzw3 := HC.size
  refine wc_seq ?_
  refine wc_seq ?_
  refine wc_region ?_
  refine wl rfl rfl rfl (p_mv rfl) ?_
  refine wl rfl rfl rfl (p_lt rfl rfl) ?_
  refine wl_nil ?_
  refine x_seq ?_
  refine wc_if rfl (fun c0 => ?_) (fun c0 => ?_)
  ·
    have c0 := of_decide_eq_true c0
    refine wc_skip ?_
    refine x_seq ?_
    refine wc_seq ?_
    refine wc_block ?_
    refine wc_seq ?_
    refine wc_draw (.st 0 1 (.st 1 0 (.st 3 1 (.st 4 0 (.st 2 2 (.st 5 2 (.st 6 0 .nil))))))) 7 (by kernel_rfl) (by kernel_rfl) (by kernel_rfl) (by repeat (first | with_reducible exact pan_body | with_reducible apply pan_then | with_reducible apply pan_in)) (fun x => Ch No w3.drew x) (Ch.refl _ _) ?_
    obtain ⟨w4, ew4⟩ : ∃ x, x = w3.drew := ⟨_, rfl⟩
    rw [← ew4]
    have hc : Ch No w3 w4 := by rw [ew4]; exact Ch.drew _
    have hszw4 : w4.heap.size = w3.heap.size := by rw [ew4]; rfl
    clear ew4
    have hzw4 := hc.size
    have HC := HC.tr hc
    have hb2 := hb2.ch hc (fun h => h)
    have hb3 := hb3.ch hc (fun h => h)
    have hS : Ch No w4 w4 := Ch.refl _ _
    refine ws_h rfl rfl rfl rfl (p_ldA (cs := List.map u8v k) Tryd.underlying38 rfl (szL sz38 (by rw [List.length_map]; exact hk)) rfl (fun _ h => (rngL (hb2.ch h (fun h => h))))) ?_
    refine ws_p rfl rfl rfl rfl (p_mv rfl) ?_
    refine ws_h rfl rfl rfl rfl (p_ldA (cs := List.map u8v y) Tryd.underlying38 rfl (szL sz38 (by rw [List.length_map]; exact hy)) rfl (fun _ h => (rngL (hb3.ch h (fun h => h))))) ?_
    refine ws_p rfl rfl rfl rfl (p_mv rfl) ?_
    refine ws_e rfl rfl (e_call ent39 rfl rfl (rbit_any (hk)) ?_)
    rintro _ w5 ⟨rfl, hc⟩
    refine ⟨_, rfl, hc, ?_⟩
    have hzw5 := hc.size
    have HC := HC.tr hc
    have hb2 := hb2.ch hc (fun h => h)
    have hb3 := hb3.ch hc (fun h => h)
    refine ws_narrow (S' := fun x => Ch No w5 x) (Ch.refl _ _) (fun x h => hc.tr h) ?_
    refine ws_e rfl rfl (e_call ent39 rfl rfl (rbit_any (hy)) ?_)
    rintro _ w6 ⟨rfl, hc⟩
    refine ⟨_, rfl, hc, ?_⟩
    have hzw6 := hc.size
    have HC := HC.tr hc
    have hb2 := hb2.ch hc (fun h => h)
    have hb3 := hb3.ch hc (fun h => h)
    refine ws_narrow (S' := fun x => Ch No w6 x) (Ch.refl _ _) (fun x h => hc.tr h) ?_
    refine ws_p rfl rfl rfl rfl (p_ne rfl rfl) ?_
    refine ws_n ?_
    refine x_seq ?_
    refine wc_if rfl (fun c1 => ?_) (fun c1 => ?_)
    ·
      have c1 := of_decide_eq_true c1
      have hap : apartK k y = i := apartK_is (by omega) hsm (fun _ => by rw [bitI_nat, bitI_nat] at c1; omega)
      refine wc_seq ?_
      refine wc_region ?_
      refine wl rfl rfl rfl (p_mv rfl) ?_
      refine wl rfl rfl rfl (p_as rfl) ?_
      refine wl_nil ?_
      refine x_seq ?_
      refine wc_ret ?_
      refine x_in_ret ?_
      refine x_then_ret ?_
      refine x_then_ret ?_
      refine x_in_ret ?_
      refine x_then_ret ?_
      refine fin_run ((res1 rfl rfl)) ?_
      rw [hap]; exact ⟨rfl, HC⟩
    ·
      have c1 := of_decide_eq_false c1
      have hsm2 : ∀ j, j < i + 1 → bitN k j = bitN y j := fun j hj => by
        rcases Nat.lt_or_ge j i with h | h
        · exact hsm j h
        · rw [show j = i by omega]; rw [bitI_nat, bitI_nat] at c1; omega
      refine wc_skip ?_
      refine x_in_normal ?_
      refine x_seq ?_
      refine wc_region ?_
      refine wl rfl rfl rfl (p_mv rfl) ?_
      refine wl rfl rfl rfl (p_add rfl rfl (w64 (by omega))) ?_
      refine wl rfl rfl rfl (p_as rfl) ?_
      refine wl_nil ?_
      refine x_round (e' := [(2, .pointer (some ⟨g2, 0, none⟩)), (3, .pointer (some ⟨g3, 0, none⟩)), (4, i64 0), (5, i64 ((i + 1) : Int))]) ⟨rfl, rfl, rfl, rfl, trivial⟩ (by rw [hm0]; omega) ⟨i + 1, rfl, rfl, by omega, hsm2, hb2, hb3, HC⟩
  ·
    have c0 := of_decide_eq_false c0
    have hap : apartK k y = 256 := apartK_is (by omega) (fun j hj => hsm j (by omega)) (fun h => by omega)
    refine wc_exit ?_
    refine x_then_exit ?_
    refine x_then_exit ?_
    refine x_in_here ?_
    refine x_seq ?_
    refine wc_seq ?_
    refine wc_region ?_
    refine wl rfl rfl rfl (p_as rfl) ?_
    refine wl_nil ?_
    refine x_seq ?_
    refine wc_ret ?_
    refine fin_run ((res1 rfl rfl)) ?_
    rw [hap]; exact ⟨rfl, HC⟩

set_option maxHeartbeats 1000000 in
set_option maxRecDepth 20000 in
theorem rotl_any {w : World} {x : BitVec 32} {r : Nat} (h1 : 1 ≤ r) (h2 : r ≤ 31) :
    Calls Tryd.prog 138 #[u32v x, i64 (-(r : Int))] w fun e w' => e = .returned (u32v (rotr x r)) ∧ Ch No w w' := by
  have HC : Ch No w w := Ch.refl _ _
  refine enter' (args := [u32v x, i64 (-(r : Int))]) (n := 17) Tryd.func138 rfl rfl rfl ?_
  refine wc_seq ?_
  refine wc_region ?_
  refine wl rfl rfl rfl (p_as rfl) ?_
  refine wl_nil ?_
  refine x_seq ?_
  refine wc_seq ?_
  refine wc_region ?_
  refine wl rfl rfl rfl (p_mv rfl) ?_
  refine wl rfl rfl rfl (p_conv Tryd.underlying3 Tryd.underlying74 rfl (rot_conv h1 h2)) ?_
  refine wl rfl rfl rfl (p_and64 rfl rfl (Z := ((32 - r : Nat) : Int)) (rot_and h1 h2)) ?_
  refine wl rfl rfl rfl (p_as rfl) ?_
  refine wl_nil ?_
  refine x_seq ?_
  refine wc_seq ?_
  refine wc_region ?_
  refine wl rfl rfl rfl (p_mv rfl) ?_
  refine wl rfl rfl rfl (p_mv rfl) ?_
  refine wl rfl rfl rfl (p_shl32 (Y := 32 - r) rfl rfl) ?_
  refine wl rfl rfl rfl (p_mv rfl) ?_
  refine wl rfl rfl rfl (p_mv rfl) ?_
  refine wl rfl rfl rfl (p_sub (Z := (r : Int)) rfl rfl (by rw [wu64 (by omega)]; omega)) ?_
  refine wl rfl rfl rfl (p_shr32 (Y := r) rfl rfl) ?_
  refine wl rfl rfl rfl (p_or32 rfl rfl) ?_
  refine wl rfl rfl rfl (p_as rfl) ?_
  refine wl_nil ?_
  refine x_seq ?_
  refine wc_ret ?_
  refine fin_run ((res1 rfl rfl)) ?_
  exact ⟨by rw [rotr, BitVec.or_comm], HC⟩

set_option maxHeartbeats 1000000 in
set_option maxRecDepth 20000 in
theorem schedule_any {w : World} {g o : Nat} {B : List UInt8} {Fb : Nat → Prop} (hB : Sl w Fb u8v (some ⟨g, o, none⟩) 64 64 B) :
    Calls Tryd.prog 137 #[.pointer (some ⟨g, o, none⟩)] w fun e w' => e = .returned (.agg ((sch B 64).map u32v).toArray) ∧ Ch No w w' := by
  have hB := hB.old
  have HC : Ch No w w := Ch.refl _ _
  refine enter' (args := [.pointer (some ⟨g, o, none⟩)]) (n := 94) Tryd.func137 rfl rfl rfl ?_
  refine wc_seq ?_
  refine wc_region ?_
  refine wle rfl (e_alloc (cs := ((List.replicate 64 0#32).map u32v).toArray) rfl (by rfl) rfl (fun w1 g2 hg2 hb2 hc hsz2 => ?_))
  have hzw1 := hc.size
  have HC := HC.tr hc
  have hB := hB.no hc
  have hge2 : w.heap.size ≤ g2 := by have := HC.size; omega
  refine wl_nil ?_
  refine x_seq ?_
  refine wc_seq ?_
  refine wc_region ?_
  have hltg2 := hb2.lt
  refine wle rfl (e_alloc (cs := ((List.replicate 64 0#32).map u32v).toArray) rfl (by rfl) rfl (fun w2 g3 hg3 hb3 hc hsz3 => ?_))
  have hzw2 := hc.size
  have HC := HC.tr hc
  have hB := hB.no hc
  have hb2 := hb2.ch hc (fun h => h)
  have hge3 : w.heap.size ≤ g3 := by have := HC.size; omega
  have neg2_3 : g2 < g3 := by omega
  refine wl_nil ?_
  refine x_seq ?_
  refine wc_seq ?_
  refine wc_seq ?_
  refine wc_region ?_
  refine wl rfl rfl rfl (p_mv rfl) ?_
  refine wl_nil ?_
  refine x_seq ?_
  refine wc_block ?_
  refine wc_loop (e' := [(0, .pointer (some ⟨g, o, none⟩)), (2, .pointer (some ⟨g2, 0, none⟩)), (3, .pointer (some ⟨g3, 0, none⟩)), (9, i64 ((0) : Int))]) (fun mz ez uz => ∃ t : Nat, mz = 64 - t ∧ ez = [(0, .pointer (some ⟨g, o, none⟩)), (2, .pointer (some ⟨g2, 0, none⟩)), (3, .pointer (some ⟨g3, 0, none⟩)), (9, i64 (t : Int))] ∧ (t ≤ 64) ∧ (Sl uz (fun k => k < w.heap.size) u8v (some ⟨g, o, none⟩) 64 64 B) ∧ (Blk uz g2 213 ((List.replicate 64 0#32).map u32v).toArray) ∧ (Blk uz g3 213 ((schZ B t).map u32v).toArray) ∧ (Ch No w uz))
    ⟨rfl, rfl, rfl, rfl, trivial⟩ ⟨0, rfl, rfl, by omega, hB, hb2, by rw [schZ_zero]; exact hb3, HC⟩ ?_
  rintro m0 e w3 ⟨t, hm0, rfl, ht, hB, hb2, hb3, HC⟩
  have hzw3 := HC.size
  have hzl := schZ_len B (t := t) (by omega)
  refine wc_seq ?_
  refine wc_region ?_
  refine wl rfl rfl rfl (p_lt rfl rfl) ?_
  refine wl_nil ?_
  refine x_seq ?_
  refine wc_seq ?_
  refine wc_if rfl (fun c0 => ?_) (fun c0 => ?_)
  ·
    have c0 := of_decide_eq_true c0
    refine wc_skip ?_
    refine x_seq ?_
    refine wc_seq ?_
    refine wc_block ?_
    refine wc_seq ?_
    refine wc_region ?_
    refine wl rfl rfl rfl (p_mv rfl) ?_
    refine wl rfl rfl rfl (p_as rfl) ?_
    refine wl_nil ?_
    refine x_seq ?_
    refine wc_seq ?_
    refine wc_seq ?_
    refine wc_region ?_
    refine wl rfl rfl rfl (p_mv rfl) ?_
    refine wl rfl rfl rfl (p_lt rfl rfl) ?_
    refine wl_nil ?_
    refine x_seq ?_
    refine wc_if rfl (fun c1 => ?_) (fun c1 => ?_)
    ·
      have c1 := of_decide_eq_true c1
      refine wc_seq ?_
      refine wc_draw (.st 0 0 (.st 1 0 (.st 2 0 (.st 3 0 (.st 4 0 (.st 5 0 (.st 6 1 (.st 7 0 (.st 8 0 (.st 9 0 (.st 10 0 (.st 11 0 (.st 12 0 (.st 13 0 (.st 14 0 (.st 15 1 (.st 16 0 (.st 17 0 (.st 18 0 (.st 19 0 (.st 20 0 (.st 21 0 (.st 22 0 (.st 23 0 (.st 24 0 (.st 25 1 (.st 26 0 (.st 27 0 (.st 28 0 (.st 29 0 (.st 30 0 (.st 31 0 (.st 32 0 (.st 33 0 (.st 34 0 (.st 35 1 (.st 36 0 (.st 37 0 (.st 38 0 (.st 39 3 .nil)))))))))))))))))))))))))))))))))))))))) 39 (by kernel_rfl) (by kernel_rfl) (by kernel_rfl) (by repeat (first | with_reducible exact pan_body | with_reducible apply pan_then | with_reducible apply pan_in)) (fun x => Ch No w3.drew x) (Ch.refl _ _) ?_
      obtain ⟨w4, ew4⟩ : ∃ x, x = w3.drew := ⟨_, rfl⟩
      rw [← ew4]
      have hc : Ch No w3 w4 := by rw [ew4]; exact Ch.drew _
      have hszw4 : w4.heap.size = w3.heap.size := by rw [ew4]; rfl
      clear ew4
      have hzw4 := hc.size
      have HC := HC.tr hc
      have hB := hB.no hc
      have hb2 := hb2.ch hc (fun h => h)
      have hb3 := hb3.ch hc (fun h => h)
      have hS : Ch No w4 w4 := Ch.refl _ _
      refine ws_p rfl rfl rfl rfl (p_mv rfl) ?_
      refine ws_p rfl rfl rfl rfl (p_mv rfl) ?_
      refine ws_p rfl rfl rfl rfl (p_mv rfl) ?_
      refine ws_p rfl rfl rfl rfl (p_mul (Z := ((4 * t : Nat) : Int)) rfl rfl (by rw [w64 (by omega)]; omega)) ?_
      refine ws_p rfl rfl rfl rfl (p_nck rfl) ?_
      obtain ⟨b5, o5, hA5, hF5, hc5⟩ := (hB).opn (d := 0) (by omega)
      cases hA5
      refine ws_p rfl rfl rfl rfl (p_ixAo Tryd.underlying203 sz5 rfl rfl (by omega) (by omega) (Int.toNat_natCast _)) ?_
      refine ws_h rfl rfl rfl rfl (p_ld Tryd.underlying5 rfl rfl (fun _ h => h.cell (fun h => h) (hc5 _ (by omega)))) ?_
      refine ws_p rfl rfl rfl rfl (p_convB32 Tryd.underlying5 Tryd.underlying146 rfl) ?_
      refine ws_p rfl rfl rfl rfl (p_shl32 (Y := 24) rfl rfl) ?_
      refine ws_p rfl rfl rfl rfl (p_mv rfl) ?_
      refine ws_p rfl rfl rfl rfl (p_mv rfl) ?_
      refine ws_p rfl rfl rfl rfl (p_mul (Z := ((4 * t : Nat) : Int)) rfl rfl (by rw [w64 (by omega)]; omega)) ?_
      refine ws_p rfl rfl rfl rfl (p_add (Z := ((4 * t + 1 : Nat) : Int)) rfl rfl (by rw [w64 (by omega)]; omega)) ?_
      refine ws_p rfl rfl rfl rfl (p_nck rfl) ?_
      obtain ⟨b6, o6, hA6, hF6, hc6⟩ := (hB).opn (d := 0) (by omega)
      cases hA6
      refine ws_p rfl rfl rfl rfl (p_ixAo Tryd.underlying203 sz5 rfl rfl (by omega) (by omega) (Int.toNat_natCast _)) ?_
      refine ws_h rfl rfl rfl rfl (p_ld Tryd.underlying5 rfl rfl (fun _ h => h.cell (fun h => h) (hc6 _ (by omega)))) ?_
      refine ws_p rfl rfl rfl rfl (p_convB32 Tryd.underlying5 Tryd.underlying146 rfl) ?_
      refine ws_p rfl rfl rfl rfl (p_shl32 (Y := 16) rfl rfl) ?_
      refine ws_p rfl rfl rfl rfl (p_or32 rfl rfl) ?_
      refine ws_p rfl rfl rfl rfl (p_mv rfl) ?_
      refine ws_p rfl rfl rfl rfl (p_mv rfl) ?_
      refine ws_p rfl rfl rfl rfl (p_mul (Z := ((4 * t : Nat) : Int)) rfl rfl (by rw [w64 (by omega)]; omega)) ?_
      refine ws_p rfl rfl rfl rfl (p_add (Z := ((4 * t + 2 : Nat) : Int)) rfl rfl (by rw [w64 (by omega)]; omega)) ?_
      refine ws_p rfl rfl rfl rfl (p_nck rfl) ?_
      obtain ⟨b7, o7, hA7, hF7, hc7⟩ := (hB).opn (d := 0) (by omega)
      cases hA7
      refine ws_p rfl rfl rfl rfl (p_ixAo Tryd.underlying203 sz5 rfl rfl (by omega) (by omega) (Int.toNat_natCast _)) ?_
      refine ws_h rfl rfl rfl rfl (p_ld Tryd.underlying5 rfl rfl (fun _ h => h.cell (fun h => h) (hc7 _ (by omega)))) ?_
      refine ws_p rfl rfl rfl rfl (p_convB32 Tryd.underlying5 Tryd.underlying146 rfl) ?_
      refine ws_p rfl rfl rfl rfl (p_shl32 (Y := 8) rfl rfl) ?_
      refine ws_p rfl rfl rfl rfl (p_or32 rfl rfl) ?_
      refine ws_p rfl rfl rfl rfl (p_mv rfl) ?_
      refine ws_p rfl rfl rfl rfl (p_mv rfl) ?_
      refine ws_p rfl rfl rfl rfl (p_mul (Z := ((4 * t : Nat) : Int)) rfl rfl (by rw [w64 (by omega)]; omega)) ?_
      refine ws_p rfl rfl rfl rfl (p_add (Z := ((4 * t + 3 : Nat) : Int)) rfl rfl (by rw [w64 (by omega)]; omega)) ?_
      refine ws_p rfl rfl rfl rfl (p_nck rfl) ?_
      obtain ⟨b8, o8, hA8, hF8, hc8⟩ := (hB).opn (d := 0) (by omega)
      cases hA8
      refine ws_p rfl rfl rfl rfl (p_ixAo Tryd.underlying203 sz5 rfl rfl (by omega) (by omega) (Int.toNat_natCast _)) ?_
      refine ws_h rfl rfl rfl rfl (p_ld Tryd.underlying5 rfl rfl (fun _ h => h.cell (fun h => h) (hc8 _ (by omega)))) ?_
      refine ws_p rfl rfl rfl rfl (p_convB32 Tryd.underlying5 Tryd.underlying146 rfl) ?_
      refine ws_p rfl rfl rfl rfl (p_or32 rfl rfl) ?_
      refine ws_p rfl rfl rfl rfl (p_ixA1 Tryd.underlying213 sz146 rfl rfl (by omega) (by omega) (Int.toNat_natCast _)) ?_
      refine ws_l rfl rfl (e_stL one_u32 (by rfl) rfl rfl hb3 (by first | (simp; done) | (simp; omega) | omega) (fun w10 hb3 hc hsz => ?_))
      have hzw10 := hc.size
      have HC := HC.trans hc (fun _ _ h => h) (fun k hk ht => absurd ht (by omega))
      first | have hB := hB.ch hc (by intro k hk ht; first | omega | (dsimp only at *; omega)) | have hB := hB.chT hc (by intro k hz hk ht; first | omega | (dsimp only at *; omega))
      have hb2 := hb2.ch hc (by omega)
      refine ws_n ?_
      refine x_seq ?_
      refine wc_exit ?_
      refine x_then_exit ?_
      refine x_in_here ?_
      refine x_seq ?_
      refine wc_region ?_
      refine wl rfl rfl rfl (p_add rfl rfl (w64 (by omega))) ?_
      refine wl rfl rfl rfl (p_mv rfl) ?_
      refine wl_nil ?_
      refine x_round (e' := [(0, .pointer (some ⟨g, o, none⟩)), (2, .pointer (some ⟨g2, 0, none⟩)), (3, .pointer (some ⟨g3, 0, none⟩)), (9, i64 ((t + 1) : Int))]) ⟨rfl, rfl, rfl, rfl, trivial⟩ (by rw [hm0]; omega) ⟨t + 1, rfl, rfl, by omega, hB, hb2, by first | (rw [← schZ_set B (by omega), next_low B _ (by omega)]; exact hb3) | (rw [← schZ_set B (by omega), next_high B (by omega)]; exact hb3), HC⟩
    ·
      have c1 := of_decide_eq_false c1
      refine wc_skip ?_
      refine x_seq ?_
      refine wc_seq ?_
      refine wc_draw (.st 0 0 (.st 1 0 (.st 2 0 (.st 3 1 (.st 4 0 (.st 5 0 (.st 6 0 (.st 7 1 (.st 8 0 (.st 9 0 .nil)))))))))) 10 (by kernel_rfl) (by kernel_rfl) (by kernel_rfl) (by repeat (first | with_reducible exact pan_body | with_reducible apply pan_then | with_reducible apply pan_in)) (fun x => Ch No w3.drew x) (Ch.refl _ _) ?_
      obtain ⟨w11, ew11⟩ : ∃ x, x = w3.drew := ⟨_, rfl⟩
      rw [← ew11]
      have hc : Ch No w3 w11 := by rw [ew11]; exact Ch.drew _
      have hszw11 : w11.heap.size = w3.heap.size := by rw [ew11]; rfl
      clear ew11
      have hzw11 := hc.size
      have HC := HC.tr hc
      have hB := hB.no hc
      have hb2 := hb2.ch hc (fun h => h)
      have hb3 := hb3.ch hc (fun h => h)
      have hS : Ch No w11 w11 := Ch.refl _ _
      refine ws_p rfl rfl rfl rfl (p_mv rfl) ?_
      refine ws_p rfl rfl rfl rfl (p_sub (Z := ((t - 15 : Nat) : Int)) rfl rfl (by rw [w64 (by omega)]; omega)) ?_
      refine ws_p rfl rfl rfl rfl (p_ixA1 Tryd.underlying213 sz146 rfl rfl (by omega) (by omega) (Int.toNat_natCast _)) ?_
      refine ws_h rfl rfl rfl rfl (p_ld Tryd.underlying146 rfl rfl (fun _ h => h.cell (fun h => h) (cellL hb3 (d := 0#32) (by first | (simp; done) | (simp; omega) | omega)))) ?_
      refine ws_p rfl rfl rfl rfl (p_mv rfl) ?_
      refine ws_p rfl rfl rfl rfl (p_sub (Z := ((t - 2 : Nat) : Int)) rfl rfl (by rw [w64 (by omega)]; omega)) ?_
      refine ws_p rfl rfl rfl rfl (p_ixA1 Tryd.underlying213 sz146 rfl rfl (by omega) (by omega) (Int.toNat_natCast _)) ?_
      refine ws_h rfl rfl rfl rfl (p_ld Tryd.underlying146 rfl rfl (fun _ h => h.cell (fun h => h) (cellL hb3 (d := 0#32) (by first | (simp; done) | (simp; omega) | omega)))) ?_
      refine ws_p rfl rfl rfl rfl (p_as rfl) ?_
      refine ws_p rfl rfl rfl rfl (p_as rfl) ?_
      refine ws_n ?_
      refine x_seq ?_
      refine wc_seq ?_
      refine wc_region ?_
      refine wl rfl rfl rfl (p_mv rfl) ?_
      refine wle rfl (e_call ent138 rfl rfl (rotl_any (r := 7) (by omega) (by omega)) ?_)
      rintro _ w14 ⟨rfl, hc⟩
      refine ⟨_, rfl, ?_⟩
      have hzw14 := hc.size
      have HC := HC.tr hc
      have hB := hB.no hc
      have hb2 := hb2.ch hc (fun h => h)
      have hb3 := hb3.ch hc (fun h => h)
      refine wl rfl rfl rfl (p_mv rfl) ?_
      refine wle rfl (e_call ent138 rfl rfl (rotl_any (r := 18) (by omega) (by omega)) ?_)
      rintro _ w15 ⟨rfl, hc⟩
      refine ⟨_, rfl, ?_⟩
      have hzw15 := hc.size
      have HC := HC.tr hc
      have hB := hB.no hc
      have hb2 := hb2.ch hc (fun h => h)
      have hb3 := hb3.ch hc (fun h => h)
      refine wl rfl rfl rfl (p_xor32 rfl rfl) ?_
      refine wl rfl rfl rfl (p_mv rfl) ?_
      refine wl rfl rfl rfl (p_shr32 (Y := 3) rfl rfl) ?_
      refine wl rfl rfl rfl (p_xor32 rfl rfl) ?_
      refine wl rfl rfl rfl (p_as rfl) ?_
      refine wl_nil ?_
      refine x_seq ?_
      refine wc_seq ?_
      refine wc_region ?_
      refine wl rfl rfl rfl (p_mv rfl) ?_
      refine wle rfl (e_call ent138 rfl rfl (rotl_any (r := 17) (by omega) (by omega)) ?_)
      rintro _ w16 ⟨rfl, hc⟩
      refine ⟨_, rfl, ?_⟩
      have hzw16 := hc.size
      have HC := HC.tr hc
      have hB := hB.no hc
      have hb2 := hb2.ch hc (fun h => h)
      have hb3 := hb3.ch hc (fun h => h)
      refine wl rfl rfl rfl (p_mv rfl) ?_
      refine wle rfl (e_call ent138 rfl rfl (rotl_any (r := 19) (by omega) (by omega)) ?_)
      rintro _ w17 ⟨rfl, hc⟩
      refine ⟨_, rfl, ?_⟩
      have hzw17 := hc.size
      have HC := HC.tr hc
      have hB := hB.no hc
      have hb2 := hb2.ch hc (fun h => h)
      have hb3 := hb3.ch hc (fun h => h)
      refine wl rfl rfl rfl (p_xor32 rfl rfl) ?_
      refine wl rfl rfl rfl (p_mv rfl) ?_
      refine wl rfl rfl rfl (p_shr32 (Y := 10) rfl rfl) ?_
      refine wl rfl rfl rfl (p_xor32 rfl rfl) ?_
      refine wl rfl rfl rfl (p_as rfl) ?_
      refine wl_nil ?_
      refine x_seq ?_
      refine wc_draw (.st 0 0 (.st 1 0 (.st 2 0 (.st 3 0 (.st 4 1 (.st 5 0 (.st 6 0 (.st 7 0 (.st 8 0 (.st 9 0 (.st 10 1 (.st 11 0 (.st 12 0 (.st 13 0 (.st 14 0 (.st 15 3 .nil)))))))))))))))) 15 (by kernel_rfl) (by kernel_rfl) (by kernel_rfl) (by repeat (first | with_reducible exact pan_body | with_reducible apply pan_then | with_reducible apply pan_in)) (fun x => Ch No w17.drew x) (Ch.refl _ _) ?_
      obtain ⟨w18, ew18⟩ : ∃ x, x = w17.drew := ⟨_, rfl⟩
      rw [← ew18]
      have hc : Ch No w17 w18 := by rw [ew18]; exact Ch.drew _
      have hszw18 : w18.heap.size = w17.heap.size := by rw [ew18]; rfl
      clear ew18
      have hzw18 := hc.size
      have HC := HC.tr hc
      have hB := hB.no hc
      have hb2 := hb2.ch hc (fun h => h)
      have hb3 := hb3.ch hc (fun h => h)
      have hS : Ch No w18 w18 := Ch.refl _ _
      refine ws_p rfl rfl rfl rfl (p_mv rfl) ?_
      refine ws_p rfl rfl rfl rfl (p_mv rfl) ?_
      refine ws_p rfl rfl rfl rfl (p_sub (Z := ((t - 16 : Nat) : Int)) rfl rfl (by rw [w64 (by omega)]; omega)) ?_
      refine ws_p rfl rfl rfl rfl (p_ixA1 Tryd.underlying213 sz146 rfl rfl (by omega) (by omega) (Int.toNat_natCast _)) ?_
      refine ws_h rfl rfl rfl rfl (p_ld Tryd.underlying146 rfl rfl (fun _ h => h.cell (fun h => h) (cellL hb3 (d := 0#32) (by first | (simp; done) | (simp; omega) | omega)))) ?_
      refine ws_p rfl rfl rfl rfl (p_mv rfl) ?_
      refine ws_p rfl rfl rfl rfl (p_add32 rfl rfl) ?_
      refine ws_p rfl rfl rfl rfl (p_mv rfl) ?_
      refine ws_p rfl rfl rfl rfl (p_sub (Z := ((t - 7 : Nat) : Int)) rfl rfl (by rw [w64 (by omega)]; omega)) ?_
      refine ws_p rfl rfl rfl rfl (p_ixA1 Tryd.underlying213 sz146 rfl rfl (by omega) (by omega) (Int.toNat_natCast _)) ?_
      refine ws_h rfl rfl rfl rfl (p_ld Tryd.underlying146 rfl rfl (fun _ h => h.cell (fun h => h) (cellL hb3 (d := 0#32) (by first | (simp; done) | (simp; omega) | omega)))) ?_
      refine ws_p rfl rfl rfl rfl (p_add32 rfl rfl) ?_
      refine ws_p rfl rfl rfl rfl (p_mv rfl) ?_
      refine ws_p rfl rfl rfl rfl (p_add32 rfl rfl) ?_
      refine ws_p rfl rfl rfl rfl (p_ixA1 Tryd.underlying213 sz146 rfl rfl (by omega) (by omega) (Int.toNat_natCast _)) ?_
      refine ws_l rfl rfl (e_stL one_u32 (by rfl) rfl rfl hb3 (by first | (simp; done) | (simp; omega) | omega) (fun w22 hb3 hc hsz => ?_))
      have hzw22 := hc.size
      have HC := HC.trans hc (fun _ _ h => h) (fun k hk ht => absurd ht (by omega))
      first | have hB := hB.ch hc (by intro k hk ht; first | omega | (dsimp only at *; omega)) | have hB := hB.chT hc (by intro k hz hk ht; first | omega | (dsimp only at *; omega))
      have hb2 := hb2.ch hc (by omega)
      refine ws_n ?_
      refine x_in_normal ?_
      refine x_seq ?_
      refine wc_region ?_
      refine wl rfl rfl rfl (p_add rfl rfl (w64 (by omega))) ?_
      refine wl rfl rfl rfl (p_mv rfl) ?_
      refine wl_nil ?_
      refine x_round (e' := [(0, .pointer (some ⟨g, o, none⟩)), (2, .pointer (some ⟨g2, 0, none⟩)), (3, .pointer (some ⟨g3, 0, none⟩)), (9, i64 ((t + 1) : Int))]) ⟨rfl, rfl, rfl, rfl, trivial⟩ (by rw [hm0]; omega) ⟨t + 1, rfl, rfl, by omega, hB, hb2, by first | (rw [← schZ_set B (by omega), next_low B _ (by omega)]; exact hb3) | (rw [← schZ_set B (by omega), next_high B (by omega)]; exact hb3), HC⟩
  ·
    have c0 := of_decide_eq_false c0
    obtain rfl : t = 64 := by omega
    rw [schZ_all] at hb3
    have hsl := sch_len B 64
    refine wc_exit ?_
    refine x_then_exit ?_
    refine x_then_exit ?_
    refine x_in_here ?_
    refine x_seq ?_
    refine wc_seq ?_
    refine wc_region ?_
    refine wl rfl rfl rfl (p_ldA (cs := _) Tryd.underlying213 rfl (szL sz213 (by rw [List.length_map]; first | assumption | (simp; done) | (simp; omega) | omega)) rfl (fun _ e => e ▸ rngL hb3)) ?_
    refine wle rfl (e_stW (vs := _) (szL sz213 (by rw [List.length_map]; exact hsl)) (oneL one_u32 _) rfl rfl hb2 (by simp [hsl]) (fun w23 hb2 hc hsz => ?_))
    have hzw23 := hc.size
    have HC := HC.trans hc (fun _ _ h => h) (fun k hk ht => absurd ht (by omega))
    first | have hB := hB.ch hc (by intro k hk ht; first | omega | (dsimp only at *; omega)) | have hB := hB.chT hc (by intro k hz hk ht; first | omega | (dsimp only at *; omega))
    have hb3 := hb3.ch hc (by omega)
    refine wl_nil ?_
    refine x_seq ?_
    refine wc_ret ?_
    refine fin_run (resC rfl rfl Tryd.underlying213 rfl (szL sz213 (by rw [List.length_map]; exact hsl)) (rngL hb2)) ?_
    exact ⟨rfl, HC⟩

set_option maxHeartbeats 4000000 in
set_option maxRecDepth 20000 in
theorem block_any {w : World} {g n : Nat} {h : List W32} {rest : List UInt8} {made : Bool} (hs : Blk w g 205 (stt h rest n made)) (hh : h.length = 8) (hr : rest.length = 64) (hrnd : Sl w (fun k => k = 0) u32v (some ⟨0, 0, none⟩) 64 64 rk) :
    Calls Tryd.prog 132 #[.pointer (some ⟨g, 0, none⟩)] w fun e w' => e = .returned (.tuple #[]) ∧ Ch (fun k => k = g) w w' ∧ Blk w' g 205 (stt (cmp h rest) rest n made) := by
  have hn1 : 0 < w.heap.size := hrnd.size (by omega) rfl
  have hgl := hs.lt
  have hsl := sch_len rest 64
  have HC : Ch (fun k => k = g) w w := Ch.refl _ _
  refine enter' (args := [.pointer (some ⟨g, 0, none⟩)]) (n := 123) Tryd.func132 rfl rfl rfl ?_
  refine wc_seq ?_
  refine wc_region ?_
  refine wl rfl rfl rfl (p_mv rfl) ?_
  refine wl rfl rfl rfl (p_nck rfl) ?_
  refine wl rfl rfl rfl (p_fld Tryd.underlying205 rfl ⟨_, by rfl⟩ rfl rfl) ?_
  refine wle rfl (e_call ent137 rfl rfl (schedule_any (stt_sl hs hh hr)) ?_)
  rintro _ w1 ⟨rfl, hc⟩
  refine ⟨_, rfl, ?_⟩
  have hzw1 := hc.size
  have HC := HC.tr hc
  have hs := hs.ch hc (fun h => h)
  have hrnd := hrnd.no hc
  have hltg := hs.lt
  refine wle rfl (e_alloc (cs := ((List.replicate 64 0#32).map u32v).toArray) rfl (by rfl) rfl (fun w2 g2 hg2 hb2 hc hsz2 => ?_))
  have hzw2 := hc.size
  have HC := HC.tr hc
  have hs := hs.ch hc (fun h => h)
  have hrnd := hrnd.no hc
  have hge2 : w.heap.size ≤ g2 := by have := HC.size; omega
  have neg_2 : g < g2 := by omega
  refine wle rfl (e_stW (vs := _) (szL sz213 (by rw [List.length_map]; exact hsl)) (oneL one_u32 _) rfl rfl hb2 (by simp [hsl]) (fun w3 hb2 hc hsz => ?_))
  have hzw3 := hc.size
  have HC := HC.trans hc (fun _ _ h => h) (fun k hk ht => absurd ht (by omega))
  have hs := hs.ch hc (by omega)
  first | have hrnd := hrnd.ch hc (by intro k hk ht; first | omega | (dsimp only at *; omega)) | have hrnd := hrnd.chT hc (by intro k hz hk ht; first | omega | (dsimp only at *; omega))
  refine wl_nil ?_
  refine x_seq ?_
  refine wc_seq ?_
  refine wc_region ?_
  refine wl rfl rfl rfl (p_mv rfl) ?_
  refine wl rfl rfl rfl (p_nck rfl) ?_
  refine wl rfl rfl rfl (p_fld Tryd.underlying205 rfl ⟨_, by rfl⟩ rfl rfl) ?_
  refine wl rfl rfl rfl (p_ldA (cs := h.map u32v) Tryd.underlying200 rfl (szL sz200 (by rw [List.length_map]; exact hh)) rfl (fun _ e => e ▸ stt_rng hs hh)) ?_
  have hltg := hs.lt
  have hltg2 := hb2.lt
  refine wle rfl (e_alloc (cs := ((List.replicate 8 0#32).map u32v).toArray) rfl (by rfl) rfl (fun w4 g3 hg3 hb3 hc hsz3 => ?_))
  have hzw4 := hc.size
  have HC := HC.tr hc
  have hs := hs.ch hc (fun h => h)
  have hrnd := hrnd.no hc
  have hb2 := hb2.ch hc (fun h => h)
  have hge3 : w.heap.size ≤ g3 := by have := HC.size; omega
  have neg_3 : g < g3 := by omega
  have neg2_3 : g2 < g3 := by omega
  refine wle rfl (e_stW (vs := _) (by first | rfl | exact szL sz200 (by rw [List.length_map]; exact hh)) (by first | exact allOne rfl | exact oneL one_u32 _) rfl rfl hb3 (by first | (simp [hh]; done) | (simp [hvl]; done)) (fun w5 hb3 hc hsz => ?_))
  have hzw5 := hc.size
  have HC := HC.trans hc (fun _ _ h => h) (fun k hk ht => absurd ht (by omega))
  have hs := hs.ch hc (by omega)
  first | have hrnd := hrnd.ch hc (by intro k hk ht; first | omega | (dsimp only at *; omega)) | have hrnd := hrnd.chT hc (by intro k hz hk ht; first | omega | (dsimp only at *; omega))
  have hb2 := hb2.ch hc (by omega)
  refine wl_nil ?_
  refine x_seq ?_
  refine wc_seq ?_
  refine wc_seq ?_
  refine wc_region ?_
  refine wl rfl rfl rfl (p_mv rfl) ?_
  refine wl_nil ?_
  refine x_seq ?_
  refine wc_block ?_
  refine wc_loop (e' := [(0, .pointer (some ⟨g, 0, none⟩)), (2, .pointer (some ⟨g2, 0, none⟩)), (3, .pointer (some ⟨g3, 0, none⟩)), (19, i64 ((0) : Int))]) (fun mz ez uz => ∃ t : Nat, mz = 64 - t ∧ ez = [(0, .pointer (some ⟨g, 0, none⟩)), (2, .pointer (some ⟨g2, 0, none⟩)), (3, .pointer (some ⟨g3, 0, none⟩)), (19, i64 (t : Int))] ∧ (t ≤ 64) ∧ (Blk uz g 205 (stt h rest n made)) ∧ (Blk uz g2 213 ((sch rest 64).map u32v).toArray) ∧ (Blk uz g3 200 ((rnds (sch rest 64) h t).map u32v).toArray) ∧ (Sl uz (fun k => k = 0) u32v (some ⟨0, 0, none⟩) 64 64 rk) ∧ (Ch (fun k => k = g) w uz))
    ⟨rfl, rfl, rfl, rfl, trivial⟩ ⟨0, rfl, rfl, by omega, hs, hb2, hb3, hrnd, HC⟩ ?_
  rintro m0 e w6 ⟨t, hm0, rfl, ht, hs, hb2, hb3, hrnd, HC⟩
  have hzw6 := HC.size
  have hvl := rnds_len (sch rest 64) hh t
  refine wc_seq ?_
  refine wc_region ?_
  refine wl rfl rfl rfl (p_lt rfl rfl) ?_
  refine wl_nil ?_
  refine x_seq ?_
  refine wc_seq ?_
  refine wc_if rfl (fun c0 => ?_) (fun c0 => ?_)
  ·
    have c0 := of_decide_eq_true c0
    refine wc_skip ?_
    refine x_seq ?_
    refine wc_seq ?_
    refine wc_block ?_
    refine wc_seq ?_
    refine wc_region ?_
    refine wl rfl rfl rfl (p_mv rfl) ?_
    refine wl rfl rfl rfl (p_as rfl) ?_
    refine wl_nil ?_
    refine x_seq ?_
    refine wc_seq ?_
    refine wc_draw (.st 0 0 (.st 1 1 (.st 3 0 (.st 4 1 (.st 7 0 (.st 8 1 (.st 2 2 (.st 5 2 (.st 6 0 (.st 9 2 (.st 10 0 (.st 11 0 .nil)))))))))))) 12 (by kernel_rfl) (by kernel_rfl) (by kernel_rfl) (by repeat (first | with_reducible exact pan_body | with_reducible apply pan_then | with_reducible apply pan_in)) (fun x => Ch No w6.drew x) (Ch.refl _ _) ?_
    obtain ⟨w7, ew7⟩ : ∃ x, x = w6.drew := ⟨_, rfl⟩
    rw [← ew7]
    have hc : Ch No w6 w7 := by rw [ew7]; exact Ch.drew _
    have hszw7 : w7.heap.size = w6.heap.size := by rw [ew7]; rfl
    clear ew7
    have hzw7 := hc.size
    have HC := HC.tr hc
    have hs := hs.ch hc (fun h => h)
    have hb2 := hb2.ch hc (fun h => h)
    have hb3 := hb3.ch hc (fun h => h)
    have hrnd := hrnd.no hc
    have hS : Ch No w7 w7 := Ch.refl _ _
    refine ws_p rfl rfl rfl rfl (p_ixA1 (j := 4) Tryd.underlying200 sz146 rfl rfl (by omega) (by omega) rfl) ?_
    refine ws_h rfl rfl rfl rfl (p_ld Tryd.underlying146 rfl rfl (fun _ h => h.cell (fun h => h) (cellL hb3 (d := 0#32) (by first | (simp; done) | (simp; omega) | omega)))) ?_
    refine ws_p rfl rfl rfl rfl (p_ixA1 (j := 4) Tryd.underlying200 sz146 rfl rfl (by omega) (by omega) rfl) ?_
    refine ws_h rfl rfl rfl rfl (p_ld Tryd.underlying146 rfl rfl (fun _ h => h.cell (fun h => h) (cellL hb3 (d := 0#32) (by first | (simp; done) | (simp; omega) | omega)))) ?_
    refine ws_p rfl rfl rfl rfl (p_ixA1 (j := 4) Tryd.underlying200 sz146 rfl rfl (by omega) (by omega) rfl) ?_
    refine ws_h rfl rfl rfl rfl (p_ld Tryd.underlying146 rfl rfl (fun _ h => h.cell (fun h => h) (cellL hb3 (d := 0#32) (by first | (simp; done) | (simp; omega) | omega)))) ?_
    refine ws_e rfl rfl (e_call ent138 rfl rfl (rotl_any (r := 6) (by omega) (by omega)) ?_)
    rintro _ w11 ⟨rfl, hc⟩
    refine ⟨_, rfl, hc, ?_⟩
    have hzw11 := hc.size
    have HC := HC.tr hc
    have hs := hs.ch hc (fun h => h)
    have hb2 := hb2.ch hc (fun h => h)
    have hb3 := hb3.ch hc (fun h => h)
    have hrnd := hrnd.no hc
    refine ws_narrow (S' := fun x => Ch No w11 x) (Ch.refl _ _) (fun x h => hc.tr h) ?_
    refine ws_e rfl rfl (e_call ent138 rfl rfl (rotl_any (r := 11) (by omega) (by omega)) ?_)
    rintro _ w12 ⟨rfl, hc⟩
    refine ⟨_, rfl, hc, ?_⟩
    have hzw12 := hc.size
    have HC := HC.tr hc
    have hs := hs.ch hc (fun h => h)
    have hb2 := hb2.ch hc (fun h => h)
    have hb3 := hb3.ch hc (fun h => h)
    have hrnd := hrnd.no hc
    refine ws_narrow (S' := fun x => Ch No w12 x) (Ch.refl _ _) (fun x h => hc.tr h) ?_
    refine ws_p rfl rfl rfl rfl (p_xor32 rfl rfl) ?_
    refine ws_e rfl rfl (e_call ent138 rfl rfl (rotl_any (r := 25) (by omega) (by omega)) ?_)
    rintro _ w13 ⟨rfl, hc⟩
    refine ⟨_, rfl, hc, ?_⟩
    have hzw13 := hc.size
    have HC := HC.tr hc
    have hs := hs.ch hc (fun h => h)
    have hb2 := hb2.ch hc (fun h => h)
    have hb3 := hb3.ch hc (fun h => h)
    have hrnd := hrnd.no hc
    refine ws_narrow (S' := fun x => Ch No w13 x) (Ch.refl _ _) (fun x h => hc.tr h) ?_
    refine ws_p rfl rfl rfl rfl (p_xor32 rfl rfl) ?_
    refine ws_p rfl rfl rfl rfl (p_as rfl) ?_
    refine ws_n ?_
    refine x_seq ?_
    refine wc_seq ?_
    refine wc_draw (.st 0 0 (.st 1 1 (.st 3 0 (.st 4 1 (.st 7 0 (.st 8 1 (.st 2 2 (.st 5 2 (.st 6 0 (.st 9 2 (.st 10 0 (.st 11 0 .nil)))))))))))) 12 (by kernel_rfl) (by kernel_rfl) (by kernel_rfl) (by repeat (first | with_reducible exact pan_body | with_reducible apply pan_then | with_reducible apply pan_in)) (fun x => Ch No w13.drew x) (Ch.refl _ _) ?_
    obtain ⟨w14, ew14⟩ : ∃ x, x = w13.drew := ⟨_, rfl⟩
    rw [← ew14]
    have hc : Ch No w13 w14 := by rw [ew14]; exact Ch.drew _
    have hszw14 : w14.heap.size = w13.heap.size := by rw [ew14]; rfl
    clear ew14
    have hzw14 := hc.size
    have HC := HC.tr hc
    have hs := hs.ch hc (fun h => h)
    have hb2 := hb2.ch hc (fun h => h)
    have hb3 := hb3.ch hc (fun h => h)
    have hrnd := hrnd.no hc
    have hS : Ch No w14 w14 := Ch.refl _ _
    refine ws_p rfl rfl rfl rfl (p_ixA1 (j := 0) Tryd.underlying200 sz146 rfl rfl (by omega) (by omega) rfl) ?_
    refine ws_h rfl rfl rfl rfl (p_ld Tryd.underlying146 rfl rfl (fun _ h => h.cell (fun h => h) (cellL hb3 (d := 0#32) (by first | (simp; done) | (simp; omega) | omega)))) ?_
    refine ws_p rfl rfl rfl rfl (p_ixA1 (j := 0) Tryd.underlying200 sz146 rfl rfl (by omega) (by omega) rfl) ?_
    refine ws_h rfl rfl rfl rfl (p_ld Tryd.underlying146 rfl rfl (fun _ h => h.cell (fun h => h) (cellL hb3 (d := 0#32) (by first | (simp; done) | (simp; omega) | omega)))) ?_
    refine ws_p rfl rfl rfl rfl (p_ixA1 (j := 0) Tryd.underlying200 sz146 rfl rfl (by omega) (by omega) rfl) ?_
    refine ws_h rfl rfl rfl rfl (p_ld Tryd.underlying146 rfl rfl (fun _ h => h.cell (fun h => h) (cellL hb3 (d := 0#32) (by first | (simp; done) | (simp; omega) | omega)))) ?_
    refine ws_e rfl rfl (e_call ent138 rfl rfl (rotl_any (r := 2) (by omega) (by omega)) ?_)
    rintro _ w18 ⟨rfl, hc⟩
    refine ⟨_, rfl, hc, ?_⟩
    have hzw18 := hc.size
    have HC := HC.tr hc
    have hs := hs.ch hc (fun h => h)
    have hb2 := hb2.ch hc (fun h => h)
    have hb3 := hb3.ch hc (fun h => h)
    have hrnd := hrnd.no hc
    refine ws_narrow (S' := fun x => Ch No w18 x) (Ch.refl _ _) (fun x h => hc.tr h) ?_
    refine ws_e rfl rfl (e_call ent138 rfl rfl (rotl_any (r := 13) (by omega) (by omega)) ?_)
    rintro _ w19 ⟨rfl, hc⟩
    refine ⟨_, rfl, hc, ?_⟩
    have hzw19 := hc.size
    have HC := HC.tr hc
    have hs := hs.ch hc (fun h => h)
    have hb2 := hb2.ch hc (fun h => h)
    have hb3 := hb3.ch hc (fun h => h)
    have hrnd := hrnd.no hc
    refine ws_narrow (S' := fun x => Ch No w19 x) (Ch.refl _ _) (fun x h => hc.tr h) ?_
    refine ws_p rfl rfl rfl rfl (p_xor32 rfl rfl) ?_
    refine ws_e rfl rfl (e_call ent138 rfl rfl (rotl_any (r := 22) (by omega) (by omega)) ?_)
    rintro _ w20 ⟨rfl, hc⟩
    refine ⟨_, rfl, hc, ?_⟩
    have hzw20 := hc.size
    have HC := HC.tr hc
    have hs := hs.ch hc (fun h => h)
    have hb2 := hb2.ch hc (fun h => h)
    have hb3 := hb3.ch hc (fun h => h)
    have hrnd := hrnd.no hc
    refine ws_narrow (S' := fun x => Ch No w20 x) (Ch.refl _ _) (fun x h => hc.tr h) ?_
    refine ws_p rfl rfl rfl rfl (p_xor32 rfl rfl) ?_
    refine ws_p rfl rfl rfl rfl (p_as rfl) ?_
    refine ws_n ?_
    refine x_seq ?_
    refine wc_seq ?_
    refine wc_region ?_
    refine wl rfl rfl rfl (p_ixA1 (j := 6) Tryd.underlying200 sz146 rfl rfl (by omega) (by omega) rfl) ?_
    refine wl rfl rfl rfl (p_ld Tryd.underlying146 rfl rfl (ld (cellL hb3 (d := 0#32) (by first | (simp; done) | (simp; omega) | omega)))) ?_
    refine wl rfl rfl rfl (p_ixA1 (j := 4) Tryd.underlying200 sz146 rfl rfl (by omega) (by omega) rfl) ?_
    refine wl rfl rfl rfl (p_ld Tryd.underlying146 rfl rfl (ld (cellL hb3 (d := 0#32) (by first | (simp; done) | (simp; omega) | omega)))) ?_
    refine wl rfl rfl rfl (p_ixA1 (j := 5) Tryd.underlying200 sz146 rfl rfl (by omega) (by omega) rfl) ?_
    refine wl rfl rfl rfl (p_ld Tryd.underlying146 rfl rfl (ld (cellL hb3 (d := 0#32) (by first | (simp; done) | (simp; omega) | omega)))) ?_
    refine wl rfl rfl rfl (p_ixA1 (j := 6) Tryd.underlying200 sz146 rfl rfl (by omega) (by omega) rfl) ?_
    refine wl rfl rfl rfl (p_ld Tryd.underlying146 rfl rfl (ld (cellL hb3 (d := 0#32) (by first | (simp; done) | (simp; omega) | omega)))) ?_
    refine wl rfl rfl rfl (p_xor32 rfl rfl) ?_
    refine wl rfl rfl rfl (p_and32 rfl rfl) ?_
    refine wl rfl rfl rfl (p_xor32 rfl rfl) ?_
    refine wl rfl rfl rfl (p_as rfl) ?_
    refine wl_nil ?_
    refine x_seq ?_
    refine wc_seq ?_
    refine wc_region ?_
    refine wl rfl rfl rfl (p_ixA1 (j := 0) Tryd.underlying200 sz146 rfl rfl (by omega) (by omega) rfl) ?_
    refine wl rfl rfl rfl (p_ld Tryd.underlying146 rfl rfl (ld (cellL hb3 (d := 0#32) (by first | (simp; done) | (simp; omega) | omega)))) ?_
    refine wl rfl rfl rfl (p_ixA1 (j := 1) Tryd.underlying200 sz146 rfl rfl (by omega) (by omega) rfl) ?_
    refine wl rfl rfl rfl (p_ld Tryd.underlying146 rfl rfl (ld (cellL hb3 (d := 0#32) (by first | (simp; done) | (simp; omega) | omega)))) ?_
    refine wl rfl rfl rfl (p_and32 rfl rfl) ?_
    refine wl rfl rfl rfl (p_ixA1 (j := 2) Tryd.underlying200 sz146 rfl rfl (by omega) (by omega) rfl) ?_
    refine wl rfl rfl rfl (p_ld Tryd.underlying146 rfl rfl (ld (cellL hb3 (d := 0#32) (by first | (simp; done) | (simp; omega) | omega)))) ?_
    refine wl rfl rfl rfl (p_ixA1 (j := 0) Tryd.underlying200 sz146 rfl rfl (by omega) (by omega) rfl) ?_
    refine wl rfl rfl rfl (p_ld Tryd.underlying146 rfl rfl (ld (cellL hb3 (d := 0#32) (by first | (simp; done) | (simp; omega) | omega)))) ?_
    refine wl rfl rfl rfl (p_ixA1 (j := 1) Tryd.underlying200 sz146 rfl rfl (by omega) (by omega) rfl) ?_
    refine wl rfl rfl rfl (p_ld Tryd.underlying146 rfl rfl (ld (cellL hb3 (d := 0#32) (by first | (simp; done) | (simp; omega) | omega)))) ?_
    refine wl rfl rfl rfl (p_or32 rfl rfl) ?_
    refine wl rfl rfl rfl (p_and32 rfl rfl) ?_
    refine wl rfl rfl rfl (p_or32 rfl rfl) ?_
    refine wl rfl rfl rfl (p_as rfl) ?_
    refine wl_nil ?_
    refine x_seq ?_
    refine wc_seq ?_
    refine wc_draw (.st 0 0 (.st 1 1 (.st 2 0 (.st 3 0 (.st 4 0 (.st 5 0 (.st 6 0 (.st 7 0 (.st 8 1 (.st 9 0 (.st 10 0 (.st 11 0 (.st 12 1 (.st 13 0 (.st 14 0 .nil))))))))))))))) 15 (by kernel_rfl) (by kernel_rfl) (by kernel_rfl) (by repeat (first | with_reducible exact pan_body | with_reducible apply pan_then | with_reducible apply pan_in)) (fun x => Ch No w20.drew x) (Ch.refl _ _) ?_
    obtain ⟨w30, ew30⟩ : ∃ x, x = w20.drew := ⟨_, rfl⟩
    rw [← ew30]
    have hc : Ch No w20 w30 := by rw [ew30]; exact Ch.drew _
    have hszw30 : w30.heap.size = w20.heap.size := by rw [ew30]; rfl
    clear ew30
    have hzw30 := hc.size
    have HC := HC.tr hc
    have hs := hs.ch hc (fun h => h)
    have hb2 := hb2.ch hc (fun h => h)
    have hb3 := hb3.ch hc (fun h => h)
    have hrnd := hrnd.no hc
    have hS : Ch No w30 w30 := Ch.refl _ _
    refine ws_p rfl rfl rfl rfl (p_ixA1 (j := 7) Tryd.underlying200 sz146 rfl rfl (by omega) (by omega) rfl) ?_
    refine ws_h rfl rfl rfl rfl (p_ld Tryd.underlying146 rfl rfl (fun _ h => h.cell (fun h => h) (cellL hb3 (d := 0#32) (by first | (simp; done) | (simp; omega) | omega)))) ?_
    refine ws_p rfl rfl rfl rfl (p_mv rfl) ?_
    refine ws_p rfl rfl rfl rfl (p_add32 rfl rfl) ?_
    refine ws_p rfl rfl rfl rfl (p_mv rfl) ?_
    refine ws_p rfl rfl rfl rfl (p_add32 rfl rfl) ?_
    refine ws_p rfl rfl rfl rfl (p_mv rfl) ?_
    obtain ⟨b32, o32, hA32, hF32, hc32⟩ := (hrnd).opn (d := 0#32) (by omega)
    cases hA32
    refine ws_p rfl rfl rfl rfl (p_ixAo Tryd.underlying213 sz146 rfl rfl (by omega) (by omega) (Int.toNat_natCast _)) ?_
    refine ws_h rfl rfl rfl rfl (p_ld Tryd.underlying146 rfl rfl (fun _ h => h.cell (fun h => h) (hc32 _ (by omega)))) ?_
    refine ws_p rfl rfl rfl rfl (p_add32 rfl rfl) ?_
    refine ws_p rfl rfl rfl rfl (p_mv rfl) ?_
    refine ws_p rfl rfl rfl rfl (p_ixA1 Tryd.underlying213 sz146 rfl rfl (by omega) (by omega) (Int.toNat_natCast _)) ?_
    refine ws_h rfl rfl rfl rfl (p_ld Tryd.underlying146 rfl rfl (fun _ h => h.cell (fun h => h) (cellL hb2 (d := 0#32) (by first | (simp; done) | (simp; omega) | omega)))) ?_
    refine ws_p rfl rfl rfl rfl (p_add32 rfl rfl) ?_
    refine ws_p rfl rfl rfl rfl (p_as rfl) ?_
    refine ws_n ?_
    refine x_seq ?_
    refine wc_region ?_
    refine wl rfl rfl rfl (p_mv rfl) ?_
    refine wl rfl rfl rfl (p_mv rfl) ?_
    refine wl rfl rfl rfl (p_add32 rfl rfl) ?_
    refine wl rfl rfl rfl (p_mv rfl) ?_
    refine wl rfl rfl rfl (p_add32 rfl rfl) ?_
    refine wl rfl rfl rfl (p_ixA1 (j := 0) Tryd.underlying200 sz146 rfl rfl (by omega) (by omega) rfl) ?_
    refine wl rfl rfl rfl (p_ld Tryd.underlying146 rfl rfl (ld (cellL hb3 (d := 0#32) (by first | (simp; done) | (simp; omega) | omega)))) ?_
    refine wl rfl rfl rfl (p_ixA1 (j := 1) Tryd.underlying200 sz146 rfl rfl (by omega) (by omega) rfl) ?_
    refine wl rfl rfl rfl (p_ld Tryd.underlying146 rfl rfl (ld (cellL hb3 (d := 0#32) (by first | (simp; done) | (simp; omega) | omega)))) ?_
    refine wl rfl rfl rfl (p_ixA1 (j := 2) Tryd.underlying200 sz146 rfl rfl (by omega) (by omega) rfl) ?_
    refine wl rfl rfl rfl (p_ld Tryd.underlying146 rfl rfl (ld (cellL hb3 (d := 0#32) (by first | (simp; done) | (simp; omega) | omega)))) ?_
    refine wl rfl rfl rfl (p_ixA1 (j := 3) Tryd.underlying200 sz146 rfl rfl (by omega) (by omega) rfl) ?_
    refine wl rfl rfl rfl (p_ld Tryd.underlying146 rfl rfl (ld (cellL hb3 (d := 0#32) (by first | (simp; done) | (simp; omega) | omega)))) ?_
    refine wl rfl rfl rfl (p_mv rfl) ?_
    refine wl rfl rfl rfl (p_add32 rfl rfl) ?_
    refine wl rfl rfl rfl (p_ixA1 (j := 4) Tryd.underlying200 sz146 rfl rfl (by omega) (by omega) rfl) ?_
    refine wl rfl rfl rfl (p_ld Tryd.underlying146 rfl rfl (ld (cellL hb3 (d := 0#32) (by first | (simp; done) | (simp; omega) | omega)))) ?_
    refine wl rfl rfl rfl (p_ixA1 (j := 5) Tryd.underlying200 sz146 rfl rfl (by omega) (by omega) rfl) ?_
    refine wl rfl rfl rfl (p_ld Tryd.underlying146 rfl rfl (ld (cellL hb3 (d := 0#32) (by first | (simp; done) | (simp; omega) | omega)))) ?_
    refine wl rfl rfl rfl (p_ixA1 (j := 6) Tryd.underlying200 sz146 rfl rfl (by omega) (by omega) rfl) ?_
    refine wl rfl rfl rfl (p_ld Tryd.underlying146 rfl rfl (ld (cellL hb3 (d := 0#32) (by first | (simp; done) | (simp; omega) | omega)))) ?_
    refine wl rfl rfl rfl (p_bldV rfl (fun _ => by kernel_rfl)) ?_
    refine wle rfl (e_stW (vs := _) (by first | rfl | exact szL sz200 (by rw [List.length_map]; exact hh)) (by first | exact allOne rfl | exact oneL one_u32 _) rfl rfl hb3 (by first | (simp [hh]; done) | (simp [hvl]; done)) (fun w41 hb3 hc hsz => ?_))
    have hzw41 := hc.size
    have HC := HC.trans hc (fun _ _ h => h) (fun k hk ht => absurd ht (by omega))
    have hs := hs.ch hc (by omega)
    have hb2 := hb2.ch hc (by omega)
    first | have hrnd := hrnd.ch hc (by intro k hk ht; first | omega | (dsimp only at *; omega)) | have hrnd := hrnd.chT hc (by intro k hz hk ht; first | omega | (dsimp only at *; omega))
    refine wl_nil ?_
    refine x_in_normal ?_
    refine x_seq ?_
    refine wc_region ?_
    refine wl rfl rfl rfl (p_add rfl rfl (w64 (by omega))) ?_
    refine wl rfl rfl rfl (p_mv rfl) ?_
    refine wl_nil ?_
    refine x_round (e' := [(0, .pointer (some ⟨g, 0, none⟩)), (2, .pointer (some ⟨g2, 0, none⟩)), (3, .pointer (some ⟨g3, 0, none⟩)), (19, i64 ((t + 1) : Int))]) ⟨rfl, rfl, rfl, rfl, trivial⟩ (by rw [hm0]; omega) ⟨t + 1, rfl, rfl, by omega, hs, hb2, hb3, hrnd, HC⟩
  ·
    have c0 := of_decide_eq_false c0
    obtain rfl : t = 64 := by omega
    have hvl := rnds_len (sch rest 64) hh 64
    refine wc_exit ?_
    refine x_then_exit ?_
    refine x_then_exit ?_
    refine x_in_here ?_
    refine x_seq ?_
    refine wc_seq ?_
    refine wc_region ?_
    refine wl rfl rfl rfl (p_mv rfl) ?_
    refine wl_nil ?_
    refine x_seq ?_
    refine wc_block ?_
    refine wc_loop (e' := [(0, .pointer (some ⟨g, 0, none⟩)), (3, .pointer (some ⟨g3, 0, none⟩)), (106, i64 ((0) : Int))]) (fun mz ez uz => ∃ i : Nat, mz = 8 - i ∧ ez = [(0, .pointer (some ⟨g, 0, none⟩)), (3, .pointer (some ⟨g3, 0, none⟩)), (106, i64 (i : Int))] ∧ (i ≤ 8) ∧ (Blk uz g 205 (stt (addN h (rnds (sch rest 64) h 64) i) rest n made)) ∧ (Blk uz g3 200 ((rnds (sch rest 64) h 64).map u32v).toArray) ∧ (Ch (fun k => k = g) w uz))
      ⟨rfl, rfl, rfl, trivial⟩ ⟨0, rfl, rfl, by omega, hs, hb3, HC⟩ ?_
    rintro m1 e w42 ⟨i, hm1, rfl, hi, hs, hb3, HC⟩
    have hzw42 := HC.size
    have hal : (addN h (rnds (sch rest 64) h 64) i).length = 8 := by rw [addN_len]; exact hh
    refine wc_seq ?_
    refine wc_region ?_
    refine wl rfl rfl rfl (p_lt rfl rfl) ?_
    refine wl_nil ?_
    refine x_seq ?_
    refine wc_seq ?_
    refine wc_if rfl (fun c1 => ?_) (fun c1 => ?_)
    ·
      have c1 := of_decide_eq_true c1
      refine wc_skip ?_
      refine x_seq ?_
      refine wc_seq ?_
      refine wc_block ?_
      refine wc_seq ?_
      refine wc_region ?_
      refine wl rfl rfl rfl (p_mv rfl) ?_
      refine wl rfl rfl rfl (p_as rfl) ?_
      refine wl_nil ?_
      refine x_seq ?_
      refine wc_draw (.st 0 0 (.st 1 0 (.st 2 0 (.st 3 0 (.st 4 0 (.st 5 1 (.st 6 0 (.st 7 0 (.st 8 1 (.st 9 0 (.st 10 0 (.st 11 0 (.st 12 0 (.st 13 3 .nil)))))))))))))) 13 (by kernel_rfl) (by kernel_rfl) (by kernel_rfl) (by repeat (first | with_reducible exact pan_body | with_reducible apply pan_then | with_reducible apply pan_in)) (fun x => Ch No w42.drew x) (Ch.refl _ _) ?_
      obtain ⟨w43, ew43⟩ : ∃ x, x = w42.drew := ⟨_, rfl⟩
      rw [← ew43]
      have hc : Ch No w42 w43 := by rw [ew43]; exact Ch.drew _
      have hszw43 : w43.heap.size = w42.heap.size := by rw [ew43]; rfl
      clear ew43
      have hzw43 := hc.size
      have HC := HC.tr hc
      have hs := hs.ch hc (fun h => h)
      have hb3 := hb3.ch hc (fun h => h)
      have hS : Ch No w43 w43 := Ch.refl _ _
      refine ws_p rfl rfl rfl rfl (p_mv rfl) ?_
      refine ws_p rfl rfl rfl rfl (p_mv rfl) ?_
      refine ws_p rfl rfl rfl rfl (p_nck rfl) ?_
      refine ws_p rfl rfl rfl rfl (p_fld Tryd.underlying205 rfl ⟨_, by rfl⟩ rfl rfl) ?_
      refine ws_p rfl rfl rfl rfl (p_ixAo (o := 0) Tryd.underlying200 sz146 rfl rfl (by omega) (by omega) (Int.toNat_natCast _)) ?_
      refine ws_h rfl rfl rfl rfl (p_ld Tryd.underlying146 rfl rfl (fun _ hx => hx.cell (fun h => h) (by rw [Nat.zero_add]; exact hs.cell (stt_h hal (by omega))))) ?_
      refine ws_p rfl rfl rfl rfl (p_mv rfl) ?_
      refine ws_p rfl rfl rfl rfl (p_ixA1 Tryd.underlying200 sz146 rfl rfl (by omega) (by omega) (Int.toNat_natCast _)) ?_
      refine ws_h rfl rfl rfl rfl (p_ld Tryd.underlying146 rfl rfl (fun _ h => h.cell (fun h => h) (cellL hb3 (d := 0#32) (by first | (simp; done) | (simp; omega) | omega)))) ?_
      refine ws_p rfl rfl rfl rfl (p_add32 rfl rfl) ?_
      refine ws_p rfl rfl rfl rfl (p_nck rfl) ?_
      refine ws_p rfl rfl rfl rfl (p_fld Tryd.underlying205 rfl ⟨_, by rfl⟩ rfl rfl) ?_
      refine ws_p rfl rfl rfl rfl (p_ixAo (o := 0) Tryd.underlying200 sz146 rfl rfl (by omega) (by omega) (Int.toNat_natCast _)) ?_
      refine ws_l rfl rfl (e_stSh (by rfl) rfl rfl hs hal hr (by omega) (fun w45 hs hc hsz => ?_))
      have hzw45 := hc.size
      have HC := HC.trans hc (fun _ _ h => h) (fun k hk ht => ht)
      have hb3 := hb3.ch hc (by omega)
      refine ws_n ?_
      refine x_in_normal ?_
      refine x_seq ?_
      refine wc_region ?_
      refine wl rfl rfl rfl (p_add rfl rfl (w64 (by omega))) ?_
      refine wl rfl rfl rfl (p_mv rfl) ?_
      refine wl_nil ?_
      refine x_round (e' := [(0, .pointer (some ⟨g, 0, none⟩)), (3, .pointer (some ⟨g3, 0, none⟩)), (106, i64 ((i + 1) : Int))]) ⟨rfl, rfl, rfl, trivial⟩ (by rw [hm1]; omega) ⟨i + 1, rfl, rfl, by omega, hs, hb3, HC⟩
    ·
      have c1 := of_decide_eq_false c1
      obtain rfl : i = 8 := by omega
      refine wc_exit ?_
      refine x_then_exit ?_
      refine x_then_exit ?_
      refine x_in_here ?_
      refine fin_run_n ((res0 rfl)) ?_
      exact ⟨rfl, HC, hs⟩

set_option maxHeartbeats 4000000 in
set_option maxRecDepth 20000 in
theorem take_any {w : World} {Ab : Option Addr} {lb cb : Nat} {Fb : Nat → Prop} {b : List UInt8} {g : Nat} {m : List UInt8} {h : List W32} {rest : List UInt8} {made : Bool} (hs : Blk w g 205 (stt h rest m.length made)) (hrep : Rep m h rest) (hb : Sl w Fb u8v Ab lb cb b) (hFb : ∀ k, Fb k → k ≠ g) (hg1 : g ≠ 0) (hl : m.length + lb ≤ 4398046511104) (hrnd : Sl w (fun k => k = 0) u32v (some ⟨0, 0, none⟩) 64 64 rk) :
    Calls Tryd.prog 124 #[.pointer (some ⟨g, 0, none⟩), .slice Ab lb cb] w fun e w' => e = .returned (.tuple #[]) ∧ Ch (fun k => k = g) w w' ∧ ∃ h' r', Blk w' g 205 (stt h' r' (m ++ b).length made) ∧ Rep (m ++ b) h' r' := by
  have hbl := hb.len
  have hn1 : 0 < w.heap.size := hrnd.size (by omega) rfl
  have hb1 : Sl w (fun k => k < w.heap.size ∧ k ≠ g) u8v Ab lb cb b := hb.mono (fun k h1 h2 => ⟨h1, hFb k h2⟩)
  have HC : Ch (fun k => k = g) w w := Ch.refl _ _
  refine enter' (args := [.pointer (some ⟨g, 0, none⟩), .slice Ab lb cb]) (n := 38) Tryd.func124 rfl rfl rfl ?_
  refine wc_block ?_
  refine wc_loop (e' := [(0, .pointer (some ⟨g, 0, none⟩)), (1, .slice (Ab) (lb - (0)) (cb))]) (fun mz ez uz => ∃ j : Nat, ∃ A1 : Option Addr, ∃ kc : Nat, mz = lb - j ∧ ez = [(0, .pointer (some ⟨g, 0, none⟩)), (1, .slice A1 (lb - j) kc)] ∧ (j ≤ lb) ∧ (∃ h1 r1, Blk uz g 205 (stt h1 r1 (m.length + j) made) ∧ Rep (m ++ b.take j) h1 r1) ∧ (Sl uz (fun k => k < w.heap.size ∧ k ≠ g) u8v A1 (lb - j) kc (b.drop j)) ∧ (Sl uz (fun k => k = 0) u32v (some ⟨0, 0, none⟩) 64 64 rk) ∧ (Ch (fun k => k = g) w uz))
    ⟨rfl, rfl, trivial⟩ ⟨0, Ab, cb, rfl, rfl, by omega, ⟨h, rest, hs, by simpa using hrep⟩, by simpa using hb1, hrnd, HC⟩ ?_
  rintro m0 e w1 ⟨j, A1, kc, hm0, rfl, hj, hst, hb1, hrnd, HC⟩
  have hzw1 := HC.size
  obtain ⟨h1, r1, hs, hrep⟩ := hst
  have hh := hrep.hlen
  have hr := hrep.len
  have hml : (m ++ b.take j).length = m.length + j := by rw [List.length_append, List.length_take]; omega
  have hcl : ((b.drop j).take (min (lb - j) (64 - (m.length + j) % 64))).length = min (lb - j) (64 - (m.length + j) % 64) := by rw [List.length_take, List.length_drop]; omega
  refine wc_seq ?_
  refine wc_seq ?_
  refine wc_region ?_
  refine wl rfl rfl rfl (p_mv rfl) ?_
  refine wl rfl rfl rfl (p_lenS Tryd.underlying107 rfl) ?_
  refine wl rfl rfl rfl (p_gt rfl rfl) ?_
  refine wl_nil ?_
  refine x_seq ?_
  refine wc_if rfl (fun c0 => ?_) (fun c0 => ?_)
  ·
    have c0 := of_decide_eq_true c0
    refine wc_skip ?_
    refine x_seq ?_
    refine wc_block ?_
    refine wc_seq ?_
    refine wc_draw (.st 0 0 (.st 1 0 (.st 2 0 (.st 3 0 (.st 4 0 (.st 5 0 (.st 6 1 (.st 7 0 (.st 8 0 (.st 9 0 (.st 10 2 (.st 11 0 .nil)))))))))))) 12 (by kernel_rfl) (by kernel_rfl) (by kernel_rfl) (by repeat (first | with_reducible exact pan_body | with_reducible apply pan_then | with_reducible apply pan_in)) (fun x => x.cell? ⟨g, 72, none⟩ = some (i64 ((m.length + j : Nat) : Int))) (((hs.ch (Ch.drew _) (fun h => h)).cell (stt_n hh hr))) ?_
    obtain ⟨w2, ew2⟩ : ∃ x, x = w1.drew := ⟨_, rfl⟩
    rw [← ew2]
    have hc : Ch No w1 w2 := by rw [ew2]; exact Ch.drew _
    have hszw2 : w2.heap.size = w1.heap.size := by rw [ew2]; rfl
    clear ew2
    have hzw2 := hc.size
    have HC := HC.tr hc
    have hb1 := hb1.no hc
    have hrnd := hrnd.no hc
    have hs := hs.ch hc (fun h => h)
    have hS : Ch No w2 w2 := Ch.refl _ _
    refine ws_p rfl rfl rfl rfl (p_mv rfl) ?_
    refine ws_p rfl rfl rfl rfl (p_nck rfl) ?_
    refine ws_p rfl rfl rfl rfl (p_fld Tryd.underlying205 rfl ⟨_, by rfl⟩ rfl rfl) ?_
    refine ws_p rfl rfl rfl rfl (p_mv rfl) ?_
    refine ws_p rfl rfl rfl rfl (p_nck rfl) ?_
    refine ws_p rfl rfl rfl rfl (p_fld Tryd.underlying205 rfl ⟨_, by rfl⟩ rfl rfl) ?_
    refine ws_h rfl rfl rfl rfl (p_ld Tryd.underlying3 rfl rfl (fun _ hx => hx)) ?_
    refine ws_p rfl rfl rfl rfl (p_rem (Z := (((m.length + j) % 64 : Nat) : Int)) rfl rfl (by omega) rfl) ?_
    refine ws_p rfl rfl rfl rfl (p_slA2 (o := 8) (l := (m.length + j) % 64) Tryd.underlying203 sz5 rfl ⟨_, rfl⟩ (by omega)) ?_
    refine ws_p rfl rfl rfl rfl (p_mv rfl) ?_
    refine ws_e rfl rfl (e_copySt rfl Tryd.underlying107 sz5 rfl rfl hs hh hr hb1 (by omega) (fun w3 hs hc hsz => ⟨hs.cell (stt_n hh (lay_len hr (by omega))), ?_⟩))
    have hzw3 := hc.size
    have HC := HC.trans hc (fun _ _ h => h) (fun k hk ht => ht)
    first | have hb1 := hb1.ch hc (by intro k hk ht; first | omega | (dsimp only at *; omega)) | have hb1 := hb1.chT hc (by intro k hz hk ht; first | omega | (dsimp only at *; omega))
    first | have hrnd := hrnd.ch hc (by intro k hk ht; first | omega | (dsimp only at *; omega)) | have hrnd := hrnd.chT hc (by intro k hz hk ht; first | omega | (dsimp only at *; omega))
    have hr0 := hr
    have hr := lay_len (c := ((b.drop j).take (min (lb - j) (64 - (m.length + j) % 64)))) (r := (m.length + j) % 64) hr (by omega)
    refine ws_p rfl rfl rfl rfl (p_as rfl) ?_
    refine ws_n ?_
    refine x_seq ?_
    refine wc_seq ?_
    refine wc_region ?_
    refine wl rfl rfl rfl (p_mv rfl) ?_
    refine wl rfl rfl rfl (p_mv rfl) ?_
    have hS21 : Sl w3 (fun k => k < w.heap.size ∧ k ≠ g) u8v (cutA A1 kc (min (lb - j) (64 - (m.length + j) % 64)) 1) (lb - (j + min (lb - j) (64 - (m.length + j) % 64))) (kc - min (lb - j) (64 - (m.length + j) % 64)) (b.drop (j + min (lb - j) (64 - (m.length + j) % 64))) := by have := hb1.cutTo (lo := min (lb - j) (64 - (m.length + j) % 64)) (by omega); rw [List.drop_drop, show lb - j - min (lb - j) (64 - (m.length + j) % 64) = lb - (j + min (lb - j) (64 - (m.length + j) % 64)) by omega] at this; exact this
    refine wl rfl rfl rfl (p_slS (l := min (lb - j) (64 - (m.length + j) % 64)) (h := lb - j) Tryd.underlying107 sz5 rfl ⟨_, rfl⟩ rfl (by omega) (by have := hb1.cap; omega) hb1.cap (q := lb - (j + min (lb - j) (64 - (m.length + j) % 64))) (by omega)) ?_
    refine wl rfl rfl rfl (p_as rfl) ?_
    refine wl_nil ?_
    refine x_seq ?_
    refine wc_seq ?_
    refine wc_region ?_
    refine wl rfl rfl rfl (p_mv rfl) ?_
    refine wl rfl rfl rfl (p_nck rfl) ?_
    refine wl rfl rfl rfl (p_fld Tryd.underlying205 rfl ⟨_, by rfl⟩ rfl rfl) ?_
    refine wl rfl rfl rfl (p_ld Tryd.underlying3 rfl rfl (ld (hs.cell (stt_n hh hr)))) ?_
    refine wl rfl rfl rfl (p_mv rfl) ?_
    refine wl rfl rfl rfl (p_add (Z := ((m.length + (j + min (lb - j) (64 - (m.length + j) % 64)) : Nat) : Int)) rfl rfl (by rw [w64 (by omega)]; omega)) ?_
    refine wl rfl rfl rfl (p_nck rfl) ?_
    refine wl rfl rfl rfl (p_fld Tryd.underlying205 rfl ⟨_, by rfl⟩ rfl rfl) ?_
    refine wle rfl (e_stSn (m' := m.length + (j + min (lb - j) (64 - (m.length + j) % 64))) (by rfl) rfl rfl hs hh hr (fun w4 hs hc hsz => ?_))
    have hzw4 := hc.size
    have HC := HC.trans hc (fun _ _ h => h) (fun k hk ht => ht)
    first | have hb1 := hb1.ch hc (by intro k hk ht; first | omega | (dsimp only at *; omega)) | have hb1 := hb1.chT hc (by intro k hz hk ht; first | omega | (dsimp only at *; omega))
    first | have hrnd := hrnd.ch hc (by intro k hk ht; first | omega | (dsimp only at *; omega)) | have hrnd := hrnd.chT hc (by intro k hz hk ht; first | omega | (dsimp only at *; omega))
    first | have hS21 := hS21.ch hc (by intro k hk ht; first | omega | (dsimp only at *; omega)) | have hS21 := hS21.chT hc (by intro k hz hk ht; first | omega | (dsimp only at *; omega))
    refine wl_nil ?_
    refine x_seq ?_
    refine wc_seq ?_
    refine wc_region ?_
    refine wl rfl rfl rfl (p_mv rfl) ?_
    refine wl rfl rfl rfl (p_nck rfl) ?_
    refine wl rfl rfl rfl (p_fld Tryd.underlying205 rfl ⟨_, by rfl⟩ rfl rfl) ?_
    refine wl rfl rfl rfl (p_ld Tryd.underlying3 rfl rfl (ld (hs.cell (stt_n hh hr)))) ?_
    refine wl rfl rfl rfl (p_rem (Z := (((m.length + (j + min (lb - j) (64 - (m.length + j) % 64))) % 64 : Nat) : Int)) rfl rfl (by omega) rfl) ?_
    refine wl rfl rfl rfl (p_eq rfl rfl) ?_
    refine wl_nil ?_
    refine x_seq ?_
    refine wc_if rfl (fun c1 => ?_) (fun c1 => ?_)
    ·
      have c1 := of_decide_eq_true c1
      have hrep2 := hrep.full (c := ((b.drop j).take (min (lb - j) (64 - (m.length + j) % 64)))) (by rw [hml, hcl]; omega)
      rw [hml, List.append_assoc, ← List.take_add] at hrep2
      refine wc_region ?_
      refine wl rfl rfl rfl (p_mv rfl) ?_
      refine wle rfl (e_call ent132 rfl rfl (block_any hs hh hr hrnd) ?_)
      rintro _ w5 ⟨rfl, hc, hs⟩
      refine ⟨_, rfl, ?_⟩
      have hzw5 := hc.size
      have HC := HC.trans hc (fun _ _ h => h) (fun k hk ht => ht)
      first | have hb1 := hb1.ch hc (by intro k hk ht; first | omega | (dsimp only at *; omega)) | have hb1 := hb1.chT hc (by intro k hz hk ht; first | omega | (dsimp only at *; omega))
      first | have hrnd := hrnd.ch hc (by intro k hk ht; first | omega | (dsimp only at *; omega)) | have hrnd := hrnd.chT hc (by intro k hz hk ht; first | omega | (dsimp only at *; omega))
      first | have hS21 := hS21.ch hc (by intro k hk ht; first | omega | (dsimp only at *; omega)) | have hS21 := hS21.chT hc (by intro k hz hk ht; first | omega | (dsimp only at *; omega))
      refine wl_nil ?_
      refine x_in_normal ?_
      refine x_round (e' := [(0, .pointer (some ⟨g, 0, none⟩)), (1, .slice (cutA A1 kc (min (lb - j) (64 - (m.length + j) % 64)) 1) (lb - (j + min (lb - j) (64 - (m.length + j) % 64))) (kc - min (lb - j) (64 - (m.length + j) % 64)))]) ⟨rfl, rfl, trivial⟩ (by rw [hm0]; omega) ⟨j + min (lb - j) (64 - (m.length + j) % 64), cutA A1 kc (min (lb - j) (64 - (m.length + j) % 64)) 1, kc - min (lb - j) (64 - (m.length + j) % 64), rfl, rfl, by omega, ⟨_, _, hs, hrep2⟩, hS21, hrnd, HC⟩
    ·
      have c1 := of_decide_eq_false c1
      have hrep2 := hrep.more (c := ((b.drop j).take (min (lb - j) (64 - (m.length + j) % 64)))) (by rw [hml, hcl]; omega)
      rw [hml, List.append_assoc, ← List.take_add] at hrep2
      refine wc_skip ?_
      refine x_in_normal ?_
      refine x_round (e' := [(0, .pointer (some ⟨g, 0, none⟩)), (1, .slice (cutA A1 kc (min (lb - j) (64 - (m.length + j) % 64)) 1) (lb - (j + min (lb - j) (64 - (m.length + j) % 64))) (kc - min (lb - j) (64 - (m.length + j) % 64)))]) ⟨rfl, rfl, trivial⟩ (by rw [hm0]; omega) ⟨j + min (lb - j) (64 - (m.length + j) % 64), cutA A1 kc (min (lb - j) (64 - (m.length + j) % 64)) 1, kc - min (lb - j) (64 - (m.length + j) % 64), rfl, rfl, by omega, ⟨_, _, hs, hrep2⟩, hS21, hrnd, HC⟩
  ·
    have c0 := of_decide_eq_false c0
    have hjl : j = lb := by omega
    rw [List.take_of_length_le (by omega)] at hrep
    rw [hjl, ← hbl, ← List.length_append] at hs
    refine wc_exit ?_
    refine x_then_exit ?_
    refine x_then_exit ?_
    refine x_in_here ?_
    refine fin_run_n ((res0 rfl)) ?_
    exact ⟨rfl, HC, _, _, hs, hrep⟩

set_option maxHeartbeats 1000000 in
set_option maxRecDepth 20000 in
theorem fresh_any {w : World}   :
    Calls Tryd.prog 123 #[] w fun e w' => e = .returned (.agg (stt iv (List.replicate 64 0) 0 true).toList.toArray) ∧ Ch No w w' := by
  have HC : Ch No w w := Ch.refl _ _
  refine enter' (args := []) (n := 3) Tryd.func123 rfl rfl rfl ?_
  refine wc_seq ?_
  refine wc_region ?_
  refine wle rfl (e_alloc (cs := #[.int .u32 0, .int .u32 0, .int .u32 0, .int .u32 0, .int .u32 0, .int .u32 0, .int .u32 0, .int .u32 0, .int .u8 0, .int .u8 0, .int .u8 0, .int .u8 0, .int .u8 0, .int .u8 0, .int .u8 0, .int .u8 0, .int .u8 0, .int .u8 0, .int .u8 0, .int .u8 0, .int .u8 0, .int .u8 0, .int .u8 0, .int .u8 0, .int .u8 0, .int .u8 0, .int .u8 0, .int .u8 0, .int .u8 0, .int .u8 0, .int .u8 0, .int .u8 0, .int .u8 0, .int .u8 0, .int .u8 0, .int .u8 0, .int .u8 0, .int .u8 0, .int .u8 0, .int .u8 0, .int .u8 0, .int .u8 0, .int .u8 0, .int .u8 0, .int .u8 0, .int .u8 0, .int .u8 0, .int .u8 0, .int .u8 0, .int .u8 0, .int .u8 0, .int .u8 0, .int .u8 0, .int .u8 0, .int .u8 0, .int .u8 0, .int .u8 0, .int .u8 0, .int .u8 0, .int .u8 0, .int .u8 0, .int .u8 0, .int .u8 0, .int .u8 0, .int .u8 0, .int .u8 0, .int .u8 0, .int .u8 0, .int .u8 0, .int .u8 0, .int .u8 0, .int .u8 0, .int .i64 0, .bool false]) rfl (by rfl) (by rfl) (fun w1 g0 hg0 hb0 hc hsz0 => ?_))
  have hzw1 := hc.size
  have HC := HC.tr hc
  have hge0 : w.heap.size ≤ g0 := by have := HC.size; omega
  refine wl_nil ?_
  refine x_seq ?_
  refine wc_seq ?_
  refine wc_region ?_
  refine wl rfl rfl rfl (p_bldV rfl (fun _ => by kernel_rfl)) ?_
  refine wl rfl rfl rfl (p_bldP (cs := (stt iv (List.replicate 64 0) 0 true).toList.toArray) rfl (fun _ => by kernel_rfl)) ?_
  refine wle rfl (e_stW (vs := _) (by kernel_rfl) (allOne (by kernel_rfl)) rfl rfl hb0 (by kernel_rfl) (fun w2 hb0 hc hsz => ?_))
  have hzw2 := hc.size
  have HC := HC.trans hc (fun _ _ h => h) (fun k hk ht => absurd ht (by omega))
  refine wl_nil ?_
  refine x_seq ?_
  refine wc_ret ?_
  refine fin_run (resC rfl rfl Tryd.underlying205 rfl (by kernel_rfl) (rngL hb0)) ?_
  exact ⟨rfl, HC⟩

set_option maxHeartbeats 4000000 in
set_option maxRecDepth 20000 in
theorem done_any {w : World} {m : List UInt8} {h : List W32} {rest : List UInt8} {made : Bool} (hrep : Rep m h rest) (hl : m.length ≤ 1099511627776) (hrnd : Sl w (fun k => k = 0) u32v (some ⟨0, 0, none⟩) 64 64 rk) :
    Calls Tryd.prog 125 #[.agg (stt h rest m.length made)] w fun e w' => e = .returned (.agg ((shaF m).map u8v).toArray) ∧ Ch No w w' := by
  have hn1 : 0 < w.heap.size := hrnd.size (by omega) rfl
  have hh := hrep.hlen
  have hr := hrep.len
  have hnz : nz m.length < 64 := by unfold nz; omega
  have HC : Ch No w w := Ch.refl _ _
  refine enter' (args := [.agg (stt h rest m.length made)]) (n := 64) Tryd.func125 rfl rfl rfl ?_
  refine wc_seq ?_
  refine wc_region ?_
  refine wle rfl (e_box rfl rfl rfl (fun w1 g1 hg1 hb1 hc hsz1 => ?_))
  have hzw1 := hc.size
  have HC := HC.tr hc
  have hrnd := hrnd.no hc
  have hge1 : w.heap.size ≤ g1 := by have := HC.size; omega
  have hs := hb1
  have hltg1 := hs.lt
  refine wle rfl (e_alloc (cs := ((List.replicate 32 (0 : UInt8)).map u8v).toArray) rfl (by rfl) rfl (fun w2 g2 hg2 hb2 hc hsz2 => ?_))
  have hzw2 := hc.size
  have HC := HC.tr hc
  have hrnd := hrnd.no hc
  have hs := hs.ch hc (fun h => h)
  have hge2 : w.heap.size ≤ g2 := by have := HC.size; omega
  have neg1_2 : g1 < g2 := by omega
  refine wl_nil ?_
  refine x_seq ?_
  refine wc_seq ?_
  refine wc_region ?_
  refine wl rfl rfl rfl (p_fld Tryd.underlying205 rfl ⟨_, by rfl⟩ rfl rfl) ?_
  refine wl rfl rfl rfl (p_ld Tryd.underlying3 rfl rfl (ld (hs.cell (stt_n hh hr)))) ?_
  refine wl rfl rfl rfl (p_conv Tryd.underlying3 Tryd.underlying212 rfl (wu64 (by omega))) ?_
  refine wl rfl rfl rfl (p_shl (Z := ((8 * m.length : Nat) : Int)) rfl rfl (by omega) (shl3 (by omega))) ?_
  refine wl rfl rfl rfl (p_as rfl) ?_
  refine wl_nil ?_
  refine x_seq ?_
  refine wc_seq ?_
  refine wc_region ?_
  have hltg1 := hs.lt
  have hltg2 := hb2.lt
  refine wle rfl (e_bslV (E := 5) rfl rfl (fun _ => by kernel_rfl) (fun w3 g12 hg12 hb12 hc hsz12 => ?_))
  have hzw3 := hc.size
  have HC := HC.tr hc
  have hrnd := hrnd.no hc
  have hs := hs.ch hc (fun h => h)
  have hb2 := hb2.ch hc (fun h => h)
  have hge12 : w.heap.size ≤ g12 := by have := HC.size; omega
  have hS12 := Sl.lit1 (f := u8v) (x := 128) hb12
  refine wle rfl (e_call ent124 rfl rfl (take_any hs hrep (hS12) (by intro k hk; first | omega | (dsimp only at *; omega)) (by omega) (by first | omega | (simp only [List.length_nil]; omega)) hrnd) ?_)
  rintro _ w4 ⟨rfl, hc, h13, r13, hs, hrep⟩
  refine ⟨_, rfl, ?_⟩
  have hzw4 := hc.size
  have HC := HC.trans hc (fun _ _ h => h) (fun k hk ht => absurd ht (by omega))
  first | have hrnd := hrnd.ch hc (by intro k hk ht; first | omega | (dsimp only at *; omega)) | have hrnd := hrnd.chT hc (by intro k hz hk ht; first | omega | (dsimp only at *; omega))
  have hb2 := hb2.ch hc (by omega)
  first | have hS12 := hS12.ch hc (by intro k hk ht; first | omega | (dsimp only at *; omega)) | have hS12 := hS12.chT hc (by intro k hz hk ht; first | omega | (dsimp only at *; omega))
  rw [pz_zero] at hs hrep
  refine wl_nil ?_
  refine x_seq ?_
  refine wc_seq ?_
  refine wc_block ?_
  refine wc_loop (e' := [(1, .pointer (some ⟨g1, 0, none⟩)), (2, .pointer (some ⟨g2, 0, none⟩)), (3, u64v (8 * m.length))]) (fun mz ez uz => ∃ j : Nat, mz = nz m.length - j ∧ ez = [(1, .pointer (some ⟨g1, 0, none⟩)), (2, .pointer (some ⟨g2, 0, none⟩)), (3, u64v (8 * m.length))] ∧ (j ≤ nz m.length) ∧ (∃ h1 r1, Blk uz g1 205 (stt h1 r1 (pz m j).length made) ∧ Rep (pz m j) h1 r1) ∧ (Blk uz g2 38 ((List.replicate 32 (0 : UInt8)).map u8v).toArray) ∧ (Sl uz (fun k => k = 0) u32v (some ⟨0, 0, none⟩) 64 64 rk) ∧ (Ch No w uz))
    ⟨rfl, rfl, rfl, trivial⟩ ⟨0, rfl, rfl, by omega, ⟨_, _, hs, hrep⟩, hb2, hrnd, HC⟩ ?_
  rintro m0 e w5 ⟨j, hm0, rfl, hj, hst, hb2, hrnd, HC⟩
  have hzw5 := HC.size
  obtain ⟨h1, r1, hs, hrep⟩ := hst
  have hh := hrep.hlen
  have hr := hrep.len
  have hpl := pz_len (m := m) (j := j)
  refine wc_seq ?_
  refine wc_seq ?_
  refine wc_region ?_
  refine wl rfl rfl rfl (p_fld Tryd.underlying205 rfl ⟨_, by rfl⟩ rfl rfl) ?_
  refine wl rfl rfl rfl (p_ld Tryd.underlying3 rfl rfl (ld (hs.cell (stt_n hh hr)))) ?_
  refine wl rfl rfl rfl (p_rem (Z := (((pz m j).length % 64 : Nat) : Int)) rfl rfl (by omega) rfl) ?_
  refine wl rfl rfl rfl (p_ne rfl rfl) ?_
  refine wl_nil ?_
  refine x_seq ?_
  refine wc_if rfl (fun c0 => ?_) (fun c0 => ?_)
  ·
    have c0 := of_decide_eq_true c0
    have hjn : j < nz m.length := nz_on hj (fun e => c0 (by rw [hpl, e]; rfl))
    refine wc_skip ?_
    refine x_seq ?_
    refine wc_block ?_
    refine wc_region ?_
    have hltg2 := hb2.lt
    have hltg1 := hs.lt
    refine wle rfl (e_bslV (E := 5) rfl rfl (fun _ => by kernel_rfl) (fun w6 g18 hg18 hb18 hc hsz18 => ?_))
    have hzw6 := hc.size
    have HC := HC.tr hc
    have hb2 := hb2.ch hc (fun h => h)
    have hrnd := hrnd.no hc
    have hs := hs.ch hc (fun h => h)
    have hge18 : w.heap.size ≤ g18 := by have := HC.size; omega
    have hS18 := Sl.lit1 (f := u8v) (x := 0) hb18
    refine wle rfl (e_call ent124 rfl rfl (take_any hs hrep (hS18) (by intro k hk; first | omega | (dsimp only at *; omega)) (by omega) (by first | omega | (simp only [List.length_nil]; omega)) hrnd) ?_)
    rintro _ w7 ⟨rfl, hc, h19, r19, hs, hrep⟩
    refine ⟨_, rfl, ?_⟩
    have hzw7 := hc.size
    have HC := HC.trans hc (fun _ _ h => h) (fun k hk ht => absurd ht (by omega))
    have hb2 := hb2.ch hc (by omega)
    first | have hrnd := hrnd.ch hc (by intro k hk ht; first | omega | (dsimp only at *; omega)) | have hrnd := hrnd.chT hc (by intro k hz hk ht; first | omega | (dsimp only at *; omega))
    first | have hS18 := hS18.ch hc (by intro k hk ht; first | omega | (dsimp only at *; omega)) | have hS18 := hS18.chT hc (by intro k hz hk ht; first | omega | (dsimp only at *; omega))
    rw [pz_next] at hs hrep
    refine wl_nil ?_
    refine x_in_normal ?_
    refine x_round (e' := [(1, .pointer (some ⟨g1, 0, none⟩)), (2, .pointer (some ⟨g2, 0, none⟩)), (3, u64v (8 * m.length))]) ⟨rfl, rfl, rfl, trivial⟩ (by rw [hm0]; omega) ⟨j + 1, rfl, rfl, by omega, ⟨_, _, hs, hrep⟩, hb2, hrnd, HC⟩
  ·
    have c0 := of_decide_eq_false c0
    have hjn : j = nz m.length := nz_stop hj (by rw [hpl] at c0; omega)
    subst hjn
    rw [pq_zero] at hs hrep
    refine wc_exit ?_
    refine x_then_exit ?_
    refine x_then_exit ?_
    refine x_in_here ?_
    refine x_seq ?_
    refine wc_seq ?_
    refine wc_seq ?_
    refine wc_region ?_
    refine wl rfl rfl rfl (p_as rfl) ?_
    refine wl_nil ?_
    refine x_seq ?_
    refine wc_block ?_
    refine wc_loop (e' := [(1, .pointer (some ⟨g1, 0, none⟩)), (2, .pointer (some ⟨g2, 0, none⟩)), (3, u64v (8 * m.length)), (4, i64 (56 - 8 * ((0) : Int)))]) (fun mz ez uz => ∃ k : Nat, mz = 8 - k ∧ ez = [(1, .pointer (some ⟨g1, 0, none⟩)), (2, .pointer (some ⟨g2, 0, none⟩)), (3, u64v (8 * m.length)), (4, i64 (56 - 8 * (k : Int)))] ∧ (k ≤ 8) ∧ (∃ h1 r1, Blk uz g1 205 (stt h1 r1 (pq m k).length made) ∧ Rep (pq m k) h1 r1) ∧ (Blk uz g2 38 ((List.replicate 32 (0 : UInt8)).map u8v).toArray) ∧ (Sl uz (fun k => k = 0) u32v (some ⟨0, 0, none⟩) 64 64 rk) ∧ (Ch No w uz))
      ⟨rfl, rfl, rfl, rfl, trivial⟩ ⟨0, rfl, rfl, by omega, ⟨_, _, hs, hrep⟩, hb2, hrnd, HC⟩ ?_
    rintro m1 e w8 ⟨k, hm1, rfl, hk, hst, hb2, hrnd, HC⟩
    have hzw8 := HC.size
    obtain ⟨h1, r1, hs, hrep⟩ := hst
    have hh := hrep.hlen
    have hr := hrep.len
    have hpl := pq_len (m := m) (k := k) hk
    refine wc_seq ?_
    refine wc_seq ?_
    refine wc_region ?_
    refine wl rfl rfl rfl (p_mv rfl) ?_
    refine wl rfl rfl rfl (p_ge rfl rfl) ?_
    refine wl_nil ?_
    refine x_seq ?_
    refine wc_if rfl (fun c1 => ?_) (fun c1 => ?_)
    ·
      have c1 := of_decide_eq_true c1
      refine wc_skip ?_
      refine x_seq ?_
      refine wc_seq ?_
      refine wc_block ?_
      refine wc_region ?_
      refine wl rfl rfl rfl (p_mv rfl) ?_
      refine wl rfl rfl rfl (p_mv (v := i64 ((56 - 8 * k : Nat) : Int)) (show some (i64 (56 - 8 * (k : Int))) = some (i64 ((56 - 8 * k : Nat) : Int)) from congrArg some (congrArg i64 (by omega)))) ?_
      refine wl rfl rfl rfl (p_shrN (Y := 56 - 8 * k) rfl rfl (Nat.ble_eq_true_of_le (show 56 - 8 * k ≤ 64 by omega))) ?_
      refine wl rfl rfl rfl (p_convN8 Tryd.underlying212 Tryd.underlying5 rfl) ?_
      have hltg2 := hb2.lt
      have hltg1 := hs.lt
      refine wle rfl (e_bslV (E := 5) rfl rfl (fun _ => by kernel_rfl) (fun w9 g28 hg28 hb28 hc hsz28 => ?_))
      have hzw9 := hc.size
      have HC := HC.tr hc
      have hb2 := hb2.ch hc (fun h => h)
      have hrnd := hrnd.no hc
      have hs := hs.ch hc (fun h => h)
      have hge28 : w.heap.size ≤ g28 := by have := HC.size; omega
      have hS28 := Sl.lit1 (f := u8v) hb28
      refine wle rfl (e_call ent124 rfl rfl (take_any hs hrep (hS28) (by intro k hk; first | omega | (dsimp only at *; omega)) (by omega) (by first | omega | (simp only [List.length_nil]; omega)) hrnd) ?_)
      rintro _ w10 ⟨rfl, hc, h29, r29, hs, hrep⟩
      refine ⟨_, rfl, ?_⟩
      have hzw10 := hc.size
      have HC := HC.trans hc (fun _ _ h => h) (fun k hk ht => absurd ht (by omega))
      have hb2 := hb2.ch hc (by omega)
      first | have hrnd := hrnd.ch hc (by intro k hk ht; first | omega | (dsimp only at *; omega)) | have hrnd := hrnd.chT hc (by intro k hz hk ht; first | omega | (dsimp only at *; omega))
      first | have hS28 := hS28.ch hc (by intro k hk ht; first | omega | (dsimp only at *; omega)) | have hS28 := hS28.chT hc (by intro k hz hk ht; first | omega | (dsimp only at *; omega))
      rw [pq_next (by omega)] at hs hrep
      refine wl_nil ?_
      refine x_in_normal ?_
      refine x_seq ?_
      refine wc_region ?_
      refine wl rfl rfl rfl (p_mv rfl) ?_
      refine wl rfl rfl rfl (p_sub rfl rfl (w64 (by omega))) ?_
      refine wl rfl rfl rfl (p_as rfl) ?_
      refine wl_nil ?_
      refine x_round (e' := [(1, .pointer (some ⟨g1, 0, none⟩)), (2, .pointer (some ⟨g2, 0, none⟩)), (3, u64v (8 * m.length)), (4, i64 (56 - 8 * ((k + 1) : Int)))]) ⟨rfl, rfl, rfl, (congrArg some (congrArg i64 (by omega))), trivial⟩ (by rw [hm1]; omega) ⟨k + 1, rfl, rfl, by omega, ⟨_, _, hs, hrep⟩, hb2, hrnd, HC⟩
    ·
      have c1 := of_decide_eq_false c1
      obtain rfl : k = 8 := by omega
      rw [pq_all] at hs hrep
      refine wc_exit ?_
      refine x_then_exit ?_
      refine x_then_exit ?_
      refine x_in_here ?_
      refine x_seq ?_
      refine wc_seq ?_
      refine wc_region ?_
      have hltg2 := hb2.lt
      have hltg1 := hs.lt
      refine wle rfl (e_alloc (cs := ((List.replicate 32 (0 : UInt8)).map u8v).toArray) rfl (by rfl) rfl (fun w11 g5 hg5 hb5 hc hsz5 => ?_))
      have hzw11 := hc.size
      have HC := HC.tr hc
      have hb2 := hb2.ch hc (fun h => h)
      have hrnd := hrnd.no hc
      have hs := hs.ch hc (fun h => h)
      have hge5 : w.heap.size ≤ g5 := by have := HC.size; omega
      have neg2_5 : g2 < g5 := by omega
      have neg1_5 : g1 < g5 := by omega
      refine wl_nil ?_
      refine x_seq ?_
      refine wc_seq ?_
      refine wc_seq ?_
      refine wc_region ?_
      refine wl rfl rfl rfl (p_fld Tryd.underlying205 rfl ⟨_, by rfl⟩ rfl rfl) ?_
      refine wl rfl rfl rfl (p_ldA (cs := h1.map u32v) Tryd.underlying200 rfl (szL sz200 (by rw [List.length_map]; exact hh)) rfl (fun _ e => e ▸ stt_rng hs hh)) ?_
      refine wl rfl rfl rfl (p_mv rfl) ?_
      refine wl_nil ?_
      refine x_seq ?_
      refine wc_block ?_
      refine wc_loop (e' := [(2, .pointer (some ⟨g2, 0, none⟩)), (5, .pointer (some ⟨g5, 0, none⟩)), (31, .agg (h1.map u32v).toArray), (32, i64 ((0) : Int))]) (fun mz ez uz => ∃ i : Nat, mz = 8 - i ∧ ez = [(2, .pointer (some ⟨g2, 0, none⟩)), (5, .pointer (some ⟨g5, 0, none⟩)), (31, .agg (h1.map u32v).toArray), (32, i64 (i : Int))] ∧ (i ≤ 8) ∧ (h1.length = 8) ∧ (Blk uz g5 38 ((outN h1 i).map u8v).toArray) ∧ (Blk uz g2 38 ((List.replicate 32 (0 : UInt8)).map u8v).toArray) ∧ (Ch No w uz))
        ⟨rfl, rfl, rfl, rfl, trivial⟩ ⟨0, rfl, rfl, by omega, hh, by rw [outN_zero]; exact hb5, hb2, HC⟩ ?_
      rintro m2 e w12 ⟨i, hm2, rfl, hi, hh, hb5, hb2, HC⟩
      have hzw12 := HC.size
      have hol2 := outN_len hh hi
      refine wc_seq ?_
      refine wc_region ?_
      refine wl rfl rfl rfl (p_lt rfl rfl) ?_
      refine wl_nil ?_
      refine x_seq ?_
      refine wc_seq ?_
      refine wc_if rfl (fun c2 => ?_) (fun c2 => ?_)
      ·
        have c2 := of_decide_eq_true c2
        refine wc_skip ?_
        refine x_seq ?_
        refine wc_seq ?_
        refine wc_block ?_
        refine wc_seq ?_
        refine wc_region ?_
        refine wl rfl rfl rfl (p_mv rfl) ?_
        refine wl rfl rfl rfl (p_ixG (f := u32v) (d0 := 0#32) Tryd.underlying200 Tryd.underlying146 rfl sz146 rfl rfl (by omega) (by omega) (by first | (simp; done) | (simp; omega) | omega) (Int.toNat_natCast _)) ?_
        refine wl rfl rfl rfl (p_as rfl) ?_
        refine wl rfl rfl rfl (p_as rfl) ?_
        refine wl_nil ?_
        refine x_seq ?_
        refine wc_region ?_
        refine wl rfl rfl rfl (p_mv rfl) ?_
        refine wl rfl rfl rfl (p_mul (Z := ((4 * i : Nat) : Int)) rfl rfl (by rw [w64 (by omega)]; omega)) ?_
        refine wl rfl rfl rfl (p_mv rfl) ?_
        refine wl rfl rfl rfl (p_mul (Z := ((4 * i : Nat) : Int)) rfl rfl (by rw [w64 (by omega)]; omega)) ?_
        refine wl rfl rfl rfl (p_add (Z := ((4 * i + 1 : Nat) : Int)) rfl rfl (by rw [w64 (by omega)]; omega)) ?_
        refine wl rfl rfl rfl (p_mv rfl) ?_
        refine wl rfl rfl rfl (p_mul (Z := ((4 * i : Nat) : Int)) rfl rfl (by rw [w64 (by omega)]; omega)) ?_
        refine wl rfl rfl rfl (p_add (Z := ((4 * i + 2 : Nat) : Int)) rfl rfl (by rw [w64 (by omega)]; omega)) ?_
        refine wl rfl rfl rfl (p_mv rfl) ?_
        refine wl rfl rfl rfl (p_mul (Z := ((4 * i : Nat) : Int)) rfl rfl (by rw [w64 (by omega)]; omega)) ?_
        refine wl rfl rfl rfl (p_add (Z := ((4 * i + 3 : Nat) : Int)) rfl rfl (by rw [w64 (by omega)]; omega)) ?_
        refine wl rfl rfl rfl (p_mv rfl) ?_
        refine wl rfl rfl rfl (p_shr32 (Y := 24) rfl rfl) ?_
        refine wl rfl rfl rfl (p_conv32B Tryd.underlying146 Tryd.underlying5 rfl) ?_
        refine wl rfl rfl rfl (p_mv rfl) ?_
        refine wl rfl rfl rfl (p_shr32 (Y := 16) rfl rfl) ?_
        refine wl rfl rfl rfl (p_conv32B Tryd.underlying146 Tryd.underlying5 rfl) ?_
        refine wl rfl rfl rfl (p_mv rfl) ?_
        refine wl rfl rfl rfl (p_shr32 (Y := 8) rfl rfl) ?_
        refine wl rfl rfl rfl (p_conv32B Tryd.underlying146 Tryd.underlying5 rfl) ?_
        refine wl rfl rfl rfl (p_mv rfl) ?_
        refine wl rfl rfl rfl (p_conv32B Tryd.underlying146 Tryd.underlying5 rfl) ?_
        refine wl rfl rfl rfl (p_ixA1 Tryd.underlying38 sz5 rfl rfl (by omega) (by omega) (Int.toNat_natCast _)) ?_
        refine wle rfl (e_stL one_u8 (by rfl) rfl rfl hb5 (by first | (simp; done) | (simp; omega) | omega) (fun w14 hb5 hc hsz => ?_))
        have hzw14 := hc.size
        have HC := HC.trans hc (fun _ _ h => h) (fun k hk ht => absurd ht (by omega))
        have hb2 := hb2.ch hc (by omega)
        refine wl rfl rfl rfl (p_ixA1 Tryd.underlying38 sz5 rfl rfl (by omega) (by omega) (Int.toNat_natCast _)) ?_
        refine wle rfl (e_stL one_u8 (by rfl) rfl rfl hb5 (by first | (simp; done) | (simp; omega) | omega) (fun w16 hb5 hc hsz => ?_))
        have hzw16 := hc.size
        have HC := HC.trans hc (fun _ _ h => h) (fun k hk ht => absurd ht (by omega))
        have hb2 := hb2.ch hc (by omega)
        refine wl rfl rfl rfl (p_ixA1 Tryd.underlying38 sz5 rfl rfl (by omega) (by omega) (Int.toNat_natCast _)) ?_
        refine wle rfl (e_stL one_u8 (by rfl) rfl rfl hb5 (by first | (simp; done) | (simp; omega) | omega) (fun w18 hb5 hc hsz => ?_))
        have hzw18 := hc.size
        have HC := HC.trans hc (fun _ _ h => h) (fun k hk ht => absurd ht (by omega))
        have hb2 := hb2.ch hc (by omega)
        refine wl rfl rfl rfl (p_ixA1 Tryd.underlying38 sz5 rfl rfl (by omega) (by omega) (Int.toNat_natCast _)) ?_
        refine wle rfl (e_stL one_u8 (by rfl) rfl rfl hb5 (by first | (simp; done) | (simp; omega) | omega) (fun w20 hb5 hc hsz => ?_))
        have hzw20 := hc.size
        have HC := HC.trans hc (fun _ _ h => h) (fun k hk ht => absurd ht (by omega))
        have hb2 := hb2.ch hc (by omega)
        refine wl_nil ?_
        refine x_in_normal ?_
        refine x_seq ?_
        refine wc_region ?_
        refine wl rfl rfl rfl (p_add rfl rfl (w64 (by omega))) ?_
        refine wl rfl rfl rfl (p_mv rfl) ?_
        refine wl_nil ?_
        refine x_round (e' := [(2, .pointer (some ⟨g2, 0, none⟩)), (5, .pointer (some ⟨g5, 0, none⟩)), (31, .agg (h1.map u32v).toArray), (32, i64 ((i + 1) : Int))]) ⟨rfl, rfl, rfl, rfl, trivial⟩ (by rw [hm2]; omega) ⟨i + 1, rfl, rfl, by omega, hh, by rw [← outN_next hh (by omega)]; exact hb5, hb2, HC⟩
      ·
        have c2 := of_decide_eq_false c2
        obtain rfl : i = 8 := by omega
        rw [outN_all hh] at hb5
        have hol : (outB h1).length = 32 := by rw [outB_len, hh]
        have hfin : outB h1 = shaF m := by rw [shaF, hrep.words]
        rw [hfin] at hb5 hol
        refine wc_exit ?_
        refine x_then_exit ?_
        refine x_then_exit ?_
        refine x_in_here ?_
        refine x_seq ?_
        refine wc_seq ?_
        refine wc_region ?_
        refine wl rfl rfl rfl (p_ldA (cs := _) Tryd.underlying38 rfl (szL sz38 (by rw [List.length_map]; first | assumption | (simp; done) | (simp; omega) | omega)) rfl (fun _ e => e ▸ rngL hb5)) ?_
        refine wle rfl (e_stW (vs := _) (szL sz38 (by rw [List.length_map]; exact hol)) (oneL one_u8 _) rfl rfl hb2 (by simp [hol]) (fun w21 hb2 hc hsz => ?_))
        have hzw21 := hc.size
        have HC := HC.trans hc (fun _ _ h => h) (fun k hk ht => absurd ht (by omega))
        have hb5 := hb5.ch hc (by omega)
        refine wl_nil ?_
        refine x_seq ?_
        refine wc_ret ?_
        refine fin_run (resC rfl rfl Tryd.underlying38 rfl (szL sz38 (by rw [List.length_map]; exact shaF_len m)) (rngL hb2)) ?_
        exact ⟨rfl, HC⟩

set_option maxHeartbeats 1000000 in
set_option maxRecDepth 20000 in
theorem sum_any {w : World} {Ab : Option Addr} {lb cb : Nat} {Fb : Nat → Prop} {b : List UInt8} (hb : Sl w Fb u8v Ab lb cb b) (hl : lb ≤ 1099511627776) (hrnd : Sl w (fun k => k = 0) u32v (some ⟨0, 0, none⟩) 64 64 rk) :
    Calls Tryd.prog 117 #[.slice Ab lb cb] w fun e w' => e = .returned (.agg ((shaF b).map u8v).toArray) ∧ Ch No w w' := by
  have hbl := hb.len
  have hn1 : 0 < w.heap.size := hrnd.size (by omega) rfl
  have hb := hb.old
  have HC : Ch No w w := Ch.refl _ _
  refine enter' (args := [.slice Ab lb cb]) (n := 9) Tryd.func117 rfl rfl rfl ?_
  refine wc_seq ?_
  refine wc_region ?_
  refine wle rfl (e_alloc (cs := ((List.replicate 32 (0 : UInt8)).map u8v).toArray) rfl (by rfl) rfl (fun w1 g2 hg2 hb2 hc hsz2 => ?_))
  have hzw1 := hc.size
  have HC := HC.tr hc
  have hb := hb.no hc
  have hrnd := hrnd.no hc
  have hge2 : w.heap.size ≤ g2 := by have := HC.size; omega
  refine wl_nil ?_
  refine x_seq ?_
  refine wc_seq ?_
  refine wc_region ?_
  refine wle rfl (e_call ent123 rfl rfl (fresh_any) ?_)
  rintro _ w2 ⟨rfl, hc⟩
  refine ⟨_, rfl, ?_⟩
  have hzw2 := hc.size
  have HC := HC.tr hc
  have hb := hb.no hc
  have hrnd := hrnd.no hc
  have hb2 := hb2.ch hc (fun h => h)
  have hltg2 := hb2.lt
  refine wle rfl (e_alloc (cs := #[.int .u32 0, .int .u32 0, .int .u32 0, .int .u32 0, .int .u32 0, .int .u32 0, .int .u32 0, .int .u32 0, .int .u8 0, .int .u8 0, .int .u8 0, .int .u8 0, .int .u8 0, .int .u8 0, .int .u8 0, .int .u8 0, .int .u8 0, .int .u8 0, .int .u8 0, .int .u8 0, .int .u8 0, .int .u8 0, .int .u8 0, .int .u8 0, .int .u8 0, .int .u8 0, .int .u8 0, .int .u8 0, .int .u8 0, .int .u8 0, .int .u8 0, .int .u8 0, .int .u8 0, .int .u8 0, .int .u8 0, .int .u8 0, .int .u8 0, .int .u8 0, .int .u8 0, .int .u8 0, .int .u8 0, .int .u8 0, .int .u8 0, .int .u8 0, .int .u8 0, .int .u8 0, .int .u8 0, .int .u8 0, .int .u8 0, .int .u8 0, .int .u8 0, .int .u8 0, .int .u8 0, .int .u8 0, .int .u8 0, .int .u8 0, .int .u8 0, .int .u8 0, .int .u8 0, .int .u8 0, .int .u8 0, .int .u8 0, .int .u8 0, .int .u8 0, .int .u8 0, .int .u8 0, .int .u8 0, .int .u8 0, .int .u8 0, .int .u8 0, .int .u8 0, .int .u8 0, .int .i64 0, .bool false]) rfl (by rfl) (by rfl) (fun w3 g3 hg3 hb3 hc hsz3 => ?_))
  have hzw3 := hc.size
  have HC := HC.tr hc
  have hb := hb.no hc
  have hrnd := hrnd.no hc
  have hb2 := hb2.ch hc (fun h => h)
  have hge3 : w.heap.size ≤ g3 := by have := HC.size; omega
  have neg2_3 : g2 < g3 := by omega
  refine wle rfl (e_stW (vs := (stt iv (List.replicate 64 0) 0 true).toList) (by kernel_rfl) (allOne (by kernel_rfl)) rfl rfl hb3 (by kernel_rfl) (fun w4 hb3 hc hsz => ?_))
  have hzw4 := hc.size
  have HC := HC.trans hc (fun _ _ h => h) (fun k hk ht => absurd ht (by omega))
  first | have hb := hb.ch hc (by intro k hk ht; first | omega | (dsimp only at *; omega)) | have hb := hb.chT hc (by intro k hz hk ht; first | omega | (dsimp only at *; omega))
  first | have hrnd := hrnd.ch hc (by intro k hk ht; first | omega | (dsimp only at *; omega)) | have hrnd := hrnd.chT hc (by intro k hz hk ht; first | omega | (dsimp only at *; omega))
  have hb2 := hb2.ch hc (by omega)
  have hs : Blk w4 g3 205 (stt iv (List.replicate 64 0) ([] : List UInt8).length true) := hb3
  have hrep := rep_nil
  refine wl_nil ?_
  refine x_seq ?_
  refine wc_seq ?_
  refine wc_region ?_
  refine wl rfl rfl rfl (p_mv rfl) ?_
  refine wle rfl (e_call ent124 rfl rfl (take_any hs hrep (hb) (by intro k hk; first | omega | (dsimp only at *; omega)) (by omega) (by first | omega | (simp only [List.length_nil]; omega)) hrnd) ?_)
  rintro _ w5 ⟨rfl, hc, h6, r6, hs, hrep⟩
  refine ⟨_, rfl, ?_⟩
  have hzw5 := hc.size
  have HC := HC.trans hc (fun _ _ h => h) (fun k hk ht => absurd ht (by omega))
  first | have hb := hb.ch hc (by intro k hk ht; first | omega | (dsimp only at *; omega)) | have hb := hb.chT hc (by intro k hz hk ht; first | omega | (dsimp only at *; omega))
  first | have hrnd := hrnd.ch hc (by intro k hk ht; first | omega | (dsimp only at *; omega)) | have hrnd := hrnd.chT hc (by intro k hz hk ht; first | omega | (dsimp only at *; omega))
  have hb2 := hb2.ch hc (by omega)
  rw [List.nil_append] at hs hrep
  have hh := hrep.hlen
  have hr := hrep.len
  refine wl_nil ?_
  refine x_seq ?_
  refine wc_seq ?_
  refine wc_region ?_
  refine wl rfl rfl rfl (p_ldA (cs := (stt h6 r6 b.length true).toList) Tryd.underlying205 rfl (szL sz205 (by have := stt_size (n := b.length) (made := true) hh hr; rwa [← Array.length_toList] at this)) rfl (fun _ e => e ▸ stt_all hs)) ?_
  refine wle rfl (e_call ent125 rfl rfl (done_any hrep (by omega) hrnd) ?_)
  rintro _ w6 ⟨rfl, hc⟩
  refine ⟨_, rfl, ?_⟩
  have hzw6 := hc.size
  have HC := HC.tr hc
  have hb := hb.no hc
  have hrnd := hrnd.no hc
  have hb2 := hb2.ch hc (fun h => h)
  have hs := hs.ch hc (fun h => h)
  refine wle rfl (e_stW (vs := ((shaF b).map u8v)) (szL sz38 (by rw [List.length_map]; exact shaF_len b)) (oneL one_u8 _) rfl rfl hb2 (by simp [shaF_len]) (fun w7 hb2 hc hsz => ?_))
  have hzw7 := hc.size
  have HC := HC.trans hc (fun _ _ h => h) (fun k hk ht => absurd ht (by omega))
  first | have hb := hb.ch hc (by intro k hk ht; first | omega | (dsimp only at *; omega)) | have hb := hb.chT hc (by intro k hz hk ht; first | omega | (dsimp only at *; omega))
  first | have hrnd := hrnd.ch hc (by intro k hk ht; first | omega | (dsimp only at *; omega)) | have hrnd := hrnd.chT hc (by intro k hz hk ht; first | omega | (dsimp only at *; omega))
  have hs := hs.ch hc (by omega)
  refine wl_nil ?_
  refine x_seq ?_
  refine wc_ret ?_
  refine fin_run (resC rfl rfl Tryd.underlying38 rfl (szL sz38 (by rw [List.length_map]; exact shaF_len b)) (rngL hb2)) ?_
  exact ⟨rfl, HC⟩

set_option maxHeartbeats 1000000 in
set_option maxRecDepth 20000 in
theorem turn_any {w : World} {x : BitVec 32} {n : Nat} (hn : n ≤ 31) :
    Calls Tryd.prog 130 #[u32v x, u64v n] w fun e w' => e = .returned (u32v (rotr x n)) ∧ Ch No w w' := by
  have HC : Ch No w w := Ch.refl _ _
  refine enter' (args := [u32v x, u64v n]) (n := 13) Tryd.func130 rfl rfl rfl ?_
  refine wc_seq ?_
  refine wc_region ?_
  refine wl rfl rfl rfl (p_as rfl) ?_
  refine wl_nil ?_
  refine x_seq ?_
  refine wc_seq ?_
  refine wc_region ?_
  refine wl rfl rfl rfl (p_mv rfl) ?_
  refine wl rfl rfl rfl (p_mv rfl) ?_
  refine wl rfl rfl rfl (p_shr32 (Y := n) rfl rfl) ?_
  refine wl rfl rfl rfl (p_mv rfl) ?_
  refine wl rfl rfl rfl (p_mv rfl) ?_
  refine wl rfl rfl rfl (p_sub (Z := ((32 - n : Nat) : Int)) rfl rfl (by rw [wu64 (by omega)]; omega)) ?_
  refine wl rfl rfl rfl (p_shl32 (Y := 32 - n) rfl rfl) ?_
  refine wl rfl rfl rfl (p_or32 rfl rfl) ?_
  refine wl rfl rfl rfl (p_as rfl) ?_
  refine wl_nil ?_
  refine x_seq ?_
  refine wc_ret ?_
  refine fin_run ((res1 rfl rfl)) ?_
  exact ⟨rfl, HC⟩

set_option maxHeartbeats 1000000 in
set_option maxRecDepth 20000 in
theorem keys_any {w : World}   :
    Calls Tryd.prog 131 #[] w fun e w' => e = .returned (.agg (rk.map u32v).toArray) ∧ Ch No w w' := by
  have HC : Ch No w w := Ch.refl _ _
  refine enter' (args := []) (n := 2) Tryd.func131 rfl rfl rfl ?_
  refine wc_seq ?_
  refine wc_region ?_
  refine wle rfl (e_alloc (cs := ((List.replicate 64 0#32).map u32v).toArray) rfl (by rfl) rfl (fun w1 g0 hg0 hb0 hc hsz0 => ?_))
  have hzw1 := hc.size
  have HC := HC.tr hc
  have hge0 : w.heap.size ≤ g0 := by have := HC.size; omega
  refine wl_nil ?_
  refine x_seq ?_
  refine wc_seq ?_
  refine wc_region ?_
  refine wl rfl rfl rfl (p_bldP (cs := (rk.map u32v).toArray) rfl (fun _ => by kernel_rfl)) ?_
  refine wle rfl (e_stW (vs := (rk.map u32v)) (by kernel_rfl) (oneL one_u32 _) rfl rfl hb0 (by kernel_rfl) (fun w2 hb0 hc hsz => ?_))
  have hzw2 := hc.size
  have HC := HC.trans hc (fun _ _ h => h) (fun k hk ht => absurd ht (by omega))
  refine wl_nil ?_
  refine x_seq ?_
  refine wc_ret ?_
  refine fin_run (resC rfl rfl Tryd.underlying213 rfl (by kernel_rfl) (rngL hb0)) ?_
  exact ⟨rfl, HC⟩

set_option maxHeartbeats 1000000 in
set_option maxRecDepth 20000 in
theorem padded_any {w : World} {Ab : Option Addr} {lb cb : Nat} {Fb : Nat → Prop} {b : List UInt8} (hb : Sl w Fb u8v Ab lb cb b) (hl : lb ≤ 1099511627776) :
    Calls Tryd.prog 121 #[.slice Ab lb cb] w fun e w' => ∃ A c, e = .returned (.slice A (lb + 1 + nz b.length + 8) c) ∧ Row w' (fun k => w.heap.size ≤ k) 5 1 (.slice A (lb + 1 + nz b.length + 8) c) (lb + 1 + nz b.length + 8) ((pad b).map u8v) ∧ Ch No w w' := by
  have hbl := hb.len
  have hnz : nz b.length < 64 := by unfold nz; omega
  have hb := hb.old
  have HC : Ch No w w := Ch.refl _ _
  refine enter' (args := [.slice Ab lb cb]) (n := 36) Tryd.func121 rfl rfl rfl ?_
  refine wc_seq ?_
  refine wc_region ?_
  refine wl rfl rfl rfl (p_as rfl) ?_
  refine wl_nil ?_
  refine x_seq ?_
  refine wc_seq ?_
  refine wc_region ?_
  refine wle rfl (e_bsl (cs := #[]) (E := 5) rfl rfl (fun _ => by kernel_rfl) (fun w1 g6 hg6 hb6 hc hsz6 => ?_))
  have hzw1 := hc.size
  have HC := HC.tr hc
  have hb := hb.no hc
  have hge6 : w.heap.size ≤ g6 := by have := HC.size; omega
  have hW6 := Row.lit (l := 0) (f := u8v) (xs := []) (F := fun k => g6 ≤ k) hb6 (by first | omega | (dsimp only; omega)) rfl rfl (by simp [maxLen])
  refine wl rfl rfl rfl (p_mv rfl) ?_
  refine wle rfl (e_appS rfl el107 one_u8 rfl rfl hW6 hb (by omega) (by intro k hk; first | omega | (dsimp only at *; omega)) (fun w2 A8 c8 hW6 hc => ?_))
  have hzw2 := hc.size
  have HC := HC.trans hc (fun _ _ h => h) (fun k hk ht => absurd ht (by first | omega | (dsimp only at *; omega)))
  first | have hb := hb.ch hc (by intro k hk ht; first | omega | (dsimp only at *; omega)) | have hb := hb.chT hc (by intro k hz hk ht; first | omega | (dsimp only at *; omega))
  refine wle rfl (e_bslV (E := 5) rfl rfl (fun _ => by kernel_rfl) (fun w3 g9 hg9 hb9 hc hsz9 => ?_))
  have hzw3 := hc.size
  have HC := HC.tr hc
  have hb := hb.no hc
  have hW6 := hW6.after hc
  have hge9 : w.heap.size ≤ g9 := by have := HC.size; omega
  have hS9 := Sl.lit1 (f := u8v) (x := 128) hb9
  refine wle rfl (e_appS rfl el107 one_u8 rfl rfl hW6 hS9 (by omega) (by intro k hk; first | omega | (dsimp only at *; omega)) (fun w4 A10 c10 hW6 hc => ?_))
  have hzw4 := hc.size
  have HC := HC.trans hc (fun _ _ h => h) (fun k hk ht => absurd ht (by first | omega | (dsimp only at *; omega)))
  first | have hb := hb.ch hc (by intro k hk ht; first | omega | (dsimp only at *; omega)) | have hb := hb.chT hc (by intro k hz hk ht; first | omega | (dsimp only at *; omega))
  first | have hS9 := hS9.ch hc (by intro k hk ht; first | omega | (dsimp only at *; omega)) | have hS9 := hS9.chT hc (by intro k hz hk ht; first | omega | (dsimp only at *; omega))
  refine wl rfl rfl rfl (p_as rfl) ?_
  refine wl_nil ?_
  refine x_seq ?_
  refine wc_seq ?_
  refine wc_block ?_
  refine wc_loop (e' := [(0, .slice Ab lb cb), (3, .slice (A10) (lb + 1 + (0)) (c10))]) (fun mz ez uz => ∃ j : Nat, ∃ A : Option Addr, ∃ c : Nat, mz = nz b.length - j ∧ ez = [(0, .slice Ab lb cb), (3, .slice A (lb + 1 + j) c)] ∧ (j ≤ nz b.length) ∧ (Row uz (fun k => w.heap.size ≤ k) 5 1 (.slice A (lb + 1 + j) c) (lb + 1 + j) ((pz b j).map u8v)) ∧ (Sl uz (fun k => k < w.heap.size) u8v Ab lb cb b) ∧ (Ch No w uz))
    ⟨rfl, (congrArg (fun z => some (Value.slice A10 z c10)) (show 0 + lb + 1 = lb + 1 + 0 by omega)), trivial⟩ ⟨0, A10, c10, rfl, rfl, by omega, by rw [show lb + 1 + 0 = 0 + lb + 1 by omega]; exact hW6.mono (fun k _ hk => by first | omega | (dsimp only at *; omega)), hb, HC⟩ ?_
  rintro m0 e w5 ⟨j, A, c, hm0, rfl, hj, hW6, hb, HC⟩
  have hzw5 := HC.size
  have hpl := pz_len (m := b) (j := j)
  refine wc_seq ?_
  refine wc_seq ?_
  refine wc_region ?_
  refine wl rfl rfl rfl (p_mv rfl) ?_
  refine wl rfl rfl rfl (p_lenS Tryd.underlying107 rfl) ?_
  refine wl rfl rfl rfl (p_rem (Z := (((pz b j).length % 64 : Nat) : Int)) rfl rfl (by omega) (by rw [pz_len, hbl]; rfl)) ?_
  refine wl rfl rfl rfl (p_ne rfl rfl) ?_
  refine wl_nil ?_
  refine x_seq ?_
  refine wc_if rfl (fun c0 => ?_) (fun c0 => ?_)
  ·
    have c0 := of_decide_eq_true c0
    have hjn : j < nz b.length := nz_on hj (fun e => c0 (by rw [hpl, e]; rfl))
    refine wc_skip ?_
    refine x_seq ?_
    refine wc_block ?_
    refine wc_region ?_
    refine wl rfl rfl rfl (p_mv rfl) ?_
    refine wle rfl (e_bslV (E := 5) rfl rfl (fun _ => by kernel_rfl) (fun w6 g16 hg16 hb16 hc hsz16 => ?_))
    have hzw6 := hc.size
    have HC := HC.tr hc
    have hb := hb.no hc
    have hW6 := hW6.after hc
    have hge16 : w.heap.size ≤ g16 := by have := HC.size; omega
    have hS16 := Sl.lit1 (f := u8v) (x := 0) hb16
    refine wle rfl (e_appS rfl el107 one_u8 rfl rfl hW6 hS16 (by omega) (by intro k hk; first | omega | (dsimp only at *; omega)) (fun w7 A17 c17 hW6 hc => ?_))
    have hzw7 := hc.size
    have HC := HC.trans hc (fun _ _ h => h) (fun k hk ht => absurd ht (by first | omega | (dsimp only at *; omega)))
    first | have hb := hb.ch hc (by intro k hk ht; first | omega | (dsimp only at *; omega)) | have hb := hb.chT hc (by intro k hz hk ht; first | omega | (dsimp only at *; omega))
    first | have hS16 := hS16.ch hc (by intro k hk ht; first | omega | (dsimp only at *; omega)) | have hS16 := hS16.chT hc (by intro k hz hk ht; first | omega | (dsimp only at *; omega))
    refine wl rfl rfl rfl (p_as rfl) ?_
    refine wl_nil ?_
    refine x_in_normal ?_
    refine x_round (e' := [(0, .slice Ab lb cb), (3, .slice (A17) (lb + 1 + (j + 1)) (c17))]) ⟨rfl, rfl, trivial⟩ (by rw [hm0]; omega) ⟨j + 1, A17, c17, rfl, rfl, by omega, by rw [← pz_next]; exact hW6.mono (fun k _ hk => by first | omega | (dsimp only at *; omega)), hb, HC⟩
  ·
    have c0 := of_decide_eq_false c0
    have hjn : j = nz b.length := nz_stop hj (by rw [hpl] at c0; omega)
    subst hjn
    rw [pq_zero] at hW6
    refine wc_exit ?_
    refine x_then_exit ?_
    refine x_then_exit ?_
    refine x_in_here ?_
    refine x_seq ?_
    refine wc_seq ?_
    refine wc_region ?_
    refine wl rfl rfl rfl (p_mv rfl) ?_
    refine wl rfl rfl rfl (p_lenS Tryd.underlying107 rfl) ?_
    refine wl rfl rfl rfl (p_conv Tryd.underlying3 Tryd.underlying212 rfl (wu64 (by omega))) ?_
    refine wl rfl rfl rfl (p_mul (Z := ((8 * b.length : Nat) : Int)) rfl rfl (by rw [wu64 (by omega)]; omega)) ?_
    refine wl rfl rfl rfl (p_as rfl) ?_
    refine wl_nil ?_
    refine x_seq ?_
    refine wc_seq ?_
    refine wc_seq ?_
    refine wc_region ?_
    refine wl rfl rfl rfl (p_as rfl) ?_
    refine wl_nil ?_
    refine x_seq ?_
    refine wc_block ?_
    refine wc_loop (e' := [(0, .slice Ab lb cb), (3, .slice (A) (lb + 1 + nz b.length + (0)) (c)), (4, u64v (8 * b.length)), (5, i64 (7 - ((0) : Int)))]) (fun mz ez uz => ∃ k : Nat, ∃ A : Option Addr, ∃ c : Nat, mz = 8 - k ∧ ez = [(0, .slice Ab lb cb), (3, .slice A (lb + 1 + nz b.length + k) c), (4, u64v (8 * b.length)), (5, i64 (7 - (k : Int)))] ∧ (k ≤ 8) ∧ (Row uz (fun k => w.heap.size ≤ k) 5 1 (.slice A (lb + 1 + nz b.length + k) c) (lb + 1 + nz b.length + k) ((pq b k).map u8v)) ∧ (Sl uz (fun k => k < w.heap.size) u8v Ab lb cb b) ∧ (Ch No w uz))
      ⟨rfl, rfl, rfl, rfl, trivial⟩ ⟨0, A, c, rfl, rfl, by omega, hW6.mono (fun k _ hk => by first | omega | (dsimp only at *; omega)), hb, HC⟩ ?_
    rintro m1 e w8 ⟨k, A, c, hm1, rfl, hk, hW6, hb, HC⟩
    have hzw8 := HC.size
    refine wc_seq ?_
    refine wc_seq ?_
    refine wc_region ?_
    refine wl rfl rfl rfl (p_mv rfl) ?_
    refine wl rfl rfl rfl (p_ge rfl rfl) ?_
    refine wl_nil ?_
    refine x_seq ?_
    refine wc_if rfl (fun c1 => ?_) (fun c1 => ?_)
    ·
      have c1 := of_decide_eq_true c1
      refine wc_skip ?_
      refine x_seq ?_
      refine wc_seq ?_
      refine wc_block ?_
      refine wc_region ?_
      refine wl rfl rfl rfl (p_mv rfl) ?_
      refine wl rfl rfl rfl (p_mv rfl) ?_
      refine wl rfl rfl rfl (p_mv (v := i64 ((7 - k : Nat) : Int)) (show some (i64 (7 - (k : Int))) = some (i64 ((7 - k : Nat) : Int)) from congrArg some (congrArg i64 (by omega)))) ?_
      refine wl rfl rfl rfl (p_mul (Z := ((56 - 8 * k : Nat) : Int)) rfl rfl (by rw [w64 (by omega)]; omega)) ?_
      refine wl rfl rfl rfl (p_conv Tryd.underlying3 Tryd.underlying74 rfl (wu64 (by omega))) ?_
      refine wl rfl rfl rfl (p_shrN (Y := 56 - 8 * k) rfl rfl (Nat.ble_eq_true_of_le (show 56 - 8 * k ≤ 64 by omega))) ?_
      refine wl rfl rfl rfl (p_convN8 Tryd.underlying212 Tryd.underlying5 rfl) ?_
      refine wle rfl (e_bslV (E := 5) rfl rfl (fun _ => by kernel_rfl) (fun w9 g33 hg33 hb33 hc hsz33 => ?_))
      have hzw9 := hc.size
      have HC := HC.tr hc
      have hb := hb.no hc
      have hW6 := hW6.after hc
      have hge33 : w.heap.size ≤ g33 := by have := HC.size; omega
      have hS33 := Sl.lit1 (f := u8v) hb33
      refine wle rfl (e_appS rfl el107 one_u8 rfl rfl hW6 hS33 (by omega) (by intro k hk; first | omega | (dsimp only at *; omega)) (fun w10 A34 c34 hW6 hc => ?_))
      have hzw10 := hc.size
      have HC := HC.trans hc (fun _ _ h => h) (fun k hk ht => absurd ht (by first | omega | (dsimp only at *; omega)))
      first | have hb := hb.ch hc (by intro k hk ht; first | omega | (dsimp only at *; omega)) | have hb := hb.chT hc (by intro k hz hk ht; first | omega | (dsimp only at *; omega))
      first | have hS33 := hS33.ch hc (by intro k hk ht; first | omega | (dsimp only at *; omega)) | have hS33 := hS33.chT hc (by intro k hz hk ht; first | omega | (dsimp only at *; omega))
      refine wl rfl rfl rfl (p_as rfl) ?_
      refine wl_nil ?_
      refine x_in_normal ?_
      refine x_seq ?_
      refine wc_region ?_
      refine wl rfl rfl rfl (p_mv rfl) ?_
      refine wl rfl rfl rfl (p_sub rfl rfl (w64 (by omega))) ?_
      refine wl rfl rfl rfl (p_as rfl) ?_
      refine wl_nil ?_
      refine x_round (e' := [(0, .slice Ab lb cb), (3, .slice (A34) (lb + 1 + nz b.length + (k + 1)) (c34)), (4, u64v (8 * b.length)), (5, i64 (7 - ((k + 1) : Int)))]) ⟨rfl, rfl, rfl, (congrArg some (congrArg i64 (by omega))), trivial⟩ (by rw [hm1]; omega) ⟨k + 1, A34, c34, rfl, rfl, by omega, by rw [← pq_next (by omega)]; exact hW6.mono (fun k _ hk => by first | omega | (dsimp only at *; omega)), hb, HC⟩
    ·
      have c1 := of_decide_eq_false c1
      obtain rfl : k = 8 := by omega
      rw [pq_all] at hW6
      refine wc_exit ?_
      refine x_then_exit ?_
      refine x_then_exit ?_
      refine x_in_here ?_
      refine x_seq ?_
      refine wc_seq ?_
      refine wc_region ?_
      refine wl rfl rfl rfl (p_mv rfl) ?_
      refine wl rfl rfl rfl (p_as rfl) ?_
      refine wl_nil ?_
      refine x_seq ?_
      refine wc_ret ?_
      refine fin_run ((res1 rfl rfl)) ?_
      exact ⟨_, _, rfl, hW6, HC⟩

set_option maxHeartbeats 1000000 in
set_option maxRecDepth 20000 in
theorem rblock_any {w : World} {Ab : Option Addr} {lb cb : Nat} {Fb : Nat → Prop} {b : List UInt8} {h : List W32} (hb : Sl w Fb u8v Ab lb cb b) (hh : h.length = 8) (hlb : lb = 64) :
    Calls Tryd.prog 122 #[.agg (h.map u32v).toArray, .slice Ab lb cb] w fun e w' => e = .returned (.agg ((cmp h b).map u32v).toArray) ∧ Ch No w w' := by
  have hbl := hb.len
  have hsl := sch_len b 64
  have hb := hb.old
  have HC : Ch No w w := Ch.refl _ _
  refine enter' (args := [.agg (h.map u32v).toArray, .slice Ab lb cb]) (n := 195) Tryd.func122 rfl rfl rfl ?_
  refine wc_seq ?_
  refine wc_region ?_
  refine wle rfl (e_box rfl rfl rfl (fun w1 g2 hg2 hb2 hc hsz2 => ?_))
  have hzw1 := hc.size
  have HC := HC.tr hc
  have hb := hb.no hc
  have hge2 : w.heap.size ≤ g2 := by have := HC.size; omega
  have hltg2 := hb2.lt
  refine wle rfl (e_alloc (cs := ((List.replicate 8 0#32).map u32v).toArray) rfl (by rfl) rfl (fun w2 g4 hg4 hb4 hc hsz4 => ?_))
  have hzw2 := hc.size
  have HC := HC.tr hc
  have hb := hb.no hc
  have hb2 := hb2.ch hc (fun h => h)
  have hge4 : w.heap.size ≤ g4 := by have := HC.size; omega
  have neg2_4 : g2 < g4 := by omega
  refine wl_nil ?_
  refine x_seq ?_
  refine wc_seq ?_
  refine wc_region ?_
  have hltg2 := hb2.lt
  have hltg4 := hb4.lt
  refine wle rfl (e_alloc (cs := ((List.replicate 64 0#32).map u32v).toArray) rfl (by rfl) rfl (fun w3 g5 hg5 hb5 hc hsz5 => ?_))
  have hzw3 := hc.size
  have HC := HC.tr hc
  have hb := hb.no hc
  have hb2 := hb2.ch hc (fun h => h)
  have hb4 := hb4.ch hc (fun h => h)
  have hge5 : w.heap.size ≤ g5 := by have := HC.size; omega
  have neg2_5 : g2 < g5 := by omega
  have neg4_5 : g4 < g5 := by omega
  refine wl_nil ?_
  refine x_seq ?_
  refine wc_seq ?_
  refine wc_seq ?_
  refine wc_region ?_
  refine wl rfl rfl rfl (p_as rfl) ?_
  refine wl_nil ?_
  refine x_seq ?_
  refine wc_block ?_
  refine wc_loop (e' := [(0, .agg (h.map u32v).toArray), (1, .slice Ab lb cb), (2, .pointer (some ⟨g2, 0, none⟩)), (4, .pointer (some ⟨g4, 0, none⟩)), (5, .pointer (some ⟨g5, 0, none⟩)), (6, i64 ((0) : Int))]) (fun mz ez uz => ∃ t : Nat, mz = 16 - t ∧ ez = [(0, .agg (h.map u32v).toArray), (1, .slice Ab lb cb), (2, .pointer (some ⟨g2, 0, none⟩)), (4, .pointer (some ⟨g4, 0, none⟩)), (5, .pointer (some ⟨g5, 0, none⟩)), (6, i64 (t : Int))] ∧ (t ≤ 16) ∧ (Sl uz (fun k => k < w.heap.size) u8v Ab lb cb b) ∧ (Blk uz g2 200 ((h).map u32v).toArray) ∧ (Blk uz g4 200 ((List.replicate 8 0#32).map u32v).toArray) ∧ (Blk uz g5 213 ((schZ b t).map u32v).toArray) ∧ (Ch No w uz))
    ⟨rfl, rfl, rfl, rfl, rfl, rfl, trivial⟩ ⟨0, rfl, rfl, by omega, hb, hb2, hb4, by rw [schZ_zero]; exact hb5, HC⟩ ?_
  rintro m0 e w4 ⟨t, hm0, rfl, ht, hb, hb2, hb4, hb5, HC⟩
  have hzw4 := HC.size
  have hzl := schZ_len b (t := t) (by omega)
  refine wc_seq ?_
  refine wc_seq ?_
  refine wc_region ?_
  refine wl rfl rfl rfl (p_mv rfl) ?_
  refine wl rfl rfl rfl (p_lt rfl rfl) ?_
  refine wl_nil ?_
  refine x_seq ?_
  refine wc_if rfl (fun c0 => ?_) (fun c0 => ?_)
  ·
    have c0 := of_decide_eq_true c0
    refine wc_skip ?_
    refine x_seq ?_
    refine wc_seq ?_
    refine wc_block ?_
    refine wc_draw (.st 0 0 (.st 1 0 (.st 2 0 (.st 3 0 (.st 4 0 (.st 5 1 (.st 6 0 (.st 7 0 (.st 8 0 (.st 9 0 (.st 10 0 (.st 11 0 (.st 12 0 (.st 13 1 (.st 14 0 (.st 15 0 (.st 16 0 (.st 17 0 (.st 18 0 (.st 19 0 (.st 20 0 (.st 21 0 (.st 22 1 (.st 23 0 (.st 24 0 (.st 25 0 (.st 26 0 (.st 27 0 (.st 28 0 (.st 29 0 (.st 30 0 (.st 31 1 (.st 32 0 (.st 33 0 (.st 34 0 (.st 35 3 .nil)))))))))))))))))))))))))))))))))))) 35 (by kernel_rfl) (by kernel_rfl) (by kernel_rfl) (by repeat (first | with_reducible exact pan_body | with_reducible apply pan_then | with_reducible apply pan_in)) (fun x => Ch No w4.drew x) (Ch.refl _ _) ?_
    obtain ⟨w5, ew5⟩ : ∃ x, x = w4.drew := ⟨_, rfl⟩
    rw [← ew5]
    have hc : Ch No w4 w5 := by rw [ew5]; exact Ch.drew _
    have hszw5 : w5.heap.size = w4.heap.size := by rw [ew5]; rfl
    clear ew5
    have hzw5 := hc.size
    have HC := HC.tr hc
    have hb := hb.no hc
    have hb2 := hb2.ch hc (fun h => h)
    have hb4 := hb4.ch hc (fun h => h)
    have hb5 := hb5.ch hc (fun h => h)
    have hS : Ch No w5 w5 := Ch.refl _ _
    refine ws_p rfl rfl rfl rfl (p_mv rfl) ?_
    refine ws_p rfl rfl rfl rfl (p_mv rfl) ?_
    refine ws_p rfl rfl rfl rfl (p_mv rfl) ?_
    refine ws_p rfl rfl rfl rfl (p_mul (Z := ((4 * t : Nat) : Int)) rfl rfl (by rw [w64 (by omega)]; omega)) ?_
    obtain ⟨b6, o6, hA6, hF6, hc6⟩ := (hb).opn (d := 0) (by omega)
    refine ws_p rfl rfl rfl rfl (p_ixS1 Tryd.underlying107 sz5 rfl hA6 rfl (by omega) (by omega) (Int.toNat_natCast _)) ?_
    refine ws_h rfl rfl rfl rfl (p_ld Tryd.underlying5 rfl rfl (fun _ h => h.cell (fun h => h) (hc6 _ (by omega)))) ?_
    refine ws_p rfl rfl rfl rfl (p_convB32 Tryd.underlying5 Tryd.underlying146 rfl) ?_
    refine ws_p rfl rfl rfl rfl (p_shl32 (Y := 24) rfl rfl) ?_
    refine ws_p rfl rfl rfl rfl (p_mv rfl) ?_
    refine ws_p rfl rfl rfl rfl (p_mv rfl) ?_
    refine ws_p rfl rfl rfl rfl (p_mul (Z := ((4 * t : Nat) : Int)) rfl rfl (by rw [w64 (by omega)]; omega)) ?_
    refine ws_p rfl rfl rfl rfl (p_add (Z := ((4 * t + 1 : Nat) : Int)) rfl rfl (by rw [w64 (by omega)]; omega)) ?_
    obtain ⟨b7, o7, hA7, hF7, hc7⟩ := (hb).opn (d := 0) (by omega)
    refine ws_p rfl rfl rfl rfl (p_ixS1 Tryd.underlying107 sz5 rfl hA7 rfl (by omega) (by omega) (Int.toNat_natCast _)) ?_
    refine ws_h rfl rfl rfl rfl (p_ld Tryd.underlying5 rfl rfl (fun _ h => h.cell (fun h => h) (hc7 _ (by omega)))) ?_
    refine ws_p rfl rfl rfl rfl (p_convB32 Tryd.underlying5 Tryd.underlying146 rfl) ?_
    refine ws_p rfl rfl rfl rfl (p_shl32 (Y := 16) rfl rfl) ?_
    refine ws_p rfl rfl rfl rfl (p_or32 rfl rfl) ?_
    refine ws_p rfl rfl rfl rfl (p_mv rfl) ?_
    refine ws_p rfl rfl rfl rfl (p_mv rfl) ?_
    refine ws_p rfl rfl rfl rfl (p_mul (Z := ((4 * t : Nat) : Int)) rfl rfl (by rw [w64 (by omega)]; omega)) ?_
    refine ws_p rfl rfl rfl rfl (p_add (Z := ((4 * t + 2 : Nat) : Int)) rfl rfl (by rw [w64 (by omega)]; omega)) ?_
    obtain ⟨b8, o8, hA8, hF8, hc8⟩ := (hb).opn (d := 0) (by omega)
    refine ws_p rfl rfl rfl rfl (p_ixS1 Tryd.underlying107 sz5 rfl hA8 rfl (by omega) (by omega) (Int.toNat_natCast _)) ?_
    refine ws_h rfl rfl rfl rfl (p_ld Tryd.underlying5 rfl rfl (fun _ h => h.cell (fun h => h) (hc8 _ (by omega)))) ?_
    refine ws_p rfl rfl rfl rfl (p_convB32 Tryd.underlying5 Tryd.underlying146 rfl) ?_
    refine ws_p rfl rfl rfl rfl (p_shl32 (Y := 8) rfl rfl) ?_
    refine ws_p rfl rfl rfl rfl (p_or32 rfl rfl) ?_
    refine ws_p rfl rfl rfl rfl (p_mv rfl) ?_
    refine ws_p rfl rfl rfl rfl (p_mv rfl) ?_
    refine ws_p rfl rfl rfl rfl (p_mul (Z := ((4 * t : Nat) : Int)) rfl rfl (by rw [w64 (by omega)]; omega)) ?_
    refine ws_p rfl rfl rfl rfl (p_add (Z := ((4 * t + 3 : Nat) : Int)) rfl rfl (by rw [w64 (by omega)]; omega)) ?_
    obtain ⟨b9, o9, hA9, hF9, hc9⟩ := (hb).opn (d := 0) (by omega)
    refine ws_p rfl rfl rfl rfl (p_ixS1 Tryd.underlying107 sz5 rfl hA9 rfl (by omega) (by omega) (Int.toNat_natCast _)) ?_
    refine ws_h rfl rfl rfl rfl (p_ld Tryd.underlying5 rfl rfl (fun _ h => h.cell (fun h => h) (hc9 _ (by omega)))) ?_
    refine ws_p rfl rfl rfl rfl (p_convB32 Tryd.underlying5 Tryd.underlying146 rfl) ?_
    refine ws_p rfl rfl rfl rfl (p_or32 rfl rfl) ?_
    refine ws_p rfl rfl rfl rfl (p_ixA1 Tryd.underlying213 sz146 rfl rfl (by omega) (by omega) (Int.toNat_natCast _)) ?_
    refine ws_l rfl rfl (e_stL one_u32 (by rfl) rfl rfl hb5 (by first | (simp; done) | (simp; omega) | omega) (fun w11 hb5 hc hsz => ?_))
    have hzw11 := hc.size
    have HC := HC.trans hc (fun _ _ h => h) (fun k hk ht => absurd ht (by omega))
    first | have hb := hb.ch hc (by intro k hk ht; first | omega | (dsimp only at *; omega)) | have hb := hb.chT hc (by intro k hz hk ht; first | omega | (dsimp only at *; omega))
    have hb2 := hb2.ch hc (by omega)
    have hb4 := hb4.ch hc (by omega)
    refine ws_n ?_
    refine x_in_normal ?_
    refine x_seq ?_
    refine wc_region ?_
    refine wl rfl rfl rfl (p_mv rfl) ?_
    refine wl rfl rfl rfl (p_add rfl rfl (w64 (by omega))) ?_
    refine wl rfl rfl rfl (p_as rfl) ?_
    refine wl_nil ?_
    refine x_round (e' := [(0, .agg (h.map u32v).toArray), (1, .slice Ab lb cb), (2, .pointer (some ⟨g2, 0, none⟩)), (4, .pointer (some ⟨g4, 0, none⟩)), (5, .pointer (some ⟨g5, 0, none⟩)), (6, i64 ((t + 1) : Int))]) ⟨rfl, rfl, rfl, rfl, rfl, rfl, trivial⟩ (by rw [hm0]; omega) ⟨t + 1, rfl, rfl, by omega, hb, hb2, hb4, by rw [← schZ_set b (by omega), next_low b _ (by omega)]; exact hb5, HC⟩
  ·
    have c0 := of_decide_eq_false c0
    obtain rfl : t = 16 := by omega
    refine wc_exit ?_
    refine x_then_exit ?_
    refine x_then_exit ?_
    refine x_in_here ?_
    refine x_seq ?_
    refine wc_seq ?_
    refine wc_seq ?_
    refine wc_region ?_
    refine wl rfl rfl rfl (p_as rfl) ?_
    refine wl_nil ?_
    refine x_seq ?_
    refine wc_block ?_
    refine wc_loop (e' := [(2, .pointer (some ⟨g2, 0, none⟩)), (4, .pointer (some ⟨g4, 0, none⟩)), (5, .pointer (some ⟨g5, 0, none⟩)), (7, i64 ((16) : Int))]) (fun mz ez uz => ∃ t : Nat, mz = 64 - t ∧ ez = [(2, .pointer (some ⟨g2, 0, none⟩)), (4, .pointer (some ⟨g4, 0, none⟩)), (5, .pointer (some ⟨g5, 0, none⟩)), (7, i64 (t : Int))] ∧ (16 ≤ t ∧ t ≤ 64) ∧ (Blk uz g2 200 ((h).map u32v).toArray) ∧ (Blk uz g4 200 ((List.replicate 8 0#32).map u32v).toArray) ∧ (Blk uz g5 213 ((schZ b t).map u32v).toArray) ∧ (Ch No w uz))
      ⟨rfl, rfl, rfl, rfl, trivial⟩ ⟨16, rfl, rfl, by omega, hb2, hb4, hb5, HC⟩ ?_
    rintro m1 e w12 ⟨t, hm1, rfl, ht, hb2, hb4, hb5, HC⟩
    have hzw12 := HC.size
    have hzl := schZ_len b (t := t) (by omega)
    refine wc_seq ?_
    refine wc_seq ?_
    refine wc_region ?_
    refine wl rfl rfl rfl (p_mv rfl) ?_
    refine wl rfl rfl rfl (p_lt rfl rfl) ?_
    refine wl_nil ?_
    refine x_seq ?_
    refine wc_if rfl (fun c1 => ?_) (fun c1 => ?_)
    ·
      have c1 := of_decide_eq_true c1
      refine wc_skip ?_
      refine x_seq ?_
      refine wc_seq ?_
      refine wc_block ?_
      refine wc_seq ?_
      refine wc_draw (.st 0 0 (.st 1 0 (.st 2 0 (.st 3 1 (.st 4 0 (.st 5 0 (.st 6 0 (.st 7 1 (.st 8 0 (.st 9 0 .nil)))))))))) 10 (by kernel_rfl) (by kernel_rfl) (by kernel_rfl) (by repeat (first | with_reducible exact pan_body | with_reducible apply pan_then | with_reducible apply pan_in)) (fun x => Ch No w12.drew x) (Ch.refl _ _) ?_
      obtain ⟨w13, ew13⟩ : ∃ x, x = w12.drew := ⟨_, rfl⟩
      rw [← ew13]
      have hc : Ch No w12 w13 := by rw [ew13]; exact Ch.drew _
      have hszw13 : w13.heap.size = w12.heap.size := by rw [ew13]; rfl
      clear ew13
      have hzw13 := hc.size
      have HC := HC.tr hc
      have hb2 := hb2.ch hc (fun h => h)
      have hb4 := hb4.ch hc (fun h => h)
      have hb5 := hb5.ch hc (fun h => h)
      have hS : Ch No w13 w13 := Ch.refl _ _
      refine ws_p rfl rfl rfl rfl (p_mv rfl) ?_
      refine ws_p rfl rfl rfl rfl (p_sub (Z := ((t - 15 : Nat) : Int)) rfl rfl (by rw [w64 (by omega)]; omega)) ?_
      refine ws_p rfl rfl rfl rfl (p_ixA1 Tryd.underlying213 sz146 rfl rfl (by omega) (by omega) (Int.toNat_natCast _)) ?_
      refine ws_h rfl rfl rfl rfl (p_ld Tryd.underlying146 rfl rfl (fun _ h => h.cell (fun h => h) (cellL hb5 (d := 0#32) (by first | (simp; done) | (simp; omega) | omega)))) ?_
      refine ws_p rfl rfl rfl rfl (p_mv rfl) ?_
      refine ws_p rfl rfl rfl rfl (p_sub (Z := ((t - 2 : Nat) : Int)) rfl rfl (by rw [w64 (by omega)]; omega)) ?_
      refine ws_p rfl rfl rfl rfl (p_ixA1 Tryd.underlying213 sz146 rfl rfl (by omega) (by omega) (Int.toNat_natCast _)) ?_
      refine ws_h rfl rfl rfl rfl (p_ld Tryd.underlying146 rfl rfl (fun _ h => h.cell (fun h => h) (cellL hb5 (d := 0#32) (by first | (simp; done) | (simp; omega) | omega)))) ?_
      refine ws_p rfl rfl rfl rfl (p_as rfl) ?_
      refine ws_p rfl rfl rfl rfl (p_as rfl) ?_
      refine ws_n ?_
      refine x_seq ?_
      refine wc_draw (.st 0 0 (.st 1 0 (.st 2 0 (.st 3 0 (.st 4 1 (.st 5 0 (.st 7 0 (.st 10 0 (.st 11 0 (.st 14 0 (.st 15 0 (.st 16 0 (.st 17 1 (.st 19 0 (.st 21 0 (.st 24 0 (.st 25 0 (.st 6 2 (.st 8 2 (.st 9 0 (.st 12 0 (.st 13 0 (.st 18 0 (.st 20 2 (.st 22 2 (.st 23 0 (.st 26 0 (.st 27 0 (.st 28 0 (.st 29 3 .nil)))))))))))))))))))))))))))))) 29 (by kernel_rfl) (by kernel_rfl) (by kernel_rfl) (by repeat (first | with_reducible exact pan_body | with_reducible apply pan_then | with_reducible apply pan_in)) (fun x => Ch No w13.drew x) (Ch.refl _ _) ?_
      obtain ⟨w16, ew16⟩ : ∃ x, x = w13.drew := ⟨_, rfl⟩
      rw [← ew16]
      have hc : Ch No w13 w16 := by rw [ew16]; exact Ch.drew _
      have hszw16 : w16.heap.size = w13.heap.size := by rw [ew16]; rfl
      clear ew16
      have hzw16 := hc.size
      have HC := HC.tr hc
      have hb2 := hb2.ch hc (fun h => h)
      have hb4 := hb4.ch hc (fun h => h)
      have hb5 := hb5.ch hc (fun h => h)
      have hS : Ch No w16 w16 := Ch.refl _ _
      refine ws_p rfl rfl rfl rfl (p_mv rfl) ?_
      refine ws_p rfl rfl rfl rfl (p_mv rfl) ?_
      refine ws_p rfl rfl rfl rfl (p_sub (Z := ((t - 16 : Nat) : Int)) rfl rfl (by rw [w64 (by omega)]; omega)) ?_
      refine ws_p rfl rfl rfl rfl (p_ixA1 Tryd.underlying213 sz146 rfl rfl (by omega) (by omega) (Int.toNat_natCast _)) ?_
      refine ws_h rfl rfl rfl rfl (p_ld Tryd.underlying146 rfl rfl (fun _ h => h.cell (fun h => h) (cellL hb5 (d := 0#32) (by first | (simp; done) | (simp; omega) | omega)))) ?_
      refine ws_p rfl rfl rfl rfl (p_mv rfl) ?_
      refine ws_p rfl rfl rfl rfl (p_mv rfl) ?_
      refine ws_p rfl rfl rfl rfl (p_mv rfl) ?_
      refine ws_p rfl rfl rfl rfl (p_shr32 (Y := 3) rfl rfl) ?_
      refine ws_p rfl rfl rfl rfl (p_mv rfl) ?_
      refine ws_p rfl rfl rfl rfl (p_sub (Z := ((t - 7 : Nat) : Int)) rfl rfl (by rw [w64 (by omega)]; omega)) ?_
      refine ws_p rfl rfl rfl rfl (p_ixA1 Tryd.underlying213 sz146 rfl rfl (by omega) (by omega) (Int.toNat_natCast _)) ?_
      refine ws_h rfl rfl rfl rfl (p_ld Tryd.underlying146 rfl rfl (fun _ h => h.cell (fun h => h) (cellL hb5 (d := 0#32) (by first | (simp; done) | (simp; omega) | omega)))) ?_
      refine ws_p rfl rfl rfl rfl (p_mv rfl) ?_
      refine ws_p rfl rfl rfl rfl (p_mv rfl) ?_
      refine ws_p rfl rfl rfl rfl (p_mv rfl) ?_
      refine ws_p rfl rfl rfl rfl (p_shr32 (Y := 10) rfl rfl) ?_
      refine ws_e rfl rfl (e_call ent130 rfl rfl (turn_any (n := 7) (by omega)) ?_)
      rintro _ w19 ⟨rfl, hc⟩
      refine ⟨_, rfl, hc, ?_⟩
      have hzw19 := hc.size
      have HC := HC.tr hc
      have hb2 := hb2.ch hc (fun h => h)
      have hb4 := hb4.ch hc (fun h => h)
      have hb5 := hb5.ch hc (fun h => h)
      refine ws_narrow (S' := fun x => Ch No w19 x) (Ch.refl _ _) (fun x h => hc.tr h) ?_
      refine ws_e rfl rfl (e_call ent130 rfl rfl (turn_any (n := 18) (by omega)) ?_)
      rintro _ w20 ⟨rfl, hc⟩
      refine ⟨_, rfl, hc, ?_⟩
      have hzw20 := hc.size
      have HC := HC.tr hc
      have hb2 := hb2.ch hc (fun h => h)
      have hb4 := hb4.ch hc (fun h => h)
      have hb5 := hb5.ch hc (fun h => h)
      refine ws_narrow (S' := fun x => Ch No w20 x) (Ch.refl _ _) (fun x h => hc.tr h) ?_
      refine ws_p rfl rfl rfl rfl (p_xor32 rfl rfl) ?_
      refine ws_p rfl rfl rfl rfl (p_xor32 rfl rfl) ?_
      refine ws_p rfl rfl rfl rfl (p_add32 rfl rfl) ?_
      refine ws_p rfl rfl rfl rfl (p_add32 rfl rfl) ?_
      refine ws_e rfl rfl (e_call ent130 rfl rfl (turn_any (n := 17) (by omega)) ?_)
      rintro _ w21 ⟨rfl, hc⟩
      refine ⟨_, rfl, hc, ?_⟩
      have hzw21 := hc.size
      have HC := HC.tr hc
      have hb2 := hb2.ch hc (fun h => h)
      have hb4 := hb4.ch hc (fun h => h)
      have hb5 := hb5.ch hc (fun h => h)
      refine ws_narrow (S' := fun x => Ch No w21 x) (Ch.refl _ _) (fun x h => hc.tr h) ?_
      refine ws_e rfl rfl (e_call ent130 rfl rfl (turn_any (n := 19) (by omega)) ?_)
      rintro _ w22 ⟨rfl, hc⟩
      refine ⟨_, rfl, hc, ?_⟩
      have hzw22 := hc.size
      have HC := HC.tr hc
      have hb2 := hb2.ch hc (fun h => h)
      have hb4 := hb4.ch hc (fun h => h)
      have hb5 := hb5.ch hc (fun h => h)
      refine ws_narrow (S' := fun x => Ch No w22 x) (Ch.refl _ _) (fun x h => hc.tr h) ?_
      refine ws_p rfl rfl rfl rfl (p_xor32 rfl rfl) ?_
      refine ws_p rfl rfl rfl rfl (p_xor32 rfl rfl) ?_
      refine ws_p rfl rfl rfl rfl (p_add32 rfl rfl) ?_
      refine ws_p rfl rfl rfl rfl (p_ixA1 Tryd.underlying213 sz146 rfl rfl (by omega) (by omega) (Int.toNat_natCast _)) ?_
      refine ws_l rfl rfl (e_stL one_u32 (by rfl) rfl rfl hb5 (by first | (simp; done) | (simp; omega) | omega) (fun w24 hb5 hc hsz => ?_))
      have hzw24 := hc.size
      have HC := HC.trans hc (fun _ _ h => h) (fun k hk ht => absurd ht (by omega))
      have hb2 := hb2.ch hc (by omega)
      have hb4 := hb4.ch hc (by omega)
      refine ws_n ?_
      refine x_in_normal ?_
      refine x_seq ?_
      refine wc_region ?_
      refine wl rfl rfl rfl (p_mv rfl) ?_
      refine wl rfl rfl rfl (p_add rfl rfl (w64 (by omega))) ?_
      refine wl rfl rfl rfl (p_as rfl) ?_
      refine wl_nil ?_
      refine x_round (e' := [(2, .pointer (some ⟨g2, 0, none⟩)), (4, .pointer (some ⟨g4, 0, none⟩)), (5, .pointer (some ⟨g5, 0, none⟩)), (7, i64 ((t + 1) : Int))]) ⟨rfl, rfl, rfl, rfl, trivial⟩ (by rw [hm1]; omega) ⟨t + 1, rfl, rfl, by omega, hb2, hb4, by rw [← schZ_set b (by omega), next_high b (by omega)]; exact hb5, HC⟩
    ·
      have c1 := of_decide_eq_false c1
      obtain rfl : t = 64 := by omega
      rw [schZ_all] at hb5
      refine wc_exit ?_
      refine x_then_exit ?_
      refine x_then_exit ?_
      refine x_in_here ?_
      refine x_seq ?_
      refine wc_seq ?_
      refine wc_region ?_
      refine wle rfl (e_call ent131 rfl rfl (keys_any) ?_)
      rintro _ w25 ⟨rfl, hc⟩
      refine ⟨_, rfl, ?_⟩
      have hzw25 := hc.size
      have HC := HC.tr hc
      have hb2 := hb2.ch hc (fun h => h)
      have hb4 := hb4.ch hc (fun h => h)
      have hb5 := hb5.ch hc (fun h => h)
      have hltg2 := hb2.lt
      have hltg4 := hb4.lt
      have hltg5 := hb5.lt
      refine wle rfl (e_alloc (cs := ((List.replicate 64 0#32).map u32v).toArray) rfl (by rfl) rfl (fun w26 g10 hg10 hb10 hc hsz10 => ?_))
      have hzw26 := hc.size
      have HC := HC.tr hc
      have hb2 := hb2.ch hc (fun h => h)
      have hb4 := hb4.ch hc (fun h => h)
      have hb5 := hb5.ch hc (fun h => h)
      have hge10 : w.heap.size ≤ g10 := by have := HC.size; omega
      have neg2_10 : g2 < g10 := by omega
      have neg4_10 : g4 < g10 := by omega
      have neg5_10 : g5 < g10 := by omega
      refine wle rfl (e_stW (vs := (rk.map u32v)) (by kernel_rfl) (oneL one_u32 _) rfl rfl hb10 (by kernel_rfl) (fun w27 hb10 hc hsz => ?_))
      have hzw27 := hc.size
      have HC := HC.trans hc (fun _ _ h => h) (fun k hk ht => absurd ht (by omega))
      have hb2 := hb2.ch hc (by omega)
      have hb4 := hb4.ch hc (by omega)
      have hb5 := hb5.ch hc (by omega)
      refine wl_nil ?_
      refine x_seq ?_
      refine wc_seq ?_
      refine wc_region ?_
      refine wl rfl rfl rfl (p_ldA (cs := h.map u32v) Tryd.underlying200 rfl (szL sz200 (by rw [List.length_map]; exact hh)) rfl (fun _ e => e ▸ rngL hb2)) ?_
      have hltg2 := hb2.lt
      have hltg4 := hb4.lt
      have hltg5 := hb5.lt
      have hltg10 := hb10.lt
      refine wle rfl (e_alloc (cs := ((List.replicate 8 0#32).map u32v).toArray) rfl (by rfl) rfl (fun w28 g11 hg11 hb11 hc hsz11 => ?_))
      have hzw28 := hc.size
      have HC := HC.tr hc
      have hb2 := hb2.ch hc (fun h => h)
      have hb4 := hb4.ch hc (fun h => h)
      have hb5 := hb5.ch hc (fun h => h)
      have hb10 := hb10.ch hc (fun h => h)
      have hge11 : w.heap.size ≤ g11 := by have := HC.size; omega
      have neg2_11 : g2 < g11 := by omega
      have neg4_11 : g4 < g11 := by omega
      have neg5_11 : g5 < g11 := by omega
      have neg10_11 : g10 < g11 := by omega
      refine wle rfl (e_stW (vs := _) (by first | rfl | exact szL sz200 (by rw [List.length_map]; exact hh)) (oneL one_u32 _) rfl rfl hb11 (by first | (simp [hh]; done) | (simp [hvl]; done)) (fun w29 hb11 hc hsz => ?_))
      have hzw29 := hc.size
      have HC := HC.trans hc (fun _ _ h => h) (fun k hk ht => absurd ht (by omega))
      have hb2 := hb2.ch hc (by omega)
      have hb4 := hb4.ch hc (by omega)
      have hb5 := hb5.ch hc (by omega)
      have hb10 := hb10.ch hc (by omega)
      refine wl_nil ?_
      refine x_seq ?_
      refine wc_seq ?_
      refine wc_seq ?_
      refine wc_region ?_
      refine wl rfl rfl rfl (p_as rfl) ?_
      refine wl_nil ?_
      refine x_seq ?_
      refine wc_block ?_
      refine wc_loop (e' := [(2, .pointer (some ⟨g2, 0, none⟩)), (4, .pointer (some ⟨g4, 0, none⟩)), (5, .pointer (some ⟨g5, 0, none⟩)), (10, .pointer (some ⟨g10, 0, none⟩)), (11, .pointer (some ⟨g11, 0, none⟩)), (12, i64 ((0) : Int))]) (fun mz ez uz => ∃ t : Nat, mz = 64 - t ∧ ez = [(2, .pointer (some ⟨g2, 0, none⟩)), (4, .pointer (some ⟨g4, 0, none⟩)), (5, .pointer (some ⟨g5, 0, none⟩)), (10, .pointer (some ⟨g10, 0, none⟩)), (11, .pointer (some ⟨g11, 0, none⟩)), (12, i64 (t : Int))] ∧ (t ≤ 64) ∧ (Blk uz g2 200 ((h).map u32v).toArray) ∧ (Blk uz g4 200 ((List.replicate 8 0#32).map u32v).toArray) ∧ (Blk uz g5 213 ((sch b 64).map u32v).toArray) ∧ (Blk uz g10 213 ((rk).map u32v).toArray) ∧ (Blk uz g11 200 ((rnds (sch b 64) h t).map u32v).toArray) ∧ (Ch No w uz))
        ⟨rfl, rfl, rfl, rfl, rfl, rfl, trivial⟩ ⟨0, rfl, rfl, by omega, hb2, hb4, hb5, hb10, hb11, HC⟩ ?_
      rintro m2 e w30 ⟨t, hm2, rfl, ht, hb2, hb4, hb5, hb10, hb11, HC⟩
      have hzw30 := HC.size
      have hvl := rnds_len (sch b 64) hh t
      have hrk : rk.length = 64 := rfl
      refine wc_seq ?_
      refine wc_seq ?_
      refine wc_region ?_
      refine wl rfl rfl rfl (p_mv rfl) ?_
      refine wl rfl rfl rfl (p_lt rfl rfl) ?_
      refine wl_nil ?_
      refine x_seq ?_
      refine wc_if rfl (fun c2 => ?_) (fun c2 => ?_)
      ·
        have c2 := of_decide_eq_true c2
        refine wc_skip ?_
        refine x_seq ?_
        refine wc_seq ?_
        refine wc_block ?_
        refine wc_seq ?_
        refine wc_draw (.st 0 0 (.st 1 1 (.st 2 0 (.st 3 1 (.st 4 0 (.st 5 0 .nil)))))) 6 (by kernel_rfl) (by kernel_rfl) (by kernel_rfl) (by repeat (first | with_reducible exact pan_body | with_reducible apply pan_then | with_reducible apply pan_in)) (fun x => Ch No w30.drew x) (Ch.refl _ _) ?_
        obtain ⟨w31, ew31⟩ : ∃ x, x = w30.drew := ⟨_, rfl⟩
        rw [← ew31]
        have hc : Ch No w30 w31 := by rw [ew31]; exact Ch.drew _
        have hszw31 : w31.heap.size = w30.heap.size := by rw [ew31]; rfl
        clear ew31
        have hzw31 := hc.size
        have HC := HC.tr hc
        have hb2 := hb2.ch hc (fun h => h)
        have hb4 := hb4.ch hc (fun h => h)
        have hb5 := hb5.ch hc (fun h => h)
        have hb10 := hb10.ch hc (fun h => h)
        have hb11 := hb11.ch hc (fun h => h)
        have hS : Ch No w31 w31 := Ch.refl _ _
        refine ws_p rfl rfl rfl rfl (p_ixA1 (j := 0) Tryd.underlying200 sz146 rfl rfl (by omega) (by omega) rfl) ?_
        refine ws_h rfl rfl rfl rfl (p_ld Tryd.underlying146 rfl rfl (fun _ h => h.cell (fun h => h) (cellL hb11 (d := 0#32) (by first | (simp; done) | (simp; omega) | omega)))) ?_
        refine ws_p rfl rfl rfl rfl (p_ixA1 (j := 4) Tryd.underlying200 sz146 rfl rfl (by omega) (by omega) rfl) ?_
        refine ws_h rfl rfl rfl rfl (p_ld Tryd.underlying146 rfl rfl (fun _ h => h.cell (fun h => h) (cellL hb11 (d := 0#32) (by first | (simp; done) | (simp; omega) | omega)))) ?_
        refine ws_p rfl rfl rfl rfl (p_as rfl) ?_
        refine ws_p rfl rfl rfl rfl (p_as rfl) ?_
        refine ws_n ?_
        refine x_seq ?_
        refine wc_seq ?_
        refine wc_draw (.st 0 0 (.st 1 1 (.st 2 0 (.st 4 0 (.st 7 0 (.st 11 0 (.st 12 0 (.st 13 1 (.st 14 0 (.st 15 0 (.st 16 0 (.st 17 0 (.st 18 1 (.st 19 0 (.st 20 0 (.st 22 0 (.st 23 0 (.st 24 1 (.st 26 0 (.st 27 0 (.st 28 1 (.st 3 2 (.st 5 2 (.st 6 0 (.st 8 2 (.st 9 0 (.st 10 0 (.st 21 0 (.st 25 0 (.st 29 0 (.st 30 0 .nil))))))))))))))))))))))))))))))) 31 (by kernel_rfl) (by kernel_rfl) (by kernel_rfl) (by repeat (first | with_reducible exact pan_body | with_reducible apply pan_then | with_reducible apply pan_in)) (fun x => Ch No w31.drew x) (Ch.refl _ _) ?_
        obtain ⟨w34, ew34⟩ : ∃ x, x = w31.drew := ⟨_, rfl⟩
        rw [← ew34]
        have hc : Ch No w31 w34 := by rw [ew34]; exact Ch.drew _
        have hszw34 : w34.heap.size = w31.heap.size := by rw [ew34]; rfl
        clear ew34
        have hzw34 := hc.size
        have HC := HC.tr hc
        have hb2 := hb2.ch hc (fun h => h)
        have hb4 := hb4.ch hc (fun h => h)
        have hb5 := hb5.ch hc (fun h => h)
        have hb10 := hb10.ch hc (fun h => h)
        have hb11 := hb11.ch hc (fun h => h)
        have hS : Ch No w34 w34 := Ch.refl _ _
        refine ws_p rfl rfl rfl rfl (p_ixA1 (j := 7) Tryd.underlying200 sz146 rfl rfl (by omega) (by omega) rfl) ?_
        refine ws_h rfl rfl rfl rfl (p_ld Tryd.underlying146 rfl rfl (fun _ h => h.cell (fun h => h) (cellL hb11 (d := 0#32) (by first | (simp; done) | (simp; omega) | omega)))) ?_
        refine ws_p rfl rfl rfl rfl (p_mv rfl) ?_
        refine ws_p rfl rfl rfl rfl (p_mv rfl) ?_
        refine ws_p rfl rfl rfl rfl (p_mv rfl) ?_
        refine ws_p rfl rfl rfl rfl (p_mv rfl) ?_
        refine ws_p rfl rfl rfl rfl (p_ixA1 (j := 5) Tryd.underlying200 sz146 rfl rfl (by omega) (by omega) rfl) ?_
        refine ws_h rfl rfl rfl rfl (p_ld Tryd.underlying146 rfl rfl (fun _ h => h.cell (fun h => h) (cellL hb11 (d := 0#32) (by first | (simp; done) | (simp; omega) | omega)))) ?_
        refine ws_p rfl rfl rfl rfl (p_and32 rfl rfl) ?_
        refine ws_p rfl rfl rfl rfl (p_mv rfl) ?_
        refine ws_p rfl rfl rfl rfl (p_not32 rfl) ?_
        refine ws_p rfl rfl rfl rfl (p_ixA1 (j := 6) Tryd.underlying200 sz146 rfl rfl (by omega) (by omega) rfl) ?_
        refine ws_h rfl rfl rfl rfl (p_ld Tryd.underlying146 rfl rfl (fun _ h => h.cell (fun h => h) (cellL hb11 (d := 0#32) (by first | (simp; done) | (simp; omega) | omega)))) ?_
        refine ws_p rfl rfl rfl rfl (p_and32 rfl rfl) ?_
        refine ws_p rfl rfl rfl rfl ((p_xor32 rfl rfl).to (congrArg u32v (ch_ref _ _ _))) ?_
        refine ws_p rfl rfl rfl rfl (p_mv rfl) ?_
        refine ws_p rfl rfl rfl rfl (p_ixA1 Tryd.underlying213 sz146 rfl rfl (by omega) (by omega) (Int.toNat_natCast _)) ?_
        refine ws_h rfl rfl rfl rfl (p_ld Tryd.underlying146 rfl rfl (fun _ h => h.cell (fun h => h) (cellL hb10 (d := 0#32) (by first | (simp; done) | (simp; omega) | omega)))) ?_
        refine ws_p rfl rfl rfl rfl (p_mv rfl) ?_
        refine ws_p rfl rfl rfl rfl (p_ixA1 Tryd.underlying213 sz146 rfl rfl (by omega) (by omega) (Int.toNat_natCast _)) ?_
        refine ws_h rfl rfl rfl rfl (p_ld Tryd.underlying146 rfl rfl (fun _ h => h.cell (fun h => h) (cellL hb5 (d := 0#32) (by first | (simp; done) | (simp; omega) | omega)))) ?_
        refine ws_e rfl rfl (e_call ent130 rfl rfl (turn_any (n := 6) (by omega)) ?_)
        rintro _ w40 ⟨rfl, hc⟩
        refine ⟨_, rfl, hc, ?_⟩
        have hzw40 := hc.size
        have HC := HC.tr hc
        have hb2 := hb2.ch hc (fun h => h)
        have hb4 := hb4.ch hc (fun h => h)
        have hb5 := hb5.ch hc (fun h => h)
        have hb10 := hb10.ch hc (fun h => h)
        have hb11 := hb11.ch hc (fun h => h)
        refine ws_narrow (S' := fun x => Ch No w40 x) (Ch.refl _ _) (fun x h => hc.tr h) ?_
        refine ws_e rfl rfl (e_call ent130 rfl rfl (turn_any (n := 11) (by omega)) ?_)
        rintro _ w41 ⟨rfl, hc⟩
        refine ⟨_, rfl, hc, ?_⟩
        have hzw41 := hc.size
        have HC := HC.tr hc
        have hb2 := hb2.ch hc (fun h => h)
        have hb4 := hb4.ch hc (fun h => h)
        have hb5 := hb5.ch hc (fun h => h)
        have hb10 := hb10.ch hc (fun h => h)
        have hb11 := hb11.ch hc (fun h => h)
        refine ws_narrow (S' := fun x => Ch No w41 x) (Ch.refl _ _) (fun x h => hc.tr h) ?_
        refine ws_p rfl rfl rfl rfl (p_xor32 rfl rfl) ?_
        refine ws_e rfl rfl (e_call ent130 rfl rfl (turn_any (n := 25) (by omega)) ?_)
        rintro _ w42 ⟨rfl, hc⟩
        refine ⟨_, rfl, hc, ?_⟩
        have hzw42 := hc.size
        have HC := HC.tr hc
        have hb2 := hb2.ch hc (fun h => h)
        have hb4 := hb4.ch hc (fun h => h)
        have hb5 := hb5.ch hc (fun h => h)
        have hb10 := hb10.ch hc (fun h => h)
        have hb11 := hb11.ch hc (fun h => h)
        refine ws_narrow (S' := fun x => Ch No w42 x) (Ch.refl _ _) (fun x h => hc.tr h) ?_
        refine ws_p rfl rfl rfl rfl (p_xor32 rfl rfl) ?_
        refine ws_p rfl rfl rfl rfl (p_add32 rfl rfl) ?_
        refine ws_p rfl rfl rfl rfl (p_add32 rfl rfl) ?_
        refine ws_p rfl rfl rfl rfl (p_add32 rfl rfl) ?_
        refine ws_p rfl rfl rfl rfl (p_add32 rfl rfl) ?_
        refine ws_p rfl rfl rfl rfl (p_as rfl) ?_
        refine ws_n ?_
        refine x_seq ?_
        refine wc_seq ?_
        refine wc_draw (.st 0 0 (.st 2 0 (.st 5 0 (.st 8 0 (.st 9 0 (.st 10 1 (.st 11 0 (.st 12 0 (.st 13 0 (.st 14 1 (.st 15 0 (.st 16 0 (.st 17 0 (.st 18 1 (.st 19 0 (.st 20 1 (.st 21 0 (.st 22 0 (.st 1 2 (.st 3 2 (.st 4 0 (.st 6 2 (.st 7 0 (.st 23 0 (.st 24 0 .nil))))))))))))))))))))))))) 25 (by kernel_rfl) (by kernel_rfl) (by kernel_rfl) (by repeat (first | with_reducible exact pan_body | with_reducible apply pan_then | with_reducible apply pan_in)) (fun x => Ch No w42.drew x) (Ch.refl _ _) ?_
        obtain ⟨w43, ew43⟩ : ∃ x, x = w42.drew := ⟨_, rfl⟩
        rw [← ew43]
        have hc : Ch No w42 w43 := by rw [ew43]; exact Ch.drew _
        have hszw43 : w43.heap.size = w42.heap.size := by rw [ew43]; rfl
        clear ew43
        have hzw43 := hc.size
        have HC := HC.tr hc
        have hb2 := hb2.ch hc (fun h => h)
        have hb4 := hb4.ch hc (fun h => h)
        have hb5 := hb5.ch hc (fun h => h)
        have hb10 := hb10.ch hc (fun h => h)
        have hb11 := hb11.ch hc (fun h => h)
        have hS : Ch No w43 w43 := Ch.refl _ _
        refine ws_p rfl rfl rfl rfl (p_mv rfl) ?_
        refine ws_p rfl rfl rfl rfl (p_mv rfl) ?_
        refine ws_p rfl rfl rfl rfl (p_mv rfl) ?_
        refine ws_p rfl rfl rfl rfl (p_mv rfl) ?_
        refine ws_p rfl rfl rfl rfl (p_ixA1 (j := 1) Tryd.underlying200 sz146 rfl rfl (by omega) (by omega) rfl) ?_
        refine ws_h rfl rfl rfl rfl (p_ld Tryd.underlying146 rfl rfl (fun _ h => h.cell (fun h => h) (cellL hb11 (d := 0#32) (by first | (simp; done) | (simp; omega) | omega)))) ?_
        refine ws_p rfl rfl rfl rfl (p_and32 rfl rfl) ?_
        refine ws_p rfl rfl rfl rfl (p_mv rfl) ?_
        refine ws_p rfl rfl rfl rfl (p_ixA1 (j := 2) Tryd.underlying200 sz146 rfl rfl (by omega) (by omega) rfl) ?_
        refine ws_h rfl rfl rfl rfl (p_ld Tryd.underlying146 rfl rfl (fun _ h => h.cell (fun h => h) (cellL hb11 (d := 0#32) (by first | (simp; done) | (simp; omega) | omega)))) ?_
        refine ws_p rfl rfl rfl rfl (p_and32 rfl rfl) ?_
        refine ws_p rfl rfl rfl rfl (p_xor32 rfl rfl) ?_
        refine ws_p rfl rfl rfl rfl (p_ixA1 (j := 1) Tryd.underlying200 sz146 rfl rfl (by omega) (by omega) rfl) ?_
        refine ws_h rfl rfl rfl rfl (p_ld Tryd.underlying146 rfl rfl (fun _ h => h.cell (fun h => h) (cellL hb11 (d := 0#32) (by first | (simp; done) | (simp; omega) | omega)))) ?_
        refine ws_p rfl rfl rfl rfl (p_ixA1 (j := 2) Tryd.underlying200 sz146 rfl rfl (by omega) (by omega) rfl) ?_
        refine ws_h rfl rfl rfl rfl (p_ld Tryd.underlying146 rfl rfl (fun _ h => h.cell (fun h => h) (cellL hb11 (d := 0#32) (by first | (simp; done) | (simp; omega) | omega)))) ?_
        refine ws_p rfl rfl rfl rfl (p_and32 rfl rfl) ?_
        refine ws_p rfl rfl rfl rfl ((p_xor32 rfl rfl).to (congrArg u32v (maj_ref _ _ _))) ?_
        refine ws_e rfl rfl (e_call ent130 rfl rfl (turn_any (n := 2) (by omega)) ?_)
        rintro _ w48 ⟨rfl, hc⟩
        refine ⟨_, rfl, hc, ?_⟩
        have hzw48 := hc.size
        have HC := HC.tr hc
        have hb2 := hb2.ch hc (fun h => h)
        have hb4 := hb4.ch hc (fun h => h)
        have hb5 := hb5.ch hc (fun h => h)
        have hb10 := hb10.ch hc (fun h => h)
        have hb11 := hb11.ch hc (fun h => h)
        refine ws_narrow (S' := fun x => Ch No w48 x) (Ch.refl _ _) (fun x h => hc.tr h) ?_
        refine ws_e rfl rfl (e_call ent130 rfl rfl (turn_any (n := 13) (by omega)) ?_)
        rintro _ w49 ⟨rfl, hc⟩
        refine ⟨_, rfl, hc, ?_⟩
        have hzw49 := hc.size
        have HC := HC.tr hc
        have hb2 := hb2.ch hc (fun h => h)
        have hb4 := hb4.ch hc (fun h => h)
        have hb5 := hb5.ch hc (fun h => h)
        have hb10 := hb10.ch hc (fun h => h)
        have hb11 := hb11.ch hc (fun h => h)
        refine ws_narrow (S' := fun x => Ch No w49 x) (Ch.refl _ _) (fun x h => hc.tr h) ?_
        refine ws_p rfl rfl rfl rfl (p_xor32 rfl rfl) ?_
        refine ws_e rfl rfl (e_call ent130 rfl rfl (turn_any (n := 22) (by omega)) ?_)
        rintro _ w50 ⟨rfl, hc⟩
        refine ⟨_, rfl, hc, ?_⟩
        have hzw50 := hc.size
        have HC := HC.tr hc
        have hb2 := hb2.ch hc (fun h => h)
        have hb4 := hb4.ch hc (fun h => h)
        have hb5 := hb5.ch hc (fun h => h)
        have hb10 := hb10.ch hc (fun h => h)
        have hb11 := hb11.ch hc (fun h => h)
        refine ws_narrow (S' := fun x => Ch No w50 x) (Ch.refl _ _) (fun x h => hc.tr h) ?_
        refine ws_p rfl rfl rfl rfl (p_xor32 rfl rfl) ?_
        refine ws_p rfl rfl rfl rfl (p_add32 rfl rfl) ?_
        refine ws_p rfl rfl rfl rfl (p_as rfl) ?_
        refine ws_n ?_
        refine x_seq ?_
        refine wc_region ?_
        refine wl rfl rfl rfl (p_mv rfl) ?_
        refine wl rfl rfl rfl (p_mv rfl) ?_
        refine wl rfl rfl rfl ((p_add32 rfl rfl).to (congrArg u32v (BitVec.add_assoc _ _ _).symm)) ?_
        refine wl rfl rfl rfl (p_ixA1 (j := 0) Tryd.underlying200 sz146 rfl rfl (by omega) (by omega) rfl) ?_
        refine wl rfl rfl rfl (p_ld Tryd.underlying146 rfl rfl (ld (cellL hb11 (d := 0#32) (by first | (simp; done) | (simp; omega) | omega)))) ?_
        refine wl rfl rfl rfl (p_ixA1 (j := 1) Tryd.underlying200 sz146 rfl rfl (by omega) (by omega) rfl) ?_
        refine wl rfl rfl rfl (p_ld Tryd.underlying146 rfl rfl (ld (cellL hb11 (d := 0#32) (by first | (simp; done) | (simp; omega) | omega)))) ?_
        refine wl rfl rfl rfl (p_ixA1 (j := 2) Tryd.underlying200 sz146 rfl rfl (by omega) (by omega) rfl) ?_
        refine wl rfl rfl rfl (p_ld Tryd.underlying146 rfl rfl (ld (cellL hb11 (d := 0#32) (by first | (simp; done) | (simp; omega) | omega)))) ?_
        refine wl rfl rfl rfl (p_ixA1 (j := 3) Tryd.underlying200 sz146 rfl rfl (by omega) (by omega) rfl) ?_
        refine wl rfl rfl rfl (p_ld Tryd.underlying146 rfl rfl (ld (cellL hb11 (d := 0#32) (by first | (simp; done) | (simp; omega) | omega)))) ?_
        refine wl rfl rfl rfl (p_mv rfl) ?_
        refine wl rfl rfl rfl (p_add32 rfl rfl) ?_
        refine wl rfl rfl rfl (p_ixA1 (j := 4) Tryd.underlying200 sz146 rfl rfl (by omega) (by omega) rfl) ?_
        refine wl rfl rfl rfl (p_ld Tryd.underlying146 rfl rfl (ld (cellL hb11 (d := 0#32) (by first | (simp; done) | (simp; omega) | omega)))) ?_
        refine wl rfl rfl rfl (p_ixA1 (j := 5) Tryd.underlying200 sz146 rfl rfl (by omega) (by omega) rfl) ?_
        refine wl rfl rfl rfl (p_ld Tryd.underlying146 rfl rfl (ld (cellL hb11 (d := 0#32) (by first | (simp; done) | (simp; omega) | omega)))) ?_
        refine wl rfl rfl rfl (p_ixA1 (j := 6) Tryd.underlying200 sz146 rfl rfl (by omega) (by omega) rfl) ?_
        refine wl rfl rfl rfl (p_ld Tryd.underlying146 rfl rfl (ld (cellL hb11 (d := 0#32) (by first | (simp; done) | (simp; omega) | omega)))) ?_
        refine wl rfl rfl rfl (p_bldV rfl (fun _ => by kernel_rfl)) ?_
        refine wle rfl (e_stW (vs := _) (by first | rfl | exact szL sz200 (by rw [List.length_map]; exact hh)) (by first | exact allOne rfl | exact oneL one_u32 _) rfl rfl hb11 (by first | (simp [hh]; done) | (simp [hvl]; done)) (fun w58 hb11 hc hsz => ?_))
        have hzw58 := hc.size
        have HC := HC.trans hc (fun _ _ h => h) (fun k hk ht => absurd ht (by omega))
        have hb2 := hb2.ch hc (by omega)
        have hb4 := hb4.ch hc (by omega)
        have hb5 := hb5.ch hc (by omega)
        have hb10 := hb10.ch hc (by omega)
        refine wl_nil ?_
        refine x_in_normal ?_
        refine x_seq ?_
        refine wc_region ?_
        refine wl rfl rfl rfl (p_mv rfl) ?_
        refine wl rfl rfl rfl (p_add rfl rfl (w64 (by omega))) ?_
        refine wl rfl rfl rfl (p_as rfl) ?_
        refine wl_nil ?_
        refine x_round (e' := [(2, .pointer (some ⟨g2, 0, none⟩)), (4, .pointer (some ⟨g4, 0, none⟩)), (5, .pointer (some ⟨g5, 0, none⟩)), (10, .pointer (some ⟨g10, 0, none⟩)), (11, .pointer (some ⟨g11, 0, none⟩)), (12, i64 ((t + 1) : Int))]) ⟨rfl, rfl, rfl, rfl, rfl, rfl, trivial⟩ (by rw [hm2]; omega) ⟨t + 1, rfl, rfl, by omega, hb2, hb4, hb5, hb10, hb11, HC⟩
      ·
        have c2 := of_decide_eq_false c2
        obtain rfl : t = 64 := by omega
        have hvl := rnds_len (sch b 64) hh 64
        refine wc_exit ?_
        refine x_then_exit ?_
        refine x_then_exit ?_
        refine x_in_here ?_
        refine x_seq ?_
        refine wc_seq ?_
        refine wc_seq ?_
        refine wc_region ?_
        refine wl rfl rfl rfl (p_mv rfl) ?_
        refine wl_nil ?_
        refine x_seq ?_
        refine wc_block ?_
        refine wc_loop (e' := [(2, .pointer (some ⟨g2, 0, none⟩)), (4, .pointer (some ⟨g4, 0, none⟩)), (11, .pointer (some ⟨g11, 0, none⟩)), (182, i64 ((0) : Int))]) (fun mz ez uz => ∃ i : Nat, mz = 8 - i ∧ ez = [(2, .pointer (some ⟨g2, 0, none⟩)), (4, .pointer (some ⟨g4, 0, none⟩)), (11, .pointer (some ⟨g11, 0, none⟩)), (182, i64 (i : Int))] ∧ (i ≤ 8) ∧ (Blk uz g2 200 ((addN h (rnds (sch b 64) h 64) i).map u32v).toArray) ∧ (Blk uz g4 200 ((List.replicate 8 0#32).map u32v).toArray) ∧ (Blk uz g11 200 ((rnds (sch b 64) h 64).map u32v).toArray) ∧ (Ch No w uz))
          ⟨rfl, rfl, rfl, rfl, trivial⟩ ⟨0, rfl, rfl, by omega, hb2, hb4, hb11, HC⟩ ?_
        rintro m3 e w59 ⟨i, hm3, rfl, hi, hb2, hb4, hb11, HC⟩
        have hzw59 := HC.size
        have hal : (addN h (rnds (sch b 64) h 64) i).length = 8 := by rw [addN_len]; exact hh
        refine wc_seq ?_
        refine wc_region ?_
        refine wl rfl rfl rfl (p_lt rfl rfl) ?_
        refine wl_nil ?_
        refine x_seq ?_
        refine wc_seq ?_
        refine wc_if rfl (fun c3 => ?_) (fun c3 => ?_)
        ·
          have c3 := of_decide_eq_true c3
          refine wc_skip ?_
          refine x_seq ?_
          refine wc_seq ?_
          refine wc_block ?_
          refine wc_seq ?_
          refine wc_region ?_
          refine wl rfl rfl rfl (p_mv rfl) ?_
          refine wl rfl rfl rfl (p_as rfl) ?_
          refine wl_nil ?_
          refine x_seq ?_
          refine wc_draw (.st 0 0 (.st 1 0 (.st 2 1 (.st 3 0 (.st 4 0 (.st 5 1 (.st 6 0 (.st 7 0 (.st 8 3 .nil))))))))) 8 (by kernel_rfl) (by kernel_rfl) (by kernel_rfl) (by repeat (first | with_reducible exact pan_body | with_reducible apply pan_then | with_reducible apply pan_in)) (fun x => Ch No w59.drew x) (Ch.refl _ _) ?_
          obtain ⟨w60, ew60⟩ : ∃ x, x = w59.drew := ⟨_, rfl⟩
          rw [← ew60]
          have hc : Ch No w59 w60 := by rw [ew60]; exact Ch.drew _
          have hszw60 : w60.heap.size = w59.heap.size := by rw [ew60]; rfl
          clear ew60
          have hzw60 := hc.size
          have HC := HC.tr hc
          have hb2 := hb2.ch hc (fun h => h)
          have hb4 := hb4.ch hc (fun h => h)
          have hb11 := hb11.ch hc (fun h => h)
          have hS : Ch No w60 w60 := Ch.refl _ _
          refine ws_p rfl rfl rfl rfl (p_mv rfl) ?_
          refine ws_p rfl rfl rfl rfl (p_ixA1 Tryd.underlying200 sz146 rfl rfl (by omega) (by omega) (Int.toNat_natCast _)) ?_
          refine ws_h rfl rfl rfl rfl (p_ld Tryd.underlying146 rfl rfl (fun _ h => h.cell (fun h => h) (cellL hb2 (d := 0#32) (by first | (simp; done) | (simp; omega) | omega)))) ?_
          refine ws_p rfl rfl rfl rfl (p_mv rfl) ?_
          refine ws_p rfl rfl rfl rfl (p_ixA1 Tryd.underlying200 sz146 rfl rfl (by omega) (by omega) (Int.toNat_natCast _)) ?_
          refine ws_h rfl rfl rfl rfl (p_ld Tryd.underlying146 rfl rfl (fun _ h => h.cell (fun h => h) (cellL hb11 (d := 0#32) (by first | (simp; done) | (simp; omega) | omega)))) ?_
          refine ws_p rfl rfl rfl rfl (p_add32 rfl rfl) ?_
          refine ws_p rfl rfl rfl rfl (p_ixA1 Tryd.underlying200 sz146 rfl rfl (by omega) (by omega) (Int.toNat_natCast _)) ?_
          refine ws_l rfl rfl (e_stL one_u32 (by rfl) rfl rfl hb2 (by first | (simp; done) | (simp; omega) | omega) (fun w65 hb2 hc hsz => ?_))
          have hzw65 := hc.size
          have HC := HC.trans hc (fun _ _ h => h) (fun k hk ht => absurd ht (by omega))
          have hb4 := hb4.ch hc (by omega)
          have hb11 := hb11.ch hc (by omega)
          refine ws_n ?_
          refine x_in_normal ?_
          refine x_seq ?_
          refine wc_region ?_
          refine wl rfl rfl rfl (p_add rfl rfl (w64 (by omega))) ?_
          refine wl rfl rfl rfl (p_mv rfl) ?_
          refine wl_nil ?_
          refine x_round (e' := [(2, .pointer (some ⟨g2, 0, none⟩)), (4, .pointer (some ⟨g4, 0, none⟩)), (11, .pointer (some ⟨g11, 0, none⟩)), (182, i64 ((i + 1) : Int))]) ⟨rfl, rfl, rfl, rfl, trivial⟩ (by rw [hm3]; omega) ⟨i + 1, rfl, rfl, by omega, hb2, hb4, hb11, HC⟩
        ·
          have c3 := of_decide_eq_false c3
          obtain rfl : i = 8 := by omega
          have hal : (addN h (rnds (sch b 64) h 64) 8).length = 8 := by rw [addN_len]; exact hh
          refine wc_exit ?_
          refine x_then_exit ?_
          refine x_then_exit ?_
          refine x_in_here ?_
          refine x_seq ?_
          refine wc_seq ?_
          refine wc_region ?_
          refine wl rfl rfl rfl (p_ldA (cs := (addN h (rnds (sch b 64) h 64) 8).map u32v) Tryd.underlying200 rfl (szL sz200 (by rw [List.length_map]; exact hal)) rfl (fun _ e => e ▸ rngL hb2)) ?_
          refine wle rfl (e_stW (vs := ((addN h (rnds (sch b 64) h 64) 8).map u32v)) (szL sz200 (by rw [List.length_map]; exact hal)) (oneL one_u32 _) rfl rfl hb4 (by simp [hal]) (fun w66 hb4 hc hsz => ?_))
          have hzw66 := hc.size
          have HC := HC.trans hc (fun _ _ h => h) (fun k hk ht => absurd ht (by omega))
          have hb2 := hb2.ch hc (by omega)
          have hb11 := hb11.ch hc (by omega)
          refine wl_nil ?_
          refine x_seq ?_
          refine wc_ret ?_
          refine fin_run (resC rfl rfl Tryd.underlying200 rfl (szL sz200 (by rw [List.length_map]; exact hal)) (rngL hb4)) ?_
          exact ⟨rfl, HC⟩

set_option maxHeartbeats 1000000 in
set_option maxRecDepth 20000 in
theorem rsum_any {w : World} {Ab : Option Addr} {lb cb : Nat} {Fb : Nat → Prop} {b : List UInt8} (hb : Sl w Fb u8v Ab lb cb b) (hl : lb ≤ 1099511627776) :
    Calls Tryd.prog 113 #[.slice Ab lb cb] w fun e w' => e = .returned (.agg ((shaF b).map u8v).toArray) ∧ Ch No w w' := by
  have hbl := hb.len
  have hpl := pad_len b
  have hpm := pad_mod b
  have hnz : nz b.length < 64 := by unfold nz; omega
  have hb := hb.old
  have HC : Ch No w w := Ch.refl _ _
  refine enter' (args := [.slice Ab lb cb]) (n := 58) Tryd.func113 rfl rfl rfl ?_
  refine wc_seq ?_
  refine wc_region ?_
  refine wle rfl (e_alloc (cs := ((List.replicate 32 (0 : UInt8)).map u8v).toArray) rfl (by rfl) rfl (fun w1 g2 hg2 hb2 hc hsz2 => ?_))
  have hzw1 := hc.size
  have HC := HC.tr hc
  have hb := hb.no hc
  have hge2 : w.heap.size ≤ g2 := by have := HC.size; omega
  refine wl_nil ?_
  refine x_seq ?_
  refine wc_seq ?_
  refine wc_region ?_
  refine wl rfl rfl rfl (p_bldV rfl (fun _ => by kernel_rfl)) ?_
  have hltg2 := hb2.lt
  refine wle rfl (e_alloc (cs := ((List.replicate 8 0#32).map u32v).toArray) rfl (by rfl) rfl (fun w2 g3 hg3 hb3 hc hsz3 => ?_))
  have hzw2 := hc.size
  have HC := HC.tr hc
  have hb := hb.no hc
  have hb2 := hb2.ch hc (fun h => h)
  have hge3 : w.heap.size ≤ g3 := by have := HC.size; omega
  have neg2_3 : g2 < g3 := by omega
  refine wle rfl (e_stW (vs := _) (by first | rfl | exact szL sz200 (by rw [List.length_map]; exact hsh_len _ (k + 1))) (by first | exact allOne rfl | exact oneL one_u32 _) rfl rfl hb3 (by first | rfl | simp [hhl, hsh_len, cmp_len hhl]) (fun w3 hb3 hc hsz => ?_))
  have hzw3 := hc.size
  have HC := HC.trans hc (fun _ _ h => h) (fun k hk ht => absurd ht (by omega))
  first | have hb := hb.ch hc (by intro k hk ht; first | omega | (dsimp only at *; omega)) | have hb := hb.chT hc (by intro k hz hk ht; first | omega | (dsimp only at *; omega))
  have hb2 := hb2.ch hc (by omega)
  refine wl_nil ?_
  refine x_seq ?_
  refine wc_seq ?_
  refine wc_region ?_
  refine wl rfl rfl rfl (p_mv rfl) ?_
  refine wle rfl (e_call ent121 rfl rfl (padded_any (hb) (by omega)) ?_)
  rintro _ w4 ⟨A11, c11, rfl, hW11, hc⟩
  refine ⟨_, rfl, ?_⟩
  have hzw4 := hc.size
  have HC := HC.tr hc
  have hb := hb.no hc
  have hb2 := hb2.ch hc (fun h => h)
  have hb3 := hb3.ch hc (fun h => h)
  have hp : Sl w4 (fun k => g3 < k) u8v A11 (pad b).length c11 (pad b) := by have := hW11.sl; rw [show lb + 1 + nz b.length + 8 = (pad b).length by omega] at this; exact this.mono (fun k h1 h2 => by omega)
  refine wl rfl rfl rfl (p_as rfl) ?_
  refine wl_nil ?_
  refine x_seq ?_
  refine wc_seq ?_
  refine wc_seq ?_
  refine wc_region ?_
  refine wl rfl rfl rfl (p_as rfl) ?_
  refine wl_nil ?_
  refine x_seq ?_
  refine wc_block ?_
  refine wc_loop (e' := [(2, .pointer (some ⟨g2, 0, none⟩)), (3, .pointer (some ⟨g3, 0, none⟩)), (4, .slice A11 (pad b).length c11), (5, i64 ((64 * (0) : Nat) : Int))]) (fun mz ez uz => ∃ k : Nat, mz = (pad b).length / 64 - k ∧ ez = [(2, .pointer (some ⟨g2, 0, none⟩)), (3, .pointer (some ⟨g3, 0, none⟩)), (4, .slice A11 (pad b).length c11), (5, i64 ((64 * k : Nat) : Int))] ∧ (64 * k ≤ (pad b).length) ∧ (Sl uz (fun k => k ≠ g2 ∧ k ≠ g3) u8v A11 (pad b).length c11 (pad b)) ∧ (Blk uz g2 37 ((List.replicate 32 (0 : UInt8)).map u8v).toArray) ∧ (Blk uz g3 200 ((hsh (pad b) k).map u32v).toArray) ∧ (Ch No w uz))
    ⟨rfl, rfl, (congrArg (fun z => some (Value.slice A11 z c11)) (show lb + 1 + nz b.length + 8 = (pad b).length by omega)), rfl, trivial⟩ ⟨0, rfl, rfl, by omega, hp.mono (fun k h1 h2 => by omega), hb2, hb3, HC⟩ ?_
  rintro m0 e w5 ⟨k, hm0, rfl, hk, hp, hb2, hb3, HC⟩
  have hzw5 := HC.size
  have hhl := hsh_len (pad b) k
  have hpc := hp.cap
  refine wc_seq ?_
  refine wc_seq ?_
  refine wc_region ?_
  refine wl rfl rfl rfl (p_mv rfl) ?_
  refine wl rfl rfl rfl (p_mv rfl) ?_
  refine wl rfl rfl rfl (p_lenS Tryd.underlying107 rfl) ?_
  refine wl rfl rfl rfl (p_lt rfl rfl) ?_
  refine wl_nil ?_
  refine x_seq ?_
  refine wc_if rfl (fun c0 => ?_) (fun c0 => ?_)
  ·
    have c0 := of_decide_eq_true c0
    have hkp : 64 * k + 64 ≤ (pad b).length := by omega
    refine wc_skip ?_
    refine x_seq ?_
    refine wc_seq ?_
    refine wc_block ?_
    refine wc_draw (.st 0 1 (.st 1 0 (.st 2 0 (.st 3 0 (.st 4 0 (.st 5 0 (.st 6 2 (.st 7 3 .nil)))))))) 7 (by kernel_rfl) (by kernel_rfl) (by kernel_rfl) (by repeat (first | with_reducible exact pan_body | with_reducible apply pan_then | with_reducible apply pan_in)) (fun x => Ch No w5.drew x) (Ch.refl _ _) ?_
    obtain ⟨w6, ew6⟩ : ∃ x, x = w5.drew := ⟨_, rfl⟩
    rw [← ew6]
    have hc : Ch No w5 w6 := by rw [ew6]; exact Ch.drew _
    have hszw6 : w6.heap.size = w5.heap.size := by rw [ew6]; rfl
    clear ew6
    have hzw6 := hc.size
    have HC := HC.tr hc
    have hp := hp.no hc
    have hb2 := hb2.ch hc (fun h => h)
    have hb3 := hb3.ch hc (fun h => h)
    have hS : Ch No w6 w6 := Ch.refl _ _
    refine ws_h rfl rfl rfl rfl (p_ldA (cs := (hsh (pad b) k).map u32v) Tryd.underlying200 rfl (szL sz200 (by rw [List.length_map]; exact hsh_len _ _)) rfl (fun _ h => (rngL (hb3.ch h (fun h => h))))) ?_
    refine ws_p rfl rfl rfl rfl (p_mv rfl) ?_
    refine ws_p rfl rfl rfl rfl (p_mv rfl) ?_
    refine ws_p rfl rfl rfl rfl (p_mv rfl) ?_
    refine ws_p rfl rfl rfl rfl (p_add (Z := ((64 * k + 64 : Nat) : Int)) rfl rfl (by rw [w64 (by omega)]; omega)) ?_
    have hS23 := hp.cut (lo := 64 * k) (hi := 64 * k + 64) (q := 64) (by omega) (by omega) (by omega)
    refine ws_p rfl rfl rfl rfl (p_slS (l := 64 * k) (h := 64 * k + 64) Tryd.underlying107 sz5 rfl ⟨_, rfl⟩ ⟨_, rfl⟩ (by omega) (by omega) hp.cap (q := 64) (by omega)) ?_
    refine ws_e rfl rfl (e_call ent122 rfl rfl (rblock_any (h := (hsh (pad b) k)) (hS23) (by first | assumption | exact hsh_len _ _) rfl) ?_)
    rintro _ w7 ⟨rfl, hc⟩
    refine ⟨_, rfl, hc, ?_⟩
    have hzw7 := hc.size
    have HC := HC.tr hc
    have hp := hp.no hc
    have hb2 := hb2.ch hc (fun h => h)
    have hb3 := hb3.ch hc (fun h => h)
    have hS23 := hS23.no hc
    refine ws_narrow (S' := fun x => Ch No w7 x) (Ch.refl _ _) (fun x h => hc.tr h) ?_
    refine ws_l rfl rfl (e_stW (vs := _) (by first | rfl | exact szL sz200 (by rw [List.length_map]; exact hsh_len _ (k + 1))) (oneL one_u32 _) rfl rfl hb3 (by first | rfl | simp [hhl, hsh_len, cmp_len hhl]) (fun w8 hb3 hc hsz => ?_))
    have hzw8 := hc.size
    have HC := HC.trans hc (fun _ _ h => h) (fun k hk ht => absurd ht (by omega))
    first | have hp := hp.ch hc (by intro k hk ht; first | omega | (dsimp only at *; omega)) | have hp := hp.chT hc (by intro k hz hk ht; first | omega | (dsimp only at *; omega))
    have hb2 := hb2.ch hc (by omega)
    first | have hS23 := hS23.ch hc (by intro k hk ht; first | omega | (dsimp only at *; omega)) | have hS23 := hS23.chT hc (by intro k hz hk ht; first | omega | (dsimp only at *; omega))
    refine ws_n ?_
    refine x_in_normal ?_
    refine x_seq ?_
    refine wc_region ?_
    refine wl rfl rfl rfl (p_mv rfl) ?_
    refine wl rfl rfl rfl (p_add (Z := ((64 * (k + 1) : Nat) : Int)) rfl rfl (by rw [w64 (by omega)]; omega)) ?_
    refine wl rfl rfl rfl (p_as rfl) ?_
    refine wl_nil ?_
    refine x_round (e' := [(2, .pointer (some ⟨g2, 0, none⟩)), (3, .pointer (some ⟨g3, 0, none⟩)), (4, .slice A11 (pad b).length c11), (5, i64 ((64 * (k + 1) : Nat) : Int))]) ⟨rfl, rfl, rfl, rfl, trivial⟩ (by rw [hm0]; omega) ⟨k + 1, rfl, rfl, by omega, hp, hb2, hb3, HC⟩
  ·
    have c0 := of_decide_eq_false c0
    obtain rfl : k = (pad b).length / 64 := by omega
    refine wc_exit ?_
    refine x_then_exit ?_
    refine x_then_exit ?_
    refine x_in_here ?_
    refine x_seq ?_
    refine wc_seq ?_
    refine wc_region ?_
    have hltg2 := hb2.lt
    have hltg3 := hb3.lt
    refine wle rfl (e_alloc (cs := ((List.replicate 32 (0 : UInt8)).map u8v).toArray) rfl (by rfl) rfl (fun w9 g6 hg6 hb6 hc hsz6 => ?_))
    have hzw9 := hc.size
    have HC := HC.tr hc
    have hp := hp.no hc
    have hb2 := hb2.ch hc (fun h => h)
    have hb3 := hb3.ch hc (fun h => h)
    have hge6 : w.heap.size ≤ g6 := by have := HC.size; omega
    have neg2_6 : g2 < g6 := by omega
    have neg3_6 : g3 < g6 := by omega
    refine wl_nil ?_
    refine x_seq ?_
    refine wc_seq ?_
    refine wc_seq ?_
    refine wc_region ?_
    refine wl rfl rfl rfl (p_ldA (cs := (hsh (pad b) ((pad b).length / 64)).map u32v) Tryd.underlying200 rfl (szL sz200 (by rw [List.length_map]; exact hsh_len _ _)) rfl (fun _ e => e ▸ rngL hb3)) ?_
    refine wl rfl rfl rfl (p_mv rfl) ?_
    refine wl_nil ?_
    refine x_seq ?_
    refine wc_block ?_
    refine wc_loop (e' := [(2, .pointer (some ⟨g2, 0, none⟩)), (6, .pointer (some ⟨g6, 0, none⟩)), (25, .agg ((hsh (pad b) ((pad b).length / 64)).map u32v).toArray), (26, i64 ((0) : Int))]) (fun mz ez uz => ∃ i : Nat, mz = 8 - i ∧ ez = [(2, .pointer (some ⟨g2, 0, none⟩)), (6, .pointer (some ⟨g6, 0, none⟩)), (25, .agg ((hsh (pad b) ((pad b).length / 64)).map u32v).toArray), (26, i64 (i : Int))] ∧ (i ≤ 8) ∧ ((hsh (pad b) ((pad b).length / 64)).length = 8) ∧ (Blk uz g6 37 ((outN (hsh (pad b) ((pad b).length / 64)) i).map u8v).toArray) ∧ (Blk uz g2 37 ((List.replicate 32 (0 : UInt8)).map u8v).toArray) ∧ (Ch No w uz))
      ⟨rfl, rfl, rfl, rfl, trivial⟩ ⟨0, rfl, rfl, by omega, hsh_len _ _, by rw [outN_zero]; exact hb6, hb2, HC⟩ ?_
    rintro m1 e w10 ⟨i, hm1, rfl, hi, hh, hb6, hb2, HC⟩
    have hzw10 := HC.size
    have hol2 := outN_len hh hi
    refine wc_seq ?_
    refine wc_region ?_
    refine wl rfl rfl rfl (p_lt rfl rfl) ?_
    refine wl_nil ?_
    refine x_seq ?_
    refine wc_seq ?_
    refine wc_if rfl (fun c1 => ?_) (fun c1 => ?_)
    ·
      have c1 := of_decide_eq_true c1
      refine wc_skip ?_
      refine x_seq ?_
      refine wc_seq ?_
      refine wc_block ?_
      refine wc_seq ?_
      refine wc_region ?_
      refine wl rfl rfl rfl (p_mv rfl) ?_
      refine wl rfl rfl rfl (p_ixG (f := u32v) (d0 := 0#32) Tryd.underlying200 Tryd.underlying146 rfl sz146 rfl rfl (by omega) (by omega) (by first | (simp; done) | (simp; omega) | omega) (Int.toNat_natCast _)) ?_
      refine wl rfl rfl rfl (p_as rfl) ?_
      refine wl rfl rfl rfl (p_as rfl) ?_
      refine wl_nil ?_
      refine x_seq ?_
      refine wc_region ?_
      refine wl rfl rfl rfl (p_mv rfl) ?_
      refine wl rfl rfl rfl (p_mul (Z := ((4 * i : Nat) : Int)) rfl rfl (by rw [w64 (by omega)]; omega)) ?_
      refine wl rfl rfl rfl (p_mv rfl) ?_
      refine wl rfl rfl rfl (p_mul (Z := ((4 * i : Nat) : Int)) rfl rfl (by rw [w64 (by omega)]; omega)) ?_
      refine wl rfl rfl rfl (p_add (Z := ((4 * i + 1 : Nat) : Int)) rfl rfl (by rw [w64 (by omega)]; omega)) ?_
      refine wl rfl rfl rfl (p_mv rfl) ?_
      refine wl rfl rfl rfl (p_mul (Z := ((4 * i : Nat) : Int)) rfl rfl (by rw [w64 (by omega)]; omega)) ?_
      refine wl rfl rfl rfl (p_add (Z := ((4 * i + 2 : Nat) : Int)) rfl rfl (by rw [w64 (by omega)]; omega)) ?_
      refine wl rfl rfl rfl (p_mv rfl) ?_
      refine wl rfl rfl rfl (p_mul (Z := ((4 * i : Nat) : Int)) rfl rfl (by rw [w64 (by omega)]; omega)) ?_
      refine wl rfl rfl rfl (p_add (Z := ((4 * i + 3 : Nat) : Int)) rfl rfl (by rw [w64 (by omega)]; omega)) ?_
      refine wl rfl rfl rfl (p_mv rfl) ?_
      refine wl rfl rfl rfl (p_shr32 (Y := 24) rfl rfl) ?_
      refine wl rfl rfl rfl (p_conv32B Tryd.underlying146 Tryd.underlying5 rfl) ?_
      refine wl rfl rfl rfl (p_mv rfl) ?_
      refine wl rfl rfl rfl (p_shr32 (Y := 16) rfl rfl) ?_
      refine wl rfl rfl rfl (p_conv32B Tryd.underlying146 Tryd.underlying5 rfl) ?_
      refine wl rfl rfl rfl (p_mv rfl) ?_
      refine wl rfl rfl rfl (p_shr32 (Y := 8) rfl rfl) ?_
      refine wl rfl rfl rfl (p_conv32B Tryd.underlying146 Tryd.underlying5 rfl) ?_
      refine wl rfl rfl rfl (p_mv rfl) ?_
      refine wl rfl rfl rfl (p_conv32B Tryd.underlying146 Tryd.underlying5 rfl) ?_
      refine wl rfl rfl rfl (p_ixA1 Tryd.underlying37 sz5 rfl rfl (by omega) (by omega) (Int.toNat_natCast _)) ?_
      refine wle rfl (e_stL one_u8 (by rfl) rfl rfl hb6 (by first | (simp; done) | (simp; omega) | omega) (fun w12 hb6 hc hsz => ?_))
      have hzw12 := hc.size
      have HC := HC.trans hc (fun _ _ h => h) (fun k hk ht => absurd ht (by omega))
      have hb2 := hb2.ch hc (by omega)
      refine wl rfl rfl rfl (p_ixA1 Tryd.underlying37 sz5 rfl rfl (by omega) (by omega) (Int.toNat_natCast _)) ?_
      refine wle rfl (e_stL one_u8 (by rfl) rfl rfl hb6 (by first | (simp; done) | (simp; omega) | omega) (fun w14 hb6 hc hsz => ?_))
      have hzw14 := hc.size
      have HC := HC.trans hc (fun _ _ h => h) (fun k hk ht => absurd ht (by omega))
      have hb2 := hb2.ch hc (by omega)
      refine wl rfl rfl rfl (p_ixA1 Tryd.underlying37 sz5 rfl rfl (by omega) (by omega) (Int.toNat_natCast _)) ?_
      refine wle rfl (e_stL one_u8 (by rfl) rfl rfl hb6 (by first | (simp; done) | (simp; omega) | omega) (fun w16 hb6 hc hsz => ?_))
      have hzw16 := hc.size
      have HC := HC.trans hc (fun _ _ h => h) (fun k hk ht => absurd ht (by omega))
      have hb2 := hb2.ch hc (by omega)
      refine wl rfl rfl rfl (p_ixA1 Tryd.underlying37 sz5 rfl rfl (by omega) (by omega) (Int.toNat_natCast _)) ?_
      refine wle rfl (e_stL one_u8 (by rfl) rfl rfl hb6 (by first | (simp; done) | (simp; omega) | omega) (fun w18 hb6 hc hsz => ?_))
      have hzw18 := hc.size
      have HC := HC.trans hc (fun _ _ h => h) (fun k hk ht => absurd ht (by omega))
      have hb2 := hb2.ch hc (by omega)
      refine wl_nil ?_
      refine x_in_normal ?_
      refine x_seq ?_
      refine wc_region ?_
      refine wl rfl rfl rfl (p_add rfl rfl (w64 (by omega))) ?_
      refine wl rfl rfl rfl (p_mv rfl) ?_
      refine wl_nil ?_
      refine x_round (e' := [(2, .pointer (some ⟨g2, 0, none⟩)), (6, .pointer (some ⟨g6, 0, none⟩)), (25, .agg ((hsh (pad b) ((pad b).length / 64)).map u32v).toArray), (26, i64 ((i + 1) : Int))]) ⟨rfl, rfl, rfl, rfl, trivial⟩ (by rw [hm1]; omega) ⟨i + 1, rfl, rfl, by omega, hh, by rw [← outN_next hh (by omega)]; exact hb6, hb2, HC⟩
    ·
      have c1 := of_decide_eq_false c1
      obtain rfl : i = 8 := by omega
      rw [outN_all hh] at hb6
      have hol : (outB (hsh (pad b) ((pad b).length / 64))).length = 32 := shaF_len b
      rw [← shaF] at hb6 hol
      refine wc_exit ?_
      refine x_then_exit ?_
      refine x_then_exit ?_
      refine x_in_here ?_
      refine x_seq ?_
      refine wc_seq ?_
      refine wc_region ?_
      refine wl rfl rfl rfl (p_ldA (cs := ((shaF b).map u8v)) Tryd.underlying37 rfl (szL sz37 (by rw [List.length_map]; first | assumption | (simp; done) | (simp; omega) | omega)) rfl (fun _ e => e ▸ rngL hb6)) ?_
      refine wle rfl (e_stW (vs := _) (szL sz37 (by rw [List.length_map]; exact hol)) (oneL one_u8 _) rfl rfl hb2 (by simp [hol]) (fun w19 hb2 hc hsz => ?_))
      have hzw19 := hc.size
      have HC := HC.trans hc (fun _ _ h => h) (fun k hk ht => absurd ht (by omega))
      have hb6 := hb6.ch hc (by omega)
      refine wl_nil ?_
      refine x_seq ?_
      refine wc_ret ?_
      refine fin_run (resC rfl rfl Tryd.underlying37 rfl (szL sz37 (by rw [List.length_map]; exact shaF_len b)) (rngL hb2)) ?_
      exact ⟨rfl, HC⟩

set_option maxHeartbeats 1000000 in
set_option maxRecDepth 20000 in
theorem tbytes_any {w : World} {t : UInt8} {Aq : Option Addr} {lq cq : Nat} {Fq : Nat → Prop} {q : List (List UInt8)} (hq : SB w Fq Aq lq cq q) (hn : lq ≤ 1099511627000) (hl : q.flatten.length ≤ 1099511627000) :
    Calls Tryd.prog 118 #[u8v t, .slice Aq lq cq] w fun e w' => ∃ A c, e = .returned (.slice A (1 + q.flatten.length) c) ∧ Row w' (fun k => w.heap.size ≤ k) 5 1 (.slice A (1 + q.flatten.length) c) (1 + q.flatten.length) (([t] ++ q.flatten).map u8v) ∧ Ch No w w' := by
  have hql := hq.len
  have hq := hq.old
  have HC : Ch No w w := Ch.refl _ _
  refine enter' (args := [u8v t, .slice Aq lq cq]) (n := 21) Tryd.func118 rfl rfl rfl ?_
  refine wc_seq ?_
  refine wc_region ?_
  refine wl rfl rfl rfl (p_as rfl) ?_
  refine wl_nil ?_
  refine x_seq ?_
  refine wc_seq ?_
  refine wc_region ?_
  refine wl rfl rfl rfl (p_mv rfl) ?_
  refine wle rfl (e_bslV (E := 5) rfl rfl (fun _ => by kernel_rfl) (fun w1 g9 hg9 hb9 hc hsz9 => ?_))
  have hzw1 := hc.size
  have HC := HC.tr hc
  have hq := hq.no hc
  have hge9 : w.heap.size ≤ g9 := by have := HC.size; omega
  have hW9 := Row.lit (l := 1) (f := u8v) (xs := [t]) (F := fun k => g9 ≤ k) hb9 (by first | omega | (dsimp only; omega)) rfl rfl (by simp [maxLen])
  refine wl rfl rfl rfl (p_as rfl) ?_
  refine wl_nil ?_
  refine x_seq ?_
  refine wc_seq ?_
  refine wc_seq ?_
  refine wc_region ?_
  refine wl rfl rfl rfl (p_mv rfl) ?_
  refine wl rfl rfl rfl (p_lenS Tryd.underlying191 rfl) ?_
  refine wl rfl rfl rfl (p_mv rfl) ?_
  refine wl_nil ?_
  refine x_seq ?_
  refine wc_block ?_
  refine wc_loop (e' := [(5, .slice (_) (1 + (q.take (0)).flatten.length) (_)), (10, .slice Aq lq cq), (11, i64 (lq : Int)), (12, i64 ((0) : Int))]) (fun mz ez uz => ∃ i : Nat, ∃ A : Option Addr, ∃ c : Nat, mz = lq - i ∧ ez = [(5, .slice A (1 + (q.take i).flatten.length) c), (10, .slice Aq lq cq), (11, i64 (lq : Int)), (12, i64 (i : Int))] ∧ (i ≤ lq) ∧ (Row uz (fun k => w.heap.size ≤ k) 5 1 (.slice A (1 + (q.take i).flatten.length) c) (1 + (q.take i).flatten.length) (([t] ++ (q.take i).flatten).map u8v)) ∧ (SB uz (fun k => k < w.heap.size) Aq lq cq q) ∧ (Ch No w uz))
    ⟨rfl, rfl, rfl, rfl, trivial⟩ ⟨0, _, _, rfl, rfl, by omega, hW9.mono (fun k _ hk => by first | omega | (dsimp only at *; omega)), hq, HC⟩ ?_
  rintro m0 e w2 ⟨i, A, c, hm0, rfl, hi, hW9, hq, HC⟩
  have hzw2 := HC.size
  refine wc_seq ?_
  refine wc_region ?_
  refine wl rfl rfl rfl (p_lt rfl rfl) ?_
  refine wl_nil ?_
  refine x_seq ?_
  refine wc_seq ?_
  refine wc_if rfl (fun c0 => ?_) (fun c0 => ?_)
  ·
    have c0 := of_decide_eq_true c0
    have hnx := cat_next (q := q) (i := i) (by omega)
    have hle := cat_le q (i + 1)
    refine wc_skip ?_
    refine x_seq ?_
    refine wc_seq ?_
    refine wc_block ?_
    refine wc_seq ?_
    refine wc_region ?_
    obtain ⟨b3, o3, hA3, hF3, hc3⟩ := hq.opn (by omega)
    obtain ⟨SA14, sl14, sc14, hcc3, hS14⟩ := hc3 i (by omega)
    have hSl14 := hS14.len
    refine wl rfl rfl rfl (p_ixS1 (j := i) Tryd.underlying191 sz107 rfl hA3 rfl (by omega) (by omega) (Int.toNat_natCast _)) ?_
    refine wl rfl rfl rfl (p_ld Tryd.underlying107 rfl rfl (ld (hcc3))) ?_
    have hqi : (q.getD i []).length = sl14 := hSl14
    have hnl : (q.take i).flatten.length + sl14 = (q.take (i + 1)).flatten.length := by rw [← hnx, List.length_append, hqi]
    refine wl rfl rfl rfl (p_as rfl) ?_
    refine wl_nil ?_
    refine x_seq ?_
    refine wc_region ?_
    refine wl rfl rfl rfl (p_mv rfl) ?_
    refine wl rfl rfl rfl (p_mv rfl) ?_
    refine wle rfl (e_appS rfl el107 one_u8 rfl rfl hW9 hS14 (by omega) (by intro k hk; first | omega | (dsimp only at *; omega)) (fun w4 A18 c18 hW9 hc => ?_))
    have hzw4 := hc.size
    have HC := HC.trans hc (fun _ _ h => h) (fun k hk ht => absurd ht (by first | omega | (dsimp only at *; omega)))
    first | have hq := hq.ch hc (by intro k hk ht; first | omega | (dsimp only at *; omega)) | have hq := hq.chT hc (by intro k hz hk ht; first | omega | (dsimp only at *; omega))
    first | have hS14 := hS14.ch hc (by intro k hk ht; first | omega | (dsimp only at *; omega)) | have hS14 := hS14.chT hc (by intro k hz hk ht; first | omega | (dsimp only at *; omega))
    refine wl rfl rfl rfl (p_as rfl) ?_
    refine wl_nil ?_
    refine x_in_normal ?_
    refine x_seq ?_
    refine wc_region ?_
    refine wl rfl rfl rfl (p_add rfl rfl (w64 (by omega))) ?_
    refine wl rfl rfl rfl (p_mv rfl) ?_
    refine wl_nil ?_
    refine x_round (e' := [(5, .slice (A18) (1 + (q.take (i + 1)).flatten.length) (c18)), (10, .slice Aq lq cq), (11, i64 (lq : Int)), (12, i64 ((i + 1) : Int))]) ⟨(by rw [← hnl, ← Nat.add_assoc]; rfl), rfl, rfl, rfl, trivial⟩ (by rw [hm0]; omega) ⟨i + 1, A18, c18, rfl, rfl, by omega, by rw [← hnl, ← hnx, ← List.append_assoc, ← Nat.add_assoc]; exact hW9.mono (fun k _ hk => by first | omega | (dsimp only at *; omega)), hq, HC⟩
  ·
    have c0 := of_decide_eq_false c0
    refine wc_exit ?_
    refine x_then_exit ?_
    refine x_then_exit ?_
    refine x_in_here ?_
    refine x_seq ?_
    refine wc_seq ?_
    refine wc_region ?_
    refine wl rfl rfl rfl (p_mv rfl) ?_
    refine wl rfl rfl rfl (p_as rfl) ?_
    refine wl_nil ?_
    refine x_seq ?_
    refine wc_ret ?_
    refine fin_run ((res1 rfl rfl)) ?_
    have ht : q.take i = q := List.take_of_length_le (by omega)
    rw [ht] at hW9
    rw [ht]
    exact ⟨_, _, rfl, hW9, HC⟩

set_option maxHeartbeats 1000000 in
set_option maxRecDepth 20000 in
theorem rtbytes_any {w : World} {t : UInt8} {Aq : Option Addr} {lq cq : Nat} {Fq : Nat → Prop} {q : List (List UInt8)} (hq : SB w Fq Aq lq cq q) (hn : lq ≤ 1099511627000) (hl : q.flatten.length ≤ 1099511627000) :
    Calls Tryd.prog 114 #[u8v t, .slice Aq lq cq] w fun e w' => ∃ A c, e = .returned (.slice A (1 + q.flatten.length) c) ∧ Row w' (fun k => w.heap.size ≤ k) 5 1 (.slice A (1 + q.flatten.length) c) (1 + q.flatten.length) (([t] ++ q.flatten).map u8v) ∧ Ch No w w' := by
  have hql := hq.len
  have hq := hq.old
  have HC : Ch No w w := Ch.refl _ _
  refine enter' (args := [u8v t, .slice Aq lq cq]) (n := 21) Tryd.func114 rfl rfl rfl ?_
  refine wc_seq ?_
  refine wc_region ?_
  refine wl rfl rfl rfl (p_as rfl) ?_
  refine wl_nil ?_
  refine x_seq ?_
  refine wc_seq ?_
  refine wc_region ?_
  refine wl rfl rfl rfl (p_mv rfl) ?_
  refine wle rfl (e_bslV (E := 5) rfl rfl (fun _ => by kernel_rfl) (fun w1 g9 hg9 hb9 hc hsz9 => ?_))
  have hzw1 := hc.size
  have HC := HC.tr hc
  have hq := hq.no hc
  have hge9 : w.heap.size ≤ g9 := by have := HC.size; omega
  have hW9 := Row.lit (l := 1) (f := u8v) (xs := [t]) (F := fun k => g9 ≤ k) hb9 (by first | omega | (dsimp only; omega)) rfl rfl (by simp [maxLen])
  refine wl rfl rfl rfl (p_as rfl) ?_
  refine wl_nil ?_
  refine x_seq ?_
  refine wc_seq ?_
  refine wc_seq ?_
  refine wc_region ?_
  refine wl rfl rfl rfl (p_mv rfl) ?_
  refine wl rfl rfl rfl (p_lenS Tryd.underlying191 rfl) ?_
  refine wl rfl rfl rfl (p_mv rfl) ?_
  refine wl_nil ?_
  refine x_seq ?_
  refine wc_block ?_
  refine wc_loop (e' := [(5, .slice (_) (1 + (q.take (0)).flatten.length) (_)), (10, .slice Aq lq cq), (11, i64 (lq : Int)), (12, i64 ((0) : Int))]) (fun mz ez uz => ∃ i : Nat, ∃ A : Option Addr, ∃ c : Nat, mz = lq - i ∧ ez = [(5, .slice A (1 + (q.take i).flatten.length) c), (10, .slice Aq lq cq), (11, i64 (lq : Int)), (12, i64 (i : Int))] ∧ (i ≤ lq) ∧ (Row uz (fun k => w.heap.size ≤ k) 5 1 (.slice A (1 + (q.take i).flatten.length) c) (1 + (q.take i).flatten.length) (([t] ++ (q.take i).flatten).map u8v)) ∧ (SB uz (fun k => k < w.heap.size) Aq lq cq q) ∧ (Ch No w uz))
    ⟨rfl, rfl, rfl, rfl, trivial⟩ ⟨0, _, _, rfl, rfl, by omega, hW9.mono (fun k _ hk => by first | omega | (dsimp only at *; omega)), hq, HC⟩ ?_
  rintro m0 e w2 ⟨i, A, c, hm0, rfl, hi, hW9, hq, HC⟩
  have hzw2 := HC.size
  refine wc_seq ?_
  refine wc_region ?_
  refine wl rfl rfl rfl (p_lt rfl rfl) ?_
  refine wl_nil ?_
  refine x_seq ?_
  refine wc_seq ?_
  refine wc_if rfl (fun c0 => ?_) (fun c0 => ?_)
  ·
    have c0 := of_decide_eq_true c0
    have hnx := cat_next (q := q) (i := i) (by omega)
    have hle := cat_le q (i + 1)
    refine wc_skip ?_
    refine x_seq ?_
    refine wc_seq ?_
    refine wc_block ?_
    refine wc_seq ?_
    refine wc_region ?_
    obtain ⟨b3, o3, hA3, hF3, hc3⟩ := hq.opn (by omega)
    obtain ⟨SA14, sl14, sc14, hcc3, hS14⟩ := hc3 i (by omega)
    have hSl14 := hS14.len
    refine wl rfl rfl rfl (p_ixS1 (j := i) Tryd.underlying191 sz107 rfl hA3 rfl (by omega) (by omega) (Int.toNat_natCast _)) ?_
    refine wl rfl rfl rfl (p_ld Tryd.underlying107 rfl rfl (ld (hcc3))) ?_
    have hqi : (q.getD i []).length = sl14 := hSl14
    have hnl : (q.take i).flatten.length + sl14 = (q.take (i + 1)).flatten.length := by rw [← hnx, List.length_append, hqi]
    refine wl rfl rfl rfl (p_as rfl) ?_
    refine wl_nil ?_
    refine x_seq ?_
    refine wc_region ?_
    refine wl rfl rfl rfl (p_mv rfl) ?_
    refine wl rfl rfl rfl (p_mv rfl) ?_
    refine wle rfl (e_appS rfl el107 one_u8 rfl rfl hW9 hS14 (by omega) (by intro k hk; first | omega | (dsimp only at *; omega)) (fun w4 A18 c18 hW9 hc => ?_))
    have hzw4 := hc.size
    have HC := HC.trans hc (fun _ _ h => h) (fun k hk ht => absurd ht (by first | omega | (dsimp only at *; omega)))
    first | have hq := hq.ch hc (by intro k hk ht; first | omega | (dsimp only at *; omega)) | have hq := hq.chT hc (by intro k hz hk ht; first | omega | (dsimp only at *; omega))
    first | have hS14 := hS14.ch hc (by intro k hk ht; first | omega | (dsimp only at *; omega)) | have hS14 := hS14.chT hc (by intro k hz hk ht; first | omega | (dsimp only at *; omega))
    refine wl rfl rfl rfl (p_as rfl) ?_
    refine wl_nil ?_
    refine x_in_normal ?_
    refine x_seq ?_
    refine wc_region ?_
    refine wl rfl rfl rfl (p_add rfl rfl (w64 (by omega))) ?_
    refine wl rfl rfl rfl (p_mv rfl) ?_
    refine wl_nil ?_
    refine x_round (e' := [(5, .slice (A18) (1 + (q.take (i + 1)).flatten.length) (c18)), (10, .slice Aq lq cq), (11, i64 (lq : Int)), (12, i64 ((i + 1) : Int))]) ⟨(by rw [← hnl, ← Nat.add_assoc]; rfl), rfl, rfl, rfl, trivial⟩ (by rw [hm0]; omega) ⟨i + 1, A18, c18, rfl, rfl, by omega, by rw [← hnl, ← hnx, ← List.append_assoc, ← Nat.add_assoc]; exact hW9.mono (fun k _ hk => by first | omega | (dsimp only at *; omega)), hq, HC⟩
  ·
    have c0 := of_decide_eq_false c0
    refine wc_exit ?_
    refine x_then_exit ?_
    refine x_then_exit ?_
    refine x_in_here ?_
    refine x_seq ?_
    refine wc_seq ?_
    refine wc_region ?_
    refine wl rfl rfl rfl (p_mv rfl) ?_
    refine wl rfl rfl rfl (p_as rfl) ?_
    refine wl_nil ?_
    refine x_seq ?_
    refine wc_ret ?_
    refine fin_run ((res1 rfl rfl)) ?_
    have ht : q.take i = q := List.take_of_length_le (by omega)
    rw [ht] at hW9
    rw [ht]
    exact ⟨_, _, rfl, hW9, HC⟩

set_option maxHeartbeats 1000000 in
set_option maxRecDepth 20000 in
theorem tof_any {w : World} {t : UInt8} {Aq : Option Addr} {lq cq : Nat} {Fq : Nat → Prop} {q : List (List UInt8)} (hq : SB w Fq Aq lq cq q) (hn : lq ≤ 1099511627000) (hl : q.flatten.length ≤ 1099511627000) (hrnd : Sl w (fun k => k = 0) u32v (some ⟨0, 0, none⟩) 64 64 rk) :
    Calls Tryd.prog 102 #[u8v t, .slice Aq lq cq] w fun e w' => e = .returned (hv (shaF ([t] ++ q.flatten))) ∧ Ch No w w' := by
  have hn1 : 0 < w.heap.size := hrnd.size (by omega) rfl
  have hq := hq.old
  have HC : Ch No w w := Ch.refl _ _
  refine enter' (args := [u8v t, .slice Aq lq cq]) (n := 9) Tryd.func102 rfl rfl rfl ?_
  refine wc_seq ?_
  refine wc_region ?_
  refine wle rfl (e_alloc (cs := ((List.replicate 32 (0 : UInt8)).map u8v).toArray) rfl (by rfl) rfl (fun w1 g4 hg4 hb4 hc hsz4 => ?_))
  have hzw1 := hc.size
  have HC := HC.tr hc
  have hq := hq.no hc
  have hrnd := hrnd.no hc
  have hge4 : w.heap.size ≤ g4 := by have := HC.size; omega
  refine wl_nil ?_
  refine x_seq ?_
  refine wc_seq ?_
  refine wc_region ?_
  refine wl rfl rfl rfl (p_mv rfl) ?_
  refine wl rfl rfl rfl (p_mv rfl) ?_
  refine wle rfl (e_call ent118 rfl rfl (tbytes_any (hq) (by omega) (by first | omega | (simp only [List.flatten_cons, List.flatten_nil, List.length_append, List.length_nil, List.length_cons]; omega))) ?_)
  rintro _ w2 ⟨A7, c7, rfl, hW7, hc⟩
  refine ⟨_, rfl, ?_⟩
  have hzw2 := hc.size
  have HC := HC.tr hc
  have hq := hq.no hc
  have hrnd := hrnd.no hc
  have hb4 := hb4.ch hc (fun h => h)
  refine wle rfl (e_call ent117 rfl rfl (sum_any (hW7.sl) (by omega) hrnd) ?_)
  rintro _ w3 ⟨rfl, hc⟩
  refine ⟨_, rfl, ?_⟩
  have hzw3 := hc.size
  have HC := HC.tr hc
  have hq := hq.no hc
  have hrnd := hrnd.no hc
  have hb4 := hb4.ch hc (fun h => h)
  have hW7 := hW7.after hc
  refine wle rfl (e_stW (vs := List.map u8v (shaF _)) (szL sz38 (by rw [List.length_map]; exact shaF_len _)) (oneL one_u8 _) rfl rfl hb4 (by simp only [List.size_toArray, List.length_map]; first | done | exact ((List.length_replicate ..)).trans (shaF_len _).symm) (fun w4 hb4 hc hsz => ?_))
  have hzw4 := hc.size
  have HC := HC.trans hc (fun _ _ h => h) (fun k hk ht => absurd ht (by omega))
  first | have hq := hq.ch hc (by intro k hk ht; first | omega | (dsimp only at *; omega)) | have hq := hq.chT hc (by intro k hz hk ht; first | omega | (dsimp only at *; omega))
  first | have hrnd := hrnd.ch hc (by intro k hk ht; first | omega | (dsimp only at *; omega)) | have hrnd := hrnd.chT hc (by intro k hz hk ht; first | omega | (dsimp only at *; omega))
  have hW7 := hW7.ch hc (by intro k hz hk ht; first | omega | (dsimp only at *; omega))
  refine wl_nil ?_
  refine x_seq ?_
  refine wc_ret ?_
  refine fin_run (resC (cs := List.map u8v (shaF _)) rfl rfl Tryd.underlying38 rfl (szL sz38 (by rw [List.length_map]; exact shaF_len _)) (rngL hb4)) ?_
  exact ⟨rfl, HC⟩

set_option maxHeartbeats 1000000 in
set_option maxRecDepth 20000 in
theorem titem_any {w : World}  {a : List UInt8} {y : List UInt8} (ha : a.length = 32) (hy : y.length = 32) (hrnd : Sl w (fun k => k = 0) u32v (some ⟨0, 0, none⟩) 64 64 rk) :
    Calls Tryd.prog 74 #[hv a, hv y] w fun e w' => e = .returned (hv (itemH a y)) ∧ Ch No w w' := by
  have hn1 : 0 < w.heap.size := hrnd.size (by omega) rfl
  have HC : Ch No w w := Ch.refl _ _
  refine enter' (args := [hv a, hv y]) (n := 9) Tryd.func74 rfl rfl rfl ?_
  refine wc_seq ?_
  refine wc_region ?_
  refine wle rfl (e_box (cs := (List.map u8v a).toArray) rfl rfl rfl (fun w1 g2 hg2 hb2 hc hsz2 => ?_))
  have hzw1 := hc.size
  have HC := HC.tr hc
  have hrnd := hrnd.no hc
  have hge2 : w.heap.size ≤ g2 := by have := HC.size; omega
  have hltg2 := hb2.lt
  refine wle rfl (e_box (cs := (List.map u8v y).toArray) rfl rfl rfl (fun w2 g3 hg3 hb3 hc hsz3 => ?_))
  have hzw2 := hc.size
  have HC := HC.tr hc
  have hrnd := hrnd.no hc
  have hb2 := hb2.ch hc (fun h => h)
  have hge3 : w.heap.size ≤ g3 := by have := HC.size; omega
  have neg2_3 : g2 < g3 := by omega
  have hltg2 := hb2.lt
  have hltg3 := hb3.lt
  refine wle rfl (e_alloc (cs := ((List.replicate 32 (0 : UInt8)).map u8v).toArray) rfl (by rfl) rfl (fun w3 g4 hg4 hb4 hc hsz4 => ?_))
  have hzw3 := hc.size
  have HC := HC.tr hc
  have hrnd := hrnd.no hc
  have hb2 := hb2.ch hc (fun h => h)
  have hb3 := hb3.ch hc (fun h => h)
  have hge4 : w.heap.size ≤ g4 := by have := HC.size; omega
  have neg2_4 : g2 < g4 := by omega
  have neg3_4 : g3 < g4 := by omega
  refine wl_nil ?_
  refine x_seq ?_
  refine wc_seq ?_
  refine wc_draw (.st 0 0 (.st 1 0 (.st 2 2 (.st 3 2 (.st 4 3 .nil))))) 4 (by kernel_rfl) (by kernel_rfl) (by kernel_rfl) (by repeat (first | with_reducible exact pan_body | with_reducible apply pan_then | with_reducible apply pan_in)) (fun x => Ch No w3.drew x) (Ch.refl _ _) ?_
  obtain ⟨w4, ew4⟩ : ∃ x, x = w3.drew := ⟨_, rfl⟩
  rw [← ew4]
  have hc : Ch No w3 w4 := by rw [ew4]; exact Ch.drew _
  have hszw4 : w4.heap.size = w3.heap.size := by rw [ew4]; rfl
  clear ew4
  have hzw4 := hc.size
  have HC := HC.tr hc
  have hrnd := hrnd.no hc
  have hb2 := hb2.ch hc (fun h => h)
  have hb3 := hb3.ch hc (fun h => h)
  have hb4 := hb4.ch hc (fun h => h)
  have hS : Ch No w4 w4 := Ch.refl _ _
  have hS5 := Sl.whole (L := a) hb2 (ha)
  refine ws_p rfl rfl rfl rfl (p_slW (N := 31) Tryd.underlying38 sz5 rfl) ?_
  have hS6 := Sl.whole (L := y) hb3 (hy)
  refine ws_p rfl rfl rfl rfl (p_slW (N := 31) Tryd.underlying38 sz5 rfl) ?_
  have hltg2 := hb2.lt
  have hltg3 := hb3.lt
  have hltg4 := hb4.lt
  refine ws_e rfl rfl (e_bslV (E := 107) rfl rfl (fun _ => by kernel_rfl) (fun w5 g7 hg7 hb7 hc hsz7 => ⟨hc, ?_⟩))
  have hzw5 := hc.size
  have HC := HC.tr hc
  have hrnd := hrnd.no hc
  have hb2 := hb2.ch hc (fun h => h)
  have hb3 := hb3.ch hc (fun h => h)
  have hb4 := hb4.ch hc (fun h => h)
  have hS5 := hS5.no hc
  have hS6 := hS6.no hc
  have hge7 : w.heap.size ≤ g7 := by have := HC.size; omega
  have hQ7 := SB.lit2 hb7 (hS5) (hS6)
  refine ws_narrow (S' := fun x => Ch No w5 x) (Ch.refl _ _) (fun x h => hc.tr h) ?_
  refine ws_e rfl rfl (e_call ent102 rfl rfl (tof_any (t := 3) (hQ7) (by omega) (by first | omega | (simp only [List.flatten_cons, List.flatten_nil, List.length_append, List.length_nil, List.length_cons]; omega)) hrnd) ?_)
  rintro _ w6 ⟨rfl, hc⟩
  refine ⟨_, rfl, hc, ?_⟩
  have hzw6 := hc.size
  have HC := HC.tr hc
  have hrnd := hrnd.no hc
  have hb2 := hb2.ch hc (fun h => h)
  have hb3 := hb3.ch hc (fun h => h)
  have hb4 := hb4.ch hc (fun h => h)
  have hS5 := hS5.no hc
  have hS6 := hS6.no hc
  have hQ7 := hQ7.no hc
  refine ws_narrow (S' := fun x => Ch No w6 x) (Ch.refl _ _) (fun x h => hc.tr h) ?_
  refine ws_l rfl rfl (e_stW (vs := List.map u8v (shaF _)) (szL sz38 (by rw [List.length_map]; exact shaF_len _)) (oneL one_u8 _) rfl rfl hb4 (by simp only [List.size_toArray, List.length_map]; first | done | exact ((List.length_replicate ..)).trans (shaF_len _).symm) (fun w7 hb4 hc hsz => ?_))
  have hzw7 := hc.size
  have HC := HC.trans hc (fun _ _ h => h) (fun k hk ht => absurd ht (by omega))
  first | have hrnd := hrnd.ch hc (by intro k hk ht; first | omega | (dsimp only at *; omega)) | have hrnd := hrnd.chT hc (by intro k hz hk ht; first | omega | (dsimp only at *; omega))
  have hb2 := hb2.ch hc (by omega)
  have hb3 := hb3.ch hc (by omega)
  first | have hS5 := hS5.ch hc (by intro k hk ht; first | omega | (dsimp only at *; omega)) | have hS5 := hS5.chT hc (by intro k hz hk ht; first | omega | (dsimp only at *; omega))
  first | have hS6 := hS6.ch hc (by intro k hk ht; first | omega | (dsimp only at *; omega)) | have hS6 := hS6.chT hc (by intro k hz hk ht; first | omega | (dsimp only at *; omega))
  refine ws_n ?_
  refine x_seq ?_
  refine wc_ret ?_
  refine fin_run (resC (cs := List.map u8v (shaF _)) rfl rfl Tryd.underlying38 rfl (szL sz38 (by rw [List.length_map]; exact shaF_len _)) (rngL hb4)) ?_
  rw [item_of]; exact ⟨rfl, HC⟩

set_option maxHeartbeats 1000000 in
set_option maxRecDepth 20000 in
theorem tfork_any {w : World} {x : Int} {a : List UInt8} {y : List UInt8} (ha : a.length = 32) (hy : y.length = 32) (hrnd : Sl w (fun k => k = 0) u32v (some ⟨0, 0, none⟩) 64 64 rk) :
    Calls Tryd.prog 76 #[i64 x, hv a, hv y] w fun e w' => e = .returned (hv (forkH (b8i x) a y)) ∧ Ch No w w' := by
  have hn1 : 0 < w.heap.size := hrnd.size (by omega) rfl
  have HC : Ch No w w := Ch.refl _ _
  refine enter' (args := [i64 x, hv a, hv y]) (n := 14) Tryd.func76 rfl rfl rfl ?_
  refine wc_seq ?_
  refine wc_region ?_
  refine wle rfl (e_box (cs := (List.map u8v a).toArray) rfl rfl rfl (fun w1 g4 hg4 hb4 hc hsz4 => ?_))
  have hzw1 := hc.size
  have HC := HC.tr hc
  have hrnd := hrnd.no hc
  have hge4 : w.heap.size ≤ g4 := by have := HC.size; omega
  have hltg4 := hb4.lt
  refine wle rfl (e_box (cs := (List.map u8v y).toArray) rfl rfl rfl (fun w2 g5 hg5 hb5 hc hsz5 => ?_))
  have hzw2 := hc.size
  have HC := HC.tr hc
  have hrnd := hrnd.no hc
  have hb4 := hb4.ch hc (fun h => h)
  have hge5 : w.heap.size ≤ g5 := by have := HC.size; omega
  have neg4_5 : g4 < g5 := by omega
  have hltg4 := hb4.lt
  have hltg5 := hb5.lt
  refine wle rfl (e_alloc (cs := ((List.replicate 32 (0 : UInt8)).map u8v).toArray) rfl (by rfl) rfl (fun w3 g6 hg6 hb6 hc hsz6 => ?_))
  have hzw3 := hc.size
  have HC := HC.tr hc
  have hrnd := hrnd.no hc
  have hb4 := hb4.ch hc (fun h => h)
  have hb5 := hb5.ch hc (fun h => h)
  have hge6 : w.heap.size ≤ g6 := by have := HC.size; omega
  have neg4_6 : g4 < g6 := by omega
  have neg5_6 : g5 < g6 := by omega
  refine wl_nil ?_
  refine x_seq ?_
  refine wc_seq ?_
  refine wc_draw (.st 0 0 (.st 1 0 (.st 3 0 (.st 4 0 (.st 2 2 (.st 5 2 (.st 6 2 (.st 7 3 .nil)))))))) 7 (by kernel_rfl) (by kernel_rfl) (by kernel_rfl) (by repeat (first | with_reducible exact pan_body | with_reducible apply pan_then | with_reducible apply pan_in)) (fun x => Ch No w3.drew x) (Ch.refl _ _) ?_
  obtain ⟨w4, ew4⟩ : ∃ x, x = w3.drew := ⟨_, rfl⟩
  rw [← ew4]
  have hc : Ch No w3 w4 := by rw [ew4]; exact Ch.drew _
  have hszw4 : w4.heap.size = w3.heap.size := by rw [ew4]; rfl
  clear ew4
  have hzw4 := hc.size
  have HC := HC.tr hc
  have hrnd := hrnd.no hc
  have hb4 := hb4.ch hc (fun h => h)
  have hb5 := hb5.ch hc (fun h => h)
  have hb6 := hb6.ch hc (fun h => h)
  have hS : Ch No w4 w4 := Ch.refl _ _
  refine ws_p rfl rfl rfl rfl (p_mv rfl) ?_
  refine ws_p rfl rfl rfl rfl (p_conv Tryd.underlying3 Tryd.underlying5 rfl (wrap_b8i _)) ?_
  have hS10 := Sl.whole (L := a) hb4 (ha)
  refine ws_p rfl rfl rfl rfl (p_slW (N := 31) Tryd.underlying38 sz5 rfl) ?_
  have hS11 := Sl.whole (L := y) hb5 (hy)
  refine ws_p rfl rfl rfl rfl (p_slW (N := 31) Tryd.underlying38 sz5 rfl) ?_
  have hltg4 := hb4.lt
  have hltg5 := hb5.lt
  have hltg6 := hb6.lt
  refine ws_e rfl rfl (e_bslV (E := 5) rfl rfl (fun _ => by kernel_rfl) (fun w5 g9 hg9 hb9 hc hsz9 => ⟨hc, ?_⟩))
  have hzw5 := hc.size
  have HC := HC.tr hc
  have hrnd := hrnd.no hc
  have hb4 := hb4.ch hc (fun h => h)
  have hb5 := hb5.ch hc (fun h => h)
  have hb6 := hb6.ch hc (fun h => h)
  have hS10 := hS10.no hc
  have hS11 := hS11.no hc
  have hge9 : w.heap.size ≤ g9 := by have := HC.size; omega
  have hS9 := Sl.lit1 (f := u8v) hb9
  refine ws_narrow (S' := fun x => Ch No w5 x) (Ch.refl _ _) (fun x h => hc.tr h) ?_
  have hltg4 := hb4.lt
  have hltg5 := hb5.lt
  have hltg6 := hb6.lt
  refine ws_e rfl rfl (e_bslV (E := 107) rfl rfl (fun _ => by kernel_rfl) (fun w6 g12 hg12 hb12 hc hsz12 => ⟨hc, ?_⟩))
  have hzw6 := hc.size
  have HC := HC.tr hc
  have hrnd := hrnd.no hc
  have hb4 := hb4.ch hc (fun h => h)
  have hb5 := hb5.ch hc (fun h => h)
  have hb6 := hb6.ch hc (fun h => h)
  have hS10 := hS10.no hc
  have hS11 := hS11.no hc
  have hS9 := hS9.no hc
  have hge12 : w.heap.size ≤ g12 := by have := HC.size; omega
  have hQ12 := SB.lit3 hb12 (hS9) (hS10) (hS11)
  refine ws_narrow (S' := fun x => Ch No w6 x) (Ch.refl _ _) (fun x h => hc.tr h) ?_
  refine ws_e rfl rfl (e_call ent102 rfl rfl (tof_any (t := 4) (hQ12) (by omega) (by first | omega | (simp only [List.flatten_cons, List.flatten_nil, List.length_append, List.length_nil, List.length_cons]; omega)) hrnd) ?_)
  rintro _ w7 ⟨rfl, hc⟩
  refine ⟨_, rfl, hc, ?_⟩
  have hzw7 := hc.size
  have HC := HC.tr hc
  have hrnd := hrnd.no hc
  have hb4 := hb4.ch hc (fun h => h)
  have hb5 := hb5.ch hc (fun h => h)
  have hb6 := hb6.ch hc (fun h => h)
  have hS10 := hS10.no hc
  have hS11 := hS11.no hc
  have hS9 := hS9.no hc
  have hQ12 := hQ12.no hc
  refine ws_narrow (S' := fun x => Ch No w7 x) (Ch.refl _ _) (fun x h => hc.tr h) ?_
  refine ws_l rfl rfl (e_stW (vs := List.map u8v (shaF _)) (szL sz38 (by rw [List.length_map]; exact shaF_len _)) (oneL one_u8 _) rfl rfl hb6 (by simp only [List.size_toArray, List.length_map]; first | done | exact ((List.length_replicate ..)).trans (shaF_len _).symm) (fun w8 hb6 hc hsz => ?_))
  have hzw8 := hc.size
  have HC := HC.trans hc (fun _ _ h => h) (fun k hk ht => absurd ht (by omega))
  first | have hrnd := hrnd.ch hc (by intro k hk ht; first | omega | (dsimp only at *; omega)) | have hrnd := hrnd.chT hc (by intro k hz hk ht; first | omega | (dsimp only at *; omega))
  have hb4 := hb4.ch hc (by omega)
  have hb5 := hb5.ch hc (by omega)
  first | have hS10 := hS10.ch hc (by intro k hk ht; first | omega | (dsimp only at *; omega)) | have hS10 := hS10.chT hc (by intro k hz hk ht; first | omega | (dsimp only at *; omega))
  first | have hS11 := hS11.ch hc (by intro k hk ht; first | omega | (dsimp only at *; omega)) | have hS11 := hS11.chT hc (by intro k hz hk ht; first | omega | (dsimp only at *; omega))
  first | have hS9 := hS9.ch hc (by intro k hk ht; first | omega | (dsimp only at *; omega)) | have hS9 := hS9.chT hc (by intro k hz hk ht; first | omega | (dsimp only at *; omega))
  refine ws_n ?_
  refine x_seq ?_
  refine wc_ret ?_
  refine fin_run (resC (cs := List.map u8v (shaF _)) rfl rfl Tryd.underlying38 rfl (szL sz38 (by rw [List.length_map]; exact shaF_len _)) (rngL hb6)) ?_
  rw [fork_of]; exact ⟨rfl, HC⟩

set_option maxHeartbeats 1000000 in
set_option maxRecDepth 20000 in
theorem tnone_any {w : World}  (hrnd : Sl w (fun k => k = 0) u32v (some ⟨0, 0, none⟩) 64 64 rk) :
    Calls Tryd.prog 73 #[] w fun e w' => e = .returned (hv (noneH)) ∧ Ch No w w' := by
  have hn1 : 0 < w.heap.size := hrnd.size (by omega) rfl
  have HC : Ch No w w := Ch.refl _ _
  refine enter' (args := []) (n := 2) Tryd.func73 rfl rfl rfl ?_
  refine wc_seq ?_
  refine wc_region ?_
  refine wle rfl (e_alloc (cs := ((List.replicate 32 (0 : UInt8)).map u8v).toArray) rfl (by rfl) rfl (fun w1 g0 hg0 hb0 hc hsz0 => ?_))
  have hzw1 := hc.size
  have HC := HC.tr hc
  have hrnd := hrnd.no hc
  have hge0 : w.heap.size ≤ g0 := by have := HC.size; omega
  refine wl_nil ?_
  refine x_seq ?_
  refine wc_seq ?_
  refine wc_region ?_
  refine wle rfl (e_call ent102 rfl rfl (tof_any (t := 5) (SB.nil (F := No)) (by omega) (by first | omega | (simp only [List.flatten_cons, List.flatten_nil, List.length_append, List.length_nil, List.length_cons]; omega)) hrnd) ?_)
  rintro _ w2 ⟨rfl, hc⟩
  refine ⟨_, rfl, ?_⟩
  have hzw2 := hc.size
  have HC := HC.tr hc
  have hrnd := hrnd.no hc
  have hb0 := hb0.ch hc (fun h => h)
  refine wle rfl (e_stW (vs := List.map u8v (shaF _)) (szL sz38 (by rw [List.length_map]; exact shaF_len _)) (oneL one_u8 _) rfl rfl hb0 (by simp only [List.size_toArray, List.length_map]; first | done | exact ((List.length_replicate ..)).trans (shaF_len _).symm) (fun w3 hb0 hc hsz => ?_))
  have hzw3 := hc.size
  have HC := HC.trans hc (fun _ _ h => h) (fun k hk ht => absurd ht (by omega))
  first | have hrnd := hrnd.ch hc (by intro k hk ht; first | omega | (dsimp only at *; omega)) | have hrnd := hrnd.chT hc (by intro k hz hk ht; first | omega | (dsimp only at *; omega))
  refine wl_nil ?_
  refine x_seq ?_
  refine wc_ret ?_
  refine fin_run (resC (cs := List.map u8v (shaF _)) rfl rfl Tryd.underlying38 rfl (szL sz38 (by rw [List.length_map]; exact shaF_len _)) (rngL hb0)) ?_
  rw [none_of_]; exact ⟨rfl, HC⟩

set_option maxHeartbeats 1000000 in
set_option maxRecDepth 20000 in
theorem rtof_any {w : World} {t : UInt8} {Aq : Option Addr} {lq cq : Nat} {Fq : Nat → Prop} {q : List (List UInt8)} (hq : SB w Fq Aq lq cq q) (hn : lq ≤ 1099511627000) (hl : q.flatten.length ≤ 1099511627000) :
    Calls Tryd.prog 96 #[u8v t, .slice Aq lq cq] w fun e w' => e = .returned (hv (shaF ([t] ++ q.flatten))) ∧ Ch No w w' := by
  have hq := hq.old
  have HC : Ch No w w := Ch.refl _ _
  refine enter' (args := [u8v t, .slice Aq lq cq]) (n := 9) Tryd.func96 rfl rfl rfl ?_
  refine wc_seq ?_
  refine wc_region ?_
  refine wle rfl (e_alloc (cs := ((List.replicate 32 (0 : UInt8)).map u8v).toArray) rfl (by rfl) rfl (fun w1 g4 hg4 hb4 hc hsz4 => ?_))
  have hzw1 := hc.size
  have HC := HC.tr hc
  have hq := hq.no hc
  have hge4 : w.heap.size ≤ g4 := by have := HC.size; omega
  refine wl_nil ?_
  refine x_seq ?_
  refine wc_seq ?_
  refine wc_region ?_
  refine wl rfl rfl rfl (p_mv rfl) ?_
  refine wl rfl rfl rfl (p_mv rfl) ?_
  refine wle rfl (e_call ent114 rfl rfl (rtbytes_any (hq) (by omega) (by first | omega | (simp only [List.flatten_cons, List.flatten_nil, List.length_append, List.length_nil, List.length_cons]; omega))) ?_)
  rintro _ w2 ⟨A7, c7, rfl, hW7, hc⟩
  refine ⟨_, rfl, ?_⟩
  have hzw2 := hc.size
  have HC := HC.tr hc
  have hq := hq.no hc
  have hb4 := hb4.ch hc (fun h => h)
  refine wle rfl (e_call ent113 rfl rfl (rsum_any (hW7.sl) (by first | omega | (simp only [List.flatten_cons, List.flatten_nil, List.length_append, List.length_nil, List.length_cons]; omega))) ?_)
  rintro _ w3 ⟨rfl, hc⟩
  refine ⟨_, rfl, ?_⟩
  have hzw3 := hc.size
  have HC := HC.tr hc
  have hq := hq.no hc
  have hb4 := hb4.ch hc (fun h => h)
  have hW7 := hW7.after hc
  refine wle rfl (e_stW (vs := List.map u8v (shaF _)) (szL sz38 (by rw [List.length_map]; exact shaF_len _)) (oneL one_u8 _) rfl rfl hb4 (by simp only [List.size_toArray, List.length_map]; first | done | exact ((List.length_replicate ..)).trans (shaF_len _).symm) (fun w4 hb4 hc hsz => ?_))
  have hzw4 := hc.size
  have HC := HC.trans hc (fun _ _ h => h) (fun k hk ht => absurd ht (by omega))
  first | have hq := hq.ch hc (by intro k hk ht; first | omega | (dsimp only at *; omega)) | have hq := hq.chT hc (by intro k hz hk ht; first | omega | (dsimp only at *; omega))
  have hW7 := hW7.ch hc (by intro k hz hk ht; first | omega | (dsimp only at *; omega))
  refine wl_nil ?_
  refine x_seq ?_
  refine wc_ret ?_
  refine fin_run (resC (cs := List.map u8v (shaF _)) rfl rfl Tryd.underlying38 rfl (szL sz38 (by rw [List.length_map]; exact shaF_len _)) (rngL hb4)) ?_
  exact ⟨rfl, HC⟩

set_option maxHeartbeats 1000000 in
set_option maxRecDepth 20000 in
theorem rtnone_any {w : World}   :
    Calls Tryd.prog 67 #[] w fun e w' => e = .returned (hv (noneH)) ∧ Ch No w w' := by
  have HC : Ch No w w := Ch.refl _ _
  refine enter' (args := []) (n := 2) Tryd.func67 rfl rfl rfl ?_
  refine wc_seq ?_
  refine wc_region ?_
  refine wle rfl (e_alloc (cs := ((List.replicate 32 (0 : UInt8)).map u8v).toArray) rfl (by rfl) rfl (fun w1 g0 hg0 hb0 hc hsz0 => ?_))
  have hzw1 := hc.size
  have HC := HC.tr hc
  have hge0 : w.heap.size ≤ g0 := by have := HC.size; omega
  refine wl_nil ?_
  refine x_seq ?_
  refine wc_seq ?_
  refine wc_region ?_
  refine wle rfl (e_call ent96 rfl rfl (rtof_any (t := 5) (SB.nil (F := No)) (by omega) (by first | omega | (simp only [List.flatten_cons, List.flatten_nil, List.length_append, List.length_nil, List.length_cons]; omega))) ?_)
  rintro _ w2 ⟨rfl, hc⟩
  refine ⟨_, rfl, ?_⟩
  have hzw2 := hc.size
  have HC := HC.tr hc
  have hb0 := hb0.ch hc (fun h => h)
  refine wle rfl (e_stW (vs := List.map u8v (shaF _)) (szL sz38 (by rw [List.length_map]; exact shaF_len _)) (oneL one_u8 _) rfl rfl hb0 (by simp only [List.size_toArray, List.length_map]; first | done | exact ((List.length_replicate ..)).trans (shaF_len _).symm) (fun w3 hb0 hc hsz => ?_))
  have hzw3 := hc.size
  have HC := HC.trans hc (fun _ _ h => h) (fun k hk ht => absurd ht (by omega))
  refine wl_nil ?_
  refine x_seq ?_
  refine wc_ret ?_
  refine fin_run (resC (cs := List.map u8v (shaF _)) rfl rfl Tryd.underlying38 rfl (szL sz38 (by rw [List.length_map]; exact shaF_len _)) (rngL hb0)) ?_
  rw [none_of_]; exact ⟨rfl, HC⟩

theorem bitS {w : World} {k : List UInt8} {n : Nat} (hk : k.length = 32) : Calls Tryd.prog 38 #[hv k, i64 (n : Int)] w fun e w' => ∃ s : Nat, e = .returned (i64 (s : Int)) ∧ bitN k n = s ∧ s < 2 ∧ Ch No w w' :=
  (bit_any hk).mono fun e w' ⟨h1, h2⟩ => ⟨bitN k n, by rw [h1, bitI_nat], rfl, bitN_lt _ _, h2⟩

set_option maxHeartbeats 1000000 in
set_option maxRecDepth 20000 in
theorem item_any {w : World}  {k : List UInt8} {u : List UInt8} (hk : k.length = 32) (hu : u.length = 32) :
    Calls Tryd.prog 105 #[hv k, hv u] w fun e w' => ∃ g, e = .returned (ndp g) ∧ LF 156 (fun j => w.heap.size ≤ j) w' (.leaf g k u) ∧ Ch No w w' := by
  have HC : Ch No w w := Ch.refl _ _
  refine enter' (args := [hv k, hv u]) (n := 9) Tryd.func105 rfl rfl rfl ?_
  refine wc_seq ?_
  refine wc_region ?_
  refine wle rfl (e_box (cs := (List.map u8v k).toArray) rfl rfl rfl (fun w1 g2 hg2 hb2 hc hsz2 => ?_))
  have hzw1 := hc.size
  have HC := HC.tr hc
  have hge2 : w.heap.size ≤ g2 := by have := HC.size; omega
  have hltg2 := hb2.lt
  refine wle rfl (e_box (cs := (List.map u8v u).toArray) rfl rfl rfl (fun w2 g3 hg3 hb3 hc hsz3 => ?_))
  have hzw2 := hc.size
  have HC := HC.tr hc
  have hb2 := hb2.ch hc (fun h => h)
  have hge3 : w.heap.size ≤ g3 := by have := HC.size; omega
  have neg2_3 : g2 < g3 := by omega
  refine wl rfl rfl rfl (p_as rfl) ?_
  refine wl_nil ?_
  refine x_seq ?_
  refine wc_seq ?_
  refine wc_region ?_
  refine wl rfl rfl rfl (p_ldA (cs := List.map u8v k) Tryd.underlying38 rfl (szL sz38 (by rw [List.length_map]; exact hk)) rfl (fun _ e => e ▸ rngL hb2)) ?_
  refine wl rfl rfl rfl (p_ldA (cs := List.map u8v u) Tryd.underlying38 rfl (szL sz38 (by rw [List.length_map]; exact hu)) rfl (fun _ e => e ▸ rngL hb3)) ?_
  refine wl rfl rfl rfl (p_bldX (vs' := [.int .i64 (256), (.agg ((hx k) : List Value).toArray), (.agg ((hx u) : List Value).toArray), .int .i64 (1)]) (cs := (([.int .i64 (256), Value.pointer none, Value.pointer none] ++ ((List.map u8v k) ++ ((List.map u8v u) ++ ([.int .i64 (1), Value.int .u32 0, Value.int .i32 0, Value.int .u32 0] ++ (List.map u8v (List.replicate 32 (0 : UInt8))))))) : List Value)) (cs' := (([.int .i64 (256), Value.pointer none, Value.pointer none] ++ ((hx k) ++ ((hx u) ++ ([.int .i64 (1), Value.int .u32 0, Value.int .i32 0, Value.int .u32 0] ++ (hx (List.replicate 32 (0 : UInt8))))))) : List Value)) rfl (by simp only [hv, map_hx (List.length_replicate ..), map_hx hk, map_hx hu] <;> rfl) (by simp only [hv, map_hx (List.length_replicate ..), map_hx hk, map_hx hu] <;> rfl) (fun _ => by kernel_rfl)) ?_
  have hltg2 := hb2.lt
  have hltg3 := hb3.lt
  refine wle rfl (e_box (cs := (([.int .i64 (256), Value.pointer none, Value.pointer none] ++ ((List.map u8v k) ++ ((List.map u8v u) ++ ([.int .i64 (1), Value.int .u32 0, Value.int .i32 0, Value.int .u32 0] ++ (List.map u8v (List.replicate 32 (0 : UInt8))))))) : List Value).toArray) rfl rfl rfl (fun w3 g8 hg8 hb8 hc hsz8 => ?_))
  have hzw3 := hc.size
  have HC := HC.tr hc
  have hb2 := hb2.ch hc (fun h => h)
  have hb3 := hb3.ch hc (fun h => h)
  have hge8 : w.heap.size ≤ g8 := by have := HC.size; omega
  have neg2_8 : g2 < g8 := by omega
  have neg3_8 : g3 < g8 := by omega
  refine wl rfl rfl rfl (p_as rfl) ?_
  refine wl_nil ?_
  refine x_seq ?_
  refine wc_ret ?_
  refine fin_run ((res1 rfl rfl)) ?_
  exact ⟨g8, rfl, ⟨LAt.of_leaf hk hu hb8, fun a ha => by simp only [LT.ads, List.mem_singleton] at ha; omega⟩, HC⟩

set_option maxHeartbeats 1000000 in
set_option maxRecDepth 20000 in
theorem fork_any {w : World}  {b : Nat} {x y : LT} (hXx : LAt 156 w x) (hXy : LAt 156 w y) (hbl : b < 256) (hcn : x.er.cnt + y.er.cnt ≤ 4611686018427387904) :
    Calls Tryd.prog 106 #[i64 (b : Int), .agg #[ndp x.adr, ndp y.adr]] w fun e w' => ∃ g, e = .returned (ndp g) ∧ LF 156 (fun j => j ∈ x.ads ∨ j ∈ y.ads ∨ w.heap.size ≤ j) w' (.fork g b x y) ∧ Ch No w w' := by
  obtain ⟨gx, px, qx, vx, dx, exh, egx, hvx, hhx, hkx, hbbx, hccx, hbx⟩ := hXx.top
  have hltgx := hbx.lt
  obtain ⟨gy, py, qy, vy, dy, eyh, egy, hvy, hhy, hky, hbby, hccy, hby⟩ := hXy.top
  have hltgy := hby.lt
  have hbx : Blk w gx 156 (([i64 (x.er.bit : Int), px, qx] ++ ((List.map u8v x.er.key) ++ ((List.map u8v vx) ++ ([i64 (x.er.cnt : Int), .int .u32 (dx : Int), .int .i32 0, .int .u32 0] ++ (List.map u8v exh))))) : List Value).toArray := hbx
  have hby : Blk w gy 156 (([i64 (y.er.bit : Int), py, qy] ++ ((List.map u8v y.er.key) ++ ((List.map u8v vy) ++ ([i64 (y.er.cnt : Int), .int .u32 (dy : Int), .int .i32 0, .int .u32 0] ++ (List.map u8v eyh))))) : List Value).toArray := hby
  rw [← egx, ← egy]
  have HC : Ch No w w := Ch.refl _ _
  refine enter' (args := [i64 (b : Int), .agg #[ndp gx, ndp gy]]) (n := 25) Tryd.func106 rfl rfl rfl ?_
  refine wc_seq ?_
  refine wc_region ?_
  have hltgx := hbx.lt
  have hltgy := hby.lt
  refine wle rfl (e_box (cs := ([ndp gx, ndp gy] : List Value).toArray) rfl rfl rfl (fun w1 g3 hg3 hb3 hc hsz3 => ?_))
  have hzw1 := hc.size
  have HC := HC.tr hc
  have hbx := hbx.ch hc (fun h => h)
  have hby := hby.ch hc (fun h => h)
  first | have hXx := hXx.no hc | have hXx := hXx.ch hc (by intro k1 hk1 hF1 ht1; first | omega | (have hq1 := hXx _ hF1; omega) | (rcases hF1 with hF1 | hF1 <;> first | omega | (have hq1 := hXx _ hF1; omega)))
  first | have hXy := hXy.no hc | have hXy := hXy.ch hc (by intro k1 hk1 hF1 ht1; first | omega | (have hq1 := hXy _ hF1; omega) | (rcases hF1 with hF1 | hF1 <;> first | omega | (have hq1 := hXy _ hF1; omega)))
  have hge3 : w.heap.size ≤ g3 := by have := HC.size; omega
  have negx_3 : gx < g3 := by omega
  have negy_3 : gy < g3 := by omega
  refine wl rfl rfl rfl (p_as rfl) ?_
  refine wl_nil ?_
  refine x_seq ?_
  refine wc_seq ?_
  refine wc_draw (.st 0 0 (.st 1 1 (.st 2 0 (.st 3 1 (.st 4 0 (.st 5 0 (.st 6 1 (.st 7 0 (.st 8 1 (.st 9 0 (.st 10 0 (.st 11 1 (.st 12 0 (.st 13 1 (.st 14 0 (.st 15 0 (.st 16 1 (.st 17 0 (.st 18 0 (.st 19 2 (.st 20 0 .nil))))))))))))))))))))) 21 (by kernel_rfl) (by kernel_rfl) (by kernel_rfl) (by repeat (first | with_reducible exact pan_body | with_reducible apply pan_then | with_reducible apply pan_in)) (fun x => Ch No w1.drew x) (Ch.refl _ _) ?_
  obtain ⟨w2, ew2⟩ : ∃ x, x = w1.drew := ⟨_, rfl⟩
  rw [← ew2]
  have hc : Ch No w1 w2 := by rw [ew2]; exact Ch.drew _
  have hszw2 : w2.heap.size = w1.heap.size := by rw [ew2]; rfl
  clear ew2
  have hzw2 := hc.size
  have HC := HC.tr hc
  have hbx := hbx.ch hc (fun h => h)
  have hby := hby.ch hc (fun h => h)
  first | have hXx := hXx.no hc | have hXx := hXx.ch hc (by intro k1 hk1 hF1 ht1; first | omega | (have hq1 := hXx _ hF1; omega) | (rcases hF1 with hF1 | hF1 <;> first | omega | (have hq1 := hXx _ hF1; omega)))
  first | have hXy := hXy.no hc | have hXy := hXy.ch hc (by intro k1 hk1 hF1 ht1; first | omega | (have hq1 := hXy _ hF1; omega) | (rcases hF1 with hF1 | hF1 <;> first | omega | (have hq1 := hXy _ hF1; omega)))
  have hb3 := hb3.ch hc (fun h => h)
  have hS : Ch No w2 w2 := Ch.refl _ _
  refine ws_p rfl rfl rfl rfl (p_mv rfl) ?_
  refine ws_h rfl rfl rfl rfl (p_ldA (cs := ([ndp gx, ndp gy] : List Value)) Tryd.underlying142 rfl (szL sz142 (by first | rfl | (simp only [List.length_append, List.length_map, List.length_cons, List.length_nil]; done) | (simp only [List.length_append, List.length_map, List.length_cons, List.length_nil, List.size_toArray]; done))) rfl (fun _ h => (rngL (hb3.ch h (fun h => h))))) ?_
  refine ws_p rfl rfl rfl rfl (p_ixA (j := 0) Tryd.underlying142 sz39 rfl rfl (by omega) (by omega) rfl) ?_
  refine ws_h rfl rfl rfl rfl (p_ld Tryd.underlying39 rfl rfl (fun _ h => h.cell (fun h => h) (cell_at (p := []) (v := (ndp gx : Value)) (r := ([ndp gy] : List Value)) hb3 (by simp only [List.append_assoc, List.cons_append, List.nil_append, List.append_nil]) (by first | rfl | (simp only [List.length_append, List.length_map, List.length_cons, List.length_nil]; done) | (simp only [List.length_append, List.length_map, List.length_cons, List.length_nil, List.size_toArray]; done))))) ?_
  refine ws_p rfl rfl rfl rfl (p_nck rfl) ?_
  refine ws_p rfl rfl rfl rfl (p_fld (j := 3) Tryd.underlying156 rfl ⟨_, by rfl⟩ rfl rfl) ?_
  refine ws_h rfl rfl rfl rfl (p_ldA (cs := (List.map u8v x.er.key)) Tryd.underlying38 rfl (szL sz38 (by first | rfl | (simp only [List.length_append, List.length_map, List.length_cons, List.length_nil, (show List.length x.er.key = 32 from hkx)]; done) | (simp only [List.length_append, List.length_map, List.length_cons, List.length_nil, List.size_toArray, (show List.length x.er.key = 32 from hkx)]; done))) rfl (fun _ h => rng_at (p := ([i64 (x.er.bit : Int), px, qx] : List Value)) (q := ((List.map u8v x.er.key) : List Value)) (r := (((List.map u8v vx) ++ ([i64 (x.er.cnt : Int), .int .u32 (dx : Int), .int .i32 0, .int .u32 0] ++ (List.map u8v exh))) : List Value)) (hbx.ch h (fun h => h)) (by simp only [List.append_assoc, List.cons_append, List.nil_append, List.append_nil]) (by first | rfl | (simp only [List.length_append, List.length_map, List.length_cons, List.length_nil]; done) | (simp only [List.length_append, List.length_map, List.length_cons, List.length_nil, List.size_toArray]; done)))) ?_
  refine ws_p rfl rfl rfl rfl (p_ixA (j := 0) Tryd.underlying142 sz39 rfl rfl (by omega) (by omega) rfl) ?_
  refine ws_h rfl rfl rfl rfl (p_ld Tryd.underlying39 rfl rfl (fun _ h => h.cell (fun h => h) (cell_at (p := []) (v := (ndp gx : Value)) (r := ([ndp gy] : List Value)) hb3 (by simp only [List.append_assoc, List.cons_append, List.nil_append, List.append_nil]) (by first | rfl | (simp only [List.length_append, List.length_map, List.length_cons, List.length_nil]; done) | (simp only [List.length_append, List.length_map, List.length_cons, List.length_nil, List.size_toArray]; done))))) ?_
  refine ws_p rfl rfl rfl rfl (p_nck rfl) ?_
  refine ws_p rfl rfl rfl rfl (p_fld (j := 67) Tryd.underlying156 rfl ⟨_, by rfl⟩ rfl rfl) ?_
  refine ws_h rfl rfl rfl rfl (p_ld Tryd.underlying3 rfl rfl (fun _ h => h.cell (fun h => h) (cell_at (p := (([i64 (x.er.bit : Int), px, qx] ++ ((List.map u8v x.er.key) ++ (List.map u8v vx))) : List Value)) (v := (i64 (x.er.cnt : Int) : Value)) (r := (([.int .u32 (dx : Int), .int .i32 0, .int .u32 0] ++ (List.map u8v exh)) : List Value)) hbx (by simp only [List.append_assoc, List.cons_append, List.nil_append, List.append_nil]) (by first | rfl | (simp only [List.length_append, List.length_map, List.length_cons, List.length_nil, (show List.length x.er.key = 32 from hkx), (show List.length vx = 32 from hvx)]; done) | (simp only [List.length_append, List.length_map, List.length_cons, List.length_nil, List.size_toArray, (show List.length x.er.key = 32 from hkx), (show List.length vx = 32 from hvx)]; done))))) ?_
  refine ws_p rfl rfl rfl rfl (p_ixA (j := 1) Tryd.underlying142 sz39 rfl rfl (by omega) (by omega) rfl) ?_
  refine ws_h rfl rfl rfl rfl (p_ld Tryd.underlying39 rfl rfl (fun _ h => h.cell (fun h => h) (cell_at (p := ([ndp gx] : List Value)) (v := (ndp gy : Value)) (r := []) hb3 (by simp only [List.append_assoc, List.cons_append, List.nil_append, List.append_nil]) (by first | rfl | (simp only [List.length_append, List.length_map, List.length_cons, List.length_nil]; done) | (simp only [List.length_append, List.length_map, List.length_cons, List.length_nil, List.size_toArray]; done))))) ?_
  refine ws_p rfl rfl rfl rfl (p_nck rfl) ?_
  refine ws_p rfl rfl rfl rfl (p_fld (j := 67) Tryd.underlying156 rfl ⟨_, by rfl⟩ rfl rfl) ?_
  refine ws_h rfl rfl rfl rfl (p_ld Tryd.underlying3 rfl rfl (fun _ h => h.cell (fun h => h) (cell_at (p := (([i64 (y.er.bit : Int), py, qy] ++ ((List.map u8v y.er.key) ++ (List.map u8v vy))) : List Value)) (v := (i64 (y.er.cnt : Int) : Value)) (r := (([.int .u32 (dy : Int), .int .i32 0, .int .u32 0] ++ (List.map u8v eyh)) : List Value)) hby (by simp only [List.append_assoc, List.cons_append, List.nil_append, List.append_nil]) (by first | rfl | (simp only [List.length_append, List.length_map, List.length_cons, List.length_nil, (show List.length y.er.key = 32 from hky), (show List.length vy = 32 from hvy)]; done) | (simp only [List.length_append, List.length_map, List.length_cons, List.length_nil, List.size_toArray, (show List.length y.er.key = 32 from hky), (show List.length vy = 32 from hvy)]; done))))) ?_
  refine ws_p rfl rfl rfl rfl (p_add (Z := ((x.er.cnt + y.er.cnt : Nat) : Int)) rfl rfl (by rw [w64 (by omega)]; omega)) ?_
  refine ws_p rfl rfl rfl rfl (p_bldX (vs' := [i64 (b : Int), (.agg ([ndp gx, ndp gy] : List Value).toArray), (.agg ((hx x.er.key) : List Value).toArray), i64 ((x.er.cnt + y.er.cnt : Nat) : Int)]) (cs := (([i64 (b : Int), ndp gx, ndp gy] ++ ((List.map u8v x.er.key) ++ ((List.map u8v (List.replicate 32 (0 : UInt8))) ++ ([i64 ((x.er.cnt + y.er.cnt : Nat) : Int), Value.int .u32 0, Value.int .i32 0, Value.int .u32 0] ++ (List.map u8v (List.replicate 32 (0 : UInt8))))))) : List Value)) (cs' := (([i64 (b : Int), ndp gx, ndp gy] ++ ((hx x.er.key) ++ ((hx (List.replicate 32 (0 : UInt8))) ++ ([i64 ((x.er.cnt + y.er.cnt : Nat) : Int), Value.int .u32 0, Value.int .i32 0, Value.int .u32 0] ++ (hx (List.replicate 32 (0 : UInt8))))))) : List Value)) rfl (by simp only [hv, map_hx (List.length_replicate ..), map_hx hkx] <;> rfl) (by simp only [hv, map_hx (List.length_replicate ..), map_hx hkx] <;> rfl) (fun _ => by kernel_rfl)) ?_
  have hltgx := hbx.lt
  have hltgy := hby.lt
  have hltg3 := hb3.lt
  refine ws_e rfl rfl (e_box (cs := (([i64 (b : Int), ndp gx, ndp gy] ++ ((List.map u8v x.er.key) ++ ((List.map u8v (List.replicate 32 (0 : UInt8))) ++ ([i64 ((x.er.cnt + y.er.cnt : Nat) : Int), Value.int .u32 0, Value.int .i32 0, Value.int .u32 0] ++ (List.map u8v (List.replicate 32 (0 : UInt8))))))) : List Value).toArray) rfl rfl rfl (fun w6 g24 hg24 hb24 hc hsz24 => ⟨hc, ?_⟩))
  have hzw6 := hc.size
  have HC := HC.tr hc
  have hbx := hbx.ch hc (fun h => h)
  have hby := hby.ch hc (fun h => h)
  first | have hXx := hXx.no hc | have hXx := hXx.ch hc (by intro k1 hk1 hF1 ht1; first | omega | (have hq1 := hXx _ hF1; omega) | (rcases hF1 with hF1 | hF1 <;> first | omega | (have hq1 := hXx _ hF1; omega)))
  first | have hXy := hXy.no hc | have hXy := hXy.ch hc (by intro k1 hk1 hF1 ht1; first | omega | (have hq1 := hXy _ hF1; omega) | (rcases hF1 with hF1 | hF1 <;> first | omega | (have hq1 := hXy _ hF1; omega)))
  have hb3 := hb3.ch hc (fun h => h)
  have hge24 : w.heap.size ≤ g24 := by have := HC.size; omega
  have negx_24 : gx < g24 := by omega
  have negy_24 : gy < g24 := by omega
  have neg3_24 : g3 < g24 := by omega
  refine ws_narrow (S' := fun x => Ch No w6 x) (Ch.refl _ _) (fun x h => hc.tr h) ?_
  refine ws_p rfl rfl rfl rfl (p_as rfl) ?_
  refine ws_n ?_
  refine x_seq ?_
  refine wc_ret ?_
  refine fin_run ((res1 rfl rfl)) ?_
  exact ⟨g24, rfl, ⟨LAt.of_fork hbl hcn hXx hXy (by rw [← egx, ← egy]; exact hb24), fun a ha => by simp only [LT.ads, List.mem_cons, List.mem_append] at ha; rcases ha with rfl | ha | ha; exact .inr (.inr (by omega)); exact .inl ha; exact .inr (.inl ha)⟩, HC⟩

theorem fork_at {w : World} {b : Nat} {x y : LT} {gx gy : Nat} (hXx : LAt 156 w x) (hXy : LAt 156 w y) (ex : x.adr = gx) (ey : y.adr = gy) (hbl : b < 256) (hcn : x.er.cnt + y.er.cnt ≤ 4611686018427387904) : Calls Tryd.prog 106 #[i64 (b : Int), .agg #[ndp gx, ndp gy]] w fun e w' => ∃ g, e = .returned (ndp g) ∧ LF 156 (fun j => j ∈ x.ads ∨ j ∈ y.ads ∨ w.heap.size ≤ j) w' (.fork g b x y) ∧ Ch No w w' := by
  subst ex; subst ey; exact fork_any hXx hXy hbl hcn

set_option maxHeartbeats 1000000 in
set_option maxRecDepth 20000 in
theorem put_nil0 {w : World}  {k : List UInt8} {u : List UInt8} (hk : k.length = 32) (hu : u.length = 32) :
    Calls Tryd.prog 83 #[.pointer none, hv k, hv u] w fun e w' => ∃ g, e = .returned (ndp g) ∧ LF 156 (fun j => w.heap.size ≤ j) w' (.leaf g k u) ∧ Ch No w w' := by
  have HC : Ch No w w := Ch.refl _ _
  refine enter' (args := [.pointer none, hv k, hv u]) (n := 76) Tryd.func83 rfl rfl rfl ?_
  refine wc_seq ?_
  refine wc_region ?_
  refine wle rfl (e_box (cs := (List.map u8v k).toArray) rfl rfl rfl (fun w1 g4 hg4 hb4 hc hsz4 => ?_))
  have hzw1 := hc.size
  have HC := HC.tr hc
  have hge4 : w.heap.size ≤ g4 := by have := HC.size; omega
  have hltg4 := hb4.lt
  refine wle rfl (e_box (cs := (List.map u8v u).toArray) rfl rfl rfl (fun w2 g5 hg5 hb5 hc hsz5 => ?_))
  have hzw2 := hc.size
  have HC := HC.tr hc
  have hb4 := hb4.ch hc (fun h => h)
  have hge5 : w.heap.size ≤ g5 := by have := HC.size; omega
  have neg4_5 : g4 < g5 := by omega
  refine wl rfl rfl rfl (p_as rfl) ?_
  refine wl_nil ?_
  refine x_seq ?_
  refine wc_seq ?_
  refine wc_seq ?_
  refine wc_region ?_
  refine wl rfl rfl rfl (p_mv rfl) ?_
  refine wl rfl rfl rfl (p_eqPN rfl rfl Tryd.underlying39) ?_
  refine wl_nil ?_
  refine x_seq ?_
  refine wc_yes rfl (rfl) ?_
  refine wc_seq ?_
  refine wc_region ?_
  refine wl rfl rfl rfl (p_ldA (cs := List.map u8v k) Tryd.underlying38 rfl (szL sz38 (by rw [List.length_map]; exact hk)) rfl (fun _ e => e ▸ rngL hb4)) ?_
  refine wl rfl rfl rfl (p_ldA (cs := List.map u8v u) Tryd.underlying38 rfl (szL sz38 (by rw [List.length_map]; exact hu)) rfl (fun _ e => e ▸ rngL hb5)) ?_
  refine wle rfl (e_call ent105 rfl rfl (item_any (hk) (hu)) ?_)
  rintro _ w3 ⟨g16, rfl, hL16, hc⟩
  refine ⟨_, rfl, ?_⟩
  have hzw3 := hc.size
  have HC := HC.tr hc
  have hb4 := hb4.ch hc (fun h => h)
  have hb5 := hb5.ch hc (fun h => h)
  have hgl16 := hL16.1.lt _ (LT.adr_mem _)
  refine wl rfl rfl rfl (p_as rfl) ?_
  refine wl_nil ?_
  refine x_seq ?_
  refine wc_ret ?_
  refine x_then_ret ?_
  refine fin_run ((res1 rfl rfl)) ?_
  exact ⟨g16, rfl, hL16.mono (fun j _ h => by omega), HC⟩

def PutOK (x : LT) : Prop := ∀ {w : World} {k u : List UInt8}, LAt 156 w x → k.length = 32 → u.length = 32 → x.er.cnt + 1 ≤ 4611686018427387904 → Calls Tryd.prog 83 #[ndp x.adr, hv k, hv u] w fun e w' => ∃ t : LT, e = .returned (ndp t.adr) ∧ t.er = x.er.put k u ∧ LF 156 (fun j => j ∈ x.ads ∨ w.heap.size ≤ j) w' t ∧ Ch No w w'

theorem put_nil {w : World} {k u : List UInt8} (hk : k.length = 32) (hu : u.length = 32) : Calls Tryd.prog 83 #[.pointer none, hv k, hv u] w fun e w' => ∃ g, e = .returned (ndp g) ∧ LF 156 (fun j => w.heap.size ≤ j) w' (.leaf g k u) ∧ Ch No w w' := put_nil0 hk hu

def RootOK (t : LT) : Prop := ∀ {w : World}, LAt 156 w t → Sl w (fun k => k = 0) u32v (some ⟨0, 0, none⟩) 64 64 rk → Calls Tryd.prog 85 #[ndp t.adr] w fun e w' => e = .returned (hv t.er.root) ∧ LAt 156 w' t ∧ Ch (fun k => k ∈ t.ads) w w'

def OnceP (t : LT) (c : Nat) (w : World) : Prop := Calls Tryd.prog 107 #[.pointer (some ⟨t.adr, 68, none⟩), .func (.func 108) #[] #[.pointer (some ⟨c, 0, none⟩)]] w fun e w' => e = .returned (.tuple #[]) ∧ LAt 156 w' t ∧ (∃ p q v, v.length = 32 ∧ Blk w' t.adr 156 (nodeC t.er.bit p q t.er.key v t.er.cnt 1 0 t.er.root).toArray) ∧ Ch (fun k => k ∈ t.ads) w w'

set_option maxHeartbeats 1000000 in
set_option maxRecDepth 20000 in
theorem rootc_leaf {w : World} {c g0 : Nat} {k v h0 : List UInt8} (hk : k.length = 32) (hv0 : v.length = 32) (hh0 : h0.length = 32) (hb0 : Blk w g0 156 (nodeC 256 (.pointer none) (.pointer none) k v 1 0 1 h0).toArray) (hbc : Blk w c 39 #[ndp g0]) (hrnd : Sl w (fun k => k = 0) u32v (some ⟨0, 0, none⟩) 64 64 rk) :
    Calls Tryd.prog 108 #[.pointer (some ⟨c, 0, none⟩)] w fun e w' => e = .returned (.tuple #[]) ∧ Blk w' g0 156 (nodeC 256 (.pointer none) (.pointer none) k v 1 0 1 (itemH k v)).toArray ∧ Ch (fun k => k = g0) w w' := by
  have hb0 : Blk w g0 156 (([i64 ((256 : Nat) : Int), .pointer none, .pointer none] ++ ((List.map u8v k) ++ ((List.map u8v v) ++ ([i64 ((1 : Nat) : Int), .int .u32 ((0 : Nat) : Int), .int .i32 ((1 : Nat) : Int), .int .u32 0] ++ (List.map u8v h0))))) : List Value).toArray := hb0
  have hltg0 := hb0.lt
  have hltc := hbc.lt
  have hn0 : 0 < w.heap.size := hrnd.size (by omega) rfl
  have hn1 := hn0
  have hcg : c ≠ g0 := fun e => by subst e; have := hbc.symm.trans hb0; injection this with this; injection this with _ this; exact absurd this (by decide)
  have h0g : (0 : Nat) ≠ g0 := fun e => by subst e; obtain ⟨b, o, hA, _, hcc⟩ := hrnd.opn (d := 0#32) (by omega); cases hA; have h1 := hcc 0 (by omega); rw [hb0.cell (i := 0) rfl] at h1; injection h1 with h1; unfold u32v i64 at h1; injection h1 with h1; cases h1
  have HC : Ch (fun k => k = g0) w w := Ch.refl _ _
  refine enter' (args := [.pointer (some ⟨c, 0, none⟩)]) (n := 38) Tryd.func108 rfl rfl rfl ?_
  refine wc_seq ?_
  refine wc_region ?_
  refine wl rfl rfl rfl (p_ld Tryd.underlying39 rfl rfl (ld (hbc.cell rfl))) ?_
  refine wl rfl rfl rfl (p_nck rfl) ?_
  refine wl rfl rfl rfl (p_fld (j := 0) Tryd.underlying156 rfl ⟨_, by rfl⟩ rfl rfl) ?_
  refine wl rfl rfl rfl (p_ld Tryd.underlying3 rfl rfl (ld (cell_at (p := []) (v := (i64 ((256 : Nat) : Int) : Value)) (r := (([.pointer none, .pointer none] ++ ((List.map u8v k) ++ ((List.map u8v v) ++ ([i64 ((1 : Nat) : Int), .int .u32 ((0 : Nat) : Int), .int .i32 ((1 : Nat) : Int), .int .u32 0] ++ (List.map u8v h0))))) : List Value)) hb0 (by simp only [List.append_assoc, List.cons_append, List.nil_append, List.append_nil]) (by first | rfl | (simp only [List.length_append, List.length_map, List.length_cons, List.length_nil]; done) | (simp only [List.length_append, List.length_map, List.length_cons, List.length_nil, List.size_toArray]; done))))) ?_
  refine wl rfl rfl rfl (p_eq rfl rfl) ?_
  refine wl_nil ?_
  refine x_seq ?_
  refine wc_yes rfl (rfl) ?_
  refine wc_draw (.st 0 1 (.st 1 1 (.st 2 0 (.st 3 0 (.st 4 1 (.st 5 1 (.st 6 0 (.st 7 0 (.st 8 1 (.st 9 2 (.st 10 0 (.st 11 0 (.st 12 3 .nil))))))))))))) 12 (by kernel_rfl) (by kernel_rfl) (by kernel_rfl) (by repeat (first | with_reducible exact pan_body | with_reducible apply pan_then | with_reducible apply pan_in)) (fun x => Ch No w.drew x) (Ch.refl _ _) ?_
  obtain ⟨w1, ew1⟩ : ∃ x, x = w.drew := ⟨_, rfl⟩
  rw [← ew1]
  have hc : Ch No w w1 := by rw [ew1]; exact Ch.drew _
  have hszw1 : w1.heap.size = w.heap.size := by rw [ew1]; rfl
  clear ew1
  have hzw1 := hc.size
  have HC := HC.tr hc
  have hbc := hbc.ch hc (fun h => h)
  have hb0 := hb0.ch hc (fun h => h)
  have hrnd := hrnd.no hc
  have hS : Ch No w1 w1 := Ch.refl _ _
  refine ws_h rfl rfl rfl rfl (p_ld Tryd.underlying39 rfl rfl (fun _ h => h.cell (fun h => h) (hbc.cell rfl))) ?_
  refine ws_h rfl rfl rfl rfl (p_ld Tryd.underlying39 rfl rfl (fun _ h => h.cell (fun h => h) (hbc.cell rfl))) ?_
  refine ws_p rfl rfl rfl rfl (p_nck rfl) ?_
  refine ws_p rfl rfl rfl rfl (p_fld (j := 3) Tryd.underlying156 rfl ⟨_, by rfl⟩ rfl rfl) ?_
  refine ws_h rfl rfl rfl rfl (p_ldA (cs := (List.map u8v k)) Tryd.underlying38 rfl (szL sz38 (by first | rfl | (simp only [List.length_append, List.length_map, List.length_cons, List.length_nil, (show List.length k = 32 from hk)]; done) | (simp only [List.length_append, List.length_map, List.length_cons, List.length_nil, List.size_toArray, (show List.length k = 32 from hk)]; done))) rfl (fun _ h => rng_at (p := ([i64 ((256 : Nat) : Int), .pointer none, .pointer none] : List Value)) (q := ((List.map u8v k) : List Value)) (r := (((List.map u8v v) ++ ([i64 ((1 : Nat) : Int), .int .u32 ((0 : Nat) : Int), .int .i32 ((1 : Nat) : Int), .int .u32 0] ++ (List.map u8v h0))) : List Value)) (hb0.ch h (fun h => h)) (by simp only [List.append_assoc, List.cons_append, List.nil_append, List.append_nil]) (by first | rfl | (simp only [List.length_append, List.length_map, List.length_cons, List.length_nil]; done) | (simp only [List.length_append, List.length_map, List.length_cons, List.length_nil, List.size_toArray]; done)))) ?_
  refine ws_h rfl rfl rfl rfl (p_ld Tryd.underlying39 rfl rfl (fun _ h => h.cell (fun h => h) (hbc.cell rfl))) ?_
  refine ws_p rfl rfl rfl rfl (p_nck rfl) ?_
  refine ws_p rfl rfl rfl rfl (p_fld (j := 35) Tryd.underlying156 rfl ⟨_, by rfl⟩ rfl rfl) ?_
  refine ws_h rfl rfl rfl rfl (p_ldA (cs := (List.map u8v v)) Tryd.underlying38 rfl (szL sz38 (by first | rfl | (simp only [List.length_append, List.length_map, List.length_cons, List.length_nil, (show List.length v = 32 from hv0)]; done) | (simp only [List.length_append, List.length_map, List.length_cons, List.length_nil, List.size_toArray, (show List.length v = 32 from hv0)]; done))) rfl (fun _ h => rng_at (p := (([i64 ((256 : Nat) : Int), .pointer none, .pointer none] ++ (List.map u8v k)) : List Value)) (q := ((List.map u8v v) : List Value)) (r := (([i64 ((1 : Nat) : Int), .int .u32 ((0 : Nat) : Int), .int .i32 ((1 : Nat) : Int), .int .u32 0] ++ (List.map u8v h0)) : List Value)) (hb0.ch h (fun h => h)) (by simp only [List.append_assoc, List.cons_append, List.nil_append, List.append_nil]) (by first | rfl | (simp only [List.length_append, List.length_map, List.length_cons, List.length_nil, (show List.length k = 32 from hk)]; done) | (simp only [List.length_append, List.length_map, List.length_cons, List.length_nil, List.size_toArray, (show List.length k = 32 from hk)]; done)))) ?_
  refine ws_e rfl rfl (e_call ent74 rfl rfl (titem_any (hk) (hv0) hrnd) ?_)
  rintro _ w2 ⟨rfl, hc⟩
  refine ⟨_, rfl, hc, ?_⟩
  have hzw2 := hc.size
  have HC := HC.tr hc
  have hbc := hbc.ch hc (fun h => h)
  have hb0 := hb0.ch hc (fun h => h)
  have hrnd := hrnd.no hc
  refine ws_narrow (S' := fun x => Ch No w2 x) (Ch.refl _ _) (fun x h => hc.tr h) ?_
  refine ws_p rfl rfl rfl rfl (p_nck rfl) ?_
  refine ws_p rfl rfl rfl rfl (p_fld (j := 71) Tryd.underlying156 rfl ⟨_, by rfl⟩ rfl rfl) ?_
  refine ws_l rfl rfl (e_stR2 (p := (([i64 ((256 : Nat) : Int), .pointer none, .pointer none] ++ ((List.map u8v k) ++ ((List.map u8v v) ++ [i64 ((1 : Nat) : Int), .int .u32 ((0 : Nat) : Int), .int .i32 ((1 : Nat) : Int), .int .u32 0]))) : List Value)) (q := ((List.map u8v h0) : List Value)) (r := []) (vs := ((List.map u8v (itemH k v)) : List Value)) (szL sz38 (by first | rfl | (simp only [List.length_append, List.length_map, List.length_cons, List.length_nil, (show List.length (itemH k v) = 32 from (itemH_len _ _ ))]; done) | (simp only [List.length_append, List.length_map, List.length_cons, List.length_nil, List.size_toArray, (show List.length (itemH k v) = 32 from (itemH_len _ _ ))]; done))) (oneL one_u8 _) rfl rfl hb0 (by simp only [List.append_assoc, List.cons_append, List.nil_append, List.append_nil]) (by first | rfl | (simp only [List.length_append, List.length_map, List.length_cons, List.length_nil, (show List.length k = 32 from hk), (show List.length v = 32 from hv0)]; done) | (simp only [List.length_append, List.length_map, List.length_cons, List.length_nil, List.size_toArray, (show List.length k = 32 from hk), (show List.length v = 32 from hv0)]; done)) (by first | rfl | (simp only [List.length_append, List.length_map, List.length_cons, List.length_nil, (show List.length (itemH k v) = 32 from (itemH_len _ _ )), (show List.length h0 = 32 from hh0)]; done) | (simp only [List.length_append, List.length_map, List.length_cons, List.length_nil, List.size_toArray, (show List.length (itemH k v) = 32 from (itemH_len _ _ )), (show List.length h0 = 32 from hh0)]; done)) (fun w3 hb0 hc hsz => ?_))
  have hb0 : Blk w3 g0 156 (([i64 ((256 : Nat) : Int), .pointer none, .pointer none] ++ ((List.map u8v k) ++ ((List.map u8v v) ++ ([i64 ((1 : Nat) : Int), .int .u32 ((0 : Nat) : Int), .int .i32 ((1 : Nat) : Int), .int .u32 0] ++ (List.map u8v (itemH k v)))))) : List Value).toArray := by have h := hb0; simp only [List.append_assoc, List.cons_append, List.nil_append, List.append_nil] at h ⊢; exact h
  have hzw3 := hc.size
  have HC := HC.trans hc (fun _ _ h => h) (fun k hk ht => ht)
  have hbc := hbc.ch hc (by omega)
  first | have hrnd := hrnd.ch hc (by intro k hk ht; first | omega | (dsimp only at *; omega)) | have hrnd := hrnd.chT hc (by intro k hz hk ht; first | omega | (dsimp only at *; omega))
  refine ws_n ?_
  refine fin_run_n ((res0 rfl)) ?_
  exact ⟨rfl, hb0, HC⟩

set_option maxHeartbeats 1000000 in
set_option maxRecDepth 20000 in
theorem rootc_fork {w : World} {c g0 b cn : Nat} {x y : LT} {key h0 : List UInt8} (IHx : RootOK x) (IHy : RootOK y) (hXx : LAt 156 w x) (hXy : LAt 156 w y) (houtx : g0 ∉ x.ads) (houty : g0 ∉ y.ads) (hb256 : b < 256) (hk : key.length = 32) (hh0 : h0.length = 32) (hb0 : Blk w g0 156 (nodeC b (ndp x.adr) (ndp y.adr) key zeroH cn 0 1 h0).toArray) (hbc : Blk w c 39 #[ndp g0]) (hrnd : Sl w (fun k => k = 0) u32v (some ⟨0, 0, none⟩) 64 64 rk) :
    Calls Tryd.prog 108 #[.pointer (some ⟨c, 0, none⟩)] w fun e w' => e = .returned (.tuple #[]) ∧ Blk w' g0 156 (nodeC b (ndp x.adr) (ndp y.adr) key zeroH cn 0 1 (forkH (b8i (b : Int)) x.er.root y.er.root)).toArray ∧ LAt 156 w' x ∧ LAt 156 w' y ∧ Ch (fun k => k = g0 ∨ k ∈ x.ads ∨ k ∈ y.ads) w w' := by
  have hb0 : Blk w g0 156 (([i64 (b : Int), ndp x.adr, ndp y.adr] ++ ((List.map u8v key) ++ ((List.map u8v zeroH) ++ ([i64 ((cn : Nat) : Int), .int .u32 ((0 : Nat) : Int), .int .i32 ((1 : Nat) : Int), .int .u32 0] ++ (List.map u8v h0))))) : List Value).toArray := hb0
  have hltg0 := hb0.lt
  have hltc := hbc.lt
  have hn0 : 0 < w.heap.size := hrnd.size (by omega) rfl
  have hn1 := hn0
  have hcg : c ≠ g0 := fun e => by subst e; have := hbc.symm.trans hb0; injection this with this; injection this with _ this; exact absurd this (by decide)
  have h0g : (0 : Nat) ≠ g0 := fun e => by subst e; obtain ⟨b, o, hA, _, hcc⟩ := hrnd.opn (d := 0#32) (by omega); cases hA; have h1 := hcc 0 (by omega); rw [hb0.cell (i := 0) rfl] at h1; injection h1 with h1; unfold u32v i64 at h1; injection h1 with h1; cases h1
  have hcx : c ∉ x.ads := fun h => hbc.not_nd (N := 156) (T := fun k => k ∈ x.ads) hXx.mem_blk (by decide) h
  have hcy : c ∉ y.ads := fun h => hbc.not_nd (N := 156) (T := fun k => k ∈ y.ads) hXy.mem_blk (by decide) h
  have HC : Ch (fun k => k = g0 ∨ k ∈ x.ads ∨ k ∈ y.ads) w w := Ch.refl _ _
  refine enter' (args := [.pointer (some ⟨c, 0, none⟩)]) (n := 38) Tryd.func108 rfl rfl rfl ?_
  refine wc_seq ?_
  refine wc_region ?_
  refine wl rfl rfl rfl (p_ld Tryd.underlying39 rfl rfl (ld (hbc.cell rfl))) ?_
  refine wl rfl rfl rfl (p_nck rfl) ?_
  refine wl rfl rfl rfl (p_fld (j := 0) Tryd.underlying156 rfl ⟨_, by rfl⟩ rfl rfl) ?_
  refine wl rfl rfl rfl (p_ld Tryd.underlying3 rfl rfl (ld (cell_at (p := []) (v := (i64 (b : Int) : Value)) (r := (([ndp x.adr, ndp y.adr] ++ ((List.map u8v key) ++ ((List.map u8v zeroH) ++ ([i64 ((cn : Nat) : Int), .int .u32 ((0 : Nat) : Int), .int .i32 ((1 : Nat) : Int), .int .u32 0] ++ (List.map u8v h0))))) : List Value)) hb0 (by simp only [List.append_assoc, List.cons_append, List.nil_append, List.append_nil]) (by first | rfl | (simp only [List.length_append, List.length_map, List.length_cons, List.length_nil]; done) | (simp only [List.length_append, List.length_map, List.length_cons, List.length_nil, List.size_toArray]; done))))) ?_
  refine wl rfl rfl rfl (p_eq rfl rfl) ?_
  refine wl_nil ?_
  refine x_seq ?_
  refine wc_no rfl (decide_eq_false (by omega)) ?_
  refine wc_draw (.st 0 1 (.st 1 1 (.st 2 0 (.st 3 0 (.st 4 1 (.st 5 1 (.st 6 0 (.st 7 0 (.st 8 0 (.st 9 1 (.st 11 1 (.st 12 0 (.st 13 0 (.st 14 0 (.st 15 1 (.st 10 2 (.st 16 2 (.st 17 2 (.st 18 0 (.st 19 0 (.st 20 3 .nil))))))))))))))))))))) 20 (by kernel_rfl) (by kernel_rfl) (by kernel_rfl) (by repeat (first | with_reducible exact pan_body | with_reducible apply pan_then | with_reducible apply pan_in)) (fun z => Ch (fun k => k ∈ x.ads ∨ k ∈ y.ads) w.drew z) (Ch.refl _ _) ?_
  obtain ⟨w1, ew1⟩ : ∃ x, x = w.drew := ⟨_, rfl⟩
  rw [← ew1]
  have hc : Ch No w w1 := by rw [ew1]; exact Ch.drew _
  have hszw1 : w1.heap.size = w.heap.size := by rw [ew1]; rfl
  clear ew1
  have hzw1 := hc.size
  have HC := HC.tr hc
  have hbc := hbc.ch hc (fun h => h)
  have hb0 := hb0.ch hc (fun h => h)
  have hrnd := hrnd.no hc
  have hXx := hXx.ch hc (by first | exact fun _ _ h => h | (intro a ha ht; (try dsimp only at ht); subst ht; first | exact houtx ha | exact houty ha))
  have hXy := hXy.ch hc (by first | exact fun _ _ h => h | (intro a ha ht; (try dsimp only at ht); subst ht; first | exact houtx ha | exact houty ha))
  have hS : Ch (fun k => k ∈ x.ads ∨ k ∈ y.ads) w1 w1 := Ch.refl _ _
  refine ws_h rfl rfl rfl rfl (p_ld Tryd.underlying39 rfl rfl (fun _ h => h.cell (fun ht => ht.elim (fun h => absurd h (by assumption)) (fun h => absurd h (by assumption))) (hbc.cell rfl))) ?_
  refine ws_h rfl rfl rfl rfl (p_ld Tryd.underlying39 rfl rfl (fun _ h => h.cell (fun ht => ht.elim (fun h => absurd h (by assumption)) (fun h => absurd h (by assumption))) (hbc.cell rfl))) ?_
  refine ws_p rfl rfl rfl rfl (p_nck rfl) ?_
  refine ws_p rfl rfl rfl rfl (p_fld (j := 0) Tryd.underlying156 rfl ⟨_, by rfl⟩ rfl rfl) ?_
  refine ws_h rfl rfl rfl rfl (p_ld Tryd.underlying3 rfl rfl (fun _ h => h.cell (fun ht => ht.elim (fun h => absurd h (by assumption)) (fun h => absurd h (by assumption))) (cell_at (p := []) (v := (i64 (b : Int) : Value)) (r := (([ndp x.adr, ndp y.adr] ++ ((List.map u8v key) ++ ((List.map u8v zeroH) ++ ([i64 ((cn : Nat) : Int), .int .u32 ((0 : Nat) : Int), .int .i32 ((1 : Nat) : Int), .int .u32 0] ++ (List.map u8v h0))))) : List Value)) hb0 (by simp only [List.append_assoc, List.cons_append, List.nil_append, List.append_nil]) (by first | rfl | (simp only [List.length_append, List.length_map, List.length_cons, List.length_nil]; done) | (simp only [List.length_append, List.length_map, List.length_cons, List.length_nil, List.size_toArray]; done))))) ?_
  refine ws_h rfl rfl rfl rfl (p_ld Tryd.underlying39 rfl rfl (fun _ h => h.cell (fun ht => ht.elim (fun h => absurd h (by assumption)) (fun h => absurd h (by assumption))) (hbc.cell rfl))) ?_
  refine ws_p rfl rfl rfl rfl (p_nck rfl) ?_
  refine ws_p rfl rfl rfl rfl (p_fld (j := 1) Tryd.underlying156 rfl ⟨_, by rfl⟩ rfl rfl) ?_
  refine ws_p rfl rfl rfl rfl (p_ixA (j := 0) Tryd.underlying142 sz39 rfl rfl (by omega) (by omega) rfl) ?_
  refine ws_h rfl rfl rfl rfl (p_ld Tryd.underlying39 rfl rfl (fun _ h => h.cell (fun ht => ht.elim (fun h => absurd h (by assumption)) (fun h => absurd h (by assumption))) (cell_at (p := ([i64 (b : Int)] : List Value)) (v := (ndp x.adr : Value)) (r := (([ndp y.adr] ++ ((List.map u8v key) ++ ((List.map u8v zeroH) ++ ([i64 ((cn : Nat) : Int), .int .u32 ((0 : Nat) : Int), .int .i32 ((1 : Nat) : Int), .int .u32 0] ++ (List.map u8v h0))))) : List Value)) hb0 (by simp only [List.append_assoc, List.cons_append, List.nil_append, List.append_nil]) (by first | rfl | (simp only [List.length_append, List.length_map, List.length_cons, List.length_nil]; done) | (simp only [List.length_append, List.length_map, List.length_cons, List.length_nil, List.size_toArray]; done))))) ?_
  refine ws_h rfl rfl rfl rfl (p_ld Tryd.underlying39 rfl rfl (fun _ h => h.cell (fun ht => ht.elim (fun h => absurd h (by assumption)) (fun h => absurd h (by assumption))) (hbc.cell rfl))) ?_
  refine ws_p rfl rfl rfl rfl (p_nck rfl) ?_
  refine ws_p rfl rfl rfl rfl (p_fld (j := 1) Tryd.underlying156 rfl ⟨_, by rfl⟩ rfl rfl) ?_
  refine ws_p rfl rfl rfl rfl (p_ixA (j := 1) Tryd.underlying142 sz39 rfl rfl (by omega) (by omega) rfl) ?_
  refine ws_h rfl rfl rfl rfl (p_ld Tryd.underlying39 rfl rfl (fun _ h => h.cell (fun ht => ht.elim (fun h => absurd h (by assumption)) (fun h => absurd h (by assumption))) (cell_at (p := ([i64 (b : Int), ndp x.adr] : List Value)) (v := (ndp y.adr : Value)) (r := (((List.map u8v key) ++ ((List.map u8v zeroH) ++ ([i64 ((cn : Nat) : Int), .int .u32 ((0 : Nat) : Int), .int .i32 ((1 : Nat) : Int), .int .u32 0] ++ (List.map u8v h0)))) : List Value)) hb0 (by simp only [List.append_assoc, List.cons_append, List.nil_append, List.append_nil]) (by first | rfl | (simp only [List.length_append, List.length_map, List.length_cons, List.length_nil]; done) | (simp only [List.length_append, List.length_map, List.length_cons, List.length_nil, List.size_toArray]; done))))) ?_
  refine ws_e rfl rfl (e_call ent85 rfl rfl (IHx hXx hrnd) ?_)
  rintro _ w4 ⟨rfl, hLn, hc⟩
  refine ⟨_, rfl, (by first | exact hS.tr hc | exact hS.trans hc (fun _ _ h => h) (fun k hk ht => .inl ht) | exact hS.trans hc (fun _ _ h => h) (fun k hk ht => .inr ht)), ?_⟩
  have hRB := hXx.mem_blk
  have hR0 := sl_out hrnd (by omega) hXx
  have hFil := Fil.of hXx hc hLn
  have hR1 := houtx
  have hzw4 := hc.size
  have HC := HC.trans hc (fun _ _ h => h) (fun k hk ht => .inr (.inl ht))
  first | have hbc := hbc.ch hc (hbc.not_nd hRB) | have hbc := hbc.ch hc (by assumption)
  have hb0 := hb0.ch hc hR1
  have hrnd := hrnd.ch hc (fun k hk ht => hR0 (hk ▸ ht))
  have hXx := hXx.fil hFil
  have hXy := hXy.fil hFil
  have hS := (by first | exact hS.tr hc | exact hS.trans hc (fun _ _ h => h) (fun k hk ht => .inl ht) | exact hS.trans hc (fun _ _ h => h) (fun k hk ht => .inr ht))
  refine ws_e rfl rfl (e_call ent85 rfl rfl (IHy hXy hrnd) ?_)
  rintro _ w5 ⟨rfl, hLn, hc⟩
  refine ⟨_, rfl, (by first | exact hS.tr hc | exact hS.trans hc (fun _ _ h => h) (fun k hk ht => .inl ht) | exact hS.trans hc (fun _ _ h => h) (fun k hk ht => .inr ht)), ?_⟩
  have hRB := hXy.mem_blk
  have hR0 := sl_out hrnd (by omega) hXy
  have hFil := Fil.of hXy hc hLn
  have hR1 := houty
  have hzw5 := hc.size
  have HC := HC.trans hc (fun _ _ h => h) (fun k hk ht => .inr (.inr ht))
  first | have hbc := hbc.ch hc (hbc.not_nd hRB) | have hbc := hbc.ch hc (by assumption)
  have hb0 := hb0.ch hc hR1
  have hrnd := hrnd.ch hc (fun k hk ht => hR0 (hk ▸ ht))
  have hXx := hXx.fil hFil
  have hXy := hXy.fil hFil
  have hS := (by first | exact hS.tr hc | exact hS.trans hc (fun _ _ h => h) (fun k hk ht => .inl ht) | exact hS.trans hc (fun _ _ h => h) (fun k hk ht => .inr ht))
  refine ws_e rfl rfl (e_call ent76 rfl rfl (tfork_any (Tr.root_len) (Tr.root_len) hrnd) ?_)
  rintro _ w6 ⟨rfl, hc⟩
  refine ⟨_, rfl, (by first | exact hS.tr hc | exact hS.trans hc (fun _ _ h => h) (fun k hk ht => .inl ht) | exact hS.trans hc (fun _ _ h => h) (fun k hk ht => .inr ht)), ?_⟩
  have hzw6 := hc.size
  have HC := HC.tr hc
  have hbc := hbc.ch hc (fun h => h)
  have hb0 := hb0.ch hc (fun h => h)
  have hrnd := hrnd.no hc
  have hXx := hXx.ch hc (by first | exact fun _ _ h => h | (intro a ha ht; (try dsimp only at ht); subst ht; first | exact houtx ha | exact houty ha))
  have hXy := hXy.ch hc (by first | exact fun _ _ h => h | (intro a ha ht; (try dsimp only at ht); subst ht; first | exact houtx ha | exact houty ha))
  have hS := (by first | exact hS.tr hc | exact hS.trans hc (fun _ _ h => h) (fun k hk ht => .inl ht) | exact hS.trans hc (fun _ _ h => h) (fun k hk ht => .inr ht))
  refine ws_p rfl rfl rfl rfl (p_nck rfl) ?_
  refine ws_p rfl rfl rfl rfl (p_fld (j := 71) Tryd.underlying156 rfl ⟨_, by rfl⟩ rfl rfl) ?_
  refine ws_l rfl rfl (e_stR2 (p := (([i64 (b : Int), ndp x.adr, ndp y.adr] ++ ((List.map u8v key) ++ ((List.map u8v zeroH) ++ [i64 ((cn : Nat) : Int), .int .u32 ((0 : Nat) : Int), .int .i32 ((1 : Nat) : Int), .int .u32 0]))) : List Value)) (q := ((List.map u8v h0) : List Value)) (r := []) (vs := ((List.map u8v (forkH (b8i ((b : Int))) x.er.root y.er.root)) : List Value)) (szL sz38 (by first | rfl | (simp only [List.length_append, List.length_map, List.length_cons, List.length_nil, (show List.length (forkH (b8i ((b : Int))) x.er.root y.er.root) = 32 from (forkH_len _ _ _ ))]; done) | (simp only [List.length_append, List.length_map, List.length_cons, List.length_nil, List.size_toArray, (show List.length (forkH (b8i ((b : Int))) x.er.root y.er.root) = 32 from (forkH_len _ _ _ ))]; done))) (oneL one_u8 _) rfl rfl hb0 (by simp only [List.append_assoc, List.cons_append, List.nil_append, List.append_nil]) (by first | rfl | (simp only [List.length_append, List.length_map, List.length_cons, List.length_nil, (show List.length key = 32 from hk), (show List.length zeroH = 32 from zeroH_len)]; done) | (simp only [List.length_append, List.length_map, List.length_cons, List.length_nil, List.size_toArray, (show List.length key = 32 from hk), (show List.length zeroH = 32 from zeroH_len)]; done)) (by first | rfl | (simp only [List.length_append, List.length_map, List.length_cons, List.length_nil, (show List.length (forkH (b8i ((b : Int))) x.er.root y.er.root) = 32 from (forkH_len _ _ _ )), (show List.length h0 = 32 from hh0)]; done) | (simp only [List.length_append, List.length_map, List.length_cons, List.length_nil, List.size_toArray, (show List.length (forkH (b8i ((b : Int))) x.er.root y.er.root) = 32 from (forkH_len _ _ _ )), (show List.length h0 = 32 from hh0)]; done)) (fun w7 hb0 hc hsz => ?_))
  have hb0 : Blk w7 g0 156 (([i64 (b : Int), ndp x.adr, ndp y.adr] ++ ((List.map u8v key) ++ ((List.map u8v zeroH) ++ ([i64 ((cn : Nat) : Int), .int .u32 ((0 : Nat) : Int), .int .i32 ((1 : Nat) : Int), .int .u32 0] ++ (List.map u8v (forkH (b8i ((b : Int))) x.er.root y.er.root)))))) : List Value).toArray := by have h := hb0; simp only [List.append_assoc, List.cons_append, List.nil_append, List.append_nil] at h ⊢; exact h
  have hzw7 := hc.size
  have HC := HC.trans hc (fun _ _ h => h) (fun k hk ht => .inl ht)
  have hbc := hbc.ch hc (by omega)
  first | have hrnd := hrnd.ch hc (by intro k hk ht; first | omega | (dsimp only at *; omega)) | have hrnd := hrnd.chT hc (by intro k hz hk ht; first | omega | (dsimp only at *; omega))
  have hXx := hXx.ch hc (by first | exact fun _ _ h => h | (intro a ha ht; (try dsimp only at ht); subst ht; first | exact houtx ha | exact houty ha))
  have hXy := hXy.ch hc (by first | exact fun _ _ h => h | (intro a ha ht; (try dsimp only at ht); subst ht; first | exact houtx ha | exact houty ha))
  refine ws_n ?_
  refine fin_run_n ((res0 rfl)) ?_
  exact ⟨rfl, hb0, hXx, hXy, HC⟩

theorem once_leaf {w : World} {c g0 : Nat} {k v : List UInt8} (hX : LAt 156 w (.leaf g0 k v)) (hbc : Blk w c 39 #[ndp g0]) (hrnd : Sl w (fun k => k = 0) u32v (some ⟨0, 0, none⟩) 64 64 rk) : OnceP (.leaf g0 k v) c w := by
  obtain ⟨hk, hv, d, h0, ⟨hh0, hd⟩, hb0⟩ := id hX
  obtain ⟨c68, c69⟩ := node_cells hk hv hb0
  have hcg : c ≠ g0 := fun e => hbc.not_nd (N := 156) (T := fun j => j ∈ LT.ads (.leaf g0 k v)) hX.mem_blk (by decide) (by simp [LT.ads, e])
  have h0g : (0 : Nat) ≠ g0 := fun e => sl_out hrnd (by omega) hX (by simp [LT.ads, e])
  rcases hd with rfl | ⟨rfl, rfl⟩
  · have hb1 := once_lock hk hv hb0
    have hc1 : Ch (fun k => k = g0) w (w.setCell ⟨g0, 69, none⟩ (.int .i32 1)) := Ch.setCell w ⟨g0, 69, none⟩ _
    have hbody := rootc_leaf hk hv hh0 hb1 (hbc.ch hc1 hcg) (hrnd.ch hc1 (fun k hk ht => h0g (hk ▸ ht)))
    unfold OnceP
    refine (do_first g0 68 #[.pointer (some ⟨c, 0, none⟩)] w (fun W => Blk W g0 156 (nodeC 256 (.pointer none) (.pointer none) k v 1 0 1 (itemH k v)).toArray ∧ Ch (fun k => k = g0) (w.setCell ⟨g0, 69, none⟩ (.int .i32 1)) W) c68 c69 (hb0.free 68) (hb0.free 69) (hbody.mono fun e W ⟨h1, h2, h3⟩ => ⟨h1, h2, h3⟩) (fun W hW => ⟨(node_cells hk hv hW.1).1, (node_cells hk hv hW.1).2, hW.1.free 68, hW.1.free 69⟩)).mono ?_
    rintro e w' ⟨rfl, W, ⟨hW1, hW2⟩, rfl⟩
    have hd := once_done hk hv hW1
    have hch : Ch (fun k => k = g0) W ((W.drew.setCell ⟨g0, 68, none⟩ (.int .u32 1)).setCell ⟨g0, 69, none⟩ (.int .i32 0)) := ((Ch.drew W).trans (Ch.setCell W.drew ⟨g0, 68, none⟩ _) (V := fun k => k = g0) (fun _ _ h => h.elim) (fun _ _ h => h)).trans (Ch.setCell _ ⟨g0, 69, none⟩ _) (fun _ _ h => h) (fun _ _ h => h)
    exact ⟨rfl, ⟨hk, hv, 1, itemH k v, ⟨itemH_len _ _, .inr ⟨rfl, rfl⟩⟩, hd⟩, ⟨_, _, _, hv, hd⟩, ((hc1.trans hW2 (fun _ _ h => h) (fun _ _ h => h)).trans hch (fun _ _ h => h) (fun _ _ h => h)).mono (fun k _ h => by simp [LT.ads, h])⟩
  · unfold OnceP
    refine (do_done ⟨g0, 68, none⟩ 1 (by decide) _ w c68).mono ?_
    rintro e w' ⟨rfl, rfl⟩
    exact ⟨rfl, hX, ⟨_, _, _, hv, hb0⟩, Ch.refl _ _⟩

theorem once_fork {w : World} {c g0 b : Nat} {x y : LT} (IHx : RootOK x) (IHy : RootOK y) (hX : LAt 156 w (.fork g0 b x y)) (hbc : Blk w c 39 #[ndp g0]) (hrnd : Sl w (fun k => k = 0) u32v (some ⟨0, 0, none⟩) 64 64 rk) : OnceP (.fork g0 b x y) c w := by
  obtain ⟨hox, hoy⟩ := hX.out
  obtain ⟨⟨hb, hcn, hk, d, h0, ⟨hh0, hd⟩, hb0⟩, hXx, hXy⟩ := id hX
  obtain ⟨c68, c69⟩ := node_cells hk zeroH_len hb0
  have hcg : c ≠ g0 := fun e => hbc.not_nd (N := 156) (T := fun k => k ∈ LT.ads (.fork g0 b x y)) hX.mem_blk (by decide) (by simp [LT.ads, e])
  have h0g : (0 : Nat) ≠ g0 := fun e => sl_out hrnd (by omega) hX (by simp [LT.ads, e])
  rcases hd with rfl | ⟨rfl, rfl⟩
  · have hb1 := once_lock hk zeroH_len hb0
    have hc1 : Ch (fun k => k = g0) w (w.setCell ⟨g0, 69, none⟩ (.int .i32 1)) := Ch.setCell w ⟨g0, 69, none⟩ _
    have hXx1 := hXx.ch hc1 (fun a ha ht => hox (ht ▸ ha))
    have hXy1 := hXy.ch hc1 (fun a ha ht => hoy (ht ▸ ha))
    have hbody := rootc_fork IHx IHy hXx1 hXy1 hox hoy hb hk hh0 hb1 (hbc.ch hc1 hcg) (hrnd.ch hc1 (fun k hk ht => h0g (hk ▸ ht)))
    unfold OnceP
    refine (do_first g0 68 #[.pointer (some ⟨c, 0, none⟩)] w (fun W => Blk W g0 156 (nodeC b (ndp x.adr) (ndp y.adr) x.er.key zeroH (x.er.cnt + y.er.cnt) 0 1 (forkH (b8i (b : Int)) x.er.root y.er.root)).toArray ∧ LAt 156 W x ∧ LAt 156 W y ∧ Ch (fun k => k = g0 ∨ k ∈ x.ads ∨ k ∈ y.ads) (w.setCell ⟨g0, 69, none⟩ (.int .i32 1)) W) c68 c69 (hb0.free 68) (hb0.free 69) (hbody.mono fun e W ⟨h1, h2, h3, h4, h5⟩ => ⟨h1, h2, h3, h4, h5⟩) (fun W hW => ⟨(node_cells hk zeroH_len hW.1).1, (node_cells hk zeroH_len hW.1).2, hW.1.free 68, hW.1.free 69⟩)).mono ?_
    rintro e w' ⟨rfl, W, ⟨hW1, hWx, hWy, hW2⟩, rfl⟩
    have hd := once_done hk zeroH_len hW1
    have hch : Ch (fun k => k = g0) W ((W.drew.setCell ⟨g0, 68, none⟩ (.int .u32 1)).setCell ⟨g0, 69, none⟩ (.int .i32 0)) := ((Ch.drew W).trans (Ch.setCell W.drew ⟨g0, 68, none⟩ _) (V := fun k => k = g0) (fun _ _ h => h.elim) (fun _ _ h => h)).trans (Ch.setCell _ ⟨g0, 69, none⟩ _) (fun _ _ h => h) (fun _ _ h => h)
    exact ⟨rfl, ⟨⟨hb, hcn, hk, 1, _, ⟨forkH_len _ _ _, .inr ⟨rfl, rfl⟩⟩, hd⟩, hWx.ch hch (fun a ha ht => hox (ht ▸ ha)), hWy.ch hch (fun a ha ht => hoy (ht ▸ ha))⟩, ⟨_, _, _, zeroH_len, hd⟩, ((hc1.trans hW2 (fun _ _ h => .inl h) (fun _ _ h => h)).trans hch (V := fun k => k = g0 ∨ k ∈ x.ads ∨ k ∈ y.ads) (fun _ _ h => h) (fun _ _ h => .inl h)).mono (fun k _ h => by simpa [LT.ads] using h)⟩
  · unfold OnceP
    refine (do_done ⟨g0, 68, none⟩ 1 (by decide) _ w c68).mono ?_
    rintro e w' ⟨rfl, rfl⟩
    exact ⟨rfl, hX, ⟨_, _, _, zeroH_len, hb0⟩, Ch.refl _ _⟩

set_option maxHeartbeats 1000000 in
set_option maxRecDepth 20000 in
theorem root_step {w : World} {t : LT} (hO : ∀ {w : World} {c : Nat}, LAt 156 w t → Blk w c 39 #[ndp t.adr] → Sl w (fun k => k = 0) u32v (some ⟨0, 0, none⟩) 64 64 rk → OnceP t c w) (hX : LAt 156 w t) (hrnd : Sl w (fun k => k = 0) u32v (some ⟨0, 0, none⟩) 64 64 rk) :
    Calls Tryd.prog 85 #[ndp t.adr] w fun e w' => e = .returned (hv t.er.root) ∧ LAt 156 w' t ∧ Ch (fun k => k ∈ t.ads) w w' := by
  have hXl := hX.lt
  obtain ⟨g0, p, q, v0, d0, h0, eg0, hv0, hh0, hk, hbl, hcl, hb0⟩ := hX.top
  have hb0 : Blk w g0 156 (([i64 (t.er.bit : Int), p, q] ++ ((List.map u8v t.er.key) ++ ((List.map u8v v0) ++ ([i64 (t.er.cnt : Int), .int .u32 (d0 : Int), .int .i32 ((0 : Nat) : Int), .int .u32 0] ++ (List.map u8v h0))))) : List Value).toArray := hb0
  have hltg0 := hb0.lt
  rw [← eg0]
  have hn0 : 0 < w.heap.size := hrnd.size (by omega) rfl
  have hn1 := hn0
  have HC : Ch (fun k => k ∈ t.ads) w w := Ch.refl _ _
  refine enter' (args := [ndp g0]) (n := 15) Tryd.func85 rfl rfl rfl ?_
  refine wc_seq ?_
  refine wc_region ?_
  have hltg0 := hb0.lt
  refine wle rfl (e_box (cs := #[_]) rfl rfl rfl (fun w1 g1 hg1 hb1 hc hsz1 => ?_))
  have hzw1 := hc.size
  have HC := HC.tr hc
  have hb0 := hb0.ch hc (fun h => h)
  have hrnd := hrnd.no hc
  have hX := hX.ch hc (by first | exact fun _ _ h => h | (intro a ha ht; have h2 := hXl a ha; omega))
  have hge1 : w.heap.size ≤ g1 := by have := HC.size; omega
  have neg0_1 : g0 < g1 := by omega
  have hltg0 := hb0.lt
  have hltg1 := hb1.lt
  refine wle rfl (e_alloc (cs := ((List.replicate 32 (0 : UInt8)).map u8v).toArray) rfl (by rfl) rfl (fun w2 g2 hg2 hb2 hc hsz2 => ?_))
  have hzw2 := hc.size
  have HC := HC.tr hc
  have hb0 := hb0.ch hc (fun h => h)
  have hrnd := hrnd.no hc
  have hX := hX.ch hc (by first | exact fun _ _ h => h | (intro a ha ht; have h2 := hXl a ha; omega))
  have hb1 := hb1.ch hc (fun h => h)
  have hge2 : w.heap.size ≤ g2 := by have := HC.size; omega
  have neg0_2 : g0 < g2 := by omega
  have neg1_2 : g1 < g2 := by omega
  refine wl_nil ?_
  refine x_seq ?_
  refine wc_seq ?_
  refine wc_seq ?_
  refine wc_region ?_
  refine wl rfl rfl rfl (p_ld Tryd.underlying39 rfl rfl (ld (hb1.cell rfl))) ?_
  refine wl rfl rfl rfl (p_eqPN rfl rfl Tryd.underlying39) ?_
  refine wl_nil ?_
  refine x_seq ?_
  refine wc_no rfl (rfl) ?_
  refine wc_skip ?_
  refine x_seq ?_
  refine wc_seq ?_
  refine wc_region ?_
  refine wl rfl rfl rfl (p_ld Tryd.underlying39 rfl rfl (ld (hb1.cell rfl))) ?_
  refine wl rfl rfl rfl (p_nck rfl) ?_
  refine wl rfl rfl rfl (p_fld (j := 68) Tryd.underlying156 rfl ⟨_, by rfl⟩ rfl rfl) ?_
  refine wl rfl rfl rfl (p_mkf rfl) ?_
  have hOn := hO hX (by rw [← eg0]; exact hb1) hrnd
  unfold OnceP at hOn
  rw [← eg0] at hOn
  refine wle rfl (e_call ent107 rfl rfl (hOn) ?_)
  rintro _ w3 ⟨rfl, hLn, ⟨p2, q2, v2, hv2, hbR⟩, hc⟩
  refine ⟨_, rfl, ?_⟩
  have hRB := hX.mem_blk
  have hR0 := sl_out hrnd (by omega) hX
  have hFil := Fil.of hX hc hLn
  have hzw3 := hc.size
  have HC := HC.trans hc (fun _ _ h => h) (fun k hk ht => ht)
  have hrnd := hrnd.ch hc (fun k hk ht => hR0 (hk ▸ ht))
  have hX := hLn
  first | have hb1 := hb1.ch hc (hb1.not_nd hRB) | have hb1 := hb1.ch hc (by assumption)
  first | have hb2 := hb2.ch hc (hb2.not_nd hRB) | have hb2 := hb2.ch hc (by assumption)
  have hbR : Blk w3 g0 156 (([i64 (t.er.bit : Int), p2, q2] ++ ((List.map u8v t.er.key) ++ ((List.map u8v v2) ++ ([i64 (t.er.cnt : Int), .int .u32 ((1 : Nat) : Int), .int .i32 ((0 : Nat) : Int), .int .u32 0] ++ (List.map u8v t.er.root))))) : List Value).toArray := hbR
  refine wl_nil ?_
  refine x_seq ?_
  refine wc_seq ?_
  refine wc_region ?_
  refine wl rfl rfl rfl (p_ld Tryd.underlying39 rfl rfl (ld (hb1.cell rfl))) ?_
  refine wl rfl rfl rfl (p_nck rfl) ?_
  refine wl rfl rfl rfl (p_fld (j := 71) Tryd.underlying156 rfl ⟨_, by rfl⟩ rfl rfl) ?_
  refine wl rfl rfl rfl (p_ldA (cs := (List.map u8v t.er.root)) Tryd.underlying38 rfl (szL sz38 (by first | rfl | (simp only [List.length_append, List.length_map, List.length_cons, List.length_nil, (show List.length t.er.root = 32 from Tr.root_len)]; done) | (simp only [List.length_append, List.length_map, List.length_cons, List.length_nil, List.size_toArray, (show List.length t.er.root = 32 from Tr.root_len)]; done))) rfl (fun _ e => e ▸ rng_at (p := (([i64 (t.er.bit : Int), p2, q2] ++ ((List.map u8v t.er.key) ++ ((List.map u8v v2) ++ [i64 (t.er.cnt : Int), .int .u32 ((1 : Nat) : Int), .int .i32 ((0 : Nat) : Int), .int .u32 0]))) : List Value)) (q := ((List.map u8v t.er.root) : List Value)) (r := []) hbR (by simp only [List.append_assoc, List.cons_append, List.nil_append, List.append_nil]) (by first | rfl | (simp only [List.length_append, List.length_map, List.length_cons, List.length_nil, (show List.length t.er.key = 32 from hk), (show List.length v2 = 32 from hv2)]; done) | (simp only [List.length_append, List.length_map, List.length_cons, List.length_nil, List.size_toArray, (show List.length t.er.key = 32 from hk), (show List.length v2 = 32 from hv2)]; done)))) ?_
  refine wle rfl (e_stW (vs := List.map u8v t.er.root) (szL sz38 (by rw [List.length_map]; exact Tr.root_len)) (oneL one_u8 _) rfl rfl hb2 (by simp only [List.size_toArray, List.length_map]; first | done | exact ((List.length_replicate ..)).trans (Tr.root_len).symm) (fun w4 hb2 hc hsz => ?_))
  have hzw4 := hc.size
  have HC := HC.trans hc (fun _ _ h => h) (fun k hk ht => absurd ht (by omega))
  first | have hrnd := hrnd.ch hc (by intro k hk ht; first | omega | (dsimp only at *; omega)) | have hrnd := hrnd.chT hc (by intro k hz hk ht; first | omega | (dsimp only at *; omega))
  have hX := hX.ch hc (by first | exact fun _ _ h => h | (intro a ha ht; have h2 := hXl a ha; omega))
  have hb1 := hb1.ch hc (by omega)
  have hbR := hbR.ch hc (by omega)
  refine wl_nil ?_
  refine x_seq ?_
  refine wc_ret ?_
  refine fin_run (resC (cs := List.map u8v t.er.root) rfl rfl Tryd.underlying38 rfl (szL sz38 (by rw [List.length_map]; exact Tr.root_len)) (rngL hb2)) ?_
  exact ⟨rfl, hX, HC⟩

set_option maxHeartbeats 1000000 in
set_option maxRecDepth 20000 in
theorem root_nil {w : World}  (hrnd : Sl w (fun k => k = 0) u32v (some ⟨0, 0, none⟩) 64 64 rk) :
    Calls Tryd.prog 85 #[.pointer none] w fun e w' => e = .returned (hv noneH) ∧ Ch No w w' := by
  have hn0 : 0 < w.heap.size := hrnd.size (by omega) rfl
  have hn1 := hn0
  have HC : Ch No w w := Ch.refl _ _
  refine enter' (args := [.pointer none]) (n := 15) Tryd.func85 rfl rfl rfl ?_
  refine wc_seq ?_
  refine wc_region ?_
  refine wle rfl (e_box (cs := #[_]) rfl rfl rfl (fun w1 g1 hg1 hb1 hc hsz1 => ?_))
  have hzw1 := hc.size
  have HC := HC.tr hc
  have hrnd := hrnd.no hc
  have hge1 : w.heap.size ≤ g1 := by have := HC.size; omega
  have hltg1 := hb1.lt
  refine wle rfl (e_alloc (cs := ((List.replicate 32 (0 : UInt8)).map u8v).toArray) rfl (by rfl) rfl (fun w2 g2 hg2 hb2 hc hsz2 => ?_))
  have hzw2 := hc.size
  have HC := HC.tr hc
  have hrnd := hrnd.no hc
  have hb1 := hb1.ch hc (fun h => h)
  have hge2 : w.heap.size ≤ g2 := by have := HC.size; omega
  have neg1_2 : g1 < g2 := by omega
  refine wl_nil ?_
  refine x_seq ?_
  refine wc_seq ?_
  refine wc_seq ?_
  refine wc_region ?_
  refine wl rfl rfl rfl (p_ld Tryd.underlying39 rfl rfl (ld (hb1.cell rfl))) ?_
  refine wl rfl rfl rfl (p_eqPN rfl rfl Tryd.underlying39) ?_
  refine wl_nil ?_
  refine x_seq ?_
  refine wc_yes rfl (rfl) ?_
  refine wc_seq ?_
  refine wc_region ?_
  refine wle rfl (e_call ent73 rfl rfl (tnone_any hrnd) ?_)
  rintro _ w3 ⟨rfl, hc⟩
  refine ⟨_, rfl, ?_⟩
  have hzw3 := hc.size
  have HC := HC.tr hc
  have hrnd := hrnd.no hc
  have hb1 := hb1.ch hc (fun h => h)
  have hb2 := hb2.ch hc (fun h => h)
  refine wle rfl (e_stW (vs := List.map u8v noneH) (szL sz38 (by rw [List.length_map]; exact noneH_len)) (oneL one_u8 _) rfl rfl hb2 (by simp only [List.size_toArray, List.length_map]; first | done | exact ((List.length_replicate ..)).trans (noneH_len).symm) (fun w4 hb2 hc hsz => ?_))
  have hzw4 := hc.size
  have HC := HC.trans hc (fun _ _ h => h) (fun k hk ht => absurd ht (by omega))
  first | have hrnd := hrnd.ch hc (by intro k hk ht; first | omega | (dsimp only at *; omega)) | have hrnd := hrnd.chT hc (by intro k hz hk ht; first | omega | (dsimp only at *; omega))
  have hb1 := hb1.ch hc (by omega)
  refine wl_nil ?_
  refine x_seq ?_
  refine wc_ret ?_
  refine x_then_ret ?_
  refine fin_run (resC (cs := List.map u8v noneH) rfl rfl Tryd.underlying38 rfl (szL sz38 (by rw [List.length_map]; exact noneH_len)) (rngL hb2)) ?_
  exact ⟨rfl, HC⟩

theorem root_any : ∀ t : LT, RootOK t
  | .leaf g k v => fun hX hr => root_step (fun hX hbc hrnd => once_leaf hX hbc hrnd) hX hr
  | .fork g b x y => fun hX hr => root_step (fun hX hbc hrnd => once_fork (root_any x) (root_any y) hX hbc hrnd) hX hr
end Go.Proofs.YtkfkdakghjlenaaDoor
