/-
  Own text, printed by a program of mine (wip/gx): what functions of the program do, walked operation by operation.
-/
import Derived.Test.YtcgapjieidmkpaaProg
import Derived.Test.YtcgapjieidmkpaaGxAgg
import Derived.Test.YtcgapjieidmkpaaTab
import Derived.Test.YtcgapjieidmkpaaPlDisk
import Derived.Test.YtcgapjieidmkpaaPlDiskSt
import Derived.Test.YtcgapjieidmkpaaPlDiskOk
import Derived.Test.YtcgapjieidmkpaaPlDiskC
import Derived.Test.YtcgapjieidmkpaaPlActD
import Derived.Test.YtcgapjieidmkpaaPlActs
import Derived.Test.YtcgapjieidmkpaaPlDiskLaw
import Derived.Test.YtcgapjieidmkpaaDTb
import Derived.Test.YtcgapjieidmkpaaDX
import Derived.Test.YtcgapjieidmkpaaW0
set_option linter.unusedVariables false
namespace Go.Proofs.Ytcgapjieidmkpaa
open Go.RowKit Go.Gx
open Go.Plain
set_option maxHeartbeats 4000000 in
set_option maxRecDepth 20000 in
theorem diskArms_walk {w : World} {n m : Nat} (hn64 : n < 18446744073709551616) (hm64 : m < 18446744073709551616) :
    Calls Try.prog 3 #[.int .u64 (n : Int), .int .u64 (m : Int)] w fun e w' => e = .returned (.bool true) ∧ Ch No w w' := by
  have HC : Ch No w w := Ch.refl _ _
  refine enter' (args := [.int .u64 (n : Int), .int .u64 (m : Int)]) (n := 110) Try.func3 rfl rfl rfl ?_
  refine wc_seq ?_
  refine wc_region ?_
  refine wl rfl rfl rfl (p_as rfl) ?_
  refine wl_nil ?_
  refine x_seq ?_
  refine wc_seq ?_
  refine wc_region ?_
  refine wle rfl (e_call ent10 rfl rfl (new_any (n := 4) (by omega) (by omega)) ?_)
  rintro _ w1 ⟨g13, rfl, hg13, hdk, hc⟩
  refine ⟨_, rfl, ?_⟩
  have hzw1 := hc.size
  have HC := HC.tr hc
  obtain ⟨O13, hd13, hOl13⟩ := CD.first (w0 := w) hdk (newD_ok _) (by omega) (Nat.zero_le _) (by omega)
  refine wl rfl rfl rfl (p_as rfl) ?_
  refine wl_nil ?_
  refine x_seq ?_
  refine wc_seq ?_
  refine wc_seq ?_
  refine wc_region ?_
  refine wl rfl rfl rfl (p_mv rfl) ?_
  refine wl rfl rfl rfl (p_eqPN rfl rfl Try.underlying23) ?_
  refine wl_nil ?_
  refine x_seq ?_
  refine wc_no rfl (rfl) ?_
  refine wc_skip ?_
  refine x_seq ?_
  refine wc_seq ?_
  refine wc_region ?_
  refine wl rfl rfl rfl (p_mv rfl) ?_
  obtain ⟨K, hK⟩ : ∃ K, K = 1 + n % 20 := ⟨_, rfl⟩
  refine wl rfl rfl rfl (p_rem (Z := ((n % 20 : Nat) : Int)) rfl rfl (by omega) rfl) ?_
  refine wl rfl rfl rfl (p_conv Try.underlying22 Try.underlying3 rfl (w64 (by omega))) ?_
  refine wl rfl rfl rfl (p_add (Z := (K : Int)) rfl rfl (by rw [w64 (by omega)]; omega)) ?_
  refine wl rfl rfl rfl (p_as rfl) ?_
  refine wl_nil ?_
  refine x_seq ?_
  refine wc_seq ?_
  refine wc_region ?_
  refine wl rfl rfl rfl (p_mv rfl) ?_
  refine wl rfl rfl rfl (p_mv rfl) ?_
  refine wle rfl (e_bslV (E := 3) rfl rfl (fun _ => by kernel_rfl) (fun w2 g22 hg22 hb22 hc hsz22 => ?_))
  have hzw2 := hc.size
  have HC := HC.tr hc
  have hphd13 := hd13.hi
  have hd13 := hd13.no hc
  have hge22 : w.heap.size ≤ g22 := by have := HC.size; omega
  have hS22 := Sl.lit3 (f := i64) (x := 1) (y := 2) (z := 3) hb22
  have hS22 := hS22.mono (G := fun k => w1.heap.size ≤ k ∧ k < w2.heap.size) (fun k h1 h2 => ⟨by first | exact h2 | (have h3 : k = _ := h2; omega), h1⟩)
  have hohS22_hd13 : ∀ k, O13 k → k < w1.heap.size ∨ w2.heap.size ≤ k := fun k h => .inl (hphd13 k h)
  refine wle rfl (e_call ent11 rfl rfl (arm_any (tn := 0) hd13.at_ (hS22) (by have := (hS22).cap; omega) (fun _ h => .inr h)) ?_)
  rintro _ w3 ⟨rfl, hdk, hc⟩
  refine ⟨_, rfl, ?_⟩
  obtain ⟨O23, hdn, hO23, hc⟩ := hd13.next hdk hc (arm_ok hd13.ok _ _ _) (arm_arm (by omega) _ _) (by omega)
  have hzw3 := hc.size
  have HC := HC.trans hc (fun _ _ h => h) (fun k hk ht => absurd hk (by have := hd13.lo k ht; omega))
  have hS22 := hS22.ch hc (fun k hk ht => by have h1 := hohS22_hd13 k ht; have h2 : w1.heap.size ≤ k ∧ k < w2.heap.size := hk; omega)
  have hohS22_hd13 : ∀ k, O23 k → k < w1.heap.size ∨ w2.heap.size ≤ k := fun k h => (hO23 k h).elim (hohS22_hd13 k) (fun h => .inr (by omega))
  have hd13 := hdn
  rw [aK_0] at hd13
  refine wl_nil ?_
  refine x_seq ?_
  refine wc_seq ?_
  refine wc_seq ?_
  refine wc_region ?_
  refine wl rfl rfl rfl (p_as rfl) ?_
  refine wl_nil ?_
  refine x_seq ?_
  refine wc_block ?_
  refine wc_loop (e' := [(0, .int .u64 (n : Int)), (1, .int .u64 (m : Int)), (4, .bool false), (5, .pointer (some ⟨g13, 0, none⟩)), (6, i64 (K : Int)), (7, i64 (((0) + 1 : Nat) : Int))]) (fun mz ez uz => ∃ j : Nat, ∃ O : Nat → Prop, mz = K - j ∧ ez = [(0, .int .u64 (n : Int)), (1, .int .u64 (m : Int)), (4, .bool false), (5, .pointer (some ⟨g13, 0, none⟩)), (6, i64 (K : Int)), (7, i64 ((j + 1 : Nat) : Int))] ∧ (j < K) ∧ (CD TD w uz O g13 4 (aK K j)) ∧ (Ch No w uz))
    ⟨rfl, rfl, rfl, rfl, rfl, rfl, trivial⟩ ⟨0, O23, rfl, rfl, by omega, hd13, HC⟩ ?_
  rintro m0 e w4 ⟨j, O, hm0, rfl, hj, hd13, HC⟩
  have hzw4 := HC.size
  refine wc_seq ?_
  refine wc_seq ?_
  refine wc_region ?_
  refine wl rfl rfl rfl (p_mv rfl) ?_
  refine wl rfl rfl rfl (p_mv rfl) ?_
  refine wl rfl rfl rfl (p_lt rfl rfl) ?_
  refine wl_nil ?_
  refine x_seq ?_
  refine wc_if rfl (fun c1 => ?_) (fun c1 => ?_)
  ·
    have c1 := of_decide_eq_true c1
    refine wc_skip ?_
    refine x_seq ?_
    refine wc_seq ?_
    refine wc_block ?_
    refine wc_seq ?_
    refine wc_seq ?_
    refine wc_region ?_
    refine wl rfl rfl rfl (p_mv rfl) ?_
    refine wl rfl rfl rfl (p_mv rfl) ?_
    refine wl rfl rfl rfl ((p_convU8 Try.underlying3 Try.underlying5 rfl (by omega)).to (show u8v _ = u8v (UInt8.ofNat (j + 1)) from rfl)) ?_
    refine wle rfl (e_bslV (E := 5) rfl rfl (fun _ => by kernel_rfl) (fun w5 g32 hg32 hb32 hc hsz32 => ?_))
    have hzw5 := hc.size
    have HC := HC.tr hc
    have hphd13 := hd13.hi
    have hd13 := hd13.no hc
    have hge32 : w.heap.size ≤ g32 := by have := HC.size; omega
    have hS32 := Sl.lit1 (f := u8v) hb32
    have hS32 := hS32.mono (G := fun k => w4.heap.size ≤ k ∧ k < w5.heap.size) (fun k h1 h2 => ⟨by first | exact h2 | (have h3 : k = _ := h2; omega), h1⟩)
    have hohS32_hd13 : ∀ k, O k → k < w4.heap.size ∨ w5.heap.size ≤ k := fun k h => .inl (hphd13 k h)
    refine wle rfl (e_call ent12 rfl rfl (write_any (a := 0) hd13.at_ hd13.ok hd13.hn (fun _ h => .inr h) hd13.arm (by omega) (by omega) (hS32) (fun k hk => (fun hf => hf.elim (fun h => by have h1 := hohS32_hd13 k h; have h2 : w4.heap.size ≤ k ∧ k < w5.heap.size := hk; omega) (fun h => by have h2 : w4.heap.size ≤ k ∧ k < w5.heap.size := hk; omega))) (by omega)) ?_)
    rintro _ w6 ⟨rfl, hdk, hc⟩
    refine ⟨_, rfl, ?_⟩
    obtain ⟨O33, hdn, hO33, hc⟩ := hd13.next hdk hc (wr_ok hd13.ok _ _) (Nat.le_trans (wr_arm _ _) hd13.arm) (by omega)
    have hzw6 := hc.size
    have HC := HC.trans hc (fun _ _ h => h) (fun k hk ht => absurd hk (by have := hd13.lo k ht; omega))
    have hS32 := hS32.ch hc (fun k hk ht => by have h1 := hohS32_hd13 k ht; have h2 : w4.heap.size ≤ k ∧ k < w5.heap.size := hk; omega)
    have hohS32_hd13 : ∀ k, O33 k → k < w4.heap.size ∨ w5.heap.size ≤ k := fun k h => (hO33 k h).elim (hohS32_hd13 k) (fun h => .inr (by omega))
    have hd13 := hdn
    have e33 := aK_wr (k := K) (j := j) (by omega)
    rw [e33] at hd13
    refine wl rfl rfl rfl (p_ne rfl rfl) ?_
    refine wl rfl rfl rfl (p_mv rfl) ?_
    refine wl_know (d := 35) (b' := false) rfl (decide_eq_false (by rw [e33]; exact fun h => h rfl)) ?_
    refine wl_g (gd_ rfl rfl rfl rfl rfl rfl) rfl rfl (p_mv rfl) ?_
    refine wle_g (gd_ rfl rfl rfl rfl rfl rfl) (e_call ent13 rfl rfl (on_any hd13.at_) ?_)
    rintro _ w7 ⟨rfl, hc⟩
    refine ⟨_, rfl, ?_⟩
    have hzw7 := hc.size
    have HC := HC.tr hc
    have hphd13 := hd13.hi
    have hd13 := hd13.no hc
    have hS32 := hS32.no hc
    refine wl_g (gd_ rfl rfl rfl rfl rfl rfl) rfl rfl (p_not rfl) ?_
    refine wl rfl rfl rfl (p_pickF rfl rfl) ?_
    refine wl_nil ?_
    refine x_seq ?_
    refine wc_no rfl (rfl) ?_
    refine wc_skip ?_
    refine x_seq ?_
    refine wc_seq ?_
    refine wc_region ?_
    refine wl rfl rfl rfl (p_as rfl) ?_
    refine wl_nil ?_
    refine x_seq ?_
    refine wc_block ?_
    refine wc_loop (e' := [(0, .int .u64 (n : Int)), (1, .int .u64 (m : Int)), (4, .bool false), (5, .pointer (some ⟨g13, 0, none⟩)), (6, i64 (K : Int)), (7, i64 ((j + 1 : Nat) : Int)), (8, i64 ((0) : Int))]) (fun mz ez uz => ∃ i : Nat, ∃ O : Nat → Prop, mz = m % 4 - i ∧ ez = [(0, .int .u64 (n : Int)), (1, .int .u64 (m : Int)), (4, .bool false), (5, .pointer (some ⟨g13, 0, none⟩)), (6, i64 (K : Int)), (7, i64 ((j + 1 : Nat) : Int)), (8, i64 (i : Int))] ∧ (i ≤ m % 4) ∧ (CD TD w uz O g13 4 (aK K (j + 1))) ∧ (Ch No w uz))
      ⟨rfl, rfl, rfl, rfl, rfl, rfl, rfl, trivial⟩ ⟨0, O33, rfl, rfl, by omega, hd13, HC⟩ ?_
    rintro m1 e w8 ⟨i, O, hm1, rfl, hi, hd13, HC⟩
    have hzw8 := HC.size
    refine wc_seq ?_
    refine wc_seq ?_
    refine wc_region ?_
    refine wl rfl rfl rfl (p_mv rfl) ?_
    refine wl rfl rfl rfl (p_mv rfl) ?_
    refine wl rfl rfl rfl (p_rem (Z := ((m % 4 : Nat) : Int)) rfl rfl (by omega) rfl) ?_
    refine wl rfl rfl rfl (p_conv Try.underlying22 Try.underlying3 rfl (w64 (by omega))) ?_
    refine wl rfl rfl rfl (p_lt rfl rfl) ?_
    refine wl_nil ?_
    refine x_seq ?_
    refine wc_if rfl (fun c3 => ?_) (fun c3 => ?_)
    ·
      have c3 := of_decide_eq_true c3
      refine wc_skip ?_
      refine x_seq ?_
      refine wc_seq ?_
      refine wc_block ?_
      refine wc_seq ?_
      refine wc_seq ?_
      refine wc_region ?_
      refine wl rfl rfl rfl (p_mv rfl) ?_
      refine wle rfl (e_call ent14 rfl rfl (read_any (a := 0) (m := 1) hd13.at_ hd13.ok hd13.hn (by omega) (by omega) (by omega) (by omega)) ?_)
      rintro _ w9 ⟨A49, l49, c49, rfl, hl49, hS49, hc⟩
      refine ⟨_, rfl, ?_⟩
      have hzw9 := hc.size
      have HC := HC.tr hc
      have hphd13 := hd13.hi
      have hd13 := hd13.no hc
      have hS49 := hS49.mono (G := fun k => w8.heap.size ≤ k ∧ k < w9.heap.size) (fun k h1 h2 => ⟨by first | exact h2 | (have h3 : k = _ := h2; omega), h1⟩)
      have hohS49_hd13 : ∀ k, O k → k < w8.heap.size ∨ w9.heap.size ≤ k := fun k h => .inl (hphd13 k h)
      have e49 := aK_rd (k := K) (j := j + 1) (by omega)
      rw [e49] at hl49 hS49
      obtain rfl : l49 = 1 := hl49
      refine wl rfl rfl rfl (p_mv rfl) ?_
      refine wl rfl rfl rfl (p_ext rfl rfl) ?_
      refine wl rfl rfl rfl (p_ext rfl rfl) ?_
      refine wl rfl rfl rfl (p_as rfl) ?_
      refine wl rfl rfl rfl (p_as rfl) ?_
      refine wl_nil ?_
      refine x_seq ?_
      refine wc_seq ?_
      refine wc_region ?_
      refine wl rfl rfl rfl (p_mv rfl) ?_
      refine wl rfl rfl rfl (p_ne rfl rfl) ?_
      refine wl rfl rfl rfl (p_mv rfl) ?_
      refine wl_know (d := 54) (b' := false) rfl (decide_eq_false (by rw [e49]; exact fun h => h rfl)) ?_
      refine wl_g (gd_ rfl rfl rfl rfl rfl rfl) rfl rfl (p_mv rfl) ?_
      refine wl_g (gd_ rfl rfl rfl rfl rfl rfl) rfl rfl (p_lenS Try.underlying29 rfl) ?_
      refine wl_g (gd_ rfl rfl rfl rfl rfl rfl) rfl rfl (p_ne rfl rfl) ?_
      refine wl rfl rfl rfl (p_pickF rfl rfl) ?_
      refine wl rfl rfl rfl (p_mv rfl) ?_
      refine wl_know (d := 59) (b' := false) rfl (rfl) ?_
      refine wl_g (gd_ rfl rfl rfl rfl rfl rfl) rfl rfl (p_mv rfl) ?_
      obtain ⟨b10, o10, hA10, hF10, hc10⟩ := (hS49).opn (d := 0) (by omega)
      refine wl_g (gd_ rfl rfl rfl rfl rfl rfl) rfl rfl (p_ixS1 (j := 0) Try.underlying29 sz5 rfl hA10 rfl (by omega) (by omega) rfl) ?_
      refine wl_g (gd_ rfl rfl rfl rfl rfl rfl) rfl rfl (p_ld Try.underlying5 rfl rfl (ld (hc10 _ (by omega)))) ?_
      refine wl_g (gd_ rfl rfl rfl rfl rfl rfl) rfl rfl (p_mv rfl) ?_
      refine wl_g (gd_ rfl rfl rfl rfl rfl rfl) rfl rfl ((p_convU8 Try.underlying3 Try.underlying5 rfl (by omega)).to (show u8v _ = u8v (UInt8.ofNat (j + 1)) from rfl)) ?_
      refine wl_g (gd_ rfl rfl rfl rfl rfl rfl) rfl rfl (p_ne rfl rfl) ?_
      refine wl rfl rfl rfl (p_pickF rfl rfl) ?_
      refine wl_nil ?_
      refine x_seq ?_
      refine wc_no rfl (decide_eq_false (fun h => h rfl)) ?_
      refine wc_skip ?_
      refine x_seq ?_
      refine wc_seq ?_
      refine wc_region ?_
      refine wl rfl rfl rfl (p_mv rfl) ?_
      refine wle rfl (e_call ent12 rfl rfl (write_any (a := 0) hd13.at_ hd13.ok hd13.hn (fun _ h => .inr h) hd13.arm (by omega) (by omega) (Sl.nil (F := No)) (fun k hk => hk.elim) (by omega)) ?_)
      rintro _ w11 ⟨rfl, hdk, hc⟩
      refine ⟨_, rfl, ?_⟩
      obtain ⟨O68, hdn, hO68, hc⟩ := hd13.next hdk hc (wr_ok hd13.ok _ _) (Nat.le_trans (wr_arm _ _) hd13.arm) (by omega)
      have hzw11 := hc.size
      have HC := HC.trans hc (fun _ _ h => h) (fun k hk ht => absurd hk (by have := hd13.lo k ht; omega))
      have hS49 := hS49.ch hc (fun k hk ht => by have h1 := hohS49_hd13 k ht; have h2 : w8.heap.size ≤ k ∧ k < w9.heap.size := hk; omega)
      have hohS49_hd13 : ∀ k, O68 k → k < w8.heap.size ∨ w9.heap.size ≤ k := fun k h => (hO68 k h).elim (hohS49_hd13 k) (fun h => .inr (by omega))
      have hd13 := hdn
      rw [aK_nil] at hd13
      refine wl rfl rfl rfl (p_ne rfl rfl) ?_
      refine wl_nil ?_
      refine x_seq ?_
      refine wc_no rfl (decide_eq_false (by rw [aK_nil]; exact fun h => h rfl)) ?_
      refine wc_skip ?_
      refine x_in_normal ?_
      refine x_seq ?_
      refine wc_region ?_
      refine wl rfl rfl rfl (p_mv rfl) ?_
      refine wl rfl rfl rfl (p_add rfl rfl (w64 (by omega))) ?_
      refine wl rfl rfl rfl (p_as rfl) ?_
      refine wl_nil ?_
      refine x_round (e' := [(0, .int .u64 (n : Int)), (1, .int .u64 (m : Int)), (4, .bool false), (5, .pointer (some ⟨g13, 0, none⟩)), (6, i64 (K : Int)), (7, i64 ((j + 1 : Nat) : Int)), (8, i64 ((i + 1) : Int))]) ⟨rfl, rfl, rfl, rfl, rfl, rfl, rfl, trivial⟩ (by rw [hm1]; omega) ⟨i + 1, _, rfl, rfl, by omega, hd13, HC⟩
    ·
      have c3 := of_decide_eq_false c3
      refine wc_exit ?_
      refine x_then_exit ?_
      refine x_then_exit ?_
      refine x_in_here ?_
      refine x_in_normal ?_
      refine x_seq ?_
      refine wc_region ?_
      refine wl rfl rfl rfl (p_mv rfl) ?_
      refine wl rfl rfl rfl (p_add rfl rfl (w64 (by omega))) ?_
      refine wl rfl rfl rfl (p_as rfl) ?_
      refine wl_nil ?_
      refine x_round (e' := [(0, .int .u64 (n : Int)), (1, .int .u64 (m : Int)), (4, .bool false), (5, .pointer (some ⟨g13, 0, none⟩)), (6, i64 (K : Int)), (7, i64 (((j + 1) + 1 : Nat) : Int))]) ⟨rfl, rfl, rfl, rfl, rfl, rfl, trivial⟩ (by rw [hm0]; omega) ⟨j + 1, _, rfl, rfl, by omega, hd13, HC⟩
  ·
    have c1 := of_decide_eq_false c1
    refine wc_exit ?_
    refine x_then_exit ?_
    refine x_then_exit ?_
    refine x_in_here ?_
    refine x_seq ?_
    refine wc_seq ?_
    refine wc_seq ?_
    refine wc_region ?_
    refine wl rfl rfl rfl (p_mv rfl) ?_
    refine wle rfl (e_bslV (E := 5) rfl rfl (fun _ => by kernel_rfl) (fun w12 g71 hg71 hb71 hc hsz71 => ?_))
    have hzw12 := hc.size
    have HC := HC.tr hc
    have hphd13 := hd13.hi
    have hd13 := hd13.no hc
    have hge71 : w.heap.size ≤ g71 := by have := HC.size; omega
    have hS71 := Sl.lit1 (f := u8v) (x := 99) hb71
    have hS71 := hS71.mono (G := fun k => w4.heap.size ≤ k ∧ k < w12.heap.size) (fun k h1 h2 => ⟨by first | exact h2 | (have h3 : k = _ := h2; omega), h1⟩)
    have hohS71_hd13 : ∀ k, O k → k < w4.heap.size ∨ w12.heap.size ≤ k := fun k h => .inl (hphd13 k h)
    refine wle rfl (e_call ent12 rfl rfl (write_any (a := 0) hd13.at_ hd13.ok hd13.hn (fun _ h => .inr h) hd13.arm (by omega) (by omega) (hS71) (fun k hk => (fun hf => hf.elim (fun h => by have h1 := hohS71_hd13 k h; have h2 : w4.heap.size ≤ k ∧ k < w12.heap.size := hk; omega) (fun h => by have h2 : w4.heap.size ≤ k ∧ k < w12.heap.size := hk; omega))) (by omega)) ?_)
    rintro _ w13 ⟨rfl, hdk, hc⟩
    refine ⟨_, rfl, ?_⟩
    obtain ⟨O72, hdn, hO72, hc⟩ := hd13.next hdk hc (wr_ok hd13.ok _ _) (Nat.le_trans (wr_arm _ _) hd13.arm) (by omega)
    have hzw13 := hc.size
    have HC := HC.trans hc (fun _ _ h => h) (fun k hk ht => absurd hk (by have := hd13.lo k ht; omega))
    have hS71 := hS71.ch hc (fun k hk ht => by have h1 := hohS71_hd13 k ht; have h2 : w4.heap.size ≤ k ∧ k < w12.heap.size := hk; omega)
    have hohS71_hd13 : ∀ k, O72 k → k < w4.heap.size ∨ w12.heap.size ≤ k := fun k h => (hO72 k h).elim (hohS71_hd13 k) (fun h => .inr (by omega))
    have hd13 := hdn
    have hjK : j = K - 1 := by omega
    have e72 := aK_end (k := K) (by omega)
    rw [hjK, e72] at hd13
    refine wl rfl rfl rfl (p_ne rfl rfl) ?_
    refine wl rfl rfl rfl (p_mv rfl) ?_
    refine wl_know (d := 74) (b' := false) rfl (decide_eq_false (by rw [hjK, e72]; exact fun h => h rfl)) ?_
    refine wl_g (gd_ rfl rfl rfl rfl rfl rfl) rfl rfl (p_mv rfl) ?_
    refine wle_g (gd_ rfl rfl rfl rfl rfl rfl) (e_call ent13 rfl rfl (on_any hd13.at_) ?_)
    rintro _ w14 ⟨rfl, hc⟩
    refine ⟨_, rfl, ?_⟩
    have hzw14 := hc.size
    have HC := HC.tr hc
    have hphd13 := hd13.hi
    have hd13 := hd13.no hc
    have hS71 := hS71.no hc
    refine wl rfl rfl rfl (p_pickF rfl rfl) ?_
    refine wl rfl rfl rfl (p_mv rfl) ?_
    refine wl_g (gd_ rfl rfl rfl rfl rfl rfl) rfl rfl (p_mv rfl) ?_
    refine wle_g (gd_ rfl rfl rfl rfl rfl rfl) (e_call ent15 rfl rfl (start_any hd13.at_ ) ?_)
    rintro _ w15 ⟨rfl, hdk, hc⟩
    refine ⟨_, rfl, ?_⟩
    obtain ⟨O80, hdn, hO80, hc⟩ := hd13.next hdk hc (st_ok hd13.ok) (Nat.le_trans st_arm hd13.arm) (by omega)
    have hzw15 := hc.size
    have HC := HC.trans hc (fun _ _ h => h) (fun k hk ht => absurd hk (by have := hd13.lo k ht; omega))
    have hS71 := hS71.ch hc (fun k hk ht => by have h1 := hohS71_hd13 k ht; have h2 : w4.heap.size ≤ k ∧ k < w12.heap.size := hk; omega)
    have hohS71_hd13 : ∀ k, O80 k → k < w4.heap.size ∨ w12.heap.size ≤ k := fun k h => (hO80 k h).elim (hohS71_hd13 k) (fun h => .inr (by omega))
    have hd13 := hdn
    rw [aEnd_st] at hd13
    refine wl_g (gd_ rfl rfl rfl rfl rfl rfl) rfl rfl (p_not rfl) ?_
    refine wl rfl rfl rfl (p_pickF rfl rfl) ?_
    refine wl_nil ?_
    refine x_seq ?_
    refine wc_no rfl (rfl) ?_
    refine wc_skip ?_
    refine x_seq ?_
    refine wc_seq ?_
    refine wc_region ?_
    refine wl rfl rfl rfl (p_mv rfl) ?_
    refine wle rfl (e_call ent14 rfl rfl (read_any (a := 0) (m := 1) hd13.at_ hd13.ok hd13.hn (by omega) (by omega) (by omega) (by omega)) ?_)
    rintro _ w16 ⟨A85, l85, c85, rfl, hl85, hS85, hc⟩
    refine ⟨_, rfl, ?_⟩
    have hzw16 := hc.size
    have HC := HC.tr hc
    have hphd13 := hd13.hi
    have hd13 := hd13.no hc
    have hS71 := hS71.no hc
    have hS85 := hS85.mono (G := fun k => w15.heap.size ≤ k ∧ k < w16.heap.size) (fun k h1 h2 => ⟨by first | exact h2 | (have h3 : k = _ := h2; omega), h1⟩)
    have hohS85_hd13 : ∀ k, O80 k → k < w15.heap.size ∨ w16.heap.size ≤ k := fun k h => .inl (hphd13 k h)
    have e85 := aEnd2_rd
    rw [e85] at hl85 hS85
    obtain rfl : l85 = 1 := hl85
    refine wl rfl rfl rfl (p_mv rfl) ?_
    refine wl rfl rfl rfl (p_ext rfl rfl) ?_
    refine wl rfl rfl rfl (p_ext rfl rfl) ?_
    refine wl rfl rfl rfl (p_as rfl) ?_
    refine wl rfl rfl rfl (p_as rfl) ?_
    refine wl_nil ?_
    refine x_seq ?_
    refine wc_seq ?_
    refine wc_region ?_
    refine wl rfl rfl rfl (p_mv rfl) ?_
    refine wl rfl rfl rfl (p_eq rfl rfl) ?_
    refine wl rfl rfl rfl (p_mv rfl) ?_
    refine wl_know (d := 90) (b' := true) rfl (decide_eq_true (by rw [e85])) ?_
    refine wl_g (gd_ rfl rfl rfl rfl rfl rfl) rfl rfl (p_mv rfl) ?_
    refine wl_g (gd_ rfl rfl rfl rfl rfl rfl) rfl rfl (p_lenS Try.underlying29 rfl) ?_
    refine wl_g (gd_ rfl rfl rfl rfl rfl rfl) rfl rfl (p_eq rfl rfl) ?_
    refine wl rfl rfl rfl (p_pickT rfl rfl) ?_
    refine wl rfl rfl rfl (p_mv rfl) ?_
    refine wl_know (d := 95) (b' := true) rfl (rfl) ?_
    refine wl_g (gd_ rfl rfl rfl rfl rfl rfl) rfl rfl (p_mv rfl) ?_
    obtain ⟨b17, o17, hA17, hF17, hc17⟩ := (hS85).opn (d := 0) (by omega)
    refine wl_g (gd_ rfl rfl rfl rfl rfl rfl) rfl rfl (p_ixS1 (j := 0) Try.underlying29 sz5 rfl hA17 rfl (by omega) (by omega) rfl) ?_
    refine wl_g (gd_ rfl rfl rfl rfl rfl rfl) rfl rfl (p_ld Try.underlying5 rfl rfl (ld (hc17 _ (by omega)))) ?_
    refine wl_g (gd_ rfl rfl rfl rfl rfl rfl) rfl rfl (p_eq rfl rfl) ?_
    refine wl rfl rfl rfl (p_pickT rfl rfl) ?_
    refine wl rfl rfl rfl (p_mv rfl) ?_
    refine wl_know (d := 101) (b' := true) rfl (rfl) ?_
    refine wl_g (gd_ rfl rfl rfl rfl rfl rfl) rfl rfl (p_mv rfl) ?_
    refine wle_g (gd_ rfl rfl rfl rfl rfl rfl) (e_bslV (E := 5) rfl rfl (fun _ => by kernel_rfl) (fun w18 g103 hg103 hb103 hc hsz103 => ?_))
    have hzw18 := hc.size
    have HC := HC.tr hc
    have hphd13 := hd13.hi
    have hd13 := hd13.no hc
    have hS71 := hS71.no hc
    have hS85 := hS85.no hc
    have hge103 : w.heap.size ≤ g103 := by have := HC.size; omega
    have hS103 := Sl.lit1 (f := u8v) (x := 1) hb103
    have hS103 := hS103.mono (G := fun k => w16.heap.size ≤ k ∧ k < w18.heap.size) (fun k h1 h2 => ⟨by first | exact h2 | (have h3 : k = _ := h2; omega), h1⟩)
    have hohS103_hd13 : ∀ k, O80 k → k < w16.heap.size ∨ w18.heap.size ≤ k := fun k h => .inl (hphd13 k h)
    refine wle_g (gd_ rfl rfl rfl rfl rfl rfl) (e_call ent12 rfl rfl (write_any (a := 0) hd13.at_ hd13.ok hd13.hn (fun _ h => .inr h) hd13.arm (by omega) (by omega) (hS103) (fun k hk => (fun hf => hf.elim (fun h => by have h1 := hohS103_hd13 k h; have h2 : w16.heap.size ≤ k ∧ k < w18.heap.size := hk; omega) (fun h => by have h2 : w16.heap.size ≤ k ∧ k < w18.heap.size := hk; omega))) (by omega)) ?_)
    rintro _ w19 ⟨rfl, hdk, hc⟩
    refine ⟨_, rfl, ?_⟩
    obtain ⟨O104, hdn, hO104, hc⟩ := hd13.next hdk hc (wr_ok hd13.ok _ _) (Nat.le_trans (wr_arm _ _) hd13.arm) (by omega)
    have hzw19 := hc.size
    have HC := HC.trans hc (fun _ _ h => h) (fun k hk ht => absurd hk (by have := hd13.lo k ht; omega))
    have hS71 := hS71.ch hc (fun k hk ht => by have h1 := hohS71_hd13 k ht; have h2 : w4.heap.size ≤ k ∧ k < w12.heap.size := hk; omega)
    have hS85 := hS85.ch hc (fun k hk ht => by have h1 := hohS85_hd13 k ht; have h2 : w15.heap.size ≤ k ∧ k < w16.heap.size := hk; omega)
    have hS103 := hS103.ch hc (fun k hk ht => by have h1 := hohS103_hd13 k ht; have h2 : w16.heap.size ≤ k ∧ k < w18.heap.size := hk; omega)
    have hohS71_hd13 : ∀ k, O104 k → k < w4.heap.size ∨ w12.heap.size ≤ k := fun k h => (hO104 k h).elim (hohS71_hd13 k) (fun h => .inr (by omega))
    have hohS85_hd13 : ∀ k, O104 k → k < w15.heap.size ∨ w16.heap.size ≤ k := fun k h => (hO104 k h).elim (hohS85_hd13 k) (fun h => .inr (by omega))
    have hohS103_hd13 : ∀ k, O104 k → k < w16.heap.size ∨ w18.heap.size ≤ k := fun k h => (hO104 k h).elim (hohS103_hd13 k) (fun h => .inr (by omega))
    have hd13 := hdn
    refine wl_g (gd_ rfl rfl rfl rfl rfl rfl) rfl rfl (p_eq rfl rfl) ?_
    refine wl rfl rfl rfl (p_pickT rfl rfl) ?_
    refine wl rfl rfl rfl (p_mv rfl) ?_
    refine wl_know (d := 107) (b' := true) rfl (decide_eq_true aEnd2_wr) ?_
    refine wle_g (gd_ rfl rfl rfl rfl rfl rfl) (e_call ent16 rfl rfl (lives5_any) ?_)
    rintro _ w20 ⟨rfl, hc⟩
    refine ⟨_, rfl, ?_⟩
    have hzw20 := hc.size
    have HC := HC.tr hc
    have hphd13 := hd13.hi
    have hd13 := hd13.no hc
    have hS71 := hS71.no hc
    have hS85 := hS85.no hc
    have hS103 := hS103.no hc
    refine wl rfl rfl rfl (p_pickT rfl rfl) ?_
    refine wl rfl rfl rfl (p_as rfl) ?_
    refine wl_nil ?_
    refine x_seq ?_
    refine wc_ret ?_
    refine fin_run (res1 rfl rfl) ?_
    exact ⟨rfl, HC⟩
end Go.Proofs.Ytcgapjieidmkpaa
