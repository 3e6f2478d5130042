/-
  Own text, printed by a program of mine (wip/gx): what functions of the program do, walked operation by operation.
-/
import Derived.Test.YtcgapjieidmkpaaProg
import Derived.Test.YtcgapjieidmkpaaGxAgg
import Derived.Test.YtcgapjieidmkpaaTab
import Derived.Test.YtcgapjieidmkpaaPlDisk
import Derived.Test.YtcgapjieidmkpaaPlDiskSt
import Derived.Test.YtcgapjieidmkpaaPlDiskOk
import Derived.Test.YtcgapjieidmkpaaPlDiskC
import Derived.Test.YtcgapjieidmkpaaPlActD
import Derived.Test.YtcgapjieidmkpaaPlActs
import Derived.Test.YtcgapjieidmkpaaPlDiskLaw
import Derived.Test.YtcgapjieidmkpaaDTb
import Derived.Test.YtcgapjieidmkpaaDX
import Derived.Test.YtcgapjieidmkpaaDxC
set_option linter.unusedVariables false
namespace Go.Proofs.Ytcgapjieidmkpaa
open Go.RowKit Go.Gx
open Go.Plain
set_option maxHeartbeats 1000000 in
set_option maxRecDepth 20000 in
theorem ints_any {w : World} {Ax : Option Addr} {lx cx : Nat} {Fx : Nat → Prop} {x : List Int} {Ay : Option Addr} {ly cy : Nat} {Fy : Nat → Prop} {y : List Int} (hx : Sl w Fx i64 Ax lx cx x) (hy : Sl w Fy i64 Ay ly cy y) (hl : lx ≤ 9223372036854775807) :
    Calls Try.prog 21 #[.slice Ax lx cx, .slice Ay ly cy] w fun e w' => e = .returned (.bool (decide (x = y))) ∧ Ch No w w' := by
  have hxl := hx.len
  have hyl := hy.len
  have hx := hx.old
  have hy := hy.old
  have HC : Ch No w w := Ch.refl _ _
  refine enter' (args := [.slice Ax lx cx, .slice Ay ly cy]) (n := 26) Try.func21 rfl rfl rfl ?_
  refine wc_seq ?_
  refine wc_region ?_
  refine wl rfl rfl rfl (p_as rfl) ?_
  refine wl_nil ?_
  refine x_seq ?_
  refine wc_seq ?_
  refine wc_seq ?_
  refine wc_region ?_
  refine wl rfl rfl rfl (p_mv rfl) ?_
  refine wl rfl rfl rfl (p_lenS Try.underlying26 rfl) ?_
  refine wl rfl rfl rfl (p_mv rfl) ?_
  refine wl rfl rfl rfl (p_lenS Try.underlying26 rfl) ?_
  refine wl rfl rfl rfl (p_ne rfl rfl) ?_
  refine wl_nil ?_
  refine x_seq ?_
  refine wc_if rfl (fun c0 => ?_) (fun c0 => ?_)
  ·
    have c0 := of_decide_eq_true c0
    have hne : ¬ x = y := fun e => c0 (by rw [← hxl, ← hyl, e])
    refine wc_seq ?_
    refine wc_region ?_
    refine wl rfl rfl rfl (p_as rfl) ?_
    refine wl_nil ?_
    refine x_seq ?_
    refine wc_ret ?_
    refine x_then_ret ?_
    refine fin_run (res1 rfl rfl) ?_
    first
      | (rw [decide_eq_true heq]; exact ⟨rfl, HC⟩)
      | (rw [decide_eq_false hne]; exact ⟨rfl, HC⟩)
  ·
    have c0 := of_decide_eq_false c0
    have hll : lx = ly := by omega
    refine wc_skip ?_
    refine x_seq ?_
    refine wc_seq ?_
    refine wc_seq ?_
    refine wc_region ?_
    refine wl rfl rfl rfl (p_mv rfl) ?_
    refine wl rfl rfl rfl (p_lenS Try.underlying26 rfl) ?_
    refine wl rfl rfl rfl (p_mv rfl) ?_
    refine wl_nil ?_
    refine x_seq ?_
    refine wc_block ?_
    refine wc_loop (e' := [(0, .slice Ax lx cx), (1, .slice Ay ly cy), (12, i64 (lx : Int)), (13, i64 ((0) : Int))]) (fun mz ez uz => ∃ k : Nat, mz = lx - k ∧ ez = [(0, .slice Ax lx cx), (1, .slice Ay ly cy), (12, i64 (lx : Int)), (13, i64 (k : Int))] ∧ (k ≤ lx) ∧ (∀ j, j < k → x.getD j 0 = y.getD j 0) ∧ (Sl uz (fun k => k < w.heap.size) i64 Ax lx cx x) ∧ (Sl uz (fun k => k < w.heap.size) i64 Ay ly cy y) ∧ (Ch No w uz))
      ⟨rfl, rfl, rfl, rfl, trivial⟩ ⟨0, rfl, rfl, by omega, (fun j hj => by omega), hx, hy, HC⟩ ?_
    rintro m0 e w1 ⟨k, hm0, rfl, hk, hno, hx, hy, HC⟩
    have hzw1 := HC.size
    refine wc_seq ?_
    refine wc_region ?_
    refine wl rfl rfl rfl (p_lt rfl rfl) ?_
    refine wl_nil ?_
    refine x_seq ?_
    refine wc_seq ?_
    refine wc_if rfl (fun c1 => ?_) (fun c1 => ?_)
    ·
      have c1 := of_decide_eq_true c1
      refine wc_skip ?_
      refine x_seq ?_
      refine wc_seq ?_
      refine wc_block ?_
      refine wc_seq ?_
      refine wc_region ?_
      refine wl rfl rfl rfl (p_mv rfl) ?_
      refine wl rfl rfl rfl (p_as rfl) ?_
      refine wl_nil ?_
      refine x_seq ?_
      refine wc_seq ?_
      refine wc_draw (.st 0 0 (.st 1 0 (.st 2 0 (.st 3 1 (.st 4 0 (.st 5 0 (.st 6 0 (.st 7 1 (.st 8 0 .nil))))))))) 9 (by kernel_rfl) (by kernel_rfl) (by kernel_rfl) (by repeat (first | with_reducible exact pan_body | with_reducible apply pan_then | with_reducible apply pan_in)) (fun x => Ch No w1.drew x) (Ch.refl _ _) ?_
      obtain ⟨w2, ew2⟩ : ∃ x, x = w1.drew := ⟨_, rfl⟩
      rw [← ew2]
      have hc : Ch No w1 w2 := by rw [ew2]; exact Ch.drew _
      have hszw2 : w2.heap.size = w1.heap.size := by rw [ew2]; rfl
      clear ew2
      have hzw2 := hc.size
      have HC := HC.tr hc
      have hx := hx.no hc
      have hy := hy.no hc
      have hS : Ch No w2 w2 := Ch.refl _ _
      refine ws_p rfl rfl rfl rfl (p_mv rfl) ?_
      refine ws_p rfl rfl rfl rfl (p_mv rfl) ?_
      obtain ⟨b3, o3, hA3, hF3, hc3⟩ := (hx).opn (d := 0) (by omega)
      refine ws_p rfl rfl rfl rfl (p_ixS1 Try.underlying26 sz3 rfl hA3 rfl (by omega) (by omega) (Int.toNat_natCast _)) ?_
      refine ws_h rfl rfl rfl rfl (p_ld Try.underlying3 rfl rfl (fun _ h => h.cell (fun h => h) (hc3 _ (by omega)))) ?_
      refine ws_p rfl rfl rfl rfl (p_mv rfl) ?_
      refine ws_p rfl rfl rfl rfl (p_mv rfl) ?_
      obtain ⟨b4, o4, hA4, hF4, hc4⟩ := (hy).opn (d := 0) (by omega)
      refine ws_p rfl rfl rfl rfl (p_ixS1 Try.underlying26 sz3 rfl hA4 rfl (by omega) (by omega) (Int.toNat_natCast _)) ?_
      refine ws_h rfl rfl rfl rfl (p_ld Try.underlying3 rfl rfl (fun _ h => h.cell (fun h => h) (hc4 _ (by omega)))) ?_
      refine ws_p rfl rfl rfl rfl (p_ne rfl rfl) ?_
      refine ws_n ?_
      refine x_seq ?_
      refine wc_if rfl (fun c2 => ?_) (fun c2 => ?_)
      ·
        have c2 := of_decide_eq_true c2
        have hne : ¬ x = y := fun e => c2 (by rw [e])
        refine wc_seq ?_
        refine wc_region ?_
        refine wl rfl rfl rfl (p_as rfl) ?_
        refine wl_nil ?_
        refine x_seq ?_
        refine wc_ret ?_
        refine x_in_ret ?_
        refine x_then_ret ?_
        refine x_then_ret ?_
        refine x_in_ret ?_
        refine x_then_ret ?_
        refine fin_run (res1 rfl rfl) ?_
        first
          | (rw [decide_eq_true heq]; exact ⟨rfl, HC⟩)
          | (rw [decide_eq_false hne]; exact ⟨rfl, HC⟩)
      ·
        have c2 := of_decide_eq_false c2
        have hno : ∀ j, j < k + 1 → x.getD j 0 = y.getD j 0 := fun j hj => by
          rcases Nat.lt_or_ge j k with h | h
          · exact hno j h
          · have : j = k := by omega
            rw [this]; exact Decidable.not_not.1 c2
        refine wc_skip ?_
        refine x_in_normal ?_
        refine x_seq ?_
        refine wc_region ?_
        refine wl rfl rfl rfl (p_add rfl rfl (w64 (by omega))) ?_
        refine wl rfl rfl rfl (p_mv rfl) ?_
        refine wl_nil ?_
        refine x_round (e' := [(0, .slice Ax lx cx), (1, .slice Ay ly cy), (12, i64 (lx : Int)), (13, i64 ((k + 1) : Int))]) ⟨rfl, rfl, rfl, rfl, trivial⟩ (by rw [hm0]; omega) ⟨k + 1, rfl, rfl, by omega, hno, hx, hy, HC⟩
    ·
      have c1 := of_decide_eq_false c1
      have heq : x = y := ext_getD (d := 0) (by omega) (fun j hj => hno j (by omega))
      refine wc_exit ?_
      refine x_then_exit ?_
      refine x_then_exit ?_
      refine x_in_here ?_
      refine x_seq ?_
      refine wc_seq ?_
      refine wc_region ?_
      refine wl rfl rfl rfl (p_as rfl) ?_
      refine wl_nil ?_
      refine x_seq ?_
      refine wc_ret ?_
      refine fin_run (res1 rfl rfl) ?_
      first
        | (rw [decide_eq_true heq]; exact ⟨rfl, HC⟩)
        | (rw [decide_eq_false hne]; exact ⟨rfl, HC⟩)

set_option maxHeartbeats 1000000 in
set_option maxRecDepth 20000 in
theorem lives5_any {w : World}   :
    Calls Try.prog 16 #[] w fun e w' => e = .returned (.bool true) ∧ Ch No w w' := by
  have HC : Ch No w w := Ch.refl _ _
  refine enter' (args := []) (n := 55) Try.func16 rfl rfl rfl ?_
  refine wc_seq ?_
  refine wc_region ?_
  refine wl rfl rfl rfl (p_as rfl) ?_
  refine wl_nil ?_
  refine x_seq ?_
  refine wc_seq ?_
  refine wc_region ?_
  refine wle rfl (e_call ent10 rfl rfl (new_any (n := 2) (by omega) (by omega)) ?_)
  rintro _ w1 ⟨g9, rfl, hg9, hdk, hc⟩
  refine ⟨_, rfl, ?_⟩
  have hzw1 := hc.size
  have HC := HC.tr hc
  obtain ⟨O9, hd9, hOl9⟩ := CD.first (w0 := w) hdk (newD_ok _) (by omega) (Nat.zero_le _) (Nat.zero_le _) (by omega)
  refine wl rfl rfl rfl (p_as rfl) ?_
  refine wl_nil ?_
  refine x_seq ?_
  refine wc_seq ?_
  refine wc_region ?_
  refine wl rfl rfl rfl (p_mv rfl) ?_
  refine wle rfl (e_bslV (E := 5) rfl rfl (fun _ => by kernel_rfl) (fun w2 g11 hg11 hb11 hc hsz11 => ?_))
  have hzw2 := hc.size
  have HC := HC.tr hc
  have hphd9 := hd9.hi
  have hd9 := hd9.no hc
  have hge11 : w.heap.size ≤ g11 := by have := HC.size; omega
  have hS11 := Sl.lit (f := u8v) (xs := [48, 49, 50, 51, 52, 53, 54, 55, 56, 57, 48, 49, 50, 51, 52, 53, 54, 55, 56, 57, 48, 49, 50, 51, 52, 53, 54, 55, 56, 57, 48, 49, 50, 51, 52, 53, 54, 55, 56, 57]) hb11 rfl rfl
  have hS11 := hS11.mono (G := fun k => w1.heap.size ≤ k ∧ k < w2.heap.size) (fun k h1 h2 => ⟨by first | exact h2 | (have h3 : k = _ := h2; omega), h1⟩)
  have hohS11_hd9 : ∀ k, O9 k → k < w1.heap.size ∨ w2.heap.size ≤ k := fun k h => .inl (hphd9 k h)
  refine wle rfl (e_mark (xs := [48, 49, 50, 51, 52, 53, 54, 55, 56, 57, 48, 49, 50, 51, 52, 53, 54, 55, 56, 57, 48, 49, 50, 51, 52, 53, 54, 55, 56, 57, 48, 49, 50, 51, 52, 53, 54, 55, 56, 57]) rfl Try.underlying29 Try.underlying5 rfl hb11 rfl rfl (by omega) (fun w3 hS11 hc hsz => ?_))
  have hzw3 := hc.size
  have HC := HC.trans hc (fun _ _ h => h) (fun k hk ht => absurd ht (by omega))
  have hd9 := hd9.other hc (fun k hk ht => by have h1 := hohS11_hd9 k hk; have h2 : k = g11 := ht; omega)
  have hS11 := hS11.mono (G := fun k => w1.heap.size ≤ k ∧ k < w2.heap.size) (fun k h1 h2 => by have h3 : k = _ := h2; omega)
  refine wle rfl (e_call ent12 rfl rfl (write_any (a := 0) hd9.at_ hd9.ok hd9.hn (fun _ h => .inr h) hd9.arm (by omega) (by omega) (hS11) (fun k hk => (fun hf => hf.elim (fun h => by have h1 := hohS11_hd9 k h; have h2 : w1.heap.size ≤ k ∧ k < w2.heap.size := hk; omega) (fun h => by have h2 : w1.heap.size ≤ k ∧ k < w2.heap.size := hk; omega))) (by omega)) ?_)
  rintro _ w4 ⟨rfl, hdk, hc⟩
  refine ⟨_, rfl, ?_⟩
  obtain ⟨O13, hdn, hO13, hc⟩ := hd9.next hdk hc (wr_ok hd9.ok _ _) (Nat.le_trans (wr_arm _ _) hd9.arm) (by rw [wr_keep]; exact hd9.kp) (by omega)
  have hzw4 := hc.size
  have HC := HC.trans hc (fun _ _ h => h) (fun k hk ht => absurd hk (by have := hd9.lo k ht; omega))
  have hS11 := hS11.ch hc (fun k hk ht => by have h1 := hohS11_hd9 k ht; have h2 : w1.heap.size ≤ k ∧ k < w2.heap.size := hk; omega)
  have hohS11_hd9 : ∀ k, O13 k → k < w1.heap.size ∨ w2.heap.size ≤ k := fun k h => (hO13 k h).elim (hohS11_hd9 k) (fun h => .inr (by omega))
  have hd9 := hdn
  refine wl rfl rfl rfl (p_as rfl) ?_
  refine wl_nil ?_
  refine x_seq ?_
  refine wc_seq ?_
  refine wc_region ?_
  refine wl rfl rfl rfl (p_mv rfl) ?_
  refine wle rfl (e_bslV (E := 3) rfl rfl (fun _ => by kernel_rfl) (fun w5 g15 hg15 hb15 hc hsz15 => ?_))
  have hzw5 := hc.size
  have HC := HC.tr hc
  have hphd9 := hd9.hi
  have hd9 := hd9.no hc
  have hS11 := hS11.no hc
  have hge15 : w.heap.size ≤ g15 := by have := HC.size; omega
  have hS15 := Sl.lit1 (f := i64) (x := 1) hb15
  have hS15 := hS15.mono (G := fun k => w4.heap.size ≤ k ∧ k < w5.heap.size) (fun k h1 h2 => ⟨by first | exact h2 | (have h3 : k = _ := h2; omega), h1⟩)
  have hohS15_hd9 : ∀ k, O13 k → k < w4.heap.size ∨ w5.heap.size ≤ k := fun k h => .inl (hphd9 k h)
  refine wle rfl (e_call ent20 rfl rfl (crash_any (tn := 0) hd9.at_ (hS15) (by have := (hS15).cap; omega) (fun k hk => .inl (fun hf => hf.elim (fun h => by have h1 := hohS15_hd9 k h; have h2 : w4.heap.size ≤ k ∧ k < w5.heap.size := hk; omega) (fun h => by have h2 : w4.heap.size ≤ k ∧ k < w5.heap.size := hk; omega))) hd9.ok hd9.hn (fun _ h => .inr h)) ?_)
  rintro _ w6 ⟨rfl, hdk, hc⟩
  refine ⟨_, rfl, ?_⟩
  obtain ⟨O16, hdn, hO16, hc⟩ := hd9.next hdk hc (cr_ok hd9.ok _ _) (Nat.le_trans (cr_arm _ _) hd9.arm) (by rw [cr_keep]; exact hd9.kp) (by omega)
  have hzw6 := hc.size
  have HC := HC.trans hc (fun _ _ h => h) (fun k hk ht => absurd hk (by have := hd9.lo k ht; omega))
  have hS11 := hS11.ch hc (fun k hk ht => by have h1 := hohS11_hd9 k ht; have h2 : w1.heap.size ≤ k ∧ k < w2.heap.size := hk; omega)
  have hS15 := hS15.ch hc (fun k hk ht => by have h1 := hohS15_hd9 k ht; have h2 : w4.heap.size ≤ k ∧ k < w5.heap.size := hk; omega)
  have hohS11_hd9 : ∀ k, O16 k → k < w1.heap.size ∨ w2.heap.size ≤ k := fun k h => (hO16 k h).elim (hohS11_hd9 k) (fun h => .inr (by omega))
  have hohS15_hd9 : ∀ k, O16 k → k < w4.heap.size ∨ w5.heap.size ≤ k := fun k h => (hO16 k h).elim (hohS15_hd9 k) (fun h => .inr (by omega))
  have hd9 := hdn
  refine wl rfl rfl rfl (p_as rfl) ?_
  refine wl_nil ?_
  refine x_seq ?_
  refine wc_seq ?_
  refine wc_region ?_
  refine wl rfl rfl rfl (p_mv rfl) ?_
  refine wle rfl (e_call ent15 rfl rfl (start_any hd9.at_ ) ?_)
  rintro _ w7 ⟨rfl, hdk, hc⟩
  refine ⟨_, rfl, ?_⟩
  obtain ⟨O18, hdn, hO18, hc⟩ := hd9.next hdk hc (st_ok hd9.ok) (Nat.le_trans st_arm hd9.arm) (by rw [st_keep]; exact hd9.kp) (by omega)
  have hzw7 := hc.size
  have HC := HC.trans hc (fun _ _ h => h) (fun k hk ht => absurd hk (by have := hd9.lo k ht; omega))
  have hS11 := hS11.ch hc (fun k hk ht => by have h1 := hohS11_hd9 k ht; have h2 : w1.heap.size ≤ k ∧ k < w2.heap.size := hk; omega)
  have hS15 := hS15.ch hc (fun k hk ht => by have h1 := hohS15_hd9 k ht; have h2 : w4.heap.size ≤ k ∧ k < w5.heap.size := hk; omega)
  have hohS11_hd9 : ∀ k, O18 k → k < w1.heap.size ∨ w2.heap.size ≤ k := fun k h => (hO18 k h).elim (hohS11_hd9 k) (fun h => .inr (by omega))
  have hohS15_hd9 : ∀ k, O18 k → k < w4.heap.size ∨ w5.heap.size ≤ k := fun k h => (hO18 k h).elim (hohS15_hd9 k) (fun h => .inr (by omega))
  have hd9 := hdn
  refine wl rfl rfl rfl (p_as rfl) ?_
  refine wl_nil ?_
  refine x_seq ?_
  refine wc_seq ?_
  refine wc_region ?_
  refine wl rfl rfl rfl (p_mv rfl) ?_
  refine wle rfl (e_call ent14 rfl rfl (read_any (a := 32) (m := 8) hd9.at_ hd9.ok hd9.hn (by omega) (by omega) (by omega) (by omega)) ?_)
  rintro _ w8 ⟨A21, l21, c21, rfl, hl21, hS21, hc⟩
  refine ⟨_, rfl, ?_⟩
  have hzw8 := hc.size
  have HC := HC.tr hc
  have hphd9 := hd9.hi
  have hd9 := hd9.no hc
  have hS11 := hS11.no hc
  have hS15 := hS15.no hc
  have hS21 := hS21.mono (G := fun k => w7.heap.size ≤ k ∧ k < w8.heap.size) (fun k h1 h2 => ⟨by first | exact h2 | (have h3 : k = _ := h2; omega), h1⟩)
  have hohS21_hd9 : ∀ k, O18 k → k < w7.heap.size ∨ w8.heap.size ≤ k := fun k h => .inl (hphd9 k h)
  refine wl rfl rfl rfl (p_mv rfl) ?_
  refine wl rfl rfl rfl (p_ext rfl rfl) ?_
  refine wl rfl rfl rfl (p_ext rfl rfl) ?_
  refine wl rfl rfl rfl (p_as rfl) ?_
  refine wl rfl rfl rfl (p_as rfl) ?_
  refine wl_nil ?_
  refine x_seq ?_
  refine wc_seq ?_
  refine wc_region ?_
  refine wl rfl rfl rfl (p_mv rfl) ?_
  refine wle rfl (e_call ent14 rfl rfl (read_any (a := 0) (m := 1) hd9.at_ hd9.ok hd9.hn (by omega) (by omega) (by omega) (by omega)) ?_)
  rintro _ w9 ⟨A26, l26, c26, rfl, hl26, hS26, hc⟩
  refine ⟨_, rfl, ?_⟩
  have hzw9 := hc.size
  have HC := HC.tr hc
  have hphd9 := hd9.hi
  have hd9 := hd9.no hc
  have hS11 := hS11.no hc
  have hS15 := hS15.no hc
  have hS21 := hS21.no hc
  have hS26 := hS26.mono (G := fun k => w8.heap.size ≤ k ∧ k < w9.heap.size) (fun k h1 h2 => ⟨by first | exact h2 | (have h3 : k = _ := h2; omega), h1⟩)
  have hohS26_hd9 : ∀ k, O18 k → k < w8.heap.size ∨ w9.heap.size ≤ k := fun k h => .inl (hphd9 k h)
  refine wl rfl rfl rfl (p_mv rfl) ?_
  refine wl rfl rfl rfl (p_ext rfl rfl) ?_
  refine wl rfl rfl rfl (p_ext rfl rfl) ?_
  refine wl rfl rfl rfl (p_as rfl) ?_
  refine wl rfl rfl rfl (p_as rfl) ?_
  refine wl_nil ?_
  refine x_seq ?_
  refine wc_seq ?_
  refine wc_region ?_
  refine wl rfl rfl rfl (p_mv rfl) ?_
  refine wl rfl rfl rfl (p_eq rfl rfl) ?_
  refine wl rfl rfl rfl (p_mv rfl) ?_
  refine wl_know (d := 31) (b' := true) rfl (by decide +kernel) ?_
  refine wl_g (gd_ rfl rfl rfl rfl rfl rfl) rfl rfl (p_mv rfl) ?_
  refine wl rfl rfl rfl (p_pickT rfl rfl) ?_
  refine wl rfl rfl rfl (p_mv rfl) ?_
  refine wl_know (d := 34) (b' := true) rfl (by decide +kernel) ?_
  refine wl_g (gd_ rfl rfl rfl rfl rfl rfl) rfl rfl (p_mv rfl) ?_
  refine wl rfl rfl rfl (p_pickT rfl rfl) ?_
  refine wl rfl rfl rfl (p_mv rfl) ?_
  refine wl_know (d := 37) (b' := true) rfl (by decide +kernel) ?_
  refine wl_g (gd_ rfl rfl rfl rfl rfl rfl) rfl rfl (p_mv rfl) ?_
  refine wl_g (gd_ rfl rfl rfl rfl rfl rfl) rfl rfl (p_eq rfl rfl) ?_
  refine wl rfl rfl rfl (p_pickT rfl rfl) ?_
  refine wl rfl rfl rfl (p_mv rfl) ?_
  refine wl_know (d := 41) (b' := true) rfl (by decide +kernel) ?_
  refine wl_g (gd_ rfl rfl rfl rfl rfl rfl) rfl rfl (p_mv rfl) ?_
  refine wl_g (gd_ rfl rfl rfl rfl rfl rfl) rfl rfl (p_bts Try.underlying29 Try.underlying5 Try.underlying9 rfl ((hS21).mono (G := fun _ => True) (fun _ _ _ => trivial)).len (fun _ e => e ▸ ((hS21).mono (G := fun _ => True) (fun _ _ _ => trivial)).rd)) ?_
  refine wl_g (gd_ rfl rfl rfl rfl rfl rfl) rfl rfl (p_eqT rfl rfl) ?_
  refine wl rfl rfl rfl (p_pickT rfl rfl) ?_
  refine wl rfl rfl rfl (p_mv rfl) ?_
  refine wl_know (d := 46) (b' := true) rfl (by decide +kernel) ?_
  refine wl_g (gd_ rfl rfl rfl rfl rfl rfl) rfl rfl (p_mv rfl) ?_
  refine wl_g (gd_ rfl rfl rfl rfl rfl rfl) rfl rfl (p_eq rfl rfl) ?_
  refine wl rfl rfl rfl (p_pickT rfl rfl) ?_
  refine wl rfl rfl rfl (p_mv rfl) ?_
  refine wl_know (d := 50) (b' := true) rfl (by decide +kernel) ?_
  refine wl_g (gd_ rfl rfl rfl rfl rfl rfl) rfl rfl (p_mv rfl) ?_
  refine wl_g (gd_ rfl rfl rfl rfl rfl rfl) rfl rfl (p_bts Try.underlying29 Try.underlying5 Try.underlying9 rfl ((hS26).mono (G := fun _ => True) (fun _ _ _ => trivial)).len (fun _ e => e ▸ ((hS26).mono (G := fun _ => True) (fun _ _ _ => trivial)).rd)) ?_
  refine wl_g (gd_ rfl rfl rfl rfl rfl rfl) rfl rfl (p_eqT rfl rfl) ?_
  refine wl rfl rfl rfl (p_pickT rfl rfl) ?_
  refine wl rfl rfl rfl (p_as rfl) ?_
  refine wl_nil ?_
  refine x_seq ?_
  refine wc_ret ?_
  refine fin_run (res1 rfl rfl) ?_
  exact ⟨congrArg (fun b => Ending.returned (.bool b)) (by decide +kernel), HC⟩
end Go.Proofs.Ytcgapjieidmkpaa
