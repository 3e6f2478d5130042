/-
  Own text, printed by a program of mine (wip/gx): what functions of the program do, walked operation by operation.
-/
import Derived.Test.YtdbdconmcgcooaaDoorProg
import Derived.Test.YtdbdconmcgcooaaDoorGxAgg
import Derived.Test.YtdbdconmcgcooaaDoorTab
import Derived.Test.YtdbdconmcgcooaaDoorPlPack
import Derived.Test.YtdbdconmcgcooaaDoorPlSum
import Derived.Test.YtdbdconmcgcooaaDoorPlSha
import Derived.Test.YtdbdconmcgcooaaDoorPlShaSt
import Derived.Test.YtdbdconmcgcooaaDoorPlShaB
set_option linter.unusedVariables false
namespace Go.Proofs.YtdbdconmcgcooaaDoor
open Go.RowKit Go.Gx
open Go.Plain
set_option maxHeartbeats 1000000 in
set_option maxRecDepth 20000 in
theorem rotl_any {w : World} {x : BitVec 32} {r : Nat} (h1 : 1 ≤ r) (h2 : r ≤ 31) :
    Calls Tryd.prog 80 #[u32v x, i64 (-(r : Int))] w fun e w' => e = .returned (u32v (rotr x r)) ∧ Ch No w w' := by
  have HC : Ch No w w := Ch.refl _ _
  refine enter' (args := [u32v x, i64 (-(r : Int))]) (n := 17) Tryd.func80 rfl rfl rfl ?_
  refine wc_seq ?_
  refine wc_region ?_
  refine wl rfl rfl rfl (p_as rfl) ?_
  refine wl_nil ?_
  refine x_seq ?_
  refine wc_seq ?_
  refine wc_region ?_
  refine wl rfl rfl rfl (p_mv rfl) ?_
  refine wl rfl rfl rfl (p_conv Tryd.underlying3 Tryd.underlying46 rfl (rot_conv h1 h2)) ?_
  refine wl rfl rfl rfl (p_and64 rfl rfl (Z := ((32 - r : Nat) : Int)) (rot_and h1 h2)) ?_
  refine wl rfl rfl rfl (p_as rfl) ?_
  refine wl_nil ?_
  refine x_seq ?_
  refine wc_seq ?_
  refine wc_region ?_
  refine wl rfl rfl rfl (p_mv rfl) ?_
  refine wl rfl rfl rfl (p_mv rfl) ?_
  refine wl rfl rfl rfl (p_shl32 (Y := 32 - r) rfl rfl) ?_
  refine wl rfl rfl rfl (p_mv rfl) ?_
  refine wl rfl rfl rfl (p_mv rfl) ?_
  refine wl rfl rfl rfl (p_sub (Z := (r : Int)) rfl rfl (by rw [wu64 (by omega)]; omega)) ?_
  refine wl rfl rfl rfl (p_shr32 (Y := r) rfl rfl) ?_
  refine wl rfl rfl rfl (p_or32 rfl rfl) ?_
  refine wl rfl rfl rfl (p_as rfl) ?_
  refine wl_nil ?_
  refine x_seq ?_
  refine wc_ret ?_
  refine fin_run (res1 rfl rfl) ?_
  exact ⟨by rw [rotr, BitVec.or_comm], HC⟩

set_option maxHeartbeats 1000000 in
set_option maxRecDepth 20000 in
theorem schedule_any {w : World} {g o : Nat} {B : List UInt8} {Fb : Nat → Prop} (hB : Sl w Fb u8v (some ⟨g, o, none⟩) 64 64 B) :
    Calls Tryd.prog 79 #[.pointer (some ⟨g, o, none⟩)] w fun e w' => e = .returned (.agg ((sch B 64).map u32v).toArray) ∧ Ch No w w' := by
  have hB := hB.old
  have HC : Ch No w w := Ch.refl _ _
  refine enter' (args := [.pointer (some ⟨g, o, none⟩)]) (n := 94) Tryd.func79 rfl rfl rfl ?_
  refine wc_seq ?_
  refine wc_region ?_
  refine wle rfl (e_alloc (cs := ((List.replicate 64 0#32).map u32v).toArray) rfl (by rfl) rfl (fun w1 g2 hg2 hb2 hc hsz2 => ?_))
  have hzw1 := hc.size
  have HC := HC.tr hc
  have hB := hB.no hc
  have hge2 : w.heap.size ≤ g2 := by have := HC.size; omega
  refine wl_nil ?_
  refine x_seq ?_
  refine wc_seq ?_
  refine wc_region ?_
  have hltg2 := hb2.lt
  refine wle rfl (e_alloc (cs := ((List.replicate 64 0#32).map u32v).toArray) rfl (by rfl) rfl (fun w2 g3 hg3 hb3 hc hsz3 => ?_))
  have hzw2 := hc.size
  have HC := HC.tr hc
  have hB := hB.no hc
  have hb2 := hb2.ch hc (fun h => h)
  have hge3 : w.heap.size ≤ g3 := by have := HC.size; omega
  have neg2_3 : g2 < g3 := by omega
  refine wl_nil ?_
  refine x_seq ?_
  refine wc_seq ?_
  refine wc_seq ?_
  refine wc_region ?_
  refine wl rfl rfl rfl (p_mv rfl) ?_
  refine wl_nil ?_
  refine x_seq ?_
  refine wc_block ?_
  refine wc_loop (e' := [(0, .pointer (some ⟨g, o, none⟩)), (2, .pointer (some ⟨g2, 0, none⟩)), (3, .pointer (some ⟨g3, 0, none⟩)), (9, i64 ((0) : Int))]) (fun mz ez uz => ∃ t : Nat, mz = 64 - t ∧ ez = [(0, .pointer (some ⟨g, o, none⟩)), (2, .pointer (some ⟨g2, 0, none⟩)), (3, .pointer (some ⟨g3, 0, none⟩)), (9, i64 (t : Int))] ∧ (t ≤ 64) ∧ (Sl uz (fun k => k < w.heap.size) u8v (some ⟨g, o, none⟩) 64 64 B) ∧ (Blk uz g2 85 ((List.replicate 64 0#32).map u32v).toArray) ∧ (Blk uz g3 85 ((schZ B t).map u32v).toArray) ∧ (Ch No w uz))
    ⟨rfl, rfl, rfl, rfl, trivial⟩ ⟨0, rfl, rfl, by omega, hB, hb2, by rw [schZ_zero]; exact hb3, HC⟩ ?_
  rintro m0 e w3 ⟨t, hm0, rfl, ht, hB, hb2, hb3, HC⟩
  have hzw3 := HC.size
  have hzl := schZ_len B (t := t) (by omega)
  refine wc_seq ?_
  refine wc_region ?_
  refine wl rfl rfl rfl (p_lt rfl rfl) ?_
  refine wl_nil ?_
  refine x_seq ?_
  refine wc_seq ?_
  refine wc_if rfl (fun c0 => ?_) (fun c0 => ?_)
  ·
    have c0 := of_decide_eq_true c0
    refine wc_skip ?_
    refine x_seq ?_
    refine wc_seq ?_
    refine wc_block ?_
    refine wc_seq ?_
    refine wc_region ?_
    refine wl rfl rfl rfl (p_mv rfl) ?_
    refine wl rfl rfl rfl (p_as rfl) ?_
    refine wl_nil ?_
    refine x_seq ?_
    refine wc_seq ?_
    refine wc_seq ?_
    refine wc_region ?_
    refine wl rfl rfl rfl (p_mv rfl) ?_
    refine wl rfl rfl rfl (p_lt rfl rfl) ?_
    refine wl_nil ?_
    refine x_seq ?_
    refine wc_if rfl (fun c1 => ?_) (fun c1 => ?_)
    ·
      have c1 := of_decide_eq_true c1
      refine wc_seq ?_
      refine wc_draw (.st 0 0 (.st 1 0 (.st 2 0 (.st 3 0 (.st 4 0 (.st 5 0 (.st 6 1 (.st 7 0 (.st 8 0 (.st 9 0 (.st 10 0 (.st 11 0 (.st 12 0 (.st 13 0 (.st 14 0 (.st 15 1 (.st 16 0 (.st 17 0 (.st 18 0 (.st 19 0 (.st 20 0 (.st 21 0 (.st 22 0 (.st 23 0 (.st 24 0 (.st 25 1 (.st 26 0 (.st 27 0 (.st 28 0 (.st 29 0 (.st 30 0 (.st 31 0 (.st 32 0 (.st 33 0 (.st 34 0 (.st 35 1 (.st 36 0 (.st 37 0 (.st 38 0 (.st 39 3 .nil)))))))))))))))))))))))))))))))))))))))) 39 (by kernel_rfl) (by kernel_rfl) (by kernel_rfl) (by repeat (first | with_reducible exact pan_body | with_reducible apply pan_then | with_reducible apply pan_in)) (fun x => Ch No w3.drew x) (Ch.refl _ _) ?_
      obtain ⟨w4, ew4⟩ : ∃ x, x = w3.drew := ⟨_, rfl⟩
      rw [← ew4]
      have hc : Ch No w3 w4 := by rw [ew4]; exact Ch.drew _
      have hszw4 : w4.heap.size = w3.heap.size := by rw [ew4]; rfl
      clear ew4
      have hzw4 := hc.size
      have HC := HC.tr hc
      have hB := hB.no hc
      have hb2 := hb2.ch hc (fun h => h)
      have hb3 := hb3.ch hc (fun h => h)
      have hS : Ch No w4 w4 := Ch.refl _ _
      refine ws_p rfl rfl rfl rfl (p_mv rfl) ?_
      refine ws_p rfl rfl rfl rfl (p_mv rfl) ?_
      refine ws_p rfl rfl rfl rfl (p_mv rfl) ?_
      refine ws_p rfl rfl rfl rfl (p_mul (Z := ((4 * t : Nat) : Int)) rfl rfl (by rw [w64 (by omega)]; omega)) ?_
      refine ws_p rfl rfl rfl rfl (p_nck rfl) ?_
      obtain ⟨b5, o5, hA5, hF5, hc5⟩ := (hB).opn (d := 0) (by omega)
      cases hA5
      refine ws_p rfl rfl rfl rfl (p_ixAo Tryd.underlying67 sz5 rfl rfl (by omega) (by omega) (Int.toNat_natCast _)) ?_
      refine ws_h rfl rfl rfl rfl (p_ld Tryd.underlying5 rfl rfl (fun _ h => h.cell (fun h => h) (hc5 _ (by omega)))) ?_
      refine ws_p rfl rfl rfl rfl (p_convB32 Tryd.underlying5 Tryd.underlying29 rfl) ?_
      refine ws_p rfl rfl rfl rfl (p_shl32 (Y := 24) rfl rfl) ?_
      refine ws_p rfl rfl rfl rfl (p_mv rfl) ?_
      refine ws_p rfl rfl rfl rfl (p_mv rfl) ?_
      refine ws_p rfl rfl rfl rfl (p_mul (Z := ((4 * t : Nat) : Int)) rfl rfl (by rw [w64 (by omega)]; omega)) ?_
      refine ws_p rfl rfl rfl rfl (p_add (Z := ((4 * t + 1 : Nat) : Int)) rfl rfl (by rw [w64 (by omega)]; omega)) ?_
      refine ws_p rfl rfl rfl rfl (p_nck rfl) ?_
      obtain ⟨b6, o6, hA6, hF6, hc6⟩ := (hB).opn (d := 0) (by omega)
      cases hA6
      refine ws_p rfl rfl rfl rfl (p_ixAo Tryd.underlying67 sz5 rfl rfl (by omega) (by omega) (Int.toNat_natCast _)) ?_
      refine ws_h rfl rfl rfl rfl (p_ld Tryd.underlying5 rfl rfl (fun _ h => h.cell (fun h => h) (hc6 _ (by omega)))) ?_
      refine ws_p rfl rfl rfl rfl (p_convB32 Tryd.underlying5 Tryd.underlying29 rfl) ?_
      refine ws_p rfl rfl rfl rfl (p_shl32 (Y := 16) rfl rfl) ?_
      refine ws_p rfl rfl rfl rfl (p_or32 rfl rfl) ?_
      refine ws_p rfl rfl rfl rfl (p_mv rfl) ?_
      refine ws_p rfl rfl rfl rfl (p_mv rfl) ?_
      refine ws_p rfl rfl rfl rfl (p_mul (Z := ((4 * t : Nat) : Int)) rfl rfl (by rw [w64 (by omega)]; omega)) ?_
      refine ws_p rfl rfl rfl rfl (p_add (Z := ((4 * t + 2 : Nat) : Int)) rfl rfl (by rw [w64 (by omega)]; omega)) ?_
      refine ws_p rfl rfl rfl rfl (p_nck rfl) ?_
      obtain ⟨b7, o7, hA7, hF7, hc7⟩ := (hB).opn (d := 0) (by omega)
      cases hA7
      refine ws_p rfl rfl rfl rfl (p_ixAo Tryd.underlying67 sz5 rfl rfl (by omega) (by omega) (Int.toNat_natCast _)) ?_
      refine ws_h rfl rfl rfl rfl (p_ld Tryd.underlying5 rfl rfl (fun _ h => h.cell (fun h => h) (hc7 _ (by omega)))) ?_
      refine ws_p rfl rfl rfl rfl (p_convB32 Tryd.underlying5 Tryd.underlying29 rfl) ?_
      refine ws_p rfl rfl rfl rfl (p_shl32 (Y := 8) rfl rfl) ?_
      refine ws_p rfl rfl rfl rfl (p_or32 rfl rfl) ?_
      refine ws_p rfl rfl rfl rfl (p_mv rfl) ?_
      refine ws_p rfl rfl rfl rfl (p_mv rfl) ?_
      refine ws_p rfl rfl rfl rfl (p_mul (Z := ((4 * t : Nat) : Int)) rfl rfl (by rw [w64 (by omega)]; omega)) ?_
      refine ws_p rfl rfl rfl rfl (p_add (Z := ((4 * t + 3 : Nat) : Int)) rfl rfl (by rw [w64 (by omega)]; omega)) ?_
      refine ws_p rfl rfl rfl rfl (p_nck rfl) ?_
      obtain ⟨b8, o8, hA8, hF8, hc8⟩ := (hB).opn (d := 0) (by omega)
      cases hA8
      refine ws_p rfl rfl rfl rfl (p_ixAo Tryd.underlying67 sz5 rfl rfl (by omega) (by omega) (Int.toNat_natCast _)) ?_
      refine ws_h rfl rfl rfl rfl (p_ld Tryd.underlying5 rfl rfl (fun _ h => h.cell (fun h => h) (hc8 _ (by omega)))) ?_
      refine ws_p rfl rfl rfl rfl (p_convB32 Tryd.underlying5 Tryd.underlying29 rfl) ?_
      refine ws_p rfl rfl rfl rfl (p_or32 rfl rfl) ?_
      refine ws_p rfl rfl rfl rfl (p_ixA1 Tryd.underlying85 sz29 rfl rfl (by omega) (by omega) (Int.toNat_natCast _)) ?_
      refine ws_l rfl rfl (e_stL one_u32 (by rfl) rfl rfl hb3 (by first | (simp; done) | (simp; omega) | omega) (fun w10 hb3 hc hsz => ?_))
      have hzw10 := hc.size
      have HC := HC.trans hc (fun _ _ h => h) (fun k hk ht => absurd ht (by omega))
      first | have hB := hB.ch hc (by intro k hk ht; first | omega | (dsimp only at *; omega)) | have hB := hB.chT hc (by intro k hz hk ht; first | omega | (dsimp only at *; omega))
      have hb2 := hb2.ch hc (by omega)
      refine ws_n ?_
      refine x_seq ?_
      refine wc_exit ?_
      refine x_then_exit ?_
      refine x_in_here ?_
      refine x_seq ?_
      refine wc_region ?_
      refine wl rfl rfl rfl (p_add rfl rfl (w64 (by omega))) ?_
      refine wl rfl rfl rfl (p_mv rfl) ?_
      refine wl_nil ?_
      refine x_round (e' := [(0, .pointer (some ⟨g, o, none⟩)), (2, .pointer (some ⟨g2, 0, none⟩)), (3, .pointer (some ⟨g3, 0, none⟩)), (9, i64 ((t + 1) : Int))]) ⟨rfl, rfl, rfl, rfl, trivial⟩ (by rw [hm0]; omega) ⟨t + 1, rfl, rfl, by omega, hB, hb2, by first | (rw [← schZ_set B (by omega), next_low B _ (by omega)]; exact hb3) | (rw [← schZ_set B (by omega), next_high B (by omega)]; exact hb3), HC⟩
    ·
      have c1 := of_decide_eq_false c1
      refine wc_skip ?_
      refine x_seq ?_
      refine wc_seq ?_
      refine wc_draw (.st 0 0 (.st 1 0 (.st 2 0 (.st 3 1 (.st 4 0 (.st 5 0 (.st 6 0 (.st 7 1 (.st 8 0 (.st 9 0 .nil)))))))))) 10 (by kernel_rfl) (by kernel_rfl) (by kernel_rfl) (by repeat (first | with_reducible exact pan_body | with_reducible apply pan_then | with_reducible apply pan_in)) (fun x => Ch No w3.drew x) (Ch.refl _ _) ?_
      obtain ⟨w11, ew11⟩ : ∃ x, x = w3.drew := ⟨_, rfl⟩
      rw [← ew11]
      have hc : Ch No w3 w11 := by rw [ew11]; exact Ch.drew _
      have hszw11 : w11.heap.size = w3.heap.size := by rw [ew11]; rfl
      clear ew11
      have hzw11 := hc.size
      have HC := HC.tr hc
      have hB := hB.no hc
      have hb2 := hb2.ch hc (fun h => h)
      have hb3 := hb3.ch hc (fun h => h)
      have hS : Ch No w11 w11 := Ch.refl _ _
      refine ws_p rfl rfl rfl rfl (p_mv rfl) ?_
      refine ws_p rfl rfl rfl rfl (p_sub (Z := ((t - 15 : Nat) : Int)) rfl rfl (by rw [w64 (by omega)]; omega)) ?_
      refine ws_p rfl rfl rfl rfl (p_ixA1 Tryd.underlying85 sz29 rfl rfl (by omega) (by omega) (Int.toNat_natCast _)) ?_
      refine ws_h rfl rfl rfl rfl (p_ld Tryd.underlying29 rfl rfl (fun _ h => h.cell (fun h => h) (cellL hb3 (d := 0#32) (by first | (simp; done) | (simp; omega) | omega)))) ?_
      refine ws_p rfl rfl rfl rfl (p_mv rfl) ?_
      refine ws_p rfl rfl rfl rfl (p_sub (Z := ((t - 2 : Nat) : Int)) rfl rfl (by rw [w64 (by omega)]; omega)) ?_
      refine ws_p rfl rfl rfl rfl (p_ixA1 Tryd.underlying85 sz29 rfl rfl (by omega) (by omega) (Int.toNat_natCast _)) ?_
      refine ws_h rfl rfl rfl rfl (p_ld Tryd.underlying29 rfl rfl (fun _ h => h.cell (fun h => h) (cellL hb3 (d := 0#32) (by first | (simp; done) | (simp; omega) | omega)))) ?_
      refine ws_p rfl rfl rfl rfl (p_as rfl) ?_
      refine ws_p rfl rfl rfl rfl (p_as rfl) ?_
      refine ws_n ?_
      refine x_seq ?_
      refine wc_seq ?_
      refine wc_region ?_
      refine wl rfl rfl rfl (p_mv rfl) ?_
      refine wle rfl (e_call ent80 rfl rfl (rotl_any (r := 7) (by omega) (by omega)) ?_)
      rintro _ w14 ⟨rfl, hc⟩
      refine ⟨_, rfl, ?_⟩
      have hzw14 := hc.size
      have HC := HC.tr hc
      have hB := hB.no hc
      have hb2 := hb2.ch hc (fun h => h)
      have hb3 := hb3.ch hc (fun h => h)
      refine wl rfl rfl rfl (p_mv rfl) ?_
      refine wle rfl (e_call ent80 rfl rfl (rotl_any (r := 18) (by omega) (by omega)) ?_)
      rintro _ w15 ⟨rfl, hc⟩
      refine ⟨_, rfl, ?_⟩
      have hzw15 := hc.size
      have HC := HC.tr hc
      have hB := hB.no hc
      have hb2 := hb2.ch hc (fun h => h)
      have hb3 := hb3.ch hc (fun h => h)
      refine wl rfl rfl rfl (p_xor32 rfl rfl) ?_
      refine wl rfl rfl rfl (p_mv rfl) ?_
      refine wl rfl rfl rfl (p_shr32 (Y := 3) rfl rfl) ?_
      refine wl rfl rfl rfl (p_xor32 rfl rfl) ?_
      refine wl rfl rfl rfl (p_as rfl) ?_
      refine wl_nil ?_
      refine x_seq ?_
      refine wc_seq ?_
      refine wc_region ?_
      refine wl rfl rfl rfl (p_mv rfl) ?_
      refine wle rfl (e_call ent80 rfl rfl (rotl_any (r := 17) (by omega) (by omega)) ?_)
      rintro _ w16 ⟨rfl, hc⟩
      refine ⟨_, rfl, ?_⟩
      have hzw16 := hc.size
      have HC := HC.tr hc
      have hB := hB.no hc
      have hb2 := hb2.ch hc (fun h => h)
      have hb3 := hb3.ch hc (fun h => h)
      refine wl rfl rfl rfl (p_mv rfl) ?_
      refine wle rfl (e_call ent80 rfl rfl (rotl_any (r := 19) (by omega) (by omega)) ?_)
      rintro _ w17 ⟨rfl, hc⟩
      refine ⟨_, rfl, ?_⟩
      have hzw17 := hc.size
      have HC := HC.tr hc
      have hB := hB.no hc
      have hb2 := hb2.ch hc (fun h => h)
      have hb3 := hb3.ch hc (fun h => h)
      refine wl rfl rfl rfl (p_xor32 rfl rfl) ?_
      refine wl rfl rfl rfl (p_mv rfl) ?_
      refine wl rfl rfl rfl (p_shr32 (Y := 10) rfl rfl) ?_
      refine wl rfl rfl rfl (p_xor32 rfl rfl) ?_
      refine wl rfl rfl rfl (p_as rfl) ?_
      refine wl_nil ?_
      refine x_seq ?_
      refine wc_draw (.st 0 0 (.st 1 0 (.st 2 0 (.st 3 0 (.st 4 1 (.st 5 0 (.st 6 0 (.st 7 0 (.st 8 0 (.st 9 0 (.st 10 1 (.st 11 0 (.st 12 0 (.st 13 0 (.st 14 0 (.st 15 3 .nil)))))))))))))))) 15 (by kernel_rfl) (by kernel_rfl) (by kernel_rfl) (by repeat (first | with_reducible exact pan_body | with_reducible apply pan_then | with_reducible apply pan_in)) (fun x => Ch No w17.drew x) (Ch.refl _ _) ?_
      obtain ⟨w18, ew18⟩ : ∃ x, x = w17.drew := ⟨_, rfl⟩
      rw [← ew18]
      have hc : Ch No w17 w18 := by rw [ew18]; exact Ch.drew _
      have hszw18 : w18.heap.size = w17.heap.size := by rw [ew18]; rfl
      clear ew18
      have hzw18 := hc.size
      have HC := HC.tr hc
      have hB := hB.no hc
      have hb2 := hb2.ch hc (fun h => h)
      have hb3 := hb3.ch hc (fun h => h)
      have hS : Ch No w18 w18 := Ch.refl _ _
      refine ws_p rfl rfl rfl rfl (p_mv rfl) ?_
      refine ws_p rfl rfl rfl rfl (p_mv rfl) ?_
      refine ws_p rfl rfl rfl rfl (p_sub (Z := ((t - 16 : Nat) : Int)) rfl rfl (by rw [w64 (by omega)]; omega)) ?_
      refine ws_p rfl rfl rfl rfl (p_ixA1 Tryd.underlying85 sz29 rfl rfl (by omega) (by omega) (Int.toNat_natCast _)) ?_
      refine ws_h rfl rfl rfl rfl (p_ld Tryd.underlying29 rfl rfl (fun _ h => h.cell (fun h => h) (cellL hb3 (d := 0#32) (by first | (simp; done) | (simp; omega) | omega)))) ?_
      refine ws_p rfl rfl rfl rfl (p_mv rfl) ?_
      refine ws_p rfl rfl rfl rfl (p_add32 rfl rfl) ?_
      refine ws_p rfl rfl rfl rfl (p_mv rfl) ?_
      refine ws_p rfl rfl rfl rfl (p_sub (Z := ((t - 7 : Nat) : Int)) rfl rfl (by rw [w64 (by omega)]; omega)) ?_
      refine ws_p rfl rfl rfl rfl (p_ixA1 Tryd.underlying85 sz29 rfl rfl (by omega) (by omega) (Int.toNat_natCast _)) ?_
      refine ws_h rfl rfl rfl rfl (p_ld Tryd.underlying29 rfl rfl (fun _ h => h.cell (fun h => h) (cellL hb3 (d := 0#32) (by first | (simp; done) | (simp; omega) | omega)))) ?_
      refine ws_p rfl rfl rfl rfl (p_add32 rfl rfl) ?_
      refine ws_p rfl rfl rfl rfl (p_mv rfl) ?_
      refine ws_p rfl rfl rfl rfl (p_add32 rfl rfl) ?_
      refine ws_p rfl rfl rfl rfl (p_ixA1 Tryd.underlying85 sz29 rfl rfl (by omega) (by omega) (Int.toNat_natCast _)) ?_
      refine ws_l rfl rfl (e_stL one_u32 (by rfl) rfl rfl hb3 (by first | (simp; done) | (simp; omega) | omega) (fun w22 hb3 hc hsz => ?_))
      have hzw22 := hc.size
      have HC := HC.trans hc (fun _ _ h => h) (fun k hk ht => absurd ht (by omega))
      first | have hB := hB.ch hc (by intro k hk ht; first | omega | (dsimp only at *; omega)) | have hB := hB.chT hc (by intro k hz hk ht; first | omega | (dsimp only at *; omega))
      have hb2 := hb2.ch hc (by omega)
      refine ws_n ?_
      refine x_in_normal ?_
      refine x_seq ?_
      refine wc_region ?_
      refine wl rfl rfl rfl (p_add rfl rfl (w64 (by omega))) ?_
      refine wl rfl rfl rfl (p_mv rfl) ?_
      refine wl_nil ?_
      refine x_round (e' := [(0, .pointer (some ⟨g, o, none⟩)), (2, .pointer (some ⟨g2, 0, none⟩)), (3, .pointer (some ⟨g3, 0, none⟩)), (9, i64 ((t + 1) : Int))]) ⟨rfl, rfl, rfl, rfl, trivial⟩ (by rw [hm0]; omega) ⟨t + 1, rfl, rfl, by omega, hB, hb2, by first | (rw [← schZ_set B (by omega), next_low B _ (by omega)]; exact hb3) | (rw [← schZ_set B (by omega), next_high B (by omega)]; exact hb3), HC⟩
  ·
    have c0 := of_decide_eq_false c0
    obtain rfl : t = 64 := by omega
    rw [schZ_all] at hb3
    have hsl := sch_len B 64
    refine wc_exit ?_
    refine x_then_exit ?_
    refine x_then_exit ?_
    refine x_in_here ?_
    refine x_seq ?_
    refine wc_seq ?_
    refine wc_region ?_
    refine wl rfl rfl rfl (p_ldA (cs := _) Tryd.underlying85 rfl (szL sz85 (by rw [List.length_map]; first | assumption | (simp; done) | (simp; omega) | omega)) rfl (fun _ e => e ▸ rngL hb3)) ?_
    refine wle rfl (e_stW (vs := _) (szL sz85 (by rw [List.length_map]; exact hsl)) (oneL one_u32 _) rfl rfl hb2 (by simp [hsl]) (fun w23 hb2 hc hsz => ?_))
    have hzw23 := hc.size
    have HC := HC.trans hc (fun _ _ h => h) (fun k hk ht => absurd ht (by omega))
    first | have hB := hB.ch hc (by intro k hk ht; first | omega | (dsimp only at *; omega)) | have hB := hB.chT hc (by intro k hz hk ht; first | omega | (dsimp only at *; omega))
    have hb3 := hb3.ch hc (by omega)
    refine wl_nil ?_
    refine x_seq ?_
    refine wc_ret ?_
    refine fin_run (resC rfl rfl Tryd.underlying85 rfl (szL sz85 (by rw [List.length_map]; exact hsl)) (rngL hb2)) ?_
    exact ⟨rfl, HC⟩
end Go.Proofs.YtdbdconmcgcooaaDoor
