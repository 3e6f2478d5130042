/-
  Own text, printed by a program of mine (wip/gx): what functions of the program do, walked operation by operation.
-/
import Derived.Test.YtdbdconmcgcooaaDoorProg
import Derived.Test.YtdbdconmcgcooaaDoorGxAgg
import Derived.Test.YtdbdconmcgcooaaDoorTab
import Derived.Test.YtdbdconmcgcooaaDoorPlPack
import Derived.Test.YtdbdconmcgcooaaDoorPlSum
import Derived.Test.YtdbdconmcgcooaaDoorPlSha
import Derived.Test.YtdbdconmcgcooaaDoorPlShaSt
import Derived.Test.YtdbdconmcgcooaaDoorPlShaB
import Derived.Test.YtdbdconmcgcooaaDoorS7
set_option linter.unusedVariables false
namespace Go.Proofs.YtdbdconmcgcooaaDoor
open Go.RowKit Go.Gx
open Go.Plain
set_option maxHeartbeats 1000000 in
set_option maxRecDepth 20000 in
theorem rblock_any {w : World} {Ab : Option Addr} {lb cb : Nat} {Fb : Nat → Prop} {b : List UInt8} {h : List W32} (hb : Sl w Fb u8v Ab lb cb b) (hh : h.length = 8) (hlb : lb = 64) :
    Calls Tryd.prog 62 #[.agg (h.map u32v).toArray, .slice Ab lb cb] w fun e w' => e = .returned (.agg ((cmp h b).map u32v).toArray) ∧ Ch No w w' := by
  have hbl := hb.len
  have hsl := sch_len b 64
  have hb := hb.old
  have HC : Ch No w w := Ch.refl _ _
  refine enter' (args := [.agg (h.map u32v).toArray, .slice Ab lb cb]) (n := 195) Tryd.func62 rfl rfl rfl ?_
  refine wc_seq ?_
  refine wc_region ?_
  refine wle rfl (e_box rfl rfl rfl (fun w1 g2 hg2 hb2 hc hsz2 => ?_))
  have hzw1 := hc.size
  have HC := HC.tr hc
  have hb := hb.no hc
  have hge2 : w.heap.size ≤ g2 := by have := HC.size; omega
  have hltg2 := hb2.lt
  refine wle rfl (e_alloc (cs := ((List.replicate 8 0#32).map u32v).toArray) rfl (by rfl) rfl (fun w2 g4 hg4 hb4 hc hsz4 => ?_))
  have hzw2 := hc.size
  have HC := HC.tr hc
  have hb := hb.no hc
  have hb2 := hb2.ch hc (fun h => h)
  have hge4 : w.heap.size ≤ g4 := by have := HC.size; omega
  have neg2_4 : g2 < g4 := by omega
  refine wl_nil ?_
  refine x_seq ?_
  refine wc_seq ?_
  refine wc_region ?_
  have hltg2 := hb2.lt
  have hltg4 := hb4.lt
  refine wle rfl (e_alloc (cs := ((List.replicate 64 0#32).map u32v).toArray) rfl (by rfl) rfl (fun w3 g5 hg5 hb5 hc hsz5 => ?_))
  have hzw3 := hc.size
  have HC := HC.tr hc
  have hb := hb.no hc
  have hb2 := hb2.ch hc (fun h => h)
  have hb4 := hb4.ch hc (fun h => h)
  have hge5 : w.heap.size ≤ g5 := by have := HC.size; omega
  have neg2_5 : g2 < g5 := by omega
  have neg4_5 : g4 < g5 := by omega
  refine wl_nil ?_
  refine x_seq ?_
  refine wc_seq ?_
  refine wc_seq ?_
  refine wc_region ?_
  refine wl rfl rfl rfl (p_as rfl) ?_
  refine wl_nil ?_
  refine x_seq ?_
  refine wc_block ?_
  refine wc_loop (e' := [(0, .agg (h.map u32v).toArray), (1, .slice Ab lb cb), (2, .pointer (some ⟨g2, 0, none⟩)), (4, .pointer (some ⟨g4, 0, none⟩)), (5, .pointer (some ⟨g5, 0, none⟩)), (6, i64 ((0) : Int))]) (fun mz ez uz => ∃ t : Nat, mz = 16 - t ∧ ez = [(0, .agg (h.map u32v).toArray), (1, .slice Ab lb cb), (2, .pointer (some ⟨g2, 0, none⟩)), (4, .pointer (some ⟨g4, 0, none⟩)), (5, .pointer (some ⟨g5, 0, none⟩)), (6, i64 (t : Int))] ∧ (t ≤ 16) ∧ (Sl uz (fun k => k < w.heap.size) u8v Ab lb cb b) ∧ (Blk uz g2 66 ((h).map u32v).toArray) ∧ (Blk uz g4 66 ((List.replicate 8 0#32).map u32v).toArray) ∧ (Blk uz g5 85 ((schZ b t).map u32v).toArray) ∧ (Ch No w uz))
    ⟨rfl, rfl, rfl, rfl, rfl, rfl, trivial⟩ ⟨0, rfl, rfl, by omega, hb, hb2, hb4, by rw [schZ_zero]; exact hb5, HC⟩ ?_
  rintro m0 e w4 ⟨t, hm0, rfl, ht, hb, hb2, hb4, hb5, HC⟩
  have hzw4 := HC.size
  have hzl := schZ_len b (t := t) (by omega)
  refine wc_seq ?_
  refine wc_seq ?_
  refine wc_region ?_
  refine wl rfl rfl rfl (p_mv rfl) ?_
  refine wl rfl rfl rfl (p_lt rfl rfl) ?_
  refine wl_nil ?_
  refine x_seq ?_
  refine wc_if rfl (fun c0 => ?_) (fun c0 => ?_)
  ·
    have c0 := of_decide_eq_true c0
    refine wc_skip ?_
    refine x_seq ?_
    refine wc_seq ?_
    refine wc_block ?_
    refine wc_draw (.st 0 0 (.st 1 0 (.st 2 0 (.st 3 0 (.st 4 0 (.st 5 1 (.st 6 0 (.st 7 0 (.st 8 0 (.st 9 0 (.st 10 0 (.st 11 0 (.st 12 0 (.st 13 1 (.st 14 0 (.st 15 0 (.st 16 0 (.st 17 0 (.st 18 0 (.st 19 0 (.st 20 0 (.st 21 0 (.st 22 1 (.st 23 0 (.st 24 0 (.st 25 0 (.st 26 0 (.st 27 0 (.st 28 0 (.st 29 0 (.st 30 0 (.st 31 1 (.st 32 0 (.st 33 0 (.st 34 0 (.st 35 3 .nil)))))))))))))))))))))))))))))))))))) 35 (by kernel_rfl) (by kernel_rfl) (by kernel_rfl) (by repeat (first | with_reducible exact pan_body | with_reducible apply pan_then | with_reducible apply pan_in)) (fun x => Ch No w4.drew x) (Ch.refl _ _) ?_
    obtain ⟨w5, ew5⟩ : ∃ x, x = w4.drew := ⟨_, rfl⟩
    rw [← ew5]
    have hc : Ch No w4 w5 := by rw [ew5]; exact Ch.drew _
    have hszw5 : w5.heap.size = w4.heap.size := by rw [ew5]; rfl
    clear ew5
    have hzw5 := hc.size
    have HC := HC.tr hc
    have hb := hb.no hc
    have hb2 := hb2.ch hc (fun h => h)
    have hb4 := hb4.ch hc (fun h => h)
    have hb5 := hb5.ch hc (fun h => h)
    have hS : Ch No w5 w5 := Ch.refl _ _
    refine ws_p rfl rfl rfl rfl (p_mv rfl) ?_
    refine ws_p rfl rfl rfl rfl (p_mv rfl) ?_
    refine ws_p rfl rfl rfl rfl (p_mv rfl) ?_
    refine ws_p rfl rfl rfl rfl (p_mul (Z := ((4 * t : Nat) : Int)) rfl rfl (by rw [w64 (by omega)]; omega)) ?_
    obtain ⟨b6, o6, hA6, hF6, hc6⟩ := (hb).opn (d := 0) (by omega)
    refine ws_p rfl rfl rfl rfl (p_ixS1 Tryd.underlying22 sz5 rfl hA6 rfl (by omega) (by omega) (Int.toNat_natCast _)) ?_
    refine ws_h rfl rfl rfl rfl (p_ld Tryd.underlying5 rfl rfl (fun _ h => h.cell (fun h => h) (hc6 _ (by omega)))) ?_
    refine ws_p rfl rfl rfl rfl (p_convB32 Tryd.underlying5 Tryd.underlying29 rfl) ?_
    refine ws_p rfl rfl rfl rfl (p_shl32 (Y := 24) rfl rfl) ?_
    refine ws_p rfl rfl rfl rfl (p_mv rfl) ?_
    refine ws_p rfl rfl rfl rfl (p_mv rfl) ?_
    refine ws_p rfl rfl rfl rfl (p_mul (Z := ((4 * t : Nat) : Int)) rfl rfl (by rw [w64 (by omega)]; omega)) ?_
    refine ws_p rfl rfl rfl rfl (p_add (Z := ((4 * t + 1 : Nat) : Int)) rfl rfl (by rw [w64 (by omega)]; omega)) ?_
    obtain ⟨b7, o7, hA7, hF7, hc7⟩ := (hb).opn (d := 0) (by omega)
    refine ws_p rfl rfl rfl rfl (p_ixS1 Tryd.underlying22 sz5 rfl hA7 rfl (by omega) (by omega) (Int.toNat_natCast _)) ?_
    refine ws_h rfl rfl rfl rfl (p_ld Tryd.underlying5 rfl rfl (fun _ h => h.cell (fun h => h) (hc7 _ (by omega)))) ?_
    refine ws_p rfl rfl rfl rfl (p_convB32 Tryd.underlying5 Tryd.underlying29 rfl) ?_
    refine ws_p rfl rfl rfl rfl (p_shl32 (Y := 16) rfl rfl) ?_
    refine ws_p rfl rfl rfl rfl (p_or32 rfl rfl) ?_
    refine ws_p rfl rfl rfl rfl (p_mv rfl) ?_
    refine ws_p rfl rfl rfl rfl (p_mv rfl) ?_
    refine ws_p rfl rfl rfl rfl (p_mul (Z := ((4 * t : Nat) : Int)) rfl rfl (by rw [w64 (by omega)]; omega)) ?_
    refine ws_p rfl rfl rfl rfl (p_add (Z := ((4 * t + 2 : Nat) : Int)) rfl rfl (by rw [w64 (by omega)]; omega)) ?_
    obtain ⟨b8, o8, hA8, hF8, hc8⟩ := (hb).opn (d := 0) (by omega)
    refine ws_p rfl rfl rfl rfl (p_ixS1 Tryd.underlying22 sz5 rfl hA8 rfl (by omega) (by omega) (Int.toNat_natCast _)) ?_
    refine ws_h rfl rfl rfl rfl (p_ld Tryd.underlying5 rfl rfl (fun _ h => h.cell (fun h => h) (hc8 _ (by omega)))) ?_
    refine ws_p rfl rfl rfl rfl (p_convB32 Tryd.underlying5 Tryd.underlying29 rfl) ?_
    refine ws_p rfl rfl rfl rfl (p_shl32 (Y := 8) rfl rfl) ?_
    refine ws_p rfl rfl rfl rfl (p_or32 rfl rfl) ?_
    refine ws_p rfl rfl rfl rfl (p_mv rfl) ?_
    refine ws_p rfl rfl rfl rfl (p_mv rfl) ?_
    refine ws_p rfl rfl rfl rfl (p_mul (Z := ((4 * t : Nat) : Int)) rfl rfl (by rw [w64 (by omega)]; omega)) ?_
    refine ws_p rfl rfl rfl rfl (p_add (Z := ((4 * t + 3 : Nat) : Int)) rfl rfl (by rw [w64 (by omega)]; omega)) ?_
    obtain ⟨b9, o9, hA9, hF9, hc9⟩ := (hb).opn (d := 0) (by omega)
    refine ws_p rfl rfl rfl rfl (p_ixS1 Tryd.underlying22 sz5 rfl hA9 rfl (by omega) (by omega) (Int.toNat_natCast _)) ?_
    refine ws_h rfl rfl rfl rfl (p_ld Tryd.underlying5 rfl rfl (fun _ h => h.cell (fun h => h) (hc9 _ (by omega)))) ?_
    refine ws_p rfl rfl rfl rfl (p_convB32 Tryd.underlying5 Tryd.underlying29 rfl) ?_
    refine ws_p rfl rfl rfl rfl (p_or32 rfl rfl) ?_
    refine ws_p rfl rfl rfl rfl (p_ixA1 Tryd.underlying85 sz29 rfl rfl (by omega) (by omega) (Int.toNat_natCast _)) ?_
    refine ws_l rfl rfl (e_stL one_u32 (by rfl) rfl rfl hb5 (by first | (simp; done) | (simp; omega) | omega) (fun w11 hb5 hc hsz => ?_))
    have hzw11 := hc.size
    have HC := HC.trans hc (fun _ _ h => h) (fun k hk ht => absurd ht (by omega))
    first | have hb := hb.ch hc (by intro k hk ht; first | omega | (dsimp only at *; omega)) | have hb := hb.chT hc (by intro k hz hk ht; first | omega | (dsimp only at *; omega))
    have hb2 := hb2.ch hc (by omega)
    have hb4 := hb4.ch hc (by omega)
    refine ws_n ?_
    refine x_in_normal ?_
    refine x_seq ?_
    refine wc_region ?_
    refine wl rfl rfl rfl (p_mv rfl) ?_
    refine wl rfl rfl rfl (p_add rfl rfl (w64 (by omega))) ?_
    refine wl rfl rfl rfl (p_as rfl) ?_
    refine wl_nil ?_
    refine x_round (e' := [(0, .agg (h.map u32v).toArray), (1, .slice Ab lb cb), (2, .pointer (some ⟨g2, 0, none⟩)), (4, .pointer (some ⟨g4, 0, none⟩)), (5, .pointer (some ⟨g5, 0, none⟩)), (6, i64 ((t + 1) : Int))]) ⟨rfl, rfl, rfl, rfl, rfl, rfl, trivial⟩ (by rw [hm0]; omega) ⟨t + 1, rfl, rfl, by omega, hb, hb2, hb4, by rw [← schZ_set b (by omega), next_low b _ (by omega)]; exact hb5, HC⟩
  ·
    have c0 := of_decide_eq_false c0
    obtain rfl : t = 16 := by omega
    refine wc_exit ?_
    refine x_then_exit ?_
    refine x_then_exit ?_
    refine x_in_here ?_
    refine x_seq ?_
    refine wc_seq ?_
    refine wc_seq ?_
    refine wc_region ?_
    refine wl rfl rfl rfl (p_as rfl) ?_
    refine wl_nil ?_
    refine x_seq ?_
    refine wc_block ?_
    refine wc_loop (e' := [(2, .pointer (some ⟨g2, 0, none⟩)), (4, .pointer (some ⟨g4, 0, none⟩)), (5, .pointer (some ⟨g5, 0, none⟩)), (7, i64 ((16) : Int))]) (fun mz ez uz => ∃ t : Nat, mz = 64 - t ∧ ez = [(2, .pointer (some ⟨g2, 0, none⟩)), (4, .pointer (some ⟨g4, 0, none⟩)), (5, .pointer (some ⟨g5, 0, none⟩)), (7, i64 (t : Int))] ∧ (16 ≤ t ∧ t ≤ 64) ∧ (Blk uz g2 66 ((h).map u32v).toArray) ∧ (Blk uz g4 66 ((List.replicate 8 0#32).map u32v).toArray) ∧ (Blk uz g5 85 ((schZ b t).map u32v).toArray) ∧ (Ch No w uz))
      ⟨rfl, rfl, rfl, rfl, trivial⟩ ⟨16, rfl, rfl, by omega, hb2, hb4, hb5, HC⟩ ?_
    rintro m1 e w12 ⟨t, hm1, rfl, ht, hb2, hb4, hb5, HC⟩
    have hzw12 := HC.size
    have hzl := schZ_len b (t := t) (by omega)
    refine wc_seq ?_
    refine wc_seq ?_
    refine wc_region ?_
    refine wl rfl rfl rfl (p_mv rfl) ?_
    refine wl rfl rfl rfl (p_lt rfl rfl) ?_
    refine wl_nil ?_
    refine x_seq ?_
    refine wc_if rfl (fun c1 => ?_) (fun c1 => ?_)
    ·
      have c1 := of_decide_eq_true c1
      refine wc_skip ?_
      refine x_seq ?_
      refine wc_seq ?_
      refine wc_block ?_
      refine wc_seq ?_
      refine wc_draw (.st 0 0 (.st 1 0 (.st 2 0 (.st 3 1 (.st 4 0 (.st 5 0 (.st 6 0 (.st 7 1 (.st 8 0 (.st 9 0 .nil)))))))))) 10 (by kernel_rfl) (by kernel_rfl) (by kernel_rfl) (by repeat (first | with_reducible exact pan_body | with_reducible apply pan_then | with_reducible apply pan_in)) (fun x => Ch No w12.drew x) (Ch.refl _ _) ?_
      obtain ⟨w13, ew13⟩ : ∃ x, x = w12.drew := ⟨_, rfl⟩
      rw [← ew13]
      have hc : Ch No w12 w13 := by rw [ew13]; exact Ch.drew _
      have hszw13 : w13.heap.size = w12.heap.size := by rw [ew13]; rfl
      clear ew13
      have hzw13 := hc.size
      have HC := HC.tr hc
      have hb2 := hb2.ch hc (fun h => h)
      have hb4 := hb4.ch hc (fun h => h)
      have hb5 := hb5.ch hc (fun h => h)
      have hS : Ch No w13 w13 := Ch.refl _ _
      refine ws_p rfl rfl rfl rfl (p_mv rfl) ?_
      refine ws_p rfl rfl rfl rfl (p_sub (Z := ((t - 15 : Nat) : Int)) rfl rfl (by rw [w64 (by omega)]; omega)) ?_
      refine ws_p rfl rfl rfl rfl (p_ixA1 Tryd.underlying85 sz29 rfl rfl (by omega) (by omega) (Int.toNat_natCast _)) ?_
      refine ws_h rfl rfl rfl rfl (p_ld Tryd.underlying29 rfl rfl (fun _ h => h.cell (fun h => h) (cellL hb5 (d := 0#32) (by first | (simp; done) | (simp; omega) | omega)))) ?_
      refine ws_p rfl rfl rfl rfl (p_mv rfl) ?_
      refine ws_p rfl rfl rfl rfl (p_sub (Z := ((t - 2 : Nat) : Int)) rfl rfl (by rw [w64 (by omega)]; omega)) ?_
      refine ws_p rfl rfl rfl rfl (p_ixA1 Tryd.underlying85 sz29 rfl rfl (by omega) (by omega) (Int.toNat_natCast _)) ?_
      refine ws_h rfl rfl rfl rfl (p_ld Tryd.underlying29 rfl rfl (fun _ h => h.cell (fun h => h) (cellL hb5 (d := 0#32) (by first | (simp; done) | (simp; omega) | omega)))) ?_
      refine ws_p rfl rfl rfl rfl (p_as rfl) ?_
      refine ws_p rfl rfl rfl rfl (p_as rfl) ?_
      refine ws_n ?_
      refine x_seq ?_
      refine wc_draw (.st 0 0 (.st 1 0 (.st 2 0 (.st 3 0 (.st 4 1 (.st 5 0 (.st 7 0 (.st 10 0 (.st 11 0 (.st 14 0 (.st 15 0 (.st 16 0 (.st 17 1 (.st 19 0 (.st 21 0 (.st 24 0 (.st 25 0 (.st 6 2 (.st 8 2 (.st 9 0 (.st 12 0 (.st 13 0 (.st 18 0 (.st 20 2 (.st 22 2 (.st 23 0 (.st 26 0 (.st 27 0 (.st 28 0 (.st 29 3 .nil)))))))))))))))))))))))))))))) 29 (by kernel_rfl) (by kernel_rfl) (by kernel_rfl) (by repeat (first | with_reducible exact pan_body | with_reducible apply pan_then | with_reducible apply pan_in)) (fun x => Ch No w13.drew x) (Ch.refl _ _) ?_
      obtain ⟨w16, ew16⟩ : ∃ x, x = w13.drew := ⟨_, rfl⟩
      rw [← ew16]
      have hc : Ch No w13 w16 := by rw [ew16]; exact Ch.drew _
      have hszw16 : w16.heap.size = w13.heap.size := by rw [ew16]; rfl
      clear ew16
      have hzw16 := hc.size
      have HC := HC.tr hc
      have hb2 := hb2.ch hc (fun h => h)
      have hb4 := hb4.ch hc (fun h => h)
      have hb5 := hb5.ch hc (fun h => h)
      have hS : Ch No w16 w16 := Ch.refl _ _
      refine ws_p rfl rfl rfl rfl (p_mv rfl) ?_
      refine ws_p rfl rfl rfl rfl (p_mv rfl) ?_
      refine ws_p rfl rfl rfl rfl (p_sub (Z := ((t - 16 : Nat) : Int)) rfl rfl (by rw [w64 (by omega)]; omega)) ?_
      refine ws_p rfl rfl rfl rfl (p_ixA1 Tryd.underlying85 sz29 rfl rfl (by omega) (by omega) (Int.toNat_natCast _)) ?_
      refine ws_h rfl rfl rfl rfl (p_ld Tryd.underlying29 rfl rfl (fun _ h => h.cell (fun h => h) (cellL hb5 (d := 0#32) (by first | (simp; done) | (simp; omega) | omega)))) ?_
      refine ws_p rfl rfl rfl rfl (p_mv rfl) ?_
      refine ws_p rfl rfl rfl rfl (p_mv rfl) ?_
      refine ws_p rfl rfl rfl rfl (p_mv rfl) ?_
      refine ws_p rfl rfl rfl rfl (p_shr32 (Y := 3) rfl rfl) ?_
      refine ws_p rfl rfl rfl rfl (p_mv rfl) ?_
      refine ws_p rfl rfl rfl rfl (p_sub (Z := ((t - 7 : Nat) : Int)) rfl rfl (by rw [w64 (by omega)]; omega)) ?_
      refine ws_p rfl rfl rfl rfl (p_ixA1 Tryd.underlying85 sz29 rfl rfl (by omega) (by omega) (Int.toNat_natCast _)) ?_
      refine ws_h rfl rfl rfl rfl (p_ld Tryd.underlying29 rfl rfl (fun _ h => h.cell (fun h => h) (cellL hb5 (d := 0#32) (by first | (simp; done) | (simp; omega) | omega)))) ?_
      refine ws_p rfl rfl rfl rfl (p_mv rfl) ?_
      refine ws_p rfl rfl rfl rfl (p_mv rfl) ?_
      refine ws_p rfl rfl rfl rfl (p_mv rfl) ?_
      refine ws_p rfl rfl rfl rfl (p_shr32 (Y := 10) rfl rfl) ?_
      refine ws_e rfl rfl (e_call ent76 rfl rfl (turn_any (n := 7) (by omega)) ?_)
      rintro _ w19 ⟨rfl, hc⟩
      refine ⟨_, rfl, hc, ?_⟩
      have hzw19 := hc.size
      have HC := HC.tr hc
      have hb2 := hb2.ch hc (fun h => h)
      have hb4 := hb4.ch hc (fun h => h)
      have hb5 := hb5.ch hc (fun h => h)
      refine ws_narrow (S' := fun x => Ch No w19 x) (Ch.refl _ _) (fun x h => hc.tr h) ?_
      refine ws_e rfl rfl (e_call ent76 rfl rfl (turn_any (n := 18) (by omega)) ?_)
      rintro _ w20 ⟨rfl, hc⟩
      refine ⟨_, rfl, hc, ?_⟩
      have hzw20 := hc.size
      have HC := HC.tr hc
      have hb2 := hb2.ch hc (fun h => h)
      have hb4 := hb4.ch hc (fun h => h)
      have hb5 := hb5.ch hc (fun h => h)
      refine ws_narrow (S' := fun x => Ch No w20 x) (Ch.refl _ _) (fun x h => hc.tr h) ?_
      refine ws_p rfl rfl rfl rfl (p_xor32 rfl rfl) ?_
      refine ws_p rfl rfl rfl rfl (p_xor32 rfl rfl) ?_
      refine ws_p rfl rfl rfl rfl (p_add32 rfl rfl) ?_
      refine ws_p rfl rfl rfl rfl (p_add32 rfl rfl) ?_
      refine ws_e rfl rfl (e_call ent76 rfl rfl (turn_any (n := 17) (by omega)) ?_)
      rintro _ w21 ⟨rfl, hc⟩
      refine ⟨_, rfl, hc, ?_⟩
      have hzw21 := hc.size
      have HC := HC.tr hc
      have hb2 := hb2.ch hc (fun h => h)
      have hb4 := hb4.ch hc (fun h => h)
      have hb5 := hb5.ch hc (fun h => h)
      refine ws_narrow (S' := fun x => Ch No w21 x) (Ch.refl _ _) (fun x h => hc.tr h) ?_
      refine ws_e rfl rfl (e_call ent76 rfl rfl (turn_any (n := 19) (by omega)) ?_)
      rintro _ w22 ⟨rfl, hc⟩
      refine ⟨_, rfl, hc, ?_⟩
      have hzw22 := hc.size
      have HC := HC.tr hc
      have hb2 := hb2.ch hc (fun h => h)
      have hb4 := hb4.ch hc (fun h => h)
      have hb5 := hb5.ch hc (fun h => h)
      refine ws_narrow (S' := fun x => Ch No w22 x) (Ch.refl _ _) (fun x h => hc.tr h) ?_
      refine ws_p rfl rfl rfl rfl (p_xor32 rfl rfl) ?_
      refine ws_p rfl rfl rfl rfl (p_xor32 rfl rfl) ?_
      refine ws_p rfl rfl rfl rfl (p_add32 rfl rfl) ?_
      refine ws_p rfl rfl rfl rfl (p_ixA1 Tryd.underlying85 sz29 rfl rfl (by omega) (by omega) (Int.toNat_natCast _)) ?_
      refine ws_l rfl rfl (e_stL one_u32 (by rfl) rfl rfl hb5 (by first | (simp; done) | (simp; omega) | omega) (fun w24 hb5 hc hsz => ?_))
      have hzw24 := hc.size
      have HC := HC.trans hc (fun _ _ h => h) (fun k hk ht => absurd ht (by omega))
      have hb2 := hb2.ch hc (by omega)
      have hb4 := hb4.ch hc (by omega)
      refine ws_n ?_
      refine x_in_normal ?_
      refine x_seq ?_
      refine wc_region ?_
      refine wl rfl rfl rfl (p_mv rfl) ?_
      refine wl rfl rfl rfl (p_add rfl rfl (w64 (by omega))) ?_
      refine wl rfl rfl rfl (p_as rfl) ?_
      refine wl_nil ?_
      refine x_round (e' := [(2, .pointer (some ⟨g2, 0, none⟩)), (4, .pointer (some ⟨g4, 0, none⟩)), (5, .pointer (some ⟨g5, 0, none⟩)), (7, i64 ((t + 1) : Int))]) ⟨rfl, rfl, rfl, rfl, trivial⟩ (by rw [hm1]; omega) ⟨t + 1, rfl, rfl, by omega, hb2, hb4, by rw [← schZ_set b (by omega), next_high b (by omega)]; exact hb5, HC⟩
    ·
      have c1 := of_decide_eq_false c1
      obtain rfl : t = 64 := by omega
      rw [schZ_all] at hb5
      refine wc_exit ?_
      refine x_then_exit ?_
      refine x_then_exit ?_
      refine x_in_here ?_
      refine x_seq ?_
      refine wc_seq ?_
      refine wc_region ?_
      refine wle rfl (e_call ent77 rfl rfl (keys_any) ?_)
      rintro _ w25 ⟨rfl, hc⟩
      refine ⟨_, rfl, ?_⟩
      have hzw25 := hc.size
      have HC := HC.tr hc
      have hb2 := hb2.ch hc (fun h => h)
      have hb4 := hb4.ch hc (fun h => h)
      have hb5 := hb5.ch hc (fun h => h)
      have hltg2 := hb2.lt
      have hltg4 := hb4.lt
      have hltg5 := hb5.lt
      refine wle rfl (e_alloc (cs := ((List.replicate 64 0#32).map u32v).toArray) rfl (by rfl) rfl (fun w26 g10 hg10 hb10 hc hsz10 => ?_))
      have hzw26 := hc.size
      have HC := HC.tr hc
      have hb2 := hb2.ch hc (fun h => h)
      have hb4 := hb4.ch hc (fun h => h)
      have hb5 := hb5.ch hc (fun h => h)
      have hge10 : w.heap.size ≤ g10 := by have := HC.size; omega
      have neg2_10 : g2 < g10 := by omega
      have neg4_10 : g4 < g10 := by omega
      have neg5_10 : g5 < g10 := by omega
      refine wle rfl (e_stW (vs := (rk.map u32v)) (by kernel_rfl) (oneL one_u32 _) rfl rfl hb10 (by kernel_rfl) (fun w27 hb10 hc hsz => ?_))
      have hzw27 := hc.size
      have HC := HC.trans hc (fun _ _ h => h) (fun k hk ht => absurd ht (by omega))
      have hb2 := hb2.ch hc (by omega)
      have hb4 := hb4.ch hc (by omega)
      have hb5 := hb5.ch hc (by omega)
      refine wl_nil ?_
      refine x_seq ?_
      refine wc_seq ?_
      refine wc_region ?_
      refine wl rfl rfl rfl (p_ldA (cs := h.map u32v) Tryd.underlying66 rfl (szL sz66 (by rw [List.length_map]; exact hh)) rfl (fun _ e => e ▸ rngL hb2)) ?_
      have hltg2 := hb2.lt
      have hltg4 := hb4.lt
      have hltg5 := hb5.lt
      have hltg10 := hb10.lt
      refine wle rfl (e_alloc (cs := ((List.replicate 8 0#32).map u32v).toArray) rfl (by rfl) rfl (fun w28 g11 hg11 hb11 hc hsz11 => ?_))
      have hzw28 := hc.size
      have HC := HC.tr hc
      have hb2 := hb2.ch hc (fun h => h)
      have hb4 := hb4.ch hc (fun h => h)
      have hb5 := hb5.ch hc (fun h => h)
      have hb10 := hb10.ch hc (fun h => h)
      have hge11 : w.heap.size ≤ g11 := by have := HC.size; omega
      have neg2_11 : g2 < g11 := by omega
      have neg4_11 : g4 < g11 := by omega
      have neg5_11 : g5 < g11 := by omega
      have neg10_11 : g10 < g11 := by omega
      refine wle rfl (e_stW (vs := _) (by first | rfl | exact szL sz66 (by rw [List.length_map]; exact hh)) (oneL one_u32 _) rfl rfl hb11 (by first | (simp [hh]; done) | (simp [hvl]; done)) (fun w29 hb11 hc hsz => ?_))
      have hzw29 := hc.size
      have HC := HC.trans hc (fun _ _ h => h) (fun k hk ht => absurd ht (by omega))
      have hb2 := hb2.ch hc (by omega)
      have hb4 := hb4.ch hc (by omega)
      have hb5 := hb5.ch hc (by omega)
      have hb10 := hb10.ch hc (by omega)
      refine wl_nil ?_
      refine x_seq ?_
      refine wc_seq ?_
      refine wc_seq ?_
      refine wc_region ?_
      refine wl rfl rfl rfl (p_as rfl) ?_
      refine wl_nil ?_
      refine x_seq ?_
      refine wc_block ?_
      refine wc_loop (e' := [(2, .pointer (some ⟨g2, 0, none⟩)), (4, .pointer (some ⟨g4, 0, none⟩)), (5, .pointer (some ⟨g5, 0, none⟩)), (10, .pointer (some ⟨g10, 0, none⟩)), (11, .pointer (some ⟨g11, 0, none⟩)), (12, i64 ((0) : Int))]) (fun mz ez uz => ∃ t : Nat, mz = 64 - t ∧ ez = [(2, .pointer (some ⟨g2, 0, none⟩)), (4, .pointer (some ⟨g4, 0, none⟩)), (5, .pointer (some ⟨g5, 0, none⟩)), (10, .pointer (some ⟨g10, 0, none⟩)), (11, .pointer (some ⟨g11, 0, none⟩)), (12, i64 (t : Int))] ∧ (t ≤ 64) ∧ (Blk uz g2 66 ((h).map u32v).toArray) ∧ (Blk uz g4 66 ((List.replicate 8 0#32).map u32v).toArray) ∧ (Blk uz g5 85 ((sch b 64).map u32v).toArray) ∧ (Blk uz g10 85 ((rk).map u32v).toArray) ∧ (Blk uz g11 66 ((rnds (sch b 64) h t).map u32v).toArray) ∧ (Ch No w uz))
        ⟨rfl, rfl, rfl, rfl, rfl, rfl, trivial⟩ ⟨0, rfl, rfl, by omega, hb2, hb4, hb5, hb10, hb11, HC⟩ ?_
      rintro m2 e w30 ⟨t, hm2, rfl, ht, hb2, hb4, hb5, hb10, hb11, HC⟩
      have hzw30 := HC.size
      have hvl := rnds_len (sch b 64) hh t
      have hrk : rk.length = 64 := rfl
      refine wc_seq ?_
      refine wc_seq ?_
      refine wc_region ?_
      refine wl rfl rfl rfl (p_mv rfl) ?_
      refine wl rfl rfl rfl (p_lt rfl rfl) ?_
      refine wl_nil ?_
      refine x_seq ?_
      refine wc_if rfl (fun c2 => ?_) (fun c2 => ?_)
      ·
        have c2 := of_decide_eq_true c2
        refine wc_skip ?_
        refine x_seq ?_
        refine wc_seq ?_
        refine wc_block ?_
        refine wc_seq ?_
        refine wc_draw (.st 0 0 (.st 1 1 (.st 2 0 (.st 3 1 (.st 4 0 (.st 5 0 .nil)))))) 6 (by kernel_rfl) (by kernel_rfl) (by kernel_rfl) (by repeat (first | with_reducible exact pan_body | with_reducible apply pan_then | with_reducible apply pan_in)) (fun x => Ch No w30.drew x) (Ch.refl _ _) ?_
        obtain ⟨w31, ew31⟩ : ∃ x, x = w30.drew := ⟨_, rfl⟩
        rw [← ew31]
        have hc : Ch No w30 w31 := by rw [ew31]; exact Ch.drew _
        have hszw31 : w31.heap.size = w30.heap.size := by rw [ew31]; rfl
        clear ew31
        have hzw31 := hc.size
        have HC := HC.tr hc
        have hb2 := hb2.ch hc (fun h => h)
        have hb4 := hb4.ch hc (fun h => h)
        have hb5 := hb5.ch hc (fun h => h)
        have hb10 := hb10.ch hc (fun h => h)
        have hb11 := hb11.ch hc (fun h => h)
        have hS : Ch No w31 w31 := Ch.refl _ _
        refine ws_p rfl rfl rfl rfl (p_ixA1 (j := 0) Tryd.underlying66 sz29 rfl rfl (by omega) (by omega) rfl) ?_
        refine ws_h rfl rfl rfl rfl (p_ld Tryd.underlying29 rfl rfl (fun _ h => h.cell (fun h => h) (cellL hb11 (d := 0#32) (by first | (simp; done) | (simp; omega) | omega)))) ?_
        refine ws_p rfl rfl rfl rfl (p_ixA1 (j := 4) Tryd.underlying66 sz29 rfl rfl (by omega) (by omega) rfl) ?_
        refine ws_h rfl rfl rfl rfl (p_ld Tryd.underlying29 rfl rfl (fun _ h => h.cell (fun h => h) (cellL hb11 (d := 0#32) (by first | (simp; done) | (simp; omega) | omega)))) ?_
        refine ws_p rfl rfl rfl rfl (p_as rfl) ?_
        refine ws_p rfl rfl rfl rfl (p_as rfl) ?_
        refine ws_n ?_
        refine x_seq ?_
        refine wc_seq ?_
        refine wc_draw (.st 0 0 (.st 1 1 (.st 2 0 (.st 4 0 (.st 7 0 (.st 11 0 (.st 12 0 (.st 13 1 (.st 14 0 (.st 15 0 (.st 16 0 (.st 17 0 (.st 18 1 (.st 19 0 (.st 20 0 (.st 22 0 (.st 23 0 (.st 24 1 (.st 26 0 (.st 27 0 (.st 28 1 (.st 3 2 (.st 5 2 (.st 6 0 (.st 8 2 (.st 9 0 (.st 10 0 (.st 21 0 (.st 25 0 (.st 29 0 (.st 30 0 .nil))))))))))))))))))))))))))))))) 31 (by kernel_rfl) (by kernel_rfl) (by kernel_rfl) (by repeat (first | with_reducible exact pan_body | with_reducible apply pan_then | with_reducible apply pan_in)) (fun x => Ch No w31.drew x) (Ch.refl _ _) ?_
        obtain ⟨w34, ew34⟩ : ∃ x, x = w31.drew := ⟨_, rfl⟩
        rw [← ew34]
        have hc : Ch No w31 w34 := by rw [ew34]; exact Ch.drew _
        have hszw34 : w34.heap.size = w31.heap.size := by rw [ew34]; rfl
        clear ew34
        have hzw34 := hc.size
        have HC := HC.tr hc
        have hb2 := hb2.ch hc (fun h => h)
        have hb4 := hb4.ch hc (fun h => h)
        have hb5 := hb5.ch hc (fun h => h)
        have hb10 := hb10.ch hc (fun h => h)
        have hb11 := hb11.ch hc (fun h => h)
        have hS : Ch No w34 w34 := Ch.refl _ _
        refine ws_p rfl rfl rfl rfl (p_ixA1 (j := 7) Tryd.underlying66 sz29 rfl rfl (by omega) (by omega) rfl) ?_
        refine ws_h rfl rfl rfl rfl (p_ld Tryd.underlying29 rfl rfl (fun _ h => h.cell (fun h => h) (cellL hb11 (d := 0#32) (by first | (simp; done) | (simp; omega) | omega)))) ?_
        refine ws_p rfl rfl rfl rfl (p_mv rfl) ?_
        refine ws_p rfl rfl rfl rfl (p_mv rfl) ?_
        refine ws_p rfl rfl rfl rfl (p_mv rfl) ?_
        refine ws_p rfl rfl rfl rfl (p_mv rfl) ?_
        refine ws_p rfl rfl rfl rfl (p_ixA1 (j := 5) Tryd.underlying66 sz29 rfl rfl (by omega) (by omega) rfl) ?_
        refine ws_h rfl rfl rfl rfl (p_ld Tryd.underlying29 rfl rfl (fun _ h => h.cell (fun h => h) (cellL hb11 (d := 0#32) (by first | (simp; done) | (simp; omega) | omega)))) ?_
        refine ws_p rfl rfl rfl rfl (p_and32 rfl rfl) ?_
        refine ws_p rfl rfl rfl rfl (p_mv rfl) ?_
        refine ws_p rfl rfl rfl rfl (p_not32 rfl) ?_
        refine ws_p rfl rfl rfl rfl (p_ixA1 (j := 6) Tryd.underlying66 sz29 rfl rfl (by omega) (by omega) rfl) ?_
        refine ws_h rfl rfl rfl rfl (p_ld Tryd.underlying29 rfl rfl (fun _ h => h.cell (fun h => h) (cellL hb11 (d := 0#32) (by first | (simp; done) | (simp; omega) | omega)))) ?_
        refine ws_p rfl rfl rfl rfl (p_and32 rfl rfl) ?_
        refine ws_p rfl rfl rfl rfl ((p_xor32 rfl rfl).to (congrArg u32v (ch_ref _ _ _))) ?_
        refine ws_p rfl rfl rfl rfl (p_mv rfl) ?_
        refine ws_p rfl rfl rfl rfl (p_ixA1 Tryd.underlying85 sz29 rfl rfl (by omega) (by omega) (Int.toNat_natCast _)) ?_
        refine ws_h rfl rfl rfl rfl (p_ld Tryd.underlying29 rfl rfl (fun _ h => h.cell (fun h => h) (cellL hb10 (d := 0#32) (by first | (simp; done) | (simp; omega) | omega)))) ?_
        refine ws_p rfl rfl rfl rfl (p_mv rfl) ?_
        refine ws_p rfl rfl rfl rfl (p_ixA1 Tryd.underlying85 sz29 rfl rfl (by omega) (by omega) (Int.toNat_natCast _)) ?_
        refine ws_h rfl rfl rfl rfl (p_ld Tryd.underlying29 rfl rfl (fun _ h => h.cell (fun h => h) (cellL hb5 (d := 0#32) (by first | (simp; done) | (simp; omega) | omega)))) ?_
        refine ws_e rfl rfl (e_call ent76 rfl rfl (turn_any (n := 6) (by omega)) ?_)
        rintro _ w40 ⟨rfl, hc⟩
        refine ⟨_, rfl, hc, ?_⟩
        have hzw40 := hc.size
        have HC := HC.tr hc
        have hb2 := hb2.ch hc (fun h => h)
        have hb4 := hb4.ch hc (fun h => h)
        have hb5 := hb5.ch hc (fun h => h)
        have hb10 := hb10.ch hc (fun h => h)
        have hb11 := hb11.ch hc (fun h => h)
        refine ws_narrow (S' := fun x => Ch No w40 x) (Ch.refl _ _) (fun x h => hc.tr h) ?_
        refine ws_e rfl rfl (e_call ent76 rfl rfl (turn_any (n := 11) (by omega)) ?_)
        rintro _ w41 ⟨rfl, hc⟩
        refine ⟨_, rfl, hc, ?_⟩
        have hzw41 := hc.size
        have HC := HC.tr hc
        have hb2 := hb2.ch hc (fun h => h)
        have hb4 := hb4.ch hc (fun h => h)
        have hb5 := hb5.ch hc (fun h => h)
        have hb10 := hb10.ch hc (fun h => h)
        have hb11 := hb11.ch hc (fun h => h)
        refine ws_narrow (S' := fun x => Ch No w41 x) (Ch.refl _ _) (fun x h => hc.tr h) ?_
        refine ws_p rfl rfl rfl rfl (p_xor32 rfl rfl) ?_
        refine ws_e rfl rfl (e_call ent76 rfl rfl (turn_any (n := 25) (by omega)) ?_)
        rintro _ w42 ⟨rfl, hc⟩
        refine ⟨_, rfl, hc, ?_⟩
        have hzw42 := hc.size
        have HC := HC.tr hc
        have hb2 := hb2.ch hc (fun h => h)
        have hb4 := hb4.ch hc (fun h => h)
        have hb5 := hb5.ch hc (fun h => h)
        have hb10 := hb10.ch hc (fun h => h)
        have hb11 := hb11.ch hc (fun h => h)
        refine ws_narrow (S' := fun x => Ch No w42 x) (Ch.refl _ _) (fun x h => hc.tr h) ?_
        refine ws_p rfl rfl rfl rfl (p_xor32 rfl rfl) ?_
        refine ws_p rfl rfl rfl rfl (p_add32 rfl rfl) ?_
        refine ws_p rfl rfl rfl rfl (p_add32 rfl rfl) ?_
        refine ws_p rfl rfl rfl rfl (p_add32 rfl rfl) ?_
        refine ws_p rfl rfl rfl rfl (p_add32 rfl rfl) ?_
        refine ws_p rfl rfl rfl rfl (p_as rfl) ?_
        refine ws_n ?_
        refine x_seq ?_
        refine wc_seq ?_
        refine wc_draw (.st 0 0 (.st 2 0 (.st 5 0 (.st 8 0 (.st 9 0 (.st 10 1 (.st 11 0 (.st 12 0 (.st 13 0 (.st 14 1 (.st 15 0 (.st 16 0 (.st 17 0 (.st 18 1 (.st 19 0 (.st 20 1 (.st 21 0 (.st 22 0 (.st 1 2 (.st 3 2 (.st 4 0 (.st 6 2 (.st 7 0 (.st 23 0 (.st 24 0 .nil))))))))))))))))))))))))) 25 (by kernel_rfl) (by kernel_rfl) (by kernel_rfl) (by repeat (first | with_reducible exact pan_body | with_reducible apply pan_then | with_reducible apply pan_in)) (fun x => Ch No w42.drew x) (Ch.refl _ _) ?_
        obtain ⟨w43, ew43⟩ : ∃ x, x = w42.drew := ⟨_, rfl⟩
        rw [← ew43]
        have hc : Ch No w42 w43 := by rw [ew43]; exact Ch.drew _
        have hszw43 : w43.heap.size = w42.heap.size := by rw [ew43]; rfl
        clear ew43
        have hzw43 := hc.size
        have HC := HC.tr hc
        have hb2 := hb2.ch hc (fun h => h)
        have hb4 := hb4.ch hc (fun h => h)
        have hb5 := hb5.ch hc (fun h => h)
        have hb10 := hb10.ch hc (fun h => h)
        have hb11 := hb11.ch hc (fun h => h)
        have hS : Ch No w43 w43 := Ch.refl _ _
        refine ws_p rfl rfl rfl rfl (p_mv rfl) ?_
        refine ws_p rfl rfl rfl rfl (p_mv rfl) ?_
        refine ws_p rfl rfl rfl rfl (p_mv rfl) ?_
        refine ws_p rfl rfl rfl rfl (p_mv rfl) ?_
        refine ws_p rfl rfl rfl rfl (p_ixA1 (j := 1) Tryd.underlying66 sz29 rfl rfl (by omega) (by omega) rfl) ?_
        refine ws_h rfl rfl rfl rfl (p_ld Tryd.underlying29 rfl rfl (fun _ h => h.cell (fun h => h) (cellL hb11 (d := 0#32) (by first | (simp; done) | (simp; omega) | omega)))) ?_
        refine ws_p rfl rfl rfl rfl (p_and32 rfl rfl) ?_
        refine ws_p rfl rfl rfl rfl (p_mv rfl) ?_
        refine ws_p rfl rfl rfl rfl (p_ixA1 (j := 2) Tryd.underlying66 sz29 rfl rfl (by omega) (by omega) rfl) ?_
        refine ws_h rfl rfl rfl rfl (p_ld Tryd.underlying29 rfl rfl (fun _ h => h.cell (fun h => h) (cellL hb11 (d := 0#32) (by first | (simp; done) | (simp; omega) | omega)))) ?_
        refine ws_p rfl rfl rfl rfl (p_and32 rfl rfl) ?_
        refine ws_p rfl rfl rfl rfl (p_xor32 rfl rfl) ?_
        refine ws_p rfl rfl rfl rfl (p_ixA1 (j := 1) Tryd.underlying66 sz29 rfl rfl (by omega) (by omega) rfl) ?_
        refine ws_h rfl rfl rfl rfl (p_ld Tryd.underlying29 rfl rfl (fun _ h => h.cell (fun h => h) (cellL hb11 (d := 0#32) (by first | (simp; done) | (simp; omega) | omega)))) ?_
        refine ws_p rfl rfl rfl rfl (p_ixA1 (j := 2) Tryd.underlying66 sz29 rfl rfl (by omega) (by omega) rfl) ?_
        refine ws_h rfl rfl rfl rfl (p_ld Tryd.underlying29 rfl rfl (fun _ h => h.cell (fun h => h) (cellL hb11 (d := 0#32) (by first | (simp; done) | (simp; omega) | omega)))) ?_
        refine ws_p rfl rfl rfl rfl (p_and32 rfl rfl) ?_
        refine ws_p rfl rfl rfl rfl ((p_xor32 rfl rfl).to (congrArg u32v (maj_ref _ _ _))) ?_
        refine ws_e rfl rfl (e_call ent76 rfl rfl (turn_any (n := 2) (by omega)) ?_)
        rintro _ w48 ⟨rfl, hc⟩
        refine ⟨_, rfl, hc, ?_⟩
        have hzw48 := hc.size
        have HC := HC.tr hc
        have hb2 := hb2.ch hc (fun h => h)
        have hb4 := hb4.ch hc (fun h => h)
        have hb5 := hb5.ch hc (fun h => h)
        have hb10 := hb10.ch hc (fun h => h)
        have hb11 := hb11.ch hc (fun h => h)
        refine ws_narrow (S' := fun x => Ch No w48 x) (Ch.refl _ _) (fun x h => hc.tr h) ?_
        refine ws_e rfl rfl (e_call ent76 rfl rfl (turn_any (n := 13) (by omega)) ?_)
        rintro _ w49 ⟨rfl, hc⟩
        refine ⟨_, rfl, hc, ?_⟩
        have hzw49 := hc.size
        have HC := HC.tr hc
        have hb2 := hb2.ch hc (fun h => h)
        have hb4 := hb4.ch hc (fun h => h)
        have hb5 := hb5.ch hc (fun h => h)
        have hb10 := hb10.ch hc (fun h => h)
        have hb11 := hb11.ch hc (fun h => h)
        refine ws_narrow (S' := fun x => Ch No w49 x) (Ch.refl _ _) (fun x h => hc.tr h) ?_
        refine ws_p rfl rfl rfl rfl (p_xor32 rfl rfl) ?_
        refine ws_e rfl rfl (e_call ent76 rfl rfl (turn_any (n := 22) (by omega)) ?_)
        rintro _ w50 ⟨rfl, hc⟩
        refine ⟨_, rfl, hc, ?_⟩
        have hzw50 := hc.size
        have HC := HC.tr hc
        have hb2 := hb2.ch hc (fun h => h)
        have hb4 := hb4.ch hc (fun h => h)
        have hb5 := hb5.ch hc (fun h => h)
        have hb10 := hb10.ch hc (fun h => h)
        have hb11 := hb11.ch hc (fun h => h)
        refine ws_narrow (S' := fun x => Ch No w50 x) (Ch.refl _ _) (fun x h => hc.tr h) ?_
        refine ws_p rfl rfl rfl rfl (p_xor32 rfl rfl) ?_
        refine ws_p rfl rfl rfl rfl (p_add32 rfl rfl) ?_
        refine ws_p rfl rfl rfl rfl (p_as rfl) ?_
        refine ws_n ?_
        refine x_seq ?_
        refine wc_region ?_
        refine wl rfl rfl rfl (p_mv rfl) ?_
        refine wl rfl rfl rfl (p_mv rfl) ?_
        refine wl rfl rfl rfl ((p_add32 rfl rfl).to (congrArg u32v (BitVec.add_assoc _ _ _).symm)) ?_
        refine wl rfl rfl rfl (p_ixA1 (j := 0) Tryd.underlying66 sz29 rfl rfl (by omega) (by omega) rfl) ?_
        refine wl rfl rfl rfl (p_ld Tryd.underlying29 rfl rfl (ld (cellL hb11 (d := 0#32) (by first | (simp; done) | (simp; omega) | omega)))) ?_
        refine wl rfl rfl rfl (p_ixA1 (j := 1) Tryd.underlying66 sz29 rfl rfl (by omega) (by omega) rfl) ?_
        refine wl rfl rfl rfl (p_ld Tryd.underlying29 rfl rfl (ld (cellL hb11 (d := 0#32) (by first | (simp; done) | (simp; omega) | omega)))) ?_
        refine wl rfl rfl rfl (p_ixA1 (j := 2) Tryd.underlying66 sz29 rfl rfl (by omega) (by omega) rfl) ?_
        refine wl rfl rfl rfl (p_ld Tryd.underlying29 rfl rfl (ld (cellL hb11 (d := 0#32) (by first | (simp; done) | (simp; omega) | omega)))) ?_
        refine wl rfl rfl rfl (p_ixA1 (j := 3) Tryd.underlying66 sz29 rfl rfl (by omega) (by omega) rfl) ?_
        refine wl rfl rfl rfl (p_ld Tryd.underlying29 rfl rfl (ld (cellL hb11 (d := 0#32) (by first | (simp; done) | (simp; omega) | omega)))) ?_
        refine wl rfl rfl rfl (p_mv rfl) ?_
        refine wl rfl rfl rfl (p_add32 rfl rfl) ?_
        refine wl rfl rfl rfl (p_ixA1 (j := 4) Tryd.underlying66 sz29 rfl rfl (by omega) (by omega) rfl) ?_
        refine wl rfl rfl rfl (p_ld Tryd.underlying29 rfl rfl (ld (cellL hb11 (d := 0#32) (by first | (simp; done) | (simp; omega) | omega)))) ?_
        refine wl rfl rfl rfl (p_ixA1 (j := 5) Tryd.underlying66 sz29 rfl rfl (by omega) (by omega) rfl) ?_
        refine wl rfl rfl rfl (p_ld Tryd.underlying29 rfl rfl (ld (cellL hb11 (d := 0#32) (by first | (simp; done) | (simp; omega) | omega)))) ?_
        refine wl rfl rfl rfl (p_ixA1 (j := 6) Tryd.underlying66 sz29 rfl rfl (by omega) (by omega) rfl) ?_
        refine wl rfl rfl rfl (p_ld Tryd.underlying29 rfl rfl (ld (cellL hb11 (d := 0#32) (by first | (simp; done) | (simp; omega) | omega)))) ?_
        refine wl rfl rfl rfl (p_bldV rfl (fun _ => by kernel_rfl)) ?_
        refine wle rfl (e_stW (vs := _) (by first | rfl | exact szL sz66 (by rw [List.length_map]; exact hh)) (by first | exact allOne rfl | exact oneL one_u32 _) rfl rfl hb11 (by first | (simp [hh]; done) | (simp [hvl]; done)) (fun w58 hb11 hc hsz => ?_))
        have hzw58 := hc.size
        have HC := HC.trans hc (fun _ _ h => h) (fun k hk ht => absurd ht (by omega))
        have hb2 := hb2.ch hc (by omega)
        have hb4 := hb4.ch hc (by omega)
        have hb5 := hb5.ch hc (by omega)
        have hb10 := hb10.ch hc (by omega)
        refine wl_nil ?_
        refine x_in_normal ?_
        refine x_seq ?_
        refine wc_region ?_
        refine wl rfl rfl rfl (p_mv rfl) ?_
        refine wl rfl rfl rfl (p_add rfl rfl (w64 (by omega))) ?_
        refine wl rfl rfl rfl (p_as rfl) ?_
        refine wl_nil ?_
        refine x_round (e' := [(2, .pointer (some ⟨g2, 0, none⟩)), (4, .pointer (some ⟨g4, 0, none⟩)), (5, .pointer (some ⟨g5, 0, none⟩)), (10, .pointer (some ⟨g10, 0, none⟩)), (11, .pointer (some ⟨g11, 0, none⟩)), (12, i64 ((t + 1) : Int))]) ⟨rfl, rfl, rfl, rfl, rfl, rfl, trivial⟩ (by rw [hm2]; omega) ⟨t + 1, rfl, rfl, by omega, hb2, hb4, hb5, hb10, hb11, HC⟩
      ·
        have c2 := of_decide_eq_false c2
        obtain rfl : t = 64 := by omega
        have hvl := rnds_len (sch b 64) hh 64
        refine wc_exit ?_
        refine x_then_exit ?_
        refine x_then_exit ?_
        refine x_in_here ?_
        refine x_seq ?_
        refine wc_seq ?_
        refine wc_seq ?_
        refine wc_region ?_
        refine wl rfl rfl rfl (p_mv rfl) ?_
        refine wl_nil ?_
        refine x_seq ?_
        refine wc_block ?_
        refine wc_loop (e' := [(2, .pointer (some ⟨g2, 0, none⟩)), (4, .pointer (some ⟨g4, 0, none⟩)), (11, .pointer (some ⟨g11, 0, none⟩)), (182, i64 ((0) : Int))]) (fun mz ez uz => ∃ i : Nat, mz = 8 - i ∧ ez = [(2, .pointer (some ⟨g2, 0, none⟩)), (4, .pointer (some ⟨g4, 0, none⟩)), (11, .pointer (some ⟨g11, 0, none⟩)), (182, i64 (i : Int))] ∧ (i ≤ 8) ∧ (Blk uz g2 66 ((addN h (rnds (sch b 64) h 64) i).map u32v).toArray) ∧ (Blk uz g4 66 ((List.replicate 8 0#32).map u32v).toArray) ∧ (Blk uz g11 66 ((rnds (sch b 64) h 64).map u32v).toArray) ∧ (Ch No w uz))
          ⟨rfl, rfl, rfl, rfl, trivial⟩ ⟨0, rfl, rfl, by omega, hb2, hb4, hb11, HC⟩ ?_
        rintro m3 e w59 ⟨i, hm3, rfl, hi, hb2, hb4, hb11, HC⟩
        have hzw59 := HC.size
        have hal : (addN h (rnds (sch b 64) h 64) i).length = 8 := by rw [addN_len]; exact hh
        refine wc_seq ?_
        refine wc_region ?_
        refine wl rfl rfl rfl (p_lt rfl rfl) ?_
        refine wl_nil ?_
        refine x_seq ?_
        refine wc_seq ?_
        refine wc_if rfl (fun c3 => ?_) (fun c3 => ?_)
        ·
          have c3 := of_decide_eq_true c3
          refine wc_skip ?_
          refine x_seq ?_
          refine wc_seq ?_
          refine wc_block ?_
          refine wc_seq ?_
          refine wc_region ?_
          refine wl rfl rfl rfl (p_mv rfl) ?_
          refine wl rfl rfl rfl (p_as rfl) ?_
          refine wl_nil ?_
          refine x_seq ?_
          refine wc_draw (.st 0 0 (.st 1 0 (.st 2 1 (.st 3 0 (.st 4 0 (.st 5 1 (.st 6 0 (.st 7 0 (.st 8 3 .nil))))))))) 8 (by kernel_rfl) (by kernel_rfl) (by kernel_rfl) (by repeat (first | with_reducible exact pan_body | with_reducible apply pan_then | with_reducible apply pan_in)) (fun x => Ch No w59.drew x) (Ch.refl _ _) ?_
          obtain ⟨w60, ew60⟩ : ∃ x, x = w59.drew := ⟨_, rfl⟩
          rw [← ew60]
          have hc : Ch No w59 w60 := by rw [ew60]; exact Ch.drew _
          have hszw60 : w60.heap.size = w59.heap.size := by rw [ew60]; rfl
          clear ew60
          have hzw60 := hc.size
          have HC := HC.tr hc
          have hb2 := hb2.ch hc (fun h => h)
          have hb4 := hb4.ch hc (fun h => h)
          have hb11 := hb11.ch hc (fun h => h)
          have hS : Ch No w60 w60 := Ch.refl _ _
          refine ws_p rfl rfl rfl rfl (p_mv rfl) ?_
          refine ws_p rfl rfl rfl rfl (p_ixA1 Tryd.underlying66 sz29 rfl rfl (by omega) (by omega) (Int.toNat_natCast _)) ?_
          refine ws_h rfl rfl rfl rfl (p_ld Tryd.underlying29 rfl rfl (fun _ h => h.cell (fun h => h) (cellL hb2 (d := 0#32) (by first | (simp; done) | (simp; omega) | omega)))) ?_
          refine ws_p rfl rfl rfl rfl (p_mv rfl) ?_
          refine ws_p rfl rfl rfl rfl (p_ixA1 Tryd.underlying66 sz29 rfl rfl (by omega) (by omega) (Int.toNat_natCast _)) ?_
          refine ws_h rfl rfl rfl rfl (p_ld Tryd.underlying29 rfl rfl (fun _ h => h.cell (fun h => h) (cellL hb11 (d := 0#32) (by first | (simp; done) | (simp; omega) | omega)))) ?_
          refine ws_p rfl rfl rfl rfl (p_add32 rfl rfl) ?_
          refine ws_p rfl rfl rfl rfl (p_ixA1 Tryd.underlying66 sz29 rfl rfl (by omega) (by omega) (Int.toNat_natCast _)) ?_
          refine ws_l rfl rfl (e_stL one_u32 (by rfl) rfl rfl hb2 (by first | (simp; done) | (simp; omega) | omega) (fun w65 hb2 hc hsz => ?_))
          have hzw65 := hc.size
          have HC := HC.trans hc (fun _ _ h => h) (fun k hk ht => absurd ht (by omega))
          have hb4 := hb4.ch hc (by omega)
          have hb11 := hb11.ch hc (by omega)
          refine ws_n ?_
          refine x_in_normal ?_
          refine x_seq ?_
          refine wc_region ?_
          refine wl rfl rfl rfl (p_add rfl rfl (w64 (by omega))) ?_
          refine wl rfl rfl rfl (p_mv rfl) ?_
          refine wl_nil ?_
          refine x_round (e' := [(2, .pointer (some ⟨g2, 0, none⟩)), (4, .pointer (some ⟨g4, 0, none⟩)), (11, .pointer (some ⟨g11, 0, none⟩)), (182, i64 ((i + 1) : Int))]) ⟨rfl, rfl, rfl, rfl, trivial⟩ (by rw [hm3]; omega) ⟨i + 1, rfl, rfl, by omega, hb2, hb4, hb11, HC⟩
        ·
          have c3 := of_decide_eq_false c3
          obtain rfl : i = 8 := by omega
          have hal : (addN h (rnds (sch b 64) h 64) 8).length = 8 := by rw [addN_len]; exact hh
          refine wc_exit ?_
          refine x_then_exit ?_
          refine x_then_exit ?_
          refine x_in_here ?_
          refine x_seq ?_
          refine wc_seq ?_
          refine wc_region ?_
          refine wl rfl rfl rfl (p_ldA (cs := (addN h (rnds (sch b 64) h 64) 8).map u32v) Tryd.underlying66 rfl (szL sz66 (by rw [List.length_map]; exact hal)) rfl (fun _ e => e ▸ rngL hb2)) ?_
          refine wle rfl (e_stW (vs := ((addN h (rnds (sch b 64) h 64) 8).map u32v)) (szL sz66 (by rw [List.length_map]; exact hal)) (oneL one_u32 _) rfl rfl hb4 (by simp [hal]) (fun w66 hb4 hc hsz => ?_))
          have hzw66 := hc.size
          have HC := HC.trans hc (fun _ _ h => h) (fun k hk ht => absurd ht (by omega))
          have hb2 := hb2.ch hc (by omega)
          have hb11 := hb11.ch hc (by omega)
          refine wl_nil ?_
          refine x_seq ?_
          refine wc_ret ?_
          refine fin_run (resC rfl rfl Tryd.underlying66 rfl (szL sz66 (by rw [List.length_map]; exact hal)) (rngL hb4)) ?_
          exact ⟨rfl, HC⟩
end Go.Proofs.YtdbdconmcgcooaaDoor
