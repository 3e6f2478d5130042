/-
  Own text, printed by a program of mine (wip/gx): what functions of the program do, walked operation by operation.
-/
import Derived.Test.YtdbdconmcgcooaaDoorProg
import Derived.Test.YtdbdconmcgcooaaDoorGxAgg
import Derived.Test.YtdbdconmcgcooaaDoorTab
import Derived.Test.YtdbdconmcgcooaaDoorPlPack
import Derived.Test.YtdbdconmcgcooaaDoorPlSum
import Derived.Test.YtdbdconmcgcooaaDoorPlSha
import Derived.Test.YtdbdconmcgcooaaDoorPlShaSt
import Derived.Test.YtdbdconmcgcooaaDoorPlShaB
import Derived.Test.YtdbdconmcgcooaaDoorPlTag
import Derived.Test.YtdbdconmcgcooaaDoorGxTwo
import Derived.Test.YtdbdconmcgcooaaDoorTX
import Derived.Test.YtdbdconmcgcooaaDoorH0
set_option linter.unusedVariables false
namespace Go.Proofs.YtdbdconmcgcooaaDoor
open Go.RowKit Go.Gx
open Go.Plain
set_option maxHeartbeats 1000000 in
set_option maxRecDepth 20000 in
theorem tagHashes_walk {w : World} {Ab : Option Addr} {lb cb : Nat} {Fb : Nat → Prop} {b : List UInt8} {x y : List UInt8} {z : Int} (hb : Sl w Fb u8v Ab lb cb b) (hx : x.length = 32) (hy : y.length = 32) (hrnd : Sl w (fun k => k = 1) u32v (some ⟨1, 0, none⟩) 64 64 rk) :
    Calls Tryd.prog 12 #[.slice Ab lb cb, hv (x ++ y), i64 z] w fun e w' => e = .returned (.bool true) ∧ Ch No w w' := by
  have hn1 : 1 < w.heap.size := hrnd.size (by omega) rfl
  have hbl := hb.len
  have hb := hb.old
  have HC : Ch No w w := Ch.refl _ _
  refine enter' (args := [.slice Ab lb cb, hv (x ++ y), i64 z]) (n := 82) Tryd.func12 rfl rfl rfl ?_
  refine wc_seq ?_
  refine wc_region ?_
  refine wle rfl (e_box (cs := (List.map u8v (x ++ y)).toArray) rfl rfl rfl (fun w1 g4 hg4 hb4 hc hsz4 => ?_))
  have hzw1 := hc.size
  have HC := HC.tr hc
  have hb := hb.no hc
  have hrnd := hrnd.no hc
  have hge4 : w.heap.size ≤ g4 := by have := HC.size; omega
  refine wl rfl rfl rfl (p_as rfl) ?_
  refine wl_nil ?_
  refine x_seq ?_
  refine wc_seq ?_
  refine wc_seq ?_
  refine wc_region ?_
  refine wl rfl rfl rfl (p_mv rfl) ?_
  refine wl rfl rfl rfl (p_lenS Tryd.underlying22 rfl) ?_
  refine wl rfl rfl rfl (p_gt rfl rfl) ?_
  refine wl_nil ?_
  refine x_seq ?_
  refine wc_if rfl (fun c0 => ?_) (fun c0 => ?_)
  ·
    have c0 := of_decide_eq_true c0
    refine wc_seq ?_
    refine wc_region ?_
    refine wle rfl (e_call ent25 rfl rfl (lives4_any hrnd) ?_)
    rintro _ w2 ⟨rfl, hc⟩
    refine ⟨_, rfl, ?_⟩
    have hzw2 := hc.size
    have HC := HC.tr hc
    have hb := hb.no hc
    have hrnd := hrnd.no hc
    have hb4 := hb4.ch hc (fun h => h)
    refine wl rfl rfl rfl (p_as rfl) ?_
    refine wl_nil ?_
    refine x_seq ?_
    refine wc_ret ?_
    refine x_then_ret ?_
    refine fin_run (res1 rfl rfl) ?_
    exact ⟨rfl, HC⟩
  ·
    have c0 := of_decide_eq_false c0
    refine wc_skip ?_
    refine x_seq ?_
    refine wc_seq ?_
    refine wc_draw (.st 0 0 (.st 1 1 (.st 2 0 (.st 3 1 (.alt (.st 4 2 (.st 5 2 (.st 6 2 (.st 7 3 .nil)))) (.st 5 2 (.st 4 2 (.st 6 2 (.st 7 3 .nil))))))))) 7 (by kernel_rfl) (by kernel_rfl) (by kernel_rfl) (by repeat (first | with_reducible exact pan_body | with_reducible apply pan_then | with_reducible apply pan_in)) (fun z => Blk z g4 37 (List.map u8v (x ++ y)).toArray) (hb4.ch (Ch.drew _) (fun h => h)) ?_
    obtain ⟨w3, ew3⟩ : ∃ x, x = w1.drew := ⟨_, rfl⟩
    rw [← ew3]
    have hc : Ch No w1 w3 := by rw [ew3]; exact Ch.drew _
    have hszw3 : w3.heap.size = w1.heap.size := by rw [ew3]; rfl
    clear ew3
    have hzw3 := hc.size
    have HC := HC.tr hc
    have hb := hb.no hc
    have hrnd := hrnd.no hc
    have hb4 := hb4.ch hc (fun h => h)
    have hS : Ch No w3 w3 := Ch.refl _ _
    refine ws_p rfl rfl rfl rfl (p_ixA (j := 0) Tryd.underlying37 sz25 rfl rfl (by omega) (by omega) rfl) ?_
    refine ws_h rfl rfl rfl rfl (p_ldA (cs := List.map u8v x) Tryd.underlying25 rfl (szL sz25 (by rw [List.length_map]; exact hx)) rfl (fun _ h => rng_fst h)) ?_
    refine ws_p rfl rfl rfl rfl (p_ixA (j := 32) Tryd.underlying37 sz25 rfl rfl (by omega) (by omega) rfl) ?_
    refine ws_h rfl rfl rfl rfl (p_ldA (cs := List.map u8v y) Tryd.underlying25 rfl (szL sz25 (by rw [List.length_map]; exact hy)) rfl (fun _ h => rng_snd h hx)) ?_
    refine ws_alt ?_ ?_
    ·
      have hltg4 := hb4.lt
      refine ws_e rfl rfl (e_alloc (cs := ((List.replicate 32 (0 : UInt8)).map u8v).toArray) rfl (by rfl) rfl (fun w6 g7 hg7 hb7 hc hsz7 => ⟨(by first | exact hb4.ch hc (fun h => h) | exact hb4.ch hc (by omega)), ?_⟩))
      have hzw6 := hc.size
      have HC := HC.tr hc
      have hb := hb.no hc
      have hrnd := hrnd.no hc
      have hb4 := hb4.ch hc (fun h => h)
      have hge7 : w.heap.size ≤ g7 := by have := HC.size; omega
      have neg4_7 : g4 < g7 := by omega
      have hltg4 := hb4.lt
      have hltg7 := hb7.lt
      refine ws_e rfl rfl (e_alloc (cs := ((List.replicate 32 (0 : UInt8)).map u8v).toArray) rfl (by rfl) rfl (fun w7 g8 hg8 hb8 hc hsz8 => ⟨(by first | exact hb4.ch hc (fun h => h) | exact hb4.ch hc (by omega)), ?_⟩))
      have hzw7 := hc.size
      have HC := HC.tr hc
      have hb := hb.no hc
      have hrnd := hrnd.no hc
      have hb4 := hb4.ch hc (fun h => h)
      have hb7 := hb7.ch hc (fun h => h)
      have hge8 : w.heap.size ≤ g8 := by have := HC.size; omega
      have neg4_8 : g4 < g8 := by omega
      have neg7_8 : g7 < g8 := by omega
      refine ws_e rfl rfl (e_stW (vs := List.map u8v x) (szL sz25 (by rw [List.length_map]; exact hx)) (oneL one_u8 _) rfl rfl hb7 (by simp only [List.size_toArray, List.length_map]; first | done | exact ((List.length_replicate ..)).trans (hx).symm) (fun w8 hb7 hc hsz => ⟨(by first | exact hb4.ch hc (fun h => h) | exact hb4.ch hc (by omega)), ?_⟩))
      have hzw8 := hc.size
      have HC := HC.trans hc (fun _ _ h => h) (fun k hk ht => absurd ht (by omega))
      first | have hb := hb.ch hc (by intro k hk ht; first | omega | (dsimp only at *; omega)) | have hb := hb.chT hc (by intro k hz hk ht; first | omega | (dsimp only at *; omega))
      first | have hrnd := hrnd.ch hc (by intro k hk ht; first | omega | (dsimp only at *; omega)) | have hrnd := hrnd.chT hc (by intro k hz hk ht; first | omega | (dsimp only at *; omega))
      have hb4 := hb4.ch hc (by omega)
      have hb8 := hb8.ch hc (by omega)
      refine ws_l rfl rfl (e_stW (vs := List.map u8v y) (szL sz25 (by rw [List.length_map]; exact hy)) (oneL one_u8 _) rfl rfl hb8 (by simp only [List.size_toArray, List.length_map]; first | done | exact ((List.length_replicate ..)).trans (hy).symm) (fun w9 hb8 hc hsz => ?_))
      have hzw9 := hc.size
      have HC := HC.trans hc (fun _ _ h => h) (fun k hk ht => absurd ht (by omega))
      first | have hb := hb.ch hc (by intro k hk ht; first | omega | (dsimp only at *; omega)) | have hb := hb.chT hc (by intro k hz hk ht; first | omega | (dsimp only at *; omega))
      first | have hrnd := hrnd.ch hc (by intro k hk ht; first | omega | (dsimp only at *; omega)) | have hrnd := hrnd.chT hc (by intro k hz hk ht; first | omega | (dsimp only at *; omega))
      have hb4 := hb4.ch hc (by omega)
      have hb7 := hb7.ch hc (by omega)
      refine ws_n ?_
      refine x_seq ?_
      refine wc_seq ?_
      refine wc_draw (.st 0 0 (.st 2 0 (.st 1 2 (.st 3 2 (.st 4 0 (.st 5 0 (.st 6 1 (.st 7 1 (.st 9 1 (.st 10 1 (.st 8 2 (.st 11 2 (.st 12 0 (.st 13 0 (.st 14 0 (.st 15 1 (.st 16 1 (.st 18 1 (.st 19 1 (.st 17 2 (.st 20 2 (.st 21 0 (.st 22 0 (.st 23 0 (.st 24 0 (.st 25 1 (.st 26 1 (.st 28 0 (.st 29 1 (.st 30 1 (.st 27 2 (.st 31 2 (.st 32 0 (.st 33 0 (.st 34 0 (.st 35 0 (.st 36 1 (.st 38 0 (.st 39 1 (.st 37 2 (.st 40 2 (.st 41 0 (.st 42 0 (.st 43 0 (.st 44 0 (.st 45 1 (.st 47 0 (.st 48 1 (.st 46 2 (.st 49 2 (.st 50 0 (.st 51 0 (.st 52 0 (.st 53 2 (.st 54 2 (.st 55 0 (.st 56 0 (.st 57 0 (.st 58 2 (.st 59 2 (.st 60 0 (.st 61 0 (.st 62 0 (.st 63 2 (.st 64 0 (.st 65 0 .nil)))))))))))))))))))))))))))))))))))))))))))))))))))))))))))))))))) 66 (by kernel_rfl) (by kernel_rfl) (by kernel_rfl) (by repeat (first | with_reducible exact pan_body | with_reducible apply pan_then | with_reducible apply pan_in)) (fun x => Ch No w9.drew x) (Ch.refl _ _) ?_
      obtain ⟨w10, ew10⟩ : ∃ x, x = w9.drew := ⟨_, rfl⟩
      rw [← ew10]
      have hc : Ch No w9 w10 := by rw [ew10]; exact Ch.drew _
      have hszw10 : w10.heap.size = w9.heap.size := by rw [ew10]; rfl
      clear ew10
      have hzw10 := hc.size
      have HC := HC.tr hc
      have hb := hb.no hc
      have hrnd := hrnd.no hc
      have hb4 := hb4.ch hc (fun h => h)
      have hb7 := hb7.ch hc (fun h => h)
      have hb8 := hb8.ch hc (fun h => h)
      have hS : Ch No w10 w10 := Ch.refl _ _
      refine ws_p rfl rfl rfl rfl (p_mv rfl) ?_
      refine ws_p rfl rfl rfl rfl (p_mv rfl) ?_
      refine ws_e rfl rfl (e_call ent36 rfl rfl (tleaf_any (hb) (by omega) hrnd) ?_)
      rintro _ w11 ⟨rfl, hc⟩
      refine ⟨_, rfl, hc, ?_⟩
      have hzw11 := hc.size
      have HC := HC.tr hc
      have hb := hb.no hc
      have hrnd := hrnd.no hc
      have hb4 := hb4.ch hc (fun h => h)
      have hb7 := hb7.ch hc (fun h => h)
      have hb8 := hb8.ch hc (fun h => h)
      refine ws_narrow (S' := fun x => Ch No w11 x) (Ch.refl _ _) (fun x h => hc.tr h) ?_
      refine ws_e rfl rfl (e_call ent40 rfl rfl (rtleaf_any (hb) (by omega)) ?_)
      rintro _ w12 ⟨rfl, hc⟩
      refine ⟨_, rfl, hc, ?_⟩
      have hzw12 := hc.size
      have HC := HC.tr hc
      have hb := hb.no hc
      have hrnd := hrnd.no hc
      have hb4 := hb4.ch hc (fun h => h)
      have hb7 := hb7.ch hc (fun h => h)
      have hb8 := hb8.ch hc (fun h => h)
      refine ws_narrow (S' := fun x => Ch No w12 x) (Ch.refl _ _) (fun x h => hc.tr h) ?_
      refine ws_p rfl rfl rfl rfl (p_eqH (a := (leafH _)) (b := (leafH _)) (by kernel_rfl) Tryd.underlying25 Tryd.underlying5 sz5 rfl rfl (leafH_len _) (leafH_len _)) ?_
      refine ws_p rfl rfl rfl rfl (p_mv rfl) ?_
      refine ws_know (d := 22) (b' := true) rfl ((by first | exact beq_self_eq_true _ | exact decide_eq_true rfl | exact eqT_of rfl)) ?_
      refine ws_hg rfl (gd_ rfl rfl rfl rfl rfl rfl) rfl rfl (p_ldA (cs := List.map u8v x) Tryd.underlying25 rfl (szL sz25 (by rw [List.length_map]; exact hx)) rfl (fun _ h => (rngL (hb7.ch h (fun h => h))))) ?_
      refine ws_hg rfl (gd_ rfl rfl rfl rfl rfl rfl) rfl rfl (p_ldA (cs := List.map u8v y) Tryd.underlying25 rfl (szL sz25 (by rw [List.length_map]; exact hy)) rfl (fun _ h => (rngL (hb8.ch h (fun h => h))))) ?_
      refine ws_hg rfl (gd_ rfl rfl rfl rfl rfl rfl) rfl rfl (p_ldA (cs := List.map u8v x) Tryd.underlying25 rfl (szL sz25 (by rw [List.length_map]; exact hx)) rfl (fun _ h => (rngL (hb7.ch h (fun h => h))))) ?_
      refine ws_hg rfl (gd_ rfl rfl rfl rfl rfl rfl) rfl rfl (p_ldA (cs := List.map u8v y) Tryd.underlying25 rfl (szL sz25 (by rw [List.length_map]; exact hy)) rfl (fun _ h => (rngL (hb8.ch h (fun h => h))))) ?_
      refine ws_eg rfl (gd_ rfl rfl rfl rfl rfl rfl) (e_call ent28 rfl rfl (tnode_any (hx) (hy) hrnd) ?_)
      rintro _ w13 ⟨rfl, hc⟩
      refine ⟨_, rfl, hc, ?_⟩
      have hzw13 := hc.size
      have HC := HC.tr hc
      have hb := hb.no hc
      have hrnd := hrnd.no hc
      have hb4 := hb4.ch hc (fun h => h)
      have hb7 := hb7.ch hc (fun h => h)
      have hb8 := hb8.ch hc (fun h => h)
      refine ws_narrow (S' := fun x => Ch No w13 x) (Ch.refl _ _) (fun x h => hc.tr h) ?_
      refine ws_eg rfl (gd_ rfl rfl rfl rfl rfl rfl) (e_call ent41 rfl rfl (rtnode_any (hx) (hy)) ?_)
      rintro _ w14 ⟨rfl, hc⟩
      refine ⟨_, rfl, hc, ?_⟩
      have hzw14 := hc.size
      have HC := HC.tr hc
      have hb := hb.no hc
      have hrnd := hrnd.no hc
      have hb4 := hb4.ch hc (fun h => h)
      have hb7 := hb7.ch hc (fun h => h)
      have hb8 := hb8.ch hc (fun h => h)
      refine ws_narrow (S' := fun x => Ch No w14 x) (Ch.refl _ _) (fun x h => hc.tr h) ?_
      refine ws_pg rfl (gd_ rfl rfl rfl rfl rfl rfl) rfl rfl (p_eqH (a := (nodeH _ _)) (b := (nodeH _ _)) (by kernel_rfl) Tryd.underlying25 Tryd.underlying5 sz5 rfl rfl (nodeH_len _ _) (nodeH_len _ _)) ?_
      refine ws_p rfl rfl rfl rfl (p_pickT rfl rfl) ?_
      refine ws_p rfl rfl rfl rfl (p_mv rfl) ?_
      refine ws_know (d := 31) (b' := true) rfl ((by first | exact beq_self_eq_true _ | exact decide_eq_true rfl | exact eqT_of rfl)) ?_
      refine ws_hg rfl (gd_ rfl rfl rfl rfl rfl rfl) rfl rfl (p_ldA (cs := List.map u8v x) Tryd.underlying25 rfl (szL sz25 (by rw [List.length_map]; exact hx)) rfl (fun _ h => (rngL (hb7.ch h (fun h => h))))) ?_
      refine ws_hg rfl (gd_ rfl rfl rfl rfl rfl rfl) rfl rfl (p_ldA (cs := List.map u8v y) Tryd.underlying25 rfl (szL sz25 (by rw [List.length_map]; exact hy)) rfl (fun _ h => (rngL (hb8.ch h (fun h => h))))) ?_
      refine ws_hg rfl (gd_ rfl rfl rfl rfl rfl rfl) rfl rfl (p_ldA (cs := List.map u8v x) Tryd.underlying25 rfl (szL sz25 (by rw [List.length_map]; exact hx)) rfl (fun _ h => (rngL (hb7.ch h (fun h => h))))) ?_
      refine ws_hg rfl (gd_ rfl rfl rfl rfl rfl rfl) rfl rfl (p_ldA (cs := List.map u8v y) Tryd.underlying25 rfl (szL sz25 (by rw [List.length_map]; exact hy)) rfl (fun _ h => (rngL (hb8.ch h (fun h => h))))) ?_
      refine ws_eg rfl (gd_ rfl rfl rfl rfl rfl rfl) (e_call ent38 rfl rfl (titem_any (hx) (hy) hrnd) ?_)
      rintro _ w15 ⟨rfl, hc⟩
      refine ⟨_, rfl, hc, ?_⟩
      have hzw15 := hc.size
      have HC := HC.tr hc
      have hb := hb.no hc
      have hrnd := hrnd.no hc
      have hb4 := hb4.ch hc (fun h => h)
      have hb7 := hb7.ch hc (fun h => h)
      have hb8 := hb8.ch hc (fun h => h)
      refine ws_narrow (S' := fun x => Ch No w15 x) (Ch.refl _ _) (fun x h => hc.tr h) ?_
      refine ws_eg rfl (gd_ rfl rfl rfl rfl rfl rfl) (e_call ent42 rfl rfl (rtitem_any (hx) (hy)) ?_)
      rintro _ w16 ⟨rfl, hc⟩
      refine ⟨_, rfl, hc, ?_⟩
      have hzw16 := hc.size
      have HC := HC.tr hc
      have hb := hb.no hc
      have hrnd := hrnd.no hc
      have hb4 := hb4.ch hc (fun h => h)
      have hb7 := hb7.ch hc (fun h => h)
      have hb8 := hb8.ch hc (fun h => h)
      refine ws_narrow (S' := fun x => Ch No w16 x) (Ch.refl _ _) (fun x h => hc.tr h) ?_
      refine ws_pg rfl (gd_ rfl rfl rfl rfl rfl rfl) rfl rfl (p_eqH (a := (itemH _ _)) (b := (itemH _ _)) (by kernel_rfl) Tryd.underlying25 Tryd.underlying5 sz5 rfl rfl (itemH_len _ _) (itemH_len _ _)) ?_
      refine ws_p rfl rfl rfl rfl (p_pickT rfl rfl) ?_
      refine ws_p rfl rfl rfl rfl (p_mv rfl) ?_
      refine ws_know (d := 40) (b' := true) rfl ((by first | exact beq_self_eq_true _ | exact decide_eq_true rfl | exact eqT_of rfl)) ?_
      refine ws_pg rfl (gd_ rfl rfl rfl rfl rfl rfl) rfl rfl (p_mv rfl) ?_
      refine ws_hg rfl (gd_ rfl rfl rfl rfl rfl rfl) rfl rfl (p_ldA (cs := List.map u8v x) Tryd.underlying25 rfl (szL sz25 (by rw [List.length_map]; exact hx)) rfl (fun _ h => (rngL (hb7.ch h (fun h => h))))) ?_
      refine ws_hg rfl (gd_ rfl rfl rfl rfl rfl rfl) rfl rfl (p_ldA (cs := List.map u8v y) Tryd.underlying25 rfl (szL sz25 (by rw [List.length_map]; exact hy)) rfl (fun _ h => (rngL (hb8.ch h (fun h => h))))) ?_
      refine ws_pg rfl (gd_ rfl rfl rfl rfl rfl rfl) rfl rfl (p_mv rfl) ?_
      refine ws_hg rfl (gd_ rfl rfl rfl rfl rfl rfl) rfl rfl (p_ldA (cs := List.map u8v x) Tryd.underlying25 rfl (szL sz25 (by rw [List.length_map]; exact hx)) rfl (fun _ h => (rngL (hb7.ch h (fun h => h))))) ?_
      refine ws_hg rfl (gd_ rfl rfl rfl rfl rfl rfl) rfl rfl (p_ldA (cs := List.map u8v y) Tryd.underlying25 rfl (szL sz25 (by rw [List.length_map]; exact hy)) rfl (fun _ h => (rngL (hb8.ch h (fun h => h))))) ?_
      refine ws_eg rfl (gd_ rfl rfl rfl rfl rfl rfl) (e_call ent29 rfl rfl (tfork_any (hx) (hy) hrnd) ?_)
      rintro _ w17 ⟨rfl, hc⟩
      refine ⟨_, rfl, hc, ?_⟩
      have hzw17 := hc.size
      have HC := HC.tr hc
      have hb := hb.no hc
      have hrnd := hrnd.no hc
      have hb4 := hb4.ch hc (fun h => h)
      have hb7 := hb7.ch hc (fun h => h)
      have hb8 := hb8.ch hc (fun h => h)
      refine ws_narrow (S' := fun x => Ch No w17 x) (Ch.refl _ _) (fun x h => hc.tr h) ?_
      refine ws_eg rfl (gd_ rfl rfl rfl rfl rfl rfl) (e_call ent43 rfl rfl (rtfork_any (hx) (hy)) ?_)
      rintro _ w18 ⟨rfl, hc⟩
      refine ⟨_, rfl, hc, ?_⟩
      have hzw18 := hc.size
      have HC := HC.tr hc
      have hb := hb.no hc
      have hrnd := hrnd.no hc
      have hb4 := hb4.ch hc (fun h => h)
      have hb7 := hb7.ch hc (fun h => h)
      have hb8 := hb8.ch hc (fun h => h)
      refine ws_narrow (S' := fun x => Ch No w18 x) (Ch.refl _ _) (fun x h => hc.tr h) ?_
      refine ws_pg rfl (gd_ rfl rfl rfl rfl rfl rfl) rfl rfl (p_eqH (a := (forkH _ _ _)) (b := (forkH _ _ _)) (by kernel_rfl) Tryd.underlying25 Tryd.underlying5 sz5 rfl rfl (forkH_len _ _ _) (forkH_len _ _ _)) ?_
      refine ws_p rfl rfl rfl rfl (p_pickT rfl rfl) ?_
      refine ws_p rfl rfl rfl rfl (p_mv rfl) ?_
      refine ws_know (d := 51) (b' := true) rfl ((by first | exact beq_self_eq_true _ | exact decide_eq_true rfl | exact eqT_of rfl)) ?_
      refine ws_pg rfl (gd_ rfl rfl rfl rfl rfl rfl) rfl rfl (p_mv rfl) ?_
      refine ws_hg rfl (gd_ rfl rfl rfl rfl rfl rfl) rfl rfl (p_bts Tryd.underlying22 Tryd.underlying5 Tryd.underlying9 rfl (hb).len (fun _ h => (hb).rd.no h)) ?_
      refine ws_pg rfl (gd_ rfl rfl rfl rfl rfl rfl) rfl rfl (p_mv rfl) ?_
      refine ws_hg rfl (gd_ rfl rfl rfl rfl rfl rfl) rfl rfl (p_bts Tryd.underlying22 Tryd.underlying5 Tryd.underlying9 rfl (hb).len (fun _ h => (hb).rd.no h)) ?_
      refine ws_eg rfl (gd_ rfl rfl rfl rfl rfl rfl) (e_call ent37 rfl rfl (tkey_any (by first | omega | (simp only [str_size]; omega)) hrnd) ?_)
      rintro _ w19 ⟨rfl, hc⟩
      refine ⟨_, rfl, hc, ?_⟩
      have hzw19 := hc.size
      have HC := HC.tr hc
      have hb := hb.no hc
      have hrnd := hrnd.no hc
      have hb4 := hb4.ch hc (fun h => h)
      have hb7 := hb7.ch hc (fun h => h)
      have hb8 := hb8.ch hc (fun h => h)
      refine ws_narrow (S' := fun x => Ch No w19 x) (Ch.refl _ _) (fun x h => hc.tr h) ?_
      refine ws_eg rfl (gd_ rfl rfl rfl rfl rfl rfl) (e_call ent44 rfl rfl (rtkey_any (by first | omega | (simp only [str_size]; omega))) ?_)
      rintro _ w20 ⟨rfl, hc⟩
      refine ⟨_, rfl, hc, ?_⟩
      have hzw20 := hc.size
      have HC := HC.tr hc
      have hb := hb.no hc
      have hrnd := hrnd.no hc
      have hb4 := hb4.ch hc (fun h => h)
      have hb7 := hb7.ch hc (fun h => h)
      have hb8 := hb8.ch hc (fun h => h)
      refine ws_narrow (S' := fun x => Ch No w20 x) (Ch.refl _ _) (fun x h => hc.tr h) ?_
      refine ws_pg rfl (gd_ rfl rfl rfl rfl rfl rfl) rfl rfl (p_eqH (a := (keyH _)) (b := (keyH _)) (by kernel_rfl) Tryd.underlying25 Tryd.underlying5 sz5 rfl rfl (keyH_len _) (keyH_len _)) ?_
      refine ws_p rfl rfl rfl rfl (p_pickT rfl rfl) ?_
      refine ws_p rfl rfl rfl rfl (p_mv rfl) ?_
      refine ws_know (d := 60) (b' := true) rfl ((by first | exact beq_self_eq_true _ | exact decide_eq_true rfl | exact eqT_of rfl)) ?_
      refine ws_pg rfl (gd_ rfl rfl rfl rfl rfl rfl) rfl rfl (p_mv rfl) ?_
      refine ws_hg rfl (gd_ rfl rfl rfl rfl rfl rfl) rfl rfl (p_bts Tryd.underlying22 Tryd.underlying5 Tryd.underlying9 rfl (hb).len (fun _ h => (hb).rd.no h)) ?_
      refine ws_pg rfl (gd_ rfl rfl rfl rfl rfl rfl) rfl rfl (p_mv rfl) ?_
      refine ws_hg rfl (gd_ rfl rfl rfl rfl rfl rfl) rfl rfl (p_bts Tryd.underlying22 Tryd.underlying5 Tryd.underlying9 rfl (hb).len (fun _ h => (hb).rd.no h)) ?_
      refine ws_eg rfl (gd_ rfl rfl rfl rfl rfl rfl) (e_call ent39 rfl rfl (tval_any (by first | omega | (simp only [str_size]; omega)) hrnd) ?_)
      rintro _ w21 ⟨rfl, hc⟩
      refine ⟨_, rfl, hc, ?_⟩
      have hzw21 := hc.size
      have HC := HC.tr hc
      have hb := hb.no hc
      have hrnd := hrnd.no hc
      have hb4 := hb4.ch hc (fun h => h)
      have hb7 := hb7.ch hc (fun h => h)
      have hb8 := hb8.ch hc (fun h => h)
      refine ws_narrow (S' := fun x => Ch No w21 x) (Ch.refl _ _) (fun x h => hc.tr h) ?_
      refine ws_eg rfl (gd_ rfl rfl rfl rfl rfl rfl) (e_call ent45 rfl rfl (rtval_any (by first | omega | (simp only [str_size]; omega))) ?_)
      rintro _ w22 ⟨rfl, hc⟩
      refine ⟨_, rfl, hc, ?_⟩
      have hzw22 := hc.size
      have HC := HC.tr hc
      have hb := hb.no hc
      have hrnd := hrnd.no hc
      have hb4 := hb4.ch hc (fun h => h)
      have hb7 := hb7.ch hc (fun h => h)
      have hb8 := hb8.ch hc (fun h => h)
      refine ws_narrow (S' := fun x => Ch No w22 x) (Ch.refl _ _) (fun x h => hc.tr h) ?_
      refine ws_pg rfl (gd_ rfl rfl rfl rfl rfl rfl) rfl rfl (p_eqH (a := (valH _)) (b := (valH _)) (by kernel_rfl) Tryd.underlying25 Tryd.underlying5 sz5 rfl rfl (valH_len _) (valH_len _)) ?_
      refine ws_p rfl rfl rfl rfl (p_pickT rfl rfl) ?_
      refine ws_p rfl rfl rfl rfl (p_mv rfl) ?_
      refine ws_know (d := 69) (b' := true) rfl ((by first | exact beq_self_eq_true _ | exact decide_eq_true rfl | exact eqT_of rfl)) ?_
      refine ws_eg rfl (gd_ rfl rfl rfl rfl rfl rfl) (e_call ent31 rfl rfl (tempty_any  hrnd) ?_)
      rintro _ w23 ⟨rfl, hc⟩
      refine ⟨_, rfl, hc, ?_⟩
      have hzw23 := hc.size
      have HC := HC.tr hc
      have hb := hb.no hc
      have hrnd := hrnd.no hc
      have hb4 := hb4.ch hc (fun h => h)
      have hb7 := hb7.ch hc (fun h => h)
      have hb8 := hb8.ch hc (fun h => h)
      refine ws_narrow (S' := fun x => Ch No w23 x) (Ch.refl _ _) (fun x h => hc.tr h) ?_
      refine ws_eg rfl (gd_ rfl rfl rfl rfl rfl rfl) (e_call ent46 rfl rfl (rtempty_any ) ?_)
      rintro _ w24 ⟨rfl, hc⟩
      refine ⟨_, rfl, hc, ?_⟩
      have hzw24 := hc.size
      have HC := HC.tr hc
      have hb := hb.no hc
      have hrnd := hrnd.no hc
      have hb4 := hb4.ch hc (fun h => h)
      have hb7 := hb7.ch hc (fun h => h)
      have hb8 := hb8.ch hc (fun h => h)
      refine ws_narrow (S' := fun x => Ch No w24 x) (Ch.refl _ _) (fun x h => hc.tr h) ?_
      refine ws_pg rfl (gd_ rfl rfl rfl rfl rfl rfl) rfl rfl (p_eqH (a := (emptyH)) (b := (emptyH)) (by kernel_rfl) Tryd.underlying25 Tryd.underlying5 sz5 rfl rfl (emptyH_len) (emptyH_len)) ?_
      refine ws_p rfl rfl rfl rfl (p_pickT rfl rfl) ?_
      refine ws_p rfl rfl rfl rfl (p_mv rfl) ?_
      refine ws_know (d := 74) (b' := true) rfl ((by first | exact beq_self_eq_true _ | exact decide_eq_true rfl | exact eqT_of rfl)) ?_
      refine ws_eg rfl (gd_ rfl rfl rfl rfl rfl rfl) (e_call ent30 rfl rfl (tnone_any  hrnd) ?_)
      rintro _ w25 ⟨rfl, hc⟩
      refine ⟨_, rfl, hc, ?_⟩
      have hzw25 := hc.size
      have HC := HC.tr hc
      have hb := hb.no hc
      have hrnd := hrnd.no hc
      have hb4 := hb4.ch hc (fun h => h)
      have hb7 := hb7.ch hc (fun h => h)
      have hb8 := hb8.ch hc (fun h => h)
      refine ws_narrow (S' := fun x => Ch No w25 x) (Ch.refl _ _) (fun x h => hc.tr h) ?_
      refine ws_eg rfl (gd_ rfl rfl rfl rfl rfl rfl) (e_call ent47 rfl rfl (rtnone_any ) ?_)
      rintro _ w26 ⟨rfl, hc⟩
      refine ⟨_, rfl, hc, ?_⟩
      have hzw26 := hc.size
      have HC := HC.tr hc
      have hb := hb.no hc
      have hrnd := hrnd.no hc
      have hb4 := hb4.ch hc (fun h => h)
      have hb7 := hb7.ch hc (fun h => h)
      have hb8 := hb8.ch hc (fun h => h)
      refine ws_narrow (S' := fun x => Ch No w26 x) (Ch.refl _ _) (fun x h => hc.tr h) ?_
      refine ws_pg rfl (gd_ rfl rfl rfl rfl rfl rfl) rfl rfl (p_eqH (a := (noneH)) (b := (noneH)) (by kernel_rfl) Tryd.underlying25 Tryd.underlying5 sz5 rfl rfl (noneH_len) (noneH_len)) ?_
      refine ws_p rfl rfl rfl rfl (p_pickT rfl rfl) ?_
      refine ws_p rfl rfl rfl rfl (p_mv rfl) ?_
      refine ws_know (d := 79) (b' := true) rfl ((by first | exact beq_self_eq_true _ | exact decide_eq_true rfl | exact eqT_of rfl)) ?_
      refine ws_eg rfl (gd_ rfl rfl rfl rfl rfl rfl) (e_call ent25 rfl rfl (lives4_any hrnd) ?_)
      rintro _ w27 ⟨rfl, hc⟩
      refine ⟨_, rfl, hc, ?_⟩
      have hzw27 := hc.size
      have HC := HC.tr hc
      have hb := hb.no hc
      have hrnd := hrnd.no hc
      have hb4 := hb4.ch hc (fun h => h)
      have hb7 := hb7.ch hc (fun h => h)
      have hb8 := hb8.ch hc (fun h => h)
      refine ws_narrow (S' := fun x => Ch No w27 x) (Ch.refl _ _) (fun x h => hc.tr h) ?_
      refine ws_p rfl rfl rfl rfl (p_pickT rfl rfl) ?_
      refine ws_p rfl rfl rfl rfl (p_as rfl) ?_
      refine ws_n ?_
      refine x_seq ?_
      refine wc_ret ?_
      refine fin_run (res1 rfl rfl) ?_
      exact ⟨rfl, HC⟩
    ·
      have hltg4 := hb4.lt
      refine ws_e rfl rfl (e_alloc (cs := ((List.replicate 32 (0 : UInt8)).map u8v).toArray) rfl (by rfl) rfl (fun w28 g8 hg8 hb8 hc hsz8 => ⟨(by first | exact hb4.ch hc (fun h => h) | exact hb4.ch hc (by omega)), ?_⟩))
      have hzw28 := hc.size
      have HC := HC.tr hc
      have hb := hb.no hc
      have hrnd := hrnd.no hc
      have hb4 := hb4.ch hc (fun h => h)
      have hge8 : w.heap.size ≤ g8 := by have := HC.size; omega
      have neg4_8 : g4 < g8 := by omega
      have hltg4 := hb4.lt
      have hltg8 := hb8.lt
      refine ws_e rfl rfl (e_alloc (cs := ((List.replicate 32 (0 : UInt8)).map u8v).toArray) rfl (by rfl) rfl (fun w29 g7 hg7 hb7 hc hsz7 => ⟨(by first | exact hb4.ch hc (fun h => h) | exact hb4.ch hc (by omega)), ?_⟩))
      have hzw29 := hc.size
      have HC := HC.tr hc
      have hb := hb.no hc
      have hrnd := hrnd.no hc
      have hb4 := hb4.ch hc (fun h => h)
      have hb8 := hb8.ch hc (fun h => h)
      have hge7 : w.heap.size ≤ g7 := by have := HC.size; omega
      have neg4_7 : g4 < g7 := by omega
      have neg8_7 : g8 < g7 := by omega
      refine ws_e rfl rfl (e_stW (vs := List.map u8v x) (szL sz25 (by rw [List.length_map]; exact hx)) (oneL one_u8 _) rfl rfl hb7 (by simp only [List.size_toArray, List.length_map]; first | done | exact ((List.length_replicate ..)).trans (hx).symm) (fun w30 hb7 hc hsz => ⟨(by first | exact hb4.ch hc (fun h => h) | exact hb4.ch hc (by omega)), ?_⟩))
      have hzw30 := hc.size
      have HC := HC.trans hc (fun _ _ h => h) (fun k hk ht => absurd ht (by omega))
      first | have hb := hb.ch hc (by intro k hk ht; first | omega | (dsimp only at *; omega)) | have hb := hb.chT hc (by intro k hz hk ht; first | omega | (dsimp only at *; omega))
      first | have hrnd := hrnd.ch hc (by intro k hk ht; first | omega | (dsimp only at *; omega)) | have hrnd := hrnd.chT hc (by intro k hz hk ht; first | omega | (dsimp only at *; omega))
      have hb4 := hb4.ch hc (by omega)
      have hb8 := hb8.ch hc (by omega)
      refine ws_l rfl rfl (e_stW (vs := List.map u8v y) (szL sz25 (by rw [List.length_map]; exact hy)) (oneL one_u8 _) rfl rfl hb8 (by simp only [List.size_toArray, List.length_map]; first | done | exact ((List.length_replicate ..)).trans (hy).symm) (fun w31 hb8 hc hsz => ?_))
      have hzw31 := hc.size
      have HC := HC.trans hc (fun _ _ h => h) (fun k hk ht => absurd ht (by omega))
      first | have hb := hb.ch hc (by intro k hk ht; first | omega | (dsimp only at *; omega)) | have hb := hb.chT hc (by intro k hz hk ht; first | omega | (dsimp only at *; omega))
      first | have hrnd := hrnd.ch hc (by intro k hk ht; first | omega | (dsimp only at *; omega)) | have hrnd := hrnd.chT hc (by intro k hz hk ht; first | omega | (dsimp only at *; omega))
      have hb4 := hb4.ch hc (by omega)
      have hb7 := hb7.ch hc (by omega)
      refine ws_n ?_
      refine x_seq ?_
      refine wc_seq ?_
      refine wc_draw (.st 0 0 (.st 2 0 (.st 1 2 (.st 3 2 (.st 4 0 (.st 5 0 (.st 6 1 (.st 7 1 (.st 9 1 (.st 10 1 (.st 8 2 (.st 11 2 (.st 12 0 (.st 13 0 (.st 14 0 (.st 15 1 (.st 16 1 (.st 18 1 (.st 19 1 (.st 17 2 (.st 20 2 (.st 21 0 (.st 22 0 (.st 23 0 (.st 24 0 (.st 25 1 (.st 26 1 (.st 28 0 (.st 29 1 (.st 30 1 (.st 27 2 (.st 31 2 (.st 32 0 (.st 33 0 (.st 34 0 (.st 35 0 (.st 36 1 (.st 38 0 (.st 39 1 (.st 37 2 (.st 40 2 (.st 41 0 (.st 42 0 (.st 43 0 (.st 44 0 (.st 45 1 (.st 47 0 (.st 48 1 (.st 46 2 (.st 49 2 (.st 50 0 (.st 51 0 (.st 52 0 (.st 53 2 (.st 54 2 (.st 55 0 (.st 56 0 (.st 57 0 (.st 58 2 (.st 59 2 (.st 60 0 (.st 61 0 (.st 62 0 (.st 63 2 (.st 64 0 (.st 65 0 .nil)))))))))))))))))))))))))))))))))))))))))))))))))))))))))))))))))) 66 (by kernel_rfl) (by kernel_rfl) (by kernel_rfl) (by repeat (first | with_reducible exact pan_body | with_reducible apply pan_then | with_reducible apply pan_in)) (fun x => Ch No w31.drew x) (Ch.refl _ _) ?_
      obtain ⟨w32, ew32⟩ : ∃ x, x = w31.drew := ⟨_, rfl⟩
      rw [← ew32]
      have hc : Ch No w31 w32 := by rw [ew32]; exact Ch.drew _
      have hszw32 : w32.heap.size = w31.heap.size := by rw [ew32]; rfl
      clear ew32
      have hzw32 := hc.size
      have HC := HC.tr hc
      have hb := hb.no hc
      have hrnd := hrnd.no hc
      have hb4 := hb4.ch hc (fun h => h)
      have hb8 := hb8.ch hc (fun h => h)
      have hb7 := hb7.ch hc (fun h => h)
      have hS : Ch No w32 w32 := Ch.refl _ _
      refine ws_p rfl rfl rfl rfl (p_mv rfl) ?_
      refine ws_p rfl rfl rfl rfl (p_mv rfl) ?_
      refine ws_e rfl rfl (e_call ent36 rfl rfl (tleaf_any (hb) (by omega) hrnd) ?_)
      rintro _ w33 ⟨rfl, hc⟩
      refine ⟨_, rfl, hc, ?_⟩
      have hzw33 := hc.size
      have HC := HC.tr hc
      have hb := hb.no hc
      have hrnd := hrnd.no hc
      have hb4 := hb4.ch hc (fun h => h)
      have hb8 := hb8.ch hc (fun h => h)
      have hb7 := hb7.ch hc (fun h => h)
      refine ws_narrow (S' := fun x => Ch No w33 x) (Ch.refl _ _) (fun x h => hc.tr h) ?_
      refine ws_e rfl rfl (e_call ent40 rfl rfl (rtleaf_any (hb) (by omega)) ?_)
      rintro _ w34 ⟨rfl, hc⟩
      refine ⟨_, rfl, hc, ?_⟩
      have hzw34 := hc.size
      have HC := HC.tr hc
      have hb := hb.no hc
      have hrnd := hrnd.no hc
      have hb4 := hb4.ch hc (fun h => h)
      have hb8 := hb8.ch hc (fun h => h)
      have hb7 := hb7.ch hc (fun h => h)
      refine ws_narrow (S' := fun x => Ch No w34 x) (Ch.refl _ _) (fun x h => hc.tr h) ?_
      refine ws_p rfl rfl rfl rfl (p_eqH (a := (leafH _)) (b := (leafH _)) (by kernel_rfl) Tryd.underlying25 Tryd.underlying5 sz5 rfl rfl (leafH_len _) (leafH_len _)) ?_
      refine ws_p rfl rfl rfl rfl (p_mv rfl) ?_
      refine ws_know (d := 22) (b' := true) rfl ((by first | exact beq_self_eq_true _ | exact decide_eq_true rfl | exact eqT_of rfl)) ?_
      refine ws_hg rfl (gd_ rfl rfl rfl rfl rfl rfl) rfl rfl (p_ldA (cs := List.map u8v x) Tryd.underlying25 rfl (szL sz25 (by rw [List.length_map]; exact hx)) rfl (fun _ h => (rngL (hb7.ch h (fun h => h))))) ?_
      refine ws_hg rfl (gd_ rfl rfl rfl rfl rfl rfl) rfl rfl (p_ldA (cs := List.map u8v y) Tryd.underlying25 rfl (szL sz25 (by rw [List.length_map]; exact hy)) rfl (fun _ h => (rngL (hb8.ch h (fun h => h))))) ?_
      refine ws_hg rfl (gd_ rfl rfl rfl rfl rfl rfl) rfl rfl (p_ldA (cs := List.map u8v x) Tryd.underlying25 rfl (szL sz25 (by rw [List.length_map]; exact hx)) rfl (fun _ h => (rngL (hb7.ch h (fun h => h))))) ?_
      refine ws_hg rfl (gd_ rfl rfl rfl rfl rfl rfl) rfl rfl (p_ldA (cs := List.map u8v y) Tryd.underlying25 rfl (szL sz25 (by rw [List.length_map]; exact hy)) rfl (fun _ h => (rngL (hb8.ch h (fun h => h))))) ?_
      refine ws_eg rfl (gd_ rfl rfl rfl rfl rfl rfl) (e_call ent28 rfl rfl (tnode_any (hx) (hy) hrnd) ?_)
      rintro _ w35 ⟨rfl, hc⟩
      refine ⟨_, rfl, hc, ?_⟩
      have hzw35 := hc.size
      have HC := HC.tr hc
      have hb := hb.no hc
      have hrnd := hrnd.no hc
      have hb4 := hb4.ch hc (fun h => h)
      have hb8 := hb8.ch hc (fun h => h)
      have hb7 := hb7.ch hc (fun h => h)
      refine ws_narrow (S' := fun x => Ch No w35 x) (Ch.refl _ _) (fun x h => hc.tr h) ?_
      refine ws_eg rfl (gd_ rfl rfl rfl rfl rfl rfl) (e_call ent41 rfl rfl (rtnode_any (hx) (hy)) ?_)
      rintro _ w36 ⟨rfl, hc⟩
      refine ⟨_, rfl, hc, ?_⟩
      have hzw36 := hc.size
      have HC := HC.tr hc
      have hb := hb.no hc
      have hrnd := hrnd.no hc
      have hb4 := hb4.ch hc (fun h => h)
      have hb8 := hb8.ch hc (fun h => h)
      have hb7 := hb7.ch hc (fun h => h)
      refine ws_narrow (S' := fun x => Ch No w36 x) (Ch.refl _ _) (fun x h => hc.tr h) ?_
      refine ws_pg rfl (gd_ rfl rfl rfl rfl rfl rfl) rfl rfl (p_eqH (a := (nodeH _ _)) (b := (nodeH _ _)) (by kernel_rfl) Tryd.underlying25 Tryd.underlying5 sz5 rfl rfl (nodeH_len _ _) (nodeH_len _ _)) ?_
      refine ws_p rfl rfl rfl rfl (p_pickT rfl rfl) ?_
      refine ws_p rfl rfl rfl rfl (p_mv rfl) ?_
      refine ws_know (d := 31) (b' := true) rfl ((by first | exact beq_self_eq_true _ | exact decide_eq_true rfl | exact eqT_of rfl)) ?_
      refine ws_hg rfl (gd_ rfl rfl rfl rfl rfl rfl) rfl rfl (p_ldA (cs := List.map u8v x) Tryd.underlying25 rfl (szL sz25 (by rw [List.length_map]; exact hx)) rfl (fun _ h => (rngL (hb7.ch h (fun h => h))))) ?_
      refine ws_hg rfl (gd_ rfl rfl rfl rfl rfl rfl) rfl rfl (p_ldA (cs := List.map u8v y) Tryd.underlying25 rfl (szL sz25 (by rw [List.length_map]; exact hy)) rfl (fun _ h => (rngL (hb8.ch h (fun h => h))))) ?_
      refine ws_hg rfl (gd_ rfl rfl rfl rfl rfl rfl) rfl rfl (p_ldA (cs := List.map u8v x) Tryd.underlying25 rfl (szL sz25 (by rw [List.length_map]; exact hx)) rfl (fun _ h => (rngL (hb7.ch h (fun h => h))))) ?_
      refine ws_hg rfl (gd_ rfl rfl rfl rfl rfl rfl) rfl rfl (p_ldA (cs := List.map u8v y) Tryd.underlying25 rfl (szL sz25 (by rw [List.length_map]; exact hy)) rfl (fun _ h => (rngL (hb8.ch h (fun h => h))))) ?_
      refine ws_eg rfl (gd_ rfl rfl rfl rfl rfl rfl) (e_call ent38 rfl rfl (titem_any (hx) (hy) hrnd) ?_)
      rintro _ w37 ⟨rfl, hc⟩
      refine ⟨_, rfl, hc, ?_⟩
      have hzw37 := hc.size
      have HC := HC.tr hc
      have hb := hb.no hc
      have hrnd := hrnd.no hc
      have hb4 := hb4.ch hc (fun h => h)
      have hb8 := hb8.ch hc (fun h => h)
      have hb7 := hb7.ch hc (fun h => h)
      refine ws_narrow (S' := fun x => Ch No w37 x) (Ch.refl _ _) (fun x h => hc.tr h) ?_
      refine ws_eg rfl (gd_ rfl rfl rfl rfl rfl rfl) (e_call ent42 rfl rfl (rtitem_any (hx) (hy)) ?_)
      rintro _ w38 ⟨rfl, hc⟩
      refine ⟨_, rfl, hc, ?_⟩
      have hzw38 := hc.size
      have HC := HC.tr hc
      have hb := hb.no hc
      have hrnd := hrnd.no hc
      have hb4 := hb4.ch hc (fun h => h)
      have hb8 := hb8.ch hc (fun h => h)
      have hb7 := hb7.ch hc (fun h => h)
      refine ws_narrow (S' := fun x => Ch No w38 x) (Ch.refl _ _) (fun x h => hc.tr h) ?_
      refine ws_pg rfl (gd_ rfl rfl rfl rfl rfl rfl) rfl rfl (p_eqH (a := (itemH _ _)) (b := (itemH _ _)) (by kernel_rfl) Tryd.underlying25 Tryd.underlying5 sz5 rfl rfl (itemH_len _ _) (itemH_len _ _)) ?_
      refine ws_p rfl rfl rfl rfl (p_pickT rfl rfl) ?_
      refine ws_p rfl rfl rfl rfl (p_mv rfl) ?_
      refine ws_know (d := 40) (b' := true) rfl ((by first | exact beq_self_eq_true _ | exact decide_eq_true rfl | exact eqT_of rfl)) ?_
      refine ws_pg rfl (gd_ rfl rfl rfl rfl rfl rfl) rfl rfl (p_mv rfl) ?_
      refine ws_hg rfl (gd_ rfl rfl rfl rfl rfl rfl) rfl rfl (p_ldA (cs := List.map u8v x) Tryd.underlying25 rfl (szL sz25 (by rw [List.length_map]; exact hx)) rfl (fun _ h => (rngL (hb7.ch h (fun h => h))))) ?_
      refine ws_hg rfl (gd_ rfl rfl rfl rfl rfl rfl) rfl rfl (p_ldA (cs := List.map u8v y) Tryd.underlying25 rfl (szL sz25 (by rw [List.length_map]; exact hy)) rfl (fun _ h => (rngL (hb8.ch h (fun h => h))))) ?_
      refine ws_pg rfl (gd_ rfl rfl rfl rfl rfl rfl) rfl rfl (p_mv rfl) ?_
      refine ws_hg rfl (gd_ rfl rfl rfl rfl rfl rfl) rfl rfl (p_ldA (cs := List.map u8v x) Tryd.underlying25 rfl (szL sz25 (by rw [List.length_map]; exact hx)) rfl (fun _ h => (rngL (hb7.ch h (fun h => h))))) ?_
      refine ws_hg rfl (gd_ rfl rfl rfl rfl rfl rfl) rfl rfl (p_ldA (cs := List.map u8v y) Tryd.underlying25 rfl (szL sz25 (by rw [List.length_map]; exact hy)) rfl (fun _ h => (rngL (hb8.ch h (fun h => h))))) ?_
      refine ws_eg rfl (gd_ rfl rfl rfl rfl rfl rfl) (e_call ent29 rfl rfl (tfork_any (hx) (hy) hrnd) ?_)
      rintro _ w39 ⟨rfl, hc⟩
      refine ⟨_, rfl, hc, ?_⟩
      have hzw39 := hc.size
      have HC := HC.tr hc
      have hb := hb.no hc
      have hrnd := hrnd.no hc
      have hb4 := hb4.ch hc (fun h => h)
      have hb8 := hb8.ch hc (fun h => h)
      have hb7 := hb7.ch hc (fun h => h)
      refine ws_narrow (S' := fun x => Ch No w39 x) (Ch.refl _ _) (fun x h => hc.tr h) ?_
      refine ws_eg rfl (gd_ rfl rfl rfl rfl rfl rfl) (e_call ent43 rfl rfl (rtfork_any (hx) (hy)) ?_)
      rintro _ w40 ⟨rfl, hc⟩
      refine ⟨_, rfl, hc, ?_⟩
      have hzw40 := hc.size
      have HC := HC.tr hc
      have hb := hb.no hc
      have hrnd := hrnd.no hc
      have hb4 := hb4.ch hc (fun h => h)
      have hb8 := hb8.ch hc (fun h => h)
      have hb7 := hb7.ch hc (fun h => h)
      refine ws_narrow (S' := fun x => Ch No w40 x) (Ch.refl _ _) (fun x h => hc.tr h) ?_
      refine ws_pg rfl (gd_ rfl rfl rfl rfl rfl rfl) rfl rfl (p_eqH (a := (forkH _ _ _)) (b := (forkH _ _ _)) (by kernel_rfl) Tryd.underlying25 Tryd.underlying5 sz5 rfl rfl (forkH_len _ _ _) (forkH_len _ _ _)) ?_
      refine ws_p rfl rfl rfl rfl (p_pickT rfl rfl) ?_
      refine ws_p rfl rfl rfl rfl (p_mv rfl) ?_
      refine ws_know (d := 51) (b' := true) rfl ((by first | exact beq_self_eq_true _ | exact decide_eq_true rfl | exact eqT_of rfl)) ?_
      refine ws_pg rfl (gd_ rfl rfl rfl rfl rfl rfl) rfl rfl (p_mv rfl) ?_
      refine ws_hg rfl (gd_ rfl rfl rfl rfl rfl rfl) rfl rfl (p_bts Tryd.underlying22 Tryd.underlying5 Tryd.underlying9 rfl (hb).len (fun _ h => (hb).rd.no h)) ?_
      refine ws_pg rfl (gd_ rfl rfl rfl rfl rfl rfl) rfl rfl (p_mv rfl) ?_
      refine ws_hg rfl (gd_ rfl rfl rfl rfl rfl rfl) rfl rfl (p_bts Tryd.underlying22 Tryd.underlying5 Tryd.underlying9 rfl (hb).len (fun _ h => (hb).rd.no h)) ?_
      refine ws_eg rfl (gd_ rfl rfl rfl rfl rfl rfl) (e_call ent37 rfl rfl (tkey_any (by first | omega | (simp only [str_size]; omega)) hrnd) ?_)
      rintro _ w41 ⟨rfl, hc⟩
      refine ⟨_, rfl, hc, ?_⟩
      have hzw41 := hc.size
      have HC := HC.tr hc
      have hb := hb.no hc
      have hrnd := hrnd.no hc
      have hb4 := hb4.ch hc (fun h => h)
      have hb8 := hb8.ch hc (fun h => h)
      have hb7 := hb7.ch hc (fun h => h)
      refine ws_narrow (S' := fun x => Ch No w41 x) (Ch.refl _ _) (fun x h => hc.tr h) ?_
      refine ws_eg rfl (gd_ rfl rfl rfl rfl rfl rfl) (e_call ent44 rfl rfl (rtkey_any (by first | omega | (simp only [str_size]; omega))) ?_)
      rintro _ w42 ⟨rfl, hc⟩
      refine ⟨_, rfl, hc, ?_⟩
      have hzw42 := hc.size
      have HC := HC.tr hc
      have hb := hb.no hc
      have hrnd := hrnd.no hc
      have hb4 := hb4.ch hc (fun h => h)
      have hb8 := hb8.ch hc (fun h => h)
      have hb7 := hb7.ch hc (fun h => h)
      refine ws_narrow (S' := fun x => Ch No w42 x) (Ch.refl _ _) (fun x h => hc.tr h) ?_
      refine ws_pg rfl (gd_ rfl rfl rfl rfl rfl rfl) rfl rfl (p_eqH (a := (keyH _)) (b := (keyH _)) (by kernel_rfl) Tryd.underlying25 Tryd.underlying5 sz5 rfl rfl (keyH_len _) (keyH_len _)) ?_
      refine ws_p rfl rfl rfl rfl (p_pickT rfl rfl) ?_
      refine ws_p rfl rfl rfl rfl (p_mv rfl) ?_
      refine ws_know (d := 60) (b' := true) rfl ((by first | exact beq_self_eq_true _ | exact decide_eq_true rfl | exact eqT_of rfl)) ?_
      refine ws_pg rfl (gd_ rfl rfl rfl rfl rfl rfl) rfl rfl (p_mv rfl) ?_
      refine ws_hg rfl (gd_ rfl rfl rfl rfl rfl rfl) rfl rfl (p_bts Tryd.underlying22 Tryd.underlying5 Tryd.underlying9 rfl (hb).len (fun _ h => (hb).rd.no h)) ?_
      refine ws_pg rfl (gd_ rfl rfl rfl rfl rfl rfl) rfl rfl (p_mv rfl) ?_
      refine ws_hg rfl (gd_ rfl rfl rfl rfl rfl rfl) rfl rfl (p_bts Tryd.underlying22 Tryd.underlying5 Tryd.underlying9 rfl (hb).len (fun _ h => (hb).rd.no h)) ?_
      refine ws_eg rfl (gd_ rfl rfl rfl rfl rfl rfl) (e_call ent39 rfl rfl (tval_any (by first | omega | (simp only [str_size]; omega)) hrnd) ?_)
      rintro _ w43 ⟨rfl, hc⟩
      refine ⟨_, rfl, hc, ?_⟩
      have hzw43 := hc.size
      have HC := HC.tr hc
      have hb := hb.no hc
      have hrnd := hrnd.no hc
      have hb4 := hb4.ch hc (fun h => h)
      have hb8 := hb8.ch hc (fun h => h)
      have hb7 := hb7.ch hc (fun h => h)
      refine ws_narrow (S' := fun x => Ch No w43 x) (Ch.refl _ _) (fun x h => hc.tr h) ?_
      refine ws_eg rfl (gd_ rfl rfl rfl rfl rfl rfl) (e_call ent45 rfl rfl (rtval_any (by first | omega | (simp only [str_size]; omega))) ?_)
      rintro _ w44 ⟨rfl, hc⟩
      refine ⟨_, rfl, hc, ?_⟩
      have hzw44 := hc.size
      have HC := HC.tr hc
      have hb := hb.no hc
      have hrnd := hrnd.no hc
      have hb4 := hb4.ch hc (fun h => h)
      have hb8 := hb8.ch hc (fun h => h)
      have hb7 := hb7.ch hc (fun h => h)
      refine ws_narrow (S' := fun x => Ch No w44 x) (Ch.refl _ _) (fun x h => hc.tr h) ?_
      refine ws_pg rfl (gd_ rfl rfl rfl rfl rfl rfl) rfl rfl (p_eqH (a := (valH _)) (b := (valH _)) (by kernel_rfl) Tryd.underlying25 Tryd.underlying5 sz5 rfl rfl (valH_len _) (valH_len _)) ?_
      refine ws_p rfl rfl rfl rfl (p_pickT rfl rfl) ?_
      refine ws_p rfl rfl rfl rfl (p_mv rfl) ?_
      refine ws_know (d := 69) (b' := true) rfl ((by first | exact beq_self_eq_true _ | exact decide_eq_true rfl | exact eqT_of rfl)) ?_
      refine ws_eg rfl (gd_ rfl rfl rfl rfl rfl rfl) (e_call ent31 rfl rfl (tempty_any  hrnd) ?_)
      rintro _ w45 ⟨rfl, hc⟩
      refine ⟨_, rfl, hc, ?_⟩
      have hzw45 := hc.size
      have HC := HC.tr hc
      have hb := hb.no hc
      have hrnd := hrnd.no hc
      have hb4 := hb4.ch hc (fun h => h)
      have hb8 := hb8.ch hc (fun h => h)
      have hb7 := hb7.ch hc (fun h => h)
      refine ws_narrow (S' := fun x => Ch No w45 x) (Ch.refl _ _) (fun x h => hc.tr h) ?_
      refine ws_eg rfl (gd_ rfl rfl rfl rfl rfl rfl) (e_call ent46 rfl rfl (rtempty_any ) ?_)
      rintro _ w46 ⟨rfl, hc⟩
      refine ⟨_, rfl, hc, ?_⟩
      have hzw46 := hc.size
      have HC := HC.tr hc
      have hb := hb.no hc
      have hrnd := hrnd.no hc
      have hb4 := hb4.ch hc (fun h => h)
      have hb8 := hb8.ch hc (fun h => h)
      have hb7 := hb7.ch hc (fun h => h)
      refine ws_narrow (S' := fun x => Ch No w46 x) (Ch.refl _ _) (fun x h => hc.tr h) ?_
      refine ws_pg rfl (gd_ rfl rfl rfl rfl rfl rfl) rfl rfl (p_eqH (a := (emptyH)) (b := (emptyH)) (by kernel_rfl) Tryd.underlying25 Tryd.underlying5 sz5 rfl rfl (emptyH_len) (emptyH_len)) ?_
      refine ws_p rfl rfl rfl rfl (p_pickT rfl rfl) ?_
      refine ws_p rfl rfl rfl rfl (p_mv rfl) ?_
      refine ws_know (d := 74) (b' := true) rfl ((by first | exact beq_self_eq_true _ | exact decide_eq_true rfl | exact eqT_of rfl)) ?_
      refine ws_eg rfl (gd_ rfl rfl rfl rfl rfl rfl) (e_call ent30 rfl rfl (tnone_any  hrnd) ?_)
      rintro _ w47 ⟨rfl, hc⟩
      refine ⟨_, rfl, hc, ?_⟩
      have hzw47 := hc.size
      have HC := HC.tr hc
      have hb := hb.no hc
      have hrnd := hrnd.no hc
      have hb4 := hb4.ch hc (fun h => h)
      have hb8 := hb8.ch hc (fun h => h)
      have hb7 := hb7.ch hc (fun h => h)
      refine ws_narrow (S' := fun x => Ch No w47 x) (Ch.refl _ _) (fun x h => hc.tr h) ?_
      refine ws_eg rfl (gd_ rfl rfl rfl rfl rfl rfl) (e_call ent47 rfl rfl (rtnone_any ) ?_)
      rintro _ w48 ⟨rfl, hc⟩
      refine ⟨_, rfl, hc, ?_⟩
      have hzw48 := hc.size
      have HC := HC.tr hc
      have hb := hb.no hc
      have hrnd := hrnd.no hc
      have hb4 := hb4.ch hc (fun h => h)
      have hb8 := hb8.ch hc (fun h => h)
      have hb7 := hb7.ch hc (fun h => h)
      refine ws_narrow (S' := fun x => Ch No w48 x) (Ch.refl _ _) (fun x h => hc.tr h) ?_
      refine ws_pg rfl (gd_ rfl rfl rfl rfl rfl rfl) rfl rfl (p_eqH (a := (noneH)) (b := (noneH)) (by kernel_rfl) Tryd.underlying25 Tryd.underlying5 sz5 rfl rfl (noneH_len) (noneH_len)) ?_
      refine ws_p rfl rfl rfl rfl (p_pickT rfl rfl) ?_
      refine ws_p rfl rfl rfl rfl (p_mv rfl) ?_
      refine ws_know (d := 79) (b' := true) rfl ((by first | exact beq_self_eq_true _ | exact decide_eq_true rfl | exact eqT_of rfl)) ?_
      refine ws_eg rfl (gd_ rfl rfl rfl rfl rfl rfl) (e_call ent25 rfl rfl (lives4_any hrnd) ?_)
      rintro _ w49 ⟨rfl, hc⟩
      refine ⟨_, rfl, hc, ?_⟩
      have hzw49 := hc.size
      have HC := HC.tr hc
      have hb := hb.no hc
      have hrnd := hrnd.no hc
      have hb4 := hb4.ch hc (fun h => h)
      have hb8 := hb8.ch hc (fun h => h)
      have hb7 := hb7.ch hc (fun h => h)
      refine ws_narrow (S' := fun x => Ch No w49 x) (Ch.refl _ _) (fun x h => hc.tr h) ?_
      refine ws_p rfl rfl rfl rfl (p_pickT rfl rfl) ?_
      refine ws_p rfl rfl rfl rfl (p_as rfl) ?_
      refine ws_n ?_
      refine x_seq ?_
      refine wc_ret ?_
      refine fin_run (res1 rfl rfl) ?_
      exact ⟨rfl, HC⟩
end Go.Proofs.YtdbdconmcgcooaaDoor
