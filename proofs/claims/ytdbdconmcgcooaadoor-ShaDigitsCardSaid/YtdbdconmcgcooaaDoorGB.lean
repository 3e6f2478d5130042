/-
  Own text, printed by a program of mine (wip/gx): what functions of the program do, walked operation by operation.
-/
import Derived.Test.YtdbdconmcgcooaaDoorProg
import Derived.Test.YtdbdconmcgcooaaDoorGxAgg
import Derived.Test.YtdbdconmcgcooaaDoorTab
import Derived.Test.YtdbdconmcgcooaaDoorPlPack
import Derived.Test.YtdbdconmcgcooaaDoorPlSum
import Derived.Test.YtdbdconmcgcooaaDoorPlSha
import Derived.Test.YtdbdconmcgcooaaDoorPlShaSt
import Derived.Test.YtdbdconmcgcooaaDoorPlShaB
import Derived.Test.YtdbdconmcgcooaaDoorSX
import Derived.Test.YtdbdconmcgcooaaDoorG0
set_option linter.unusedVariables false
namespace Go.Proofs.YtdbdconmcgcooaaDoor
open Go.RowKit Go.Gx
open Go.Plain
set_option maxHeartbeats 1000000 in
set_option maxRecDepth 20000 in
theorem shaDigits_walk {w : World} {h : List UInt8} {s : ByteArray} (hh : h.length = 32) (hrnd : Sl w (fun k => k = 1) u32v (some ⟨1, 0, none⟩) 64 64 rk) :
    Calls Tryd.prog 13 #[hv h, .string s] w fun e w' => e = .returned (.bool true) ∧ Ch No w w' := by
  have hn1 : 1 < w.heap.size := hrnd.size (by omega) rfl
  have HC : Ch No w w := Ch.refl _ _
  refine enter' (args := [hv h, .string s]) (n := 57) Tryd.func13 rfl rfl rfl ?_
  refine wc_seq ?_
  refine wc_region ?_
  refine wle rfl (e_box (cs := (List.map u8v h).toArray) rfl rfl rfl (fun w1 g2 hg2 hb2 hc hsz2 => ?_))
  have hzw1 := hc.size
  have HC := HC.tr hc
  have hrnd := hrnd.no hc
  have hge2 : w.heap.size ≤ g2 := by have := HC.size; omega
  refine wl rfl rfl rfl (p_as rfl) ?_
  refine wl_nil ?_
  refine x_seq ?_
  refine wc_seq ?_
  refine wc_seq ?_
  refine wc_region ?_
  refine wl rfl rfl rfl (p_mv rfl) ?_
  refine wl rfl rfl rfl (p_lenT Tryd.underlying9 rfl) ?_
  refine wl rfl rfl rfl (p_gt rfl rfl) ?_
  refine wl_nil ?_
  refine x_seq ?_
  refine wc_if rfl (fun c0 => ?_) (fun c0 => ?_)
  ·
    have c0 := of_decide_eq_true c0
    refine wc_seq ?_
    refine wc_region ?_
    refine wle rfl (e_call ent18 rfl rfl (lives3_any hrnd) ?_)
    rintro _ w2 ⟨rfl, hc⟩
    refine ⟨_, rfl, ?_⟩
    have hzw2 := hc.size
    have HC := HC.tr hc
    have hrnd := hrnd.no hc
    have hb2 := hb2.ch hc (fun h => h)
    refine wl rfl rfl rfl (p_as rfl) ?_
    refine wl_nil ?_
    refine x_seq ?_
    refine wc_ret ?_
    refine x_then_ret ?_
    refine fin_run (res1 rfl rfl) ?_
    exact ⟨rfl, HC⟩
  ·
    have c0 := of_decide_eq_false c0
    refine wc_skip ?_
    refine x_seq ?_
    refine wc_seq ?_
    refine wc_region ?_
    refine wl rfl rfl rfl (p_mv rfl) ?_
    refine wle rfl (e_call ent48 rfl rfl (parse_any) ?_)
    rintro _ w3 ⟨rfl, hc⟩
    refine ⟨_, rfl, ?_⟩
    have hzw3 := hc.size
    have HC := HC.tr hc
    have hrnd := hrnd.no hc
    have hb2 := hb2.ch hc (fun h => h)
    refine wl rfl rfl rfl (p_mv rfl) ?_
    refine wl rfl rfl rfl (p_ext rfl rfl) ?_
    refine wl rfl rfl rfl (p_ext rfl rfl) ?_
    have hltg2 := hb2.lt
    refine wle rfl (e_alloc (cs := ((List.replicate 32 (0 : UInt8)).map u8v).toArray) rfl (by rfl) rfl (fun w4 g5 hg5 hb5 hc hsz5 => ?_))
    have hzw4 := hc.size
    have HC := HC.tr hc
    have hrnd := hrnd.no hc
    have hb2 := hb2.ch hc (fun h => h)
    have hge5 : w.heap.size ≤ g5 := by have := HC.size; omega
    have neg2_5 : g2 < g5 := by omega
    refine wle rfl (e_stW (vs := List.map u8v _) (szL sz25 (by rw [List.length_map]; exact parD_len _)) (oneL one_u8 _) rfl rfl hb5 (by simp only [List.size_toArray, List.length_map]; first | done | exact ((List.length_replicate ..)).trans (parD_len _).symm) (fun w5 hb5 hc hsz => ?_))
    have hzw5 := hc.size
    have HC := HC.trans hc (fun _ _ h => h) (fun k hk ht => absurd ht (by omega))
    first | have hrnd := hrnd.ch hc (by intro k hk ht; first | omega | (dsimp only at *; omega)) | have hrnd := hrnd.chT hc (by intro k hz hk ht; first | omega | (dsimp only at *; omega))
    have hb2 := hb2.ch hc (by omega)
    refine wl rfl rfl rfl (p_as rfl) ?_
    refine wl_nil ?_
    refine x_seq ?_
    refine wc_seq ?_
    refine wc_region ?_
    refine wl rfl rfl rfl (p_mv rfl) ?_
    refine wle rfl (e_call ent49 rfl rfl (rparse_any) ?_)
    rintro _ w6 ⟨rfl, hc⟩
    refine ⟨_, rfl, ?_⟩
    have hzw6 := hc.size
    have HC := HC.tr hc
    have hrnd := hrnd.no hc
    have hb2 := hb2.ch hc (fun h => h)
    have hb5 := hb5.ch hc (fun h => h)
    refine wl rfl rfl rfl (p_mv rfl) ?_
    refine wl rfl rfl rfl (p_ext rfl rfl) ?_
    refine wl rfl rfl rfl (p_ext rfl rfl) ?_
    have hltg2 := hb2.lt
    have hltg5 := hb5.lt
    refine wle rfl (e_alloc (cs := ((List.replicate 32 (0 : UInt8)).map u8v).toArray) rfl (by rfl) rfl (fun w7 g7 hg7 hb7 hc hsz7 => ?_))
    have hzw7 := hc.size
    have HC := HC.tr hc
    have hrnd := hrnd.no hc
    have hb2 := hb2.ch hc (fun h => h)
    have hb5 := hb5.ch hc (fun h => h)
    have hge7 : w.heap.size ≤ g7 := by have := HC.size; omega
    have neg2_7 : g2 < g7 := by omega
    have neg5_7 : g5 < g7 := by omega
    refine wle rfl (e_stW (vs := List.map u8v _) (szL sz24 (by rw [List.length_map]; exact parD_len _)) (oneL one_u8 _) rfl rfl hb7 (by simp only [List.size_toArray, List.length_map]; first | done | exact ((List.length_replicate ..)).trans (parD_len _).symm) (fun w8 hb7 hc hsz => ?_))
    have hzw8 := hc.size
    have HC := HC.trans hc (fun _ _ h => h) (fun k hk ht => absurd ht (by omega))
    first | have hrnd := hrnd.ch hc (by intro k hk ht; first | omega | (dsimp only at *; omega)) | have hrnd := hrnd.chT hc (by intro k hz hk ht; first | omega | (dsimp only at *; omega))
    have hb2 := hb2.ch hc (by omega)
    have hb5 := hb5.ch hc (by omega)
    refine wl rfl rfl rfl (p_as rfl) ?_
    refine wl_nil ?_
    refine x_seq ?_
    refine wc_seq ?_
    refine wc_region ?_
    refine wl rfl rfl rfl (p_ldA (cs := List.map u8v h) Tryd.underlying25 rfl (szL sz25 (by rw [List.length_map]; exact hh)) rfl (fun _ e => e ▸ rngL hb2)) ?_
    refine wle rfl (e_call ent50 rfl rfl (hex_any (hh)) ?_)
    rintro _ w9 ⟨rfl, hc⟩
    refine ⟨_, rfl, ?_⟩
    have hzw9 := hc.size
    have HC := HC.tr hc
    have hrnd := hrnd.no hc
    have hb2 := hb2.ch hc (fun h => h)
    have hb5 := hb5.ch hc (fun h => h)
    have hb7 := hb7.ch hc (fun h => h)
    refine wle rfl (e_call ent48 rfl rfl (parse_any) ?_)
    rintro _ w10 ⟨rfl, hc⟩
    refine ⟨_, rfl, ?_⟩
    have hzw10 := hc.size
    have HC := HC.tr hc
    have hrnd := hrnd.no hc
    have hb2 := hb2.ch hc (fun h => h)
    have hb5 := hb5.ch hc (fun h => h)
    have hb7 := hb7.ch hc (fun h => h)
    refine wl rfl rfl rfl (p_mv rfl) ?_
    refine wl rfl rfl rfl (p_ext rfl rfl) ?_
    refine wl rfl rfl rfl (p_ext rfl rfl) ?_
    have hltg2 := hb2.lt
    have hltg5 := hb5.lt
    have hltg7 := hb7.lt
    refine wle rfl (e_alloc (cs := ((List.replicate 32 (0 : UInt8)).map u8v).toArray) rfl (by rfl) rfl (fun w11 g9 hg9 hb9 hc hsz9 => ?_))
    have hzw11 := hc.size
    have HC := HC.tr hc
    have hrnd := hrnd.no hc
    have hb2 := hb2.ch hc (fun h => h)
    have hb5 := hb5.ch hc (fun h => h)
    have hb7 := hb7.ch hc (fun h => h)
    have hge9 : w.heap.size ≤ g9 := by have := HC.size; omega
    have neg2_9 : g2 < g9 := by omega
    have neg5_9 : g5 < g9 := by omega
    have neg7_9 : g7 < g9 := by omega
    refine wle rfl (e_stW (vs := List.map u8v _) (szL sz25 (by rw [List.length_map]; exact parD_len _)) (oneL one_u8 _) rfl rfl hb9 (by simp only [List.size_toArray, List.length_map]; first | done | exact ((List.length_replicate ..)).trans (parD_len _).symm) (fun w12 hb9 hc hsz => ?_))
    have hzw12 := hc.size
    have HC := HC.trans hc (fun _ _ h => h) (fun k hk ht => absurd ht (by omega))
    first | have hrnd := hrnd.ch hc (by intro k hk ht; first | omega | (dsimp only at *; omega)) | have hrnd := hrnd.chT hc (by intro k hz hk ht; first | omega | (dsimp only at *; omega))
    have hb2 := hb2.ch hc (by omega)
    have hb5 := hb5.ch hc (by omega)
    have hb7 := hb7.ch hc (by omega)
    refine wl rfl rfl rfl (p_as rfl) ?_
    refine wl_nil ?_
    refine x_seq ?_
    refine wc_seq ?_
    refine wc_draw [(0, 1), (2, 1), (1, 2), (3, 2), (4, 0), (5, 0), (6, 1), (7, 1), (8, 0), (9, 0), (10, 0), (11, 0), (12, 0), (13, 0), (14, 0), (15, 0), (16, 0), (17, 0), (18, 0), (19, 1), (20, 1), (21, 0), (22, 0), (23, 0), (24, 2), (25, 0), (26, 0)] 27 (by kernel_rfl) (by kernel_rfl) (by kernel_rfl) (by repeat (first | with_reducible exact pan_body | with_reducible apply pan_then | with_reducible apply pan_in)) (fun x => Ch No w12.drew x) (Ch.refl _ _) ?_
    obtain ⟨w13, ew13⟩ : ∃ x, x = w12.drew := ⟨_, rfl⟩
    rw [← ew13]
    have hc : Ch No w12 w13 := by rw [ew13]; exact Ch.drew _
    have hszw13 : w13.heap.size = w12.heap.size := by rw [ew13]; rfl
    clear ew13
    have hzw13 := hc.size
    have HC := HC.tr hc
    have hrnd := hrnd.no hc
    have hb2 := hb2.ch hc (fun h => h)
    have hb5 := hb5.ch hc (fun h => h)
    have hb7 := hb7.ch hc (fun h => h)
    have hb9 := hb9.ch hc (fun h => h)
    have hS : Ch No w13 w13 := Ch.refl _ _
    refine ws_h rfl rfl rfl rfl (p_ldA (cs := List.map u8v h) Tryd.underlying25 rfl (szL sz25 (by rw [List.length_map]; exact hh)) rfl (fun _ h => (rngL (hb2.ch h (fun h => h))))) ?_
    refine ws_h rfl rfl rfl rfl (p_ldA (cs := List.map u8v h) Tryd.underlying25 rfl (szL sz25 (by rw [List.length_map]; exact hh)) rfl (fun _ h => (rngL (hb2.ch h (fun h => h))))) ?_
    refine ws_e rfl rfl (e_call ent50 rfl rfl (hex_any (hh)) ?_)
    rintro _ w14 ⟨rfl, hc⟩
    refine ⟨_, rfl, hc, ?_⟩
    have hzw14 := hc.size
    have HC := HC.tr hc
    have hrnd := hrnd.no hc
    have hb2 := hb2.ch hc (fun h => h)
    have hb5 := hb5.ch hc (fun h => h)
    have hb7 := hb7.ch hc (fun h => h)
    have hb9 := hb9.ch hc (fun h => h)
    refine ws_narrow (S' := fun x => Ch No w14 x) (Ch.refl _ _) (fun x h => hc.tr h) ?_
    refine ws_e rfl rfl (e_call ent51 rfl rfl (rhex_any (hh)) ?_)
    rintro _ w15 ⟨rfl, hc⟩
    refine ⟨_, rfl, hc, ?_⟩
    have hzw15 := hc.size
    have HC := HC.tr hc
    have hrnd := hrnd.no hc
    have hb2 := hb2.ch hc (fun h => h)
    have hb5 := hb5.ch hc (fun h => h)
    have hb7 := hb7.ch hc (fun h => h)
    have hb9 := hb9.ch hc (fun h => h)
    refine ws_narrow (S' := fun x => Ch No w15 x) (Ch.refl _ _) (fun x h => hc.tr h) ?_
    refine ws_p rfl rfl rfl rfl (p_eqT rfl rfl) ?_
    refine ws_p rfl rfl rfl rfl (p_mv rfl) ?_
    refine ws_know (d := 36) (b' := true) rfl ((by first | exact beq_self_eq_true _ | exact decide_eq_true rfl | exact eqT_of rfl)) ?_
    refine ws_hg rfl (gd_ rfl rfl rfl rfl rfl rfl) rfl rfl (p_ldA (cs := List.map u8v _) Tryd.underlying25 rfl (szL sz25 (by rw [List.length_map]; exact parD_len _)) rfl (fun _ h => (rngL (hb5.ch h (fun h => h))))) ?_
    refine ws_hg rfl (gd_ rfl rfl rfl rfl rfl rfl) rfl rfl (p_ldA (cs := List.map u8v _) Tryd.underlying24 rfl (szL sz24 (by rw [List.length_map]; exact parD_len _)) rfl (fun _ h => (rngL (hb7.ch h (fun h => h))))) ?_
    refine ws_pg rfl (gd_ rfl rfl rfl rfl rfl rfl) rfl rfl (p_eqH (a := _) (b := _) (by kernel_rfl) Tryd.underlying25 Tryd.underlying5 sz5 rfl rfl (parD_len _) (parD_len _)) ?_
    refine ws_p rfl rfl rfl rfl (p_pickT rfl rfl) ?_
    refine ws_p rfl rfl rfl rfl (p_mv rfl) ?_
    refine ws_know (d := 41) (b' := true) rfl ((by first | exact beq_self_eq_true _ | exact decide_eq_true rfl | exact eqT_of rfl)) ?_
    refine ws_pg rfl (gd_ rfl rfl rfl rfl rfl rfl) rfl rfl (p_mv rfl) ?_
    refine ws_pg rfl (gd_ rfl rfl rfl rfl rfl rfl) rfl rfl (p_mv rfl) ?_
    refine ws_pg rfl (gd_ rfl rfl rfl rfl rfl rfl) rfl rfl (p_eqB rfl rfl Tryd.underlying4) ?_
    refine ws_p rfl rfl rfl rfl (p_pickT rfl rfl) ?_
    refine ws_p rfl rfl rfl rfl (p_mv rfl) ?_
    refine ws_know (d := 46) (b' := true) rfl ((by first | exact beq_self_eq_true _ | exact decide_eq_true rfl | exact eqT_of rfl)) ?_
    refine ws_pg rfl (gd_ rfl rfl rfl rfl rfl rfl) rfl rfl (p_mv rfl) ?_
    refine ws_p rfl rfl rfl rfl (p_pickT rfl rfl) ?_
    refine ws_p rfl rfl rfl rfl (p_mv rfl) ?_
    refine ws_know (d := 49) (b' := true) rfl (by rw [str_data, (par_some (par_hex hh)).2]) ?_
    refine ws_hg rfl (gd_ rfl rfl rfl rfl rfl rfl) rfl rfl (p_ldA (cs := List.map u8v _) Tryd.underlying25 rfl (szL sz25 (by rw [List.length_map]; exact parD_len _)) rfl (fun _ h => (rngL (hb9.ch h (fun h => h))))) ?_
    refine ws_hg rfl (gd_ rfl rfl rfl rfl rfl rfl) rfl rfl (p_ldA (cs := List.map u8v h) Tryd.underlying25 rfl (szL sz25 (by rw [List.length_map]; exact hh)) rfl (fun _ h => (rngL (hb2.ch h (fun h => h))))) ?_
    refine ws_pg rfl (gd_ rfl rfl rfl rfl rfl rfl) rfl rfl (p_eqH (a := _) (b := h) (by kernel_rfl) Tryd.underlying25 Tryd.underlying5 sz5 rfl rfl (parD_len _) (hh)) ?_
    refine ws_p rfl rfl rfl rfl (p_pickT rfl rfl) ?_
    refine ws_p rfl rfl rfl rfl (p_mv rfl) ?_
    refine ws_know (d := 54) (b' := true) rfl (by rw [str_data, (par_some (par_hex hh)).1]; exact beq_self_eq_true _) ?_
    refine ws_eg rfl (gd_ rfl rfl rfl rfl rfl rfl) (e_call ent18 rfl rfl (lives3_any hrnd) ?_)
    rintro _ w16 ⟨rfl, hc⟩
    refine ⟨_, rfl, hc, ?_⟩
    have hzw16 := hc.size
    have HC := HC.tr hc
    have hrnd := hrnd.no hc
    have hb2 := hb2.ch hc (fun h => h)
    have hb5 := hb5.ch hc (fun h => h)
    have hb7 := hb7.ch hc (fun h => h)
    have hb9 := hb9.ch hc (fun h => h)
    refine ws_narrow (S' := fun x => Ch No w16 x) (Ch.refl _ _) (fun x h => hc.tr h) ?_
    refine ws_p rfl rfl rfl rfl (p_pickT rfl rfl) ?_
    refine ws_p rfl rfl rfl rfl (p_as rfl) ?_
    refine ws_n ?_
    refine x_seq ?_
    refine wc_ret ?_
    refine fin_run (res1 rfl rfl) ?_
    exact ⟨rfl, HC⟩
end Go.Proofs.YtdbdconmcgcooaaDoor
