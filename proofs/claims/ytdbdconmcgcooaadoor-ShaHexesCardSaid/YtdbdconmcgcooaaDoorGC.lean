/-
  Own text, printed by a program of mine (wip/gx): what functions of the program do, walked operation by operation.
-/
import Derived.Test.YtdbdconmcgcooaaDoorProg
import Derived.Test.YtdbdconmcgcooaaDoorGxAgg
import Derived.Test.YtdbdconmcgcooaaDoorTab
import Derived.Test.YtdbdconmcgcooaaDoorPlPack
import Derived.Test.YtdbdconmcgcooaaDoorPlSum
import Derived.Test.YtdbdconmcgcooaaDoorPlSha
import Derived.Test.YtdbdconmcgcooaaDoorPlShaSt
import Derived.Test.YtdbdconmcgcooaaDoorPlShaB
import Derived.Test.YtdbdconmcgcooaaDoorSX
import Derived.Test.YtdbdconmcgcooaaDoorG0
set_option linter.unusedVariables false
namespace Go.Proofs.YtdbdconmcgcooaaDoor
open Go.RowKit Go.Gx
open Go.Plain
set_option maxHeartbeats 1000000 in
set_option maxRecDepth 20000 in
theorem shaHexes_walk {w : World} {a b : List UInt8} {s : ByteArray} (ha : a.length = 32) (hb : b.length = 32) (hrnd : Sl w (fun k => k = 1) u32v (some ⟨1, 0, none⟩) 64 64 rk) :
    Calls Tryd.prog 14 #[hv a, hv b, .string s] w fun e w' => e = .returned (.bool true) ∧ Ch No w w' := by
  have hn1 : 1 < w.heap.size := hrnd.size (by omega) rfl
  have HC : Ch No w w := Ch.refl _ _
  refine enter' (args := [hv a, hv b, .string s]) (n := 57) Tryd.func14 rfl rfl rfl ?_
  refine wc_seq ?_
  refine wc_region ?_
  refine wle rfl (e_box (cs := (List.map u8v a).toArray) rfl rfl rfl (fun w1 g3 hg3 hb3 hc hsz3 => ?_))
  have hzw1 := hc.size
  have HC := HC.tr hc
  have hrnd := hrnd.no hc
  have hge3 : w.heap.size ≤ g3 := by have := HC.size; omega
  have hltg3 := hb3.lt
  refine wle rfl (e_box (cs := (List.map u8v b).toArray) rfl rfl rfl (fun w2 g4 hg4 hb4 hc hsz4 => ?_))
  have hzw2 := hc.size
  have HC := HC.tr hc
  have hrnd := hrnd.no hc
  have hb3 := hb3.ch hc (fun h => h)
  have hge4 : w.heap.size ≤ g4 := by have := HC.size; omega
  have neg3_4 : g3 < g4 := by omega
  refine wl rfl rfl rfl (p_as rfl) ?_
  refine wl_nil ?_
  refine x_seq ?_
  refine wc_seq ?_
  refine wc_seq ?_
  refine wc_region ?_
  refine wl rfl rfl rfl (p_mv rfl) ?_
  refine wl rfl rfl rfl (p_lenT Tryd.underlying9 rfl) ?_
  refine wl rfl rfl rfl (p_gt rfl rfl) ?_
  refine wl_nil ?_
  refine x_seq ?_
  refine wc_if rfl (fun c0 => ?_) (fun c0 => ?_)
  ·
    have c0 := of_decide_eq_true c0
    refine wc_seq ?_
    refine wc_region ?_
    refine wle rfl (e_call ent18 rfl rfl (lives3_any hrnd) ?_)
    rintro _ w3 ⟨rfl, hc⟩
    refine ⟨_, rfl, ?_⟩
    have hzw3 := hc.size
    have HC := HC.tr hc
    have hrnd := hrnd.no hc
    have hb3 := hb3.ch hc (fun h => h)
    have hb4 := hb4.ch hc (fun h => h)
    refine wl rfl rfl rfl (p_as rfl) ?_
    refine wl_nil ?_
    refine x_seq ?_
    refine wc_ret ?_
    refine x_then_ret ?_
    refine fin_run (res1 rfl rfl) ?_
    exact ⟨rfl, HC⟩
  ·
    have c0 := of_decide_eq_false c0
    refine wc_skip ?_
    refine x_seq ?_
    refine wc_seq ?_
    refine wc_draw [(0, 1), (2, 1), (1, 2), (3, 2), (4, 0), (5, 0)] 6 (by kernel_rfl) (by kernel_rfl) (by kernel_rfl) (by repeat (first | with_reducible exact pan_body | with_reducible apply pan_then | with_reducible apply pan_in)) (fun x => Ch No w2.drew x) (Ch.refl _ _) ?_
    obtain ⟨w4, ew4⟩ : ∃ x, x = w2.drew := ⟨_, rfl⟩
    rw [← ew4]
    have hc : Ch No w2 w4 := by rw [ew4]; exact Ch.drew _
    have hszw4 : w4.heap.size = w2.heap.size := by rw [ew4]; rfl
    clear ew4
    have hzw4 := hc.size
    have HC := HC.tr hc
    have hrnd := hrnd.no hc
    have hb3 := hb3.ch hc (fun h => h)
    have hb4 := hb4.ch hc (fun h => h)
    have hS : Ch No w4 w4 := Ch.refl _ _
    refine ws_h rfl rfl rfl rfl (p_ldA (cs := List.map u8v a) Tryd.underlying25 rfl (szL sz25 (by rw [List.length_map]; exact ha)) rfl (fun _ h => (rngL (hb3.ch h (fun h => h))))) ?_
    refine ws_h rfl rfl rfl rfl (p_ldA (cs := List.map u8v b) Tryd.underlying25 rfl (szL sz25 (by rw [List.length_map]; exact hb)) rfl (fun _ h => (rngL (hb4.ch h (fun h => h))))) ?_
    refine ws_e rfl rfl (e_call ent50 rfl rfl (hex_any (ha)) ?_)
    rintro _ w5 ⟨rfl, hc⟩
    refine ⟨_, rfl, hc, ?_⟩
    have hzw5 := hc.size
    have HC := HC.tr hc
    have hrnd := hrnd.no hc
    have hb3 := hb3.ch hc (fun h => h)
    have hb4 := hb4.ch hc (fun h => h)
    refine ws_narrow (S' := fun x => Ch No w5 x) (Ch.refl _ _) (fun x h => hc.tr h) ?_
    refine ws_e rfl rfl (e_call ent50 rfl rfl (hex_any (hb)) ?_)
    rintro _ w6 ⟨rfl, hc⟩
    refine ⟨_, rfl, hc, ?_⟩
    have hzw6 := hc.size
    have HC := HC.tr hc
    have hrnd := hrnd.no hc
    have hb3 := hb3.ch hc (fun h => h)
    have hb4 := hb4.ch hc (fun h => h)
    refine ws_narrow (S' := fun x => Ch No w6 x) (Ch.refl _ _) (fun x h => hc.tr h) ?_
    refine ws_p rfl rfl rfl rfl (p_as rfl) ?_
    refine ws_p rfl rfl rfl rfl (p_as rfl) ?_
    refine ws_n ?_
    refine x_seq ?_
    refine wc_seq ?_
    refine wc_region ?_
    refine wl rfl rfl rfl (p_mv rfl) ?_
    refine wle rfl (e_call ent48 rfl rfl (parse_any) ?_)
    rintro _ w7 ⟨rfl, hc⟩
    refine ⟨_, rfl, ?_⟩
    have hzw7 := hc.size
    have HC := HC.tr hc
    have hrnd := hrnd.no hc
    have hb3 := hb3.ch hc (fun h => h)
    have hb4 := hb4.ch hc (fun h => h)
    refine wl rfl rfl rfl (p_mv rfl) ?_
    refine wl rfl rfl rfl (p_ext rfl rfl) ?_
    refine wl rfl rfl rfl (p_ext rfl rfl) ?_
    have hltg3 := hb3.lt
    have hltg4 := hb4.lt
    refine wle rfl (e_alloc (cs := ((List.replicate 32 (0 : UInt8)).map u8v).toArray) rfl (by rfl) rfl (fun w8 g9 hg9 hb9 hc hsz9 => ?_))
    have hzw8 := hc.size
    have HC := HC.tr hc
    have hrnd := hrnd.no hc
    have hb3 := hb3.ch hc (fun h => h)
    have hb4 := hb4.ch hc (fun h => h)
    have hge9 : w.heap.size ≤ g9 := by have := HC.size; omega
    have neg3_9 : g3 < g9 := by omega
    have neg4_9 : g4 < g9 := by omega
    refine wle rfl (e_stW (vs := List.map u8v _) (szL sz25 (by rw [List.length_map]; exact parD_len _)) (oneL one_u8 _) rfl rfl hb9 (by simp only [List.size_toArray, List.length_map]; first | done | exact ((List.length_replicate ..)).trans (parD_len _).symm) (fun w9 hb9 hc hsz => ?_))
    have hzw9 := hc.size
    have HC := HC.trans hc (fun _ _ h => h) (fun k hk ht => absurd ht (by omega))
    first | have hrnd := hrnd.ch hc (by intro k hk ht; first | omega | (dsimp only at *; omega)) | have hrnd := hrnd.chT hc (by intro k hz hk ht; first | omega | (dsimp only at *; omega))
    have hb3 := hb3.ch hc (by omega)
    have hb4 := hb4.ch hc (by omega)
    refine wl rfl rfl rfl (p_as rfl) ?_
    refine wl_nil ?_
    refine x_seq ?_
    refine wc_seq ?_
    refine wc_draw [(0, 0), (1, 0), (2, 0), (3, 0), (4, 0), (5, 0), (6, 0), (7, 1), (8, 1), (9, 0), (10, 0), (11, 0), (12, 0), (13, 0), (14, 0), (15, 0), (16, 1), (18, 0), (17, 2), (19, 0), (20, 0), (21, 0), (22, 0), (23, 0), (24, 0), (25, 1), (26, 2), (27, 0), (28, 0), (29, 0), (30, 0), (31, 2), (32, 0), (33, 0)] 34 (by kernel_rfl) (by kernel_rfl) (by kernel_rfl) (by repeat (first | with_reducible exact pan_body | with_reducible apply pan_then | with_reducible apply pan_in)) (fun x => Ch No w9.drew x) (Ch.refl _ _) ?_
    obtain ⟨w10, ew10⟩ : ∃ x, x = w9.drew := ⟨_, rfl⟩
    rw [← ew10]
    have hc : Ch No w9 w10 := by rw [ew10]; exact Ch.drew _
    have hszw10 : w10.heap.size = w9.heap.size := by rw [ew10]; rfl
    clear ew10
    have hzw10 := hc.size
    have HC := HC.tr hc
    have hrnd := hrnd.no hc
    have hb3 := hb3.ch hc (fun h => h)
    have hb4 := hb4.ch hc (fun h => h)
    have hb9 := hb9.ch hc (fun h => h)
    have hS : Ch No w10 w10 := Ch.refl _ _
    refine ws_p rfl rfl rfl rfl (p_mv rfl) ?_
    refine ws_p rfl rfl rfl rfl (p_lenT Tryd.underlying9 rfl) ?_
    refine ws_p rfl rfl rfl rfl (p_eq rfl rfl) ?_
    refine ws_p rfl rfl rfl rfl (p_mv rfl) ?_
    refine ws_know (d := 27) (b' := true) rfl (decide_eq_true (by rw [str_size, hexF_len, ha]; rfl)) ?_
    refine ws_pg rfl (gd_ rfl rfl rfl rfl rfl rfl) rfl rfl (p_mv rfl) ?_
    refine ws_pg rfl (gd_ rfl rfl rfl rfl rfl rfl) rfl rfl (p_mv rfl) ?_
    refine ws_pg rfl (gd_ rfl rfl rfl rfl rfl rfl) rfl rfl (p_eqT rfl rfl) ?_
    refine ws_hg rfl (gd_ rfl rfl rfl rfl rfl rfl) rfl rfl (p_ldA (cs := List.map u8v a) Tryd.underlying25 rfl (szL sz25 (by rw [List.length_map]; exact ha)) rfl (fun _ h => (rngL (hb3.ch h (fun h => h))))) ?_
    refine ws_hg rfl (gd_ rfl rfl rfl rfl rfl rfl) rfl rfl (p_ldA (cs := List.map u8v b) Tryd.underlying25 rfl (szL sz25 (by rw [List.length_map]; exact hb)) rfl (fun _ h => (rngL (hb4.ch h (fun h => h))))) ?_
    refine ws_pg rfl (gd_ rfl rfl rfl rfl rfl rfl) rfl rfl (p_eqH (a := a) (b := b) (by kernel_rfl) Tryd.underlying25 Tryd.underlying5 sz5 rfl rfl (ha) (hb)) ?_
    refine ws_pg rfl (gd_ rfl rfl rfl rfl rfl rfl) rfl rfl (p_eqB rfl rfl Tryd.underlying4) ?_
    refine ws_p rfl rfl rfl rfl (p_pickT rfl rfl) ?_
    refine ws_p rfl rfl rfl rfl (p_mv rfl) ?_
    refine ws_know (d := 36) (b' := true) rfl (by rw [hex_eqT]; exact beq_self_eq_true _) ?_
    refine ws_pg rfl (gd_ rfl rfl rfl rfl rfl rfl) rfl rfl (p_mv rfl) ?_
    refine ws_pg rfl (gd_ rfl rfl rfl rfl rfl rfl) rfl rfl (p_not rfl) ?_
    refine ws_pg rfl (gd_ rfl rfl rfl rfl rfl rfl) rfl rfl (p_mv rfl) ?_
    refine ws_split (d := 39) rfl (fun q39 => ?_) (fun q39 => ?_)
    ·
      have hpo : parO s.data.toList = false := b_of_nt q39
      refine ws_s rfl (gd_ rfl rfl rfl rfl rfl rfl) rfl rfl ?_
      refine ws_s rfl (gd_ rfl rfl rfl rfl rfl rfl) rfl rfl ?_
      refine ws_s rfl (gd_ rfl rfl rfl rfl rfl rfl) rfl rfl ?_
      refine ws_s rfl (gd_ rfl rfl rfl rfl rfl rfl) rfl rfl ?_
      refine ws_pg rfl (gd_ rfl rfl rfl rfl rfl rfl) rfl rfl (p_pickT rfl rfl) ?_
      refine ws_p rfl rfl rfl rfl (p_pickT rfl rfl) ?_
      refine ws_p rfl rfl rfl rfl (p_mv rfl) ?_
      refine ws_pg rfl (gd_ rfl rfl rfl rfl rfl rfl) rfl rfl (p_mv rfl) ?_
      refine ws_pg rfl (gd_ rfl rfl rfl rfl rfl rfl) rfl rfl (p_mv rfl) ?_
      refine ws_know (d := 48) (b' := false) rfl (hpo) ?_
      refine ws_hg rfl (gd_ rfl rfl rfl rfl rfl rfl) rfl rfl (p_ldA (cs := List.map u8v _) Tryd.underlying25 rfl (szL sz25 (by rw [List.length_map]; exact parD_len _)) rfl (fun _ h => (rngL (hb9.ch h (fun h => h))))) ?_
      refine ws_eg rfl (gd_ rfl rfl rfl rfl rfl rfl) (e_call ent52 rfl rfl (none3_any) ?_)
      rintro _ w11 ⟨rfl, hc⟩
      refine ⟨_, rfl, hc, ?_⟩
      have hzw11 := hc.size
      have HC := HC.tr hc
      have hrnd := hrnd.no hc
      have hb3 := hb3.ch hc (fun h => h)
      have hb4 := hb4.ch hc (fun h => h)
      have hb9 := hb9.ch hc (fun h => h)
      refine ws_narrow (S' := fun x => Ch No w11 x) (Ch.refl _ _) (fun x h => hc.tr h) ?_
      refine ws_pg rfl (gd_ rfl rfl rfl rfl rfl rfl) rfl rfl (p_eqH (a := _) (b := (List.replicate 32 (0 : UInt8))) (by kernel_rfl) Tryd.underlying25 Tryd.underlying5 sz5 rfl rfl (parD_len _) ((List.length_replicate ..))) ?_
      refine ws_pg rfl (gd_ rfl rfl rfl rfl rfl rfl) rfl rfl (p_pickF rfl rfl) ?_
      refine ws_p rfl rfl rfl rfl (p_pickT rfl rfl) ?_
      refine ws_p rfl rfl rfl rfl (p_mv rfl) ?_
      refine ws_know (d := 54) (b' := true) rfl (by rw [par_zero hpo]; exact beq_self_eq_true _) ?_
      refine ws_eg rfl (gd_ rfl rfl rfl rfl rfl rfl) (e_call ent18 rfl rfl (lives3_any hrnd) ?_)
      rintro _ w12 ⟨rfl, hc⟩
      refine ⟨_, rfl, hc, ?_⟩
      have hzw12 := hc.size
      have HC := HC.tr hc
      have hrnd := hrnd.no hc
      have hb3 := hb3.ch hc (fun h => h)
      have hb4 := hb4.ch hc (fun h => h)
      have hb9 := hb9.ch hc (fun h => h)
      refine ws_narrow (S' := fun x => Ch No w12 x) (Ch.refl _ _) (fun x h => hc.tr h) ?_
      refine ws_p rfl rfl rfl rfl (p_pickT rfl rfl) ?_
      refine ws_p rfl rfl rfl rfl (p_as rfl) ?_
      refine ws_n ?_
      refine x_seq ?_
      refine wc_ret ?_
      refine fin_run (res1 rfl rfl) ?_
      exact ⟨rfl, HC⟩
    ·
      have hpo : parO s.data.toList = true := b_of_nf q39
      refine ws_hg rfl (gd_ rfl rfl rfl rfl rfl rfl) rfl rfl (p_ldA (cs := List.map u8v _) Tryd.underlying25 rfl (szL sz25 (by rw [List.length_map]; exact parD_len _)) rfl (fun _ h => (rngL (hb9.ch h (fun h => h))))) ?_
      refine ws_pg rfl (gd_ rfl rfl rfl rfl rfl rfl) rfl rfl (p_mv rfl) ?_
      refine ws_eg rfl (gd_ rfl rfl rfl rfl rfl rfl) (e_call ent50 rfl rfl (hex_any (parD_len _)) ?_)
      rintro _ w13 ⟨rfl, hc⟩
      refine ⟨_, rfl, hc, ?_⟩
      have hzw13 := hc.size
      have HC := HC.tr hc
      have hrnd := hrnd.no hc
      have hb3 := hb3.ch hc (fun h => h)
      have hb4 := hb4.ch hc (fun h => h)
      have hb9 := hb9.ch hc (fun h => h)
      refine ws_narrow (S' := fun x => Ch No w13 x) (Ch.refl _ _) (fun x h => hc.tr h) ?_
      refine ws_pg rfl (gd_ rfl rfl rfl rfl rfl rfl) rfl rfl (p_eqT rfl rfl) ?_
      refine ws_pg rfl (gd_ rfl rfl rfl rfl rfl rfl) rfl rfl (p_pickF rfl rfl) ?_
      refine ws_p rfl rfl rfl rfl (p_pickT rfl rfl) ?_
      refine ws_p rfl rfl rfl rfl (p_mv rfl) ?_
      refine ws_know (d := 46) (b' := true) rfl (par_back hpo) ?_
      refine ws_pg rfl (gd_ rfl rfl rfl rfl rfl rfl) rfl rfl (p_mv rfl) ?_
      refine ws_pg rfl (gd_ rfl rfl rfl rfl rfl rfl) rfl rfl (p_mv rfl) ?_
      refine ws_know (d := 48) (b' := true) rfl (hpo) ?_
      refine ws_s rfl (gd_ rfl rfl rfl rfl rfl rfl) rfl rfl ?_
      refine ws_s rfl (gd_ rfl rfl rfl rfl rfl rfl) rfl rfl ?_
      refine ws_s rfl (gd_ rfl rfl rfl rfl rfl rfl) rfl rfl ?_
      refine ws_pg rfl (gd_ rfl rfl rfl rfl rfl rfl) rfl rfl (p_pickT rfl rfl) ?_
      refine ws_p rfl rfl rfl rfl (p_pickT rfl rfl) ?_
      refine ws_p rfl rfl rfl rfl (p_mv rfl) ?_
      refine ws_eg rfl (gd_ rfl rfl rfl rfl rfl rfl) (e_call ent18 rfl rfl (lives3_any hrnd) ?_)
      rintro _ w14 ⟨rfl, hc⟩
      refine ⟨_, rfl, hc, ?_⟩
      have hzw14 := hc.size
      have HC := HC.tr hc
      have hrnd := hrnd.no hc
      have hb3 := hb3.ch hc (fun h => h)
      have hb4 := hb4.ch hc (fun h => h)
      have hb9 := hb9.ch hc (fun h => h)
      refine ws_narrow (S' := fun x => Ch No w14 x) (Ch.refl _ _) (fun x h => hc.tr h) ?_
      refine ws_p rfl rfl rfl rfl (p_pickT rfl rfl) ?_
      refine ws_p rfl rfl rfl rfl (p_as rfl) ?_
      refine ws_n ?_
      refine x_seq ?_
      refine wc_ret ?_
      refine fin_run (res1 rfl rfl) ?_
      exact ⟨rfl, HC⟩
end Go.Proofs.YtdbdconmcgcooaaDoor
