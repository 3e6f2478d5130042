/-
  Own text, printed by a program of mine (wip/gx): what functions of the program do, walked operation by operation.
-/
import Derived.Test.YtdbdconmcgcooaaDoorProg
import Derived.Test.YtdbdconmcgcooaaDoorGxAgg
import Derived.Test.YtdbdconmcgcooaaDoorTab
import Derived.Test.YtdbdconmcgcooaaDoorPlPack
import Derived.Test.YtdbdconmcgcooaaDoorPlSum
import Derived.Test.YtdbdconmcgcooaaDoorPlSha
import Derived.Test.YtdbdconmcgcooaaDoorPlShaSt
import Derived.Test.YtdbdconmcgcooaaDoorPlShaB
import Derived.Test.YtdbdconmcgcooaaDoorPlTag
import Derived.Test.YtdbdconmcgcooaaDoorGxTwo
import Derived.Test.YtdbdconmcgcooaaDoorTX
import Derived.Test.YtdbdconmcgcooaaDoorH0
set_option linter.unusedVariables false
namespace Go.Proofs.YtdbdconmcgcooaaDoor
open Go.RowKit Go.Gx
open Go.Plain
set_option maxHeartbeats 1000000 in
set_option maxRecDepth 20000 in
theorem tagForks_walk {w : World} {a b : List UInt8} {x : Int} (ha : a.length = 32) (hb : b.length = 32) (hrnd : Sl w (fun k => k = 1) u32v (some ⟨1, 0, none⟩) 64 64 rk) :
    Calls Tryd.prog 7 #[hv (a ++ b), i64 x] w fun e w' => e = .returned (.bool true) ∧ Ch No w w' := by
  have hn1 : 1 < w.heap.size := hrnd.size (by omega) rfl
  have HC : Ch No w w := Ch.refl _ _
  refine enter' (args := [hv (a ++ b), i64 x]) (n := 35) Tryd.func7 rfl rfl rfl ?_
  refine wc_seq ?_
  refine wc_region ?_
  refine wle rfl (e_box (cs := (List.map u8v (a ++ b)).toArray) rfl rfl rfl (fun w1 g2 hg2 hb2 hc hsz2 => ?_))
  have hzw1 := hc.size
  have HC := HC.tr hc
  have hrnd := hrnd.no hc
  have hge2 : w.heap.size ≤ g2 := by have := HC.size; omega
  refine wl rfl rfl rfl (p_as rfl) ?_
  refine wl_nil ?_
  refine x_seq ?_
  refine wc_seq ?_
  refine wc_region ?_
  refine wl rfl rfl rfl (p_mv rfl) ?_
  refine wl rfl rfl rfl (p_conv Tryd.underlying3 Tryd.underlying5 rfl (wrap_b8i _)) ?_
  refine wl rfl rfl rfl (p_conv Tryd.underlying5 Tryd.underlying3 rfl (wB_i64 _)) ?_
  refine wl rfl rfl rfl (p_as rfl) ?_
  refine wl_nil ?_
  refine x_seq ?_
  refine wc_seq ?_
  refine wc_draw (.st 0 0 (.st 1 0 (.st 2 1 (.st 3 0 (.st 4 1 (.st 6 0 (.st 7 0 (.st 8 1 (.st 9 0 (.st 10 1 (.st 5 2 (.st 11 2 (.st 12 0 (.st 13 0 (.st 14 2 (.st 15 2 (.st 16 0 (.st 17 0 (.st 18 0 (.st 19 2 (.st 20 2 (.st 21 0 (.st 22 0 (.st 23 0 (.st 24 2 (.st 25 0 (.st 26 0 .nil))))))))))))))))))))))))))) 27 (by kernel_rfl) (by kernel_rfl) (by kernel_rfl) (by repeat (first | with_reducible exact pan_body | with_reducible apply pan_then | with_reducible apply pan_in)) (fun x => Ch No w1.drew x) (Ch.refl _ _) ?_
  obtain ⟨w2, ew2⟩ : ∃ x, x = w1.drew := ⟨_, rfl⟩
  rw [← ew2]
  have hc : Ch No w1 w2 := by rw [ew2]; exact Ch.drew _
  have hszw2 : w2.heap.size = w1.heap.size := by rw [ew2]; rfl
  clear ew2
  have hzw2 := hc.size
  have HC := HC.tr hc
  have hrnd := hrnd.no hc
  have hb2 := hb2.ch hc (fun h => h)
  have hS : Ch No w2 w2 := Ch.refl _ _
  refine ws_p rfl rfl rfl rfl (p_mv rfl) ?_
  refine ws_p rfl rfl rfl rfl (p_ixA (j := 0) Tryd.underlying37 sz25 rfl rfl (by omega) (by omega) rfl) ?_
  refine ws_h rfl rfl rfl rfl (p_ldA (cs := List.map u8v a) Tryd.underlying25 rfl (szL sz25 (by rw [List.length_map]; exact ha)) rfl (fun _ h => rng_fst (hb2.ch h (fun h => h)))) ?_
  refine ws_p rfl rfl rfl rfl (p_ixA (j := 32) Tryd.underlying37 sz25 rfl rfl (by omega) (by omega) rfl) ?_
  refine ws_h rfl rfl rfl rfl (p_ldA (cs := List.map u8v b) Tryd.underlying25 rfl (szL sz25 (by rw [List.length_map]; exact hb)) rfl (fun _ h => rng_snd (hb2.ch h (fun h => h)) (ha))) ?_
  refine ws_p rfl rfl rfl rfl (p_mv rfl) ?_
  refine ws_p rfl rfl rfl rfl (p_ixA (j := 0) Tryd.underlying37 sz25 rfl rfl (by omega) (by omega) rfl) ?_
  refine ws_h rfl rfl rfl rfl (p_ldA (cs := List.map u8v a) Tryd.underlying25 rfl (szL sz25 (by rw [List.length_map]; exact ha)) rfl (fun _ h => rng_fst (hb2.ch h (fun h => h)))) ?_
  refine ws_p rfl rfl rfl rfl (p_ixA (j := 32) Tryd.underlying37 sz25 rfl rfl (by omega) (by omega) rfl) ?_
  refine ws_h rfl rfl rfl rfl (p_ldA (cs := List.map u8v b) Tryd.underlying25 rfl (szL sz25 (by rw [List.length_map]; exact hb)) rfl (fun _ h => rng_snd (hb2.ch h (fun h => h)) (ha))) ?_
  refine ws_e rfl rfl (e_call ent29 rfl rfl (tfork_any (ha) (hb) hrnd) ?_)
  rintro _ w7 ⟨rfl, hc⟩
  refine ⟨_, rfl, hc, ?_⟩
  have hzw7 := hc.size
  have HC := HC.tr hc
  have hrnd := hrnd.no hc
  have hb2 := hb2.ch hc (fun h => h)
  refine ws_narrow (S' := fun x => Ch No w7 x) (Ch.refl _ _) (fun x h => hc.tr h) ?_
  refine ws_e rfl rfl (e_call ent29 rfl rfl (tfork_any (ha) (hb) hrnd) ?_)
  rintro _ w8 ⟨rfl, hc⟩
  refine ⟨_, rfl, hc, ?_⟩
  have hzw8 := hc.size
  have HC := HC.tr hc
  have hrnd := hrnd.no hc
  have hb2 := hb2.ch hc (fun h => h)
  refine ws_narrow (S' := fun x => Ch No w8 x) (Ch.refl _ _) (fun x h => hc.tr h) ?_
  refine ws_p rfl rfl rfl rfl (p_eqH (a := (forkH _ _ _)) (b := (forkH _ _ _)) (by kernel_rfl) Tryd.underlying25 Tryd.underlying5 sz5 rfl rfl (forkH_len _ _ _) (forkH_len _ _ _)) ?_
  refine ws_p rfl rfl rfl rfl (p_mv rfl) ?_
  refine ws_know (d := 22) (b' := true) rfl (by rw [b8i_idem]; exact beq_self_eq_true _) ?_
  refine ws_eg rfl (gd_ rfl rfl rfl rfl rfl rfl) (e_call ent30 rfl rfl (tnone_any  hrnd) ?_)
  rintro _ w9 ⟨rfl, hc⟩
  refine ⟨_, rfl, hc, ?_⟩
  have hzw9 := hc.size
  have HC := HC.tr hc
  have hrnd := hrnd.no hc
  have hb2 := hb2.ch hc (fun h => h)
  refine ws_narrow (S' := fun x => Ch No w9 x) (Ch.refl _ _) (fun x h => hc.tr h) ?_
  refine ws_eg rfl (gd_ rfl rfl rfl rfl rfl rfl) (e_call ent30 rfl rfl (tnone_any  hrnd) ?_)
  rintro _ w10 ⟨rfl, hc⟩
  refine ⟨_, rfl, hc, ?_⟩
  have hzw10 := hc.size
  have HC := HC.tr hc
  have hrnd := hrnd.no hc
  have hb2 := hb2.ch hc (fun h => h)
  refine ws_narrow (S' := fun x => Ch No w10 x) (Ch.refl _ _) (fun x h => hc.tr h) ?_
  refine ws_pg rfl (gd_ rfl rfl rfl rfl rfl rfl) rfl rfl (p_eqH (a := (noneH)) (b := (noneH)) (by kernel_rfl) Tryd.underlying25 Tryd.underlying5 sz5 rfl rfl (noneH_len) (noneH_len)) ?_
  refine ws_p rfl rfl rfl rfl (p_pickT rfl rfl) ?_
  refine ws_p rfl rfl rfl rfl (p_mv rfl) ?_
  refine ws_know (d := 27) (b' := true) rfl ((by first | exact beq_self_eq_true _ | exact decide_eq_true rfl | exact eqT_of rfl)) ?_
  refine ws_eg rfl (gd_ rfl rfl rfl rfl rfl rfl) (e_call ent31 rfl rfl (tempty_any  hrnd) ?_)
  rintro _ w11 ⟨rfl, hc⟩
  refine ⟨_, rfl, hc, ?_⟩
  have hzw11 := hc.size
  have HC := HC.tr hc
  have hrnd := hrnd.no hc
  have hb2 := hb2.ch hc (fun h => h)
  refine ws_narrow (S' := fun x => Ch No w11 x) (Ch.refl _ _) (fun x h => hc.tr h) ?_
  refine ws_eg rfl (gd_ rfl rfl rfl rfl rfl rfl) (e_call ent20 rfl rfl (rsum_any (Sl.nil (F := No)) (by first | omega | (simp only [List.flatten_cons, List.flatten_nil, List.length_append, List.length_nil, List.length_cons]; omega))) ?_)
  rintro _ w12 ⟨rfl, hc⟩
  refine ⟨_, rfl, hc, ?_⟩
  have hzw12 := hc.size
  have HC := HC.tr hc
  have hrnd := hrnd.no hc
  have hb2 := hb2.ch hc (fun h => h)
  refine ws_narrow (S' := fun x => Ch No w12 x) (Ch.refl _ _) (fun x h => hc.tr h) ?_
  refine ws_pg rfl (gd_ rfl rfl rfl rfl rfl rfl) rfl rfl (p_eqH (a := (emptyH)) (b := (shaF _)) (by kernel_rfl) Tryd.underlying25 Tryd.underlying5 sz5 rfl rfl (emptyH_len) (shaF_len _)) ?_
  refine ws_p rfl rfl rfl rfl (p_pickT rfl rfl) ?_
  refine ws_p rfl rfl rfl rfl (p_mv rfl) ?_
  refine ws_know (d := 32) (b' := true) rfl ((by first | exact beq_self_eq_true _ | exact decide_eq_true rfl | exact eqT_of rfl)) ?_
  refine ws_eg rfl (gd_ rfl rfl rfl rfl rfl rfl) (e_call ent25 rfl rfl (lives4_any hrnd) ?_)
  rintro _ w13 ⟨rfl, hc⟩
  refine ⟨_, rfl, hc, ?_⟩
  have hzw13 := hc.size
  have HC := HC.tr hc
  have hrnd := hrnd.no hc
  have hb2 := hb2.ch hc (fun h => h)
  refine ws_narrow (S' := fun x => Ch No w13 x) (Ch.refl _ _) (fun x h => hc.tr h) ?_
  refine ws_p rfl rfl rfl rfl (p_pickT rfl rfl) ?_
  refine ws_p rfl rfl rfl rfl (p_as rfl) ?_
  refine ws_n ?_
  refine x_seq ?_
  refine wc_ret ?_
  refine fin_run (res1 rfl rfl) ?_
  exact ⟨rfl, HC⟩
end Go.Proofs.YtdbdconmcgcooaaDoor
