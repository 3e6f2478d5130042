/-
  Own text, printed by a program of mine (wip/gx): what functions of the program do, walked operation by operation.
-/
import Derived.Test.YtdbdconmcgcooaaDoorProg
import Derived.Test.YtdbdconmcgcooaaDoorGxAux
import Derived.Test.YtdbdconmcgcooaaDoorTab
import Derived.Test.YtdbdconmcgcooaaDoorPlPack
import Derived.Test.YtdbdconmcgcooaaDoorPlPackB
import Derived.Test.YtdbdconmcgcooaaDoorPlSum
import Derived.Test.YtdbdconmcgcooaaDoorPlSumB
import Derived.Test.YtdbdconmcgcooaaDoorD2
import Derived.Test.YtdbdconmcgcooaaDoorD4
import Derived.Test.YtdbdconmcgcooaaDoorD5
import Derived.Test.YtdbdconmcgcooaaDoorD7
import Derived.Test.YtdbdconmcgcooaaDoorD8
set_option linter.unusedVariables false
namespace Go.Proofs.YtdbdconmcgcooaaDoor
open Go.RowKit Go.Gx
open Go.Plain
set_option maxHeartbeats 1000000 in
set_option maxRecDepth 20000 in
theorem sumFrames_walk {w : World} {Ab : Option Addr} {lb cb : Nat} {Fb : Nat → Prop} {b : List UInt8} (hb : Sl w Fb u8v Ab lb cb b) (hl : lb ≤ 140737488351232) (hnib : Sl w (fun k => k = 0) u32v (some ⟨0, 0, none⟩) 16 16 nib) :
    Calls Tryd.prog 8 #[.slice Ab lb cb] w fun e w' => e = .returned (.bool true) ∧ Ch No w w' := by
  have hn0 : 0 < w.heap.size := hnib.size (by omega) rfl
  have hbl := hb.len
  have hb := hb.old
  have HC : Ch No w w := Ch.refl _ _
  refine enter' (args := [.slice Ab lb cb]) (n := 67) Tryd.func8 rfl rfl rfl ?_
  refine wc_seq ?_
  refine wc_region ?_
  refine wl rfl rfl rfl (p_as rfl) ?_
  refine wl_nil ?_
  refine x_seq ?_
  refine wc_seq ?_
  refine wc_seq ?_
  refine wc_region ?_
  refine wl rfl rfl rfl (p_mv rfl) ?_
  refine wl rfl rfl rfl (p_lenS Tryd.underlying22 rfl) ?_
  refine wl rfl rfl rfl (p_gt rfl rfl) ?_
  refine wl rfl rfl rfl (p_mv rfl) ?_
  refine wl_split (d := 12) rfl (fun q12 => ?_) (fun q12 => ?_)
  ·
    have q12 := of_decide_eq_true q12
    refine wl_g (gd_ rfl rfl rfl rfl rfl rfl) rfl rfl (p_mv rfl) ?_
    refine wl_g (gd_ rfl rfl rfl rfl rfl rfl) rfl rfl (p_lenS Tryd.underlying22 rfl) ?_
    refine wl_g (gd_ rfl rfl rfl rfl rfl rfl) rfl rfl (p_le rfl rfl) ?_
    refine wl rfl rfl rfl (p_pickT rfl rfl) ?_
    refine wl_nil ?_
    refine x_seq ?_
    refine wc_if rfl (fun c0 => ?_) (fun c0 => ?_)
    ·
      have c0 := of_decide_eq_true c0
      refine wc_seq ?_
      refine wc_region ?_
      refine wle rfl (e_call ent21 rfl rfl (lives2_any hnib) ?_)
      rintro _ w1 ⟨rfl, hc⟩
      refine ⟨_, rfl, ?_⟩
      have hzw1 := hc.size
      have HC := HC.tr hc
      have hb := hb.no hc
      have hnib := hnib.no hc
      refine wl rfl rfl rfl (p_as rfl) ?_
      refine wl_nil ?_
      refine x_seq ?_
      refine wc_ret ?_
      refine x_then_ret ?_
      refine fin_run (res1 rfl rfl) ?_
      exact ⟨rfl, HC⟩
    ·
      have c0 := of_decide_eq_false c0
      refine wc_skip ?_
      refine x_seq ?_
      refine wc_seq ?_
      refine wc_seq ?_
      refine wc_region ?_
      refine wl rfl rfl rfl (p_mv rfl) ?_
      refine wl rfl rfl rfl (p_lenS Tryd.underlying22 rfl) ?_
      refine wl rfl rfl rfl (p_gt rfl rfl) ?_
      refine wl_nil ?_
      refine x_seq ?_
      refine wc_if rfl (fun c1 => ?_) (fun c1 => ?_)
      ·
        have c1 := of_decide_eq_true c1
        refine wc_seq ?_
        refine wc_region ?_
        refine wl rfl rfl rfl (p_mv rfl) ?_
        refine wle rfl (e_call ent32 rfl rfl (frame_any (hb) (by omega) hnib) ?_)
        rintro _ w2 ⟨A22, c22, rfl, hW22, hc⟩
        refine ⟨_, rfl, ?_⟩
        have hzw2 := hc.size
        have HC := HC.tr hc
        have hb := hb.no hc
        have hnib := hnib.no hc
        refine wl rfl rfl rfl (p_lenS Tryd.underlying22 rfl) ?_
        refine wl rfl rfl rfl (p_eq rfl rfl) ?_
        refine wl rfl rfl rfl (p_mv rfl) ?_
        refine wl_know (d := 25) (b' := true) rfl (by rw [frame_long (by omega)]; rfl) ?_
        refine wle_g (gd_ rfl rfl rfl rfl rfl rfl) (e_call ent21 rfl rfl (lives2_any hnib) ?_)
        rintro _ w3 ⟨rfl, hc⟩
        refine ⟨_, rfl, ?_⟩
        have hzw3 := hc.size
        have HC := HC.tr hc
        have hb := hb.no hc
        have hnib := hnib.no hc
        have hW22 := hW22.after hc
        refine wl rfl rfl rfl (p_pickT rfl rfl) ?_
        refine wl rfl rfl rfl (p_as rfl) ?_
        refine wl_nil ?_
        refine x_seq ?_
        refine wc_ret ?_
        refine x_then_ret ?_
        refine fin_run (res1 rfl rfl) ?_
        exact ⟨rfl, HC⟩
      ·
        have c1 := of_decide_eq_false c1
        refine wc_skip ?_
        refine x_seq ?_
        refine wc_seq ?_
        refine wc_region ?_
        refine wl rfl rfl rfl (p_mv rfl) ?_
        refine wle rfl (e_call ent33 rfl rfl (open_any (hb) (by omega) hnib) ?_)
        rintro _ w4 ⟨A30, c30, rfl, hW30, hc⟩
        refine ⟨_, rfl, ?_⟩
        have hzw4 := hc.size
        have HC := HC.tr hc
        have hb := hb.no hc
        have hnib := hnib.no hc
        refine wl rfl rfl rfl (p_mv rfl) ?_
        refine wl rfl rfl rfl (p_ext rfl rfl) ?_
        refine wl rfl rfl rfl (p_ext rfl rfl) ?_
        refine wl rfl rfl rfl (p_ext rfl rfl) ?_
        refine wl rfl rfl rfl (p_as rfl) ?_
        refine wl rfl rfl rfl (p_as rfl) ?_
        refine wl rfl rfl rfl (p_as rfl) ?_
        refine wl_nil ?_
        refine x_seq ?_
        refine wc_seq ?_
        refine wc_region ?_
        refine wl rfl rfl rfl (p_mv rfl) ?_
        refine wle rfl (e_call ent34 rfl rfl (ropen_any (hb) (by omega)) ?_)
        rintro _ w5 ⟨A36, c36, rfl, hW36, hc⟩
        refine ⟨_, rfl, ?_⟩
        have hzw5 := hc.size
        have HC := HC.tr hc
        have hb := hb.no hc
        have hnib := hnib.no hc
        have hW30 := hW30.after hc
        refine wl rfl rfl rfl (p_mv rfl) ?_
        refine wl rfl rfl rfl (p_ext rfl rfl) ?_
        refine wl rfl rfl rfl (p_ext rfl rfl) ?_
        refine wl rfl rfl rfl (p_ext rfl rfl) ?_
        refine wl rfl rfl rfl (p_as rfl) ?_
        refine wl rfl rfl rfl (p_as rfl) ?_
        refine wl rfl rfl rfl (p_as rfl) ?_
        refine wl_nil ?_
        refine x_seq ?_
        refine wc_seq ?_
        refine wc_draw [(0, 0), (3, 0), (1, 2), (2, 1), (4, 2), (5, 1), (6, 0), (7, 0), (8, 0), (9, 1), (10, 0), (11, 1), (12, 0), (13, 0), (14, 0), (15, 0), (16, 0), (17, 0), (18, 0), (19, 0), (20, 0), (21, 0), (22, 0), (23, 0), (24, 0), (25, 2), (26, 0), (27, 0)] 28 (by kernel_rfl) (by kernel_rfl) (by kernel_rfl) (by repeat (first | with_reducible exact pan_body | with_reducible apply pan_then | with_reducible apply pan_in)) (fun x => Ch No w5.drew x) (Ch.refl _ _) ?_
        obtain ⟨w6, ew6⟩ : ∃ x, x = w5.drew := ⟨_, rfl⟩
        rw [← ew6]
        have hc : Ch No w5 w6 := by rw [ew6]; exact Ch.drew _
        have hszw6 : w6.heap.size = w5.heap.size := by rw [ew6]; rfl
        clear ew6
        have hzw6 := hc.size
        have HC := HC.tr hc
        have hb := hb.no hc
        have hnib := hnib.no hc
        have hW30 := hW30.no hc
        have hW36 := hW36.no hc
        have hS : Ch No w6 w6 := Ch.refl _ _
        refine ws_p rfl rfl rfl rfl (p_mv rfl) ?_
        refine ws_p rfl rfl rfl rfl (p_mv rfl) ?_
        refine ws_e rfl rfl (e_call ent32 rfl rfl (frame_any (hb) (by omega) hnib) ?_)
        rintro _ w7 ⟨A41, c41, rfl, hW41, hc⟩
        refine ⟨_, rfl, hc, ?_⟩
        have hzw7 := hc.size
        have HC := HC.tr hc
        have hb := hb.no hc
        have hnib := hnib.no hc
        have hW30 := hW30.after hc
        have hW36 := hW36.after hc
        refine ws_narrow (S' := fun x => Ch No w7 x) (Ch.refl _ _) (fun x h => hc.tr h) ?_
        refine ws_h rfl rfl rfl rfl (p_bts Tryd.underlying22 Tryd.underlying5 Tryd.underlying9 rfl (hW41.sl).len (fun _ h => (hW41.sl).rd.no h)) ?_
        refine ws_e rfl rfl (e_call ent35 rfl rfl (rframe_any (hb) (by omega)) ?_)
        rintro _ w8 ⟨A44, c44, rfl, hW44, hc⟩
        refine ⟨_, rfl, hc, ?_⟩
        have hzw8 := hc.size
        have HC := HC.tr hc
        have hb := hb.no hc
        have hnib := hnib.no hc
        have hW30 := hW30.after hc
        have hW36 := hW36.after hc
        have hW41 := hW41.after hc
        refine ws_narrow (S' := fun x => Ch No w8 x) (Ch.refl _ _) (fun x h => hc.tr h) ?_
        refine ws_h rfl rfl rfl rfl (p_bts Tryd.underlying22 Tryd.underlying5 Tryd.underlying9 rfl (hW44.sl).len (fun _ h => (hW44.sl).rd.no h)) ?_
        refine ws_p rfl rfl rfl rfl (p_eqT rfl rfl) ?_
        refine ws_p rfl rfl rfl rfl (p_mv rfl) ?_
        refine ws_know (d := 47) (b' := true) rfl ((by first | exact beq_self_eq_true _ | exact decide_eq_true rfl)) ?_
        refine ws_pg rfl (gd_ rfl rfl rfl rfl rfl rfl) rfl rfl (p_mv rfl) ?_
        refine ws_hg rfl (gd_ rfl rfl rfl rfl rfl rfl) rfl rfl (p_bts Tryd.underlying22 Tryd.underlying5 Tryd.underlying9 rfl (hW30.sl).len (fun _ h => (hW30.sl).rd.no h)) ?_
        refine ws_pg rfl (gd_ rfl rfl rfl rfl rfl rfl) rfl rfl (p_mv rfl) ?_
        refine ws_hg rfl (gd_ rfl rfl rfl rfl rfl rfl) rfl rfl (p_bts Tryd.underlying22 Tryd.underlying5 Tryd.underlying9 rfl (hW36.sl).len (fun _ h => (hW36.sl).rd.no h)) ?_
        refine ws_pg rfl (gd_ rfl rfl rfl rfl rfl rfl) rfl rfl (p_eqT rfl rfl) ?_
        refine ws_p rfl rfl rfl rfl (p_pickT rfl rfl) ?_
        refine ws_p rfl rfl rfl rfl (p_mv rfl) ?_
        refine ws_know (d := 54) (b' := true) rfl ((by first | exact beq_self_eq_true _ | exact decide_eq_true rfl)) ?_
        refine ws_pg rfl (gd_ rfl rfl rfl rfl rfl rfl) rfl rfl (p_mv rfl) ?_
        refine ws_pg rfl (gd_ rfl rfl rfl rfl rfl rfl) rfl rfl (p_mv rfl) ?_
        refine ws_pg rfl (gd_ rfl rfl rfl rfl rfl rfl) rfl rfl (p_eq rfl rfl) ?_
        refine ws_p rfl rfl rfl rfl (p_pickT rfl rfl) ?_
        refine ws_p rfl rfl rfl rfl (p_mv rfl) ?_
        refine ws_know (d := 59) (b' := true) rfl ((by first | exact beq_self_eq_true _ | exact decide_eq_true rfl)) ?_
        refine ws_pg rfl (gd_ rfl rfl rfl rfl rfl rfl) rfl rfl (p_mv rfl) ?_
        refine ws_pg rfl (gd_ rfl rfl rfl rfl rfl rfl) rfl rfl (p_mv rfl) ?_
        refine ws_pg rfl (gd_ rfl rfl rfl rfl rfl rfl) rfl rfl (p_eqB rfl rfl Tryd.underlying4) ?_
        refine ws_p rfl rfl rfl rfl (p_pickT rfl rfl) ?_
        refine ws_p rfl rfl rfl rfl (p_mv rfl) ?_
        refine ws_know (d := 64) (b' := true) rfl ((by first | exact beq_self_eq_true _ | exact decide_eq_true rfl)) ?_
        refine ws_eg rfl (gd_ rfl rfl rfl rfl rfl rfl) (e_call ent21 rfl rfl (lives2_any hnib) ?_)
        rintro _ w9 ⟨rfl, hc⟩
        refine ⟨_, rfl, hc, ?_⟩
        have hzw9 := hc.size
        have HC := HC.tr hc
        have hb := hb.no hc
        have hnib := hnib.no hc
        have hW30 := hW30.after hc
        have hW36 := hW36.after hc
        have hW41 := hW41.after hc
        have hW44 := hW44.after hc
        refine ws_narrow (S' := fun x => Ch No w9 x) (Ch.refl _ _) (fun x h => hc.tr h) ?_
        refine ws_p rfl rfl rfl rfl (p_pickT rfl rfl) ?_
        refine ws_p rfl rfl rfl rfl (p_as rfl) ?_
        refine ws_n ?_
        refine x_seq ?_
        refine wc_ret ?_
        refine fin_run (res1 rfl rfl) ?_
        exact ⟨rfl, HC⟩
  ·
    have q12 := of_decide_eq_false q12
    refine wl_s (gd_ rfl rfl rfl rfl rfl rfl) rfl rfl ?_
    refine wl_s (gd_ rfl rfl rfl rfl rfl rfl) rfl rfl ?_
    refine wl_s (gd_ rfl rfl rfl rfl rfl rfl) rfl rfl ?_
    refine wl rfl rfl rfl (p_pickF rfl rfl) ?_
    refine wl_nil ?_
    refine x_seq ?_
    refine wc_no rfl (rfl) ?_
    refine wc_skip ?_
    refine x_seq ?_
    refine wc_seq ?_
    refine wc_seq ?_
    refine wc_region ?_
    refine wl rfl rfl rfl (p_mv rfl) ?_
    refine wl rfl rfl rfl (p_lenS Tryd.underlying22 rfl) ?_
    refine wl rfl rfl rfl (p_gt rfl rfl) ?_
    refine wl_nil ?_
    refine x_seq ?_
    refine wc_if rfl (fun c1 => ?_) (fun c1 => ?_)
    ·
      have c1 := of_decide_eq_true c1
      refine wc_seq ?_
      refine wc_region ?_
      refine wl rfl rfl rfl (p_mv rfl) ?_
      refine wle rfl (e_call ent32 rfl rfl (frame_any (hb) (by omega) hnib) ?_)
      rintro _ w10 ⟨A22, c22, rfl, hW22, hc⟩
      refine ⟨_, rfl, ?_⟩
      have hzw10 := hc.size
      have HC := HC.tr hc
      have hb := hb.no hc
      have hnib := hnib.no hc
      refine wl rfl rfl rfl (p_lenS Tryd.underlying22 rfl) ?_
      refine wl rfl rfl rfl (p_eq rfl rfl) ?_
      refine wl rfl rfl rfl (p_mv rfl) ?_
      refine wl_know (d := 25) (b' := true) rfl (by rw [frame_long (by omega)]; rfl) ?_
      refine wle_g (gd_ rfl rfl rfl rfl rfl rfl) (e_call ent21 rfl rfl (lives2_any hnib) ?_)
      rintro _ w11 ⟨rfl, hc⟩
      refine ⟨_, rfl, ?_⟩
      have hzw11 := hc.size
      have HC := HC.tr hc
      have hb := hb.no hc
      have hnib := hnib.no hc
      have hW22 := hW22.after hc
      refine wl rfl rfl rfl (p_pickT rfl rfl) ?_
      refine wl rfl rfl rfl (p_as rfl) ?_
      refine wl_nil ?_
      refine x_seq ?_
      refine wc_ret ?_
      refine x_then_ret ?_
      refine fin_run (res1 rfl rfl) ?_
      exact ⟨rfl, HC⟩
    ·
      have c1 := of_decide_eq_false c1
      refine wc_skip ?_
      refine x_seq ?_
      refine wc_seq ?_
      refine wc_region ?_
      refine wl rfl rfl rfl (p_mv rfl) ?_
      refine wle rfl (e_call ent33 rfl rfl (open_any (hb) (by omega) hnib) ?_)
      rintro _ w12 ⟨A30, c30, rfl, hW30, hc⟩
      refine ⟨_, rfl, ?_⟩
      have hzw12 := hc.size
      have HC := HC.tr hc
      have hb := hb.no hc
      have hnib := hnib.no hc
      refine wl rfl rfl rfl (p_mv rfl) ?_
      refine wl rfl rfl rfl (p_ext rfl rfl) ?_
      refine wl rfl rfl rfl (p_ext rfl rfl) ?_
      refine wl rfl rfl rfl (p_ext rfl rfl) ?_
      refine wl rfl rfl rfl (p_as rfl) ?_
      refine wl rfl rfl rfl (p_as rfl) ?_
      refine wl rfl rfl rfl (p_as rfl) ?_
      refine wl_nil ?_
      refine x_seq ?_
      refine wc_seq ?_
      refine wc_region ?_
      refine wl rfl rfl rfl (p_mv rfl) ?_
      refine wle rfl (e_call ent34 rfl rfl (ropen_any (hb) (by omega)) ?_)
      rintro _ w13 ⟨A36, c36, rfl, hW36, hc⟩
      refine ⟨_, rfl, ?_⟩
      have hzw13 := hc.size
      have HC := HC.tr hc
      have hb := hb.no hc
      have hnib := hnib.no hc
      have hW30 := hW30.after hc
      refine wl rfl rfl rfl (p_mv rfl) ?_
      refine wl rfl rfl rfl (p_ext rfl rfl) ?_
      refine wl rfl rfl rfl (p_ext rfl rfl) ?_
      refine wl rfl rfl rfl (p_ext rfl rfl) ?_
      refine wl rfl rfl rfl (p_as rfl) ?_
      refine wl rfl rfl rfl (p_as rfl) ?_
      refine wl rfl rfl rfl (p_as rfl) ?_
      refine wl_nil ?_
      refine x_seq ?_
      refine wc_seq ?_
      refine wc_draw [(0, 0), (3, 0), (1, 2), (2, 1), (4, 2), (5, 1), (6, 0), (7, 0), (8, 0), (9, 1), (10, 0), (11, 1), (12, 0), (13, 0), (14, 0), (15, 0), (16, 0), (17, 0), (18, 0), (19, 0), (20, 0), (21, 0), (22, 0), (23, 0), (24, 0), (25, 2), (26, 0), (27, 0)] 28 (by kernel_rfl) (by kernel_rfl) (by kernel_rfl) (by repeat (first | with_reducible exact pan_body | with_reducible apply pan_then | with_reducible apply pan_in)) (fun x => Ch No w13.drew x) (Ch.refl _ _) ?_
      obtain ⟨w14, ew14⟩ : ∃ x, x = w13.drew := ⟨_, rfl⟩
      rw [← ew14]
      have hc : Ch No w13 w14 := by rw [ew14]; exact Ch.drew _
      have hszw14 : w14.heap.size = w13.heap.size := by rw [ew14]; rfl
      clear ew14
      have hzw14 := hc.size
      have HC := HC.tr hc
      have hb := hb.no hc
      have hnib := hnib.no hc
      have hW30 := hW30.no hc
      have hW36 := hW36.no hc
      have hS : Ch No w14 w14 := Ch.refl _ _
      refine ws_p rfl rfl rfl rfl (p_mv rfl) ?_
      refine ws_p rfl rfl rfl rfl (p_mv rfl) ?_
      refine ws_e rfl rfl (e_call ent32 rfl rfl (frame_any (hb) (by omega) hnib) ?_)
      rintro _ w15 ⟨A41, c41, rfl, hW41, hc⟩
      refine ⟨_, rfl, hc, ?_⟩
      have hzw15 := hc.size
      have HC := HC.tr hc
      have hb := hb.no hc
      have hnib := hnib.no hc
      have hW30 := hW30.after hc
      have hW36 := hW36.after hc
      refine ws_narrow (S' := fun x => Ch No w15 x) (Ch.refl _ _) (fun x h => hc.tr h) ?_
      refine ws_h rfl rfl rfl rfl (p_bts Tryd.underlying22 Tryd.underlying5 Tryd.underlying9 rfl (hW41.sl).len (fun _ h => (hW41.sl).rd.no h)) ?_
      refine ws_e rfl rfl (e_call ent35 rfl rfl (rframe_any (hb) (by omega)) ?_)
      rintro _ w16 ⟨A44, c44, rfl, hW44, hc⟩
      refine ⟨_, rfl, hc, ?_⟩
      have hzw16 := hc.size
      have HC := HC.tr hc
      have hb := hb.no hc
      have hnib := hnib.no hc
      have hW30 := hW30.after hc
      have hW36 := hW36.after hc
      have hW41 := hW41.after hc
      refine ws_narrow (S' := fun x => Ch No w16 x) (Ch.refl _ _) (fun x h => hc.tr h) ?_
      refine ws_h rfl rfl rfl rfl (p_bts Tryd.underlying22 Tryd.underlying5 Tryd.underlying9 rfl (hW44.sl).len (fun _ h => (hW44.sl).rd.no h)) ?_
      refine ws_p rfl rfl rfl rfl (p_eqT rfl rfl) ?_
      refine ws_p rfl rfl rfl rfl (p_mv rfl) ?_
      refine ws_know (d := 47) (b' := true) rfl ((by first | exact beq_self_eq_true _ | exact decide_eq_true rfl)) ?_
      refine ws_pg rfl (gd_ rfl rfl rfl rfl rfl rfl) rfl rfl (p_mv rfl) ?_
      refine ws_hg rfl (gd_ rfl rfl rfl rfl rfl rfl) rfl rfl (p_bts Tryd.underlying22 Tryd.underlying5 Tryd.underlying9 rfl (hW30.sl).len (fun _ h => (hW30.sl).rd.no h)) ?_
      refine ws_pg rfl (gd_ rfl rfl rfl rfl rfl rfl) rfl rfl (p_mv rfl) ?_
      refine ws_hg rfl (gd_ rfl rfl rfl rfl rfl rfl) rfl rfl (p_bts Tryd.underlying22 Tryd.underlying5 Tryd.underlying9 rfl (hW36.sl).len (fun _ h => (hW36.sl).rd.no h)) ?_
      refine ws_pg rfl (gd_ rfl rfl rfl rfl rfl rfl) rfl rfl (p_eqT rfl rfl) ?_
      refine ws_p rfl rfl rfl rfl (p_pickT rfl rfl) ?_
      refine ws_p rfl rfl rfl rfl (p_mv rfl) ?_
      refine ws_know (d := 54) (b' := true) rfl ((by first | exact beq_self_eq_true _ | exact decide_eq_true rfl)) ?_
      refine ws_pg rfl (gd_ rfl rfl rfl rfl rfl rfl) rfl rfl (p_mv rfl) ?_
      refine ws_pg rfl (gd_ rfl rfl rfl rfl rfl rfl) rfl rfl (p_mv rfl) ?_
      refine ws_pg rfl (gd_ rfl rfl rfl rfl rfl rfl) rfl rfl (p_eq rfl rfl) ?_
      refine ws_p rfl rfl rfl rfl (p_pickT rfl rfl) ?_
      refine ws_p rfl rfl rfl rfl (p_mv rfl) ?_
      refine ws_know (d := 59) (b' := true) rfl ((by first | exact beq_self_eq_true _ | exact decide_eq_true rfl)) ?_
      refine ws_pg rfl (gd_ rfl rfl rfl rfl rfl rfl) rfl rfl (p_mv rfl) ?_
      refine ws_pg rfl (gd_ rfl rfl rfl rfl rfl rfl) rfl rfl (p_mv rfl) ?_
      refine ws_pg rfl (gd_ rfl rfl rfl rfl rfl rfl) rfl rfl (p_eqB rfl rfl Tryd.underlying4) ?_
      refine ws_p rfl rfl rfl rfl (p_pickT rfl rfl) ?_
      refine ws_p rfl rfl rfl rfl (p_mv rfl) ?_
      refine ws_know (d := 64) (b' := true) rfl ((by first | exact beq_self_eq_true _ | exact decide_eq_true rfl)) ?_
      refine ws_eg rfl (gd_ rfl rfl rfl rfl rfl rfl) (e_call ent21 rfl rfl (lives2_any hnib) ?_)
      rintro _ w17 ⟨rfl, hc⟩
      refine ⟨_, rfl, hc, ?_⟩
      have hzw17 := hc.size
      have HC := HC.tr hc
      have hb := hb.no hc
      have hnib := hnib.no hc
      have hW30 := hW30.after hc
      have hW36 := hW36.after hc
      have hW41 := hW41.after hc
      have hW44 := hW44.after hc
      refine ws_narrow (S' := fun x => Ch No w17 x) (Ch.refl _ _) (fun x h => hc.tr h) ?_
      refine ws_p rfl rfl rfl rfl (p_pickT rfl rfl) ?_
      refine ws_p rfl rfl rfl rfl (p_as rfl) ?_
      refine ws_n ?_
      refine x_seq ?_
      refine wc_ret ?_
      refine fin_run (res1 rfl rfl) ?_
      exact ⟨rfl, HC⟩
end Go.Proofs.YtdbdconmcgcooaaDoor
