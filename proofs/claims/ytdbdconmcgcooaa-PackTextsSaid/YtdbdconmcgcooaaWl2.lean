/-
  Own text, printed by a program of mine (wip/gx): what functions of the program do, walked operation by operation.
-/
import Derived.Test.YtdbdconmcgcooaaProg
import Derived.Test.YtdbdconmcgcooaaGxAux
import Derived.Test.YtdbdconmcgcooaaTab
import Derived.Test.YtdbdconmcgcooaaPlPack
import Derived.Test.YtdbdconmcgcooaaPlPackB
import Derived.Test.YtdbdconmcgcooaaWp7
import Derived.Test.YtdbdconmcgcooaaWp8
import Derived.Test.YtdbdconmcgcooaaWp9
import Derived.Test.YtdbdconmcgcooaaWp6
import Derived.Test.YtdbdconmcgcooaaWp5
set_option linter.unusedVariables false
namespace Go.Proofs.Ytdbdconmcgcooaa
open Go.RowKit Go.Gx
open Go.Plain
set_option maxHeartbeats 1000000 in
set_option maxRecDepth 20000 in
theorem packTexts_walk {w : World} {Ab : Option Addr} {lb cb : Nat} {Fb : Nat → Prop} {b : List UInt8} {s : ByteArray} {most : Int} (hb : Sl w Fb u8v Ab lb cb b) (hs : s.size ≤ 140737488351232) (hl : lb ≤ 140737488351232) (hm1 : -9223372036854775808 ≤ most) (hm2 : most ≤ 9223372036854775807) :
    Calls Try.prog 6 #[.slice Ab lb cb, .string s, i64 most] w fun e w' => e = .returned (.bool true) ∧ Ch No w w' := by
  have hb := hb.old
  have HC : Ch No w w := Ch.refl _ _
  refine enter' (args := [.slice Ab lb cb, .string s, i64 most]) (n := 112) Try.func6 rfl rfl rfl ?_
  refine wc_seq ?_
  refine wc_region ?_
  refine wl rfl rfl rfl (p_as rfl) ?_
  refine wl_nil ?_
  refine x_seq ?_
  refine wc_seq ?_
  refine wc_seq ?_
  refine wc_region ?_
  refine wl rfl rfl rfl (p_mv rfl) ?_
  refine wl rfl rfl rfl (p_lenS Try.underlying27 rfl) ?_
  refine wl rfl rfl rfl (p_mv rfl) ?_
  refine wl rfl rfl rfl (p_lenT Try.underlying9 rfl) ?_
  refine wl rfl rfl rfl (p_add rfl rfl (w64 (by omega))) ?_
  refine wl rfl rfl rfl (p_gt rfl rfl) ?_
  refine wl rfl rfl rfl (p_mv rfl) ?_
  refine wl_split (d := 25) rfl (fun q25 => ?_) (fun q25 => ?_)
  ·
    have q25 := of_decide_eq_true q25
    refine wl_s (gd_ rfl rfl rfl rfl rfl rfl) rfl rfl ?_
    refine wl_s (gd_ rfl rfl rfl rfl rfl rfl) rfl rfl ?_
    refine wl_s (gd_ rfl rfl rfl rfl rfl rfl) rfl rfl ?_
    refine wl rfl rfl rfl (p_pickT rfl rfl) ?_
    refine wl_nil ?_
    refine x_seq ?_
    refine wc_yes rfl (rfl) ?_
    refine wc_seq ?_
    refine wc_region ?_
    refine wle rfl (e_call ent11 rfl rfl (lives_any) ?_)
    rintro _ w1 ⟨rfl, hc⟩
    refine ⟨_, rfl, ?_⟩
    have hzw1 := hc.size
    have HC := HC.tr hc
    have hb := hb.no hc
    refine wl rfl rfl rfl (p_as rfl) ?_
    refine wl_nil ?_
    refine x_seq ?_
    refine wc_ret ?_
    refine x_then_ret ?_
    refine fin_run (res1 rfl rfl) ?_
    exact ⟨rfl, HC⟩
  ·
    have q25 := of_decide_eq_false q25
    refine wl_g (gd_ rfl rfl rfl rfl rfl rfl) rfl rfl (p_mv rfl) ?_
    refine wl_g (gd_ rfl rfl rfl rfl rfl rfl) rfl rfl (p_lenS Try.underlying27 rfl) ?_
    refine wl_g (gd_ rfl rfl rfl rfl rfl rfl) rfl rfl (p_gt rfl rfl) ?_
    refine wl rfl rfl rfl (p_pickF rfl rfl) ?_
    refine wl_nil ?_
    refine x_seq ?_
    refine wc_if rfl (fun c0 => ?_) (fun c0 => ?_)
    ·
      have c0 := of_decide_eq_true c0
      refine wc_seq ?_
      refine wc_region ?_
      refine wle rfl (e_call ent11 rfl rfl (lives_any) ?_)
      rintro _ w2 ⟨rfl, hc⟩
      refine ⟨_, rfl, ?_⟩
      have hzw2 := hc.size
      have HC := HC.tr hc
      have hb := hb.no hc
      refine wl rfl rfl rfl (p_as rfl) ?_
      refine wl_nil ?_
      refine x_seq ?_
      refine wc_ret ?_
      refine x_then_ret ?_
      refine fin_run (res1 rfl rfl) ?_
      exact ⟨rfl, HC⟩
    ·
      have c0 := of_decide_eq_false c0
      refine wc_skip ?_
      refine x_seq ?_
      refine wc_seq ?_
      refine wc_region ?_
      refine wl rfl rfl rfl (p_mv rfl) ?_
      refine wl rfl rfl rfl (p_mv rfl) ?_
      refine wle rfl (e_call ent20 rfl rfl (getstr_any (hb) (by omega) (by omega) (by omega)) ?_)
      rintro _ w3 ⟨rfl, hc⟩
      refine ⟨_, rfl, ?_⟩
      have hzw3 := hc.size
      have HC := HC.tr hc
      have hb := hb.no hc
      refine wl rfl rfl rfl (p_mv rfl) ?_
      refine wl rfl rfl rfl (p_ext rfl rfl) ?_
      refine wl rfl rfl rfl (p_ext rfl rfl) ?_
      refine wl rfl rfl rfl (p_ext rfl rfl) ?_
      refine wl rfl rfl rfl (p_as rfl) ?_
      refine wl rfl rfl rfl (p_as rfl) ?_
      refine wl rfl rfl rfl (p_as rfl) ?_
      refine wl_nil ?_
      refine x_seq ?_
      refine wc_seq ?_
      refine wc_region ?_
      refine wl rfl rfl rfl (p_mv rfl) ?_
      refine wl rfl rfl rfl (p_mv rfl) ?_
      refine wle rfl (e_call ent21 rfl rfl (rgetstr_any (hb) (by omega) (by omega) (by omega)) ?_)
      rintro _ w4 ⟨rfl, hc⟩
      refine ⟨_, rfl, ?_⟩
      have hzw4 := hc.size
      have HC := HC.tr hc
      have hb := hb.no hc
      refine wl rfl rfl rfl (p_mv rfl) ?_
      refine wl rfl rfl rfl (p_ext rfl rfl) ?_
      refine wl rfl rfl rfl (p_ext rfl rfl) ?_
      refine wl rfl rfl rfl (p_ext rfl rfl) ?_
      refine wl rfl rfl rfl (p_as rfl) ?_
      refine wl rfl rfl rfl (p_as rfl) ?_
      refine wl rfl rfl rfl (p_as rfl) ?_
      refine wl_nil ?_
      refine x_seq ?_
      refine wc_seq ?_
      refine wc_region ?_
      refine wl rfl rfl rfl (p_mv rfl) ?_
      refine wle rfl (e_call ent22 rfl rfl (getflag_any (hb)) ?_)
      rintro _ w5 ⟨rfl, hc⟩
      refine ⟨_, rfl, ?_⟩
      have hzw5 := hc.size
      have HC := HC.tr hc
      have hb := hb.no hc
      refine wl rfl rfl rfl (p_mv rfl) ?_
      refine wl rfl rfl rfl (p_ext rfl rfl) ?_
      refine wl rfl rfl rfl (p_ext rfl rfl) ?_
      refine wl rfl rfl rfl (p_ext rfl rfl) ?_
      refine wl rfl rfl rfl (p_as rfl) ?_
      refine wl rfl rfl rfl (p_as rfl) ?_
      refine wl rfl rfl rfl (p_as rfl) ?_
      refine wl_nil ?_
      refine x_seq ?_
      refine wc_seq ?_
      refine wc_region ?_
      refine wl rfl rfl rfl (p_mv rfl) ?_
      refine wle rfl (e_call ent23 rfl rfl (rgetflag_any (hb)) ?_)
      rintro _ w6 ⟨rfl, hc⟩
      refine ⟨_, rfl, ?_⟩
      have hzw6 := hc.size
      have HC := HC.tr hc
      have hb := hb.no hc
      refine wl rfl rfl rfl (p_mv rfl) ?_
      refine wl rfl rfl rfl (p_ext rfl rfl) ?_
      refine wl rfl rfl rfl (p_ext rfl rfl) ?_
      refine wl rfl rfl rfl (p_ext rfl rfl) ?_
      refine wl rfl rfl rfl (p_as rfl) ?_
      refine wl rfl rfl rfl (p_as rfl) ?_
      refine wl rfl rfl rfl (p_as rfl) ?_
      refine wl_nil ?_
      refine x_seq ?_
      refine wc_seq ?_
      refine wc_draw [(0, 0), (1, 0), (4, 0), (5, 0), (2, 2), (3, 1), (6, 2), (7, 1), (8, 0), (9, 0), (10, 0), (11, 0), (12, 0), (13, 0), (14, 0), (15, 0), (16, 0), (17, 0), (18, 0), (19, 0), (20, 0), (21, 0), (22, 0), (23, 0), (24, 0), (25, 0), (26, 0), (27, 0), (28, 0), (29, 0), (30, 0), (31, 0), (32, 0), (33, 0), (34, 0), (35, 0), (36, 0), (37, 0), (38, 0), (39, 0), (40, 0), (41, 0), (42, 0), (45, 0), (46, 0), (47, 0), (43, 2), (44, 1), (48, 2), (49, 1), (50, 0), (51, 0), (52, 0), (53, 2), (54, 0), (55, 0)] 56 (by kernel_rfl) (by kernel_rfl) (by kernel_rfl) (by repeat (first | with_reducible exact pan_body | with_reducible apply pan_then | with_reducible apply pan_in)) (fun x => Ch No w6.drew x) (Ch.refl _ _) ?_
      obtain ⟨w7, ew7⟩ : ∃ x, x = w6.drew := ⟨_, rfl⟩
      rw [← ew7]
      have hc : Ch No w6 w7 := by rw [ew7]; exact Ch.drew _
      have hszw7 : w7.heap.size = w6.heap.size := by rw [ew7]; rfl
      clear ew7
      have hzw7 := hc.size
      have HC := HC.tr hc
      have hb := hb.no hc
      have hS : Ch No w7 w7 := Ch.refl _ _
      refine ws_p rfl rfl rfl rfl (p_mv rfl) ?_
      refine ws_p rfl rfl rfl rfl (p_mv rfl) ?_
      refine ws_p rfl rfl rfl rfl (p_mv rfl) ?_
      refine ws_p rfl rfl rfl rfl (p_mv rfl) ?_
      refine ws_e rfl rfl (e_call ent15 rfl rfl (str_any (hb) (by first | omega | decide)) ?_)
      rintro _ w8 ⟨A59, c59, rfl, hW59, hc⟩
      refine ⟨_, rfl, hc, ?_⟩
      have hzw8 := hc.size
      have HC := HC.tr hc
      have hb := hb.no hc
      refine ws_narrow (S' := fun x => Ch No w8 x) (Ch.refl _ _) (fun x h => hc.tr h) ?_
      refine ws_h rfl rfl rfl rfl (p_bts Try.underlying27 Try.underlying5 Try.underlying9 rfl (hW59.sl).len (fun _ h => (hW59.sl).rd.no h)) ?_
      refine ws_e rfl rfl (e_call ent24 rfl rfl (rstr_any (hb) (by omega)) ?_)
      rintro _ w9 ⟨A63, c63, rfl, hW63, hc⟩
      refine ⟨_, rfl, hc, ?_⟩
      have hzw9 := hc.size
      have HC := HC.tr hc
      have hb := hb.no hc
      have hW59 := hW59.after hc
      refine ws_narrow (S' := fun x => Ch No w9 x) (Ch.refl _ _) (fun x h => hc.tr h) ?_
      refine ws_h rfl rfl rfl rfl (p_bts Try.underlying27 Try.underlying5 Try.underlying9 rfl (hW63.sl).len (fun _ h => (hW63.sl).rd.no h)) ?_
      refine ws_p rfl rfl rfl rfl (p_eqT rfl rfl) ?_
      refine ws_p rfl rfl rfl rfl (p_mv rfl) ?_
      refine ws_know (d := 66) (b' := true) rfl ((by first | exact beq_self_eq_true _ | exact decide_eq_true rfl)) ?_
      refine ws_pg rfl (gd_ rfl rfl rfl rfl rfl rfl) rfl rfl (p_mv rfl) ?_
      refine ws_pg rfl (gd_ rfl rfl rfl rfl rfl rfl) rfl rfl (p_mv rfl) ?_
      refine ws_pg rfl (gd_ rfl rfl rfl rfl rfl rfl) rfl rfl (p_eqT rfl rfl) ?_
      refine ws_p rfl rfl rfl rfl (p_pickT rfl rfl) ?_
      refine ws_p rfl rfl rfl rfl (p_mv rfl) ?_
      refine ws_know (d := 71) (b' := true) rfl ((by first | exact beq_self_eq_true _ | exact decide_eq_true rfl)) ?_
      refine ws_pg rfl (gd_ rfl rfl rfl rfl rfl rfl) rfl rfl (p_mv rfl) ?_
      refine ws_pg rfl (gd_ rfl rfl rfl rfl rfl rfl) rfl rfl (p_mv rfl) ?_
      refine ws_pg rfl (gd_ rfl rfl rfl rfl rfl rfl) rfl rfl (p_eq rfl rfl) ?_
      refine ws_p rfl rfl rfl rfl (p_pickT rfl rfl) ?_
      refine ws_p rfl rfl rfl rfl (p_mv rfl) ?_
      refine ws_know (d := 76) (b' := true) rfl ((by first | exact beq_self_eq_true _ | exact decide_eq_true rfl)) ?_
      refine ws_pg rfl (gd_ rfl rfl rfl rfl rfl rfl) rfl rfl (p_mv rfl) ?_
      refine ws_pg rfl (gd_ rfl rfl rfl rfl rfl rfl) rfl rfl (p_mv rfl) ?_
      refine ws_pg rfl (gd_ rfl rfl rfl rfl rfl rfl) rfl rfl (p_eqB rfl rfl Try.underlying4) ?_
      refine ws_p rfl rfl rfl rfl (p_pickT rfl rfl) ?_
      refine ws_p rfl rfl rfl rfl (p_mv rfl) ?_
      refine ws_know (d := 81) (b' := true) rfl ((by first | exact beq_self_eq_true _ | exact decide_eq_true rfl)) ?_
      refine ws_pg rfl (gd_ rfl rfl rfl rfl rfl rfl) rfl rfl (p_mv rfl) ?_
      refine ws_pg rfl (gd_ rfl rfl rfl rfl rfl rfl) rfl rfl (p_mv rfl) ?_
      refine ws_pg rfl (gd_ rfl rfl rfl rfl rfl rfl) rfl rfl (p_eqB rfl rfl Try.underlying4) ?_
      refine ws_p rfl rfl rfl rfl (p_pickT rfl rfl) ?_
      refine ws_p rfl rfl rfl rfl (p_mv rfl) ?_
      refine ws_know (d := 86) (b' := true) rfl ((by first | exact beq_self_eq_true _ | exact decide_eq_true rfl)) ?_
      refine ws_pg rfl (gd_ rfl rfl rfl rfl rfl rfl) rfl rfl (p_mv rfl) ?_
      refine ws_pg rfl (gd_ rfl rfl rfl rfl rfl rfl) rfl rfl (p_mv rfl) ?_
      refine ws_pg rfl (gd_ rfl rfl rfl rfl rfl rfl) rfl rfl (p_eq rfl rfl) ?_
      refine ws_p rfl rfl rfl rfl (p_pickT rfl rfl) ?_
      refine ws_p rfl rfl rfl rfl (p_mv rfl) ?_
      refine ws_know (d := 91) (b' := true) rfl ((by first | exact beq_self_eq_true _ | exact decide_eq_true rfl)) ?_
      refine ws_pg rfl (gd_ rfl rfl rfl rfl rfl rfl) rfl rfl (p_mv rfl) ?_
      refine ws_pg rfl (gd_ rfl rfl rfl rfl rfl rfl) rfl rfl (p_mv rfl) ?_
      refine ws_pg rfl (gd_ rfl rfl rfl rfl rfl rfl) rfl rfl (p_eqB rfl rfl Try.underlying4) ?_
      refine ws_p rfl rfl rfl rfl (p_pickT rfl rfl) ?_
      refine ws_p rfl rfl rfl rfl (p_mv rfl) ?_
      refine ws_know (d := 96) (b' := true) rfl ((by first | exact beq_self_eq_true _ | exact decide_eq_true rfl)) ?_
      refine ws_pg rfl (gd_ rfl rfl rfl rfl rfl rfl) rfl rfl (p_mv rfl) ?_
      refine ws_pg rfl (gd_ rfl rfl rfl rfl rfl rfl) rfl rfl (p_mv rfl) ?_
      refine ws_pg rfl (gd_ rfl rfl rfl rfl rfl rfl) rfl rfl (p_gt rfl rfl) ?_
      refine ws_pg rfl (gd_ rfl rfl rfl rfl rfl rfl) rfl rfl (p_mv rfl) ?_
      refine ws_pg rfl (gd_ rfl rfl rfl rfl rfl rfl) rfl rfl (p_mv rfl) ?_
      refine ws_pg rfl (gd_ rfl rfl rfl rfl rfl rfl) rfl rfl (p_gt rfl rfl) ?_
      refine ws_eg rfl (gd_ rfl rfl rfl rfl rfl rfl) (e_call ent16 rfl rfl (flag_any (hb) (by omega)) ?_)
      rintro _ w10 ⟨A100, c100, rfl, hW100, hc⟩
      refine ⟨_, rfl, hc, ?_⟩
      have hzw10 := hc.size
      have HC := HC.tr hc
      have hb := hb.no hc
      have hW59 := hW59.after hc
      have hW63 := hW63.after hc
      refine ws_narrow (S' := fun x => Ch No w10 x) (Ch.refl _ _) (fun x h => hc.tr h) ?_
      refine ws_hg rfl (gd_ rfl rfl rfl rfl rfl rfl) rfl rfl (p_bts Try.underlying27 Try.underlying5 Try.underlying9 rfl (hW100.sl).len (fun _ h => (hW100.sl).rd.no h)) ?_
      refine ws_eg rfl (gd_ rfl rfl rfl rfl rfl rfl) (e_call ent25 rfl rfl (rflag_any (hb) (by omega)) ?_)
      rintro _ w11 ⟨A105, c105, rfl, hW105, hc⟩
      refine ⟨_, rfl, hc, ?_⟩
      have hzw11 := hc.size
      have HC := HC.tr hc
      have hb := hb.no hc
      have hW59 := hW59.after hc
      have hW63 := hW63.after hc
      have hW100 := hW100.after hc
      refine ws_narrow (S' := fun x => Ch No w11 x) (Ch.refl _ _) (fun x h => hc.tr h) ?_
      refine ws_hg rfl (gd_ rfl rfl rfl rfl rfl rfl) rfl rfl (p_bts Try.underlying27 Try.underlying5 Try.underlying9 rfl (hW105.sl).len (fun _ h => (hW105.sl).rd.no h)) ?_
      refine ws_pg rfl (gd_ rfl rfl rfl rfl rfl rfl) rfl rfl (p_eqT rfl rfl) ?_
      refine ws_p rfl rfl rfl rfl (p_pickT rfl rfl) ?_
      refine ws_p rfl rfl rfl rfl (p_mv rfl) ?_
      refine ws_know (d := 109) (b' := true) rfl ((by first | exact beq_self_eq_true _ | exact decide_eq_true rfl)) ?_
      refine ws_eg rfl (gd_ rfl rfl rfl rfl rfl rfl) (e_call ent11 rfl rfl (lives_any) ?_)
      rintro _ w12 ⟨rfl, hc⟩
      refine ⟨_, rfl, hc, ?_⟩
      have hzw12 := hc.size
      have HC := HC.tr hc
      have hb := hb.no hc
      have hW59 := hW59.after hc
      have hW63 := hW63.after hc
      have hW100 := hW100.after hc
      have hW105 := hW105.after hc
      refine ws_narrow (S' := fun x => Ch No w12 x) (Ch.refl _ _) (fun x h => hc.tr h) ?_
      refine ws_p rfl rfl rfl rfl (p_pickT rfl rfl) ?_
      refine ws_p rfl rfl rfl rfl (p_as rfl) ?_
      refine ws_n ?_
      refine x_seq ?_
      refine wc_ret ?_
      refine fin_run (res1 rfl rfl) ?_
      exact ⟨rfl, HC⟩
end Go.Proofs.Ytdbdconmcgcooaa
