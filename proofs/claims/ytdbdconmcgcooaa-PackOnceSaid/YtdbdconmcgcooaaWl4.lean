/-
  Own text, printed by a program of mine (wip/gx): what functions of the program do, walked operation by operation.
-/
import Derived.Test.YtdbdconmcgcooaaProg
import Derived.Test.YtdbdconmcgcooaaGxAux
import Derived.Test.YtdbdconmcgcooaaTab
import Derived.Test.YtdbdconmcgcooaaPlPack
import Derived.Test.YtdbdconmcgcooaaPlPackB
import Derived.Test.YtdbdconmcgcooaaWp7
import Derived.Test.YtdbdconmcgcooaaWp8
import Derived.Test.YtdbdconmcgcooaaWp9
import Derived.Test.YtdbdconmcgcooaaWp6
import Derived.Test.YtdbdconmcgcooaaWp5
set_option linter.unusedVariables false
namespace Go.Proofs.Ytdbdconmcgcooaa
open Go.RowKit Go.Gx
open Go.Plain
set_option maxHeartbeats 1000000 in
set_option maxRecDepth 20000 in
theorem packOnce_walk {w : World} {Ab : Option Addr} {lb cb : Nat} {Fb : Nat → Prop} {b : List UInt8} (hb : Sl w Fb u8v Ab lb cb b) :
    Calls Try.prog 9 #[.slice Ab lb cb] w fun e w' => e = .returned (.bool true) ∧ Ch No w w' := by
  have hbl := hb.len
  have hgk := gnk_le b
  have hgv := gnv_lt b
  have hsk := gsk_le b 3000
  have hss := gss_size b 3000
  have hll := @gl_sizes b 300 3000
  obtain ⟨hl1, hl2, hl3, hl4⟩ := hll
  have hb := hb.old
  have HC : Ch No w w := Ch.refl _ _
  refine enter' (args := [.slice Ab lb cb]) (n := 83) Try.func9 rfl rfl rfl ?_
  refine wc_seq ?_
  refine wc_region ?_
  refine wl rfl rfl rfl (p_as rfl) ?_
  refine wl_nil ?_
  refine x_seq ?_
  refine wc_seq ?_
  refine wc_seq ?_
  refine wc_region ?_
  refine wl rfl rfl rfl (p_mv rfl) ?_
  refine wl rfl rfl rfl (p_lenS Try.underlying27 rfl) ?_
  refine wl rfl rfl rfl (p_gt rfl rfl) ?_
  refine wl_nil ?_
  refine x_seq ?_
  refine wc_if rfl (fun c0 => ?_) (fun c0 => ?_)
  ·
    have c0 := of_decide_eq_true c0
    refine wc_seq ?_
    refine wc_region ?_
    refine wle rfl (e_call ent11 rfl rfl (lives_any) ?_)
    rintro _ w1 ⟨rfl, hc⟩
    refine ⟨_, rfl, ?_⟩
    have hzw1 := hc.size
    have HC := HC.tr hc
    have hb := hb.no hc
    refine wl rfl rfl rfl (p_as rfl) ?_
    refine wl_nil ?_
    refine x_seq ?_
    refine wc_ret ?_
    refine x_then_ret ?_
    refine fin_run (res1 rfl rfl) ?_
    exact ⟨rfl, HC⟩
  ·
    have c0 := of_decide_eq_false c0
    refine wc_skip ?_
    refine x_seq ?_
    refine wc_seq ?_
    refine wc_region ?_
    refine wl rfl rfl rfl (p_mv rfl) ?_
    refine wle rfl (e_call ent17 rfl rfl (getnum_any (hb) (by omega)) ?_)
    rintro _ w2 ⟨rfl, hc⟩
    refine ⟨_, rfl, ?_⟩
    have hzw2 := hc.size
    have HC := HC.tr hc
    have hb := hb.no hc
    refine wl rfl rfl rfl (p_mv rfl) ?_
    refine wl rfl rfl rfl (p_ext rfl rfl) ?_
    refine wl rfl rfl rfl (p_ext rfl rfl) ?_
    refine wl rfl rfl rfl (p_ext rfl rfl) ?_
    refine wl rfl rfl rfl (p_as rfl) ?_
    refine wl rfl rfl rfl (p_as rfl) ?_
    refine wl rfl rfl rfl (p_as rfl) ?_
    refine wl_nil ?_
    refine x_seq ?_
    refine wc_seq ?_
    refine wc_region ?_
    refine wl rfl rfl rfl (p_mv rfl) ?_
    refine wle rfl (e_call ent20 rfl rfl (getstr_any (hb) (by omega) (by omega) (by omega)) ?_)
    rintro _ w3 ⟨rfl, hc⟩
    refine ⟨_, rfl, ?_⟩
    have hzw3 := hc.size
    have HC := HC.tr hc
    have hb := hb.no hc
    refine wl rfl rfl rfl (p_mv rfl) ?_
    refine wl rfl rfl rfl (p_ext rfl rfl) ?_
    refine wl rfl rfl rfl (p_ext rfl rfl) ?_
    refine wl rfl rfl rfl (p_ext rfl rfl) ?_
    refine wl rfl rfl rfl (p_as rfl) ?_
    refine wl rfl rfl rfl (p_as rfl) ?_
    refine wl rfl rfl rfl (p_as rfl) ?_
    refine wl_nil ?_
    refine x_seq ?_
    refine wc_seq ?_
    refine wc_region ?_
    refine wl rfl rfl rfl (p_mv rfl) ?_
    refine wle rfl (e_call ent26 rfl rfl (getlist_any (hb) (by omega) (by omega) (by omega) (by omega) (by omega)) ?_)
    rintro _ w4 ⟨A30, c30, rfl, hL30, hc⟩
    refine ⟨_, rfl, ?_⟩
    have hzw4 := hc.size
    have HC := HC.tr hc
    have hb := hb.no hc
    refine wl rfl rfl rfl (p_mv rfl) ?_
    refine wl rfl rfl rfl (p_ext rfl rfl) ?_
    refine wl rfl rfl rfl (p_ext rfl rfl) ?_
    refine wl rfl rfl rfl (p_ext rfl rfl) ?_
    refine wl rfl rfl rfl (p_as rfl) ?_
    refine wl rfl rfl rfl (p_as rfl) ?_
    refine wl rfl rfl rfl (p_as rfl) ?_
    refine wl_nil ?_
    refine x_seq ?_
    refine wc_seq ?_
    refine wc_seq ?_
    refine wc_draw [(0, 0), (1, 0), (2, 0), (5, 0), (6, 0), (7, 0), (8, 1), (3, 2), (4, 1), (9, 0), (10, 0), (11, 0), (12, 0), (13, 0), (14, 0), (17, 0), (18, 0), (19, 0), (20, 1), (15, 2), (16, 1), (21, 0), (22, 0), (23, 0), (24, 0), (25, 0), (26, 0), (27, 0), (30, 0), (31, 0), (32, 0), (33, 1), (28, 2), (29, 1), (34, 0), (35, 0), (36, 0)] 37 (by kernel_rfl) (by kernel_rfl) (by kernel_rfl) (by repeat (first | with_reducible exact pan_body | with_reducible apply pan_then | with_reducible apply pan_in)) (fun x => Ch No w4.drew x) (Ch.refl _ _) ?_
    obtain ⟨w5, ew5⟩ : ∃ x, x = w4.drew := ⟨_, rfl⟩
    rw [← ew5]
    have hc : Ch No w4 w5 := by rw [ew5]; exact Ch.drew _
    have hszw5 : w5.heap.size = w4.heap.size := by rw [ew5]; rfl
    clear ew5
    have hzw5 := hc.size
    have HC := HC.tr hc
    have hb := hb.no hc
    have hL30 := hL30.no hc
    have hS : Ch No w5 w5 := Ch.refl _ _
    refine ws_p rfl rfl rfl rfl (p_mv rfl) ?_
    refine ws_p rfl rfl rfl rfl (p_mv rfl) ?_
    refine ws_split (d := 35) rfl (fun q35 => ?_) (fun q35 => ?_)
    ·
      refine ws_pg rfl (gd_ rfl rfl rfl rfl rfl rfl) rfl rfl (p_mv rfl) ?_
      refine ws_pg rfl (gd_ rfl rfl rfl rfl rfl rfl) rfl rfl (p_mv rfl) ?_
      refine ws_pg rfl (gd_ rfl rfl rfl rfl rfl rfl) rfl rfl (p_mv rfl) ?_
      have hS41 := hb.cut (lo := 0) (hi := gnk b) (q := gnk b) (by omega) (by omega) rfl
      refine ws_pg rfl (gd_ rfl rfl rfl rfl rfl rfl) rfl rfl (p_slS (l := 0) (h := gnk b) Try.underlying27 sz5 rfl rfl ⟨_, rfl⟩ (by omega) (by have := hb.cap; omega) hb.cap (q := gnk b) rfl) ?_
      refine ws_hg rfl (gd_ rfl rfl rfl rfl rfl rfl) rfl rfl (p_bts Try.underlying27 Try.underlying5 Try.underlying9 rfl (hS41).len (fun _ h => (hS41).rd.no h)) ?_
      refine ws_eg rfl (gd_ rfl rfl rfl rfl rfl rfl) (e_call ent12 rfl rfl (num_any (Sl.nil (F := No)) (by omega) (by omega)) ?_)
      rintro _ w6 ⟨A37, c37, rfl, hW37, hc⟩
      refine ⟨_, rfl, hc, ?_⟩
      have hzw6 := hc.size
      have HC := HC.tr hc
      have hb := hb.no hc
      have hL30 := hL30.no hc
      have hS41 := hS41.no hc
      refine ws_narrow (S' := fun x => Ch No w6 x) (Ch.refl _ _) (fun x h => hc.tr h) ?_
      refine ws_hg rfl (gd_ rfl rfl rfl rfl rfl rfl) rfl rfl (p_bts Try.underlying27 Try.underlying5 Try.underlying9 rfl (hW37.sl).len (fun _ h => (hW37.sl).rd.no h)) ?_
      refine ws_pg rfl (gd_ rfl rfl rfl rfl rfl rfl) rfl rfl (p_neT rfl rfl) ?_
      refine ws_p rfl rfl rfl rfl (p_pickT rfl rfl) ?_
      refine ws_p rfl rfl rfl rfl (p_mv rfl) ?_
      refine ws_know (d := 45) (b' := false) rfl ((by rw [List.nil_append, once_n q35, List.drop_zero, beq_self_eq_true]; rfl)) ?_
      refine ws_pg rfl (gd_ rfl rfl rfl rfl rfl rfl) rfl rfl (p_mv rfl) ?_
      refine ws_pg rfl (gd_ rfl rfl rfl rfl rfl rfl) rfl rfl (p_mv rfl) ?_
      refine ws_split (d := 47) rfl (fun q47 => ?_) (fun q47 => ?_)
      ·
        refine ws_pg rfl (gd_ rfl rfl rfl rfl rfl rfl) rfl rfl (p_mv rfl) ?_
        refine ws_pg rfl (gd_ rfl rfl rfl rfl rfl rfl) rfl rfl (p_mv rfl) ?_
        refine ws_pg rfl (gd_ rfl rfl rfl rfl rfl rfl) rfl rfl (p_mv rfl) ?_
        have hS53 := hb.cut (lo := 0) (hi := gsk b 3000) (q := gsk b 3000) (by omega) (by omega) rfl
        refine ws_pg rfl (gd_ rfl rfl rfl rfl rfl rfl) rfl rfl (p_slS (l := 0) (h := gsk b 3000) Try.underlying27 sz5 rfl rfl ⟨_, rfl⟩ (by omega) (by have := hb.cap; omega) hb.cap (q := gsk b 3000) rfl) ?_
        refine ws_hg rfl (gd_ rfl rfl rfl rfl rfl rfl) rfl rfl (p_bts Try.underlying27 Try.underlying5 Try.underlying9 rfl (hS53).len (fun _ h => (hS53).rd.no h)) ?_
        refine ws_eg rfl (gd_ rfl rfl rfl rfl rfl rfl) (e_call ent15 rfl rfl (str_any (Sl.nil (F := No)) (by first | omega | decide)) ?_)
        rintro _ w7 ⟨A49, c49, rfl, hW49, hc⟩
        refine ⟨_, rfl, hc, ?_⟩
        have hzw7 := hc.size
        have HC := HC.tr hc
        have hb := hb.no hc
        have hL30 := hL30.no hc
        have hS41 := hS41.no hc
        have hW37 := hW37.after hc
        have hS53 := hS53.no hc
        refine ws_narrow (S' := fun x => Ch No w7 x) (Ch.refl _ _) (fun x h => hc.tr h) ?_
        refine ws_hg rfl (gd_ rfl rfl rfl rfl rfl rfl) rfl rfl (p_bts Try.underlying27 Try.underlying5 Try.underlying9 rfl (hW49.sl).len (fun _ h => (hW49.sl).rd.no h)) ?_
        refine ws_pg rfl (gd_ rfl rfl rfl rfl rfl rfl) rfl rfl (p_neT rfl rfl) ?_
        refine ws_pg rfl (gd_ rfl rfl rfl rfl rfl rfl) rfl rfl (p_pickT rfl rfl) ?_
        refine ws_p rfl rfl rfl rfl (p_pickF rfl rfl) ?_
        refine ws_p rfl rfl rfl rfl (p_mv rfl) ?_
        refine ws_know (d := 58) (b' := false) rfl ((by rw [List.nil_append, once_s q47, List.drop_zero, beq_self_eq_true]; rfl)) ?_
        refine ws_pg rfl (gd_ rfl rfl rfl rfl rfl rfl) rfl rfl (p_mv rfl) ?_
        refine ws_pg rfl (gd_ rfl rfl rfl rfl rfl rfl) rfl rfl (p_mv rfl) ?_
        refine ws_split (d := 60) rfl (fun q60 => ?_) (fun q60 => ?_)
        ·
          refine ws_pg rfl (gd_ rfl rfl rfl rfl rfl rfl) rfl rfl (p_mv rfl) ?_
          refine ws_pg rfl (gd_ rfl rfl rfl rfl rfl rfl) rfl rfl (p_mv rfl) ?_
          refine ws_pg rfl (gd_ rfl rfl rfl rfl rfl rfl) rfl rfl (p_mv rfl) ?_
          have hS66 := hb.cut (lo := 0) (hi := glK b 300 3000) (q := glK b 300 3000) (by omega) (by omega) rfl
          refine ws_pg rfl (gd_ rfl rfl rfl rfl rfl rfl) rfl rfl (p_slS (l := 0) (h := glK b 300 3000) Try.underlying27 sz5 rfl rfl ⟨_, rfl⟩ (by omega) (by have := hb.cap; omega) hb.cap (q := glK b 300 3000) rfl) ?_
          refine ws_hg rfl (gd_ rfl rfl rfl rfl rfl rfl) rfl rfl (p_bts Try.underlying27 Try.underlying5 Try.underlying9 rfl (hS66).len (fun _ h => (hS66).rd.no h)) ?_
          refine ws_eg rfl (gd_ rfl rfl rfl rfl rfl rfl) (e_call ent13 rfl rfl (list_any (Sl.nil (F := No)) (hL30) (by omega)) ?_)
          rintro _ w8 ⟨A62, c62, rfl, hW62, hc⟩
          refine ⟨_, rfl, hc, ?_⟩
          have hzw8 := hc.size
          have HC := HC.tr hc
          have hb := hb.no hc
          have hL30 := hL30.no hc
          have hS41 := hS41.no hc
          have hW37 := hW37.after hc
          have hS53 := hS53.no hc
          have hW49 := hW49.after hc
          have hS66 := hS66.no hc
          refine ws_narrow (S' := fun x => Ch No w8 x) (Ch.refl _ _) (fun x h => hc.tr h) ?_
          refine ws_hg rfl (gd_ rfl rfl rfl rfl rfl rfl) rfl rfl (p_bts Try.underlying27 Try.underlying5 Try.underlying9 rfl (hW62.sl).len (fun _ h => (hW62.sl).rd.no h)) ?_
          refine ws_pg rfl (gd_ rfl rfl rfl rfl rfl rfl) rfl rfl (p_neT rfl rfl) ?_
          refine ws_pg rfl (gd_ rfl rfl rfl rfl rfl rfl) rfl rfl (p_pickT rfl rfl) ?_
          refine ws_p rfl rfl rfl rfl (p_pickF rfl rfl) ?_
          refine ws_n ?_
          refine x_seq ?_
          refine wc_no rfl ((by rw [List.nil_append, once_l q60, List.drop_zero, beq_self_eq_true]; rfl)) ?_
          refine wc_skip ?_
          refine x_seq ?_
          refine wc_seq ?_
          refine wc_region ?_
          refine wl rfl rfl rfl (p_mv rfl) ?_
          refine wl rfl rfl rfl (p_mv rfl) ?_
          refine wl_split (d := 72) rfl (fun q72 => ?_) (fun q72 => ?_)
          ·
            refine wl_s (gd_ rfl rfl rfl rfl rfl rfl) rfl rfl ?_
            refine wl_s (gd_ rfl rfl rfl rfl rfl rfl) rfl rfl ?_
            refine wl_s (gd_ rfl rfl rfl rfl rfl rfl) rfl rfl ?_
            refine wl_s (gd_ rfl rfl rfl rfl rfl rfl) rfl rfl ?_
            refine wl_s (gd_ rfl rfl rfl rfl rfl rfl) rfl rfl ?_
            refine wl_s (gd_ rfl rfl rfl rfl rfl rfl) rfl rfl ?_
            refine wl rfl rfl rfl (p_pickT rfl rfl) ?_
            refine wl rfl rfl rfl (p_mv rfl) ?_
            refine wle_g (gd_ rfl rfl rfl rfl rfl rfl) (e_call ent11 rfl rfl (lives_any) ?_)
            rintro _ w9 ⟨rfl, hc⟩
            refine ⟨_, rfl, ?_⟩
            have hzw9 := hc.size
            have HC := HC.tr hc
            have hb := hb.no hc
            have hL30 := hL30.no hc
            have hS41 := hS41.no hc
            have hW37 := hW37.after hc
            have hS53 := hS53.no hc
            have hW49 := hW49.after hc
            have hS66 := hS66.no hc
            have hW62 := hW62.after hc
            refine wl rfl rfl rfl (p_pickT rfl rfl) ?_
            refine wl rfl rfl rfl (p_as rfl) ?_
            refine wl_nil ?_
            refine x_seq ?_
            refine wc_ret ?_
            refine fin_run (res1 rfl rfl) ?_
            exact ⟨rfl, HC⟩
          ·
            refine wl_g (gd_ rfl rfl rfl rfl rfl rfl) rfl rfl (p_mv rfl) ?_
            refine wl_g (gd_ rfl rfl rfl rfl rfl rfl) rfl rfl (p_not rfl) ?_
            refine wl_g (gd_ rfl rfl rfl rfl rfl rfl) rfl rfl (p_mv rfl) ?_
            refine wl_know (d := 75) (b' := true) rfl (by rw [no_s q72]; rfl) ?_
            refine wl_g (gd_ rfl rfl rfl rfl rfl rfl) rfl rfl (p_mv rfl) ?_
            refine wl_g (gd_ rfl rfl rfl rfl rfl rfl) rfl rfl (p_not rfl) ?_
            refine wl_g (gd_ rfl rfl rfl rfl rfl rfl) rfl rfl (p_pickT rfl rfl) ?_
            refine wl rfl rfl rfl (p_pickF rfl rfl) ?_
            refine wl rfl rfl rfl (p_mv rfl) ?_
            refine wl_know (d := 80) (b' := true) rfl (by rw [no_l q72]; rfl) ?_
            refine wle_g (gd_ rfl rfl rfl rfl rfl rfl) (e_call ent11 rfl rfl (lives_any) ?_)
            rintro _ w10 ⟨rfl, hc⟩
            refine ⟨_, rfl, ?_⟩
            have hzw10 := hc.size
            have HC := HC.tr hc
            have hb := hb.no hc
            have hL30 := hL30.no hc
            have hS41 := hS41.no hc
            have hW37 := hW37.after hc
            have hS53 := hS53.no hc
            have hW49 := hW49.after hc
            have hS66 := hS66.no hc
            have hW62 := hW62.after hc
            refine wl rfl rfl rfl (p_pickT rfl rfl) ?_
            refine wl rfl rfl rfl (p_as rfl) ?_
            refine wl_nil ?_
            refine x_seq ?_
            refine wc_ret ?_
            refine fin_run (res1 rfl rfl) ?_
            exact ⟨rfl, HC⟩
        ·
          refine ws_s rfl (gd_ rfl rfl rfl rfl rfl rfl) rfl rfl ?_
          refine ws_s rfl (gd_ rfl rfl rfl rfl rfl rfl) rfl rfl ?_
          refine ws_s rfl (gd_ rfl rfl rfl rfl rfl rfl) rfl rfl ?_
          refine ws_s rfl (gd_ rfl rfl rfl rfl rfl rfl) rfl rfl ?_
          refine ws_s rfl (gd_ rfl rfl rfl rfl rfl rfl) rfl rfl ?_
          refine ws_s rfl (gd_ rfl rfl rfl rfl rfl rfl) rfl rfl ?_
          refine ws_s rfl (gd_ rfl rfl rfl rfl rfl rfl) rfl rfl ?_
          refine ws_s rfl (gd_ rfl rfl rfl rfl rfl rfl) rfl rfl ?_
          refine ws_pg rfl (gd_ rfl rfl rfl rfl rfl rfl) rfl rfl (p_pickF rfl rfl) ?_
          refine ws_p rfl rfl rfl rfl (p_pickF rfl rfl) ?_
          refine ws_n ?_
          refine x_seq ?_
          refine wc_no rfl (rfl) ?_
          refine wc_skip ?_
          refine x_seq ?_
          refine wc_seq ?_
          refine wc_region ?_
          refine wl rfl rfl rfl (p_mv rfl) ?_
          refine wl rfl rfl rfl (p_mv rfl) ?_
          refine wl_split (d := 72) rfl (fun q72 => ?_) (fun q72 => ?_)
          ·
            refine wl_s (gd_ rfl rfl rfl rfl rfl rfl) rfl rfl ?_
            refine wl_s (gd_ rfl rfl rfl rfl rfl rfl) rfl rfl ?_
            refine wl_s (gd_ rfl rfl rfl rfl rfl rfl) rfl rfl ?_
            refine wl_s (gd_ rfl rfl rfl rfl rfl rfl) rfl rfl ?_
            refine wl_s (gd_ rfl rfl rfl rfl rfl rfl) rfl rfl ?_
            refine wl_s (gd_ rfl rfl rfl rfl rfl rfl) rfl rfl ?_
            refine wl rfl rfl rfl (p_pickT rfl rfl) ?_
            refine wl rfl rfl rfl (p_mv rfl) ?_
            refine wle_g (gd_ rfl rfl rfl rfl rfl rfl) (e_call ent11 rfl rfl (lives_any) ?_)
            rintro _ w11 ⟨rfl, hc⟩
            refine ⟨_, rfl, ?_⟩
            have hzw11 := hc.size
            have HC := HC.tr hc
            have hb := hb.no hc
            have hL30 := hL30.no hc
            have hS41 := hS41.no hc
            have hW37 := hW37.after hc
            have hS53 := hS53.no hc
            have hW49 := hW49.after hc
            refine wl rfl rfl rfl (p_pickT rfl rfl) ?_
            refine wl rfl rfl rfl (p_as rfl) ?_
            refine wl_nil ?_
            refine x_seq ?_
            refine wc_ret ?_
            refine fin_run (res1 rfl rfl) ?_
            exact ⟨rfl, HC⟩
          ·
            refine wl_g (gd_ rfl rfl rfl rfl rfl rfl) rfl rfl (p_mv rfl) ?_
            refine wl_g (gd_ rfl rfl rfl rfl rfl rfl) rfl rfl (p_not rfl) ?_
            refine wl_g (gd_ rfl rfl rfl rfl rfl rfl) rfl rfl (p_mv rfl) ?_
            refine wl_know (d := 75) (b' := true) rfl (by rw [no_s q72]; rfl) ?_
            refine wl_g (gd_ rfl rfl rfl rfl rfl rfl) rfl rfl (p_mv rfl) ?_
            refine wl_g (gd_ rfl rfl rfl rfl rfl rfl) rfl rfl (p_not rfl) ?_
            refine wl_g (gd_ rfl rfl rfl rfl rfl rfl) rfl rfl (p_pickT rfl rfl) ?_
            refine wl rfl rfl rfl (p_pickF rfl rfl) ?_
            refine wl rfl rfl rfl (p_mv rfl) ?_
            refine wl_know (d := 80) (b' := true) rfl (by rw [no_l q72]; rfl) ?_
            refine wle_g (gd_ rfl rfl rfl rfl rfl rfl) (e_call ent11 rfl rfl (lives_any) ?_)
            rintro _ w12 ⟨rfl, hc⟩
            refine ⟨_, rfl, ?_⟩
            have hzw12 := hc.size
            have HC := HC.tr hc
            have hb := hb.no hc
            have hL30 := hL30.no hc
            have hS41 := hS41.no hc
            have hW37 := hW37.after hc
            have hS53 := hS53.no hc
            have hW49 := hW49.after hc
            refine wl rfl rfl rfl (p_pickT rfl rfl) ?_
            refine wl rfl rfl rfl (p_as rfl) ?_
            refine wl_nil ?_
            refine x_seq ?_
            refine wc_ret ?_
            refine fin_run (res1 rfl rfl) ?_
            exact ⟨rfl, HC⟩
      ·
        refine ws_s rfl (gd_ rfl rfl rfl rfl rfl rfl) rfl rfl ?_
        refine ws_s rfl (gd_ rfl rfl rfl rfl rfl rfl) rfl rfl ?_
        refine ws_s rfl (gd_ rfl rfl rfl rfl rfl rfl) rfl rfl ?_
        refine ws_s rfl (gd_ rfl rfl rfl rfl rfl rfl) rfl rfl ?_
        refine ws_s rfl (gd_ rfl rfl rfl rfl rfl rfl) rfl rfl ?_
        refine ws_s rfl (gd_ rfl rfl rfl rfl rfl rfl) rfl rfl ?_
        refine ws_s rfl (gd_ rfl rfl rfl rfl rfl rfl) rfl rfl ?_
        refine ws_s rfl (gd_ rfl rfl rfl rfl rfl rfl) rfl rfl ?_
        refine ws_pg rfl (gd_ rfl rfl rfl rfl rfl rfl) rfl rfl (p_pickF rfl rfl) ?_
        refine ws_p rfl rfl rfl rfl (p_pickF rfl rfl) ?_
        refine ws_p rfl rfl rfl rfl (p_mv rfl) ?_
        refine ws_pg rfl (gd_ rfl rfl rfl rfl rfl rfl) rfl rfl (p_mv rfl) ?_
        refine ws_pg rfl (gd_ rfl rfl rfl rfl rfl rfl) rfl rfl (p_mv rfl) ?_
        refine ws_split (d := 60) rfl (fun q60 => ?_) (fun q60 => ?_)
        ·
          refine ws_pg rfl (gd_ rfl rfl rfl rfl rfl rfl) rfl rfl (p_mv rfl) ?_
          refine ws_pg rfl (gd_ rfl rfl rfl rfl rfl rfl) rfl rfl (p_mv rfl) ?_
          refine ws_pg rfl (gd_ rfl rfl rfl rfl rfl rfl) rfl rfl (p_mv rfl) ?_
          have hS66 := hb.cut (lo := 0) (hi := glK b 300 3000) (q := glK b 300 3000) (by omega) (by omega) rfl
          refine ws_pg rfl (gd_ rfl rfl rfl rfl rfl rfl) rfl rfl (p_slS (l := 0) (h := glK b 300 3000) Try.underlying27 sz5 rfl rfl ⟨_, rfl⟩ (by omega) (by have := hb.cap; omega) hb.cap (q := glK b 300 3000) rfl) ?_
          refine ws_hg rfl (gd_ rfl rfl rfl rfl rfl rfl) rfl rfl (p_bts Try.underlying27 Try.underlying5 Try.underlying9 rfl (hS66).len (fun _ h => (hS66).rd.no h)) ?_
          refine ws_eg rfl (gd_ rfl rfl rfl rfl rfl rfl) (e_call ent13 rfl rfl (list_any (Sl.nil (F := No)) (hL30) (by omega)) ?_)
          rintro _ w13 ⟨A62, c62, rfl, hW62, hc⟩
          refine ⟨_, rfl, hc, ?_⟩
          have hzw13 := hc.size
          have HC := HC.tr hc
          have hb := hb.no hc
          have hL30 := hL30.no hc
          have hS41 := hS41.no hc
          have hW37 := hW37.after hc
          have hS66 := hS66.no hc
          refine ws_narrow (S' := fun x => Ch No w13 x) (Ch.refl _ _) (fun x h => hc.tr h) ?_
          refine ws_hg rfl (gd_ rfl rfl rfl rfl rfl rfl) rfl rfl (p_bts Try.underlying27 Try.underlying5 Try.underlying9 rfl (hW62.sl).len (fun _ h => (hW62.sl).rd.no h)) ?_
          refine ws_pg rfl (gd_ rfl rfl rfl rfl rfl rfl) rfl rfl (p_neT rfl rfl) ?_
          refine ws_pg rfl (gd_ rfl rfl rfl rfl rfl rfl) rfl rfl (p_pickT rfl rfl) ?_
          refine ws_p rfl rfl rfl rfl (p_pickF rfl rfl) ?_
          refine ws_n ?_
          refine x_seq ?_
          refine wc_no rfl ((by rw [List.nil_append, once_l q60, List.drop_zero, beq_self_eq_true]; rfl)) ?_
          refine wc_skip ?_
          refine x_seq ?_
          refine wc_seq ?_
          refine wc_region ?_
          refine wl rfl rfl rfl (p_mv rfl) ?_
          refine wl rfl rfl rfl (p_mv rfl) ?_
          refine wl_split (d := 72) rfl (fun q72 => ?_) (fun q72 => ?_)
          ·
            refine wl_s (gd_ rfl rfl rfl rfl rfl rfl) rfl rfl ?_
            refine wl_s (gd_ rfl rfl rfl rfl rfl rfl) rfl rfl ?_
            refine wl_s (gd_ rfl rfl rfl rfl rfl rfl) rfl rfl ?_
            refine wl_s (gd_ rfl rfl rfl rfl rfl rfl) rfl rfl ?_
            refine wl_s (gd_ rfl rfl rfl rfl rfl rfl) rfl rfl ?_
            refine wl_s (gd_ rfl rfl rfl rfl rfl rfl) rfl rfl ?_
            refine wl rfl rfl rfl (p_pickT rfl rfl) ?_
            refine wl rfl rfl rfl (p_mv rfl) ?_
            refine wle_g (gd_ rfl rfl rfl rfl rfl rfl) (e_call ent11 rfl rfl (lives_any) ?_)
            rintro _ w14 ⟨rfl, hc⟩
            refine ⟨_, rfl, ?_⟩
            have hzw14 := hc.size
            have HC := HC.tr hc
            have hb := hb.no hc
            have hL30 := hL30.no hc
            have hS41 := hS41.no hc
            have hW37 := hW37.after hc
            have hS66 := hS66.no hc
            have hW62 := hW62.after hc
            refine wl rfl rfl rfl (p_pickT rfl rfl) ?_
            refine wl rfl rfl rfl (p_as rfl) ?_
            refine wl_nil ?_
            refine x_seq ?_
            refine wc_ret ?_
            refine fin_run (res1 rfl rfl) ?_
            exact ⟨rfl, HC⟩
          ·
            refine wl_g (gd_ rfl rfl rfl rfl rfl rfl) rfl rfl (p_mv rfl) ?_
            refine wl_g (gd_ rfl rfl rfl rfl rfl rfl) rfl rfl (p_not rfl) ?_
            refine wl_g (gd_ rfl rfl rfl rfl rfl rfl) rfl rfl (p_mv rfl) ?_
            refine wl_know (d := 75) (b' := true) rfl (by rw [no_s q72]; rfl) ?_
            refine wl_g (gd_ rfl rfl rfl rfl rfl rfl) rfl rfl (p_mv rfl) ?_
            refine wl_g (gd_ rfl rfl rfl rfl rfl rfl) rfl rfl (p_not rfl) ?_
            refine wl_g (gd_ rfl rfl rfl rfl rfl rfl) rfl rfl (p_pickT rfl rfl) ?_
            refine wl rfl rfl rfl (p_pickF rfl rfl) ?_
            refine wl rfl rfl rfl (p_mv rfl) ?_
            refine wl_know (d := 80) (b' := true) rfl (by rw [no_l q72]; rfl) ?_
            refine wle_g (gd_ rfl rfl rfl rfl rfl rfl) (e_call ent11 rfl rfl (lives_any) ?_)
            rintro _ w15 ⟨rfl, hc⟩
            refine ⟨_, rfl, ?_⟩
            have hzw15 := hc.size
            have HC := HC.tr hc
            have hb := hb.no hc
            have hL30 := hL30.no hc
            have hS41 := hS41.no hc
            have hW37 := hW37.after hc
            have hS66 := hS66.no hc
            have hW62 := hW62.after hc
            refine wl rfl rfl rfl (p_pickT rfl rfl) ?_
            refine wl rfl rfl rfl (p_as rfl) ?_
            refine wl_nil ?_
            refine x_seq ?_
            refine wc_ret ?_
            refine fin_run (res1 rfl rfl) ?_
            exact ⟨rfl, HC⟩
        ·
          refine ws_s rfl (gd_ rfl rfl rfl rfl rfl rfl) rfl rfl ?_
          refine ws_s rfl (gd_ rfl rfl rfl rfl rfl rfl) rfl rfl ?_
          refine ws_s rfl (gd_ rfl rfl rfl rfl rfl rfl) rfl rfl ?_
          refine ws_s rfl (gd_ rfl rfl rfl rfl rfl rfl) rfl rfl ?_
          refine ws_s rfl (gd_ rfl rfl rfl rfl rfl rfl) rfl rfl ?_
          refine ws_s rfl (gd_ rfl rfl rfl rfl rfl rfl) rfl rfl ?_
          refine ws_s rfl (gd_ rfl rfl rfl rfl rfl rfl) rfl rfl ?_
          refine ws_s rfl (gd_ rfl rfl rfl rfl rfl rfl) rfl rfl ?_
          refine ws_pg rfl (gd_ rfl rfl rfl rfl rfl rfl) rfl rfl (p_pickF rfl rfl) ?_
          refine ws_p rfl rfl rfl rfl (p_pickF rfl rfl) ?_
          refine ws_n ?_
          refine x_seq ?_
          refine wc_no rfl (rfl) ?_
          refine wc_skip ?_
          refine x_seq ?_
          refine wc_seq ?_
          refine wc_region ?_
          refine wl rfl rfl rfl (p_mv rfl) ?_
          refine wl rfl rfl rfl (p_mv rfl) ?_
          refine wl_split (d := 72) rfl (fun q72 => ?_) (fun q72 => ?_)
          ·
            refine wl_s (gd_ rfl rfl rfl rfl rfl rfl) rfl rfl ?_
            refine wl_s (gd_ rfl rfl rfl rfl rfl rfl) rfl rfl ?_
            refine wl_s (gd_ rfl rfl rfl rfl rfl rfl) rfl rfl ?_
            refine wl_s (gd_ rfl rfl rfl rfl rfl rfl) rfl rfl ?_
            refine wl_s (gd_ rfl rfl rfl rfl rfl rfl) rfl rfl ?_
            refine wl_s (gd_ rfl rfl rfl rfl rfl rfl) rfl rfl ?_
            refine wl rfl rfl rfl (p_pickT rfl rfl) ?_
            refine wl rfl rfl rfl (p_mv rfl) ?_
            refine wle_g (gd_ rfl rfl rfl rfl rfl rfl) (e_call ent11 rfl rfl (lives_any) ?_)
            rintro _ w16 ⟨rfl, hc⟩
            refine ⟨_, rfl, ?_⟩
            have hzw16 := hc.size
            have HC := HC.tr hc
            have hb := hb.no hc
            have hL30 := hL30.no hc
            have hS41 := hS41.no hc
            have hW37 := hW37.after hc
            refine wl rfl rfl rfl (p_pickT rfl rfl) ?_
            refine wl rfl rfl rfl (p_as rfl) ?_
            refine wl_nil ?_
            refine x_seq ?_
            refine wc_ret ?_
            refine fin_run (res1 rfl rfl) ?_
            exact ⟨rfl, HC⟩
          ·
            refine wl_g (gd_ rfl rfl rfl rfl rfl rfl) rfl rfl (p_mv rfl) ?_
            refine wl_g (gd_ rfl rfl rfl rfl rfl rfl) rfl rfl (p_not rfl) ?_
            refine wl_g (gd_ rfl rfl rfl rfl rfl rfl) rfl rfl (p_mv rfl) ?_
            refine wl_know (d := 75) (b' := true) rfl (by rw [no_s q72]; rfl) ?_
            refine wl_g (gd_ rfl rfl rfl rfl rfl rfl) rfl rfl (p_mv rfl) ?_
            refine wl_g (gd_ rfl rfl rfl rfl rfl rfl) rfl rfl (p_not rfl) ?_
            refine wl_g (gd_ rfl rfl rfl rfl rfl rfl) rfl rfl (p_pickT rfl rfl) ?_
            refine wl rfl rfl rfl (p_pickF rfl rfl) ?_
            refine wl rfl rfl rfl (p_mv rfl) ?_
            refine wl_know (d := 80) (b' := true) rfl (by rw [no_l q72]; rfl) ?_
            refine wle_g (gd_ rfl rfl rfl rfl rfl rfl) (e_call ent11 rfl rfl (lives_any) ?_)
            rintro _ w17 ⟨rfl, hc⟩
            refine ⟨_, rfl, ?_⟩
            have hzw17 := hc.size
            have HC := HC.tr hc
            have hb := hb.no hc
            have hL30 := hL30.no hc
            have hS41 := hS41.no hc
            have hW37 := hW37.after hc
            refine wl rfl rfl rfl (p_pickT rfl rfl) ?_
            refine wl rfl rfl rfl (p_as rfl) ?_
            refine wl_nil ?_
            refine x_seq ?_
            refine wc_ret ?_
            refine fin_run (res1 rfl rfl) ?_
            exact ⟨rfl, HC⟩
    ·
      refine ws_s rfl (gd_ rfl rfl rfl rfl rfl rfl) rfl rfl ?_
      refine ws_s rfl (gd_ rfl rfl rfl rfl rfl rfl) rfl rfl ?_
      refine ws_s rfl (gd_ rfl rfl rfl rfl rfl rfl) rfl rfl ?_
      refine ws_s rfl (gd_ rfl rfl rfl rfl rfl rfl) rfl rfl ?_
      refine ws_s rfl (gd_ rfl rfl rfl rfl rfl rfl) rfl rfl ?_
      refine ws_s rfl (gd_ rfl rfl rfl rfl rfl rfl) rfl rfl ?_
      refine ws_s rfl (gd_ rfl rfl rfl rfl rfl rfl) rfl rfl ?_
      refine ws_s rfl (gd_ rfl rfl rfl rfl rfl rfl) rfl rfl ?_
      refine ws_p rfl rfl rfl rfl (p_pickF rfl rfl) ?_
      refine ws_p rfl rfl rfl rfl (p_mv rfl) ?_
      refine ws_pg rfl (gd_ rfl rfl rfl rfl rfl rfl) rfl rfl (p_mv rfl) ?_
      refine ws_pg rfl (gd_ rfl rfl rfl rfl rfl rfl) rfl rfl (p_mv rfl) ?_
      refine ws_split (d := 47) rfl (fun q47 => ?_) (fun q47 => ?_)
      ·
        refine ws_pg rfl (gd_ rfl rfl rfl rfl rfl rfl) rfl rfl (p_mv rfl) ?_
        refine ws_pg rfl (gd_ rfl rfl rfl rfl rfl rfl) rfl rfl (p_mv rfl) ?_
        refine ws_pg rfl (gd_ rfl rfl rfl rfl rfl rfl) rfl rfl (p_mv rfl) ?_
        have hS53 := hb.cut (lo := 0) (hi := gsk b 3000) (q := gsk b 3000) (by omega) (by omega) rfl
        refine ws_pg rfl (gd_ rfl rfl rfl rfl rfl rfl) rfl rfl (p_slS (l := 0) (h := gsk b 3000) Try.underlying27 sz5 rfl rfl ⟨_, rfl⟩ (by omega) (by have := hb.cap; omega) hb.cap (q := gsk b 3000) rfl) ?_
        refine ws_hg rfl (gd_ rfl rfl rfl rfl rfl rfl) rfl rfl (p_bts Try.underlying27 Try.underlying5 Try.underlying9 rfl (hS53).len (fun _ h => (hS53).rd.no h)) ?_
        refine ws_eg rfl (gd_ rfl rfl rfl rfl rfl rfl) (e_call ent15 rfl rfl (str_any (Sl.nil (F := No)) (by first | omega | decide)) ?_)
        rintro _ w18 ⟨A49, c49, rfl, hW49, hc⟩
        refine ⟨_, rfl, hc, ?_⟩
        have hzw18 := hc.size
        have HC := HC.tr hc
        have hb := hb.no hc
        have hL30 := hL30.no hc
        have hS53 := hS53.no hc
        refine ws_narrow (S' := fun x => Ch No w18 x) (Ch.refl _ _) (fun x h => hc.tr h) ?_
        refine ws_hg rfl (gd_ rfl rfl rfl rfl rfl rfl) rfl rfl (p_bts Try.underlying27 Try.underlying5 Try.underlying9 rfl (hW49.sl).len (fun _ h => (hW49.sl).rd.no h)) ?_
        refine ws_pg rfl (gd_ rfl rfl rfl rfl rfl rfl) rfl rfl (p_neT rfl rfl) ?_
        refine ws_pg rfl (gd_ rfl rfl rfl rfl rfl rfl) rfl rfl (p_pickT rfl rfl) ?_
        refine ws_p rfl rfl rfl rfl (p_pickF rfl rfl) ?_
        refine ws_p rfl rfl rfl rfl (p_mv rfl) ?_
        refine ws_know (d := 58) (b' := false) rfl ((by rw [List.nil_append, once_s q47, List.drop_zero, beq_self_eq_true]; rfl)) ?_
        refine ws_pg rfl (gd_ rfl rfl rfl rfl rfl rfl) rfl rfl (p_mv rfl) ?_
        refine ws_pg rfl (gd_ rfl rfl rfl rfl rfl rfl) rfl rfl (p_mv rfl) ?_
        refine ws_split (d := 60) rfl (fun q60 => ?_) (fun q60 => ?_)
        ·
          refine ws_pg rfl (gd_ rfl rfl rfl rfl rfl rfl) rfl rfl (p_mv rfl) ?_
          refine ws_pg rfl (gd_ rfl rfl rfl rfl rfl rfl) rfl rfl (p_mv rfl) ?_
          refine ws_pg rfl (gd_ rfl rfl rfl rfl rfl rfl) rfl rfl (p_mv rfl) ?_
          have hS66 := hb.cut (lo := 0) (hi := glK b 300 3000) (q := glK b 300 3000) (by omega) (by omega) rfl
          refine ws_pg rfl (gd_ rfl rfl rfl rfl rfl rfl) rfl rfl (p_slS (l := 0) (h := glK b 300 3000) Try.underlying27 sz5 rfl rfl ⟨_, rfl⟩ (by omega) (by have := hb.cap; omega) hb.cap (q := glK b 300 3000) rfl) ?_
          refine ws_hg rfl (gd_ rfl rfl rfl rfl rfl rfl) rfl rfl (p_bts Try.underlying27 Try.underlying5 Try.underlying9 rfl (hS66).len (fun _ h => (hS66).rd.no h)) ?_
          refine ws_eg rfl (gd_ rfl rfl rfl rfl rfl rfl) (e_call ent13 rfl rfl (list_any (Sl.nil (F := No)) (hL30) (by omega)) ?_)
          rintro _ w19 ⟨A62, c62, rfl, hW62, hc⟩
          refine ⟨_, rfl, hc, ?_⟩
          have hzw19 := hc.size
          have HC := HC.tr hc
          have hb := hb.no hc
          have hL30 := hL30.no hc
          have hS53 := hS53.no hc
          have hW49 := hW49.after hc
          have hS66 := hS66.no hc
          refine ws_narrow (S' := fun x => Ch No w19 x) (Ch.refl _ _) (fun x h => hc.tr h) ?_
          refine ws_hg rfl (gd_ rfl rfl rfl rfl rfl rfl) rfl rfl (p_bts Try.underlying27 Try.underlying5 Try.underlying9 rfl (hW62.sl).len (fun _ h => (hW62.sl).rd.no h)) ?_
          refine ws_pg rfl (gd_ rfl rfl rfl rfl rfl rfl) rfl rfl (p_neT rfl rfl) ?_
          refine ws_pg rfl (gd_ rfl rfl rfl rfl rfl rfl) rfl rfl (p_pickT rfl rfl) ?_
          refine ws_p rfl rfl rfl rfl (p_pickF rfl rfl) ?_
          refine ws_n ?_
          refine x_seq ?_
          refine wc_no rfl ((by rw [List.nil_append, once_l q60, List.drop_zero, beq_self_eq_true]; rfl)) ?_
          refine wc_skip ?_
          refine x_seq ?_
          refine wc_seq ?_
          refine wc_region ?_
          refine wl rfl rfl rfl (p_mv rfl) ?_
          refine wl rfl rfl rfl (p_mv rfl) ?_
          refine wl_split (d := 72) rfl (fun q72 => ?_) (fun q72 => ?_)
          ·
            refine wl_s (gd_ rfl rfl rfl rfl rfl rfl) rfl rfl ?_
            refine wl_s (gd_ rfl rfl rfl rfl rfl rfl) rfl rfl ?_
            refine wl_s (gd_ rfl rfl rfl rfl rfl rfl) rfl rfl ?_
            refine wl_s (gd_ rfl rfl rfl rfl rfl rfl) rfl rfl ?_
            refine wl_s (gd_ rfl rfl rfl rfl rfl rfl) rfl rfl ?_
            refine wl_s (gd_ rfl rfl rfl rfl rfl rfl) rfl rfl ?_
            refine wl rfl rfl rfl (p_pickT rfl rfl) ?_
            refine wl rfl rfl rfl (p_mv rfl) ?_
            refine wle_g (gd_ rfl rfl rfl rfl rfl rfl) (e_call ent11 rfl rfl (lives_any) ?_)
            rintro _ w20 ⟨rfl, hc⟩
            refine ⟨_, rfl, ?_⟩
            have hzw20 := hc.size
            have HC := HC.tr hc
            have hb := hb.no hc
            have hL30 := hL30.no hc
            have hS53 := hS53.no hc
            have hW49 := hW49.after hc
            have hS66 := hS66.no hc
            have hW62 := hW62.after hc
            refine wl rfl rfl rfl (p_pickT rfl rfl) ?_
            refine wl rfl rfl rfl (p_as rfl) ?_
            refine wl_nil ?_
            refine x_seq ?_
            refine wc_ret ?_
            refine fin_run (res1 rfl rfl) ?_
            exact ⟨rfl, HC⟩
          ·
            refine wl_g (gd_ rfl rfl rfl rfl rfl rfl) rfl rfl (p_mv rfl) ?_
            refine wl_g (gd_ rfl rfl rfl rfl rfl rfl) rfl rfl (p_not rfl) ?_
            refine wl_g (gd_ rfl rfl rfl rfl rfl rfl) rfl rfl (p_mv rfl) ?_
            refine wl_know (d := 75) (b' := true) rfl (by rw [no_s q72]; rfl) ?_
            refine wl_g (gd_ rfl rfl rfl rfl rfl rfl) rfl rfl (p_mv rfl) ?_
            refine wl_g (gd_ rfl rfl rfl rfl rfl rfl) rfl rfl (p_not rfl) ?_
            refine wl_g (gd_ rfl rfl rfl rfl rfl rfl) rfl rfl (p_pickT rfl rfl) ?_
            refine wl rfl rfl rfl (p_pickF rfl rfl) ?_
            refine wl rfl rfl rfl (p_mv rfl) ?_
            refine wl_know (d := 80) (b' := true) rfl (by rw [no_l q72]; rfl) ?_
            refine wle_g (gd_ rfl rfl rfl rfl rfl rfl) (e_call ent11 rfl rfl (lives_any) ?_)
            rintro _ w21 ⟨rfl, hc⟩
            refine ⟨_, rfl, ?_⟩
            have hzw21 := hc.size
            have HC := HC.tr hc
            have hb := hb.no hc
            have hL30 := hL30.no hc
            have hS53 := hS53.no hc
            have hW49 := hW49.after hc
            have hS66 := hS66.no hc
            have hW62 := hW62.after hc
            refine wl rfl rfl rfl (p_pickT rfl rfl) ?_
            refine wl rfl rfl rfl (p_as rfl) ?_
            refine wl_nil ?_
            refine x_seq ?_
            refine wc_ret ?_
            refine fin_run (res1 rfl rfl) ?_
            exact ⟨rfl, HC⟩
        ·
          refine ws_s rfl (gd_ rfl rfl rfl rfl rfl rfl) rfl rfl ?_
          refine ws_s rfl (gd_ rfl rfl rfl rfl rfl rfl) rfl rfl ?_
          refine ws_s rfl (gd_ rfl rfl rfl rfl rfl rfl) rfl rfl ?_
          refine ws_s rfl (gd_ rfl rfl rfl rfl rfl rfl) rfl rfl ?_
          refine ws_s rfl (gd_ rfl rfl rfl rfl rfl rfl) rfl rfl ?_
          refine ws_s rfl (gd_ rfl rfl rfl rfl rfl rfl) rfl rfl ?_
          refine ws_s rfl (gd_ rfl rfl rfl rfl rfl rfl) rfl rfl ?_
          refine ws_s rfl (gd_ rfl rfl rfl rfl rfl rfl) rfl rfl ?_
          refine ws_pg rfl (gd_ rfl rfl rfl rfl rfl rfl) rfl rfl (p_pickF rfl rfl) ?_
          refine ws_p rfl rfl rfl rfl (p_pickF rfl rfl) ?_
          refine ws_n ?_
          refine x_seq ?_
          refine wc_no rfl (rfl) ?_
          refine wc_skip ?_
          refine x_seq ?_
          refine wc_seq ?_
          refine wc_region ?_
          refine wl rfl rfl rfl (p_mv rfl) ?_
          refine wl rfl rfl rfl (p_mv rfl) ?_
          refine wl_split (d := 72) rfl (fun q72 => ?_) (fun q72 => ?_)
          ·
            refine wl_s (gd_ rfl rfl rfl rfl rfl rfl) rfl rfl ?_
            refine wl_s (gd_ rfl rfl rfl rfl rfl rfl) rfl rfl ?_
            refine wl_s (gd_ rfl rfl rfl rfl rfl rfl) rfl rfl ?_
            refine wl_s (gd_ rfl rfl rfl rfl rfl rfl) rfl rfl ?_
            refine wl_s (gd_ rfl rfl rfl rfl rfl rfl) rfl rfl ?_
            refine wl_s (gd_ rfl rfl rfl rfl rfl rfl) rfl rfl ?_
            refine wl rfl rfl rfl (p_pickT rfl rfl) ?_
            refine wl rfl rfl rfl (p_mv rfl) ?_
            refine wle_g (gd_ rfl rfl rfl rfl rfl rfl) (e_call ent11 rfl rfl (lives_any) ?_)
            rintro _ w22 ⟨rfl, hc⟩
            refine ⟨_, rfl, ?_⟩
            have hzw22 := hc.size
            have HC := HC.tr hc
            have hb := hb.no hc
            have hL30 := hL30.no hc
            have hS53 := hS53.no hc
            have hW49 := hW49.after hc
            refine wl rfl rfl rfl (p_pickT rfl rfl) ?_
            refine wl rfl rfl rfl (p_as rfl) ?_
            refine wl_nil ?_
            refine x_seq ?_
            refine wc_ret ?_
            refine fin_run (res1 rfl rfl) ?_
            exact ⟨rfl, HC⟩
          ·
            refine wl_g (gd_ rfl rfl rfl rfl rfl rfl) rfl rfl (p_mv rfl) ?_
            refine wl_g (gd_ rfl rfl rfl rfl rfl rfl) rfl rfl (p_not rfl) ?_
            refine wl_g (gd_ rfl rfl rfl rfl rfl rfl) rfl rfl (p_mv rfl) ?_
            refine wl_know (d := 75) (b' := true) rfl (by rw [no_s q72]; rfl) ?_
            refine wl_g (gd_ rfl rfl rfl rfl rfl rfl) rfl rfl (p_mv rfl) ?_
            refine wl_g (gd_ rfl rfl rfl rfl rfl rfl) rfl rfl (p_not rfl) ?_
            refine wl_g (gd_ rfl rfl rfl rfl rfl rfl) rfl rfl (p_pickT rfl rfl) ?_
            refine wl rfl rfl rfl (p_pickF rfl rfl) ?_
            refine wl rfl rfl rfl (p_mv rfl) ?_
            refine wl_know (d := 80) (b' := true) rfl (by rw [no_l q72]; rfl) ?_
            refine wle_g (gd_ rfl rfl rfl rfl rfl rfl) (e_call ent11 rfl rfl (lives_any) ?_)
            rintro _ w23 ⟨rfl, hc⟩
            refine ⟨_, rfl, ?_⟩
            have hzw23 := hc.size
            have HC := HC.tr hc
            have hb := hb.no hc
            have hL30 := hL30.no hc
            have hS53 := hS53.no hc
            have hW49 := hW49.after hc
            refine wl rfl rfl rfl (p_pickT rfl rfl) ?_
            refine wl rfl rfl rfl (p_as rfl) ?_
            refine wl_nil ?_
            refine x_seq ?_
            refine wc_ret ?_
            refine fin_run (res1 rfl rfl) ?_
            exact ⟨rfl, HC⟩
      ·
        refine ws_s rfl (gd_ rfl rfl rfl rfl rfl rfl) rfl rfl ?_
        refine ws_s rfl (gd_ rfl rfl rfl rfl rfl rfl) rfl rfl ?_
        refine ws_s rfl (gd_ rfl rfl rfl rfl rfl rfl) rfl rfl ?_
        refine ws_s rfl (gd_ rfl rfl rfl rfl rfl rfl) rfl rfl ?_
        refine ws_s rfl (gd_ rfl rfl rfl rfl rfl rfl) rfl rfl ?_
        refine ws_s rfl (gd_ rfl rfl rfl rfl rfl rfl) rfl rfl ?_
        refine ws_s rfl (gd_ rfl rfl rfl rfl rfl rfl) rfl rfl ?_
        refine ws_s rfl (gd_ rfl rfl rfl rfl rfl rfl) rfl rfl ?_
        refine ws_pg rfl (gd_ rfl rfl rfl rfl rfl rfl) rfl rfl (p_pickF rfl rfl) ?_
        refine ws_p rfl rfl rfl rfl (p_pickF rfl rfl) ?_
        refine ws_p rfl rfl rfl rfl (p_mv rfl) ?_
        refine ws_pg rfl (gd_ rfl rfl rfl rfl rfl rfl) rfl rfl (p_mv rfl) ?_
        refine ws_pg rfl (gd_ rfl rfl rfl rfl rfl rfl) rfl rfl (p_mv rfl) ?_
        refine ws_split (d := 60) rfl (fun q60 => ?_) (fun q60 => ?_)
        ·
          refine ws_pg rfl (gd_ rfl rfl rfl rfl rfl rfl) rfl rfl (p_mv rfl) ?_
          refine ws_pg rfl (gd_ rfl rfl rfl rfl rfl rfl) rfl rfl (p_mv rfl) ?_
          refine ws_pg rfl (gd_ rfl rfl rfl rfl rfl rfl) rfl rfl (p_mv rfl) ?_
          have hS66 := hb.cut (lo := 0) (hi := glK b 300 3000) (q := glK b 300 3000) (by omega) (by omega) rfl
          refine ws_pg rfl (gd_ rfl rfl rfl rfl rfl rfl) rfl rfl (p_slS (l := 0) (h := glK b 300 3000) Try.underlying27 sz5 rfl rfl ⟨_, rfl⟩ (by omega) (by have := hb.cap; omega) hb.cap (q := glK b 300 3000) rfl) ?_
          refine ws_hg rfl (gd_ rfl rfl rfl rfl rfl rfl) rfl rfl (p_bts Try.underlying27 Try.underlying5 Try.underlying9 rfl (hS66).len (fun _ h => (hS66).rd.no h)) ?_
          refine ws_eg rfl (gd_ rfl rfl rfl rfl rfl rfl) (e_call ent13 rfl rfl (list_any (Sl.nil (F := No)) (hL30) (by omega)) ?_)
          rintro _ w24 ⟨A62, c62, rfl, hW62, hc⟩
          refine ⟨_, rfl, hc, ?_⟩
          have hzw24 := hc.size
          have HC := HC.tr hc
          have hb := hb.no hc
          have hL30 := hL30.no hc
          have hS66 := hS66.no hc
          refine ws_narrow (S' := fun x => Ch No w24 x) (Ch.refl _ _) (fun x h => hc.tr h) ?_
          refine ws_hg rfl (gd_ rfl rfl rfl rfl rfl rfl) rfl rfl (p_bts Try.underlying27 Try.underlying5 Try.underlying9 rfl (hW62.sl).len (fun _ h => (hW62.sl).rd.no h)) ?_
          refine ws_pg rfl (gd_ rfl rfl rfl rfl rfl rfl) rfl rfl (p_neT rfl rfl) ?_
          refine ws_pg rfl (gd_ rfl rfl rfl rfl rfl rfl) rfl rfl (p_pickT rfl rfl) ?_
          refine ws_p rfl rfl rfl rfl (p_pickF rfl rfl) ?_
          refine ws_n ?_
          refine x_seq ?_
          refine wc_no rfl ((by rw [List.nil_append, once_l q60, List.drop_zero, beq_self_eq_true]; rfl)) ?_
          refine wc_skip ?_
          refine x_seq ?_
          refine wc_seq ?_
          refine wc_region ?_
          refine wl rfl rfl rfl (p_mv rfl) ?_
          refine wl rfl rfl rfl (p_mv rfl) ?_
          refine wl_split (d := 72) rfl (fun q72 => ?_) (fun q72 => ?_)
          ·
            refine wl_s (gd_ rfl rfl rfl rfl rfl rfl) rfl rfl ?_
            refine wl_s (gd_ rfl rfl rfl rfl rfl rfl) rfl rfl ?_
            refine wl_s (gd_ rfl rfl rfl rfl rfl rfl) rfl rfl ?_
            refine wl_s (gd_ rfl rfl rfl rfl rfl rfl) rfl rfl ?_
            refine wl_s (gd_ rfl rfl rfl rfl rfl rfl) rfl rfl ?_
            refine wl_s (gd_ rfl rfl rfl rfl rfl rfl) rfl rfl ?_
            refine wl rfl rfl rfl (p_pickT rfl rfl) ?_
            refine wl rfl rfl rfl (p_mv rfl) ?_
            refine wle_g (gd_ rfl rfl rfl rfl rfl rfl) (e_call ent11 rfl rfl (lives_any) ?_)
            rintro _ w25 ⟨rfl, hc⟩
            refine ⟨_, rfl, ?_⟩
            have hzw25 := hc.size
            have HC := HC.tr hc
            have hb := hb.no hc
            have hL30 := hL30.no hc
            have hS66 := hS66.no hc
            have hW62 := hW62.after hc
            refine wl rfl rfl rfl (p_pickT rfl rfl) ?_
            refine wl rfl rfl rfl (p_as rfl) ?_
            refine wl_nil ?_
            refine x_seq ?_
            refine wc_ret ?_
            refine fin_run (res1 rfl rfl) ?_
            exact ⟨rfl, HC⟩
          ·
            refine wl_g (gd_ rfl rfl rfl rfl rfl rfl) rfl rfl (p_mv rfl) ?_
            refine wl_g (gd_ rfl rfl rfl rfl rfl rfl) rfl rfl (p_not rfl) ?_
            refine wl_g (gd_ rfl rfl rfl rfl rfl rfl) rfl rfl (p_mv rfl) ?_
            refine wl_know (d := 75) (b' := true) rfl (by rw [no_s q72]; rfl) ?_
            refine wl_g (gd_ rfl rfl rfl rfl rfl rfl) rfl rfl (p_mv rfl) ?_
            refine wl_g (gd_ rfl rfl rfl rfl rfl rfl) rfl rfl (p_not rfl) ?_
            refine wl_g (gd_ rfl rfl rfl rfl rfl rfl) rfl rfl (p_pickT rfl rfl) ?_
            refine wl rfl rfl rfl (p_pickF rfl rfl) ?_
            refine wl rfl rfl rfl (p_mv rfl) ?_
            refine wl_know (d := 80) (b' := true) rfl (by rw [no_l q72]; rfl) ?_
            refine wle_g (gd_ rfl rfl rfl rfl rfl rfl) (e_call ent11 rfl rfl (lives_any) ?_)
            rintro _ w26 ⟨rfl, hc⟩
            refine ⟨_, rfl, ?_⟩
            have hzw26 := hc.size
            have HC := HC.tr hc
            have hb := hb.no hc
            have hL30 := hL30.no hc
            have hS66 := hS66.no hc
            have hW62 := hW62.after hc
            refine wl rfl rfl rfl (p_pickT rfl rfl) ?_
            refine wl rfl rfl rfl (p_as rfl) ?_
            refine wl_nil ?_
            refine x_seq ?_
            refine wc_ret ?_
            refine fin_run (res1 rfl rfl) ?_
            exact ⟨rfl, HC⟩
        ·
          refine ws_s rfl (gd_ rfl rfl rfl rfl rfl rfl) rfl rfl ?_
          refine ws_s rfl (gd_ rfl rfl rfl rfl rfl rfl) rfl rfl ?_
          refine ws_s rfl (gd_ rfl rfl rfl rfl rfl rfl) rfl rfl ?_
          refine ws_s rfl (gd_ rfl rfl rfl rfl rfl rfl) rfl rfl ?_
          refine ws_s rfl (gd_ rfl rfl rfl rfl rfl rfl) rfl rfl ?_
          refine ws_s rfl (gd_ rfl rfl rfl rfl rfl rfl) rfl rfl ?_
          refine ws_s rfl (gd_ rfl rfl rfl rfl rfl rfl) rfl rfl ?_
          refine ws_s rfl (gd_ rfl rfl rfl rfl rfl rfl) rfl rfl ?_
          refine ws_pg rfl (gd_ rfl rfl rfl rfl rfl rfl) rfl rfl (p_pickF rfl rfl) ?_
          refine ws_p rfl rfl rfl rfl (p_pickF rfl rfl) ?_
          refine ws_n ?_
          refine x_seq ?_
          refine wc_no rfl (rfl) ?_
          refine wc_skip ?_
          refine x_seq ?_
          refine wc_seq ?_
          refine wc_region ?_
          refine wl rfl rfl rfl (p_mv rfl) ?_
          refine wl rfl rfl rfl (p_mv rfl) ?_
          refine wl_split (d := 72) rfl (fun q72 => ?_) (fun q72 => ?_)
          ·
            refine wl_s (gd_ rfl rfl rfl rfl rfl rfl) rfl rfl ?_
            refine wl_s (gd_ rfl rfl rfl rfl rfl rfl) rfl rfl ?_
            refine wl_s (gd_ rfl rfl rfl rfl rfl rfl) rfl rfl ?_
            refine wl_s (gd_ rfl rfl rfl rfl rfl rfl) rfl rfl ?_
            refine wl_s (gd_ rfl rfl rfl rfl rfl rfl) rfl rfl ?_
            refine wl_s (gd_ rfl rfl rfl rfl rfl rfl) rfl rfl ?_
            refine wl rfl rfl rfl (p_pickT rfl rfl) ?_
            refine wl rfl rfl rfl (p_mv rfl) ?_
            refine wle_g (gd_ rfl rfl rfl rfl rfl rfl) (e_call ent11 rfl rfl (lives_any) ?_)
            rintro _ w27 ⟨rfl, hc⟩
            refine ⟨_, rfl, ?_⟩
            have hzw27 := hc.size
            have HC := HC.tr hc
            have hb := hb.no hc
            have hL30 := hL30.no hc
            refine wl rfl rfl rfl (p_pickT rfl rfl) ?_
            refine wl rfl rfl rfl (p_as rfl) ?_
            refine wl_nil ?_
            refine x_seq ?_
            refine wc_ret ?_
            refine fin_run (res1 rfl rfl) ?_
            exact ⟨rfl, HC⟩
          ·
            refine wl_g (gd_ rfl rfl rfl rfl rfl rfl) rfl rfl (p_mv rfl) ?_
            refine wl_g (gd_ rfl rfl rfl rfl rfl rfl) rfl rfl (p_not rfl) ?_
            refine wl_g (gd_ rfl rfl rfl rfl rfl rfl) rfl rfl (p_mv rfl) ?_
            refine wl_know (d := 75) (b' := true) rfl (by rw [no_s q72]; rfl) ?_
            refine wl_g (gd_ rfl rfl rfl rfl rfl rfl) rfl rfl (p_mv rfl) ?_
            refine wl_g (gd_ rfl rfl rfl rfl rfl rfl) rfl rfl (p_not rfl) ?_
            refine wl_g (gd_ rfl rfl rfl rfl rfl rfl) rfl rfl (p_pickT rfl rfl) ?_
            refine wl rfl rfl rfl (p_pickF rfl rfl) ?_
            refine wl rfl rfl rfl (p_mv rfl) ?_
            refine wl_know (d := 80) (b' := true) rfl (by rw [no_l q72]; rfl) ?_
            refine wle_g (gd_ rfl rfl rfl rfl rfl rfl) (e_call ent11 rfl rfl (lives_any) ?_)
            rintro _ w28 ⟨rfl, hc⟩
            refine ⟨_, rfl, ?_⟩
            have hzw28 := hc.size
            have HC := HC.tr hc
            have hb := hb.no hc
            have hL30 := hL30.no hc
            refine wl rfl rfl rfl (p_pickT rfl rfl) ?_
            refine wl rfl rfl rfl (p_as rfl) ?_
            refine wl_nil ?_
            refine x_seq ?_
            refine wc_ret ?_
            refine fin_run (res1 rfl rfl) ?_
            exact ⟨rfl, HC⟩
end Go.Proofs.Ytdbdconmcgcooaa
