/-
  Own text, printed by a program of mine (wip/gx): what functions of the program do, walked operation by operation.
-/
import Derived.Test.YtdbdconmcgcooaaProg
import Derived.Test.YtdbdconmcgcooaaGxAux
import Derived.Test.YtdbdconmcgcooaaTab
import Derived.Test.YtdbdconmcgcooaaPlPack
import Derived.Test.YtdbdconmcgcooaaPlPackB
import Derived.Test.YtdbdconmcgcooaaWp7
import Derived.Test.YtdbdconmcgcooaaWp8
import Derived.Test.YtdbdconmcgcooaaWp9
import Derived.Test.YtdbdconmcgcooaaWp6
import Derived.Test.YtdbdconmcgcooaaWp5
set_option linter.unusedVariables false
namespace Go.Proofs.Ytdbdconmcgcooaa
open Go.RowKit Go.Gx
open Go.Plain
set_option maxHeartbeats 1000000 in
set_option maxRecDepth 20000 in
theorem packApart_walk {w : World}  {Aq : Option Addr} {lq cq : Nat} {Fq : Nat → Prop} {q : List ByteArray} {Ar : Option Addr} {lr cr : Nat} {Fr : Nat → Prop} {r : List ByteArray} {x y : Nat} (hq : Sl w Fq Value.string Aq lq cq q) (hr : Sl w Fr Value.string Ar lr cr r) (hs : ∀ s ∈ q, s.size ≤ 140737488351232) (hs2 : ∀ s ∈ r, s.size ≤ 140737488351232) (hx : x < 18446744073709551616) (hy : y < 18446744073709551616) :
    Calls Try.prog 3 #[u64v x, u64v y, .agg #[.slice Aq lq cq, .slice Ar lr cr]] w fun e w' => e = .returned (.bool true) ∧ Ch No w w' := by
  have hq := hq.old
  have hr := hr.old
  have HC : Ch No w w := Ch.refl _ _
  refine enter' (args := [u64v x, u64v y, .agg #[.slice Aq lq cq, .slice Ar lr cr]]) (n := 62) Try.func3 rfl rfl rfl ?_
  refine wc_seq ?_
  refine wc_region ?_
  refine wle rfl (e_box rfl rfl rfl (fun w1 g5 hg5 hb5 hc hsz5 => ?_))
  have hzw1 := hc.size
  have HC := HC.tr hc
  have hq := hq.no hc
  have hr := hr.no hc
  have hge5 : w.heap.size ≤ g5 := by have := HC.size; omega
  refine wl rfl rfl rfl (p_as rfl) ?_
  refine wl_nil ?_
  refine x_seq ?_
  refine wc_seq ?_
  refine wc_seq ?_
  refine wc_region ?_
  refine wl rfl rfl rfl (p_ixA1 (j := 0) Try.underlying24 sz23 rfl rfl (by omega) (by omega) rfl) ?_
  refine wl rfl rfl rfl (p_ld Try.underlying23 rfl rfl (ld (hb5.cell rfl))) ?_
  refine wle rfl (e_call ent10 rfl rfl (light_any (hq) (by assumption)) ?_)
  rintro _ w3 ⟨rfl, hc⟩
  refine ⟨_, rfl, ?_⟩
  have hzw3 := hc.size
  have HC := HC.tr hc
  have hq := hq.no hc
  have hr := hr.no hc
  have hb5 := hb5.ch hc (fun h => h)
  refine wl rfl rfl rfl (p_not rfl) ?_
  refine wl rfl rfl rfl (p_mv rfl) ?_
  refine wl_split (d := 13) rfl (fun q13 => ?_) (fun q13 => ?_)
  ·
    refine wl_s (gd_ rfl rfl rfl rfl rfl rfl) rfl rfl ?_
    refine wl_s (gd_ rfl rfl rfl rfl rfl rfl) rfl rfl ?_
    refine wl_s (gd_ rfl rfl rfl rfl rfl rfl) rfl rfl ?_
    refine wl_s (gd_ rfl rfl rfl rfl rfl rfl) rfl rfl ?_
    refine wl rfl rfl rfl (p_pickT rfl rfl) ?_
    refine wl_nil ?_
    refine x_seq ?_
    refine wc_yes rfl (rfl) ?_
    refine wc_seq ?_
    refine wc_region ?_
    refine wle rfl (e_call ent11 rfl rfl (lives_any) ?_)
    rintro _ w4 ⟨rfl, hc⟩
    refine ⟨_, rfl, ?_⟩
    have hzw4 := hc.size
    have HC := HC.tr hc
    have hq := hq.no hc
    have hr := hr.no hc
    have hb5 := hb5.ch hc (fun h => h)
    refine wl rfl rfl rfl (p_as rfl) ?_
    refine wl_nil ?_
    refine x_seq ?_
    refine wc_ret ?_
    refine x_then_ret ?_
    refine fin_run (res1 rfl rfl) ?_
    exact ⟨rfl, HC⟩
  ·
    have hqt : lightB q = true := by simpa using q13
    have hlt := light_is hqt
    have hlz := lstSz_eq q
    have hql := hq.len
    refine wl_g (gd_ rfl rfl rfl rfl rfl rfl) rfl rfl (p_ixA1 (j := 1) Try.underlying24 sz23 rfl rfl (by omega) (by omega) rfl) ?_
    refine wl_g (gd_ rfl rfl rfl rfl rfl rfl) rfl rfl (p_ld Try.underlying23 rfl rfl (ld (hb5.cell rfl))) ?_
    refine wle_g (gd_ rfl rfl rfl rfl rfl rfl) (e_call ent10 rfl rfl (light_any (hr) (by assumption)) ?_)
    rintro _ w6 ⟨rfl, hc⟩
    refine ⟨_, rfl, ?_⟩
    have hzw6 := hc.size
    have HC := HC.tr hc
    have hq := hq.no hc
    have hr := hr.no hc
    have hb5 := hb5.ch hc (fun h => h)
    refine wl_g (gd_ rfl rfl rfl rfl rfl rfl) rfl rfl (p_not rfl) ?_
    refine wl rfl rfl rfl (p_pickF rfl rfl) ?_
    refine wl_nil ?_
    refine x_seq ?_
    refine wc_if rfl (fun c0 => ?_) (fun c0 => ?_)
    ·
      refine wc_seq ?_
      refine wc_region ?_
      refine wle rfl (e_call ent11 rfl rfl (lives_any) ?_)
      rintro _ w7 ⟨rfl, hc⟩
      refine ⟨_, rfl, ?_⟩
      have hzw7 := hc.size
      have HC := HC.tr hc
      have hq := hq.no hc
      have hr := hr.no hc
      have hb5 := hb5.ch hc (fun h => h)
      refine wl rfl rfl rfl (p_as rfl) ?_
      refine wl_nil ?_
      refine x_seq ?_
      refine wc_ret ?_
      refine x_then_ret ?_
      refine fin_run (res1 rfl rfl) ?_
      exact ⟨rfl, HC⟩
    ·
      have hrt : lightB r = true := by simpa using c0
      have hlt2 := light_is hrt
      have hlz2 := lstSz_eq r
      have hrl := hr.len
      refine wc_skip ?_
      refine x_seq ?_
      refine wc_seq ?_
      refine wc_draw [(0, 0), (3, 0), (1, 2), (2, 1), (4, 2), (5, 1), (6, 0), (7, 0)] 8 (by kernel_rfl) (by kernel_rfl) (by kernel_rfl) (by repeat (first | with_reducible exact pan_body | with_reducible apply pan_then | with_reducible apply pan_in)) (fun x => Ch No w6.drew x) (Ch.refl _ _) ?_
      obtain ⟨w8, ew8⟩ : ∃ x, x = w6.drew := ⟨_, rfl⟩
      rw [← ew8]
      have hc : Ch No w6 w8 := by rw [ew8]; exact Ch.drew _
      have hszw8 : w8.heap.size = w6.heap.size := by rw [ew8]; rfl
      clear ew8
      have hzw8 := hc.size
      have HC := HC.tr hc
      have hq := hq.no hc
      have hr := hr.no hc
      have hb5 := hb5.ch hc (fun h => h)
      have hS : Ch No w8 w8 := Ch.refl _ _
      refine ws_p rfl rfl rfl rfl (p_mv rfl) ?_
      refine ws_p rfl rfl rfl rfl (p_mv rfl) ?_
      refine ws_e rfl rfl (e_call ent12 rfl rfl (num_any (Sl.nil (F := No)) (by omega) (by omega)) ?_)
      rintro _ w9 ⟨A21, c21, rfl, hW21, hc⟩
      refine ⟨_, rfl, hc, ?_⟩
      have hzw9 := hc.size
      have HC := HC.tr hc
      have hq := hq.no hc
      have hr := hr.no hc
      have hb5 := hb5.ch hc (fun h => h)
      refine ws_narrow (S' := fun x => Ch No w9 x) (Ch.refl _ _) (fun x h => hc.tr h) ?_
      refine ws_h rfl rfl rfl rfl (p_bts Try.underlying27 Try.underlying5 Try.underlying9 rfl (hW21.sl).len (fun _ h => (hW21.sl).rd.no h)) ?_
      refine ws_e rfl rfl (e_call ent12 rfl rfl (num_any (Sl.nil (F := No)) (by omega) (by omega)) ?_)
      rintro _ w10 ⟨A24, c24, rfl, hW24, hc⟩
      refine ⟨_, rfl, hc, ?_⟩
      have hzw10 := hc.size
      have HC := HC.tr hc
      have hq := hq.no hc
      have hr := hr.no hc
      have hb5 := hb5.ch hc (fun h => h)
      have hW21 := hW21.after hc
      refine ws_narrow (S' := fun x => Ch No w10 x) (Ch.refl _ _) (fun x h => hc.tr h) ?_
      refine ws_h rfl rfl rfl rfl (p_bts Try.underlying27 Try.underlying5 Try.underlying9 rfl (hW24.sl).len (fun _ h => (hW24.sl).rd.no h)) ?_
      refine ws_p rfl rfl rfl rfl (p_as rfl) ?_
      refine ws_p rfl rfl rfl rfl (p_as rfl) ?_
      refine ws_n ?_
      refine x_seq ?_
      refine wc_seq ?_
      refine wc_draw [(0, 0), (1, 0), (2, 0), (3, 0), (4, 0), (5, 0), (6, 0), (7, 0), (8, 0), (9, 0), (10, 0), (11, 0), (12, 0), (13, 0), (14, 0), (15, 0), (16, 0), (17, 0), (18, 1), (21, 0), (22, 1), (26, 0), (27, 1), (28, 0), (29, 1), (19, 2), (20, 1), (23, 2), (24, 1), (25, 0), (30, 2), (31, 0), (32, 0), (33, 0), (34, 2), (35, 0), (36, 0)] 37 (by kernel_rfl) (by kernel_rfl) (by kernel_rfl) (by repeat (first | with_reducible exact pan_body | with_reducible apply pan_then | with_reducible apply pan_in)) (fun x => Ch No w10.drew x) (Ch.refl _ _) ?_
      obtain ⟨w11, ew11⟩ : ∃ x, x = w10.drew := ⟨_, rfl⟩
      rw [← ew11]
      have hc : Ch No w10 w11 := by rw [ew11]; exact Ch.drew _
      have hszw11 : w11.heap.size = w10.heap.size := by rw [ew11]; rfl
      clear ew11
      have hzw11 := hc.size
      have HC := HC.tr hc
      have hq := hq.no hc
      have hr := hr.no hc
      have hb5 := hb5.ch hc (fun h => h)
      have hW21 := hW21.no hc
      have hW24 := hW24.no hc
      have hS : Ch No w11 w11 := Ch.refl _ _
      refine ws_p rfl rfl rfl rfl (p_mv rfl) ?_
      refine ws_p rfl rfl rfl rfl (p_mv rfl) ?_
      refine ws_p rfl rfl rfl rfl (p_eqT rfl rfl) ?_
      refine ws_p rfl rfl rfl rfl (p_mv rfl) ?_
      refine ws_p rfl rfl rfl rfl (p_mv rfl) ?_
      refine ws_p rfl rfl rfl rfl (p_eq rfl rfl) ?_
      refine ws_p rfl rfl rfl rfl (p_eqB rfl rfl Try.underlying4) ?_
      refine ws_p rfl rfl rfl rfl (p_mv rfl) ?_
      refine ws_know (d := 33) (b' := true) rfl (apart_eq hx hy) ?_
      refine ws_pg rfl (gd_ rfl rfl rfl rfl rfl rfl) rfl rfl (p_mv rfl) ?_
      refine ws_pg rfl (gd_ rfl rfl rfl rfl rfl rfl) rfl rfl (p_mv rfl) ?_
      refine ws_pg rfl (gd_ rfl rfl rfl rfl rfl rfl) rfl rfl (p_ltT rfl rfl) ?_
      refine ws_pg rfl (gd_ rfl rfl rfl rfl rfl rfl) rfl rfl (p_mv rfl) ?_
      refine ws_pg rfl (gd_ rfl rfl rfl rfl rfl rfl) rfl rfl (p_mv rfl) ?_
      refine ws_pg rfl (gd_ rfl rfl rfl rfl rfl rfl) rfl rfl (p_lt rfl rfl) ?_
      refine ws_pg rfl (gd_ rfl rfl rfl rfl rfl rfl) rfl rfl (p_eqB rfl rfl Try.underlying4) ?_
      refine ws_p rfl rfl rfl rfl (p_pickT rfl rfl) ?_
      refine ws_p rfl rfl rfl rfl (p_mv rfl) ?_
      refine ws_know (d := 42) (b' := true) rfl (apart_lt hx hy) ?_
      refine ws_pg rfl (gd_ rfl rfl rfl rfl rfl rfl) rfl rfl (p_ixA1 (j := 0) Try.underlying24 sz23 rfl rfl (by omega) (by omega) rfl) ?_
      refine ws_hg rfl (gd_ rfl rfl rfl rfl rfl rfl) rfl rfl (p_ld Try.underlying23 rfl rfl (fun _ h => h.cell (fun h => h) (hb5.cell rfl))) ?_
      refine ws_pg rfl (gd_ rfl rfl rfl rfl rfl rfl) rfl rfl (p_ixA1 (j := 1) Try.underlying24 sz23 rfl rfl (by omega) (by omega) rfl) ?_
      refine ws_hg rfl (gd_ rfl rfl rfl rfl rfl rfl) rfl rfl (p_ld Try.underlying23 rfl rfl (fun _ h => h.cell (fun h => h) (hb5.cell rfl))) ?_
      refine ws_pg rfl (gd_ rfl rfl rfl rfl rfl rfl) rfl rfl (p_ixA1 (j := 0) Try.underlying24 sz23 rfl rfl (by omega) (by omega) rfl) ?_
      refine ws_hg rfl (gd_ rfl rfl rfl rfl rfl rfl) rfl rfl (p_ld Try.underlying23 rfl rfl (fun _ h => h.cell (fun h => h) (hb5.cell rfl))) ?_
      refine ws_pg rfl (gd_ rfl rfl rfl rfl rfl rfl) rfl rfl (p_ixA1 (j := 1) Try.underlying24 sz23 rfl rfl (by omega) (by omega) rfl) ?_
      refine ws_hg rfl (gd_ rfl rfl rfl rfl rfl rfl) rfl rfl (p_ld Try.underlying23 rfl rfl (fun _ h => h.cell (fun h => h) (hb5.cell rfl))) ?_
      refine ws_eg rfl (gd_ rfl rfl rfl rfl rfl rfl) (e_call ent13 rfl rfl (list_any (Sl.nil (F := No)) (hq) (by omega)) ?_)
      rintro _ w16 ⟨A45, c45, rfl, hW45, hc⟩
      refine ⟨_, rfl, hc, ?_⟩
      have hzw16 := hc.size
      have HC := HC.tr hc
      have hq := hq.no hc
      have hr := hr.no hc
      have hb5 := hb5.ch hc (fun h => h)
      have hW21 := hW21.after hc
      have hW24 := hW24.after hc
      refine ws_narrow (S' := fun x => Ch No w16 x) (Ch.refl _ _) (fun x h => hc.tr h) ?_
      refine ws_hg rfl (gd_ rfl rfl rfl rfl rfl rfl) rfl rfl (p_bts Try.underlying27 Try.underlying5 Try.underlying9 rfl (hW45.sl).len (fun _ h => (hW45.sl).rd.no h)) ?_
      refine ws_eg rfl (gd_ rfl rfl rfl rfl rfl rfl) (e_call ent13 rfl rfl (list_any (Sl.nil (F := No)) (hr) (by omega)) ?_)
      rintro _ w17 ⟨A49, c49, rfl, hW49, hc⟩
      refine ⟨_, rfl, hc, ?_⟩
      have hzw17 := hc.size
      have HC := HC.tr hc
      have hq := hq.no hc
      have hr := hr.no hc
      have hb5 := hb5.ch hc (fun h => h)
      have hW21 := hW21.after hc
      have hW24 := hW24.after hc
      have hW45 := hW45.after hc
      refine ws_narrow (S' := fun x => Ch No w17 x) (Ch.refl _ _) (fun x h => hc.tr h) ?_
      refine ws_hg rfl (gd_ rfl rfl rfl rfl rfl rfl) rfl rfl (p_bts Try.underlying27 Try.underlying5 Try.underlying9 rfl (hW49.sl).len (fun _ h => (hW49.sl).rd.no h)) ?_
      refine ws_pg rfl (gd_ rfl rfl rfl rfl rfl rfl) rfl rfl (p_eqT rfl rfl) ?_
      refine ws_eg rfl (gd_ rfl rfl rfl rfl rfl rfl) (e_call ent14 rfl rfl (same_any (hq) (hr) (by omega) (by omega)) ?_)
      rintro _ w18 ⟨rfl, hc⟩
      refine ⟨_, rfl, hc, ?_⟩
      have hzw18 := hc.size
      have HC := HC.tr hc
      have hq := hq.no hc
      have hr := hr.no hc
      have hb5 := hb5.ch hc (fun h => h)
      have hW21 := hW21.after hc
      have hW24 := hW24.after hc
      have hW45 := hW45.after hc
      have hW49 := hW49.after hc
      refine ws_narrow (S' := fun x => Ch No w18 x) (Ch.refl _ _) (fun x h => hc.tr h) ?_
      refine ws_pg rfl (gd_ rfl rfl rfl rfl rfl rfl) rfl rfl (p_eqB rfl rfl Try.underlying4) ?_
      refine ws_p rfl rfl rfl rfl (p_pickT rfl rfl) ?_
      refine ws_p rfl rfl rfl rfl (p_mv rfl) ?_
      refine ws_know (d := 59) (b' := true) rfl (apart_l hqt hrt) ?_
      refine ws_eg rfl (gd_ rfl rfl rfl rfl rfl rfl) (e_call ent11 rfl rfl (lives_any) ?_)
      rintro _ w19 ⟨rfl, hc⟩
      refine ⟨_, rfl, hc, ?_⟩
      have hzw19 := hc.size
      have HC := HC.tr hc
      have hq := hq.no hc
      have hr := hr.no hc
      have hb5 := hb5.ch hc (fun h => h)
      have hW21 := hW21.after hc
      have hW24 := hW24.after hc
      have hW45 := hW45.after hc
      have hW49 := hW49.after hc
      refine ws_narrow (S' := fun x => Ch No w19 x) (Ch.refl _ _) (fun x h => hc.tr h) ?_
      refine ws_p rfl rfl rfl rfl (p_pickT rfl rfl) ?_
      refine ws_p rfl rfl rfl rfl (p_as rfl) ?_
      refine ws_n ?_
      refine x_seq ?_
      refine wc_ret ?_
      refine fin_run (res1 rfl rfl) ?_
      exact ⟨rfl, HC⟩
end Go.Proofs.Ytdbdconmcgcooaa
