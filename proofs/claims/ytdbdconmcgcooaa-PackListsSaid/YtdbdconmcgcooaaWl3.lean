/-
  Own text, printed by a program of mine (wip/gx): what functions of the program do, walked operation by operation.
-/
import Derived.Test.YtdbdconmcgcooaaProg
import Derived.Test.YtdbdconmcgcooaaGxAux
import Derived.Test.YtdbdconmcgcooaaTab
import Derived.Test.YtdbdconmcgcooaaPlPack
import Derived.Test.YtdbdconmcgcooaaPlPackB
import Derived.Test.YtdbdconmcgcooaaWp7
import Derived.Test.YtdbdconmcgcooaaWp8
import Derived.Test.YtdbdconmcgcooaaWp9
import Derived.Test.YtdbdconmcgcooaaWp6
import Derived.Test.YtdbdconmcgcooaaWp5
set_option linter.unusedVariables false
namespace Go.Proofs.Ytdbdconmcgcooaa
open Go.RowKit Go.Gx
open Go.Plain
set_option maxHeartbeats 1000000 in
set_option maxRecDepth 20000 in
theorem packLists_walk {w : World} {Ab : Option Addr} {lb cb : Nat} {Fb : Nat → Prop} {b : List UInt8} {Aq : Option Addr} {lq cq : Nat} {Fq : Nat → Prop} {q : List ByteArray} {n0 n1 : Int} (hb : Sl w Fb u8v Ab lb cb b) (hq : Sl w Fq Value.string Aq lq cq q) (hs : ∀ s ∈ q, s.size ≤ 140737488351232) (h01 : -9223372036854775808 ≤ n0) (h02 : n0 ≤ 9223372036854775807) (h11 : -9223372036854775808 ≤ n1) (h12 : n1 ≤ 9223372036854775807) :
    Calls Try.prog 7 #[.slice Ab lb cb, .slice Aq lq cq, .agg #[i64 n0, i64 n1]] w fun e w' => e = .returned (.bool true) ∧ Ch No w w' := by
  have hb := hb.old
  have hq := hq.old
  have HC : Ch No w w := Ch.refl _ _
  refine enter' (args := [.slice Ab lb cb, .slice Aq lq cq, .agg #[i64 n0, i64 n1]]) (n := 69) Try.func7 rfl rfl rfl ?_
  refine wc_seq ?_
  refine wc_region ?_
  refine wle rfl (e_box rfl rfl rfl (fun w1 g5 hg5 hb5 hc hsz5 => ?_))
  have hzw1 := hc.size
  have HC := HC.tr hc
  have hb := hb.no hc
  have hq := hq.no hc
  have hge5 : w.heap.size ≤ g5 := by have := HC.size; omega
  refine wl rfl rfl rfl (p_as rfl) ?_
  refine wl_nil ?_
  refine x_seq ?_
  refine wc_seq ?_
  refine wc_seq ?_
  refine wc_region ?_
  refine wl rfl rfl rfl (p_mv rfl) ?_
  refine wl rfl rfl rfl (p_lenS Try.underlying27 rfl) ?_
  refine wl rfl rfl rfl (p_gt rfl rfl) ?_
  refine wl rfl rfl rfl (p_mv rfl) ?_
  refine wl_split (d := 16) rfl (fun q16 => ?_) (fun q16 => ?_)
  ·
    have q16 := of_decide_eq_true q16
    refine wl_s (gd_ rfl rfl rfl rfl rfl rfl) rfl rfl ?_
    refine wl_s (gd_ rfl rfl rfl rfl rfl rfl) rfl rfl ?_
    refine wl_s (gd_ rfl rfl rfl rfl rfl rfl) rfl rfl ?_
    refine wl rfl rfl rfl (p_pickT rfl rfl) ?_
    refine wl_nil ?_
    refine x_seq ?_
    refine wc_yes rfl (rfl) ?_
    refine wc_seq ?_
    refine wc_region ?_
    refine wle rfl (e_call ent11 rfl rfl (lives_any) ?_)
    rintro _ w2 ⟨rfl, hc⟩
    refine ⟨_, rfl, ?_⟩
    have hzw2 := hc.size
    have HC := HC.tr hc
    have hb := hb.no hc
    have hq := hq.no hc
    have hb5 := hb5.ch hc (fun h => h)
    refine wl rfl rfl rfl (p_as rfl) ?_
    refine wl_nil ?_
    refine x_seq ?_
    refine wc_ret ?_
    refine x_then_ret ?_
    refine fin_run (res1 rfl rfl) ?_
    exact ⟨rfl, HC⟩
  ·
    have q16 := of_decide_eq_false q16
    refine wl_g (gd_ rfl rfl rfl rfl rfl rfl) rfl rfl (p_mv rfl) ?_
    refine wle_g (gd_ rfl rfl rfl rfl rfl rfl) (e_call ent10 rfl rfl (light_any (hq) (by assumption)) ?_)
    rintro _ w3 ⟨rfl, hc⟩
    refine ⟨_, rfl, ?_⟩
    have hzw3 := hc.size
    have HC := HC.tr hc
    have hb := hb.no hc
    have hq := hq.no hc
    have hb5 := hb5.ch hc (fun h => h)
    refine wl_g (gd_ rfl rfl rfl rfl rfl rfl) rfl rfl (p_not rfl) ?_
    refine wl rfl rfl rfl (p_pickF rfl rfl) ?_
    refine wl_nil ?_
    refine x_seq ?_
    refine wc_if rfl (fun c0 => ?_) (fun c0 => ?_)
    ·
      refine wc_seq ?_
      refine wc_region ?_
      refine wle rfl (e_call ent11 rfl rfl (lives_any) ?_)
      rintro _ w4 ⟨rfl, hc⟩
      refine ⟨_, rfl, ?_⟩
      have hzw4 := hc.size
      have HC := HC.tr hc
      have hb := hb.no hc
      have hq := hq.no hc
      have hb5 := hb5.ch hc (fun h => h)
      refine wl rfl rfl rfl (p_as rfl) ?_
      refine wl_nil ?_
      refine x_seq ?_
      refine wc_ret ?_
      refine x_then_ret ?_
      refine fin_run (res1 rfl rfl) ?_
      exact ⟨rfl, HC⟩
    ·
      have hlt := light_is (by simpa using c0)
      have hlz := lstSz_eq q
      have hql := hq.len
      obtain ⟨hl1, hl2, hl3, hl4⟩ := @gl_sizes b n0 n1
      have hz2 := lstSz_eq (glL b n0 n1)
      have hbl := hb.len
      refine wc_skip ?_
      refine x_seq ?_
      refine wc_seq ?_
      refine wc_region ?_
      refine wl rfl rfl rfl (p_mv rfl) ?_
      refine wl rfl rfl rfl (p_ixA1 (j := 0) Try.underlying45 sz3 rfl rfl (by omega) (by omega) rfl) ?_
      refine wl rfl rfl rfl (p_ld Try.underlying3 rfl rfl (ld (hb5.cell rfl))) ?_
      refine wl rfl rfl rfl (p_ixA1 (j := 1) Try.underlying45 sz3 rfl rfl (by omega) (by omega) rfl) ?_
      refine wl rfl rfl rfl (p_ld Try.underlying3 rfl rfl (ld (hb5.cell rfl))) ?_
      refine wle rfl (e_call ent26 rfl rfl (getlist_any (hb) (by omega) (by omega) (by omega) (by omega) (by omega)) ?_)
      rintro _ w7 ⟨A28, c28, rfl, hL28, hc⟩
      refine ⟨_, rfl, ?_⟩
      have hzw7 := hc.size
      have HC := HC.tr hc
      have hb := hb.no hc
      have hq := hq.no hc
      have hb5 := hb5.ch hc (fun h => h)
      refine wl rfl rfl rfl (p_mv rfl) ?_
      refine wl rfl rfl rfl (p_ext rfl rfl) ?_
      refine wl rfl rfl rfl (p_ext rfl rfl) ?_
      refine wl rfl rfl rfl (p_ext rfl rfl) ?_
      refine wl rfl rfl rfl (p_as rfl) ?_
      refine wl rfl rfl rfl (p_as rfl) ?_
      refine wl rfl rfl rfl (p_as rfl) ?_
      refine wl_nil ?_
      refine x_seq ?_
      refine wc_seq ?_
      refine wc_region ?_
      refine wl rfl rfl rfl (p_mv rfl) ?_
      refine wl rfl rfl rfl (p_ixA1 (j := 0) Try.underlying45 sz3 rfl rfl (by omega) (by omega) rfl) ?_
      refine wl rfl rfl rfl (p_ld Try.underlying3 rfl rfl (ld (hb5.cell rfl))) ?_
      refine wl rfl rfl rfl (p_ixA1 (j := 1) Try.underlying45 sz3 rfl rfl (by omega) (by omega) rfl) ?_
      refine wl rfl rfl rfl (p_ld Try.underlying3 rfl rfl (ld (hb5.cell rfl))) ?_
      refine wle rfl (e_call ent27 rfl rfl (rgetlist_any (hb) (by omega) (by omega) (by omega) (by omega) (by omega)) ?_)
      rintro _ w10 ⟨A38, c38, rfl, hL38, hc⟩
      refine ⟨_, rfl, ?_⟩
      have hzw10 := hc.size
      have HC := HC.tr hc
      have hb := hb.no hc
      have hq := hq.no hc
      have hb5 := hb5.ch hc (fun h => h)
      have hL28 := hL28.no hc
      refine wl rfl rfl rfl (p_mv rfl) ?_
      refine wl rfl rfl rfl (p_ext rfl rfl) ?_
      refine wl rfl rfl rfl (p_ext rfl rfl) ?_
      refine wl rfl rfl rfl (p_ext rfl rfl) ?_
      refine wl rfl rfl rfl (p_as rfl) ?_
      refine wl rfl rfl rfl (p_as rfl) ?_
      refine wl rfl rfl rfl (p_as rfl) ?_
      refine wl_nil ?_
      refine x_seq ?_
      refine wc_seq ?_
      refine wc_draw [(0, 0), (1, 0), (4, 0), (5, 0), (2, 2), (3, 1), (6, 2), (7, 1), (8, 0), (9, 0), (10, 0), (11, 0), (12, 2), (13, 0), (14, 0), (15, 0), (16, 0), (17, 0), (18, 0), (19, 0), (20, 0), (21, 0), (22, 0), (23, 0), (24, 0), (25, 2), (26, 0), (27, 0)] 28 (by kernel_rfl) (by kernel_rfl) (by kernel_rfl) (by repeat (first | with_reducible exact pan_body | with_reducible apply pan_then | with_reducible apply pan_in)) (fun x => Ch No w10.drew x) (Ch.refl _ _) ?_
      obtain ⟨w11, ew11⟩ : ∃ x, x = w10.drew := ⟨_, rfl⟩
      rw [← ew11]
      have hc : Ch No w10 w11 := by rw [ew11]; exact Ch.drew _
      have hszw11 : w11.heap.size = w10.heap.size := by rw [ew11]; rfl
      clear ew11
      have hzw11 := hc.size
      have HC := HC.tr hc
      have hb := hb.no hc
      have hq := hq.no hc
      have hb5 := hb5.ch hc (fun h => h)
      have hL28 := hL28.no hc
      have hL38 := hL38.no hc
      have hS : Ch No w11 w11 := Ch.refl _ _
      refine ws_p rfl rfl rfl rfl (p_mv rfl) ?_
      refine ws_p rfl rfl rfl rfl (p_mv rfl) ?_
      refine ws_p rfl rfl rfl rfl (p_mv rfl) ?_
      refine ws_p rfl rfl rfl rfl (p_mv rfl) ?_
      refine ws_e rfl rfl (e_call ent13 rfl rfl (list_any (hb) (hq) (by omega)) ?_)
      rintro _ w12 ⟨A44, c44, rfl, hW44, hc⟩
      refine ⟨_, rfl, hc, ?_⟩
      have hzw12 := hc.size
      have HC := HC.tr hc
      have hb := hb.no hc
      have hq := hq.no hc
      have hb5 := hb5.ch hc (fun h => h)
      have hL28 := hL28.no hc
      have hL38 := hL38.no hc
      refine ws_narrow (S' := fun x => Ch No w12 x) (Ch.refl _ _) (fun x h => hc.tr h) ?_
      refine ws_h rfl rfl rfl rfl (p_bts Try.underlying27 Try.underlying5 Try.underlying9 rfl (hW44.sl).len (fun _ h => (hW44.sl).rd.no h)) ?_
      refine ws_e rfl rfl (e_call ent28 rfl rfl (rlist_any (hb) (hq) (by omega)) ?_)
      rintro _ w13 ⟨A48, c48, rfl, hW48, hc⟩
      refine ⟨_, rfl, hc, ?_⟩
      have hzw13 := hc.size
      have HC := HC.tr hc
      have hb := hb.no hc
      have hq := hq.no hc
      have hb5 := hb5.ch hc (fun h => h)
      have hL28 := hL28.no hc
      have hL38 := hL38.no hc
      have hW44 := hW44.after hc
      refine ws_narrow (S' := fun x => Ch No w13 x) (Ch.refl _ _) (fun x h => hc.tr h) ?_
      refine ws_h rfl rfl rfl rfl (p_bts Try.underlying27 Try.underlying5 Try.underlying9 rfl (hW48.sl).len (fun _ h => (hW48.sl).rd.no h)) ?_
      refine ws_p rfl rfl rfl rfl (p_eqT rfl rfl) ?_
      refine ws_p rfl rfl rfl rfl (p_mv rfl) ?_
      refine ws_know (d := 51) (b' := true) rfl ((by first | exact beq_self_eq_true _ | exact decide_eq_true rfl)) ?_
      refine ws_pg rfl (gd_ rfl rfl rfl rfl rfl rfl) rfl rfl (p_mv rfl) ?_
      refine ws_pg rfl (gd_ rfl rfl rfl rfl rfl rfl) rfl rfl (p_mv rfl) ?_
      refine ws_eg rfl (gd_ rfl rfl rfl rfl rfl rfl) (e_call ent14 rfl rfl (same_any (hL28) (hL38) (by omega) (by omega)) ?_)
      rintro _ w14 ⟨rfl, hc⟩
      refine ⟨_, rfl, hc, ?_⟩
      have hzw14 := hc.size
      have HC := HC.tr hc
      have hb := hb.no hc
      have hq := hq.no hc
      have hb5 := hb5.ch hc (fun h => h)
      have hL28 := hL28.no hc
      have hL38 := hL38.no hc
      have hW44 := hW44.after hc
      have hW48 := hW48.after hc
      refine ws_narrow (S' := fun x => Ch No w14 x) (Ch.refl _ _) (fun x h => hc.tr h) ?_
      refine ws_p rfl rfl rfl rfl (p_pickT rfl rfl) ?_
      refine ws_p rfl rfl rfl rfl (p_mv rfl) ?_
      refine ws_know (d := 56) (b' := true) rfl ((by first | exact beq_self_eq_true _ | exact decide_eq_true rfl)) ?_
      refine ws_pg rfl (gd_ rfl rfl rfl rfl rfl rfl) rfl rfl (p_mv rfl) ?_
      refine ws_pg rfl (gd_ rfl rfl rfl rfl rfl rfl) rfl rfl (p_mv rfl) ?_
      refine ws_pg rfl (gd_ rfl rfl rfl rfl rfl rfl) rfl rfl (p_eq rfl rfl) ?_
      refine ws_p rfl rfl rfl rfl (p_pickT rfl rfl) ?_
      refine ws_p rfl rfl rfl rfl (p_mv rfl) ?_
      refine ws_know (d := 61) (b' := true) rfl ((by first | exact beq_self_eq_true _ | exact decide_eq_true rfl)) ?_
      refine ws_pg rfl (gd_ rfl rfl rfl rfl rfl rfl) rfl rfl (p_mv rfl) ?_
      refine ws_pg rfl (gd_ rfl rfl rfl rfl rfl rfl) rfl rfl (p_mv rfl) ?_
      refine ws_pg rfl (gd_ rfl rfl rfl rfl rfl rfl) rfl rfl (p_eqB rfl rfl Try.underlying4) ?_
      refine ws_p rfl rfl rfl rfl (p_pickT rfl rfl) ?_
      refine ws_p rfl rfl rfl rfl (p_mv rfl) ?_
      refine ws_know (d := 66) (b' := true) rfl ((by first | exact beq_self_eq_true _ | exact decide_eq_true rfl)) ?_
      refine ws_eg rfl (gd_ rfl rfl rfl rfl rfl rfl) (e_call ent11 rfl rfl (lives_any) ?_)
      rintro _ w15 ⟨rfl, hc⟩
      refine ⟨_, rfl, hc, ?_⟩
      have hzw15 := hc.size
      have HC := HC.tr hc
      have hb := hb.no hc
      have hq := hq.no hc
      have hb5 := hb5.ch hc (fun h => h)
      have hL28 := hL28.no hc
      have hL38 := hL38.no hc
      have hW44 := hW44.after hc
      have hW48 := hW48.after hc
      refine ws_narrow (S' := fun x => Ch No w15 x) (Ch.refl _ _) (fun x h => hc.tr h) ?_
      refine ws_p rfl rfl rfl rfl (p_pickT rfl rfl) ?_
      refine ws_p rfl rfl rfl rfl (p_as rfl) ?_
      refine ws_n ?_
      refine x_seq ?_
      refine wc_ret ?_
      refine fin_run (res1 rfl rfl) ?_
      exact ⟨rfl, HC⟩
end Go.Proofs.Ytdbdconmcgcooaa
