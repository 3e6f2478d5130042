/-
  Own text, printed by a program of mine (wip/gx): what functions of the program do, walked operation by operation.
-/
import Derived.Test.YtdencdfdikmgbaaGreatDoorWm2
import Derived.Test.YtdencdfdikmgbaaGreatDoorProg
import Derived.Test.YtdencdfdikmgbaaGreatDoorTab
import Derived.Test.YtdencdfdikmgbaaGreatDoorZS
import Derived.Test.YtdencdfdikmgbaaGreatDoorRxWk
import Derived.Test.YtdencdfdikmgbaaGreatDoorZs0
import Derived.Test.YtdencdfdikmgbaaGreatDoorZs1
set_option linter.unusedVariables false
set_option linter.unusedSimpArgs false
set_option maxHeartbeats 1000000
set_option maxRecDepth 20000
namespace Go.Proofs.YtdencdfdikmgbaaGreatDoor
open Go.RowKit Go.Gx
open Go.Plain
open Tryz
set_option maxHeartbeats 4000000 in
theorem wholeSound_walk {w : World} {n i : Int} {sa na : Int} {ba : Bool} {Ara : Option Addr} {lra cra : Nat} {Fra : Nat → Prop} {ra : List RD} {Awa : Option Addr} {lwa cwa : Nat} {Fwa : Nat → Prop} {wa : List Pr} {Ga : Nat → Prop} {Ap : Option Addr} {lp cp : Nat} {Fp : Nat → Prop} {p : List (List UInt8)} {sb nb : Int} {bb : Bool} {Arb : Option Addr} {lrb crb : Nat} {Frb : Nat → Prop} {rb : List RD} {Awb : Option Addr} {lwb cwb : Nat} {Fwb : Nat → Prop} {wb : List Pr} {Gb : Nat → Prop} {Aq : Option Addr} {lq cq : Nat} {Fq : Nat → Prop} {q : List (List UInt8)}  (hra : SI w Fra eRD Ara lra cra ra) (hwa : SI w Fwa ePR Awa lwa cwa wa) (hna : NS w Ga ra) (hp : SI w Fp eHs Ap lp cp p) (hrb : SI w Frb eRD Arb lrb crb rb) (hwb : SI w Fwb ePR Awb lwb cwb wb) (hnb : NS w Gb rb) (hq : SI w Fq eHs Aq lq cq q) (hlr : lra ≤ 140737488351232) (hlw : lwa ≤ 140737488351232) (hlp0 : lp ≤ 140737488351232) (hlrb : lrb ≤ 140737488351232) (hlwb : lwb ≤ 140737488351232) (hlq0 : lq ≤ 140737488351232) (hT : Tabs w) :
    Calls Tryz.prog 3 #[i64 n, i64 i, .agg ([i64 sa, i64 na, .bool ba, .slice Ara lra cra, .slice Awa lwa cwa, .slice Ap lp cp, i64 sb, i64 nb, .bool bb, .slice Arb lrb crb, .slice Awb lwb cwb, .slice Aq lq cq] : List Value).toArray] w fun e w' => e = .returned (.bool true) ∧ Ch No w w' := by
  have hrla := hra.len
  have hwla := hwa.len
  have hna := hna.old
  have hrlb := hrb.len
  have hwlb := hwb.len
  have hnb := hnb.old
  have hrnd := hT.rk
  have hn4 := tabs_lt hT
  have hn0 : 0 < w.heap.size := by omega
  have hpl := hp.len
  have hql := hq.len
  have hra := hra.old
  have hwa := hwa.old
  have hrb := hrb.old
  have hwb := hwb.old
  have hp := hp.old
  have hq := hq.old
  have HC : Ch No w w := Ch.refl _ _
  refine enter' (args := [_, _, _]) (n := 133) Tryz.func3 rfl rfl rfl ?_
  refine wc_seq (wc_region ?_)
  refine wle rfl (e_box (cs := ([i64 sa, i64 na, .bool ba, .slice Ara lra cra, .slice Awa lwa cwa, .slice Ap lp cp, i64 sb, i64 nb, .bool bb, .slice Arb lrb crb, .slice Awb lwb cwb, .slice Aq lq cq] : List Value).toArray) rfl rfl rfl (fun w1 g5 hg5 hb5 hc hsz5 => ?_))
  have hzw1 := hc.size
  have hge5 := HC.geo hg5
  have HC := HC.tr hc
  have hra := hra.no hc
  have hwa := hwa.no hc
  have hna := hna.cc hc
  have hrb := hrb.no hc
  have hwb := hwb.no hc
  have hnb := hnb.cc hc
  have hp := hp.no hc
  have hq := hq.no hc
  have hT := hT.cc hc
  have hrnd := hrnd.no hc
  refine was ?_
  refine wl_nil (x_seq ?_)
  refine wc_cut (fun e w' => ∃ (g7 : Nat) (g8 : Nat), e = [(0, i64 n), (1, i64 i), (7, .pointer (some ⟨g7, 0, none⟩)), (8, .pointer (some ⟨g8, 0, none⟩))] ∧ (Ch No w w') ∧ (SI w' (fun k => k < w.heap.size) eRD Ara lra cra ra) ∧ (SI w' (fun k => k < w.heap.size) ePR Awa lwa cwa wa) ∧ (NS w' (fun k => k < w.heap.size) ra) ∧ (SI w' (fun k => k < w.heap.size) eRD Arb lrb crb rb) ∧ (SI w' (fun k => k < w.heap.size) ePR Awb lwb cwb wb) ∧ (NS w' (fun k => k < w.heap.size) rb) ∧ (SI w' (fun k => k < w.heap.size) eHs Ap lp cp p) ∧ (SI w' (fun k => k < w.heap.size) eHs Aq lq cq q) ∧ (Tabs w') ∧ (Sl w' (fun k => k = 0) u32v (some ⟨0, 0, none⟩) 64 64 rk) ∧ (Blk w' g7 28 ([i64 sa, i64 na, .bool ba, .slice Ara lra cra, .slice Awa lwa cwa, .slice Ap lp cp] : List Value).toArray) ∧ (Blk w' g8 28 ([i64 sb, i64 nb, .bool bb, .slice Arb lrb crb, .slice Awb lwb cwb, .slice Aq lq cq] : List Value).toArray) ∧ (w.heap.size ≤ g7 ∧ w.heap.size ≤ g8 ∧ g7 ≠ g8)) ?_ ?_
  ·
   refine wdr (.st 0 0 (.st 1 1 (.st 2 0 (.st 3 1 (.alt (.st 4 2 (.st 5 2 (.st 6 2 (.st 7 3 .nil)))) (.st 5 2 (.st 4 2 (.st 6 2 (.st 7 3 .nil))))))))) 7 No (fun w2 hc hszw2 => ?_)
   have hzw2 := hc.size
   have HC := HC.tr hc
   have hra := hra.no hc
   have hwa := hwa.no hc
   have hna := hna.cc hc
   have hrb := hrb.no hc
   have hwb := hwb.no hc
   have hnb := hnb.cc hc
   have hp := hp.no hc
   have hq := hq.no hc
   have hT := hT.cc hc
   have hrnd := hrnd.no hc
   have hb5 := hb5.no hc
   have hS : Ch (No) w2 w2 := Ch.refl _ _
   refine ws_p rfl rfl rfl rfl (p_ixA (j := 0) underlying29 sz28 rfl rfl (by omega) (by omega) rfl) ?_
   refine ws_h rfl rfl rfl rfl (p_ldA (cs := [i64 sa, i64 na, .bool ba, .slice Ara lra cra, .slice Awa lwa cwa, .slice Ap lp cp]) underlying28 rfl (szL sz28 rfl) rfl (fun _ h => rng_at (p := []) (q := ([i64 sa, i64 na, .bool ba, .slice Ara lra cra, .slice Awa lwa cwa, .slice Ap lp cp] : List Value)) (r := ([i64 sb, i64 nb, .bool bb, .slice Arb lrb crb, .slice Awb lwb cwb, .slice Aq lq cq] : List Value)) (hb5.ch h (fun h => h)) rfl rfl)) ?_
   refine ws_p rfl rfl rfl rfl (p_ixA (j := 6) underlying29 sz28 rfl rfl (by omega) (by omega) rfl) ?_
   refine ws_h rfl rfl rfl rfl (p_ldA (cs := [i64 sb, i64 nb, .bool bb, .slice Arb lrb crb, .slice Awb lwb cwb, .slice Aq lq cq]) underlying28 rfl (szL sz28 rfl) rfl (fun _ h => rng_at (p := ([i64 sa, i64 na, .bool ba, .slice Ara lra cra, .slice Awa lwa cwa, .slice Ap lp cp] : List Value)) (q := ([i64 sb, i64 nb, .bool bb, .slice Arb lrb crb, .slice Awb lwb cwb, .slice Aq lq cq] : List Value)) (r := []) (hb5.ch h (fun h => h)) rfl rfl)) ?_
   refine ws_alt ?_ ?_
   ·
    have hltg5 := hb5.lt
    refine ws_e rfl rfl (e_alloc (cs := ([Value.int .i64 0, Value.int .i64 0, Value.bool false, Value.slice none 0 0, Value.slice none 0 0, Value.slice none 0 0] : List Value).toArray) rfl (by rfl) rfl (fun w5 g7 hg7 hb7 hc hsz7 => ⟨hS.tr hc, ?_⟩))
    have hzw5 := hc.size
    have hge7 := HC.geo hg7
    have HC := HC.tr hc
    have hra := hra.no hc
    have hwa := hwa.no hc
    have hna := hna.cc hc
    have hrb := hrb.no hc
    have hwb := hwb.no hc
    have hnb := hnb.cc hc
    have hp := hp.no hc
    have hq := hq.no hc
    have hT := hT.cc hc
    have hrnd := hrnd.no hc
    have hb5 := hb5.no hc
    have neg5_7 : g5 < g7 := by omega
    have hS := hS.tr hc
    have hltg5 := hb5.lt
    have hltg7 := hb7.lt
    refine ws_e rfl rfl (e_alloc (cs := ([Value.int .i64 0, Value.int .i64 0, Value.bool false, Value.slice none 0 0, Value.slice none 0 0, Value.slice none 0 0] : List Value).toArray) rfl (by rfl) rfl (fun w6 g8 hg8 hb8 hc hsz8 => ⟨hS.tr hc, ?_⟩))
    have hzw6 := hc.size
    have hge8 := HC.geo hg8
    have HC := HC.tr hc
    have hra := hra.no hc
    have hwa := hwa.no hc
    have hna := hna.cc hc
    have hrb := hrb.no hc
    have hwb := hwb.no hc
    have hnb := hnb.cc hc
    have hp := hp.no hc
    have hq := hq.no hc
    have hT := hT.cc hc
    have hrnd := hrnd.no hc
    have hb5 := hb5.no hc
    have hb7 := hb7.no hc
    have neg5_8 : g5 < g8 := by omega
    have neg7_8 : g7 < g8 := by omega
    have hS := hS.tr hc
    refine ws_e rfl rfl (e_stW (vs := ([i64 sa, i64 na, .bool ba, .slice Ara lra cra, .slice Awa lwa cwa, .slice Ap lp cp] : List Value)) (szL sz28 rfl) (allOne rfl) rfl rfl hb7 rfl (fun w7 hb7 hc hsz => ⟨(hS.trans hc (fun _ _ h => h) (fun k hk ht => by have h9 : k = _ := ht; omega)), ?_⟩))
    have hzw7 := hc.size
    have HC := HC.n hc
    first | have hra := hra.cc hc | have hra := hra.cT hc
    first | have hwa := hwa.cc hc | have hwa := hwa.cT hc
    have hna := hna.cc hc
    first | have hrb := hrb.cc hc | have hrb := hrb.cT hc
    first | have hwb := hwb.cc hc | have hwb := hwb.cT hc
    have hnb := hnb.cc hc
    first | have hp := hp.cc hc | have hp := hp.cT hc
    first | have hq := hq.cc hc | have hq := hq.cT hc
    have hT := hT.cc hc
    first | have hrnd := hrnd.cc hc | have hrnd := hrnd.cT hc
    have hb5 := hb5.cc hc
    have hb8 := hb8.cc hc
    have hS := (hS.trans hc (fun _ _ h => h) (fun k hk ht => by have h9 : k = _ := ht; omega))
    refine ws_l rfl rfl (e_stW (vs := ([i64 sb, i64 nb, .bool bb, .slice Arb lrb crb, .slice Awb lwb cwb, .slice Aq lq cq] : List Value)) (szL sz28 rfl) (allOne rfl) rfl rfl hb8 rfl (fun w8 hb8 hc hsz => ?_))
    have hzw8 := hc.size
    have HC := HC.n hc
    first | have hra := hra.cc hc | have hra := hra.cT hc
    first | have hwa := hwa.cc hc | have hwa := hwa.cT hc
    have hna := hna.cc hc
    first | have hrb := hrb.cc hc | have hrb := hrb.cT hc
    first | have hwb := hwb.cc hc | have hwb := hwb.cT hc
    have hnb := hnb.cc hc
    first | have hp := hp.cc hc | have hp := hp.cT hc
    first | have hq := hq.cc hc | have hq := hq.cT hc
    have hT := hT.cc hc
    first | have hrnd := hrnd.cc hc | have hrnd := hrnd.cT hc
    have hb5 := hb5.cc hc
    have hb7 := hb7.cc hc
    refine ws_n ?_
    exact x_meet (by repeat (first | exact trivial | refine ⟨rfl, ?_⟩)) ⟨_, _, rfl, HC, hra, hwa, hna, hrb, hwb, hnb, hp, hq, hT, hrnd, hb7, hb8, ⟨by omega, by omega, by omega⟩⟩
   ·
    have hltg5 := hb5.lt
    refine ws_e rfl rfl (e_alloc (cs := ([Value.int .i64 0, Value.int .i64 0, Value.bool false, Value.slice none 0 0, Value.slice none 0 0, Value.slice none 0 0] : List Value).toArray) rfl (by rfl) rfl (fun w9 g8 hg8 hb8 hc hsz8 => ⟨hS.tr hc, ?_⟩))
    have hzw9 := hc.size
    have hge8 := HC.geo hg8
    have HC := HC.tr hc
    have hra := hra.no hc
    have hwa := hwa.no hc
    have hna := hna.cc hc
    have hrb := hrb.no hc
    have hwb := hwb.no hc
    have hnb := hnb.cc hc
    have hp := hp.no hc
    have hq := hq.no hc
    have hT := hT.cc hc
    have hrnd := hrnd.no hc
    have hb5 := hb5.no hc
    have neg5_8 : g5 < g8 := by omega
    have hS := hS.tr hc
    have hltg5 := hb5.lt
    have hltg8 := hb8.lt
    refine ws_e rfl rfl (e_alloc (cs := ([Value.int .i64 0, Value.int .i64 0, Value.bool false, Value.slice none 0 0, Value.slice none 0 0, Value.slice none 0 0] : List Value).toArray) rfl (by rfl) rfl (fun w10 g7 hg7 hb7 hc hsz7 => ⟨hS.tr hc, ?_⟩))
    have hzw10 := hc.size
    have hge7 := HC.geo hg7
    have HC := HC.tr hc
    have hra := hra.no hc
    have hwa := hwa.no hc
    have hna := hna.cc hc
    have hrb := hrb.no hc
    have hwb := hwb.no hc
    have hnb := hnb.cc hc
    have hp := hp.no hc
    have hq := hq.no hc
    have hT := hT.cc hc
    have hrnd := hrnd.no hc
    have hb5 := hb5.no hc
    have hb8 := hb8.no hc
    have neg5_7 : g5 < g7 := by omega
    have neg8_7 : g8 < g7 := by omega
    have hS := hS.tr hc
    refine ws_e rfl rfl (e_stW (vs := ([i64 sa, i64 na, .bool ba, .slice Ara lra cra, .slice Awa lwa cwa, .slice Ap lp cp] : List Value)) (szL sz28 rfl) (allOne rfl) rfl rfl hb7 rfl (fun w11 hb7 hc hsz => ⟨(hS.trans hc (fun _ _ h => h) (fun k hk ht => by have h9 : k = _ := ht; omega)), ?_⟩))
    have hzw11 := hc.size
    have HC := HC.n hc
    first | have hra := hra.cc hc | have hra := hra.cT hc
    first | have hwa := hwa.cc hc | have hwa := hwa.cT hc
    have hna := hna.cc hc
    first | have hrb := hrb.cc hc | have hrb := hrb.cT hc
    first | have hwb := hwb.cc hc | have hwb := hwb.cT hc
    have hnb := hnb.cc hc
    first | have hp := hp.cc hc | have hp := hp.cT hc
    first | have hq := hq.cc hc | have hq := hq.cT hc
    have hT := hT.cc hc
    first | have hrnd := hrnd.cc hc | have hrnd := hrnd.cT hc
    have hb5 := hb5.cc hc
    have hb8 := hb8.cc hc
    have hS := (hS.trans hc (fun _ _ h => h) (fun k hk ht => by have h9 : k = _ := ht; omega))
    refine ws_l rfl rfl (e_stW (vs := ([i64 sb, i64 nb, .bool bb, .slice Arb lrb crb, .slice Awb lwb cwb, .slice Aq lq cq] : List Value)) (szL sz28 rfl) (allOne rfl) rfl rfl hb8 rfl (fun w12 hb8 hc hsz => ?_))
    have hzw12 := hc.size
    have HC := HC.n hc
    first | have hra := hra.cc hc | have hra := hra.cT hc
    first | have hwa := hwa.cc hc | have hwa := hwa.cT hc
    have hna := hna.cc hc
    first | have hrb := hrb.cc hc | have hrb := hrb.cT hc
    first | have hwb := hwb.cc hc | have hwb := hwb.cT hc
    have hnb := hnb.cc hc
    first | have hp := hp.cc hc | have hp := hp.cT hc
    first | have hq := hq.cc hc | have hq := hq.cT hc
    have hT := hT.cc hc
    first | have hrnd := hrnd.cc hc | have hrnd := hrnd.cT hc
    have hb5 := hb5.cc hc
    have hb7 := hb7.cc hc
    refine ws_n ?_
    exact x_meet (by repeat (first | exact trivial | refine ⟨rfl, ?_⟩)) ⟨_, _, rfl, HC, hra, hwa, hna, hrb, hwb, hnb, hp, hq, hT, hrnd, hb7, hb8, ⟨by omega, by omega, by omega⟩⟩
  ·
   rintro _ w13 ⟨g7, g8, rfl, HC, hra, hwa, hna, hrb, hwb, hnb, hp, hq, hT, hrnd, hb7, hb8, hg⟩
   have hzw13 := HC.size
   refine wc_seq (wc_seq (wc_region ?_))
   refine wz (pfl 0 underlying28) ?_
   refine wz (p_ldA (cs := [i64 sa, i64 na, .bool ba, .slice Ara lra cra, .slice Awa lwa cwa]) underlying25 rfl (szL sz25 rfl) rfl (fun _ e => e ▸ rng_at (p := []) (q := ([i64 sa, i64 na, .bool ba, .slice Ara lra cra, .slice Awa lwa cwa] : List Value)) (r := ([.slice Ap lp cp] : List Value)) hb7 rfl rfl)) ?_
   refine wle rfl (e_call ent5 rfl rfl (light_any (hra) (hwa) hna (by omega) (by omega) (z0 := 300) (by omega)) ?_)
   rintro _ w14 ⟨z22, rfl, hz22, hc⟩
   refine ⟨_, rfl, ?_⟩
   have hzw14 := hc.size
   have HC := HC.tr hc
   have hra := hra.no hc
   have hwa := hwa.no hc
   have hna := hna.cc hc
   have hrb := hrb.no hc
   have hwb := hwb.no hc
   have hnb := hnb.cc hc
   have hp := hp.no hc
   have hq := hq.no hc
   have hT := hT.cc hc
   have hrnd := hrnd.no hc
   have hb7 := hb7.no hc
   have hb8 := hb8.no hc
   refine wz (p_lt rfl rfl) ?_
   refine wmv ?_
   refine wl_split (d := 24) rfl (fun q24 => ?_) (fun q24 => ?_)
   ·
    have q24 := of_decide_eq_true q24
    iterate 4 refine wl_s gq rfl rfl ?_
    refine wz (p_pickT rfl rfl) ?_
    refine wmv ?_
    iterate 4 refine wl_s gq rfl rfl ?_
    refine wz (p_pickT rfl rfl) ?_
    refine wmv ?_
    iterate 4 refine wl_s gq rfl rfl ?_
    refine wz (p_pickT rfl rfl) ?_
    refine wmv ?_
    iterate 4 refine wl_s gq rfl rfl ?_
    refine wz (p_pickT rfl rfl) ?_
    refine wmv ?_
    iterate 4 refine wl_s gq rfl rfl ?_
    refine wz (p_pickT rfl rfl) ?_
    refine wl_nil (x_seq ?_)
    refine wc_yes rfl (rfl) ?_
    refine wc_seq (wc_region ?_)
    refine wle rfl (e_call ent7 rfl rfl (works_any hT) ?_)
    rintro _ w15 ⟨rfl, hc⟩
    refine ⟨_, rfl, ?_⟩
    have hzw15 := hc.size
    have HC := HC.tr hc
    have hra := hra.no hc
    have hwa := hwa.no hc
    have hna := hna.cc hc
    have hrb := hrb.no hc
    have hwb := hwb.no hc
    have hnb := hnb.cc hc
    have hp := hp.no hc
    have hq := hq.no hc
    have hT := hT.cc hc
    have hrnd := hrnd.no hc
    have hb7 := hb7.no hc
    have hb8 := hb8.no hc
    refine was ?_
    refine wl_nil (x_seq (wc_ret (x_then_ret ?_)))
    refine fin_run ((res1 rfl rfl)) ?_
    exact ⟨rfl, HC⟩
   ·
    have q24 := of_decide_eq_false q24
    refine wl_g gq rfl rfl (pfl 0 underlying28) ?_
    refine wl_g gq rfl rfl (p_ldA (cs := [i64 sb, i64 nb, .bool bb, .slice Arb lrb crb, .slice Awb lwb cwb]) underlying25 rfl (szL sz25 rfl) rfl (fun _ e => e ▸ rng_at (p := []) (q := ([i64 sb, i64 nb, .bool bb, .slice Arb lrb crb, .slice Awb lwb cwb] : List Value)) (r := ([.slice Aq lq cq] : List Value)) hb8 rfl rfl)) ?_
    refine wle_g gq (e_call ent5 rfl rfl (light_any (hrb) (hwb) hnb (by omega) (by omega) (z0 := 300) (by omega)) ?_)
    rintro _ w16 ⟨z27, rfl, hz27, hc⟩
    refine ⟨_, rfl, ?_⟩
    have hzw16 := hc.size
    have HC := HC.tr hc
    have hra := hra.no hc
    have hwa := hwa.no hc
    have hna := hna.cc hc
    have hrb := hrb.no hc
    have hwb := hwb.no hc
    have hnb := hnb.cc hc
    have hp := hp.no hc
    have hq := hq.no hc
    have hT := hT.cc hc
    have hrnd := hrnd.no hc
    have hb7 := hb7.no hc
    have hb8 := hb8.no hc
    refine wl_g gq rfl rfl (p_lt rfl rfl) ?_
    refine wz (p_pickF rfl rfl) ?_
    refine wmv ?_
    refine wl_split (d := 30) rfl (fun q30 => ?_) (fun q30 => ?_)
    ·
     have q30 := of_decide_eq_true q30
     iterate 4 refine wl_s gq rfl rfl ?_
     refine wz (p_pickT rfl rfl) ?_
     refine wmv ?_
     iterate 4 refine wl_s gq rfl rfl ?_
     refine wz (p_pickT rfl rfl) ?_
     refine wmv ?_
     iterate 4 refine wl_s gq rfl rfl ?_
     refine wz (p_pickT rfl rfl) ?_
     refine wmv ?_
     iterate 4 refine wl_s gq rfl rfl ?_
     refine wz (p_pickT rfl rfl) ?_
     refine wl_nil (x_seq ?_)
     refine wc_yes rfl (rfl) ?_
     refine wc_seq (wc_region ?_)
     refine wle rfl (e_call ent7 rfl rfl (works_any hT) ?_)
     rintro _ w17 ⟨rfl, hc⟩
     refine ⟨_, rfl, ?_⟩
     have hzw17 := hc.size
     have HC := HC.tr hc
     have hra := hra.no hc
     have hwa := hwa.no hc
     have hna := hna.cc hc
     have hrb := hrb.no hc
     have hwb := hwb.no hc
     have hnb := hnb.cc hc
     have hp := hp.no hc
     have hq := hq.no hc
     have hT := hT.cc hc
     have hrnd := hrnd.no hc
     have hb7 := hb7.no hc
     have hb8 := hb8.no hc
     refine was ?_
     refine wl_nil (x_seq (wc_ret (x_then_ret ?_)))
     refine fin_run ((res1 rfl rfl)) ?_
     exact ⟨rfl, HC⟩
    ·
     have q30 := of_decide_eq_false q30
     refine wl_g gq rfl rfl (pfl 5 underlying28) ?_
     refine wl_g gq rfl rfl (pldb underlying26 hb7) ?_
     refine wl_g gq rfl rfl (p_lenS underlying26 rfl) ?_
     refine wl_g gq rfl rfl (p_gt rfl rfl) ?_
     refine wz (p_pickF rfl rfl) ?_
     refine wmv ?_
     refine wl_split (d := 36) rfl (fun q36 => ?_) (fun q36 => ?_)
     ·
      have q36 := of_decide_eq_true q36
      iterate 4 refine wl_s gq rfl rfl ?_
      refine wz (p_pickT rfl rfl) ?_
      refine wmv ?_
      iterate 4 refine wl_s gq rfl rfl ?_
      refine wz (p_pickT rfl rfl) ?_
      refine wmv ?_
      iterate 4 refine wl_s gq rfl rfl ?_
      refine wz (p_pickT rfl rfl) ?_
      refine wl_nil (x_seq ?_)
      refine wc_yes rfl (rfl) ?_
      refine wc_seq (wc_region ?_)
      refine wle rfl (e_call ent7 rfl rfl (works_any hT) ?_)
      rintro _ w18 ⟨rfl, hc⟩
      refine ⟨_, rfl, ?_⟩
      have hzw18 := hc.size
      have HC := HC.tr hc
      have hra := hra.no hc
      have hwa := hwa.no hc
      have hna := hna.cc hc
      have hrb := hrb.no hc
      have hwb := hwb.no hc
      have hnb := hnb.cc hc
      have hp := hp.no hc
      have hq := hq.no hc
      have hT := hT.cc hc
      have hrnd := hrnd.no hc
      have hb7 := hb7.no hc
      have hb8 := hb8.no hc
      refine was ?_
      refine wl_nil (x_seq (wc_ret (x_then_ret ?_)))
      refine fin_run ((res1 rfl rfl)) ?_
      exact ⟨rfl, HC⟩
     ·
      have q36 := of_decide_eq_false q36
      refine wl_g gq rfl rfl (pfl 5 underlying28) ?_
      refine wl_g gq rfl rfl (pldb underlying26 hb8) ?_
      refine wl_g gq rfl rfl (p_lenS underlying26 rfl) ?_
      refine wl_g gq rfl rfl (p_gt rfl rfl) ?_
      refine wz (p_pickF rfl rfl) ?_
      refine wmv ?_
      refine wl_split (d := 42) rfl (fun q42 => ?_) (fun q42 => ?_)
      ·
       have q42 := of_decide_eq_true q42
       iterate 4 refine wl_s gq rfl rfl ?_
       refine wz (p_pickT rfl rfl) ?_
       refine wmv ?_
       iterate 4 refine wl_s gq rfl rfl ?_
       refine wz (p_pickT rfl rfl) ?_
       refine wl_nil (x_seq ?_)
       refine wc_yes rfl (rfl) ?_
       refine wc_seq (wc_region ?_)
       refine wle rfl (e_call ent7 rfl rfl (works_any hT) ?_)
       rintro _ w19 ⟨rfl, hc⟩
       refine ⟨_, rfl, ?_⟩
       have hzw19 := hc.size
       have HC := HC.tr hc
       have hra := hra.no hc
       have hwa := hwa.no hc
       have hna := hna.cc hc
       have hrb := hrb.no hc
       have hwb := hwb.no hc
       have hnb := hnb.cc hc
       have hp := hp.no hc
       have hq := hq.no hc
       have hT := hT.cc hc
       have hrnd := hrnd.no hc
       have hb7 := hb7.no hc
       have hb8 := hb8.no hc
       refine was ?_
       refine wl_nil (x_seq (wc_ret (x_then_ret ?_)))
       refine fin_run ((res1 rfl rfl)) ?_
       exact ⟨rfl, HC⟩
      ·
       have q42 := of_decide_eq_false q42
       refine wl_g gq rfl rfl (pfl 0 underlying28) ?_
       refine wl_g gq rfl rfl (p_ldA (cs := [i64 sa, i64 na, .bool ba, .slice Ara lra cra, .slice Awa lwa cwa]) underlying25 rfl (szL sz25 rfl) rfl (fun _ e => e ▸ rng_at (p := []) (q := ([i64 sa, i64 na, .bool ba, .slice Ara lra cra, .slice Awa lwa cwa] : List Value)) (r := ([.slice Ap lp cp] : List Value)) hb7 rfl rfl)) ?_
       refine wle_g gq (e_call ent6 rfl rfl (rgood_rec (hra) (hwa) hna (by omega) (by omega)) ?_)
       rintro _ w20 ⟨x45, rfl, hx45, hc⟩
       refine ⟨_, rfl, ?_⟩
       have hzw20 := hc.size
       have HC := HC.tr hc
       have hra := hra.no hc
       have hwa := hwa.no hc
       have hna := hna.cc hc
       have hrb := hrb.no hc
       have hwb := hwb.no hc
       have hnb := hnb.cc hc
       have hp := hp.no hc
       have hq := hq.no hc
       have hT := hT.cc hc
       have hrnd := hrnd.no hc
       have hb7 := hb7.no hc
       have hb8 := hb8.no hc
       refine wl_g gq rfl rfl (p_not rfl) ?_
       refine wz (p_pickF rfl rfl) ?_
       refine wmv ?_
       refine wl_split (d := 48) rfl (fun q48 => ?_) (fun q48 => ?_)
       ·
        iterate 4 refine wl_s gq rfl rfl ?_
        refine wz (p_pickT rfl rfl) ?_
        refine wl_nil (x_seq ?_)
        refine wc_yes rfl (rfl) ?_
        refine wc_seq (wc_region ?_)
        refine wle rfl (e_call ent7 rfl rfl (works_any hT) ?_)
        rintro _ w21 ⟨rfl, hc⟩
        refine ⟨_, rfl, ?_⟩
        have hzw21 := hc.size
        have HC := HC.tr hc
        have hra := hra.no hc
        have hwa := hwa.no hc
        have hna := hna.cc hc
        have hrb := hrb.no hc
        have hwb := hwb.no hc
        have hnb := hnb.cc hc
        have hp := hp.no hc
        have hq := hq.no hc
        have hT := hT.cc hc
        have hrnd := hrnd.no hc
        have hb7 := hb7.no hc
        have hb8 := hb8.no hc
        refine was ?_
        refine wl_nil (x_seq (wc_ret (x_then_ret ?_)))
        refine fin_run ((res1 rfl rfl)) ?_
        exact ⟨rfl, HC⟩
       ·
        have hRa := hx45 (by simpa using q48)
        refine wl_g gq rfl rfl (pfl 0 underlying28) ?_
        refine wl_g gq rfl rfl (p_ldA (cs := [i64 sb, i64 nb, .bool bb, .slice Arb lrb crb, .slice Awb lwb cwb]) underlying25 rfl (szL sz25 rfl) rfl (fun _ e => e ▸ rng_at (p := []) (q := ([i64 sb, i64 nb, .bool bb, .slice Arb lrb crb, .slice Awb lwb cwb] : List Value)) (r := ([.slice Aq lq cq] : List Value)) hb8 rfl rfl)) ?_
        refine wle_g gq (e_call ent6 rfl rfl (rgood_rec (hrb) (hwb) hnb (by omega) (by omega)) ?_)
        rintro _ w22 ⟨x51, rfl, hx51, hc⟩
        refine ⟨_, rfl, ?_⟩
        have hzw22 := hc.size
        have HC := HC.tr hc
        have hra := hra.no hc
        have hwa := hwa.no hc
        have hna := hna.cc hc
        have hrb := hrb.no hc
        have hwb := hwb.no hc
        have hnb := hnb.cc hc
        have hp := hp.no hc
        have hq := hq.no hc
        have hT := hT.cc hc
        have hrnd := hrnd.no hc
        have hb7 := hb7.no hc
        have hb8 := hb8.no hc
        refine wl_g gq rfl rfl (p_not rfl) ?_
        refine wz (p_pickF rfl rfl) ?_
        refine wl_nil (x_seq ?_)
        refine wc_if rfl (fun c0 => ?_) (fun c0 => ?_)
        ·
         refine wc_seq (wc_region ?_)
         refine wle rfl (e_call ent7 rfl rfl (works_any hT) ?_)
         rintro _ w23 ⟨rfl, hc⟩
         refine ⟨_, rfl, ?_⟩
         have hzw23 := hc.size
         have HC := HC.tr hc
         have hra := hra.no hc
         have hwa := hwa.no hc
         have hna := hna.cc hc
         have hrb := hrb.no hc
         have hwb := hwb.no hc
         have hnb := hnb.cc hc
         have hp := hp.no hc
         have hq := hq.no hc
         have hT := hT.cc hc
         have hrnd := hrnd.no hc
         have hb7 := hb7.no hc
         have hb8 := hb8.no hc
         refine was ?_
         refine wl_nil (x_seq (wc_ret (x_then_ret ?_)))
         refine fin_run ((res1 rfl rfl)) ?_
         exact ⟨rfl, HC⟩
        ·
         have hRb := hx51 (by simpa using c0)
         refine wc_skip (x_seq ?_)
         refine wc_cut (fun e w' => ∃ (u63 : List UInt8) (ok63 : Bool) (g9 : Nat), e = [(0, i64 n), (1, i64 i), (7, .pointer (some ⟨g7, 0, none⟩)), (8, .pointer (some ⟨g8, 0, none⟩)), (9, .pointer (some ⟨g9, 0, none⟩)), (10, .bool ok63)] ∧ (Ch No w w') ∧ (SI w' (fun k => k < w.heap.size) eRD Ara lra cra ra) ∧ (SI w' (fun k => k < w.heap.size) ePR Awa lwa cwa wa) ∧ (NS w' (fun k => k < w.heap.size) ra) ∧ (SI w' (fun k => k < w.heap.size) eRD Arb lrb crb rb) ∧ (SI w' (fun k => k < w.heap.size) ePR Awb lwb cwb wb) ∧ (NS w' (fun k => k < w.heap.size) rb) ∧ (SI w' (fun k => k < w.heap.size) eHs Ap lp cp p) ∧ (SI w' (fun k => k < w.heap.size) eHs Aq lq cq q) ∧ (Tabs w') ∧ (Sl w' (fun k => k = 0) u32v (some ⟨0, 0, none⟩) 64 64 rk) ∧ (Blk w' g7 28 ([i64 sa, i64 na, .bool ba, .slice Ara lra cra, .slice Awa lwa cwa, .slice Ap lp cp] : List Value).toArray) ∧ (Blk w' g8 28 ([i64 sb, i64 nb, .bool bb, .slice Arb lrb crb, .slice Awb lwb cwb, .slice Aq lq cq] : List Value).toArray) ∧ (Blk w' g9 34 (List.map u8v u63).toArray) ∧ (u63.length = 32) ∧ (ok63 = true ↔ (1 ≤ n ∧ n ≤ 1099511627776 ∧ 0 ≤ i ∧ i < n ∧ p.length = (trn n.toNat i.toNat).length)) ∧ (ok63 = true → u63 = up2 (sd n.toNat i.toNat) p (leafH (encRC (RC.mk sa na ba (ra.map RD.abs) wa)))) ∧ (w.heap.size ≤ g9)) ?_ ?_
         ·
          refine wdr (.st 0 0 (.st 1 0 (.st 2 0 (.st 3 1 (.st 5 0 (.st 6 1 (.alt (.st 4 2 (.alt (.st 7 2 (.st 8 0 (.st 9 0 (.st 10 0 (.st 11 2 (.st 12 3 (.st 13 0 .nil))))))) (.st 11 2 (.st 7 2 (.st 8 0 (.st 9 0 (.st 10 0 (.st 12 3 (.st 13 0 .nil))))))))) (.st 11 2 (.st 4 2 (.st 7 2 (.st 8 0 (.st 9 0 (.st 10 0 (.st 12 3 (.st 13 0 .nil))))))))))))))) 12 No (fun w24 hc hszw24 => ?_)
          have hzw24 := hc.size
          have HC := HC.tr hc
          have hra := hra.no hc
          have hwa := hwa.no hc
          have hna := hna.cc hc
          have hrb := hrb.no hc
          have hwb := hwb.no hc
          have hnb := hnb.cc hc
          have hp := hp.no hc
          have hq := hq.no hc
          have hT := hT.cc hc
          have hrnd := hrnd.no hc
          have hb7 := hb7.no hc
          have hb8 := hb8.no hc
          have hS : Ch No w24 w24 := Ch.refl _ _
          refine ws_p rfl rfl rfl rfl (p_mv rfl) ?_
          refine ws_p rfl rfl rfl rfl (p_mv rfl) ?_
          refine ws_p rfl rfl rfl rfl (pfl 0 underlying28) ?_
          refine ws_h rfl rfl rfl rfl (p_ldA (cs := [i64 sa, i64 na, .bool ba, .slice Ara lra cra, .slice Awa lwa cwa]) underlying25 rfl (szL sz25 rfl) rfl (fun _ h => rng_at (p := []) (q := ([i64 sa, i64 na, .bool ba, .slice Ara lra cra, .slice Awa lwa cwa] : List Value)) (r := ([.slice Ap lp cp] : List Value)) (hb7.ch h (fun h => h)) rfl rfl)) ?_
          refine ws_p rfl rfl rfl rfl (pfl 5 underlying28) ?_
          refine ws_h rfl rfl rfl rfl (p_ld underlying26 rfl rfl (fun _ h => h.cell (fun h => h) (hb7.cell rfl))) ?_
          refine ws_alt ?_ ?_
          ·
           refine ws_e rfl rfl (e_call ent9 rfl rfl (rLeaf_rec (hra) (hwa) hna (by omega) (by omega) hRa) ?_)
           rintro _ w25 ⟨rfl, hc⟩
           refine ⟨_, rfl, hc, ?_⟩
           have hzw25 := hc.size
           have HC := HC.tr hc
           have hra := hra.no hc
           have hwa := hwa.no hc
           have hna := hna.cc hc
           have hrb := hrb.no hc
           have hwb := hwb.no hc
           have hnb := hnb.cc hc
           have hp := hp.no hc
           have hq := hq.no hc
           have hT := hT.cc hc
           have hrnd := hrnd.no hc
           have hb7 := hb7.no hc
           have hb8 := hb8.no hc
           refine ws_nar hc ?_
           refine ws_alt ?_ ?_
           ·
            refine ws_e rfl rfl (e_call ent8 rfl rfl (rClimb_any (hp) (leafH_len _) (by omega)) ?_)
            rintro _ w26 ⟨u63, ok63, rfl, hu63, hok63, hup63, hc⟩
            refine ⟨_, rfl, hc, ?_⟩
            have hzw26 := hc.size
            have HC := HC.tr hc
            have hra := hra.no hc
            have hwa := hwa.no hc
            have hna := hna.cc hc
            have hrb := hrb.no hc
            have hwb := hwb.no hc
            have hnb := hnb.cc hc
            have hp := hp.no hc
            have hq := hq.no hc
            have hT := hT.cc hc
            have hrnd := hrnd.no hc
            have hb7 := hb7.no hc
            have hb8 := hb8.no hc
            refine ws_nar hc ?_
            refine ws_p rfl rfl rfl rfl (p_mv rfl) ?_
            refine ws_p rfl rfl rfl rfl (p_ext rfl rfl) ?_
            refine ws_p rfl rfl rfl rfl (p_ext rfl rfl) ?_
            have hltg7 := hb7.lt
            have hltg8 := hb8.lt
            refine ws_e rfl rfl (e_alloc (cs := ((List.replicate 32 (0 : UInt8)).map u8v).toArray) rfl (by rfl) rfl (fun w27 g9 hg9 hb9 hc hsz9 => ⟨hc, ?_⟩))
            have hzw27 := hc.size
            have hge9 := HC.geo hg9
            have HC := HC.tr hc
            have hra := hra.no hc
            have hwa := hwa.no hc
            have hna := hna.cc hc
            have hrb := hrb.no hc
            have hwb := hwb.no hc
            have hnb := hnb.cc hc
            have hp := hp.no hc
            have hq := hq.no hc
            have hT := hT.cc hc
            have hrnd := hrnd.no hc
            have hb7 := hb7.no hc
            have hb8 := hb8.no hc
            have neg7_9 : g7 < g9 := by omega
            have neg8_9 : g8 < g9 := by omega
            refine ws_nar hc ?_
            refine ws_l rfl rfl (e_stH sz34 ((List.length_replicate ..)) (hu63) rfl rfl hb9 (fun w28 hb9 hc hsz => ?_))
            have hzw28 := hc.size
            have HC := HC.n hc
            first | have hra := hra.cc hc | have hra := hra.cT hc
            first | have hwa := hwa.cc hc | have hwa := hwa.cT hc
            have hna := hna.cc hc
            first | have hrb := hrb.cc hc | have hrb := hrb.cT hc
            first | have hwb := hwb.cc hc | have hwb := hwb.cT hc
            have hnb := hnb.cc hc
            first | have hp := hp.cc hc | have hp := hp.cT hc
            first | have hq := hq.cc hc | have hq := hq.cT hc
            have hT := hT.cc hc
            first | have hrnd := hrnd.cc hc | have hrnd := hrnd.cT hc
            have hb7 := hb7.cc hc
            have hb8 := hb8.cc hc
            refine ws_p rfl rfl rfl rfl (p_as rfl) ?_
            refine ws_n ?_
            exact x_meet (by repeat (first | exact trivial | refine ⟨rfl, ?_⟩)) ⟨_, _, _, rfl, HC, hra, hwa, hna, hrb, hwb, hnb, hp, hq, hT, hrnd, hb7, hb8, hb9, hu63, hok63, hup63, (by omega)⟩
           ·
            have hltg7 := hb7.lt
            have hltg8 := hb8.lt
            refine ws_e rfl rfl (e_alloc (cs := ((List.replicate 32 (0 : UInt8)).map u8v).toArray) rfl (by rfl) rfl (fun w29 g9 hg9 hb9 hc hsz9 => ⟨hc, ?_⟩))
            have hzw29 := hc.size
            have hge9 := HC.geo hg9
            have HC := HC.tr hc
            have hra := hra.no hc
            have hwa := hwa.no hc
            have hna := hna.cc hc
            have hrb := hrb.no hc
            have hwb := hwb.no hc
            have hnb := hnb.cc hc
            have hp := hp.no hc
            have hq := hq.no hc
            have hT := hT.cc hc
            have hrnd := hrnd.no hc
            have hb7 := hb7.no hc
            have hb8 := hb8.no hc
            have neg7_9 : g7 < g9 := by omega
            have neg8_9 : g8 < g9 := by omega
            refine ws_nar hc ?_
            refine ws_e rfl rfl (e_call ent8 rfl rfl (rClimb_any (hp) (leafH_len _) (by omega)) ?_)
            rintro _ w30 ⟨u63, ok63, rfl, hu63, hok63, hup63, hc⟩
            refine ⟨_, rfl, hc, ?_⟩
            have hzw30 := hc.size
            have HC := HC.tr hc
            have hra := hra.no hc
            have hwa := hwa.no hc
            have hna := hna.cc hc
            have hrb := hrb.no hc
            have hwb := hwb.no hc
            have hnb := hnb.cc hc
            have hp := hp.no hc
            have hq := hq.no hc
            have hT := hT.cc hc
            have hrnd := hrnd.no hc
            have hb7 := hb7.no hc
            have hb8 := hb8.no hc
            have hb9 := hb9.no hc
            refine ws_nar hc ?_
            refine ws_p rfl rfl rfl rfl (p_mv rfl) ?_
            refine ws_p rfl rfl rfl rfl (p_ext rfl rfl) ?_
            refine ws_p rfl rfl rfl rfl (p_ext rfl rfl) ?_
            refine ws_l rfl rfl (e_stH sz34 ((List.length_replicate ..)) (hu63) rfl rfl hb9 (fun w31 hb9 hc hsz => ?_))
            have hzw31 := hc.size
            have HC := HC.n hc
            first | have hra := hra.cc hc | have hra := hra.cT hc
            first | have hwa := hwa.cc hc | have hwa := hwa.cT hc
            have hna := hna.cc hc
            first | have hrb := hrb.cc hc | have hrb := hrb.cT hc
            first | have hwb := hwb.cc hc | have hwb := hwb.cT hc
            have hnb := hnb.cc hc
            first | have hp := hp.cc hc | have hp := hp.cT hc
            first | have hq := hq.cc hc | have hq := hq.cT hc
            have hT := hT.cc hc
            first | have hrnd := hrnd.cc hc | have hrnd := hrnd.cT hc
            have hb7 := hb7.cc hc
            have hb8 := hb8.cc hc
            refine ws_p rfl rfl rfl rfl (p_as rfl) ?_
            refine ws_n ?_
            exact x_meet (by repeat (first | exact trivial | refine ⟨rfl, ?_⟩)) ⟨_, _, _, rfl, HC, hra, hwa, hna, hrb, hwb, hnb, hp, hq, hT, hrnd, hb7, hb8, hb9, hu63, hok63, hup63, (by omega)⟩
          ·
           have hltg7 := hb7.lt
           have hltg8 := hb8.lt
           refine ws_e rfl rfl (e_alloc (cs := ((List.replicate 32 (0 : UInt8)).map u8v).toArray) rfl (by rfl) rfl (fun w32 g9 hg9 hb9 hc hsz9 => ⟨hc, ?_⟩))
           have hzw32 := hc.size
           have hge9 := HC.geo hg9
           have HC := HC.tr hc
           have hra := hra.no hc
           have hwa := hwa.no hc
           have hna := hna.cc hc
           have hrb := hrb.no hc
           have hwb := hwb.no hc
           have hnb := hnb.cc hc
           have hp := hp.no hc
           have hq := hq.no hc
           have hT := hT.cc hc
           have hrnd := hrnd.no hc
           have hb7 := hb7.no hc
           have hb8 := hb8.no hc
           have neg7_9 : g7 < g9 := by omega
           have neg8_9 : g8 < g9 := by omega
           refine ws_nar hc ?_
           refine ws_e rfl rfl (e_call ent9 rfl rfl (rLeaf_rec (hra) (hwa) hna (by omega) (by omega) hRa) ?_)
           rintro _ w33 ⟨rfl, hc⟩
           refine ⟨_, rfl, hc, ?_⟩
           have hzw33 := hc.size
           have HC := HC.tr hc
           have hra := hra.no hc
           have hwa := hwa.no hc
           have hna := hna.cc hc
           have hrb := hrb.no hc
           have hwb := hwb.no hc
           have hnb := hnb.cc hc
           have hp := hp.no hc
           have hq := hq.no hc
           have hT := hT.cc hc
           have hrnd := hrnd.no hc
           have hb7 := hb7.no hc
           have hb8 := hb8.no hc
           have hb9 := hb9.no hc
           refine ws_nar hc ?_
           refine ws_e rfl rfl (e_call ent8 rfl rfl (rClimb_any (hp) (leafH_len _) (by omega)) ?_)
           rintro _ w34 ⟨u63, ok63, rfl, hu63, hok63, hup63, hc⟩
           refine ⟨_, rfl, hc, ?_⟩
           have hzw34 := hc.size
           have HC := HC.tr hc
           have hra := hra.no hc
           have hwa := hwa.no hc
           have hna := hna.cc hc
           have hrb := hrb.no hc
           have hwb := hwb.no hc
           have hnb := hnb.cc hc
           have hp := hp.no hc
           have hq := hq.no hc
           have hT := hT.cc hc
           have hrnd := hrnd.no hc
           have hb7 := hb7.no hc
           have hb8 := hb8.no hc
           have hb9 := hb9.no hc
           refine ws_nar hc ?_
           refine ws_p rfl rfl rfl rfl (p_mv rfl) ?_
           refine ws_p rfl rfl rfl rfl (p_ext rfl rfl) ?_
           refine ws_p rfl rfl rfl rfl (p_ext rfl rfl) ?_
           refine ws_l rfl rfl (e_stH sz34 ((List.length_replicate ..)) (hu63) rfl rfl hb9 (fun w35 hb9 hc hsz => ?_))
           have hzw35 := hc.size
           have HC := HC.n hc
           first | have hra := hra.cc hc | have hra := hra.cT hc
           first | have hwa := hwa.cc hc | have hwa := hwa.cT hc
           have hna := hna.cc hc
           first | have hrb := hrb.cc hc | have hrb := hrb.cT hc
           first | have hwb := hwb.cc hc | have hwb := hwb.cT hc
           have hnb := hnb.cc hc
           first | have hp := hp.cc hc | have hp := hp.cT hc
           first | have hq := hq.cc hc | have hq := hq.cT hc
           have hT := hT.cc hc
           first | have hrnd := hrnd.cc hc | have hrnd := hrnd.cT hc
           have hb7 := hb7.cc hc
           have hb8 := hb8.cc hc
           refine ws_p rfl rfl rfl rfl (p_as rfl) ?_
           refine ws_n ?_
           exact x_meet (by repeat (first | exact trivial | refine ⟨rfl, ?_⟩)) ⟨_, _, _, rfl, HC, hra, hwa, hna, hrb, hwb, hnb, hp, hq, hT, hrnd, hb7, hb8, hb9, hu63, hok63, hup63, (by omega)⟩
         ·
          rintro _ w36 ⟨u63, ok63, g9, rfl, HC, hra, hwa, hna, hrb, hwb, hnb, hp, hq, hT, hrnd, hb7, hb8, hb9, hu63, hok63, hup63, hgtg9⟩
          have hzw36 := HC.size
          refine wc_cut (fun e w' => ∃ (u74 : List UInt8) (ok74 : Bool) (g11 : Nat), e = [(0, i64 n), (1, i64 i), (7, .pointer (some ⟨g7, 0, none⟩)), (8, .pointer (some ⟨g8, 0, none⟩)), (9, .pointer (some ⟨g9, 0, none⟩)), (10, .bool ok63), (11, .pointer (some ⟨g11, 0, none⟩)), (12, .bool ok74)] ∧ (Ch No w w') ∧ (SI w' (fun k => k < w.heap.size) eRD Ara lra cra ra) ∧ (SI w' (fun k => k < w.heap.size) ePR Awa lwa cwa wa) ∧ (NS w' (fun k => k < w.heap.size) ra) ∧ (SI w' (fun k => k < w.heap.size) eRD Arb lrb crb rb) ∧ (SI w' (fun k => k < w.heap.size) ePR Awb lwb cwb wb) ∧ (NS w' (fun k => k < w.heap.size) rb) ∧ (SI w' (fun k => k < w.heap.size) eHs Ap lp cp p) ∧ (SI w' (fun k => k < w.heap.size) eHs Aq lq cq q) ∧ (Tabs w') ∧ (Sl w' (fun k => k = 0) u32v (some ⟨0, 0, none⟩) 64 64 rk) ∧ (Blk w' g7 28 ([i64 sa, i64 na, .bool ba, .slice Ara lra cra, .slice Awa lwa cwa, .slice Ap lp cp] : List Value).toArray) ∧ (Blk w' g8 28 ([i64 sb, i64 nb, .bool bb, .slice Arb lrb crb, .slice Awb lwb cwb, .slice Aq lq cq] : List Value).toArray) ∧ (Blk w' g9 34 (List.map u8v u63).toArray) ∧ (Blk w' g11 34 (List.map u8v u74).toArray) ∧ (u74.length = 32) ∧ (ok74 = true ↔ (1 ≤ n ∧ n ≤ 1099511627776 ∧ 0 ≤ i ∧ i < n ∧ q.length = (trn n.toNat i.toNat).length)) ∧ (ok74 = true → u74 = up2 (sd n.toNat i.toNat) q (leafH (encRC (RC.mk sb nb bb (rb.map RD.abs) wb)))) ∧ (w.heap.size ≤ g11)) ?_ ?_
          ·
           refine wdr (.st 0 0 (.st 1 0 (.st 2 0 (.st 3 1 (.st 5 0 (.st 6 1 (.alt (.st 4 2 (.alt (.st 7 2 (.st 8 0 (.st 9 0 (.st 10 0 (.st 11 2 (.st 12 3 (.st 13 0 .nil))))))) (.st 11 2 (.st 7 2 (.st 8 0 (.st 9 0 (.st 10 0 (.st 12 3 (.st 13 0 .nil))))))))) (.st 11 2 (.st 4 2 (.st 7 2 (.st 8 0 (.st 9 0 (.st 10 0 (.st 12 3 (.st 13 0 .nil))))))))))))))) 12 No (fun w37 hc hszw37 => ?_)
           have hzw37 := hc.size
           have HC := HC.tr hc
           have hra := hra.no hc
           have hwa := hwa.no hc
           have hna := hna.cc hc
           have hrb := hrb.no hc
           have hwb := hwb.no hc
           have hnb := hnb.cc hc
           have hp := hp.no hc
           have hq := hq.no hc
           have hT := hT.cc hc
           have hrnd := hrnd.no hc
           have hb7 := hb7.no hc
           have hb8 := hb8.no hc
           have hb9 := hb9.no hc
           have hS : Ch No w37 w37 := Ch.refl _ _
           refine ws_p rfl rfl rfl rfl (p_mv rfl) ?_
           refine ws_p rfl rfl rfl rfl (p_mv rfl) ?_
           refine ws_p rfl rfl rfl rfl (pfl 0 underlying28) ?_
           refine ws_h rfl rfl rfl rfl (p_ldA (cs := [i64 sb, i64 nb, .bool bb, .slice Arb lrb crb, .slice Awb lwb cwb]) underlying25 rfl (szL sz25 rfl) rfl (fun _ h => rng_at (p := []) (q := ([i64 sb, i64 nb, .bool bb, .slice Arb lrb crb, .slice Awb lwb cwb] : List Value)) (r := ([.slice Aq lq cq] : List Value)) (hb8.ch h (fun h => h)) rfl rfl)) ?_
           refine ws_p rfl rfl rfl rfl (pfl 5 underlying28) ?_
           refine ws_h rfl rfl rfl rfl (p_ld underlying26 rfl rfl (fun _ h => h.cell (fun h => h) (hb8.cell rfl))) ?_
           refine ws_alt ?_ ?_
           ·
            refine ws_e rfl rfl (e_call ent9 rfl rfl (rLeaf_rec (hrb) (hwb) hnb (by omega) (by omega) hRb) ?_)
            rintro _ w38 ⟨rfl, hc⟩
            refine ⟨_, rfl, hc, ?_⟩
            have hzw38 := hc.size
            have HC := HC.tr hc
            have hra := hra.no hc
            have hwa := hwa.no hc
            have hna := hna.cc hc
            have hrb := hrb.no hc
            have hwb := hwb.no hc
            have hnb := hnb.cc hc
            have hp := hp.no hc
            have hq := hq.no hc
            have hT := hT.cc hc
            have hrnd := hrnd.no hc
            have hb7 := hb7.no hc
            have hb8 := hb8.no hc
            have hb9 := hb9.no hc
            refine ws_nar hc ?_
            refine ws_alt ?_ ?_
            ·
             refine ws_e rfl rfl (e_call ent8 rfl rfl (rClimb_any (hq) (leafH_len _) (by omega)) ?_)
             rintro _ w39 ⟨u74, ok74, rfl, hu74, hok74, hup74, hc⟩
             refine ⟨_, rfl, hc, ?_⟩
             have hzw39 := hc.size
             have HC := HC.tr hc
             have hra := hra.no hc
             have hwa := hwa.no hc
             have hna := hna.cc hc
             have hrb := hrb.no hc
             have hwb := hwb.no hc
             have hnb := hnb.cc hc
             have hp := hp.no hc
             have hq := hq.no hc
             have hT := hT.cc hc
             have hrnd := hrnd.no hc
             have hb7 := hb7.no hc
             have hb8 := hb8.no hc
             have hb9 := hb9.no hc
             refine ws_nar hc ?_
             refine ws_p rfl rfl rfl rfl (p_mv rfl) ?_
             refine ws_p rfl rfl rfl rfl (p_ext rfl rfl) ?_
             refine ws_p rfl rfl rfl rfl (p_ext rfl rfl) ?_
             have hltg7 := hb7.lt
             have hltg8 := hb8.lt
             have hltg9 := hb9.lt
             refine ws_e rfl rfl (e_alloc (cs := ((List.replicate 32 (0 : UInt8)).map u8v).toArray) rfl (by rfl) rfl (fun w40 g11 hg11 hb11 hc hsz11 => ⟨hc, ?_⟩))
             have hzw40 := hc.size
             have hge11 := HC.geo hg11
             have HC := HC.tr hc
             have hra := hra.no hc
             have hwa := hwa.no hc
             have hna := hna.cc hc
             have hrb := hrb.no hc
             have hwb := hwb.no hc
             have hnb := hnb.cc hc
             have hp := hp.no hc
             have hq := hq.no hc
             have hT := hT.cc hc
             have hrnd := hrnd.no hc
             have hb7 := hb7.no hc
             have hb8 := hb8.no hc
             have hb9 := hb9.no hc
             have neg7_11 : g7 < g11 := by omega
             have neg8_11 : g8 < g11 := by omega
             have neg9_11 : g9 < g11 := by omega
             refine ws_nar hc ?_
             refine ws_l rfl rfl (e_stH sz34 ((List.length_replicate ..)) (hu74) rfl rfl hb11 (fun w41 hb11 hc hsz => ?_))
             have hzw41 := hc.size
             have HC := HC.n hc
             first | have hra := hra.cc hc | have hra := hra.cT hc
             first | have hwa := hwa.cc hc | have hwa := hwa.cT hc
             have hna := hna.cc hc
             first | have hrb := hrb.cc hc | have hrb := hrb.cT hc
             first | have hwb := hwb.cc hc | have hwb := hwb.cT hc
             have hnb := hnb.cc hc
             first | have hp := hp.cc hc | have hp := hp.cT hc
             first | have hq := hq.cc hc | have hq := hq.cT hc
             have hT := hT.cc hc
             first | have hrnd := hrnd.cc hc | have hrnd := hrnd.cT hc
             have hb7 := hb7.cc hc
             have hb8 := hb8.cc hc
             have hb9 := hb9.cc hc
             refine ws_p rfl rfl rfl rfl (p_as rfl) ?_
             refine ws_n ?_
             exact x_meet (by repeat (first | exact trivial | refine ⟨rfl, ?_⟩)) ⟨_, _, _, rfl, HC, hra, hwa, hna, hrb, hwb, hnb, hp, hq, hT, hrnd, hb7, hb8, hb9, hb11, hu74, hok74, hup74, (by omega)⟩
            ·
             have hltg7 := hb7.lt
             have hltg8 := hb8.lt
             have hltg9 := hb9.lt
             refine ws_e rfl rfl (e_alloc (cs := ((List.replicate 32 (0 : UInt8)).map u8v).toArray) rfl (by rfl) rfl (fun w42 g11 hg11 hb11 hc hsz11 => ⟨hc, ?_⟩))
             have hzw42 := hc.size
             have hge11 := HC.geo hg11
             have HC := HC.tr hc
             have hra := hra.no hc
             have hwa := hwa.no hc
             have hna := hna.cc hc
             have hrb := hrb.no hc
             have hwb := hwb.no hc
             have hnb := hnb.cc hc
             have hp := hp.no hc
             have hq := hq.no hc
             have hT := hT.cc hc
             have hrnd := hrnd.no hc
             have hb7 := hb7.no hc
             have hb8 := hb8.no hc
             have hb9 := hb9.no hc
             have neg7_11 : g7 < g11 := by omega
             have neg8_11 : g8 < g11 := by omega
             have neg9_11 : g9 < g11 := by omega
             refine ws_nar hc ?_
             refine ws_e rfl rfl (e_call ent8 rfl rfl (rClimb_any (hq) (leafH_len _) (by omega)) ?_)
             rintro _ w43 ⟨u74, ok74, rfl, hu74, hok74, hup74, hc⟩
             refine ⟨_, rfl, hc, ?_⟩
             have hzw43 := hc.size
             have HC := HC.tr hc
             have hra := hra.no hc
             have hwa := hwa.no hc
             have hna := hna.cc hc
             have hrb := hrb.no hc
             have hwb := hwb.no hc
             have hnb := hnb.cc hc
             have hp := hp.no hc
             have hq := hq.no hc
             have hT := hT.cc hc
             have hrnd := hrnd.no hc
             have hb7 := hb7.no hc
             have hb8 := hb8.no hc
             have hb9 := hb9.no hc
             have hb11 := hb11.no hc
             refine ws_nar hc ?_
             refine ws_p rfl rfl rfl rfl (p_mv rfl) ?_
             refine ws_p rfl rfl rfl rfl (p_ext rfl rfl) ?_
             refine ws_p rfl rfl rfl rfl (p_ext rfl rfl) ?_
             refine ws_l rfl rfl (e_stH sz34 ((List.length_replicate ..)) (hu74) rfl rfl hb11 (fun w44 hb11 hc hsz => ?_))
             have hzw44 := hc.size
             have HC := HC.n hc
             first | have hra := hra.cc hc | have hra := hra.cT hc
             first | have hwa := hwa.cc hc | have hwa := hwa.cT hc
             have hna := hna.cc hc
             first | have hrb := hrb.cc hc | have hrb := hrb.cT hc
             first | have hwb := hwb.cc hc | have hwb := hwb.cT hc
             have hnb := hnb.cc hc
             first | have hp := hp.cc hc | have hp := hp.cT hc
             first | have hq := hq.cc hc | have hq := hq.cT hc
             have hT := hT.cc hc
             first | have hrnd := hrnd.cc hc | have hrnd := hrnd.cT hc
             have hb7 := hb7.cc hc
             have hb8 := hb8.cc hc
             have hb9 := hb9.cc hc
             refine ws_p rfl rfl rfl rfl (p_as rfl) ?_
             refine ws_n ?_
             exact x_meet (by repeat (first | exact trivial | refine ⟨rfl, ?_⟩)) ⟨_, _, _, rfl, HC, hra, hwa, hna, hrb, hwb, hnb, hp, hq, hT, hrnd, hb7, hb8, hb9, hb11, hu74, hok74, hup74, (by omega)⟩
           ·
            have hltg7 := hb7.lt
            have hltg8 := hb8.lt
            have hltg9 := hb9.lt
            refine ws_e rfl rfl (e_alloc (cs := ((List.replicate 32 (0 : UInt8)).map u8v).toArray) rfl (by rfl) rfl (fun w45 g11 hg11 hb11 hc hsz11 => ⟨hc, ?_⟩))
            have hzw45 := hc.size
            have hge11 := HC.geo hg11
            have HC := HC.tr hc
            have hra := hra.no hc
            have hwa := hwa.no hc
            have hna := hna.cc hc
            have hrb := hrb.no hc
            have hwb := hwb.no hc
            have hnb := hnb.cc hc
            have hp := hp.no hc
            have hq := hq.no hc
            have hT := hT.cc hc
            have hrnd := hrnd.no hc
            have hb7 := hb7.no hc
            have hb8 := hb8.no hc
            have hb9 := hb9.no hc
            have neg7_11 : g7 < g11 := by omega
            have neg8_11 : g8 < g11 := by omega
            have neg9_11 : g9 < g11 := by omega
            refine ws_nar hc ?_
            refine ws_e rfl rfl (e_call ent9 rfl rfl (rLeaf_rec (hrb) (hwb) hnb (by omega) (by omega) hRb) ?_)
            rintro _ w46 ⟨rfl, hc⟩
            refine ⟨_, rfl, hc, ?_⟩
            have hzw46 := hc.size
            have HC := HC.tr hc
            have hra := hra.no hc
            have hwa := hwa.no hc
            have hna := hna.cc hc
            have hrb := hrb.no hc
            have hwb := hwb.no hc
            have hnb := hnb.cc hc
            have hp := hp.no hc
            have hq := hq.no hc
            have hT := hT.cc hc
            have hrnd := hrnd.no hc
            have hb7 := hb7.no hc
            have hb8 := hb8.no hc
            have hb9 := hb9.no hc
            have hb11 := hb11.no hc
            refine ws_nar hc ?_
            refine ws_e rfl rfl (e_call ent8 rfl rfl (rClimb_any (hq) (leafH_len _) (by omega)) ?_)
            rintro _ w47 ⟨u74, ok74, rfl, hu74, hok74, hup74, hc⟩
            refine ⟨_, rfl, hc, ?_⟩
            have hzw47 := hc.size
            have HC := HC.tr hc
            have hra := hra.no hc
            have hwa := hwa.no hc
            have hna := hna.cc hc
            have hrb := hrb.no hc
            have hwb := hwb.no hc
            have hnb := hnb.cc hc
            have hp := hp.no hc
            have hq := hq.no hc
            have hT := hT.cc hc
            have hrnd := hrnd.no hc
            have hb7 := hb7.no hc
            have hb8 := hb8.no hc
            have hb9 := hb9.no hc
            have hb11 := hb11.no hc
            refine ws_nar hc ?_
            refine ws_p rfl rfl rfl rfl (p_mv rfl) ?_
            refine ws_p rfl rfl rfl rfl (p_ext rfl rfl) ?_
            refine ws_p rfl rfl rfl rfl (p_ext rfl rfl) ?_
            refine ws_l rfl rfl (e_stH sz34 ((List.length_replicate ..)) (hu74) rfl rfl hb11 (fun w48 hb11 hc hsz => ?_))
            have hzw48 := hc.size
            have HC := HC.n hc
            first | have hra := hra.cc hc | have hra := hra.cT hc
            first | have hwa := hwa.cc hc | have hwa := hwa.cT hc
            have hna := hna.cc hc
            first | have hrb := hrb.cc hc | have hrb := hrb.cT hc
            first | have hwb := hwb.cc hc | have hwb := hwb.cT hc
            have hnb := hnb.cc hc
            first | have hp := hp.cc hc | have hp := hp.cT hc
            first | have hq := hq.cc hc | have hq := hq.cT hc
            have hT := hT.cc hc
            first | have hrnd := hrnd.cc hc | have hrnd := hrnd.cT hc
            have hb7 := hb7.cc hc
            have hb8 := hb8.cc hc
            have hb9 := hb9.cc hc
            refine ws_p rfl rfl rfl rfl (p_as rfl) ?_
            refine ws_n ?_
            exact x_meet (by repeat (first | exact trivial | refine ⟨rfl, ?_⟩)) ⟨_, _, _, rfl, HC, hra, hwa, hna, hrb, hwb, hnb, hp, hq, hT, hrnd, hb7, hb8, hb9, hb11, hu74, hok74, hup74, (by omega)⟩
          ·
           rintro _ w49 ⟨u74, ok74, g11, rfl, HC, hra, hwa, hna, hrb, hwb, hnb, hp, hq, hT, hrnd, hb7, hb8, hb9, hb11, hu74, hok74, hup74, hgtg11⟩
           have hzw49 := HC.size
           refine wc_seq ?_
           refine wdr (.st 0 0 (.st 1 0 (.st 2 0 (.st 3 1 (.st 5 0 (.st 6 1 (.st 7 0 (.st 8 1 (.st 10 0 (.st 11 1 (.st 4 2 (.st 9 2 (.st 12 2 (.st 13 0 (.st 14 0 (.st 15 0 (.st 16 0 (.st 17 0 (.st 18 0 (.st 19 0 .nil)))))))))))))))))))) 20 No (fun w50 hc hszw50 => ?_)
           have hzw50 := hc.size
           have HC := HC.tr hc
           have hra := hra.no hc
           have hwa := hwa.no hc
           have hna := hna.cc hc
           have hrb := hrb.no hc
           have hwb := hwb.no hc
           have hnb := hnb.cc hc
           have hp := hp.no hc
           have hq := hq.no hc
           have hT := hT.cc hc
           have hrnd := hrnd.no hc
           have hb7 := hb7.no hc
           have hb8 := hb8.no hc
           have hb9 := hb9.no hc
           have hb11 := hb11.no hc
           have hS : Ch No w50 w50 := Ch.refl _ _
           refine ws_p rfl rfl rfl rfl (p_mv rfl) ?_
           refine ws_p rfl rfl rfl rfl (p_mv rfl) ?_
           refine ws_p rfl rfl rfl rfl (pfl 0 underlying28) ?_
           refine ws_h rfl rfl rfl rfl (p_ldA (cs := [i64 sa, i64 na, .bool ba, .slice Ara lra cra, .slice Awa lwa cwa]) underlying25 rfl (szL sz25 rfl) rfl (fun _ h => rng_at (p := []) (q := ([i64 sa, i64 na, .bool ba, .slice Ara lra cra, .slice Awa lwa cwa] : List Value)) (r := ([.slice Ap lp cp] : List Value)) (hb7.ch h (fun h => h)) rfl rfl)) ?_
           refine ws_p rfl rfl rfl rfl (pfl 5 underlying28) ?_
           refine ws_h rfl rfl rfl rfl (p_ld underlying26 rfl rfl (fun _ h => h.cell (fun h => h) (hb7.cell rfl))) ?_
           refine ws_p rfl rfl rfl rfl (pfl 0 underlying28) ?_
           refine ws_h rfl rfl rfl rfl (p_ldA (cs := [i64 sb, i64 nb, .bool bb, .slice Arb lrb crb, .slice Awb lwb cwb]) underlying25 rfl (szL sz25 rfl) rfl (fun _ h => rng_at (p := []) (q := ([i64 sb, i64 nb, .bool bb, .slice Arb lrb crb, .slice Awb lwb cwb] : List Value)) (r := ([.slice Aq lq cq] : List Value)) (hb8.ch h (fun h => h)) rfl rfl)) ?_
           refine ws_p rfl rfl rfl rfl (pfl 5 underlying28) ?_
           refine ws_h rfl rfl rfl rfl (p_ld underlying26 rfl rfl (fun _ h => h.cell (fun h => h) (hb8.cell rfl))) ?_
           refine ws_e rfl rfl (e_call ent11 rfl rfl (pBytes_rec (hra) (hwa) hna (by omega) (by omega) hRa) ?_)
           rintro _ w51 ⟨A82, l82, c82, rfl, hB82, hn82, hc⟩
           refine ⟨_, rfl, hc, ?_⟩
           have hzw51 := hc.size
           have HC := HC.tr hc
           have hra := hra.no hc
           have hwa := hwa.no hc
           have hna := hna.cc hc
           have hrb := hrb.no hc
           have hwb := hwb.no hc
           have hnb := hnb.cc hc
           have hp := hp.no hc
           have hq := hq.no hc
           have hT := hT.cc hc
           have hrnd := hrnd.no hc
           have hb7 := hb7.no hc
           have hb8 := hb8.no hc
           have hb9 := hb9.no hc
           have hb11 := hb11.no hc
           refine ws_nar hc ?_
           refine ws_e rfl rfl (e_call ent11 rfl rfl (pBytes_rec (hrb) (hwb) hnb (by omega) (by omega) hRb) ?_)
           rintro _ w52 ⟨A87, l87, c87, rfl, hB87, hn87, hc⟩
           refine ⟨_, rfl, hc, ?_⟩
           have hzw52 := hc.size
           have HC := HC.tr hc
           have hra := hra.no hc
           have hwa := hwa.no hc
           have hna := hna.cc hc
           have hrb := hrb.no hc
           have hwb := hwb.no hc
           have hnb := hnb.cc hc
           have hp := hp.no hc
           have hq := hq.no hc
           have hT := hT.cc hc
           have hrnd := hrnd.no hc
           have hb7 := hb7.no hc
           have hb8 := hb8.no hc
           have hb9 := hb9.no hc
           have hb11 := hb11.no hc
           have hB82 := hB82.no hc
           refine ws_nar hc ?_
           refine ws_e rfl rfl (e_call ent10 rfl rfl (leaves_any (hB82) (by omega) (hp) (by omega) (hB87) (by omega) (hq) (by omega) hrnd) ?_)
           rintro _ w53 ⟨A90, l90, c90, B90, k90, d90, x90, y90, f90, rfl, hX, hY, hlx, hly, hft, hfn, hc⟩
           refine ⟨_, rfl, hc, ?_⟩
           have hzw53 := hc.size
           have HC := HC.tr hc
           have hra := hra.no hc
           have hwa := hwa.no hc
           have hna := hna.cc hc
           have hrb := hrb.no hc
           have hwb := hwb.no hc
           have hnb := hnb.cc hc
           have hp := hp.no hc
           have hq := hq.no hc
           have hT := hT.cc hc
           have hrnd := hrnd.no hc
           have hb7 := hb7.no hc
           have hb8 := hb8.no hc
           have hb9 := hb9.no hc
           have hb11 := hb11.no hc
           have hB82 := hB82.no hc
           have hB87 := hB87.no hc
           refine ws_nar hc ?_
           refine ws_p rfl rfl rfl rfl (p_mv rfl) ?_
           refine ws_p rfl rfl rfl rfl (p_ext rfl rfl) ?_
           refine ws_p rfl rfl rfl rfl (p_ext rfl rfl) ?_
           refine ws_p rfl rfl rfl rfl (p_ext rfl rfl) ?_
           refine ws_p rfl rfl rfl rfl (p_as rfl) ?_
           refine ws_p rfl rfl rfl rfl (p_as rfl) ?_
           refine ws_p rfl rfl rfl rfl (p_as rfl) ?_
           refine ws_n (x_seq (wc_seq (wc_seq (wc_region ?_))))
           iterate 2 refine wmv ?_
           refine wl_split (d := 95) rfl (fun q95 => ?_) (fun q95 => ?_)
           ·
            refine wl_g gq rfl rfl (p_mv rfl) ?_
            refine wl_g gq rfl rfl (p_bts underlying38 underlying5 underlying9 rfl ((hX).mono (G := fun _ => True) (fun _ _ _ => trivial)).len (fun _ e => e ▸ ((hX).mono (G := fun _ => True) (fun _ _ _ => trivial)).rd)) ?_
            refine wl_g gq rfl rfl (p_mv rfl) ?_
            refine wl_g gq rfl rfl (p_bts underlying38 underlying5 underlying9 rfl ((hY).mono (G := fun _ => True) (fun _ _ _ => trivial)).len (fun _ e => e ▸ ((hY).mono (G := fun _ => True) (fun _ _ _ => trivial)).rd)) ?_
            refine wl_g gq rfl rfl (p_eqT rfl rfl) ?_
            refine wl_g gq rfl rfl (p_mv rfl) ?_
            refine wl_know (d := 101) (b' := false) rfl ((by rw [beq_str]; simpa using (hft q95).1)) ?_
            refine wl_g gq rfl rfl (p_mv rfl) ?_
            refine wle_g gq (e_call ent12 rfl rfl (rsum_any (hX) (by omega)) ?_)
            rintro _ w54 ⟨rfl, hc⟩
            refine ⟨_, rfl, ?_⟩
            have hzw54 := hc.size
            have HC := HC.tr hc
            have hra := hra.no hc
            have hwa := hwa.no hc
            have hna := hna.cc hc
            have hrb := hrb.no hc
            have hwb := hwb.no hc
            have hnb := hnb.cc hc
            have hp := hp.no hc
            have hq := hq.no hc
            have hT := hT.cc hc
            have hrnd := hrnd.no hc
            have hb7 := hb7.no hc
            have hb8 := hb8.no hc
            have hb9 := hb9.no hc
            have hb11 := hb11.no hc
            have hB82 := hB82.no hc
            have hB87 := hB87.no hc
            have hX := hX.no hc
            have hY := hY.no hc
            refine wl_g gq rfl rfl (p_mv rfl) ?_
            refine wle_g gq (e_call ent12 rfl rfl (rsum_any (hY) (by omega)) ?_)
            rintro _ w55 ⟨rfl, hc⟩
            refine ⟨_, rfl, ?_⟩
            have hzw55 := hc.size
            have HC := HC.tr hc
            have hra := hra.no hc
            have hwa := hwa.no hc
            have hna := hna.cc hc
            have hrb := hrb.no hc
            have hwb := hwb.no hc
            have hnb := hnb.cc hc
            have hp := hp.no hc
            have hq := hq.no hc
            have hT := hT.cc hc
            have hrnd := hrnd.no hc
            have hb7 := hb7.no hc
            have hb8 := hb8.no hc
            have hb9 := hb9.no hc
            have hb11 := hb11.no hc
            have hB82 := hB82.no hc
            have hB87 := hB87.no hc
            have hX := hX.no hc
            have hY := hY.no hc
            refine wl_g gq rfl rfl (p_neH (a := (shaF x90)) (b := (shaF y90)) (by kernel_rfl) underlying33 underlying5 sz5 rfl rfl (shaF_len _) (shaF_len _)) ?_
            refine wl_g gq rfl rfl (p_pickF rfl rfl) ?_
            refine wz (p_pickT rfl rfl) ?_
            refine wl_nil (x_seq ?_)
            refine wc_no rfl ((by rw [(hft q95).2]; simp)) ?_
            refine wc_skip (x_seq (wc_seq (wc_region ?_)))
            refine wmv ?_
            refine wz (p_not rfl) ?_
            refine wmv ?_
            refine wl_split (d := 111) rfl (fun q111 => ?_) (fun q111 => ?_)
            ·
             iterate 2 refine wl_s gq rfl rfl ?_
             refine wz (p_pickT rfl rfl) ?_
             refine wmv ?_
             iterate 3 refine wl_s gq rfl rfl ?_
             refine wz (p_pickT rfl rfl) ?_
             refine wmv ?_
             iterate 5 refine wl_s gq rfl rfl ?_
             refine wz (p_pickT rfl rfl) ?_
             refine wmv ?_
             refine wl_s gq rfl rfl ?_
             refine wz (p_pickT rfl rfl) ?_
             refine wmv ?_
             refine wle_g gq (e_call ent7 rfl rfl (works_any hT) ?_)
             rintro _ w56 ⟨rfl, hc⟩
             refine ⟨_, rfl, ?_⟩
             have hzw56 := hc.size
             have HC := HC.tr hc
             have hra := hra.no hc
             have hwa := hwa.no hc
             have hna := hna.cc hc
             have hrb := hrb.no hc
             have hwb := hwb.no hc
             have hnb := hnb.cc hc
             have hp := hp.no hc
             have hq := hq.no hc
             have hT := hT.cc hc
             have hrnd := hrnd.no hc
             have hb7 := hb7.no hc
             have hb8 := hb8.no hc
             have hb9 := hb9.no hc
             have hb11 := hb11.no hc
             have hB82 := hB82.no hc
             have hB87 := hB87.no hc
             have hX := hX.no hc
             have hY := hY.no hc
             refine wz (p_pickT rfl rfl) ?_
             refine was ?_
             refine wl_nil (x_seq (wc_ret ?_))
             refine fin_run ((res1 rfl rfl)) ?_
             exact ⟨rfl, HC⟩
            ·
             refine wl_g gq rfl rfl (p_mv rfl) ?_
             refine wl_g gq rfl rfl (p_not rfl) ?_
             refine wz (p_pickF rfl rfl) ?_
             refine wmv ?_
             refine wl_split (d := 115) rfl (fun q115 => ?_) (fun q115 => ?_)
             ·
              iterate 3 refine wl_s gq rfl rfl ?_
              refine wz (p_pickT rfl rfl) ?_
              refine wmv ?_
              iterate 5 refine wl_s gq rfl rfl ?_
              refine wz (p_pickT rfl rfl) ?_
              refine wmv ?_
              refine wl_s gq rfl rfl ?_
              refine wz (p_pickT rfl rfl) ?_
              refine wmv ?_
              refine wle_g gq (e_call ent7 rfl rfl (works_any hT) ?_)
              rintro _ w57 ⟨rfl, hc⟩
              refine ⟨_, rfl, ?_⟩
              have hzw57 := hc.size
              have HC := HC.tr hc
              have hra := hra.no hc
              have hwa := hwa.no hc
              have hna := hna.cc hc
              have hrb := hrb.no hc
              have hwb := hwb.no hc
              have hnb := hnb.cc hc
              have hp := hp.no hc
              have hq := hq.no hc
              have hT := hT.cc hc
              have hrnd := hrnd.no hc
              have hb7 := hb7.no hc
              have hb8 := hb8.no hc
              have hb9 := hb9.no hc
              have hb11 := hb11.no hc
              have hB82 := hB82.no hc
              have hB87 := hB87.no hc
              have hX := hX.no hc
              have hY := hY.no hc
              refine wz (p_pickT rfl rfl) ?_
              refine was ?_
              refine wl_nil (x_seq (wc_ret ?_))
              refine fin_run ((res1 rfl rfl)) ?_
              exact ⟨rfl, HC⟩
             ·
              refine wl_g gq rfl rfl (p_ldA (cs := List.map u8v u63) underlying34 rfl (szL sz34 (by rw [List.length_map]; exact hu63)) rfl (fun _ e => e ▸ rngL hb9)) ?_
              refine wl_g gq rfl rfl (p_ldA (cs := List.map u8v u74) underlying34 rfl (szL sz34 (by rw [List.length_map]; exact hu74)) rfl (fun _ e => e ▸ rngL hb11)) ?_
              refine wl_g gq rfl rfl (p_neH (a := u63) (b := u74) (by kernel_rfl) underlying34 underlying5 sz5 rfl rfl (hu63) (hu74)) ?_
              refine wz (p_pickF rfl rfl) ?_
              refine wmv ?_
              refine wl_split (d := 120) rfl (fun q120 => ?_) (fun q120 => ?_)
              ·
               iterate 5 refine wl_s gq rfl rfl ?_
               refine wz (p_pickT rfl rfl) ?_
               refine wmv ?_
               refine wl_s gq rfl rfl ?_
               refine wz (p_pickT rfl rfl) ?_
               refine wmv ?_
               refine wle_g gq (e_call ent7 rfl rfl (works_any hT) ?_)
               rintro _ w58 ⟨rfl, hc⟩
               refine ⟨_, rfl, ?_⟩
               have hzw58 := hc.size
               have HC := HC.tr hc
               have hra := hra.no hc
               have hwa := hwa.no hc
               have hna := hna.cc hc
               have hrb := hrb.no hc
               have hwb := hwb.no hc
               have hnb := hnb.cc hc
               have hp := hp.no hc
               have hq := hq.no hc
               have hT := hT.cc hc
               have hrnd := hrnd.no hc
               have hb7 := hb7.no hc
               have hb8 := hb8.no hc
               have hb9 := hb9.no hc
               have hb11 := hb11.no hc
               have hB82 := hB82.no hc
               have hB87 := hB87.no hc
               have hX := hX.no hc
               have hY := hY.no hc
               refine wz (p_pickT rfl rfl) ?_
               refine was ?_
               refine wl_nil (x_seq (wc_ret ?_))
               refine fin_run ((res1 rfl rfl)) ?_
               exact ⟨rfl, HC⟩
              ·
               refine wl_g gq rfl rfl (pfl 0 underlying28) ?_
               refine wl_g gq rfl rfl (p_ldA (cs := [i64 sa, i64 na, .bool ba, .slice Ara lra cra, .slice Awa lwa cwa]) underlying25 rfl (szL sz25 rfl) rfl (fun _ e => e ▸ rng_at (p := []) (q := ([i64 sa, i64 na, .bool ba, .slice Ara lra cra, .slice Awa lwa cwa] : List Value)) (r := ([.slice Ap lp cp] : List Value)) hb7 rfl rfl)) ?_
               refine wl_g gq rfl rfl (pfl 0 underlying28) ?_
               refine wl_g gq rfl rfl (p_ldA (cs := [i64 sb, i64 nb, .bool bb, .slice Arb lrb crb, .slice Awb lwb cwb]) underlying25 rfl (szL sz25 rfl) rfl (fun _ e => e ▸ rng_at (p := []) (q := ([i64 sb, i64 nb, .bool bb, .slice Arb lrb crb, .slice Awb lwb cwb] : List Value)) (r := ([.slice Aq lq cq] : List Value)) hb8 rfl rfl)) ?_
               refine wle_g gq (e_call ent13 rfl rfl (csame_any (hra) (hwa) hna (hrb) (hwb) hnb (by omega) (by omega)) ?_)
               rintro _ w59 ⟨x125, rfl, hx125, hc⟩
               refine ⟨_, rfl, ?_⟩
               have hzw59 := hc.size
               have HC := HC.tr hc
               have hra := hra.no hc
               have hwa := hwa.no hc
               have hna := hna.cc hc
               have hrb := hrb.no hc
               have hwb := hwb.no hc
               have hnb := hnb.cc hc
               have hp := hp.no hc
               have hq := hq.no hc
               have hT := hT.cc hc
               have hrnd := hrnd.no hc
               have hb7 := hb7.no hc
               have hb8 := hb8.no hc
               have hb9 := hb9.no hc
               have hb11 := hb11.no hc
               have hB82 := hB82.no hc
               have hB87 := hB87.no hc
               have hX := hX.no hc
               have hY := hY.no hc
               refine wz (p_pickF rfl rfl) ?_
               refine wmv ?_
               refine wl_split (d := 127) rfl (fun q127 => ?_) (fun q127 => ?_)
               ·
                refine wl_s gq rfl rfl ?_
                refine wz (p_pickT rfl rfl) ?_
                refine wmv ?_
                refine wle_g gq (e_call ent7 rfl rfl (works_any hT) ?_)
                rintro _ w60 ⟨rfl, hc⟩
                refine ⟨_, rfl, ?_⟩
                have hzw60 := hc.size
                have HC := HC.tr hc
                have hra := hra.no hc
                have hwa := hwa.no hc
                have hna := hna.cc hc
                have hrb := hrb.no hc
                have hwb := hwb.no hc
                have hnb := hnb.cc hc
                have hp := hp.no hc
                have hq := hq.no hc
                have hT := hT.cc hc
                have hrnd := hrnd.no hc
                have hb7 := hb7.no hc
                have hb8 := hb8.no hc
                have hb9 := hb9.no hc
                have hb11 := hb11.no hc
                have hB82 := hB82.no hc
                have hB87 := hB87.no hc
                have hX := hX.no hc
                have hY := hY.no hc
                refine wz (p_pickT rfl rfl) ?_
                refine was ?_
                refine wl_nil (x_seq (wc_ret ?_))
                refine fin_run ((res1 rfl rfl)) ?_
                exact ⟨rfl, HC⟩
               ·
                refine wl_g gq rfl rfl (p_mv rfl) ?_
                refine wz (p_pickF rfl rfl) ?_
                refine wmv ?_
                refine wl_split (d := 130) rfl (fun q130 => ?_) (fun q130 => ?_)
                ·
                 refine wle_g gq (e_call ent7 rfl rfl (works_any hT) ?_)
                 rintro _ w61 ⟨rfl, hc⟩
                 refine ⟨_, rfl, ?_⟩
                 have hzw61 := hc.size
                 have HC := HC.tr hc
                 have hra := hra.no hc
                 have hwa := hwa.no hc
                 have hna := hna.cc hc
                 have hrb := hrb.no hc
                 have hwb := hwb.no hc
                 have hnb := hnb.cc hc
                 have hp := hp.no hc
                 have hq := hq.no hc
                 have hT := hT.cc hc
                 have hrnd := hrnd.no hc
                 have hb7 := hb7.no hc
                 have hb8 := hb8.no hc
                 have hb9 := hb9.no hc
                 have hb11 := hb11.no hc
                 have hB82 := hB82.no hc
                 have hB87 := hB87.no hc
                 have hX := hX.no hc
                 have hY := hY.no hc
                 refine wz (p_pickT rfl rfl) ?_
                 refine was ?_
                 refine wl_nil (x_seq (wc_ret ?_))
                 refine fin_run ((res1 rfl rfl)) ?_
                 exact ⟨rfl, HC⟩
                ·
                 have hA1 : ok63 = true := by simpa using q111
                 have hA2 : ok74 = true := by simpa using q115
                 have hA3 : u63 = u74 := by simpa using q120
                 have hA4 : f90 = false := by simpa using q130
                 have hk1 := hok63.1 hA1
                 have hk2 := hok74.1 hA2
                 have hAB := sound_law hRa hRb hk1.2.2.2.2 hk2.2.2.2.2 hp.ok hq.ok (by rw [← hup63 hA1, ← hup74 hA2]; exact hA3) (hfn hA4 hk1 hk2)
                 have hs := hx125.2 (by simpa only [RC.mk.injEq] using hAB)
                 rw [show x125 = false by simpa using q127] at hs
                 exact absurd hs (by decide)
           ·
            iterate 12 refine wl_s gq rfl rfl ?_
            refine wz (p_pickF rfl rfl) ?_
            refine wl_nil (x_seq ?_)
            refine wc_no rfl (rfl) ?_
            refine wc_skip (x_seq (wc_seq (wc_region ?_)))
            refine wmv ?_
            refine wz (p_not rfl) ?_
            refine wmv ?_
            refine wl_split (d := 111) rfl (fun q111 => ?_) (fun q111 => ?_)
            ·
             iterate 2 refine wl_s gq rfl rfl ?_
             refine wz (p_pickT rfl rfl) ?_
             refine wmv ?_
             iterate 3 refine wl_s gq rfl rfl ?_
             refine wz (p_pickT rfl rfl) ?_
             refine wmv ?_
             iterate 5 refine wl_s gq rfl rfl ?_
             refine wz (p_pickT rfl rfl) ?_
             refine wmv ?_
             refine wl_s gq rfl rfl ?_
             refine wz (p_pickT rfl rfl) ?_
             refine wmv ?_
             refine wle_g gq (e_call ent7 rfl rfl (works_any hT) ?_)
             rintro _ w62 ⟨rfl, hc⟩
             refine ⟨_, rfl, ?_⟩
             have hzw62 := hc.size
             have HC := HC.tr hc
             have hra := hra.no hc
             have hwa := hwa.no hc
             have hna := hna.cc hc
             have hrb := hrb.no hc
             have hwb := hwb.no hc
             have hnb := hnb.cc hc
             have hp := hp.no hc
             have hq := hq.no hc
             have hT := hT.cc hc
             have hrnd := hrnd.no hc
             have hb7 := hb7.no hc
             have hb8 := hb8.no hc
             have hb9 := hb9.no hc
             have hb11 := hb11.no hc
             have hB82 := hB82.no hc
             have hB87 := hB87.no hc
             have hX := hX.no hc
             have hY := hY.no hc
             refine wz (p_pickT rfl rfl) ?_
             refine was ?_
             refine wl_nil (x_seq (wc_ret ?_))
             refine fin_run ((res1 rfl rfl)) ?_
             exact ⟨rfl, HC⟩
            ·
             refine wl_g gq rfl rfl (p_mv rfl) ?_
             refine wl_g gq rfl rfl (p_not rfl) ?_
             refine wz (p_pickF rfl rfl) ?_
             refine wmv ?_
             refine wl_split (d := 115) rfl (fun q115 => ?_) (fun q115 => ?_)
             ·
              iterate 3 refine wl_s gq rfl rfl ?_
              refine wz (p_pickT rfl rfl) ?_
              refine wmv ?_
              iterate 5 refine wl_s gq rfl rfl ?_
              refine wz (p_pickT rfl rfl) ?_
              refine wmv ?_
              refine wl_s gq rfl rfl ?_
              refine wz (p_pickT rfl rfl) ?_
              refine wmv ?_
              refine wle_g gq (e_call ent7 rfl rfl (works_any hT) ?_)
              rintro _ w63 ⟨rfl, hc⟩
              refine ⟨_, rfl, ?_⟩
              have hzw63 := hc.size
              have HC := HC.tr hc
              have hra := hra.no hc
              have hwa := hwa.no hc
              have hna := hna.cc hc
              have hrb := hrb.no hc
              have hwb := hwb.no hc
              have hnb := hnb.cc hc
              have hp := hp.no hc
              have hq := hq.no hc
              have hT := hT.cc hc
              have hrnd := hrnd.no hc
              have hb7 := hb7.no hc
              have hb8 := hb8.no hc
              have hb9 := hb9.no hc
              have hb11 := hb11.no hc
              have hB82 := hB82.no hc
              have hB87 := hB87.no hc
              have hX := hX.no hc
              have hY := hY.no hc
              refine wz (p_pickT rfl rfl) ?_
              refine was ?_
              refine wl_nil (x_seq (wc_ret ?_))
              refine fin_run ((res1 rfl rfl)) ?_
              exact ⟨rfl, HC⟩
             ·
              refine wl_g gq rfl rfl (p_ldA (cs := List.map u8v u63) underlying34 rfl (szL sz34 (by rw [List.length_map]; exact hu63)) rfl (fun _ e => e ▸ rngL hb9)) ?_
              refine wl_g gq rfl rfl (p_ldA (cs := List.map u8v u74) underlying34 rfl (szL sz34 (by rw [List.length_map]; exact hu74)) rfl (fun _ e => e ▸ rngL hb11)) ?_
              refine wl_g gq rfl rfl (p_neH (a := u63) (b := u74) (by kernel_rfl) underlying34 underlying5 sz5 rfl rfl (hu63) (hu74)) ?_
              refine wz (p_pickF rfl rfl) ?_
              refine wmv ?_
              refine wl_split (d := 120) rfl (fun q120 => ?_) (fun q120 => ?_)
              ·
               iterate 5 refine wl_s gq rfl rfl ?_
               refine wz (p_pickT rfl rfl) ?_
               refine wmv ?_
               refine wl_s gq rfl rfl ?_
               refine wz (p_pickT rfl rfl) ?_
               refine wmv ?_
               refine wle_g gq (e_call ent7 rfl rfl (works_any hT) ?_)
               rintro _ w65 ⟨rfl, hc⟩
               refine ⟨_, rfl, ?_⟩
               have hzw65 := hc.size
               have HC := HC.tr hc
               have hra := hra.no hc
               have hwa := hwa.no hc
               have hna := hna.cc hc
               have hrb := hrb.no hc
               have hwb := hwb.no hc
               have hnb := hnb.cc hc
               have hp := hp.no hc
               have hq := hq.no hc
               have hT := hT.cc hc
               have hrnd := hrnd.no hc
               have hb7 := hb7.no hc
               have hb8 := hb8.no hc
               have hb9 := hb9.no hc
               have hb11 := hb11.no hc
               have hB82 := hB82.no hc
               have hB87 := hB87.no hc
               have hX := hX.no hc
               have hY := hY.no hc
               refine wz (p_pickT rfl rfl) ?_
               refine was ?_
               refine wl_nil (x_seq (wc_ret ?_))
               refine fin_run ((res1 rfl rfl)) ?_
               exact ⟨rfl, HC⟩
              ·
               refine wl_g gq rfl rfl (pfl 0 underlying28) ?_
               refine wl_g gq rfl rfl (p_ldA (cs := [i64 sa, i64 na, .bool ba, .slice Ara lra cra, .slice Awa lwa cwa]) underlying25 rfl (szL sz25 rfl) rfl (fun _ e => e ▸ rng_at (p := []) (q := ([i64 sa, i64 na, .bool ba, .slice Ara lra cra, .slice Awa lwa cwa] : List Value)) (r := ([.slice Ap lp cp] : List Value)) hb7 rfl rfl)) ?_
               refine wl_g gq rfl rfl (pfl 0 underlying28) ?_
               refine wl_g gq rfl rfl (p_ldA (cs := [i64 sb, i64 nb, .bool bb, .slice Arb lrb crb, .slice Awb lwb cwb]) underlying25 rfl (szL sz25 rfl) rfl (fun _ e => e ▸ rng_at (p := []) (q := ([i64 sb, i64 nb, .bool bb, .slice Arb lrb crb, .slice Awb lwb cwb] : List Value)) (r := ([.slice Aq lq cq] : List Value)) hb8 rfl rfl)) ?_
               refine wle_g gq (e_call ent13 rfl rfl (csame_any (hra) (hwa) hna (hrb) (hwb) hnb (by omega) (by omega)) ?_)
               rintro _ w66 ⟨x125, rfl, hx125, hc⟩
               refine ⟨_, rfl, ?_⟩
               have hzw66 := hc.size
               have HC := HC.tr hc
               have hra := hra.no hc
               have hwa := hwa.no hc
               have hna := hna.cc hc
               have hrb := hrb.no hc
               have hwb := hwb.no hc
               have hnb := hnb.cc hc
               have hp := hp.no hc
               have hq := hq.no hc
               have hT := hT.cc hc
               have hrnd := hrnd.no hc
               have hb7 := hb7.no hc
               have hb8 := hb8.no hc
               have hb9 := hb9.no hc
               have hb11 := hb11.no hc
               have hB82 := hB82.no hc
               have hB87 := hB87.no hc
               have hX := hX.no hc
               have hY := hY.no hc
               refine wz (p_pickF rfl rfl) ?_
               refine wmv ?_
               refine wl_split (d := 127) rfl (fun q127 => ?_) (fun q127 => ?_)
               ·
                refine wl_s gq rfl rfl ?_
                refine wz (p_pickT rfl rfl) ?_
                refine wmv ?_
                refine wle_g gq (e_call ent7 rfl rfl (works_any hT) ?_)
                rintro _ w67 ⟨rfl, hc⟩
                refine ⟨_, rfl, ?_⟩
                have hzw67 := hc.size
                have HC := HC.tr hc
                have hra := hra.no hc
                have hwa := hwa.no hc
                have hna := hna.cc hc
                have hrb := hrb.no hc
                have hwb := hwb.no hc
                have hnb := hnb.cc hc
                have hp := hp.no hc
                have hq := hq.no hc
                have hT := hT.cc hc
                have hrnd := hrnd.no hc
                have hb7 := hb7.no hc
                have hb8 := hb8.no hc
                have hb9 := hb9.no hc
                have hb11 := hb11.no hc
                have hB82 := hB82.no hc
                have hB87 := hB87.no hc
                have hX := hX.no hc
                have hY := hY.no hc
                refine wz (p_pickT rfl rfl) ?_
                refine was ?_
                refine wl_nil (x_seq (wc_ret ?_))
                refine fin_run ((res1 rfl rfl)) ?_
                exact ⟨rfl, HC⟩
               ·
                refine wl_g gq rfl rfl (p_mv rfl) ?_
                refine wz (p_pickF rfl rfl) ?_
                refine wmv ?_
                refine wl_split (d := 130) rfl (fun q130 => ?_) (fun q130 => ?_)
                ·
                 refine wle_g gq (e_call ent7 rfl rfl (works_any hT) ?_)
                 rintro _ w68 ⟨rfl, hc⟩
                 refine ⟨_, rfl, ?_⟩
                 have hzw68 := hc.size
                 have HC := HC.tr hc
                 have hra := hra.no hc
                 have hwa := hwa.no hc
                 have hna := hna.cc hc
                 have hrb := hrb.no hc
                 have hwb := hwb.no hc
                 have hnb := hnb.cc hc
                 have hp := hp.no hc
                 have hq := hq.no hc
                 have hT := hT.cc hc
                 have hrnd := hrnd.no hc
                 have hb7 := hb7.no hc
                 have hb8 := hb8.no hc
                 have hb9 := hb9.no hc
                 have hb11 := hb11.no hc
                 have hB82 := hB82.no hc
                 have hB87 := hB87.no hc
                 have hX := hX.no hc
                 have hY := hY.no hc
                 refine wz (p_pickT rfl rfl) ?_
                 refine was ?_
                 refine wl_nil (x_seq (wc_ret ?_))
                 refine fin_run ((res1 rfl rfl)) ?_
                 exact ⟨rfl, HC⟩
                ·
                 have hA1 : ok63 = true := by simpa using q111
                 have hA2 : ok74 = true := by simpa using q115
                 have hA3 : u63 = u74 := by simpa using q120
                 have hA4 : f90 = false := by simpa using q130
                 have hk1 := hok63.1 hA1
                 have hk2 := hok74.1 hA2
                 have hAB := sound_law hRa hRb hk1.2.2.2.2 hk2.2.2.2.2 hp.ok hq.ok (by rw [← hup63 hA1, ← hup74 hA2]; exact hA3) (hfn hA4 hk1 hk2)
                 have hs := hx125.2 (by simpa only [RC.mk.injEq] using hAB)
                 rw [show x125 = false by simpa using q127] at hs
                 exact absurd hs (by decide)
end Go.Proofs.YtdencdfdikmgbaaGreatDoor
