/-
  Own text, printed by a program of mine (wip/gx): what functions of the program do, walked operation by operation.
-/
import Derived.Test.YtdencdfdikmgbaaGreatDoorWm2
import Derived.Test.YtdencdfdikmgbaaGreatDoorProg
import Derived.Test.YtdencdfdikmgbaaGreatDoorTab
import Derived.Test.YtdencdfdikmgbaaGreatDoorZS
import Derived.Test.YtdencdfdikmgbaaGreatDoorRxWk
import Derived.Test.YtdencdfdikmgbaaGreatDoorZs0
set_option linter.unusedVariables false
set_option linter.unusedSimpArgs false
set_option maxHeartbeats 1000000
set_option maxRecDepth 20000
namespace Go.Proofs.YtdencdfdikmgbaaGreatDoor
open Go.RowKit Go.Gx
open Go.Plain
open Tryz
theorem pgoodr_any {w : World} {x : RD} {Fx : Nat → Prop}  (hqx : SI w Fx ePR x.A x.l x.c x.ps) (hxa : x.key.size ≤ 140737488351232) (hxb : x.to.size ≤ 140737488351232) (hxc : x.l ≤ 140737488351232) (hgr : GoodR x.abs) :
    Calls Tryz.prog 94 #[.agg ([.bool x.sc, .string x.key, .string x.to, .slice x.A x.l x.c] : List Value).toArray] w fun e w' => e = .returned (.bool true) ∧ Ch No w w' := by
  have hqxl := hqx.len
  obtain ⟨r1, r2, r3, hG, hin, r6⟩ := hgr
  simp only [RD.abs] at r1 r2 r3 hG r6
  have hin : ∀ j, j < x.ps.length → InR x.abs (x.ps.getD j Pr0) := hin
  have hqx := hqx.old
  have HC : Ch No w w := Ch.refl _ _
  refine enter' (args := [_]) (n := 49) Tryz.func94 rfl rfl rfl ?_
  refine wc_seq (wc_region ?_)
  refine wle rfl (e_box (cs := ([.bool x.sc, .string x.key, .string x.to, .slice x.A x.l x.c] : List Value).toArray) rfl rfl rfl (fun w1 g1 hg1 hb1 hc hsz1 => ?_))
  have hzw1 := hc.size
  have hge1 := HC.geo hg1
  have HC := HC.tr hc
  have hqx := hqx.no hc
  refine was ?_
  refine wl_nil (x_seq (wc_seq (wc_seq (wc_region ?_))))
  refine wz (pfl 1 underlying54) ?_
  refine wz (pldb underlying9 hb1) ?_
  refine wz (p_lenT underlying9 rfl) ?_
  refine wz (p_gt rfl rfl) ?_
  refine wmv ?_
  refine wl_know (d := 7) (b' := false) rfl (decide_eq_false (by omega)) ?_
  refine wl_g gq rfl rfl (pfl 2 underlying54) ?_
  refine wl_g gq rfl rfl (pldb underlying9 hb1) ?_
  refine wl_g gq rfl rfl (p_lenT underlying9 rfl) ?_
  refine wl_g gq rfl rfl (p_gt rfl rfl) ?_
  refine wz (p_pickF rfl rfl) ?_
  refine wmv ?_
  refine wl_know (d := 13) (b' := false) rfl (decide_eq_false (by omega)) ?_
  refine wl_g gq rfl rfl (pfl 3 underlying54) ?_
  refine wl_g gq rfl rfl (pldb underlying23 hb1) ?_
  refine wl_g gq rfl rfl (p_lenS underlying23 rfl) ?_
  refine wl_g gq rfl rfl (p_gt rfl rfl) ?_
  refine wz (p_pickF rfl rfl) ?_
  refine wmv ?_
  refine wl_know (d := 19) (b' := false) rfl (decide_eq_false (by omega)) ?_
  refine wl_g gq rfl rfl (pfl 3 underlying54) ?_
  refine wl_g gq rfl rfl (pldb underlying23 hb1) ?_
  refine wle_g gq (e_call ent93 rfl rfl (pgoodp_any (hqx) (by omega) hG) ?_)
  rintro _ w2 ⟨rfl, hc⟩
  refine ⟨_, rfl, ?_⟩
  have hzw2 := hc.size
  have HC := HC.tr hc
  have hqx := hqx.no hc
  have hb1 := hb1.no hc
  refine wl_g gq rfl rfl (p_not rfl) ?_
  refine wz (p_pickF rfl rfl) ?_
  refine wl_nil (x_seq ?_)
  refine wc_no rfl (rfl) ?_
  refine wc_skip (x_seq (wc_seq (wc_seq (wc_region ?_))))
  refine wz (pfl 0 underlying54) ?_
  refine wz (pldb underlying4 hb1) ?_
  refine wz (p_not rfl) ?_
  refine wmv ?_
  refine wl_split (d := 28) rfl (fun q28 => ?_) (fun q28 => ?_)
  ·
   refine wl_g gq rfl rfl (pfl 1 underlying54) ?_
   refine wl_g gq rfl rfl (pldb underlying9 hb1) ?_
   refine wl_g gq rfl rfl (p_eqT rfl rfl) ?_
   refine wl_g gq rfl rfl (p_mv rfl) ?_
   refine wl_know (d := 32) (b' := false) rfl (eq_nil (r6 (by simpa using q28)).1) ?_
   refine wl_g gq rfl rfl (pfl 2 underlying54) ?_
   refine wl_g gq rfl rfl (pldb underlying9 hb1) ?_
   refine wl_g gq rfl rfl (p_neT rfl rfl) ?_
   refine wl_g gq rfl rfl (p_pickF rfl rfl) ?_
   refine wl_g gq rfl rfl (p_mv rfl) ?_
   refine wl_know (d := 37) (b' := false) rfl ((by rw [is_nil0 (r6 (by simpa using q28)).2.1]; rfl)) ?_
   refine wl_g gq rfl rfl (pfl 3 underlying54) ?_
   refine wl_g gq rfl rfl (pldb underlying23 hb1) ?_
   refine wl_g gq rfl rfl (p_lenS underlying23 rfl) ?_
   refine wl_g gq rfl rfl (p_gt rfl rfl) ?_
   refine wl_g gq rfl rfl (p_pickF rfl rfl) ?_
   refine wz (p_pickT rfl rfl) ?_
   refine wl_nil (x_seq ?_)
   refine wc_no rfl (decide_eq_false (by have := (r6 (by simpa using q28)).2.2; omega)) ?_
   refine wc_skip (x_seq (wc_seq (wc_region ?_)))
   refine wz (pfl 3 underlying54) ?_
   refine wz (pldb underlying23 hb1) ?_
   refine wz (p_mkf rfl) ?_
   refine wle rfl (e_call ent162 rfl rfl (pcon_any (x := x) (hqx) hb1 hin (by omega)) ?_)
   rintro _ w3 ⟨rfl, hc⟩
   refine ⟨_, rfl, ?_⟩
   have hzw3 := hc.size
   have HC := HC.tr hc
   have hqx := hqx.no hc
   have hb1 := hb1.no hc
   refine wz (p_not rfl) ?_
   refine was ?_
   refine wl_nil (x_seq (wc_ret ?_))
   refine fin_run ((res1 rfl rfl)) ?_
   exact ⟨rfl, HC⟩
  ·
   iterate 14 refine wl_s gq rfl rfl ?_
   refine wz (p_pickF rfl rfl) ?_
   refine wl_nil (x_seq ?_)
   refine wc_no rfl (rfl) ?_
   refine wc_skip (x_seq (wc_seq (wc_region ?_)))
   refine wz (pfl 3 underlying54) ?_
   refine wz (pldb underlying23 hb1) ?_
   refine wz (p_mkf rfl) ?_
   refine wle rfl (e_call ent162 rfl rfl (pcon_any (x := x) (hqx) hb1 hin (by omega)) ?_)
   rintro _ w4 ⟨rfl, hc⟩
   refine ⟨_, rfl, ?_⟩
   have hzw4 := hc.size
   have HC := HC.tr hc
   have hqx := hqx.no hc
   have hb1 := hb1.no hc
   refine wz (p_not rfl) ?_
   refine was ?_
   refine wl_nil (x_seq (wc_ret ?_))
   refine fin_run ((res1 rfl rfl)) ?_
   exact ⟨rfl, HC⟩

theorem pright_any {w : World} {sa na : Int} {ba : Bool} {Ara : Option Addr} {lra cra : Nat} {Fra : Nat → Prop} {ra : List RD} {Awa : Option Addr} {lwa cwa : Nat} {Fwa : Nat → Prop} {wa : List Pr} {Ga : Nat → Prop}  (hra : SI w Fra eRD Ara lra cra ra) (hwa : SI w Fwa ePR Awa lwa cwa wa) (hna : NS w Ga ra) (hlr : lra ≤ 140737488351232) (hlw : lwa ≤ 140737488351232) (hR : Right ⟨sa, na, ba, ra.map RD.abs, wa⟩) :
    Calls Tryz.prog 34 #[.agg ([i64 sa, i64 na, .bool ba, .slice Ara lra cra, .slice Awa lwa cwa] : List Value).toArray] w fun e w' => e = .returned (.bool true) ∧ Ch No w w' := by
  have hrla := hra.len
  have hwla := hwa.len
  have hna := hna.old
  obtain ⟨h1, h2, h3, h4, h5, h6, hG, h8, h9⟩ := right_iff.1 hR
  have hra := hra.old
  have hwa := hwa.old
  have HC : Ch No w w := Ch.refl _ _
  refine enter' (args := [_]) (n := 69) Tryz.func34 rfl rfl rfl ?_
  refine wc_seq (wc_region ?_)
  refine wle rfl (e_box (cs := ([i64 sa, i64 na, .bool ba, .slice Ara lra cra, .slice Awa lwa cwa] : List Value).toArray) rfl rfl rfl (fun w1 g1 hg1 hb1 hc hsz1 => ?_))
  have hzw1 := hc.size
  have hge1 := HC.geo hg1
  have HC := HC.tr hc
  have hra := hra.no hc
  have hwa := hwa.no hc
  have hna := hna.cc hc
  refine was ?_
  refine wl_nil (x_seq (wc_seq (wc_seq (wc_region ?_))))
  refine wz (pfl 0 underlying25) ?_
  refine wz (pldb underlying3 hb1) ?_
  refine wz (p_lt rfl rfl) ?_
  refine wmv ?_
  refine wl_know (d := 9) (b' := false) rfl (decide_eq_false (by omega)) ?_
  refine wl_g gq rfl rfl (pfl 0 underlying25) ?_
  refine wl_g gq rfl rfl (pldb underlying3 hb1) ?_
  refine wl_g gq rfl rfl (p_gt rfl rfl) ?_
  refine wz (p_pickF rfl rfl) ?_
  refine wmv ?_
  refine wl_know (d := 14) (b' := false) rfl (decide_eq_false (by omega)) ?_
  refine wl_g gq rfl rfl (pfl 1 underlying25) ?_
  refine wl_g gq rfl rfl (pldb underlying3 hb1) ?_
  refine wl_g gq rfl rfl (p_lt rfl rfl) ?_
  refine wz (p_pickF rfl rfl) ?_
  refine wmv ?_
  refine wl_know (d := 19) (b' := false) rfl (decide_eq_false (by omega)) ?_
  refine wl_g gq rfl rfl (pfl 1 underlying25) ?_
  refine wl_g gq rfl rfl (pldb underlying3 hb1) ?_
  refine wl_g gq rfl rfl (p_gt rfl rfl) ?_
  refine wz (p_pickF rfl rfl) ?_
  refine wl_nil (x_seq ?_)
  refine wc_no rfl (decide_eq_false (by omega)) ?_
  refine wc_skip (x_seq (wc_seq (wc_seq (wc_region ?_))))
  refine wz (pfl 3 underlying25) ?_
  refine wz (pldb underlying22 hb1) ?_
  refine wz (p_lenS underlying22 rfl) ?_
  refine wz (p_gt rfl rfl) ?_
  refine wmv ?_
  refine wl_know (d := 28) (b' := false) rfl (decide_eq_false (by omega)) ?_
  refine wl_g gq rfl rfl (pfl 4 underlying25) ?_
  refine wl_g gq rfl rfl (pldb underlying23 hb1) ?_
  refine wl_g gq rfl rfl (p_lenS underlying23 rfl) ?_
  refine wl_g gq rfl rfl (p_gt rfl rfl) ?_
  refine wz (p_pickF rfl rfl) ?_
  refine wmv ?_
  refine wl_know (d := 34) (b' := false) rfl (decide_eq_false (by omega)) ?_
  refine wl_g gq rfl rfl (pfl 4 underlying25) ?_
  refine wl_g gq rfl rfl (pldb underlying23 hb1) ?_
  refine wle_g gq (e_call ent93 rfl rfl (pgoodp_any (hwa) (by omega) hG) ?_)
  rintro _ w2 ⟨rfl, hc⟩
  refine ⟨_, rfl, ?_⟩
  have hzw2 := hc.size
  have HC := HC.tr hc
  have hra := hra.no hc
  have hwa := hwa.no hc
  have hna := hna.cc hc
  have hb1 := hb1.no hc
  refine wl_g gq rfl rfl (p_not rfl) ?_
  refine wz (p_pickF rfl rfl) ?_
  refine wl_nil (x_seq ?_)
  refine wc_no rfl (rfl) ?_
  refine wc_skip (x_seq (wc_seq (wc_region ?_)))
  have hltg1 := hb1.lt
  refine wle rfl (e_mkSeen rfl (fun w3 g40 hg40 hm hc hsz40 => ?_))
  have hzw3 := hc.size
  have hge40 := HC.geo hg40
  have HC := HC.tr hc
  have hra := hra.no hc
  have hwa := hwa.no hc
  have hna := hna.cc hc
  have hb1 := hb1.no hc
  refine was ?_
  refine wl_nil (x_seq (wc_seq (wc_seq (wc_region ?_))))
  refine wz (pfl 3 underlying25) ?_
  refine wz (pldb underlying22 hb1) ?_
  refine wz (p_lenS underlying22 rfl) ?_
  refine wmv ?_
  refine wl_nil (x_seq (wc_block ?_))
  refine wc_loop (e' := [(1, .pointer (some ⟨g1, 0, none⟩)), (3, .map (some g40)), (42, .slice Ara lra cra), (43, i64 (lra : Int)), (44, i64 ((0) : Int))]) (fun mz ez uz => ∃ i : Nat, ∃ ks : List ByteArray, mz = lra - i ∧ ez = [(1, .pointer (some ⟨g1, 0, none⟩)), (3, .map (some g40)), (42, .slice Ara lra cra), (43, i64 (lra : Int)), (44, i64 (i : Int))] ∧ (i ≤ lra) ∧ (∀ k ∈ ks, ∃ j, j < i ∧ (ra.getD j RD0).sc = false ∧ (ra.getD j RD0).key = k) ∧ (SM uz g40 ks) ∧ (SI uz (fun k => k < w.heap.size) eRD Ara lra cra ra) ∧ (SI uz (fun k => k < w.heap.size) ePR Awa lwa cwa wa) ∧ (NS uz (fun k => k < w.heap.size) ra) ∧ (Blk uz g1 25 ([i64 sa, i64 na, .bool ba, .slice Ara lra cra, .slice Awa lwa cwa] : List Value).toArray) ∧ (w.heap.size ≤ g1 ∧ w.heap.size ≤ g40 ∧ g1 < g40) ∧ (Ch No w uz))
   ⟨rfl, rfl, rfl, rfl, rfl, trivial⟩ ⟨0, [], rfl, rfl, by omega, fun k h => absurd h List.not_mem_nil, hm, hra, hwa, hna, hb1, ⟨by omega, by omega, by omega⟩, HC⟩ ?_
  rintro m0 e w4 ⟨i, ks, hm0, rfl, hi, hseen, hm, hra, hwa, hna, hb1, hg1, HC⟩
  have hzw4 := HC.size
  refine wc_seq (wc_region ?_)
  refine wz (p_lt rfl rfl) ?_
  refine wl_nil (x_seq (wc_seq ?_))
  refine wc_if rfl (fun c2 => ?_) (fun c2 => ?_)
  ·
   have c2 := of_decide_eq_true c2
   refine wc_skip (x_seq (wc_seq (wc_block (wc_seq (wc_region ?_)))))
   obtain ⟨b5, o5, hA5, hF5, hr5⟩ := (hra).opn (i := i) (d := RD0) (by omega)
   have hok5 := (hra).okAt (i := i) (d := RD0) (by omega)
   obtain ⟨x5, ex5⟩ : ∃ x_, x_ = List.getD ra (i) RD0 := ⟨_, rfl⟩
   rw [← ex5] at hr5 hok5
   obtain ⟨hx5a, hx5b, hx5c⟩ := hok5
   have hr5 : w4.rangeAt b5 (o5 + i * 4) ([.bool x5.sc, .string x5.key, .string x5.to, .slice x5.A x5.l x5.c] : List Value) := hr5
   refine wz (p_ixS (j := i * 4) underlying22 sz54 rfl hA5 rfl (by omega) (by omega) (congrArg (· * 4) (Int.toNat_natCast _))) ?_
   have hqx5 := hna.get' ex5 (by have := True.intro; omega)
   have hqlx5 := hqx5.len
   have hgrx5 := h8 i (by omega); rw [← ex5] at hgrx5
   have hks : ∀ k ∈ ks, x5.sc = false → x5.key ≠ k := fun k hk hs he => by
     obtain ⟨j, hj, e1, e2⟩ := hseen k hk
     exact h9 i j (by omega) hj ⟨by rw [← ex5]; exact hs, e1, by rw [← ex5, e2]; exact he⟩
   refine wz (p_ldA (cs := ([.bool x5.sc, .string x5.key, .string x5.to, .slice x5.A x5.l x5.c] : List Value)) underlying54 rfl (szL sz54 rfl) rfl (fun _ e => e ▸ hr5)) ?_
   have hltg1 := hb1.lt
   refine wle rfl (e_alloc (cs := ([Value.bool false, Value.string ByteArray.empty, Value.string ByteArray.empty, Value.slice none 0 0] : List Value).toArray) rfl (by rfl) rfl (fun w6 g5 hg5 hb5 hc hsz5 => ?_))
   have hzw6 := hc.size
   have hge5 := HC.geo hg5
   have HC := HC.tr hc
   have hra := hra.no hc
   have hwa := hwa.no hc
   have hna := hna.cc hc
   have hb1 := hb1.no hc
   have hltm := hm.lt; first | have hm := hm.no hc | have hm := hm.ch hc (by omega)
   have hqx5 := hqx5.no hc
   have neg1_5 : g1 < g5 := by omega
   refine wle rfl (e_stW (vs := ([.bool x5.sc, .string x5.key, .string x5.to, .slice x5.A x5.l x5.c] : List Value)) (szL sz54 rfl) (allOne rfl) rfl rfl hb5 rfl (fun w7 hb5 hc hsz => ?_))
   have hzw7 := hc.size
   have HC := HC.n hc
   first | have hra := hra.cc hc | have hra := hra.cT hc
   first | have hwa := hwa.cc hc | have hwa := hwa.cT hc
   have hna := hna.cc hc
   have hb1 := hb1.cc hc
   have hltm := hm.lt; first | have hm := hm.no hc | have hm := hm.ch hc (by omega)
   first | have hqx5 := hqx5.cc hc | have hqx5 := hqx5.cT hc
   refine wl_nil (x_seq (wc_seq (wc_seq (wc_region ?_))))
   refine wz (p_ldA (cs := ([.bool x5.sc, .string x5.key, .string x5.to, .slice x5.A x5.l x5.c] : List Value)) underlying54 rfl (szL sz54 rfl) rfl (fun _ e => e ▸ rngL hb5)) ?_
   refine wle rfl (e_call ent94 rfl rfl (pgoodr_any (x := x5) hqx5 hx5a hx5b hx5c hgrx5) ?_)
   rintro _ w8 ⟨rfl, hc⟩
   refine ⟨_, rfl, ?_⟩
   have hzw8 := hc.size
   have HC := HC.tr hc
   have hra := hra.no hc
   have hwa := hwa.no hc
   have hna := hna.cc hc
   have hb1 := hb1.no hc
   have hltm := hm.lt; first | have hm := hm.no hc | have hm := hm.ch hc (by omega)
   have hqx5 := hqx5.no hc
   have hb5 := hb5.no hc
   refine wz (p_not rfl) ?_
   refine wmv ?_
   refine wl_g gq rfl rfl (pfl 0 underlying54) ?_
   refine wl_g gq rfl rfl (pldb underlying4 hb5) ?_
   refine wl_g gq rfl rfl (p_not rfl) ?_
   refine wl_g gq rfl rfl (p_mv rfl) ?_
   refine wl_split (d := 55) rfl (fun q55 => ?_) (fun q55 => ?_)
   ·
    refine wl_g gq rfl rfl (p_mv rfl) ?_
    refine wl_g gq rfl rfl (pfl 1 underlying54) ?_
    refine wl_g gq rfl rfl (pldb underlying9 hb5) ?_
    refine wl_g gq rfl rfl (p_seen (ks := ks) underlying169 underlying9 (by kernel_rfl) rfl rfl (fun hk => hks _ hk (by simpa using q55) rfl) (fun _ e => e ▸ hm)) ?_
    refine wl_g gq rfl rfl (p_pickT rfl rfl) ?_
    refine wz (p_pickF rfl rfl) ?_
    refine wl_nil (x_seq ?_)
    refine wc_no rfl (rfl) ?_
    refine wc_skip (x_seq (wc_seq (wc_region ?_)))
    refine wz (pfl 0 underlying54) ?_
    refine wz (pldb underlying4 hb5) ?_
    refine wz (p_not rfl) ?_
    refine wl_nil (x_seq ?_)
    refine wc_if rfl (fun c4 => ?_) (fun c4 => ?_)
    ·
     refine wc_region ?_
     refine wmv ?_
     refine wz (pfl 1 underlying54) ?_
     refine wz (pldb underlying9 hb5) ?_
     have hnew : x5.key ∉ ks := fun hk => hks _ hk (by simpa using c4) rfl
     refine wle rfl (e_see underlying169 underlying9 rfl rfl rfl hm hnew (fun w9 hm hc hsz => ?_))
     have hzw9 := hc.size
     have HC := HC.n hc
     first | have hra := hra.cc hc | have hra := hra.cT hc
     first | have hwa := hwa.cc hc | have hwa := hwa.cT hc
     have hna := hna.cc hc
     have hb1 := hb1.cc hc
     first | have hqx5 := hqx5.cc hc | have hqx5 := hqx5.cT hc
     have hb5 := hb5.cc hc
     refine wl_nil (x_in_normal (x_seq (wc_region ?_)))
     refine wz (p_add rfl rfl (w64 (by omega))) ?_
     refine wmv ?_
     refine wl_nil ?_
     have hseen : ∀ k ∈ ks ++ [x5.key], ∃ j, j < i + 1 ∧ (ra.getD j RD0).sc = false ∧ (ra.getD j RD0).key = k := fun k hk => by
       rcases List.mem_append.1 hk with h | h
       · obtain ⟨j, hj, e1, e2⟩ := hseen k h; exact ⟨j, by omega, e1, e2⟩
       · have h : k = x5.key := by simpa using h
         exact ⟨i, by omega, by rw [← ex5]; simpa using c4, by rw [← ex5, h]⟩
     refine x_round (e' := [(1, .pointer (some ⟨g1, 0, none⟩)), (3, .map (some g40)), (42, .slice Ara lra cra), (43, i64 (lra : Int)), (44, i64 ((i + 1) : Int))]) ⟨rfl, rfl, rfl, rfl, rfl, trivial⟩ (by rw [hm0]; omega) ⟨i + 1, (ks ++ [x5.key]), rfl, rfl, by omega, hseen, hm, hra, hwa, hna, hb1, hg1, HC⟩
    ·
     refine wc_skip (x_in_normal (x_seq (wc_region ?_)))
     refine wz (p_add rfl rfl (w64 (by omega))) ?_
     refine wmv ?_
     refine wl_nil ?_
     have hseen : ∀ k ∈ ks, ∃ j, j < i + 1 ∧ (ra.getD j RD0).sc = false ∧ (ra.getD j RD0).key = k := fun k hk => by obtain ⟨j, hj, e1, e2⟩ := hseen k hk; exact ⟨j, by omega, e1, e2⟩
     refine x_round (e' := [(1, .pointer (some ⟨g1, 0, none⟩)), (3, .map (some g40)), (42, .slice Ara lra cra), (43, i64 (lra : Int)), (44, i64 ((i + 1) : Int))]) ⟨rfl, rfl, rfl, rfl, rfl, trivial⟩ (by rw [hm0]; omega) ⟨i + 1, ks, rfl, rfl, by omega, hseen, hm, hra, hwa, hna, hb1, hg1, HC⟩
   ·
    iterate 4 refine wl_s gq rfl rfl ?_
    refine wl_g gq rfl rfl (p_pickF rfl rfl) ?_
    refine wz (p_pickF rfl rfl) ?_
    refine wl_nil (x_seq ?_)
    refine wc_no rfl (rfl) ?_
    refine wc_skip (x_seq (wc_seq (wc_region ?_)))
    refine wz (pfl 0 underlying54) ?_
    refine wz (pldb underlying4 hb5) ?_
    refine wz (p_not rfl) ?_
    refine wl_nil (x_seq ?_)
    refine wc_if rfl (fun c4 => ?_) (fun c4 => ?_)
    ·
     refine wc_region ?_
     refine wmv ?_
     refine wz (pfl 1 underlying54) ?_
     refine wz (pldb underlying9 hb5) ?_
     have hnew : x5.key ∉ ks := fun hk => hks _ hk (by simpa using c4) rfl
     refine wle rfl (e_see underlying169 underlying9 rfl rfl rfl hm hnew (fun w10 hm hc hsz => ?_))
     have hzw10 := hc.size
     have HC := HC.n hc
     first | have hra := hra.cc hc | have hra := hra.cT hc
     first | have hwa := hwa.cc hc | have hwa := hwa.cT hc
     have hna := hna.cc hc
     have hb1 := hb1.cc hc
     first | have hqx5 := hqx5.cc hc | have hqx5 := hqx5.cT hc
     have hb5 := hb5.cc hc
     refine wl_nil (x_in_normal (x_seq (wc_region ?_)))
     refine wz (p_add rfl rfl (w64 (by omega))) ?_
     refine wmv ?_
     refine wl_nil ?_
     have hseen : ∀ k ∈ ks ++ [x5.key], ∃ j, j < i + 1 ∧ (ra.getD j RD0).sc = false ∧ (ra.getD j RD0).key = k := fun k hk => by
       rcases List.mem_append.1 hk with h | h
       · obtain ⟨j, hj, e1, e2⟩ := hseen k h; exact ⟨j, by omega, e1, e2⟩
       · have h : k = x5.key := by simpa using h
         exact ⟨i, by omega, by rw [← ex5]; simpa using c4, by rw [← ex5, h]⟩
     refine x_round (e' := [(1, .pointer (some ⟨g1, 0, none⟩)), (3, .map (some g40)), (42, .slice Ara lra cra), (43, i64 (lra : Int)), (44, i64 ((i + 1) : Int))]) ⟨rfl, rfl, rfl, rfl, rfl, trivial⟩ (by rw [hm0]; omega) ⟨i + 1, (ks ++ [x5.key]), rfl, rfl, by omega, hseen, hm, hra, hwa, hna, hb1, hg1, HC⟩
    ·
     refine wc_skip (x_in_normal (x_seq (wc_region ?_)))
     refine wz (p_add rfl rfl (w64 (by omega))) ?_
     refine wmv ?_
     refine wl_nil ?_
     have hseen : ∀ k ∈ ks, ∃ j, j < i + 1 ∧ (ra.getD j RD0).sc = false ∧ (ra.getD j RD0).key = k := fun k hk => by obtain ⟨j, hj, e1, e2⟩ := hseen k hk; exact ⟨j, by omega, e1, e2⟩
     refine x_round (e' := [(1, .pointer (some ⟨g1, 0, none⟩)), (3, .map (some g40)), (42, .slice Ara lra cra), (43, i64 (lra : Int)), (44, i64 ((i + 1) : Int))]) ⟨rfl, rfl, rfl, rfl, rfl, trivial⟩ (by rw [hm0]; omega) ⟨i + 1, ks, rfl, rfl, by omega, hseen, hm, hra, hwa, hna, hb1, hg1, HC⟩
  ·
   have c2 := of_decide_eq_false c2
   refine wc_exit (x_then_exit (x_then_exit (x_in_here (x_seq (wc_seq (wc_region ?_))))))
   refine was ?_
   refine wl_nil (x_seq (wc_ret ?_))
   refine fin_run ((res1 rfl rfl)) ?_
   exact ⟨rfl, HC⟩

theorem rgood_rec {w : World} {sa na : Int} {ba : Bool} {Ara : Option Addr} {lra cra : Nat} {Fra : Nat → Prop} {ra : List RD} {Awa : Option Addr} {lwa cwa : Nat} {Fwa : Nat → Prop} {wa : List Pr} {Ga : Nat → Prop}  (hra : SI w Fra eRD Ara lra cra ra) (hwa : SI w Fwa ePR Awa lwa cwa wa) (hna : NS w Ga ra) (hlr : lra ≤ 140737488351232) (hlw : lwa ≤ 140737488351232) :
    Calls Tryz.prog 6 #[.agg ([i64 sa, i64 na, .bool ba, .slice Ara lra cra, .slice Awa lwa cwa] : List Value).toArray] w fun e w' => ∃ b, e = .returned (.bool b) ∧ (b = true → Right ⟨sa, na, ba, ra.map RD.abs, wa⟩) ∧ Ch No w w' := by
  have hrla := hra.len
  have hwla := hwa.len
  have hna := hna.old
  have hra := hra.old
  have hwa := hwa.old
  have HC : Ch No w w := Ch.refl _ _
  refine enter' (args := [_]) (n := 11) Tryz.func6 rfl rfl rfl ?_
  refine wc_seq (wc_region ?_)
  refine wle rfl (e_box (cs := ([i64 sa, i64 na, .bool ba, .slice Ara lra cra, .slice Awa lwa cwa] : List Value).toArray) rfl rfl rfl (fun w1 g1 hg1 hb1 hc hsz1 => ?_))
  have hzw1 := hc.size
  have hge1 := HC.geo hg1
  have HC := HC.tr hc
  have hra := hra.no hc
  have hwa := hwa.no hc
  have hna := hna.cc hc
  refine was ?_
  refine wl_nil (x_seq (wc_seq (wc_region ?_)))
  refine wz (p_ldA (cs := ([i64 sa, i64 na, .bool ba, .slice Ara lra cra, .slice Awa lwa cwa] : List Value)) underlying25 rfl (szL sz25 rfl) rfl (fun _ e => e ▸ rngL hb1)) ?_
  refine wle rfl (e_call ent16 rfl rfl (rright_any (hra) (hwa) hna (by omega) (by omega)) ?_)
  rintro _ w2 ⟨x4, rfl, hx4, hc⟩
  refine ⟨_, rfl, ?_⟩
  have hzw2 := hc.size
  have HC := HC.tr hc
  have hra := hra.no hc
  have hwa := hwa.no hc
  have hna := hna.cc hc
  have hb1 := hb1.no hc
  refine wmv ?_
  refine wl_split (d := 5) rfl (fun q5 => ?_) (fun q5 => ?_)
  ·
   have hR := hx4.1 q5
   refine wl_g gq rfl rfl (p_ldA (cs := ([i64 sa, i64 na, .bool ba, .slice Ara lra cra, .slice Awa lwa cwa] : List Value)) underlying25 rfl (szL sz25 rfl) rfl (fun _ e => e ▸ rngL hb1)) ?_
   refine wle_g gq (e_call ent17 rfl rfl (rbytes_rec (hra) (hwa) hna hR) ?_)
   rintro _ w3 ⟨A7, l7, c7, rfl, hB7, hn7, hc⟩
   refine ⟨_, rfl, ?_⟩
   have hzw3 := hc.size
   have HC := HC.tr hc
   have hra := hra.no hc
   have hwa := hwa.no hc
   have hna := hna.cc hc
   have hb1 := hb1.no hc
   refine wl_g gq rfl rfl (p_lenS underlying38 rfl) ?_
   refine wl_g gq rfl rfl (p_le rfl rfl) ?_
   refine wz (p_pickT rfl rfl) ?_
   refine was ?_
   refine wl_nil (x_seq (wc_ret ?_))
   refine fin_run ((res1 rfl rfl)) ?_
   exact ⟨_, rfl, fun _ => hR, HC⟩
  ·
   iterate 4 refine wl_s gq rfl rfl ?_
   refine wz (p_pickF rfl rfl) ?_
   refine was ?_
   refine wl_nil (x_seq (wc_ret ?_))
   refine fin_run ((res1 rfl rfl)) ?_
   exact ⟨false, rfl, fun h => (by cases h), HC⟩

theorem rBytes_rec {w : World} {sa na : Int} {ba : Bool} {Ara : Option Addr} {lra cra : Nat} {Fra : Nat → Prop} {ra : List RD} {Awa : Option Addr} {lwa cwa : Nat} {Fwa : Nat → Prop} {wa : List Pr} {Ga : Nat → Prop}  (hra : SI w Fra eRD Ara lra cra ra) (hwa : SI w Fwa ePR Awa lwa cwa wa) (hna : NS w Ga ra) (hlr : lra ≤ 140737488351232) (hlw : lwa ≤ 140737488351232) (hR : Right ⟨sa, na, ba, ra.map RD.abs, wa⟩) :
    Calls Tryz.prog 31 #[.agg ([i64 sa, i64 na, .bool ba, .slice Ara lra cra, .slice Awa lwa cwa] : List Value).toArray] w fun e w' => ∃ A' l' c', e = .returned (.slice A' l' c') ∧ Sl w' (fun k => k < w'.heap.size) u8v A' l' c' (encRC ⟨sa, na, ba, ra.map RD.abs, wa⟩) ∧ l' ≤ 14000000 ∧ Ch No w w' := by
  have hrla := hra.len
  have hwla := hwa.len
  have hna := hna.old
  have hra := hra.old
  have hwa := hwa.old
  have HC : Ch No w w := Ch.refl _ _
  refine enter' (args := [_]) (n := 8) Tryz.func31 rfl rfl rfl ?_
  refine wc_seq (wc_region ?_)
  refine wle rfl (e_box (cs := ([i64 sa, i64 na, .bool ba, .slice Ara lra cra, .slice Awa lwa cwa] : List Value).toArray) rfl rfl rfl (fun w1 g1 hg1 hb1 hc hsz1 => ?_))
  have hzw1 := hc.size
  have hge1 := HC.geo hg1
  have HC := HC.tr hc
  have hra := hra.no hc
  have hwa := hwa.no hc
  have hna := hna.cc hc
  refine was ?_
  refine wl_nil (x_seq (wc_seq (wc_seq (wc_region ?_))))
  refine wz (p_ldA (cs := ([i64 sa, i64 na, .bool ba, .slice Ara lra cra, .slice Awa lwa cwa] : List Value)) underlying25 rfl (szL sz25 rfl) rfl (fun _ e => e ▸ rngL hb1)) ?_
  refine wle rfl (e_call ent16 rfl rfl (rright_any (hra) (hwa) hna (by omega) (by omega)) ?_)
  rintro _ w2 ⟨x4, rfl, hx4, hc⟩
  refine ⟨_, rfl, ?_⟩
  have hzw2 := hc.size
  have HC := HC.tr hc
  have hra := hra.no hc
  have hwa := hwa.no hc
  have hna := hna.cc hc
  have hb1 := hb1.no hc
  refine wz (p_not rfl) ?_
  refine wl_nil (x_seq ?_)
  refine wc_no rfl ((by rw [hx4.2 hR]; rfl)) ?_
  refine wc_skip (x_seq (wc_seq (wc_region ?_)))
  refine wz (p_ldA (cs := ([i64 sa, i64 na, .bool ba, .slice Ara lra cra, .slice Awa lwa cwa] : List Value)) underlying25 rfl (szL sz25 rfl) rfl (fun _ e => e ▸ rngL hb1)) ?_
  refine wle rfl (e_call ent17 rfl rfl (rbytes_rec (hra) (hwa) hna hR) ?_)
  rintro _ w3 ⟨A7, l7, c7, rfl, hB7, hn7, hc⟩
  refine ⟨_, rfl, ?_⟩
  have hzw3 := hc.size
  have HC := HC.tr hc
  have hra := hra.no hc
  have hwa := hwa.no hc
  have hna := hna.cc hc
  have hb1 := hb1.no hc
  refine was ?_
  refine wl_nil (x_seq (wc_ret ?_))
  refine fin_run ((res1 rfl rfl)) ?_
  exact ⟨_, _, _, rfl, hB7.old, hn7, HC⟩

theorem pBytes_rec {w : World} {sa na : Int} {ba : Bool} {Ara : Option Addr} {lra cra : Nat} {Fra : Nat → Prop} {ra : List RD} {Awa : Option Addr} {lwa cwa : Nat} {Fwa : Nat → Prop} {wa : List Pr} {Ga : Nat → Prop}  (hra : SI w Fra eRD Ara lra cra ra) (hwa : SI w Fwa ePR Awa lwa cwa wa) (hna : NS w Ga ra) (hlr : lra ≤ 140737488351232) (hlw : lwa ≤ 140737488351232) (hR : Right ⟨sa, na, ba, ra.map RD.abs, wa⟩) :
    Calls Tryz.prog 11 #[.agg ([i64 sa, i64 na, .bool ba, .slice Ara lra cra, .slice Awa lwa cwa] : List Value).toArray] w fun e w' => ∃ A' l' c', e = .returned (.slice A' l' c') ∧ Sl w' (fun k => k < w'.heap.size) u8v A' l' c' (encRC ⟨sa, na, ba, ra.map RD.abs, wa⟩) ∧ l' ≤ 14000000 ∧ Ch No w w' := by
  have hrla := hra.len
  have hwla := hwa.len
  have hna := hna.old
  have hra := hra.old
  have hwa := hwa.old
  have HC : Ch No w w := Ch.refl _ _
  refine enter' (args := [_]) (n := 8) Tryz.func11 rfl rfl rfl ?_
  refine wc_seq (wc_region ?_)
  refine wle rfl (e_box (cs := ([i64 sa, i64 na, .bool ba, .slice Ara lra cra, .slice Awa lwa cwa] : List Value).toArray) rfl rfl rfl (fun w1 g1 hg1 hb1 hc hsz1 => ?_))
  have hzw1 := hc.size
  have hge1 := HC.geo hg1
  have HC := HC.tr hc
  have hra := hra.no hc
  have hwa := hwa.no hc
  have hna := hna.cc hc
  refine was ?_
  refine wl_nil (x_seq (wc_seq (wc_seq (wc_region ?_))))
  refine wz (p_ldA (cs := ([i64 sa, i64 na, .bool ba, .slice Ara lra cra, .slice Awa lwa cwa] : List Value)) underlying25 rfl (szL sz25 rfl) rfl (fun _ e => e ▸ rngL hb1)) ?_
  refine wle rfl (e_call ent34 rfl rfl (pright_any (hra) (hwa) hna (by omega) (by omega) hR) ?_)
  rintro _ w2 ⟨rfl, hc⟩
  refine ⟨_, rfl, ?_⟩
  have hzw2 := hc.size
  have HC := HC.tr hc
  have hra := hra.no hc
  have hwa := hwa.no hc
  have hna := hna.cc hc
  have hb1 := hb1.no hc
  refine wz (p_not rfl) ?_
  refine wl_nil (x_seq ?_)
  refine wc_no rfl (rfl) ?_
  refine wc_skip (x_seq (wc_seq (wc_region ?_)))
  refine wz (p_ldA (cs := ([i64 sa, i64 na, .bool ba, .slice Ara lra cra, .slice Awa lwa cwa] : List Value)) underlying25 rfl (szL sz25 rfl) rfl (fun _ e => e ▸ rngL hb1)) ?_
  refine wle rfl (e_call ent35 rfl rfl (pbytes_rec (hra) (hwa) hna hR) ?_)
  rintro _ w3 ⟨A7, l7, c7, rfl, hB7, hn7, hc⟩
  refine ⟨_, rfl, ?_⟩
  have hzw3 := hc.size
  have HC := HC.tr hc
  have hra := hra.no hc
  have hwa := hwa.no hc
  have hna := hna.cc hc
  have hb1 := hb1.no hc
  refine was ?_
  refine wl_nil (x_seq (wc_ret ?_))
  refine fin_run ((res1 rfl rfl)) ?_
  exact ⟨_, _, _, rfl, hB7.old, hn7, HC⟩

theorem turn_any {w : World} {x : BitVec 32} {n : Nat} (hn : n ≤ 31) :
    Calls Tryz.prog 98 #[u32v x, u64v n] w fun e w' => e = .returned (u32v (rotr x n)) ∧ Ch No w w' := by
  have HC : Ch No w w := Ch.refl _ _
  refine enter' (args := [u32v x, u64v n]) (n := 13) Tryz.func98 rfl rfl rfl ?_
  refine wc_seq (wc_region ?_)
  refine was ?_
  refine wl_nil (x_seq (wc_seq (wc_region ?_)))
  iterate 2 refine wmv ?_
  refine wz (p_shr32 (Y := n) rfl rfl) ?_
  iterate 2 refine wmv ?_
  refine wz (p_sub (Z := ((32 - n : Nat) : Int)) rfl rfl (by rw [wu64 (by omega)]; omega)) ?_
  refine wz (p_shl32 (Y := 32 - n) rfl rfl) ?_
  refine wz (p_or32 rfl rfl) ?_
  refine was ?_
  refine wl_nil (x_seq (wc_ret ?_))
  refine fin_run ((res1 rfl rfl)) ?_
  exact ⟨rfl, HC⟩

theorem keys_any {w : World}   :
    Calls Tryz.prog 99 #[] w fun e w' => e = .returned (.agg (rk.map u32v).toArray) ∧ Ch No w w' := by
  have HC : Ch No w w := Ch.refl _ _
  refine enter' (args := []) (n := 2) Tryz.func99 rfl rfl rfl ?_
  refine wc_seq (wc_region ?_)
  refine wle rfl (e_alloc (cs := ((List.replicate 64 0#32).map u32v).toArray) rfl (by rfl) rfl (fun w1 g0 hg0 hb0 hc hsz0 => ?_))
  have hzw1 := hc.size
  have hge0 := HC.geo hg0
  have HC := HC.tr hc
  refine wl_nil (x_seq (wc_seq (wc_region ?_)))
  refine wz (p_bldP (cs := (rk.map u32v).toArray) rfl (fun _ => by kernel_rfl)) ?_
  refine wle rfl (e_stW (vs := (rk.map u32v)) (by kernel_rfl) (oneL one_u32 _) rfl rfl hb0 (by kernel_rfl) (fun w2 hb0 hc hsz => ?_))
  have hzw2 := hc.size
  have HC := HC.n hc
  refine wl_nil (x_seq (wc_ret ?_))
  refine fin_run (resC rfl rfl underlying172 rfl (by kernel_rfl) (rngL hb0)) ?_
  exact ⟨rfl, HC⟩

theorem padded_any {w : World} {Ab : Option Addr} {lb cb : Nat} {Fb : Nat → Prop} {b : List UInt8} (hb : Sl w Fb u8v Ab lb cb b) (hl : lb ≤ 1099511627776) :
    Calls Tryz.prog 36 #[.slice Ab lb cb] w fun e w' => ∃ A c, e = .returned (.slice A (lb + 1 + nz b.length + 8) c) ∧ Row w' (fun k => w.heap.size ≤ k) 5 1 (.slice A (lb + 1 + nz b.length + 8) c) (lb + 1 + nz b.length + 8) ((pad b).map u8v) ∧ Ch No w w' := by
  have hbl := hb.len
  have hnz : nz b.length < 64 := by unfold nz; omega
  have hb := hb.old
  have HC : Ch No w w := Ch.refl _ _
  refine enter' (args := [.slice Ab lb cb]) (n := 36) Tryz.func36 rfl rfl rfl ?_
  refine wc_seq (wc_region ?_)
  refine was ?_
  refine wl_nil (x_seq (wc_seq (wc_region ?_)))
  refine wle rfl (e_bsl (cs := #[]) (E := 5) rfl rfl (fun _ => by kernel_rfl) (fun w1 g6 hg6 hb6 hc hsz6 => ?_))
  have hzw1 := hc.size
  have hge6 := HC.geo hg6
  have HC := HC.tr hc
  have hb := hb.no hc
  have hW6 := Row.lit (l := 0) (f := u8v) (xs := []) (F := fun k => g6 ≤ k) hb6 (by first | omega | (dsimp only; omega)) rfl rfl (by simp [maxLen])
  refine wmv ?_
  refine wle rfl (e_appS rfl el38 one_u8 rfl rfl hW6 hb (by omega) (by intro k hk; first | omega | (dsimp only at *; omega)) (fun w2 A8 c8 hW6 hc => ?_))
  have hzw2 := hc.size
  have HC := HC.trans hc (fun _ _ h => h) (fun k hk ht => absurd ht (by first | omega | (dsimp only at *; omega)))
  first | have hb := hb.cc hc | have hb := hb.cT hc
  refine wle rfl (e_bslV (E := 5) rfl rfl (fun _ => by kernel_rfl) (fun w3 g9 hg9 hb9 hc hsz9 => ?_))
  have hzw3 := hc.size
  have hge9 := HC.geo hg9
  have HC := HC.tr hc
  have hb := hb.no hc
  have hW6 := hW6.after hc
  have hS9 := Sl.lit1 (f := u8v) (x := 128) hb9
  refine wle rfl (e_appS rfl el38 one_u8 rfl rfl hW6 hS9 (by omega) (by intro k hk; first | omega | (dsimp only at *; omega)) (fun w4 A10 c10 hW6 hc => ?_))
  have hzw4 := hc.size
  have HC := HC.trans hc (fun _ _ h => h) (fun k hk ht => absurd ht (by first | omega | (dsimp only at *; omega)))
  first | have hb := hb.cc hc | have hb := hb.cT hc
  first | have hS9 := hS9.cc hc | have hS9 := hS9.cT hc
  refine was ?_
  refine wl_nil (x_seq (wc_seq (wc_block ?_)))
  refine wc_loop (e' := [(0, .slice Ab lb cb), (3, .slice (A10) (lb + 1 + (0)) (c10))]) (fun mz ez uz => ∃ j : Nat, ∃ A : Option Addr, ∃ c : Nat, mz = nz b.length - j ∧ ez = [(0, .slice Ab lb cb), (3, .slice A (lb + 1 + j) c)] ∧ (j ≤ nz b.length) ∧ (Row uz (fun k => w.heap.size ≤ k) 5 1 (.slice A (lb + 1 + j) c) (lb + 1 + j) ((pz b j).map u8v)) ∧ (Sl uz (fun k => k < w.heap.size) u8v Ab lb cb b) ∧ (Ch No w uz))
   ⟨rfl, (congrArg (fun z => some (Value.slice A10 z c10)) (show 0 + lb + 1 = lb + 1 + 0 by omega)), trivial⟩ ⟨0, A10, c10, rfl, rfl, by omega, by rw [show lb + 1 + 0 = 0 + lb + 1 by omega]; exact hW6.mono (fun k _ hk => by first | omega | (dsimp only at *; omega)), hb, HC⟩ ?_
  rintro m0 e w5 ⟨j, A, c, hm0, rfl, hj, hW6, hb, HC⟩
  have hzw5 := HC.size
  have hpl := pz_len (m := b) (j := j)
  refine wc_seq (wc_seq (wc_region ?_))
  refine wmv ?_
  refine wz (p_lenS underlying38 rfl) ?_
  refine wz (p_rem (Z := (((pz b j).length % 64 : Nat) : Int)) rfl rfl (by omega) (by rw [pz_len, hbl]; rfl)) ?_
  refine wz (p_ne rfl rfl) ?_
  refine wl_nil (x_seq ?_)
  refine wc_if rfl (fun c0 => ?_) (fun c0 => ?_)
  ·
   have c0 := of_decide_eq_true c0
   have hjn : j < nz b.length := nz_on hj (fun e => c0 (by rw [hpl, e]; rfl))
   refine wc_skip (x_seq (wc_block (wc_region ?_)))
   refine wmv ?_
   refine wle rfl (e_bslV (E := 5) rfl rfl (fun _ => by kernel_rfl) (fun w6 g16 hg16 hb16 hc hsz16 => ?_))
   have hzw6 := hc.size
   have hge16 := HC.geo hg16
   have HC := HC.tr hc
   have hb := hb.no hc
   have hW6 := hW6.after hc
   have hS16 := Sl.lit1 (f := u8v) (x := 0) hb16
   refine wle rfl (e_appS rfl el38 one_u8 rfl rfl hW6 hS16 (by omega) (by intro k hk; first | omega | (dsimp only at *; omega)) (fun w7 A17 c17 hW6 hc => ?_))
   have hzw7 := hc.size
   have HC := HC.trans hc (fun _ _ h => h) (fun k hk ht => absurd ht (by first | omega | (dsimp only at *; omega)))
   first | have hb := hb.cc hc | have hb := hb.cT hc
   first | have hS16 := hS16.cc hc | have hS16 := hS16.cT hc
   refine was ?_
   refine wl_nil (x_in_normal ?_)
   refine x_round (e' := [(0, .slice Ab lb cb), (3, .slice (A17) (lb + 1 + (j + 1)) (c17))]) ⟨rfl, rfl, trivial⟩ (by rw [hm0]; omega) ⟨j + 1, A17, c17, rfl, rfl, by omega, by rw [← pz_next]; exact hW6.mono (fun k _ hk => by first | omega | (dsimp only at *; omega)), hb, HC⟩
  ·
   have c0 := of_decide_eq_false c0
   have hjn : j = nz b.length := nz_stop hj (by rw [hpl] at c0; omega)
   subst hjn
   rw [pq_zero] at hW6
   refine wc_exit (x_then_exit (x_then_exit (x_in_here (x_seq (wc_seq (wc_region ?_))))))
   refine wmv ?_
   refine wz (p_lenS underlying38 rfl) ?_
   refine wz (p_conv underlying3 underlying102 rfl (wu64 (by omega))) ?_
   refine wz (p_mul (Z := ((8 * b.length : Nat) : Int)) rfl rfl (by rw [wu64 (by omega)]; omega)) ?_
   refine was ?_
   refine wl_nil (x_seq (wc_seq (wc_seq (wc_region ?_))))
   refine was ?_
   refine wl_nil (x_seq (wc_block ?_))
   refine wc_loop (e' := [(0, .slice Ab lb cb), (3, .slice (A) (lb + 1 + nz b.length + (0)) (c)), (4, u64v (8 * b.length)), (5, i64 (7 - ((0) : Int)))]) (fun mz ez uz => ∃ k : Nat, ∃ A : Option Addr, ∃ c : Nat, mz = 8 - k ∧ ez = [(0, .slice Ab lb cb), (3, .slice A (lb + 1 + nz b.length + k) c), (4, u64v (8 * b.length)), (5, i64 (7 - (k : Int)))] ∧ (k ≤ 8) ∧ (Row uz (fun k => w.heap.size ≤ k) 5 1 (.slice A (lb + 1 + nz b.length + k) c) (lb + 1 + nz b.length + k) ((pq b k).map u8v)) ∧ (Sl uz (fun k => k < w.heap.size) u8v Ab lb cb b) ∧ (Ch No w uz))
    ⟨rfl, rfl, rfl, rfl, trivial⟩ ⟨0, A, c, rfl, rfl, by omega, hW6.mono (fun k _ hk => by first | omega | (dsimp only at *; omega)), hb, HC⟩ ?_
   rintro m1 e w8 ⟨k, A, c, hm1, rfl, hk, hW6, hb, HC⟩
   have hzw8 := HC.size
   refine wc_seq (wc_seq (wc_region ?_))
   refine wmv ?_
   refine wz (p_ge rfl rfl) ?_
   refine wl_nil (x_seq ?_)
   refine wc_if rfl (fun c1 => ?_) (fun c1 => ?_)
   ·
    have c1 := of_decide_eq_true c1
    refine wc_skip (x_seq (wc_seq (wc_block (wc_region ?_))))
    iterate 2 refine wmv ?_
    refine wz (p_mv (v := i64 ((7 - k : Nat) : Int)) (show some (i64 (7 - (k : Int))) = some (i64 ((7 - k : Nat) : Int)) from congrArg some (congrArg i64 (by omega)))) ?_
    refine wz (p_mul (Z := ((56 - 8 * k : Nat) : Int)) rfl rfl (by rw [w64 (by omega)]; omega)) ?_
    refine wz (p_conv underlying3 underlying85 rfl (wu64 (by omega))) ?_
    refine wz (p_shrN (Y := 56 - 8 * k) rfl rfl (Nat.ble_eq_true_of_le (show 56 - 8 * k ≤ 64 by omega))) ?_
    refine wz (p_convN8 underlying102 underlying5 rfl) ?_
    refine wle rfl (e_bslV (E := 5) rfl rfl (fun _ => by kernel_rfl) (fun w9 g33 hg33 hb33 hc hsz33 => ?_))
    have hzw9 := hc.size
    have hge33 := HC.geo hg33
    have HC := HC.tr hc
    have hb := hb.no hc
    have hW6 := hW6.after hc
    have hS33 := Sl.lit1 (f := u8v) hb33
    refine wle rfl (e_appS rfl el38 one_u8 rfl rfl hW6 hS33 (by omega) (by intro k hk; first | omega | (dsimp only at *; omega)) (fun w10 A34 c34 hW6 hc => ?_))
    have hzw10 := hc.size
    have HC := HC.trans hc (fun _ _ h => h) (fun k hk ht => absurd ht (by first | omega | (dsimp only at *; omega)))
    first | have hb := hb.cc hc | have hb := hb.cT hc
    first | have hS33 := hS33.cc hc | have hS33 := hS33.cT hc
    refine was ?_
    refine wl_nil (x_in_normal (x_seq (wc_region ?_)))
    refine wmv ?_
    refine wz (p_sub rfl rfl (w64 (by omega))) ?_
    refine was ?_
    refine wl_nil ?_
    refine x_round (e' := [(0, .slice Ab lb cb), (3, .slice (A34) (lb + 1 + nz b.length + (k + 1)) (c34)), (4, u64v (8 * b.length)), (5, i64 (7 - ((k + 1) : Int)))]) ⟨rfl, rfl, rfl, (congrArg some (congrArg i64 (by omega))), trivial⟩ (by rw [hm1]; omega) ⟨k + 1, A34, c34, rfl, rfl, by omega, by rw [← pq_next (by omega)]; exact hW6.mono (fun k _ hk => by first | omega | (dsimp only at *; omega)), hb, HC⟩
   ·
    have c1 := of_decide_eq_false c1
    obtain rfl : k = 8 := by omega
    rw [pq_all] at hW6
    refine wc_exit (x_then_exit (x_then_exit (x_in_here (x_seq (wc_seq (wc_region ?_))))))
    refine wmv ?_
    refine was ?_
    refine wl_nil (x_seq (wc_ret ?_))
    refine fin_run ((res1 rfl rfl)) ?_
    exact ⟨_, _, rfl, hW6, HC⟩

theorem rblock_any {w : World} {Ab : Option Addr} {lb cb : Nat} {Fb : Nat → Prop} {b : List UInt8} {h : List W32} (hb : Sl w Fb u8v Ab lb cb b) (hh : h.length = 8) (hlb : lb = 64) :
    Calls Tryz.prog 37 #[.agg (h.map u32v).toArray, .slice Ab lb cb] w fun e w' => e = .returned (.agg ((cmp h b).map u32v).toArray) ∧ Ch No w w' := by
  have hbl := hb.len
  have hsl := sch_len b 64
  have hb := hb.old
  have HC : Ch No w w := Ch.refl _ _
  refine enter' (args := [.agg (h.map u32v).toArray, .slice Ab lb cb]) (n := 195) Tryz.func37 rfl rfl rfl ?_
  refine wc_seq (wc_region ?_)
  refine wle rfl (e_box rfl rfl rfl (fun w1 g2 hg2 hb2 hc hsz2 => ?_))
  have hzw1 := hc.size
  have hge2 := HC.geo hg2
  have HC := HC.tr hc
  have hb := hb.no hc
  have hltg2 := hb2.lt
  refine wle rfl (e_alloc (cs := ((List.replicate 8 0#32).map u32v).toArray) rfl (by rfl) rfl (fun w2 g4 hg4 hb4 hc hsz4 => ?_))
  have hzw2 := hc.size
  have hge4 := HC.geo hg4
  have HC := HC.tr hc
  have hb := hb.no hc
  have hb2 := hb2.no hc
  have neg2_4 : g2 < g4 := by omega
  refine wl_nil (x_seq (wc_seq (wc_region ?_)))
  have hltg2 := hb2.lt
  have hltg4 := hb4.lt
  refine wle rfl (e_alloc (cs := ((List.replicate 64 0#32).map u32v).toArray) rfl (by rfl) rfl (fun w3 g5 hg5 hb5 hc hsz5 => ?_))
  have hzw3 := hc.size
  have hge5 := HC.geo hg5
  have HC := HC.tr hc
  have hb := hb.no hc
  have hb2 := hb2.no hc
  have hb4 := hb4.no hc
  have neg2_5 : g2 < g5 := by omega
  have neg4_5 : g4 < g5 := by omega
  refine wl_nil (x_seq (wc_seq (wc_seq (wc_region ?_))))
  refine was ?_
  refine wl_nil (x_seq (wc_block ?_))
  refine wc_loop (e' := [(0, .agg (h.map u32v).toArray), (1, .slice Ab lb cb), (2, .pointer (some ⟨g2, 0, none⟩)), (4, .pointer (some ⟨g4, 0, none⟩)), (5, .pointer (some ⟨g5, 0, none⟩)), (6, i64 ((0) : Int))]) (fun mz ez uz => ∃ t : Nat, mz = 16 - t ∧ ez = [(0, .agg (h.map u32v).toArray), (1, .slice Ab lb cb), (2, .pointer (some ⟨g2, 0, none⟩)), (4, .pointer (some ⟨g4, 0, none⟩)), (5, .pointer (some ⟨g5, 0, none⟩)), (6, i64 (t : Int))] ∧ (t ≤ 16) ∧ (Sl uz (fun k => k < w.heap.size) u8v Ab lb cb b) ∧ (Blk uz g2 82 ((h).map u32v).toArray) ∧ (Blk uz g4 82 ((List.replicate 8 0#32).map u32v).toArray) ∧ (Blk uz g5 172 ((schZ b t).map u32v).toArray) ∧ (Ch No w uz))
   ⟨rfl, rfl, rfl, rfl, rfl, rfl, trivial⟩ ⟨0, rfl, rfl, by omega, hb, hb2, hb4, by rw [schZ_zero]; exact hb5, HC⟩ ?_
  rintro m0 e w4 ⟨t, hm0, rfl, ht, hb, hb2, hb4, hb5, HC⟩
  have hzw4 := HC.size
  have hzl := schZ_len b (t := t) (by omega)
  refine wc_seq (wc_seq (wc_region ?_))
  refine wmv ?_
  refine wz (p_lt rfl rfl) ?_
  refine wl_nil (x_seq ?_)
  refine wc_if rfl (fun c0 => ?_) (fun c0 => ?_)
  ·
   have c0 := of_decide_eq_true c0
   refine wc_skip (x_seq (wc_seq (wc_block ?_)))
   refine wdr (.st 0 0 (.st 1 0 (.st 2 0 (.st 3 0 (.st 4 0 (.st 5 1 (.st 6 0 (.st 7 0 (.st 8 0 (.st 9 0 (.st 10 0 (.st 11 0 (.st 12 0 (.st 13 1 (.st 14 0 (.st 15 0 (.st 16 0 (.st 17 0 (.st 18 0 (.st 19 0 (.st 20 0 (.st 21 0 (.st 22 1 (.st 23 0 (.st 24 0 (.st 25 0 (.st 26 0 (.st 27 0 (.st 28 0 (.st 29 0 (.st 30 0 (.st 31 1 (.st 32 0 (.st 33 0 (.st 34 0 (.st 35 3 .nil)))))))))))))))))))))))))))))))))))) 35 No (fun w5 hc hszw5 => ?_)
   have hzw5 := hc.size
   have HC := HC.tr hc
   have hb := hb.no hc
   have hb2 := hb2.no hc
   have hb4 := hb4.no hc
   have hb5 := hb5.no hc
   have hS : Ch No w5 w5 := Ch.refl _ _
   refine ws_p rfl rfl rfl rfl (p_mv rfl) ?_
   refine ws_p rfl rfl rfl rfl (p_mv rfl) ?_
   refine ws_p rfl rfl rfl rfl (p_mv rfl) ?_
   refine ws_p rfl rfl rfl rfl (p_mul (Z := ((4 * t : Nat) : Int)) rfl rfl (by rw [w64 (by omega)]; omega)) ?_
   obtain ⟨b6, o6, hA6, hF6, hc6⟩ := (hb).opn (d := 0) (by omega)
   refine ws_p rfl rfl rfl rfl (p_ixS1 underlying38 sz5 rfl hA6 rfl (by omega) (by omega) (Int.toNat_natCast _)) ?_
   refine ws_h rfl rfl rfl rfl (p_ld underlying5 rfl rfl (fun _ h => h.cell (fun h => h) (hc6 _ (by omega)))) ?_
   refine ws_p rfl rfl rfl rfl (p_convB32 underlying5 underlying81 rfl) ?_
   refine ws_p rfl rfl rfl rfl (p_shl32 (Y := 24) rfl rfl) ?_
   refine ws_p rfl rfl rfl rfl (p_mv rfl) ?_
   refine ws_p rfl rfl rfl rfl (p_mv rfl) ?_
   refine ws_p rfl rfl rfl rfl (p_mul (Z := ((4 * t : Nat) : Int)) rfl rfl (by rw [w64 (by omega)]; omega)) ?_
   refine ws_p rfl rfl rfl rfl (p_add (Z := ((4 * t + 1 : Nat) : Int)) rfl rfl (by rw [w64 (by omega)]; omega)) ?_
   obtain ⟨b7, o7, hA7, hF7, hc7⟩ := (hb).opn (d := 0) (by omega)
   refine ws_p rfl rfl rfl rfl (p_ixS1 underlying38 sz5 rfl hA7 rfl (by omega) (by omega) (Int.toNat_natCast _)) ?_
   refine ws_h rfl rfl rfl rfl (p_ld underlying5 rfl rfl (fun _ h => h.cell (fun h => h) (hc7 _ (by omega)))) ?_
   refine ws_p rfl rfl rfl rfl (p_convB32 underlying5 underlying81 rfl) ?_
   refine ws_p rfl rfl rfl rfl (p_shl32 (Y := 16) rfl rfl) ?_
   refine ws_p rfl rfl rfl rfl (p_or32 rfl rfl) ?_
   refine ws_p rfl rfl rfl rfl (p_mv rfl) ?_
   refine ws_p rfl rfl rfl rfl (p_mv rfl) ?_
   refine ws_p rfl rfl rfl rfl (p_mul (Z := ((4 * t : Nat) : Int)) rfl rfl (by rw [w64 (by omega)]; omega)) ?_
   refine ws_p rfl rfl rfl rfl (p_add (Z := ((4 * t + 2 : Nat) : Int)) rfl rfl (by rw [w64 (by omega)]; omega)) ?_
   obtain ⟨b8, o8, hA8, hF8, hc8⟩ := (hb).opn (d := 0) (by omega)
   refine ws_p rfl rfl rfl rfl (p_ixS1 underlying38 sz5 rfl hA8 rfl (by omega) (by omega) (Int.toNat_natCast _)) ?_
   refine ws_h rfl rfl rfl rfl (p_ld underlying5 rfl rfl (fun _ h => h.cell (fun h => h) (hc8 _ (by omega)))) ?_
   refine ws_p rfl rfl rfl rfl (p_convB32 underlying5 underlying81 rfl) ?_
   refine ws_p rfl rfl rfl rfl (p_shl32 (Y := 8) rfl rfl) ?_
   refine ws_p rfl rfl rfl rfl (p_or32 rfl rfl) ?_
   refine ws_p rfl rfl rfl rfl (p_mv rfl) ?_
   refine ws_p rfl rfl rfl rfl (p_mv rfl) ?_
   refine ws_p rfl rfl rfl rfl (p_mul (Z := ((4 * t : Nat) : Int)) rfl rfl (by rw [w64 (by omega)]; omega)) ?_
   refine ws_p rfl rfl rfl rfl (p_add (Z := ((4 * t + 3 : Nat) : Int)) rfl rfl (by rw [w64 (by omega)]; omega)) ?_
   obtain ⟨b9, o9, hA9, hF9, hc9⟩ := (hb).opn (d := 0) (by omega)
   refine ws_p rfl rfl rfl rfl (p_ixS1 underlying38 sz5 rfl hA9 rfl (by omega) (by omega) (Int.toNat_natCast _)) ?_
   refine ws_h rfl rfl rfl rfl (p_ld underlying5 rfl rfl (fun _ h => h.cell (fun h => h) (hc9 _ (by omega)))) ?_
   refine ws_p rfl rfl rfl rfl (p_convB32 underlying5 underlying81 rfl) ?_
   refine ws_p rfl rfl rfl rfl (p_or32 rfl rfl) ?_
   refine ws_p rfl rfl rfl rfl (p_ixA1 underlying172 sz81 rfl rfl (by omega) (by omega) (Int.toNat_natCast _)) ?_
   refine ws_l rfl rfl (e_stL one_u32 (by rfl) rfl rfl hb5 (by first | (simp; done) | (simp; omega) | omega) (fun w11 hb5 hc hsz => ?_))
   have hzw11 := hc.size
   have HC := HC.n hc
   first | have hb := hb.cc hc | have hb := hb.cT hc
   have hb2 := hb2.cc hc
   have hb4 := hb4.cc hc
   refine ws_n (x_in_normal (x_seq (wc_region ?_)))
   refine wmv ?_
   refine wz (p_add rfl rfl (w64 (by omega))) ?_
   refine was ?_
   refine wl_nil ?_
   refine x_round (e' := [(0, .agg (h.map u32v).toArray), (1, .slice Ab lb cb), (2, .pointer (some ⟨g2, 0, none⟩)), (4, .pointer (some ⟨g4, 0, none⟩)), (5, .pointer (some ⟨g5, 0, none⟩)), (6, i64 ((t + 1) : Int))]) ⟨rfl, rfl, rfl, rfl, rfl, rfl, trivial⟩ (by rw [hm0]; omega) ⟨t + 1, rfl, rfl, by omega, hb, hb2, hb4, by rw [← schZ_set b (by omega), next_low b _ (by omega)]; exact hb5, HC⟩
  ·
   have c0 := of_decide_eq_false c0
   obtain rfl : t = 16 := by omega
   refine wc_exit (x_then_exit (x_then_exit (x_in_here (x_seq (wc_seq (wc_seq (wc_region ?_)))))))
   refine was ?_
   refine wl_nil (x_seq (wc_block ?_))
   refine wc_loop (e' := [(2, .pointer (some ⟨g2, 0, none⟩)), (4, .pointer (some ⟨g4, 0, none⟩)), (5, .pointer (some ⟨g5, 0, none⟩)), (7, i64 ((16) : Int))]) (fun mz ez uz => ∃ t : Nat, mz = 64 - t ∧ ez = [(2, .pointer (some ⟨g2, 0, none⟩)), (4, .pointer (some ⟨g4, 0, none⟩)), (5, .pointer (some ⟨g5, 0, none⟩)), (7, i64 (t : Int))] ∧ (16 ≤ t ∧ t ≤ 64) ∧ (Blk uz g2 82 ((h).map u32v).toArray) ∧ (Blk uz g4 82 ((List.replicate 8 0#32).map u32v).toArray) ∧ (Blk uz g5 172 ((schZ b t).map u32v).toArray) ∧ (Ch No w uz))
    ⟨rfl, rfl, rfl, rfl, trivial⟩ ⟨16, rfl, rfl, by omega, hb2, hb4, hb5, HC⟩ ?_
   rintro m1 e w12 ⟨t, hm1, rfl, ht, hb2, hb4, hb5, HC⟩
   have hzw12 := HC.size
   have hzl := schZ_len b (t := t) (by omega)
   refine wc_seq (wc_seq (wc_region ?_))
   refine wmv ?_
   refine wz (p_lt rfl rfl) ?_
   refine wl_nil (x_seq ?_)
   refine wc_if rfl (fun c1 => ?_) (fun c1 => ?_)
   ·
    have c1 := of_decide_eq_true c1
    refine wc_skip (x_seq (wc_seq (wc_block (wc_seq ?_))))
    refine wdr (.st 0 0 (.st 1 0 (.st 2 0 (.st 3 1 (.st 4 0 (.st 5 0 (.st 6 0 (.st 7 1 (.st 8 0 (.st 9 0 .nil)))))))))) 10 No (fun w13 hc hszw13 => ?_)
    have hzw13 := hc.size
    have HC := HC.tr hc
    have hb2 := hb2.no hc
    have hb4 := hb4.no hc
    have hb5 := hb5.no hc
    have hS : Ch No w13 w13 := Ch.refl _ _
    refine ws_p rfl rfl rfl rfl (p_mv rfl) ?_
    refine ws_p rfl rfl rfl rfl (p_sub (Z := ((t - 15 : Nat) : Int)) rfl rfl (by rw [w64 (by omega)]; omega)) ?_
    refine ws_p rfl rfl rfl rfl (p_ixA1 underlying172 sz81 rfl rfl (by omega) (by omega) (Int.toNat_natCast _)) ?_
    refine ws_h rfl rfl rfl rfl (p_ld underlying81 rfl rfl (fun _ h => h.cell (fun h => h) (cellL hb5 (d := 0#32) (by first | (simp; done) | (simp; omega) | omega)))) ?_
    refine ws_p rfl rfl rfl rfl (p_mv rfl) ?_
    refine ws_p rfl rfl rfl rfl (p_sub (Z := ((t - 2 : Nat) : Int)) rfl rfl (by rw [w64 (by omega)]; omega)) ?_
    refine ws_p rfl rfl rfl rfl (p_ixA1 underlying172 sz81 rfl rfl (by omega) (by omega) (Int.toNat_natCast _)) ?_
    refine ws_h rfl rfl rfl rfl (p_ld underlying81 rfl rfl (fun _ h => h.cell (fun h => h) (cellL hb5 (d := 0#32) (by first | (simp; done) | (simp; omega) | omega)))) ?_
    refine ws_p rfl rfl rfl rfl (p_as rfl) ?_
    refine ws_p rfl rfl rfl rfl (p_as rfl) ?_
    refine ws_n (x_seq ?_)
    refine wdr (.st 0 0 (.st 1 0 (.st 2 0 (.st 3 0 (.st 4 1 (.st 5 0 (.st 7 0 (.st 10 0 (.st 11 0 (.st 14 0 (.st 15 0 (.st 16 0 (.st 17 1 (.st 19 0 (.st 21 0 (.st 24 0 (.st 25 0 (.st 6 2 (.st 8 2 (.st 9 0 (.st 12 0 (.st 13 0 (.st 18 0 (.st 20 2 (.st 22 2 (.st 23 0 (.st 26 0 (.st 27 0 (.st 28 0 (.st 29 3 .nil)))))))))))))))))))))))))))))) 29 No (fun w16 hc hszw16 => ?_)
    have hzw16 := hc.size
    have HC := HC.tr hc
    have hb2 := hb2.no hc
    have hb4 := hb4.no hc
    have hb5 := hb5.no hc
    have hS : Ch No w16 w16 := Ch.refl _ _
    refine ws_p rfl rfl rfl rfl (p_mv rfl) ?_
    refine ws_p rfl rfl rfl rfl (p_mv rfl) ?_
    refine ws_p rfl rfl rfl rfl (p_sub (Z := ((t - 16 : Nat) : Int)) rfl rfl (by rw [w64 (by omega)]; omega)) ?_
    refine ws_p rfl rfl rfl rfl (p_ixA1 underlying172 sz81 rfl rfl (by omega) (by omega) (Int.toNat_natCast _)) ?_
    refine ws_h rfl rfl rfl rfl (p_ld underlying81 rfl rfl (fun _ h => h.cell (fun h => h) (cellL hb5 (d := 0#32) (by first | (simp; done) | (simp; omega) | omega)))) ?_
    refine ws_p rfl rfl rfl rfl (p_mv rfl) ?_
    refine ws_p rfl rfl rfl rfl (p_mv rfl) ?_
    refine ws_p rfl rfl rfl rfl (p_mv rfl) ?_
    refine ws_p rfl rfl rfl rfl (p_shr32 (Y := 3) rfl rfl) ?_
    refine ws_p rfl rfl rfl rfl (p_mv rfl) ?_
    refine ws_p rfl rfl rfl rfl (p_sub (Z := ((t - 7 : Nat) : Int)) rfl rfl (by rw [w64 (by omega)]; omega)) ?_
    refine ws_p rfl rfl rfl rfl (p_ixA1 underlying172 sz81 rfl rfl (by omega) (by omega) (Int.toNat_natCast _)) ?_
    refine ws_h rfl rfl rfl rfl (p_ld underlying81 rfl rfl (fun _ h => h.cell (fun h => h) (cellL hb5 (d := 0#32) (by first | (simp; done) | (simp; omega) | omega)))) ?_
    refine ws_p rfl rfl rfl rfl (p_mv rfl) ?_
    refine ws_p rfl rfl rfl rfl (p_mv rfl) ?_
    refine ws_p rfl rfl rfl rfl (p_mv rfl) ?_
    refine ws_p rfl rfl rfl rfl (p_shr32 (Y := 10) rfl rfl) ?_
    refine ws_e rfl rfl (e_call ent98 rfl rfl (turn_any (n := 7) (by omega)) ?_)
    rintro _ w19 ⟨rfl, hc⟩
    refine ⟨_, rfl, hc, ?_⟩
    have hzw19 := hc.size
    have HC := HC.tr hc
    have hb2 := hb2.no hc
    have hb4 := hb4.no hc
    have hb5 := hb5.no hc
    refine ws_nar hc ?_
    refine ws_e rfl rfl (e_call ent98 rfl rfl (turn_any (n := 18) (by omega)) ?_)
    rintro _ w20 ⟨rfl, hc⟩
    refine ⟨_, rfl, hc, ?_⟩
    have hzw20 := hc.size
    have HC := HC.tr hc
    have hb2 := hb2.no hc
    have hb4 := hb4.no hc
    have hb5 := hb5.no hc
    refine ws_nar hc ?_
    refine ws_p rfl rfl rfl rfl (p_xor32 rfl rfl) ?_
    refine ws_p rfl rfl rfl rfl (p_xor32 rfl rfl) ?_
    refine ws_p rfl rfl rfl rfl (p_add32 rfl rfl) ?_
    refine ws_p rfl rfl rfl rfl (p_add32 rfl rfl) ?_
    refine ws_e rfl rfl (e_call ent98 rfl rfl (turn_any (n := 17) (by omega)) ?_)
    rintro _ w21 ⟨rfl, hc⟩
    refine ⟨_, rfl, hc, ?_⟩
    have hzw21 := hc.size
    have HC := HC.tr hc
    have hb2 := hb2.no hc
    have hb4 := hb4.no hc
    have hb5 := hb5.no hc
    refine ws_nar hc ?_
    refine ws_e rfl rfl (e_call ent98 rfl rfl (turn_any (n := 19) (by omega)) ?_)
    rintro _ w22 ⟨rfl, hc⟩
    refine ⟨_, rfl, hc, ?_⟩
    have hzw22 := hc.size
    have HC := HC.tr hc
    have hb2 := hb2.no hc
    have hb4 := hb4.no hc
    have hb5 := hb5.no hc
    refine ws_nar hc ?_
    refine ws_p rfl rfl rfl rfl (p_xor32 rfl rfl) ?_
    refine ws_p rfl rfl rfl rfl (p_xor32 rfl rfl) ?_
    refine ws_p rfl rfl rfl rfl (p_add32 rfl rfl) ?_
    refine ws_p rfl rfl rfl rfl (p_ixA1 underlying172 sz81 rfl rfl (by omega) (by omega) (Int.toNat_natCast _)) ?_
    refine ws_l rfl rfl (e_stL one_u32 (by rfl) rfl rfl hb5 (by first | (simp; done) | (simp; omega) | omega) (fun w24 hb5 hc hsz => ?_))
    have hzw24 := hc.size
    have HC := HC.n hc
    have hb2 := hb2.cc hc
    have hb4 := hb4.cc hc
    refine ws_n (x_in_normal (x_seq (wc_region ?_)))
    refine wmv ?_
    refine wz (p_add rfl rfl (w64 (by omega))) ?_
    refine was ?_
    refine wl_nil ?_
    refine x_round (e' := [(2, .pointer (some ⟨g2, 0, none⟩)), (4, .pointer (some ⟨g4, 0, none⟩)), (5, .pointer (some ⟨g5, 0, none⟩)), (7, i64 ((t + 1) : Int))]) ⟨rfl, rfl, rfl, rfl, trivial⟩ (by rw [hm1]; omega) ⟨t + 1, rfl, rfl, by omega, hb2, hb4, by rw [← schZ_set b (by omega), next_high b (by omega)]; exact hb5, HC⟩
   ·
    have c1 := of_decide_eq_false c1
    obtain rfl : t = 64 := by omega
    rw [schZ_all] at hb5
    refine wc_exit (x_then_exit (x_then_exit (x_in_here (x_seq (wc_seq (wc_region ?_))))))
    refine wle rfl (e_call ent99 rfl rfl (keys_any) ?_)
    rintro _ w25 ⟨rfl, hc⟩
    refine ⟨_, rfl, ?_⟩
    have hzw25 := hc.size
    have HC := HC.tr hc
    have hb2 := hb2.no hc
    have hb4 := hb4.no hc
    have hb5 := hb5.no hc
    have hltg2 := hb2.lt
    have hltg4 := hb4.lt
    have hltg5 := hb5.lt
    refine wle rfl (e_alloc (cs := ((List.replicate 64 0#32).map u32v).toArray) rfl (by rfl) rfl (fun w26 g10 hg10 hb10 hc hsz10 => ?_))
    have hzw26 := hc.size
    have hge10 := HC.geo hg10
    have HC := HC.tr hc
    have hb2 := hb2.no hc
    have hb4 := hb4.no hc
    have hb5 := hb5.no hc
    have neg2_10 : g2 < g10 := by omega
    have neg4_10 : g4 < g10 := by omega
    have neg5_10 : g5 < g10 := by omega
    refine wle rfl (e_stW (vs := (rk.map u32v)) (by kernel_rfl) (oneL one_u32 _) rfl rfl hb10 (by kernel_rfl) (fun w27 hb10 hc hsz => ?_))
    have hzw27 := hc.size
    have HC := HC.n hc
    have hb2 := hb2.cc hc
    have hb4 := hb4.cc hc
    have hb5 := hb5.cc hc
    refine wl_nil (x_seq (wc_seq (wc_region ?_)))
    refine wz (p_ldA (cs := h.map u32v) underlying82 rfl (szL sz82 (by rw [List.length_map]; exact hh)) rfl (fun _ e => e ▸ rngL hb2)) ?_
    have hltg2 := hb2.lt
    have hltg4 := hb4.lt
    have hltg5 := hb5.lt
    have hltg10 := hb10.lt
    refine wle rfl (e_alloc (cs := ((List.replicate 8 0#32).map u32v).toArray) rfl (by rfl) rfl (fun w28 g11 hg11 hb11 hc hsz11 => ?_))
    have hzw28 := hc.size
    have hge11 := HC.geo hg11
    have HC := HC.tr hc
    have hb2 := hb2.no hc
    have hb4 := hb4.no hc
    have hb5 := hb5.no hc
    have hb10 := hb10.no hc
    have neg2_11 : g2 < g11 := by omega
    have neg4_11 : g4 < g11 := by omega
    have neg5_11 : g5 < g11 := by omega
    have neg10_11 : g10 < g11 := by omega
    refine wle rfl (e_stW (vs := _) (by first | rfl | exact szL sz82 (by rw [List.length_map]; exact hh)) (oneL one_u32 _) rfl rfl hb11 (by first | (simp [hh]; done) | (simp [hvl]; done)) (fun w29 hb11 hc hsz => ?_))
    have hzw29 := hc.size
    have HC := HC.n hc
    have hb2 := hb2.cc hc
    have hb4 := hb4.cc hc
    have hb5 := hb5.cc hc
    have hb10 := hb10.cc hc
    refine wl_nil (x_seq (wc_seq (wc_seq (wc_region ?_))))
    refine was ?_
    refine wl_nil (x_seq (wc_block ?_))
    refine wc_loop (e' := [(2, .pointer (some ⟨g2, 0, none⟩)), (4, .pointer (some ⟨g4, 0, none⟩)), (5, .pointer (some ⟨g5, 0, none⟩)), (10, .pointer (some ⟨g10, 0, none⟩)), (11, .pointer (some ⟨g11, 0, none⟩)), (12, i64 ((0) : Int))]) (fun mz ez uz => ∃ t : Nat, mz = 64 - t ∧ ez = [(2, .pointer (some ⟨g2, 0, none⟩)), (4, .pointer (some ⟨g4, 0, none⟩)), (5, .pointer (some ⟨g5, 0, none⟩)), (10, .pointer (some ⟨g10, 0, none⟩)), (11, .pointer (some ⟨g11, 0, none⟩)), (12, i64 (t : Int))] ∧ (t ≤ 64) ∧ (Blk uz g2 82 ((h).map u32v).toArray) ∧ (Blk uz g4 82 ((List.replicate 8 0#32).map u32v).toArray) ∧ (Blk uz g5 172 ((sch b 64).map u32v).toArray) ∧ (Blk uz g10 172 ((rk).map u32v).toArray) ∧ (Blk uz g11 82 ((rnds (sch b 64) h t).map u32v).toArray) ∧ (Ch No w uz))
     ⟨rfl, rfl, rfl, rfl, rfl, rfl, trivial⟩ ⟨0, rfl, rfl, by omega, hb2, hb4, hb5, hb10, hb11, HC⟩ ?_
    rintro m2 e w30 ⟨t, hm2, rfl, ht, hb2, hb4, hb5, hb10, hb11, HC⟩
    have hzw30 := HC.size
    have hvl := rnds_len (sch b 64) hh t
    have hrk : rk.length = 64 := rfl
    refine wc_seq (wc_seq (wc_region ?_))
    refine wmv ?_
    refine wz (p_lt rfl rfl) ?_
    refine wl_nil (x_seq ?_)
    refine wc_if rfl (fun c2 => ?_) (fun c2 => ?_)
    ·
     have c2 := of_decide_eq_true c2
     refine wc_skip (x_seq (wc_seq (wc_block (wc_seq ?_))))
     refine wdr (.st 0 0 (.st 1 1 (.st 2 0 (.st 3 1 (.st 4 0 (.st 5 0 .nil)))))) 6 No (fun w31 hc hszw31 => ?_)
     have hzw31 := hc.size
     have HC := HC.tr hc
     have hb2 := hb2.no hc
     have hb4 := hb4.no hc
     have hb5 := hb5.no hc
     have hb10 := hb10.no hc
     have hb11 := hb11.no hc
     have hS : Ch No w31 w31 := Ch.refl _ _
     refine ws_p rfl rfl rfl rfl (p_ixA1 (j := 0) underlying82 sz81 rfl rfl (by omega) (by omega) rfl) ?_
     refine ws_h rfl rfl rfl rfl (p_ld underlying81 rfl rfl (fun _ h => h.cell (fun h => h) (cellL hb11 (d := 0#32) (by first | (simp; done) | (simp; omega) | omega)))) ?_
     refine ws_p rfl rfl rfl rfl (p_ixA1 (j := 4) underlying82 sz81 rfl rfl (by omega) (by omega) rfl) ?_
     refine ws_h rfl rfl rfl rfl (p_ld underlying81 rfl rfl (fun _ h => h.cell (fun h => h) (cellL hb11 (d := 0#32) (by first | (simp; done) | (simp; omega) | omega)))) ?_
     refine ws_p rfl rfl rfl rfl (p_as rfl) ?_
     refine ws_p rfl rfl rfl rfl (p_as rfl) ?_
     refine ws_n (x_seq (wc_seq ?_))
     refine wdr (.st 0 0 (.st 1 1 (.st 2 0 (.st 4 0 (.st 7 0 (.st 11 0 (.st 12 0 (.st 13 1 (.st 14 0 (.st 15 0 (.st 16 0 (.st 17 0 (.st 18 1 (.st 19 0 (.st 20 0 (.st 22 0 (.st 23 0 (.st 24 1 (.st 26 0 (.st 27 0 (.st 28 1 (.st 3 2 (.st 5 2 (.st 6 0 (.st 8 2 (.st 9 0 (.st 10 0 (.st 21 0 (.st 25 0 (.st 29 0 (.st 30 0 .nil))))))))))))))))))))))))))))))) 31 No (fun w34 hc hszw34 => ?_)
     have hzw34 := hc.size
     have HC := HC.tr hc
     have hb2 := hb2.no hc
     have hb4 := hb4.no hc
     have hb5 := hb5.no hc
     have hb10 := hb10.no hc
     have hb11 := hb11.no hc
     have hS : Ch No w34 w34 := Ch.refl _ _
     refine ws_p rfl rfl rfl rfl (p_ixA1 (j := 7) underlying82 sz81 rfl rfl (by omega) (by omega) rfl) ?_
     refine ws_h rfl rfl rfl rfl (p_ld underlying81 rfl rfl (fun _ h => h.cell (fun h => h) (cellL hb11 (d := 0#32) (by first | (simp; done) | (simp; omega) | omega)))) ?_
     refine ws_p rfl rfl rfl rfl (p_mv rfl) ?_
     refine ws_p rfl rfl rfl rfl (p_mv rfl) ?_
     refine ws_p rfl rfl rfl rfl (p_mv rfl) ?_
     refine ws_p rfl rfl rfl rfl (p_mv rfl) ?_
     refine ws_p rfl rfl rfl rfl (p_ixA1 (j := 5) underlying82 sz81 rfl rfl (by omega) (by omega) rfl) ?_
     refine ws_h rfl rfl rfl rfl (p_ld underlying81 rfl rfl (fun _ h => h.cell (fun h => h) (cellL hb11 (d := 0#32) (by first | (simp; done) | (simp; omega) | omega)))) ?_
     refine ws_p rfl rfl rfl rfl (p_and32 rfl rfl) ?_
     refine ws_p rfl rfl rfl rfl (p_mv rfl) ?_
     refine ws_p rfl rfl rfl rfl (p_not32 rfl) ?_
     refine ws_p rfl rfl rfl rfl (p_ixA1 (j := 6) underlying82 sz81 rfl rfl (by omega) (by omega) rfl) ?_
     refine ws_h rfl rfl rfl rfl (p_ld underlying81 rfl rfl (fun _ h => h.cell (fun h => h) (cellL hb11 (d := 0#32) (by first | (simp; done) | (simp; omega) | omega)))) ?_
     refine ws_p rfl rfl rfl rfl (p_and32 rfl rfl) ?_
     refine ws_p rfl rfl rfl rfl ((p_xor32 rfl rfl).to (congrArg u32v (ch_ref _ _ _))) ?_
     refine ws_p rfl rfl rfl rfl (p_mv rfl) ?_
     refine ws_p rfl rfl rfl rfl (p_ixA1 underlying172 sz81 rfl rfl (by omega) (by omega) (Int.toNat_natCast _)) ?_
     refine ws_h rfl rfl rfl rfl (p_ld underlying81 rfl rfl (fun _ h => h.cell (fun h => h) (cellL hb10 (d := 0#32) (by first | (simp; done) | (simp; omega) | omega)))) ?_
     refine ws_p rfl rfl rfl rfl (p_mv rfl) ?_
     refine ws_p rfl rfl rfl rfl (p_ixA1 underlying172 sz81 rfl rfl (by omega) (by omega) (Int.toNat_natCast _)) ?_
     refine ws_h rfl rfl rfl rfl (p_ld underlying81 rfl rfl (fun _ h => h.cell (fun h => h) (cellL hb5 (d := 0#32) (by first | (simp; done) | (simp; omega) | omega)))) ?_
     refine ws_e rfl rfl (e_call ent98 rfl rfl (turn_any (n := 6) (by omega)) ?_)
     rintro _ w40 ⟨rfl, hc⟩
     refine ⟨_, rfl, hc, ?_⟩
     have hzw40 := hc.size
     have HC := HC.tr hc
     have hb2 := hb2.no hc
     have hb4 := hb4.no hc
     have hb5 := hb5.no hc
     have hb10 := hb10.no hc
     have hb11 := hb11.no hc
     refine ws_nar hc ?_
     refine ws_e rfl rfl (e_call ent98 rfl rfl (turn_any (n := 11) (by omega)) ?_)
     rintro _ w41 ⟨rfl, hc⟩
     refine ⟨_, rfl, hc, ?_⟩
     have hzw41 := hc.size
     have HC := HC.tr hc
     have hb2 := hb2.no hc
     have hb4 := hb4.no hc
     have hb5 := hb5.no hc
     have hb10 := hb10.no hc
     have hb11 := hb11.no hc
     refine ws_nar hc ?_
     refine ws_p rfl rfl rfl rfl (p_xor32 rfl rfl) ?_
     refine ws_e rfl rfl (e_call ent98 rfl rfl (turn_any (n := 25) (by omega)) ?_)
     rintro _ w42 ⟨rfl, hc⟩
     refine ⟨_, rfl, hc, ?_⟩
     have hzw42 := hc.size
     have HC := HC.tr hc
     have hb2 := hb2.no hc
     have hb4 := hb4.no hc
     have hb5 := hb5.no hc
     have hb10 := hb10.no hc
     have hb11 := hb11.no hc
     refine ws_nar hc ?_
     refine ws_p rfl rfl rfl rfl (p_xor32 rfl rfl) ?_
     refine ws_p rfl rfl rfl rfl (p_add32 rfl rfl) ?_
     refine ws_p rfl rfl rfl rfl (p_add32 rfl rfl) ?_
     refine ws_p rfl rfl rfl rfl (p_add32 rfl rfl) ?_
     refine ws_p rfl rfl rfl rfl (p_add32 rfl rfl) ?_
     refine ws_p rfl rfl rfl rfl (p_as rfl) ?_
     refine ws_n (x_seq (wc_seq ?_))
     refine wdr (.st 0 0 (.st 2 0 (.st 5 0 (.st 8 0 (.st 9 0 (.st 10 1 (.st 11 0 (.st 12 0 (.st 13 0 (.st 14 1 (.st 15 0 (.st 16 0 (.st 17 0 (.st 18 1 (.st 19 0 (.st 20 1 (.st 21 0 (.st 22 0 (.st 1 2 (.st 3 2 (.st 4 0 (.st 6 2 (.st 7 0 (.st 23 0 (.st 24 0 .nil))))))))))))))))))))))))) 25 No (fun w43 hc hszw43 => ?_)
     have hzw43 := hc.size
     have HC := HC.tr hc
     have hb2 := hb2.no hc
     have hb4 := hb4.no hc
     have hb5 := hb5.no hc
     have hb10 := hb10.no hc
     have hb11 := hb11.no hc
     have hS : Ch No w43 w43 := Ch.refl _ _
     refine ws_p rfl rfl rfl rfl (p_mv rfl) ?_
     refine ws_p rfl rfl rfl rfl (p_mv rfl) ?_
     refine ws_p rfl rfl rfl rfl (p_mv rfl) ?_
     refine ws_p rfl rfl rfl rfl (p_mv rfl) ?_
     refine ws_p rfl rfl rfl rfl (p_ixA1 (j := 1) underlying82 sz81 rfl rfl (by omega) (by omega) rfl) ?_
     refine ws_h rfl rfl rfl rfl (p_ld underlying81 rfl rfl (fun _ h => h.cell (fun h => h) (cellL hb11 (d := 0#32) (by first | (simp; done) | (simp; omega) | omega)))) ?_
     refine ws_p rfl rfl rfl rfl (p_and32 rfl rfl) ?_
     refine ws_p rfl rfl rfl rfl (p_mv rfl) ?_
     refine ws_p rfl rfl rfl rfl (p_ixA1 (j := 2) underlying82 sz81 rfl rfl (by omega) (by omega) rfl) ?_
     refine ws_h rfl rfl rfl rfl (p_ld underlying81 rfl rfl (fun _ h => h.cell (fun h => h) (cellL hb11 (d := 0#32) (by first | (simp; done) | (simp; omega) | omega)))) ?_
     refine ws_p rfl rfl rfl rfl (p_and32 rfl rfl) ?_
     refine ws_p rfl rfl rfl rfl (p_xor32 rfl rfl) ?_
     refine ws_p rfl rfl rfl rfl (p_ixA1 (j := 1) underlying82 sz81 rfl rfl (by omega) (by omega) rfl) ?_
     refine ws_h rfl rfl rfl rfl (p_ld underlying81 rfl rfl (fun _ h => h.cell (fun h => h) (cellL hb11 (d := 0#32) (by first | (simp; done) | (simp; omega) | omega)))) ?_
     refine ws_p rfl rfl rfl rfl (p_ixA1 (j := 2) underlying82 sz81 rfl rfl (by omega) (by omega) rfl) ?_
     refine ws_h rfl rfl rfl rfl (p_ld underlying81 rfl rfl (fun _ h => h.cell (fun h => h) (cellL hb11 (d := 0#32) (by first | (simp; done) | (simp; omega) | omega)))) ?_
     refine ws_p rfl rfl rfl rfl (p_and32 rfl rfl) ?_
     refine ws_p rfl rfl rfl rfl ((p_xor32 rfl rfl).to (congrArg u32v (maj_ref _ _ _))) ?_
     refine ws_e rfl rfl (e_call ent98 rfl rfl (turn_any (n := 2) (by omega)) ?_)
     rintro _ w48 ⟨rfl, hc⟩
     refine ⟨_, rfl, hc, ?_⟩
     have hzw48 := hc.size
     have HC := HC.tr hc
     have hb2 := hb2.no hc
     have hb4 := hb4.no hc
     have hb5 := hb5.no hc
     have hb10 := hb10.no hc
     have hb11 := hb11.no hc
     refine ws_nar hc ?_
     refine ws_e rfl rfl (e_call ent98 rfl rfl (turn_any (n := 13) (by omega)) ?_)
     rintro _ w49 ⟨rfl, hc⟩
     refine ⟨_, rfl, hc, ?_⟩
     have hzw49 := hc.size
     have HC := HC.tr hc
     have hb2 := hb2.no hc
     have hb4 := hb4.no hc
     have hb5 := hb5.no hc
     have hb10 := hb10.no hc
     have hb11 := hb11.no hc
     refine ws_nar hc ?_
     refine ws_p rfl rfl rfl rfl (p_xor32 rfl rfl) ?_
     refine ws_e rfl rfl (e_call ent98 rfl rfl (turn_any (n := 22) (by omega)) ?_)
     rintro _ w50 ⟨rfl, hc⟩
     refine ⟨_, rfl, hc, ?_⟩
     have hzw50 := hc.size
     have HC := HC.tr hc
     have hb2 := hb2.no hc
     have hb4 := hb4.no hc
     have hb5 := hb5.no hc
     have hb10 := hb10.no hc
     have hb11 := hb11.no hc
     refine ws_nar hc ?_
     refine ws_p rfl rfl rfl rfl (p_xor32 rfl rfl) ?_
     refine ws_p rfl rfl rfl rfl (p_add32 rfl rfl) ?_
     refine ws_p rfl rfl rfl rfl (p_as rfl) ?_
     refine ws_n (x_seq (wc_region ?_))
     iterate 2 refine wmv ?_
     refine wz ((p_add32 rfl rfl).to (congrArg u32v (BitVec.add_assoc _ _ _).symm)) ?_
     refine wz (p_ixA1 (j := 0) underlying82 sz81 rfl rfl (by omega) (by omega) rfl) ?_
     refine wz (p_ld underlying81 rfl rfl (ld (cellL hb11 (d := 0#32) (by first | (simp; done) | (simp; omega) | omega)))) ?_
     refine wz (p_ixA1 (j := 1) underlying82 sz81 rfl rfl (by omega) (by omega) rfl) ?_
     refine wz (p_ld underlying81 rfl rfl (ld (cellL hb11 (d := 0#32) (by first | (simp; done) | (simp; omega) | omega)))) ?_
     refine wz (p_ixA1 (j := 2) underlying82 sz81 rfl rfl (by omega) (by omega) rfl) ?_
     refine wz (p_ld underlying81 rfl rfl (ld (cellL hb11 (d := 0#32) (by first | (simp; done) | (simp; omega) | omega)))) ?_
     refine wz (p_ixA1 (j := 3) underlying82 sz81 rfl rfl (by omega) (by omega) rfl) ?_
     refine wz (p_ld underlying81 rfl rfl (ld (cellL hb11 (d := 0#32) (by first | (simp; done) | (simp; omega) | omega)))) ?_
     refine wmv ?_
     refine wz (p_add32 rfl rfl) ?_
     refine wz (p_ixA1 (j := 4) underlying82 sz81 rfl rfl (by omega) (by omega) rfl) ?_
     refine wz (p_ld underlying81 rfl rfl (ld (cellL hb11 (d := 0#32) (by first | (simp; done) | (simp; omega) | omega)))) ?_
     refine wz (p_ixA1 (j := 5) underlying82 sz81 rfl rfl (by omega) (by omega) rfl) ?_
     refine wz (p_ld underlying81 rfl rfl (ld (cellL hb11 (d := 0#32) (by first | (simp; done) | (simp; omega) | omega)))) ?_
     refine wz (p_ixA1 (j := 6) underlying82 sz81 rfl rfl (by omega) (by omega) rfl) ?_
     refine wz (p_ld underlying81 rfl rfl (ld (cellL hb11 (d := 0#32) (by first | (simp; done) | (simp; omega) | omega)))) ?_
     refine wz (p_bldV rfl (fun _ => by kernel_rfl)) ?_
     refine wle rfl (e_stW (vs := _) (by first | rfl | exact szL sz82 (by rw [List.length_map]; exact hh)) (by first | exact allOne rfl | exact oneL one_u32 _) rfl rfl hb11 (by first | (simp [hh]; done) | (simp [hvl]; done)) (fun w58 hb11 hc hsz => ?_))
     have hzw58 := hc.size
     have HC := HC.n hc
     have hb2 := hb2.cc hc
     have hb4 := hb4.cc hc
     have hb5 := hb5.cc hc
     have hb10 := hb10.cc hc
     refine wl_nil (x_in_normal (x_seq (wc_region ?_)))
     refine wmv ?_
     refine wz (p_add rfl rfl (w64 (by omega))) ?_
     refine was ?_
     refine wl_nil ?_
     refine x_round (e' := [(2, .pointer (some ⟨g2, 0, none⟩)), (4, .pointer (some ⟨g4, 0, none⟩)), (5, .pointer (some ⟨g5, 0, none⟩)), (10, .pointer (some ⟨g10, 0, none⟩)), (11, .pointer (some ⟨g11, 0, none⟩)), (12, i64 ((t + 1) : Int))]) ⟨rfl, rfl, rfl, rfl, rfl, rfl, trivial⟩ (by rw [hm2]; omega) ⟨t + 1, rfl, rfl, by omega, hb2, hb4, hb5, hb10, hb11, HC⟩
    ·
     have c2 := of_decide_eq_false c2
     obtain rfl : t = 64 := by omega
     have hvl := rnds_len (sch b 64) hh 64
     refine wc_exit (x_then_exit (x_then_exit (x_in_here (x_seq (wc_seq (wc_seq (wc_region ?_)))))))
     refine wmv ?_
     refine wl_nil (x_seq (wc_block ?_))
     refine wc_loop (e' := [(2, .pointer (some ⟨g2, 0, none⟩)), (4, .pointer (some ⟨g4, 0, none⟩)), (11, .pointer (some ⟨g11, 0, none⟩)), (182, i64 ((0) : Int))]) (fun mz ez uz => ∃ i : Nat, mz = 8 - i ∧ ez = [(2, .pointer (some ⟨g2, 0, none⟩)), (4, .pointer (some ⟨g4, 0, none⟩)), (11, .pointer (some ⟨g11, 0, none⟩)), (182, i64 (i : Int))] ∧ (i ≤ 8) ∧ (Blk uz g2 82 ((addN h (rnds (sch b 64) h 64) i).map u32v).toArray) ∧ (Blk uz g4 82 ((List.replicate 8 0#32).map u32v).toArray) ∧ (Blk uz g11 82 ((rnds (sch b 64) h 64).map u32v).toArray) ∧ (Ch No w uz))
      ⟨rfl, rfl, rfl, rfl, trivial⟩ ⟨0, rfl, rfl, by omega, hb2, hb4, hb11, HC⟩ ?_
     rintro m3 e w59 ⟨i, hm3, rfl, hi, hb2, hb4, hb11, HC⟩
     have hzw59 := HC.size
     have hal : (addN h (rnds (sch b 64) h 64) i).length = 8 := by rw [addN_len]; exact hh
     refine wc_seq (wc_region ?_)
     refine wz (p_lt rfl rfl) ?_
     refine wl_nil (x_seq (wc_seq ?_))
     refine wc_if rfl (fun c3 => ?_) (fun c3 => ?_)
     ·
      have c3 := of_decide_eq_true c3
      refine wc_skip (x_seq (wc_seq (wc_block (wc_seq (wc_region ?_)))))
      refine wmv ?_
      refine was ?_
      refine wl_nil (x_seq ?_)
      refine wdr (.st 0 0 (.st 1 0 (.st 2 1 (.st 3 0 (.st 4 0 (.st 5 1 (.st 6 0 (.st 7 0 (.st 8 3 .nil))))))))) 8 No (fun w60 hc hszw60 => ?_)
      have hzw60 := hc.size
      have HC := HC.tr hc
      have hb2 := hb2.no hc
      have hb4 := hb4.no hc
      have hb11 := hb11.no hc
      have hS : Ch No w60 w60 := Ch.refl _ _
      refine ws_p rfl rfl rfl rfl (p_mv rfl) ?_
      refine ws_p rfl rfl rfl rfl (p_ixA1 underlying82 sz81 rfl rfl (by omega) (by omega) (Int.toNat_natCast _)) ?_
      refine ws_h rfl rfl rfl rfl (p_ld underlying81 rfl rfl (fun _ h => h.cell (fun h => h) (cellL hb2 (d := 0#32) (by first | (simp; done) | (simp; omega) | omega)))) ?_
      refine ws_p rfl rfl rfl rfl (p_mv rfl) ?_
      refine ws_p rfl rfl rfl rfl (p_ixA1 underlying82 sz81 rfl rfl (by omega) (by omega) (Int.toNat_natCast _)) ?_
      refine ws_h rfl rfl rfl rfl (p_ld underlying81 rfl rfl (fun _ h => h.cell (fun h => h) (cellL hb11 (d := 0#32) (by first | (simp; done) | (simp; omega) | omega)))) ?_
      refine ws_p rfl rfl rfl rfl (p_add32 rfl rfl) ?_
      refine ws_p rfl rfl rfl rfl (p_ixA1 underlying82 sz81 rfl rfl (by omega) (by omega) (Int.toNat_natCast _)) ?_
      refine ws_l rfl rfl (e_stL one_u32 (by rfl) rfl rfl hb2 (by first | (simp; done) | (simp; omega) | omega) (fun w65 hb2 hc hsz => ?_))
      have hzw65 := hc.size
      have HC := HC.n hc
      have hb4 := hb4.cc hc
      have hb11 := hb11.cc hc
      refine ws_n (x_in_normal (x_seq (wc_region ?_)))
      refine wz (p_add rfl rfl (w64 (by omega))) ?_
      refine wmv ?_
      refine wl_nil ?_
      refine x_round (e' := [(2, .pointer (some ⟨g2, 0, none⟩)), (4, .pointer (some ⟨g4, 0, none⟩)), (11, .pointer (some ⟨g11, 0, none⟩)), (182, i64 ((i + 1) : Int))]) ⟨rfl, rfl, rfl, rfl, trivial⟩ (by rw [hm3]; omega) ⟨i + 1, rfl, rfl, by omega, hb2, hb4, hb11, HC⟩
     ·
      have c3 := of_decide_eq_false c3
      obtain rfl : i = 8 := by omega
      have hal : (addN h (rnds (sch b 64) h 64) 8).length = 8 := by rw [addN_len]; exact hh
      refine wc_exit (x_then_exit (x_then_exit (x_in_here (x_seq (wc_seq (wc_region ?_))))))
      refine wz (p_ldA (cs := (addN h (rnds (sch b 64) h 64) 8).map u32v) underlying82 rfl (szL sz82 (by rw [List.length_map]; exact hal)) rfl (fun _ e => e ▸ rngL hb2)) ?_
      refine wle rfl (e_stW (vs := ((addN h (rnds (sch b 64) h 64) 8).map u32v)) (szL sz82 (by rw [List.length_map]; exact hal)) (oneL one_u32 _) rfl rfl hb4 (by simp [hal]) (fun w66 hb4 hc hsz => ?_))
      have hzw66 := hc.size
      have HC := HC.n hc
      have hb2 := hb2.cc hc
      have hb11 := hb11.cc hc
      refine wl_nil (x_seq (wc_ret ?_))
      refine fin_run (resC rfl rfl underlying82 rfl (szL sz82 (by rw [List.length_map]; exact hal)) (rngL hb4)) ?_
      exact ⟨rfl, HC⟩

theorem rsum_any {w : World} {Ab : Option Addr} {lb cb : Nat} {Fb : Nat → Prop} {b : List UInt8} (hb : Sl w Fb u8v Ab lb cb b) (hl : lb ≤ 1099511627776) :
    Calls Tryz.prog 12 #[.slice Ab lb cb] w fun e w' => e = .returned (.agg ((shaF b).map u8v).toArray) ∧ Ch No w w' := by
  have hbl := hb.len
  have hpl := pad_len b
  have hpm := pad_mod b
  have hnz : nz b.length < 64 := by unfold nz; omega
  have hb := hb.old
  have HC : Ch No w w := Ch.refl _ _
  refine enter' (args := [.slice Ab lb cb]) (n := 58) Tryz.func12 rfl rfl rfl ?_
  refine wc_seq (wc_region ?_)
  refine wle rfl (e_alloc (cs := ((List.replicate 32 (0 : UInt8)).map u8v).toArray) rfl (by rfl) rfl (fun w1 g2 hg2 hb2 hc hsz2 => ?_))
  have hzw1 := hc.size
  have hge2 := HC.geo hg2
  have HC := HC.tr hc
  have hb := hb.no hc
  refine wl_nil (x_seq (wc_seq (wc_region ?_)))
  refine wz (p_bldV rfl (fun _ => by kernel_rfl)) ?_
  have hltg2 := hb2.lt
  refine wle rfl (e_alloc (cs := ((List.replicate 8 0#32).map u32v).toArray) rfl (by rfl) rfl (fun w2 g3 hg3 hb3 hc hsz3 => ?_))
  have hzw2 := hc.size
  have hge3 := HC.geo hg3
  have HC := HC.tr hc
  have hb := hb.no hc
  have hb2 := hb2.no hc
  have neg2_3 : g2 < g3 := by omega
  refine wle rfl (e_stW (vs := _) (by first | rfl | exact szL sz82 (by rw [List.length_map]; exact hsh_len _ (k + 1))) (by first | exact allOne rfl | exact oneL one_u32 _) rfl rfl hb3 (by first | rfl | simp [hhl, hsh_len, cmp_len hhl]) (fun w3 hb3 hc hsz => ?_))
  have hzw3 := hc.size
  have HC := HC.n hc
  first | have hb := hb.cc hc | have hb := hb.cT hc
  have hb2 := hb2.cc hc
  refine wl_nil (x_seq (wc_seq (wc_region ?_)))
  refine wmv ?_
  refine wle rfl (e_call ent36 rfl rfl (padded_any (hb) (by omega)) ?_)
  rintro _ w4 ⟨A11, c11, rfl, hW11, hc⟩
  refine ⟨_, rfl, ?_⟩
  have hzw4 := hc.size
  have HC := HC.tr hc
  have hb := hb.no hc
  have hb2 := hb2.no hc
  have hb3 := hb3.no hc
  have hp : Sl w4 (fun k => g3 < k) u8v A11 (pad b).length c11 (pad b) := by have := hW11.sl; rw [show lb + 1 + nz b.length + 8 = (pad b).length by omega] at this; exact this.mono (fun k h1 h2 => by omega)
  refine was ?_
  refine wl_nil (x_seq (wc_seq (wc_seq (wc_region ?_))))
  refine was ?_
  refine wl_nil (x_seq (wc_block ?_))
  refine wc_loop (e' := [(2, .pointer (some ⟨g2, 0, none⟩)), (3, .pointer (some ⟨g3, 0, none⟩)), (4, .slice A11 (pad b).length c11), (5, i64 ((64 * (0) : Nat) : Int))]) (fun mz ez uz => ∃ k : Nat, mz = (pad b).length / 64 - k ∧ ez = [(2, .pointer (some ⟨g2, 0, none⟩)), (3, .pointer (some ⟨g3, 0, none⟩)), (4, .slice A11 (pad b).length c11), (5, i64 ((64 * k : Nat) : Int))] ∧ (64 * k ≤ (pad b).length) ∧ (Sl uz (fun k => k ≠ g2 ∧ k ≠ g3) u8v A11 (pad b).length c11 (pad b)) ∧ (Blk uz g2 33 ((List.replicate 32 (0 : UInt8)).map u8v).toArray) ∧ (Blk uz g3 82 ((hsh (pad b) k).map u32v).toArray) ∧ (Ch No w uz))
   ⟨rfl, rfl, (congrArg (fun z => some (Value.slice A11 z c11)) (show lb + 1 + nz b.length + 8 = (pad b).length by omega)), rfl, trivial⟩ ⟨0, rfl, rfl, by omega, hp.mono (fun k h1 h2 => by omega), hb2, hb3, HC⟩ ?_
  rintro m0 e w5 ⟨k, hm0, rfl, hk, hp, hb2, hb3, HC⟩
  have hzw5 := HC.size
  have hhl := hsh_len (pad b) k
  have hpc := hp.cap
  refine wc_seq (wc_seq (wc_region ?_))
  iterate 2 refine wmv ?_
  refine wz (p_lenS underlying38 rfl) ?_
  refine wz (p_lt rfl rfl) ?_
  refine wl_nil (x_seq ?_)
  refine wc_if rfl (fun c0 => ?_) (fun c0 => ?_)
  ·
   have c0 := of_decide_eq_true c0
   have hkp : 64 * k + 64 ≤ (pad b).length := by omega
   refine wc_skip (x_seq (wc_seq (wc_block ?_)))
   refine wdr (.st 0 1 (.st 1 0 (.st 2 0 (.st 3 0 (.st 4 0 (.st 5 0 (.st 6 2 (.st 7 3 .nil)))))))) 7 No (fun w6 hc hszw6 => ?_)
   have hzw6 := hc.size
   have HC := HC.tr hc
   have hp := hp.no hc
   have hb2 := hb2.no hc
   have hb3 := hb3.no hc
   have hS : Ch No w6 w6 := Ch.refl _ _
   refine ws_h rfl rfl rfl rfl (p_ldA (cs := (hsh (pad b) k).map u32v) underlying82 rfl (szL sz82 (by rw [List.length_map]; exact hsh_len _ _)) rfl (fun _ h => (rngL (hb3.ch h (fun h => h))))) ?_
   refine ws_p rfl rfl rfl rfl (p_mv rfl) ?_
   refine ws_p rfl rfl rfl rfl (p_mv rfl) ?_
   refine ws_p rfl rfl rfl rfl (p_mv rfl) ?_
   refine ws_p rfl rfl rfl rfl (p_add (Z := ((64 * k + 64 : Nat) : Int)) rfl rfl (by rw [w64 (by omega)]; omega)) ?_
   have hS23 := hp.cut (lo := 64 * k) (hi := 64 * k + 64) (q := 64) (by omega) (by omega) (by omega)
   refine ws_p rfl rfl rfl rfl (p_slS (l := 64 * k) (h := 64 * k + 64) underlying38 sz5 rfl ⟨_, rfl⟩ ⟨_, rfl⟩ (by omega) (by omega) hp.cap (q := 64) (by omega)) ?_
   refine ws_e rfl rfl (e_call ent37 rfl rfl (rblock_any (h := (hsh (pad b) k)) (hS23) (by first | assumption | exact hsh_len _ _) rfl) ?_)
   rintro _ w7 ⟨rfl, hc⟩
   refine ⟨_, rfl, hc, ?_⟩
   have hzw7 := hc.size
   have HC := HC.tr hc
   have hp := hp.no hc
   have hb2 := hb2.no hc
   have hb3 := hb3.no hc
   have hS23 := hS23.no hc
   refine ws_nar hc ?_
   refine ws_l rfl rfl (e_stW (vs := _) (by first | rfl | exact szL sz82 (by rw [List.length_map]; exact hsh_len _ (k + 1))) (oneL one_u32 _) rfl rfl hb3 (by first | rfl | simp [hhl, hsh_len, cmp_len hhl]) (fun w8 hb3 hc hsz => ?_))
   have hzw8 := hc.size
   have HC := HC.n hc
   first | have hp := hp.cc hc | have hp := hp.cT hc
   have hb2 := hb2.cc hc
   first | have hS23 := hS23.cc hc | have hS23 := hS23.cT hc
   refine ws_n (x_in_normal (x_seq (wc_region ?_)))
   refine wmv ?_
   refine wz (p_add (Z := ((64 * (k + 1) : Nat) : Int)) rfl rfl (by rw [w64 (by omega)]; omega)) ?_
   refine was ?_
   refine wl_nil ?_
   refine x_round (e' := [(2, .pointer (some ⟨g2, 0, none⟩)), (3, .pointer (some ⟨g3, 0, none⟩)), (4, .slice A11 (pad b).length c11), (5, i64 ((64 * (k + 1) : Nat) : Int))]) ⟨rfl, rfl, rfl, rfl, trivial⟩ (by rw [hm0]; omega) ⟨k + 1, rfl, rfl, by omega, hp, hb2, hb3, HC⟩
  ·
   have c0 := of_decide_eq_false c0
   obtain rfl : k = (pad b).length / 64 := by omega
   refine wc_exit (x_then_exit (x_then_exit (x_in_here (x_seq (wc_seq (wc_region ?_))))))
   have hltg2 := hb2.lt
   have hltg3 := hb3.lt
   refine wle rfl (e_alloc (cs := ((List.replicate 32 (0 : UInt8)).map u8v).toArray) rfl (by rfl) rfl (fun w9 g6 hg6 hb6 hc hsz6 => ?_))
   have hzw9 := hc.size
   have hge6 := HC.geo hg6
   have HC := HC.tr hc
   have hp := hp.no hc
   have hb2 := hb2.no hc
   have hb3 := hb3.no hc
   have neg2_6 : g2 < g6 := by omega
   have neg3_6 : g3 < g6 := by omega
   refine wl_nil (x_seq (wc_seq (wc_seq (wc_region ?_))))
   refine wz (p_ldA (cs := (hsh (pad b) ((pad b).length / 64)).map u32v) underlying82 rfl (szL sz82 (by rw [List.length_map]; exact hsh_len _ _)) rfl (fun _ e => e ▸ rngL hb3)) ?_
   refine wmv ?_
   refine wl_nil (x_seq (wc_block ?_))
   refine wc_loop (e' := [(2, .pointer (some ⟨g2, 0, none⟩)), (6, .pointer (some ⟨g6, 0, none⟩)), (25, .agg ((hsh (pad b) ((pad b).length / 64)).map u32v).toArray), (26, i64 ((0) : Int))]) (fun mz ez uz => ∃ i : Nat, mz = 8 - i ∧ ez = [(2, .pointer (some ⟨g2, 0, none⟩)), (6, .pointer (some ⟨g6, 0, none⟩)), (25, .agg ((hsh (pad b) ((pad b).length / 64)).map u32v).toArray), (26, i64 (i : Int))] ∧ (i ≤ 8) ∧ ((hsh (pad b) ((pad b).length / 64)).length = 8) ∧ (Blk uz g6 33 ((outN (hsh (pad b) ((pad b).length / 64)) i).map u8v).toArray) ∧ (Blk uz g2 33 ((List.replicate 32 (0 : UInt8)).map u8v).toArray) ∧ (Ch No w uz))
    ⟨rfl, rfl, rfl, rfl, trivial⟩ ⟨0, rfl, rfl, by omega, hsh_len _ _, by rw [outN_zero]; exact hb6, hb2, HC⟩ ?_
   rintro m1 e w10 ⟨i, hm1, rfl, hi, hh, hb6, hb2, HC⟩
   have hzw10 := HC.size
   have hol2 := outN_len hh hi
   refine wc_seq (wc_region ?_)
   refine wz (p_lt rfl rfl) ?_
   refine wl_nil (x_seq (wc_seq ?_))
   refine wc_if rfl (fun c1 => ?_) (fun c1 => ?_)
   ·
    have c1 := of_decide_eq_true c1
    refine wc_skip (x_seq (wc_seq (wc_block (wc_seq (wc_region ?_)))))
    refine wmv ?_
    refine wz (p_ixG (f := u32v) (d0 := 0#32) underlying82 underlying81 rfl sz81 rfl rfl (by omega) (by omega) (by first | (simp; done) | (simp; omega) | omega) (Int.toNat_natCast _)) ?_
    iterate 2 refine was ?_
    refine wl_nil (x_seq (wc_region ?_))
    refine wmv ?_
    refine wz (p_mul (Z := ((4 * i : Nat) : Int)) rfl rfl (by rw [w64 (by omega)]; omega)) ?_
    refine wmv ?_
    refine wz (p_mul (Z := ((4 * i : Nat) : Int)) rfl rfl (by rw [w64 (by omega)]; omega)) ?_
    refine wz (p_add (Z := ((4 * i + 1 : Nat) : Int)) rfl rfl (by rw [w64 (by omega)]; omega)) ?_
    refine wmv ?_
    refine wz (p_mul (Z := ((4 * i : Nat) : Int)) rfl rfl (by rw [w64 (by omega)]; omega)) ?_
    refine wz (p_add (Z := ((4 * i + 2 : Nat) : Int)) rfl rfl (by rw [w64 (by omega)]; omega)) ?_
    refine wmv ?_
    refine wz (p_mul (Z := ((4 * i : Nat) : Int)) rfl rfl (by rw [w64 (by omega)]; omega)) ?_
    refine wz (p_add (Z := ((4 * i + 3 : Nat) : Int)) rfl rfl (by rw [w64 (by omega)]; omega)) ?_
    refine wmv ?_
    refine wz (p_shr32 (Y := 24) rfl rfl) ?_
    refine wz (p_conv32B underlying81 underlying5 rfl) ?_
    refine wmv ?_
    refine wz (p_shr32 (Y := 16) rfl rfl) ?_
    refine wz (p_conv32B underlying81 underlying5 rfl) ?_
    refine wmv ?_
    refine wz (p_shr32 (Y := 8) rfl rfl) ?_
    refine wz (p_conv32B underlying81 underlying5 rfl) ?_
    refine wmv ?_
    refine wz (p_conv32B underlying81 underlying5 rfl) ?_
    refine wz (p_ixA1 underlying33 sz5 rfl rfl (by omega) (by omega) (Int.toNat_natCast _)) ?_
    refine wle rfl (e_stL one_u8 (by rfl) rfl rfl hb6 (by first | (simp; done) | (simp; omega) | omega) (fun w12 hb6 hc hsz => ?_))
    have hzw12 := hc.size
    have HC := HC.n hc
    have hb2 := hb2.cc hc
    refine wz (p_ixA1 underlying33 sz5 rfl rfl (by omega) (by omega) (Int.toNat_natCast _)) ?_
    refine wle rfl (e_stL one_u8 (by rfl) rfl rfl hb6 (by first | (simp; done) | (simp; omega) | omega) (fun w14 hb6 hc hsz => ?_))
    have hzw14 := hc.size
    have HC := HC.n hc
    have hb2 := hb2.cc hc
    refine wz (p_ixA1 underlying33 sz5 rfl rfl (by omega) (by omega) (Int.toNat_natCast _)) ?_
    refine wle rfl (e_stL one_u8 (by rfl) rfl rfl hb6 (by first | (simp; done) | (simp; omega) | omega) (fun w16 hb6 hc hsz => ?_))
    have hzw16 := hc.size
    have HC := HC.n hc
    have hb2 := hb2.cc hc
    refine wz (p_ixA1 underlying33 sz5 rfl rfl (by omega) (by omega) (Int.toNat_natCast _)) ?_
    refine wle rfl (e_stL one_u8 (by rfl) rfl rfl hb6 (by first | (simp; done) | (simp; omega) | omega) (fun w18 hb6 hc hsz => ?_))
    have hzw18 := hc.size
    have HC := HC.n hc
    have hb2 := hb2.cc hc
    refine wl_nil (x_in_normal (x_seq (wc_region ?_)))
    refine wz (p_add rfl rfl (w64 (by omega))) ?_
    refine wmv ?_
    refine wl_nil ?_
    refine x_round (e' := [(2, .pointer (some ⟨g2, 0, none⟩)), (6, .pointer (some ⟨g6, 0, none⟩)), (25, .agg ((hsh (pad b) ((pad b).length / 64)).map u32v).toArray), (26, i64 ((i + 1) : Int))]) ⟨rfl, rfl, rfl, rfl, trivial⟩ (by rw [hm1]; omega) ⟨i + 1, rfl, rfl, by omega, hh, by rw [← outN_next hh (by omega)]; exact hb6, hb2, HC⟩
   ·
    have c1 := of_decide_eq_false c1
    obtain rfl : i = 8 := by omega
    rw [outN_all hh] at hb6
    have hol : (outB (hsh (pad b) ((pad b).length / 64))).length = 32 := shaF_len b
    rw [← shaF] at hb6 hol
    refine wc_exit (x_then_exit (x_then_exit (x_in_here (x_seq (wc_seq (wc_region ?_))))))
    refine wz (p_ldA (cs := ((shaF b).map u8v)) underlying33 rfl (szL sz33 (by rw [List.length_map]; first | assumption | (simp; done) | (simp; omega) | omega)) rfl (fun _ e => e ▸ rngL hb6)) ?_
    refine wle rfl (e_stW (vs := _) (szL sz33 (by rw [List.length_map]; exact hol)) (oneL one_u8 _) rfl rfl hb2 (by simp [hol]) (fun w19 hb2 hc hsz => ?_))
    have hzw19 := hc.size
    have HC := HC.n hc
    have hb6 := hb6.cc hc
    refine wl_nil (x_seq (wc_ret ?_))
    refine fin_run (resC rfl rfl underlying33 rfl (szL sz33 (by rw [List.length_map]; exact shaF_len b)) (rngL hb2)) ?_
    exact ⟨rfl, HC⟩

theorem tbytes_any {w : World} {t : UInt8} {Aq : Option Addr} {lq cq : Nat} {Fq : Nat → Prop} {q : List (List UInt8)} (hq : SB w Fq Aq lq cq q) (hn : lq ≤ 1099511627000) (hl : q.flatten.length ≤ 1099511627000) :
    Calls Tryz.prog 86 #[u8v t, .slice Aq lq cq] w fun e w' => ∃ A c, e = .returned (.slice A (1 + q.flatten.length) c) ∧ Row w' (fun k => w.heap.size ≤ k) 5 1 (.slice A (1 + q.flatten.length) c) (1 + q.flatten.length) (([t] ++ q.flatten).map u8v) ∧ Ch No w w' := by
  have hql := hq.len
  have hq := hq.old
  have HC : Ch No w w := Ch.refl _ _
  refine enter' (args := [u8v t, .slice Aq lq cq]) (n := 21) Tryz.func86 rfl rfl rfl ?_
  refine wc_seq (wc_region ?_)
  refine was ?_
  refine wl_nil (x_seq (wc_seq (wc_region ?_)))
  refine wmv ?_
  refine wle rfl (e_bslV (E := 5) rfl rfl (fun _ => by kernel_rfl) (fun w1 g9 hg9 hb9 hc hsz9 => ?_))
  have hzw1 := hc.size
  have hge9 := HC.geo hg9
  have HC := HC.tr hc
  have hq := hq.no hc
  have hW9 := Row.lit (l := 1) (f := u8v) (xs := [t]) (F := fun k => g9 ≤ k) hb9 (by first | omega | (dsimp only; omega)) rfl rfl (by simp [maxLen])
  refine was ?_
  refine wl_nil (x_seq (wc_seq (wc_seq (wc_region ?_))))
  refine wmv ?_
  refine wz (p_lenS underlying77 rfl) ?_
  refine wmv ?_
  refine wl_nil (x_seq (wc_block ?_))
  refine wc_loop (e' := [(5, .slice (_) (1 + (q.take (0)).flatten.length) (_)), (10, .slice Aq lq cq), (11, i64 (lq : Int)), (12, i64 ((0) : Int))]) (fun mz ez uz => ∃ i : Nat, ∃ A : Option Addr, ∃ c : Nat, mz = lq - i ∧ ez = [(5, .slice A (1 + (q.take i).flatten.length) c), (10, .slice Aq lq cq), (11, i64 (lq : Int)), (12, i64 (i : Int))] ∧ (i ≤ lq) ∧ (Row uz (fun k => w.heap.size ≤ k) 5 1 (.slice A (1 + (q.take i).flatten.length) c) (1 + (q.take i).flatten.length) (([t] ++ (q.take i).flatten).map u8v)) ∧ (SB uz (fun k => k < w.heap.size) Aq lq cq q) ∧ (Ch No w uz))
   ⟨rfl, rfl, rfl, rfl, trivial⟩ ⟨0, _, _, rfl, rfl, by omega, hW9.mono (fun k _ hk => by first | omega | (dsimp only at *; omega)), hq, HC⟩ ?_
  rintro m0 e w2 ⟨i, A, c, hm0, rfl, hi, hW9, hq, HC⟩
  have hzw2 := HC.size
  refine wc_seq (wc_region ?_)
  refine wz (p_lt rfl rfl) ?_
  refine wl_nil (x_seq (wc_seq ?_))
  refine wc_if rfl (fun c0 => ?_) (fun c0 => ?_)
  ·
   have c0 := of_decide_eq_true c0
   have hnx := cat_next (q := q) (i := i) (by omega)
   have hle := cat_le q (i + 1)
   refine wc_skip (x_seq (wc_seq (wc_block (wc_seq (wc_region ?_)))))
   obtain ⟨b3, o3, hA3, hF3, hc3⟩ := hq.opn (by omega)
   obtain ⟨SA14, sl14, sc14, hcc3, hS14⟩ := hc3 i (by omega)
   have hSl14 := hS14.len
   refine wz (p_ixS1 (j := i) underlying77 sz38 rfl hA3 rfl (by omega) (by omega) (Int.toNat_natCast _)) ?_
   refine wz (p_ld underlying38 rfl rfl (ld (hcc3))) ?_
   have hqi : (q.getD i []).length = sl14 := hSl14
   have hnl : (q.take i).flatten.length + sl14 = (q.take (i + 1)).flatten.length := by rw [← hnx, List.length_append, hqi]
   refine was ?_
   refine wl_nil (x_seq (wc_region ?_))
   iterate 2 refine wmv ?_
   refine wle rfl (e_appS rfl el38 one_u8 rfl rfl hW9 hS14 (by omega) (by intro k hk; first | omega | (dsimp only at *; omega)) (fun w4 A18 c18 hW9 hc => ?_))
   have hzw4 := hc.size
   have HC := HC.trans hc (fun _ _ h => h) (fun k hk ht => absurd ht (by first | omega | (dsimp only at *; omega)))
   first | have hq := hq.cc hc | have hq := hq.cT hc
   first | have hS14 := hS14.cc hc | have hS14 := hS14.cT hc
   refine was ?_
   refine wl_nil (x_in_normal (x_seq (wc_region ?_)))
   refine wz (p_add rfl rfl (w64 (by omega))) ?_
   refine wmv ?_
   refine wl_nil ?_
   refine x_round (e' := [(5, .slice (A18) (1 + (q.take (i + 1)).flatten.length) (c18)), (10, .slice Aq lq cq), (11, i64 (lq : Int)), (12, i64 ((i + 1) : Int))]) ⟨(by rw [← hnl, ← Nat.add_assoc]; rfl), rfl, rfl, rfl, trivial⟩ (by rw [hm0]; omega) ⟨i + 1, A18, c18, rfl, rfl, by omega, by rw [← hnl, ← hnx, ← List.append_assoc, ← Nat.add_assoc]; exact hW9.mono (fun k _ hk => by first | omega | (dsimp only at *; omega)), hq, HC⟩
  ·
   have c0 := of_decide_eq_false c0
   refine wc_exit (x_then_exit (x_then_exit (x_in_here (x_seq (wc_seq (wc_region ?_))))))
   refine wmv ?_
   refine was ?_
   refine wl_nil (x_seq (wc_ret ?_))
   refine fin_run ((res1 rfl rfl)) ?_
   have ht : q.take i = q := List.take_of_length_le (by omega)
   rw [ht] at hW9
   rw [ht]
   exact ⟨_, _, rfl, hW9, HC⟩

theorem rtbytes_any {w : World} {t : UInt8} {Aq : Option Addr} {lq cq : Nat} {Fq : Nat → Prop} {q : List (List UInt8)} (hq : SB w Fq Aq lq cq q) (hn : lq ≤ 1099511627000) (hl : q.flatten.length ≤ 1099511627000) :
    Calls Tryz.prog 153 #[u8v t, .slice Aq lq cq] w fun e w' => ∃ A c, e = .returned (.slice A (1 + q.flatten.length) c) ∧ Row w' (fun k => w.heap.size ≤ k) 5 1 (.slice A (1 + q.flatten.length) c) (1 + q.flatten.length) (([t] ++ q.flatten).map u8v) ∧ Ch No w w' := by
  have hql := hq.len
  have hq := hq.old
  have HC : Ch No w w := Ch.refl _ _
  refine enter' (args := [u8v t, .slice Aq lq cq]) (n := 21) Tryz.func153 rfl rfl rfl ?_
  refine wc_seq (wc_region ?_)
  refine was ?_
  refine wl_nil (x_seq (wc_seq (wc_region ?_)))
  refine wmv ?_
  refine wle rfl (e_bslV (E := 5) rfl rfl (fun _ => by kernel_rfl) (fun w1 g9 hg9 hb9 hc hsz9 => ?_))
  have hzw1 := hc.size
  have hge9 := HC.geo hg9
  have HC := HC.tr hc
  have hq := hq.no hc
  have hW9 := Row.lit (l := 1) (f := u8v) (xs := [t]) (F := fun k => g9 ≤ k) hb9 (by first | omega | (dsimp only; omega)) rfl rfl (by simp [maxLen])
  refine was ?_
  refine wl_nil (x_seq (wc_seq (wc_seq (wc_region ?_))))
  refine wmv ?_
  refine wz (p_lenS underlying77 rfl) ?_
  refine wmv ?_
  refine wl_nil (x_seq (wc_block ?_))
  refine wc_loop (e' := [(5, .slice (_) (1 + (q.take (0)).flatten.length) (_)), (10, .slice Aq lq cq), (11, i64 (lq : Int)), (12, i64 ((0) : Int))]) (fun mz ez uz => ∃ i : Nat, ∃ A : Option Addr, ∃ c : Nat, mz = lq - i ∧ ez = [(5, .slice A (1 + (q.take i).flatten.length) c), (10, .slice Aq lq cq), (11, i64 (lq : Int)), (12, i64 (i : Int))] ∧ (i ≤ lq) ∧ (Row uz (fun k => w.heap.size ≤ k) 5 1 (.slice A (1 + (q.take i).flatten.length) c) (1 + (q.take i).flatten.length) (([t] ++ (q.take i).flatten).map u8v)) ∧ (SB uz (fun k => k < w.heap.size) Aq lq cq q) ∧ (Ch No w uz))
   ⟨rfl, rfl, rfl, rfl, trivial⟩ ⟨0, _, _, rfl, rfl, by omega, hW9.mono (fun k _ hk => by first | omega | (dsimp only at *; omega)), hq, HC⟩ ?_
  rintro m0 e w2 ⟨i, A, c, hm0, rfl, hi, hW9, hq, HC⟩
  have hzw2 := HC.size
  refine wc_seq (wc_region ?_)
  refine wz (p_lt rfl rfl) ?_
  refine wl_nil (x_seq (wc_seq ?_))
  refine wc_if rfl (fun c0 => ?_) (fun c0 => ?_)
  ·
   have c0 := of_decide_eq_true c0
   have hnx := cat_next (q := q) (i := i) (by omega)
   have hle := cat_le q (i + 1)
   refine wc_skip (x_seq (wc_seq (wc_block (wc_seq (wc_region ?_)))))
   obtain ⟨b3, o3, hA3, hF3, hc3⟩ := hq.opn (by omega)
   obtain ⟨SA14, sl14, sc14, hcc3, hS14⟩ := hc3 i (by omega)
   have hSl14 := hS14.len
   refine wz (p_ixS1 (j := i) underlying77 sz38 rfl hA3 rfl (by omega) (by omega) (Int.toNat_natCast _)) ?_
   refine wz (p_ld underlying38 rfl rfl (ld (hcc3))) ?_
   have hqi : (q.getD i []).length = sl14 := hSl14
   have hnl : (q.take i).flatten.length + sl14 = (q.take (i + 1)).flatten.length := by rw [← hnx, List.length_append, hqi]
   refine was ?_
   refine wl_nil (x_seq (wc_region ?_))
   iterate 2 refine wmv ?_
   refine wle rfl (e_appS rfl el38 one_u8 rfl rfl hW9 hS14 (by omega) (by intro k hk; first | omega | (dsimp only at *; omega)) (fun w4 A18 c18 hW9 hc => ?_))
   have hzw4 := hc.size
   have HC := HC.trans hc (fun _ _ h => h) (fun k hk ht => absurd ht (by first | omega | (dsimp only at *; omega)))
   first | have hq := hq.cc hc | have hq := hq.cT hc
   first | have hS14 := hS14.cc hc | have hS14 := hS14.cT hc
   refine was ?_
   refine wl_nil (x_in_normal (x_seq (wc_region ?_)))
   refine wz (p_add rfl rfl (w64 (by omega))) ?_
   refine wmv ?_
   refine wl_nil ?_
   refine x_round (e' := [(5, .slice (A18) (1 + (q.take (i + 1)).flatten.length) (c18)), (10, .slice Aq lq cq), (11, i64 (lq : Int)), (12, i64 ((i + 1) : Int))]) ⟨(by rw [← hnl, ← Nat.add_assoc]; rfl), rfl, rfl, rfl, trivial⟩ (by rw [hm0]; omega) ⟨i + 1, A18, c18, rfl, rfl, by omega, by rw [← hnl, ← hnx, ← List.append_assoc, ← Nat.add_assoc]; exact hW9.mono (fun k _ hk => by first | omega | (dsimp only at *; omega)), hq, HC⟩
  ·
   have c0 := of_decide_eq_false c0
   refine wc_exit (x_then_exit (x_then_exit (x_in_here (x_seq (wc_seq (wc_region ?_))))))
   refine wmv ?_
   refine was ?_
   refine wl_nil (x_seq (wc_ret ?_))
   refine fin_run ((res1 rfl rfl)) ?_
   have ht : q.take i = q := List.take_of_length_le (by omega)
   rw [ht] at hW9
   rw [ht]
   exact ⟨_, _, rfl, hW9, HC⟩

theorem tof_any {w : World} {t : UInt8} {Aq : Option Addr} {lq cq : Nat} {Fq : Nat → Prop} {q : List (List UInt8)} (hq : SB w Fq Aq lq cq q) (hn : lq ≤ 1099511627000) (hl : q.flatten.length ≤ 1099511627000) (hrnd : Sl w (fun k => k = 0) u32v (some ⟨0, 0, none⟩) 64 64 rk) :
    Calls Tryz.prog 191 #[u8v t, .slice Aq lq cq] w fun e w' => e = .returned (hv (shaF ([t] ++ q.flatten))) ∧ Ch No w w' := by
  have hn1 : 0 < w.heap.size := hrnd.size (by omega) rfl
  have hq := hq.old
  have HC : Ch No w w := Ch.refl _ _
  refine enter' (args := [u8v t, .slice Aq lq cq]) (n := 9) Tryz.func191 rfl rfl rfl ?_
  refine wc_seq (wc_region ?_)
  refine wle rfl (e_alloc (cs := ((List.replicate 32 (0 : UInt8)).map u8v).toArray) rfl (by rfl) rfl (fun w1 g4 hg4 hb4 hc hsz4 => ?_))
  have hzw1 := hc.size
  have hge4 := HC.geo hg4
  have HC := HC.tr hc
  have hq := hq.no hc
  have hrnd := hrnd.no hc
  refine wl_nil (x_seq (wc_seq (wc_region ?_)))
  iterate 2 refine wmv ?_
  refine wle rfl (e_call ent86 rfl rfl (tbytes_any (hq) (by omega) (by first | omega | (simp only [List.flatten_cons, List.flatten_nil, List.length_append, List.length_nil, List.length_cons]; omega))) ?_)
  rintro _ w2 ⟨A7, c7, rfl, hW7, hc⟩
  refine ⟨_, rfl, ?_⟩
  have hzw2 := hc.size
  have HC := HC.tr hc
  have hq := hq.no hc
  have hrnd := hrnd.no hc
  have hb4 := hb4.no hc
  refine wle rfl (e_call ent91 rfl rfl (sum_any (hW7.sl) (by omega) hrnd) ?_)
  rintro _ w3 ⟨rfl, hc⟩
  refine ⟨_, rfl, ?_⟩
  have hzw3 := hc.size
  have HC := HC.tr hc
  have hq := hq.no hc
  have hrnd := hrnd.no hc
  have hb4 := hb4.no hc
  have hW7 := hW7.after hc
  refine wle rfl (e_stH sz34 ((List.length_replicate ..)) (shaF_len _) rfl rfl hb4 (fun w4 hb4 hc hsz => ?_))
  have hzw4 := hc.size
  have HC := HC.n hc
  first | have hq := hq.cc hc | have hq := hq.cT hc
  first | have hrnd := hrnd.cc hc | have hrnd := hrnd.cT hc
  have hW7 := hW7.ch hc (by intro k hz hk ht; first | omega | (dsimp only at *; omega))
  refine wl_nil (x_seq (wc_ret ?_))
  refine fin_run (resC (cs := List.map u8v (shaF _)) rfl rfl underlying34 rfl (szL sz34 (by rw [List.length_map]; exact shaF_len _)) (rngL hb4)) ?_
  exact ⟨rfl, HC⟩

theorem tnode_any {w : World}  {a : List UInt8} {y : List UInt8} (ha : a.length = 32) (hy : y.length = 32) (hrnd : Sl w (fun k => k = 0) u32v (some ⟨0, 0, none⟩) 64 64 rk) :
    Calls Tryz.prog 155 #[hv a, hv y] w fun e w' => e = .returned (hv (nodeH a y)) ∧ Ch No w w' := by
  have hn1 : 0 < w.heap.size := hrnd.size (by omega) rfl
  have HC : Ch No w w := Ch.refl _ _
  refine enter' (args := [hv a, hv y]) (n := 9) Tryz.func155 rfl rfl rfl ?_
  refine wc_seq (wc_region ?_)
  refine wle rfl (e_box (cs := (List.map u8v a).toArray) rfl rfl rfl (fun w1 g2 hg2 hb2 hc hsz2 => ?_))
  have hzw1 := hc.size
  have hge2 := HC.geo hg2
  have HC := HC.tr hc
  have hrnd := hrnd.no hc
  have hltg2 := hb2.lt
  refine wle rfl (e_box (cs := (List.map u8v y).toArray) rfl rfl rfl (fun w2 g3 hg3 hb3 hc hsz3 => ?_))
  have hzw2 := hc.size
  have hge3 := HC.geo hg3
  have HC := HC.tr hc
  have hrnd := hrnd.no hc
  have hb2 := hb2.no hc
  have neg2_3 : g2 < g3 := by omega
  have hltg2 := hb2.lt
  have hltg3 := hb3.lt
  refine wle rfl (e_alloc (cs := ((List.replicate 32 (0 : UInt8)).map u8v).toArray) rfl (by rfl) rfl (fun w3 g4 hg4 hb4 hc hsz4 => ?_))
  have hzw3 := hc.size
  have hge4 := HC.geo hg4
  have HC := HC.tr hc
  have hrnd := hrnd.no hc
  have hb2 := hb2.no hc
  have hb3 := hb3.no hc
  have neg2_4 : g2 < g4 := by omega
  have neg3_4 : g3 < g4 := by omega
  refine wl_nil (x_seq (wc_seq ?_))
  refine wdr (.st 0 0 (.st 1 0 (.st 2 2 (.st 3 2 (.st 4 3 .nil))))) 4 No (fun w4 hc hszw4 => ?_)
  have hzw4 := hc.size
  have HC := HC.tr hc
  have hrnd := hrnd.no hc
  have hb2 := hb2.no hc
  have hb3 := hb3.no hc
  have hb4 := hb4.no hc
  have hS : Ch No w4 w4 := Ch.refl _ _
  have hS5 := Sl.whole (L := a) hb2 (ha)
  refine ws_p rfl rfl rfl rfl (p_slW (N := 31) underlying34 sz5 rfl) ?_
  have hS6 := Sl.whole (L := y) hb3 (hy)
  refine ws_p rfl rfl rfl rfl (p_slW (N := 31) underlying34 sz5 rfl) ?_
  have hltg2 := hb2.lt
  have hltg3 := hb3.lt
  have hltg4 := hb4.lt
  refine ws_e rfl rfl (e_bslV (E := 38) rfl rfl (fun _ => by kernel_rfl) (fun w5 g7 hg7 hb7 hc hsz7 => ⟨hc, ?_⟩))
  have hzw5 := hc.size
  have hge7 := HC.geo hg7
  have HC := HC.tr hc
  have hrnd := hrnd.no hc
  have hb2 := hb2.no hc
  have hb3 := hb3.no hc
  have hb4 := hb4.no hc
  have hS5 := hS5.no hc
  have hS6 := hS6.no hc
  have hQ7 := SB.lit2 hb7 (hS5) (hS6)
  refine ws_nar hc ?_
  refine ws_e rfl rfl (e_call ent191 rfl rfl (tof_any (t := 1) (hQ7) (by omega) (by first | omega | (simp only [List.flatten_cons, List.flatten_nil, List.length_append, List.length_nil, List.length_cons]; omega)) hrnd) ?_)
  rintro _ w6 ⟨rfl, hc⟩
  refine ⟨_, rfl, hc, ?_⟩
  have hzw6 := hc.size
  have HC := HC.tr hc
  have hrnd := hrnd.no hc
  have hb2 := hb2.no hc
  have hb3 := hb3.no hc
  have hb4 := hb4.no hc
  have hS5 := hS5.no hc
  have hS6 := hS6.no hc
  have hQ7 := hQ7.no hc
  refine ws_nar hc ?_
  refine ws_l rfl rfl (e_stH sz34 ((List.length_replicate ..)) (shaF_len _) rfl rfl hb4 (fun w7 hb4 hc hsz => ?_))
  have hzw7 := hc.size
  have HC := HC.n hc
  first | have hrnd := hrnd.cc hc | have hrnd := hrnd.cT hc
  have hb2 := hb2.cc hc
  have hb3 := hb3.cc hc
  first | have hS5 := hS5.cc hc | have hS5 := hS5.cT hc
  first | have hS6 := hS6.cc hc | have hS6 := hS6.cT hc
  refine ws_n (x_seq (wc_ret ?_))
  refine fin_run (resC (cs := List.map u8v (shaF _)) rfl rfl underlying34 rfl (szL sz34 (by rw [List.length_map]; exact shaF_len _)) (rngL hb4)) ?_
  rw [node_of]; exact ⟨rfl, HC⟩

theorem rtof_any {w : World} {t : UInt8} {Aq : Option Addr} {lq cq : Nat} {Fq : Nat → Prop} {q : List (List UInt8)} (hq : SB w Fq Aq lq cq q) (hn : lq ≤ 1099511627000) (hl : q.flatten.length ≤ 1099511627000) :
    Calls Tryz.prog 84 #[u8v t, .slice Aq lq cq] w fun e w' => e = .returned (hv (shaF ([t] ++ q.flatten))) ∧ Ch No w w' := by
  have hq := hq.old
  have HC : Ch No w w := Ch.refl _ _
  refine enter' (args := [u8v t, .slice Aq lq cq]) (n := 9) Tryz.func84 rfl rfl rfl ?_
  refine wc_seq (wc_region ?_)
  refine wle rfl (e_alloc (cs := ((List.replicate 32 (0 : UInt8)).map u8v).toArray) rfl (by rfl) rfl (fun w1 g4 hg4 hb4 hc hsz4 => ?_))
  have hzw1 := hc.size
  have hge4 := HC.geo hg4
  have HC := HC.tr hc
  have hq := hq.no hc
  refine wl_nil (x_seq (wc_seq (wc_region ?_)))
  iterate 2 refine wmv ?_
  refine wle rfl (e_call ent153 rfl rfl (rtbytes_any (hq) (by omega) (by first | omega | (simp only [List.flatten_cons, List.flatten_nil, List.length_append, List.length_nil, List.length_cons]; omega))) ?_)
  rintro _ w2 ⟨A7, c7, rfl, hW7, hc⟩
  refine ⟨_, rfl, ?_⟩
  have hzw2 := hc.size
  have HC := HC.tr hc
  have hq := hq.no hc
  have hb4 := hb4.no hc
  refine wle rfl (e_call ent12 rfl rfl (rsum_any (hW7.sl) (by first | omega | (simp only [List.flatten_cons, List.flatten_nil, List.length_append, List.length_nil, List.length_cons]; omega))) ?_)
  rintro _ w3 ⟨rfl, hc⟩
  refine ⟨_, rfl, ?_⟩
  have hzw3 := hc.size
  have HC := HC.tr hc
  have hq := hq.no hc
  have hb4 := hb4.no hc
  have hW7 := hW7.after hc
  refine wle rfl (e_stH sz34 ((List.length_replicate ..)) (shaF_len _) rfl rfl hb4 (fun w4 hb4 hc hsz => ?_))
  have hzw4 := hc.size
  have HC := HC.n hc
  first | have hq := hq.cc hc | have hq := hq.cT hc
  have hW7 := hW7.ch hc (by intro k hz hk ht; first | omega | (dsimp only at *; omega))
  refine wl_nil (x_seq (wc_ret ?_))
  refine fin_run (resC (cs := List.map u8v (shaF _)) rfl rfl underlying34 rfl (szL sz34 (by rw [List.length_map]; exact shaF_len _)) (rngL hb4)) ?_
  exact ⟨rfl, HC⟩

theorem rtleaf_any {w : World} {Ab : Option Addr} {lb cb : Nat} {Fb : Nat → Prop} {b : List UInt8} (hb : Sl w Fb u8v Ab lb cb b) (hl : lb ≤ 1099511627000) :
    Calls Tryz.prog 30 #[.slice Ab lb cb] w fun e w' => e = .returned (hv (leafH b)) ∧ Ch No w w' := by
  have hbl := hb.len
  have hb := hb.old
  have HC : Ch No w w := Ch.refl _ _
  refine enter' (args := [.slice Ab lb cb]) (n := 6) Tryz.func30 rfl rfl rfl ?_
  refine wc_seq (wc_region ?_)
  refine wle rfl (e_alloc (cs := ((List.replicate 32 (0 : UInt8)).map u8v).toArray) rfl (by rfl) rfl (fun w1 g2 hg2 hb2 hc hsz2 => ?_))
  have hzw1 := hc.size
  have hge2 := HC.geo hg2
  have HC := HC.tr hc
  have hb := hb.no hc
  refine wl_nil (x_seq (wc_seq (wc_region ?_)))
  refine wmv ?_
  have hltg2 := hb2.lt
  refine wle rfl (e_bslV (E := 38) rfl rfl (fun _ => by kernel_rfl) (fun w2 g4 hg4 hb4 hc hsz4 => ?_))
  have hzw2 := hc.size
  have hge4 := HC.geo hg4
  have HC := HC.tr hc
  have hb := hb.no hc
  have hb2 := hb2.no hc
  have hQ4 := SB.lit1 hb4 (hb)
  refine wle rfl (e_call ent84 rfl rfl (rtof_any (t := 0) (hQ4) (by omega) (by first | omega | (simp only [List.flatten_cons, List.flatten_nil, List.length_append, List.length_nil, List.length_cons]; omega))) ?_)
  rintro _ w3 ⟨rfl, hc⟩
  refine ⟨_, rfl, ?_⟩
  have hzw3 := hc.size
  have HC := HC.tr hc
  have hb := hb.no hc
  have hb2 := hb2.no hc
  have hQ4 := hQ4.no hc
  refine wle rfl (e_stH sz34 ((List.length_replicate ..)) (shaF_len _) rfl rfl hb2 (fun w4 hb2 hc hsz => ?_))
  have hzw4 := hc.size
  have HC := HC.n hc
  first | have hb := hb.cc hc | have hb := hb.cT hc
  refine wl_nil (x_seq (wc_ret ?_))
  refine fin_run (resC (cs := List.map u8v (shaF _)) rfl rfl underlying34 rfl (szL sz34 (by rw [List.length_map]; exact shaF_len _)) (rngL hb2)) ?_
  rw [leaf_of]; exact ⟨rfl, HC⟩

theorem rtnode_any {w : World}  {a : List UInt8} {y : List UInt8} (ha : a.length = 32) (hy : y.length = 32) :
    Calls Tryz.prog 83 #[hv a, hv y] w fun e w' => e = .returned (hv (nodeH a y)) ∧ Ch No w w' := by
  have HC : Ch No w w := Ch.refl _ _
  refine enter' (args := [hv a, hv y]) (n := 9) Tryz.func83 rfl rfl rfl ?_
  refine wc_seq (wc_region ?_)
  refine wle rfl (e_box (cs := (List.map u8v a).toArray) rfl rfl rfl (fun w1 g2 hg2 hb2 hc hsz2 => ?_))
  have hzw1 := hc.size
  have hge2 := HC.geo hg2
  have HC := HC.tr hc
  have hltg2 := hb2.lt
  refine wle rfl (e_box (cs := (List.map u8v y).toArray) rfl rfl rfl (fun w2 g3 hg3 hb3 hc hsz3 => ?_))
  have hzw2 := hc.size
  have hge3 := HC.geo hg3
  have HC := HC.tr hc
  have hb2 := hb2.no hc
  have neg2_3 : g2 < g3 := by omega
  have hltg2 := hb2.lt
  have hltg3 := hb3.lt
  refine wle rfl (e_alloc (cs := ((List.replicate 32 (0 : UInt8)).map u8v).toArray) rfl (by rfl) rfl (fun w3 g4 hg4 hb4 hc hsz4 => ?_))
  have hzw3 := hc.size
  have hge4 := HC.geo hg4
  have HC := HC.tr hc
  have hb2 := hb2.no hc
  have hb3 := hb3.no hc
  have neg2_4 : g2 < g4 := by omega
  have neg3_4 : g3 < g4 := by omega
  refine wl_nil (x_seq (wc_seq ?_))
  refine wdr (.st 0 0 (.st 1 0 (.st 2 2 (.st 3 2 (.st 4 3 .nil))))) 4 No (fun w4 hc hszw4 => ?_)
  have hzw4 := hc.size
  have HC := HC.tr hc
  have hb2 := hb2.no hc
  have hb3 := hb3.no hc
  have hb4 := hb4.no hc
  have hS : Ch No w4 w4 := Ch.refl _ _
  have hS5 := Sl.whole (L := a) hb2 (ha)
  refine ws_p rfl rfl rfl rfl (p_slW (N := 31) underlying34 sz5 rfl) ?_
  have hS6 := Sl.whole (L := y) hb3 (hy)
  refine ws_p rfl rfl rfl rfl (p_slW (N := 31) underlying34 sz5 rfl) ?_
  have hltg2 := hb2.lt
  have hltg3 := hb3.lt
  have hltg4 := hb4.lt
  refine ws_e rfl rfl (e_bslV (E := 38) rfl rfl (fun _ => by kernel_rfl) (fun w5 g7 hg7 hb7 hc hsz7 => ⟨hc, ?_⟩))
  have hzw5 := hc.size
  have hge7 := HC.geo hg7
  have HC := HC.tr hc
  have hb2 := hb2.no hc
  have hb3 := hb3.no hc
  have hb4 := hb4.no hc
  have hS5 := hS5.no hc
  have hS6 := hS6.no hc
  have hQ7 := SB.lit2 hb7 (hS5) (hS6)
  refine ws_nar hc ?_
  refine ws_e rfl rfl (e_call ent84 rfl rfl (rtof_any (t := 1) (hQ7) (by omega) (by first | omega | (simp only [List.flatten_cons, List.flatten_nil, List.length_append, List.length_nil, List.length_cons]; omega))) ?_)
  rintro _ w6 ⟨rfl, hc⟩
  refine ⟨_, rfl, hc, ?_⟩
  have hzw6 := hc.size
  have HC := HC.tr hc
  have hb2 := hb2.no hc
  have hb3 := hb3.no hc
  have hb4 := hb4.no hc
  have hS5 := hS5.no hc
  have hS6 := hS6.no hc
  have hQ7 := hQ7.no hc
  refine ws_nar hc ?_
  refine ws_l rfl rfl (e_stH sz34 ((List.length_replicate ..)) (shaF_len _) rfl rfl hb4 (fun w7 hb4 hc hsz => ?_))
  have hzw7 := hc.size
  have HC := HC.n hc
  have hb2 := hb2.cc hc
  have hb3 := hb3.cc hc
  first | have hS5 := hS5.cc hc | have hS5 := hS5.cT hc
  first | have hS6 := hS6.cc hc | have hS6 := hS6.cT hc
  refine ws_n (x_seq (wc_ret ?_))
  refine fin_run (resC (cs := List.map u8v (shaF _)) rfl rfl underlying34 rfl (szL sz34 (by rw [List.length_map]; exact shaF_len _)) (rngL hb4)) ?_
  rw [node_of]; exact ⟨rfl, HC⟩

theorem rLeaf_rec {w : World} {sa na : Int} {ba : Bool} {Ara : Option Addr} {lra cra : Nat} {Fra : Nat → Prop} {ra : List RD} {Awa : Option Addr} {lwa cwa : Nat} {Fwa : Nat → Prop} {wa : List Pr} {Ga : Nat → Prop}  (hra : SI w Fra eRD Ara lra cra ra) (hwa : SI w Fwa ePR Awa lwa cwa wa) (hna : NS w Ga ra) (hlr : lra ≤ 140737488351232) (hlw : lwa ≤ 140737488351232) (hR : Right ⟨sa, na, ba, ra.map RD.abs, wa⟩) :
    Calls Tryz.prog 9 #[.agg ([i64 sa, i64 na, .bool ba, .slice Ara lra cra, .slice Awa lwa cwa] : List Value).toArray] w fun e w' => e = .returned (hv (leafH (encRC ⟨sa, na, ba, ra.map RD.abs, wa⟩))) ∧ Ch No w w' := by
  have hrla := hra.len
  have hwla := hwa.len
  have hna := hna.old
  have hra := hra.old
  have hwa := hwa.old
  have HC : Ch No w w := Ch.refl _ _
  refine enter' (args := [_]) (n := 6) Tryz.func9 rfl rfl rfl ?_
  refine wc_seq (wc_region ?_)
  refine wle rfl (e_box (cs := ([i64 sa, i64 na, .bool ba, .slice Ara lra cra, .slice Awa lwa cwa] : List Value).toArray) rfl rfl rfl (fun w1 g1 hg1 hb1 hc hsz1 => ?_))
  have hzw1 := hc.size
  have hge1 := HC.geo hg1
  have HC := HC.tr hc
  have hra := hra.no hc
  have hwa := hwa.no hc
  have hna := hna.cc hc
  have hltg1 := hb1.lt
  refine wle rfl (e_alloc (cs := ((List.replicate 32 (0 : UInt8)).map u8v).toArray) rfl (by rfl) rfl (fun w2 g2 hg2 hb2 hc hsz2 => ?_))
  have hzw2 := hc.size
  have hge2 := HC.geo hg2
  have HC := HC.tr hc
  have hra := hra.no hc
  have hwa := hwa.no hc
  have hna := hna.cc hc
  have hb1 := hb1.no hc
  have neg1_2 : g1 < g2 := by omega
  refine wl_nil (x_seq (wc_seq (wc_region ?_)))
  refine wz (p_ldA (cs := ([i64 sa, i64 na, .bool ba, .slice Ara lra cra, .slice Awa lwa cwa] : List Value)) underlying25 rfl (szL sz25 rfl) rfl (fun _ e => e ▸ rngL hb1)) ?_
  refine wle rfl (e_call ent31 rfl rfl (rBytes_rec (hra) (hwa) hna (by omega) (by omega) hR) ?_)
  rintro _ w3 ⟨A4, l4, c4, rfl, hB4, hn4, hc⟩
  refine ⟨_, rfl, ?_⟩
  have hzw3 := hc.size
  have HC := HC.tr hc
  have hra := hra.no hc
  have hwa := hwa.no hc
  have hna := hna.cc hc
  have hb1 := hb1.no hc
  have hb2 := hb2.no hc
  refine wle rfl (e_call ent30 rfl rfl (rtleaf_any (hB4) (by omega)) ?_)
  rintro _ w4 ⟨rfl, hc⟩
  refine ⟨_, rfl, ?_⟩
  have hzw4 := hc.size
  have HC := HC.tr hc
  have hra := hra.no hc
  have hwa := hwa.no hc
  have hna := hna.cc hc
  have hb1 := hb1.no hc
  have hb2 := hb2.no hc
  have hB4 := hB4.no hc
  refine wle rfl (e_stH sz34 ((List.length_replicate ..)) (leafH_len _) rfl rfl hb2 (fun w5 hb2 hc hsz => ?_))
  have hzw5 := hc.size
  have HC := HC.n hc
  first | have hra := hra.cc hc | have hra := hra.cT hc
  first | have hwa := hwa.cc hc | have hwa := hwa.cT hc
  have hna := hna.cc hc
  have hb1 := hb1.cc hc
  refine wl_nil (x_seq (wc_ret ?_))
  refine fin_run (resC (cs := List.map u8v (leafH _)) rfl rfl underlying34 rfl (szL sz34 (by rw [List.length_map]; exact leafH_len _)) (rngL hb2)) ?_
  exact ⟨rfl, HC⟩

theorem rsplit_any {w : World} {n : Nat}  (h2 : 2 ≤ n) (hm : n ≤ 1099511627776) :
    Calls Tryz.prog 82 #[i64 (n : Int)] w fun e w' => e = .returned (i64 (spl n : Int)) ∧ Ch No w w' := by
  have HC : Ch No w w := Ch.refl _ _
  refine enter' (args := [i64 (n : Int)]) (n := 14) Tryz.func82 rfl rfl rfl ?_
  refine wc_seq (wc_region ?_)
  refine was ?_
  refine wl_nil (x_seq (wc_seq (wc_seq (wc_region ?_))))
  refine wmv ?_
  refine wz (p_lt rfl rfl) ?_
  refine wl_nil (x_seq ?_)
  refine wc_no rfl (decide_eq_false (by omega)) ?_
  refine wc_skip (x_seq (wc_seq (wc_region ?_)))
  refine was ?_
  refine wl_nil (x_seq (wc_seq (wc_block ?_)))
  refine wc_loop (e' := [(0, i64 (n : Int)), (3, i64 ((1) : Int))]) (fun mz ez uz => ∃ k : Nat, ∃ j : Nat, mz = n - k ∧ ez = [(0, i64 (n : Int)), (3, i64 (k : Int))] ∧ (k = 2 ^ j) ∧ (k < n) ∧ (Ch No w uz))
   ⟨rfl, rfl, trivial⟩ ⟨1, 0, rfl, rfl, rfl, by omega, HC⟩ ?_
  rintro m0 e w1 ⟨k, j, hm0, rfl, hk, hkn, HC⟩
  have hzw1 := HC.size
  refine wc_seq (wc_seq (wc_region ?_))
  iterate 3 refine wmv ?_
  refine wz (p_sub rfl rfl (w64 (by omega))) ?_
  refine wz (p_lt rfl rfl) ?_
  refine wl_nil (x_seq ?_)
  refine wc_if rfl (fun c1 => ?_) (fun c1 => ?_)
  ·
   have c1 := of_decide_eq_true c1
   refine wc_skip (x_seq (wc_block (wc_region ?_)))
   refine wmv ?_
   refine wz (p_mul rfl rfl (w64 (by omega))) ?_
   refine was ?_
   refine wl_nil (x_in_normal ?_)
   refine x_round (e' := [(0, i64 (n : Int)), (3, i64 ((k * 2) : Int))]) ⟨rfl, rfl, trivial⟩ (by rw [hm0]; (have := Nat.two_pow_pos j; omega)) ⟨k * 2, j + 1, rfl, rfl, (by rw [hk, Nat.pow_succ]), by omega, HC⟩
  ·
   have c1 := of_decide_eq_false c1
   refine wc_exit (x_then_exit (x_then_exit (x_in_here (x_seq (wc_seq (wc_region ?_))))))
   refine wmv ?_
   refine was ?_
   refine wl_nil (x_seq (wc_ret ?_))
   refine fin_run ((res1 rfl rfl)) ?_
   rw [hk, spl_is (n := n) (j := j) (by omega) (by omega)]; exact ⟨rfl, HC⟩

def ClimbOK (n : Nat) : Prop := ∀ {w : World} {Aq : Option Addr} {lq cq : Nat} {Fq : Nat → Prop} {q : List (List UInt8)}  {lf : List UInt8}  {i : Nat} (hi : i < n) (hq : SI w Fq eHs Aq lq cq q) (hlf : lf.length = 32) (hlq : lq ≤ 1000000), Calls Tryz.prog 29 #[i64 (n : Int), i64 (i : Int), hv lf, .slice Aq lq cq] w fun e w' => ∃ (u : List UInt8) (ok : Bool), e = .returned (.tuple #[hv u, .bool ok]) ∧ CL n i lf q u ok ∧ Ch No w w'

theorem rclimb_step {w : World} {n i : Nat} {Aq : Option Addr} {lq cq : Nat} {Fq : Nat → Prop} {q : List (List UInt8)} {lf : List UInt8}  (hrec : ∀ m, 1 ≤ m → m < n → ClimbOK m) (hn1 : 1 ≤ n) (hnm : n ≤ 1099511627776) (hi : i < n) (hq : SI w Fq eHs Aq lq cq q) (hlf : lf.length = 32) (hlq : lq ≤ 1000000) :
    Calls Tryz.prog 29 #[i64 (n : Int), i64 (i : Int), hv lf, .slice Aq lq cq] w fun e w' => ∃ (u : List UInt8) (ok : Bool), e = .returned (.tuple #[hv u, .bool ok]) ∧ CL n i lf q u ok ∧ Ch No w w' := by
  have hql := hq.len
  have hq := hq.old
  have HC : Ch No w w := Ch.refl _ _
  refine enter' (args := [i64 (n : Int), i64 (i : Int), hv lf, .slice Aq lq cq]) (n := 73) Tryz.func29 rfl rfl rfl ?_
  refine wc_seq (wc_region ?_)
  refine wle rfl (e_box (cs := (List.map u8v lf).toArray) rfl rfl rfl (fun w1 g6 hg6 hb6 hc hsz6 => ?_))
  have hzw1 := hc.size
  have hge6 := HC.geo hg6
  have HC := HC.tr hc
  have hq := hq.no hc
  have hltg6 := hb6.lt
  refine wle rfl (e_alloc (cs := ((List.replicate 32 (0 : UInt8)).map u8v).toArray) rfl (by rfl) rfl (fun w2 g8 hg8 hb8 hc hsz8 => ?_))
  have hzw2 := hc.size
  have hge8 := HC.geo hg8
  have HC := HC.tr hc
  have hq := hq.no hc
  have hb6 := hb6.no hc
  have neg6_8 : g6 < g8 := by omega
  refine was ?_
  refine wl_nil (x_seq (wc_seq (wc_seq (wc_region ?_))))
  refine wmv ?_
  refine wz (p_eq rfl rfl) ?_
  refine wl_nil (x_seq ?_)
  refine wc_if rfl (fun c0 => ?_) (fun c0 => ?_)
  ·
   have c0 := of_decide_eq_true c0
   refine wc_seq (wc_region ?_)
   refine wz (p_ldA (cs := List.map u8v lf) underlying34 rfl (szL sz34 (by rw [List.length_map]; exact hlf)) rfl (fun _ e => e ▸ rngL hb6)) ?_
   refine wmv ?_
   refine wz (p_lenS underlying26 rfl) ?_
   refine wz (p_eq rfl rfl) ?_
   refine wle rfl (e_stH sz34 ((List.length_replicate ..)) (hlf) rfl rfl hb8 (fun w3 hb8 hc hsz => ?_))
   have hzw3 := hc.size
   have HC := HC.n hc
   first | have hq := hq.cc hc | have hq := hq.cT hc
   have hb6 := hb6.cc hc
   refine was ?_
   refine wl_nil (x_seq (wc_ret (x_then_ret ?_)))
   refine fin_run (resMany (rs := [.cell 8 34, .tmp 9]) rfl (.cellA (cs := List.map u8v lf) rfl underlying34 rfl (szL sz34 (by rw [List.length_map]; exact hlf)) (rngL hb8) (.tmp rfl (.nil))) rfl) ?_
   exact ⟨lf, _, rfl, CL.one (by omega) hlf (by rw [decide_eq_true_iff]; omega), HC⟩
  ·
   have c0 := of_decide_eq_false c0
   have h2n : 2 ≤ n := by omega
   have hsl := spl_lt h2n
   have hsp := spl_pos n
   have hsg := spl_ge h2n
   refine wc_skip (x_seq (wc_seq (wc_seq (wc_region ?_))))
   refine wmv ?_
   refine wz (p_lenS underlying26 rfl) ?_
   refine wz (p_eq rfl rfl) ?_
   refine wl_nil (x_seq ?_)
   refine wc_if rfl (fun c1 => ?_) (fun c1 => ?_)
   ·
    have c1 := of_decide_eq_true c1
    refine wc_seq (wc_region ?_)
    refine wz (p_bldP (cs := ((List.replicate 32 (0 : UInt8)).map u8v).toArray) rfl (fun _ => by kernel_rfl)) ?_
    refine wle rfl (e_stH sz34 ((List.length_replicate ..)) ((List.length_replicate ..)) rfl rfl hb8 (fun w4 hb8 hc hsz => ?_))
    have hzw4 := hc.size
    have HC := HC.n hc
    first | have hq := hq.cc hc | have hq := hq.cT hc
    have hb6 := hb6.cc hc
    refine was ?_
    refine wl_nil (x_seq (wc_ret (x_then_ret ?_)))
    refine fin_run (resMany (rs := [.cell 8 34, .tmp 9]) rfl (.cellA (cs := List.map u8v (List.replicate 32 (0 : UInt8))) rfl underlying34 rfl (szL sz34 (by rw [List.length_map]; exact (List.length_replicate ..))) (rngL hb8) (.tmp rfl (.nil))) rfl) ?_
    obtain rfl : q = [] := List.eq_nil_of_length_eq_zero (by omega)
    exact ⟨_, false, rfl, CL.none (by omega) (List.length_replicate ..), HC⟩
   ·
    have c1 := of_decide_eq_false c1
    refine wc_skip (x_seq (wc_seq (wc_region ?_)))
    refine wmv ?_
    refine wle rfl (e_call ent82 rfl rfl (rsplit_any (by omega) (by omega)) ?_)
    rintro _ w5 ⟨rfl, hc⟩
    refine ⟨_, rfl, ?_⟩
    have hzw5 := hc.size
    have HC := HC.tr hc
    have hq := hq.no hc
    have hb6 := hb6.no hc
    have hb8 := hb8.no hc
    refine was ?_
    refine wl_nil (x_seq (wc_seq (wc_region ?_)))
    iterate 2 refine wmv ?_
    refine wz (p_lenS underlying26 rfl) ?_
    refine wz (p_sub (Z := ((lq - 1 : Nat) : Int)) rfl rfl (by rw [w64 (by omega)]; omega)) ?_
    obtain ⟨b6, o6, hA6, hF6, hr6⟩ := (hq).opn (i := (lq - 1)) (d := zH) (by omega)
    have hok6 := (hq).okAt (i := (lq - 1)) (d := zH) (by omega)
    obtain ⟨x6, ex6⟩ : ∃ x_, x_ = List.getD q ((lq - 1)) zH := ⟨_, rfl⟩
    rw [← ex6] at hr6 hok6
    have hx6k : List.length x6 = 32 := hok6
    have hr6 : w5.rangeAt b6 (o6 + ((lq - 1)) * 32) ((List.map u8v x6) : List Value) := hr6
    refine wz (p_ixS (j := ((lq - 1)) * 32) underlying26 sz34 rfl hA6 rfl (by omega) (by omega) (congrArg (· * 32) (Int.toNat_natCast _))) ?_
    refine wz (p_ldA (cs := ((List.map u8v x6) : List Value)) underlying34 rfl (szL sz34 (by first | rfl | (simp only [List.length_append, List.length_map, List.length_cons, List.length_nil, (show List.length x6 = 32 from hx6k)]; done) | (simp only [List.length_append, List.length_map, List.length_cons, List.length_nil, List.size_toArray, (show List.length x6 = 32 from hx6k)]; done))) rfl (fun _ e => e ▸ hr6)) ?_
    have hltg6 := hb6.lt
    have hltg8 := hb8.lt
    refine wle rfl (e_alloc (cs := ((List.replicate 32 (0 : UInt8)).map u8v).toArray) rfl (by rfl) rfl (fun w7 g11 hg11 hb11 hc hsz11 => ?_))
    have hzw7 := hc.size
    have hge11 := HC.geo hg11
    have HC := HC.tr hc
    have hq := hq.no hc
    have hb6 := hb6.no hc
    have hb8 := hb8.no hc
    have neg6_11 : g6 < g11 := by omega
    have neg8_11 : g8 < g11 := by omega
    refine wle rfl (e_stH sz34 ((List.length_replicate ..)) (hx6k) rfl rfl hb11 (fun w8 hb11 hc hsz => ?_))
    have hzw8 := hc.size
    have HC := HC.n hc
    first | have hq := hq.cc hc | have hq := hq.cT hc
    have hb6 := hb6.cc hc
    have hb8 := hb8.cc hc
    refine wl_nil (x_seq (wc_seq (wc_seq (wc_region ?_))))
    iterate 2 refine wmv ?_
    refine wz (p_lt rfl rfl) ?_
    refine wl_nil (x_seq ?_)
    refine wc_if rfl (fun c2 => ?_) (fun c2 => ?_)
    ·
     have c2 := of_decide_eq_true c2
     refine wc_seq ?_
     refine wdr (.st 0 0 (.st 1 0 (.st 2 1 (.st 3 0 (.st 4 0 (.st 5 0 (.st 6 0 (.st 7 0 (.alt (.st 8 2 (.st 9 0 (.st 10 0 (.st 11 0 (.st 12 2 (.st 13 3 (.st 14 0 .nil))))))) (.st 12 2 (.st 8 2 (.st 9 0 (.st 10 0 (.st 11 0 (.st 13 3 (.st 14 0 .nil)))))))))))))))) 13 No (fun w9 hc hszw9 => ?_)
     have hzw9 := hc.size
     have HC := HC.tr hc
     have hq := hq.no hc
     have hb6 := hb6.no hc
     have hb8 := hb8.no hc
     have hb11 := hb11.no hc
     have hS : Ch No w9 w9 := Ch.refl _ _
     refine ws_p rfl rfl rfl rfl (p_mv rfl) ?_
     refine ws_p rfl rfl rfl rfl (p_mv rfl) ?_
     refine ws_h rfl rfl rfl rfl (p_ldA (cs := List.map u8v lf) underlying34 rfl (szL sz34 (by rw [List.length_map]; exact hlf)) rfl (fun _ h => (rngL (hb6.ch h (fun h => h))))) ?_
     refine ws_p rfl rfl rfl rfl (p_mv rfl) ?_
     refine ws_p rfl rfl rfl rfl (p_mv rfl) ?_
     refine ws_p rfl rfl rfl rfl (p_lenS underlying26 rfl) ?_
     refine ws_p rfl rfl rfl rfl (p_sub (Z := ((lq - 1 : Nat) : Int)) rfl rfl (by rw [w64 (by omega)]; omega)) ?_
     have hS45 := hq.cut (lo := 0) (hi := lq - 1) (q := lq - 1) (by omega) (by omega) (by omega)
     rw [List.drop_zero] at hS45
     refine ws_p rfl rfl rfl rfl (p_slS (l := 0) (h := lq - 1) underlying26 sz34 rfl rfl ⟨IntKind.i64, by first | rfl | exact congrArg (fun z => some (Value.int .i64 z)) (by omega)⟩ (by omega) (by have := hq.cap; omega) hq.cap (q := lq - 1) (by omega)) ?_
     refine ws_alt ?_ ?_
     ·
      refine ws_e rfl rfl (e_call ent29 rfl rfl (hrec (spl n) (by omega) (by omega) (i := i) (by omega) (hS45) hlf (by omega)) ?_)
      rintro _ w10 ⟨u46, ok46, rfl, hcl46, hc⟩
      refine ⟨_, rfl, hc, ?_⟩
      have hzw10 := hc.size
      have HC := HC.tr hc
      have hq := hq.no hc
      have hb6 := hb6.no hc
      have hb8 := hb8.no hc
      have hb11 := hb11.no hc
      have hS45 := hS45.no hc
      have hu46 := hcl46.1
      refine ws_nar hc ?_
      refine ws_p rfl rfl rfl rfl (p_mv rfl) ?_
      refine ws_p rfl rfl rfl rfl (p_ext rfl rfl) ?_
      refine ws_p rfl rfl rfl rfl (p_ext rfl rfl) ?_
      have hltg6 := hb6.lt
      have hltg8 := hb8.lt
      have hltg11 := hb11.lt
      refine ws_e rfl rfl (e_alloc (cs := ((List.replicate 32 (0 : UInt8)).map u8v).toArray) rfl (by rfl) rfl (fun w11 g12 hg12 hb12 hc hsz12 => ⟨hc, ?_⟩))
      have hzw11 := hc.size
      have hge12 := HC.geo hg12
      have HC := HC.tr hc
      have hq := hq.no hc
      have hb6 := hb6.no hc
      have hb8 := hb8.no hc
      have hb11 := hb11.no hc
      have hS45 := hS45.no hc
      have neg6_12 : g6 < g12 := by omega
      have neg8_12 : g8 < g12 := by omega
      have neg11_12 : g11 < g12 := by omega
      refine ws_nar hc ?_
      refine ws_l rfl rfl (e_stH sz34 ((List.length_replicate ..)) (hu46) rfl rfl hb12 (fun w12 hb12 hc hsz => ?_))
      have hzw12 := hc.size
      have HC := HC.n hc
      first | have hq := hq.cc hc | have hq := hq.cT hc
      have hb6 := hb6.cc hc
      have hb8 := hb8.cc hc
      have hb11 := hb11.cc hc
      first | have hS45 := hS45.cc hc | have hS45 := hS45.cT hc
      refine ws_p rfl rfl rfl rfl (p_as rfl) ?_
      refine ws_n (x_seq (wc_seq (wc_region ?_)))
      refine wz (p_ldA (cs := List.map u8v u46) underlying34 rfl (szL sz34 (by rw [List.length_map]; exact hu46)) rfl (fun _ e => e ▸ rngL hb12)) ?_
      refine wz (p_ldA (cs := List.map u8v x6) underlying34 rfl (szL sz34 (by rw [List.length_map]; exact hx6k)) rfl (fun _ e => e ▸ rngL hb11)) ?_
      refine wle rfl (e_call ent83 rfl rfl (rtnode_any (hu46) (hx6k)) ?_)
      rintro _ w13 ⟨rfl, hc⟩
      refine ⟨_, rfl, ?_⟩
      have hzw13 := hc.size
      have HC := HC.tr hc
      have hq := hq.no hc
      have hb6 := hb6.no hc
      have hb8 := hb8.no hc
      have hb11 := hb11.no hc
      have hS45 := hS45.no hc
      have hb12 := hb12.no hc
      refine wmv ?_
      refine wle rfl (e_stH sz34 ((List.length_replicate ..)) (nodeH_len _ _) rfl rfl hb8 (fun w14 hb8 hc hsz => ?_))
      have hzw14 := hc.size
      have HC := HC.n hc
      first | have hq := hq.cc hc | have hq := hq.cT hc
      have hb6 := hb6.cc hc
      have hb11 := hb11.cc hc
      first | have hS45 := hS45.cc hc | have hS45 := hS45.cT hc
      have hb12 := hb12.cc hc
      refine was ?_
      refine wl_nil (x_seq (wc_ret (x_then_ret ?_)))
      refine fin_run (resMany (rs := [.cell 8 34, .tmp 9]) rfl (.cellA (cs := List.map u8v (nodeH u46 x6)) rfl underlying34 rfl (szL sz34 (by rw [List.length_map]; exact nodeH_len _ _)) (rngL hb8) (.tmp rfl (.nil))) rfl) ?_
      exact ⟨_, _, rfl, (by rw [ex6]; exact CL.left h2n (by omega) hql (by omega) hcl46), HC⟩
     ·
      have hltg6 := hb6.lt
      have hltg8 := hb8.lt
      have hltg11 := hb11.lt
      refine ws_e rfl rfl (e_alloc (cs := ((List.replicate 32 (0 : UInt8)).map u8v).toArray) rfl (by rfl) rfl (fun w15 g12 hg12 hb12 hc hsz12 => ⟨hc, ?_⟩))
      have hzw15 := hc.size
      have hge12 := HC.geo hg12
      have HC := HC.tr hc
      have hq := hq.no hc
      have hb6 := hb6.no hc
      have hb8 := hb8.no hc
      have hb11 := hb11.no hc
      have hS45 := hS45.no hc
      have neg6_12 : g6 < g12 := by omega
      have neg8_12 : g8 < g12 := by omega
      have neg11_12 : g11 < g12 := by omega
      refine ws_nar hc ?_
      refine ws_e rfl rfl (e_call ent29 rfl rfl (hrec (spl n) (by omega) (by omega) (i := i) (by omega) (hS45) hlf (by omega)) ?_)
      rintro _ w16 ⟨u46, ok46, rfl, hcl46, hc⟩
      refine ⟨_, rfl, hc, ?_⟩
      have hzw16 := hc.size
      have HC := HC.tr hc
      have hq := hq.no hc
      have hb6 := hb6.no hc
      have hb8 := hb8.no hc
      have hb11 := hb11.no hc
      have hS45 := hS45.no hc
      have hb12 := hb12.no hc
      have hu46 := hcl46.1
      refine ws_nar hc ?_
      refine ws_p rfl rfl rfl rfl (p_mv rfl) ?_
      refine ws_p rfl rfl rfl rfl (p_ext rfl rfl) ?_
      refine ws_p rfl rfl rfl rfl (p_ext rfl rfl) ?_
      refine ws_l rfl rfl (e_stH sz34 ((List.length_replicate ..)) (hu46) rfl rfl hb12 (fun w17 hb12 hc hsz => ?_))
      have hzw17 := hc.size
      have HC := HC.n hc
      first | have hq := hq.cc hc | have hq := hq.cT hc
      have hb6 := hb6.cc hc
      have hb8 := hb8.cc hc
      have hb11 := hb11.cc hc
      first | have hS45 := hS45.cc hc | have hS45 := hS45.cT hc
      refine ws_p rfl rfl rfl rfl (p_as rfl) ?_
      refine ws_n (x_seq (wc_seq (wc_region ?_)))
      refine wz (p_ldA (cs := List.map u8v u46) underlying34 rfl (szL sz34 (by rw [List.length_map]; exact hu46)) rfl (fun _ e => e ▸ rngL hb12)) ?_
      refine wz (p_ldA (cs := List.map u8v x6) underlying34 rfl (szL sz34 (by rw [List.length_map]; exact hx6k)) rfl (fun _ e => e ▸ rngL hb11)) ?_
      refine wle rfl (e_call ent83 rfl rfl (rtnode_any (hu46) (hx6k)) ?_)
      rintro _ w18 ⟨rfl, hc⟩
      refine ⟨_, rfl, ?_⟩
      have hzw18 := hc.size
      have HC := HC.tr hc
      have hq := hq.no hc
      have hb6 := hb6.no hc
      have hb8 := hb8.no hc
      have hb11 := hb11.no hc
      have hS45 := hS45.no hc
      have hb12 := hb12.no hc
      refine wmv ?_
      refine wle rfl (e_stH sz34 ((List.length_replicate ..)) (nodeH_len _ _) rfl rfl hb8 (fun w19 hb8 hc hsz => ?_))
      have hzw19 := hc.size
      have HC := HC.n hc
      first | have hq := hq.cc hc | have hq := hq.cT hc
      have hb6 := hb6.cc hc
      have hb11 := hb11.cc hc
      first | have hS45 := hS45.cc hc | have hS45 := hS45.cT hc
      have hb12 := hb12.cc hc
      refine was ?_
      refine wl_nil (x_seq (wc_ret (x_then_ret ?_)))
      refine fin_run (resMany (rs := [.cell 8 34, .tmp 9]) rfl (.cellA (cs := List.map u8v (nodeH u46 x6)) rfl underlying34 rfl (szL sz34 (by rw [List.length_map]; exact nodeH_len _ _)) (rngL hb8) (.tmp rfl (.nil))) rfl) ?_
      exact ⟨_, _, rfl, (by rw [ex6]; exact CL.left h2n (by omega) hql (by omega) hcl46), HC⟩
    ·
     have c2 := of_decide_eq_false c2
     refine wc_skip (x_seq (wc_seq ?_))
     refine wdr (.st 0 0 (.st 1 0 (.st 2 0 (.st 3 0 (.st 4 0 (.st 5 0 (.st 6 1 (.st 7 0 (.st 8 0 (.st 9 0 (.st 10 0 (.st 11 0 (.alt (.st 12 2 (.st 13 0 (.st 14 0 (.st 15 0 (.st 16 2 (.st 17 3 (.st 18 0 .nil))))))) (.st 16 2 (.st 12 2 (.st 13 0 (.st 14 0 (.st 15 0 (.st 17 3 (.st 18 0 .nil)))))))))))))))))))) 17 No (fun w20 hc hszw20 => ?_)
     have hzw20 := hc.size
     have HC := HC.tr hc
     have hq := hq.no hc
     have hb6 := hb6.no hc
     have hb8 := hb8.no hc
     have hb11 := hb11.no hc
     have hS : Ch No w20 w20 := Ch.refl _ _
     refine ws_p rfl rfl rfl rfl (p_mv rfl) ?_
     refine ws_p rfl rfl rfl rfl (p_mv rfl) ?_
     refine ws_p rfl rfl rfl rfl (p_sub (Z := ((n - spl n : Nat) : Int)) rfl rfl (by rw [w64 (by omega)]; omega)) ?_
     refine ws_p rfl rfl rfl rfl (p_mv rfl) ?_
     refine ws_p rfl rfl rfl rfl (p_mv rfl) ?_
     refine ws_p rfl rfl rfl rfl (p_sub (Z := ((i - spl n : Nat) : Int)) rfl rfl (by rw [w64 (by omega)]; omega)) ?_
     refine ws_h rfl rfl rfl rfl (p_ldA (cs := List.map u8v lf) underlying34 rfl (szL sz34 (by rw [List.length_map]; exact hlf)) rfl (fun _ h => (rngL (hb6.ch h (fun h => h))))) ?_
     refine ws_p rfl rfl rfl rfl (p_mv rfl) ?_
     refine ws_p rfl rfl rfl rfl (p_mv rfl) ?_
     refine ws_p rfl rfl rfl rfl (p_lenS underlying26 rfl) ?_
     refine ws_p rfl rfl rfl rfl (p_sub (Z := ((lq - 1 : Nat) : Int)) rfl rfl (by rw [w64 (by omega)]; omega)) ?_
     have hS65 := hq.cut (lo := 0) (hi := lq - 1) (q := lq - 1) (by omega) (by omega) (by omega)
     rw [List.drop_zero] at hS65
     refine ws_p rfl rfl rfl rfl (p_slS (l := 0) (h := lq - 1) underlying26 sz34 rfl rfl ⟨IntKind.i64, by first | rfl | exact congrArg (fun z => some (Value.int .i64 z)) (by omega)⟩ (by omega) (by have := hq.cap; omega) hq.cap (q := lq - 1) (by omega)) ?_
     refine ws_alt ?_ ?_
     ·
      refine ws_e rfl rfl (e_call ent29 rfl rfl (hrec (n - spl n) (by omega) (by omega) (i := i - spl n) (by omega) (hS65) hlf (by omega)) ?_)
      rintro _ w21 ⟨u66, ok66, rfl, hcl66, hc⟩
      refine ⟨_, rfl, hc, ?_⟩
      have hzw21 := hc.size
      have HC := HC.tr hc
      have hq := hq.no hc
      have hb6 := hb6.no hc
      have hb8 := hb8.no hc
      have hb11 := hb11.no hc
      have hS65 := hS65.no hc
      have hu66 := hcl66.1
      refine ws_nar hc ?_
      refine ws_p rfl rfl rfl rfl (p_mv rfl) ?_
      refine ws_p rfl rfl rfl rfl (p_ext rfl rfl) ?_
      refine ws_p rfl rfl rfl rfl (p_ext rfl rfl) ?_
      have hltg6 := hb6.lt
      have hltg8 := hb8.lt
      have hltg11 := hb11.lt
      refine ws_e rfl rfl (e_alloc (cs := ((List.replicate 32 (0 : UInt8)).map u8v).toArray) rfl (by rfl) rfl (fun w22 g14 hg14 hb14 hc hsz14 => ⟨hc, ?_⟩))
      have hzw22 := hc.size
      have hge14 := HC.geo hg14
      have HC := HC.tr hc
      have hq := hq.no hc
      have hb6 := hb6.no hc
      have hb8 := hb8.no hc
      have hb11 := hb11.no hc
      have hS65 := hS65.no hc
      have neg6_14 : g6 < g14 := by omega
      have neg8_14 : g8 < g14 := by omega
      have neg11_14 : g11 < g14 := by omega
      refine ws_nar hc ?_
      refine ws_l rfl rfl (e_stH sz34 ((List.length_replicate ..)) (hu66) rfl rfl hb14 (fun w23 hb14 hc hsz => ?_))
      have hzw23 := hc.size
      have HC := HC.n hc
      first | have hq := hq.cc hc | have hq := hq.cT hc
      have hb6 := hb6.cc hc
      have hb8 := hb8.cc hc
      have hb11 := hb11.cc hc
      first | have hS65 := hS65.cc hc | have hS65 := hS65.cT hc
      refine ws_p rfl rfl rfl rfl (p_as rfl) ?_
      refine ws_n (x_seq (wc_seq (wc_region ?_)))
      refine wz (p_ldA (cs := List.map u8v x6) underlying34 rfl (szL sz34 (by rw [List.length_map]; exact hx6k)) rfl (fun _ e => e ▸ rngL hb11)) ?_
      refine wz (p_ldA (cs := List.map u8v u66) underlying34 rfl (szL sz34 (by rw [List.length_map]; exact hu66)) rfl (fun _ e => e ▸ rngL hb14)) ?_
      refine wle rfl (e_call ent83 rfl rfl (rtnode_any (hx6k) (hu66)) ?_)
      rintro _ w24 ⟨rfl, hc⟩
      refine ⟨_, rfl, ?_⟩
      have hzw24 := hc.size
      have HC := HC.tr hc
      have hq := hq.no hc
      have hb6 := hb6.no hc
      have hb8 := hb8.no hc
      have hb11 := hb11.no hc
      have hS65 := hS65.no hc
      have hb14 := hb14.no hc
      refine wmv ?_
      refine wle rfl (e_stH sz34 ((List.length_replicate ..)) (nodeH_len _ _) rfl rfl hb8 (fun w25 hb8 hc hsz => ?_))
      have hzw25 := hc.size
      have HC := HC.n hc
      first | have hq := hq.cc hc | have hq := hq.cT hc
      have hb6 := hb6.cc hc
      have hb11 := hb11.cc hc
      first | have hS65 := hS65.cc hc | have hS65 := hS65.cT hc
      have hb14 := hb14.cc hc
      refine was ?_
      refine wl_nil (x_seq (wc_ret ?_))
      refine fin_run (resMany (rs := [.cell 8 34, .tmp 9]) rfl (.cellA (cs := List.map u8v (nodeH x6 u66)) rfl underlying34 rfl (szL sz34 (by rw [List.length_map]; exact nodeH_len _ _)) (rngL hb8) (.tmp rfl (.nil))) rfl) ?_
      exact ⟨_, _, rfl, (by rw [ex6]; exact CL.right h2n (by omega) hql (by omega) hcl66), HC⟩
     ·
      have hltg6 := hb6.lt
      have hltg8 := hb8.lt
      have hltg11 := hb11.lt
      refine ws_e rfl rfl (e_alloc (cs := ((List.replicate 32 (0 : UInt8)).map u8v).toArray) rfl (by rfl) rfl (fun w26 g14 hg14 hb14 hc hsz14 => ⟨hc, ?_⟩))
      have hzw26 := hc.size
      have hge14 := HC.geo hg14
      have HC := HC.tr hc
      have hq := hq.no hc
      have hb6 := hb6.no hc
      have hb8 := hb8.no hc
      have hb11 := hb11.no hc
      have hS65 := hS65.no hc
      have neg6_14 : g6 < g14 := by omega
      have neg8_14 : g8 < g14 := by omega
      have neg11_14 : g11 < g14 := by omega
      refine ws_nar hc ?_
      refine ws_e rfl rfl (e_call ent29 rfl rfl (hrec (n - spl n) (by omega) (by omega) (i := i - spl n) (by omega) (hS65) hlf (by omega)) ?_)
      rintro _ w27 ⟨u66, ok66, rfl, hcl66, hc⟩
      refine ⟨_, rfl, hc, ?_⟩
      have hzw27 := hc.size
      have HC := HC.tr hc
      have hq := hq.no hc
      have hb6 := hb6.no hc
      have hb8 := hb8.no hc
      have hb11 := hb11.no hc
      have hS65 := hS65.no hc
      have hb14 := hb14.no hc
      have hu66 := hcl66.1
      refine ws_nar hc ?_
      refine ws_p rfl rfl rfl rfl (p_mv rfl) ?_
      refine ws_p rfl rfl rfl rfl (p_ext rfl rfl) ?_
      refine ws_p rfl rfl rfl rfl (p_ext rfl rfl) ?_
      refine ws_l rfl rfl (e_stH sz34 ((List.length_replicate ..)) (hu66) rfl rfl hb14 (fun w28 hb14 hc hsz => ?_))
      have hzw28 := hc.size
      have HC := HC.n hc
      first | have hq := hq.cc hc | have hq := hq.cT hc
      have hb6 := hb6.cc hc
      have hb8 := hb8.cc hc
      have hb11 := hb11.cc hc
      first | have hS65 := hS65.cc hc | have hS65 := hS65.cT hc
      refine ws_p rfl rfl rfl rfl (p_as rfl) ?_
      refine ws_n (x_seq (wc_seq (wc_region ?_)))
      refine wz (p_ldA (cs := List.map u8v x6) underlying34 rfl (szL sz34 (by rw [List.length_map]; exact hx6k)) rfl (fun _ e => e ▸ rngL hb11)) ?_
      refine wz (p_ldA (cs := List.map u8v u66) underlying34 rfl (szL sz34 (by rw [List.length_map]; exact hu66)) rfl (fun _ e => e ▸ rngL hb14)) ?_
      refine wle rfl (e_call ent83 rfl rfl (rtnode_any (hx6k) (hu66)) ?_)
      rintro _ w29 ⟨rfl, hc⟩
      refine ⟨_, rfl, ?_⟩
      have hzw29 := hc.size
      have HC := HC.tr hc
      have hq := hq.no hc
      have hb6 := hb6.no hc
      have hb8 := hb8.no hc
      have hb11 := hb11.no hc
      have hS65 := hS65.no hc
      have hb14 := hb14.no hc
      refine wmv ?_
      refine wle rfl (e_stH sz34 ((List.length_replicate ..)) (nodeH_len _ _) rfl rfl hb8 (fun w30 hb8 hc hsz => ?_))
      have hzw30 := hc.size
      have HC := HC.n hc
      first | have hq := hq.cc hc | have hq := hq.cT hc
      have hb6 := hb6.cc hc
      have hb11 := hb11.cc hc
      first | have hS65 := hS65.cc hc | have hS65 := hS65.cT hc
      have hb14 := hb14.cc hc
      refine was ?_
      refine wl_nil (x_seq (wc_ret ?_))
      refine fin_run (resMany (rs := [.cell 8 34, .tmp 9]) rfl (.cellA (cs := List.map u8v (nodeH x6 u66)) rfl underlying34 rfl (szL sz34 (by rw [List.length_map]; exact nodeH_len _ _)) (rngL hb8) (.tmp rfl (.nil))) rfl) ?_
      exact ⟨_, _, rfl, (by rw [ex6]; exact CL.right h2n (by omega) hql (by omega) hcl66), HC⟩

theorem rclimb_any : ∀ n, 1 ≤ n → n ≤ 1099511627776 → ClimbOK n := by
  intro n
  induction n using Nat.strongRecOn with
  | _ n ih => exact fun h1 h2 => fun hi hq hl hlq => rclimb_step (fun m h0 hm => ih m hm h0 (by omega)) h1 h2 hi hq hl hlq

theorem rClimb_any {w : World} {n i : Int} {Aq : Option Addr} {lq cq : Nat} {Fq : Nat → Prop} {q : List (List UInt8)} {lf : List UInt8}  (hq : SI w Fq eHs Aq lq cq q) (hlf : lf.length = 32) (hlq : lq ≤ 1000000) :
    Calls Tryz.prog 8 #[i64 n, i64 i, hv lf, .slice Aq lq cq] w fun e w' => ∃ (u : List UInt8) (ok : Bool), e = .returned (.tuple #[hv u, .bool ok]) ∧ u.length = 32 ∧ (ok = true ↔ (1 ≤ n ∧ n ≤ 1099511627776 ∧ 0 ≤ i ∧ i < n ∧ q.length = (trn n.toNat i.toNat).length)) ∧ (ok = true → u = up2 (sd n.toNat i.toNat) q lf) ∧ Ch No w w' := by
  have hql := hq.len
  have hq := hq.old
  have HC : Ch No w w := Ch.refl _ _
  refine enter' (args := [i64 n, i64 i, hv lf, .slice Aq lq cq]) (n := 40) Tryz.func8 rfl rfl rfl ?_
  refine wc_seq (wc_region ?_)
  refine wle rfl (e_box (cs := (List.map u8v lf).toArray) rfl rfl rfl (fun w1 g6 hg6 hb6 hc hsz6 => ?_))
  have hzw1 := hc.size
  have hge6 := HC.geo hg6
  have HC := HC.tr hc
  have hq := hq.no hc
  have hltg6 := hb6.lt
  refine wle rfl (e_alloc (cs := ((List.replicate 32 (0 : UInt8)).map u8v).toArray) rfl (by rfl) rfl (fun w2 g8 hg8 hb8 hc hsz8 => ?_))
  have hzw2 := hc.size
  have hge8 := HC.geo hg8
  have HC := HC.tr hc
  have hq := hq.no hc
  have hb6 := hb6.no hc
  have neg6_8 : g6 < g8 := by omega
  refine was ?_
  refine wl_nil (x_seq (wc_seq (wc_seq (wc_region ?_))))
  refine wmv ?_
  refine wz (p_lt rfl rfl) ?_
  refine wmv ?_
  refine wl_split (d := 14) rfl (fun q14 => ?_) (fun q14 => ?_)
  ·
   have q14 := of_decide_eq_true q14
   iterate 2 refine wl_s gq rfl rfl ?_
   refine wz (p_pickT rfl rfl) ?_
   refine wmv ?_
   iterate 2 refine wl_s gq rfl rfl ?_
   refine wz (p_pickT rfl rfl) ?_
   refine wmv ?_
   iterate 3 refine wl_s gq rfl rfl ?_
   refine wz (p_pickT rfl rfl) ?_
   refine wl_nil (x_seq ?_)
   refine wc_yes rfl (rfl) ?_
   refine wc_seq (wc_region ?_)
   refine wz (p_bldP (cs := ((List.replicate 32 (0 : UInt8)).map u8v).toArray) rfl (fun _ => by kernel_rfl)) ?_
   refine wle rfl (e_stH sz34 ((List.length_replicate ..)) ((List.length_replicate ..)) rfl rfl hb8 (fun w3 hb8 hc hsz => ?_))
   have hzw3 := hc.size
   have HC := HC.n hc
   first | have hq := hq.cc hc | have hq := hq.cT hc
   have hb6 := hb6.cc hc
   refine was ?_
   refine wl_nil (x_seq (wc_ret (x_then_ret ?_)))
   refine fin_run (resMany (rs := [.cell 8 34, .tmp 9]) rfl (.cellA (cs := List.map u8v (List.replicate 32 (0 : UInt8))) rfl underlying34 rfl (szL sz34 (by rw [List.length_map]; exact (List.length_replicate ..))) (rngL hb8) (.tmp rfl (.nil))) rfl) ?_
   exact ⟨_, false, rfl, List.length_replicate .., ⟨fun h => (by cases h), fun h => (by omega)⟩, fun h => (by cases h), HC⟩
  ·
   have q14 := of_decide_eq_false q14
   refine wl_g gq rfl rfl (p_mv rfl) ?_
   refine wl_g gq rfl rfl (p_gt rfl rfl) ?_
   refine wz (p_pickF rfl rfl) ?_
   refine wmv ?_
   refine wl_split (d := 18) rfl (fun q18 => ?_) (fun q18 => ?_)
   ·
    have q18 := of_decide_eq_true q18
    iterate 2 refine wl_s gq rfl rfl ?_
    refine wz (p_pickT rfl rfl) ?_
    refine wmv ?_
    iterate 3 refine wl_s gq rfl rfl ?_
    refine wz (p_pickT rfl rfl) ?_
    refine wl_nil (x_seq ?_)
    refine wc_yes rfl (rfl) ?_
    refine wc_seq (wc_region ?_)
    refine wz (p_bldP (cs := ((List.replicate 32 (0 : UInt8)).map u8v).toArray) rfl (fun _ => by kernel_rfl)) ?_
    refine wle rfl (e_stH sz34 ((List.length_replicate ..)) ((List.length_replicate ..)) rfl rfl hb8 (fun w4 hb8 hc hsz => ?_))
    have hzw4 := hc.size
    have HC := HC.n hc
    first | have hq := hq.cc hc | have hq := hq.cT hc
    have hb6 := hb6.cc hc
    refine was ?_
    refine wl_nil (x_seq (wc_ret (x_then_ret ?_)))
    refine fin_run (resMany (rs := [.cell 8 34, .tmp 9]) rfl (.cellA (cs := List.map u8v (List.replicate 32 (0 : UInt8))) rfl underlying34 rfl (szL sz34 (by rw [List.length_map]; exact (List.length_replicate ..))) (rngL hb8) (.tmp rfl (.nil))) rfl) ?_
    exact ⟨_, false, rfl, List.length_replicate .., ⟨fun h => (by cases h), fun h => (by omega)⟩, fun h => (by cases h), HC⟩
   ·
    have q18 := of_decide_eq_false q18
    refine wl_g gq rfl rfl (p_mv rfl) ?_
    refine wl_g gq rfl rfl (p_lt rfl rfl) ?_
    refine wz (p_pickF rfl rfl) ?_
    refine wmv ?_
    refine wl_split (d := 22) rfl (fun q22 => ?_) (fun q22 => ?_)
    ·
     have q22 := of_decide_eq_true q22
     iterate 3 refine wl_s gq rfl rfl ?_
     refine wz (p_pickT rfl rfl) ?_
     refine wl_nil (x_seq ?_)
     refine wc_yes rfl (rfl) ?_
     refine wc_seq (wc_region ?_)
     refine wz (p_bldP (cs := ((List.replicate 32 (0 : UInt8)).map u8v).toArray) rfl (fun _ => by kernel_rfl)) ?_
     refine wle rfl (e_stH sz34 ((List.length_replicate ..)) ((List.length_replicate ..)) rfl rfl hb8 (fun w5 hb8 hc hsz => ?_))
     have hzw5 := hc.size
     have HC := HC.n hc
     first | have hq := hq.cc hc | have hq := hq.cT hc
     have hb6 := hb6.cc hc
     refine was ?_
     refine wl_nil (x_seq (wc_ret (x_then_ret ?_)))
     refine fin_run (resMany (rs := [.cell 8 34, .tmp 9]) rfl (.cellA (cs := List.map u8v (List.replicate 32 (0 : UInt8))) rfl underlying34 rfl (szL sz34 (by rw [List.length_map]; exact (List.length_replicate ..))) (rngL hb8) (.tmp rfl (.nil))) rfl) ?_
     exact ⟨_, false, rfl, List.length_replicate .., ⟨fun h => (by cases h), fun h => (by omega)⟩, fun h => (by cases h), HC⟩
    ·
     have q22 := of_decide_eq_false q22
     refine wl_g gq rfl rfl (p_mv rfl) ?_
     refine wl_g gq rfl rfl (p_mv rfl) ?_
     refine wl_g gq rfl rfl (p_ge rfl rfl) ?_
     refine wz (p_pickF rfl rfl) ?_
     refine wl_nil (x_seq ?_)
     refine wc_if rfl (fun c0 => ?_) (fun c0 => ?_)
     ·
      have c0 := of_decide_eq_true c0
      refine wc_seq (wc_region ?_)
      refine wz (p_bldP (cs := ((List.replicate 32 (0 : UInt8)).map u8v).toArray) rfl (fun _ => by kernel_rfl)) ?_
      refine wle rfl (e_stH sz34 ((List.length_replicate ..)) ((List.length_replicate ..)) rfl rfl hb8 (fun w6 hb8 hc hsz => ?_))
      have hzw6 := hc.size
      have HC := HC.n hc
      first | have hq := hq.cc hc | have hq := hq.cT hc
      have hb6 := hb6.cc hc
      refine was ?_
      refine wl_nil (x_seq (wc_ret (x_then_ret ?_)))
      refine fin_run (resMany (rs := [.cell 8 34, .tmp 9]) rfl (.cellA (cs := List.map u8v (List.replicate 32 (0 : UInt8))) rfl underlying34 rfl (szL sz34 (by rw [List.length_map]; exact (List.length_replicate ..))) (rngL hb8) (.tmp rfl (.nil))) rfl) ?_
      exact ⟨_, false, rfl, List.length_replicate .., ⟨fun h => (by cases h), fun h => (by omega)⟩, fun h => (by cases h), HC⟩
     ·
      have c0 := of_decide_eq_false c0
      obtain ⟨N, rfl⟩ : ∃ N : Nat, n = (N : Int) := ⟨n.toNat, by omega⟩
      obtain ⟨I, rfl⟩ : ∃ I : Nat, i = (I : Int) := ⟨i.toNat, by omega⟩
      refine wc_skip (x_seq (wc_seq (wc_region ?_)))
      iterate 2 refine wmv ?_
      refine wz (p_ldA (cs := List.map u8v lf) underlying34 rfl (szL sz34 (by rw [List.length_map]; exact hlf)) rfl (fun _ e => e ▸ rngL hb6)) ?_
      refine wmv ?_
      refine wle rfl (e_call ent29 rfl rfl (rclimb_any N (by omega) (by omega) (i := I) (by omega) (hq) hlf (by omega)) ?_)
      rintro _ w7 ⟨u33, ok33, rfl, hcl33, hc⟩
      refine ⟨_, rfl, ?_⟩
      have hzw7 := hc.size
      have HC := HC.tr hc
      have hq := hq.no hc
      have hb6 := hb6.no hc
      have hb8 := hb8.no hc
      have hu33 := hcl33.1
      refine wmv ?_
      refine wz (p_ext rfl rfl) ?_
      refine wz (p_ext rfl rfl) ?_
      have hltg6 := hb6.lt
      have hltg8 := hb8.lt
      refine wle rfl (e_alloc (cs := ((List.replicate 32 (0 : UInt8)).map u8v).toArray) rfl (by rfl) rfl (fun w8 g10 hg10 hb10 hc hsz10 => ?_))
      have hzw8 := hc.size
      have hge10 := HC.geo hg10
      have HC := HC.tr hc
      have hq := hq.no hc
      have hb6 := hb6.no hc
      have hb8 := hb8.no hc
      have neg6_10 : g6 < g10 := by omega
      have neg8_10 : g8 < g10 := by omega
      refine wle rfl (e_stH sz34 ((List.length_replicate ..)) (hu33) rfl rfl hb10 (fun w9 hb10 hc hsz => ?_))
      have hzw9 := hc.size
      have HC := HC.n hc
      first | have hq := hq.cc hc | have hq := hq.cT hc
      have hb6 := hb6.cc hc
      have hb8 := hb8.cc hc
      refine was ?_
      refine wl_nil (x_seq (wc_seq (wc_seq (wc_region ?_))))
      refine wmv ?_
      refine wz (p_not rfl) ?_
      refine wl_nil (x_seq ?_)
      refine wc_if rfl (fun c1 => ?_) (fun c1 => ?_)
      ·
       refine wc_seq (wc_region ?_)
       refine wz (p_bldP (cs := ((List.replicate 32 (0 : UInt8)).map u8v).toArray) rfl (fun _ => by kernel_rfl)) ?_
       refine wle rfl (e_stH sz34 ((List.length_replicate ..)) ((List.length_replicate ..)) rfl rfl hb8 (fun w10 hb8 hc hsz => ?_))
       have hzw10 := hc.size
       have HC := HC.n hc
       first | have hq := hq.cc hc | have hq := hq.cT hc
       have hb6 := hb6.cc hc
       have hb10 := hb10.cc hc
       refine was ?_
       refine wl_nil (x_seq (wc_ret (x_then_ret ?_)))
       refine fin_run (resMany (rs := [.cell 8 34, .tmp 9]) rfl (.cellA (cs := List.map u8v (List.replicate 32 (0 : UInt8))) rfl underlying34 rfl (szL sz34 (by rw [List.length_map]; exact (List.length_replicate ..))) (rngL hb8) (.tmp rfl (.nil))) rfl) ?_
       exact ⟨_, false, rfl, List.length_replicate .., ⟨fun h => (by cases h), fun h => (by have := hcl33.2.1.2 h.2.2.2.2; rw [this] at c1; cases c1)⟩, fun h => (by cases h), HC⟩
      ·
       refine wc_skip (x_seq (wc_seq (wc_region ?_)))
       refine wz (p_ldA (cs := List.map u8v u33) underlying34 rfl (szL sz34 (by rw [List.length_map]; exact hu33)) rfl (fun _ e => e ▸ rngL hb10)) ?_
       refine wle rfl (e_stH sz34 ((List.length_replicate ..)) (hu33) rfl rfl hb8 (fun w11 hb8 hc hsz => ?_))
       have hzw11 := hc.size
       have HC := HC.n hc
       first | have hq := hq.cc hc | have hq := hq.cT hc
       have hb6 := hb6.cc hc
       have hb10 := hb10.cc hc
       refine was ?_
       refine wl_nil (x_seq (wc_ret ?_))
       refine fin_run (resMany (rs := [.cell 8 34, .tmp 9]) rfl (.cellA (cs := List.map u8v u33) rfl underlying34 rfl (szL sz34 (by rw [List.length_map]; exact hu33)) (rngL hb8) (.tmp rfl (.nil))) rfl) ?_
       have ho : ok33 = true := by simpa using c1
       exact ⟨_, true, rfl, hu33, ⟨fun _ => ⟨by omega, by omega, by omega, by omega, hcl33.2.1.1 ho⟩, fun _ => rfl⟩, fun _ => hcl33.2.2 ho, HC⟩

theorem len64_any {w : World} {x : Nat}  (h0 : 0 < x) (h1 : x < 1099511627776) :
    Calls Tryz.prog 217 #[u64v x] w fun e w' => e = .returned (i64 ((Nat.log2 x + 1 : Nat) : Int)) ∧ Ch No w w' := by
  have hll : lenT.length = 256 := by decide +kernel
  have HC : Ch No w w := Ch.refl _ _
  refine enter' (args := [u64v x]) (n := 25) Tryz.func217 rfl rfl rfl ?_
  refine wc_seq (wc_region ?_)
  refine was ?_
  refine wl_nil (x_seq (wc_seq (wc_seq (wc_region ?_))))
  refine wmv ?_
  refine wz (p_ge rfl rfl) ?_
  refine wl_nil (x_seq ?_)
  refine wc_if rfl (fun c0 => ?_) (fun c0 => ?_)
  ·
   have c0 := of_decide_eq_true c0
   refine wc_seq (wc_region ?_)
   refine wmv ?_
   refine wz (p_shrN (Y := 32) rfl rfl rfl) ?_
   refine was ?_
   refine wl_nil (x_seq (wc_region ?_))
   refine was ?_
   refine wl_nil (x_seq (wc_seq (wc_seq (wc_region ?_))))
   refine wmv ?_
   refine wz (p_ge rfl rfl) ?_
   refine wl_nil (x_seq ?_)
   refine wc_no rfl (decide_eq_false (by omega)) ?_
   refine wc_skip (x_seq (wc_seq (wc_seq (wc_region ?_))))
   refine wmv ?_
   refine wz (p_ge rfl rfl) ?_
   refine wl_nil (x_seq ?_)
   refine wc_no rfl (decide_eq_false (by omega)) ?_
   refine wc_skip (x_seq (wc_seq (wc_region ?_)))
   iterate 2 refine wmv ?_
   refine wz (p_convN8 underlying102 underlying5 rfl) ?_
   refine wz (p_ixT (s := str lenT) (b := lenT.getD (UInt8.ofNat (x / 2 ^ 32)).toNat 0) underlying9 (show some (Value.string _) = some (.string (str lenT)) from by kernel_rfl) rfl (by have := (UInt8.ofNat (x / 2 ^ 32)).toNat_lt; omega) (by rw [Int.toNat_natCast, str_data]; exact getDT (by have := (UInt8.ofNat (x / 2 ^ 32)).toNat_lt; omega))) ?_
   refine wz (p_conv underlying5 underlying3 rfl (wB_i64 _)) ?_
   refine wz (p_add rfl rfl (w64 (by have := (lenT.getD (UInt8.ofNat (x / 2 ^ 32)).toNat 0).toNat_lt; omega))) ?_
   refine was ?_
   refine wl_nil (x_seq (wc_ret ?_))
   refine fin_run ((res1 rfl rfl)) ?_
   rw [log2_div (x := x) (s := 32) (by omega)]
   have hL := lenT_is (x := (x / 2 ^ 32)) (by omega) (by omega)
   refine ⟨?_, HC⟩
   congr 2; omega
  ·
   have c0 := of_decide_eq_false c0
   refine wc_skip (x_seq (wc_seq (wc_seq (wc_region ?_))))
   refine wmv ?_
   refine wz (p_ge rfl rfl) ?_
   refine wl_nil (x_seq ?_)
   refine wc_if rfl (fun c1 => ?_) (fun c1 => ?_)
   ·
    have c1 := of_decide_eq_true c1
    refine wc_seq (wc_region ?_)
    refine wmv ?_
    refine wz (p_shrN (Y := 16) rfl rfl rfl) ?_
    refine was ?_
    refine wl_nil (x_seq (wc_region ?_))
    refine wmv ?_
    refine wz (p_add (Z := 16) rfl rfl (by rw [w64 (by omega)]; rfl)) ?_
    refine was ?_
    refine wl_nil (x_seq (wc_seq (wc_seq (wc_region ?_))))
    refine wmv ?_
    refine wz (p_ge rfl rfl) ?_
    refine wl_nil (x_seq ?_)
    refine wc_if rfl (fun c2 => ?_) (fun c2 => ?_)
    ·
     have c2 := of_decide_eq_true c2
     refine wc_seq (wc_region ?_)
     refine wmv ?_
     refine wz (p_shrN (Y := 8) rfl rfl rfl) ?_
     refine was ?_
     refine wl_nil (x_seq (wc_region ?_))
     refine wmv ?_
     refine wz (p_add (Z := 24) rfl rfl (by rw [w64 (by omega)]; rfl)) ?_
     refine was ?_
     refine wl_nil (x_seq (wc_seq (wc_region ?_)))
     iterate 2 refine wmv ?_
     refine wz (p_convN8 underlying102 underlying5 rfl) ?_
     refine wz (p_ixT (s := str lenT) (b := lenT.getD (UInt8.ofNat ((x / 2 ^ 16) / 2 ^ 8)).toNat 0) underlying9 (show some (Value.string _) = some (.string (str lenT)) from by kernel_rfl) rfl (by have := (UInt8.ofNat ((x / 2 ^ 16) / 2 ^ 8)).toNat_lt; omega) (by rw [Int.toNat_natCast, str_data]; exact getDT (by have := (UInt8.ofNat ((x / 2 ^ 16) / 2 ^ 8)).toNat_lt; omega))) ?_
     refine wz (p_conv underlying5 underlying3 rfl (wB_i64 _)) ?_
     refine wz (p_add rfl rfl (w64 (by have := (lenT.getD (UInt8.ofNat ((x / 2 ^ 16) / 2 ^ 8)).toNat 0).toNat_lt; omega))) ?_
     refine was ?_
     refine wl_nil (x_seq (wc_ret ?_))
     refine fin_run ((res1 rfl rfl)) ?_
     rw [log2_div (x := x) (s := 16) (by omega)]
     rw [log2_div (x := (x / 2 ^ 16)) (s := 8) (by omega)]
     have hL := lenT_is (x := ((x / 2 ^ 16) / 2 ^ 8)) (by omega) (by omega)
     refine ⟨?_, HC⟩
     congr 2; omega
    ·
     have c2 := of_decide_eq_false c2
     refine wc_skip (x_seq (wc_seq (wc_region ?_)))
     iterate 2 refine wmv ?_
     refine wz (p_convN8 underlying102 underlying5 rfl) ?_
     refine wz (p_ixT (s := str lenT) (b := lenT.getD (UInt8.ofNat (x / 2 ^ 16)).toNat 0) underlying9 (show some (Value.string _) = some (.string (str lenT)) from by kernel_rfl) rfl (by have := (UInt8.ofNat (x / 2 ^ 16)).toNat_lt; omega) (by rw [Int.toNat_natCast, str_data]; exact getDT (by have := (UInt8.ofNat (x / 2 ^ 16)).toNat_lt; omega))) ?_
     refine wz (p_conv underlying5 underlying3 rfl (wB_i64 _)) ?_
     refine wz (p_add rfl rfl (w64 (by have := (lenT.getD (UInt8.ofNat (x / 2 ^ 16)).toNat 0).toNat_lt; omega))) ?_
     refine was ?_
     refine wl_nil (x_seq (wc_ret ?_))
     refine fin_run ((res1 rfl rfl)) ?_
     rw [log2_div (x := x) (s := 16) (by omega)]
     have hL := lenT_is (x := (x / 2 ^ 16)) (by omega) (by omega)
     refine ⟨?_, HC⟩
     congr 2; omega
   ·
    have c1 := of_decide_eq_false c1
    refine wc_skip (x_seq (wc_seq (wc_seq (wc_region ?_))))
    refine wmv ?_
    refine wz (p_ge rfl rfl) ?_
    refine wl_nil (x_seq ?_)
    refine wc_if rfl (fun c2 => ?_) (fun c2 => ?_)
    ·
     have c2 := of_decide_eq_true c2
     refine wc_seq (wc_region ?_)
     refine wmv ?_
     refine wz (p_shrN (Y := 8) rfl rfl rfl) ?_
     refine was ?_
     refine wl_nil (x_seq (wc_region ?_))
     refine wmv ?_
     refine wz (p_add (Z := 8) rfl rfl (by rw [w64 (by omega)]; rfl)) ?_
     refine was ?_
     refine wl_nil (x_seq (wc_seq (wc_region ?_)))
     iterate 2 refine wmv ?_
     refine wz (p_convN8 underlying102 underlying5 rfl) ?_
     refine wz (p_ixT (s := str lenT) (b := lenT.getD (UInt8.ofNat (x / 2 ^ 8)).toNat 0) underlying9 (show some (Value.string _) = some (.string (str lenT)) from by kernel_rfl) rfl (by have := (UInt8.ofNat (x / 2 ^ 8)).toNat_lt; omega) (by rw [Int.toNat_natCast, str_data]; exact getDT (by have := (UInt8.ofNat (x / 2 ^ 8)).toNat_lt; omega))) ?_
     refine wz (p_conv underlying5 underlying3 rfl (wB_i64 _)) ?_
     refine wz (p_add rfl rfl (w64 (by have := (lenT.getD (UInt8.ofNat (x / 2 ^ 8)).toNat 0).toNat_lt; omega))) ?_
     refine was ?_
     refine wl_nil (x_seq (wc_ret ?_))
     refine fin_run ((res1 rfl rfl)) ?_
     rw [log2_div (x := x) (s := 8) (by omega)]
     have hL := lenT_is (x := (x / 2 ^ 8)) (by omega) (by omega)
     refine ⟨?_, HC⟩
     congr 2; omega
    ·
     have c2 := of_decide_eq_false c2
     refine wc_skip (x_seq (wc_seq (wc_region ?_)))
     iterate 2 refine wmv ?_
     refine wz (p_convN8 underlying102 underlying5 rfl) ?_
     refine wz (p_ixT (s := str lenT) (b := lenT.getD (UInt8.ofNat x).toNat 0) underlying9 (show some (Value.string _) = some (.string (str lenT)) from by kernel_rfl) rfl (by have := (UInt8.ofNat x).toNat_lt; omega) (by rw [Int.toNat_natCast, str_data]; exact getDT (by have := (UInt8.ofNat x).toNat_lt; omega))) ?_
     refine wz (p_conv underlying5 underlying3 rfl (wB_i64 _)) ?_
     refine wz (p_add rfl rfl (w64 (by have := (lenT.getD (UInt8.ofNat x).toNat 0).toNat_lt; omega))) ?_
     refine was ?_
     refine wl_nil (x_seq (wc_ret ?_))
     refine fin_run ((res1 rfl rfl)) ?_
     have hL := lenT_is (x := x) (by omega) (by omega)
     refine ⟨?_, HC⟩
     congr 2; omega

theorem len_any {w : World} {x : Nat}  (h0 : 0 < x) (h1 : x < 1099511627776) :
    Calls Tryz.prog 168 #[u64v x] w fun e w' => e = .returned (i64 ((Nat.log2 x + 1 : Nat) : Int)) ∧ Ch No w w' := by
  have HC : Ch No w w := Ch.refl _ _
  refine enter' (args := [u64v x]) (n := 8) Tryz.func168 rfl rfl rfl ?_
  refine wc_seq (wc_region ?_)
  refine was ?_
  refine wl_nil (x_seq (wc_seq ?_))
  refine wc_no rfl (rfl) ?_
  refine wc_skip (x_seq (wc_seq (wc_region ?_)))
  refine wmv ?_
  refine wle rfl (e_call ent217 rfl rfl (len64_any (by omega) (by omega)) ?_)
  rintro _ w1 ⟨rfl, hc⟩
  refine ⟨_, rfl, ?_⟩
  have hzw1 := hc.size
  have HC := HC.tr hc
  refine was ?_
  refine wl_nil (x_seq (wc_ret ?_))
  refine fin_run ((res1 rfl rfl)) ?_
  exact ⟨rfl, HC⟩

theorem split_any {w : World} {n : Nat}  (h2 : 2 ≤ n) (hm : n ≤ 1099511627776) :
    Calls Tryz.prog 104 #[i64 (n : Int)] w fun e w' => e = .returned (i64 (spl n : Int)) ∧ Ch No w w' := by
  have hlg : Nat.log2 (n - 1) < 40 := (Nat.log2_lt (by omega)).2 (by omega)
  have HC : Ch No w w := Ch.refl _ _
  refine enter' (args := [i64 (n : Int)]) (n := 11) Tryz.func104 rfl rfl rfl ?_
  refine wc_seq (wc_region ?_)
  refine was ?_
  refine wl_nil (x_seq (wc_seq (wc_seq (wc_region ?_))))
  refine wmv ?_
  refine wz (p_lt rfl rfl) ?_
  refine wl_nil (x_seq ?_)
  refine wc_no rfl (decide_eq_false (by omega)) ?_
  refine wc_skip (x_seq (wc_seq (wc_region ?_)))
  refine wmv ?_
  refine wz (p_sub rfl rfl (w64 (by omega))) ?_
  refine wz (p_conv (Z := ((n - 1 : Nat) : Int)) underlying3 underlying85 rfl (by rw [wu64 (by omega)]; omega)) ?_
  refine wle rfl (e_call ent168 rfl rfl (len_any (by omega) (by omega)) ?_)
  rintro _ w1 ⟨rfl, hc⟩
  refine ⟨_, rfl, ?_⟩
  have hzw1 := hc.size
  have HC := HC.tr hc
  refine wz (p_sub (Z := ((Nat.log2 (n - 1) : Nat) : Int)) rfl rfl (by rw [w64 (by omega)]; omega)) ?_
  refine wz (p_shl (Z := (spl n : Int)) rfl rfl (by omega) (by rw [Int.toNat_natCast, show min (Nat.log2 (n - 1)) IntKind.i64.bits = Nat.log2 (n - 1) from Nat.min_eq_left (by show _ ≤ 64; omega), Int.one_mul, show ((2 : Int) ^ Nat.log2 (n - 1)) = ((spl n : Nat) : Int) by unfold spl; push_cast; rfl]; exact w64 (by have := spl_lt h2; omega))) ?_
  refine was ?_
  refine wl_nil (x_seq (wc_ret ?_))
  refine fin_run ((res1 rfl rfl)) ?_
  exact ⟨rfl, HC⟩

theorem rev_any {w : World} {A : Option Addr} {l c : Nat} {F : Nat → Prop} {xs : List Bool}  (hW : Row w F 4 1 (.slice A l c) l (xs.map Value.bool)) (hl : l ≤ 1099511627776) :
    Calls Tryz.prog 156 #[.slice A l c] w fun e w' => e = .returned (.tuple #[]) ∧ Row w' F 4 1 (.slice A l c) l (xs.reverse.map Value.bool) ∧ Ch F w w' := by
  have hxl : xs.length = l := by have := hW.len; simpa using this
  have HC : Ch F w w := Ch.refl _ _
  refine enter' (args := [.slice A l c]) (n := 28) Tryz.func156 rfl rfl rfl ?_
  refine wc_seq (wc_region ?_)
  refine wmv ?_
  refine wz (p_lenS underlying161 rfl) ?_
  refine wz (p_sub rfl rfl (w64 (by omega))) ?_
  iterate 2 refine was ?_
  refine wl_nil (x_seq (wc_block ?_))
  refine wc_loop (e' := [(0, .slice A l c), (2, i64 ((0) : Int)), (3, i64 ((l : Int) - 1 - (0)))]) (fun mz ez uz => ∃ i : Nat, ∃ ys : List Bool, mz = l - i ∧ ez = [(0, .slice A l c), (2, i64 (i : Int)), (3, i64 ((l : Int) - 1 - i))] ∧ (i ≤ l) ∧ (Row uz F 4 1 (.slice A l c) l (ys.map Value.bool)) ∧ (Half i l xs ys) ∧ (Ch F w uz))
   ⟨rfl, rfl, (congrArg some (congrArg i64 (by omega))), trivial⟩ ⟨0, xs, rfl, rfl, by omega, hW, Half.zero hxl, HC⟩ ?_
  rintro m0 e w1 ⟨i, ys, hm0, rfl, hi, hW, hh, HC⟩
  have hzw1 := HC.size
  have hyl : ys.length = l := hh.1
  refine wc_seq (wc_seq (wc_region ?_))
  iterate 2 refine wmv ?_
  refine wz (p_lt rfl rfl) ?_
  refine wl_nil (x_seq ?_)
  refine wc_if rfl (fun c0 => ?_) (fun c0 => ?_)
  ·
   have c0 := of_decide_eq_true c0
   refine wc_skip (x_seq (wc_seq (wc_block ?_)))
   refine wdr (.st 0 0 (.st 1 0 (.st 2 0 (.st 3 0 (.st 4 0 (.st 5 0 (.st 6 0 (.st 7 1 (.st 8 0 (.st 9 0 (.st 10 0 (.st 11 1 (.st 12 0 (.st 13 3 (.st 14 0 (.st 15 3 .nil)))))))))))))))) 13 No (fun w2 hc hszw2 => ?_)
   have hzw2 := hc.size
   have HC := HC.tr hc
   have hW := hW.no hc
   have hS : Ch No w2 w2 := Ch.refl _ _
   refine ws_p rfl rfl rfl rfl (p_mv rfl) ?_
   refine ws_p rfl rfl rfl rfl (p_mv rfl) ?_
   refine ws_p rfl rfl rfl rfl (p_mv rfl) ?_
   refine ws_p rfl rfl rfl rfl ((p_mv rfl).to (show Value.int .i64 _ = Value.int .i64 ((l - 1 - i : Nat) : Int) from by congr 1; omega)) ?_
   refine ws_p rfl rfl rfl rfl (p_mv rfl) ?_
   refine ws_p rfl rfl rfl rfl ((p_mv rfl).to (show Value.int .i64 _ = Value.int .i64 ((l - 1 - i : Nat) : Int) from by congr 1; omega)) ?_
   obtain ⟨b3, o3, hA3, hF3, hc3⟩ := (hW.sl).opn (d := false) (by omega)
   refine ws_p rfl rfl rfl rfl (p_ixS1 underlying161 sz4 rfl hA3 rfl (by omega) (by omega) (Int.toNat_natCast _)) ?_
   refine ws_h rfl rfl rfl rfl (p_ld underlying4 rfl rfl (fun _ h => h.cell (fun h => h) (hc3 _ (by omega)))) ?_
   refine ws_p rfl rfl rfl rfl (p_mv rfl) ?_
   refine ws_p rfl rfl rfl rfl (p_mv rfl) ?_
   obtain ⟨b4, o4, hA4, hF4, hc4⟩ := (hW.sl).opn (d := false) (by omega)
   refine ws_p rfl rfl rfl rfl (p_ixS1 underlying161 sz4 rfl hA4 rfl (by omega) (by omega) (Int.toNat_natCast _)) ?_
   refine ws_h rfl rfl rfl rfl (p_ld underlying4 rfl rfl (fun _ h => h.cell (fun h => h) (hc4 _ (by omega)))) ?_
   obtain ⟨b5, o5, hA5, hF5, hc5⟩ := (hW.sl).opn (d := false) (by omega)
   refine ws_p rfl rfl rfl rfl (p_ixS1 underlying161 sz4 rfl hA5 rfl (by omega) (by omega) (Int.toNat_natCast _)) ?_
   refine ws_l rfl rfl (e_stR one_bool (by rfl) rfl rfl hW hA5 (by omega) (fun w6 hW hc hsz => ?_))
   have hzw6 := hc.size
   have HC := HC.trans hc (fun _ _ h => h) (fun k hk ht => ht)
   obtain ⟨b7, o7, hA7, hF7, hc7⟩ := (hW.sl).opn (d := false) (by omega)
   refine ws_p rfl rfl rfl rfl (p_ixS1 underlying161 sz4 rfl hA7 rfl (by omega) (by omega) (Int.toNat_natCast _)) ?_
   refine ws_l rfl rfl (e_stR one_bool (by rfl) rfl rfl hW hA7 (by omega) (fun w8 hW hc hsz => ?_))
   have hzw8 := hc.size
   have HC := HC.trans hc (fun _ _ h => h) (fun k hk ht => ht)
   refine ws_n (x_in_normal (x_seq (wc_region ?_)))
   refine wmv ?_
   refine wz (p_add rfl rfl (w64 (by omega))) ?_
   refine wmv ?_
   refine wz (p_sub rfl rfl (w64 (by omega))) ?_
   iterate 2 refine was ?_
   refine wl_nil ?_
   refine x_round (e' := [(0, .slice A l c), (2, i64 ((i + 1) : Int)), (3, i64 ((l : Int) - 1 - (i + 1)))]) ⟨rfl, rfl, (congrArg some (congrArg i64 (by omega))), trivial⟩ (by rw [hm0]; omega) ⟨i + 1, _, rfl, rfl, by omega, hW, (Half.step hh (by omega)), HC⟩
  ·
   have c0 := of_decide_eq_false c0
   refine wc_exit (x_then_exit (x_then_exit (x_in_here ?_)))
   refine fin_run_n ((res0 rfl)) ?_
   rw [← hh.done hxl (by omega)]
   exact ⟨rfl, hW, HC⟩

theorem sides_any {w : World} {n i : Nat}  (hn : n ≤ 1099511627776) (hi : i < n) :
    Calls Tryz.prog 87 #[i64 (n : Int), i64 (i : Int)] w fun e w' => ∃ A l c, e = .returned (.slice A l c) ∧ Row w' (fun k => w.heap.size ≤ k) 4 1 (.slice A l c) l ((sd n i).map Value.bool) ∧ Ch No w w' := by
  have HC : Ch No w w := Ch.refl _ _
  refine enter' (args := [i64 (n : Int), i64 (i : Int)]) (n := 30) Tryz.func87 rfl rfl rfl ?_
  refine wc_seq (wc_region ?_)
  refine was ?_
  refine wl_nil (x_seq (wc_seq (wc_region ?_)))
  refine was ?_
  refine wl_nil (x_seq (wc_seq (wc_block ?_)))
  refine wc_loop (e' := [(0, i64 ((n) : Int)), (1, i64 ((i) : Int)), (5, .slice (none) (0) (0))]) (fun mz ez uz => ∃ m : Nat, ∃ j : Nat, ∃ A : Option Addr, ∃ l : Nat, ∃ c : Nat, ∃ ss : List Bool, mz = m ∧ ez = [(0, i64 (m : Int)), (1, i64 (j : Int)), (5, .slice A l c)] ∧ (j < m) ∧ (l + m ≤ n) ∧ (Row uz (fun k => w.heap.size ≤ k) 4 1 (.slice A l c) l (ss.map Value.bool)) ∧ ((trn n i).map (·.2) = ss ++ (trn m j).map (·.2)) ∧ (Ch No w uz))
   ⟨rfl, rfl, rfl, trivial⟩ ⟨n, i, none, 0, 0, [], rfl, rfl, by omega, by omega, Row.nil _ _ _ _, rfl, HC⟩ ?_
  rintro m0 e w1 ⟨m, j, A, l, c, ss, hm0, rfl, hj, hlm, hW, htr, HC⟩
  have hzw1 := HC.size
  refine wc_seq (wc_seq (wc_region ?_))
  refine wmv ?_
  refine wz (p_gt rfl rfl) ?_
  refine wl_nil (x_seq ?_)
  refine wc_if rfl (fun c0 => ?_) (fun c0 => ?_)
  ·
   have c0 := of_decide_eq_true c0
   have h2m : 2 ≤ m := by omega
   have hsl := spl_lt h2m
   have hsp := spl_pos m
   have hsg := spl_ge h2m
   refine wc_skip (x_seq (wc_block (wc_seq (wc_region ?_))))
   refine wmv ?_
   refine wle rfl (e_call ent104 rfl rfl (split_any (by omega) (by omega)) ?_)
   rintro _ w2 ⟨rfl, hc⟩
   refine ⟨_, rfl, ?_⟩
   have hzw2 := hc.size
   have HC := HC.tr hc
   have hW := hW.after hc
   refine was ?_
   refine wl_nil (x_seq (wc_seq (wc_region ?_)))
   iterate 2 refine wmv ?_
   refine wz (p_ge rfl rfl) ?_
   refine was ?_
   refine wl_nil (x_seq (wc_seq (wc_region ?_)))
   iterate 2 refine wmv ?_
   refine wle rfl (e_bslV (E := 4) rfl rfl (fun _ => by kernel_rfl) (fun w3 g17 hg17 hb17 hc hsz17 => ?_))
   have hzw3 := hc.size
   have hge17 := HC.geo hg17
   have HC := HC.tr hc
   have hW := hW.after hc
   have hS17 := Sl.lit1 (f := Value.bool) hb17
   refine wle rfl (e_appS rfl el161 one_bool rfl rfl hW hS17 (by omega) (by intro k hk; first | omega | (dsimp only at *; omega)) (fun w4 A18 c18 hW hc => ?_))
   have hzw4 := hc.size
   have HC := HC.trans hc (fun _ _ h => h) (fun k hk ht => absurd ht (by first | omega | (dsimp only at *; omega)))
   first | have hS17 := hS17.cc hc | have hS17 := hS17.cT hc
   refine was ?_
   refine wl_nil (x_seq (wc_seq (wc_region ?_)))
   refine wmv ?_
   refine wl_nil (x_seq ?_)
   refine wc_if rfl (fun c1 => ?_) (fun c1 => ?_)
   ·
    have c1 := of_decide_eq_true c1
    refine wc_region ?_
    iterate 2 refine wmv ?_
    refine wz (p_sub (Z := ((m - spl m : Nat) : Int)) rfl rfl (by rw [w64 (by omega)]; omega)) ?_
    iterate 2 refine wmv ?_
    refine wz (p_sub (Z := ((j - spl m : Nat) : Int)) rfl rfl (by rw [w64 (by omega)]; omega)) ?_
    iterate 2 refine was ?_
    refine wl_nil (x_in_normal ?_)
    refine x_round (e' := [(0, i64 (((m - spl m : Nat)) : Int)), (1, i64 (((j - spl m : Nat)) : Int)), (5, .slice (_) (_) (_))]) ⟨rfl, rfl, rfl, trivial⟩ (by rw [hm0]; omega) ⟨(m - spl m : Nat), (j - spl m : Nat), _, _, _, _, rfl, rfl, by omega, by omega, hW.mono (fun k _ hk => by first | omega | (dsimp only at *; omega)), (by rw [htr, trn_r h2m (by omega)]; have := c1; simp; omega), HC⟩
   ·
    have c1 := of_decide_eq_false c1
    refine wc_region ?_
    refine wmv ?_
    refine was ?_
    refine wl_nil (x_in_normal ?_)
    refine x_round (e' := [(0, i64 (((spl m)) : Int)), (1, i64 ((j) : Int)), (5, .slice (_) (_) (_))]) ⟨rfl, rfl, rfl, trivial⟩ (by rw [hm0]; omega) ⟨(spl m), j, _, _, _, _, rfl, rfl, by omega, by omega, hW.mono (fun k _ hk => by first | omega | (dsimp only at *; omega)), (by rw [htr, trn_l h2m (by omega)]; have := c1; simp; omega), HC⟩
  ·
   have c0 := of_decide_eq_false c0
   have hle : l ≤ n := by omega
   refine wc_exit (x_then_exit (x_then_exit (x_in_here (x_seq (wc_seq (wc_region ?_))))))
   refine wmv ?_
   refine wle rfl (e_call ent156 rfl rfl (rev_any hW (by omega)) ?_)
   rintro _ w5 ⟨rfl, hW, hc⟩
   refine ⟨_, rfl, ?_⟩
   have hzw5 := hc.size
   have HC := HC.trans hc (fun _ _ h => h) (fun k hk ht => absurd ht (by first | omega | (dsimp only at *; omega)))
   refine wl_nil (x_seq (wc_seq (wc_region ?_)))
   refine wmv ?_
   refine was ?_
   refine wl_nil (x_seq (wc_ret ?_))
   refine fin_run ((res1 rfl rfl)) ?_
   rw [trn_1 (n := m) (by omega), List.map_nil, List.append_nil] at htr
   rw [show sd n i = ss.reverse from by unfold sd; rw [htr]]
   exact ⟨A, l, c, rfl, hW.mono (fun k _ hk => by first | omega | (dsimp only at *; omega)), HC⟩

theorem top_any {w : World} {Aq : Option Addr} {lq cq : Nat} {Fq : Nat → Prop} {q : List (List UInt8)}  (hq : SB w Fq Aq lq cq q) (h0 : 0 < lq) (hlq : lq ≤ 1000000000) (hqb : ∀ x ∈ q, x.length ≤ 1000000000) (hrnd : Sl w (fun k => k = 0) u32v (some ⟨0, 0, none⟩) 64 64 rk) :
    Calls Tryz.prog 88 #[.slice Aq lq cq] w fun e w' => e = .returned (hv (shaF (q.getD (lq - 1) []))) ∧ Ch No w w' := by
  have hql := hq.len
  have hqm := hqb _ (getD_memG (xs := q) (i := lq - 1) (d := []) (by omega))
  have hn0 : 0 < w.heap.size := hrnd.size (by omega) rfl
  have hn1 := hn0
  have hq := hq.old
  have HC : Ch No w w := Ch.refl _ _
  refine enter' (args := [.slice Aq lq cq]) (n := 10) Tryz.func88 rfl rfl rfl ?_
  refine wc_seq (wc_region ?_)
  refine wle rfl (e_alloc (cs := ((List.replicate 32 (0 : UInt8)).map u8v).toArray) rfl (by rfl) rfl (fun w1 g2 hg2 hb2 hc hsz2 => ?_))
  have hzw1 := hc.size
  have hge2 := HC.geo hg2
  have HC := HC.tr hc
  have hq := hq.no hc
  have hrnd := hrnd.no hc
  refine wl_nil (x_seq (wc_seq (wc_region ?_)))
  iterate 2 refine wmv ?_
  refine wz (p_lenS underlying160 rfl) ?_
  refine wz (p_sub (Z := ((lq - 1 : Nat) : Int)) rfl rfl (by rw [w64 (by omega)]; omega)) ?_
  obtain ⟨b2, o2, hA2, hF2, hc2⟩ := hq.opn (by omega)
  obtain ⟨SA7, sl7, sc7, hcc2, hS7⟩ := hc2 (lq - 1) (by omega)
  have hSl7 := hS7.len
  refine wz (p_ixS1 (j := (lq - 1)) underlying160 sz38 rfl hA2 rfl (by omega) (by omega) (Int.toNat_natCast _)) ?_
  refine wz (p_ld underlying38 rfl rfl (ld (hcc2))) ?_
  have hSl7b := hSl7
  refine wle rfl (e_call ent91 rfl rfl (sum_any (hS7) (by omega) hrnd) ?_)
  rintro _ w3 ⟨rfl, hc⟩
  refine ⟨_, rfl, ?_⟩
  have hzw3 := hc.size
  have HC := HC.tr hc
  have hq := hq.no hc
  have hrnd := hrnd.no hc
  have hb2 := hb2.no hc
  have hS7 := hS7.no hc
  refine wle rfl (e_stH sz34 ((List.length_replicate ..)) (shaF_len _) rfl rfl hb2 (fun w4 hb2 hc hsz => ?_))
  have hzw4 := hc.size
  have HC := HC.n hc
  first | have hq := hq.cc hc | have hq := hq.cT hc
  first | have hrnd := hrnd.cc hc | have hrnd := hrnd.cT hc
  first | have hS7 := hS7.cc hc | have hS7 := hS7.cT hc
  refine wl_nil (x_seq (wc_ret ?_))
  refine fin_run (resC (cs := List.map u8v (shaF _)) rfl rfl underlying34 rfl (szL sz34 (by rw [List.length_map]; exact shaF_len _)) (rngL hb2)) ?_
  exact ⟨rfl, HC⟩

theorem turns_any {w : World} {n i : Nat}  (hn : n ≤ 1099511627776) (hi : i < n) :
    Calls Tryz.prog 144 #[i64 (n : Int), i64 (i : Int)] w fun e w' => ∃ A l c, e = .returned (.slice A l c) ∧ RI w' (fun k => w.heap.size ≤ k) 236 eTU A l c (trn n i) ∧ Ch No w w' := by
  have HC : Ch No w w := Ch.refl _ _
  refine enter' (args := [i64 (n : Int), i64 (i : Int)]) (n := 32) Tryz.func144 rfl rfl rfl ?_
  refine wc_seq (wc_region ?_)
  refine was ?_
  refine wl_nil (x_seq (wc_seq (wc_region ?_)))
  refine was ?_
  refine wl_nil (x_seq (wc_seq (wc_block ?_)))
  refine wc_loop (e' := [(0, i64 ((n) : Int)), (1, i64 ((i) : Int)), (5, .slice (none) (0) (0))]) (fun mz ez uz => ∃ m : Nat, ∃ j : Nat, ∃ A : Option Addr, ∃ l : Nat, ∃ c : Nat, ∃ ts : List (Nat × Bool), mz = m ∧ ez = [(0, i64 (m : Int)), (1, i64 (j : Int)), (5, .slice A l c)] ∧ (j < m) ∧ (l + m ≤ n) ∧ (trn n i = ts ++ trn m j) ∧ (RI uz (fun k => w.heap.size ≤ k) 236 eTU A l c ts) ∧ (Ch No w uz))
   ⟨rfl, rfl, rfl, trivial⟩ ⟨n, i, none, 0, 0, [], rfl, rfl, by omega, by omega, rfl, RI.nil _ _ _ _, HC⟩ ?_
  rintro m0 e w1 ⟨m, j, A, l, c, ts, hm0, rfl, hj, hlm, htr, hW, HC⟩
  have hzw1 := HC.size
  refine wc_seq (wc_seq (wc_region ?_))
  refine wmv ?_
  refine wz (p_gt rfl rfl) ?_
  refine wl_nil (x_seq ?_)
  refine wc_if rfl (fun c0 => ?_) (fun c0 => ?_)
  ·
   have c0 := of_decide_eq_true c0
   have h2m : 2 ≤ m := by omega
   have hsl := spl_lt h2m
   have hsp := spl_pos m
   have hsg := spl_ge h2m
   refine wc_skip (x_seq (wc_block (wc_seq (wc_region ?_))))
   refine wmv ?_
   refine wle rfl (e_call ent104 rfl rfl (split_any (by omega) (by omega)) ?_)
   rintro _ w2 ⟨rfl, hc⟩
   refine ⟨_, rfl, ?_⟩
   have hzw2 := hc.size
   have HC := HC.tr hc
   have hW := hW.after hc
   refine was ?_
   refine wl_nil (x_seq (wc_seq (wc_region ?_)))
   iterate 2 refine wmv ?_
   refine wz (p_lt rfl rfl) ?_
   refine wl_nil (x_seq ?_)
   refine wc_if rfl (fun c1 => ?_) (fun c1 => ?_)
   ·
    have c1 := of_decide_eq_true c1
    refine wc_seq (wc_region ?_)
    iterate 2 refine wmv ?_
    refine wz (p_bldX (vs' := [i64 (m : Int), .bool false]) (cs := ([i64 (m : Int), .bool false] : List Value)) (cs' := ([i64 (m : Int), .bool false] : List Value)) rfl rfl rfl (fun _ => by kernel_rfl)) ?_
    refine wle rfl (e_bslX (E := 236) (cs := ([i64 (m : Int), .bool false] : List Value)) (cs' := ([i64 (m : Int), .bool false] : List Value)) rfl rfl rfl (fun _ => by kernel_rfl) (fun w3 g17 hg17 hb17 hc hsz17 => ?_))
    have hzw3 := hc.size
    have hge17 := HC.geo hg17
    have HC := HC.tr hc
    have hW := hW.after hc
    have hS17 := SI.oneA (E := eTU) (x := (m, false)) hb17 rfl trivial
    refine wle rfl (e_appI rfl el233 rfl rfl hW (hS17) (by omega) (by intro k hk; first | omega | (dsimp only at *; omega)) (fun w4 A18 c18 hW hc => ?_))
    have hzw4 := hc.size
    have HC := HC.trans hc (fun _ _ h => h) (fun k hk ht => absurd ht (by first | omega | (dsimp only at *; omega)))
    first | have hS17 := hS17.cc hc | have hS17 := hS17.cT hc
    refine was ?_
    refine wl_nil (x_seq (wc_region ?_))
    refine wmv ?_
    refine was ?_
    refine wl_nil (x_in_normal ?_)
    refine x_round (e' := [(0, i64 (((spl m)) : Int)), (1, i64 ((j) : Int)), (5, .slice (_) (_) (_))]) ⟨rfl, rfl, rfl, trivial⟩ (by rw [hm0]; omega) ⟨(spl m), j, _, _, _, (ts ++ [(m, false)]), rfl, rfl, by omega, by omega, (by rw [htr, trn_l h2m (by omega), List.append_assoc]; rfl), hW.mono (fun k _ hk => by first | omega | (dsimp only at *; omega)), HC⟩
   ·
    have c1 := of_decide_eq_false c1
    refine wc_seq (wc_region ?_)
    iterate 2 refine wmv ?_
    refine wz (p_bldX (vs' := [i64 (m : Int), .bool true]) (cs := ([i64 (m : Int), .bool true] : List Value)) (cs' := ([i64 (m : Int), .bool true] : List Value)) rfl rfl rfl (fun _ => by kernel_rfl)) ?_
    refine wle rfl (e_bslX (E := 236) (cs := ([i64 (m : Int), .bool true] : List Value)) (cs' := ([i64 (m : Int), .bool true] : List Value)) rfl rfl rfl (fun _ => by kernel_rfl) (fun w5 g23 hg23 hb23 hc hsz23 => ?_))
    have hzw5 := hc.size
    have hge23 := HC.geo hg23
    have HC := HC.tr hc
    have hW := hW.after hc
    have hS23 := SI.oneA (E := eTU) (x := (m, true)) hb23 rfl trivial
    refine wle rfl (e_appI rfl el233 rfl rfl hW (hS23) (by omega) (by intro k hk; first | omega | (dsimp only at *; omega)) (fun w6 A24 c24 hW hc => ?_))
    have hzw6 := hc.size
    have HC := HC.trans hc (fun _ _ h => h) (fun k hk ht => absurd ht (by first | omega | (dsimp only at *; omega)))
    first | have hS23 := hS23.cc hc | have hS23 := hS23.cT hc
    refine was ?_
    refine wl_nil (x_seq (wc_region ?_))
    iterate 2 refine wmv ?_
    refine wz (p_sub (Z := ((m - spl m : Nat) : Int)) rfl rfl (by rw [w64 (by omega)]; omega)) ?_
    iterate 2 refine wmv ?_
    refine wz (p_sub (Z := ((j - spl m : Nat) : Int)) rfl rfl (by rw [w64 (by omega)]; omega)) ?_
    iterate 2 refine was ?_
    refine wl_nil (x_in_normal ?_)
    refine x_round (e' := [(0, i64 (((m - spl m : Nat)) : Int)), (1, i64 (((j - spl m : Nat)) : Int)), (5, .slice (_) (_) (_))]) ⟨rfl, rfl, rfl, trivial⟩ (by rw [hm0]; omega) ⟨(m - spl m : Nat), (j - spl m : Nat), _, _, _, (ts ++ [(m, true)]), rfl, rfl, by omega, by omega, (by rw [htr, trn_r h2m (by omega), List.append_assoc]; rfl), hW.mono (fun k _ hk => by first | omega | (dsimp only at *; omega)), HC⟩
  ·
   have c0 := of_decide_eq_false c0
   refine wc_exit (x_then_exit (x_then_exit (x_in_here (x_seq (wc_seq (wc_region ?_))))))
   refine wmv ?_
   refine was ?_
   refine wl_nil (x_seq (wc_ret ?_))
   refine fin_run ((res1 rfl rfl)) ?_
   rw [trn_1 (n := m) (by omega), List.append_nil] at htr
   rw [htr]
   exact ⟨A, l, c, rfl, hW.mono (fun k _ hk => by first | omega | (dsimp only at *; omega)), HC⟩

theorem ups_any {w : World} {m yl gB : Nat} {J Jx : List Nat → World → Prop} {As : Option Addr} {ls cs : Nat} {Fs : Nat → Prop} {st : List (Nat × Bool)}  (hX : ∀ xs A, J xs A → Blk A gB 233 #[.slice As ls cs] ∧ SI A Fs eTU As ls cs st) (hls : ls ≤ 1099511627776) (hJ : ∀ xs A B, J xs A → Ch No A B → J xs B) (hJx : ∀ xs A B, Jx xs A → Ch No A B → Jx xs B) (hY : ∀ pre x Wq, (fun (pre : List Nat) (i : Nat) => pre.length = i ∧ i < ls) pre x → J pre Wq → YieldAt Fence.wide m Tryz.prog yl ((fun i : Nat => #[i64 (i : Int), .agg (eTU.f (st.getD (ls - 1 - i) (0, false))).toArray]) x) Wq fun ed W' => (ed = .returned (.bool true) ∧ J (pre ++ [x]) W') ∨ (ed = .returned (.bool false) ∧ Jx (pre ++ [x]) W')) (hJ0 : J [] w) :
    Calls Tryz.prog 213 #[.func (.yield yl) #[] #[], .pointer (some ⟨gB, 0, none⟩)] w fun e w' => e = .returned (.tuple #[]) ∧ ((∃ xs, xs.length = ls ∧ J xs w') ∨ ∃ xs, True ∧ Jx xs w') := by
  have hJp := hJ0
  obtain ⟨hBn, hst⟩ := hX _ _ hJ0
  have HC : Ch No w w := Ch.refl _ _
  refine enter' (args := [.func (.yield yl) #[] #[], .pointer (some ⟨gB, 0, none⟩)]) (n := 22) Tryz.func213 rfl rfl rfl ?_
  refine wc_seq (wc_region ?_)
  refine wz (p_ld underlying233 rfl rfl (ld (hBn.cell rfl))) ?_
  refine wz (p_lenS underlying233 rfl) ?_
  refine wmv ?_
  refine wl_nil (x_seq (wc_block ?_))
  refine wc_loop (e' := [(0, .func (.yield yl) #[] #[]), (1, .pointer (some ⟨gB, 0, none⟩)), (5, i64 (ls : Int)), (6, i64 ((0) : Int))]) (fun mz ez uz => ∃ j : Nat, ∃ pre : List Nat, mz = ls - j ∧ ez = [(0, .func (.yield yl) #[] #[]), (1, .pointer (some ⟨gB, 0, none⟩)), (5, i64 (ls : Int)), (6, i64 (j : Int))] ∧ (pre.length = j ∧ j ≤ ls) ∧ (J pre uz))
   ⟨rfl, rfl, rfl, rfl, trivial⟩ ⟨0, [], rfl, rfl, ⟨rfl, by omega⟩, hJp⟩ ?_
  rintro m0 e w1 ⟨j, pre, hm0, rfl, hj, hJp⟩
  obtain ⟨hBn, hst⟩ := hX _ _ hJp
  have hstl := hst.len
  refine wc_seq (wc_region ?_)
  refine wz (p_lt rfl rfl) ?_
  refine wl_nil (x_seq (wc_seq ?_))
  refine wc_if rfl (fun c0 => ?_) (fun c0 => ?_)
  ·
   have c0 := of_decide_eq_true c0
   refine wc_skip (x_seq (wc_seq (wc_block (wc_seq (wc_region ?_)))))
   refine wmv ?_
   refine was ?_
   refine wl_nil (x_seq (wc_seq ?_))
   refine wc_regionI (m + 1) ?_
   refine wli rfl rfl rfl (p_mv rfl) ?_
   refine wli rfl rfl rfl (p_mv rfl) ?_
   refine wli rfl rfl rfl (p_ld underlying233 rfl rfl (ld (hBn.cell rfl))) ?_
   refine wli rfl rfl rfl (p_ld underlying233 rfl rfl (ld (hBn.cell rfl))) ?_
   refine wli rfl rfl rfl (p_lenS underlying233 rfl) ?_
   refine wli rfl rfl rfl (p_sub rfl rfl (w64 (by omega))) ?_
   refine wli rfl rfl rfl (p_mv rfl) ?_
   refine wli rfl rfl rfl (p_sub (Z := ((ls - 1 - j : Nat) : Int)) rfl rfl (by rw [w64 (by omega)]; omega)) ?_
   obtain ⟨b2, o2, hA2, hF2, hr2⟩ := (hst).opn (i := (ls - 1 - j)) (d := (0, false)) (by omega)
   have hok2 := (hst).okAt (i := (ls - 1 - j)) (d := (0, false)) (by omega)
   obtain ⟨x2, ex2⟩ : ∃ x_, x_ = List.getD st ((ls - 1 - j)) (0, false) := ⟨_, rfl⟩
   rw [← ex2] at hr2 hok2
   have hr2 : w1.rangeAt b2 (o2 + ((ls - 1 - j)) * 2) ([i64 (x2.1 : Int), .bool x2.2] : List Value) := hr2
   refine wli rfl rfl rfl (p_ixS (j := ((ls - 1 - j)) * 2) underlying233 sz236 rfl hA2 rfl (by omega) (by omega) (congrArg (· * 2) (Int.toNat_natCast _))) ?_
   refine wli rfl rfl rfl (p_ldA (cs := ([i64 (x2.1 : Int), .bool x2.2] : List Value)) underlying236 rfl (szL sz236 rfl) rfl (fun _ e => e ▸ hr2)) ?_
   subst ex2
   have hD : pre.length = j ∧ j < ls := ⟨by omega, by omega⟩
   refine wli_yield (fun _ _ => rfl) rfl rfl rfl (hY pre j w1 hD hJp) (by repeat (first | exact no_body (fun _ h => by cases h.1) | with_reducible apply no_then | with_reducible apply no_in)) ?_
   rintro _ w3 (⟨rfl, hJp⟩ | ⟨rfl, hJq⟩)
   ·
    refine ⟨_, rfl, ?_⟩
    obtain ⟨hBn, hst⟩ := hX _ _ hJp
    refine wli rfl rfl rfl (p_not rfl) ?_
    refine wli_nil (x_seq ?_)
    refine wc_no rfl (rfl) ?_
    refine wc_skip (x_in_normal (x_seq (wc_region ?_)))
    refine wz (p_add rfl rfl (w64 (by omega))) ?_
    refine wmv ?_
    refine wl_nil ?_
    refine x_round (e' := [(0, .func (.yield yl) #[] #[]), (1, .pointer (some ⟨gB, 0, none⟩)), (5, i64 (ls : Int)), (6, i64 ((j + 1) : Int))]) ⟨rfl, rfl, rfl, rfl, trivial⟩ (by rw [hm0]; omega) ⟨j + 1, (pre ++ [j]), rfl, rfl, ⟨by simp; omega, by omega⟩, hJp⟩
   ·
    refine ⟨_, rfl, ?_⟩
    refine wli rfl rfl rfl (p_not rfl) ?_
    refine wli_nil (x_seq ?_)
    refine wc_yes rfl (rfl) ?_
    refine wc_ret (x_in_ret (x_then_ret (x_then_ret (x_in_ret ?_))))
    refine fin_run ((res0 rfl)) ?_
    exact ⟨rfl, .inr ⟨_, trivial, hJq⟩⟩
  ·
   have c0 := of_decide_eq_false c0
   refine wc_exit (x_then_exit (x_then_exit (x_in_here ?_)))
   refine fin_run_n ((res0 rfl)) ?_
   exact ⟨rfl, .inl ⟨pre, by omega, hJp⟩⟩

theorem up_any {w : World} {As : Option Addr} {ls cs : Nat}   :
    Calls Tryz.prog 154 #[.slice As ls cs] w fun e w' => ∃ g, e = .returned (.func (.func 213) #[] #[.pointer (some ⟨g, 0, none⟩)]) ∧ w.heap.size ≤ g ∧ Blk w' g 233 #[.slice As ls cs] ∧ Ch No w w' := by
  have HC : Ch No w w := Ch.refl _ _
  refine enter' (args := [.slice As ls cs]) (n := 4) Tryz.func154 rfl rfl rfl ?_
  refine wc_seq (wc_region ?_)
  refine wle rfl (e_box (cs := #[_]) rfl rfl rfl (fun w1 g1 hg1 hb1 hc hsz1 => ?_))
  have hzw1 := hc.size
  have hge1 := HC.geo hg1
  have HC := HC.tr hc
  refine was ?_
  refine wl_nil (x_seq (wc_seq (wc_region ?_)))
  refine wz (p_mkf rfl) ?_
  refine was ?_
  refine wl_nil (x_seq (wc_ret ?_))
  refine fin_run ((res1 rfl rfl)) ?_
  exact ⟨g1, rfl, hge1, hb1, HC⟩

theorem pclimb_any {w : World} {n i : Int} {Aq : Option Addr} {lq cq : Nat} {Fq : Nat → Prop} {q : List (List UInt8)} {lf : List UInt8}  (hq : SI w Fq eHs Aq lq cq q) (hlf : lf.length = 32) (hlq : lq ≤ 1000000) (hrnd : Sl w (fun k => k = 0) u32v (some ⟨0, 0, none⟩) 64 64 rk) :
    Calls Tryz.prog 85 #[i64 n, i64 i, hv lf, .slice Aq lq cq] w fun e w' => ∃ (u : List UInt8) (ok : Bool), e = .returned (.tuple #[hv u, .bool ok]) ∧ u.length = 32 ∧ (ok = true ↔ (1 ≤ n ∧ n ≤ 1099511627776 ∧ 0 ≤ i ∧ i < n ∧ q.length = (trn n.toNat i.toNat).length)) ∧ Ch No w w' := by
  have hql := hq.len
  have hn0 : 0 < w.heap.size := hrnd.size (by omega) rfl
  have hn1 := hn0
  have hq := hq.old
  have HC : Ch No w w := Ch.refl _ _
  refine enterM (args := [i64 n, i64 i, hv lf, .slice Aq lq cq]) (n := 59) Tryz.func85 rfl rfl rfl ?_
  refine wc_seq (wc_region ?_)
  refine wle rfl (e_box (cs := (List.map u8v lf).toArray) rfl rfl rfl (fun w1 g6 hg6 hb6 hc hsz6 => ?_))
  have hzw1 := hc.size
  have hge6 := HC.geo hg6
  have HC := HC.tr hc
  have hq := hq.no hc
  have hrnd := hrnd.no hc
  have hltg6 := hb6.lt
  refine wle rfl (e_box (cs := #[_]) rfl rfl rfl (fun w2 g7 hg7 hb7 hc hsz7 => ?_))
  have hzw2 := hc.size
  have hge7 := HC.geo hg7
  have HC := HC.tr hc
  have hq := hq.no hc
  have hrnd := hrnd.no hc
  have hb6 := hb6.no hc
  have neg6_7 : g6 < g7 := by omega
  have hltg6 := hb6.lt
  have hltg7 := hb7.lt
  refine wle rfl (e_alloc (cs := ((List.replicate 32 (0 : UInt8)).map u8v).toArray) rfl (by rfl) rfl (fun w3 g8 hg8 hb8 hc hsz8 => ?_))
  have hzw3 := hc.size
  have hge8 := HC.geo hg8
  have HC := HC.tr hc
  have hq := hq.no hc
  have hrnd := hrnd.no hc
  have hb6 := hb6.no hc
  have hb7 := hb7.no hc
  have neg6_8 : g6 < g8 := by omega
  have neg7_8 : g7 < g8 := by omega
  refine was ?_
  refine wl_nil (x_seq (wc_seq (wc_seq (wc_region ?_))))
  refine wmv ?_
  refine wz (p_lt rfl rfl) ?_
  refine wmv ?_
  refine wl_split (d := 16) rfl (fun q16 => ?_) (fun q16 => ?_)
  ·
   have q16 := of_decide_eq_true q16
   iterate 2 refine wl_s gq rfl rfl ?_
   refine wz (p_pickT rfl rfl) ?_
   refine wmv ?_
   iterate 2 refine wl_s gq rfl rfl ?_
   refine wz (p_pickT rfl rfl) ?_
   refine wmv ?_
   iterate 3 refine wl_s gq rfl rfl ?_
   refine wz (p_pickT rfl rfl) ?_
   refine wl_nil (x_seq ?_)
   refine wc_yes rfl (rfl) ?_
   refine wc_seq (wc_region ?_)
   refine wz (p_bldP (cs := ((List.replicate 32 (0 : UInt8)).map u8v).toArray) rfl (fun _ => by kernel_rfl)) ?_
   refine wle rfl (e_stH sz34 ((List.length_replicate ..)) ((List.length_replicate ..)) rfl rfl hb8 (fun w4 hb8 hc hsz => ?_))
   have hzw4 := hc.size
   have HC := HC.n hc
   first | have hq := hq.cc hc | have hq := hq.cT hc
   first | have hrnd := hrnd.cc hc | have hrnd := hrnd.cT hc
   have hb6 := hb6.cc hc
   have hb7 := hb7.cc hc
   refine was ?_
   refine wl_nil (x_seq (wc_ret (x_then_ret ?_)))
   refine fin_runM0 (resMany (rs := [.cell 8 34, .tmp 9]) rfl (.cellA (cs := List.map u8v (List.replicate 32 (0 : UInt8))) rfl underlying34 rfl (szL sz34 (by rw [List.length_map]; exact (List.length_replicate ..))) (rngL hb8) (.tmp rfl (.nil))) rfl) ?_
   exact ⟨_, false, rfl, List.length_replicate .., ⟨fun h => (by cases h), fun h => (by omega)⟩, HC⟩
  ·
   have q16 := of_decide_eq_false q16
   refine wl_g gq rfl rfl (p_mv rfl) ?_
   refine wl_g gq rfl rfl (p_gt rfl rfl) ?_
   refine wz (p_pickF rfl rfl) ?_
   refine wmv ?_
   refine wl_split (d := 20) rfl (fun q20 => ?_) (fun q20 => ?_)
   ·
    have q20 := of_decide_eq_true q20
    iterate 2 refine wl_s gq rfl rfl ?_
    refine wz (p_pickT rfl rfl) ?_
    refine wmv ?_
    iterate 3 refine wl_s gq rfl rfl ?_
    refine wz (p_pickT rfl rfl) ?_
    refine wl_nil (x_seq ?_)
    refine wc_yes rfl (rfl) ?_
    refine wc_seq (wc_region ?_)
    refine wz (p_bldP (cs := ((List.replicate 32 (0 : UInt8)).map u8v).toArray) rfl (fun _ => by kernel_rfl)) ?_
    refine wle rfl (e_stH sz34 ((List.length_replicate ..)) ((List.length_replicate ..)) rfl rfl hb8 (fun w5 hb8 hc hsz => ?_))
    have hzw5 := hc.size
    have HC := HC.n hc
    first | have hq := hq.cc hc | have hq := hq.cT hc
    first | have hrnd := hrnd.cc hc | have hrnd := hrnd.cT hc
    have hb6 := hb6.cc hc
    have hb7 := hb7.cc hc
    refine was ?_
    refine wl_nil (x_seq (wc_ret (x_then_ret ?_)))
    refine fin_runM0 (resMany (rs := [.cell 8 34, .tmp 9]) rfl (.cellA (cs := List.map u8v (List.replicate 32 (0 : UInt8))) rfl underlying34 rfl (szL sz34 (by rw [List.length_map]; exact (List.length_replicate ..))) (rngL hb8) (.tmp rfl (.nil))) rfl) ?_
    exact ⟨_, false, rfl, List.length_replicate .., ⟨fun h => (by cases h), fun h => (by omega)⟩, HC⟩
   ·
    have q20 := of_decide_eq_false q20
    refine wl_g gq rfl rfl (p_mv rfl) ?_
    refine wl_g gq rfl rfl (p_lt rfl rfl) ?_
    refine wz (p_pickF rfl rfl) ?_
    refine wmv ?_
    refine wl_split (d := 24) rfl (fun q24 => ?_) (fun q24 => ?_)
    ·
     have q24 := of_decide_eq_true q24
     iterate 3 refine wl_s gq rfl rfl ?_
     refine wz (p_pickT rfl rfl) ?_
     refine wl_nil (x_seq ?_)
     refine wc_yes rfl (rfl) ?_
     refine wc_seq (wc_region ?_)
     refine wz (p_bldP (cs := ((List.replicate 32 (0 : UInt8)).map u8v).toArray) rfl (fun _ => by kernel_rfl)) ?_
     refine wle rfl (e_stH sz34 ((List.length_replicate ..)) ((List.length_replicate ..)) rfl rfl hb8 (fun w6 hb8 hc hsz => ?_))
     have hzw6 := hc.size
     have HC := HC.n hc
     first | have hq := hq.cc hc | have hq := hq.cT hc
     first | have hrnd := hrnd.cc hc | have hrnd := hrnd.cT hc
     have hb6 := hb6.cc hc
     have hb7 := hb7.cc hc
     refine was ?_
     refine wl_nil (x_seq (wc_ret (x_then_ret ?_)))
     refine fin_runM0 (resMany (rs := [.cell 8 34, .tmp 9]) rfl (.cellA (cs := List.map u8v (List.replicate 32 (0 : UInt8))) rfl underlying34 rfl (szL sz34 (by rw [List.length_map]; exact (List.length_replicate ..))) (rngL hb8) (.tmp rfl (.nil))) rfl) ?_
     exact ⟨_, false, rfl, List.length_replicate .., ⟨fun h => (by cases h), fun h => (by omega)⟩, HC⟩
    ·
     have q24 := of_decide_eq_false q24
     refine wl_g gq rfl rfl (p_mv rfl) ?_
     refine wl_g gq rfl rfl (p_mv rfl) ?_
     refine wl_g gq rfl rfl (p_ge rfl rfl) ?_
     refine wz (p_pickF rfl rfl) ?_
     refine wl_nil (x_seq ?_)
     refine wc_if rfl (fun c0 => ?_) (fun c0 => ?_)
     ·
      have c0 := of_decide_eq_true c0
      refine wc_seq (wc_region ?_)
      refine wz (p_bldP (cs := ((List.replicate 32 (0 : UInt8)).map u8v).toArray) rfl (fun _ => by kernel_rfl)) ?_
      refine wle rfl (e_stH sz34 ((List.length_replicate ..)) ((List.length_replicate ..)) rfl rfl hb8 (fun w7 hb8 hc hsz => ?_))
      have hzw7 := hc.size
      have HC := HC.n hc
      first | have hq := hq.cc hc | have hq := hq.cT hc
      first | have hrnd := hrnd.cc hc | have hrnd := hrnd.cT hc
      have hb6 := hb6.cc hc
      have hb7 := hb7.cc hc
      refine was ?_
      refine wl_nil (x_seq (wc_ret (x_then_ret ?_)))
      refine fin_runM0 (resMany (rs := [.cell 8 34, .tmp 9]) rfl (.cellA (cs := List.map u8v (List.replicate 32 (0 : UInt8))) rfl underlying34 rfl (szL sz34 (by rw [List.length_map]; exact (List.length_replicate ..))) (rngL hb8) (.tmp rfl (.nil))) rfl) ?_
      exact ⟨_, false, rfl, List.length_replicate .., ⟨fun h => (by cases h), fun h => (by omega)⟩, HC⟩
     ·
      have c0 := of_decide_eq_false c0
      obtain ⟨N, rfl⟩ : ∃ N : Nat, n = (N : Int) := ⟨n.toNat, by omega⟩
      obtain ⟨I, rfl⟩ : ∃ I : Nat, i = (I : Int) := ⟨i.toNat, by omega⟩
      refine wc_skip (x_seq (wc_seq (wc_region ?_)))
      iterate 2 refine wmv ?_
      refine wle rfl (e_call ent144 rfl rfl (turns_any (n := N) (i := I) (by omega) (by omega)) ?_)
      rintro _ w8 ⟨A32, l32, c32, rfl, hW32, hc⟩
      refine ⟨_, rfl, ?_⟩
      have hzw8 := hc.size
      have HC := HC.tr hc
      have hq := hq.no hc
      have hrnd := hrnd.no hc
      have hb6 := hb6.no hc
      have hb7 := hb7.no hc
      have hb8 := hb8.no hc
      have hWl32 := hW32.len
      refine was ?_
      refine wl_nil (x_seq (wc_seq (wc_seq (wc_region ?_))))
      refine wmv ?_
      refine wz (p_lenS underlying233 rfl) ?_
      refine wz (pldb underlying26 hb7) ?_
      refine wz (p_lenS underlying26 rfl) ?_
      refine wz (p_ne rfl rfl) ?_
      refine wl_nil (x_seq ?_)
      refine wc_if rfl (fun c1 => ?_) (fun c1 => ?_)
      ·
       have c1 := of_decide_eq_true c1
       refine wc_seq (wc_region ?_)
       refine wz (p_bldP (cs := ((List.replicate 32 (0 : UInt8)).map u8v).toArray) rfl (fun _ => by kernel_rfl)) ?_
       refine wle rfl (e_stH sz34 ((List.length_replicate ..)) ((List.length_replicate ..)) rfl rfl hb8 (fun w9 hb8 hc hsz => ?_))
       have hzw9 := hc.size
       have HC := HC.n hc
       first | have hq := hq.cc hc | have hq := hq.cT hc
       first | have hrnd := hrnd.cc hc | have hrnd := hrnd.cT hc
       have hb6 := hb6.cc hc
       have hb7 := hb7.cc hc
       have hW32 := hW32.ch hc (by intro k hz hk ht; first | omega | (dsimp only at *; omega))
       refine was ?_
       refine wl_nil (x_seq (wc_ret (x_then_ret ?_)))
       refine fin_runM0 (resMany (rs := [.cell 8 34, .tmp 9]) rfl (.cellA (cs := List.map u8v (List.replicate 32 (0 : UInt8))) rfl underlying34 rfl (szL sz34 (by rw [List.length_map]; exact (List.length_replicate ..))) (rngL hb8) (.tmp rfl (.nil))) rfl) ?_
       exact ⟨_, false, rfl, List.length_replicate .., ⟨fun h => (by cases h), fun h => (by have h5 : q.length = (trn N I).length := h.2.2.2.2; omega)⟩, HC⟩
      ·
       have c1 := of_decide_eq_false c1
       obtain ⟨n8, hn8⟩ : ∃ x, x = w8.heap.size := ⟨_, rfl⟩
       have hSw : SI w8 (fun k => k < n8 ∧ k ≠ g8) eTU A32 l32 c32 (trn N I) := hW32.si.mono (fun k hk h2 => by first | omega | (dsimp only at *; omega))
       refine wc_skip (x_seq (wc_seq (wc_region ?_)))
       refine wz (p_ldA (cs := List.map u8v lf) underlying34 rfl (szL sz34 (by rw [List.length_map]; exact hlf)) rfl (fun _ e => e ▸ rngL hb6)) ?_
       have hltg6 := hb6.lt
       have hltg7 := hb7.lt
       have hltg8 := hb8.lt
       refine wle rfl (e_alloc (cs := ((List.replicate 32 (0 : UInt8)).map u8v).toArray) rfl (by rfl) rfl (fun w10 g11 hg11 hb11 hc hsz11 => ?_))
       have hzw10 := hc.size
       have hge11 := HC.geo hg11
       have HC := HC.tr hc
       have hq := hq.no hc
       have hrnd := hrnd.no hc
       have hb6 := hb6.no hc
       have hb7 := hb7.no hc
       have hb8 := hb8.no hc
       have hSw := hSw.no hc
       have neg6_11 : g6 < g11 := by omega
       have neg7_11 : g7 < g11 := by omega
       have neg8_11 : g8 < g11 := by omega
       refine wle rfl (e_stH sz34 ((List.length_replicate ..)) (hlf) rfl rfl hb11 (fun w11 hb11 hc hsz => ?_))
       have hzw11 := hc.size
       have HC := HC.n hc
       first | have hq := hq.cc hc | have hq := hq.cT hc
       first | have hrnd := hrnd.cc hc | have hrnd := hrnd.cT hc
       have hb6 := hb6.cc hc
       have hb7 := hb7.cc hc
       have hb8 := hb8.cc hc
       first | have hSw := hSw.cc hc | have hSw := hSw.cT hc
       refine wl_nil (x_seq (wc_seq (wc_seq (wc_region ?_))))
       refine wmv ?_
       refine wle rfl (e_call ent154 rfl rfl (up_any) ?_)
       rintro _ w12 ⟨g41, rfl, hgB41, hBn, hc⟩
       refine ⟨_, rfl, ?_⟩
       have hzw12 := hc.size
       have HC := HC.tr hc
       have hq := hq.no hc
       have hrnd := hrnd.no hc
       have hb6 := hb6.no hc
       have hb7 := hb7.no hc
       have hb8 := hb8.no hc
       have hSw := hSw.no hc
       have hb11 := hb11.no hc
       refine wl_nil (x_seq (wc_block ?_))
       have hltg6 := hb6.lt
       have hltg7 := hb7.lt
       have hltg8 := hb8.lt
       have hltg11 := hb11.lt
       have hltg41 := hBn.lt
       have hz0 := HC.size
       refine wc_rangeS (m := 0) rfl (enters_of Tryz.func213 (by kernel_rfl) rfl) (fun i : Nat => #[i64 (i : Int), .agg (eTU.f ((trn N I).getD (l32 - 1 - i) (0, false))).toArray]) (fun _ => rfl) (fun (pre : List Nat) (i : Nat) => pre.length = i ∧ i < l32) (fun xs => xs.length = l32) (fun _ => True) (fun W => Blk W g41 233 #[.slice A32 l32 c32] ∧ SI W (fun k => k < n8 ∧ k ≠ g8) eTU A32 l32 c32 (trn N I)) ?hseq (fun xs W => ∃ h : List UInt8, (h.length = 32) ∧ (Blk W g7 26 #[.slice Aq lq cq]) ∧ (Blk W g8 34 (List.map u8v (List.replicate 32 (0 : UInt8))).toArray) ∧ (Blk W g11 34 (List.map u8v h).toArray) ∧ (Blk W g41 233 #[.slice A32 l32 c32]) ∧ (SI W (fun k => k < n8 ∧ k ≠ g8) eTU A32 l32 c32 (trn N I)) ∧ (SI W (fun k => k < w.heap.size) eHs Aq lq cq q) ∧ (Sl W (fun k => k = 0) u32v (some ⟨0, 0, none⟩) 64 64 rk) ∧ (Ch No w W)) (fun _ _ _ => False) ?hI ?hIx ?hIl ?hIxl ?hXI ?h0 ?hround ?hdone ?hstop
       case hseq =>
        intro l J Jx W hcW hsW hJ hJx hXJ hY hJ0
        exact (ups_any (fun xs A h => hXJ xs A h) (by omega) hJ hJx hY hJ0).mono (fun e w' h => ⟨⟨_, h.1⟩, h.2⟩)
       case hI =>
        rintro xs A B ⟨h, hh, hb7, hb8, hb11, hBn, hSw, hq, hrnd, HC⟩ hc
        have hzB := hc.size
        have HC := HC.tr hc
        have hb7 := hb7.no hc
        have hb8 := hb8.no hc
        have hb11 := hb11.no hc
        have hBn := hBn.ch hc (fun h => h)
        have hSw := hSw.no hc
        have hq := hq.no hc
        have hrnd := hrnd.no hc
        exact ⟨h, hh, hb7, hb8, hb11, hBn, hSw, hq, hrnd, HC⟩
       case hIx =>
        exact fun _ _ _ _ h _ => h
       case hIl =>
        rintro xs A B ⟨h, hh, hb7, hb8, hb11, hBn, hSw, hq, hrnd, HC⟩ hc
        have hzB := hc.size
        have HC := HC.n hc
        have hb7 := hb7.cc hc
        have hb8 := hb8.cc hc
        have hb11 := hb11.cc hc
        have hBn := hBn.ch hc (by omega)
        first | have hSw := hSw.cc hc | have hSw := hSw.cT hc
        first | have hq := hq.cc hc | have hq := hq.cT hc
        first | have hrnd := hrnd.cc hc | have hrnd := hrnd.cT hc
        exact ⟨h, hh, hb7, hb8, hb11, hBn, hSw, hq, hrnd, HC⟩
       case hIxl =>
        exact fun _ _ _ _ h _ => h
       case hXI =>
        rintro xs W ⟨h, hh, hb7, hb8, hb11, hBn, hSw, hq, hrnd, HC⟩
        exact ⟨hBn, hSw⟩
       case h0 =>
        intro W hc hs
        have hzW := hc.size
        have HC := HC.tr hc
        have hb6 := hb6.no hc
        have hb7 := hb7.no hc
        have hb8 := hb8.no hc
        have hb11 := hb11.no hc
        have hBn := hBn.ch hc (fun h => h)
        have hSw := hSw.no hc
        have hq := hq.no hc
        have hrnd := hrnd.no hc
        exact ⟨_, hlf, hb7, hb8, hb11, hBn, hSw, hq, hrnd, HC⟩
       case hround =>
        intro l pre x W hl hD hsz hI a F
        subst hl
        obtain ⟨h, hh, hb7, hb8, hb11, hBn, hSw, hq, hrnd, HC⟩ := hI
        have hzW := HC.size
        obtain ⟨hDl, hDx⟩ : pre.length = x ∧ x < l32 := hD
        obtain ⟨y, hy⟩ : ∃ y, y = (trn N I).getD (l32 - 1 - x) (0, false) := ⟨_, rfl⟩
        rw [← hy]
        refine (?_ : WCi _ _ _ _ _ _ _ _) _ (F.hand2 rfl rfl)
        have hB : Ch (fun k => k ≠ w12.heap.size + 1 ∧ k ≠ w12.heap.size) W W := Ch.refl _ _
        refine wci_seq (wci_region ?_)
        refine wli rfl rfl rfl (p_as rfl) ?_
        refine wli_nil (xi_seq (wci_region ?_))
        have hltg7 := hb7.lt
        have hltg8 := hb8.lt
        have hltg11 := hb11.lt
        have hltg41 := hBn.lt
        refine wlie rfl (by repeat (first | with_reducible exact no_stop | with_reducible exact no_false | with_reducible apply no_then | with_reducible apply no_in)) (e_alloc (cs := ([Value.int .i64 0, Value.bool false] : List Value).toArray) rfl (by rfl) rfl (fun w13 g13 hg13 hb13 hc hsz13 => ?_))
        have hzw13 := hc.size
        have hge13 := HC.geo hg13
        have HC := HC.tr hc
        have hB := hB.tr hc
        have hb7 := hb7.no hc
        have hb8 := hb8.no hc
        have hb11 := hb11.no hc
        have hBn := hBn.ch hc (fun h => h)
        have hSw := hSw.no hc
        have hq := hq.no hc
        have hrnd := hrnd.no hc
        have neg7_13 : g7 < g13 := by omega
        have neg8_13 : g8 < g13 := by omega
        have neg11_13 : g11 < g13 := by omega
        have neg41_13 : g41 < g13 := by omega
        refine wlie rfl (by repeat (first | with_reducible exact no_stop | with_reducible exact no_false | with_reducible apply no_then | with_reducible apply no_in)) (e_stW (vs := ([i64 (y.1 : Int), .bool y.2] : List Value)) (szL sz236 rfl) (allOne rfl) rfl rfl hb13 rfl (fun w14 hb13 hc hsz => ?_))
        have hzw14 := hc.size
        have HC := HC.n hc
        have hB := hB.trans hc (fun _ _ h => h) (fun k hk ht => by first | omega | (dsimp only at *; omega))
        have hb7 := hb7.cc hc
        have hb8 := hb8.cc hc
        have hb11 := hb11.cc hc
        have hBn := hBn.ch hc (by omega)
        first | have hSw := hSw.cc hc | have hSw := hSw.cT hc
        first | have hq := hq.cc hc | have hq := hq.cT hc
        first | have hrnd := hrnd.cc hc | have hrnd := hrnd.cT hc
        refine wli_nil ?_
        refine xi_asg hB (fun W2 hc hsW => ?_)
        have hzW2 := hc.size
        have HC := HC.n hc
        have hb7 := hb7.cc hc
        have hb8 := hb8.cc hc
        have hb11 := hb11.cc hc
        have hBn := hBn.ch hc (by omega)
        first | have hSw := hSw.cc hc | have hSw := hSw.cT hc
        first | have hq := hq.cc hc | have hq := hq.cT hc
        first | have hrnd := hrnd.cc hc | have hrnd := hrnd.cT hc
        have hb13 := hb13.cc hc
        have hB : Ch (fun k => k ≠ w12.heap.size + 1 ∧ k ≠ w12.heap.size) W2 W2 := Ch.refl _ _
        refine wci_block (wci_seq (wci_region ?_))
        refine wli rfl rfl rfl (pfl 1 underlying236) ?_
        refine wli rfl rfl rfl (pldb underlying4 hb13) ?_
        refine wli_nil (xi_seq ?_)
        refine wci_if rfl (fun c2 => ?_) (fun c2 => ?_)
        ·
         refine wdri (.st 0 1 (.st 1 0 (.st 2 0 (.st 3 1 (.st 4 1 (.st 5 2 (.st 6 3 .nil))))))) No (fun w15 hc hszw15 => ?_)
         have hzw15 := hc.size
         have HC := HC.tr hc
         have hB := hB.tr hc
         have hb7 := hb7.no hc
         have hb8 := hb8.no hc
         have hb11 := hb11.no hc
         have hBn := hBn.ch hc (fun h => h)
         have hSw := hSw.no hc
         have hq := hq.no hc
         have hrnd := hrnd.no hc
         have hb13 := hb13.no hc
         have hS : Ch No w15 w15 := Ch.refl _ _
         refine ws_h rfl rfl rfl rfl (p_ld underlying26 rfl rfl (fun _ h => h.cell (fun h => h) (hb7.cell rfl))) ?_
         refine ws_p rfl rfl rfl rfl (p_mv rfl) ?_
         obtain ⟨b16, o16, hA16, hF16, hr16⟩ := (hq).opn (i := x) (d := zH) (by omega)
         have hok16 := (hq).okAt (i := x) (d := zH) (by omega)
         obtain ⟨x16, ex16⟩ : ∃ x_, x_ = List.getD q (x) zH := ⟨_, rfl⟩
         rw [← ex16] at hr16 hok16
         have hx16k : List.length x16 = 32 := hok16
         have hr16 : w15.rangeAt b16 (o16 + x * 32) ((List.map u8v x16) : List Value) := hr16
         refine ws_p rfl rfl rfl rfl (p_ixS (j := x * 32) underlying26 sz34 rfl hA16 rfl (by omega) (by omega) (congrArg (· * 32) (Int.toNat_natCast _))) ?_
         refine ws_h rfl rfl rfl rfl (p_ldA (cs := ((List.map u8v x16) : List Value)) underlying34 rfl (szL sz34 (by first | rfl | (simp only [List.length_append, List.length_map, List.length_cons, List.length_nil, (show List.length x16 = 32 from hx16k)]; done) | (simp only [List.length_append, List.length_map, List.length_cons, List.length_nil, List.size_toArray, (show List.length x16 = 32 from hx16k)]; done))) rfl (fun _ h => rng_no hr16 h)) ?_
         refine ws_h rfl rfl rfl rfl (p_ldA (cs := List.map u8v h) underlying34 rfl (szL sz34 (by rw [List.length_map]; exact hh)) rfl (fun _ h => (rngL (hb11.ch h (fun h => h))))) ?_
         refine ws_e rfl rfl (e_call ent155 rfl rfl (tnode_any (hx16k) (hh) hrnd) ?_)
         rintro _ w17 ⟨rfl, hc⟩
         refine ⟨_, rfl, hc, ?_⟩
         have hzw17 := hc.size
         have HC := HC.tr hc
         have hB := hB.tr hc
         have hb7 := hb7.no hc
         have hb8 := hb8.no hc
         have hb11 := hb11.no hc
         have hBn := hBn.ch hc (fun h => h)
         have hSw := hSw.no hc
         have hq := hq.no hc
         have hrnd := hrnd.no hc
         have hb13 := hb13.no hc
         refine ws_nar hc ?_
         refine ws_l rfl rfl (e_stH sz34 (hh) (nodeH_len _ _) rfl rfl hb11 (fun w18 hb11 hc hsz => ?_))
         have hzw18 := hc.size
         have HC := HC.n hc
         have hB := hB.trans hc (fun _ _ h => h) (fun k hk ht => by first | omega | (dsimp only at *; omega))
         have hb7 := hb7.cc hc
         have hb8 := hb8.cc hc
         have hBn := hBn.ch hc (by omega)
         first | have hSw := hSw.cc hc | have hSw := hSw.cT hc
         first | have hq := hq.cc hc | have hq := hq.cT hc
         first | have hrnd := hrnd.cc hc | have hrnd := hrnd.cT hc
         have hb13 := hb13.cc hc
         refine ws_ni (x_in_normal ?_)
         exact wq_stop ⟨_, (nodeH_len _ _), hb7, hb8, hb11, hBn, hSw, hq, hrnd, HC⟩ hB
        ·
         refine wdri (.st 0 1 (.st 1 1 (.st 2 0 (.st 3 0 (.st 4 1 (.st 5 2 (.st 6 3 .nil))))))) No (fun w19 hc hszw19 => ?_)
         have hzw19 := hc.size
         have HC := HC.tr hc
         have hB := hB.tr hc
         have hb7 := hb7.no hc
         have hb8 := hb8.no hc
         have hb11 := hb11.no hc
         have hBn := hBn.ch hc (fun h => h)
         have hSw := hSw.no hc
         have hq := hq.no hc
         have hrnd := hrnd.no hc
         have hb13 := hb13.no hc
         have hS : Ch No w19 w19 := Ch.refl _ _
         refine ws_h rfl rfl rfl rfl (p_ldA (cs := List.map u8v h) underlying34 rfl (szL sz34 (by rw [List.length_map]; exact hh)) rfl (fun _ h => (rngL (hb11.ch h (fun h => h))))) ?_
         refine ws_h rfl rfl rfl rfl (p_ld underlying26 rfl rfl (fun _ h => h.cell (fun h => h) (hb7.cell rfl))) ?_
         refine ws_p rfl rfl rfl rfl (p_mv rfl) ?_
         obtain ⟨b20, o20, hA20, hF20, hr20⟩ := (hq).opn (i := x) (d := zH) (by omega)
         have hok20 := (hq).okAt (i := x) (d := zH) (by omega)
         obtain ⟨x20, ex20⟩ : ∃ x_, x_ = List.getD q (x) zH := ⟨_, rfl⟩
         rw [← ex20] at hr20 hok20
         have hx20k : List.length x20 = 32 := hok20
         have hr20 : w19.rangeAt b20 (o20 + x * 32) ((List.map u8v x20) : List Value) := hr20
         refine ws_p rfl rfl rfl rfl (p_ixS (j := x * 32) underlying26 sz34 rfl hA20 rfl (by omega) (by omega) (congrArg (· * 32) (Int.toNat_natCast _))) ?_
         refine ws_h rfl rfl rfl rfl (p_ldA (cs := ((List.map u8v x20) : List Value)) underlying34 rfl (szL sz34 (by first | rfl | (simp only [List.length_append, List.length_map, List.length_cons, List.length_nil, (show List.length x20 = 32 from hx20k)]; done) | (simp only [List.length_append, List.length_map, List.length_cons, List.length_nil, List.size_toArray, (show List.length x20 = 32 from hx20k)]; done))) rfl (fun _ h => rng_no hr20 h)) ?_
         refine ws_e rfl rfl (e_call ent155 rfl rfl (tnode_any (hh) (hx20k) hrnd) ?_)
         rintro _ w21 ⟨rfl, hc⟩
         refine ⟨_, rfl, hc, ?_⟩
         have hzw21 := hc.size
         have HC := HC.tr hc
         have hB := hB.tr hc
         have hb7 := hb7.no hc
         have hb8 := hb8.no hc
         have hb11 := hb11.no hc
         have hBn := hBn.ch hc (fun h => h)
         have hSw := hSw.no hc
         have hq := hq.no hc
         have hrnd := hrnd.no hc
         have hb13 := hb13.no hc
         refine ws_nar hc ?_
         refine ws_l rfl rfl (e_stH sz34 (hh) (nodeH_len _ _) rfl rfl hb11 (fun w22 hb11 hc hsz => ?_))
         have hzw22 := hc.size
         have HC := HC.n hc
         have hB := hB.trans hc (fun _ _ h => h) (fun k hk ht => by first | omega | (dsimp only at *; omega))
         have hb7 := hb7.cc hc
         have hb8 := hb8.cc hc
         have hBn := hBn.ch hc (by omega)
         first | have hSw := hSw.cc hc | have hSw := hSw.cT hc
         first | have hq := hq.cc hc | have hq := hq.cT hc
         first | have hrnd := hrnd.cc hc | have hrnd := hrnd.cT hc
         have hb13 := hb13.cc hc
         refine ws_ni (x_in_normal ?_)
         exact wq_stop ⟨_, (nodeH_len _ _), hb7, hb8, hb11, hBn, hSw, hq, hrnd, HC⟩ hB
       case hdone =>
        rintro xs W a' hS ⟨h, hh, hb7, hb8, hb11, hBn, hSw, hq, hrnd, HC⟩ hK F'
        refine wqd_ap ?_ F'
        have hzW := HC.size
        refine xd_in_normal (xd_seq (wcd_seq (wcd_region ?_)))
        refine wld rfl rfl rfl (p_ldA (cs := List.map u8v h) underlying34 rfl (szL sz34 (by rw [List.length_map]; exact hh)) rfl (fun _ e => e ▸ rngL hb11)) ?_
        refine wlde rfl (e_stH sz34 ((List.length_replicate ..)) (hh) rfl rfl hb8 (fun w23 hb8 hc hsz => ?_))
        have hzw23 := hc.size
        have HC := HC.n hc
        have hb7 := hb7.cc hc
        have hb11 := hb11.cc hc
        have hBn := hBn.ch hc (by omega)
        first | have hSw := hSw.cc hc | have hSw := hSw.cT hc
        first | have hq := hq.cc hc | have hq := hq.cT hc
        first | have hrnd := hrnd.cc hc | have hrnd := hrnd.cT hc
        have hK := hc.heap hK (by first | exact fun h => h | omega | (dsimp only; omega))
        refine wld rfl rfl rfl (p_as rfl) ?_
        refine wld_nil (xd_seq (wcd_ret ?_))
        refine fin_runM hK (fun w24 hc hsz => ?_)
        have hzw24 := hc.size
        have HC := HC.n hc
        have hb7 := hb7.cc hc
        have hb8 := hb8.cc hc
        have hb11 := hb11.cc hc
        have hBn := hBn.ch hc (by omega)
        first | have hSw := hSw.cc hc | have hSw := hSw.cT hc
        first | have hq := hq.cc hc | have hq := hq.cT hc
        first | have hrnd := hrnd.cc hc | have hrnd := hrnd.cT hc
        refine ⟨_, resMany (rs := [.cell 8 34, .tmp 9]) rfl (.cellA (cs := List.map u8v h) rfl underlying34 rfl (szL sz34 (by rw [List.length_map]; exact hh)) (rngL hb8) (.tmp rfl (.nil))) rfl, ?_⟩
        exact ⟨_, true, rfl, hh, ⟨fun _ => ⟨by omega, by omega, by omega, by omega, (show q.length = (trn N I).length by omega)⟩, fun _ => rfl⟩, HC⟩
       case hstop =>
        exact fun _ _ _ _ _ h => h.elim

theorem getD_last {ws : List (List UInt8)} {x : List UInt8} {l : Nat} (h : (ws ++ [x]).length = l) : (ws ++ [x]).getD (l - 1) [] = x := by
  have hw : ws.length = l - 1 := by rw [List.length_append] at h; simp at h; omega
  simp [List.getD, List.getElem?_append_right (show ws.length ≤ l - 1 by omega), hw]

theorem top_last {w : World} {A : Option Addr} {l c : Nat} {F : Nat → Prop} {ws : List (List UInt8)} {x : List UInt8} (hq : SB w F A l c (ws ++ [x])) (hl : l ≤ 1000000000) (hb : ∀ y ∈ ws ++ [x], y.length ≤ 1000000000) (hrnd : Sl w (fun k => k = 0) u32v (some ⟨0, 0, none⟩) 64 64 rk) : Calls Tryz.prog 88 #[.slice A l c] w fun e w' => e = .returned (hv (shaF x)) ∧ Ch No w w' := by
  have hql := hq.len
  have h := top_any hq (by rw [List.length_append] at hql; simp at hql; omega) hl hb hrnd
  rwa [getD_last hql] at h

theorem ups_way {w : World} {n i : Int} {Ab : Option Addr} {lb cb : Nat} {Fb : Nat → Prop} {b : List UInt8} {Aq : Option Addr} {lq cq : Nat} {Fq : Nat → Prop} {q : List (List UInt8)}  (hb : Sl w Fb u8v Ab lb cb b) (hlb : lb ≤ 100000000) (hq : SI w Fq eHs Aq lq cq q) (hlq : lq ≤ 1000) (hrnd : Sl w (fun k => k = 0) u32v (some ⟨0, 0, none⟩) 64 64 rk) :
    Calls Tryz.prog 32 #[i64 n, i64 i, .slice Ab lb cb, .slice Aq lq cq] w fun e w' => ∃ (A : Option Addr) (l c : Nat) (ok : Bool), e = .returned (.tuple #[.slice A l c, .bool ok]) ∧ (ok = true ↔ (1 ≤ n ∧ n ≤ 1099511627776 ∧ 0 ≤ i ∧ i < n ∧ q.length = (trn n.toNat i.toNat).length)) ∧ (ok = true → SB w' (fun k => k < w'.heap.size) A l c (wayUp (sd n.toNat i.toNat) q (0 :: b)) ∧ l ≤ 1000000 ∧ ∀ y ∈ wayUp (sd n.toNat i.toNat) q (0 :: b), y.length ≤ 1000000000) ∧ Ch No w w' := by
  have hql := hq.len
  have hbl := hb.len
  have hn0 : 0 < w.heap.size := hrnd.size (by omega) rfl
  have hn1 := hn0
  have hb := hb.old
  have hq := hq.old
  have HC : Ch No w w := Ch.refl _ _
  refine enter' (args := [i64 n, i64 i, .slice Ab lb cb, .slice Aq lq cq]) (n := 66) Tryz.func32 rfl rfl rfl ?_
  refine wc_seq (wc_region ?_)
  iterate 2 refine was ?_
  refine wl_nil (x_seq (wc_seq (wc_seq (wc_region ?_))))
  iterate 2 refine wmv ?_
  refine wz (p_bldP (cs := ((List.replicate 32 (0 : UInt8)).map u8v).toArray) rfl (fun _ => by kernel_rfl)) ?_
  refine wmv ?_
  refine wle rfl (e_call ent85 rfl rfl (pclimb_any (hq) ((List.length_replicate ..)) (by omega) hrnd) ?_)
  rintro _ w1 ⟨u22, ok22, rfl, hu22, hok22, hc⟩
  refine ⟨_, rfl, ?_⟩
  have hzw1 := hc.size
  have HC := HC.tr hc
  have hb := hb.no hc
  have hq := hq.no hc
  have hrnd := hrnd.no hc
  refine wmv ?_
  refine wz (p_ext rfl rfl) ?_
  refine wz (p_ext rfl rfl) ?_
  refine wle rfl (e_alloc (cs := ((List.replicate 32 (0 : UInt8)).map u8v).toArray) rfl (by rfl) rfl (fun w2 g10 hg10 hb10 hc hsz10 => ?_))
  have hzw2 := hc.size
  have hge10 := HC.geo hg10
  have HC := HC.tr hc
  have hb := hb.no hc
  have hq := hq.no hc
  have hrnd := hrnd.no hc
  refine wle rfl (e_stH sz34 ((List.length_replicate ..)) (hu22) rfl rfl hb10 (fun w3 hb10 hc hsz => ?_))
  have hzw3 := hc.size
  have HC := HC.n hc
  first | have hb := hb.cc hc | have hb := hb.cT hc
  have hq := hq.ch hc (by intro k hk ht; first | omega | (dsimp only at *; omega))
  have hrnd := hrnd.ch hc (by intro k hk ht; first | omega | (dsimp only at *; omega))
  refine was ?_
  refine wl_nil (x_seq (wc_seq (wc_region ?_)))
  refine wmv ?_
  refine wz (p_not rfl) ?_
  refine wl_nil (x_seq ?_)
  refine wc_if rfl (fun c0 => ?_) (fun c0 => ?_)
  ·
   refine wc_seq (wc_region ?_)
   iterate 2 refine was ?_
   refine wl_nil (x_seq (wc_ret (x_then_ret ?_)))
   refine fin_run ((res2 rfl rfl rfl)) ?_
   exact ⟨none, 0, 0, false, rfl, ⟨fun h => (by cases h), fun h => (by rw [hok22.2 h] at c0; cases c0)⟩, fun h => (by cases h), HC⟩
  ·
   have ho : ok22 = true := by simpa using c0
   obtain ⟨o1, o2, o3, o4, o5⟩ := hok22.1 ho
   obtain ⟨N, rfl⟩ : ∃ N : Nat, n = (N : Int) := ⟨n.toNat, by omega⟩
   obtain ⟨I, rfl⟩ : ∃ I : Nat, i = (I : Int) := ⟨i.toNat, by omega⟩
   have o6 : q.length = (sd N I).length := by rw [sd_len]; exact o5
   refine wc_skip (x_seq (wc_seq (wc_region ?_)))
   refine wmv ?_
   have hltg10 := hb10.lt
   refine wle rfl (e_bslV (E := 38) rfl rfl (fun _ => by kernel_rfl) (fun w4 g28 hg28 hb28 hc hsz28 => ?_))
   have hzw4 := hc.size
   have hge28 := HC.geo hg28
   have HC := HC.tr hc
   have hb := hb.no hc
   have hq := hq.no hc
   have hrnd := hrnd.no hc
   have hb10 := hb10.no hc
   have hQ28 := SB.lit1 hb28 (hb)
   refine wle rfl (e_call ent86 rfl rfl (tbytes_any (t := 0) hQ28 (by omega) (by first | omega | (simp only [List.flatten_cons, List.flatten_nil, List.length_append, List.length_nil, List.length_cons]; omega))) ?_)
   rintro _ w5 ⟨A29, c29, rfl, hW29, hc⟩
   refine ⟨_, rfl, ?_⟩
   have hzw5 := hc.size
   have HC := HC.tr hc
   have hb := hb.no hc
   have hq := hq.no hc
   have hrnd := hrnd.no hc
   have hb10 := hb10.no hc
   have hQ28 := hQ28.no hc
   have hx29 := hW29.sl.old
   rw [show ([0] : List UInt8) ++ [b].flatten = 0 :: b from by simp] at hx29
   have hltg10 := hb10.lt
   refine wle rfl (e_bslV (E := 38) rfl rfl (fun _ => by kernel_rfl) (fun w6 g30 hg30 hb30 hc hsz30 => ?_))
   have hzw6 := hc.size
   have hge30 := HC.geo hg30
   have HC := HC.tr hc
   have hb := hb.no hc
   have hq := hq.no hc
   have hrnd := hrnd.no hc
   have hb10 := hb10.no hc
   have hx29 := hx29.no hc
   have hR := RB.lit hb30 hx29 (fun k hk => by omega)
   refine was ?_
   refine wl_nil (x_seq (wc_seq (wc_seq (wc_region ?_))))
   iterate 2 refine wmv ?_
   obtain ⟨n7, hn7⟩ : ∃ x, x = w6.heap.size := ⟨_, rfl⟩
   refine wle rfl (e_call ent87 rfl rfl (sides_any (n := N) (i := I) (by omega) (by omega)) ?_)
   rintro _ w7 ⟨A33, l33, c33, rfl, hW33, hc⟩
   refine ⟨_, rfl, ?_⟩
   have hzw7 := hc.size
   have HC := HC.tr hc
   have hb := hb.no hc
   have hq := hq.no hc
   have hrnd := hrnd.no hc
   have hb10 := hb10.no hc
   have hR := hR.cc hc
   have hB33 : Sl w7 (fun k => n7 ≤ k ∧ k < w7.heap.size) Value.bool A33 l33 c33 (sd N I) := hW33.sl.mono (fun k h1 h2 => by omega)
   have hBl33 := hB33.len
   refine wz (p_lenS underlying161 rfl) ?_
   refine wmv ?_
   refine wl_nil (x_seq (wc_block ?_))
   obtain ⟨n8, hn8⟩ : ∃ x, x = w7.heap.size := ⟨_, rfl⟩
   rw [← hn8] at hB33
   refine wc_loop (e' := [(3, .slice Aq lq cq), (12, .slice (_) (1) (1)), (33, .slice A33 l33 c33), (34, i64 (l33 : Int)), (35, i64 ((0) : Int))]) (fun mz ez uz => ∃ k : Nat, ∃ Bw : Option Addr, ∃ lw : Nat, ∃ cw : Nat, ∃ M : Nat, ∃ ws : List (List UInt8), ∃ x : List UInt8, mz = l33 - k ∧ ez = [(3, .slice Aq lq cq), (12, .slice Bw lw cw), (33, .slice A33 l33 c33), (34, i64 (l33 : Int)), (35, i64 (k : Int))] ∧ (RB uz g30 M 38 Bw lw cw (ws ++ [x])) ∧ (g30 ≤ M ∧ M ≤ uz.heap.size) ∧ (k ≤ l33) ∧ (lw = k + 1) ∧ (SI uz (fun k => k < w.heap.size) eHs Aq lq cq q) ∧ (Sl uz (fun k => n7 ≤ k ∧ k < n8) Value.bool A33 l33 c33 (sd N I)) ∧ (n8 ≤ uz.heap.size) ∧ (∀ k, (Value.slice Bw lw cw).ownBlock = some k → k < n7 ∨ n8 ≤ k) ∧ (wayUp (sd N I) q (0 :: b) = ws ++ wayUp ((sd N I).drop k) (q.drop k) x) ∧ (∀ y ∈ ws ++ [x], y.length ≤ 1000000000) ∧ (Sl uz (fun k => k = 0) u32v (some ⟨0, 0, none⟩) 64 64 rk) ∧ (Ch No w uz))
    ⟨rfl, rfl, rfl, rfl, rfl, trivial⟩ ⟨0, _, 1, 1, _, [], (0 :: b), rfl, rfl, hR, ⟨by omega, by omega⟩, by omega, rfl, hq, hB33, by omega, (fun k hk => by have := hR.own hk; omega), rfl, (fun y hy => by have h9 : y = 0 :: b := (by simpa using hy); rw [h9, List.length_cons]; omega), hrnd, HC⟩ ?_
   rintro m0 e w8 ⟨k, Bw, lw, cw, M, ws, x, hm0, rfl, hR, hM, hk, hlk, hq, hB33, hn8, hOw, hwy, hqb, hrnd, HC⟩
   have hzw8 := HC.size
   refine wc_seq (wc_region ?_)
   refine wz (p_lt rfl rfl) ?_
   refine wl_nil (x_seq (wc_seq ?_))
   refine wc_if rfl (fun c1 => ?_) (fun c1 => ?_)
   ·
    have c1 := of_decide_eq_true c1
    have hsx : (shaF x).length = 32 := shaF_len x
    refine wc_skip (x_seq (wc_seq (wc_block (wc_seq (wc_region ?_)))))
    refine wmv ?_
    obtain ⟨b9, o9, hA9, hF9, hc9⟩ := (hB33).opn (d := false) (by omega)
    refine wz (p_ixS1 underlying161 sz4 rfl hA9 rfl (by omega) (by omega) (Int.toNat_natCast _)) ?_
    refine wz (p_ld underlying4 rfl rfl (ld (hc9 _ (by omega)))) ?_
    iterate 2 refine was ?_
    refine wl_nil (x_seq (wc_seq (wc_region ?_)))
    refine wmv ?_
    refine wle rfl (e_call ent88 rfl rfl (top_last hR.sb (by omega) hqb hrnd) ?_)
    rintro _ w10 ⟨rfl, hc⟩
    refine ⟨_, rfl, ?_⟩
    have hzw10 := hc.size
    have HC := HC.tr hc
    have hR := hR.cc hc
    have hq := hq.no hc
    have hB33 := hB33.no hc
    have hrnd := hrnd.no hc
    refine wle rfl (e_alloc (cs := ((List.replicate 32 (0 : UInt8)).map u8v).toArray) rfl (by rfl) rfl (fun w11 g15 hg15 hb15 hc hsz15 => ?_))
    have hzw11 := hc.size
    have hge15 := HC.geo hg15
    have HC := HC.tr hc
    have hR := hR.cc hc
    have hq := hq.no hc
    have hB33 := hB33.no hc
    have hrnd := hrnd.no hc
    refine wle rfl (e_stH sz34 ((List.length_replicate ..)) (shaF_len x) rfl rfl hb15 (fun w12 hb15 hc hsz => ?_))
    have hzw12 := hc.size
    have HC := HC.n hc
    have hR := hR.cc hc
    have hq := hq.ch hc (by intro k hk ht; first | omega | (dsimp only at *; omega))
    have hB33 := hB33.ch hc (by intro k hk ht; first | omega | (dsimp only at *; omega))
    have hrnd := hrnd.ch hc (by intro k hk ht; first | omega | (dsimp only at *; omega))
    refine wl_nil (x_seq (wc_seq ?_))
    refine wdr (.st 0 0 (.st 1 0 (.st 2 0 (.st 3 0 (.st 4 0 (.st 5 0 (.st 6 2 (.st 7 3 .nil)))))))) 7 No (fun w13 hc hszw13 => ?_)
    have hzw13 := hc.size
    have HC := HC.tr hc
    have hR := hR.cc hc
    have hq := hq.no hc
    have hB33 := hB33.no hc
    have hrnd := hrnd.no hc
    have hb15 := hb15.no hc
    have hS : Ch No w13 w13 := Ch.refl _ _
    have hS42 := Sl.whole (L := shaF x) hb15 (shaF_len x)
    refine ws_p rfl rfl rfl rfl (p_slW (N := 31) underlying34 sz5 rfl) ?_
    refine ws_p rfl rfl rfl rfl (p_mv rfl) ?_
    refine ws_p rfl rfl rfl rfl (p_mv rfl) ?_
    obtain ⟨b14, o14, hA14, hF14, hr14⟩ := (hq).opn (i := k) (d := zH) (by omega)
    have hok14 := (hq).okAt (i := k) (d := zH) (by omega)
    obtain ⟨x14, ex14⟩ : ∃ x_, x_ = List.getD q (k) zH := ⟨_, rfl⟩
    rw [← ex14] at hr14 hok14
    have hx14k : List.length x14 = 32 := hok14
    have hr14 : w13.rangeAt b14 (o14 + k * 32) ((List.map u8v x14) : List Value) := hr14
    refine ws_p rfl rfl rfl rfl (p_ixS (j := k * 32) underlying26 sz34 rfl hA14 rfl (by omega) (by omega) (congrArg (· * 32) (Int.toNat_natCast _))) ?_
    have hS46 : Sl w13 (fun k => k < w.heap.size) u8v (some ⟨b14, o14 + k * 32, none⟩) 32 32 x14 := ⟨.inr ⟨b14, _, rfl, hF14, hr14⟩, hx14k, Nat.le_refl _⟩
    refine ws_p rfl rfl rfl rfl (p_slW (N := 31) underlying34 sz5 rfl) ?_
    refine ws_p rfl rfl rfl rfl (p_bldX (vs' := [.slice (some ⟨g15, 0, none⟩) 32 32, .slice (some ⟨b14, o14 + k * 32, none⟩) 32 32]) (cs := ([.slice (some ⟨g15, 0, none⟩) 32 32, .slice (some ⟨b14, o14 + k * 32, none⟩) 32 32] : List Value)) (cs' := ([.slice (some ⟨g15, 0, none⟩) 32 32, .slice (some ⟨b14, o14 + k * 32, none⟩) 32 32] : List Value)) rfl rfl rfl (fun _ => by kernel_rfl)) ?_
    have hltg15 := hb15.lt
    refine ws_e rfl rfl (e_alloc (cs := ([Value.slice none 0 0, Value.slice none 0 0] : List Value).toArray) rfl (by rfl) rfl (fun w15 g16 hg16 hb16 hc hsz16 => ⟨hc, ?_⟩))
    have hzw15 := hc.size
    have hge16 := HC.geo hg16
    have HC := HC.tr hc
    have hR := hR.cc hc
    have hq := hq.no hc
    have hB33 := hB33.no hc
    have hrnd := hrnd.no hc
    have hb15 := hb15.no hc
    have hS42 := hS42.no hc
    have hS46 := hS46.no hc
    have neg15_16 : g15 < g16 := by omega
    refine ws_nar hc ?_
    refine ws_l rfl rfl (e_stW (vs := ([.slice (some ⟨g15, 0, none⟩) 32 32, .slice (some ⟨b14, o14 + k * 32, none⟩) 32 32] : List Value)) (szL sz164 rfl) (allOne rfl) rfl rfl hb16 rfl (fun w16 hb16 hc hsz => ?_))
    have hzw16 := hc.size
    have HC := HC.n hc
    have hR := hR.cc hc
    have hq := hq.ch hc (by intro k hk ht; first | omega | (dsimp only at *; omega))
    have hB33 := hB33.ch hc (by intro k hk ht; first | omega | (dsimp only at *; omega))
    have hrnd := hrnd.ch hc (by intro k hk ht; first | omega | (dsimp only at *; omega))
    have hb15 := hb15.cc hc
    first | have hS42 := hS42.cc hc | have hS42 := hS42.cT hc
    first | have hS46 := hS46.cc hc | have hS46 := hS46.cT hc
    refine ws_n (x_seq (wc_seq (wc_seq (wc_region ?_))))
    refine wmv ?_
    refine wl_nil (x_seq ?_)
    refine wc_if rfl (fun c2 => ?_) (fun c2 => ?_)
    ·
     refine wc_region ?_
     refine wz (p_ixA (j := 1) underlying164 sz38 rfl rfl (by omega) (by omega) rfl) ?_
     refine wz (pldb underlying38 hb16) ?_
     refine wz (p_ixA (j := 0) underlying164 sz38 rfl rfl (by omega) (by omega) rfl) ?_
     refine wz (pldb underlying38 hb16) ?_
     refine wz (p_ixA (j := 0) underlying164 sz38 rfl rfl (by omega) (by omega) rfl) ?_
     refine wle rfl (e_stC (p := []) (u := (.slice (some ⟨g15, 0, none⟩) 32 32 : Value)) (r := ([.slice (some ⟨b14, o14 + k * 32, none⟩) 32 32] : List Value)) (v := .slice (some ⟨b14, o14 + k * 32, none⟩) 32 32) (by rfl) rfl rfl rfl hb16 (by simp only [List.append_assoc, List.cons_append, List.nil_append, List.append_nil]) rfl (fun w20 hb16 hc hsz => ?_))
     have hb16 : Blk w20 g16 164 ([.slice (some ⟨b14, o14 + k * 32, none⟩) 32 32, .slice (some ⟨b14, o14 + k * 32, none⟩) 32 32] : List Value).toArray := by have h := hb16; simp only [List.append_assoc, List.cons_append, List.nil_append, List.append_nil] at h ⊢; exact h
     have hzw20 := hc.size
     have HC := HC.n hc
     have hR := hR.cc hc
     have hq := hq.ch hc (by intro k hk ht; first | omega | (dsimp only at *; omega))
     have hB33 := hB33.ch hc (by intro k hk ht; first | omega | (dsimp only at *; omega))
     have hrnd := hrnd.ch hc (by intro k hk ht; first | omega | (dsimp only at *; omega))
     have hb15 := hb15.cc hc
     first | have hS42 := hS42.cc hc | have hS42 := hS42.cT hc
     first | have hS46 := hS46.cc hc | have hS46 := hS46.cT hc
     refine wz (p_ixA (j := 1) underlying164 sz38 rfl rfl (by omega) (by omega) rfl) ?_
     refine wle rfl (e_stC (p := ([.slice (some ⟨b14, o14 + k * 32, none⟩) 32 32] : List Value)) (u := (.slice (some ⟨b14, o14 + k * 32, none⟩) 32 32 : Value)) (r := []) (v := .slice (some ⟨g15, 0, none⟩) 32 32) (by rfl) rfl rfl rfl hb16 (by simp only [List.append_assoc, List.cons_append, List.nil_append, List.append_nil]) rfl (fun w22 hb16 hc hsz => ?_))
     have hb16 : Blk w22 g16 164 ([.slice (some ⟨b14, o14 + k * 32, none⟩) 32 32, .slice (some ⟨g15, 0, none⟩) 32 32] : List Value).toArray := by have h := hb16; simp only [List.append_assoc, List.cons_append, List.nil_append, List.append_nil] at h ⊢; exact h
     have hzw22 := hc.size
     have HC := HC.n hc
     have hR := hR.cc hc
     have hq := hq.ch hc (by intro k hk ht; first | omega | (dsimp only at *; omega))
     have hB33 := hB33.ch hc (by intro k hk ht; first | omega | (dsimp only at *; omega))
     have hrnd := hrnd.ch hc (by intro k hk ht; first | omega | (dsimp only at *; omega))
     have hb15 := hb15.cc hc
     first | have hS42 := hS42.cc hc | have hS42 := hS42.cT hc
     first | have hS46 := hS46.cc hc | have hS46 := hS46.cT hc
     refine wl_nil (x_seq (wc_region ?_))
     refine wmv ?_
     refine wz (p_ixA (j := 0) underlying164 sz38 rfl rfl (by omega) (by omega) rfl) ?_
     refine wz (pldb underlying38 hb16) ?_
     refine wz (p_ixA (j := 1) underlying164 sz38 rfl rfl (by omega) (by omega) rfl) ?_
     refine wz (pldb underlying38 hb16) ?_
     have hltg15 := hb15.lt
     have hltg16 := hb16.lt
     refine wle rfl (e_bslV (E := 38) rfl rfl (fun _ => by kernel_rfl) (fun w25 g60 hg60 hb60 hc hsz60 => ?_))
     have hzw25 := hc.size
     have hge60 := HC.geo hg60
     have HC := HC.tr hc
     have hR := hR.cc hc
     have hq := hq.no hc
     have hB33 := hB33.no hc
     have hrnd := hrnd.no hc
     have hb15 := hb15.no hc
     have hS42 := hS42.no hc
     have hS46 := hS46.no hc
     have hb16 := hb16.no hc
     have hQ60 := SB.lit2 hb60 (hS46) (hS42)
     obtain ⟨k61, hk61⟩ : ∃ x, x = w25.heap.size := ⟨_, rfl⟩
     refine wle rfl (e_call ent86 rfl rfl (tbytes_any (t := 1) hQ60 (by omega) (by first | omega | (simp only [List.flatten_cons, List.flatten_nil, List.length_append, List.length_nil, List.length_cons]; omega))) ?_)
     rintro _ w26 ⟨A61, c61, rfl, hW61, hc⟩
     refine ⟨_, rfl, ?_⟩
     have hzw26 := hc.size
     have HC := HC.tr hc
     have hR := hR.cc hc
     have hq := hq.no hc
     have hB33 := hB33.no hc
     have hrnd := hrnd.no hc
     have hb15 := hb15.no hc
     have hS42 := hS42.no hc
     have hS46 := hS46.no hc
     have hb16 := hb16.no hc
     have hQ60 := hQ60.no hc
     have hx61 := hW61.sl.mono (G := fun k => k61 ≤ k ∧ k < w26.heap.size) (fun k h1 h2 => ⟨by first | exact h2 | exact h2.1 | omega | (dsimp only at *; omega), h1⟩)
     rw [show ([1] : List UInt8) ++ [x14, shaF x].flatten = 1 :: (x14 ++ shaF x) from by simp] at hx61
     have hltg15 := hb15.lt
     have hltg16 := hb16.lt
     refine wle rfl (e_bslV (E := 38) rfl rfl (fun _ => by kernel_rfl) (fun w27 g62 hg62 hb62 hc hsz62 => ?_))
     have hzw27 := hc.size
     have HC := HC.tr hc
     have hR := hR.cc hc
     have hq := hq.no hc
     have hB33 := hB33.no hc
     have hrnd := hrnd.no hc
     have hx61 := hx61.no hc
     have hT : ∀ k, k < w.heap.size → ¬ ((Value.slice Bw lw cw).ownBlock = some k ∨ w27.heap.size ≤ k) := fun k hk ht => ht.elim (fun h => by have := hR.own h; omega) (fun h => by omega)
     have hT2 : ∀ k, (n7 ≤ k ∧ k < n8) → ¬ ((Value.slice Bw lw cw).ownBlock = some k ∨ w27.heap.size ≤ k) := fun k hk ht => ht.elim (fun h => by have := hOw k h; omega) (fun h => by omega)
     refine wle rfl (e_appRB rfl el160 rfl rfl hR (by omega) hb62 hx61 (fun k hk => by omega) (by omega) (by omega) (fun w28 A63 c63 hR hc hO63 => ?_))
     have hzw28 := hc.size
     have HC := HC.trans hc (fun _ _ h => h) (fun k hk ht => hT k hk ht)
     have hq := hq.ch hc (fun k hk ht => hT k hk ht)
     have hB33 := hB33.ch hc (fun k hk ht => hT2 k hk ht)
     have hrnd := hrnd.ch hc (fun k hk ht => hT k (by have h8 : k = 0 := hk; omega) ht)
     have hOw : ∀ k, (Value.slice A63 (lw + 1) c63).ownBlock = some k → k < n7 ∨ n8 ≤ k := fun k hk => (hO63 k hk).elim (fun h => hOw k h) (fun h => by omega)
     refine was ?_
     refine wl_nil (x_in_normal (x_seq (wc_region ?_)))
     refine wz (p_add rfl rfl (w64 (by omega))) ?_
     refine wmv ?_
     refine wl_nil ?_
     refine x_round (e' := [(3, .slice Aq lq cq), (12, .slice (A63) ((lw + 1)) (c63)), (33, .slice A33 l33 c33), (34, i64 (l33 : Int)), (35, i64 ((k + 1) : Int))]) ⟨rfl, rfl, rfl, rfl, rfl, trivial⟩ (by rw [hm0]; omega) ⟨k + 1, A63, (lw + 1), c63, _, (ws ++ [x]), (1 :: (x14 ++ shaF x)), rfl, rfl, hR, ⟨by omega, by omega⟩, by omega, by omega, hq, hB33, by omega, hOw, (by rw [hwy, way_drop (s := true) (p := x14) (by simpa using c2) ex14.symm (by omega) (by omega), List.append_assoc]; rfl), (fun y hy => (List.mem_append.1 hy).elim (fun h => hqb y h) (fun h => by have h9 : y = (1 :: (x14 ++ shaF x)) := (by simpa using h); rw [h9]; simp only [List.length_cons, List.length_append]; omega)), hrnd, HC⟩
    ·
     refine wc_skip (x_seq (wc_region ?_))
     refine wmv ?_
     refine wz (p_ixA (j := 0) underlying164 sz38 rfl rfl (by omega) (by omega) rfl) ?_
     refine wz (pldb underlying38 hb16) ?_
     refine wz (p_ixA (j := 1) underlying164 sz38 rfl rfl (by omega) (by omega) rfl) ?_
     refine wz (pldb underlying38 hb16) ?_
     have hltg15 := hb15.lt
     have hltg16 := hb16.lt
     refine wle rfl (e_bslV (E := 38) rfl rfl (fun _ => by kernel_rfl) (fun w31 g60 hg60 hb60 hc hsz60 => ?_))
     have hzw31 := hc.size
     have hge60 := HC.geo hg60
     have HC := HC.tr hc
     have hR := hR.cc hc
     have hq := hq.no hc
     have hB33 := hB33.no hc
     have hrnd := hrnd.no hc
     have hb15 := hb15.no hc
     have hS42 := hS42.no hc
     have hS46 := hS46.no hc
     have hb16 := hb16.no hc
     have hQ60 := SB.lit2 hb60 (hS42) (hS46)
     obtain ⟨k61, hk61⟩ : ∃ x, x = w31.heap.size := ⟨_, rfl⟩
     refine wle rfl (e_call ent86 rfl rfl (tbytes_any (t := 1) hQ60 (by omega) (by first | omega | (simp only [List.flatten_cons, List.flatten_nil, List.length_append, List.length_nil, List.length_cons]; omega))) ?_)
     rintro _ w32 ⟨A61, c61, rfl, hW61, hc⟩
     refine ⟨_, rfl, ?_⟩
     have hzw32 := hc.size
     have HC := HC.tr hc
     have hR := hR.cc hc
     have hq := hq.no hc
     have hB33 := hB33.no hc
     have hrnd := hrnd.no hc
     have hb15 := hb15.no hc
     have hS42 := hS42.no hc
     have hS46 := hS46.no hc
     have hb16 := hb16.no hc
     have hQ60 := hQ60.no hc
     have hx61 := hW61.sl.mono (G := fun k => k61 ≤ k ∧ k < w32.heap.size) (fun k h1 h2 => ⟨by first | exact h2 | exact h2.1 | omega | (dsimp only at *; omega), h1⟩)
     rw [show ([1] : List UInt8) ++ [shaF x, x14].flatten = 1 :: (shaF x ++ x14) from by simp] at hx61
     have hltg15 := hb15.lt
     have hltg16 := hb16.lt
     refine wle rfl (e_bslV (E := 38) rfl rfl (fun _ => by kernel_rfl) (fun w33 g62 hg62 hb62 hc hsz62 => ?_))
     have hzw33 := hc.size
     have HC := HC.tr hc
     have hR := hR.cc hc
     have hq := hq.no hc
     have hB33 := hB33.no hc
     have hrnd := hrnd.no hc
     have hx61 := hx61.no hc
     have hT : ∀ k, k < w.heap.size → ¬ ((Value.slice Bw lw cw).ownBlock = some k ∨ w33.heap.size ≤ k) := fun k hk ht => ht.elim (fun h => by have := hR.own h; omega) (fun h => by omega)
     have hT2 : ∀ k, (n7 ≤ k ∧ k < n8) → ¬ ((Value.slice Bw lw cw).ownBlock = some k ∨ w33.heap.size ≤ k) := fun k hk ht => ht.elim (fun h => by have := hOw k h; omega) (fun h => by omega)
     refine wle rfl (e_appRB rfl el160 rfl rfl hR (by omega) hb62 hx61 (fun k hk => by omega) (by omega) (by omega) (fun w34 A63 c63 hR hc hO63 => ?_))
     have hzw34 := hc.size
     have HC := HC.trans hc (fun _ _ h => h) (fun k hk ht => hT k hk ht)
     have hq := hq.ch hc (fun k hk ht => hT k hk ht)
     have hB33 := hB33.ch hc (fun k hk ht => hT2 k hk ht)
     have hrnd := hrnd.ch hc (fun k hk ht => hT k (by have h8 : k = 0 := hk; omega) ht)
     have hOw : ∀ k, (Value.slice A63 (lw + 1) c63).ownBlock = some k → k < n7 ∨ n8 ≤ k := fun k hk => (hO63 k hk).elim (fun h => hOw k h) (fun h => by omega)
     refine was ?_
     refine wl_nil (x_in_normal (x_seq (wc_region ?_)))
     refine wz (p_add rfl rfl (w64 (by omega))) ?_
     refine wmv ?_
     refine wl_nil ?_
     refine x_round (e' := [(3, .slice Aq lq cq), (12, .slice (A63) ((lw + 1)) (c63)), (33, .slice A33 l33 c33), (34, i64 (l33 : Int)), (35, i64 ((k + 1) : Int))]) ⟨rfl, rfl, rfl, rfl, rfl, trivial⟩ (by rw [hm0]; omega) ⟨k + 1, A63, (lw + 1), c63, _, (ws ++ [x]), (1 :: (shaF x ++ x14)), rfl, rfl, hR, ⟨by omega, by omega⟩, by omega, by omega, hq, hB33, by omega, hOw, (by rw [hwy, way_drop (s := false) (p := x14) (by simpa using c2) ex14.symm (by omega) (by omega), List.append_assoc]; rfl), (fun y hy => (List.mem_append.1 hy).elim (fun h => hqb y h) (fun h => by have h9 : y = (1 :: (shaF x ++ x14)) := (by simpa using h); rw [h9]; simp only [List.length_cons, List.length_append]; omega)), hrnd, HC⟩
   ·
    have c1 := of_decide_eq_false c1
    refine wc_exit (x_then_exit (x_then_exit (x_in_here (x_seq (wc_seq (wc_region ?_))))))
    refine wmv ?_
    iterate 2 refine was ?_
    refine wl_nil (x_seq (wc_ret ?_))
    refine fin_run ((res2 rfl rfl rfl)) ?_
    obtain rfl : k = l33 := by omega
    rw [List.drop_of_length_le (l := sd N I) (by omega)] at hwy
    have hwy : wayUp (sd N I) q (0 :: b) = ws ++ [x] := by rw [hwy]; rfl
    refine ⟨Bw, lw, cw, true, rfl, ⟨fun _ => ⟨by omega, by omega, by omega, by omega, o5⟩, fun _ => rfl⟩, fun _ => ?_, HC⟩
    show SB _ _ Bw lw cw (wayUp (sd N I) q (0 :: b)) ∧ _ ∧ ∀ y ∈ wayUp (sd N I) q (0 :: b), _
    rw [hwy]; exact ⟨hR.sb, by have := hR.len; omega, hqb⟩

theorem beq_any {w : World} {Ab : Option Addr} {lb cb : Nat} {Fb : Nat → Prop} {b : List UInt8}{Ad : Option Addr} {ld cd : Nat} {Fd : Nat → Prop} {d : List UInt8} (hb : Sl w Fb u8v Ab lb cb b) (hd : Sl w Fd u8v Ad ld cd d) :
    Calls Tryz.prog 90 #[.slice Ab lb cb, .slice Ad ld cd] w fun e w' => e = .returned (.bool (decide (b = d))) ∧ Ch No w w' := by
  have hb := hb.old
  have hd := hd.old
  have HC : Ch No w w := Ch.refl _ _
  refine enter' (args := [.slice Ab lb cb, .slice Ad ld cd]) (n := 10) Tryz.func90 rfl rfl rfl ?_
  refine wc_seq (wc_region ?_)
  refine was ?_
  refine wl_nil (x_seq (wc_seq (wc_region ?_)))
  refine wmv ?_
  refine wz (p_bts underlying38 underlying5 underlying9 rfl ((hb).mono (G := fun _ => True) (fun _ _ _ => trivial)).len (fun _ e => e ▸ ((hb).mono (G := fun _ => True) (fun _ _ _ => trivial)).rd)) ?_
  refine wmv ?_
  refine wz (p_bts underlying38 underlying5 underlying9 rfl ((hd).mono (G := fun _ => True) (fun _ _ _ => trivial)).len (fun _ e => e ▸ ((hd).mono (G := fun _ => True) (fun _ _ _ => trivial)).rd)) ?_
  refine wz (p_eqT rfl rfl) ?_
  refine was ?_
  refine wl_nil (x_seq (wc_ret ?_))
  refine fin_run ((res1 rfl rfl)) ?_
  rw [beq_str, Bool.beq_eq_decide_eq]; exact ⟨rfl, HC⟩

theorem own_any {w : World} {Ab : Option Addr} {lb cb : Nat} {Fb : Nat → Prop} {b : List UInt8} (hb : Sl w Fb u8v Ab lb cb b) (hl : lb ≤ 1000000000) :
    Calls Tryz.prog 92 #[.slice Ab lb cb] w fun e w' => ∃ A l c, e = .returned (.slice A l c) ∧ Sl w' (fun k => w.heap.size ≤ k) u8v A l c b ∧ l ≤ 1000000000 ∧ Ch No w w' := by
  have hbl := hb.len
  have hb := hb.old
  have HC : Ch No w w := Ch.refl _ _
  refine enter' (args := [.slice Ab lb cb]) (n := 11) Tryz.func92 rfl rfl rfl ?_
  refine wc_seq (wc_region ?_)
  refine was ?_
  refine wl_nil (x_seq (wc_seq (wc_region ?_)))
  refine wmv ?_
  refine wz (p_lenS underlying38 rfl) ?_
  refine wle rfl (e_mkZ (c := lb) (v := u8v 0) (sz := 1) (by_ := 1) rfl underlying38 (by rfl) (by rfl) (by omega) rfl rfl (by omega) (by omega) (fun w1 g6 hg6 hb6 hc hsz6 => ?_))
  have hzw1 := hc.size
  have hge6 := HC.geo hg6
  have HC := HC.tr hc
  have hb := hb.no hc
  have hb6 : Blk w1 g6 5 ((List.replicate lb (0 : UInt8)).map u8v).toArray := by have h := hb6; rw [Nat.mul_one] at h; simpa using h
  refine was ?_
  refine wl_nil (x_seq (wc_seq (wc_region ?_)))
  iterate 2 refine wmv ?_
  refine wle rfl (e_copy (L := List.replicate lb (0 : UInt8)) rfl underlying38 sz5 one_u8 rfl rfl hb6 hb (by simp) (fun w2 hb6 hc hsz => ?_))
  have hzw2 := hc.size
  have HC := HC.n hc
  first | have hb := hb.cc hc | have hb := hb.cT hc
  refine wl_nil (x_seq (wc_seq (wc_region ?_)))
  refine wmv ?_
  refine was ?_
  refine wl_nil (x_seq (wc_ret ?_))
  refine fin_run ((res1 rfl rfl)) ?_
  have hbe : List.take 0 (List.replicate lb (0 : UInt8)) ++ List.take (min lb lb) b ++ List.drop (0 + min lb lb) (List.replicate lb 0) = b := by rw [Nat.min_self, Nat.zero_add, List.take_of_length_le (l := b) (by omega), List.drop_of_length_le (by simp)]; simp
  rw [hbe] at hb6
  exact ⟨_, _, _, rfl, (Sl.lit hb6 rfl hbl).mono (fun k _ hk => by have h9 : k = g6 := hk; omega), hl, HC⟩

theorem bes_any {w : World} {m yl gA gB : Nat} {J Jx : List Nat → World → Prop} {Aa Ab : Option Addr} {la ca lb cb : Nat} {Fa Fb : Nat → Prop} {qa qb : List SD}  (hX : ∀ xs A, J xs A → Blk A gA 77 #[.slice Aa la ca] ∧ Blk A gB 77 #[.slice Ab lb cb] ∧ Sl A Fa sdv Aa la ca qa ∧ Sl A Fb sdv Ab lb cb qb) (hla : la ≤ 1000000) (hlb : lb ≤ 1000000) (hJ : ∀ xs A B, J xs A → Ch No A B → J xs B) (hJx : ∀ xs A B, Jx xs A → Ch No A B → Jx xs B) (hY : ∀ pre x Wq, (fun (pre : List Nat) (i : Nat) => pre.length = i ∧ i < min la lb) pre x → J pre Wq → YieldAt Fence.wide m Tryz.prog yl ((fun i : Nat => #[sdv (qa.getD (la - 1 - i) sd0), sdv (qb.getD (lb - 1 - i) sd0)]) x) Wq fun ed W' => (ed = .returned (.bool true) ∧ J (pre ++ [x]) W') ∨ (ed = .returned (.bool false) ∧ Jx (pre ++ [x]) W')) (hJ0 : J [] w) :
    Calls Tryz.prog 157 #[.func (.yield yl) #[] #[], .pointer (some ⟨gA, 0, none⟩), .pointer (some ⟨gB, 0, none⟩)] w fun e w' => e = .returned (.tuple #[]) ∧ ((∃ xs, xs.length = min la lb ∧ J xs w') ∨ ∃ xs, True ∧ Jx xs w') := by
  have hJp := hJ0
  obtain ⟨hbA, hbB, hsA, hsB⟩ := hX _ _ hJ0
  have HC : Ch No w w := Ch.refl _ _
  refine enter' (args := [.func (.yield yl) #[] #[], .pointer (some ⟨gA, 0, none⟩), .pointer (some ⟨gB, 0, none⟩)]) (n := 31) Tryz.func157 rfl rfl rfl ?_
  refine wc_seq (wc_region ?_)
  refine was ?_
  refine wl_nil (x_seq (wc_block ?_))
  refine wc_loop (e' := [(0, .func (.yield yl) #[] #[]), (1, .pointer (some ⟨gA, 0, none⟩)), (2, .pointer (some ⟨gB, 0, none⟩)), (4, i64 (((0) + 1 : Nat) : Int))]) (fun mz ez uz => ∃ j : Nat, ∃ pre : List Nat, mz = min la lb - j ∧ ez = [(0, .func (.yield yl) #[] #[]), (1, .pointer (some ⟨gA, 0, none⟩)), (2, .pointer (some ⟨gB, 0, none⟩)), (4, i64 ((j + 1 : Nat) : Int))] ∧ (pre.length = j ∧ j ≤ min la lb) ∧ (J pre uz))
   ⟨rfl, rfl, rfl, rfl, trivial⟩ ⟨0, [], rfl, rfl, ⟨rfl, by omega⟩, hJp⟩ ?_
  rintro m0 e w1 ⟨j, pre, hm0, rfl, hj, hJp⟩
  obtain ⟨hbA, hbB, hsA, hsB⟩ := hX _ _ hJp
  refine wc_seq (wc_seq (wc_region ?_))
  refine wmv ?_
  refine wz (pldb underlying77 hbA) ?_
  refine wz (p_lenS underlying77 rfl) ?_
  refine wz (pldb underlying77 hbB) ?_
  refine wz (p_lenS underlying77 rfl) ?_
  refine wz ((p_min rfl rfl).to (show Value.int .i64 (if (lb : Int) < (la : Int) then (lb : Int) else (la : Int)) = Value.int .i64 ((min la lb : Nat) : Int) from by congr 1; split <;> omega)) ?_
  refine wz (p_le rfl rfl) ?_
  refine wl_nil (x_seq ?_)
  refine wc_if rfl (fun c0 => ?_) (fun c0 => ?_)
  ·
   have c0 := of_decide_eq_true c0
   refine wc_skip (x_seq (wc_seq (wc_block (wc_seq ?_))))
   have hJd := hJ _ _ _ hJp (Ch.drew w1)
   obtain ⟨hcA, hcB, hdA, hdB⟩ := hX _ _ hJd
   obtain ⟨b1, o1, hA1, hF1, hc1⟩ := hdA.opn (d := sd0) (by omega)
   obtain ⟨b2, o2, hA2, hF2, hc2⟩ := hdB.opn (d := sd0) (by omega)
   refine wc_pureY (m := m + 1) 15 [14, 15, 16, 17, 18, 19, 20, 21, 22, 23, 24, 25, 26, 27, 28] (fun i => [[], [], [], [2], [], [3, 4], [1, 5], [6], [], [], [9], [], [10, 11], [8, 12], [13]].getD i []) (fun i => [(.func (.yield yl) #[] #[] : Value), (.slice Aa la ca : Value), (.slice Aa la ca : Value), (i64 (la : Int) : Value), (i64 ((j + 1 : Nat) : Int) : Value), (i64 ((la - 1 - j : Nat) : Int) : Value), (.pointer (some ⟨b1, o1 + (la - 1 - j), none⟩) : Value), (sdv (qa.getD (la - 1 - j) sd0) : Value), (.slice Ab lb cb : Value), (.slice Ab lb cb : Value), (i64 (lb : Int) : Value), (i64 ((j + 1 : Nat) : Int) : Value), (i64 ((lb - 1 - j : Nat) : Int) : Value), (.pointer (some ⟨b2, o2 + (lb - 1 - j), none⟩) : Value), (sdv (qb.getD (lb - 1 - j) sd0) : Value)].getD i undef) [(0, .func (.yield yl) #[] #[]), (1, .pointer (some ⟨gA, 0, none⟩)), (2, .pointer (some ⟨gB, 0, none⟩)), (4, i64 ((j + 1 : Nat) : Int)), (14, .func (.yield yl) #[] #[]), (21, sdv (qa.getD (la - 1 - j) sd0)), (28, sdv (qb.getD (lb - 1 - j) sd0))] (by kernel_rfl) rfl rfl rfl rfl rfl rfl rfl rfl (by kernel_rfl) ⟨p_mv rfl, p_ld underlying77 rfl rfl (ld (hcA.cell rfl)), p_ld underlying77 rfl rfl (ld (hcA.cell rfl)), p_lenS underlying77 rfl, p_mv rfl, p_sub (Z := ((la - 1 - j : Nat) : Int)) rfl rfl (by rw [w64 (by omega)]; omega), p_ixS1 (j := la - 1 - j) underlying77 sz38 rfl hA1 rfl (by omega) (by omega) (Int.toNat_natCast _), p_ld underlying38 rfl rfl (ld (hc1 _ (by omega))), p_ld underlying77 rfl rfl (ld (hcB.cell rfl)), p_ld underlying77 rfl rfl (ld (hcB.cell rfl)), p_lenS underlying77 rfl, p_mv rfl, p_sub (Z := ((lb - 1 - j : Nat) : Int)) rfl rfl (by rw [w64 (by omega)]; omega), p_ixS1 (j := lb - 1 - j) underlying77 sz38 rfl hA2 rfl (by omega) (by omega) (Int.toNat_natCast _), p_ld underlying38 rfl rfl (ld (hc2 _ (by omega))), trivial⟩ ⟨rfl, rfl, rfl, rfl, rfl, rfl, rfl, trivial⟩ ?_
   refine wli_yield (fun _ _ => rfl) rfl rfl rfl (hY pre j _ ⟨by omega, by omega⟩ hJd) (by repeat (first | exact no_body (fun _ h => by cases h.1) | with_reducible apply no_then | with_reducible apply no_in)) ?_
   rintro _ w' (⟨rfl, hJp⟩ | ⟨rfl, hJq⟩)
   ·
    refine ⟨_, rfl, ?_⟩
    refine wli rfl rfl rfl (p_not rfl) ?_
    refine wli_nil (x_seq ?_)
    refine wc_no rfl (rfl) ?_
    refine wc_skip (x_in_normal (x_seq (wc_region ?_)))
    refine wmv ?_
    refine wz (p_add (Z := ((j + 1 + 1 : Nat) : Int)) rfl rfl (by rw [w64 (by omega)]; omega)) ?_
    refine was ?_
    refine wl_nil ?_
    refine x_round (e' := [(0, .func (.yield yl) #[] #[]), (1, .pointer (some ⟨gA, 0, none⟩)), (2, .pointer (some ⟨gB, 0, none⟩)), (4, i64 (((j + 1) + 1 : Nat) : Int))]) ⟨rfl, rfl, rfl, rfl, trivial⟩ (by rw [hm0]; omega) ⟨j + 1, (pre ++ [j]), rfl, rfl, ⟨by simp; omega, by omega⟩, hJp⟩
   ·
    refine ⟨_, rfl, ?_⟩
    refine wli rfl rfl rfl (p_not rfl) ?_
    refine wli_nil (x_seq ?_)
    refine wc_yes rfl (rfl) ?_
    refine wc_ret (x_in_ret (x_then_ret (x_then_ret (x_in_ret ?_))))
    refine fin_run ((res0 rfl)) ?_
    exact ⟨rfl, .inr ⟨_, trivial, hJq⟩⟩
  ·
   have c0 := of_decide_eq_false c0
   refine wc_exit (x_then_exit (x_then_exit (x_in_here ?_)))
   refine fin_run_n ((res0 rfl)) ?_
   exact ⟨rfl, .inl ⟨pre, by omega, hJp⟩⟩

theorem beside_any {w : World} {Aa Ab : Option Addr} {la ca lb cb : Nat}   :
    Calls Tryz.prog 89 #[.slice Aa la ca, .slice Ab lb cb] w fun e w' => ∃ gA gB, e = .returned (.func (.func 157) #[] #[.pointer (some ⟨gA, 0, none⟩), .pointer (some ⟨gB, 0, none⟩)]) ∧ w.heap.size ≤ gA ∧ w.heap.size ≤ gB ∧ Blk w' gA 77 #[.slice Aa la ca] ∧ Blk w' gB 77 #[.slice Ab lb cb] ∧ Ch No w w' := by
  have HC : Ch No w w := Ch.refl _ _
  refine enter' (args := [.slice Aa la ca, .slice Ab lb cb]) (n := 6) Tryz.func89 rfl rfl rfl ?_
  refine wc_seq (wc_region ?_)
  refine wle rfl (e_box (cs := #[_]) rfl rfl rfl (fun w1 g2 hg2 hb2 hc hsz2 => ?_))
  have hzw1 := hc.size
  have hge2 := HC.geo hg2
  have HC := HC.tr hc
  have hltg2 := hb2.lt
  refine wle rfl (e_box (cs := #[_]) rfl rfl rfl (fun w2 g3 hg3 hb3 hc hsz3 => ?_))
  have hzw2 := hc.size
  have hge3 := HC.geo hg3
  have HC := HC.tr hc
  have hb2 := hb2.no hc
  have neg2_3 : g2 < g3 := by omega
  refine was ?_
  refine wl_nil (x_seq (wc_seq (wc_region ?_)))
  refine wz (p_mkf rfl) ?_
  refine was ?_
  refine wl_nil (x_seq (wc_ret ?_))
  refine fin_run ((res1 rfl rfl)) ?_
  exact ⟨g2, g3, rfl, hge2, hge3, hb2, hb3, HC⟩

theorem first_any {w : World} {Aa : Option Addr} {la ca : Nat} {Fa : Nat → Prop} {La : List (List UInt8)} {Ab : Option Addr} {lb cb : Nat} {Fb : Nat → Prop} {Lb : List (List UInt8)}  (ha : SB w Fa Aa la ca La) (hb : SB w Fb Ab lb cb Lb) (hla : la ≤ 1000000) (hlb : lb ≤ 1000000) (hla9 : ∀ y ∈ La, y.length ≤ 1000000000) (hlb9 : ∀ y ∈ Lb, y.length ≤ 1000000000) (hrnd : Sl w (fun k => k = 0) u32v (some ⟨0, 0, none⟩) 64 64 rk) :
    Calls Tryz.prog 33 #[.slice Aa la ca, .slice Ab lb cb] w fun e w' => ∃ (A : Option Addr) (l c : Nat) (B : Option Addr) (l' c' : Nat) (p q : List UInt8) (f : Bool), e = .returned (.tuple #[.slice A l c, .slice B l' c', .bool f]) ∧ Sl w' (fun k => k < w'.heap.size) u8v A l c p ∧ Sl w' (fun k => k < w'.heap.size) u8v B l' c' q ∧ l ≤ 1000000000 ∧ l' ≤ 1000000000 ∧ ((f = true ∧ fsF La.reverse Lb.reverse = some (p, q)) ∨ (f = false ∧ fsF La.reverse Lb.reverse = none)) ∧ Ch No w w' := by
  have hLa := ha.len
  have hLb := hb.len
  have ha := ha.old
  have hb := hb.old
  obtain ⟨qa, hsA, hlA⟩ := ha.ex
  obtain ⟨qb, hsB, hlB⟩ := hb.ex
  have hlA : BL w (fun k => k < w.heap.size) la qa La := hlA
  have hlB : BL w (fun k => k < w.heap.size) lb qb Lb := hlB
  have hn0 : 0 < w.heap.size := hrnd.size (by omega) rfl
  have hn1 := hn0
  have HC : Ch No w w := Ch.refl _ _
  refine enterM (args := [.slice Aa la ca, .slice Ab lb cb]) (n := 26) Tryz.func33 rfl rfl rfl ?_
  refine wc_seq (wc_region ?_)
  refine wle rfl (e_alloc (cs := #[.slice none 0 0]) rfl (by rfl) rfl (fun w1 g4 hg4 hb4 hc hsz4 => ?_))
  have hzw1 := hc.size
  have hge4 := HC.geo hg4
  have HC := HC.tr hc
  have hsA := hsA.no hc
  have hsB := hsB.no hc
  have hlA := hlA.cc hc
  have hlB := hlB.cc hc
  have hrnd := hrnd.no hc
  have hltg4 := hb4.lt
  refine wle rfl (e_alloc (cs := #[.slice none 0 0]) rfl (by rfl) rfl (fun w2 g5 hg5 hb5 hc hsz5 => ?_))
  have hzw2 := hc.size
  have hge5 := HC.geo hg5
  have HC := HC.tr hc
  have hsA := hsA.no hc
  have hsB := hsB.no hc
  have hlA := hlA.cc hc
  have hlB := hlB.cc hc
  have hrnd := hrnd.no hc
  have hb4 := hb4.no hc
  have neg4_5 : g4 < g5 := by omega
  have hltg4 := hb4.lt
  have hltg5 := hb5.lt
  refine wle rfl (e_alloc (cs := #[.bool false]) rfl (by rfl) rfl (fun w3 g6 hg6 hb6 hc hsz6 => ?_))
  have hzw3 := hc.size
  have hge6 := HC.geo hg6
  have HC := HC.tr hc
  have hsA := hsA.no hc
  have hsB := hsB.no hc
  have hlA := hlA.cc hc
  have hlB := hlB.cc hc
  have hrnd := hrnd.no hc
  have hb4 := hb4.no hc
  have hb5 := hb5.no hc
  have neg4_6 : g4 < g6 := by omega
  have neg5_6 : g5 < g6 := by omega
  refine wl_nil (x_seq (wc_seq (wc_seq (wc_region ?_))))
  iterate 2 refine wmv ?_
  refine wle rfl (e_call ent89 rfl rfl (beside_any) ?_)
  rintro _ w4 ⟨gA, gB, rfl, hgA, hgB, hbA, hbB, hc⟩
  refine ⟨_, rfl, ?_⟩
  have hzw4 := hc.size
  have HC := HC.tr hc
  have hsA := hsA.no hc
  have hsB := hsB.no hc
  have hlA := hlA.cc hc
  have hlB := hlB.cc hc
  have hrnd := hrnd.no hc
  have hb4 := hb4.no hc
  have hb5 := hb5.no hc
  have hb6 := hb6.no hc
  refine wl_nil (x_seq (wc_block ?_))
  have hltg4 := hb4.lt
  have hltg5 := hb5.lt
  have hltg6 := hb6.lt
  have hltgA := hbA.lt
  have hltgB := hbB.lt
  have hz0 := HC.size
  refine wc_rangeS (m := 0) rfl (enters_of Tryz.func157 (by kernel_rfl) rfl) (fun i : Nat => #[sdv (qa.getD (la - 1 - i) sd0), sdv (qb.getD (lb - 1 - i) sd0)]) (fun _ => rfl) (fun (pre : List Nat) (i : Nat) => pre.length = i ∧ i < min la lb) (fun xs => xs.length = min la lb) (fun _ => True) (fun W => Blk W gA 77 #[.slice Aa la ca] ∧ Blk W gB 77 #[.slice Ab lb cb] ∧ Sl W (fun k => k < w.heap.size) sdv Aa la ca qa ∧ Sl W (fun k => k < w.heap.size) sdv Ab lb cb qb) ?hseq (fun xs W => (Blk W g4 38 #[.slice none 0 0]) ∧ (Blk W g5 38 #[.slice none 0 0]) ∧ (Blk W g6 4 #[.bool false]) ∧ (Blk W gA 77 #[.slice Aa la ca]) ∧ (Blk W gB 77 #[.slice Ab lb cb]) ∧ (Sl W (fun k => k < w.heap.size) sdv Aa la ca qa) ∧ (Sl W (fun k => k < w.heap.size) sdv Ab lb cb qb) ∧ (BL W (fun k => k < w.heap.size) la qa La) ∧ (BL W (fun k => k < w.heap.size) lb qb Lb) ∧ (Sl W (fun k => k = 0) u32v (some ⟨0, 0, none⟩) 64 64 rk) ∧ (fsF La.reverse Lb.reverse = fsF (La.reverse.drop xs.length) (Lb.reverse.drop xs.length)) ∧ (Ch No w W)) (fun c xs W => (c = Code.exit 0 ∧ (Blk W g4 38 #[.slice none 0 0]) ∧ (Blk W g5 38 #[.slice none 0 0]) ∧ (Blk W g6 4 #[.bool false]) ∧ (fsF La.reverse Lb.reverse = none) ∧ (Ch No w W)) ∨ (c = Code.ret ∧ ∃ A4 : Option Addr, ∃ l4 : Nat, ∃ c4 : Nat, ∃ A5 : Option Addr, ∃ l5 : Nat, ∃ c5 : Nat, ∃ ya : List UInt8, ∃ yb : List UInt8, (Blk W g4 38 #[.slice A4 l4 c4]) ∧ (Blk W g5 38 #[.slice A5 l5 c5]) ∧ (Blk W g6 4 #[.bool true]) ∧ (Sl W (fun k => (w4.heap.size + 2) ≤ k) u8v A4 l4 c4 ya) ∧ (Sl W (fun k => (w4.heap.size + 2) ≤ k) u8v A5 l5 c5 yb) ∧ (l4 ≤ 1000000000 ∧ l5 ≤ 1000000000) ∧ (fsF La.reverse Lb.reverse = some (ya, yb)) ∧ (Ch No w W))) ?hI ?hIx ?hIl ?hIxl ?hXI ?h0 ?hround ?hdone ?hstop
  case hseq =>
   intro l J Jx W hcW hsW hJ hJx hXJ hY hJ0
   exact (bes_any (fun xs A h => hXJ xs A h) (by omega) (by omega) hJ hJx hY hJ0).mono (fun e w' h => ⟨⟨_, h.1⟩, h.2⟩)
  case hI =>
   rintro xs A B ⟨hb4, hb5, hb6, hbA, hbB, hsA, hsB, hlA, hlB, hrnd, hfs, HC⟩ hc
   have hzB := hc.size
   have HC := HC.tr hc
   have hb4 := hb4.no hc
   have hb5 := hb5.no hc
   have hb6 := hb6.no hc
   have hbA := hbA.no hc
   have hbB := hbB.no hc
   have hsA := hsA.no hc
   have hsB := hsB.no hc
   have hlA := hlA.cc hc
   have hlB := hlB.cc hc
   have hrnd := hrnd.no hc
   exact ⟨hb4, hb5, hb6, hbA, hbB, hsA, hsB, hlA, hlB, hrnd, hfs, HC⟩
  case hIx =>
   rintro c xs A B (⟨hcx, hb4, hb5, hb6, hfs, HC⟩ | ⟨hcx, A4, l4, c4, A5, l5, c5, ya, yb, hb4, hb5, hb6, hy4, hy5, hl4, hfs, HC⟩) hc
   ·
    have hzB := hc.size
    have HC := HC.tr hc
    have hb4 := hb4.no hc
    have hb5 := hb5.no hc
    have hb6 := hb6.no hc
    exact .inl (⟨hcx, hb4, hb5, hb6, hfs, HC⟩)
   ·
    have hzB := hc.size
    have HC := HC.tr hc
    have hb4 := hb4.no hc
    have hb5 := hb5.no hc
    have hb6 := hb6.no hc
    have hy4 := hy4.no hc
    have hy5 := hy5.no hc
    exact .inr (⟨hcx, A4, l4, c4, A5, l5, c5, ya, yb, hb4, hb5, hb6, hy4, hy5, hl4, hfs, HC⟩)
  case hIl =>
   rintro xs A B ⟨hb4, hb5, hb6, hbA, hbB, hsA, hsB, hlA, hlB, hrnd, hfs, HC⟩ hc
   have hzB := hc.size
   have HC := HC.n hc
   have hb4 := hb4.cc hc
   have hb5 := hb5.cc hc
   have hb6 := hb6.cc hc
   have hbA := hbA.cc hc
   have hbB := hbB.cc hc
   first | have hsA := hsA.cc hc | have hsA := hsA.cT hc
   first | have hsB := hsB.cc hc | have hsB := hsB.cT hc
   have hlA := hlA.cc hc
   have hlB := hlB.cc hc
   first | have hrnd := hrnd.cc hc | have hrnd := hrnd.cT hc
   exact ⟨hb4, hb5, hb6, hbA, hbB, hsA, hsB, hlA, hlB, hrnd, hfs, HC⟩
  case hIxl =>
   rintro c xs A B (⟨hcx, hb4, hb5, hb6, hfs, HC⟩ | ⟨hcx, A4, l4, c4, A5, l5, c5, ya, yb, hb4, hb5, hb6, hy4, hy5, hl4, hfs, HC⟩) hc
   ·
    have hzB := hc.size
    have HC := HC.n hc
    have hb4 := hb4.cc hc
    have hb5 := hb5.cc hc
    have hb6 := hb6.cc hc
    exact .inl (⟨hcx, hb4, hb5, hb6, hfs, HC⟩)
   ·
    have hzB := hc.size
    have HC := HC.n hc
    have hb4 := hb4.cc hc
    have hb5 := hb5.cc hc
    have hb6 := hb6.cc hc
    first | have hy4 := hy4.cc hc | have hy4 := hy4.cT hc
    first | have hy5 := hy5.cc hc | have hy5 := hy5.cT hc
    exact .inr (⟨hcx, A4, l4, c4, A5, l5, c5, ya, yb, hb4, hb5, hb6, hy4, hy5, hl4, hfs, HC⟩)
  case hXI =>
   rintro xs W ⟨hb4, hb5, hb6, hbA, hbB, hsA, hsB, hlA, hlB, hrnd, hfs, HC⟩
   exact ⟨hbA, hbB, hsA, hsB⟩
  case h0 =>
   intro W hc hs
   have hzW := hc.size
   have HC := HC.tr hc
   have hb4 := hb4.no hc
   have hb5 := hb5.no hc
   have hb6 := hb6.no hc
   have hbA := hbA.no hc
   have hbB := hbB.no hc
   have hsA := hsA.no hc
   have hsB := hsB.no hc
   have hlA := hlA.cc hc
   have hlB := hlB.cc hc
   have hrnd := hrnd.no hc
   exact ⟨hb4, hb5, hb6, hbA, hbB, hsA, hsB, hlA, hlB, hrnd, rfl, HC⟩
  case hround =>
   intro l pre x W hl hD hsz hI a F
   subst hl
   obtain ⟨hb4, hb5, hb6, hbA, hbB, hsA, hsB, hlA, hlB, hrnd, hfs, HC⟩ := hI
   have hzW := HC.size
   obtain ⟨hDl, hDx⟩ : pre.length = x ∧ x < min la lb := hD
   have hxa := hlA (la - 1 - x) (by omega)
   have hxb := hlB (lb - 1 - x) (by omega)
   have hma := hla9 _ (getD_memG (xs := La) (i := la - 1 - x) (d := []) (by omega))
   have hmb := hlb9 _ (getD_memG (xs := Lb) (i := lb - 1 - x) (d := []) (by omega))
   have hfx := fsF_eq (xs := La) (ys := Lb) (n := x) hLa hLb (by omega) (by omega)
   rw [hDl] at hfs
   obtain ⟨xa, exa⟩ : ∃ z, z = La.getD (la - 1 - x) [] := ⟨_, rfl⟩
   obtain ⟨xb, exb⟩ : ∃ z, z = Lb.getD (lb - 1 - x) [] := ⟨_, rfl⟩
   rw [← exa] at hxa hma hfx
   rw [← exb] at hxb hmb hfx
   have hxal := hxa.len
   have hxbl := hxb.len
   refine (?_ : WCi _ _ _ _ _ _ _ _) _ (F.hand2 rfl rfl)
   have hB : Ch (fun k => k ≠ w4.heap.size + 1 ∧ k ≠ w4.heap.size) W W := Ch.refl _ _
   refine wci_seq (wci_region ?_)
   refine wli rfl rfl rfl (p_as rfl) ?_
   refine wli_nil (xi_seq (wci_region ?_))
   refine wli rfl rfl rfl (p_as rfl) ?_
   refine wli_nil ?_
   refine xi_asg hB (fun W2 hc hsW => ?_)
   have hzW2 := hc.size
   have HC := HC.n hc
   have hb4 := hb4.cc hc
   have hb5 := hb5.cc hc
   have hb6 := hb6.cc hc
   have hbA := hbA.cc hc
   have hbB := hbB.cc hc
   first | have hsA := hsA.cc hc | have hsA := hsA.cT hc
   first | have hsB := hsB.cc hc | have hsB := hsB.cT hc
   have hlA := hlA.cc hc
   have hlB := hlB.cc hc
   first | have hrnd := hrnd.cc hc | have hrnd := hrnd.cT hc
   first | have hxa := hxa.cc hc | have hxa := hxa.cT hc
   first | have hxb := hxb.cc hc | have hxb := hxb.cT hc
   have hB : Ch (fun k => k ≠ w4.heap.size + 1 ∧ k ≠ w4.heap.size) W2 W2 := Ch.refl _ _
   refine wci_block (wci_seq (wci_seq (wci_region ?_)))
   refine wli rfl rfl rfl (p_mv rfl) ?_
   refine wli rfl rfl rfl (p_mv rfl) ?_
   refine wlie rfl (by repeat (first | with_reducible exact no_stop | with_reducible exact no_false | with_reducible apply no_then | with_reducible apply no_in)) (e_call ent90 rfl rfl (beq_any (hxa) (hxb)) ?_)
   rintro _ w5 ⟨rfl, hc⟩
   refine ⟨_, rfl, ?_⟩
   have hzw5 := hc.size
   have HC := HC.tr hc
   have hB := hB.tr hc
   have hb4 := hb4.no hc
   have hb5 := hb5.no hc
   have hb6 := hb6.no hc
   have hbA := hbA.no hc
   have hbB := hbB.no hc
   have hsA := hsA.no hc
   have hsB := hsB.no hc
   have hlA := hlA.cc hc
   have hlB := hlB.cc hc
   have hrnd := hrnd.no hc
   have hxa := hxa.no hc
   have hxb := hxb.no hc
   refine wli_nil (xi_seq ?_)
   refine wci_if rfl (fun c0 => ?_) (fun c0 => ?_)
   ·
    have c0 := of_decide_eq_true c0
    refine wci_exit (x_then_exit (x_in_here ?_))
    exact wq_stop ⟨hb4, hb5, hb6, hbA, hbB, hsA, hsB, hlA, hlB, hrnd, (by rw [hfs, hfx, if_pos c0, List.length_append, hDl]; rfl), HC⟩ hB
   ·
    have c0 := of_decide_eq_false c0
    refine wci_skip (xi_seq (wci_seq (wci_seq (wci_region ?_))))
    refine wli rfl rfl rfl (p_mv rfl) ?_
    refine wlie rfl (by repeat (first | with_reducible exact no_stop | with_reducible exact no_false | with_reducible apply no_then | with_reducible apply no_in)) (e_call ent91 rfl rfl (sum_any (hxa) (by omega) hrnd) ?_)
    rintro _ w6 ⟨rfl, hc⟩
    refine ⟨_, rfl, ?_⟩
    have hzw6 := hc.size
    have HC := HC.tr hc
    have hB := hB.tr hc
    have hb4 := hb4.no hc
    have hb5 := hb5.no hc
    have hb6 := hb6.no hc
    have hbA := hbA.no hc
    have hbB := hbB.no hc
    have hsA := hsA.no hc
    have hsB := hsB.no hc
    have hlA := hlA.cc hc
    have hlB := hlB.cc hc
    have hrnd := hrnd.no hc
    have hxa := hxa.no hc
    have hxb := hxb.no hc
    refine wli rfl rfl rfl (p_mv rfl) ?_
    refine wlie rfl (by repeat (first | with_reducible exact no_stop | with_reducible exact no_false | with_reducible apply no_then | with_reducible apply no_in)) (e_call ent91 rfl rfl (sum_any (hxb) (by omega) hrnd) ?_)
    rintro _ w7 ⟨rfl, hc⟩
    refine ⟨_, rfl, ?_⟩
    have hzw7 := hc.size
    have HC := HC.tr hc
    have hB := hB.tr hc
    have hb4 := hb4.no hc
    have hb5 := hb5.no hc
    have hb6 := hb6.no hc
    have hbA := hbA.no hc
    have hbB := hbB.no hc
    have hsA := hsA.no hc
    have hsB := hsB.no hc
    have hlA := hlA.cc hc
    have hlB := hlB.cc hc
    have hrnd := hrnd.no hc
    have hxa := hxa.no hc
    have hxb := hxb.no hc
    refine wli rfl rfl rfl (p_neH (a := (shaF xa)) (b := (shaF xb)) (by kernel_rfl) underlying34 underlying5 sz5 rfl rfl (shaF_len _) (shaF_len _)) ?_
    refine wli_nil (xi_seq ?_)
    refine wci_if rfl (fun c1 => ?_) (fun c1 => ?_)
    ·
     refine wci_exit (x_then_exit (x_in_on rfl ?_))
     exact wq_stop_exit (.inl (⟨rfl, hb4, hb5, hb6, (by rw [hfs, hfx, if_neg c0, if_neg (by simpa using c1)]), HC⟩)) hB
    ·
     refine wci_skip (xi_seq (wci_seq (wci_region ?_)))
     refine wli rfl rfl rfl (p_mv rfl) ?_
     refine wlie rfl (by repeat (first | with_reducible exact no_stop | with_reducible exact no_false | with_reducible apply no_then | with_reducible apply no_in)) (e_call ent92 rfl rfl (own_any (hxa) (by omega)) ?_)
     rintro _ w8 ⟨A23, l23, c23, rfl, hB23, hBm23, hc⟩
     refine ⟨_, rfl, ?_⟩
     have hzw8 := hc.size
     have HC := HC.tr hc
     have hB := hB.tr hc
     have hb4 := hb4.no hc
     have hb5 := hb5.no hc
     have hb6 := hb6.no hc
     have hbA := hbA.no hc
     have hbB := hbB.no hc
     have hsA := hsA.no hc
     have hsB := hsB.no hc
     have hlA := hlA.cc hc
     have hlB := hlB.cc hc
     have hrnd := hrnd.no hc
     have hxa := hxa.no hc
     have hxb := hxb.no hc
     refine wli rfl rfl rfl (p_mv rfl) ?_
     refine wlie rfl (by repeat (first | with_reducible exact no_stop | with_reducible exact no_false | with_reducible apply no_then | with_reducible apply no_in)) (e_call ent92 rfl rfl (own_any (hxb) (by omega)) ?_)
     rintro _ w9 ⟨A25, l25, c25, rfl, hB25, hBm25, hc⟩
     refine ⟨_, rfl, ?_⟩
     have hzw9 := hc.size
     have HC := HC.tr hc
     have hB := hB.tr hc
     have hb4 := hb4.no hc
     have hb5 := hb5.no hc
     have hb6 := hb6.no hc
     have hbA := hbA.no hc
     have hbB := hbB.no hc
     have hsA := hsA.no hc
     have hsB := hsB.no hc
     have hlA := hlA.cc hc
     have hlB := hlB.cc hc
     have hrnd := hrnd.no hc
     have hxa := hxa.no hc
     have hxb := hxb.no hc
     have hB23 := hB23.no hc
     refine wlie rfl (by repeat (first | with_reducible exact no_stop | with_reducible exact no_false | with_reducible apply no_then | with_reducible apply no_in)) (e_st1 (by rfl) rfl rfl rfl hb4 (fun w10 hb4 hc hsz => ?_))
     have hzw10 := hc.size
     have HC := HC.n hc
     have hB := hB.trans hc (fun _ _ h => h) (fun k hk ht => by first | omega | (dsimp only at *; omega))
     have hb5 := hb5.cc hc
     have hb6 := hb6.cc hc
     have hbA := hbA.cc hc
     have hbB := hbB.cc hc
     first | have hsA := hsA.cc hc | have hsA := hsA.cT hc
     first | have hsB := hsB.cc hc | have hsB := hsB.cT hc
     have hlA := hlA.cc hc
     have hlB := hlB.cc hc
     first | have hrnd := hrnd.cc hc | have hrnd := hrnd.cT hc
     first | have hxa := hxa.cc hc | have hxa := hxa.cT hc
     first | have hxb := hxb.cc hc | have hxb := hxb.cT hc
     first | have hB23 := hB23.cc hc | have hB23 := hB23.cT hc
     first | have hB25 := hB25.cc hc | have hB25 := hB25.cT hc
     refine wlie rfl (by repeat (first | with_reducible exact no_stop | with_reducible exact no_false | with_reducible apply no_then | with_reducible apply no_in)) (e_st1 (by rfl) rfl rfl rfl hb5 (fun w11 hb5 hc hsz => ?_))
     have hzw11 := hc.size
     have HC := HC.n hc
     have hB := hB.trans hc (fun _ _ h => h) (fun k hk ht => by first | omega | (dsimp only at *; omega))
     have hb4 := hb4.cc hc
     have hb6 := hb6.cc hc
     have hbA := hbA.cc hc
     have hbB := hbB.cc hc
     first | have hsA := hsA.cc hc | have hsA := hsA.cT hc
     first | have hsB := hsB.cc hc | have hsB := hsB.cT hc
     have hlA := hlA.cc hc
     have hlB := hlB.cc hc
     first | have hrnd := hrnd.cc hc | have hrnd := hrnd.cT hc
     first | have hxa := hxa.cc hc | have hxa := hxa.cT hc
     first | have hxb := hxb.cc hc | have hxb := hxb.cT hc
     first | have hB23 := hB23.cc hc | have hB23 := hB23.cT hc
     first | have hB25 := hB25.cc hc | have hB25 := hB25.cT hc
     refine wlie rfl (by repeat (first | with_reducible exact no_stop | with_reducible exact no_false | with_reducible apply no_then | with_reducible apply no_in)) (e_st1 (by rfl) rfl rfl rfl hb6 (fun w12 hb6 hc hsz => ?_))
     have hzw12 := hc.size
     have HC := HC.n hc
     have hB := hB.trans hc (fun _ _ h => h) (fun k hk ht => by first | omega | (dsimp only at *; omega))
     have hb4 := hb4.cc hc
     have hb5 := hb5.cc hc
     have hbA := hbA.cc hc
     have hbB := hbB.cc hc
     first | have hsA := hsA.cc hc | have hsA := hsA.cT hc
     first | have hsB := hsB.cc hc | have hsB := hsB.cT hc
     have hlA := hlA.cc hc
     have hlB := hlB.cc hc
     first | have hrnd := hrnd.cc hc | have hrnd := hrnd.cT hc
     first | have hxa := hxa.cc hc | have hxa := hxa.cT hc
     first | have hxb := hxb.cc hc | have hxb := hxb.cT hc
     first | have hB23 := hB23.cc hc | have hB23 := hB23.cT hc
     first | have hB25 := hB25.cc hc | have hB25 := hB25.cT hc
     refine wli_nil (xi_seq (wci_ret (x_in_ret ?_)))
     exact wq_stop_ret (.inr (⟨rfl, A23, l23, c23, A25, l25, c25, xa, xb, hb4, hb5, hb6, (hB23.mono (fun k _ hk => by first | omega | (dsimp only at *; omega))), (hB25.mono (fun k _ hk => by first | omega | (dsimp only at *; omega))), ⟨hBm23, hBm25⟩, (by rw [hfs, hfx, if_neg c0, if_pos (by simpa using c1)]), HC⟩)) hB
  case hdone =>
   rintro xs W a' hS ⟨hb4, hb5, hb6, hbA, hbB, hsA, hsB, hlA, hlB, hrnd, hfs, HC⟩ hK F'
   refine wqd_ap ?_ F'
   have hzW := HC.size
   have hSl : xs.length = min la lb := hS
   rw [hSl, fsF_end hLa hLb rfl] at hfs
   refine xd_in_normal (xd_seq (wcd_seq (wcd_region ?_)))
   refine wlde rfl (e_st1 (by rfl) rfl rfl rfl hb4 (fun w13 hb4 hc hsz => ?_))
   have hzw13 := hc.size
   have HC := HC.n hc
   have hb5 := hb5.cc hc
   have hb6 := hb6.cc hc
   have hbA := hbA.cc hc
   have hbB := hbB.cc hc
   first | have hsA := hsA.cc hc | have hsA := hsA.cT hc
   first | have hsB := hsB.cc hc | have hsB := hsB.cT hc
   have hlA := hlA.cc hc
   have hlB := hlB.cc hc
   first | have hrnd := hrnd.cc hc | have hrnd := hrnd.cT hc
   have hK := hc.heap hK (by first | exact fun h => h | omega | (dsimp only; omega))
   refine wlde rfl (e_st1 (by rfl) rfl rfl rfl hb5 (fun w14 hb5 hc hsz => ?_))
   have hzw14 := hc.size
   have HC := HC.n hc
   have hb4 := hb4.cc hc
   have hb6 := hb6.cc hc
   have hbA := hbA.cc hc
   have hbB := hbB.cc hc
   first | have hsA := hsA.cc hc | have hsA := hsA.cT hc
   first | have hsB := hsB.cc hc | have hsB := hsB.cT hc
   have hlA := hlA.cc hc
   have hlB := hlB.cc hc
   first | have hrnd := hrnd.cc hc | have hrnd := hrnd.cT hc
   have hK := hc.heap hK (by first | exact fun h => h | omega | (dsimp only; omega))
   refine wlde rfl (e_st1 (by rfl) rfl rfl rfl hb6 (fun w15 hb6 hc hsz => ?_))
   have hzw15 := hc.size
   have HC := HC.n hc
   have hb4 := hb4.cc hc
   have hb5 := hb5.cc hc
   have hbA := hbA.cc hc
   have hbB := hbB.cc hc
   first | have hsA := hsA.cc hc | have hsA := hsA.cT hc
   first | have hsB := hsB.cc hc | have hsB := hsB.cT hc
   have hlA := hlA.cc hc
   have hlB := hlB.cc hc
   first | have hrnd := hrnd.cc hc | have hrnd := hrnd.cT hc
   have hK := hc.heap hK (by first | exact fun h => h | omega | (dsimp only; omega))
   refine wld_nil (xd_seq (wcd_ret ?_))
   refine fin_runM hK (fun w16 hc hsz => ?_)
   have hzw16 := hc.size
   have HC := HC.n hc
   have hb4 := hb4.cc hc
   have hb5 := hb5.cc hc
   have hb6 := hb6.cc hc
   have hbA := hbA.cc hc
   have hbB := hbB.cc hc
   first | have hsA := hsA.cc hc | have hsA := hsA.cT hc
   first | have hsB := hsB.cc hc | have hsB := hsB.cT hc
   have hlA := hlA.cc hc
   have hlB := hlB.cc hc
   first | have hrnd := hrnd.cc hc | have hrnd := hrnd.cT hc
   refine ⟨_, resMany (rs := [.cell 4 38, .cell 5 38, .cell 6 4]) rfl (.cell1 rfl underlying38 rfl (hb4.cell rfl) (.cell1 rfl underlying38 rfl (hb5.cell rfl) (.cell1 rfl underlying4 rfl (hb6.cell rfl) (.nil)))) rfl, ?_⟩
   exact ⟨none, 0, 0, none, 0, 0, [], [], false, rfl, Sl.nil, Sl.nil, by omega, by omega, .inr ⟨rfl, hfs⟩, HC⟩
  case hstop =>
   rintro c xs W a' hS (⟨rfl, hb4, hb5, hb6, hfs, HC⟩ | ⟨rfl, A4, l4, c4, A5, l5, c5, ya, yb, hb4, hb5, hb6, hy4, hy5, hl4, hfs, HC⟩) hK F'
   ·
    refine wp_exit (wqd_ap ?_ F')
    have hzW := HC.size
    refine xd_in_here (xd_seq (wcd_seq (wcd_region ?_)))
    refine wlde rfl (e_st1 (by rfl) rfl rfl rfl hb4 (fun w17 hb4 hc hsz => ?_))
    have hzw17 := hc.size
    have HC := HC.n hc
    have hb5 := hb5.cc hc
    have hb6 := hb6.cc hc
    have hK := hc.heap hK (by first | exact fun h => h | omega | (dsimp only; omega))
    refine wlde rfl (e_st1 (by rfl) rfl rfl rfl hb5 (fun w18 hb5 hc hsz => ?_))
    have hzw18 := hc.size
    have HC := HC.n hc
    have hb4 := hb4.cc hc
    have hb6 := hb6.cc hc
    have hK := hc.heap hK (by first | exact fun h => h | omega | (dsimp only; omega))
    refine wlde rfl (e_st1 (by rfl) rfl rfl rfl hb6 (fun w19 hb6 hc hsz => ?_))
    have hzw19 := hc.size
    have HC := HC.n hc
    have hb4 := hb4.cc hc
    have hb5 := hb5.cc hc
    have hK := hc.heap hK (by first | exact fun h => h | omega | (dsimp only; omega))
    refine wld_nil (xd_seq (wcd_ret ?_))
    refine fin_runM hK (fun w20 hc hsz => ?_)
    have hzw20 := hc.size
    have HC := HC.n hc
    have hb4 := hb4.cc hc
    have hb5 := hb5.cc hc
    have hb6 := hb6.cc hc
    refine ⟨_, resMany (rs := [.cell 4 38, .cell 5 38, .cell 6 4]) rfl (.cell1 rfl underlying38 rfl (hb4.cell rfl) (.cell1 rfl underlying38 rfl (hb5.cell rfl) (.cell1 rfl underlying4 rfl (hb6.cell rfl) (.nil)))) rfl, ?_⟩
    exact ⟨none, 0, 0, none, 0, 0, [], [], false, rfl, Sl.nil, Sl.nil, by omega, by omega, .inr ⟨rfl, hfs⟩, HC⟩
   ·
    refine wp_ret (wqd_ap ?_ F')
    have hzW := HC.size
    refine xd_in_ret (xd_then_ret ?_)
    refine fin_runM hK (fun w21 hc hsz => ?_)
    have hzw21 := hc.size
    have HC := HC.n hc
    have hb4 := hb4.cc hc
    have hb5 := hb5.cc hc
    have hb6 := hb6.cc hc
    first | have hy4 := hy4.cc hc | have hy4 := hy4.cT hc
    first | have hy5 := hy5.cc hc | have hy5 := hy5.cT hc
    refine ⟨_, resMany (rs := [.cell 4 38, .cell 5 38, .cell 6 4]) rfl (.cell1 rfl underlying38 rfl (hb4.cell rfl) (.cell1 rfl underlying38 rfl (hb5.cell rfl) (.cell1 rfl underlying4 rfl (hb6.cell rfl) (.nil)))) rfl, ?_⟩
    exact ⟨_, _, _, _, _, _, ya, yb, true, rfl, hy4.old, hy5.old, hl4.1, hl4.2, .inl ⟨rfl, hfs⟩, HC⟩

theorem leaves_any {w : World} {n i : Int} {Aa : Option Addr} {la ca : Nat} {Fa : Nat → Prop} {a : List UInt8} {Ap : Option Addr} {lp cp : Nat} {Fp : Nat → Prop} {p : List (List UInt8)} {Ab : Option Addr} {lb cb : Nat} {Fb : Nat → Prop} {b : List UInt8} {Aq : Option Addr} {lq cq : Nat} {Fq : Nat → Prop} {q : List (List UInt8)}  (ha : Sl w Fa u8v Aa la ca a) (hla : la ≤ 100000000) (hp : SI w Fp eHs Ap lp cp p) (hlp : lp ≤ 1000) (hb : Sl w Fb u8v Ab lb cb b) (hlb : lb ≤ 100000000) (hq : SI w Fq eHs Aq lq cq q) (hlq : lq ≤ 1000) (hrnd : Sl w (fun k => k = 0) u32v (some ⟨0, 0, none⟩) 64 64 rk) :
    Calls Tryz.prog 10 #[i64 n, i64 i, .slice Aa la ca, .slice Ap lp cp, .slice Ab lb cb, .slice Aq lq cq] w fun e w' => ∃ (A : Option Addr) (l c : Nat) (B : Option Addr) (l' c' : Nat) (x y : List UInt8) (f : Bool), e = .returned (.tuple #[.slice A l c, .slice B l' c', .bool f]) ∧ Sl w' (fun k => k < w'.heap.size) u8v A l c x ∧ Sl w' (fun k => k < w'.heap.size) u8v B l' c' y ∧ l ≤ 1000000000 ∧ l' ≤ 1000000000 ∧ (f = true → x ≠ y ∧ shaF x = shaF y) ∧ (f = false → (1 ≤ n ∧ n ≤ 1099511627776 ∧ 0 ≤ i ∧ i < n ∧ p.length = (trn n.toNat i.toNat).length) → (1 ≤ n ∧ n ≤ 1099511627776 ∧ 0 ≤ i ∧ i < n ∧ q.length = (trn n.toNat i.toNat).length) → fsF (wayUp (sd n.toNat i.toNat) p (0 :: a)).reverse (wayUp (sd n.toNat i.toNat) q (0 :: b)).reverse = none) ∧ Ch No w w' := by
  have hn0 : 0 < w.heap.size := hrnd.size (by omega) rfl
  have hn1 := hn0
  have ha := ha.old
  have hp := hp.old
  have hb := hb.old
  have hq := hq.old
  have HC : Ch No w w := Ch.refl _ _
  refine enter' (args := [i64 n, i64 i, .slice Aa la ca, .slice Ap lp cp, .slice Ab lb cb, .slice Aq lq cq]) (n := 47) Tryz.func10 rfl rfl rfl ?_
  refine wc_seq (wc_region ?_)
  iterate 3 refine was ?_
  refine wl_nil (x_seq (wc_seq (wc_region ?_)))
  iterate 4 refine wmv ?_
  refine wle rfl (e_call ent32 rfl rfl (ups_way (ha) (by omega) (hp) (by omega) hrnd) ?_)
  rintro _ w1 ⟨A24, l24, c24, ok24, rfl, hok24, hup24, hc⟩
  refine ⟨_, rfl, ?_⟩
  have hzw1 := hc.size
  have HC := HC.tr hc
  have ha := ha.no hc
  have hp := hp.no hc
  have hb := hb.no hc
  have hq := hq.no hc
  have hrnd := hrnd.no hc
  refine wmv ?_
  refine wz (p_ext rfl rfl) ?_
  refine wz (p_ext rfl rfl) ?_
  iterate 2 refine was ?_
  refine wl_nil (x_seq (wc_seq (wc_region ?_)))
  iterate 4 refine wmv ?_
  refine wle rfl (e_call ent32 rfl rfl (ups_way (hb) (by omega) (hq) (by omega) hrnd) ?_)
  rintro _ w2 ⟨A32, l32, c32, ok32, rfl, hok32, hup32, hc⟩
  refine ⟨_, rfl, ?_⟩
  have hzw2 := hc.size
  have HC := HC.tr hc
  have ha := ha.no hc
  have hp := hp.no hc
  have hb := hb.no hc
  have hq := hq.no hc
  have hrnd := hrnd.no hc
  have hup24 := fun h0 => (⟨(hup24 h0).1.no hc, (hup24 h0).2⟩ : _ ∧ _)
  refine wmv ?_
  refine wz (p_ext rfl rfl) ?_
  refine wz (p_ext rfl rfl) ?_
  iterate 2 refine was ?_
  refine wl_nil (x_seq (wc_seq (wc_seq (wc_region ?_))))
  refine wmv ?_
  refine wz (p_not rfl) ?_
  refine wmv ?_
  refine wl_split (d := 37) rfl (fun q37 => ?_) (fun q37 => ?_)
  ·
   iterate 2 refine wl_s gq rfl rfl ?_
   refine wz (p_pickT rfl rfl) ?_
   refine wl_nil (x_seq ?_)
   refine wc_yes rfl (rfl) ?_
   refine wc_seq (wc_region ?_)
   iterate 3 refine was ?_
   refine wl_nil (x_seq (wc_ret (x_then_ret ?_)))
   refine fin_run ((res3 rfl rfl rfl rfl)) ?_
   exact ⟨none, 0, 0, none, 0, 0, [], [], false, rfl, Sl.nil, Sl.nil, by omega, by omega, fun h => (by cases h), fun _ g1 g2 => absurd (hok24.2 g1) (by rw [show ok24 = false by simpa using q37]; decide), HC⟩
  ·
   refine wl_g gq rfl rfl (p_mv rfl) ?_
   refine wl_g gq rfl rfl (p_not rfl) ?_
   refine wz (p_pickF rfl rfl) ?_
   refine wl_nil (x_seq ?_)
   refine wc_if rfl (fun c0 => ?_) (fun c0 => ?_)
   ·
    refine wc_seq (wc_region ?_)
    iterate 3 refine was ?_
    refine wl_nil (x_seq (wc_ret (x_then_ret ?_)))
    refine fin_run ((res3 rfl rfl rfl rfl)) ?_
    exact ⟨none, 0, 0, none, 0, 0, [], [], false, rfl, Sl.nil, Sl.nil, by omega, by omega, fun h => (by cases h), fun _ g1 g2 => absurd (hok32.2 g2) (by rw [show ok32 = false by simpa using c0]; decide), HC⟩
   ·
    have ho1 : ok24 = true := by simpa using q37
    have ho2 : ok32 = true := by simpa using c0
    obtain ⟨hs1, hl1, hy1⟩ := hup24 ho1
    obtain ⟨hs2, hl2, hy2⟩ := hup32 ho2
    refine wc_skip (x_seq (wc_seq (wc_region ?_)))
    iterate 2 refine wmv ?_
    refine wle rfl (e_call ent33 rfl rfl (first_any hs1 hs2 (by omega) (by omega) hy1 hy2 hrnd) ?_)
    rintro _ w3 ⟨A43, l43, c43, B43, k43, d43, x43, y43, f43, rfl, hX, hY, hlx, hly, hf, hc⟩
    refine ⟨_, rfl, ?_⟩
    have hzw3 := hc.size
    have HC := HC.tr hc
    have ha := ha.no hc
    have hp := hp.no hc
    have hb := hb.no hc
    have hq := hq.no hc
    have hrnd := hrnd.no hc
    have hup24 := fun h0 => (⟨(hup24 h0).1.no hc, (hup24 h0).2⟩ : _ ∧ _)
    have hup32 := fun h0 => (⟨(hup32 h0).1.no hc, (hup32 h0).2⟩ : _ ∧ _)
    refine wz (p_ext rfl rfl) ?_
    refine wz (p_ext rfl rfl) ?_
    refine wz (p_ext rfl rfl) ?_
    iterate 3 refine was ?_
    refine wl_nil (x_seq (wc_ret ?_))
    refine fin_run ((res3 rfl rfl rfl rfl)) ?_
    exact ⟨_, _, _, _, _, _, x43, y43, f43, rfl, hX.old, hY.old, hlx, hly, fun h => (by rcases hf with ⟨_, h2⟩ | ⟨h2, _⟩; exact fsF_some h2; rw [h] at h2; cases h2), fun h _ _ => (by rcases hf with ⟨h2, _⟩ | ⟨_, h2⟩; rw [h] at h2; cases h2; exact h2), HC⟩

theorem Tabs.ch {w w' : World} {T : Nat → Prop} (h : Tabs w) (c : Ch T w w') (hn : ∀ k, k < 4 → ¬ T k) : Tabs w' :=
  ⟨h.rk.ch c (fun k hk => hn k (by have h1 : k = 0 := hk; omega)), h.nib.ch c (fun k hk => hn k (by have h1 : k = 1 := hk; omega)), h.d32.ch c (fun k hk => hn k (by have h1 : k = 2 := hk; omega)), h.d64.ch c (fun k hk => hn k (by have h1 : k = 3 := hk; omega))⟩

theorem Tabs.cc {w w' : World} {T : Nat → Prop} (h : Tabs w) (c : Ch T w w') (hn : ∀ k, k < 4 → ¬ T k := by intro k hk ht; first | exact ht | omega | (dsimp only at *; omega)) : Tabs w' := h.ch c hn
end Go.Proofs.YtdencdfdikmgbaaGreatDoor
