/-
 Own text, printed by a program of mine (wip/gx): what functions of the program do, walked operation by operation.
-/
import Derived.Test.YtdencdfdikmgbaaGreatDoorWm2
import Derived.Test.YtdencdfdikmgbaaGreatDoorProg
import Derived.Test.YtdencdfdikmgbaaGreatDoorTab
import Derived.Test.YtdencdfdikmgbaaGreatDoorZS
import Derived.Test.YtdencdfdikmgbaaGreatDoorRxWk
import Derived.Test.YtdencdfdikmgbaaGreatDoorZg0
set_option linter.unusedVariables false
set_option linter.unusedSimpArgs false
set_option maxHeartbeats 1000000
set_option maxRecDepth 20000
namespace Go.Proofs.YtdencdfdikmgbaaGreatDoor
open Go.RowKit Go.Gx
open Go.Plain
open Tryz
theorem oy {w : World} {x : RD} {Fx : Nat → Prop}  (hqx : SI w Fx ePR x.A x.l x.c x.ps) (hxa : x.key.size ≤ 140737488351232) (hxb : x.to.size ≤ 140737488351232) (hxc : x.l ≤ 140737488351232) (hgr : GoodR x.abs) :
    Calls Tryz.prog 94 #[.agg ([.bool x.sc, .string x.key, .string x.to, .slice x.A x.l x.c] : List Value).toArray] w fun e w' => e = .returned (.bool true) ∧ Ch No w w' := by
  have hqxl := hqx.len
  obtain ⟨r1, r2, r3, hG, hin, r6⟩ := hgr
  simp only [RD.abs] at r1 r2 r3 hG r6
  have hin : ∀ j, j < x.ps.length → InR x.abs (x.ps.getD j Pr0) := hin
  have hqx := hqx.old
  have HC : Ch No w w := Ch.refl _ _
  refine aH (args := [_]) (n := 49) Tryz.func94 rfl rfl rfl ?_
  refine ab (aa ?_)
  refine wle rfl (bg (cs := ([.bool x.sc, .string x.key, .string x.to, .slice x.A x.l x.c] : List Value).toArray) rfl rfl rfl (fun w1 g1 hg1 hb1 hc hsz1 => ?_))
  have hzw1 := hc.size
  have hge1 := HC.geo hg1
  have HC := HC.tr hc
  have hqx := hqx.no hc
  refine was ?_
  refine ac (ae (ab (ab (aa ?_))))
  refine wz (pfl 1 underlying54) ?_
  refine wz (aC underlying9 hb1) ?_
  refine wz (bQ underlying9 rfl) ?_
  refine wz (bM rfl rfl) ?_
  refine wmv ?_
  refine bH (d := 7) (b' := false) rfl (decide_eq_false (by omega)) ?_
  refine aq gq rfl rfl (pfl 2 underlying54) ?_
  refine aq gq rfl rfl (aC underlying9 hb1) ?_
  refine aq gq rfl rfl (bQ underlying9 rfl) ?_
  refine aq gq rfl rfl (bM rfl rfl) ?_
  refine wz (ar rfl rfl) ?_
  refine wmv ?_
  refine bH (d := 13) (b' := false) rfl (decide_eq_false (by omega)) ?_
  refine aq gq rfl rfl (pfl 3 underlying54) ?_
  refine aq gq rfl rfl (aC underlying23 hb1) ?_
  refine aq gq rfl rfl (aw underlying23 rfl) ?_
  refine aq gq rfl rfl (bM rfl rfl) ?_
  refine wz (ar rfl rfl) ?_
  refine wmv ?_
  refine bH (d := 19) (b' := false) rfl (decide_eq_false (by omega)) ?_
  refine aq gq rfl rfl (pfl 3 underlying54) ?_
  refine aq gq rfl rfl (aC underlying23 hb1) ?_
  refine bX gq (ai ent93 rfl rfl (jL (hqx) (by omega) hG) ?_)
  rintro _ w2 ⟨rfl, hc⟩
  refine ⟨_, rfl, ?_⟩
  have hzw2 := hc.size
  have HC := HC.tr hc
  have hqx := hqx.no hc
  have hb1 := hb1.no hc
  refine aq gq rfl rfl (bc rfl) ?_
  refine wz (ar rfl rfl) ?_
  refine ac (ae ?_)
  refine bx rfl (rfl) ?_
  refine al (ae (ab (ab (aa ?_))))
  refine wz (pfl 0 underlying54) ?_
  refine wz (aC underlying4 hb1) ?_
  refine wz (bc rfl) ?_
  refine wmv ?_
  refine az (d := 28) rfl (fun q28 => ?_) (fun q28 => ?_)
  rotate_left
  ·
   iterate 14 refine aM gq rfl rfl ?_
   refine wz (ar rfl rfl) ?_
   refine ac (ae ?_)
   refine bx rfl (rfl) ?_
   refine al (ae (ab (aa ?_)))
   refine wz (pfl 3 underlying54) ?_
   refine wz (aC underlying23 hb1) ?_
   refine wz (mc rfl) ?_
   refine wle rfl (ai rD rfl rfl (nl (x := x) (hqx) hb1 hin (by omega)) ?_)
   rintro _ w4 ⟨rfl, hc⟩
   refine ⟨_, rfl, ?_⟩
   have hzw4 := hc.size
   have HC := HC.tr hc
   refine wz (bc rfl) ?_
   refine was ?_
   refine ac (ae (ao ?_))
   refine aj ((aK rfl rfl)) ?_
   exact ⟨rfl, HC⟩
  refine aq gq rfl rfl (pfl 1 underlying54) ?_
  refine aq gq rfl rfl (aC underlying9 hb1) ?_
  refine aq gq rfl rfl (jc rfl rfl) ?_
  refine aq gq rfl rfl (aS rfl) ?_
  refine bH (d := 32) (b' := false) rfl (eq_nil (r6 (by simpa using q28)).1) ?_
  refine aq gq rfl rfl (pfl 2 underlying54) ?_
  refine aq gq rfl rfl (aC underlying9 hb1) ?_
  refine aq gq rfl rfl (iB rfl rfl) ?_
  refine aq gq rfl rfl (ar rfl rfl) ?_
  refine aq gq rfl rfl (aS rfl) ?_
  refine bH (d := 37) (b' := false) rfl ((by rw [oY (r6 (by simpa using q28)).2.1]; rfl)) ?_
  refine aq gq rfl rfl (pfl 3 underlying54) ?_
  refine aq gq rfl rfl (aC underlying23 hb1) ?_
  refine aq gq rfl rfl (aw underlying23 rfl) ?_
  refine aq gq rfl rfl (bM rfl rfl) ?_
  refine aq gq rfl rfl (ar rfl rfl) ?_
  refine wz (am rfl rfl) ?_
  refine ac (ae ?_)
  refine bx rfl (decide_eq_false (by have := (r6 (by simpa using q28)).2.2; omega)) ?_
  refine al (ae (ab (aa ?_)))
  refine wz (pfl 3 underlying54) ?_
  refine wz (aC underlying23 hb1) ?_
  refine wz (mc rfl) ?_
  refine wle rfl (ai rD rfl rfl (nl (x := x) (hqx) hb1 hin (by omega)) ?_)
  rintro _ w3 ⟨rfl, hc⟩
  refine ⟨_, rfl, ?_⟩
  have hzw3 := hc.size
  have HC := HC.tr hc
  refine wz (bc rfl) ?_
  refine was ?_
  refine ac (ae (ao ?_))
  refine aj ((aK rfl rfl)) ?_
  exact ⟨rfl, HC⟩

theorem oz {w : World} {sa na : Int} {ba : Bool} {Ara : Option Addr} {lra cra : Nat} {Fra : Nat → Prop} {ra : List RD} {Awa : Option Addr} {lwa cwa : Nat} {Fwa : Nat → Prop} {wa : List Pr} {Ga : Nat → Prop}  (hra : SI w Fra eRD Ara lra cra ra) (hwa : SI w Fwa ePR Awa lwa cwa wa) (hna : NS w Ga ra) (hlr : lra ≤ 140737488351232) (hlw : lwa ≤ 140737488351232) (hR : Right ⟨sa, na, ba, ra.map RD.abs, wa⟩) :
    Calls Tryz.prog 34 #[.agg ([i64 sa, i64 na, .bool ba, .slice Ara lra cra, .slice Awa lwa cwa] : List Value).toArray] w fun e w' => e = .returned (.bool true) ∧ Ch No w w' := by
  have hrla := hra.len
  have hwla := hwa.len
  have hna := hna.old
  obtain ⟨h1, h2, h3, h4, h5, h6, hG, h8, h9⟩ := right_iff.1 hR
  have hra := hra.old
  have hwa := hwa.old
  have HC : Ch No w w := Ch.refl _ _
  refine aH (args := [_]) (n := 69) Tryz.func34 rfl rfl rfl ?_
  refine ab (aa ?_)
  refine wle rfl (bg (cs := ([i64 sa, i64 na, .bool ba, .slice Ara lra cra, .slice Awa lwa cwa] : List Value).toArray) rfl rfl rfl (fun w1 g1 hg1 hb1 hc hsz1 => ?_))
  have hzw1 := hc.size
  have hge1 := HC.geo hg1
  have HC := HC.tr hc
  have hra := hra.no hc
  have hwa := hwa.no hc
  have hna := hna.cc hc
  refine was ?_
  refine ac (ae (ab (ab (aa ?_))))
  refine wz (pfl 0 underlying25) ?_
  refine wz (aC underlying3 hb1) ?_
  refine wz (aU rfl rfl) ?_
  refine wmv ?_
  refine bH (d := 9) (b' := false) rfl (decide_eq_false (by omega)) ?_
  refine aq gq rfl rfl (pfl 0 underlying25) ?_
  refine aq gq rfl rfl (aC underlying3 hb1) ?_
  refine aq gq rfl rfl (bM rfl rfl) ?_
  refine wz (ar rfl rfl) ?_
  refine wmv ?_
  refine bH (d := 14) (b' := false) rfl (decide_eq_false (by omega)) ?_
  refine aq gq rfl rfl (pfl 1 underlying25) ?_
  refine aq gq rfl rfl (aC underlying3 hb1) ?_
  refine aq gq rfl rfl (aU rfl rfl) ?_
  refine wz (ar rfl rfl) ?_
  refine wmv ?_
  refine bH (d := 19) (b' := false) rfl (decide_eq_false (by omega)) ?_
  refine aq gq rfl rfl (pfl 1 underlying25) ?_
  refine aq gq rfl rfl (aC underlying3 hb1) ?_
  refine aq gq rfl rfl (bM rfl rfl) ?_
  refine wz (ar rfl rfl) ?_
  refine ac (ae ?_)
  refine bx rfl (decide_eq_false (by omega)) ?_
  refine al (ae (ab (ab (aa ?_))))
  refine wz (pfl 3 underlying25) ?_
  refine wz (aC underlying22 hb1) ?_
  refine wz (aw underlying22 rfl) ?_
  refine wz (bM rfl rfl) ?_
  refine wmv ?_
  refine bH (d := 28) (b' := false) rfl (decide_eq_false (by omega)) ?_
  refine aq gq rfl rfl (pfl 4 underlying25) ?_
  refine aq gq rfl rfl (aC underlying23 hb1) ?_
  refine aq gq rfl rfl (aw underlying23 rfl) ?_
  refine aq gq rfl rfl (bM rfl rfl) ?_
  refine wz (ar rfl rfl) ?_
  refine wmv ?_
  refine bH (d := 34) (b' := false) rfl (decide_eq_false (by omega)) ?_
  refine aq gq rfl rfl (pfl 4 underlying25) ?_
  refine aq gq rfl rfl (aC underlying23 hb1) ?_
  refine bX gq (ai ent93 rfl rfl (jL (hwa) (by omega) hG) ?_)
  rintro _ w2 ⟨rfl, hc⟩
  refine ⟨_, rfl, ?_⟩
  have hzw2 := hc.size
  have HC := HC.tr hc
  have hra := hra.no hc
  have hwa := hwa.no hc
  have hna := hna.cc hc
  have hb1 := hb1.no hc
  refine aq gq rfl rfl (bc rfl) ?_
  refine wz (ar rfl rfl) ?_
  refine ac (ae ?_)
  refine bx rfl (rfl) ?_
  refine al (ae (ab (aa ?_)))
  have hltg1 := hb1.lt
  refine wle rfl (sO rfl (fun w3 g40 hg40 hm hc hsz40 => ?_))
  have hzw3 := hc.size
  have hge40 := HC.geo hg40
  have HC := HC.tr hc
  have hra := hra.no hc
  have hwa := hwa.no hc
  have hna := hna.cc hc
  have hb1 := hb1.no hc
  refine was ?_
  refine ac (ae (ab (ab (aa ?_))))
  refine wz (pfl 3 underlying25) ?_
  refine wz (aC underlying22 hb1) ?_
  refine wz (aw underlying22 rfl) ?_
  refine wmv ?_
  refine ac (ae (ap ?_))
  refine wcl (fun mz ez uz => ∃ i : Nat, ∃ ks : List ByteArray, mz = lra - i ∧ ez = [(1, .pointer (some ⟨g1, 0, none⟩)), (3, .map (some g40)), (42, .slice Ara lra cra), (43, i64 (lra : Int)), (44, i64 (i : Int))] ∧ (i ≤ lra) ∧ (∀ k ∈ ks, ∃ j, j < i ∧ (ra.getD j RD0).sc = false ∧ (ra.getD j RD0).key = k) ∧ (SM uz g40 ks) ∧ (SI uz (fun k => k < w.heap.size) eRD Ara lra cra ra) ∧ (SI uz (fun k => k < w.heap.size) ePR Awa lwa cwa wa) ∧ (NS uz (fun k => k < w.heap.size) ra) ∧ (Blk uz g1 25 ([i64 sa, i64 na, .bool ba, .slice Ara lra cra, .slice Awa lwa cwa] : List Value).toArray) ∧ (w.heap.size ≤ g1 ∧ w.heap.size ≤ g40 ∧ g1 < g40) ∧ (Ch No w uz))
   ⟨0, [], rfl, rfl, by omega, fun k h => absurd h List.not_mem_nil, hm, hra, hwa, hna, hb1, ⟨by omega, by omega, by omega⟩, HC⟩ ?_
  rintro m0 e w4 ⟨i, ks, hm0, rfl, hi, hseen, hm, hra, hwa, hna, hb1, hg1, HC⟩
  have hzw4 := HC.size
  refine ab (aa ?_)
  refine wz (aU rfl rfl) ?_
  refine ac (ae (ab ?_))
  refine aA rfl (fun c2 => ?_) (fun c2 => ?_)
  rotate_left
  ·
   have c2 := of_decide_eq_false c2
   refine aI (ah (ah (av (ae (ab (aa ?_))))))
   refine was ?_
   refine ac (ae (ao ?_))
   refine aj ((aK rfl rfl)) ?_
   exact ⟨rfl, HC⟩
  have c2 := of_decide_eq_true c2
  refine al (ae (ab (ap (ab (aa ?_)))))
  obtain ⟨b5, o5, x5, ex5, hA5, hr5, hx5a, hx5b, hx5c⟩ := rdR i hra
  refine wz (pxs underlying22 cM hA5) ?_
  have hqx5 := hna.get' ex5 (by have := True.intro; omega)
  have hqlx5 := hqx5.len
  have hgrx5 := h8 i (by omega); rw [← ex5] at hgrx5
  have hks : ∀ k ∈ ks, x5.sc = false → x5.key ≠ k := fun k hk hs he => by
    obtain ⟨j, hj, e1, e2⟩ := hseen k hk
    exact h9 i j (by omega) hj ⟨by rw [← ex5]; exact hs, e1, by rw [← ex5, e2]; exact he⟩
  refine wz (pla underlying54 cM hr5) ?_
  have hltg1 := hb1.lt
  refine wle rfl (eal [Value.bool false, Value.string ByteArray.empty, Value.string ByteArray.empty, Value.slice none 0 0] (fun w6 g5 hg5 hb5 hc hsz5 => ?_))
  have hzw6 := hc.size
  have hge5 := HC.geo hg5
  have HC := HC.tr hc
  have hra := hra.no hc
  have hwa := hwa.no hc
  have hna := hna.cc hc
  have hb1 := hb1.no hc
  have hltm := hm.lt; first | have hm := hm.no hc | have hm := hm.ch hc (by omega)
  have hqx5 := hqx5.no hc
  refine wle rfl (esw cM hb5 (fun w7 hb5 hc hsz => ?_))
  have hzw7 := hc.size
  have HC := HC.n hc
  first | have hra := hra.cc hc | have hra := hra.cT hc
  first | have hwa := hwa.cc hc | have hwa := hwa.cT hc
  have hna := hna.cc hc
  have hb1 := hb1.cc hc
  have hltm := hm.lt; first | have hm := hm.no hc | have hm := hm.ch hc (by omega)
  first | have hqx5 := hqx5.cc hc | have hqx5 := hqx5.cT hc
  refine ac (ae (ab (ab (aa ?_))))
  refine wz (pla underlying54 cM (aN hb5)) ?_
  refine wle rfl (ai ent94 rfl rfl (oy (x := x5) hqx5 hx5a hx5b hx5c hgrx5) ?_)
  rintro _ w8 ⟨rfl, hc⟩
  refine ⟨_, rfl, ?_⟩
  have hzw8 := hc.size
  have HC := HC.tr hc
  have hra := hra.no hc
  have hwa := hwa.no hc
  have hna := hna.cc hc
  have hb1 := hb1.no hc
  have hltm := hm.lt; first | have hm := hm.no hc | have hm := hm.ch hc (by omega)
  have hb5 := hb5.no hc
  refine wz (bc rfl) ?_
  refine wmv ?_
  refine aq gq rfl rfl (pfl 0 underlying54) ?_
  refine aq gq rfl rfl (aC underlying4 hb5) ?_
  refine aq gq rfl rfl (bc rfl) ?_
  refine aq gq rfl rfl (aS rfl) ?_
  refine az (d := 55) rfl (fun q55 => ?_) (fun q55 => ?_)
  ·
   refine aq gq rfl rfl (aS rfl) ?_
   refine aq gq rfl rfl (pfl 1 underlying54) ?_
   refine aq gq rfl rfl (aC underlying9 hb5) ?_
   refine aq gq rfl rfl (p_seen (ks := ks) underlying169 underlying9 (by kernel_rfl) rfl rfl (fun hk => hks _ hk (by simpa using q55) rfl) (fun _ e => e ▸ hm)) ?_
   refine aq gq rfl rfl (am rfl rfl) ?_
   refine wz (ar rfl rfl) ?_
   refine ac (ae ?_)
   refine bx rfl (rfl) ?_
   refine al (ae (ab (aa ?_)))
   refine wz (pfl 0 underlying54) ?_
   refine wz (aC underlying4 hb5) ?_
   refine wz (bc rfl) ?_
   refine ac (ae ?_)
   refine aA rfl (fun c4 => ?_) (fun c4 => ?_)
   rotate_left
   ·
    refine al (ak (ae (aa ?_)))
    refine wz (aF rfl rfl (w64 (by omega))) ?_
    refine wmv ?_
    refine ac ?_
    have hseen : ∀ k ∈ ks, ∃ j, j < i + 1 ∧ (ra.getD j RD0).sc = false ∧ (ra.getD j RD0).key = k := fun k hk => by obtain ⟨j, hj, e1, e2⟩ := hseen k hk; exact ⟨j, by omega, e1, e2⟩
    refine xrn ⟨i + 1, ks, rfl, rfl, by omega, hseen, hm, hra, hwa, hna, hb1, hg1, HC⟩
   refine aa ?_
   refine wmv ?_
   refine wz (pfl 1 underlying54) ?_
   refine wz (aC underlying9 hb5) ?_
   have hnew : x5.key ∉ ks := fun hk => hks _ hk (by simpa using c4) rfl
   refine wle rfl (e_see underlying169 underlying9 rfl rfl rfl hm hnew (fun w9 hm hc hsz => ?_))
   have hzw9 := hc.size
   have HC := HC.n hc
   first | have hra := hra.cc hc | have hra := hra.cT hc
   first | have hwa := hwa.cc hc | have hwa := hwa.cT hc
   have hna := hna.cc hc
   have hb1 := hb1.cc hc
   refine ac (ak (ae (aa ?_)))
   refine wz (aF rfl rfl (w64 (by omega))) ?_
   refine wmv ?_
   refine ac ?_
   have hseen : ∀ k ∈ ks ++ [x5.key], ∃ j, j < i + 1 ∧ (ra.getD j RD0).sc = false ∧ (ra.getD j RD0).key = k := fun k hk => by
     rcases List.mem_append.1 hk with h | h
     · obtain ⟨j, hj, e1, e2⟩ := hseen k h; exact ⟨j, by omega, e1, e2⟩
     have h : k = x5.key := by simpa using h
     exact ⟨i, by omega, by rw [← ex5]; simpa using c4, by rw [← ex5, h]⟩
   refine xrn ⟨i + 1, (ks ++ [x5.key]), rfl, rfl, by omega, hseen, hm, hra, hwa, hna, hb1, hg1, HC⟩
  iterate 4 refine aM gq rfl rfl ?_
  refine aq gq rfl rfl (ar rfl rfl) ?_
  refine wz (ar rfl rfl) ?_
  refine ac (ae ?_)
  refine bx rfl (rfl) ?_
  refine al (ae (ab (aa ?_)))
  refine wz (pfl 0 underlying54) ?_
  refine wz (aC underlying4 hb5) ?_
  refine wz (bc rfl) ?_
  refine ac (ae ?_)
  refine aA rfl (fun c4 => ?_) (fun c4 => ?_)
  rotate_left
  ·
   refine al (ak (ae (aa ?_)))
   refine wz (aF rfl rfl (w64 (by omega))) ?_
   refine wmv ?_
   refine ac ?_
   have hseen : ∀ k ∈ ks, ∃ j, j < i + 1 ∧ (ra.getD j RD0).sc = false ∧ (ra.getD j RD0).key = k := fun k hk => by obtain ⟨j, hj, e1, e2⟩ := hseen k hk; exact ⟨j, by omega, e1, e2⟩
   refine xrn ⟨i + 1, ks, rfl, rfl, by omega, hseen, hm, hra, hwa, hna, hb1, hg1, HC⟩
  refine aa ?_
  refine wmv ?_
  refine wz (pfl 1 underlying54) ?_
  refine wz (aC underlying9 hb5) ?_
  have hnew : x5.key ∉ ks := fun hk => hks _ hk (by simpa using c4) rfl
  refine wle rfl (e_see underlying169 underlying9 rfl rfl rfl hm hnew (fun w10 hm hc hsz => ?_))
  have hzw10 := hc.size
  have HC := HC.n hc
  first | have hra := hra.cc hc | have hra := hra.cT hc
  first | have hwa := hwa.cc hc | have hwa := hwa.cT hc
  have hna := hna.cc hc
  have hb1 := hb1.cc hc
  refine ac (ak (ae (aa ?_)))
  refine wz (aF rfl rfl (w64 (by omega))) ?_
  refine wmv ?_
  refine ac ?_
  have hseen : ∀ k ∈ ks ++ [x5.key], ∃ j, j < i + 1 ∧ (ra.getD j RD0).sc = false ∧ (ra.getD j RD0).key = k := fun k hk => by
    rcases List.mem_append.1 hk with h | h
    · obtain ⟨j, hj, e1, e2⟩ := hseen k h; exact ⟨j, by omega, e1, e2⟩
    have h : k = x5.key := by simpa using h
    exact ⟨i, by omega, by rw [← ex5]; simpa using c4, by rw [← ex5, h]⟩
  refine xrn ⟨i + 1, (ks ++ [x5.key]), rfl, rfl, by omega, hseen, hm, hra, hwa, hna, hb1, hg1, HC⟩

theorem kF {w : World} {sa na : Int} {ba : Bool} {Ara : Option Addr} {lra cra : Nat} {Fra : Nat → Prop} {ra : List RD} {Awa : Option Addr} {lwa cwa : Nat} {Fwa : Nat → Prop} {wa : List Pr} {Ga : Nat → Prop}  (hra : SI w Fra eRD Ara lra cra ra) (hwa : SI w Fwa ePR Awa lwa cwa wa) (hna : NS w Ga ra) (hlr : lra ≤ 140737488351232) (hlw : lwa ≤ 140737488351232) :
    Calls Tryz.prog 6 #[.agg ([i64 sa, i64 na, .bool ba, .slice Ara lra cra, .slice Awa lwa cwa] : List Value).toArray] w fun e w' => ∃ b, e = .returned (.bool b) ∧ (b = true → Right ⟨sa, na, ba, ra.map RD.abs, wa⟩) ∧ Ch No w w' := by
  have hrla := hra.len
  have hwla := hwa.len
  have hna := hna.old
  have hra := hra.old
  have hwa := hwa.old
  have HC : Ch No w w := Ch.refl _ _
  refine aH (args := [_]) (n := 11) Tryz.func6 rfl rfl rfl ?_
  refine ab (aa ?_)
  refine wle rfl (bg (cs := ([i64 sa, i64 na, .bool ba, .slice Ara lra cra, .slice Awa lwa cwa] : List Value).toArray) rfl rfl rfl (fun w1 g1 hg1 hb1 hc hsz1 => ?_))
  have hzw1 := hc.size
  have hge1 := HC.geo hg1
  have HC := HC.tr hc
  have hra := hra.no hc
  have hwa := hwa.no hc
  have hna := hna.cc hc
  refine was ?_
  refine ac (ae (ab (aa ?_)))
  refine wz (pla underlying25 ej (aN hb1)) ?_
  refine wle rfl (ai ent16 rfl rfl (jJ (hra) (hwa) hna (by omega) (by omega)) ?_)
  rintro _ w2 ⟨x4, rfl, hx4, hc⟩
  refine ⟨_, rfl, ?_⟩
  have hzw2 := hc.size
  have HC := HC.tr hc
  have hra := hra.no hc
  have hwa := hwa.no hc
  have hna := hna.cc hc
  have hb1 := hb1.no hc
  refine wmv ?_
  refine az (d := 5) rfl (fun q5 => ?_) (fun q5 => ?_)
  ·
   have hR := hx4.1 q5
   refine aq gq rfl rfl (pla underlying25 ej (aN hb1)) ?_
   refine bX gq (ai ent17 rfl rfl (jK (hra) (hwa) hna hR) ?_)
   rintro _ w3 ⟨A7, l7, c7, rfl, hB7, hn7, hc⟩
   refine ⟨_, rfl, ?_⟩
   have hzw3 := hc.size
   have HC := HC.tr hc
   refine aq gq rfl rfl (aw underlying38 rfl) ?_
   refine aq gq rfl rfl (qq rfl rfl) ?_
   refine wz (am rfl rfl) ?_
   refine was ?_
   refine ac (ae (ao ?_))
   refine aj ((aK rfl rfl)) ?_
   exact ⟨_, rfl, fun _ => hR, HC⟩
  iterate 4 refine aM gq rfl rfl ?_
  refine wz (ar rfl rfl) ?_
  refine was ?_
  refine ac (ae (ao ?_))
  refine aj ((aK rfl rfl)) ?_
  exact ⟨false, rfl, fun h => (by cases h), HC⟩

theorem oA {w : World} {sa na : Int} {ba : Bool} {Ara : Option Addr} {lra cra : Nat} {Fra : Nat → Prop} {ra : List RD} {Awa : Option Addr} {lwa cwa : Nat} {Fwa : Nat → Prop} {wa : List Pr} {Ga : Nat → Prop}  (hra : SI w Fra eRD Ara lra cra ra) (hwa : SI w Fwa ePR Awa lwa cwa wa) (hna : NS w Ga ra) (hlr : lra ≤ 140737488351232) (hlw : lwa ≤ 140737488351232) (hR : Right ⟨sa, na, ba, ra.map RD.abs, wa⟩) :
  Calls Tryz.prog 31 #[.agg ([i64 sa, i64 na, .bool ba, .slice Ara lra cra, .slice Awa lwa cwa] : List Value).toArray] w fun e w' => ∃ A' l' c', e = .returned (.slice A' l' c') ∧ Sl w' (fun k => k < w'.heap.size) u8v A' l' c' (cd ⟨sa, na, ba, ra.map RD.abs, wa⟩) ∧ l' ≤ 14000000 ∧ Ch No w w' := by
 have hrla := hra.len
 have hwla := hwa.len
 have hna := hna.old
 have hra := hra.old
 have hwa := hwa.old
 have HC : Ch No w w := Ch.refl _ _
 refine aH (args := [_]) (n := 8) Tryz.func31 rfl rfl rfl ?_
 refine ab (aa ?_)
 refine wle rfl (bg (cs := ([i64 sa, i64 na, .bool ba, .slice Ara lra cra, .slice Awa lwa cwa] : List Value).toArray) rfl rfl rfl (fun w1 g1 hg1 hb1 hc hsz1 => ?_))
 have hzw1 := hc.size
 have hge1 := HC.geo hg1
 have HC := HC.tr hc
 have hra := hra.no hc
 have hwa := hwa.no hc
 have hna := hna.cc hc
 refine was ?_
 refine ac (ae (ab (ab (aa ?_))))
 refine wz (pla underlying25 ej (aN hb1)) ?_
 refine wle rfl (ai ent16 rfl rfl (jJ (hra) (hwa) hna (by omega) (by omega)) ?_)
 rintro _ w2 ⟨x4, rfl, hx4, hc⟩
 refine ⟨_, rfl, ?_⟩
 have hzw2 := hc.size
 have HC := HC.tr hc
 have hra := hra.no hc
 have hwa := hwa.no hc
 have hna := hna.cc hc
 have hb1 := hb1.no hc
 refine wz (bc rfl) ?_
 refine ac (ae ?_)
 refine bx rfl ((by rw [hx4.2 hR]; rfl)) ?_
 refine al (ae (ab (aa ?_)))
 refine wz (pla underlying25 ej (aN hb1)) ?_
 refine wle rfl (ai ent17 rfl rfl (jK (hra) (hwa) hna hR) ?_)
 rintro _ w3 ⟨A7, l7, c7, rfl, hB7, hn7, hc⟩
 refine ⟨_, rfl, ?_⟩
 have hzw3 := hc.size
 have HC := HC.tr hc
 refine was ?_
 refine ac (ae (ao ?_))
 refine aj ((aK rfl rfl)) ?_
 exact ⟨_, _, _, rfl, hB7.old, hn7, HC⟩

theorem jM {w : World} {sa na : Int} {ba : Bool} {Ara : Option Addr} {lra cra : Nat} {Fra : Nat → Prop} {ra : List RD} {Awa : Option Addr} {lwa cwa : Nat} {Fwa : Nat → Prop} {wa : List Pr} {Ga : Nat → Prop}  (hra : SI w Fra eRD Ara lra cra ra) (hwa : SI w Fwa ePR Awa lwa cwa wa) (hna : NS w Ga ra) (hlr : lra ≤ 140737488351232) (hlw : lwa ≤ 140737488351232) (hR : Right ⟨sa, na, ba, ra.map RD.abs, wa⟩) :
  Calls Tryz.prog 11 #[.agg ([i64 sa, i64 na, .bool ba, .slice Ara lra cra, .slice Awa lwa cwa] : List Value).toArray] w fun e w' => ∃ A' l' c', e = .returned (.slice A' l' c') ∧ Sl w' (fun k => k < w'.heap.size) u8v A' l' c' (cd ⟨sa, na, ba, ra.map RD.abs, wa⟩) ∧ l' ≤ 14000000 ∧ Ch No w w' := by
 have hrla := hra.len
 have hwla := hwa.len
 have hna := hna.old
 have hra := hra.old
 have hwa := hwa.old
 have HC : Ch No w w := Ch.refl _ _
 refine aH (args := [_]) (n := 8) Tryz.func11 rfl rfl rfl ?_
 refine ab (aa ?_)
 refine wle rfl (bg (cs := ([i64 sa, i64 na, .bool ba, .slice Ara lra cra, .slice Awa lwa cwa] : List Value).toArray) rfl rfl rfl (fun w1 g1 hg1 hb1 hc hsz1 => ?_))
 have hzw1 := hc.size
 have hge1 := HC.geo hg1
 have HC := HC.tr hc
 have hra := hra.no hc
 have hwa := hwa.no hc
 have hna := hna.cc hc
 refine was ?_
 refine ac (ae (ab (ab (aa ?_))))
 refine wz (pla underlying25 ej (aN hb1)) ?_
 refine wle rfl (ai ent34 rfl rfl (oz (hra) (hwa) hna (by omega) (by omega) hR) ?_)
 rintro _ w2 ⟨rfl, hc⟩
 refine ⟨_, rfl, ?_⟩
 have hzw2 := hc.size
 have HC := HC.tr hc
 have hra := hra.no hc
 have hwa := hwa.no hc
 have hna := hna.cc hc
 have hb1 := hb1.no hc
 refine wz (bc rfl) ?_
 refine ac (ae ?_)
 refine bx rfl (rfl) ?_
 refine al (ae (ab (aa ?_)))
 refine wz (pla underlying25 ej (aN hb1)) ?_
 refine wle rfl (ai ent35 rfl rfl (ox (hra) (hwa) hna hR) ?_)
 rintro _ w3 ⟨A7, l7, c7, rfl, hB7, hn7, hc⟩
 refine ⟨_, rfl, ?_⟩
 have hzw3 := hc.size
 have HC := HC.tr hc
 refine was ?_
 refine ac (ae (ao ?_))
 refine aj ((aK rfl rfl)) ?_
 exact ⟨_, _, _, rfl, hB7.old, hn7, HC⟩

theorem cA {w : World} {x : BitVec 32} {n : Nat} (hn : n ≤ 31) :
  Calls Tryz.prog 98 #[aO x, dM n] w fun e w' => e = .returned (aO (ia x n)) ∧ Ch No w w' := by
 have HC : Ch No w w := Ch.refl _ _
 refine aH (args := [aO x, dM n]) (n := 13) Tryz.func98 rfl rfl rfl ?_
 refine ab (aa ?_)
 refine was ?_
 refine ac (ae (ab (aa ?_)))
 iterate 2 refine wmv ?_
 refine wz (cB (Y := n) rfl rfl) ?_
 iterate 2 refine wmv ?_
 refine wz (aZ (Z := ((32 - n : Nat) : Int)) rfl rfl (by rw [eR (by omega)]; omega)) ?_
 refine wz (dC (Y := 32 - n) rfl rfl) ?_
 refine wz (dN rfl rfl) ?_
 refine was ?_
 refine ac (ae (ao ?_))
 refine aj ((aK rfl rfl)) ?_
 exact ⟨rfl, HC⟩

theorem tx {w : World}   :
  Calls Tryz.prog 99 #[] w fun e w' => e = .returned (.agg (rk.map aO).toArray) ∧ Ch No w w' := by
 have HC : Ch No w w := Ch.refl _ _
 refine aH (args := []) (n := 2) Tryz.func99 rfl rfl rfl ?_
 refine ab (aa ?_)
 refine wle rfl (bz (cs := ((List.replicate 64 0#32).map aO).toArray) rfl (by rfl) rfl (fun w1 g0 hg0 hb0 hc hsz0 => ?_))
 have hzw1 := hc.size
 have hge0 := HC.geo hg0
 have HC := HC.tr hc
 refine ac (ae (ab (aa ?_)))
 refine wz (bI (cs := (rk.map aO).toArray) rfl (fun _ => by kernel_rfl)) ?_
 refine wle rfl (cV (vs := (rk.map aO)) (by kernel_rfl) (dZ bK _) rfl rfl hb0 (by kernel_rfl) (fun w2 hb0 hc hsz => ?_))
 have hzw2 := hc.size
 have HC := HC.n hc
 refine ac (ae (ao ?_))
 refine aj (fN rfl rfl underlying172 rfl (by kernel_rfl) (aN hb0)) ?_
 exact ⟨rfl, HC⟩

theorem oB {w : World} {Ab : Option Addr} {lb cb : Nat} {Fb : Nat → Prop} {b : List UInt8} (hb : Sl w Fb u8v Ab lb cb b) (hl : lb ≤ 1099511627776) :
    Calls Tryz.prog 36 #[.slice Ab lb cb] w fun e w' => ∃ A c, e = .returned (.slice A (lb + 1 + nz b.length + 8) c) ∧ Row w' (fun k => w.heap.size ≤ k) 5 1 (.slice A (lb + 1 + nz b.length + 8) c) (lb + 1 + nz b.length + 8) ((pad b).map u8v) ∧ Ch No w w' := by
  have hbl := hb.len
  have hnz : nz b.length < 64 := by unfold nz; omega
  have hb := hb.old
  have HC : Ch No w w := Ch.refl _ _
  refine aH (args := [.slice Ab lb cb]) (n := 36) Tryz.func36 rfl rfl rfl ?_
  refine ab (aa ?_)
  refine was ?_
  refine ac (ae (ab (aa ?_)))
  refine wle rfl (iD (cs := #[]) (E := 5) rfl rfl (fun _ => by kernel_rfl) (fun w1 g6 hg6 hb6 hc hsz6 => ?_))
  have hzw1 := hc.size
  have hge6 := HC.geo hg6
  have HC := HC.tr hc
  have hb := hb.no hc
  have hW6 := Row.lit (l := 0) (f := u8v) (xs := []) (F := fun k => g6 ≤ k) hb6 (by first | omega | (dsimp only; omega)) rfl rfl (by simp [maxLen])
  refine wmv ?_
  refine wle rfl (bJ rfl dt aX rfl rfl hW6 hb (by omega) (by intro k hk; first | omega | (dsimp only at *; omega)) (fun w2 A8 c8 hW6 hc => ?_))
  have hzw2 := hc.size
  have HC := HC.q hc
  first | have hb := hb.cc hc | have hb := hb.cT hc
  refine wle rfl (aT (E := 5) rfl rfl (fun _ => by kernel_rfl) (fun w3 g9 hg9 hb9 hc hsz9 => ?_))
  have hzw3 := hc.size
  have hge9 := HC.geo hg9
  have HC := HC.tr hc
  have hb := hb.no hc
  have hW6 := hW6.after hc
  have hS9 := Sl.lit1 (f := u8v) (x := 128) hb9
  refine wle rfl (bJ rfl dt aX rfl rfl hW6 hS9 (by omega) (by intro k hk; first | omega | (dsimp only at *; omega)) (fun w4 A10 c10 hW6 hc => ?_))
  have hzw4 := hc.size
  have HC := HC.q hc
  first | have hb := hb.cc hc | have hb := hb.cT hc
  refine was ?_
  refine ac (ae (ab (ap ?_)))
  refine ek (e' := [(0, .slice Ab lb cb), (3, .slice (A10) (lb + 1 + (0)) (c10))]) (fun mz ez uz => ∃ j : Nat, ∃ A : Option Addr, ∃ c : Nat, mz = nz b.length - j ∧ ez = [(0, .slice Ab lb cb), (3, .slice A (lb + 1 + j) c)] ∧ (j ≤ nz b.length) ∧ (Row uz (fun k => w.heap.size ≤ k) 5 1 (.slice A (lb + 1 + j) c) (lb + 1 + j) ((pz b j).map u8v)) ∧ (Sl uz (fun k => k < w.heap.size) u8v Ab lb cb b) ∧ (Ch No w uz))
   ⟨rfl, (congrArg (fun z => some (Value.slice A10 z c10)) (show 0 + lb + 1 = lb + 1 + 0 by omega)), trivial⟩ ⟨0, A10, c10, rfl, rfl, by omega, by rw [show lb + 1 + 0 = 0 + lb + 1 by omega]; exact hW6.mono (fun k _ hk => by first | omega | (dsimp only at *; omega)), hb, HC⟩ ?_
  rintro m0 e w5 ⟨j, A, c, hm0, rfl, hj, hW6, hb, HC⟩
  have hzw5 := HC.size
  have hpl := k7 (m := b) (j := j)
  refine ab (ab (aa ?_))
  refine wmv ?_
  refine wz (aw underlying38 rfl) ?_
  refine wz (l6 (Z := (((pz b j).length % 64 : Nat) : Int)) rfl rfl (by omega) (by rw [k7, hbl]; rfl)) ?_
  refine wz (jQ rfl rfl) ?_
  refine ac (ae ?_)
  refine aA rfl (fun c0 => ?_) (fun c0 => ?_)
  ·
   have c0 := of_decide_eq_true c0
   have hjn : j < nz b.length := nz_on hj (fun e => c0 (by rw [hpl, e]; rfl))
   refine al (ae (ap (aa ?_)))
   refine wmv ?_
   refine wle rfl (aT (E := 5) rfl rfl (fun _ => by kernel_rfl) (fun w6 g16 hg16 hb16 hc hsz16 => ?_))
   have hzw6 := hc.size
   have hge16 := HC.geo hg16
   have HC := HC.tr hc
   have hb := hb.no hc
   have hW6 := hW6.after hc
   have hS16 := Sl.lit1 (f := u8v) (x := 0) hb16
   refine wle rfl (bJ rfl dt aX rfl rfl hW6 hS16 (by omega) (by intro k hk; first | omega | (dsimp only at *; omega)) (fun w7 A17 c17 hW6 hc => ?_))
   have hzw7 := hc.size
   have HC := HC.q hc
   first | have hb := hb.cc hc | have hb := hb.cT hc
   refine was ?_
   refine ac (ak ?_)
   refine xrn ⟨j + 1, A17, c17, rfl, rfl, by omega, by rw [← pc]; exact hW6.mono (fun k _ hk => by first | omega | (dsimp only at *; omega)), hb, HC⟩
  have c0 := of_decide_eq_false c0
  have hjn : j = nz b.length := pb hj (by rw [hpl] at c0; omega)
  subst hjn
  rw [pd] at hW6
  refine aI (ah (ah (av (ae (ab (aa ?_))))))
  refine wmv ?_
  refine wz (aw underlying38 rfl) ?_
  refine wz (bB underlying3 underlying102 rfl (eR (by omega))) ?_
  refine wz (cH (Z := ((8 * b.length : Nat) : Int)) rfl rfl (by rw [eR (by omega)]; omega)) ?_
  refine was ?_
  refine ac (ae (ab (ab (aa ?_))))
  refine was ?_
  refine ac (ae (ap ?_))
  refine wcl (fun mz ez uz => ∃ k : Nat, ∃ A : Option Addr, ∃ c : Nat, mz = 8 - k ∧ ez = [(0, .slice Ab lb cb), (3, .slice A (lb + 1 + nz b.length + k) c), (4, dM (8 * b.length)), (5, i64 (7 - (k : Int)))] ∧ (k ≤ 8) ∧ (Row uz (fun k => w.heap.size ≤ k) 5 1 (.slice A (lb + 1 + nz b.length + k) c) (lb + 1 + nz b.length + k) ((pq b k).map u8v)) ∧ (Sl uz (fun k => k < w.heap.size) u8v Ab lb cb b) ∧ (Ch No w uz))
   ⟨0, A, c, rfl, rfl, by omega, hW6.mono (fun k _ hk => by first | omega | (dsimp only at *; omega)), hb, HC⟩ ?_
  rintro m1 e w8 ⟨k, A, c, hm1, rfl, hk, hW6, hb, HC⟩
  have hzw8 := HC.size
  refine ab (ab (aa ?_))
  refine wmv ?_
  refine wz (gR rfl rfl) ?_
  refine ac (ae ?_)
  refine aA rfl (fun c1 => ?_) (fun c1 => ?_)
  rotate_left
  ·
   have c1 := of_decide_eq_false c1
   obtain rfl : k = 8 := by omega
   rw [sA] at hW6
   refine aI (ah (ah (av (ae (ab (aa ?_))))))
   refine wmv ?_
   refine was ?_
   refine ac (ae (ao ?_))
   refine aj ((aK rfl rfl)) ?_
   exact ⟨_, _, rfl, hW6, HC⟩
  have c1 := of_decide_eq_true c1
  refine al (ae (ab (ap (aa ?_))))
  iterate 2 refine wmv ?_
  refine wz (aS (v := i64 ((7 - k : Nat) : Int)) (show some (i64 (7 - (k : Int))) = some (i64 ((7 - k : Nat) : Int)) from congrArg some (congrArg i64 (by omega)))) ?_
  refine wz (cH (Z := ((56 - 8 * k : Nat) : Int)) rfl rfl (by rw [w64 (by omega)]; omega)) ?_
  refine wz (bB underlying3 underlying85 rfl (eR (by omega))) ?_
  refine wz (eV (Y := 56 - 8 * k) rfl rfl (Nat.ble_eq_true_of_le (show 56 - 8 * k ≤ 64 by omega))) ?_
  refine wz (bZ underlying102 underlying5 rfl) ?_
  refine wle rfl (aT (E := 5) rfl rfl (fun _ => by kernel_rfl) (fun w9 g33 hg33 hb33 hc hsz33 => ?_))
  have hzw9 := hc.size
  have hge33 := HC.geo hg33
  have HC := HC.tr hc
  have hb := hb.no hc
  have hW6 := hW6.after hc
  have hS33 := Sl.lit1 (f := u8v) hb33
  refine wle rfl (bJ rfl dt aX rfl rfl hW6 hS33 (by omega) (by intro k hk; first | omega | (dsimp only at *; omega)) (fun w10 A34 c34 hW6 hc => ?_))
  have hzw10 := hc.size
  have HC := HC.q hc
  first | have hb := hb.cc hc | have hb := hb.cT hc
  refine was ?_
  refine ac (ak (ae (aa ?_)))
  refine wmv ?_
  refine wz (aZ rfl rfl (w64 (by omega))) ?_
  refine was ?_
  refine ac ?_
  refine bG (e' := [(0, .slice Ab lb cb), (3, .slice (A34) (lb + 1 + nz b.length + (k + 1)) (c34)), (4, dM (8 * b.length)), (5, i64 (7 - ((k + 1) : Int)))]) ⟨rfl, rfl, rfl, (congrArg some (congrArg i64 (by omega))), trivial⟩ (by rw [hm1]; omega) ⟨k + 1, A34, c34, rfl, rfl, by omega, by rw [← pf (by omega)]; exact hW6.mono (fun k _ hk => by first | omega | (dsimp only at *; omega)), hb, HC⟩

theorem oC {w : World} {Ab : Option Addr} {lb cb : Nat} {Fb : Nat → Prop} {b : List UInt8} {h : List W32} (hb : Sl w Fb u8v Ab lb cb b) (hh : h.length = 8) (hlb : lb = 64) :
    Calls Tryz.prog 37 #[.agg (h.map aO).toArray, .slice Ab lb cb] w fun e w' => e = .returned (.agg ((cmp h b).map aO).toArray) ∧ Ch No w w' := by
  have hbl := hb.len
  have hsl := dI b 64
  have hb := hb.old
  have HC : Ch No w w := Ch.refl _ _
  refine aH (args := [.agg (h.map aO).toArray, .slice Ab lb cb]) (n := 195) Tryz.func37 rfl rfl rfl ?_
  refine ab (aa ?_)
  refine wle rfl (bg rfl rfl rfl (fun w1 g2 hg2 hb2 hc hsz2 => ?_))
  have hzw1 := hc.size
  have hge2 := HC.geo hg2
  have HC := HC.tr hc
  have hb := hb.no hc
  have hltg2 := hb2.lt
  refine wle rfl (bz (cs := ((List.replicate 8 0#32).map aO).toArray) rfl (by rfl) rfl (fun w2 g4 hg4 hb4 hc hsz4 => ?_))
  have hzw2 := hc.size
  have hge4 := HC.geo hg4
  have HC := HC.tr hc
  have hb := hb.no hc
  have hb2 := hb2.no hc
  refine ac (ae (ab (aa ?_)))
  have hltg2 := hb2.lt
  have hltg4 := hb4.lt
  refine wle rfl (bz (cs := ((List.replicate 64 0#32).map aO).toArray) rfl (by rfl) rfl (fun w3 g5 hg5 hb5 hc hsz5 => ?_))
  have hzw3 := hc.size
  have hge5 := HC.geo hg5
  have HC := HC.tr hc
  have hb := hb.no hc
  have hb2 := hb2.no hc
  have hb4 := hb4.no hc
  refine ac (ae (ab (ab (aa ?_))))
  refine was ?_
  refine ac (ae (ap ?_))
  refine wcl (fun mz ez uz => ∃ t : Nat, mz = 16 - t ∧ ez = [(0, .agg (h.map aO).toArray), (1, .slice Ab lb cb), (2, .pointer (some ⟨g2, 0, none⟩)), (4, .pointer (some ⟨g4, 0, none⟩)), (5, .pointer (some ⟨g5, 0, none⟩)), (6, i64 (t : Int))] ∧ (t ≤ 16) ∧ (Sl uz (fun k => k < w.heap.size) u8v Ab lb cb b) ∧ (Blk uz g2 82 ((h).map aO).toArray) ∧ (Blk uz g4 82 ((List.replicate 8 0#32).map aO).toArray) ∧ (Blk uz g5 172 ((eu b t).map aO).toArray) ∧ (Ch No w uz))
   ⟨0, rfl, rfl, by omega, hb, hb2, hb4, by rw [jZ]; exact hb5, HC⟩ ?_
  rintro m0 e w4 ⟨t, hm0, rfl, ht, hb, hb2, hb4, hb5, HC⟩
  have hzw4 := HC.size
  have hzl := jq b (t := t) (by omega)
  refine ab (ab (aa ?_))
  refine wmv ?_
  refine wz (aU rfl rfl) ?_
  refine ac (ae ?_)
  refine aA rfl (fun c0 => ?_) (fun c0 => ?_)
  ·
   have c0 := of_decide_eq_true c0
   refine al (ae (ab (ap ?_)))
   refine wdr (.q 0 [0, 0, 0, 0, 0, 1, 0, 0, 0, 0, 0, 0, 0, 1, 0, 0, 0, 0, 0, 0, 0, 0, 1, 0, 0, 0, 0, 0, 0, 0, 0, 1, 0, 0, 0, 3] .nil) 35 No (fun w5 hc hszw5 => ?_)
   have hzw5 := hc.size
   have HC := HC.tr hc
   have hb := hb.no hc
   have hb2 := hb2.no hc
   have hb4 := hb4.no hc
   have hb5 := hb5.no hc
   have hS : Ch No w5 w5 := Ch.refl _ _
   iterate 3 refine wsm ?_
   refine ws1 rfl (cH (Z := ((4 * t : Nat) : Int)) rfl rfl (by rw [w64 (by omega)]; omega)) ?_
   obtain ⟨b6, o6, hA6, hF6, hc6⟩ := (hb).opn (d := 0) (by omega)
   refine ws1 rfl (dO underlying38 sz5 rfl hA6 rfl (by omega) (by omega) (Int.toNat_natCast _)) ?_
   refine ws2 rfl (aE underlying5 rfl rfl (fun _ h => h.cell (fun h => h) (hc6 _ (by omega)))) ?_
   refine ws1 rfl (cI underlying5 underlying81 rfl) ?_
   refine ws1 rfl (dC (Y := 24) rfl rfl) ?_
   iterate 2 refine wsm ?_
   refine ws1 rfl (cH (Z := ((4 * t : Nat) : Int)) rfl rfl (by rw [w64 (by omega)]; omega)) ?_
   refine ws1 rfl (aF (Z := ((4 * t + 1 : Nat) : Int)) rfl rfl (by rw [w64 (by omega)]; omega)) ?_
   obtain ⟨b7, o7, hA7, hF7, hc7⟩ := (hb).opn (d := 0) (by omega)
   refine ws1 rfl (dO underlying38 sz5 rfl hA7 rfl (by omega) (by omega) (Int.toNat_natCast _)) ?_
   refine ws2 rfl (aE underlying5 rfl rfl (fun _ h => h.cell (fun h => h) (hc7 _ (by omega)))) ?_
   refine ws1 rfl (cI underlying5 underlying81 rfl) ?_
   refine ws1 rfl (dC (Y := 16) rfl rfl) ?_
   refine ws1 rfl (dN rfl rfl) ?_
   iterate 2 refine wsm ?_
   refine ws1 rfl (cH (Z := ((4 * t : Nat) : Int)) rfl rfl (by rw [w64 (by omega)]; omega)) ?_
   refine ws1 rfl (aF (Z := ((4 * t + 2 : Nat) : Int)) rfl rfl (by rw [w64 (by omega)]; omega)) ?_
   obtain ⟨b8, o8, hA8, hF8, hc8⟩ := (hb).opn (d := 0) (by omega)
   refine ws1 rfl (dO underlying38 sz5 rfl hA8 rfl (by omega) (by omega) (Int.toNat_natCast _)) ?_
   refine ws2 rfl (aE underlying5 rfl rfl (fun _ h => h.cell (fun h => h) (hc8 _ (by omega)))) ?_
   refine ws1 rfl (cI underlying5 underlying81 rfl) ?_
   refine ws1 rfl (dC (Y := 8) rfl rfl) ?_
   refine ws1 rfl (dN rfl rfl) ?_
   iterate 2 refine wsm ?_
   refine ws1 rfl (cH (Z := ((4 * t : Nat) : Int)) rfl rfl (by rw [w64 (by omega)]; omega)) ?_
   refine ws1 rfl (aF (Z := ((4 * t + 3 : Nat) : Int)) rfl rfl (by rw [w64 (by omega)]; omega)) ?_
   obtain ⟨b9, o9, hA9, hF9, hc9⟩ := (hb).opn (d := 0) (by omega)
   refine ws1 rfl (dO underlying38 sz5 rfl hA9 rfl (by omega) (by omega) (Int.toNat_natCast _)) ?_
   refine ws2 rfl (aE underlying5 rfl rfl (fun _ h => h.cell (fun h => h) (hc9 _ (by omega)))) ?_
   refine ws1 rfl (cI underlying5 underlying81 rfl) ?_
   refine ws1 rfl (dN rfl rfl) ?_
   refine ws1 rfl (aJ underlying172 bi rfl rfl (by omega) (by omega) (Int.toNat_natCast _)) ?_
   refine bf rfl rfl (dF bK (by rfl) rfl rfl hb5 (by first | (simp; done) | (simp; omega) | omega) (fun w11 hb5 hc hsz => ?_))
   have hzw11 := hc.size
   have HC := HC.n hc
   first | have hb := hb.cc hc | have hb := hb.cT hc
   have hb2 := hb2.cc hc
   have hb4 := hb4.cc hc
   refine aW (ak (ae (aa ?_)))
   refine wmv ?_
   refine wz (aF rfl rfl (w64 (by omega))) ?_
   refine was ?_
   refine ac ?_
   refine xrn ⟨t + 1, rfl, rfl, by omega, hb, hb2, hb4, by rw [← ec b (by omega), jr b _ (by omega)]; exact hb5, HC⟩
  have c0 := of_decide_eq_false c0
  obtain rfl : t = 16 := by omega
  refine aI (ah (ah (av (ae (ab (ab (aa ?_)))))))
  refine was ?_
  refine ac (ae (ap ?_))
  refine wcl (fun mz ez uz => ∃ t : Nat, mz = 64 - t ∧ ez = [(2, .pointer (some ⟨g2, 0, none⟩)), (4, .pointer (some ⟨g4, 0, none⟩)), (5, .pointer (some ⟨g5, 0, none⟩)), (7, i64 (t : Int))] ∧ (16 ≤ t ∧ t ≤ 64) ∧ (Blk uz g2 82 ((h).map aO).toArray) ∧ (Blk uz g4 82 ((List.replicate 8 0#32).map aO).toArray) ∧ (Blk uz g5 172 ((eu b t).map aO).toArray) ∧ (Ch No w uz))
   ⟨16, rfl, rfl, by omega, hb2, hb4, hb5, HC⟩ ?_
  rintro m1 e w12 ⟨t, hm1, rfl, ht, hb2, hb4, hb5, HC⟩
  have hzw12 := HC.size
  have hzl := jq b (t := t) (by omega)
  refine ab (ab (aa ?_))
  refine wmv ?_
  refine wz (aU rfl rfl) ?_
  refine ac (ae ?_)
  refine aA rfl (fun c1 => ?_) (fun c1 => ?_)
  ·
   have c1 := of_decide_eq_true c1
   refine al (ae (ab (ap (ab ?_))))
   refine wdr (.q 0 [0, 0, 0, 1, 0, 0, 0, 1, 0, 0] .nil) 10 No (fun w13 hc hszw13 => ?_)
   have hzw13 := hc.size
   have HC := HC.tr hc
   have hb2 := hb2.no hc
   have hb4 := hb4.no hc
   have hb5 := hb5.no hc
   have hS : Ch No w13 w13 := Ch.refl _ _
   refine wsm ?_
   refine ws1 rfl (aZ (Z := ((t - 15 : Nat) : Int)) rfl rfl (by rw [w64 (by omega)]; omega)) ?_
   refine ws1 rfl (aJ underlying172 bi rfl rfl (by omega) (by omega) (Int.toNat_natCast _)) ?_
   refine ws2 rfl (aE underlying81 rfl rfl (fun _ h => h.cell (fun h => h) (aV hb5 (d := 0#32) (by first | (simp; done) | (simp; omega) | omega)))) ?_
   refine wsm ?_
   refine ws1 rfl (aZ (Z := ((t - 2 : Nat) : Int)) rfl rfl (by rw [w64 (by omega)]; omega)) ?_
   refine ws1 rfl (aJ underlying172 bi rfl rfl (by omega) (by omega) (Int.toNat_natCast _)) ?_
   refine ws2 rfl (aE underlying81 rfl rfl (fun _ h => h.cell (fun h => h) (aV hb5 (d := 0#32) (by first | (simp; done) | (simp; omega) | omega)))) ?_
   iterate 2 refine wsa ?_
   refine aW (ae ?_)
   refine wdr (.q 0 [0, 0, 0, 0, 1, 0] (.st 7 0 (.st 10 0 (.st 11 0 (.q 14 [0, 0, 0, 1] (.st 19 0 (.st 21 0 (.st 24 0 (.st 25 0 (.st 6 2 (.st 8 2 (.st 9 0 (.st 12 0 (.st 13 0 (.st 18 0 (.st 20 2 (.st 22 2 (.st 23 0 (.q 26 [0, 0, 0, 3] .nil))))))))))))))))))) 29 No (fun w16 hc hszw16 => ?_)
   have hzw16 := hc.size
   have HC := HC.tr hc
   have hb2 := hb2.no hc
   have hb4 := hb4.no hc
   have hb5 := hb5.no hc
   have hS : Ch No w16 w16 := Ch.refl _ _
   iterate 2 refine wsm ?_
   refine ws1 rfl (aZ (Z := ((t - 16 : Nat) : Int)) rfl rfl (by rw [w64 (by omega)]; omega)) ?_
   refine ws1 rfl (aJ underlying172 bi rfl rfl (by omega) (by omega) (Int.toNat_natCast _)) ?_
   refine ws2 rfl (aE underlying81 rfl rfl (fun _ h => h.cell (fun h => h) (aV hb5 (d := 0#32) (by first | (simp; done) | (simp; omega) | omega)))) ?_
   iterate 3 refine wsm ?_
   refine ws1 rfl (cB (Y := 3) rfl rfl) ?_
   refine wsm ?_
   refine ws1 rfl (aZ (Z := ((t - 7 : Nat) : Int)) rfl rfl (by rw [w64 (by omega)]; omega)) ?_
   refine ws1 rfl (aJ underlying172 bi rfl rfl (by omega) (by omega) (Int.toNat_natCast _)) ?_
   refine ws2 rfl (aE underlying81 rfl rfl (fun _ h => h.cell (fun h => h) (aV hb5 (d := 0#32) (by first | (simp; done) | (simp; omega) | omega)))) ?_
   iterate 3 refine wsm ?_
   refine ws1 rfl (cB (Y := 10) rfl rfl) ?_
   refine ax rfl rfl (ai fG rfl rfl (cA (n := 7) (by omega)) ?_)
   rintro _ w19 ⟨rfl, hc⟩
   refine ⟨_, rfl, hc, ?_⟩
   have hzw19 := hc.size
   have HC := HC.tr hc
   have hb2 := hb2.no hc
   have hb4 := hb4.no hc
   have hb5 := hb5.no hc
   refine aB hc ?_
   refine ax rfl rfl (ai fG rfl rfl (cA (n := 18) (by omega)) ?_)
   rintro _ w20 ⟨rfl, hc⟩
   refine ⟨_, rfl, hc, ?_⟩
   have hzw20 := hc.size
   have HC := HC.tr hc
   have hb2 := hb2.no hc
   have hb4 := hb4.no hc
   have hb5 := hb5.no hc
   refine aB hc ?_
   refine ws1 rfl (bv rfl rfl) ?_
   refine ws1 rfl (bv rfl rfl) ?_
   refine ws1 rfl (br rfl rfl) ?_
   refine ws1 rfl (br rfl rfl) ?_
   refine ax rfl rfl (ai fG rfl rfl (cA (n := 17) (by omega)) ?_)
   rintro _ w21 ⟨rfl, hc⟩
   refine ⟨_, rfl, hc, ?_⟩
   have hzw21 := hc.size
   have HC := HC.tr hc
   have hb2 := hb2.no hc
   have hb4 := hb4.no hc
   have hb5 := hb5.no hc
   refine aB hc ?_
   refine ax rfl rfl (ai fG rfl rfl (cA (n := 19) (by omega)) ?_)
   rintro _ w22 ⟨rfl, hc⟩
   refine ⟨_, rfl, hc, ?_⟩
   have hzw22 := hc.size
   have HC := HC.tr hc
   have hb2 := hb2.no hc
   have hb4 := hb4.no hc
   have hb5 := hb5.no hc
   refine aB hc ?_
   refine ws1 rfl (bv rfl rfl) ?_
   refine ws1 rfl (bv rfl rfl) ?_
   refine ws1 rfl (br rfl rfl) ?_
   refine ws1 rfl (aJ underlying172 bi rfl rfl (by omega) (by omega) (Int.toNat_natCast _)) ?_
   refine bf rfl rfl (dF bK (by rfl) rfl rfl hb5 (by first | (simp; done) | (simp; omega) | omega) (fun w24 hb5 hc hsz => ?_))
   have hzw24 := hc.size
   have HC := HC.n hc
   have hb2 := hb2.cc hc
   have hb4 := hb4.cc hc
   refine aW (ak (ae (aa ?_)))
   refine wmv ?_
   refine wz (aF rfl rfl (w64 (by omega))) ?_
   refine was ?_
   refine ac ?_
   refine xrn ⟨t + 1, rfl, rfl, by omega, hb2, hb4, by rw [← ec b (by omega), ib b (by omega)]; exact hb5, HC⟩
  have c1 := of_decide_eq_false c1
  obtain rfl : t = 64 := by omega
  rw [qmtq] at hb5
  refine aI (ah (ah (av (ae (ab (aa ?_))))))
  refine wle rfl (ai ent99 rfl rfl (tx) ?_)
  rintro _ w25 ⟨rfl, hc⟩
  refine ⟨_, rfl, ?_⟩
  have hzw25 := hc.size
  have HC := HC.tr hc
  have hb2 := hb2.no hc
  have hb4 := hb4.no hc
  have hb5 := hb5.no hc
  have hltg2 := hb2.lt
  have hltg4 := hb4.lt
  have hltg5 := hb5.lt
  refine wle rfl (bz (cs := ((List.replicate 64 0#32).map aO).toArray) rfl (by rfl) rfl (fun w26 g10 hg10 hb10 hc hsz10 => ?_))
  have hzw26 := hc.size
  have hge10 := HC.geo hg10
  have HC := HC.tr hc
  have hb2 := hb2.no hc
  have hb4 := hb4.no hc
  have hb5 := hb5.no hc
  refine wle rfl (cV (vs := (rk.map aO)) (by kernel_rfl) (dZ bK _) rfl rfl hb10 (by kernel_rfl) (fun w27 hb10 hc hsz => ?_))
  have hzw27 := hc.size
  have HC := HC.n hc
  have hb2 := hb2.cc hc
  have hb4 := hb4.cc hc
  have hb5 := hb5.cc hc
  refine ac (ae (ab (aa ?_)))
  refine wz (pla underlying82 tH (aN hb2)) ?_
  have hltg2 := hb2.lt
  have hltg4 := hb4.lt
  have hltg5 := hb5.lt
  have hltg10 := hb10.lt
  refine wle rfl (bz (cs := ((List.replicate 8 0#32).map aO).toArray) rfl (by rfl) rfl (fun w28 g11 hg11 hb11 hc hsz11 => ?_))
  have hzw28 := hc.size
  have hge11 := HC.geo hg11
  have HC := HC.tr hc
  have hb2 := hb2.no hc
  have hb4 := hb4.no hc
  have hb5 := hb5.no hc
  have hb10 := hb10.no hc
  refine wle rfl (cV (vs := _) (by first | rfl | exact szL tH (by rw [List.length_map]; exact hh)) (dZ bK _) rfl rfl hb11 (by first | (simp [hh]; done) | (simp [hvl]; done)) (fun w29 hb11 hc hsz => ?_))
  have hzw29 := hc.size
  have HC := HC.n hc
  have hb2 := hb2.cc hc
  have hb4 := hb4.cc hc
  have hb5 := hb5.cc hc
  have hb10 := hb10.cc hc
  refine ac (ae (ab (ab (aa ?_))))
  refine was ?_
  refine ac (ae (ap ?_))
  refine wcl (fun mz ez uz => ∃ t : Nat, mz = 64 - t ∧ ez = [(2, .pointer (some ⟨g2, 0, none⟩)), (4, .pointer (some ⟨g4, 0, none⟩)), (5, .pointer (some ⟨g5, 0, none⟩)), (10, .pointer (some ⟨g10, 0, none⟩)), (11, .pointer (some ⟨g11, 0, none⟩)), (12, i64 (t : Int))] ∧ (t ≤ 64) ∧ (Blk uz g2 82 ((h).map aO).toArray) ∧ (Blk uz g4 82 ((List.replicate 8 0#32).map aO).toArray) ∧ (Blk uz g5 172 ((sch b 64).map aO).toArray) ∧ (Blk uz g10 172 ((rk).map aO).toArray) ∧ (Blk uz g11 82 ((ic (sch b 64) h t).map aO).toArray) ∧ (Ch No w uz))
   ⟨0, rfl, rfl, by omega, hb2, hb4, hb5, hb10, hb11, HC⟩ ?_
  rintro m2 e w30 ⟨t, hm2, rfl, ht, hb2, hb4, hb5, hb10, hb11, HC⟩
  have hzw30 := HC.size
  have hvl := gy (sch b 64) hh t
  have hrk : rk.length = 64 := rfl
  refine ab (ab (aa ?_))
  refine wmv ?_
  refine wz (aU rfl rfl) ?_
  refine ac (ae ?_)
  refine aA rfl (fun c2 => ?_) (fun c2 => ?_)
  rotate_left
  ·
   have c2 := of_decide_eq_false c2
   obtain rfl : t = 64 := by omega
   have hvl := gy (sch b 64) hh 64
   refine aI (ah (ah (av (ae (ab (ab (aa ?_)))))))
   refine wmv ?_
   refine ac (ae (ap ?_))
   refine wcl (fun mz ez uz => ∃ i : Nat, mz = 8 - i ∧ ez = [(2, .pointer (some ⟨g2, 0, none⟩)), (4, .pointer (some ⟨g4, 0, none⟩)), (11, .pointer (some ⟨g11, 0, none⟩)), (182, i64 (i : Int))] ∧ (i ≤ 8) ∧ (Blk uz g2 82 ((js h (ic (sch b 64) h 64) i).map aO).toArray) ∧ (Blk uz g4 82 ((List.replicate 8 0#32).map aO).toArray) ∧ (Blk uz g11 82 ((ic (sch b 64) h 64).map aO).toArray) ∧ (Ch No w uz))
    ⟨0, rfl, rfl, by omega, hb2, hb4, hb11, HC⟩ ?_
   rintro m3 e w59 ⟨i, hm3, rfl, hi, hb2, hb4, hb11, HC⟩
   have hzw59 := HC.size
   have hal : (js h (ic (sch b 64) h 64) i).length = 8 := by rw [fa]; exact hh
   refine ab (aa ?_)
   refine wz (aU rfl rfl) ?_
   refine ac (ae (ab ?_))
   refine aA rfl (fun c3 => ?_) (fun c3 => ?_)
   rotate_left
   ·
    have c3 := of_decide_eq_false c3
    obtain rfl : i = 8 := by omega
    have hal : (js h (ic (sch b 64) h 64) 8).length = 8 := by rw [fa]; exact hh
    refine aI (ah (ah (av (ae (ab (aa ?_))))))
    refine wz (pla underlying82 tH (aN hb2)) ?_
    refine wle rfl (cV (vs := ((js h (ic (sch b 64) h 64) 8).map aO)) (szL tH (by rw [List.length_map]; exact hal)) (dZ bK _) rfl rfl hb4 (by simp [hal]) (fun w66 hb4 hc hsz => ?_))
    have hzw66 := hc.size
    have HC := HC.n hc
    refine ac (ae (ao ?_))
    refine aj (fN rfl rfl underlying82 rfl (szL tH (by rw [List.length_map]; exact hal)) (aN hb4)) ?_
    exact ⟨rfl, HC⟩
   have c3 := of_decide_eq_true c3
   refine al (ae (ab (ap (ab (aa ?_)))))
   refine wmv ?_
   refine was ?_
   refine ac (ae ?_)
   refine wdr (.q 0 [0, 0, 1, 0, 0, 1, 0, 0, 3] .nil) 8 No (fun w60 hc hszw60 => ?_)
   have hzw60 := hc.size
   have HC := HC.tr hc
   have hb2 := hb2.no hc
   have hb4 := hb4.no hc
   have hb11 := hb11.no hc
   have hS : Ch No w60 w60 := Ch.refl _ _
   refine wsm ?_
   refine ws1 rfl (aJ underlying82 bi rfl rfl (by omega) (by omega) (Int.toNat_natCast _)) ?_
   refine ws2 rfl (aE underlying81 rfl rfl (fun _ h => h.cell (fun h => h) (aV hb2 (d := 0#32) (by first | (simp; done) | (simp; omega) | omega)))) ?_
   refine wsm ?_
   refine ws1 rfl (aJ underlying82 bi rfl rfl (by omega) (by omega) (Int.toNat_natCast _)) ?_
   refine ws2 rfl (aE underlying81 rfl rfl (fun _ h => h.cell (fun h => h) (aV hb11 (d := 0#32) (by first | (simp; done) | (simp; omega) | omega)))) ?_
   refine ws1 rfl (br rfl rfl) ?_
   refine ws1 rfl (aJ underlying82 bi rfl rfl (by omega) (by omega) (Int.toNat_natCast _)) ?_
   refine bf rfl rfl (dF bK (by rfl) rfl rfl hb2 (by first | (simp; done) | (simp; omega) | omega) (fun w65 hb2 hc hsz => ?_))
   have hzw65 := hc.size
   have HC := HC.n hc
   have hb4 := hb4.cc hc
   have hb11 := hb11.cc hc
   refine aW (ak (ae (aa ?_)))
   refine wz (aF rfl rfl (w64 (by omega))) ?_
   refine wmv ?_
   refine ac ?_
   refine xrn ⟨i + 1, rfl, rfl, by omega, hb2, hb4, hb11, HC⟩
  have c2 := of_decide_eq_true c2
  refine al (ae (ab (ap (ab ?_))))
  refine wdr (.q 0 [0, 1, 0, 1, 0, 0] .nil) 6 No (fun w31 hc hszw31 => ?_)
  have hzw31 := hc.size
  have HC := HC.tr hc
  have hb2 := hb2.no hc
  have hb4 := hb4.no hc
  have hb5 := hb5.no hc
  have hb10 := hb10.no hc
  have hb11 := hb11.no hc
  have hS : Ch No w31 w31 := Ch.refl _ _
  refine ws1 rfl (aJ (j := 0) underlying82 bi rfl rfl (by omega) (by omega) rfl) ?_
  refine ws2 rfl (aE underlying81 rfl rfl (fun _ h => h.cell (fun h => h) (aV hb11 (d := 0#32) (by first | (simp; done) | (simp; omega) | omega)))) ?_
  refine ws1 rfl (aJ (j := 4) underlying82 bi rfl rfl (by omega) (by omega) rfl) ?_
  refine ws2 rfl (aE underlying81 rfl rfl (fun _ h => h.cell (fun h => h) (aV hb11 (d := 0#32) (by first | (simp; done) | (simp; omega) | omega)))) ?_
  iterate 2 refine wsa ?_
  refine aW (ae (ab ?_))
  refine wdr (.q 0 [0, 1, 0] (.st 4 0 (.st 7 0 (.q 11 [0, 0, 1, 0, 0, 0, 0, 1, 0, 0] (.q 22 [0, 0, 1] (.q 26 [0, 0, 1] (.st 3 2 (.st 5 2 (.st 6 0 (.q 8 [2, 0, 0] (.st 21 0 (.st 25 0 (.st 29 0 (.st 30 0 .nil)))))))))))))) 31 No (fun w34 hc hszw34 => ?_)
  have hzw34 := hc.size
  have HC := HC.tr hc
  have hb2 := hb2.no hc
  have hb4 := hb4.no hc
  have hb5 := hb5.no hc
  have hb10 := hb10.no hc
  have hb11 := hb11.no hc
  have hS : Ch No w34 w34 := Ch.refl _ _
  refine ws1 rfl (aJ (j := 7) underlying82 bi rfl rfl (by omega) (by omega) rfl) ?_
  refine ws2 rfl (aE underlying81 rfl rfl (fun _ h => h.cell (fun h => h) (aV hb11 (d := 0#32) (by first | (simp; done) | (simp; omega) | omega)))) ?_
  iterate 4 refine wsm ?_
  refine ws1 rfl (aJ (j := 5) underlying82 bi rfl rfl (by omega) (by omega) rfl) ?_
  refine ws2 rfl (aE underlying81 rfl rfl (fun _ h => h.cell (fun h => h) (aV hb11 (d := 0#32) (by first | (simp; done) | (simp; omega) | omega)))) ?_
  refine ws1 rfl (dB rfl rfl) ?_
  refine wsm ?_
  refine ws1 rfl (p_not32 rfl) ?_
  refine ws1 rfl (aJ (j := 6) underlying82 bi rfl rfl (by omega) (by omega) rfl) ?_
  refine ws2 rfl (aE underlying81 rfl rfl (fun _ h => h.cell (fun h => h) (aV hb11 (d := 0#32) (by first | (simp; done) | (simp; omega) | omega)))) ?_
  refine ws1 rfl (dB rfl rfl) ?_
  refine ws1 rfl ((bv rfl rfl).to (congrArg aO (ch_ref _ _ _))) ?_
  refine wsm ?_
  refine ws1 rfl (aJ underlying172 bi rfl rfl (by omega) (by omega) (Int.toNat_natCast _)) ?_
  refine ws2 rfl (aE underlying81 rfl rfl (fun _ h => h.cell (fun h => h) (aV hb10 (d := 0#32) (by first | (simp; done) | (simp; omega) | omega)))) ?_
  refine wsm ?_
  refine ws1 rfl (aJ underlying172 bi rfl rfl (by omega) (by omega) (Int.toNat_natCast _)) ?_
  refine ws2 rfl (aE underlying81 rfl rfl (fun _ h => h.cell (fun h => h) (aV hb5 (d := 0#32) (by first | (simp; done) | (simp; omega) | omega)))) ?_
  refine ax rfl rfl (ai fG rfl rfl (cA (n := 6) (by omega)) ?_)
  rintro _ w40 ⟨rfl, hc⟩
  refine ⟨_, rfl, hc, ?_⟩
  have hzw40 := hc.size
  have HC := HC.tr hc
  have hb2 := hb2.no hc
  have hb4 := hb4.no hc
  have hb5 := hb5.no hc
  have hb10 := hb10.no hc
  have hb11 := hb11.no hc
  refine aB hc ?_
  refine ax rfl rfl (ai fG rfl rfl (cA (n := 11) (by omega)) ?_)
  rintro _ w41 ⟨rfl, hc⟩
  refine ⟨_, rfl, hc, ?_⟩
  have hzw41 := hc.size
  have HC := HC.tr hc
  have hb2 := hb2.no hc
  have hb4 := hb4.no hc
  have hb5 := hb5.no hc
  have hb10 := hb10.no hc
  have hb11 := hb11.no hc
  refine aB hc ?_
  refine ws1 rfl (bv rfl rfl) ?_
  refine ax rfl rfl (ai fG rfl rfl (cA (n := 25) (by omega)) ?_)
  rintro _ w42 ⟨rfl, hc⟩
  refine ⟨_, rfl, hc, ?_⟩
  have hzw42 := hc.size
  have HC := HC.tr hc
  have hb2 := hb2.no hc
  have hb4 := hb4.no hc
  have hb5 := hb5.no hc
  have hb10 := hb10.no hc
  have hb11 := hb11.no hc
  refine aB hc ?_
  refine ws1 rfl (bv rfl rfl) ?_
  refine ws1 rfl (br rfl rfl) ?_
  refine ws1 rfl (br rfl rfl) ?_
  refine ws1 rfl (br rfl rfl) ?_
  refine ws1 rfl (br rfl rfl) ?_
  refine wsa ?_
  refine aW (ae (ab ?_))
  refine wdr (.st 0 0 (.st 2 0 (.st 5 0 (.q 8 [0, 0, 1, 0, 0, 0, 1, 0, 0, 0, 1, 0, 1, 0, 0] (.st 1 2 (.st 3 2 (.st 4 0 (.st 6 2 (.st 7 0 (.st 23 0 (.st 24 0 .nil))))))))))) 25 No (fun w43 hc hszw43 => ?_)
  have hzw43 := hc.size
  have HC := HC.tr hc
  have hb2 := hb2.no hc
  have hb4 := hb4.no hc
  have hb5 := hb5.no hc
  have hb10 := hb10.no hc
  have hb11 := hb11.no hc
  have hS : Ch No w43 w43 := Ch.refl _ _
  iterate 4 refine wsm ?_
  refine ws1 rfl (aJ (j := 1) underlying82 bi rfl rfl (by omega) (by omega) rfl) ?_
  refine ws2 rfl (aE underlying81 rfl rfl (fun _ h => h.cell (fun h => h) (aV hb11 (d := 0#32) (by first | (simp; done) | (simp; omega) | omega)))) ?_
  refine ws1 rfl (dB rfl rfl) ?_
  refine wsm ?_
  refine ws1 rfl (aJ (j := 2) underlying82 bi rfl rfl (by omega) (by omega) rfl) ?_
  refine ws2 rfl (aE underlying81 rfl rfl (fun _ h => h.cell (fun h => h) (aV hb11 (d := 0#32) (by first | (simp; done) | (simp; omega) | omega)))) ?_
  refine ws1 rfl (dB rfl rfl) ?_
  refine ws1 rfl (bv rfl rfl) ?_
  refine ws1 rfl (aJ (j := 1) underlying82 bi rfl rfl (by omega) (by omega) rfl) ?_
  refine ws2 rfl (aE underlying81 rfl rfl (fun _ h => h.cell (fun h => h) (aV hb11 (d := 0#32) (by first | (simp; done) | (simp; omega) | omega)))) ?_
  refine ws1 rfl (aJ (j := 2) underlying82 bi rfl rfl (by omega) (by omega) rfl) ?_
  refine ws2 rfl (aE underlying81 rfl rfl (fun _ h => h.cell (fun h => h) (aV hb11 (d := 0#32) (by first | (simp; done) | (simp; omega) | omega)))) ?_
  refine ws1 rfl (dB rfl rfl) ?_
  refine ws1 rfl ((bv rfl rfl).to (congrArg aO (maj_ref _ _ _))) ?_
  refine ax rfl rfl (ai fG rfl rfl (cA (n := 2) (by omega)) ?_)
  rintro _ w48 ⟨rfl, hc⟩
  refine ⟨_, rfl, hc, ?_⟩
  have hzw48 := hc.size
  have HC := HC.tr hc
  have hb2 := hb2.no hc
  have hb4 := hb4.no hc
  have hb5 := hb5.no hc
  have hb10 := hb10.no hc
  have hb11 := hb11.no hc
  refine aB hc ?_
  refine ax rfl rfl (ai fG rfl rfl (cA (n := 13) (by omega)) ?_)
  rintro _ w49 ⟨rfl, hc⟩
  refine ⟨_, rfl, hc, ?_⟩
  have hzw49 := hc.size
  have HC := HC.tr hc
  have hb2 := hb2.no hc
  have hb4 := hb4.no hc
  have hb5 := hb5.no hc
  have hb10 := hb10.no hc
  have hb11 := hb11.no hc
  refine aB hc ?_
  refine ws1 rfl (bv rfl rfl) ?_
  refine ax rfl rfl (ai fG rfl rfl (cA (n := 22) (by omega)) ?_)
  rintro _ w50 ⟨rfl, hc⟩
  refine ⟨_, rfl, hc, ?_⟩
  have hzw50 := hc.size
  have HC := HC.tr hc
  have hb2 := hb2.no hc
  have hb4 := hb4.no hc
  have hb5 := hb5.no hc
  have hb10 := hb10.no hc
  have hb11 := hb11.no hc
  refine aB hc ?_
  refine ws1 rfl (bv rfl rfl) ?_
  refine ws1 rfl (br rfl rfl) ?_
  refine wsa ?_
  refine aW (ae (aa ?_))
  iterate 2 refine wmv ?_
  refine wz ((br rfl rfl).to (congrArg aO (BitVec.add_assoc _ _ _).symm)) ?_
  refine wz (aJ (j := 0) underlying82 bi rfl rfl (by omega) (by omega) rfl) ?_
  refine wz (aE underlying81 rfl rfl (ld (aV hb11 (d := 0#32) (by first | (simp; done) | (simp; omega) | omega)))) ?_
  refine wz (aJ (j := 1) underlying82 bi rfl rfl (by omega) (by omega) rfl) ?_
  refine wz (aE underlying81 rfl rfl (ld (aV hb11 (d := 0#32) (by first | (simp; done) | (simp; omega) | omega)))) ?_
  refine wz (aJ (j := 2) underlying82 bi rfl rfl (by omega) (by omega) rfl) ?_
  refine wz (aE underlying81 rfl rfl (ld (aV hb11 (d := 0#32) (by first | (simp; done) | (simp; omega) | omega)))) ?_
  refine wz (aJ (j := 3) underlying82 bi rfl rfl (by omega) (by omega) rfl) ?_
  refine wz (aE underlying81 rfl rfl (ld (aV hb11 (d := 0#32) (by first | (simp; done) | (simp; omega) | omega)))) ?_
  refine wmv ?_
  refine wz (br rfl rfl) ?_
  refine wz (aJ (j := 4) underlying82 bi rfl rfl (by omega) (by omega) rfl) ?_
  refine wz (aE underlying81 rfl rfl (ld (aV hb11 (d := 0#32) (by first | (simp; done) | (simp; omega) | omega)))) ?_
  refine wz (aJ (j := 5) underlying82 bi rfl rfl (by omega) (by omega) rfl) ?_
  refine wz (aE underlying81 rfl rfl (ld (aV hb11 (d := 0#32) (by first | (simp; done) | (simp; omega) | omega)))) ?_
  refine wz (aJ (j := 6) underlying82 bi rfl rfl (by omega) (by omega) rfl) ?_
  refine wz (aE underlying81 rfl rfl (ld (aV hb11 (d := 0#32) (by first | (simp; done) | (simp; omega) | omega)))) ?_
  refine wz (kL rfl (fun _ => by kernel_rfl)) ?_
  refine wle rfl (cV (vs := _) (by first | rfl | exact szL tH (by rw [List.length_map]; exact hh)) (by first | exact cO rfl | exact dZ bK _) rfl rfl hb11 (by first | (simp [hh]; done) | (simp [hvl]; done)) (fun w58 hb11 hc hsz => ?_))
  have hzw58 := hc.size
  have HC := HC.n hc
  have hb2 := hb2.cc hc
  have hb4 := hb4.cc hc
  have hb5 := hb5.cc hc
  have hb10 := hb10.cc hc
  refine ac (ak (ae (aa ?_)))
  refine wmv ?_
  refine wz (aF rfl rfl (w64 (by omega))) ?_
  refine was ?_
  refine ac ?_
  refine xrn ⟨t + 1, rfl, rfl, by omega, hb2, hb4, hb5, hb10, hb11, HC⟩

theorem jN {w : World} {Ab : Option Addr} {lb cb : Nat} {Fb : Nat → Prop} {b : List UInt8} (hb : Sl w Fb u8v Ab lb cb b) (hl : lb ≤ 1099511627776) :
    Calls Tryz.prog 12 #[.slice Ab lb cb] w fun e w' => e = .returned (.agg ((shaF b).map u8v).toArray) ∧ Ch No w w' := by
  have hbl := hb.len
  have hpl := pa b
  have hpm := pad_mod b
  have hnz : nz b.length < 64 := by unfold nz; omega
  have hb := hb.old
  have HC : Ch No w w := Ch.refl _ _
  refine aH (args := [.slice Ab lb cb]) (n := 58) Tryz.func12 rfl rfl rfl ?_
  refine ab (aa ?_)
  refine wle rfl (ea3 (fun w1 g2 hg2 hb2 hc hsz2 => ?_))
  have hzw1 := hc.size
  have hge2 := HC.geo hg2
  have HC := HC.tr hc
  have hb := hb.no hc
  refine ac (ae (ab (aa ?_)))
  refine wz (kL rfl (fun _ => by kernel_rfl)) ?_
  have hltg2 := hb2.lt
  refine wle rfl (bz (cs := ((List.replicate 8 0#32).map aO).toArray) rfl (by rfl) rfl (fun w2 g3 hg3 hb3 hc hsz3 => ?_))
  have hzw2 := hc.size
  have hge3 := HC.geo hg3
  have HC := HC.tr hc
  have hb := hb.no hc
  have hb2 := hb2.no hc
  refine wle rfl (cV (vs := _) (by first | rfl | exact szL tH (by rw [List.length_map]; exact cC _ (k + 1))) (by first | exact cO rfl | exact dZ bK _) rfl rfl hb3 (by first | rfl | simp [hhl, cC, k5 hhl]) (fun w3 hb3 hc hsz => ?_))
  have hzw3 := hc.size
  have HC := HC.n hc
  first | have hb := hb.cc hc | have hb := hb.cT hc
  have hb2 := hb2.cc hc
  refine ac (ae (ab (aa ?_)))
  refine wmv ?_
  refine wle rfl (ai ent36 rfl rfl (oB (hb) (by omega)) ?_)
  rintro _ w4 ⟨A11, c11, rfl, hW11, hc⟩
  refine ⟨_, rfl, ?_⟩
  have hzw4 := hc.size
  have HC := HC.tr hc
  have hb2 := hb2.no hc
  have hb3 := hb3.no hc
  have hp : Sl w4 (fun k => g3 < k) u8v A11 (pad b).length c11 (pad b) := by have := hW11.sl; rw [show lb + 1 + nz b.length + 8 = (pad b).length by omega] at this; exact this.mono (fun k h1 h2 => by omega)
  refine was ?_
  refine ac (ae (ab (ab (aa ?_))))
  refine was ?_
  refine ac (ae (ap ?_))
  refine ek (e' := [(2, .pointer (some ⟨g2, 0, none⟩)), (3, .pointer (some ⟨g3, 0, none⟩)), (4, .slice A11 (pad b).length c11), (5, i64 ((64 * (0) : Nat) : Int))]) (fun mz ez uz => ∃ k : Nat, mz = (pad b).length / 64 - k ∧ ez = [(2, .pointer (some ⟨g2, 0, none⟩)), (3, .pointer (some ⟨g3, 0, none⟩)), (4, .slice A11 (pad b).length c11), (5, i64 ((64 * k : Nat) : Int))] ∧ (64 * k ≤ (pad b).length) ∧ (Sl uz (fun k => k ≠ g2 ∧ k ≠ g3) u8v A11 (pad b).length c11 (pad b)) ∧ (Blk uz g2 33 ((List.replicate 32 (0 : UInt8)).map u8v).toArray) ∧ (Blk uz g3 82 ((hsh (pad b) k).map aO).toArray) ∧ (Ch No w uz))
   ⟨rfl, rfl, (congrArg (fun z => some (Value.slice A11 z c11)) (show lb + 1 + nz b.length + 8 = (pad b).length by omega)), rfl, trivial⟩ ⟨0, rfl, rfl, by omega, hp.mono (fun k h1 h2 => by omega), hb2, hb3, HC⟩ ?_
  rintro m0 e w5 ⟨k, hm0, rfl, hk, hp, hb2, hb3, HC⟩
  have hzw5 := HC.size
  have hhl := cC (pad b) k
  have hpc := hp.cap
  refine ab (ab (aa ?_))
  iterate 2 refine wmv ?_
  refine wz (aw underlying38 rfl) ?_
  refine wz (aU rfl rfl) ?_
  refine ac (ae ?_)
  refine aA rfl (fun c0 => ?_) (fun c0 => ?_)
  ·
   have c0 := of_decide_eq_true c0
   have hkp : 64 * k + 64 ≤ (pad b).length := by omega
   refine al (ae (ab (ap ?_)))
   refine wdr (.q 0 [1, 0, 0, 0, 0, 0, 2, 3] .nil) 7 No (fun w6 hc hszw6 => ?_)
   have hzw6 := hc.size
   have HC := HC.tr hc
   have hp := hp.no hc
   have hb2 := hb2.no hc
   have hb3 := hb3.no hc
   have hS : Ch No w6 w6 := Ch.refl _ _
   refine ws2 rfl (bE (cs := (hsh (pad b) k).map aO) underlying82 rfl (szL tH (by rw [List.length_map]; exact cC _ _)) rfl (fun _ h => (aN (hb3.ch h (fun h => h))))) ?_
   iterate 3 refine wsm ?_
   refine ws1 rfl (aF (Z := ((64 * k + 64 : Nat) : Int)) rfl rfl (by rw [w64 (by omega)]; omega)) ?_
   have hS23 := hp.cut (lo := 64 * k) (hi := 64 * k + 64) (q := 64) (by omega) (by omega) (by omega)
   refine ws1 rfl (dX (l := 64 * k) (h := 64 * k + 64) underlying38 sz5 rfl ⟨_, rfl⟩ ⟨_, rfl⟩ (by omega) (by omega) hp.cap (q := 64) (by omega)) ?_
   refine ax rfl rfl (ai ent37 rfl rfl (oC (h := (hsh (pad b) k)) (hS23) (by first | assumption | exact cC _ _) rfl) ?_)
   rintro _ w7 ⟨rfl, hc⟩
   refine ⟨_, rfl, hc, ?_⟩
   have hzw7 := hc.size
   have HC := HC.tr hc
   have hp := hp.no hc
   have hb2 := hb2.no hc
   have hb3 := hb3.no hc
   refine aB hc ?_
   refine bf rfl rfl (cV (vs := _) (by first | rfl | exact szL tH (by rw [List.length_map]; exact cC _ (k + 1))) (dZ bK _) rfl rfl hb3 (by first | rfl | simp [hhl, cC, k5 hhl]) (fun w8 hb3 hc hsz => ?_))
   have hzw8 := hc.size
   have HC := HC.n hc
   first | have hp := hp.cc hc | have hp := hp.cT hc
   have hb2 := hb2.cc hc
   refine aW (ak (ae (aa ?_)))
   refine wmv ?_
   refine wz (aF (Z := ((64 * (k + 1) : Nat) : Int)) rfl rfl (by rw [w64 (by omega)]; omega)) ?_
   refine was ?_
   refine ac ?_
   refine xrn ⟨k + 1, rfl, rfl, by omega, hp, hb2, hb3, HC⟩
  have c0 := of_decide_eq_false c0
  obtain rfl : k = (pad b).length / 64 := by omega
  refine aI (ah (ah (av (ae (ab (aa ?_))))))
  have hltg2 := hb2.lt
  have hltg3 := hb3.lt
  refine wle rfl (ea3 (fun w9 g6 hg6 hb6 hc hsz6 => ?_))
  have hzw9 := hc.size
  have hge6 := HC.geo hg6
  have HC := HC.tr hc
  have hb2 := hb2.no hc
  have hb3 := hb3.no hc
  refine ac (ae (ab (ab (aa ?_))))
  refine wz (bE (cs := (hsh (pad b) ((pad b).length / 64)).map aO) underlying82 rfl (szL tH (by rw [List.length_map]; exact cC _ _)) rfl (fun _ e => e ▸ aN hb3)) ?_
  refine wmv ?_
  refine ac (ae (ap ?_))
  refine wcl (fun mz ez uz => ∃ i : Nat, mz = 8 - i ∧ ez = [(2, .pointer (some ⟨g2, 0, none⟩)), (6, .pointer (some ⟨g6, 0, none⟩)), (25, .agg ((hsh (pad b) ((pad b).length / 64)).map aO).toArray), (26, i64 (i : Int))] ∧ (i ≤ 8) ∧ ((hsh (pad b) ((pad b).length / 64)).length = 8) ∧ (Blk uz g6 33 ((ju (hsh (pad b) ((pad b).length / 64)) i).map u8v).toArray) ∧ (Blk uz g2 33 ((List.replicate 32 (0 : UInt8)).map u8v).toArray) ∧ (Ch No w uz))
   ⟨0, rfl, rfl, by omega, cC _ _, by rw [j6]; exact hb6, hb2, HC⟩ ?_
  rintro m1 e w10 ⟨i, hm1, rfl, hi, hh, hb6, hb2, HC⟩
  have hzw10 := HC.size
  have hol2 := my hh hi
  refine ab (aa ?_)
  refine wz (aU rfl rfl) ?_
  refine ac (ae (ab ?_))
  refine aA rfl (fun c1 => ?_) (fun c1 => ?_)
  rotate_left
  ·
   have c1 := of_decide_eq_false c1
   obtain rfl : i = 8 := by omega
   rw [mw hh] at hb6
   have hol : (jt (hsh (pad b) ((pad b).length / 64))).length = 32 := aD b
   rw [← shaF] at hb6 hol
   refine aI (ah (ah (av (ae (ab (aa ?_))))))
   refine wz (bE (cs := ((shaF b).map u8v)) underlying33 rfl (szL sz33 (by rw [List.length_map]; first | assumption | (simp; done) | (simp; omega) | omega)) rfl (fun _ e => e ▸ aN hb6)) ?_
   refine wle rfl (cV (vs := _) (szL sz33 (by rw [List.length_map]; exact hol)) (dZ aX _) rfl rfl hb2 (by simp [hol]) (fun w19 hb2 hc hsz => ?_))
   have hzw19 := hc.size
   have HC := HC.n hc
   refine ac (ae (ao ?_))
   refine aj (fN rfl rfl underlying33 rfl (szL sz33 (by rw [List.length_map]; exact aD b)) (aN hb2)) ?_
   exact ⟨rfl, HC⟩
  have c1 := of_decide_eq_true c1
  refine al (ae (ab (ap (ab (aa ?_)))))
  refine wmv ?_
  refine wz (p_ixG (f := aO) (d0 := 0#32) underlying82 underlying81 rfl bi rfl rfl (by omega) (by omega) (by first | (simp; done) | (simp; omega) | omega) (Int.toNat_natCast _)) ?_
  iterate 2 refine was ?_
  refine ac (ae (aa ?_))
  refine wmv ?_
  refine wz (cH (Z := ((4 * i : Nat) : Int)) rfl rfl (by rw [w64 (by omega)]; omega)) ?_
  refine wmv ?_
  refine wz (cH (Z := ((4 * i : Nat) : Int)) rfl rfl (by rw [w64 (by omega)]; omega)) ?_
  refine wz (aF (Z := ((4 * i + 1 : Nat) : Int)) rfl rfl (by rw [w64 (by omega)]; omega)) ?_
  refine wmv ?_
  refine wz (cH (Z := ((4 * i : Nat) : Int)) rfl rfl (by rw [w64 (by omega)]; omega)) ?_
  refine wz (aF (Z := ((4 * i + 2 : Nat) : Int)) rfl rfl (by rw [w64 (by omega)]; omega)) ?_
  refine wmv ?_
  refine wz (cH (Z := ((4 * i : Nat) : Int)) rfl rfl (by rw [w64 (by omega)]; omega)) ?_
  refine wz (aF (Z := ((4 * i + 3 : Nat) : Int)) rfl rfl (by rw [w64 (by omega)]; omega)) ?_
  refine wmv ?_
  refine wz (cB (Y := 24) rfl rfl) ?_
  refine wz (cJ underlying81 underlying5 rfl) ?_
  refine wmv ?_
  refine wz (cB (Y := 16) rfl rfl) ?_
  refine wz (cJ underlying81 underlying5 rfl) ?_
  refine wmv ?_
  refine wz (cB (Y := 8) rfl rfl) ?_
  refine wz (cJ underlying81 underlying5 rfl) ?_
  refine wmv ?_
  refine wz (cJ underlying81 underlying5 rfl) ?_
  refine wz (aJ underlying33 sz5 rfl rfl (by omega) (by omega) (Int.toNat_natCast _)) ?_
  refine wle rfl (dF aX (by rfl) rfl rfl hb6 (by first | (simp; done) | (simp; omega) | omega) (fun w12 hb6 hc hsz => ?_))
  have hzw12 := hc.size
  have HC := HC.n hc
  have hb2 := hb2.cc hc
  refine wz (aJ underlying33 sz5 rfl rfl (by omega) (by omega) (Int.toNat_natCast _)) ?_
  refine wle rfl (dF aX (by rfl) rfl rfl hb6 (by first | (simp; done) | (simp; omega) | omega) (fun w14 hb6 hc hsz => ?_))
  have hzw14 := hc.size
  have HC := HC.n hc
  have hb2 := hb2.cc hc
  refine wz (aJ underlying33 sz5 rfl rfl (by omega) (by omega) (Int.toNat_natCast _)) ?_
  refine wle rfl (dF aX (by rfl) rfl rfl hb6 (by first | (simp; done) | (simp; omega) | omega) (fun w16 hb6 hc hsz => ?_))
  have hzw16 := hc.size
  have HC := HC.n hc
  have hb2 := hb2.cc hc
  refine wz (aJ underlying33 sz5 rfl rfl (by omega) (by omega) (Int.toNat_natCast _)) ?_
  refine wle rfl (dF aX (by rfl) rfl rfl hb6 (by first | (simp; done) | (simp; omega) | omega) (fun w18 hb6 hc hsz => ?_))
  have hzw18 := hc.size
  have HC := HC.n hc
  have hb2 := hb2.cc hc
  refine ac (ak (ae (aa ?_)))
  refine wz (aF rfl rfl (w64 (by omega))) ?_
  refine wmv ?_
  refine ac ?_
  refine xrn ⟨i + 1, rfl, rfl, by omega, hh, by rw [← j7 hh (by omega)]; exact hb6, hb2, HC⟩

theorem tG {w : World} {t : UInt8} {Aq : Option Addr} {lq cq : Nat} {Fq : Nat → Prop} {q : List (List UInt8)} (hq : SB w Fq Aq lq cq q) (hn : lq ≤ 1099511627000) (hl : q.flatten.length ≤ 1099511627000) :
    Calls Tryz.prog 86 #[u8v t, .slice Aq lq cq] w fun e w' => ∃ A c, e = .returned (.slice A (1 + q.flatten.length) c) ∧ Row w' (fun k => w.heap.size ≤ k) 5 1 (.slice A (1 + q.flatten.length) c) (1 + q.flatten.length) (([t] ++ q.flatten).map u8v) ∧ Ch No w w' := by
  have hql := hq.len
  have hq := hq.old
  have HC : Ch No w w := Ch.refl _ _
  refine aH (args := [u8v t, .slice Aq lq cq]) (n := 21) Tryz.func86 rfl rfl rfl ?_
  refine ab (aa ?_)
  refine was ?_
  refine ac (ae (ab (aa ?_)))
  refine wmv ?_
  refine wle rfl (aT (E := 5) rfl rfl (fun _ => by kernel_rfl) (fun w1 g9 hg9 hb9 hc hsz9 => ?_))
  have hzw1 := hc.size
  have hge9 := HC.geo hg9
  have HC := HC.tr hc
  have hq := hq.no hc
  have hW9 := Row.lit (l := 1) (f := u8v) (xs := [t]) (F := fun k => g9 ≤ k) hb9 (by first | omega | (dsimp only; omega)) rfl rfl (by simp [maxLen])
  refine was ?_
  refine ac (ae (ab (ab (aa ?_))))
  refine wmv ?_
  refine wz (aw underlying77 rfl) ?_
  refine wmv ?_
  refine ac (ae (ap ?_))
  refine ek (e' := [(5, .slice (_) (1 + (q.take (0)).flatten.length) (_)), (10, .slice Aq lq cq), (11, i64 (lq : Int)), (12, i64 ((0) : Int))]) (fun mz ez uz => ∃ i : Nat, ∃ A : Option Addr, ∃ c : Nat, mz = lq - i ∧ ez = [(5, .slice A (1 + (q.take i).flatten.length) c), (10, .slice Aq lq cq), (11, i64 (lq : Int)), (12, i64 (i : Int))] ∧ (i ≤ lq) ∧ (Row uz (fun k => w.heap.size ≤ k) 5 1 (.slice A (1 + (q.take i).flatten.length) c) (1 + (q.take i).flatten.length) (([t] ++ (q.take i).flatten).map u8v)) ∧ (SB uz (fun k => k < w.heap.size) Aq lq cq q) ∧ (Ch No w uz))
   ⟨rfl, rfl, rfl, rfl, trivial⟩ ⟨0, _, _, rfl, rfl, by omega, hW9.mono (fun k _ hk => by first | omega | (dsimp only at *; omega)), hq, HC⟩ ?_
  rintro m0 e w2 ⟨i, A, c, hm0, rfl, hi, hW9, hq, HC⟩
  have hzw2 := HC.size
  refine ab (aa ?_)
  refine wz (aU rfl rfl) ?_
  refine ac (ae (ab ?_))
  refine aA rfl (fun c0 => ?_) (fun c0 => ?_)
  ·
   have c0 := of_decide_eq_true c0
   have hnx := mh (q := q) (i := i) (by omega)
   have hle := r4 q (i + 1)
   refine al (ae (ab (ap (ab (aa ?_)))))
   obtain ⟨b3, o3, hA3, hF3, hc3⟩ := hq.opn (by omega)
   obtain ⟨SA14, sl14, sc14, hcc3, hS14⟩ := hc3 i (by omega)
   have hSl14 := hS14.len
   refine wz (dO (j := i) underlying77 sz38 rfl hA3 rfl (by omega) (by omega) (Int.toNat_natCast _)) ?_
   refine wz (aE underlying38 rfl rfl (ld (hcc3))) ?_
   have hqi : (q.getD i []).length = sl14 := hSl14
   have hnl : (q.take i).flatten.length + sl14 = (q.take (i + 1)).flatten.length := by rw [← hnx, List.length_append, hqi]
   refine was ?_
   refine ac (ae (aa ?_))
   iterate 2 refine wmv ?_
   refine wle rfl (bJ rfl dt aX rfl rfl hW9 hS14 (by omega) (by intro k hk; first | omega | (dsimp only at *; omega)) (fun w4 A18 c18 hW9 hc => ?_))
   have hzw4 := hc.size
   have HC := HC.q hc
   first | have hq := hq.cc hc | have hq := hq.cT hc
   refine was ?_
   refine ac (ak (ae (aa ?_)))
   refine wz (aF rfl rfl (w64 (by omega))) ?_
   refine wmv ?_
   refine ac ?_
   refine bG (e' := [(5, .slice (A18) (1 + (q.take (i + 1)).flatten.length) (c18)), (10, .slice Aq lq cq), (11, i64 (lq : Int)), (12, i64 ((i + 1) : Int))]) ⟨(by rw [← hnl, ← Nat.add_assoc]; rfl), rfl, rfl, rfl, trivial⟩ (by rw [hm0]; omega) ⟨i + 1, A18, c18, rfl, rfl, by omega, by rw [← hnl, ← hnx, ← List.append_assoc, ← Nat.add_assoc]; exact hW9.mono (fun k _ hk => by first | omega | (dsimp only at *; omega)), hq, HC⟩
  have c0 := of_decide_eq_false c0
  refine aI (ah (ah (av (ae (ab (aa ?_))))))
  refine wmv ?_
  refine was ?_
  refine ac (ae (ao ?_))
  refine aj ((aK rfl rfl)) ?_
  have ht : q.take i = q := List.take_of_length_le (by omega)
  rw [ht] at hW9
  rw [ht]
  exact ⟨_, _, rfl, hW9, HC⟩

theorem nq {w : World} {t : UInt8} {Aq : Option Addr} {lq cq : Nat} {Fq : Nat → Prop} {q : List (List UInt8)} (hq : SB w Fq Aq lq cq q) (hn : lq ≤ 1099511627000) (hl : q.flatten.length ≤ 1099511627000) :
    Calls Tryz.prog 153 #[u8v t, .slice Aq lq cq] w fun e w' => ∃ A c, e = .returned (.slice A (1 + q.flatten.length) c) ∧ Row w' (fun k => w.heap.size ≤ k) 5 1 (.slice A (1 + q.flatten.length) c) (1 + q.flatten.length) (([t] ++ q.flatten).map u8v) ∧ Ch No w w' := by
  have hql := hq.len
  have hq := hq.old
  have HC : Ch No w w := Ch.refl _ _
  refine aH (args := [u8v t, .slice Aq lq cq]) (n := 21) Tryz.func153 rfl rfl rfl ?_
  refine ab (aa ?_)
  refine was ?_
  refine ac (ae (ab (aa ?_)))
  refine wmv ?_
  refine wle rfl (aT (E := 5) rfl rfl (fun _ => by kernel_rfl) (fun w1 g9 hg9 hb9 hc hsz9 => ?_))
  have hzw1 := hc.size
  have hge9 := HC.geo hg9
  have HC := HC.tr hc
  have hq := hq.no hc
  have hW9 := Row.lit (l := 1) (f := u8v) (xs := [t]) (F := fun k => g9 ≤ k) hb9 (by first | omega | (dsimp only; omega)) rfl rfl (by simp [maxLen])
  refine was ?_
  refine ac (ae (ab (ab (aa ?_))))
  refine wmv ?_
  refine wz (aw underlying77 rfl) ?_
  refine wmv ?_
  refine ac (ae (ap ?_))
  refine ek (e' := [(5, .slice (_) (1 + (q.take (0)).flatten.length) (_)), (10, .slice Aq lq cq), (11, i64 (lq : Int)), (12, i64 ((0) : Int))]) (fun mz ez uz => ∃ i : Nat, ∃ A : Option Addr, ∃ c : Nat, mz = lq - i ∧ ez = [(5, .slice A (1 + (q.take i).flatten.length) c), (10, .slice Aq lq cq), (11, i64 (lq : Int)), (12, i64 (i : Int))] ∧ (i ≤ lq) ∧ (Row uz (fun k => w.heap.size ≤ k) 5 1 (.slice A (1 + (q.take i).flatten.length) c) (1 + (q.take i).flatten.length) (([t] ++ (q.take i).flatten).map u8v)) ∧ (SB uz (fun k => k < w.heap.size) Aq lq cq q) ∧ (Ch No w uz))
   ⟨rfl, rfl, rfl, rfl, trivial⟩ ⟨0, _, _, rfl, rfl, by omega, hW9.mono (fun k _ hk => by first | omega | (dsimp only at *; omega)), hq, HC⟩ ?_
  rintro m0 e w2 ⟨i, A, c, hm0, rfl, hi, hW9, hq, HC⟩
  have hzw2 := HC.size
  refine ab (aa ?_)
  refine wz (aU rfl rfl) ?_
  refine ac (ae (ab ?_))
  refine aA rfl (fun c0 => ?_) (fun c0 => ?_)
  ·
   have c0 := of_decide_eq_true c0
   have hnx := mh (q := q) (i := i) (by omega)
   have hle := r4 q (i + 1)
   refine al (ae (ab (ap (ab (aa ?_)))))
   obtain ⟨b3, o3, hA3, hF3, hc3⟩ := hq.opn (by omega)
   obtain ⟨SA14, sl14, sc14, hcc3, hS14⟩ := hc3 i (by omega)
   have hSl14 := hS14.len
   refine wz (dO (j := i) underlying77 sz38 rfl hA3 rfl (by omega) (by omega) (Int.toNat_natCast _)) ?_
   refine wz (aE underlying38 rfl rfl (ld (hcc3))) ?_
   have hqi : (q.getD i []).length = sl14 := hSl14
   have hnl : (q.take i).flatten.length + sl14 = (q.take (i + 1)).flatten.length := by rw [← hnx, List.length_append, hqi]
   refine was ?_
   refine ac (ae (aa ?_))
   iterate 2 refine wmv ?_
   refine wle rfl (bJ rfl dt aX rfl rfl hW9 hS14 (by omega) (by intro k hk; first | omega | (dsimp only at *; omega)) (fun w4 A18 c18 hW9 hc => ?_))
   have hzw4 := hc.size
   have HC := HC.q hc
   first | have hq := hq.cc hc | have hq := hq.cT hc
   refine was ?_
   refine ac (ak (ae (aa ?_)))
   refine wz (aF rfl rfl (w64 (by omega))) ?_
   refine wmv ?_
   refine ac ?_
   refine bG (e' := [(5, .slice (A18) (1 + (q.take (i + 1)).flatten.length) (c18)), (10, .slice Aq lq cq), (11, i64 (lq : Int)), (12, i64 ((i + 1) : Int))]) ⟨(by rw [← hnl, ← Nat.add_assoc]; rfl), rfl, rfl, rfl, trivial⟩ (by rw [hm0]; omega) ⟨i + 1, A18, c18, rfl, rfl, by omega, by rw [← hnl, ← hnx, ← List.append_assoc, ← Nat.add_assoc]; exact hW9.mono (fun k _ hk => by first | omega | (dsimp only at *; omega)), hq, HC⟩
  have c0 := of_decide_eq_false c0
  refine aI (ah (ah (av (ae (ab (aa ?_))))))
  refine wmv ?_
  refine was ?_
  refine ac (ae (ao ?_))
  refine aj ((aK rfl rfl)) ?_
  have ht : q.take i = q := List.take_of_length_le (by omega)
  rw [ht] at hW9
  rw [ht]
  exact ⟨_, _, rfl, hW9, HC⟩

theorem tof_any {w : World} {t : UInt8} {Aq : Option Addr} {lq cq : Nat} {Fq : Nat → Prop} {q : List (List UInt8)} (hq : SB w Fq Aq lq cq q) (hn : lq ≤ 1099511627000) (hl : q.flatten.length ≤ 1099511627000) (hrnd : Sl w (fun k => k = 0) aO (some ⟨0, 0, none⟩) 64 64 rk) :
  Calls Tryz.prog 191 #[u8v t, .slice Aq lq cq] w fun e w' => e = .returned (hv (shaF ([t] ++ q.flatten))) ∧ Ch No w w' := by
 have hn1 : 0 < w.heap.size := hrnd.size (by omega) rfl
 have hq := hq.old
 have HC : Ch No w w := Ch.refl _ _
 refine aH (args := [u8v t, .slice Aq lq cq]) (n := 9) Tryz.func191 rfl rfl rfl ?_
 refine ab (aa ?_)
 refine wle rfl (ea3 (fun w1 g4 hg4 hb4 hc hsz4 => ?_))
 have hzw1 := hc.size
 have hge4 := HC.geo hg4
 have HC := HC.tr hc
 have hq := hq.no hc
 have hrnd := hrnd.no hc
 refine ac (ae (ab (aa ?_)))
 iterate 2 refine wmv ?_
 refine wle rfl (ai ry rfl rfl (tG (hq) (by omega) (by first | omega | (simp only [List.flatten_cons, List.flatten_nil, List.length_append, List.length_nil, List.length_cons]; omega))) ?_)
 rintro _ w2 ⟨A7, c7, rfl, hW7, hc⟩
 refine ⟨_, rfl, ?_⟩
 have hzw2 := hc.size
 have HC := HC.tr hc
 have hrnd := hrnd.no hc
 have hb4 := hb4.no hc
 refine wle rfl (ai rz rfl rfl (lS (hW7.sl) (by omega) hrnd) ?_)
 rintro _ w3 ⟨rfl, hc⟩
 refine ⟨_, rfl, ?_⟩
 have hzw3 := hc.size
 have HC := HC.tr hc
 have hb4 := hb4.no hc
 have hW7 := hW7.after hc
 refine wle rfl (esh au hb4 (fun w4 hb4 hc hsz => ?_))
 have hzw4 := hc.size
 have HC := HC.n hc
 refine ac (ae (ao ?_))
 refine aj (fN (cs := List.map u8v (shaF _)) rfl rfl underlying34 rfl (szL au (by rw [List.length_map]; exact aD _)) (aN hb4)) ?_
 exact ⟨rfl, HC⟩

theorem kG {w : World}  {a : List UInt8} {y : List UInt8} (ha : a.length = 32) (hy : y.length = 32) (hrnd : Sl w (fun k => k = 0) aO (some ⟨0, 0, none⟩) 64 64 rk) :
  Calls Tryz.prog 155 #[hv a, hv y] w fun e w' => e = .returned (hv (bu a y)) ∧ Ch No w w' := by
 have hn1 : 0 < w.heap.size := hrnd.size (by omega) rfl
 have HC : Ch No w w := Ch.refl _ _
 refine aH (args := [hv a, hv y]) (n := 9) Tryz.func155 rfl rfl rfl ?_
 refine ab (aa ?_)
 refine wle rfl (bg (cs := (List.map u8v a).toArray) rfl rfl rfl (fun w1 g2 hg2 hb2 hc hsz2 => ?_))
 have hzw1 := hc.size
 have hge2 := HC.geo hg2
 have HC := HC.tr hc
 have hrnd := hrnd.no hc
 have hltg2 := hb2.lt
 refine wle rfl (bg (cs := (List.map u8v y).toArray) rfl rfl rfl (fun w2 g3 hg3 hb3 hc hsz3 => ?_))
 have hzw2 := hc.size
 have hge3 := HC.geo hg3
 have HC := HC.tr hc
 have hrnd := hrnd.no hc
 have hb2 := hb2.no hc
 have hltg2 := hb2.lt
 have hltg3 := hb3.lt
 refine wle rfl (ea3 (fun w3 g4 hg4 hb4 hc hsz4 => ?_))
 have hzw3 := hc.size
 have hge4 := HC.geo hg4
 have HC := HC.tr hc
 have hrnd := hrnd.no hc
 have hb2 := hb2.no hc
 have hb3 := hb3.no hc
 refine ac (ae (ab ?_))
 refine wdr (.q 0 [0, 0, 2, 2, 3] .nil) 4 No (fun w4 hc hszw4 => ?_)
 have hzw4 := hc.size
 have HC := HC.tr hc
 have hrnd := hrnd.no hc
 have hb2 := hb2.no hc
 have hb3 := hb3.no hc
 have hb4 := hb4.no hc
 have hS : Ch No w4 w4 := Ch.refl _ _
 have hS5 := Sl.whole (L := a) hb2 (ha)
 refine ws1 rfl (jW (N := 31) underlying34 sz5 rfl) ?_
 have hS6 := Sl.whole (L := y) hb3 (hy)
 refine ws1 rfl (jW (N := 31) underlying34 sz5 rfl) ?_
 have hltg2 := hb2.lt
 have hltg3 := hb3.lt
 have hltg4 := hb4.lt
 refine ax rfl rfl (aT (E := 38) rfl rfl (fun _ => by kernel_rfl) (fun w5 g7 hg7 hb7 hc hsz7 => ⟨hc, ?_⟩))
 have hzw5 := hc.size
 have hge7 := HC.geo hg7
 have HC := HC.tr hc
 have hrnd := hrnd.no hc
 have hb4 := hb4.no hc
 have hS5 := hS5.no hc
 have hS6 := hS6.no hc
 have hQ7 := SB.lit2 hb7 (hS5) (hS6)
 refine aB hc ?_
 refine ax rfl rfl (ai ent191 rfl rfl (tof_any (t := 1) (hQ7) (by omega) (by first | omega | (simp only [List.flatten_cons, List.flatten_nil, List.length_append, List.length_nil, List.length_cons]; omega)) hrnd) ?_)
 rintro _ w6 ⟨rfl, hc⟩
 refine ⟨_, rfl, hc, ?_⟩
 have hzw6 := hc.size
 have HC := HC.tr hc
 have hb4 := hb4.no hc
 refine aB hc ?_
 refine bf rfl rfl (esh au hb4 (fun w7 hb4 hc hsz => ?_))
 have hzw7 := hc.size
 have HC := HC.n hc
 refine aW (ae (ao ?_))
 refine aj (fN (cs := List.map u8v (shaF _)) rfl rfl underlying34 rfl (szL au (by rw [List.length_map]; exact aD _)) (aN hb4)) ?_
 rw [pg]; exact ⟨rfl, HC⟩

theorem nr {w : World} {t : UInt8} {Aq : Option Addr} {lq cq : Nat} {Fq : Nat → Prop} {q : List (List UInt8)} (hq : SB w Fq Aq lq cq q) (hn : lq ≤ 1099511627000) (hl : q.flatten.length ≤ 1099511627000) :
  Calls Tryz.prog 84 #[u8v t, .slice Aq lq cq] w fun e w' => e = .returned (hv (shaF ([t] ++ q.flatten))) ∧ Ch No w w' := by
 have hq := hq.old
 have HC : Ch No w w := Ch.refl _ _
 refine aH (args := [u8v t, .slice Aq lq cq]) (n := 9) Tryz.func84 rfl rfl rfl ?_
 refine ab (aa ?_)
 refine wle rfl (ea3 (fun w1 g4 hg4 hb4 hc hsz4 => ?_))
 have hzw1 := hc.size
 have hge4 := HC.geo hg4
 have HC := HC.tr hc
 have hq := hq.no hc
 refine ac (ae (ab (aa ?_)))
 iterate 2 refine wmv ?_
 refine wle rfl (ai ent153 rfl rfl (nq (hq) (by omega) (by first | omega | (simp only [List.flatten_cons, List.flatten_nil, List.length_append, List.length_nil, List.length_cons]; omega))) ?_)
 rintro _ w2 ⟨A7, c7, rfl, hW7, hc⟩
 refine ⟨_, rfl, ?_⟩
 have hzw2 := hc.size
 have HC := HC.tr hc
 have hb4 := hb4.no hc
 refine wle rfl (ai ru rfl rfl (jN (hW7.sl) (by first | omega | (simp only [List.flatten_cons, List.flatten_nil, List.length_append, List.length_nil, List.length_cons]; omega))) ?_)
 rintro _ w3 ⟨rfl, hc⟩
 refine ⟨_, rfl, ?_⟩
 have hzw3 := hc.size
 have HC := HC.tr hc
 have hb4 := hb4.no hc
 have hW7 := hW7.after hc
 refine wle rfl (esh au hb4 (fun w4 hb4 hc hsz => ?_))
 have hzw4 := hc.size
 have HC := HC.n hc
 refine ac (ae (ao ?_))
 refine aj (fN (cs := List.map u8v (shaF _)) rfl rfl underlying34 rfl (szL au (by rw [List.length_map]; exact aD _)) (aN hb4)) ?_
 exact ⟨rfl, HC⟩

theorem oD {w : World} {Ab : Option Addr} {lb cb : Nat} {Fb : Nat → Prop} {b : List UInt8} (hb : Sl w Fb u8v Ab lb cb b) (hl : lb ≤ 1099511627000) :
  Calls Tryz.prog 30 #[.slice Ab lb cb] w fun e w' => e = .returned (hv (cm b)) ∧ Ch No w w' := by
 have hbl := hb.len
 have hb := hb.old
 have HC : Ch No w w := Ch.refl _ _
 refine aH (args := [.slice Ab lb cb]) (n := 6) Tryz.func30 rfl rfl rfl ?_
 refine ab (aa ?_)
 refine wle rfl (ea3 (fun w1 g2 hg2 hb2 hc hsz2 => ?_))
 have hzw1 := hc.size
 have hge2 := HC.geo hg2
 have HC := HC.tr hc
 have hb := hb.no hc
 refine ac (ae (ab (aa ?_)))
 refine wmv ?_
 have hltg2 := hb2.lt
 refine wle rfl (aT (E := 38) rfl rfl (fun _ => by kernel_rfl) (fun w2 g4 hg4 hb4 hc hsz4 => ?_))
 have hzw2 := hc.size
 have hge4 := HC.geo hg4
 have HC := HC.tr hc
 have hb := hb.no hc
 have hb2 := hb2.no hc
 have hQ4 := SB.lit1 hb4 (hb)
 refine wle rfl (ai ent84 rfl rfl (nr (t := 0) (hQ4) (by omega) (by first | omega | (simp only [List.flatten_cons, List.flatten_nil, List.length_append, List.length_nil, List.length_cons]; omega))) ?_)
 rintro _ w3 ⟨rfl, hc⟩
 refine ⟨_, rfl, ?_⟩
 have hzw3 := hc.size
 have HC := HC.tr hc
 have hb2 := hb2.no hc
 refine wle rfl (esh au hb2 (fun w4 hb2 hc hsz => ?_))
 have hzw4 := hc.size
 have HC := HC.n hc
 refine ac (ae (ao ?_))
 refine aj (fN (cs := List.map u8v (shaF _)) rfl rfl underlying34 rfl (szL au (by rw [List.length_map]; exact aD _)) (aN hb2)) ?_
 rw [leaf_of]; exact ⟨rfl, HC⟩

theorem cG {w : World}  {a : List UInt8} {y : List UInt8} (ha : a.length = 32) (hy : y.length = 32) :
  Calls Tryz.prog 83 #[hv a, hv y] w fun e w' => e = .returned (hv (bu a y)) ∧ Ch No w w' := by
 have HC : Ch No w w := Ch.refl _ _
 refine aH (args := [hv a, hv y]) (n := 9) Tryz.func83 rfl rfl rfl ?_
 refine ab (aa ?_)
 refine wle rfl (bg (cs := (List.map u8v a).toArray) rfl rfl rfl (fun w1 g2 hg2 hb2 hc hsz2 => ?_))
 have hzw1 := hc.size
 have hge2 := HC.geo hg2
 have HC := HC.tr hc
 have hltg2 := hb2.lt
 refine wle rfl (bg (cs := (List.map u8v y).toArray) rfl rfl rfl (fun w2 g3 hg3 hb3 hc hsz3 => ?_))
 have hzw2 := hc.size
 have hge3 := HC.geo hg3
 have HC := HC.tr hc
 have hb2 := hb2.no hc
 have hltg2 := hb2.lt
 have hltg3 := hb3.lt
 refine wle rfl (ea3 (fun w3 g4 hg4 hb4 hc hsz4 => ?_))
 have hzw3 := hc.size
 have hge4 := HC.geo hg4
 have HC := HC.tr hc
 have hb2 := hb2.no hc
 have hb3 := hb3.no hc
 refine ac (ae (ab ?_))
 refine wdr (.q 0 [0, 0, 2, 2, 3] .nil) 4 No (fun w4 hc hszw4 => ?_)
 have hzw4 := hc.size
 have HC := HC.tr hc
 have hb2 := hb2.no hc
 have hb3 := hb3.no hc
 have hb4 := hb4.no hc
 have hS : Ch No w4 w4 := Ch.refl _ _
 have hS5 := Sl.whole (L := a) hb2 (ha)
 refine ws1 rfl (jW (N := 31) underlying34 sz5 rfl) ?_
 have hS6 := Sl.whole (L := y) hb3 (hy)
 refine ws1 rfl (jW (N := 31) underlying34 sz5 rfl) ?_
 have hltg2 := hb2.lt
 have hltg3 := hb3.lt
 have hltg4 := hb4.lt
 refine ax rfl rfl (aT (E := 38) rfl rfl (fun _ => by kernel_rfl) (fun w5 g7 hg7 hb7 hc hsz7 => ⟨hc, ?_⟩))
 have hzw5 := hc.size
 have hge7 := HC.geo hg7
 have HC := HC.tr hc
 have hb4 := hb4.no hc
 have hS5 := hS5.no hc
 have hS6 := hS6.no hc
 have hQ7 := SB.lit2 hb7 (hS5) (hS6)
 refine aB hc ?_
 refine ax rfl rfl (ai ent84 rfl rfl (nr (t := 1) (hQ7) (by omega) (by first | omega | (simp only [List.flatten_cons, List.flatten_nil, List.length_append, List.length_nil, List.length_cons]; omega))) ?_)
 rintro _ w6 ⟨rfl, hc⟩
 refine ⟨_, rfl, hc, ?_⟩
 have hzw6 := hc.size
 have HC := HC.tr hc
 have hb4 := hb4.no hc
 refine aB hc ?_
 refine bf rfl rfl (esh au hb4 (fun w7 hb4 hc hsz => ?_))
 have hzw7 := hc.size
 have HC := HC.n hc
 refine aW (ae (ao ?_))
 refine aj (fN (cs := List.map u8v (shaF _)) rfl rfl underlying34 rfl (szL au (by rw [List.length_map]; exact aD _)) (aN hb4)) ?_
 rw [pg]; exact ⟨rfl, HC⟩

theorem fD {w : World} {sa na : Int} {ba : Bool} {Ara : Option Addr} {lra cra : Nat} {Fra : Nat → Prop} {ra : List RD} {Awa : Option Addr} {lwa cwa : Nat} {Fwa : Nat → Prop} {wa : List Pr} {Ga : Nat → Prop}  (hra : SI w Fra eRD Ara lra cra ra) (hwa : SI w Fwa ePR Awa lwa cwa wa) (hna : NS w Ga ra) (hlr : lra ≤ 140737488351232) (hlw : lwa ≤ 140737488351232) (hR : Right ⟨sa, na, ba, ra.map RD.abs, wa⟩) :
  Calls Tryz.prog 9 #[.agg ([i64 sa, i64 na, .bool ba, .slice Ara lra cra, .slice Awa lwa cwa] : List Value).toArray] w fun e w' => e = .returned (hv (cm (cd ⟨sa, na, ba, ra.map RD.abs, wa⟩))) ∧ Ch No w w' := by
 have hrla := hra.len
 have hwla := hwa.len
 have hna := hna.old
 have hra := hra.old
 have hwa := hwa.old
 have HC : Ch No w w := Ch.refl _ _
 refine aH (args := [_]) (n := 6) Tryz.func9 rfl rfl rfl ?_
 refine ab (aa ?_)
 refine wle rfl (bg (cs := ([i64 sa, i64 na, .bool ba, .slice Ara lra cra, .slice Awa lwa cwa] : List Value).toArray) rfl rfl rfl (fun w1 g1 hg1 hb1 hc hsz1 => ?_))
 have hzw1 := hc.size
 have hge1 := HC.geo hg1
 have HC := HC.tr hc
 have hra := hra.no hc
 have hwa := hwa.no hc
 have hna := hna.cc hc
 have hltg1 := hb1.lt
 refine wle rfl (ea3 (fun w2 g2 hg2 hb2 hc hsz2 => ?_))
 have hzw2 := hc.size
 have hge2 := HC.geo hg2
 have HC := HC.tr hc
 have hra := hra.no hc
 have hwa := hwa.no hc
 have hna := hna.cc hc
 have hb1 := hb1.no hc
 refine ac (ae (ab (aa ?_)))
 refine wz (pla underlying25 ej (aN hb1)) ?_
 refine wle rfl (ai ent31 rfl rfl (oA (hra) (hwa) hna (by omega) (by omega) hR) ?_)
 rintro _ w3 ⟨A4, l4, c4, rfl, hB4, hn4, hc⟩
 refine ⟨_, rfl, ?_⟩
 have hzw3 := hc.size
 have HC := HC.tr hc
 have hb2 := hb2.no hc
 refine wle rfl (ai ent30 rfl rfl (oD (hB4) (by omega)) ?_)
 rintro _ w4 ⟨rfl, hc⟩
 refine ⟨_, rfl, ?_⟩
 have hzw4 := hc.size
 have HC := HC.tr hc
 have hb2 := hb2.no hc
 refine wle rfl (esh au hb2 (fun w5 hb2 hc hsz => ?_))
 have hzw5 := hc.size
 have HC := HC.n hc
 refine ac (ae (ao ?_))
 refine aj (fN (cs := List.map u8v (cm _)) rfl rfl underlying34 rfl (szL au (by rw [List.length_map]; exact bp _)) (aN hb2)) ?_
 exact ⟨rfl, HC⟩

theorem jO {w : World} {n : Nat}  (h2 : 2 ≤ n) (hm : n ≤ 1099511627776) :
    Calls Tryz.prog 82 #[i64 (n : Int)] w fun e w' => e = .returned (i64 (spl n : Int)) ∧ Ch No w w' := by
  have HC : Ch No w w := Ch.refl _ _
  refine aH (args := [i64 (n : Int)]) (n := 14) Tryz.func82 rfl rfl rfl ?_
  refine ab (aa ?_)
  refine was ?_
  refine ac (ae (ab (ab (aa ?_))))
  refine wmv ?_
  refine wz (aU rfl rfl) ?_
  refine ac (ae ?_)
  refine bx rfl (decide_eq_false (by omega)) ?_
  refine al (ae (ab (aa ?_)))
  refine was ?_
  refine ac (ae (ab (ap ?_)))
  refine wcl (fun mz ez uz => ∃ k : Nat, ∃ j : Nat, mz = n - k ∧ ez = [(0, i64 (n : Int)), (3, i64 (k : Int))] ∧ (k = 2 ^ j) ∧ (k < n) ∧ (Ch No w uz))
   ⟨1, 0, rfl, rfl, rfl, by omega, HC⟩ ?_
  rintro m0 e w1 ⟨k, j, hm0, rfl, hk, hkn, HC⟩
  have hzw1 := HC.size
  refine ab (ab (aa ?_))
  iterate 3 refine wmv ?_
  refine wz (aZ rfl rfl (w64 (by omega))) ?_
  refine wz (aU rfl rfl) ?_
  refine ac (ae ?_)
  refine aA rfl (fun c1 => ?_) (fun c1 => ?_)
  ·
   have c1 := of_decide_eq_true c1
   refine al (ae (ap (aa ?_)))
   refine wmv ?_
   refine wz (cH rfl rfl (w64 (by omega))) ?_
   refine was ?_
   refine ac (ak ?_)
   refine bG (e' := [(0, i64 (n : Int)), (3, i64 ((k * 2) : Int))]) ⟨rfl, rfl, trivial⟩ (by rw [hm0]; (have := Nat.two_pow_pos j; omega)) ⟨k * 2, j + 1, rfl, rfl, (by rw [hk, Nat.pow_succ]), by omega, HC⟩
  have c1 := of_decide_eq_false c1
  refine aI (ah (ah (av (ae (ab (aa ?_))))))
  refine wmv ?_
  refine was ?_
  refine ac (ae (ao ?_))
  refine aj ((aK rfl rfl)) ?_
  rw [hk, sB (n := n) (j := j) (by omega) (by omega)]; exact ⟨rfl, HC⟩

def qc (n : Nat) : Prop := ∀ {w : World} {Aq : Option Addr} {lq cq : Nat} {Fq : Nat → Prop} {q : List (List UInt8)}  {lf : List UInt8}  {i : Nat} (hi : i < n) (hq : SI w Fq eHs Aq lq cq q) (hlf : lf.length = 32) (hlq : lq ≤ 1000000), Calls Tryz.prog 29 #[i64 (n : Int), i64 (i : Int), hv lf, .slice Aq lq cq] w fun e w' => ∃ (u : List UInt8) (ok : Bool), e = .returned (.tuple #[hv u, .bool ok]) ∧ CL n i lf q u ok ∧ Ch No w w'

theorem nt {w : World} {n i : Nat} {Aq : Option Addr} {lq cq : Nat} {Fq : Nat → Prop} {q : List (List UInt8)} {lf : List UInt8}  (hrec : ∀ m, 1 ≤ m → m < n → qc m) (hn1 : 1 ≤ n) (hnm : n ≤ 1099511627776) (hi : i < n) (hq : SI w Fq eHs Aq lq cq q) (hlf : lf.length = 32) (hlq : lq ≤ 1000000) :
    Calls Tryz.prog 29 #[i64 (n : Int), i64 (i : Int), hv lf, .slice Aq lq cq] w fun e w' => ∃ (u : List UInt8) (ok : Bool), e = .returned (.tuple #[hv u, .bool ok]) ∧ CL n i lf q u ok ∧ Ch No w w' := by
  have hql := hq.len
  have hq := hq.old
  have HC : Ch No w w := Ch.refl _ _
  refine aH (args := [i64 (n : Int), i64 (i : Int), hv lf, .slice Aq lq cq]) (n := 73) Tryz.func29 rfl rfl rfl ?_
  refine ab (aa ?_)
  refine wle rfl (bg (cs := (List.map u8v lf).toArray) rfl rfl rfl (fun w1 g6 hg6 hb6 hc hsz6 => ?_))
  have hzw1 := hc.size
  have hge6 := HC.geo hg6
  have HC := HC.tr hc
  have hq := hq.no hc
  have hltg6 := hb6.lt
  refine wle rfl (ea3 (fun w2 g8 hg8 hb8 hc hsz8 => ?_))
  have hzw2 := hc.size
  have hge8 := HC.geo hg8
  have HC := HC.tr hc
  have hq := hq.no hc
  have hb6 := hb6.no hc
  refine was ?_
  refine ac (ae (ab (ab (aa ?_))))
  refine wmv ?_
  refine wz (gS rfl rfl) ?_
  refine ac (ae ?_)
  refine aA rfl (fun c0 => ?_) (fun c0 => ?_)
  ·
   have c0 := of_decide_eq_true c0
   refine ab (aa ?_)
   refine wz (pla underlying34 au (aN hb6)) ?_
   refine wmv ?_
   refine wz (aw underlying26 rfl) ?_
   refine wz (gS rfl rfl) ?_
   refine wle rfl (esh au hb8 (fun w3 hb8 hc hsz => ?_))
   have hzw3 := hc.size
   have HC := HC.n hc
   refine was ?_
   refine ac (ae (ao (ag ?_)))
   refine aj (bd (rs := [.cell 8 34, .tmp 9]) rfl (.cellA (cs := List.map u8v lf) rfl underlying34 rfl (szL au (by rw [List.length_map]; exact hlf)) (aN hb8) (.tmp rfl (.nil))) rfl) ?_
   exact ⟨lf, _, rfl, CL.one (by omega) hlf (by rw [decide_eq_true_iff]; omega), HC⟩
  have c0 := of_decide_eq_false c0
  have h2n : 2 ≤ n := by omega
  have hsl := cF h2n
  have hsp := bT n
  have hsg := ig h2n
  refine al (ae (ab (ab (aa ?_))))
  refine wmv ?_
  refine wz (aw underlying26 rfl) ?_
  refine wz (gS rfl rfl) ?_
  refine ac (ae ?_)
  refine aA rfl (fun c1 => ?_) (fun c1 => ?_)
  ·
   have c1 := of_decide_eq_true c1
   refine ab (aa ?_)
   refine wz (bI (cs := ((List.replicate 32 (0 : UInt8)).map u8v).toArray) rfl (fun _ => by kernel_rfl)) ?_
   refine wle rfl (esh au hb8 (fun w4 hb8 hc hsz => ?_))
   have hzw4 := hc.size
   have HC := HC.n hc
   refine was ?_
   refine ac (ae (ao (ag ?_)))
   refine aj (bd (rs := [.cell 8 34, .tmp 9]) rfl (.cellA (cs := List.map u8v (List.replicate 32 (0 : UInt8))) rfl underlying34 rfl (szL au (by rw [List.length_map]; exact (List.length_replicate ..))) (aN hb8) (.tmp rfl (.nil))) rfl) ?_
   obtain rfl : q = [] := List.eq_nil_of_length_eq_zero (by omega)
   exact ⟨_, false, rfl, CL.none (by omega) (List.length_replicate ..), HC⟩
  have c1 := of_decide_eq_false c1
  refine al (ae (ab (aa ?_)))
  refine wmv ?_
  refine wle rfl (ai ent82 rfl rfl (jO (by omega) (by omega)) ?_)
  rintro _ w5 ⟨rfl, hc⟩
  refine ⟨_, rfl, ?_⟩
  have hzw5 := hc.size
  have HC := HC.tr hc
  have hq := hq.no hc
  have hb6 := hb6.no hc
  have hb8 := hb8.no hc
  refine was ?_
  refine ac (ae (ab (aa ?_)))
  iterate 2 refine wmv ?_
  refine wz (aw underlying26 rfl) ?_
  refine wz (aZ (Z := ((lq - 1 : Nat) : Int)) rfl rfl (by rw [w64 (by omega)]; omega)) ?_
  obtain ⟨b6, o6, x6, ex6, hA6, hr6, hx6k⟩ := rdH (lq - 1) hq
  refine wz (pxs underlying26 au hA6) ?_
  refine wz (pla underlying34 au hr6) ?_
  have hltg6 := hb6.lt
  have hltg8 := hb8.lt
  refine wle rfl (ea3 (fun w7 g11 hg11 hb11 hc hsz11 => ?_))
  have hzw7 := hc.size
  have hge11 := HC.geo hg11
  have HC := HC.tr hc
  have hq := hq.no hc
  have hb6 := hb6.no hc
  have hb8 := hb8.no hc
  refine wle rfl (esh au hb11 (fun w8 hb11 hc hsz => ?_))
  have hzw8 := hc.size
  have HC := HC.n hc
  first | have hq := hq.cc hc | have hq := hq.cT hc
  have hb6 := hb6.cc hc
  have hb8 := hb8.cc hc
  refine ac (ae (ab (ab (aa ?_))))
  iterate 2 refine wmv ?_
  refine wz (aU rfl rfl) ?_
  refine ac (ae ?_)
  refine aA rfl (fun c2 => ?_) (fun c2 => ?_)
  ·
   have c2 := of_decide_eq_true c2
   refine ab ?_
   refine wdr (.q 0 [0, 0, 1, 0, 0, 0, 0, 0] (.alt (.q 8 [2, 0, 0, 0, 2, 3, 0] .nil) (.st 12 2 (.q 8 [2, 0, 0, 0] (.st 13 3 (.st 14 0 .nil)))))) 13 No (fun w9 hc hszw9 => ?_)
   have hzw9 := hc.size
   have HC := HC.tr hc
   have hq := hq.no hc
   have hb6 := hb6.no hc
   have hb8 := hb8.no hc
   have hb11 := hb11.no hc
   have hS : Ch No w9 w9 := Ch.refl _ _
   iterate 2 refine wsm ?_
   refine ws2 rfl (plh underlying34 au (aN hb6)) ?_
   iterate 2 refine wsm ?_
   refine ws1 rfl (aw underlying26 rfl) ?_
   refine ws1 rfl (aZ (Z := ((lq - 1 : Nat) : Int)) rfl rfl (by rw [w64 (by omega)]; omega)) ?_
   have hS45 := hq.cut (lo := 0) (hi := lq - 1) (q := lq - 1) (by omega) (by omega) (by omega)
   rw [List.drop_zero] at hS45
   refine ws1 rfl (dX (l := 0) (h := lq - 1) underlying26 au rfl rfl ⟨IntKind.i64, by first | rfl | exact congrArg (fun z => some (Value.int .i64 z)) (by omega)⟩ (by omega) (by have := hq.cap; omega) hq.cap (q := lq - 1) (by omega)) ?_
   refine bh ?_ ?_
   ·
    refine ax rfl rfl (ai lX rfl rfl (hrec (spl n) (by omega) (by omega) (i := i) (by omega) (hS45) hlf (by omega)) ?_)
    rintro _ w10 ⟨u46, ok46, rfl, hcl46, hc⟩
    refine ⟨_, rfl, hc, ?_⟩
    have hzw10 := hc.size
    have HC := HC.tr hc
    have hb6 := hb6.no hc
    have hb8 := hb8.no hc
    have hb11 := hb11.no hc
    have hu46 := hcl46.1
    refine aB hc ?_
    refine wsm ?_
    refine ws1 rfl (aP rfl rfl) ?_
    refine ws1 rfl (aP rfl rfl) ?_
    have hltg6 := hb6.lt
    have hltg8 := hb8.lt
    have hltg11 := hb11.lt
    refine ax rfl rfl (ea3 (fun w11 g12 hg12 hb12 hc hsz12 => ⟨hc, ?_⟩))
    have hzw11 := hc.size
    have hge12 := HC.geo hg12
    have HC := HC.tr hc
    have hb8 := hb8.no hc
    have hb11 := hb11.no hc
    refine aB hc ?_
    refine bf rfl rfl (esh au hb12 (fun w12 hb12 hc hsz => ?_))
    have hzw12 := hc.size
    have HC := HC.n hc
    have hb8 := hb8.cc hc
    have hb11 := hb11.cc hc
    refine wsa ?_
    refine aW (ae (ab (aa ?_)))
    refine wz (pla underlying34 au (aN hb12)) ?_
    refine wz (pla underlying34 au (aN hb11)) ?_
    refine wle rfl (ai i7 rfl rfl (cG (hu46) (hx6k)) ?_)
    rintro _ w13 ⟨rfl, hc⟩
    refine ⟨_, rfl, ?_⟩
    have hzw13 := hc.size
    have HC := HC.tr hc
    have hb8 := hb8.no hc
    refine wmv ?_
    refine wle rfl (esh au hb8 (fun w14 hb8 hc hsz => ?_))
    have hzw14 := hc.size
    have HC := HC.n hc
    refine was ?_
    refine ac (ae (ao (ag ?_)))
    refine aj (bd (rs := [.cell 8 34, .tmp 9]) rfl (.cellA (cs := List.map u8v (bu u46 x6)) rfl underlying34 rfl (szL au (by rw [List.length_map]; exact aQ _ _)) (aN hb8) (.tmp rfl (.nil))) rfl) ?_
    exact ⟨_, _, rfl, (by rw [ex6]; exact CL.left h2n (by omega) hql (by omega) hcl46), HC⟩
   have hltg6 := hb6.lt
   have hltg8 := hb8.lt
   have hltg11 := hb11.lt
   refine ax rfl rfl (ea3 (fun w15 g12 hg12 hb12 hc hsz12 => ⟨hc, ?_⟩))
   have hzw15 := hc.size
   have hge12 := HC.geo hg12
   have HC := HC.tr hc
   have hb8 := hb8.no hc
   have hb11 := hb11.no hc
   have hS45 := hS45.no hc
   refine aB hc ?_
   refine ax rfl rfl (ai lX rfl rfl (hrec (spl n) (by omega) (by omega) (i := i) (by omega) (hS45) hlf (by omega)) ?_)
   rintro _ w16 ⟨u46, ok46, rfl, hcl46, hc⟩
   refine ⟨_, rfl, hc, ?_⟩
   have hzw16 := hc.size
   have HC := HC.tr hc
   have hb8 := hb8.no hc
   have hb11 := hb11.no hc
   have hb12 := hb12.no hc
   have hu46 := hcl46.1
   refine aB hc ?_
   refine wsm ?_
   refine ws1 rfl (aP rfl rfl) ?_
   refine ws1 rfl (aP rfl rfl) ?_
   refine bf rfl rfl (esh au hb12 (fun w17 hb12 hc hsz => ?_))
   have hzw17 := hc.size
   have HC := HC.n hc
   have hb8 := hb8.cc hc
   have hb11 := hb11.cc hc
   refine wsa ?_
   refine aW (ae (ab (aa ?_)))
   refine wz (pla underlying34 au (aN hb12)) ?_
   refine wz (pla underlying34 au (aN hb11)) ?_
   refine wle rfl (ai i7 rfl rfl (cG (hu46) (hx6k)) ?_)
   rintro _ w18 ⟨rfl, hc⟩
   refine ⟨_, rfl, ?_⟩
   have hzw18 := hc.size
   have HC := HC.tr hc
   have hb8 := hb8.no hc
   refine wmv ?_
   refine wle rfl (esh au hb8 (fun w19 hb8 hc hsz => ?_))
   have hzw19 := hc.size
   have HC := HC.n hc
   refine was ?_
   refine ac (ae (ao (ag ?_)))
   refine aj (bd (rs := [.cell 8 34, .tmp 9]) rfl (.cellA (cs := List.map u8v (bu u46 x6)) rfl underlying34 rfl (szL au (by rw [List.length_map]; exact aQ _ _)) (aN hb8) (.tmp rfl (.nil))) rfl) ?_
   exact ⟨_, _, rfl, (by rw [ex6]; exact CL.left h2n (by omega) hql (by omega) hcl46), HC⟩
  have c2 := of_decide_eq_false c2
  refine al (ae (ab ?_))
  refine wdr (.q 0 [0, 0, 0, 0, 0, 0, 1, 0, 0, 0, 0, 0] (.alt (.q 12 [2, 0, 0, 0, 2, 3, 0] .nil) (.st 16 2 (.q 12 [2, 0, 0, 0] (.st 17 3 (.st 18 0 .nil)))))) 17 No (fun w20 hc hszw20 => ?_)
  have hzw20 := hc.size
  have HC := HC.tr hc
  have hq := hq.no hc
  have hb6 := hb6.no hc
  have hb8 := hb8.no hc
  have hb11 := hb11.no hc
  have hS : Ch No w20 w20 := Ch.refl _ _
  iterate 2 refine wsm ?_
  refine ws1 rfl (aZ (Z := ((n - spl n : Nat) : Int)) rfl rfl (by rw [w64 (by omega)]; omega)) ?_
  iterate 2 refine wsm ?_
  refine ws1 rfl (aZ (Z := ((i - spl n : Nat) : Int)) rfl rfl (by rw [w64 (by omega)]; omega)) ?_
  refine ws2 rfl (plh underlying34 au (aN hb6)) ?_
  iterate 2 refine wsm ?_
  refine ws1 rfl (aw underlying26 rfl) ?_
  refine ws1 rfl (aZ (Z := ((lq - 1 : Nat) : Int)) rfl rfl (by rw [w64 (by omega)]; omega)) ?_
  have hS65 := hq.cut (lo := 0) (hi := lq - 1) (q := lq - 1) (by omega) (by omega) (by omega)
  rw [List.drop_zero] at hS65
  refine ws1 rfl (dX (l := 0) (h := lq - 1) underlying26 au rfl rfl ⟨IntKind.i64, by first | rfl | exact congrArg (fun z => some (Value.int .i64 z)) (by omega)⟩ (by omega) (by have := hq.cap; omega) hq.cap (q := lq - 1) (by omega)) ?_
  refine bh ?_ ?_
  ·
   refine ax rfl rfl (ai lX rfl rfl (hrec (n - spl n) (by omega) (by omega) (i := i - spl n) (by omega) (hS65) hlf (by omega)) ?_)
   rintro _ w21 ⟨u66, ok66, rfl, hcl66, hc⟩
   refine ⟨_, rfl, hc, ?_⟩
   have hzw21 := hc.size
   have HC := HC.tr hc
   have hb6 := hb6.no hc
   have hb8 := hb8.no hc
   have hb11 := hb11.no hc
   have hu66 := hcl66.1
   refine aB hc ?_
   refine wsm ?_
   refine ws1 rfl (aP rfl rfl) ?_
   refine ws1 rfl (aP rfl rfl) ?_
   have hltg6 := hb6.lt
   have hltg8 := hb8.lt
   have hltg11 := hb11.lt
   refine ax rfl rfl (ea3 (fun w22 g14 hg14 hb14 hc hsz14 => ⟨hc, ?_⟩))
   have hzw22 := hc.size
   have hge14 := HC.geo hg14
   have HC := HC.tr hc
   have hb8 := hb8.no hc
   have hb11 := hb11.no hc
   refine aB hc ?_
   refine bf rfl rfl (esh au hb14 (fun w23 hb14 hc hsz => ?_))
   have hzw23 := hc.size
   have HC := HC.n hc
   have hb8 := hb8.cc hc
   have hb11 := hb11.cc hc
   refine wsa ?_
   refine aW (ae (ab (aa ?_)))
   refine wz (pla underlying34 au (aN hb11)) ?_
   refine wz (pla underlying34 au (aN hb14)) ?_
   refine wle rfl (ai i7 rfl rfl (cG (hx6k) (hu66)) ?_)
   rintro _ w24 ⟨rfl, hc⟩
   refine ⟨_, rfl, ?_⟩
   have hzw24 := hc.size
   have HC := HC.tr hc
   have hb8 := hb8.no hc
   refine wmv ?_
   refine wle rfl (esh au hb8 (fun w25 hb8 hc hsz => ?_))
   have hzw25 := hc.size
   have HC := HC.n hc
   refine was ?_
   refine ac (ae (ao ?_))
   refine aj (bd (rs := [.cell 8 34, .tmp 9]) rfl (.cellA (cs := List.map u8v (bu x6 u66)) rfl underlying34 rfl (szL au (by rw [List.length_map]; exact aQ _ _)) (aN hb8) (.tmp rfl (.nil))) rfl) ?_
   exact ⟨_, _, rfl, (by rw [ex6]; exact CL.right h2n (by omega) hql (by omega) hcl66), HC⟩
  have hltg6 := hb6.lt
  have hltg8 := hb8.lt
  have hltg11 := hb11.lt
  refine ax rfl rfl (ea3 (fun w26 g14 hg14 hb14 hc hsz14 => ⟨hc, ?_⟩))
  have hzw26 := hc.size
  have hge14 := HC.geo hg14
  have HC := HC.tr hc
  have hb8 := hb8.no hc
  have hb11 := hb11.no hc
  have hS65 := hS65.no hc
  refine aB hc ?_
  refine ax rfl rfl (ai lX rfl rfl (hrec (n - spl n) (by omega) (by omega) (i := i - spl n) (by omega) (hS65) hlf (by omega)) ?_)
  rintro _ w27 ⟨u66, ok66, rfl, hcl66, hc⟩
  refine ⟨_, rfl, hc, ?_⟩
  have hzw27 := hc.size
  have HC := HC.tr hc
  have hb8 := hb8.no hc
  have hb11 := hb11.no hc
  have hb14 := hb14.no hc
  have hu66 := hcl66.1
  refine aB hc ?_
  refine wsm ?_
  refine ws1 rfl (aP rfl rfl) ?_
  refine ws1 rfl (aP rfl rfl) ?_
  refine bf rfl rfl (esh au hb14 (fun w28 hb14 hc hsz => ?_))
  have hzw28 := hc.size
  have HC := HC.n hc
  have hb8 := hb8.cc hc
  have hb11 := hb11.cc hc
  refine wsa ?_
  refine aW (ae (ab (aa ?_)))
  refine wz (pla underlying34 au (aN hb11)) ?_
  refine wz (pla underlying34 au (aN hb14)) ?_
  refine wle rfl (ai i7 rfl rfl (cG (hx6k) (hu66)) ?_)
  rintro _ w29 ⟨rfl, hc⟩
  refine ⟨_, rfl, ?_⟩
  have hzw29 := hc.size
  have HC := HC.tr hc
  have hb8 := hb8.no hc
  refine wmv ?_
  refine wle rfl (esh au hb8 (fun w30 hb8 hc hsz => ?_))
  have hzw30 := hc.size
  have HC := HC.n hc
  refine was ?_
  refine ac (ae (ao ?_))
  refine aj (bd (rs := [.cell 8 34, .tmp 9]) rfl (.cellA (cs := List.map u8v (bu x6 u66)) rfl underlying34 rfl (szL au (by rw [List.length_map]; exact aQ _ _)) (aN hb8) (.tmp rfl (.nil))) rfl) ?_
  exact ⟨_, _, rfl, (by rw [ex6]; exact CL.right h2n (by omega) hql (by omega) hcl66), HC⟩

theorem oE : ∀ n, 1 ≤ n → n ≤ 1099511627776 → qc n := by
 intro n
 induction n using Nat.strongRecOn with
 | _ n ih => exact fun h1 h2 => fun hi hq hl hlq => nt (fun m h0 hm => ih m hm h0 (by omega)) h1 h2 hi hq hl hlq

theorem db {w : World} {n i : Int} {Aq : Option Addr} {lq cq : Nat} {Fq : Nat → Prop} {q : List (List UInt8)} {lf : List UInt8}  (hq : SI w Fq eHs Aq lq cq q) (hlf : lf.length = 32) (hlq : lq ≤ 1000000) :
    Calls Tryz.prog 8 #[i64 n, i64 i, hv lf, .slice Aq lq cq] w fun e w' => ∃ (u : List UInt8) (ok : Bool), e = .returned (.tuple #[hv u, .bool ok]) ∧ u.length = 32 ∧ (ok = true ↔ (1 ≤ n ∧ n ≤ 1099511627776 ∧ 0 ≤ i ∧ i < n ∧ q.length = (trn n.toNat i.toNat).length)) ∧ (ok = true → u = up2 (sd n.toNat i.toNat) q lf) ∧ Ch No w w' := by
  have hql := hq.len
  have hq := hq.old
  have HC : Ch No w w := Ch.refl _ _
  refine aH (args := [i64 n, i64 i, hv lf, .slice Aq lq cq]) (n := 40) Tryz.func8 rfl rfl rfl ?_
  refine ab (aa ?_)
  refine wle rfl (bg (cs := (List.map u8v lf).toArray) rfl rfl rfl (fun w1 g6 hg6 hb6 hc hsz6 => ?_))
  have hzw1 := hc.size
  have hge6 := HC.geo hg6
  have HC := HC.tr hc
  have hq := hq.no hc
  have hltg6 := hb6.lt
  refine wle rfl (ea3 (fun w2 g8 hg8 hb8 hc hsz8 => ?_))
  have hzw2 := hc.size
  have hge8 := HC.geo hg8
  have HC := HC.tr hc
  have hq := hq.no hc
  have hb6 := hb6.no hc
  refine was ?_
  refine ac (ae (ab (ab (aa ?_))))
  refine wmv ?_
  refine wz (aU rfl rfl) ?_
  refine wmv ?_
  refine az (d := 14) rfl (fun q14 => ?_) (fun q14 => ?_)
  ·
   have q14 := of_decide_eq_true q14
   iterate 2 refine aM gq rfl rfl ?_
   refine wz (am rfl rfl) ?_
   refine wmv ?_
   iterate 2 refine aM gq rfl rfl ?_
   refine wz (am rfl rfl) ?_
   refine wmv ?_
   iterate 3 refine aM gq rfl rfl ?_
   refine wz (am rfl rfl) ?_
   refine ac (ae ?_)
   refine aR rfl (rfl) ?_
   refine ab (aa ?_)
   refine wz (bI (cs := ((List.replicate 32 (0 : UInt8)).map u8v).toArray) rfl (fun _ => by kernel_rfl)) ?_
   refine wle rfl (esh au hb8 (fun w3 hb8 hc hsz => ?_))
   have hzw3 := hc.size
   have HC := HC.n hc
   refine was ?_
   refine ac (ae (ao (ag ?_)))
   refine aj (bd (rs := [.cell 8 34, .tmp 9]) rfl (.cellA (cs := List.map u8v (List.replicate 32 (0 : UInt8))) rfl underlying34 rfl (szL au (by rw [List.length_map]; exact (List.length_replicate ..))) (aN hb8) (.tmp rfl (.nil))) rfl) ?_
   exact ⟨_, false, rfl, List.length_replicate .., ⟨fun h => (by cases h), fun h => (by omega)⟩, fun h => (by cases h), HC⟩
  have q14 := of_decide_eq_false q14
  refine aq gq rfl rfl (aS rfl) ?_
  refine aq gq rfl rfl (bM rfl rfl) ?_
  refine wz (ar rfl rfl) ?_
  refine wmv ?_
  refine az (d := 18) rfl (fun q18 => ?_) (fun q18 => ?_)
  ·
   have q18 := of_decide_eq_true q18
   iterate 2 refine aM gq rfl rfl ?_
   refine wz (am rfl rfl) ?_
   refine wmv ?_
   iterate 3 refine aM gq rfl rfl ?_
   refine wz (am rfl rfl) ?_
   refine ac (ae ?_)
   refine aR rfl (rfl) ?_
   refine ab (aa ?_)
   refine wz (bI (cs := ((List.replicate 32 (0 : UInt8)).map u8v).toArray) rfl (fun _ => by kernel_rfl)) ?_
   refine wle rfl (esh au hb8 (fun w4 hb8 hc hsz => ?_))
   have hzw4 := hc.size
   have HC := HC.n hc
   refine was ?_
   refine ac (ae (ao (ag ?_)))
   refine aj (bd (rs := [.cell 8 34, .tmp 9]) rfl (.cellA (cs := List.map u8v (List.replicate 32 (0 : UInt8))) rfl underlying34 rfl (szL au (by rw [List.length_map]; exact (List.length_replicate ..))) (aN hb8) (.tmp rfl (.nil))) rfl) ?_
   exact ⟨_, false, rfl, List.length_replicate .., ⟨fun h => (by cases h), fun h => (by omega)⟩, fun h => (by cases h), HC⟩
  have q18 := of_decide_eq_false q18
  refine aq gq rfl rfl (aS rfl) ?_
  refine aq gq rfl rfl (aU rfl rfl) ?_
  refine wz (ar rfl rfl) ?_
  refine wmv ?_
  refine az (d := 22) rfl (fun q22 => ?_) (fun q22 => ?_)
  ·
   have q22 := of_decide_eq_true q22
   iterate 3 refine aM gq rfl rfl ?_
   refine wz (am rfl rfl) ?_
   refine ac (ae ?_)
   refine aR rfl (rfl) ?_
   refine ab (aa ?_)
   refine wz (bI (cs := ((List.replicate 32 (0 : UInt8)).map u8v).toArray) rfl (fun _ => by kernel_rfl)) ?_
   refine wle rfl (esh au hb8 (fun w5 hb8 hc hsz => ?_))
   have hzw5 := hc.size
   have HC := HC.n hc
   refine was ?_
   refine ac (ae (ao (ag ?_)))
   refine aj (bd (rs := [.cell 8 34, .tmp 9]) rfl (.cellA (cs := List.map u8v (List.replicate 32 (0 : UInt8))) rfl underlying34 rfl (szL au (by rw [List.length_map]; exact (List.length_replicate ..))) (aN hb8) (.tmp rfl (.nil))) rfl) ?_
   exact ⟨_, false, rfl, List.length_replicate .., ⟨fun h => (by cases h), fun h => (by omega)⟩, fun h => (by cases h), HC⟩
  have q22 := of_decide_eq_false q22
  refine aq gq rfl rfl (aS rfl) ?_
  refine aq gq rfl rfl (aS rfl) ?_
  refine aq gq rfl rfl (gR rfl rfl) ?_
  refine wz (ar rfl rfl) ?_
  refine ac (ae ?_)
  refine aA rfl (fun c0 => ?_) (fun c0 => ?_)
  ·
   have c0 := of_decide_eq_true c0
   refine ab (aa ?_)
   refine wz (bI (cs := ((List.replicate 32 (0 : UInt8)).map u8v).toArray) rfl (fun _ => by kernel_rfl)) ?_
   refine wle rfl (esh au hb8 (fun w6 hb8 hc hsz => ?_))
   have hzw6 := hc.size
   have HC := HC.n hc
   refine was ?_
   refine ac (ae (ao (ag ?_)))
   refine aj (bd (rs := [.cell 8 34, .tmp 9]) rfl (.cellA (cs := List.map u8v (List.replicate 32 (0 : UInt8))) rfl underlying34 rfl (szL au (by rw [List.length_map]; exact (List.length_replicate ..))) (aN hb8) (.tmp rfl (.nil))) rfl) ?_
   exact ⟨_, false, rfl, List.length_replicate .., ⟨fun h => (by cases h), fun h => (by omega)⟩, fun h => (by cases h), HC⟩
  have c0 := of_decide_eq_false c0
  obtain ⟨N, rfl⟩ : ∃ N : Nat, n = (N : Int) := ⟨n.toNat, by omega⟩
  obtain ⟨I, rfl⟩ : ∃ I : Nat, i = (I : Int) := ⟨i.toNat, by omega⟩
  refine al (ae (ab (aa ?_)))
  iterate 2 refine wmv ?_
  refine wz (pla underlying34 au (aN hb6)) ?_
  refine wmv ?_
  refine wle rfl (ai lX rfl rfl (oE N (by omega) (by omega) (i := I) (by omega) (hq) hlf (by omega)) ?_)
  rintro _ w7 ⟨u33, ok33, rfl, hcl33, hc⟩
  refine ⟨_, rfl, ?_⟩
  have hzw7 := hc.size
  have HC := HC.tr hc
  have hb6 := hb6.no hc
  have hb8 := hb8.no hc
  have hu33 := hcl33.1
  refine wmv ?_
  refine wz (aP rfl rfl) ?_
  refine wz (aP rfl rfl) ?_
  have hltg6 := hb6.lt
  have hltg8 := hb8.lt
  refine wle rfl (ea3 (fun w8 g10 hg10 hb10 hc hsz10 => ?_))
  have hzw8 := hc.size
  have hge10 := HC.geo hg10
  have HC := HC.tr hc
  have hb8 := hb8.no hc
  refine wle rfl (esh au hb10 (fun w9 hb10 hc hsz => ?_))
  have hzw9 := hc.size
  have HC := HC.n hc
  have hb8 := hb8.cc hc
  refine was ?_
  refine ac (ae (ab (ab (aa ?_))))
  refine wmv ?_
  refine wz (bc rfl) ?_
  refine ac (ae ?_)
  refine aA rfl (fun c1 => ?_) (fun c1 => ?_)
  ·
   refine ab (aa ?_)
   refine wz (bI (cs := ((List.replicate 32 (0 : UInt8)).map u8v).toArray) rfl (fun _ => by kernel_rfl)) ?_
   refine wle rfl (esh au hb8 (fun w10 hb8 hc hsz => ?_))
   have hzw10 := hc.size
   have HC := HC.n hc
   refine was ?_
   refine ac (ae (ao (ag ?_)))
   refine aj (bd (rs := [.cell 8 34, .tmp 9]) rfl (.cellA (cs := List.map u8v (List.replicate 32 (0 : UInt8))) rfl underlying34 rfl (szL au (by rw [List.length_map]; exact (List.length_replicate ..))) (aN hb8) (.tmp rfl (.nil))) rfl) ?_
   exact ⟨_, false, rfl, List.length_replicate .., ⟨fun h => (by cases h), fun h => (by have := hcl33.2.1.2 h.2.2.2.2; rw [this] at c1; cases c1)⟩, fun h => (by cases h), HC⟩
  refine al (ae (ab (aa ?_)))
  refine wz (pla underlying34 au (aN hb10)) ?_
  refine wle rfl (esh au hb8 (fun w11 hb8 hc hsz => ?_))
  have hzw11 := hc.size
  have HC := HC.n hc
  refine was ?_
  refine ac (ae (ao ?_))
  refine aj (bd (rs := [.cell 8 34, .tmp 9]) rfl (.cellA (cs := List.map u8v u33) rfl underlying34 rfl (szL au (by rw [List.length_map]; exact hu33)) (aN hb8) (.tmp rfl (.nil))) rfl) ?_
  have ho : ok33 = true := by simpa using c1
  exact ⟨_, true, rfl, hu33, ⟨fun _ => ⟨by omega, by omega, by omega, by omega, hcl33.2.1.1 ho⟩, fun _ => rfl⟩, fun _ => hcl33.2.2 ho, HC⟩

theorem rg {w : World} {x : Nat}  (h0 : 0 < x) (h1 : x < 1099511627776) :
    Calls Tryz.prog 217 #[dM x] w fun e w' => e = .returned (i64 ((Nat.log2 x + 1 : Nat) : Int)) ∧ Ch No w w' := by
  have hll : lenT.length = 256 := by decide +kernel
  have HC : Ch No w w := Ch.refl _ _
  refine aH (args := [dM x]) (n := 25) Tryz.func217 rfl rfl rfl ?_
  refine ab (aa ?_)
  refine was ?_
  refine ac (ae (ab (ab (aa ?_))))
  refine wmv ?_
  refine wz (gR rfl rfl) ?_
  refine ac (ae ?_)
  refine aA rfl (fun c0 => ?_) (fun c0 => ?_)
  ·
   have c0 := of_decide_eq_true c0
   refine ab (aa ?_)
   refine wmv ?_
   refine wz (eV (Y := 32) rfl rfl rfl) ?_
   refine was ?_
   refine ac (ae (aa ?_))
   refine was ?_
   refine ac (ae (ab (ab (aa ?_))))
   refine wmv ?_
   refine wz (gR rfl rfl) ?_
   refine ac (ae ?_)
   refine bx rfl (decide_eq_false (by omega)) ?_
   refine al (ae (ab (ab (aa ?_))))
   refine wmv ?_
   refine wz (gR rfl rfl) ?_
   refine ac (ae ?_)
   refine bx rfl (decide_eq_false (by omega)) ?_
   refine al (ae (ab (aa ?_)))
   iterate 2 refine wmv ?_
   refine wz (bZ underlying102 underlying5 rfl) ?_
   refine wz (jV (s := str lenT) (b := lenT.getD (UInt8.ofNat (x / 2 ^ 32)).toNat 0) underlying9 (show some (Value.string _) = some (.string (str lenT)) from by kernel_rfl) rfl (by have := (UInt8.ofNat (x / 2 ^ 32)).toNat_lt; omega) (by rw [Int.toNat_natCast, dh]; exact mf (by have := (UInt8.ofNat (x / 2 ^ 32)).toNat_lt; omega))) ?_
   refine wz (bB underlying5 underlying3 rfl (jg _)) ?_
   refine wz (aF rfl rfl (w64 (by have := (lenT.getD (UInt8.ofNat (x / 2 ^ 32)).toNat 0).toNat_lt; omega))) ?_
   refine was ?_
   refine ac (ae (ao ?_))
   refine aj ((aK rfl rfl)) ?_
   rw [fc (x := x) (s := 32) (by omega)]
   have hL := gA (x := (x / 2 ^ 32)) (by omega) (by omega)
   refine ⟨?_, HC⟩
   congr 2; omega
  have c0 := of_decide_eq_false c0
  refine al (ae (ab (ab (aa ?_))))
  refine wmv ?_
  refine wz (gR rfl rfl) ?_
  refine ac (ae ?_)
  refine aA rfl (fun c1 => ?_) (fun c1 => ?_)
  ·
   have c1 := of_decide_eq_true c1
   refine ab (aa ?_)
   refine wmv ?_
   refine wz (eV (Y := 16) rfl rfl rfl) ?_
   refine was ?_
   refine ac (ae (aa ?_))
   refine wmv ?_
   refine wz (aF (Z := 16) rfl rfl (by rw [w64 (by omega)]; rfl)) ?_
   refine was ?_
   refine ac (ae (ab (ab (aa ?_))))
   refine wmv ?_
   refine wz (gR rfl rfl) ?_
   refine ac (ae ?_)
   refine aA rfl (fun c2 => ?_) (fun c2 => ?_)
   ·
    have c2 := of_decide_eq_true c2
    refine ab (aa ?_)
    refine wmv ?_
    refine wz (eV (Y := 8) rfl rfl rfl) ?_
    refine was ?_
    refine ac (ae (aa ?_))
    refine wmv ?_
    refine wz (aF (Z := 24) rfl rfl (by rw [w64 (by omega)]; rfl)) ?_
    refine was ?_
    refine ac (ae (ab (aa ?_)))
    iterate 2 refine wmv ?_
    refine wz (bZ underlying102 underlying5 rfl) ?_
    refine wz (jV (s := str lenT) (b := lenT.getD (UInt8.ofNat ((x / 2 ^ 16) / 2 ^ 8)).toNat 0) underlying9 (show some (Value.string _) = some (.string (str lenT)) from by kernel_rfl) rfl (by have := (UInt8.ofNat ((x / 2 ^ 16) / 2 ^ 8)).toNat_lt; omega) (by rw [Int.toNat_natCast, dh]; exact mf (by have := (UInt8.ofNat ((x / 2 ^ 16) / 2 ^ 8)).toNat_lt; omega))) ?_
    refine wz (bB underlying5 underlying3 rfl (jg _)) ?_
    refine wz (aF rfl rfl (w64 (by have := (lenT.getD (UInt8.ofNat ((x / 2 ^ 16) / 2 ^ 8)).toNat 0).toNat_lt; omega))) ?_
    refine was ?_
    refine ac (ae (ao ?_))
    refine aj ((aK rfl rfl)) ?_
    rw [fc (x := x) (s := 16) (by omega)]
    rw [fc (x := (x / 2 ^ 16)) (s := 8) (by omega)]
    have hL := gA (x := ((x / 2 ^ 16) / 2 ^ 8)) (by omega) (by omega)
    refine ⟨?_, HC⟩
    congr 2; omega
   have c2 := of_decide_eq_false c2
   refine al (ae (ab (aa ?_)))
   iterate 2 refine wmv ?_
   refine wz (bZ underlying102 underlying5 rfl) ?_
   refine wz (jV (s := str lenT) (b := lenT.getD (UInt8.ofNat (x / 2 ^ 16)).toNat 0) underlying9 (show some (Value.string _) = some (.string (str lenT)) from by kernel_rfl) rfl (by have := (UInt8.ofNat (x / 2 ^ 16)).toNat_lt; omega) (by rw [Int.toNat_natCast, dh]; exact mf (by have := (UInt8.ofNat (x / 2 ^ 16)).toNat_lt; omega))) ?_
   refine wz (bB underlying5 underlying3 rfl (jg _)) ?_
   refine wz (aF rfl rfl (w64 (by have := (lenT.getD (UInt8.ofNat (x / 2 ^ 16)).toNat 0).toNat_lt; omega))) ?_
   refine was ?_
   refine ac (ae (ao ?_))
   refine aj ((aK rfl rfl)) ?_
   rw [fc (x := x) (s := 16) (by omega)]
   have hL := gA (x := (x / 2 ^ 16)) (by omega) (by omega)
   refine ⟨?_, HC⟩
   congr 2; omega
  have c1 := of_decide_eq_false c1
  refine al (ae (ab (ab (aa ?_))))
  refine wmv ?_
  refine wz (gR rfl rfl) ?_
  refine ac (ae ?_)
  refine aA rfl (fun c2 => ?_) (fun c2 => ?_)
  ·
   have c2 := of_decide_eq_true c2
   refine ab (aa ?_)
   refine wmv ?_
   refine wz (eV (Y := 8) rfl rfl rfl) ?_
   refine was ?_
   refine ac (ae (aa ?_))
   refine wmv ?_
   refine wz (aF (Z := 8) rfl rfl (by rw [w64 (by omega)]; rfl)) ?_
   refine was ?_
   refine ac (ae (ab (aa ?_)))
   iterate 2 refine wmv ?_
   refine wz (bZ underlying102 underlying5 rfl) ?_
   refine wz (jV (s := str lenT) (b := lenT.getD (UInt8.ofNat (x / 2 ^ 8)).toNat 0) underlying9 (show some (Value.string _) = some (.string (str lenT)) from by kernel_rfl) rfl (by have := (UInt8.ofNat (x / 2 ^ 8)).toNat_lt; omega) (by rw [Int.toNat_natCast, dh]; exact mf (by have := (UInt8.ofNat (x / 2 ^ 8)).toNat_lt; omega))) ?_
   refine wz (bB underlying5 underlying3 rfl (jg _)) ?_
   refine wz (aF rfl rfl (w64 (by have := (lenT.getD (UInt8.ofNat (x / 2 ^ 8)).toNat 0).toNat_lt; omega))) ?_
   refine was ?_
   refine ac (ae (ao ?_))
   refine aj ((aK rfl rfl)) ?_
   rw [fc (x := x) (s := 8) (by omega)]
   have hL := gA (x := (x / 2 ^ 8)) (by omega) (by omega)
   refine ⟨?_, HC⟩
   congr 2; omega
  have c2 := of_decide_eq_false c2
  refine al (ae (ab (aa ?_)))
  iterate 2 refine wmv ?_
  refine wz (bZ underlying102 underlying5 rfl) ?_
  refine wz (jV (s := str lenT) (b := lenT.getD (UInt8.ofNat x).toNat 0) underlying9 (show some (Value.string _) = some (.string (str lenT)) from by kernel_rfl) rfl (by have := (UInt8.ofNat x).toNat_lt; omega) (by rw [Int.toNat_natCast, dh]; exact mf (by have := (UInt8.ofNat x).toNat_lt; omega))) ?_
  refine wz (bB underlying5 underlying3 rfl (jg _)) ?_
  refine wz (aF rfl rfl (w64 (by have := (lenT.getD (UInt8.ofNat x).toNat 0).toNat_lt; omega))) ?_
  refine was ?_
  refine ac (ae (ao ?_))
  refine aj ((aK rfl rfl)) ?_
  have hL := gA (x := x) (by omega) (by omega)
  refine ⟨?_, HC⟩
  congr 2; omega

theorem len_any {w : World} {x : Nat}  (h0 : 0 < x) (h1 : x < 1099511627776) :
  Calls Tryz.prog 168 #[dM x] w fun e w' => e = .returned (i64 ((Nat.log2 x + 1 : Nat) : Int)) ∧ Ch No w w' := by
 have HC : Ch No w w := Ch.refl _ _
 refine aH (args := [dM x]) (n := 8) Tryz.func168 rfl rfl rfl ?_
 refine ab (aa ?_)
 refine was ?_
 refine ac (ae (ab ?_))
 refine bx rfl (rfl) ?_
 refine al (ae (ab (aa ?_)))
 refine wmv ?_
 refine wle rfl (ai ent217 rfl rfl (rg (by omega) (by omega)) ?_)
 rintro _ w1 ⟨rfl, hc⟩
 refine ⟨_, rfl, ?_⟩
 have hzw1 := hc.size
 have HC := HC.tr hc
 refine was ?_
 refine ac (ae (ao ?_))
 refine aj ((aK rfl rfl)) ?_
 exact ⟨rfl, HC⟩

theorem ix {w : World} {n : Nat}  (h2 : 2 ≤ n) (hm : n ≤ 1099511627776) :
  Calls Tryz.prog 104 #[i64 (n : Int)] w fun e w' => e = .returned (i64 (spl n : Int)) ∧ Ch No w w' := by
 have hlg : Nat.log2 (n - 1) < 40 := (Nat.log2_lt (by omega)).2 (by omega)
 have HC : Ch No w w := Ch.refl _ _
 refine aH (args := [i64 (n : Int)]) (n := 11) Tryz.func104 rfl rfl rfl ?_
 refine ab (aa ?_)
 refine was ?_
 refine ac (ae (ab (ab (aa ?_))))
 refine wmv ?_
 refine wz (aU rfl rfl) ?_
 refine ac (ae ?_)
 refine bx rfl (decide_eq_false (by omega)) ?_
 refine al (ae (ab (aa ?_)))
 refine wmv ?_
 refine wz (aZ rfl rfl (w64 (by omega))) ?_
 refine wz (bB (Z := ((n - 1 : Nat) : Int)) underlying3 underlying85 rfl (by rw [eR (by omega)]; omega)) ?_
 refine wle rfl (ai ent168 rfl rfl (len_any (by omega) (by omega)) ?_)
 rintro _ w1 ⟨rfl, hc⟩
 refine ⟨_, rfl, ?_⟩
 have hzw1 := hc.size
 have HC := HC.tr hc
 refine wz (aZ (Z := ((Nat.log2 (n - 1) : Nat) : Int)) rfl rfl (by rw [w64 (by omega)]; omega)) ?_
 refine wz (oN (Z := (spl n : Int)) rfl rfl (by omega) (by rw [Int.toNat_natCast, show min (Nat.log2 (n - 1)) IntKind.i64.bits = Nat.log2 (n - 1) from Nat.min_eq_left (by show _ ≤ 64; omega), Int.one_mul, show ((2 : Int) ^ Nat.log2 (n - 1)) = ((spl n : Nat) : Int) by unfold spl; push_cast; rfl]; exact w64 (by have := cF h2; omega))) ?_
 refine was ?_
 refine ac (ae (ao ?_))
 refine aj ((aK rfl rfl)) ?_
 exact ⟨rfl, HC⟩

def TwoOK (n : Nat) : Prop := ∀ {w : World} {Aq : Option Addr} {lq cq : Nat} {Fq : Nat → Prop} {q : List (List UInt8)}   {a : List UInt8} {m : Nat} {wh : Bool} (h1 : 1 ≤ m) (h2 : m ≤ n) (hq : SI w Fq eHs Aq lq cq q) (ha : a.length = 32) (hlq : lq ≤ 1000000), Calls Tryz.prog 44 #[hv a, i64 (m : Int), i64 (n : Int), .slice Aq lq cq, .bool wh] w fun e w' => ∃ (x y : List UInt8) (ok : Bool), e = .returned (.tuple #[hv x, hv y, .bool ok]) ∧ TW m n wh a q x y ok ∧ Ch No w w'

theorem rh {w : World} {m n : Nat} {wh : Bool}  {a : List UInt8}{Aq : Option Addr} {lq cq : Nat} {Fq : Nat → Prop} {q : List (List UInt8)}  (hrec : ∀ n', 1 ≤ n' → n' < n → TwoOK n') (h1 : 1 ≤ m) (h2 : m ≤ n) (hnm : n ≤ 1099511627776) (ha : a.length = 32) (hq : SI w Fq eHs Aq lq cq q) (hlq : lq ≤ 1000000) :
    Calls Tryz.prog 44 #[hv a, i64 (m : Int), i64 (n : Int), .slice Aq lq cq, .bool wh] w fun e w' => ∃ (x y : List UInt8) (ok : Bool), e = .returned (.tuple #[hv x, hv y, .bool ok]) ∧ TW m n wh a q x y ok ∧ Ch No w w' := by
  have hql := hq.len
  have hq := hq.old
  have HC : Ch No w w := Ch.refl _ _
  refine aH (args := [hv a, i64 (m : Int), i64 (n : Int), .slice Aq lq cq, .bool wh]) (n := 100) Tryz.func44 rfl rfl rfl ?_
  refine ab (aa ?_)
  refine wle rfl (bg (cs := (List.map u8v a).toArray) rfl rfl rfl (fun w1 g5 hg5 hb5 hc hsz5 => ?_))
  have hzw1 := hc.size
  have hge5 := HC.geo hg5
  have HC := HC.tr hc
  have hq := hq.no hc
  have hltg5 := hb5.lt
  refine wle rfl (ea3 (fun w2 g10 hg10 hb10 hc hsz10 => ?_))
  have hzw2 := hc.size
  have hge10 := HC.geo hg10
  have HC := HC.tr hc
  have hq := hq.no hc
  have hb5 := hb5.no hc
  have hltg5 := hb5.lt
  have hltg10 := hb10.lt
  refine wle rfl (ea3 (fun w3 g11 hg11 hb11 hc hsz11 => ?_))
  have hzw3 := hc.size
  have hge11 := HC.geo hg11
  have HC := HC.tr hc
  have hq := hq.no hc
  have hb5 := hb5.no hc
  have hb10 := hb10.no hc
  refine was ?_
  refine ac (ae (ab (ab (aa ?_))))
  iterate 2 refine wmv ?_
  refine wz (gS rfl rfl) ?_
  refine ac (ae ?_)
  refine aA rfl (fun c0 => ?_) (fun c0 => ?_)
  ·
   have c0 := of_decide_eq_true c0
   refine ab (ab (aa ?_))
   refine wmv ?_
   refine ac (ae ?_)
   refine aA rfl (fun c1 => ?_) (fun c1 => ?_)
   ·
    refine ab ?_
    refine wdr (.q 0 [1, 1, 0, 0, 0, 2, 3, 0] .nil) 6 (fun k => k = g10) (fun w4 hc hszw4 => ?_)
    have hzw4 := hc.size
    have HC := HC.tr hc
    have hb5 := hb5.no hc
    have hb10 := hb10.no hc
    have hb11 := hb11.no hc
    have hS : Ch (fun k => k = g10) w4 w4 := Ch.refl _ _
    refine ws2 rfl (bE (cs := List.map u8v a) underlying34 rfl (szL au (by rw [List.length_map]; exact ha)) rfl (fun _ h => (aN (hb5.ch h (fun ht => by first | omega | (dsimp only at ht; omega)))))) ?_
    refine ws2 rfl (bE (cs := List.map u8v a) underlying34 rfl (szL au (by rw [List.length_map]; exact ha)) rfl (fun _ h => (aN (hb5.ch h (fun ht => by first | omega | (dsimp only at ht; omega)))))) ?_
    refine wsm ?_
    refine ws1 rfl (aw underlying26 rfl) ?_
    refine ws1 rfl (gS rfl rfl) ?_
    refine ax rfl rfl (esh au hb10 (fun w5 hb10 hc hsz => ⟨(hS.r hc), ?_⟩))
    have hzw5 := hc.size
    have HC := HC.n hc
    have hb11 := hb11.cc hc
    have hS := (hS.r hc)
    refine bf rfl rfl (esh au hb11 (fun w6 hb11 hc hsz => ?_))
    have hzw6 := hc.size
    have HC := HC.n hc
    have hb10 := hb10.cc hc
    refine wsa ?_
    refine aW (ae (ao (ag (ag ?_))))
    refine aj (bd (rs := [.cell 10 34, .cell 11 34, .tmp 12]) rfl (.cellA (cs := List.map u8v a) rfl underlying34 rfl (szL au (by rw [List.length_map]; exact ha)) (aN hb10) (.cellA (cs := List.map u8v a) rfl underlying34 rfl (szL au (by rw [List.length_map]; exact ha)) (aN hb11) (.tmp rfl (.nil)))) rfl) ?_
    exact ⟨a, a, _, rfl, TW.whole (by omega) c1 ha (fun h => by have := of_decide_eq_true h; omega), HC⟩
   refine al (ae (ab (ab (aa ?_))))
   refine wmv ?_
   refine wz (aw underlying26 rfl) ?_
   refine wz (jQ rfl rfl) ?_
   refine ac (ae ?_)
   refine aA rfl (fun c2 => ?_) (fun c2 => ?_)
   ·
    have c2 := of_decide_eq_true c2
    refine ab (aa ?_)
    refine wz (bI (cs := ((List.replicate 32 (0 : UInt8)).map u8v).toArray) rfl (fun _ => by kernel_rfl)) ?_
    refine wz (bI (cs := ((List.replicate 32 (0 : UInt8)).map u8v).toArray) rfl (fun _ => by kernel_rfl)) ?_
    refine wle rfl (esh au hb10 (fun w7 hb10 hc hsz => ?_))
    have hzw7 := hc.size
    have HC := HC.n hc
    have hb11 := hb11.cc hc
    refine wle rfl (esh au hb11 (fun w8 hb11 hc hsz => ?_))
    have hzw8 := hc.size
    have HC := HC.n hc
    have hb10 := hb10.cc hc
    refine was ?_
    refine ac (ae (ao (ag (ag ?_))))
    refine aj (bd (rs := [.cell 10 34, .cell 11 34, .tmp 12]) rfl (.cellA (cs := List.map u8v (List.replicate 32 (0 : UInt8))) rfl underlying34 rfl (szL au (by rw [List.length_map]; exact (List.length_replicate ..))) (aN hb10) (.cellA (cs := List.map u8v (List.replicate 32 (0 : UInt8))) rfl underlying34 rfl (szL au (by rw [List.length_map]; exact (List.length_replicate ..))) (aN hb11) (.tmp rfl (.nil)))) rfl) ?_
    exact ⟨_, _, false, rfl, TW.no (List.length_replicate ..) (List.length_replicate ..), HC⟩
   have c2 := of_decide_eq_false c2
   refine al (ae (ab ?_))
   refine wdr (.q 0 [0, 0, 1, 0, 0, 1, 2, 3, 0] .nil) 7 (fun k => k = g10) (fun w9 hc hszw9 => ?_)
   have hzw9 := hc.size
   have HC := HC.tr hc
   have hq := hq.no hc
   have hb10 := hb10.no hc
   have hb11 := hb11.no hc
   have hS : Ch (fun k => k = g10) w9 w9 := Ch.refl _ _
   refine wsm ?_
   obtain ⟨b10, o10, hA10, hF10, hr10⟩ := (hq).opn (i := 0) (d := zH) (by omega)
   have hok10 := (hq).okAt (i := 0) (d := zH) (by omega)
   obtain ⟨x10, ex10⟩ : ∃ x_, x_ = List.getD q (0) zH := ⟨_, rfl⟩
   rw [← ex10] at hr10 hok10
   have hx10k : List.length x10 = 32 := hok10
   have hr10 : w9.rangeAt b10 (o10 + 0 * 32) ((List.map u8v x10) : List Value) := hr10
   refine ws1 rfl (du (j := 0 * 32) underlying26 au rfl hA10 rfl (by omega) (by omega) rfl) ?_
   refine ws2 rfl (bE (cs := ((List.map u8v x10) : List Value)) underlying34 rfl (szL au (by first | rfl | (simp only [List.length_append, List.length_map, List.length_cons, List.length_nil, (show List.length x10 = 32 from hx10k)]; done) | (simp only [List.length_append, List.length_map, List.length_cons, List.length_nil, List.size_toArray, (show List.length x10 = 32 from hx10k)]; done))) rfl (fun _ h => nH hr10 h (fun ht => absurd ht (by have hq := hF10; first | omega | (dsimp only at *; omega))))) ?_
   refine wsm ?_
   obtain ⟨b11, o11, hA11, hF11, hr11⟩ := (hq).opn (i := 0) (d := zH) (by omega)
   have hok11 := (hq).okAt (i := 0) (d := zH) (by omega)
   obtain ⟨x11, ex11⟩ : ∃ x_, x_ = List.getD q (0) zH := ⟨_, rfl⟩
   rw [← ex11] at hr11 hok11
   have hx11k : List.length x11 = 32 := hok11
   have hr11 : w9.rangeAt b11 (o11 + 0 * 32) ((List.map u8v x11) : List Value) := hr11
   refine ws1 rfl (du (j := 0 * 32) underlying26 au rfl hA11 rfl (by omega) (by omega) rfl) ?_
   refine ws2 rfl (bE (cs := ((List.map u8v x11) : List Value)) underlying34 rfl (szL au (by first | rfl | (simp only [List.length_append, List.length_map, List.length_cons, List.length_nil, (show List.length x11 = 32 from hx11k)]; done) | (simp only [List.length_append, List.length_map, List.length_cons, List.length_nil, List.size_toArray, (show List.length x11 = 32 from hx11k)]; done))) rfl (fun _ h => nH hr11 h (fun ht => absurd ht (by have hq := hF11; first | omega | (dsimp only at *; omega))))) ?_
   refine ax rfl rfl (esh au hb10 (fun w12 hb10 hc hsz => ⟨(hS.r hc), ?_⟩))
   have hzw12 := hc.size
   have HC := HC.n hc
   first | have hq := hq.cc hc | have hq := hq.cT hc
   have hb11 := hb11.cc hc
   have hS := (hS.r hc)
   refine bf rfl rfl (esh au hb11 (fun w13 hb11 hc hsz => ?_))
   have hzw13 := hc.size
   have HC := HC.n hc
   first | have hq := hq.cc hc | have hq := hq.cT hc
   have hb10 := hb10.cc hc
   refine wsa ?_
   refine aW (ae (ao (ag ?_)))
   refine aj (bd (rs := [.cell 10 34, .cell 11 34, .tmp 12]) rfl (.cellA (cs := List.map u8v x10) rfl underlying34 rfl (szL au (by rw [List.length_map]; exact hx10k)) (aN hb10) (.cellA (cs := List.map u8v x11) rfl underlying34 rfl (szL au (by rw [List.length_map]; exact hx11k)) (aN hb11) (.tmp rfl (.nil)))) rfl) ?_
   exact ⟨_, _, true, rfl, (by rw [ex10, ex11]; exact TW.one (by omega) (by simpa using c1) (by omega) hq.ok), HC⟩
  have c0 := of_decide_eq_false c0
  refine al (ae (ab (ab (aa ?_))))
  refine wmv ?_
  refine wz (aw underlying26 rfl) ?_
  refine wz (gS rfl rfl) ?_
  refine ac (ae ?_)
  refine aA rfl (fun c3 => ?_) (fun c3 => ?_)
  ·
   have c3 := of_decide_eq_true c3
   refine ab (aa ?_)
   refine wz (bI (cs := ((List.replicate 32 (0 : UInt8)).map u8v).toArray) rfl (fun _ => by kernel_rfl)) ?_
   refine wz (bI (cs := ((List.replicate 32 (0 : UInt8)).map u8v).toArray) rfl (fun _ => by kernel_rfl)) ?_
   refine wle rfl (esh au hb10 (fun w14 hb10 hc hsz => ?_))
   have hzw14 := hc.size
   have HC := HC.n hc
   have hb11 := hb11.cc hc
   refine wle rfl (esh au hb11 (fun w15 hb11 hc hsz => ?_))
   have hzw15 := hc.size
   have HC := HC.n hc
   have hb10 := hb10.cc hc
   refine was ?_
   refine ac (ae (ao (ag ?_)))
   refine aj (bd (rs := [.cell 10 34, .cell 11 34, .tmp 12]) rfl (.cellA (cs := List.map u8v (List.replicate 32 (0 : UInt8))) rfl underlying34 rfl (szL au (by rw [List.length_map]; exact (List.length_replicate ..))) (aN hb10) (.cellA (cs := List.map u8v (List.replicate 32 (0 : UInt8))) rfl underlying34 rfl (szL au (by rw [List.length_map]; exact (List.length_replicate ..))) (aN hb11) (.tmp rfl (.nil)))) rfl) ?_
   exact ⟨_, _, false, rfl, TW.no (List.length_replicate ..) (List.length_replicate ..), HC⟩
  have c3 := of_decide_eq_false c3
  have h2n : 2 ≤ n := by omega
  have hsl := cF h2n
  have hsp := bT n
  have hsg := ig h2n
  refine al (ae (ab (aa ?_)))
  refine wmv ?_
  refine wle rfl (ai ent82 rfl rfl (jO (n := n) (by omega) (by omega)) ?_)
  rintro _ w16 ⟨rfl, hc⟩
  refine ⟨_, rfl, ?_⟩
  have hzw16 := hc.size
  have HC := HC.tr hc
  have hq := hq.no hc
  have hb5 := hb5.no hc
  have hb10 := hb10.no hc
  have hb11 := hb11.no hc
  refine was ?_
  refine ac (ae (ab (aa ?_)))
  iterate 2 refine wmv ?_
  refine wz (aw underlying26 rfl) ?_
  refine wz (aZ (Z := ((lq - 1 : Nat) : Int)) rfl rfl (by rw [w64 (by omega)]; omega)) ?_
  obtain ⟨b17, o17, x17, ex17, hA17, hr17, hx17k⟩ := rdH (lq - 1) hq
  refine wz (pxs underlying26 au hA17) ?_
  refine wz (pla underlying34 au hr17) ?_
  have hltg5 := hb5.lt
  have hltg10 := hb10.lt
  have hltg11 := hb11.lt
  refine wle rfl (ea3 (fun w18 g14 hg14 hb14 hc hsz14 => ?_))
  have hzw18 := hc.size
  have hge14 := HC.geo hg14
  have HC := HC.tr hc
  have hq := hq.no hc
  have hb5 := hb5.no hc
  have hb10 := hb10.no hc
  have hb11 := hb11.no hc
  refine wle rfl (esh au hb14 (fun w19 hb14 hc hsz => ?_))
  have hzw19 := hc.size
  have HC := HC.n hc
  first | have hq := hq.cc hc | have hq := hq.cT hc
  have hb5 := hb5.cc hc
  have hb10 := hb10.cc hc
  have hb11 := hb11.cc hc
  refine ac (ae (ab (ab (aa ?_))))
  iterate 2 refine wmv ?_
  refine wz (qq rfl rfl) ?_
  refine ac (ae ?_)
  refine aA rfl (fun c4 => ?_) (fun c4 => ?_)
  ·
   have c4 := of_decide_eq_true c4
   refine gP (fun e w' => ∃ (x : List UInt8) (y : List UInt8) (ok : Bool) (g15 : Nat) (g16 : Nat), e = [(10, .pointer (some ⟨g10, 0, none⟩)), (11, .pointer (some ⟨g11, 0, none⟩)), (14, .pointer (some ⟨g14, 0, none⟩)), (15, .pointer (some ⟨g15, 0, none⟩)), (16, .pointer (some ⟨g16, 0, none⟩)), (17, .bool ok)] ∧ (Ch No w19 w') ∧ (Blk w' g15 34 (List.map u8v x).toArray) ∧ (Blk w' g16 34 (List.map u8v y).toArray) ∧ (TW (m) (spl n) wh a (q.take (lq - 1)) x y ok) ∧ (w19.heap.size ≤ g15 ∧ w19.heap.size ≤ g16 ∧ g15 ≠ g16) ∧ (x.length = 32) ∧ (y.length = 32)) ?_ ?_
   rotate_left
   ·
    rintro _ w48 ⟨x, y, ok, g15, g16, rfl, hc, hb15, hb16, htw, hgg, hx_, hy_⟩
    have hzw48 := hc.size
    have HC := HC.tr hc
    have hb10 := hb10.no hc
    have hb11 := hb11.no hc
    have hb14 := hb14.no hc
    refine ab ?_
    refine wdr (.q 0 [1, 1, 1] (.st 4 0 (.st 3 2 (.q 5 [2, 3, 0] .nil)))) 6 (fun k => k = g10) (fun w49 hc hszw49 => ?_)
    have hzw49 := hc.size
    have HC := HC.tr hc
    have hb10 := hb10.no hc
    have hb11 := hb11.no hc
    have hb14 := hb14.no hc
    have hb15 := hb15.no hc
    have hb16 := hb16.no hc
    have hS : Ch (fun k => k = g10) w49 w49 := Ch.refl _ _
    refine ws2 rfl (bE (cs := List.map u8v x) underlying34 rfl (szL au (by rw [List.length_map]; exact hx_)) rfl (fun _ h => (aN (hb15.ch h (fun ht => by first | omega | (dsimp only at ht; omega)))))) ?_
    refine ws2 rfl (bE (cs := List.map u8v y) underlying34 rfl (szL au (by rw [List.length_map]; exact hy_)) rfl (fun _ h => (aN (hb16.ch h (fun ht => by first | omega | (dsimp only at ht; omega)))))) ?_
    refine ws2 rfl (bE (cs := List.map u8v x17) underlying34 rfl (szL au (by rw [List.length_map]; exact hx17k)) rfl (fun _ h => (aN (hb14.ch h (fun ht => by first | omega | (dsimp only at ht; omega)))))) ?_
    refine wsm ?_
    refine ax rfl rfl (ai i7 rfl rfl (cG (hy_) (hx17k)) ?_)
    rintro _ w50 ⟨rfl, hc⟩
    refine ⟨_, rfl, hS.tr hc, ?_⟩
    have hzw50 := hc.size
    have HC := HC.tr hc
    have hb10 := hb10.no hc
    have hb11 := hb11.no hc
    have hS := hS.tr hc
    refine ax rfl rfl (esh au hb10 (fun w51 hb10 hc hsz => ⟨(hS.r hc), ?_⟩))
    have hzw51 := hc.size
    have HC := HC.n hc
    have hb11 := hb11.cc hc
    have hS := (hS.r hc)
    refine bf rfl rfl (esh au hb11 (fun w52 hb11 hc hsz => ?_))
    have hzw52 := hc.size
    have HC := HC.n hc
    have hb10 := hb10.cc hc
    refine wsa ?_
    refine aW (ae (ao (ag ?_)))
    refine aj (bd (rs := [.cell 10 34, .cell 11 34, .tmp 12]) rfl (.cellA (cs := List.map u8v x) rfl underlying34 rfl (szL au (by rw [List.length_map]; exact hx_)) (aN hb10) (.cellA (cs := List.map u8v (bu y x17)) rfl underlying34 rfl (szL au (by rw [List.length_map]; exact aQ _ _)) (aN hb11) (.tmp rfl (.nil)))) rfl) ?_
    exact ⟨_, _, _, rfl, (by rw [ex17]; exact TW.left (by omega) (by omega) (by omega) hql (by omega) htw), HC⟩
   refine wdr (.q 0 [1, 0, 0, 0, 0, 0, 0, 0, 0] (.alt (.q 9 [2, 0, 0, 0, 0] (.alt (.q 14 [2, 2, 2, 3, 0] .nil) (.st 15 2 (.st 14 2 (.q 16 [2, 3, 0] .nil))))) (.alt (.st 14 2 (.alt (.q 9 [2, 0, 0, 0, 0] (.q 15 [2, 2, 3, 0] .nil)) (.st 15 2 (.q 9 [2, 0, 0, 0, 0] (.q 16 [2, 3, 0] .nil))))) (.st 15 2 (.alt (.q 9 [2, 0, 0, 0, 0, 2] (.q 16 [2, 3, 0] .nil)) (.st 14 2 (.q 9 [2, 0, 0, 0, 0] (.q 16 [2, 3, 0] .nil)))))))) 17 No (fun w20 hc hszw20 => ?_)
   have hzw20 := hc.size
   have HC := HC.tr hc
   have hq := hq.no hc
   have hb5 := hb5.no hc
   have hc0 := hc
   have hS : Ch (No) w20 w20 := Ch.refl _ _
   refine ws2 rfl (plh underlying34 au (aN hb5)) ?_
   iterate 4 refine wsm ?_
   refine ws1 rfl (aw underlying26 rfl) ?_
   refine ws1 rfl (aZ (Z := ((lq - 1 : Nat) : Int)) rfl rfl (by rw [w64 (by omega)]; omega)) ?_
   have hS65 := hq.cut (lo := 0) (hi := lq - 1) (q := lq - 1) (by omega) (by omega) (by omega)
   rw [List.drop_zero] at hS65
   refine ws1 rfl (dX (l := 0) (h := lq - 1) underlying26 au rfl rfl ⟨IntKind.i64, by first | rfl | exact congrArg (fun z => some (Value.int .i64 z)) (by omega)⟩ (by omega) (by have := hq.cap; omega) hq.cap (q := lq - 1) (by omega)) ?_
   refine wsm ?_
   refine bh ?_ ?_
   ·
    refine ax rfl rfl (ai eP rfl rfl (hrec (spl n) (by omega) (by omega) (m := m) (wh := wh) (by omega) (by omega) (hS65) (ha) (by omega)) ?_)
    rintro _ w21 ⟨x67, y67, ok67, rfl, htw67, hc⟩
    refine ⟨_, rfl, hS.tr hc, ?_⟩
    have hzw21 := hc.size
    have hx67 := htw67.1
    have hy67 := htw67.2.1
    have hS := hS.tr hc
    refine wsm ?_
    refine ws1 rfl (aP rfl rfl) ?_
    refine ws1 rfl (aP rfl rfl) ?_
    refine ws1 rfl (aP rfl rfl) ?_
    refine bh ?_ ?_
    ·
     refine ax rfl rfl (ea3 (fun w22 g15 hg15 hb15 hc hsz15 => ⟨hS.tr hc, ?_⟩))
     have hzw22 := hc.size
     have hge15 : w.heap.size ≤ g15 := by have := HC.size; omega
     have hS := hS.tr hc
     have hltg15 := hb15.lt
     refine ax rfl rfl (ea3 (fun w23 g16 hg16 hb16 hc hsz16 => ⟨hS.tr hc, ?_⟩))
     have hzw23 := hc.size
     have hb15 := hb15.no hc
     have hge16 : w.heap.size ≤ g16 := by have := HC.size; omega
     have hS := hS.tr hc
     refine ax rfl rfl (esh au hb15 (fun w24 hb15 hc hsz => ⟨(hS.s hc), ?_⟩))
     have hzw24 := hc.size
     have hb16 := hb16.cc hc
     have hS := (hS.s hc)
     refine bf rfl rfl (esh au hb16 (fun w25 hb16 hc hsz => ?_))
     have hzw25 := hc.size
     have hb15 := hb15.cc hc
     refine wsa ?_
     refine aW ?_
     exact xme ⟨_, _, _, _, _, rfl, ((hc0.tr hS).s hc), hb15, hb16, htw67, ⟨by omega, by omega, by omega⟩, hx67, hy67⟩
    refine ax rfl rfl (ea3 (fun w26 g16 hg16 hb16 hc hsz16 => ⟨hS.tr hc, ?_⟩))
    have hzw26 := hc.size
    have hge16 : w.heap.size ≤ g16 := by have := HC.size; omega
    have hS := hS.tr hc
    have hltg16 := hb16.lt
    refine ax rfl rfl (ea3 (fun w27 g15 hg15 hb15 hc hsz15 => ⟨hS.tr hc, ?_⟩))
    have hzw27 := hc.size
    have hb16 := hb16.no hc
    have hge15 : w.heap.size ≤ g15 := by have := HC.size; omega
    have hS := hS.tr hc
    refine ax rfl rfl (esh au hb15 (fun w28 hb15 hc hsz => ⟨(hS.s hc), ?_⟩))
    have hzw28 := hc.size
    have hb16 := hb16.cc hc
    have hS := (hS.s hc)
    refine bf rfl rfl (esh au hb16 (fun w29 hb16 hc hsz => ?_))
    have hzw29 := hc.size
    have hb15 := hb15.cc hc
    refine wsa ?_
    refine aW ?_
    exact xme ⟨_, _, _, _, _, rfl, ((hc0.tr hS).s hc), hb15, hb16, htw67, ⟨by omega, by omega, by omega⟩, hx67, hy67⟩
   refine bh ?_ ?_
   ·
    refine ax rfl rfl (ea3 (fun w30 g15 hg15 hb15 hc hsz15 => ⟨hS.tr hc, ?_⟩))
    have hzw30 := hc.size
    have hS65 := hS65.no hc
    have hge15 : w.heap.size ≤ g15 := by have := HC.size; omega
    have hS := hS.tr hc
    refine bh ?_ ?_
    ·
     refine ax rfl rfl (ai eP rfl rfl (hrec (spl n) (by omega) (by omega) (m := m) (wh := wh) (by omega) (by omega) (hS65) (ha) (by omega)) ?_)
     rintro _ w31 ⟨x67, y67, ok67, rfl, htw67, hc⟩
     refine ⟨_, rfl, hS.tr hc, ?_⟩
     have hzw31 := hc.size
     have hb15 := hb15.no hc
     have hx67 := htw67.1
     have hy67 := htw67.2.1
     have hS := hS.tr hc
     refine wsm ?_
     refine ws1 rfl (aP rfl rfl) ?_
     refine ws1 rfl (aP rfl rfl) ?_
     refine ws1 rfl (aP rfl rfl) ?_
     have hltg15 := hb15.lt
     refine ax rfl rfl (ea3 (fun w32 g16 hg16 hb16 hc hsz16 => ⟨hS.tr hc, ?_⟩))
     have hzw32 := hc.size
     have hb15 := hb15.no hc
     have hge16 : w.heap.size ≤ g16 := by have := HC.size; omega
     have hS := hS.tr hc
     refine ax rfl rfl (esh au hb15 (fun w33 hb15 hc hsz => ⟨(hS.s hc), ?_⟩))
     have hzw33 := hc.size
     have hb16 := hb16.cc hc
     have hS := (hS.s hc)
     refine bf rfl rfl (esh au hb16 (fun w34 hb16 hc hsz => ?_))
     have hzw34 := hc.size
     have hb15 := hb15.cc hc
     refine wsa ?_
     refine aW ?_
     exact xme ⟨_, _, _, _, _, rfl, ((hc0.tr hS).s hc), hb15, hb16, htw67, ⟨by omega, by omega, by omega⟩, hx67, hy67⟩
    have hltg15 := hb15.lt
    refine ax rfl rfl (ea3 (fun w35 g16 hg16 hb16 hc hsz16 => ⟨hS.tr hc, ?_⟩))
    have hzw35 := hc.size
    have hS65 := hS65.no hc
    have hb15 := hb15.no hc
    have hge16 : w.heap.size ≤ g16 := by have := HC.size; omega
    have hS := hS.tr hc
    refine ax rfl rfl (ai eP rfl rfl (hrec (spl n) (by omega) (by omega) (m := m) (wh := wh) (by omega) (by omega) (hS65) (ha) (by omega)) ?_)
    rintro _ w36 ⟨x67, y67, ok67, rfl, htw67, hc⟩
    refine ⟨_, rfl, hS.tr hc, ?_⟩
    have hzw36 := hc.size
    have hb15 := hb15.no hc
    have hb16 := hb16.no hc
    have hx67 := htw67.1
    have hy67 := htw67.2.1
    have hS := hS.tr hc
    refine wsm ?_
    refine ws1 rfl (aP rfl rfl) ?_
    refine ws1 rfl (aP rfl rfl) ?_
    refine ws1 rfl (aP rfl rfl) ?_
    refine ax rfl rfl (esh au hb15 (fun w37 hb15 hc hsz => ⟨(hS.s hc), ?_⟩))
    have hzw37 := hc.size
    have hb16 := hb16.cc hc
    have hS := (hS.s hc)
    refine bf rfl rfl (esh au hb16 (fun w38 hb16 hc hsz => ?_))
    have hzw38 := hc.size
    have hb15 := hb15.cc hc
    refine wsa ?_
    refine aW ?_
    exact xme ⟨_, _, _, _, _, rfl, ((hc0.tr hS).s hc), hb15, hb16, htw67, ⟨by omega, by omega, by omega⟩, hx67, hy67⟩
   refine ax rfl rfl (ea3 (fun w39 g16 hg16 hb16 hc hsz16 => ⟨hS.tr hc, ?_⟩))
   have hzw39 := hc.size
   have hS65 := hS65.no hc
   have hge16 : w.heap.size ≤ g16 := by have := HC.size; omega
   have hS := hS.tr hc
   refine bh ?_ ?_
   ·
    refine ax rfl rfl (ai eP rfl rfl (hrec (spl n) (by omega) (by omega) (m := m) (wh := wh) (by omega) (by omega) (hS65) (ha) (by omega)) ?_)
    rintro _ w40 ⟨x67, y67, ok67, rfl, htw67, hc⟩
    refine ⟨_, rfl, hS.tr hc, ?_⟩
    have hzw40 := hc.size
    have hb16 := hb16.no hc
    have hx67 := htw67.1
    have hy67 := htw67.2.1
    have hS := hS.tr hc
    refine wsm ?_
    refine ws1 rfl (aP rfl rfl) ?_
    refine ws1 rfl (aP rfl rfl) ?_
    refine ws1 rfl (aP rfl rfl) ?_
    have hltg16 := hb16.lt
    refine ax rfl rfl (ea3 (fun w41 g15 hg15 hb15 hc hsz15 => ⟨hS.tr hc, ?_⟩))
    have hzw41 := hc.size
    have hb16 := hb16.no hc
    have hge15 : w.heap.size ≤ g15 := by have := HC.size; omega
    have hS := hS.tr hc
    refine ax rfl rfl (esh au hb15 (fun w42 hb15 hc hsz => ⟨(hS.s hc), ?_⟩))
    have hzw42 := hc.size
    have hb16 := hb16.cc hc
    have hS := (hS.s hc)
    refine bf rfl rfl (esh au hb16 (fun w43 hb16 hc hsz => ?_))
    have hzw43 := hc.size
    have hb15 := hb15.cc hc
    refine wsa ?_
    refine aW ?_
    exact xme ⟨_, _, _, _, _, rfl, ((hc0.tr hS).s hc), hb15, hb16, htw67, ⟨by omega, by omega, by omega⟩, hx67, hy67⟩
   have hltg16 := hb16.lt
   refine ax rfl rfl (ea3 (fun w44 g15 hg15 hb15 hc hsz15 => ⟨hS.tr hc, ?_⟩))
   have hzw44 := hc.size
   have hS65 := hS65.no hc
   have hb16 := hb16.no hc
   have hge15 : w.heap.size ≤ g15 := by have := HC.size; omega
   have hS := hS.tr hc
   refine ax rfl rfl (ai eP rfl rfl (hrec (spl n) (by omega) (by omega) (m := m) (wh := wh) (by omega) (by omega) (hS65) (ha) (by omega)) ?_)
   rintro _ w45 ⟨x67, y67, ok67, rfl, htw67, hc⟩
   refine ⟨_, rfl, hS.tr hc, ?_⟩
   have hzw45 := hc.size
   have hb16 := hb16.no hc
   have hb15 := hb15.no hc
   have hx67 := htw67.1
   have hy67 := htw67.2.1
   have hS := hS.tr hc
   refine wsm ?_
   refine ws1 rfl (aP rfl rfl) ?_
   refine ws1 rfl (aP rfl rfl) ?_
   refine ws1 rfl (aP rfl rfl) ?_
   refine ax rfl rfl (esh au hb15 (fun w46 hb15 hc hsz => ⟨(hS.s hc), ?_⟩))
   have hzw46 := hc.size
   have hb16 := hb16.cc hc
   have hS := (hS.s hc)
   refine bf rfl rfl (esh au hb16 (fun w47 hb16 hc hsz => ?_))
   have hzw47 := hc.size
   have hb15 := hb15.cc hc
   refine wsa ?_
   refine aW ?_
   exact xme ⟨_, _, _, _, _, rfl, ((hc0.tr hS).s hc), hb15, hb16, htw67, ⟨by omega, by omega, by omega⟩, hx67, hy67⟩
  have c4 := of_decide_eq_false c4
  refine al (ae ?_)
  refine gP (fun e w' => ∃ (x : List UInt8) (y : List UInt8) (ok : Bool) (g18 : Nat) (g19 : Nat), e = [(10, .pointer (some ⟨g10, 0, none⟩)), (11, .pointer (some ⟨g11, 0, none⟩)), (14, .pointer (some ⟨g14, 0, none⟩)), (18, .pointer (some ⟨g18, 0, none⟩)), (19, .pointer (some ⟨g19, 0, none⟩)), (20, .bool ok)] ∧ (Ch No w19 w') ∧ (Blk w' g18 34 (List.map u8v x).toArray) ∧ (Blk w' g19 34 (List.map u8v y).toArray) ∧ (TW (m - spl n) (n - spl n) false a (q.take (lq - 1)) x y ok) ∧ (w19.heap.size ≤ g18 ∧ w19.heap.size ≤ g19 ∧ g18 ≠ g19) ∧ (x.length = 32) ∧ (y.length = 32)) ?_ ?_
  rotate_left
  ·
   rintro _ w82 ⟨x, y, ok, g18, g19, rfl, hc, hb18, hb19, htw, hgg, hx_, hy_⟩
   have hzw82 := hc.size
   have HC := HC.tr hc
   have hb10 := hb10.no hc
   have hb11 := hb11.no hc
   have hb14 := hb14.no hc
   refine ab ?_
   refine wdr (.st 0 1 (.st 1 1 (.st 3 1 (.st 4 1 (.st 6 0 (.st 2 2 (.st 5 2 (.q 7 [2, 3, 0] .nil)))))))) 8 (fun k => k = g10) (fun w83 hc hszw83 => ?_)
   have hzw83 := hc.size
   have HC := HC.tr hc
   have hb10 := hb10.no hc
   have hb11 := hb11.no hc
   have hb14 := hb14.no hc
   have hb18 := hb18.no hc
   have hb19 := hb19.no hc
   have hS : Ch (fun k => k = g10) w83 w83 := Ch.refl _ _
   refine ws2 rfl (bE (cs := List.map u8v x17) underlying34 rfl (szL au (by rw [List.length_map]; exact hx17k)) rfl (fun _ h => (aN (hb14.ch h (fun ht => by first | omega | (dsimp only at ht; omega)))))) ?_
   refine ws2 rfl (bE (cs := List.map u8v x) underlying34 rfl (szL au (by rw [List.length_map]; exact hx_)) rfl (fun _ h => (aN (hb18.ch h (fun ht => by first | omega | (dsimp only at ht; omega)))))) ?_
   refine ws2 rfl (bE (cs := List.map u8v x17) underlying34 rfl (szL au (by rw [List.length_map]; exact hx17k)) rfl (fun _ h => (aN (hb14.ch h (fun ht => by first | omega | (dsimp only at ht; omega)))))) ?_
   refine ws2 rfl (bE (cs := List.map u8v y) underlying34 rfl (szL au (by rw [List.length_map]; exact hy_)) rfl (fun _ h => (aN (hb19.ch h (fun ht => by first | omega | (dsimp only at ht; omega)))))) ?_
   refine wsm ?_
   refine ax rfl rfl (ai i7 rfl rfl (cG (hx17k) (hx_)) ?_)
   rintro _ w84 ⟨rfl, hc⟩
   refine ⟨_, rfl, hS.tr hc, ?_⟩
   have hzw84 := hc.size
   have HC := HC.tr hc
   have hb10 := hb10.no hc
   have hb11 := hb11.no hc
   have hS := hS.tr hc
   refine ax rfl rfl (ai i7 rfl rfl (cG (hx17k) (hy_)) ?_)
   rintro _ w85 ⟨rfl, hc⟩
   refine ⟨_, rfl, hS.tr hc, ?_⟩
   have hzw85 := hc.size
   have HC := HC.tr hc
   have hb10 := hb10.no hc
   have hb11 := hb11.no hc
   have hS := hS.tr hc
   refine ax rfl rfl (esh au hb10 (fun w86 hb10 hc hsz => ⟨(hS.r hc), ?_⟩))
   have hzw86 := hc.size
   have HC := HC.n hc
   have hb11 := hb11.cc hc
   have hS := (hS.r hc)
   refine bf rfl rfl (esh au hb11 (fun w87 hb11 hc hsz => ?_))
   have hzw87 := hc.size
   have HC := HC.n hc
   have hb10 := hb10.cc hc
   refine wsa ?_
   refine aW (ae (ao ?_))
   refine aj (bd (rs := [.cell 10 34, .cell 11 34, .tmp 12]) rfl (.cellA (cs := List.map u8v (bu x17 x)) rfl underlying34 rfl (szL au (by rw [List.length_map]; exact aQ _ _)) (aN hb10) (.cellA (cs := List.map u8v (bu x17 y)) rfl underlying34 rfl (szL au (by rw [List.length_map]; exact aQ _ _)) (aN hb11) (.tmp rfl (.nil)))) rfl) ?_
   exact ⟨_, _, _, rfl, (by rw [ex17]; exact TW.right (by omega) (by omega) (by omega) hql (by omega) htw), HC⟩
  refine wdr (.q 0 [1, 0, 0, 0, 0, 0, 0, 0, 0, 0, 0, 0] (.alt (.q 12 [2, 0, 0, 0, 0] (.alt (.q 17 [2, 2, 2, 3, 0] .nil) (.st 18 2 (.st 17 2 (.q 19 [2, 3, 0] .nil))))) (.alt (.st 17 2 (.alt (.q 12 [2, 0, 0, 0, 0] (.q 18 [2, 2, 3, 0] .nil)) (.st 18 2 (.q 12 [2, 0, 0, 0, 0] (.q 19 [2, 3, 0] .nil))))) (.st 18 2 (.alt (.q 12 [2, 0, 0, 0, 0, 2] (.q 19 [2, 3, 0] .nil)) (.st 17 2 (.q 12 [2, 0, 0, 0, 0] (.q 19 [2, 3, 0] .nil)))))))) 20 No (fun w53 hc hszw53 => ?_)
  have hzw53 := hc.size
  have HC := HC.tr hc
  have hq := hq.no hc
  have hb5 := hb5.no hc
  have hc0 := hc
  have hS : Ch (No) w53 w53 := Ch.refl _ _
  refine ws2 rfl (plh underlying34 au (aN hb5)) ?_
  iterate 2 refine wsm ?_
  refine ws1 rfl (aZ (Z := ((m - spl n : Nat) : Int)) rfl rfl (by rw [w64 (by omega)]; omega)) ?_
  iterate 2 refine wsm ?_
  refine ws1 rfl (aZ (Z := ((n - spl n : Nat) : Int)) rfl rfl (by rw [w64 (by omega)]; omega)) ?_
  iterate 2 refine wsm ?_
  refine ws1 rfl (aw underlying26 rfl) ?_
  refine ws1 rfl (aZ (Z := ((lq - 1 : Nat) : Int)) rfl rfl (by rw [w64 (by omega)]; omega)) ?_
  have hS88 := hq.cut (lo := 0) (hi := lq - 1) (q := lq - 1) (by omega) (by omega) (by omega)
  rw [List.drop_zero] at hS88
  refine ws1 rfl (dX (l := 0) (h := lq - 1) underlying26 au rfl rfl ⟨IntKind.i64, by first | rfl | exact congrArg (fun z => some (Value.int .i64 z)) (by omega)⟩ (by omega) (by have := hq.cap; omega) hq.cap (q := lq - 1) (by omega)) ?_
  refine bh ?_ ?_
  ·
   refine ax rfl rfl (ai eP rfl rfl (hrec (n - spl n) (by omega) (by omega) (m := m - spl n) (wh := false) (by omega) (by omega) (hS88) (ha) (by omega)) ?_)
   rintro _ w54 ⟨x89, y89, ok89, rfl, htw89, hc⟩
   refine ⟨_, rfl, hS.tr hc, ?_⟩
   have hzw54 := hc.size
   have hx89 := htw89.1
   have hy89 := htw89.2.1
   have hS := hS.tr hc
   refine wsm ?_
   refine ws1 rfl (aP rfl rfl) ?_
   refine ws1 rfl (aP rfl rfl) ?_
   refine ws1 rfl (aP rfl rfl) ?_
   refine bh ?_ ?_
   ·
    refine ax rfl rfl (ea3 (fun w55 g18 hg18 hb18 hc hsz18 => ⟨hS.tr hc, ?_⟩))
    have hzw55 := hc.size
    have hge18 : w.heap.size ≤ g18 := by have := HC.size; omega
    have hS := hS.tr hc
    have hltg18 := hb18.lt
    refine ax rfl rfl (ea3 (fun w56 g19 hg19 hb19 hc hsz19 => ⟨hS.tr hc, ?_⟩))
    have hzw56 := hc.size
    have hb18 := hb18.no hc
    have hge19 : w.heap.size ≤ g19 := by have := HC.size; omega
    have hS := hS.tr hc
    refine ax rfl rfl (esh au hb18 (fun w57 hb18 hc hsz => ⟨(hS.s hc), ?_⟩))
    have hzw57 := hc.size
    have hb19 := hb19.cc hc
    have hS := (hS.s hc)
    refine bf rfl rfl (esh au hb19 (fun w58 hb19 hc hsz => ?_))
    have hzw58 := hc.size
    have hb18 := hb18.cc hc
    refine wsa ?_
    refine aW ?_
    exact xme ⟨_, _, _, _, _, rfl, ((hc0.tr hS).s hc), hb18, hb19, htw89, ⟨by omega, by omega, by omega⟩, hx89, hy89⟩
   refine ax rfl rfl (ea3 (fun w59 g19 hg19 hb19 hc hsz19 => ⟨hS.tr hc, ?_⟩))
   have hzw59 := hc.size
   have hge19 : w.heap.size ≤ g19 := by have := HC.size; omega
   have hS := hS.tr hc
   have hltg19 := hb19.lt
   refine ax rfl rfl (ea3 (fun w60 g18 hg18 hb18 hc hsz18 => ⟨hS.tr hc, ?_⟩))
   have hzw60 := hc.size
   have hb19 := hb19.no hc
   have hge18 : w.heap.size ≤ g18 := by have := HC.size; omega
   have hS := hS.tr hc
   refine ax rfl rfl (esh au hb18 (fun w61 hb18 hc hsz => ⟨(hS.s hc), ?_⟩))
   have hzw61 := hc.size
   have hb19 := hb19.cc hc
   have hS := (hS.s hc)
   refine bf rfl rfl (esh au hb19 (fun w62 hb19 hc hsz => ?_))
   have hzw62 := hc.size
   have hb18 := hb18.cc hc
   refine wsa ?_
   refine aW ?_
   exact xme ⟨_, _, _, _, _, rfl, ((hc0.tr hS).s hc), hb18, hb19, htw89, ⟨by omega, by omega, by omega⟩, hx89, hy89⟩
  refine bh ?_ ?_
  ·
   refine ax rfl rfl (ea3 (fun w63 g18 hg18 hb18 hc hsz18 => ⟨hS.tr hc, ?_⟩))
   have hzw63 := hc.size
   have hS88 := hS88.no hc
   have hge18 : w.heap.size ≤ g18 := by have := HC.size; omega
   have hS := hS.tr hc
   refine bh ?_ ?_
   ·
    refine ax rfl rfl (ai eP rfl rfl (hrec (n - spl n) (by omega) (by omega) (m := m - spl n) (wh := false) (by omega) (by omega) (hS88) (ha) (by omega)) ?_)
    rintro _ w65 ⟨x89, y89, ok89, rfl, htw89, hc⟩
    refine ⟨_, rfl, hS.tr hc, ?_⟩
    have hzw65 := hc.size
    have hb18 := hb18.no hc
    have hx89 := htw89.1
    have hy89 := htw89.2.1
    have hS := hS.tr hc
    refine wsm ?_
    refine ws1 rfl (aP rfl rfl) ?_
    refine ws1 rfl (aP rfl rfl) ?_
    refine ws1 rfl (aP rfl rfl) ?_
    have hltg18 := hb18.lt
    refine ax rfl rfl (ea3 (fun w66 g19 hg19 hb19 hc hsz19 => ⟨hS.tr hc, ?_⟩))
    have hzw66 := hc.size
    have hb18 := hb18.no hc
    have hge19 : w.heap.size ≤ g19 := by have := HC.size; omega
    have hS := hS.tr hc
    refine ax rfl rfl (esh au hb18 (fun w67 hb18 hc hsz => ⟨(hS.s hc), ?_⟩))
    have hzw67 := hc.size
    have hb19 := hb19.cc hc
    have hS := (hS.s hc)
    refine bf rfl rfl (esh au hb19 (fun w68 hb19 hc hsz => ?_))
    have hzw68 := hc.size
    have hb18 := hb18.cc hc
    refine wsa ?_
    refine aW ?_
    exact xme ⟨_, _, _, _, _, rfl, ((hc0.tr hS).s hc), hb18, hb19, htw89, ⟨by omega, by omega, by omega⟩, hx89, hy89⟩
   have hltg18 := hb18.lt
   refine ax rfl rfl (ea3 (fun w69 g19 hg19 hb19 hc hsz19 => ⟨hS.tr hc, ?_⟩))
   have hzw69 := hc.size
   have hS88 := hS88.no hc
   have hb18 := hb18.no hc
   have hge19 : w.heap.size ≤ g19 := by have := HC.size; omega
   have hS := hS.tr hc
   refine ax rfl rfl (ai eP rfl rfl (hrec (n - spl n) (by omega) (by omega) (m := m - spl n) (wh := false) (by omega) (by omega) (hS88) (ha) (by omega)) ?_)
   rintro _ w70 ⟨x89, y89, ok89, rfl, htw89, hc⟩
   refine ⟨_, rfl, hS.tr hc, ?_⟩
   have hzw70 := hc.size
   have hb18 := hb18.no hc
   have hb19 := hb19.no hc
   have hx89 := htw89.1
   have hy89 := htw89.2.1
   have hS := hS.tr hc
   refine wsm ?_
   refine ws1 rfl (aP rfl rfl) ?_
   refine ws1 rfl (aP rfl rfl) ?_
   refine ws1 rfl (aP rfl rfl) ?_
   refine ax rfl rfl (esh au hb18 (fun w71 hb18 hc hsz => ⟨(hS.s hc), ?_⟩))
   have hzw71 := hc.size
   have hb19 := hb19.cc hc
   have hS := (hS.s hc)
   refine bf rfl rfl (esh au hb19 (fun w72 hb19 hc hsz => ?_))
   have hzw72 := hc.size
   have hb18 := hb18.cc hc
   refine wsa ?_
   refine aW ?_
   exact xme ⟨_, _, _, _, _, rfl, ((hc0.tr hS).s hc), hb18, hb19, htw89, ⟨by omega, by omega, by omega⟩, hx89, hy89⟩
  refine ax rfl rfl (ea3 (fun w73 g19 hg19 hb19 hc hsz19 => ⟨hS.tr hc, ?_⟩))
  have hzw73 := hc.size
  have hS88 := hS88.no hc
  have hge19 : w.heap.size ≤ g19 := by have := HC.size; omega
  have hS := hS.tr hc
  refine bh ?_ ?_
  ·
   refine ax rfl rfl (ai eP rfl rfl (hrec (n - spl n) (by omega) (by omega) (m := m - spl n) (wh := false) (by omega) (by omega) (hS88) (ha) (by omega)) ?_)
   rintro _ w74 ⟨x89, y89, ok89, rfl, htw89, hc⟩
   refine ⟨_, rfl, hS.tr hc, ?_⟩
   have hzw74 := hc.size
   have hb19 := hb19.no hc
   have hx89 := htw89.1
   have hy89 := htw89.2.1
   have hS := hS.tr hc
   refine wsm ?_
   refine ws1 rfl (aP rfl rfl) ?_
   refine ws1 rfl (aP rfl rfl) ?_
   refine ws1 rfl (aP rfl rfl) ?_
   have hltg19 := hb19.lt
   refine ax rfl rfl (ea3 (fun w75 g18 hg18 hb18 hc hsz18 => ⟨hS.tr hc, ?_⟩))
   have hzw75 := hc.size
   have hb19 := hb19.no hc
   have hge18 : w.heap.size ≤ g18 := by have := HC.size; omega
   have hS := hS.tr hc
   refine ax rfl rfl (esh au hb18 (fun w76 hb18 hc hsz => ⟨(hS.s hc), ?_⟩))
   have hzw76 := hc.size
   have hb19 := hb19.cc hc
   have hS := (hS.s hc)
   refine bf rfl rfl (esh au hb19 (fun w77 hb19 hc hsz => ?_))
   have hzw77 := hc.size
   have hb18 := hb18.cc hc
   refine wsa ?_
   refine aW ?_
   exact xme ⟨_, _, _, _, _, rfl, ((hc0.tr hS).s hc), hb18, hb19, htw89, ⟨by omega, by omega, by omega⟩, hx89, hy89⟩
  have hltg19 := hb19.lt
  refine ax rfl rfl (ea3 (fun w78 g18 hg18 hb18 hc hsz18 => ⟨hS.tr hc, ?_⟩))
  have hzw78 := hc.size
  have hS88 := hS88.no hc
  have hb19 := hb19.no hc
  have hge18 : w.heap.size ≤ g18 := by have := HC.size; omega
  have hS := hS.tr hc
  refine ax rfl rfl (ai eP rfl rfl (hrec (n - spl n) (by omega) (by omega) (m := m - spl n) (wh := false) (by omega) (by omega) (hS88) (ha) (by omega)) ?_)
  rintro _ w79 ⟨x89, y89, ok89, rfl, htw89, hc⟩
  refine ⟨_, rfl, hS.tr hc, ?_⟩
  have hzw79 := hc.size
  have hb19 := hb19.no hc
  have hb18 := hb18.no hc
  have hx89 := htw89.1
  have hy89 := htw89.2.1
  have hS := hS.tr hc
  refine wsm ?_
  refine ws1 rfl (aP rfl rfl) ?_
  refine ws1 rfl (aP rfl rfl) ?_
  refine ws1 rfl (aP rfl rfl) ?_
  refine ax rfl rfl (esh au hb18 (fun w80 hb18 hc hsz => ⟨(hS.s hc), ?_⟩))
  have hzw80 := hc.size
  have hb19 := hb19.cc hc
  have hS := (hS.s hc)
  refine bf rfl rfl (esh au hb19 (fun w81 hb19 hc hsz => ?_))
  have hzw81 := hc.size
  have hb18 := hb18.cc hc
  refine wsa ?_
  refine aW ?_
  exact xme ⟨_, _, _, _, _, rfl, ((hc0.tr hS).s hc), hb18, hb19, htw89, ⟨by omega, by omega, by omega⟩, hx89, hy89⟩

theorem tz : ∀ n, 1 ≤ n → n ≤ 1099511627776 → TwoOK n := by
 intro n
 induction n using Nat.strongRecOn with
 | _ n ih => exact fun h1 h2 => fun hm hmn hq ha hlq => rh (fun n' h0 hl => ih n' hl h0 (by omega)) hm hmn h2 ha hq hlq

theorem iL {w : World} {m n : Int}  {a : List UInt8} {b : List UInt8}{Aq : Option Addr} {lq cq : Nat} {Fq : Nat → Prop} {q : List (List UInt8)}  (ha : a.length = 32) (hb : b.length = 32) (hq : SI w Fq eHs Aq lq cq q) (hlq : lq ≤ 1000000) :
    Calls Tryz.prog 15 #[hv a, hv b, i64 m, i64 n, .slice Aq lq cq] w fun e w' => ∃ x, e = .returned (.bool x) ∧ (x = true → 1 ≤ m ∧ m ≤ n ∧ n ≤ 1099511627776 ∧ TW m.toNat n.toNat true a q a b true) ∧ Ch No w w' := by
  have hql := hq.len
  have hq := hq.old
  have HC : Ch No w w := Ch.refl _ _
  refine aH (args := [hv a, hv b, i64 m, i64 n, .slice Aq lq cq]) (n := 45) Tryz.func15 rfl rfl rfl ?_
  refine ab (aa ?_)
  refine wle rfl (bg (cs := (List.map u8v a).toArray) rfl rfl rfl (fun w1 g5 hg5 hb5 hc hsz5 => ?_))
  have hzw1 := hc.size
  have hge5 := HC.geo hg5
  have HC := HC.tr hc
  have hq := hq.no hc
  have hltg5 := hb5.lt
  refine wle rfl (bg (cs := (List.map u8v b).toArray) rfl rfl rfl (fun w2 g6 hg6 hb6 hc hsz6 => ?_))
  have hzw2 := hc.size
  have hge6 := HC.geo hg6
  have HC := HC.tr hc
  have hq := hq.no hc
  have hb5 := hb5.no hc
  refine was ?_
  refine ac (ae (ab (ab (aa ?_))))
  refine wmv ?_
  refine wz (aU rfl rfl) ?_
  refine wmv ?_
  refine az (d := 16) rfl (fun q16 => ?_) (fun q16 => ?_)
  ·
   have q16 := of_decide_eq_true q16
   iterate 3 refine aM gq rfl rfl ?_
   refine wz (am rfl rfl) ?_
   refine wmv ?_
   iterate 2 refine aM gq rfl rfl ?_
   refine wz (am rfl rfl) ?_
   refine ac (ae ?_)
   refine aR rfl (rfl) ?_
   refine ab (aa ?_)
   refine was ?_
   refine ac (ae (ao (ag ?_)))
   refine aj ((aK rfl rfl)) ?_
   exact ⟨false, rfl, fun h => (by cases h), HC⟩
  have q16 := of_decide_eq_false q16
  refine aq gq rfl rfl (aS rfl) ?_
  refine aq gq rfl rfl (aS rfl) ?_
  refine aq gq rfl rfl (bM rfl rfl) ?_
  refine wz (ar rfl rfl) ?_
  refine wmv ?_
  refine az (d := 21) rfl (fun q21 => ?_) (fun q21 => ?_)
  ·
   have q21 := of_decide_eq_true q21
   iterate 2 refine aM gq rfl rfl ?_
   refine wz (am rfl rfl) ?_
   refine ac (ae ?_)
   refine aR rfl (rfl) ?_
   refine ab (aa ?_)
   refine was ?_
   refine ac (ae (ao (ag ?_)))
   refine aj ((aK rfl rfl)) ?_
   exact ⟨false, rfl, fun h => (by cases h), HC⟩
  have q21 := of_decide_eq_false q21
  refine aq gq rfl rfl (aS rfl) ?_
  refine aq gq rfl rfl (bM rfl rfl) ?_
  refine wz (ar rfl rfl) ?_
  refine ac (ae ?_)
  refine aA rfl (fun c0 => ?_) (fun c0 => ?_)
  ·
   have c0 := of_decide_eq_true c0
   refine ab (aa ?_)
   refine was ?_
   refine ac (ae (ao (ag ?_)))
   refine aj ((aK rfl rfl)) ?_
   exact ⟨false, rfl, fun h => (by cases h), HC⟩
  have c0 := of_decide_eq_false c0
  obtain ⟨N, rfl⟩ : ∃ N : Nat, n = (N : Int) := ⟨n.toNat, by omega⟩
  obtain ⟨M, rfl⟩ : ∃ M : Nat, m = (M : Int) := ⟨m.toNat, by omega⟩
  have eN : (N : Int).toNat = N := Int.toNat_natCast _
  have eM : (M : Int).toNat = M := Int.toNat_natCast _
  refine al (ae (ab (aa ?_)))
  refine wz (pla underlying34 au (aN hb5)) ?_
  iterate 3 refine wmv ?_
  refine wle rfl (ai eP rfl rfl (tz N (by omega) (by omega) (m := M) (wh := true) (by omega) (by omega) (hq) (ha) (by omega)) ?_)
  rintro _ w3 ⟨x30, y30, ok30, rfl, htw30, hc⟩
  refine ⟨_, rfl, ?_⟩
  have hzw3 := hc.size
  have HC := HC.tr hc
  have hb5 := hb5.no hc
  have hb6 := hb6.no hc
  have hx30 := htw30.1
  have hy30 := htw30.2.1
  refine wmv ?_
  refine wz (aP rfl rfl) ?_
  refine wz (aP rfl rfl) ?_
  refine wz (aP rfl rfl) ?_
  have hltg5 := hb5.lt
  have hltg6 := hb6.lt
  refine wle rfl (ea3 (fun w4 g11 hg11 hb11 hc hsz11 => ?_))
  have hzw4 := hc.size
  have hge11 := HC.geo hg11
  have HC := HC.tr hc
  have hb5 := hb5.no hc
  have hb6 := hb6.no hc
  have hltg5 := hb5.lt
  have hltg6 := hb6.lt
  have hltg11 := hb11.lt
  refine wle rfl (ea3 (fun w5 g12 hg12 hb12 hc hsz12 => ?_))
  have hzw5 := hc.size
  have hge12 := HC.geo hg12
  have HC := HC.tr hc
  have hb5 := hb5.no hc
  have hb6 := hb6.no hc
  have hb11 := hb11.no hc
  refine wle rfl (esh au hb11 (fun w6 hb11 hc hsz => ?_))
  have hzw6 := hc.size
  have HC := HC.n hc
  have hb5 := hb5.cc hc
  have hb6 := hb6.cc hc
  have hb12 := hb12.cc hc
  refine wle rfl (esh au hb12 (fun w7 hb12 hc hsz => ?_))
  have hzw7 := hc.size
  have HC := HC.n hc
  have hb5 := hb5.cc hc
  have hb6 := hb6.cc hc
  have hb11 := hb11.cc hc
  refine was ?_
  refine ac (ae (ab (aa ?_)))
  iterate 2 refine wmv ?_
  refine az (d := 35) rfl (fun q35 => ?_) (fun q35 => ?_)
  ·
   refine aq gq rfl rfl (pla underlying34 au (aN hb11)) ?_
   refine aq gq rfl rfl (pla underlying34 au (aN hb5)) ?_
   refine aq gq rfl rfl (rX (a := x30) (b := a) (by kernel_rfl) underlying34 underlying5 sz5 rfl rfl (hx30) (ha)) ?_
   refine wz (am rfl rfl) ?_
   refine wmv ?_
   refine az (d := 40) rfl (fun q40 => ?_) (fun q40 => ?_)
   ·
    refine aq gq rfl rfl (pla underlying34 au (aN hb12)) ?_
    refine aq gq rfl rfl (pla underlying34 au (aN hb6)) ?_
    refine aq gq rfl rfl (rX (a := y30) (b := b) (by kernel_rfl) underlying34 underlying5 sz5 rfl rfl (hy30) (hb)) ?_
    refine wz (am rfl rfl) ?_
    refine was ?_
    refine ac (ae (ao ?_))
    refine aj ((aK rfl rfl)) ?_
    exact ⟨_, rfl, fun h => ⟨by omega, by omega, by omega, by have h5 : x30 = a := (by simpa using q40); have h6 : y30 = b := (by simpa using h); have h7 : ok30 = true := (by simpa using q35); have h8 := htw30; rw [h7, h5, h6] at h8; exact h8⟩, HC⟩
   iterate 3 refine aM gq rfl rfl ?_
   refine wz (ar rfl rfl) ?_
   refine was ?_
   refine ac (ae (ao ?_))
   refine aj ((aK rfl rfl)) ?_
   exact ⟨false, rfl, fun h => (by cases h), HC⟩
  iterate 3 refine aM gq rfl rfl ?_
  refine wz (ar rfl rfl) ?_
  refine wmv ?_
  iterate 3 refine aM gq rfl rfl ?_
  refine wz (ar rfl rfl) ?_
  refine was ?_
  refine ac (ae (ao ?_))
  refine aj ((aK rfl rfl)) ?_
  exact ⟨false, rfl, fun h => (by cases h), HC⟩

theorem qd {w : World} {lo hi : Int} {Ab : Option Addr} {lb cb : Nat} {Fb : Nat → Prop} {b : List UInt8} (hb : Sl w Fb u8v Ab lb cb b) (hl : lb ≤ 1000000000) (hrnd : Sl w (fun k => k = 0) aO (some ⟨0, 0, none⟩) 64 64 rk) :
  Calls Tryz.prog 100 #[i64 lo, i64 hi, .slice Ab lb cb] w fun e w' => e = .returned (.agg ([i64 lo, i64 hi] ++ (List.map u8v (shaF b) ++ [.slice Ab lb cb]) : List Value).toArray) ∧ Ch No w w' := by
 have hbl := hb.len
 have hn0 : 0 < w.heap.size := hrnd.size (by omega) rfl
 have hn1 := hn0
 have hb := hb.old
 have HC : Ch No w w := Ch.refl _ _
 refine aH (args := [i64 lo, i64 hi, .slice Ab lb cb]) (n := 13) Tryz.func100 rfl rfl rfl ?_
 refine ab (aa ?_)
 refine wle rfl (ea9 (fun w1 g6 hg6 hb6 hc hsz6 => ?_))
 have hzw1 := hc.size
 have hge6 := HC.geo hg6
 have HC := HC.tr hc
 have hb := hb.no hc
 have hrnd := hrnd.no hc
 refine ac (ae (ab (aa ?_)))
 iterate 3 refine wmv ?_
 refine wle rfl (ai rz rfl rfl (lS (hb) (by omega) hrnd) ?_)
 rintro _ w2 ⟨rfl, hc⟩
 refine ⟨_, rfl, ?_⟩
 have hzw2 := hc.size
 have HC := HC.tr hc
 have hb6 := hb6.no hc
 refine wmv ?_
 refine wz (dj (vs' := [i64 lo, i64 hi, (.agg ((hx (shaF b)) : List Value).toArray), .slice Ab lb cb]) (cs := (([i64 lo, i64 hi] ++ ((List.map u8v (shaF b)) ++ [.slice Ab lb cb])) : List Value)) (cs' := (([i64 lo, i64 hi] ++ ((hx (shaF b)) ++ [.slice Ab lb cb])) : List Value)) rfl (by simp only [hv, cW (aD _)] <;> rfl) (by simp only [hv, cW (aD _)] <;> rfl) (fun _ => by kernel_rfl)) ?_
 refine wle rfl (esw bq hb6 (fun w3 hb6 hc hsz => ?_))
 have hzw3 := hc.size
 have HC := HC.n hc
 refine ac (ae (ao ?_))
 refine aj (fN (cs := (([i64 lo, i64 hi] ++ ((List.map u8v (shaF b)) ++ [.slice Ab lb cb])) : List Value)) rfl rfl underlying93 rfl (szL bq (by first | rfl | (simp only [List.length_append, List.length_map, List.length_cons, List.length_nil, (show List.length (shaF b) = 32 from aD _)]; done) | (simp only [List.length_append, List.length_map, List.length_cons, List.length_nil, List.size_toArray, (show List.length (shaF b) = 32 from aD _)]; done))) (aN hb6)) ?_
 exact ⟨rfl, HC⟩

theorem aY {w : World} {lo hi : Int}  {x : List UInt8} {y : List UInt8} (hx : x.length = 32) (hy : y.length = 32) (hrnd : Sl w (fun k => k = 0) aO (some ⟨0, 0, none⟩) 64 64 rk) :
  Calls Tryz.prog 103 #[i64 lo, i64 hi, hv x, hv y] w fun e w' => ∃ A l c, e = .returned (.agg ([i64 lo, i64 hi] ++ (List.map u8v (shaF (1 :: (x ++ y))) ++ [.slice A l c]) : List Value).toArray) ∧ Sl w' (fun k => w.heap.size ≤ k ∧ k < w'.heap.size) u8v A l c (1 :: (x ++ y)) ∧ l ≤ 100 ∧ Ch No w w' := by
 have hn0 : 0 < w.heap.size := hrnd.size (by omega) rfl
 have hn1 := hn0
 have HC : Ch No w w := Ch.refl _ _
 refine aH (args := [i64 lo, i64 hi, hv x, hv y]) (n := 16) Tryz.func103 rfl rfl rfl ?_
 refine ab (aa ?_)
 refine wle rfl (bg (cs := (List.map u8v x).toArray) rfl rfl rfl (fun w1 g6 hg6 hb6 hc hsz6 => ?_))
 have hzw1 := hc.size
 have hge6 := HC.geo hg6
 have HC := HC.tr hc
 have hrnd := hrnd.no hc
 have hltg6 := hb6.lt
 refine wle rfl (bg (cs := (List.map u8v y).toArray) rfl rfl rfl (fun w2 g7 hg7 hb7 hc hsz7 => ?_))
 have hzw2 := hc.size
 have hge7 := HC.geo hg7
 have HC := HC.tr hc
 have hrnd := hrnd.no hc
 have hb6 := hb6.no hc
 have hltg6 := hb6.lt
 have hltg7 := hb7.lt
 refine wle rfl (ea9 (fun w3 g8 hg8 hb8 hc hsz8 => ?_))
 have hzw3 := hc.size
 have hge8 := HC.geo hg8
 have HC := HC.tr hc
 have hrnd := hrnd.no hc
 have hb6 := hb6.no hc
 have hb7 := hb7.no hc
 refine ac (ae (ab ?_))
 refine wdr (.q 0 [0, 0, 0, 0, 2, 2, 2, 3] .nil) 7 No (fun w4 hc hszw4 => ?_)
 have hzw4 := hc.size
 have HC := HC.tr hc
 have hrnd := hrnd.no hc
 have hb6 := hb6.no hc
 have hb7 := hb7.no hc
 have hb8 := hb8.no hc
 have hS : Ch No w4 w4 := Ch.refl _ _
 iterate 2 refine wsm ?_
 have hS11 := Sl.whole (L := x) hb6 (hx)
 refine ws1 rfl (jW (N := 31) underlying34 sz5 rfl) ?_
 have hS12 := Sl.whole (L := y) hb7 (hy)
 refine ws1 rfl (jW (N := 31) underlying34 sz5 rfl) ?_
 have hltg6 := hb6.lt
 have hltg7 := hb7.lt
 have hltg8 := hb8.lt
 refine ax rfl rfl (aT (E := 38) rfl rfl (fun _ => by kernel_rfl) (fun w5 g13 hg13 hb13 hc hsz13 => ⟨hc, ?_⟩))
 have hzw5 := hc.size
 have hge13 := HC.geo hg13
 have HC := HC.tr hc
 have hrnd := hrnd.no hc
 have hb8 := hb8.no hc
 have hS11 := hS11.no hc
 have hS12 := hS12.no hc
 have hQ13 := SB.lit2 hb13 (hS11) (hS12)
 refine aB hc ?_
 refine ax rfl rfl (ai ry rfl rfl (tG (t := 1) hQ13 (by omega) (by first | omega | (simp only [List.flatten_cons, List.flatten_nil, List.length_append, List.length_nil, List.length_cons]; omega))) ?_)
 rintro _ w6 ⟨A14, c14, rfl, hW14, hc⟩
 refine ⟨_, rfl, hc, ?_⟩
 have hzw6 := hc.size
 have HC := HC.tr hc
 have hrnd := hrnd.no hc
 have hb8 := hb8.no hc
 have hT14 := hW14.sl
 rw [show [(1 : UInt8)] ++ [x, y].flatten = 1 :: (x ++ y) by simp] at hT14
 have hl14 : 1 + [x, y].flatten.length = 65 := by simp [hx, hy]
 refine aB hc ?_
 refine ax rfl rfl (ai rA rfl rfl (qd (hT14) (by omega) hrnd) ?_)
 rintro _ w7 ⟨rfl, hc⟩
 refine ⟨_, rfl, hc, ?_⟩
 have hzw7 := hc.size
 have HC := HC.tr hc
 have hb8 := hb8.no hc
 have hT14 := hT14.no hc
 refine aB hc ?_
 refine bf rfl rfl (esw bq hb8 (fun w8 hb8 hc hsz => ?_))
 have hzw8 := hc.size
 have HC := HC.n hc
 first | have hT14 := hT14.cc hc | have hT14 := hT14.cT hc
 refine aW (ae (ao ?_))
 refine aj (fN (cs := (([i64 lo, i64 hi] ++ ((List.map u8v (shaF (1 :: (x ++ y)))) ++ [.slice A14 (1 + [x, y].flatten.length) c14])) : List Value)) rfl rfl underlying93 rfl (szL bq (by first | rfl | (simp only [List.length_append, List.length_map, List.length_cons, List.length_nil, (show List.length (shaF (1 :: (x ++ y))) = 32 from aD _)]; done) | (simp only [List.length_append, List.length_map, List.length_cons, List.length_nil, List.size_toArray, (show List.length (shaF (1 :: (x ++ y))) = 32 from aD _)]; done))) (aN hb8)) ?_
 exact ⟨_, _, _, rfl, hT14.mono (fun k h1 h2 => ⟨by first | omega | (dsimp only at *; omega), h1⟩), by omega, HC⟩

theorem ri {w : World} {n i : Nat}  (hn : n ≤ 1099511627776) (hi : i < n) :
    Calls Tryz.prog 102 #[i64 (n : Int), i64 (i : Int)] w fun e w' => ∃ A l c, e = .returned (.slice A l c) ∧ RI w' (fun k => w.heap.size ≤ k) 182 eWS A l c (wys i 0 n) ∧ Ch No w w' := by
  have HC : Ch No w w := Ch.refl _ _
  refine aH (args := [i64 (n : Int), i64 (i : Int)]) (n := 36) Tryz.func102 rfl rfl rfl ?_
  refine ab (aa ?_)
  refine was ?_
  refine ac (ae (ab (aa ?_)))
  refine was ?_
  refine ac (ae (ab (aa ?_)))
  refine wmv ?_
  iterate 2 refine was ?_
  refine ac (ae (ab (ap ?_)))
  refine wcl (fun mz ez uz => ∃ lo : Nat, ∃ hi : Nat, ∃ A : Option Addr, ∃ l : Nat, ∃ c : Nat, ∃ ts : List (Nat × Nat × Nat × Bool), mz = hi - lo ∧ ez = [(1, i64 (i : Int)), (5, .slice A l c), (6, i64 (lo : Int)), (7, i64 (hi : Int))] ∧ (lo ≤ i ∧ i < hi) ∧ (l + (hi - lo) ≤ n ∧ hi ≤ n) ∧ (wys i 0 n = ts ++ wys i lo hi) ∧ (RI uz (fun k => w.heap.size ≤ k) 182 eWS A l c ts) ∧ (Ch No w uz))
   ⟨0, n, none, 0, 0, [], rfl, rfl, ⟨by omega, by omega⟩, ⟨by omega, by omega⟩, rfl, RI.nil _ _ _ _, HC⟩ ?_
  rintro m0 e w1 ⟨lo, hi, A, l, c, ts, hm0, rfl, hj, hlm, htr, hW, HC⟩
  have hzw1 := HC.size
  refine ab (ab (aa ?_))
  iterate 2 refine wmv ?_
  refine wz (aZ (Z := ((hi - lo : Nat) : Int)) rfl rfl (by rw [w64 (by omega)]; omega)) ?_
  refine wz (bM rfl rfl) ?_
  refine ac (ae ?_)
  refine aA rfl (fun c0 => ?_) (fun c0 => ?_)
  rotate_left
  ·
   have c0 := of_decide_eq_false c0
   refine aI (ah (ah (av (ae (ab (aa ?_))))))
   refine wmv ?_
   refine was ?_
   refine ac (ae (ao ?_))
   refine aj ((aK rfl rfl)) ?_
   rw [sF (lo := lo) (hi := hi) (by omega), List.append_nil] at htr
   rw [htr]
   exact ⟨A, l, c, rfl, hW.mono (fun k _ hk => by first | omega | (dsimp only at *; omega)), HC⟩
  have c0 := of_decide_eq_true c0
  have h2m : 2 ≤ hi - lo := by omega
  have hsl := cF h2m
  have hsp := bT (hi - lo)
  have hsg := ig h2m
  refine al (ae (ap (ab (aa ?_))))
  iterate 3 refine wmv ?_
  refine wz (aZ (Z := ((hi - lo : Nat) : Int)) rfl rfl (by rw [w64 (by omega)]; omega)) ?_
  refine wle rfl (ai nA rfl rfl (ix (n := hi - lo) (by omega) (by omega)) ?_)
  rintro _ w2 ⟨rfl, hc⟩
  refine ⟨_, rfl, ?_⟩
  have hzw2 := hc.size
  have HC := HC.tr hc
  have hW := hW.after hc
  refine wz (aF (Z := ((lo + spl (hi - lo) : Nat) : Int)) rfl rfl (by rw [w64 (by omega)]; omega)) ?_
  refine was ?_
  refine ac (ae (ab (aa ?_)))
  iterate 6 refine wmv ?_
  refine wz (gR rfl rfl) ?_
  refine wz (dj (vs' := [i64 (lo : Int), i64 ((lo + spl (hi - lo) : Nat) : Int), i64 (hi : Int), .bool (decide (((lo + spl (hi - lo) : Nat) : Int) ≤ (i : Int)))]) (cs := ([i64 (lo : Int), i64 ((lo + spl (hi - lo) : Nat) : Int), i64 (hi : Int), .bool (decide (((lo + spl (hi - lo) : Nat) : Int) ≤ (i : Int)))] : List Value)) (cs' := ([i64 (lo : Int), i64 ((lo + spl (hi - lo) : Nat) : Int), i64 (hi : Int), .bool (decide (((lo + spl (hi - lo) : Nat) : Int) ≤ (i : Int)))] : List Value)) rfl rfl rfl (fun _ => by kernel_rfl)) ?_
  refine wle rfl (kO (E := 182) (cs := ([i64 (lo : Int), i64 ((lo + spl (hi - lo) : Nat) : Int), i64 (hi : Int), .bool (decide (((lo + spl (hi - lo) : Nat) : Int) ≤ (i : Int)))] : List Value)) (cs' := ([i64 (lo : Int), i64 ((lo + spl (hi - lo) : Nat) : Int), i64 (hi : Int), .bool (decide (((lo + spl (hi - lo) : Nat) : Int) ≤ (i : Int)))] : List Value)) rfl rfl rfl (fun _ => by kernel_rfl) (fun w3 g28 hg28 hb28 hc hsz28 => ?_))
  have hzw3 := hc.size
  have hge28 := HC.geo hg28
  have HC := HC.tr hc
  have hW := hW.after hc
  have hS28 := SI.oneA (E := eWS) (x := (lo, (lo + spl (hi - lo)), hi, (decide (((lo + spl (hi - lo) : Nat) : Int) ≤ (i : Int))))) hb28 rfl trivial
  refine wle rfl (eW rfl el179 rfl rfl hW (hS28) (by omega) (by intro k hk; first | omega | (dsimp only at *; omega)) (fun w4 A29 c29 hW hc => ?_))
  have hzw4 := hc.size
  have HC := HC.q hc
  refine was ?_
  refine ac (ae (ab (aa ?_)))
  iterate 2 refine wmv ?_
  refine wz (aU rfl rfl) ?_
  refine ac (ae ?_)
  refine aA rfl (fun c1 => ?_) (fun c1 => ?_)
  ·
   have c1 := of_decide_eq_true c1
   refine aa ?_
   refine wmv ?_
   refine was ?_
   refine ac (ak ?_)
   refine bG (e' := [(1, i64 (i : Int)), (5, .slice (_) (_) (_)), (6, i64 ((lo) : Int)), (7, i64 (((lo + spl (hi - lo) : Nat)) : Int))]) ⟨rfl, rfl, rfl, rfl, trivial⟩ (by rw [hm0]; omega) ⟨lo, (lo + spl (hi - lo) : Nat), _, _, _, _, rfl, rfl, ⟨by omega, by omega⟩, ⟨by omega, by omega⟩, (by rw [htr, pk h2m (by omega), List.append_assoc, show decide (((lo + spl (hi - lo) : Nat) : Int) ≤ (i : Int)) = false from by simp; omega]; rfl), hW.mono (fun k _ hk => by first | omega | (dsimp only at *; omega)), HC⟩
  have c1 := of_decide_eq_false c1
  refine aa ?_
  refine wmv ?_
  refine was ?_
  refine ac (ak ?_)
  refine bG (e' := [(1, i64 (i : Int)), (5, .slice (_) (_) (_)), (6, i64 (((lo + spl (hi - lo) : Nat)) : Int)), (7, i64 ((hi) : Int))]) ⟨rfl, rfl, rfl, rfl, trivial⟩ (by rw [hm0]; omega) ⟨(lo + spl (hi - lo) : Nat), hi, _, _, _, _, rfl, rfl, ⟨by omega, by omega⟩, ⟨by omega, by omega⟩, (by rw [htr, pm h2m (by omega), List.append_assoc, show decide (((lo + spl (hi - lo) : Nat) : Int) ≤ (i : Int)) = true from by simp; omega]; rfl), hW.mono (fun k _ hk => by first | omega | (dsimp only at *; omega)), HC⟩

theorem nu {w : World} {m yl gB : Nat} {J Jx : List Nat → World → Prop} {As : Option Addr} {ls cs : Nat} {Fs : Nat → Prop} {st : List (Nat × Nat × Nat × Bool)}  (hX : ∀ xs A, J xs A → Blk A gB 179 #[.slice As ls cs] ∧ SI A Fs eWS As ls cs st) (hls : ls ≤ 1099511627776) (hJ : ∀ xs A B, J xs A → Ch No A B → J xs B) (hJx : ∀ xs A B, Jx xs A → Ch No A B → Jx xs B) (hY : ∀ pre x Wq, (fun (pre : List Nat) (i : Nat) => pre.length = i ∧ i < ls) pre x → J pre Wq → YieldAt Fence.wide m Tryz.prog yl ((fun i : Nat => #[i64 (i : Int), .agg (eWS.f (st.getD (ls - 1 - i) (0, 0, 0, false))).toArray]) x) Wq fun ed W' => (ed = .returned (.bool true) ∧ J (pre ++ [x]) W') ∨ (ed = .returned (.bool false) ∧ Jx (pre ++ [x]) W')) (hJ0 : J [] w) :
    Calls Tryz.prog 167 #[.func (.yield yl) #[] #[], .pointer (some ⟨gB, 0, none⟩)] w fun e w' => e = .returned (.tuple #[]) ∧ ((∃ xs, xs.length = ls ∧ J xs w') ∨ ∃ xs, True ∧ Jx xs w') := by
  have hJp := hJ0
  obtain ⟨hBn, hst⟩ := hX _ _ hJ0
  have HC : Ch No w w := Ch.refl _ _
  refine aH (args := [.func (.yield yl) #[] #[], .pointer (some ⟨gB, 0, none⟩)]) (n := 22) Tryz.func167 rfl rfl rfl ?_
  refine ab (aa ?_)
  refine wz (aE underlying179 rfl rfl (ld (hBn.cell rfl))) ?_
  refine wz (aw underlying179 rfl) ?_
  refine wmv ?_
  refine ac (ae (ap ?_))
  refine wcl (fun mz ez uz => ∃ j : Nat, ∃ pre : List Nat, mz = ls - j ∧ ez = [(0, .func (.yield yl) #[] #[]), (1, .pointer (some ⟨gB, 0, none⟩)), (5, i64 (ls : Int)), (6, i64 (j : Int))] ∧ (pre.length = j ∧ j ≤ ls) ∧ (J pre uz))
   ⟨0, [], rfl, rfl, ⟨rfl, by omega⟩, hJp⟩ ?_
  rintro m0 e w1 ⟨j, pre, hm0, rfl, hj, hJp⟩
  obtain ⟨hBn, hst⟩ := hX _ _ hJp
  have hstl := hst.len
  refine ab (aa ?_)
  refine wz (aU rfl rfl) ?_
  refine ac (ae (ab ?_))
  refine aA rfl (fun c0 => ?_) (fun c0 => ?_)
  rotate_left
  ·
   have c0 := of_decide_eq_false c0
   refine aI (ah (ah (av ?_)))
   refine dT ((qo rfl)) ?_
   exact ⟨rfl, .inl ⟨pre, by omega, hJp⟩⟩
  have c0 := of_decide_eq_true c0
  refine al (ae (ab (ap (ab (aa ?_)))))
  refine wmv ?_
  refine was ?_
  refine ac (ae (ab ?_))
  refine jm (m + 1) ?_
  refine wli rfl rfl rfl (aS rfl) ?_
  refine wli rfl rfl rfl (aS rfl) ?_
  refine wli rfl rfl rfl (aE underlying179 rfl rfl (ld (hBn.cell rfl))) ?_
  refine wli rfl rfl rfl (aE underlying179 rfl rfl (ld (hBn.cell rfl))) ?_
  refine wli rfl rfl rfl (aw underlying179 rfl) ?_
  refine wli rfl rfl rfl (aZ rfl rfl (w64 (by omega))) ?_
  refine wli rfl rfl rfl (aS rfl) ?_
  refine wli rfl rfl rfl (aZ (Z := ((ls - 1 - j : Nat) : Int)) rfl rfl (by rw [w64 (by omega)]; omega)) ?_
  obtain ⟨b2, o2, hA2, hF2, hr2⟩ := (hst).opn (i := (ls - 1 - j)) (d := (0, 0, 0, false)) (by omega)
  have hok2 := (hst).okAt (i := (ls - 1 - j)) (d := (0, 0, 0, false)) (by omega)
  obtain ⟨x2, ex2⟩ : ∃ x_, x_ = List.getD st ((ls - 1 - j)) (0, 0, 0, false) := ⟨_, rfl⟩
  rw [← ex2] at hr2 hok2
  have hr2 : w1.rangeAt b2 (o2 + ((ls - 1 - j)) * 4) ([i64 (x2.1 : Int), i64 (x2.2.1 : Int), i64 (x2.2.2.1 : Int), .bool x2.2.2.2] : List Value) := hr2
  refine wli rfl rfl rfl (pxs underlying179 oI hA2) ?_
  refine wli rfl rfl rfl (pla underlying182 oI hr2) ?_
  subst ex2
  have hD : pre.length = j ∧ j < ls := ⟨by omega, by omega⟩
  refine jX (fun _ _ => rfl) rfl rfl rfl (hY pre j w1 hD hJp) (by repeat (first | exact oV (fun _ h => by cases h.1) | with_reducible apply bw | with_reducible apply cr)) ?_
  rintro _ w3 (⟨rfl, hJp⟩ | ⟨rfl, hJq⟩)
  ·
   refine ⟨_, rfl, ?_⟩
   obtain ⟨hBn, hst⟩ := hX _ _ hJp
   refine wli rfl rfl rfl (bc rfl) ?_
   refine bC (ae ?_)
   refine bx rfl (rfl) ?_
   refine al (ak (ae (aa ?_)))
   refine wz (aF rfl rfl (w64 (by omega))) ?_
   refine wmv ?_
   refine ac ?_
   refine xrn ⟨j + 1, (pre ++ [j]), rfl, rfl, ⟨by simp; omega, by omega⟩, hJp⟩
  refine ⟨_, rfl, ?_⟩
  refine wli rfl rfl rfl (bc rfl) ?_
  refine bC (ae ?_)
  refine aR rfl (rfl) ?_
  refine ao (aG (ag (ag (aG ?_))))
  refine aj ((qo rfl)) ?_
  exact ⟨rfl, .inr ⟨_, trivial, hJq⟩⟩

theorem qe {w : World} {As : Option Addr} {ls cs : Nat}   :
  Calls Tryz.prog 101 #[.slice As ls cs] w fun e w' => ∃ g, e = .returned (.func (.func 167) #[] #[.pointer (some ⟨g, 0, none⟩)]) ∧ w.heap.size ≤ g ∧ Blk w' g 179 #[.slice As ls cs] ∧ Ch No w w' := by
 have HC : Ch No w w := Ch.refl _ _
 refine aH (args := [.slice As ls cs]) (n := 4) Tryz.func101 rfl rfl rfl ?_
 refine ab (aa ?_)
 refine wle rfl (bg (cs := #[_]) rfl rfl rfl (fun w1 g1 hg1 hb1 hc hsz1 => ?_))
 have hzw1 := hc.size
 have hge1 := HC.geo hg1
 have HC := HC.tr hc
 refine was ?_
 refine ac (ae (ab (aa ?_)))
 refine wz (mc rfl) ?_
 refine was ?_
 refine ac (ae (ao ?_))
 refine aj ((aK rfl rfl)) ?_
 exact ⟨g1, rfl, hge1, hb1, HC⟩

theorem rj {w : World} {n i : Nat}  (hn : n ≤ 1099511627776) (hi : i < n) :
    Calls Tryz.prog 144 #[i64 (n : Int), i64 (i : Int)] w fun e w' => ∃ A l c, e = .returned (.slice A l c) ∧ RI w' (fun k => w.heap.size ≤ k) 236 eTU A l c (trn n i) ∧ Ch No w w' := by
  have HC : Ch No w w := Ch.refl _ _
  refine aH (args := [i64 (n : Int), i64 (i : Int)]) (n := 32) Tryz.func144 rfl rfl rfl ?_
  refine ab (aa ?_)
  refine was ?_
  refine ac (ae (ab (aa ?_)))
  refine was ?_
  refine ac (ae (ab (ap ?_)))
  refine wcl (fun mz ez uz => ∃ m : Nat, ∃ j : Nat, ∃ A : Option Addr, ∃ l : Nat, ∃ c : Nat, ∃ ts : List (Nat × Bool), mz = m ∧ ez = [(0, i64 (m : Int)), (1, i64 (j : Int)), (5, .slice A l c)] ∧ (j < m) ∧ (l + m ≤ n) ∧ (trn n i = ts ++ trn m j) ∧ (RI uz (fun k => w.heap.size ≤ k) 236 eTU A l c ts) ∧ (Ch No w uz))
   ⟨n, i, none, 0, 0, [], rfl, rfl, by omega, by omega, rfl, RI.nil _ _ _ _, HC⟩ ?_
  rintro m0 e w1 ⟨m, j, A, l, c, ts, hm0, rfl, hj, hlm, htr, hW, HC⟩
  have hzw1 := HC.size
  refine ab (ab (aa ?_))
  refine wmv ?_
  refine wz (bM rfl rfl) ?_
  refine ac (ae ?_)
  refine aA rfl (fun c0 => ?_) (fun c0 => ?_)
  rotate_left
  ·
   have c0 := of_decide_eq_false c0
   refine aI (ah (ah (av (ae (ab (aa ?_))))))
   refine wmv ?_
   refine was ?_
   refine ac (ae (ao ?_))
   refine aj ((aK rfl rfl)) ?_
   rw [pi (n := m) (by omega), List.append_nil] at htr
   rw [htr]
   exact ⟨A, l, c, rfl, hW.mono (fun k _ hk => by first | omega | (dsimp only at *; omega)), HC⟩
  have c0 := of_decide_eq_true c0
  have h2m : 2 ≤ m := by omega
  have hsl := cF h2m
  have hsp := bT m
  have hsg := ig h2m
  refine al (ae (ap (ab (aa ?_))))
  refine wmv ?_
  refine wle rfl (ai nA rfl rfl (ix (by omega) (by omega)) ?_)
  rintro _ w2 ⟨rfl, hc⟩
  refine ⟨_, rfl, ?_⟩
  have hzw2 := hc.size
  have HC := HC.tr hc
  have hW := hW.after hc
  refine was ?_
  refine ac (ae (ab (aa ?_)))
  iterate 2 refine wmv ?_
  refine wz (aU rfl rfl) ?_
  refine ac (ae ?_)
  refine aA rfl (fun c1 => ?_) (fun c1 => ?_)
  ·
   have c1 := of_decide_eq_true c1
   refine ab (aa ?_)
   iterate 2 refine wmv ?_
   refine wz (dj (vs' := [i64 (m : Int), .bool false]) (cs := ([i64 (m : Int), .bool false] : List Value)) (cs' := ([i64 (m : Int), .bool false] : List Value)) rfl rfl rfl (fun _ => by kernel_rfl)) ?_
   refine wle rfl (kO (E := 236) (cs := ([i64 (m : Int), .bool false] : List Value)) (cs' := ([i64 (m : Int), .bool false] : List Value)) rfl rfl rfl (fun _ => by kernel_rfl) (fun w3 g17 hg17 hb17 hc hsz17 => ?_))
   have hzw3 := hc.size
   have hge17 := HC.geo hg17
   have HC := HC.tr hc
   have hW := hW.after hc
   have hS17 := SI.oneA (E := eTU) (x := (m, false)) hb17 rfl trivial
   refine wle rfl (eW rfl el233 rfl rfl hW (hS17) (by omega) (by intro k hk; first | omega | (dsimp only at *; omega)) (fun w4 A18 c18 hW hc => ?_))
   have hzw4 := hc.size
   have HC := HC.q hc
   refine was ?_
   refine ac (ae (aa ?_))
   refine wmv ?_
   refine was ?_
   refine ac (ak ?_)
   refine bG (e' := [(0, i64 (((spl m)) : Int)), (1, i64 ((j) : Int)), (5, .slice (_) (_) (_))]) ⟨rfl, rfl, rfl, trivial⟩ (by rw [hm0]; omega) ⟨(spl m), j, _, _, _, (ts ++ [(m, false)]), rfl, rfl, by omega, by omega, (by rw [htr, mA h2m (by omega), List.append_assoc]; rfl), hW.mono (fun k _ hk => by first | omega | (dsimp only at *; omega)), HC⟩
  have c1 := of_decide_eq_false c1
  refine ab (aa ?_)
  iterate 2 refine wmv ?_
  refine wz (dj (vs' := [i64 (m : Int), .bool true]) (cs := ([i64 (m : Int), .bool true] : List Value)) (cs' := ([i64 (m : Int), .bool true] : List Value)) rfl rfl rfl (fun _ => by kernel_rfl)) ?_
  refine wle rfl (kO (E := 236) (cs := ([i64 (m : Int), .bool true] : List Value)) (cs' := ([i64 (m : Int), .bool true] : List Value)) rfl rfl rfl (fun _ => by kernel_rfl) (fun w5 g23 hg23 hb23 hc hsz23 => ?_))
  have hzw5 := hc.size
  have hge23 := HC.geo hg23
  have HC := HC.tr hc
  have hW := hW.after hc
  have hS23 := SI.oneA (E := eTU) (x := (m, true)) hb23 rfl trivial
  refine wle rfl (eW rfl el233 rfl rfl hW (hS23) (by omega) (by intro k hk; first | omega | (dsimp only at *; omega)) (fun w6 A24 c24 hW hc => ?_))
  have hzw6 := hc.size
  have HC := HC.q hc
  refine was ?_
  refine ac (ae (aa ?_))
  iterate 2 refine wmv ?_
  refine wz (aZ (Z := ((m - spl m : Nat) : Int)) rfl rfl (by rw [w64 (by omega)]; omega)) ?_
  iterate 2 refine wmv ?_
  refine wz (aZ (Z := ((j - spl m : Nat) : Int)) rfl rfl (by rw [w64 (by omega)]; omega)) ?_
  iterate 2 refine was ?_
  refine ac (ak ?_)
  refine bG (e' := [(0, i64 (((m - spl m : Nat)) : Int)), (1, i64 (((j - spl m : Nat)) : Int)), (5, .slice (_) (_) (_))]) ⟨rfl, rfl, rfl, trivial⟩ (by rw [hm0]; omega) ⟨(m - spl m : Nat), (j - spl m : Nat), _, _, _, (ts ++ [(m, true)]), rfl, rfl, by omega, by omega, (by rw [htr, mB h2m (by omega), List.append_assoc]; rfl), hW.mono (fun k _ hk => by first | omega | (dsimp only at *; omega)), HC⟩

theorem ups_any {w : World} {m yl gB : Nat} {J Jx : List Nat → World → Prop} {As : Option Addr} {ls cs : Nat} {Fs : Nat → Prop} {st : List (Nat × Bool)}  (hX : ∀ xs A, J xs A → Blk A gB 233 #[.slice As ls cs] ∧ SI A Fs eTU As ls cs st) (hls : ls ≤ 1099511627776) (hJ : ∀ xs A B, J xs A → Ch No A B → J xs B) (hJx : ∀ xs A B, Jx xs A → Ch No A B → Jx xs B) (hY : ∀ pre x Wq, (fun (pre : List Nat) (i : Nat) => pre.length = i ∧ i < ls) pre x → J pre Wq → YieldAt Fence.wide m Tryz.prog yl ((fun i : Nat => #[i64 (i : Int), .agg (eTU.f (st.getD (ls - 1 - i) (0, false))).toArray]) x) Wq fun ed W' => (ed = .returned (.bool true) ∧ J (pre ++ [x]) W') ∨ (ed = .returned (.bool false) ∧ Jx (pre ++ [x]) W')) (hJ0 : J [] w) :
    Calls Tryz.prog 213 #[.func (.yield yl) #[] #[], .pointer (some ⟨gB, 0, none⟩)] w fun e w' => e = .returned (.tuple #[]) ∧ ((∃ xs, xs.length = ls ∧ J xs w') ∨ ∃ xs, True ∧ Jx xs w') := by
  have hJp := hJ0
  obtain ⟨hBn, hst⟩ := hX _ _ hJ0
  have HC : Ch No w w := Ch.refl _ _
  refine aH (args := [.func (.yield yl) #[] #[], .pointer (some ⟨gB, 0, none⟩)]) (n := 22) Tryz.func213 rfl rfl rfl ?_
  refine ab (aa ?_)
  refine wz (aE underlying233 rfl rfl (ld (hBn.cell rfl))) ?_
  refine wz (aw underlying233 rfl) ?_
  refine wmv ?_
  refine ac (ae (ap ?_))
  refine wcl (fun mz ez uz => ∃ j : Nat, ∃ pre : List Nat, mz = ls - j ∧ ez = [(0, .func (.yield yl) #[] #[]), (1, .pointer (some ⟨gB, 0, none⟩)), (5, i64 (ls : Int)), (6, i64 (j : Int))] ∧ (pre.length = j ∧ j ≤ ls) ∧ (J pre uz))
   ⟨0, [], rfl, rfl, ⟨rfl, by omega⟩, hJp⟩ ?_
  rintro m0 e w1 ⟨j, pre, hm0, rfl, hj, hJp⟩
  obtain ⟨hBn, hst⟩ := hX _ _ hJp
  have hstl := hst.len
  refine ab (aa ?_)
  refine wz (aU rfl rfl) ?_
  refine ac (ae (ab ?_))
  refine aA rfl (fun c0 => ?_) (fun c0 => ?_)
  rotate_left
  ·
   have c0 := of_decide_eq_false c0
   refine aI (ah (ah (av ?_)))
   refine dT ((qo rfl)) ?_
   exact ⟨rfl, .inl ⟨pre, by omega, hJp⟩⟩
  have c0 := of_decide_eq_true c0
  refine al (ae (ab (ap (ab (aa ?_)))))
  refine wmv ?_
  refine was ?_
  refine ac (ae (ab ?_))
  refine jm (m + 1) ?_
  refine wli rfl rfl rfl (aS rfl) ?_
  refine wli rfl rfl rfl (aS rfl) ?_
  refine wli rfl rfl rfl (aE underlying233 rfl rfl (ld (hBn.cell rfl))) ?_
  refine wli rfl rfl rfl (aE underlying233 rfl rfl (ld (hBn.cell rfl))) ?_
  refine wli rfl rfl rfl (aw underlying233 rfl) ?_
  refine wli rfl rfl rfl (aZ rfl rfl (w64 (by omega))) ?_
  refine wli rfl rfl rfl (aS rfl) ?_
  refine wli rfl rfl rfl (aZ (Z := ((ls - 1 - j : Nat) : Int)) rfl rfl (by rw [w64 (by omega)]; omega)) ?_
  obtain ⟨b2, o2, hA2, hF2, hr2⟩ := (hst).opn (i := (ls - 1 - j)) (d := (0, false)) (by omega)
  have hok2 := (hst).okAt (i := (ls - 1 - j)) (d := (0, false)) (by omega)
  obtain ⟨x2, ex2⟩ : ∃ x_, x_ = List.getD st ((ls - 1 - j)) (0, false) := ⟨_, rfl⟩
  rw [← ex2] at hr2 hok2
  have hr2 : w1.rangeAt b2 (o2 + ((ls - 1 - j)) * 2) ([i64 (x2.1 : Int), .bool x2.2] : List Value) := hr2
  refine wli rfl rfl rfl (pxs underlying233 rr hA2) ?_
  refine wli rfl rfl rfl (pla underlying236 rr hr2) ?_
  subst ex2
  have hD : pre.length = j ∧ j < ls := ⟨by omega, by omega⟩
  refine jX (fun _ _ => rfl) rfl rfl rfl (hY pre j w1 hD hJp) (by repeat (first | exact oV (fun _ h => by cases h.1) | with_reducible apply bw | with_reducible apply cr)) ?_
  rintro _ w3 (⟨rfl, hJp⟩ | ⟨rfl, hJq⟩)
  ·
   refine ⟨_, rfl, ?_⟩
   obtain ⟨hBn, hst⟩ := hX _ _ hJp
   refine wli rfl rfl rfl (bc rfl) ?_
   refine bC (ae ?_)
   refine bx rfl (rfl) ?_
   refine al (ak (ae (aa ?_)))
   refine wz (aF rfl rfl (w64 (by omega))) ?_
   refine wmv ?_
   refine ac ?_
   refine xrn ⟨j + 1, (pre ++ [j]), rfl, rfl, ⟨by simp; omega, by omega⟩, hJp⟩
  refine ⟨_, rfl, ?_⟩
  refine wli rfl rfl rfl (bc rfl) ?_
  refine bC (ae ?_)
  refine aR rfl (rfl) ?_
  refine ao (aG (ag (ag (aG ?_))))
  refine aj ((qo rfl)) ?_
  exact ⟨rfl, .inr ⟨_, trivial, hJq⟩⟩

theorem up_any {w : World} {As : Option Addr} {ls cs : Nat}   :
  Calls Tryz.prog 154 #[.slice As ls cs] w fun e w' => ∃ g, e = .returned (.func (.func 213) #[] #[.pointer (some ⟨g, 0, none⟩)]) ∧ w.heap.size ≤ g ∧ Blk w' g 233 #[.slice As ls cs] ∧ Ch No w w' := by
 have HC : Ch No w w := Ch.refl _ _
 refine aH (args := [.slice As ls cs]) (n := 4) Tryz.func154 rfl rfl rfl ?_
 refine ab (aa ?_)
 refine wle rfl (bg (cs := #[_]) rfl rfl rfl (fun w1 g1 hg1 hb1 hc hsz1 => ?_))
 have hzw1 := hc.size
 have hge1 := HC.geo hg1
 have HC := HC.tr hc
 refine was ?_
 refine ac (ae (ab (aa ?_)))
 refine wz (mc rfl) ?_
 refine was ?_
 refine ac (ae (ao ?_))
 refine aj ((aK rfl rfl)) ?_
 exact ⟨g1, rfl, hge1, hb1, HC⟩
end Go.Proofs.YtdencdfdikmgbaaGreatDoor
