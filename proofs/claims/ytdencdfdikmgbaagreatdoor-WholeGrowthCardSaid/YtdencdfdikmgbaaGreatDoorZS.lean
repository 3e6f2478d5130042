/-
 Own text, printed by a program of mine (wip/gx): what functions of the program do, walked operation by operation.
-/
import Derived.Test.YtdencdfdikmgbaaGreatDoorWm1
import Derived.Test.YtdencdfdikmgbaaGreatDoorProg
import Derived.Test.YtdencdfdikmgbaaGreatDoorTab
set_option linter.unusedSimpArgs false
set_option linter.unusedVariables false
set_option maxHeartbeats 1000000
set_option maxRecDepth 20000
namespace Go.Proofs.YtdencdfdikmgbaaGreatDoor
open Go.RowKit Go.Gx
open Tryz
open Go.Plain
theorem cz {w : World} {x : BitVec 32} {r : Nat} (h1 : 1 ≤ r) (h2 : r ≤ 31) :
  Calls Tryz.prog 256 #[aO x, i64 (-(r : Int))] w fun e w' => e = .returned (aO (ia x r)) ∧ Ch No w w' := by
 have HC : Ch No w w := Ch.refl _ _
 refine aH (args := [aO x, i64 (-(r : Int))]) (n := 17) Tryz.func256 rfl rfl rfl ?_
 refine ab (aa ?_)
 refine was ?_
 refine ac (ae (ab (aa ?_)))
 refine wmv ?_
 refine wz (bB underlying3 underlying85 rfl (sy h1 h2)) ?_
 refine wz (p_and64 rfl rfl (Z := ((32 - r : Nat) : Int)) (rot_and h1 h2)) ?_
 refine was ?_
 refine ac (ae (ab (aa ?_)))
 iterate 2 refine wmv ?_
 refine wz (dC (Y := 32 - r) rfl rfl) ?_
 iterate 2 refine wmv ?_
 refine wz (aZ (Z := (r : Int)) rfl rfl (by rw [eR (by omega)]; omega)) ?_
 refine wz (cB (Y := r) rfl rfl) ?_
 refine wz (dN rfl rfl) ?_
 refine was ?_
 refine ac (ae (ao ?_))
 refine aj ((aK rfl rfl)) ?_
 exact ⟨by rw [ia, BitVec.or_comm], HC⟩

theorem lR {w : World} {g o : Nat} {B : List UInt8} {Fb : Nat → Prop} (hB : Sl w Fb u8v (some ⟨g, o, none⟩) 64 64 B) :
    Calls Tryz.prog 255 #[.pointer (some ⟨g, o, none⟩)] w fun e w' => e = .returned (.agg ((sch B 64).map aO).toArray) ∧ Ch No w w' := by
  have hB := hB.old
  have HC : Ch No w w := Ch.refl _ _
  refine aH (args := [.pointer (some ⟨g, o, none⟩)]) (n := 94) Tryz.func255 rfl rfl rfl ?_
  refine ab (aa ?_)
  refine wle rfl (bz (cs := ((List.replicate 64 0#32).map aO).toArray) rfl (by rfl) rfl (fun w1 g2 hg2 hb2 hc hsz2 => ?_))
  have hzw1 := hc.size
  have HC := HC.tr hc
  have hB := hB.no hc
  have hge2 : w.heap.size ≤ g2 := by have := HC.size; omega
  refine ac (ae (ab (aa ?_)))
  have hltg2 := hb2.lt
  refine wle rfl (bz (cs := ((List.replicate 64 0#32).map aO).toArray) rfl (by rfl) rfl (fun w2 g3 hg3 hb3 hc hsz3 => ?_))
  have hzw2 := hc.size
  have HC := HC.tr hc
  have hB := hB.no hc
  have hb2 := hb2.no hc
  have hge3 : w.heap.size ≤ g3 := by have := HC.size; omega
  refine ac (ae (ab (ab (aa ?_))))
  refine wmv ?_
  refine ac (ae (ap ?_))
  refine wcl (fun mz ez uz => ∃ t : Nat, mz = 64 - t ∧ ez = [(0, .pointer (some ⟨g, o, none⟩)), (2, .pointer (some ⟨g2, 0, none⟩)), (3, .pointer (some ⟨g3, 0, none⟩)), (9, i64 (t : Int))] ∧ (t ≤ 64) ∧ (Sl uz (fun k => k < w.heap.size) u8v (some ⟨g, o, none⟩) 64 64 B) ∧ (Blk uz g2 172 ((List.replicate 64 0#32).map aO).toArray) ∧ (Blk uz g3 172 ((eu B t).map aO).toArray) ∧ (Ch No w uz))
   ⟨0, rfl, rfl, by omega, hB, hb2, by rw [jZ]; exact hb3, HC⟩ ?_
  rintro m0 e w3 ⟨t, hm0, rfl, ht, hB, hb2, hb3, HC⟩
  have hzw3 := HC.size
  have hzl := jq B (t := t) (by omega)
  refine ab (aa ?_)
  refine wz (aU rfl rfl) ?_
  refine ac (ae (ab ?_))
  refine aA rfl (fun c0 => ?_) (fun c0 => ?_)
  rotate_left
  ·
   have c0 := of_decide_eq_false c0
   obtain rfl : t = 64 := by omega
   rw [qmtq] at hb3
   have hsl := dI B 64
   refine aI (ah (ah (av (ae (ab (aa ?_))))))
   refine wz (bE (cs := _) underlying172 rfl (szL oH (by rw [List.length_map]; first | assumption | (simp; done) | (simp; omega) | omega)) rfl (fun _ e => e ▸ aN hb3)) ?_
   refine wle rfl (cV (vs := _) (szL oH (by rw [List.length_map]; exact hsl)) (dZ bK _) rfl rfl hb2 (by simp [hsl]) (fun w23 hb2 hc hsz => ?_))
   have hzw23 := hc.size
   have HC := HC.n hc
   refine ac (ae (ao ?_))
   refine aj (fN rfl rfl underlying172 rfl (szL oH (by rw [List.length_map]; exact hsl)) (aN hb2)) ?_
   exact ⟨rfl, HC⟩
  have c0 := of_decide_eq_true c0
  refine al (ae (ab (ap (ab (aa ?_)))))
  refine wmv ?_
  refine was ?_
  refine ac (ae (ab (ab (aa ?_))))
  refine wmv ?_
  refine wz (aU rfl rfl) ?_
  refine ac (ae ?_)
  refine aA rfl (fun c1 => ?_) (fun c1 => ?_)
  ·
   have c1 := of_decide_eq_true c1
   refine ab ?_
   refine dc (.q 0 [0, 0, 0, 0, 0, 0, 1, 0, 0, 0, 0, 0, 0, 0, 0, 1, 0, 0, 0, 0, 0, 0, 0, 0, 0, 1, 0, 0, 0, 0, 0, 0, 0, 0, 0, 1, 0, 0, 0, 3] .nil) 39 (by kernel_rfl) (by kernel_rfl) (by kernel_rfl) (by repeat (first | with_reducible exact cQ | with_reducible apply cP | with_reducible apply em)) (fun x => Ch No w3.drew x) (Ch.refl _ _) ?_
   obtain ⟨w4, ew4⟩ : ∃ x, x = w3.drew := ⟨_, rfl⟩
   rw [← ew4]
   have hc : Ch No w3 w4 := by rw [ew4]; exact Ch.drew _
   have hszw4 : w4.heap.size = w3.heap.size := by rw [ew4]; rfl
   clear ew4
   have hzw4 := hc.size
   have HC := HC.tr hc
   have hB := hB.no hc
   have hb2 := hb2.no hc
   have hb3 := hb3.no hc
   have hS : Ch No w4 w4 := Ch.refl _ _
   iterate 3 refine wsm ?_
   refine ws1 rfl (cH (Z := ((4 * t : Nat) : Int)) rfl rfl (by rw [w64 (by omega)]; omega)) ?_
   refine ws1 rfl (dD rfl) ?_
   obtain ⟨b5, o5, hA5, hF5, hc5⟩ := (hB).opn (d := 0) (by omega)
   cases hA5
   refine ws1 rfl (fM underlying250 sz5 rfl rfl (by omega) (by omega) (Int.toNat_natCast _)) ?_
   refine ws2 rfl (aE underlying5 rfl rfl (fun _ h => h.cell (fun h => h) (hc5 _ (by omega)))) ?_
   refine ws1 rfl (cI underlying5 underlying81 rfl) ?_
   refine ws1 rfl (dC (Y := 24) rfl rfl) ?_
   iterate 2 refine wsm ?_
   refine ws1 rfl (cH (Z := ((4 * t : Nat) : Int)) rfl rfl (by rw [w64 (by omega)]; omega)) ?_
   refine ws1 rfl (aF (Z := ((4 * t + 1 : Nat) : Int)) rfl rfl (by rw [w64 (by omega)]; omega)) ?_
   refine ws1 rfl (dD rfl) ?_
   obtain ⟨b6, o6, hA6, hF6, hc6⟩ := (hB).opn (d := 0) (by omega)
   cases hA6
   refine ws1 rfl (fM underlying250 sz5 rfl rfl (by omega) (by omega) (Int.toNat_natCast _)) ?_
   refine ws2 rfl (aE underlying5 rfl rfl (fun _ h => h.cell (fun h => h) (hc6 _ (by omega)))) ?_
   refine ws1 rfl (cI underlying5 underlying81 rfl) ?_
   refine ws1 rfl (dC (Y := 16) rfl rfl) ?_
   refine ws1 rfl (dN rfl rfl) ?_
   iterate 2 refine wsm ?_
   refine ws1 rfl (cH (Z := ((4 * t : Nat) : Int)) rfl rfl (by rw [w64 (by omega)]; omega)) ?_
   refine ws1 rfl (aF (Z := ((4 * t + 2 : Nat) : Int)) rfl rfl (by rw [w64 (by omega)]; omega)) ?_
   refine ws1 rfl (dD rfl) ?_
   obtain ⟨b7, o7, hA7, hF7, hc7⟩ := (hB).opn (d := 0) (by omega)
   cases hA7
   refine ws1 rfl (fM underlying250 sz5 rfl rfl (by omega) (by omega) (Int.toNat_natCast _)) ?_
   refine ws2 rfl (aE underlying5 rfl rfl (fun _ h => h.cell (fun h => h) (hc7 _ (by omega)))) ?_
   refine ws1 rfl (cI underlying5 underlying81 rfl) ?_
   refine ws1 rfl (dC (Y := 8) rfl rfl) ?_
   refine ws1 rfl (dN rfl rfl) ?_
   iterate 2 refine wsm ?_
   refine ws1 rfl (cH (Z := ((4 * t : Nat) : Int)) rfl rfl (by rw [w64 (by omega)]; omega)) ?_
   refine ws1 rfl (aF (Z := ((4 * t + 3 : Nat) : Int)) rfl rfl (by rw [w64 (by omega)]; omega)) ?_
   refine ws1 rfl (dD rfl) ?_
   obtain ⟨b8, o8, hA8, hF8, hc8⟩ := (hB).opn (d := 0) (by omega)
   cases hA8
   refine ws1 rfl (fM underlying250 sz5 rfl rfl (by omega) (by omega) (Int.toNat_natCast _)) ?_
   refine ws2 rfl (aE underlying5 rfl rfl (fun _ h => h.cell (fun h => h) (hc8 _ (by omega)))) ?_
   refine ws1 rfl (cI underlying5 underlying81 rfl) ?_
   refine ws1 rfl (dN rfl rfl) ?_
   refine ws1 rfl (aJ underlying172 bi rfl rfl (by omega) (by omega) (Int.toNat_natCast _)) ?_
   refine bf rfl rfl (dF bK (by rfl) rfl rfl hb3 (by first | (simp; done) | (simp; omega) | omega) (fun w10 hb3 hc hsz => ?_))
   have hzw10 := hc.size
   have HC := HC.n hc
   first | have hB := hB.cc hc | have hB := hB.cT hc
   have hb2 := hb2.cc hc
   refine aW (ae (aI (ah (av (ae (aa ?_))))))
   refine wz (aF rfl rfl (w64 (by omega))) ?_
   refine wmv ?_
   refine ac ?_
   refine xrn ⟨t + 1, rfl, rfl, by omega, hB, hb2, by first | (rw [← ec B (by omega), jr B _ (by omega)]; exact hb3) | (rw [← ec B (by omega), ib B (by omega)]; exact hb3), HC⟩
  have c1 := of_decide_eq_false c1
  refine al (ae (ab ?_))
  refine dc (.q 0 [0, 0, 0, 1, 0, 0, 0, 1, 0, 0] .nil) 10 (by kernel_rfl) (by kernel_rfl) (by kernel_rfl) (by repeat (first | with_reducible exact cQ | with_reducible apply cP | with_reducible apply em)) (fun x => Ch No w3.drew x) (Ch.refl _ _) ?_
  obtain ⟨w11, ew11⟩ : ∃ x, x = w3.drew := ⟨_, rfl⟩
  rw [← ew11]
  have hc : Ch No w3 w11 := by rw [ew11]; exact Ch.drew _
  have hszw11 : w11.heap.size = w3.heap.size := by rw [ew11]; rfl
  clear ew11
  have hzw11 := hc.size
  have HC := HC.tr hc
  have hB := hB.no hc
  have hb2 := hb2.no hc
  have hb3 := hb3.no hc
  have hS : Ch No w11 w11 := Ch.refl _ _
  refine wsm ?_
  refine ws1 rfl (aZ (Z := ((t - 15 : Nat) : Int)) rfl rfl (by rw [w64 (by omega)]; omega)) ?_
  refine ws1 rfl (aJ underlying172 bi rfl rfl (by omega) (by omega) (Int.toNat_natCast _)) ?_
  refine ws2 rfl (aE underlying81 rfl rfl (fun _ h => h.cell (fun h => h) (aV hb3 (d := 0#32) (by first | (simp; done) | (simp; omega) | omega)))) ?_
  refine wsm ?_
  refine ws1 rfl (aZ (Z := ((t - 2 : Nat) : Int)) rfl rfl (by rw [w64 (by omega)]; omega)) ?_
  refine ws1 rfl (aJ underlying172 bi rfl rfl (by omega) (by omega) (Int.toNat_natCast _)) ?_
  refine ws2 rfl (aE underlying81 rfl rfl (fun _ h => h.cell (fun h => h) (aV hb3 (d := 0#32) (by first | (simp; done) | (simp; omega) | omega)))) ?_
  iterate 2 refine wsa ?_
  refine aW (ae (ab (aa ?_)))
  refine wmv ?_
  refine wle rfl (ai dL rfl rfl (cz (r := 7) (by omega) (by omega)) ?_)
  rintro _ w14 ⟨rfl, hc⟩
  refine ⟨_, rfl, ?_⟩
  have hzw14 := hc.size
  have HC := HC.tr hc
  have hB := hB.no hc
  have hb2 := hb2.no hc
  have hb3 := hb3.no hc
  refine wmv ?_
  refine wle rfl (ai dL rfl rfl (cz (r := 18) (by omega) (by omega)) ?_)
  rintro _ w15 ⟨rfl, hc⟩
  refine ⟨_, rfl, ?_⟩
  have hzw15 := hc.size
  have HC := HC.tr hc
  have hB := hB.no hc
  have hb2 := hb2.no hc
  have hb3 := hb3.no hc
  refine wz (bv rfl rfl) ?_
  refine wmv ?_
  refine wz (cB (Y := 3) rfl rfl) ?_
  refine wz (bv rfl rfl) ?_
  refine was ?_
  refine ac (ae (ab (aa ?_)))
  refine wmv ?_
  refine wle rfl (ai dL rfl rfl (cz (r := 17) (by omega) (by omega)) ?_)
  rintro _ w16 ⟨rfl, hc⟩
  refine ⟨_, rfl, ?_⟩
  have hzw16 := hc.size
  have HC := HC.tr hc
  have hB := hB.no hc
  have hb2 := hb2.no hc
  have hb3 := hb3.no hc
  refine wmv ?_
  refine wle rfl (ai dL rfl rfl (cz (r := 19) (by omega) (by omega)) ?_)
  rintro _ w17 ⟨rfl, hc⟩
  refine ⟨_, rfl, ?_⟩
  have hzw17 := hc.size
  have HC := HC.tr hc
  have hB := hB.no hc
  have hb2 := hb2.no hc
  have hb3 := hb3.no hc
  refine wz (bv rfl rfl) ?_
  refine wmv ?_
  refine wz (cB (Y := 10) rfl rfl) ?_
  refine wz (bv rfl rfl) ?_
  refine was ?_
  refine ac (ae ?_)
  refine dc (.q 0 [0, 0, 0, 0, 1, 0, 0, 0, 0, 0, 1, 0, 0, 0, 0, 3] .nil) 15 (by kernel_rfl) (by kernel_rfl) (by kernel_rfl) (by repeat (first | with_reducible exact cQ | with_reducible apply cP | with_reducible apply em)) (fun x => Ch No w17.drew x) (Ch.refl _ _) ?_
  obtain ⟨w18, ew18⟩ : ∃ x, x = w17.drew := ⟨_, rfl⟩
  rw [← ew18]
  have hc : Ch No w17 w18 := by rw [ew18]; exact Ch.drew _
  have hszw18 : w18.heap.size = w17.heap.size := by rw [ew18]; rfl
  clear ew18
  have hzw18 := hc.size
  have HC := HC.tr hc
  have hB := hB.no hc
  have hb2 := hb2.no hc
  have hb3 := hb3.no hc
  have hS : Ch No w18 w18 := Ch.refl _ _
  iterate 2 refine wsm ?_
  refine ws1 rfl (aZ (Z := ((t - 16 : Nat) : Int)) rfl rfl (by rw [w64 (by omega)]; omega)) ?_
  refine ws1 rfl (aJ underlying172 bi rfl rfl (by omega) (by omega) (Int.toNat_natCast _)) ?_
  refine ws2 rfl (aE underlying81 rfl rfl (fun _ h => h.cell (fun h => h) (aV hb3 (d := 0#32) (by first | (simp; done) | (simp; omega) | omega)))) ?_
  refine wsm ?_
  refine ws1 rfl (br rfl rfl) ?_
  refine wsm ?_
  refine ws1 rfl (aZ (Z := ((t - 7 : Nat) : Int)) rfl rfl (by rw [w64 (by omega)]; omega)) ?_
  refine ws1 rfl (aJ underlying172 bi rfl rfl (by omega) (by omega) (Int.toNat_natCast _)) ?_
  refine ws2 rfl (aE underlying81 rfl rfl (fun _ h => h.cell (fun h => h) (aV hb3 (d := 0#32) (by first | (simp; done) | (simp; omega) | omega)))) ?_
  refine ws1 rfl (br rfl rfl) ?_
  refine wsm ?_
  refine ws1 rfl (br rfl rfl) ?_
  refine ws1 rfl (aJ underlying172 bi rfl rfl (by omega) (by omega) (Int.toNat_natCast _)) ?_
  refine bf rfl rfl (dF bK (by rfl) rfl rfl hb3 (by first | (simp; done) | (simp; omega) | omega) (fun w22 hb3 hc hsz => ?_))
  have hzw22 := hc.size
  have HC := HC.n hc
  first | have hB := hB.cc hc | have hB := hB.cT hc
  have hb2 := hb2.cc hc
  refine aW (ak (ae (aa ?_)))
  refine wz (aF rfl rfl (w64 (by omega))) ?_
  refine wmv ?_
  refine ac ?_
  refine xrn ⟨t + 1, rfl, rfl, by omega, hB, hb2, by first | (rw [← ec B (by omega), jr B _ (by omega)]; exact hb3) | (rw [← ec B (by omega), ib B (by omega)]; exact hb3), HC⟩

set_option maxHeartbeats 4000000 in
theorem q7 {w : World} {g n : Nat} {h : List W32} {rest : List UInt8} {made : Bool} (hs : Blk w g 252 (stt h rest n made)) (hh : h.length = 8) (hr : rest.length = 64) (hrnd : Sl w (fun k => k = 0) aO (some ⟨0, 0, none⟩) 64 64 rk) :
    Calls Tryz.prog 214 #[.pointer (some ⟨g, 0, none⟩)] w fun e w' => e = .returned (.tuple #[]) ∧ Ch (fun k => k = g) w w' ∧ Blk w' g 252 (stt (cmp h rest) rest n made) := by
  have hn1 : 0 < w.heap.size := hrnd.size (by omega) rfl
  have hgl := hs.lt
  have hsl := dI rest 64
  have HC : Ch (fun k => k = g) w w := Ch.refl _ _
  refine aH (args := [.pointer (some ⟨g, 0, none⟩)]) (n := 123) Tryz.func214 rfl rfl rfl ?_
  refine ab (aa ?_)
  refine wmv ?_
  refine wz (dD rfl) ?_
  refine wz (dE underlying252 rfl ⟨_, by rfl⟩ rfl rfl) ?_
  refine wle rfl (ai ent255 rfl rfl (lR (stt_sl hs hh hr)) ?_)
  rintro _ w1 ⟨rfl, hc⟩
  refine ⟨_, rfl, ?_⟩
  have hzw1 := hc.size
  have HC := HC.tr hc
  have hs := hs.ch hc (fun h => h)
  have hrnd := hrnd.no hc
  have hltg := hs.lt
  refine wle rfl (bz (cs := ((List.replicate 64 0#32).map aO).toArray) rfl (by rfl) rfl (fun w2 g2 hg2 hb2 hc hsz2 => ?_))
  have hzw2 := hc.size
  have HC := HC.tr hc
  have hs := hs.ch hc (fun h => h)
  have hrnd := hrnd.no hc
  have hge2 : w.heap.size ≤ g2 := by have := HC.size; omega
  have neg_2 : g < g2 := by omega
  refine wle rfl (cV (vs := _) (szL oH (by rw [List.length_map]; exact hsl)) (dZ bK _) rfl rfl hb2 (by simp [hsl]) (fun w3 hb2 hc hsz => ?_))
  have hzw3 := hc.size
  have HC := HC.n hc
  have hs := hs.ch hc (by omega)
  first | have hrnd := hrnd.cc hc | have hrnd := hrnd.cT hc
  refine ac (ae (ab (aa ?_)))
  refine wmv ?_
  refine wz (dD rfl) ?_
  refine wz (dE underlying252 rfl ⟨_, by rfl⟩ rfl rfl) ?_
  refine wz (pla underlying82 tH (pB hs hh)) ?_
  have hltg := hs.lt
  have hltg2 := hb2.lt
  refine wle rfl (bz (cs := ((List.replicate 8 0#32).map aO).toArray) rfl (by rfl) rfl (fun w4 g3 hg3 hb3 hc hsz3 => ?_))
  have hzw4 := hc.size
  have HC := HC.tr hc
  have hs := hs.ch hc (fun h => h)
  have hrnd := hrnd.no hc
  have hb2 := hb2.no hc
  have hge3 : w.heap.size ≤ g3 := by have := HC.size; omega
  have neg_3 : g < g3 := by omega
  refine wle rfl (cV (vs := _) (by first | rfl | exact szL tH (by rw [List.length_map]; exact hh)) (by first | exact cO rfl | exact dZ bK _) rfl rfl hb3 (by first | (simp [hh]; done) | (simp [hvl]; done)) (fun w5 hb3 hc hsz => ?_))
  have hzw5 := hc.size
  have HC := HC.n hc
  have hs := hs.ch hc (by omega)
  first | have hrnd := hrnd.cc hc | have hrnd := hrnd.cT hc
  have hb2 := hb2.cc hc
  refine ac (ae (ab (ab (aa ?_))))
  refine wmv ?_
  refine ac (ae (ap ?_))
  refine wcl (fun mz ez uz => ∃ t : Nat, mz = 64 - t ∧ ez = [(0, .pointer (some ⟨g, 0, none⟩)), (2, .pointer (some ⟨g2, 0, none⟩)), (3, .pointer (some ⟨g3, 0, none⟩)), (19, i64 (t : Int))] ∧ (t ≤ 64) ∧ (Blk uz g 252 (stt h rest n made)) ∧ (Blk uz g2 172 ((sch rest 64).map aO).toArray) ∧ (Blk uz g3 82 ((ic (sch rest 64) h t).map aO).toArray) ∧ (Sl uz (fun k => k = 0) aO (some ⟨0, 0, none⟩) 64 64 rk) ∧ (Ch (fun k => k = g) w uz))
   ⟨0, rfl, rfl, by omega, hs, hb2, hb3, hrnd, HC⟩ ?_
  rintro m0 e w6 ⟨t, hm0, rfl, ht, hs, hb2, hb3, hrnd, HC⟩
  have hzw6 := HC.size
  have hvl := gy (sch rest 64) hh t
  refine ab (aa ?_)
  refine wz (aU rfl rfl) ?_
  refine ac (ae (ab ?_))
  refine aA rfl (fun c0 => ?_) (fun c0 => ?_)
  rotate_left
  ·
   have c0 := of_decide_eq_false c0
   obtain rfl : t = 64 := by omega
   have hvl := gy (sch rest 64) hh 64
   refine aI (ah (ah (av (ae (ab (aa ?_))))))
   refine wmv ?_
   refine ac (ae (ap ?_))
   refine wcl (fun mz ez uz => ∃ i : Nat, mz = 8 - i ∧ ez = [(0, .pointer (some ⟨g, 0, none⟩)), (3, .pointer (some ⟨g3, 0, none⟩)), (106, i64 (i : Int))] ∧ (i ≤ 8) ∧ (Blk uz g 252 (stt (js h (ic (sch rest 64) h 64) i) rest n made)) ∧ (Blk uz g3 82 ((ic (sch rest 64) h 64).map aO).toArray) ∧ (Ch (fun k => k = g) w uz))
    ⟨0, rfl, rfl, by omega, hs, hb3, HC⟩ ?_
   rintro m1 e w42 ⟨i, hm1, rfl, hi, hs, hb3, HC⟩
   have hzw42 := HC.size
   have hal : (js h (ic (sch rest 64) h 64) i).length = 8 := by rw [fa]; exact hh
   refine ab (aa ?_)
   refine wz (aU rfl rfl) ?_
   refine ac (ae (ab ?_))
   refine aA rfl (fun c1 => ?_) (fun c1 => ?_)
   rotate_left
   ·
    have c1 := of_decide_eq_false c1
    obtain rfl : i = 8 := by omega
    refine aI (ah (ah (av ?_)))
    refine dT ((qo rfl)) ?_
    exact ⟨rfl, HC, hs⟩
   have c1 := of_decide_eq_true c1
   refine al (ae (ab (ap (ab (aa ?_)))))
   refine wmv ?_
   refine was ?_
   refine ac (ae ?_)
   refine dc (.q 0 [0, 0, 0, 0, 0, 1, 0, 0, 1, 0, 0, 0, 0, 3] .nil) 13 (by kernel_rfl) (by kernel_rfl) (by kernel_rfl) (by repeat (first | with_reducible exact cQ | with_reducible apply cP | with_reducible apply em)) (fun x => Ch No w42.drew x) (Ch.refl _ _) ?_
   obtain ⟨w43, ew43⟩ : ∃ x, x = w42.drew := ⟨_, rfl⟩
   rw [← ew43]
   have hc : Ch No w42 w43 := by rw [ew43]; exact Ch.drew _
   have hszw43 : w43.heap.size = w42.heap.size := by rw [ew43]; rfl
   clear ew43
   have hzw43 := hc.size
   have HC := HC.tr hc
   have hs := hs.ch hc (fun h => h)
   have hb3 := hb3.no hc
   have hS : Ch No w43 w43 := Ch.refl _ _
   iterate 2 refine wsm ?_
   refine ws1 rfl (dD rfl) ?_
   refine ws1 rfl (dE underlying252 rfl ⟨_, by rfl⟩ rfl rfl) ?_
   refine ws1 rfl (fM (o := 0) underlying82 bi rfl rfl (by omega) (by omega) (Int.toNat_natCast _)) ?_
   refine ws2 rfl (aE underlying81 rfl rfl (fun _ hx => hx.cell (fun h => h) (by rw [Nat.zero_add]; exact hs.cell (stt_h hal (by omega))))) ?_
   refine wsm ?_
   refine ws1 rfl (aJ underlying82 bi rfl rfl (by omega) (by omega) (Int.toNat_natCast _)) ?_
   refine ws2 rfl (aE underlying81 rfl rfl (fun _ h => h.cell (fun h => h) (aV hb3 (d := 0#32) (by first | (simp; done) | (simp; omega) | omega)))) ?_
   refine ws1 rfl (br rfl rfl) ?_
   refine ws1 rfl (dD rfl) ?_
   refine ws1 rfl (dE underlying252 rfl ⟨_, by rfl⟩ rfl rfl) ?_
   refine ws1 rfl (fM (o := 0) underlying82 bi rfl rfl (by omega) (by omega) (Int.toNat_natCast _)) ?_
   refine bf rfl rfl (e_stSh (by rfl) rfl rfl hs hal hr (by omega) (fun w45 hs hc hsz => ?_))
   have hzw45 := hc.size
   have HC := HC.trans hc (fun _ _ h => h) (fun k hk ht => ht)
   have hb3 := hb3.cc hc
   refine aW (ak (ae (aa ?_)))
   refine wz (aF rfl rfl (w64 (by omega))) ?_
   refine wmv ?_
   refine ac ?_
   refine xrn ⟨i + 1, rfl, rfl, by omega, hs, hb3, HC⟩
  have c0 := of_decide_eq_true c0
  refine al (ae (ab (ap (ab (aa ?_)))))
  refine wmv ?_
  refine was ?_
  refine ac (ae (ab ?_))
  refine dc (.st 0 0 (.st 1 1 (.st 3 0 (.st 4 1 (.st 7 0 (.st 8 1 (.st 2 2 (.st 5 2 (.st 6 0 (.q 9 [2, 0, 0] .nil)))))))))) 12 (by kernel_rfl) (by kernel_rfl) (by kernel_rfl) (by repeat (first | with_reducible exact cQ | with_reducible apply cP | with_reducible apply em)) (fun x => Ch No w6.drew x) (Ch.refl _ _) ?_
  obtain ⟨w7, ew7⟩ : ∃ x, x = w6.drew := ⟨_, rfl⟩
  rw [← ew7]
  have hc : Ch No w6 w7 := by rw [ew7]; exact Ch.drew _
  have hszw7 : w7.heap.size = w6.heap.size := by rw [ew7]; rfl
  clear ew7
  have hzw7 := hc.size
  have HC := HC.tr hc
  have hs := hs.ch hc (fun h => h)
  have hb2 := hb2.no hc
  have hb3 := hb3.no hc
  have hrnd := hrnd.no hc
  have hS : Ch No w7 w7 := Ch.refl _ _
  refine ws1 rfl (aJ (j := 4) underlying82 bi rfl rfl (by omega) (by omega) rfl) ?_
  refine ws2 rfl (aE underlying81 rfl rfl (fun _ h => h.cell (fun h => h) (aV hb3 (d := 0#32) (by first | (simp; done) | (simp; omega) | omega)))) ?_
  refine ws1 rfl (aJ (j := 4) underlying82 bi rfl rfl (by omega) (by omega) rfl) ?_
  refine ws2 rfl (aE underlying81 rfl rfl (fun _ h => h.cell (fun h => h) (aV hb3 (d := 0#32) (by first | (simp; done) | (simp; omega) | omega)))) ?_
  refine ws1 rfl (aJ (j := 4) underlying82 bi rfl rfl (by omega) (by omega) rfl) ?_
  refine ws2 rfl (aE underlying81 rfl rfl (fun _ h => h.cell (fun h => h) (aV hb3 (d := 0#32) (by first | (simp; done) | (simp; omega) | omega)))) ?_
  refine ax rfl rfl (ai dL rfl rfl (cz (r := 6) (by omega) (by omega)) ?_)
  rintro _ w11 ⟨rfl, hc⟩
  refine ⟨_, rfl, hc, ?_⟩
  have hzw11 := hc.size
  have HC := HC.tr hc
  have hs := hs.ch hc (fun h => h)
  have hb2 := hb2.no hc
  have hb3 := hb3.no hc
  have hrnd := hrnd.no hc
  refine aB hc ?_
  refine ax rfl rfl (ai dL rfl rfl (cz (r := 11) (by omega) (by omega)) ?_)
  rintro _ w12 ⟨rfl, hc⟩
  refine ⟨_, rfl, hc, ?_⟩
  have hzw12 := hc.size
  have HC := HC.tr hc
  have hs := hs.ch hc (fun h => h)
  have hb2 := hb2.no hc
  have hb3 := hb3.no hc
  have hrnd := hrnd.no hc
  refine aB hc ?_
  refine ws1 rfl (bv rfl rfl) ?_
  refine ax rfl rfl (ai dL rfl rfl (cz (r := 25) (by omega) (by omega)) ?_)
  rintro _ w13 ⟨rfl, hc⟩
  refine ⟨_, rfl, hc, ?_⟩
  have hzw13 := hc.size
  have HC := HC.tr hc
  have hs := hs.ch hc (fun h => h)
  have hb2 := hb2.no hc
  have hb3 := hb3.no hc
  have hrnd := hrnd.no hc
  refine aB hc ?_
  refine ws1 rfl (bv rfl rfl) ?_
  refine wsa ?_
  refine aW (ae (ab ?_))
  refine dc (.st 0 0 (.st 1 1 (.st 3 0 (.st 4 1 (.st 7 0 (.st 8 1 (.st 2 2 (.st 5 2 (.st 6 0 (.q 9 [2, 0, 0] .nil)))))))))) 12 (by kernel_rfl) (by kernel_rfl) (by kernel_rfl) (by repeat (first | with_reducible exact cQ | with_reducible apply cP | with_reducible apply em)) (fun x => Ch No w13.drew x) (Ch.refl _ _) ?_
  obtain ⟨w14, ew14⟩ : ∃ x, x = w13.drew := ⟨_, rfl⟩
  rw [← ew14]
  have hc : Ch No w13 w14 := by rw [ew14]; exact Ch.drew _
  have hszw14 : w14.heap.size = w13.heap.size := by rw [ew14]; rfl
  clear ew14
  have hzw14 := hc.size
  have HC := HC.tr hc
  have hs := hs.ch hc (fun h => h)
  have hb2 := hb2.no hc
  have hb3 := hb3.no hc
  have hrnd := hrnd.no hc
  have hS : Ch No w14 w14 := Ch.refl _ _
  refine ws1 rfl (aJ (j := 0) underlying82 bi rfl rfl (by omega) (by omega) rfl) ?_
  refine ws2 rfl (aE underlying81 rfl rfl (fun _ h => h.cell (fun h => h) (aV hb3 (d := 0#32) (by first | (simp; done) | (simp; omega) | omega)))) ?_
  refine ws1 rfl (aJ (j := 0) underlying82 bi rfl rfl (by omega) (by omega) rfl) ?_
  refine ws2 rfl (aE underlying81 rfl rfl (fun _ h => h.cell (fun h => h) (aV hb3 (d := 0#32) (by first | (simp; done) | (simp; omega) | omega)))) ?_
  refine ws1 rfl (aJ (j := 0) underlying82 bi rfl rfl (by omega) (by omega) rfl) ?_
  refine ws2 rfl (aE underlying81 rfl rfl (fun _ h => h.cell (fun h => h) (aV hb3 (d := 0#32) (by first | (simp; done) | (simp; omega) | omega)))) ?_
  refine ax rfl rfl (ai dL rfl rfl (cz (r := 2) (by omega) (by omega)) ?_)
  rintro _ w18 ⟨rfl, hc⟩
  refine ⟨_, rfl, hc, ?_⟩
  have hzw18 := hc.size
  have HC := HC.tr hc
  have hs := hs.ch hc (fun h => h)
  have hb2 := hb2.no hc
  have hb3 := hb3.no hc
  have hrnd := hrnd.no hc
  refine aB hc ?_
  refine ax rfl rfl (ai dL rfl rfl (cz (r := 13) (by omega) (by omega)) ?_)
  rintro _ w19 ⟨rfl, hc⟩
  refine ⟨_, rfl, hc, ?_⟩
  have hzw19 := hc.size
  have HC := HC.tr hc
  have hs := hs.ch hc (fun h => h)
  have hb2 := hb2.no hc
  have hb3 := hb3.no hc
  have hrnd := hrnd.no hc
  refine aB hc ?_
  refine ws1 rfl (bv rfl rfl) ?_
  refine ax rfl rfl (ai dL rfl rfl (cz (r := 22) (by omega) (by omega)) ?_)
  rintro _ w20 ⟨rfl, hc⟩
  refine ⟨_, rfl, hc, ?_⟩
  have hzw20 := hc.size
  have HC := HC.tr hc
  have hs := hs.ch hc (fun h => h)
  have hb2 := hb2.no hc
  have hb3 := hb3.no hc
  have hrnd := hrnd.no hc
  refine aB hc ?_
  refine ws1 rfl (bv rfl rfl) ?_
  refine wsa ?_
  refine aW (ae (ab (aa ?_)))
  refine wz (aJ (j := 6) underlying82 bi rfl rfl (by omega) (by omega) rfl) ?_
  refine wz (aE underlying81 rfl rfl (ld (aV hb3 (d := 0#32) (by first | (simp; done) | (simp; omega) | omega)))) ?_
  refine wz (aJ (j := 4) underlying82 bi rfl rfl (by omega) (by omega) rfl) ?_
  refine wz (aE underlying81 rfl rfl (ld (aV hb3 (d := 0#32) (by first | (simp; done) | (simp; omega) | omega)))) ?_
  refine wz (aJ (j := 5) underlying82 bi rfl rfl (by omega) (by omega) rfl) ?_
  refine wz (aE underlying81 rfl rfl (ld (aV hb3 (d := 0#32) (by first | (simp; done) | (simp; omega) | omega)))) ?_
  refine wz (aJ (j := 6) underlying82 bi rfl rfl (by omega) (by omega) rfl) ?_
  refine wz (aE underlying81 rfl rfl (ld (aV hb3 (d := 0#32) (by first | (simp; done) | (simp; omega) | omega)))) ?_
  refine wz (bv rfl rfl) ?_
  refine wz (dB rfl rfl) ?_
  refine wz (bv rfl rfl) ?_
  refine was ?_
  refine ac (ae (ab (aa ?_)))
  refine wz (aJ (j := 0) underlying82 bi rfl rfl (by omega) (by omega) rfl) ?_
  refine wz (aE underlying81 rfl rfl (ld (aV hb3 (d := 0#32) (by first | (simp; done) | (simp; omega) | omega)))) ?_
  refine wz (aJ (j := 1) underlying82 bi rfl rfl (by omega) (by omega) rfl) ?_
  refine wz (aE underlying81 rfl rfl (ld (aV hb3 (d := 0#32) (by first | (simp; done) | (simp; omega) | omega)))) ?_
  refine wz (dB rfl rfl) ?_
  refine wz (aJ (j := 2) underlying82 bi rfl rfl (by omega) (by omega) rfl) ?_
  refine wz (aE underlying81 rfl rfl (ld (aV hb3 (d := 0#32) (by first | (simp; done) | (simp; omega) | omega)))) ?_
  refine wz (aJ (j := 0) underlying82 bi rfl rfl (by omega) (by omega) rfl) ?_
  refine wz (aE underlying81 rfl rfl (ld (aV hb3 (d := 0#32) (by first | (simp; done) | (simp; omega) | omega)))) ?_
  refine wz (aJ (j := 1) underlying82 bi rfl rfl (by omega) (by omega) rfl) ?_
  refine wz (aE underlying81 rfl rfl (ld (aV hb3 (d := 0#32) (by first | (simp; done) | (simp; omega) | omega)))) ?_
  refine wz (dN rfl rfl) ?_
  refine wz (dB rfl rfl) ?_
  refine wz (dN rfl rfl) ?_
  refine was ?_
  refine ac (ae (ab ?_))
  refine dc (.q 0 [0, 1, 0, 0, 0, 0, 0, 0, 1, 0, 0, 0, 1, 0, 0] .nil) 15 (by kernel_rfl) (by kernel_rfl) (by kernel_rfl) (by repeat (first | with_reducible exact cQ | with_reducible apply cP | with_reducible apply em)) (fun x => Ch No w20.drew x) (Ch.refl _ _) ?_
  obtain ⟨w30, ew30⟩ : ∃ x, x = w20.drew := ⟨_, rfl⟩
  rw [← ew30]
  have hc : Ch No w20 w30 := by rw [ew30]; exact Ch.drew _
  have hszw30 : w30.heap.size = w20.heap.size := by rw [ew30]; rfl
  clear ew30
  have hzw30 := hc.size
  have HC := HC.tr hc
  have hs := hs.ch hc (fun h => h)
  have hb2 := hb2.no hc
  have hb3 := hb3.no hc
  have hrnd := hrnd.no hc
  have hS : Ch No w30 w30 := Ch.refl _ _
  refine ws1 rfl (aJ (j := 7) underlying82 bi rfl rfl (by omega) (by omega) rfl) ?_
  refine ws2 rfl (aE underlying81 rfl rfl (fun _ h => h.cell (fun h => h) (aV hb3 (d := 0#32) (by first | (simp; done) | (simp; omega) | omega)))) ?_
  refine wsm ?_
  refine ws1 rfl (br rfl rfl) ?_
  refine wsm ?_
  refine ws1 rfl (br rfl rfl) ?_
  refine wsm ?_
  obtain ⟨b32, o32, hA32, hF32, hc32⟩ := (hrnd).opn (d := 0#32) (by omega)
  cases hA32
  refine ws1 rfl (fM underlying172 bi rfl rfl (by omega) (by omega) (Int.toNat_natCast _)) ?_
  refine ws2 rfl (aE underlying81 rfl rfl (fun _ h => h.cell (fun h => h) (hc32 _ (by omega)))) ?_
  refine ws1 rfl (br rfl rfl) ?_
  refine wsm ?_
  refine ws1 rfl (aJ underlying172 bi rfl rfl (by omega) (by omega) (Int.toNat_natCast _)) ?_
  refine ws2 rfl (aE underlying81 rfl rfl (fun _ h => h.cell (fun h => h) (aV hb2 (d := 0#32) (by first | (simp; done) | (simp; omega) | omega)))) ?_
  refine ws1 rfl (br rfl rfl) ?_
  refine wsa ?_
  refine aW (ae (aa ?_))
  iterate 2 refine wmv ?_
  refine wz (br rfl rfl) ?_
  refine wmv ?_
  refine wz (br rfl rfl) ?_
  refine wz (aJ (j := 0) underlying82 bi rfl rfl (by omega) (by omega) rfl) ?_
  refine wz (aE underlying81 rfl rfl (ld (aV hb3 (d := 0#32) (by first | (simp; done) | (simp; omega) | omega)))) ?_
  refine wz (aJ (j := 1) underlying82 bi rfl rfl (by omega) (by omega) rfl) ?_
  refine wz (aE underlying81 rfl rfl (ld (aV hb3 (d := 0#32) (by first | (simp; done) | (simp; omega) | omega)))) ?_
  refine wz (aJ (j := 2) underlying82 bi rfl rfl (by omega) (by omega) rfl) ?_
  refine wz (aE underlying81 rfl rfl (ld (aV hb3 (d := 0#32) (by first | (simp; done) | (simp; omega) | omega)))) ?_
  refine wz (aJ (j := 3) underlying82 bi rfl rfl (by omega) (by omega) rfl) ?_
  refine wz (aE underlying81 rfl rfl (ld (aV hb3 (d := 0#32) (by first | (simp; done) | (simp; omega) | omega)))) ?_
  refine wmv ?_
  refine wz (br rfl rfl) ?_
  refine wz (aJ (j := 4) underlying82 bi rfl rfl (by omega) (by omega) rfl) ?_
  refine wz (aE underlying81 rfl rfl (ld (aV hb3 (d := 0#32) (by first | (simp; done) | (simp; omega) | omega)))) ?_
  refine wz (aJ (j := 5) underlying82 bi rfl rfl (by omega) (by omega) rfl) ?_
  refine wz (aE underlying81 rfl rfl (ld (aV hb3 (d := 0#32) (by first | (simp; done) | (simp; omega) | omega)))) ?_
  refine wz (aJ (j := 6) underlying82 bi rfl rfl (by omega) (by omega) rfl) ?_
  refine wz (aE underlying81 rfl rfl (ld (aV hb3 (d := 0#32) (by first | (simp; done) | (simp; omega) | omega)))) ?_
  refine wz (kL rfl (fun _ => by kernel_rfl)) ?_
  refine wle rfl (cV (vs := _) (by first | rfl | exact szL tH (by rw [List.length_map]; exact hh)) (by first | exact cO rfl | exact dZ bK _) rfl rfl hb3 (by first | (simp [hh]; done) | (simp [hvl]; done)) (fun w41 hb3 hc hsz => ?_))
  have hzw41 := hc.size
  have HC := HC.n hc
  have hs := hs.ch hc (by omega)
  have hb2 := hb2.cc hc
  first | have hrnd := hrnd.cc hc | have hrnd := hrnd.cT hc
  refine ac (ak (ae (aa ?_)))
  refine wz (aF rfl rfl (w64 (by omega))) ?_
  refine wmv ?_
  refine ac ?_
  refine xrn ⟨t + 1, rfl, rfl, by omega, hs, hb2, hb3, hrnd, HC⟩

set_option maxHeartbeats 4000000 in
theorem gN {w : World} {Ab : Option Addr} {lb cb : Nat} {Fb : Nat → Prop} {b : List UInt8} {g : Nat} {m : List UInt8} {h : List W32} {rest : List UInt8} {made : Bool} (hs : Blk w g 252 (stt h rest m.length made)) (hrep : Rep m h rest) (hb : Sl w Fb u8v Ab lb cb b) (hFb : ∀ k, Fb k → k ≠ g) (hg1 : g ≠ 0) (hl : m.length + lb ≤ 4398046511104) (hrnd : Sl w (fun k => k = 0) aO (some ⟨0, 0, none⟩) 64 64 rk) :
    Calls Tryz.prog 159 #[.pointer (some ⟨g, 0, none⟩), .slice Ab lb cb] w fun e w' => e = .returned (.tuple #[]) ∧ Ch (fun k => k = g) w w' ∧ ∃ h' r', Blk w' g 252 (stt h' r' (m ++ b).length made) ∧ Rep (m ++ b) h' r' := by
  have hbl := hb.len
  have hn1 : 0 < w.heap.size := hrnd.size (by omega) rfl
  have hb1 : Sl w (fun k => k < w.heap.size ∧ k ≠ g) u8v Ab lb cb b := hb.mono (fun k h1 h2 => ⟨h1, hFb k h2⟩)
  have HC : Ch (fun k => k = g) w w := Ch.refl _ _
  refine aH (args := [.pointer (some ⟨g, 0, none⟩), .slice Ab lb cb]) (n := 38) Tryz.func159 rfl rfl rfl ?_
  refine ap ?_
  refine wcl (fun mz ez uz => ∃ j : Nat, ∃ A1 : Option Addr, ∃ kc : Nat, mz = lb - j ∧ ez = [(0, .pointer (some ⟨g, 0, none⟩)), (1, .slice A1 (lb - j) kc)] ∧ (j ≤ lb) ∧ (∃ h1 r1, Blk uz g 252 (stt h1 r1 (m.length + j) made) ∧ Rep (m ++ b.take j) h1 r1) ∧ (Sl uz (fun k => k < w.heap.size ∧ k ≠ g) u8v A1 (lb - j) kc (b.drop j)) ∧ (Sl uz (fun k => k = 0) aO (some ⟨0, 0, none⟩) 64 64 rk) ∧ (Ch (fun k => k = g) w uz))
   ⟨0, Ab, cb, rfl, rfl, by omega, ⟨h, rest, hs, by simpa using hrep⟩, by simpa using hb1, hrnd, HC⟩ ?_
  rintro m0 e w1 ⟨j, A1, kc, hm0, rfl, hj, hst, hb1, hrnd, HC⟩
  have hzw1 := HC.size
  obtain ⟨h1, r1, hs, hrep⟩ := hst
  have hh := hrep.hlen
  have hr := hrep.len
  have hml : (m ++ b.take j).length = m.length + j := by rw [List.length_append, List.length_take]; omega
  have hcl : ((b.drop j).take (min (lb - j) (64 - (m.length + j) % 64))).length = min (lb - j) (64 - (m.length + j) % 64) := by rw [List.length_take, List.length_drop]; omega
  refine ab (ab (aa ?_))
  refine wmv ?_
  refine wz (aw underlying38 rfl) ?_
  refine wz (bM rfl rfl) ?_
  refine ac (ae ?_)
  refine aA rfl (fun c0 => ?_) (fun c0 => ?_)
  rotate_left
  ·
   have c0 := of_decide_eq_false c0
   have hjl : j = lb := by omega
   rw [List.take_of_length_le (by omega)] at hrep
   rw [hjl, ← hbl, ← List.length_append] at hs
   refine aI (ah (ah (av ?_)))
   refine dT ((qo rfl)) ?_
   exact ⟨rfl, HC, _, _, hs, hrep⟩
  have c0 := of_decide_eq_true c0
  refine al (ae (ap (ab ?_)))
  refine dc (.q 0 [0, 0, 0, 0, 0, 0, 1, 0, 0, 0, 2, 0] .nil) 12 (by kernel_rfl) (by kernel_rfl) (by kernel_rfl) (by repeat (first | with_reducible exact cQ | with_reducible apply cP | with_reducible apply em)) (fun x => x.cell? ⟨g, 72, none⟩ = some (i64 ((m.length + j : Nat) : Int))) (((hs.ch (Ch.drew _) (fun h => h)).cell (ke hh hr))) ?_
  obtain ⟨w2, ew2⟩ : ∃ x, x = w1.drew := ⟨_, rfl⟩
  rw [← ew2]
  have hc : Ch No w1 w2 := by rw [ew2]; exact Ch.drew _
  have hszw2 : w2.heap.size = w1.heap.size := by rw [ew2]; rfl
  clear ew2
  have hzw2 := hc.size
  have HC := HC.tr hc
  have hb1 := hb1.no hc
  have hrnd := hrnd.no hc
  have hs := hs.ch hc (fun h => h)
  have hS : Ch No w2 w2 := Ch.refl _ _
  refine wsm ?_
  refine ws1 rfl (dD rfl) ?_
  refine ws1 rfl (dE underlying252 rfl ⟨_, by rfl⟩ rfl rfl) ?_
  refine wsm ?_
  refine ws1 rfl (dD rfl) ?_
  refine ws1 rfl (dE underlying252 rfl ⟨_, by rfl⟩ rfl rfl) ?_
  refine ws2 rfl (aE underlying3 rfl rfl (fun _ hx => hx)) ?_
  refine ws1 rfl (l6 (Z := (((m.length + j) % 64 : Nat) : Int)) rfl rfl (by omega) rfl) ?_
  refine ws1 rfl (p_slA2 (o := 8) (l := (m.length + j) % 64) underlying250 sz5 rfl ⟨_, rfl⟩ (by omega)) ?_
  refine wsm ?_
  refine ax rfl rfl (sQ rfl underlying38 sz5 rfl rfl hs hh hr hb1 (by omega) (fun w3 hs hc hsz => ⟨hs.cell (ke hh (iR hr (by omega))), ?_⟩))
  have hzw3 := hc.size
  have HC := HC.trans hc (fun _ _ h => h) (fun k hk ht => ht)
  first | have hb1 := hb1.cc hc | have hb1 := hb1.cT hc
  first | have hrnd := hrnd.cc hc | have hrnd := hrnd.cT hc
  have hr0 := hr
  have hr := iR (c := ((b.drop j).take (min (lb - j) (64 - (m.length + j) % 64)))) (r := (m.length + j) % 64) hr (by omega)
  refine wsa ?_
  refine aW (ae (ab (aa ?_)))
  iterate 2 refine wmv ?_
  have hS21 : Sl w3 (fun k => k < w.heap.size ∧ k ≠ g) u8v (cN A1 kc (min (lb - j) (64 - (m.length + j) % 64)) 1) (lb - (j + min (lb - j) (64 - (m.length + j) % 64))) (kc - min (lb - j) (64 - (m.length + j) % 64)) (b.drop (j + min (lb - j) (64 - (m.length + j) % 64))) := by have := hb1.cutTo (lo := min (lb - j) (64 - (m.length + j) % 64)) (by omega); rw [List.drop_drop, show lb - j - min (lb - j) (64 - (m.length + j) % 64) = lb - (j + min (lb - j) (64 - (m.length + j) % 64)) by omega] at this; exact this
  refine wz (dX (l := min (lb - j) (64 - (m.length + j) % 64)) (h := lb - j) underlying38 sz5 rfl ⟨_, rfl⟩ rfl (by omega) (by have := hb1.cap; omega) hb1.cap (q := lb - (j + min (lb - j) (64 - (m.length + j) % 64))) (by omega)) ?_
  refine was ?_
  refine ac (ae (ab (aa ?_)))
  refine wmv ?_
  refine wz (dD rfl) ?_
  refine wz (dE underlying252 rfl ⟨_, by rfl⟩ rfl rfl) ?_
  refine wz (aE underlying3 rfl rfl (ld (hs.cell (ke hh hr)))) ?_
  refine wmv ?_
  refine wz (aF (Z := ((m.length + (j + min (lb - j) (64 - (m.length + j) % 64)) : Nat) : Int)) rfl rfl (by rw [w64 (by omega)]; omega)) ?_
  refine wz (dD rfl) ?_
  refine wz (dE underlying252 rfl ⟨_, by rfl⟩ rfl rfl) ?_
  refine wle rfl (e_stSn (m' := m.length + (j + min (lb - j) (64 - (m.length + j) % 64))) (by rfl) rfl rfl hs hh hr (fun w4 hs hc hsz => ?_))
  have hzw4 := hc.size
  have HC := HC.trans hc (fun _ _ h => h) (fun k hk ht => ht)
  first | have hrnd := hrnd.cc hc | have hrnd := hrnd.cT hc
  first | have hS21 := hS21.cc hc | have hS21 := hS21.cT hc
  refine ac (ae (ab (aa ?_)))
  refine wmv ?_
  refine wz (dD rfl) ?_
  refine wz (dE underlying252 rfl ⟨_, by rfl⟩ rfl rfl) ?_
  refine wz (aE underlying3 rfl rfl (ld (hs.cell (ke hh hr)))) ?_
  refine wz (l6 (Z := (((m.length + (j + min (lb - j) (64 - (m.length + j) % 64))) % 64 : Nat) : Int)) rfl rfl (by omega) rfl) ?_
  refine wz (gS rfl rfl) ?_
  refine ac (ae ?_)
  refine aA rfl (fun c1 => ?_) (fun c1 => ?_)
  ·
   have c1 := of_decide_eq_true c1
   have hrep2 := hrep.full (c := ((b.drop j).take (min (lb - j) (64 - (m.length + j) % 64)))) (by rw [hml, hcl]; omega)
   rw [hml, List.append_assoc, ← List.take_add] at hrep2
   refine aa ?_
   refine wmv ?_
   refine wle rfl (ai ent214 rfl rfl (q7 hs hh hr hrnd) ?_)
   rintro _ w5 ⟨rfl, hc, hs⟩
   refine ⟨_, rfl, ?_⟩
   have hzw5 := hc.size
   have HC := HC.trans hc (fun _ _ h => h) (fun k hk ht => ht)
   first | have hrnd := hrnd.cc hc | have hrnd := hrnd.cT hc
   first | have hS21 := hS21.cc hc | have hS21 := hS21.cT hc
   refine ac (ak ?_)
   refine xrn ⟨j + min (lb - j) (64 - (m.length + j) % 64), cN A1 kc (min (lb - j) (64 - (m.length + j) % 64)) 1, kc - min (lb - j) (64 - (m.length + j) % 64), rfl, rfl, by omega, ⟨_, _, hs, hrep2⟩, hS21, hrnd, HC⟩
  have c1 := of_decide_eq_false c1
  have hrep2 := hrep.more (c := ((b.drop j).take (min (lb - j) (64 - (m.length + j) % 64)))) (by rw [hml, hcl]; omega)
  rw [hml, List.append_assoc, ← List.take_add] at hrep2
  refine al (ak ?_)
  refine xrn ⟨j + min (lb - j) (64 - (m.length + j) % 64), cN A1 kc (min (lb - j) (64 - (m.length + j) % 64)) 1, kc - min (lb - j) (64 - (m.length + j) % 64), rfl, rfl, by omega, ⟨_, _, hs, hrep2⟩, hS21, hrnd, HC⟩

theorem q8 {w : World}   :
  Calls Tryz.prog 158 #[] w fun e w' => e = .returned (.agg (stt iv (List.replicate 64 0) 0 true).toList.toArray) ∧ Ch No w w' := by
 have HC : Ch No w w := Ch.refl _ _
 refine aH (args := []) (n := 3) Tryz.func158 rfl rfl rfl ?_
 refine ab (aa ?_)
 refine wle rfl (bz (cs := #[.int .u32 0, .int .u32 0, .int .u32 0, .int .u32 0, .int .u32 0, .int .u32 0, .int .u32 0, .int .u32 0, .int .u8 0, .int .u8 0, .int .u8 0, .int .u8 0, .int .u8 0, .int .u8 0, .int .u8 0, .int .u8 0, .int .u8 0, .int .u8 0, .int .u8 0, .int .u8 0, .int .u8 0, .int .u8 0, .int .u8 0, .int .u8 0, .int .u8 0, .int .u8 0, .int .u8 0, .int .u8 0, .int .u8 0, .int .u8 0, .int .u8 0, .int .u8 0, .int .u8 0, .int .u8 0, .int .u8 0, .int .u8 0, .int .u8 0, .int .u8 0, .int .u8 0, .int .u8 0, .int .u8 0, .int .u8 0, .int .u8 0, .int .u8 0, .int .u8 0, .int .u8 0, .int .u8 0, .int .u8 0, .int .u8 0, .int .u8 0, .int .u8 0, .int .u8 0, .int .u8 0, .int .u8 0, .int .u8 0, .int .u8 0, .int .u8 0, .int .u8 0, .int .u8 0, .int .u8 0, .int .u8 0, .int .u8 0, .int .u8 0, .int .u8 0, .int .u8 0, .int .u8 0, .int .u8 0, .int .u8 0, .int .u8 0, .int .u8 0, .int .u8 0, .int .u8 0, .int .i64 0, .bool false]) rfl (by rfl) (by rfl) (fun w1 g0 hg0 hb0 hc hsz0 => ?_))
 have hzw1 := hc.size
 have HC := HC.tr hc
 have hge0 : w.heap.size ≤ g0 := by have := HC.size; omega
 refine ac (ae (ab (aa ?_)))
 refine wz (kL rfl (fun _ => by kernel_rfl)) ?_
 refine wz (bI (cs := (stt iv (List.replicate 64 0) 0 true).toList.toArray) rfl (fun _ => by kernel_rfl)) ?_
 refine wle rfl (cV (vs := _) (by kernel_rfl) (cO (by kernel_rfl)) rfl rfl hb0 (by kernel_rfl) (fun w2 hb0 hc hsz => ?_))
 have hzw2 := hc.size
 have HC := HC.n hc
 refine ac (ae (ao ?_))
 refine aj (fN rfl rfl underlying252 rfl (by kernel_rfl) (aN hb0)) ?_
 exact ⟨rfl, HC⟩

set_option maxHeartbeats 4000000 in
theorem tp {w : World} {m : List UInt8} {h : List W32} {rest : List UInt8} {made : Bool} (hrep : Rep m h rest) (hl : m.length ≤ 1099511627776) (hrnd : Sl w (fun k => k = 0) aO (some ⟨0, 0, none⟩) 64 64 rk) :
    Calls Tryz.prog 160 #[.agg (stt h rest m.length made)] w fun e w' => e = .returned (.agg ((shaF m).map u8v).toArray) ∧ Ch No w w' := by
  have hn1 : 0 < w.heap.size := hrnd.size (by omega) rfl
  have hh := hrep.hlen
  have hr := hrep.len
  have hnz : nz m.length < 64 := by unfold nz; omega
  have HC : Ch No w w := Ch.refl _ _
  refine aH (args := [.agg (stt h rest m.length made)]) (n := 64) Tryz.func160 rfl rfl rfl ?_
  refine ab (aa ?_)
  refine wle rfl (bg rfl rfl rfl (fun w1 g1 hg1 hb1 hc hsz1 => ?_))
  have hzw1 := hc.size
  have HC := HC.tr hc
  have hrnd := hrnd.no hc
  have hge1 : w.heap.size ≤ g1 := by have := HC.size; omega
  have hs := hb1
  have hltg1 := hs.lt
  refine wle rfl (ea3 (fun w2 g2 hg2 hb2 hc hsz2 => ?_))
  have hzw2 := hc.size
  have HC := HC.tr hc
  have hrnd := hrnd.no hc
  have hs := hs.ch hc (fun h => h)
  have hge2 : w.heap.size ≤ g2 := by have := HC.size; omega
  refine ac (ae (ab (aa ?_)))
  refine wz (dE underlying252 rfl ⟨_, by rfl⟩ rfl rfl) ?_
  refine wz (aE underlying3 rfl rfl (ld (hs.cell (ke hh hr)))) ?_
  refine wz (bB underlying3 underlying102 rfl (eR (by omega))) ?_
  refine wz (oN (Z := ((8 * m.length : Nat) : Int)) rfl rfl (by omega) (shl3 (by omega))) ?_
  refine was ?_
  refine ac (ae (ab (aa ?_)))
  have hltg1 := hs.lt
  have hltg2 := hb2.lt
  refine wle rfl (aT (E := 5) rfl rfl (fun _ => by kernel_rfl) (fun w3 g12 hg12 hb12 hc hsz12 => ?_))
  have hzw3 := hc.size
  have HC := HC.tr hc
  have hrnd := hrnd.no hc
  have hs := hs.ch hc (fun h => h)
  have hb2 := hb2.no hc
  have hge12 : w.heap.size ≤ g12 := by have := HC.size; omega
  have hS12 := Sl.lit1 (f := u8v) (x := 128) hb12
  refine wle rfl (ai kI rfl rfl (gN hs hrep (hS12) (by intro k hk; first | omega | (dsimp only at *; omega)) (by omega) (by first | omega | (simp only [List.length_nil]; omega)) hrnd) ?_)
  rintro _ w4 ⟨rfl, hc, h13, r13, hs, hrep⟩
  refine ⟨_, rfl, ?_⟩
  have hzw4 := hc.size
  have HC := HC.n hc
  first | have hrnd := hrnd.cc hc | have hrnd := hrnd.cT hc
  have hb2 := hb2.cc hc
  rw [pz_zero] at hs hrep
  refine ac (ae (ab (ap ?_)))
  refine wcl (fun mz ez uz => ∃ j : Nat, mz = nz m.length - j ∧ ez = [(1, .pointer (some ⟨g1, 0, none⟩)), (2, .pointer (some ⟨g2, 0, none⟩)), (3, dM (8 * m.length))] ∧ (j ≤ nz m.length) ∧ (∃ h1 r1, Blk uz g1 252 (stt h1 r1 (pz m j).length made) ∧ Rep (pz m j) h1 r1) ∧ (Blk uz g2 34 ((List.replicate 32 (0 : UInt8)).map u8v).toArray) ∧ (Sl uz (fun k => k = 0) aO (some ⟨0, 0, none⟩) 64 64 rk) ∧ (Ch No w uz))
   ⟨0, rfl, rfl, by omega, ⟨_, _, hs, hrep⟩, hb2, hrnd, HC⟩ ?_
  rintro m0 e w5 ⟨j, hm0, rfl, hj, hst, hb2, hrnd, HC⟩
  have hzw5 := HC.size
  obtain ⟨h1, r1, hs, hrep⟩ := hst
  have hh := hrep.hlen
  have hr := hrep.len
  have hpl := k7 (m := m) (j := j)
  refine ab (ab (aa ?_))
  refine wz (dE underlying252 rfl ⟨_, by rfl⟩ rfl rfl) ?_
  refine wz (aE underlying3 rfl rfl (ld (hs.cell (ke hh hr)))) ?_
  refine wz (l6 (Z := (((pz m j).length % 64 : Nat) : Int)) rfl rfl (by omega) rfl) ?_
  refine wz (jQ rfl rfl) ?_
  refine ac (ae ?_)
  refine aA rfl (fun c0 => ?_) (fun c0 => ?_)
  ·
   have c0 := of_decide_eq_true c0
   have hjn : j < nz m.length := nz_on hj (fun e => c0 (by rw [hpl, e]; rfl))
   refine al (ae (ap (aa ?_)))
   have hltg2 := hb2.lt
   have hltg1 := hs.lt
   refine wle rfl (aT (E := 5) rfl rfl (fun _ => by kernel_rfl) (fun w6 g18 hg18 hb18 hc hsz18 => ?_))
   have hzw6 := hc.size
   have HC := HC.tr hc
   have hb2 := hb2.no hc
   have hrnd := hrnd.no hc
   have hs := hs.ch hc (fun h => h)
   have hge18 : w.heap.size ≤ g18 := by have := HC.size; omega
   have hS18 := Sl.lit1 (f := u8v) (x := 0) hb18
   refine wle rfl (ai kI rfl rfl (gN hs hrep (hS18) (by intro k hk; first | omega | (dsimp only at *; omega)) (by omega) (by first | omega | (simp only [List.length_nil]; omega)) hrnd) ?_)
   rintro _ w7 ⟨rfl, hc, h19, r19, hs, hrep⟩
   refine ⟨_, rfl, ?_⟩
   have hzw7 := hc.size
   have HC := HC.n hc
   have hb2 := hb2.cc hc
   first | have hrnd := hrnd.cc hc | have hrnd := hrnd.cT hc
   rw [pc] at hs hrep
   refine ac (ak ?_)
   refine xrn ⟨j + 1, rfl, rfl, by omega, ⟨_, _, hs, hrep⟩, hb2, hrnd, HC⟩
  have c0 := of_decide_eq_false c0
  have hjn : j = nz m.length := pb hj (by rw [hpl] at c0; omega)
  subst hjn
  rw [pd] at hs hrep
  refine aI (ah (ah (av (ae (ab (ab (aa ?_)))))))
  refine was ?_
  refine ac (ae (ap ?_))
  refine wcl (fun mz ez uz => ∃ k : Nat, mz = 8 - k ∧ ez = [(1, .pointer (some ⟨g1, 0, none⟩)), (2, .pointer (some ⟨g2, 0, none⟩)), (3, dM (8 * m.length)), (4, i64 (56 - 8 * (k : Int)))] ∧ (k ≤ 8) ∧ (∃ h1 r1, Blk uz g1 252 (stt h1 r1 (pq m k).length made) ∧ Rep (pq m k) h1 r1) ∧ (Blk uz g2 34 ((List.replicate 32 (0 : UInt8)).map u8v).toArray) ∧ (Sl uz (fun k => k = 0) aO (some ⟨0, 0, none⟩) 64 64 rk) ∧ (Ch No w uz))
   ⟨0, rfl, rfl, by omega, ⟨_, _, hs, hrep⟩, hb2, hrnd, HC⟩ ?_
  rintro m1 e w8 ⟨k, hm1, rfl, hk, hst, hb2, hrnd, HC⟩
  have hzw8 := HC.size
  obtain ⟨h1, r1, hs, hrep⟩ := hst
  have hh := hrep.hlen
  have hr := hrep.len
  have hpl := pq_len (m := m) (k := k) hk
  refine ab (ab (aa ?_))
  refine wmv ?_
  refine wz (gR rfl rfl) ?_
  refine ac (ae ?_)
  refine aA rfl (fun c1 => ?_) (fun c1 => ?_)
  ·
   have c1 := of_decide_eq_true c1
   refine al (ae (ab (ap (aa ?_))))
   refine wmv ?_
   refine wz (aS (v := i64 ((56 - 8 * k : Nat) : Int)) (show some (i64 (56 - 8 * (k : Int))) = some (i64 ((56 - 8 * k : Nat) : Int)) from congrArg some (congrArg i64 (by omega)))) ?_
   refine wz (eV (Y := 56 - 8 * k) rfl rfl (Nat.ble_eq_true_of_le (show 56 - 8 * k ≤ 64 by omega))) ?_
   refine wz (bZ underlying102 underlying5 rfl) ?_
   have hltg2 := hb2.lt
   have hltg1 := hs.lt
   refine wle rfl (aT (E := 5) rfl rfl (fun _ => by kernel_rfl) (fun w9 g28 hg28 hb28 hc hsz28 => ?_))
   have hzw9 := hc.size
   have HC := HC.tr hc
   have hb2 := hb2.no hc
   have hrnd := hrnd.no hc
   have hs := hs.ch hc (fun h => h)
   have hge28 : w.heap.size ≤ g28 := by have := HC.size; omega
   have hS28 := Sl.lit1 (f := u8v) hb28
   refine wle rfl (ai kI rfl rfl (gN hs hrep (hS28) (by intro k hk; first | omega | (dsimp only at *; omega)) (by omega) (by first | omega | (simp only [List.length_nil]; omega)) hrnd) ?_)
   rintro _ w10 ⟨rfl, hc, h29, r29, hs, hrep⟩
   refine ⟨_, rfl, ?_⟩
   have hzw10 := hc.size
   have HC := HC.n hc
   have hb2 := hb2.cc hc
   first | have hrnd := hrnd.cc hc | have hrnd := hrnd.cT hc
   rw [pf (by omega)] at hs hrep
   refine ac (ak (ae (aa ?_)))
   refine wmv ?_
   refine wz (aZ rfl rfl (w64 (by omega))) ?_
   refine was ?_
   refine ac ?_
   refine bG (e' := [(1, .pointer (some ⟨g1, 0, none⟩)), (2, .pointer (some ⟨g2, 0, none⟩)), (3, dM (8 * m.length)), (4, i64 (56 - 8 * ((k + 1) : Int)))]) ⟨rfl, rfl, rfl, (congrArg some (congrArg i64 (by omega))), trivial⟩ (by rw [hm1]; omega) ⟨k + 1, rfl, rfl, by omega, ⟨_, _, hs, hrep⟩, hb2, hrnd, HC⟩
  have c1 := of_decide_eq_false c1
  obtain rfl : k = 8 := by omega
  rw [sA] at hs hrep
  refine aI (ah (ah (av (ae (ab (aa ?_))))))
  have hltg2 := hb2.lt
  have hltg1 := hs.lt
  refine wle rfl (ea3 (fun w11 g5 hg5 hb5 hc hsz5 => ?_))
  have hzw11 := hc.size
  have HC := HC.tr hc
  have hb2 := hb2.no hc
  have hs := hs.ch hc (fun h => h)
  have hge5 : w.heap.size ≤ g5 := by have := HC.size; omega
  refine ac (ae (ab (ab (aa ?_))))
  refine wz (dE underlying252 rfl ⟨_, by rfl⟩ rfl rfl) ?_
  refine wz (pla underlying82 tH (pB hs hh)) ?_
  refine wmv ?_
  refine ac (ae (ap ?_))
  refine wcl (fun mz ez uz => ∃ i : Nat, mz = 8 - i ∧ ez = [(2, .pointer (some ⟨g2, 0, none⟩)), (5, .pointer (some ⟨g5, 0, none⟩)), (31, .agg (h1.map aO).toArray), (32, i64 (i : Int))] ∧ (i ≤ 8) ∧ (h1.length = 8) ∧ (Blk uz g5 34 ((ju h1 i).map u8v).toArray) ∧ (Blk uz g2 34 ((List.replicate 32 (0 : UInt8)).map u8v).toArray) ∧ (Ch No w uz))
   ⟨0, rfl, rfl, by omega, hh, by rw [j6]; exact hb5, hb2, HC⟩ ?_
  rintro m2 e w12 ⟨i, hm2, rfl, hi, hh, hb5, hb2, HC⟩
  have hzw12 := HC.size
  have hol2 := my hh hi
  refine ab (aa ?_)
  refine wz (aU rfl rfl) ?_
  refine ac (ae (ab ?_))
  refine aA rfl (fun c2 => ?_) (fun c2 => ?_)
  rotate_left
  ·
   have c2 := of_decide_eq_false c2
   obtain rfl : i = 8 := by omega
   rw [mw hh] at hb5
   have hol : (jt h1).length = 32 := by rw [fb, hh]
   have hfin : jt h1 = shaF m := by rw [shaF, hrep.words]
   rw [hfin] at hb5 hol
   refine aI (ah (ah (av (ae (ab (aa ?_))))))
   refine wz (bE (cs := _) underlying34 rfl (szL au (by rw [List.length_map]; first | assumption | (simp; done) | (simp; omega) | omega)) rfl (fun _ e => e ▸ aN hb5)) ?_
   refine wle rfl (cV (vs := _) (szL au (by rw [List.length_map]; exact hol)) (dZ aX _) rfl rfl hb2 (by simp [hol]) (fun w21 hb2 hc hsz => ?_))
   have hzw21 := hc.size
   have HC := HC.n hc
   refine ac (ae (ao ?_))
   refine aj (fN rfl rfl underlying34 rfl (szL au (by rw [List.length_map]; exact aD m)) (aN hb2)) ?_
   exact ⟨rfl, HC⟩
  have c2 := of_decide_eq_true c2
  refine al (ae (ab (ap (ab (aa ?_)))))
  refine wmv ?_
  refine wz (p_ixG (f := aO) (d0 := 0#32) underlying82 underlying81 rfl bi rfl rfl (by omega) (by omega) (by first | (simp; done) | (simp; omega) | omega) (Int.toNat_natCast _)) ?_
  iterate 2 refine was ?_
  refine ac (ae (aa ?_))
  refine wmv ?_
  refine wz (cH (Z := ((4 * i : Nat) : Int)) rfl rfl (by rw [w64 (by omega)]; omega)) ?_
  refine wmv ?_
  refine wz (cH (Z := ((4 * i : Nat) : Int)) rfl rfl (by rw [w64 (by omega)]; omega)) ?_
  refine wz (aF (Z := ((4 * i + 1 : Nat) : Int)) rfl rfl (by rw [w64 (by omega)]; omega)) ?_
  refine wmv ?_
  refine wz (cH (Z := ((4 * i : Nat) : Int)) rfl rfl (by rw [w64 (by omega)]; omega)) ?_
  refine wz (aF (Z := ((4 * i + 2 : Nat) : Int)) rfl rfl (by rw [w64 (by omega)]; omega)) ?_
  refine wmv ?_
  refine wz (cH (Z := ((4 * i : Nat) : Int)) rfl rfl (by rw [w64 (by omega)]; omega)) ?_
  refine wz (aF (Z := ((4 * i + 3 : Nat) : Int)) rfl rfl (by rw [w64 (by omega)]; omega)) ?_
  refine wmv ?_
  refine wz (cB (Y := 24) rfl rfl) ?_
  refine wz (cJ underlying81 underlying5 rfl) ?_
  refine wmv ?_
  refine wz (cB (Y := 16) rfl rfl) ?_
  refine wz (cJ underlying81 underlying5 rfl) ?_
  refine wmv ?_
  refine wz (cB (Y := 8) rfl rfl) ?_
  refine wz (cJ underlying81 underlying5 rfl) ?_
  refine wmv ?_
  refine wz (cJ underlying81 underlying5 rfl) ?_
  refine wz (aJ underlying34 sz5 rfl rfl (by omega) (by omega) (Int.toNat_natCast _)) ?_
  refine wle rfl (dF aX (by rfl) rfl rfl hb5 (by first | (simp; done) | (simp; omega) | omega) (fun w14 hb5 hc hsz => ?_))
  have hzw14 := hc.size
  have HC := HC.n hc
  have hb2 := hb2.cc hc
  refine wz (aJ underlying34 sz5 rfl rfl (by omega) (by omega) (Int.toNat_natCast _)) ?_
  refine wle rfl (dF aX (by rfl) rfl rfl hb5 (by first | (simp; done) | (simp; omega) | omega) (fun w16 hb5 hc hsz => ?_))
  have hzw16 := hc.size
  have HC := HC.n hc
  have hb2 := hb2.cc hc
  refine wz (aJ underlying34 sz5 rfl rfl (by omega) (by omega) (Int.toNat_natCast _)) ?_
  refine wle rfl (dF aX (by rfl) rfl rfl hb5 (by first | (simp; done) | (simp; omega) | omega) (fun w18 hb5 hc hsz => ?_))
  have hzw18 := hc.size
  have HC := HC.n hc
  have hb2 := hb2.cc hc
  refine wz (aJ underlying34 sz5 rfl rfl (by omega) (by omega) (Int.toNat_natCast _)) ?_
  refine wle rfl (dF aX (by rfl) rfl rfl hb5 (by first | (simp; done) | (simp; omega) | omega) (fun w20 hb5 hc hsz => ?_))
  have hzw20 := hc.size
  have HC := HC.n hc
  have hb2 := hb2.cc hc
  refine ac (ak (ae (aa ?_)))
  refine wz (aF rfl rfl (w64 (by omega))) ?_
  refine wmv ?_
  refine ac ?_
  refine xrn ⟨i + 1, rfl, rfl, by omega, hh, by rw [← j7 hh (by omega)]; exact hb5, hb2, HC⟩

theorem lS {w : World} {Ab : Option Addr} {lb cb : Nat} {Fb : Nat → Prop} {b : List UInt8} (hb : Sl w Fb u8v Ab lb cb b) (hl : lb ≤ 1099511627776) (hrnd : Sl w (fun k => k = 0) aO (some ⟨0, 0, none⟩) 64 64 rk) :
  Calls Tryz.prog 91 #[.slice Ab lb cb] w fun e w' => e = .returned (.agg ((shaF b).map u8v).toArray) ∧ Ch No w w' := by
 have hbl := hb.len
 have hn1 : 0 < w.heap.size := hrnd.size (by omega) rfl
 have hb := hb.old
 have HC : Ch No w w := Ch.refl _ _
 refine aH (args := [.slice Ab lb cb]) (n := 9) Tryz.func91 rfl rfl rfl ?_
 refine ab (aa ?_)
 refine wle rfl (ea3 (fun w1 g2 hg2 hb2 hc hsz2 => ?_))
 have hzw1 := hc.size
 have HC := HC.tr hc
 have hb := hb.no hc
 have hrnd := hrnd.no hc
 have hge2 : w.heap.size ≤ g2 := by have := HC.size; omega
 refine ac (ae (ab (aa ?_)))
 refine wle rfl (ai ent158 rfl rfl (q8) ?_)
 rintro _ w2 ⟨rfl, hc⟩
 refine ⟨_, rfl, ?_⟩
 have hzw2 := hc.size
 have HC := HC.tr hc
 have hb := hb.no hc
 have hrnd := hrnd.no hc
 have hb2 := hb2.no hc
 have hltg2 := hb2.lt
 refine wle rfl (bz (cs := #[.int .u32 0, .int .u32 0, .int .u32 0, .int .u32 0, .int .u32 0, .int .u32 0, .int .u32 0, .int .u32 0, .int .u8 0, .int .u8 0, .int .u8 0, .int .u8 0, .int .u8 0, .int .u8 0, .int .u8 0, .int .u8 0, .int .u8 0, .int .u8 0, .int .u8 0, .int .u8 0, .int .u8 0, .int .u8 0, .int .u8 0, .int .u8 0, .int .u8 0, .int .u8 0, .int .u8 0, .int .u8 0, .int .u8 0, .int .u8 0, .int .u8 0, .int .u8 0, .int .u8 0, .int .u8 0, .int .u8 0, .int .u8 0, .int .u8 0, .int .u8 0, .int .u8 0, .int .u8 0, .int .u8 0, .int .u8 0, .int .u8 0, .int .u8 0, .int .u8 0, .int .u8 0, .int .u8 0, .int .u8 0, .int .u8 0, .int .u8 0, .int .u8 0, .int .u8 0, .int .u8 0, .int .u8 0, .int .u8 0, .int .u8 0, .int .u8 0, .int .u8 0, .int .u8 0, .int .u8 0, .int .u8 0, .int .u8 0, .int .u8 0, .int .u8 0, .int .u8 0, .int .u8 0, .int .u8 0, .int .u8 0, .int .u8 0, .int .u8 0, .int .u8 0, .int .u8 0, .int .i64 0, .bool false]) rfl (by rfl) (by rfl) (fun w3 g3 hg3 hb3 hc hsz3 => ?_))
 have hzw3 := hc.size
 have HC := HC.tr hc
 have hb := hb.no hc
 have hrnd := hrnd.no hc
 have hb2 := hb2.no hc
 have hge3 : w.heap.size ≤ g3 := by have := HC.size; omega
 refine wle rfl (cV (vs := (stt iv (List.replicate 64 0) 0 true).toList) (by kernel_rfl) (cO (by kernel_rfl)) rfl rfl hb3 (by kernel_rfl) (fun w4 hb3 hc hsz => ?_))
 have hzw4 := hc.size
 have HC := HC.n hc
 first | have hb := hb.cc hc | have hb := hb.cT hc
 first | have hrnd := hrnd.cc hc | have hrnd := hrnd.cT hc
 have hb2 := hb2.cc hc
 have hs : Blk w4 g3 252 (stt iv (List.replicate 64 0) ([] : List UInt8).length true) := hb3
 have hrep := rep_nil
 refine ac (ae (ab (aa ?_)))
 refine wmv ?_
 refine wle rfl (ai kI rfl rfl (gN hs hrep (hb) (by intro k hk; first | omega | (dsimp only at *; omega)) (by omega) (by first | omega | (simp only [List.length_nil]; omega)) hrnd) ?_)
 rintro _ w5 ⟨rfl, hc, h6, r6, hs, hrep⟩
 refine ⟨_, rfl, ?_⟩
 have hzw5 := hc.size
 have HC := HC.n hc
 first | have hrnd := hrnd.cc hc | have hrnd := hrnd.cT hc
 have hb2 := hb2.cc hc
 rw [List.nil_append] at hs hrep
 have hh := hrep.hlen
 have hr := hrep.len
 refine ac (ae (ab (aa ?_)))
 refine wz (bE (cs := (stt h6 r6 b.length true).toList) underlying252 rfl (szL sz252 (by have := gG (n := b.length) (made := true) hh hr; rwa [← Array.length_toList] at this)) rfl (fun _ e => e ▸ stt_all hs)) ?_
 refine wle rfl (ai ent160 rfl rfl (tp hrep (by omega) hrnd) ?_)
 rintro _ w6 ⟨rfl, hc⟩
 refine ⟨_, rfl, ?_⟩
 have hzw6 := hc.size
 have HC := HC.tr hc
 have hb2 := hb2.no hc
 refine wle rfl (cV (vs := ((shaF b).map u8v)) (szL au (by rw [List.length_map]; exact aD b)) (dZ aX _) rfl rfl hb2 (by simp [aD]) (fun w7 hb2 hc hsz => ?_))
 have hzw7 := hc.size
 have HC := HC.n hc
 refine ac (ae (ao ?_))
 refine aj (fN rfl rfl underlying34 rfl (szL au (by rw [List.length_map]; exact aD b)) (aN hb2)) ?_
 exact ⟨rfl, HC⟩
end Go.Proofs.YtdencdfdikmgbaaGreatDoor
