/-
 Own text, printed by a program of mine (wip/gx): what functions of the program do, walked operation by operation.
-/
import Derived.Test.YtdencdfdikmgbaaGreatDoorWm2
import Derived.Test.YtdencdfdikmgbaaGreatDoorProg
import Derived.Test.YtdencdfdikmgbaaGreatDoorTab
import Derived.Test.YtdencdfdikmgbaaGreatDoorZS
import Derived.Test.YtdencdfdikmgbaaGreatDoorRxWk
import Derived.Test.YtdencdfdikmgbaaGreatDoorZg0
import Derived.Test.YtdencdfdikmgbaaGreatDoorZg1
import Derived.Test.YtdencdfdikmgbaaGreatDoorZg2
set_option linter.unusedVariables false
set_option linter.unusedSimpArgs false
set_option maxHeartbeats 1000000
set_option maxRecDepth 20000
namespace Go.Proofs.YtdencdfdikmgbaaGreatDoor
open Go.RowKit Go.Gx
open Go.Plain
open Tryz
theorem nv {w : World} {m n i : Int} {Aa : Option Addr} {la ca : Nat} {Fa : Nat → Prop} {a : List UInt8} {Ap : Option Addr} {lp cp : Nat} {Fp : Nat → Prop} {p : List (List UInt8)} {Ab : Option Addr} {lb cb : Nat} {Fb : Nat → Prop} {b : List UInt8} {Aq : Option Addr} {lq cq : Nat} {Fq : Nat → Prop} {q : List (List UInt8)} {Ag : Option Addr} {lg cg : Nat} {Fg : Nat → Prop} {g : List (List UInt8)}  (ha : Sl w Fa u8v Aa la ca a) (hla : la ≤ 100000000) (hp : SI w Fp eHs Ap lp cp p) (hlp : lp ≤ 1000) (hb : Sl w Fb u8v Ab lb cb b) (hlb : lb ≤ 100000000) (hq : SI w Fq eHs Aq lq cq q) (hlq : lq ≤ 1000) (hg : SI w Fg eHs Ag lg cg g) (hlg : lg ≤ 1000) (hrnd : Sl w (fun k => k = 0) aO (some ⟨0, 0, none⟩) 64 64 rk) :
    Calls Tryz.prog 14 #[i64 m, i64 n, i64 i, .agg ([.slice Aa la ca, .slice Ap lp cp] : List Value).toArray, .agg ([.slice Ab lb cb, .slice Aq lq cq] : List Value).toArray, .slice Ag lg cg] w fun e w' => ∃ (A : Option Addr) (l c : Nat) (B : Option Addr) (l' c' : Nat) (x y : List UInt8) (f : Bool), e = .returned (.tuple #[.slice A l c, .slice B l' c', .bool f]) ∧ Sl w' (fun k => k < w'.heap.size) u8v A l c x ∧ Sl w' (fun k => k < w'.heap.size) u8v B l' c' y ∧ l ≤ 1000000000 ∧ l' ≤ 1000000000 ∧ (f = true → x ≠ y ∧ shaF x = shaF y) ∧ (f = false → (1 ≤ m ∧ m ≤ 1099511627776 ∧ 0 ≤ i ∧ i < m ∧ p.length = (trn m.toNat i.toNat).length) → ((1 ≤ n ∧ n ≤ 1099511627776 ∧ 0 ≤ i ∧ i < n ∧ q.length = (trn n.toNat i.toNat).length)) → (1 ≤ m ∧ m ≤ n ∧ n ≤ 1099511627776 ∧ g.length = (gtr m.toNat n.toNat).length + (if gwh m.toNat n.toNat then 0 else 1)) → iG (fun f => f ∈ iH m.toNat i.toNat a p ++ fe m.toNat n.toNat (up2 (sd m.toNat i.toNat) p (cm a)) g ++ iH n.toNat i.toNat b q)) ∧ Ch No w w' := by
  have hn0 : 0 < w.heap.size := hrnd.size (by omega) rfl
  have hn1 := hn0
  have ha := ha.old
  have hp := hp.old
  have hb := hb.old
  have hq := hq.old
  have hg := hg.old
  have HC : Ch No w w := Ch.refl _ _
  refine aH (args := [_, _, _, _, _, _]) (n := 72) Tryz.func14 rfl rfl rfl ?_
  refine ab (aa ?_)
  refine wle rfl (bg (cs := ([.slice Aa la ca, .slice Ap lp cp] : List Value).toArray) rfl rfl rfl (fun w1 g9 hg9 hb9 hc hsz9 => ?_))
  have hzw1 := hc.size
  have hge9 := HC.geo hg9
  have HC := HC.tr hc
  have ha := ha.no hc
  have hp := hp.no hc
  have hb := hb.no hc
  have hq := hq.no hc
  have hg := hg.no hc
  have hrnd := hrnd.no hc
  have hltg9 := hb9.lt
  refine wle rfl (bg (cs := ([.slice Ab lb cb, .slice Aq lq cq] : List Value).toArray) rfl rfl rfl (fun w2 g10 hg10 hb10 hc hsz10 => ?_))
  have hzw2 := hc.size
  have hge10 := HC.geo hg10
  have HC := HC.tr hc
  have ha := ha.no hc
  have hp := hp.no hc
  have hb := hb.no hc
  have hq := hq.no hc
  have hg := hg.no hc
  have hrnd := hrnd.no hc
  have hb9 := hb9.no hc
  iterate 3 refine was ?_
  refine ac (ae (ab (aa ?_)))
  iterate 2 refine wmv ?_
  refine wz (pfl 0 underlying48) ?_
  refine wz (aC underlying38 hb9) ?_
  refine wz (pfl 1 underlying48) ?_
  refine wz (aC underlying26 hb9) ?_
  refine wle rfl (ai ent40 rfl rfl (kH (ha) (by omega) (hp) (by omega) hrnd) ?_)
  rintro _ w3 ⟨A28, l28, c28, fs28, ok28, rfl, hS28, hN28, hlm28, hok28, hfa28, hc⟩
  refine ⟨_, rfl, ?_⟩
  have hzw3 := hc.size
  have HC := HC.tr hc
  have hb := hb.no hc
  have hq := hq.no hc
  have hg := hg.no hc
  have hrnd := hrnd.no hc
  have hb9 := hb9.no hc
  have hb10 := hb10.no hc
  have hsl28 := hS28.len
  refine wmv ?_
  refine wz (aP rfl rfl) ?_
  refine wz (aP rfl rfl) ?_
  iterate 2 refine was ?_
  refine ac (ae (ab (aa ?_)))
  iterate 2 refine wmv ?_
  refine wz (pfl 0 underlying48) ?_
  refine wz (aC underlying38 hb10) ?_
  refine wz (pfl 1 underlying48) ?_
  refine wz (aC underlying26 hb10) ?_
  refine wle rfl (ai ent40 rfl rfl (kH (hb) (by omega) (hq) (by omega) hrnd) ?_)
  rintro _ w4 ⟨A38, l38, c38, fs38, ok38, rfl, hS38, hN38, hlm38, hok38, hfa38, hc⟩
  refine ⟨_, rfl, ?_⟩
  have hzw4 := hc.size
  have HC := HC.tr hc
  have hg := hg.no hc
  have hrnd := hrnd.no hc
  have hb9 := hb9.no hc
  have hb10 := hb10.no hc
  have hS28 := hS28.no hc
  have hN28 := hN28.cc hc
  have hsl38 := hS38.len
  refine wmv ?_
  refine wz (aP rfl rfl) ?_
  refine wz (aP rfl rfl) ?_
  iterate 2 refine was ?_
  refine ac (ae (ab (ab (aa ?_))))
  refine wmv ?_
  refine wz (bc rfl) ?_
  refine wmv ?_
  refine az (d := 43) rfl (fun q43 => ?_) (fun q43 => ?_)
  ·
   iterate 2 refine aM gq rfl rfl ?_
   refine wz (am rfl rfl) ?_
   refine ac (ae ?_)
   refine aR rfl (rfl) ?_
   refine ab (aa ?_)
   iterate 3 refine was ?_
   refine ac (ae (ao (ag ?_)))
   refine aj ((qp rfl rfl rfl rfl)) ?_
   exact ⟨none, 0, 0, none, 0, 0, [], [], false, rfl, Sl.nil, Sl.nil, by omega, by omega, fun h => (by cases h), fun _ g1 g2 g3 => absurd (hok28.2 g1) (by rw [show ok28 = false by simpa using q43]; decide), HC⟩
  refine aq gq rfl rfl (aS rfl) ?_
  refine aq gq rfl rfl (bc rfl) ?_
  refine wz (ar rfl rfl) ?_
  refine ac (ae ?_)
  refine aA rfl (fun c0 => ?_) (fun c0 => ?_)
  ·
   refine ab (aa ?_)
   iterate 3 refine was ?_
   refine ac (ae (ao (ag ?_)))
   refine aj ((qp rfl rfl rfl rfl)) ?_
   exact ⟨none, 0, 0, none, 0, 0, [], [], false, rfl, Sl.nil, Sl.nil, by omega, by omega, fun h => (by cases h), fun _ g1 g2 g3 => absurd (hok38.2 g2) (by rw [show ok38 = false by simpa using c0]; decide), HC⟩
  have ho1 : ok28 = true := by simpa using q43
  have ho2 : ok38 = true := by simpa using c0
  obtain ⟨o11, o12, o13⟩ := hfa28 ho1
  obtain ⟨o21, o22, o23⟩ := hfa38 ho2
  refine al (ae (ab (aa ?_)))
  iterate 2 refine wmv ?_
  refine wz (aw underlying88 rfl) ?_
  refine wz (aZ (Z := ((l28 - 1 : Nat) : Int)) rfl rfl (by rw [w64 (by omega)]; omega)) ?_
  obtain ⟨b5, o5, x5, ex5, hA5, hr5, hx5k, hx5l⟩ := rdF (l28 - 1) hS28
  refine wz (pxs underlying88 bq hA5) ?_
  refine wz (pfl 2 underlying93) ?_
  refine wz (pla underlying34 au (rng_sub (q := (List.map u8v x5.h)) (p := ([i64 (x5.lo : Int), i64 (x5.hi : Int)] : List Value)) (r := ([.slice x5.A x5.l x5.c] : List Value)) hr5 (by first | rfl | simp only [List.append_assoc, List.cons_append, List.nil_append, List.append_nil]) rfl)) ?_
  iterate 3 refine wmv ?_
  refine wle rfl (ai ent41 rfl rfl (oG (hx5k) (hg) (by omega) hrnd) ?_)
  rintro _ w6 ⟨A58, l58, c58, fs58, ok58, rfl, hS58, hN58, hlm58, hgo58, hfa58, hc⟩
  refine ⟨_, rfl, ?_⟩
  have hzw6 := hc.size
  have HC := HC.tr hc
  have hb9 := hb9.no hc
  have hb10 := hb10.no hc
  have hS28 := hS28.no hc
  have hN28 := hN28.cc hc
  have hS38 := hS38.no hc
  have hN38 := hN38.cc hc
  have hsl58 := hS58.len
  refine wmv ?_
  refine wz (aP rfl rfl) ?_
  refine wz (aP rfl rfl) ?_
  iterate 2 refine was ?_
  refine ac (ae (ab (ab (aa ?_))))
  refine wmv ?_
  refine wz (bc rfl) ?_
  refine ac (ae ?_)
  refine aA rfl (fun c1 => ?_) (fun c1 => ?_)
  ·
   refine ab (aa ?_)
   iterate 3 refine was ?_
   refine ac (ae (ao (ag ?_)))
   refine aj ((qp rfl rfl rfl rfl)) ?_
   exact ⟨none, 0, 0, none, 0, 0, [], [], false, rfl, Sl.nil, Sl.nil, by omega, by omega, fun h => (by cases h), fun _ g1 g2 g3 => absurd (hgo58 g3) (by rw [show ok58 = false by simpa using c1]; decide), HC⟩
  have p58 := hfa58 (by simpa using c1)
  rw [ex5, o13] at p58
  have hshc := j9 (j9 (sN o12 mK) (sN p58 qB)) (sN o22 mK)
  refine al (ae (ab (aa ?_)))
  iterate 3 refine wmv ?_
  have hltg9 := hb9.lt
  have hltg10 := hb10.lt
  refine wle rfl (aT (E := 88) rfl rfl (fun _ => by kernel_rfl) (fun w7 g66 hg66 hb66 hc hsz66 => ?_))
  have hzw7 := hc.size
  have hge66 := HC.geo hg66
  have HC := HC.tr hc
  have hS28 := hS28.no hc
  have hN28 := hN28.cc hc
  have hS38 := hS38.no hc
  have hN38 := hN38.cc hc
  have hS58 := hS58.no hc
  have hN58 := hN58.cc hc
  refine wle rfl (ai ent43 rfl rfl (tA hb66 hS28 hS58 hS38 (by omega) (by omega) (by omega)) ?_)
  rintro _ w8 ⟨A67, c67, rfl, hQ67, hc⟩
  refine ⟨_, rfl, ?_⟩
  have hzw8 := hc.size
  have HC := HC.tr hc
  have hN28 := hN28.cc hc
  have hN38 := hN38.cc hc
  have hN58 := hN58.cc hc
  have hnfc := ((hN28.old).app (hN58.old)).app (hN38.old)
  refine wle rfl (ai ent42 rfl rfl (rn (hQ67) hnfc hshc (by omega)) ?_)
  rintro _ w9 ⟨A68, l68, c68, B68, k68, d68, x68, y68, f68, rfl, hX, hY, hlx, hly, hft, hfn, hc⟩
  refine ⟨_, rfl, ?_⟩
  have hzw9 := hc.size
  have HC := HC.tr hc
  refine wz (aP rfl rfl) ?_
  refine wz (aP rfl rfl) ?_
  refine wz (aP rfl rfl) ?_
  iterate 3 refine was ?_
  refine ac (ae (ao ?_))
  refine aj ((qp rfl rfl rfl rfl)) ?_
  exact ⟨_, _, _, _, _, _, x68, y68, f68, rfl, hX.old, hY.old, hlx, hly, hft, fun h _ _ _ => one3 o12 p58 o22 (hfn h), HC⟩

theorem Tabs.ch {w w' : World} {T : Nat → Prop} (h : Tabs w) (c : Ch T w w') (hn : ∀ k, k < 4 → ¬ T k) : Tabs w' :=
 ⟨h.rk.ch c (fun k hk => hn k (by have h1 : k = 0 := hk; omega)), h.nib.ch c (fun k hk => hn k (by have h1 : k = 1 := hk; omega)), h.d32.ch c (fun k hk => hn k (by have h1 : k = 2 := hk; omega)), h.d64.ch c (fun k hk => hn k (by have h1 : k = 3 := hk; omega))⟩

theorem Tabs.cc {w w' : World} {T : Nat → Prop} (h : Tabs w) (c : Ch T w w') (hn : ∀ k, k < 4 → ¬ T k := by intro k hk ht; first | exact ht | omega | (dsimp only at *; omega)) : Tabs w' := h.ch c hn

set_option maxHeartbeats 4000000 in
theorem iy {w : World} {m n i : Int} {sa na : Int} {ba : Bool} {Ara : Option Addr} {lra cra : Nat} {Fra : Nat → Prop} {ra : List RD} {Awa : Option Addr} {lwa cwa : Nat} {Fwa : Nat → Prop} {wa : List Pr} {Ga : Nat → Prop} {Ap : Option Addr} {lp cp : Nat} {Fp : Nat → Prop} {p : List (List UInt8)} {sb nb : Int} {bb : Bool} {Arb : Option Addr} {lrb crb : Nat} {Frb : Nat → Prop} {rb : List RD} {Awb : Option Addr} {lwb cwb : Nat} {Fwb : Nat → Prop} {wb : List Pr} {Gb : Nat → Prop} {Aq : Option Addr} {lq cq : Nat} {Fq : Nat → Prop} {q : List (List UInt8)} {Agr : Option Addr} {lgr cgr : Nat} {Fgr : Nat → Prop} {gr : List (List UInt8)}  (hra : SI w Fra eRD Ara lra cra ra) (hwa : SI w Fwa ePR Awa lwa cwa wa) (hna : NS w Ga ra) (hp : SI w Fp eHs Ap lp cp p) (hrb : SI w Frb eRD Arb lrb crb rb) (hwb : SI w Fwb ePR Awb lwb cwb wb) (hnb : NS w Gb rb) (hq : SI w Fq eHs Aq lq cq q) (hgr : SI w Fgr eHs Agr lgr cgr gr) (hlr : lra ≤ 140737488351232) (hlw : lwa ≤ 140737488351232) (hlp0 : lp ≤ 140737488351232) (hlrb : lrb ≤ 140737488351232) (hlwb : lwb ≤ 140737488351232) (hlq0 : lq ≤ 140737488351232) (hlg0 : lgr ≤ 140737488351232) (hT : Tabs w) :
    Calls Tryz.prog 4 #[.agg ([i64 m, i64 n, i64 i] : List Value).toArray, .agg ([i64 sa, i64 na, .bool ba, .slice Ara lra cra, .slice Awa lwa cwa, .slice Ap lp cp, i64 sb, i64 nb, .bool bb, .slice Arb lrb crb, .slice Awb lwb cwb, .slice Aq lq cq] : List Value).toArray, .slice Agr lgr cgr] w fun e w' => e = .returned (.bool true) ∧ Ch No w w' := by
  have hrla := hra.len
  have hwla := hwa.len
  have hna := hna.old
  have hrlb := hrb.len
  have hwlb := hwb.len
  have hnb := hnb.old
  have hrnd := hT.rk
  have hn4 := oL hT
  have hn0 : 0 < w.heap.size := by omega
  have hpl := hp.len
  have hql := hq.len
  have hgl := hgr.len
  have hra := hra.old
  have hwa := hwa.old
  have hrb := hrb.old
  have hwb := hwb.old
  have hp := hp.old
  have hq := hq.old
  have hgr := hgr.old
  have HC : Ch No w w := Ch.refl _ _
  refine aH (args := [_, _, _]) (n := 157) Tryz.func4 rfl rfl rfl ?_
  refine ab (aa ?_)
  refine wle rfl (bg (cs := ([i64 m, i64 n, i64 i] : List Value).toArray) rfl rfl rfl (fun w1 g3 hg3 hb3 hc hsz3 => ?_))
  have hzw1 := hc.size
  have hge3 := HC.geo hg3
  have HC := HC.tr hc
  have hra := hra.no hc
  have hwa := hwa.no hc
  have hna := hna.cc hc
  have hrb := hrb.no hc
  have hwb := hwb.no hc
  have hnb := hnb.cc hc
  have hp := hp.no hc
  have hq := hq.no hc
  have hgr := hgr.no hc
  have hT := hT.cc hc
  have hrnd := hrnd.no hc
  have hltg3 := hb3.lt
  refine wle rfl (bg (cs := ([i64 sa, i64 na, .bool ba, .slice Ara lra cra, .slice Awa lwa cwa, .slice Ap lp cp, i64 sb, i64 nb, .bool bb, .slice Arb lrb crb, .slice Awb lwb cwb, .slice Aq lq cq] : List Value).toArray) rfl rfl rfl (fun w2 g4 hg4 hb4 hc hsz4 => ?_))
  have hzw2 := hc.size
  have hge4 := HC.geo hg4
  have HC := HC.tr hc
  have hra := hra.no hc
  have hwa := hwa.no hc
  have hna := hna.cc hc
  have hrb := hrb.no hc
  have hwb := hwb.no hc
  have hnb := hnb.cc hc
  have hp := hp.no hc
  have hq := hq.no hc
  have hgr := hgr.no hc
  have hT := hT.cc hc
  have hrnd := hrnd.no hc
  have hb3 := hb3.no hc
  refine was ?_
  refine ac (ae ?_)
  refine gP (fun e w' => ∃ (g7 : Nat) (g8 : Nat), e = [(2, .slice Agr lgr cgr), (3, .pointer (some ⟨g3, 0, none⟩)), (7, .pointer (some ⟨g7, 0, none⟩)), (8, .pointer (some ⟨g8, 0, none⟩))] ∧ (Ch No w w') ∧ (SI w' (fun k => k < w.heap.size) eRD Ara lra cra ra) ∧ (SI w' (fun k => k < w.heap.size) ePR Awa lwa cwa wa) ∧ (NS w' (fun k => k < w.heap.size) ra) ∧ (SI w' (fun k => k < w.heap.size) eRD Arb lrb crb rb) ∧ (SI w' (fun k => k < w.heap.size) ePR Awb lwb cwb wb) ∧ (NS w' (fun k => k < w.heap.size) rb) ∧ (SI w' (fun k => k < w.heap.size) eHs Ap lp cp p) ∧ (SI w' (fun k => k < w.heap.size) eHs Aq lq cq q) ∧ (SI w' (fun k => k < w.heap.size) eHs Agr lgr cgr gr) ∧ (Tabs w') ∧ (Sl w' (fun k => k = 0) aO (some ⟨0, 0, none⟩) 64 64 rk) ∧ (Blk w' g3 45 ([i64 m, i64 n, i64 i] : List Value).toArray) ∧ (Blk w' g7 28 ([i64 sa, i64 na, .bool ba, .slice Ara lra cra, .slice Awa lwa cwa, .slice Ap lp cp] : List Value).toArray) ∧ (Blk w' g8 28 ([i64 sb, i64 nb, .bool bb, .slice Arb lrb crb, .slice Awb lwb cwb, .slice Aq lq cq] : List Value).toArray) ∧ (w.heap.size ≤ g7 ∧ w.heap.size ≤ g8 ∧ g7 ≠ g8)) ?_ ?_
  ·
   refine wdr (.q 0 [0, 1, 0, 1] (.alt (.q 4 [2, 2, 2, 3] .nil) (.st 5 2 (.st 4 2 (.st 6 2 (.st 7 3 .nil)))))) 7 No (fun w3 hc hszw3 => ?_)
   have hzw3 := hc.size
   have HC := HC.tr hc
   have hra := hra.no hc
   have hwa := hwa.no hc
   have hna := hna.cc hc
   have hrb := hrb.no hc
   have hwb := hwb.no hc
   have hnb := hnb.cc hc
   have hp := hp.no hc
   have hq := hq.no hc
   have hgr := hgr.no hc
   have hT := hT.cc hc
   have hrnd := hrnd.no hc
   have hb3 := hb3.no hc
   have hb4 := hb4.no hc
   have hS : Ch (No) w3 w3 := Ch.refl _ _
   refine ws1 rfl (iC (j := 0) underlying29 lV rfl rfl (by omega) (by omega) rfl) ?_
   refine ws2 rfl (bE (cs := [i64 sa, i64 na, .bool ba, .slice Ara lra cra, .slice Awa lwa cwa, .slice Ap lp cp]) underlying28 rfl (szL lV rfl) rfl (fun _ h => bR (p := []) (q := ([i64 sa, i64 na, .bool ba, .slice Ara lra cra, .slice Awa lwa cwa, .slice Ap lp cp] : List Value)) (r := ([i64 sb, i64 nb, .bool bb, .slice Arb lrb crb, .slice Awb lwb cwb, .slice Aq lq cq] : List Value)) (hb4.ch h (fun h => h)) rfl rfl)) ?_
   refine ws1 rfl (iC (j := 6) underlying29 lV rfl rfl (by omega) (by omega) rfl) ?_
   refine ws2 rfl (bE (cs := [i64 sb, i64 nb, .bool bb, .slice Arb lrb crb, .slice Awb lwb cwb, .slice Aq lq cq]) underlying28 rfl (szL lV rfl) rfl (fun _ h => bR (p := ([i64 sa, i64 na, .bool ba, .slice Ara lra cra, .slice Awa lwa cwa, .slice Ap lp cp] : List Value)) (q := ([i64 sb, i64 nb, .bool bb, .slice Arb lrb crb, .slice Awb lwb cwb, .slice Aq lq cq] : List Value)) (r := []) (hb4.ch h (fun h => h)) rfl rfl)) ?_
   refine bh ?_ ?_
   ·
    have hltg3 := hb3.lt
    have hltg4 := hb4.lt
    refine ax rfl rfl (eal [Value.int .i64 0, Value.int .i64 0, Value.bool false, Value.slice none 0 0, Value.slice none 0 0, Value.slice none 0 0] (fun w6 g7 hg7 hb7 hc hsz7 => ⟨hS.tr hc, ?_⟩))
    have hzw6 := hc.size
    have hge7 := HC.geo hg7
    have HC := HC.tr hc
    have hra := hra.no hc
    have hwa := hwa.no hc
    have hna := hna.cc hc
    have hrb := hrb.no hc
    have hwb := hwb.no hc
    have hnb := hnb.cc hc
    have hp := hp.no hc
    have hq := hq.no hc
    have hgr := hgr.no hc
    have hT := hT.cc hc
    have hrnd := hrnd.no hc
    have hb3 := hb3.no hc
    have hb4 := hb4.no hc
    have hS := hS.tr hc
    have hltg3 := hb3.lt
    have hltg4 := hb4.lt
    have hltg7 := hb7.lt
    refine ax rfl rfl (eal [Value.int .i64 0, Value.int .i64 0, Value.bool false, Value.slice none 0 0, Value.slice none 0 0, Value.slice none 0 0] (fun w7 g8 hg8 hb8 hc hsz8 => ⟨hS.tr hc, ?_⟩))
    have hzw7 := hc.size
    have hge8 := HC.geo hg8
    have HC := HC.tr hc
    have hra := hra.no hc
    have hwa := hwa.no hc
    have hna := hna.cc hc
    have hrb := hrb.no hc
    have hwb := hwb.no hc
    have hnb := hnb.cc hc
    have hp := hp.no hc
    have hq := hq.no hc
    have hgr := hgr.no hc
    have hT := hT.cc hc
    have hrnd := hrnd.no hc
    have hb3 := hb3.no hc
    have hb7 := hb7.no hc
    have hS := hS.tr hc
    refine ax rfl rfl (esw lV hb7 (fun w8 hb7 hc hsz => ⟨(hS.s hc), ?_⟩))
    have hzw8 := hc.size
    have HC := HC.n hc
    first | have hra := hra.cc hc | have hra := hra.cT hc
    first | have hwa := hwa.cc hc | have hwa := hwa.cT hc
    have hna := hna.cc hc
    first | have hrb := hrb.cc hc | have hrb := hrb.cT hc
    first | have hwb := hwb.cc hc | have hwb := hwb.cT hc
    have hnb := hnb.cc hc
    first | have hp := hp.cc hc | have hp := hp.cT hc
    first | have hq := hq.cc hc | have hq := hq.cT hc
    first | have hgr := hgr.cc hc | have hgr := hgr.cT hc
    have hT := hT.cc hc
    first | have hrnd := hrnd.cc hc | have hrnd := hrnd.cT hc
    have hb3 := hb3.cc hc
    have hb8 := hb8.cc hc
    have hS := (hS.s hc)
    refine bf rfl rfl (esw lV hb8 (fun w9 hb8 hc hsz => ?_))
    have hzw9 := hc.size
    have HC := HC.n hc
    first | have hra := hra.cc hc | have hra := hra.cT hc
    first | have hwa := hwa.cc hc | have hwa := hwa.cT hc
    have hna := hna.cc hc
    first | have hrb := hrb.cc hc | have hrb := hrb.cT hc
    first | have hwb := hwb.cc hc | have hwb := hwb.cT hc
    have hnb := hnb.cc hc
    first | have hp := hp.cc hc | have hp := hp.cT hc
    first | have hq := hq.cc hc | have hq := hq.cT hc
    first | have hgr := hgr.cc hc | have hgr := hgr.cT hc
    have hT := hT.cc hc
    first | have hrnd := hrnd.cc hc | have hrnd := hrnd.cT hc
    have hb3 := hb3.cc hc
    have hb7 := hb7.cc hc
    refine aW ?_
    exact xme ⟨_, _, rfl, HC, hra, hwa, hna, hrb, hwb, hnb, hp, hq, hgr, hT, hrnd, hb3, hb7, hb8, ⟨by omega, by omega, by omega⟩⟩
   have hltg3 := hb3.lt
   have hltg4 := hb4.lt
   refine ax rfl rfl (eal [Value.int .i64 0, Value.int .i64 0, Value.bool false, Value.slice none 0 0, Value.slice none 0 0, Value.slice none 0 0] (fun w10 g8 hg8 hb8 hc hsz8 => ⟨hS.tr hc, ?_⟩))
   have hzw10 := hc.size
   have hge8 := HC.geo hg8
   have HC := HC.tr hc
   have hra := hra.no hc
   have hwa := hwa.no hc
   have hna := hna.cc hc
   have hrb := hrb.no hc
   have hwb := hwb.no hc
   have hnb := hnb.cc hc
   have hp := hp.no hc
   have hq := hq.no hc
   have hgr := hgr.no hc
   have hT := hT.cc hc
   have hrnd := hrnd.no hc
   have hb3 := hb3.no hc
   have hb4 := hb4.no hc
   have hS := hS.tr hc
   have hltg3 := hb3.lt
   have hltg4 := hb4.lt
   have hltg8 := hb8.lt
   refine ax rfl rfl (eal [Value.int .i64 0, Value.int .i64 0, Value.bool false, Value.slice none 0 0, Value.slice none 0 0, Value.slice none 0 0] (fun w11 g7 hg7 hb7 hc hsz7 => ⟨hS.tr hc, ?_⟩))
   have hzw11 := hc.size
   have hge7 := HC.geo hg7
   have HC := HC.tr hc
   have hra := hra.no hc
   have hwa := hwa.no hc
   have hna := hna.cc hc
   have hrb := hrb.no hc
   have hwb := hwb.no hc
   have hnb := hnb.cc hc
   have hp := hp.no hc
   have hq := hq.no hc
   have hgr := hgr.no hc
   have hT := hT.cc hc
   have hrnd := hrnd.no hc
   have hb3 := hb3.no hc
   have hb8 := hb8.no hc
   have hS := hS.tr hc
   refine ax rfl rfl (esw lV hb7 (fun w12 hb7 hc hsz => ⟨(hS.s hc), ?_⟩))
   have hzw12 := hc.size
   have HC := HC.n hc
   first | have hra := hra.cc hc | have hra := hra.cT hc
   first | have hwa := hwa.cc hc | have hwa := hwa.cT hc
   have hna := hna.cc hc
   first | have hrb := hrb.cc hc | have hrb := hrb.cT hc
   first | have hwb := hwb.cc hc | have hwb := hwb.cT hc
   have hnb := hnb.cc hc
   first | have hp := hp.cc hc | have hp := hp.cT hc
   first | have hq := hq.cc hc | have hq := hq.cT hc
   first | have hgr := hgr.cc hc | have hgr := hgr.cT hc
   have hT := hT.cc hc
   first | have hrnd := hrnd.cc hc | have hrnd := hrnd.cT hc
   have hb3 := hb3.cc hc
   have hb8 := hb8.cc hc
   have hS := (hS.s hc)
   refine bf rfl rfl (esw lV hb8 (fun w13 hb8 hc hsz => ?_))
   have hzw13 := hc.size
   have HC := HC.n hc
   first | have hra := hra.cc hc | have hra := hra.cT hc
   first | have hwa := hwa.cc hc | have hwa := hwa.cT hc
   have hna := hna.cc hc
   first | have hrb := hrb.cc hc | have hrb := hrb.cT hc
   first | have hwb := hwb.cc hc | have hwb := hwb.cT hc
   have hnb := hnb.cc hc
   first | have hp := hp.cc hc | have hp := hp.cT hc
   first | have hq := hq.cc hc | have hq := hq.cT hc
   first | have hgr := hgr.cc hc | have hgr := hgr.cT hc
   have hT := hT.cc hc
   first | have hrnd := hrnd.cc hc | have hrnd := hrnd.cT hc
   have hb3 := hb3.cc hc
   have hb7 := hb7.cc hc
   refine aW ?_
   exact xme ⟨_, _, rfl, HC, hra, hwa, hna, hrb, hwb, hnb, hp, hq, hgr, hT, hrnd, hb3, hb7, hb8, ⟨by omega, by omega, by omega⟩⟩
  rintro _ w14 ⟨g7, g8, rfl, HC, hra, hwa, hna, hrb, hwb, hnb, hp, hq, hgr, hT, hrnd, hb3, hb7, hb8, hg⟩
  have hzw14 := HC.size
  refine ab (ab (aa ?_))
  refine wz (pfl 0 underlying28) ?_
  refine wz (pla underlying25 ej (bR (p := []) (q := ([i64 sa, i64 na, .bool ba, .slice Ara lra cra, .slice Awa lwa cwa] : List Value)) (r := ([.slice Ap lp cp] : List Value)) hb7 rfl rfl)) ?_
  refine wle rfl (ai ent5 rfl rfl (kE (hra) (hwa) hna (by omega) (by omega) (z0 := 300) (by omega)) ?_)
  rintro _ w15 ⟨z26, rfl, hz26, hc⟩
  refine ⟨_, rfl, ?_⟩
  have hzw15 := hc.size
  have HC := HC.tr hc
  have hra := hra.no hc
  have hwa := hwa.no hc
  have hna := hna.cc hc
  have hrb := hrb.no hc
  have hwb := hwb.no hc
  have hnb := hnb.cc hc
  have hp := hp.no hc
  have hq := hq.no hc
  have hgr := hgr.no hc
  have hT := hT.cc hc
  have hrnd := hrnd.no hc
  have hb3 := hb3.no hc
  have hb7 := hb7.no hc
  have hb8 := hb8.no hc
  refine wz (aU rfl rfl) ?_
  refine wmv ?_
  refine az (d := 28) rfl (fun q28 => ?_) (fun q28 => ?_)
  ·
   have q28 := of_decide_eq_true q28
   iterate 4 refine aM gq rfl rfl ?_
   refine wz (am rfl rfl) ?_
   refine wmv ?_
   iterate 4 refine aM gq rfl rfl ?_
   refine wz (am rfl rfl) ?_
   refine wmv ?_
   iterate 4 refine aM gq rfl rfl ?_
   refine wz (am rfl rfl) ?_
   refine wmv ?_
   iterate 3 refine aM gq rfl rfl ?_
   refine wz (am rfl rfl) ?_
   refine wmv ?_
   iterate 4 refine aM gq rfl rfl ?_
   refine wz (am rfl rfl) ?_
   refine wmv ?_
   iterate 4 refine aM gq rfl rfl ?_
   refine wz (am rfl rfl) ?_
   refine ac (ae ?_)
   refine aR rfl (rfl) ?_
   refine ab (aa ?_)
   refine wle rfl (ai eO rfl rfl (bk hT) ?_)
   rintro _ w16 ⟨rfl, hc⟩
   refine ⟨_, rfl, ?_⟩
   have hzw16 := hc.size
   have HC := HC.tr hc
   refine was ?_
   refine ac (ae (ao (ag ?_)))
   refine aj ((aK rfl rfl)) ?_
   exact ⟨rfl, HC⟩
  have q28 := of_decide_eq_false q28
  refine aq gq rfl rfl (pfl 0 underlying28) ?_
  refine aq gq rfl rfl (pla underlying25 ej (bR (p := []) (q := ([i64 sb, i64 nb, .bool bb, .slice Arb lrb crb, .slice Awb lwb cwb] : List Value)) (r := ([.slice Aq lq cq] : List Value)) hb8 rfl rfl)) ?_
  refine bX gq (ai ent5 rfl rfl (kE (hrb) (hwb) hnb (by omega) (by omega) (z0 := 300) (by omega)) ?_)
  rintro _ w17 ⟨z31, rfl, hz31, hc⟩
  refine ⟨_, rfl, ?_⟩
  have hzw17 := hc.size
  have HC := HC.tr hc
  have hra := hra.no hc
  have hwa := hwa.no hc
  have hna := hna.cc hc
  have hrb := hrb.no hc
  have hwb := hwb.no hc
  have hnb := hnb.cc hc
  have hp := hp.no hc
  have hq := hq.no hc
  have hgr := hgr.no hc
  have hT := hT.cc hc
  have hrnd := hrnd.no hc
  have hb3 := hb3.no hc
  have hb7 := hb7.no hc
  have hb8 := hb8.no hc
  refine aq gq rfl rfl (aU rfl rfl) ?_
  refine wz (ar rfl rfl) ?_
  refine wmv ?_
  refine az (d := 34) rfl (fun q34 => ?_) (fun q34 => ?_)
  ·
   have q34 := of_decide_eq_true q34
   iterate 4 refine aM gq rfl rfl ?_
   refine wz (am rfl rfl) ?_
   refine wmv ?_
   iterate 4 refine aM gq rfl rfl ?_
   refine wz (am rfl rfl) ?_
   refine wmv ?_
   iterate 3 refine aM gq rfl rfl ?_
   refine wz (am rfl rfl) ?_
   refine wmv ?_
   iterate 4 refine aM gq rfl rfl ?_
   refine wz (am rfl rfl) ?_
   refine wmv ?_
   iterate 4 refine aM gq rfl rfl ?_
   refine wz (am rfl rfl) ?_
   refine ac (ae ?_)
   refine aR rfl (rfl) ?_
   refine ab (aa ?_)
   refine wle rfl (ai eO rfl rfl (bk hT) ?_)
   rintro _ w18 ⟨rfl, hc⟩
   refine ⟨_, rfl, ?_⟩
   have hzw18 := hc.size
   have HC := HC.tr hc
   refine was ?_
   refine ac (ae (ao (ag ?_)))
   refine aj ((aK rfl rfl)) ?_
   exact ⟨rfl, HC⟩
  have q34 := of_decide_eq_false q34
  refine aq gq rfl rfl (pfl 5 underlying28) ?_
  refine aq gq rfl rfl (aC underlying26 hb7) ?_
  refine aq gq rfl rfl (aw underlying26 rfl) ?_
  refine aq gq rfl rfl (bM rfl rfl) ?_
  refine wz (ar rfl rfl) ?_
  refine wmv ?_
  refine az (d := 40) rfl (fun q40 => ?_) (fun q40 => ?_)
  ·
   have q40 := of_decide_eq_true q40
   iterate 4 refine aM gq rfl rfl ?_
   refine wz (am rfl rfl) ?_
   refine wmv ?_
   iterate 3 refine aM gq rfl rfl ?_
   refine wz (am rfl rfl) ?_
   refine wmv ?_
   iterate 4 refine aM gq rfl rfl ?_
   refine wz (am rfl rfl) ?_
   refine wmv ?_
   iterate 4 refine aM gq rfl rfl ?_
   refine wz (am rfl rfl) ?_
   refine ac (ae ?_)
   refine aR rfl (rfl) ?_
   refine ab (aa ?_)
   refine wle rfl (ai eO rfl rfl (bk hT) ?_)
   rintro _ w19 ⟨rfl, hc⟩
   refine ⟨_, rfl, ?_⟩
   have hzw19 := hc.size
   have HC := HC.tr hc
   refine was ?_
   refine ac (ae (ao (ag ?_)))
   refine aj ((aK rfl rfl)) ?_
   exact ⟨rfl, HC⟩
  have q40 := of_decide_eq_false q40
  refine aq gq rfl rfl (pfl 5 underlying28) ?_
  refine aq gq rfl rfl (aC underlying26 hb8) ?_
  refine aq gq rfl rfl (aw underlying26 rfl) ?_
  refine aq gq rfl rfl (bM rfl rfl) ?_
  refine wz (ar rfl rfl) ?_
  refine wmv ?_
  refine az (d := 46) rfl (fun q46 => ?_) (fun q46 => ?_)
  ·
   have q46 := of_decide_eq_true q46
   iterate 3 refine aM gq rfl rfl ?_
   refine wz (am rfl rfl) ?_
   refine wmv ?_
   iterate 4 refine aM gq rfl rfl ?_
   refine wz (am rfl rfl) ?_
   refine wmv ?_
   iterate 4 refine aM gq rfl rfl ?_
   refine wz (am rfl rfl) ?_
   refine ac (ae ?_)
   refine aR rfl (rfl) ?_
   refine ab (aa ?_)
   refine wle rfl (ai eO rfl rfl (bk hT) ?_)
   rintro _ w20 ⟨rfl, hc⟩
   refine ⟨_, rfl, ?_⟩
   have hzw20 := hc.size
   have HC := HC.tr hc
   refine was ?_
   refine ac (ae (ao (ag ?_)))
   refine aj ((aK rfl rfl)) ?_
   exact ⟨rfl, HC⟩
  have q46 := of_decide_eq_false q46
  refine aq gq rfl rfl (aS rfl) ?_
  refine aq gq rfl rfl (aw underlying26 rfl) ?_
  refine aq gq rfl rfl (bM rfl rfl) ?_
  refine wz (ar rfl rfl) ?_
  refine wmv ?_
  refine az (d := 51) rfl (fun q51 => ?_) (fun q51 => ?_)
  ·
   have q51 := of_decide_eq_true q51
   iterate 4 refine aM gq rfl rfl ?_
   refine wz (am rfl rfl) ?_
   refine wmv ?_
   iterate 4 refine aM gq rfl rfl ?_
   refine wz (am rfl rfl) ?_
   refine ac (ae ?_)
   refine aR rfl (rfl) ?_
   refine ab (aa ?_)
   refine wle rfl (ai eO rfl rfl (bk hT) ?_)
   rintro _ w21 ⟨rfl, hc⟩
   refine ⟨_, rfl, ?_⟩
   have hzw21 := hc.size
   have HC := HC.tr hc
   refine was ?_
   refine ac (ae (ao (ag ?_)))
   refine aj ((aK rfl rfl)) ?_
   exact ⟨rfl, HC⟩
  have q51 := of_decide_eq_false q51
  refine aq gq rfl rfl (pfl 0 underlying28) ?_
  refine aq gq rfl rfl (pla underlying25 ej (bR (p := []) (q := ([i64 sa, i64 na, .bool ba, .slice Ara lra cra, .slice Awa lwa cwa] : List Value)) (r := ([.slice Ap lp cp] : List Value)) hb7 rfl rfl)) ?_
  refine bX gq (ai ent6 rfl rfl (kF (hra) (hwa) hna (by omega) (by omega)) ?_)
  rintro _ w22 ⟨x54, rfl, hx54, hc⟩
  refine ⟨_, rfl, ?_⟩
  have hzw22 := hc.size
  have HC := HC.tr hc
  have hra := hra.no hc
  have hwa := hwa.no hc
  have hna := hna.cc hc
  have hrb := hrb.no hc
  have hwb := hwb.no hc
  have hnb := hnb.cc hc
  have hp := hp.no hc
  have hq := hq.no hc
  have hgr := hgr.no hc
  have hT := hT.cc hc
  have hrnd := hrnd.no hc
  have hb3 := hb3.no hc
  have hb7 := hb7.no hc
  have hb8 := hb8.no hc
  refine aq gq rfl rfl (bc rfl) ?_
  refine wz (ar rfl rfl) ?_
  refine wmv ?_
  refine az (d := 57) rfl (fun q57 => ?_) (fun q57 => ?_)
  ·
   iterate 4 refine aM gq rfl rfl ?_
   refine wz (am rfl rfl) ?_
   refine ac (ae ?_)
   refine aR rfl (rfl) ?_
   refine ab (aa ?_)
   refine wle rfl (ai eO rfl rfl (bk hT) ?_)
   rintro _ w23 ⟨rfl, hc⟩
   refine ⟨_, rfl, ?_⟩
   have hzw23 := hc.size
   have HC := HC.tr hc
   refine was ?_
   refine ac (ae (ao (ag ?_)))
   refine aj ((aK rfl rfl)) ?_
   exact ⟨rfl, HC⟩
  have hRa := hx54 (by simpa using q57)
  refine aq gq rfl rfl (pfl 0 underlying28) ?_
  refine aq gq rfl rfl (pla underlying25 ej (bR (p := []) (q := ([i64 sb, i64 nb, .bool bb, .slice Arb lrb crb, .slice Awb lwb cwb] : List Value)) (r := ([.slice Aq lq cq] : List Value)) hb8 rfl rfl)) ?_
  refine bX gq (ai ent6 rfl rfl (kF (hrb) (hwb) hnb (by omega) (by omega)) ?_)
  rintro _ w24 ⟨x60, rfl, hx60, hc⟩
  refine ⟨_, rfl, ?_⟩
  have hzw24 := hc.size
  have HC := HC.tr hc
  have hra := hra.no hc
  have hwa := hwa.no hc
  have hna := hna.cc hc
  have hrb := hrb.no hc
  have hwb := hwb.no hc
  have hnb := hnb.cc hc
  have hp := hp.no hc
  have hq := hq.no hc
  have hgr := hgr.no hc
  have hT := hT.cc hc
  have hrnd := hrnd.no hc
  have hb3 := hb3.no hc
  have hb7 := hb7.no hc
  have hb8 := hb8.no hc
  refine aq gq rfl rfl (bc rfl) ?_
  refine wz (ar rfl rfl) ?_
  refine ac (ae ?_)
  refine aA rfl (fun c0 => ?_) (fun c0 => ?_)
  ·
   refine ab (aa ?_)
   refine wle rfl (ai eO rfl rfl (bk hT) ?_)
   rintro _ w25 ⟨rfl, hc⟩
   refine ⟨_, rfl, ?_⟩
   have hzw25 := hc.size
   have HC := HC.tr hc
   refine was ?_
   refine ac (ae (ao (ag ?_)))
   refine aj ((aK rfl rfl)) ?_
   exact ⟨rfl, HC⟩
  have hRb := hx60 (by simpa using c0)
  refine al (ae (ab ?_))
  refine wdr (.q 0 [0, 1, 0, 1, 0, 1, 0, 0, 0] .nil) 9 No (fun w26 hc hszw26 => ?_)
  have hzw26 := hc.size
  have HC := HC.tr hc
  have hra := hra.no hc
  have hwa := hwa.no hc
  have hna := hna.cc hc
  have hrb := hrb.no hc
  have hwb := hwb.no hc
  have hnb := hnb.cc hc
  have hp := hp.no hc
  have hq := hq.no hc
  have hgr := hgr.no hc
  have hT := hT.cc hc
  have hrnd := hrnd.no hc
  have hb3 := hb3.no hc
  have hb7 := hb7.no hc
  have hb8 := hb8.no hc
  have hS : Ch No w26 w26 := Ch.refl _ _
  refine ws1 rfl (iC (j := 0) underlying45 sz3 rfl rfl (by omega) (by omega) rfl) ?_
  refine ws2 rfl (aE underlying3 rfl rfl (fun _ h => h.cell (fun h => h) (hb3.cell rfl))) ?_
  refine ws1 rfl (iC (j := 1) underlying45 sz3 rfl rfl (by omega) (by omega) rfl) ?_
  refine ws2 rfl (aE underlying3 rfl rfl (fun _ h => h.cell (fun h => h) (hb3.cell rfl))) ?_
  refine ws1 rfl (iC (j := 2) underlying45 sz3 rfl rfl (by omega) (by omega) rfl) ?_
  refine ws2 rfl (aE underlying3 rfl rfl (fun _ h => h.cell (fun h => h) (hb3.cell rfl))) ?_
  iterate 3 refine wsa ?_
  refine aW (ae ?_)
  refine gP (fun e w' => ∃ (u78 : List UInt8) (ok78 : Bool) (g12 : Nat), e = [(2, .slice Agr lgr cgr), (7, .pointer (some ⟨g7, 0, none⟩)), (8, .pointer (some ⟨g8, 0, none⟩)), (9, i64 m), (10, i64 n), (11, i64 i), (12, .pointer (some ⟨g12, 0, none⟩)), (13, .bool ok78)] ∧ (Ch No w w') ∧ (SI w' (fun k => k < w.heap.size) eRD Ara lra cra ra) ∧ (SI w' (fun k => k < w.heap.size) ePR Awa lwa cwa wa) ∧ (NS w' (fun k => k < w.heap.size) ra) ∧ (SI w' (fun k => k < w.heap.size) eRD Arb lrb crb rb) ∧ (SI w' (fun k => k < w.heap.size) ePR Awb lwb cwb wb) ∧ (NS w' (fun k => k < w.heap.size) rb) ∧ (SI w' (fun k => k < w.heap.size) eHs Ap lp cp p) ∧ (SI w' (fun k => k < w.heap.size) eHs Aq lq cq q) ∧ (SI w' (fun k => k < w.heap.size) eHs Agr lgr cgr gr) ∧ (Tabs w') ∧ (Sl w' (fun k => k = 0) aO (some ⟨0, 0, none⟩) 64 64 rk) ∧ (Blk w' g7 28 ([i64 sa, i64 na, .bool ba, .slice Ara lra cra, .slice Awa lwa cwa, .slice Ap lp cp] : List Value).toArray) ∧ (Blk w' g8 28 ([i64 sb, i64 nb, .bool bb, .slice Arb lrb crb, .slice Awb lwb cwb, .slice Aq lq cq] : List Value).toArray) ∧ (Blk w' g12 34 (List.map u8v u78).toArray) ∧ (u78.length = 32) ∧ (ok78 = true ↔ 1 ≤ m ∧ m ≤ 1099511627776 ∧ 0 ≤ i ∧ i < m ∧ p.length = (trn m.toNat i.toNat).length) ∧ (ok78 = true → u78 = up2 (sd m.toNat i.toNat) p (cm (cd (RC.mk sa na ba (ra.map RD.abs) wa)))) ∧ (w.heap.size ≤ g12)) ?_ ?_
  ·
   refine wdr (.q 0 [0, 0, 0, 1] (.st 5 0 (.st 6 1 (.alt (.st 4 2 (.alt (.q 7 [2, 0, 0, 0, 2, 3, 0] .nil) (.st 11 2 (.q 7 [2, 0, 0, 0] (.st 12 3 (.st 13 0 .nil)))))) (.st 11 2 (.st 4 2 (.q 7 [2, 0, 0, 0] (.st 12 3 (.st 13 0 .nil))))))))) 12 No (fun w30 hc hszw30 => ?_)
   have hzw30 := hc.size
   have HC := HC.tr hc
   have hra := hra.no hc
   have hwa := hwa.no hc
   have hna := hna.cc hc
   have hrb := hrb.no hc
   have hwb := hwb.no hc
   have hnb := hnb.cc hc
   have hp := hp.no hc
   have hq := hq.no hc
   have hgr := hgr.no hc
   have hT := hT.cc hc
   have hrnd := hrnd.no hc
   have hb3 := hb3.no hc
   have hb7 := hb7.no hc
   have hb8 := hb8.no hc
   have hS : Ch No w30 w30 := Ch.refl _ _
   iterate 2 refine wsm ?_
   refine ws1 rfl (pfl 0 underlying28) ?_
   refine ws2 rfl (bE (cs := [i64 sa, i64 na, .bool ba, .slice Ara lra cra, .slice Awa lwa cwa]) underlying25 rfl (szL ej rfl) rfl (fun _ h => bR (p := []) (q := ([i64 sa, i64 na, .bool ba, .slice Ara lra cra, .slice Awa lwa cwa] : List Value)) (r := ([.slice Ap lp cp] : List Value)) (hb7.ch h (fun h => h)) rfl rfl)) ?_
   refine ws1 rfl (pfl 5 underlying28) ?_
   refine ws2 rfl (aE underlying26 rfl rfl (fun _ h => h.cell (fun h => h) (hb7.cell rfl))) ?_
   refine bh ?_ ?_
   rotate_left
   ·
    have hltg3 := hb3.lt
    have hltg7 := hb7.lt
    have hltg8 := hb8.lt
    refine ax rfl rfl (ea3 (fun w38 g12 hg12 hb12 hc hsz12 => ⟨hc, ?_⟩))
    have hzw38 := hc.size
    have hge12 := HC.geo hg12
    have HC := HC.tr hc
    have hra := hra.no hc
    have hwa := hwa.no hc
    have hna := hna.cc hc
    have hrb := hrb.no hc
    have hwb := hwb.no hc
    have hnb := hnb.cc hc
    have hp := hp.no hc
    have hq := hq.no hc
    have hgr := hgr.no hc
    have hT := hT.cc hc
    have hrnd := hrnd.no hc
    have hb7 := hb7.no hc
    have hb8 := hb8.no hc
    refine aB hc ?_
    refine ax rfl rfl (ai ent9 rfl rfl (fD (hra) (hwa) hna (by omega) (by omega) hRa) ?_)
    rintro _ w39 ⟨rfl, hc⟩
    refine ⟨_, rfl, hc, ?_⟩
    have hzw39 := hc.size
    have HC := HC.tr hc
    have hra := hra.no hc
    have hwa := hwa.no hc
    have hna := hna.cc hc
    have hrb := hrb.no hc
    have hwb := hwb.no hc
    have hnb := hnb.cc hc
    have hp := hp.no hc
    have hq := hq.no hc
    have hgr := hgr.no hc
    have hT := hT.cc hc
    have hrnd := hrnd.no hc
    have hb7 := hb7.no hc
    have hb8 := hb8.no hc
    have hb12 := hb12.no hc
    refine aB hc ?_
    refine ax rfl rfl (ai qg rfl rfl (db (hp) (bp _) (by omega)) ?_)
    rintro _ w40 ⟨u78, ok78, rfl, hu78, hok78, hup78, hc⟩
    refine ⟨_, rfl, hc, ?_⟩
    have hzw40 := hc.size
    have HC := HC.tr hc
    have hra := hra.no hc
    have hwa := hwa.no hc
    have hna := hna.cc hc
    have hrb := hrb.no hc
    have hwb := hwb.no hc
    have hnb := hnb.cc hc
    have hp := hp.no hc
    have hq := hq.no hc
    have hgr := hgr.no hc
    have hT := hT.cc hc
    have hrnd := hrnd.no hc
    have hb7 := hb7.no hc
    have hb8 := hb8.no hc
    have hb12 := hb12.no hc
    refine aB hc ?_
    refine wsm ?_
    refine ws1 rfl (aP rfl rfl) ?_
    refine ws1 rfl (aP rfl rfl) ?_
    refine bf rfl rfl (esh au hb12 (fun w41 hb12 hc hsz => ?_))
    have hzw41 := hc.size
    have HC := HC.n hc
    first | have hra := hra.cc hc | have hra := hra.cT hc
    first | have hwa := hwa.cc hc | have hwa := hwa.cT hc
    have hna := hna.cc hc
    first | have hrb := hrb.cc hc | have hrb := hrb.cT hc
    first | have hwb := hwb.cc hc | have hwb := hwb.cT hc
    have hnb := hnb.cc hc
    first | have hp := hp.cc hc | have hp := hp.cT hc
    first | have hq := hq.cc hc | have hq := hq.cT hc
    first | have hgr := hgr.cc hc | have hgr := hgr.cT hc
    have hT := hT.cc hc
    first | have hrnd := hrnd.cc hc | have hrnd := hrnd.cT hc
    have hb7 := hb7.cc hc
    have hb8 := hb8.cc hc
    refine wsa ?_
    refine aW ?_
    exact xme ⟨_, _, _, rfl, HC, hra, hwa, hna, hrb, hwb, hnb, hp, hq, hgr, hT, hrnd, hb7, hb8, hb12, hu78, hok78, hup78, (by omega)⟩
   refine ax rfl rfl (ai ent9 rfl rfl (fD (hra) (hwa) hna (by omega) (by omega) hRa) ?_)
   rintro _ w31 ⟨rfl, hc⟩
   refine ⟨_, rfl, hc, ?_⟩
   have hzw31 := hc.size
   have HC := HC.tr hc
   have hra := hra.no hc
   have hwa := hwa.no hc
   have hna := hna.cc hc
   have hrb := hrb.no hc
   have hwb := hwb.no hc
   have hnb := hnb.cc hc
   have hp := hp.no hc
   have hq := hq.no hc
   have hgr := hgr.no hc
   have hT := hT.cc hc
   have hrnd := hrnd.no hc
   have hb3 := hb3.no hc
   have hb7 := hb7.no hc
   have hb8 := hb8.no hc
   refine aB hc ?_
   refine bh ?_ ?_
   ·
    refine ax rfl rfl (ai qg rfl rfl (db (hp) (bp _) (by omega)) ?_)
    rintro _ w32 ⟨u78, ok78, rfl, hu78, hok78, hup78, hc⟩
    refine ⟨_, rfl, hc, ?_⟩
    have hzw32 := hc.size
    have HC := HC.tr hc
    have hra := hra.no hc
    have hwa := hwa.no hc
    have hna := hna.cc hc
    have hrb := hrb.no hc
    have hwb := hwb.no hc
    have hnb := hnb.cc hc
    have hp := hp.no hc
    have hq := hq.no hc
    have hgr := hgr.no hc
    have hT := hT.cc hc
    have hrnd := hrnd.no hc
    have hb3 := hb3.no hc
    have hb7 := hb7.no hc
    have hb8 := hb8.no hc
    refine aB hc ?_
    refine wsm ?_
    refine ws1 rfl (aP rfl rfl) ?_
    refine ws1 rfl (aP rfl rfl) ?_
    have hltg3 := hb3.lt
    have hltg7 := hb7.lt
    have hltg8 := hb8.lt
    refine ax rfl rfl (ea3 (fun w33 g12 hg12 hb12 hc hsz12 => ⟨hc, ?_⟩))
    have hzw33 := hc.size
    have hge12 := HC.geo hg12
    have HC := HC.tr hc
    have hra := hra.no hc
    have hwa := hwa.no hc
    have hna := hna.cc hc
    have hrb := hrb.no hc
    have hwb := hwb.no hc
    have hnb := hnb.cc hc
    have hp := hp.no hc
    have hq := hq.no hc
    have hgr := hgr.no hc
    have hT := hT.cc hc
    have hrnd := hrnd.no hc
    have hb7 := hb7.no hc
    have hb8 := hb8.no hc
    refine aB hc ?_
    refine bf rfl rfl (esh au hb12 (fun w34 hb12 hc hsz => ?_))
    have hzw34 := hc.size
    have HC := HC.n hc
    first | have hra := hra.cc hc | have hra := hra.cT hc
    first | have hwa := hwa.cc hc | have hwa := hwa.cT hc
    have hna := hna.cc hc
    first | have hrb := hrb.cc hc | have hrb := hrb.cT hc
    first | have hwb := hwb.cc hc | have hwb := hwb.cT hc
    have hnb := hnb.cc hc
    first | have hp := hp.cc hc | have hp := hp.cT hc
    first | have hq := hq.cc hc | have hq := hq.cT hc
    first | have hgr := hgr.cc hc | have hgr := hgr.cT hc
    have hT := hT.cc hc
    first | have hrnd := hrnd.cc hc | have hrnd := hrnd.cT hc
    have hb7 := hb7.cc hc
    have hb8 := hb8.cc hc
    refine wsa ?_
    refine aW ?_
    exact xme ⟨_, _, _, rfl, HC, hra, hwa, hna, hrb, hwb, hnb, hp, hq, hgr, hT, hrnd, hb7, hb8, hb12, hu78, hok78, hup78, (by omega)⟩
   have hltg3 := hb3.lt
   have hltg7 := hb7.lt
   have hltg8 := hb8.lt
   refine ax rfl rfl (ea3 (fun w35 g12 hg12 hb12 hc hsz12 => ⟨hc, ?_⟩))
   have hzw35 := hc.size
   have hge12 := HC.geo hg12
   have HC := HC.tr hc
   have hra := hra.no hc
   have hwa := hwa.no hc
   have hna := hna.cc hc
   have hrb := hrb.no hc
   have hwb := hwb.no hc
   have hnb := hnb.cc hc
   have hp := hp.no hc
   have hq := hq.no hc
   have hgr := hgr.no hc
   have hT := hT.cc hc
   have hrnd := hrnd.no hc
   have hb7 := hb7.no hc
   have hb8 := hb8.no hc
   refine aB hc ?_
   refine ax rfl rfl (ai qg rfl rfl (db (hp) (bp _) (by omega)) ?_)
   rintro _ w36 ⟨u78, ok78, rfl, hu78, hok78, hup78, hc⟩
   refine ⟨_, rfl, hc, ?_⟩
   have hzw36 := hc.size
   have HC := HC.tr hc
   have hra := hra.no hc
   have hwa := hwa.no hc
   have hna := hna.cc hc
   have hrb := hrb.no hc
   have hwb := hwb.no hc
   have hnb := hnb.cc hc
   have hp := hp.no hc
   have hq := hq.no hc
   have hgr := hgr.no hc
   have hT := hT.cc hc
   have hrnd := hrnd.no hc
   have hb7 := hb7.no hc
   have hb8 := hb8.no hc
   have hb12 := hb12.no hc
   refine aB hc ?_
   refine wsm ?_
   refine ws1 rfl (aP rfl rfl) ?_
   refine ws1 rfl (aP rfl rfl) ?_
   refine bf rfl rfl (esh au hb12 (fun w37 hb12 hc hsz => ?_))
   have hzw37 := hc.size
   have HC := HC.n hc
   first | have hra := hra.cc hc | have hra := hra.cT hc
   first | have hwa := hwa.cc hc | have hwa := hwa.cT hc
   have hna := hna.cc hc
   first | have hrb := hrb.cc hc | have hrb := hrb.cT hc
   first | have hwb := hwb.cc hc | have hwb := hwb.cT hc
   have hnb := hnb.cc hc
   first | have hp := hp.cc hc | have hp := hp.cT hc
   first | have hq := hq.cc hc | have hq := hq.cT hc
   first | have hgr := hgr.cc hc | have hgr := hgr.cT hc
   have hT := hT.cc hc
   first | have hrnd := hrnd.cc hc | have hrnd := hrnd.cT hc
   have hb7 := hb7.cc hc
   have hb8 := hb8.cc hc
   refine wsa ?_
   refine aW ?_
   exact xme ⟨_, _, _, rfl, HC, hra, hwa, hna, hrb, hwb, hnb, hp, hq, hgr, hT, hrnd, hb7, hb8, hb12, hu78, hok78, hup78, (by omega)⟩
  rintro _ w42 ⟨u78, ok78, g12, rfl, HC, hra, hwa, hna, hrb, hwb, hnb, hp, hq, hgr, hT, hrnd, hb7, hb8, hb12, hu78, hok78, hup78, hgtg12⟩
  have hzw42 := HC.size
  refine gP (fun e w' => ∃ (u89 : List UInt8) (ok89 : Bool) (g14 : Nat), e = [(2, .slice Agr lgr cgr), (7, .pointer (some ⟨g7, 0, none⟩)), (8, .pointer (some ⟨g8, 0, none⟩)), (9, i64 m), (10, i64 n), (11, i64 i), (12, .pointer (some ⟨g12, 0, none⟩)), (13, .bool ok78), (14, .pointer (some ⟨g14, 0, none⟩)), (15, .bool ok89)] ∧ (Ch No w w') ∧ (SI w' (fun k => k < w.heap.size) eRD Ara lra cra ra) ∧ (SI w' (fun k => k < w.heap.size) ePR Awa lwa cwa wa) ∧ (NS w' (fun k => k < w.heap.size) ra) ∧ (SI w' (fun k => k < w.heap.size) eRD Arb lrb crb rb) ∧ (SI w' (fun k => k < w.heap.size) ePR Awb lwb cwb wb) ∧ (NS w' (fun k => k < w.heap.size) rb) ∧ (SI w' (fun k => k < w.heap.size) eHs Ap lp cp p) ∧ (SI w' (fun k => k < w.heap.size) eHs Aq lq cq q) ∧ (SI w' (fun k => k < w.heap.size) eHs Agr lgr cgr gr) ∧ (Tabs w') ∧ (Sl w' (fun k => k = 0) aO (some ⟨0, 0, none⟩) 64 64 rk) ∧ (Blk w' g7 28 ([i64 sa, i64 na, .bool ba, .slice Ara lra cra, .slice Awa lwa cwa, .slice Ap lp cp] : List Value).toArray) ∧ (Blk w' g8 28 ([i64 sb, i64 nb, .bool bb, .slice Arb lrb crb, .slice Awb lwb cwb, .slice Aq lq cq] : List Value).toArray) ∧ (Blk w' g12 34 (List.map u8v u78).toArray) ∧ (Blk w' g14 34 (List.map u8v u89).toArray) ∧ (u89.length = 32) ∧ (ok89 = true ↔ (1 ≤ n ∧ n ≤ 1099511627776 ∧ 0 ≤ i ∧ i < n ∧ q.length = (trn n.toNat i.toNat).length)) ∧ (ok89 = true → u89 = up2 (sd n.toNat i.toNat) q (cm (cd (RC.mk sb nb bb (rb.map RD.abs) wb)))) ∧ (w.heap.size ≤ g14)) ?_ ?_
  ·
   refine wdr (.q 0 [0, 0, 0, 1] (.st 5 0 (.st 6 1 (.alt (.st 4 2 (.alt (.q 7 [2, 0, 0, 0, 2, 3, 0] .nil) (.st 11 2 (.q 7 [2, 0, 0, 0] (.st 12 3 (.st 13 0 .nil)))))) (.st 11 2 (.st 4 2 (.q 7 [2, 0, 0, 0] (.st 12 3 (.st 13 0 .nil))))))))) 12 No (fun w43 hc hszw43 => ?_)
   have hzw43 := hc.size
   have HC := HC.tr hc
   have hra := hra.no hc
   have hwa := hwa.no hc
   have hna := hna.cc hc
   have hrb := hrb.no hc
   have hwb := hwb.no hc
   have hnb := hnb.cc hc
   have hp := hp.no hc
   have hq := hq.no hc
   have hgr := hgr.no hc
   have hT := hT.cc hc
   have hrnd := hrnd.no hc
   have hb7 := hb7.no hc
   have hb8 := hb8.no hc
   have hb12 := hb12.no hc
   have hS : Ch No w43 w43 := Ch.refl _ _
   iterate 2 refine wsm ?_
   refine ws1 rfl (pfl 0 underlying28) ?_
   refine ws2 rfl (bE (cs := [i64 sb, i64 nb, .bool bb, .slice Arb lrb crb, .slice Awb lwb cwb]) underlying25 rfl (szL ej rfl) rfl (fun _ h => bR (p := []) (q := ([i64 sb, i64 nb, .bool bb, .slice Arb lrb crb, .slice Awb lwb cwb] : List Value)) (r := ([.slice Aq lq cq] : List Value)) (hb8.ch h (fun h => h)) rfl rfl)) ?_
   refine ws1 rfl (pfl 5 underlying28) ?_
   refine ws2 rfl (aE underlying26 rfl rfl (fun _ h => h.cell (fun h => h) (hb8.cell rfl))) ?_
   refine bh ?_ ?_
   rotate_left
   ·
    have hltg7 := hb7.lt
    have hltg8 := hb8.lt
    have hltg12 := hb12.lt
    refine ax rfl rfl (ea3 (fun w51 g14 hg14 hb14 hc hsz14 => ⟨hc, ?_⟩))
    have hzw51 := hc.size
    have hge14 := HC.geo hg14
    have HC := HC.tr hc
    have hra := hra.no hc
    have hwa := hwa.no hc
    have hna := hna.cc hc
    have hrb := hrb.no hc
    have hwb := hwb.no hc
    have hnb := hnb.cc hc
    have hp := hp.no hc
    have hq := hq.no hc
    have hgr := hgr.no hc
    have hT := hT.cc hc
    have hrnd := hrnd.no hc
    have hb7 := hb7.no hc
    have hb8 := hb8.no hc
    have hb12 := hb12.no hc
    refine aB hc ?_
    refine ax rfl rfl (ai ent9 rfl rfl (fD (hrb) (hwb) hnb (by omega) (by omega) hRb) ?_)
    rintro _ w52 ⟨rfl, hc⟩
    refine ⟨_, rfl, hc, ?_⟩
    have hzw52 := hc.size
    have HC := HC.tr hc
    have hra := hra.no hc
    have hwa := hwa.no hc
    have hna := hna.cc hc
    have hrb := hrb.no hc
    have hwb := hwb.no hc
    have hnb := hnb.cc hc
    have hp := hp.no hc
    have hq := hq.no hc
    have hgr := hgr.no hc
    have hT := hT.cc hc
    have hrnd := hrnd.no hc
    have hb7 := hb7.no hc
    have hb8 := hb8.no hc
    have hb12 := hb12.no hc
    have hb14 := hb14.no hc
    refine aB hc ?_
    refine ax rfl rfl (ai qg rfl rfl (db (hq) (bp _) (by omega)) ?_)
    rintro _ w53 ⟨u89, ok89, rfl, hu89, hok89, hup89, hc⟩
    refine ⟨_, rfl, hc, ?_⟩
    have hzw53 := hc.size
    have HC := HC.tr hc
    have hra := hra.no hc
    have hwa := hwa.no hc
    have hna := hna.cc hc
    have hrb := hrb.no hc
    have hwb := hwb.no hc
    have hnb := hnb.cc hc
    have hp := hp.no hc
    have hq := hq.no hc
    have hgr := hgr.no hc
    have hT := hT.cc hc
    have hrnd := hrnd.no hc
    have hb7 := hb7.no hc
    have hb8 := hb8.no hc
    have hb12 := hb12.no hc
    have hb14 := hb14.no hc
    refine aB hc ?_
    refine wsm ?_
    refine ws1 rfl (aP rfl rfl) ?_
    refine ws1 rfl (aP rfl rfl) ?_
    refine bf rfl rfl (esh au hb14 (fun w54 hb14 hc hsz => ?_))
    have hzw54 := hc.size
    have HC := HC.n hc
    first | have hra := hra.cc hc | have hra := hra.cT hc
    first | have hwa := hwa.cc hc | have hwa := hwa.cT hc
    have hna := hna.cc hc
    first | have hrb := hrb.cc hc | have hrb := hrb.cT hc
    first | have hwb := hwb.cc hc | have hwb := hwb.cT hc
    have hnb := hnb.cc hc
    first | have hp := hp.cc hc | have hp := hp.cT hc
    first | have hq := hq.cc hc | have hq := hq.cT hc
    first | have hgr := hgr.cc hc | have hgr := hgr.cT hc
    have hT := hT.cc hc
    first | have hrnd := hrnd.cc hc | have hrnd := hrnd.cT hc
    have hb7 := hb7.cc hc
    have hb8 := hb8.cc hc
    have hb12 := hb12.cc hc
    refine wsa ?_
    refine aW ?_
    exact xme ⟨_, _, _, rfl, HC, hra, hwa, hna, hrb, hwb, hnb, hp, hq, hgr, hT, hrnd, hb7, hb8, hb12, hb14, hu89, hok89, hup89, (by omega)⟩
   refine ax rfl rfl (ai ent9 rfl rfl (fD (hrb) (hwb) hnb (by omega) (by omega) hRb) ?_)
   rintro _ w44 ⟨rfl, hc⟩
   refine ⟨_, rfl, hc, ?_⟩
   have hzw44 := hc.size
   have HC := HC.tr hc
   have hra := hra.no hc
   have hwa := hwa.no hc
   have hna := hna.cc hc
   have hrb := hrb.no hc
   have hwb := hwb.no hc
   have hnb := hnb.cc hc
   have hp := hp.no hc
   have hq := hq.no hc
   have hgr := hgr.no hc
   have hT := hT.cc hc
   have hrnd := hrnd.no hc
   have hb7 := hb7.no hc
   have hb8 := hb8.no hc
   have hb12 := hb12.no hc
   refine aB hc ?_
   refine bh ?_ ?_
   ·
    refine ax rfl rfl (ai qg rfl rfl (db (hq) (bp _) (by omega)) ?_)
    rintro _ w45 ⟨u89, ok89, rfl, hu89, hok89, hup89, hc⟩
    refine ⟨_, rfl, hc, ?_⟩
    have hzw45 := hc.size
    have HC := HC.tr hc
    have hra := hra.no hc
    have hwa := hwa.no hc
    have hna := hna.cc hc
    have hrb := hrb.no hc
    have hwb := hwb.no hc
    have hnb := hnb.cc hc
    have hp := hp.no hc
    have hq := hq.no hc
    have hgr := hgr.no hc
    have hT := hT.cc hc
    have hrnd := hrnd.no hc
    have hb7 := hb7.no hc
    have hb8 := hb8.no hc
    have hb12 := hb12.no hc
    refine aB hc ?_
    refine wsm ?_
    refine ws1 rfl (aP rfl rfl) ?_
    refine ws1 rfl (aP rfl rfl) ?_
    have hltg7 := hb7.lt
    have hltg8 := hb8.lt
    have hltg12 := hb12.lt
    refine ax rfl rfl (ea3 (fun w46 g14 hg14 hb14 hc hsz14 => ⟨hc, ?_⟩))
    have hzw46 := hc.size
    have hge14 := HC.geo hg14
    have HC := HC.tr hc
    have hra := hra.no hc
    have hwa := hwa.no hc
    have hna := hna.cc hc
    have hrb := hrb.no hc
    have hwb := hwb.no hc
    have hnb := hnb.cc hc
    have hp := hp.no hc
    have hq := hq.no hc
    have hgr := hgr.no hc
    have hT := hT.cc hc
    have hrnd := hrnd.no hc
    have hb7 := hb7.no hc
    have hb8 := hb8.no hc
    have hb12 := hb12.no hc
    refine aB hc ?_
    refine bf rfl rfl (esh au hb14 (fun w47 hb14 hc hsz => ?_))
    have hzw47 := hc.size
    have HC := HC.n hc
    first | have hra := hra.cc hc | have hra := hra.cT hc
    first | have hwa := hwa.cc hc | have hwa := hwa.cT hc
    have hna := hna.cc hc
    first | have hrb := hrb.cc hc | have hrb := hrb.cT hc
    first | have hwb := hwb.cc hc | have hwb := hwb.cT hc
    have hnb := hnb.cc hc
    first | have hp := hp.cc hc | have hp := hp.cT hc
    first | have hq := hq.cc hc | have hq := hq.cT hc
    first | have hgr := hgr.cc hc | have hgr := hgr.cT hc
    have hT := hT.cc hc
    first | have hrnd := hrnd.cc hc | have hrnd := hrnd.cT hc
    have hb7 := hb7.cc hc
    have hb8 := hb8.cc hc
    have hb12 := hb12.cc hc
    refine wsa ?_
    refine aW ?_
    exact xme ⟨_, _, _, rfl, HC, hra, hwa, hna, hrb, hwb, hnb, hp, hq, hgr, hT, hrnd, hb7, hb8, hb12, hb14, hu89, hok89, hup89, (by omega)⟩
   have hltg7 := hb7.lt
   have hltg8 := hb8.lt
   have hltg12 := hb12.lt
   refine ax rfl rfl (ea3 (fun w48 g14 hg14 hb14 hc hsz14 => ⟨hc, ?_⟩))
   have hzw48 := hc.size
   have hge14 := HC.geo hg14
   have HC := HC.tr hc
   have hra := hra.no hc
   have hwa := hwa.no hc
   have hna := hna.cc hc
   have hrb := hrb.no hc
   have hwb := hwb.no hc
   have hnb := hnb.cc hc
   have hp := hp.no hc
   have hq := hq.no hc
   have hgr := hgr.no hc
   have hT := hT.cc hc
   have hrnd := hrnd.no hc
   have hb7 := hb7.no hc
   have hb8 := hb8.no hc
   have hb12 := hb12.no hc
   refine aB hc ?_
   refine ax rfl rfl (ai qg rfl rfl (db (hq) (bp _) (by omega)) ?_)
   rintro _ w49 ⟨u89, ok89, rfl, hu89, hok89, hup89, hc⟩
   refine ⟨_, rfl, hc, ?_⟩
   have hzw49 := hc.size
   have HC := HC.tr hc
   have hra := hra.no hc
   have hwa := hwa.no hc
   have hna := hna.cc hc
   have hrb := hrb.no hc
   have hwb := hwb.no hc
   have hnb := hnb.cc hc
   have hp := hp.no hc
   have hq := hq.no hc
   have hgr := hgr.no hc
   have hT := hT.cc hc
   have hrnd := hrnd.no hc
   have hb7 := hb7.no hc
   have hb8 := hb8.no hc
   have hb12 := hb12.no hc
   have hb14 := hb14.no hc
   refine aB hc ?_
   refine wsm ?_
   refine ws1 rfl (aP rfl rfl) ?_
   refine ws1 rfl (aP rfl rfl) ?_
   refine bf rfl rfl (esh au hb14 (fun w50 hb14 hc hsz => ?_))
   have hzw50 := hc.size
   have HC := HC.n hc
   first | have hra := hra.cc hc | have hra := hra.cT hc
   first | have hwa := hwa.cc hc | have hwa := hwa.cT hc
   have hna := hna.cc hc
   first | have hrb := hrb.cc hc | have hrb := hrb.cT hc
   first | have hwb := hwb.cc hc | have hwb := hwb.cT hc
   have hnb := hnb.cc hc
   first | have hp := hp.cc hc | have hp := hp.cT hc
   first | have hq := hq.cc hc | have hq := hq.cT hc
   first | have hgr := hgr.cc hc | have hgr := hgr.cT hc
   have hT := hT.cc hc
   first | have hrnd := hrnd.cc hc | have hrnd := hrnd.cT hc
   have hb7 := hb7.cc hc
   have hb8 := hb8.cc hc
   have hb12 := hb12.cc hc
   refine wsa ?_
   refine aW ?_
   exact xme ⟨_, _, _, rfl, HC, hra, hwa, hna, hrb, hwb, hnb, hp, hq, hgr, hT, hrnd, hb7, hb8, hb12, hb14, hu89, hok89, hup89, (by omega)⟩
  rintro _ w55 ⟨u89, ok89, g14, rfl, HC, hra, hwa, hna, hrb, hwb, hnb, hp, hq, hgr, hT, hrnd, hb7, hb8, hb12, hb14, hu89, hok89, hup89, hgtg14⟩
  have hzw55 := HC.size
  refine ab ?_
  refine wdr (.q 0 [0, 0, 0, 0, 1] (.st 6 0 (.st 7 1 (.st 9 0 (.st 10 1 (.st 12 0 (.st 13 1 (.st 15 0 (.st 5 2 (.st 8 0 (.st 11 2 (.st 14 0 (.q 16 [2, 0, 0, 0, 0, 0, 0, 0] .nil))))))))))))) 24 No (fun w56 hc hszw56 => ?_)
  have hzw56 := hc.size
  have HC := HC.tr hc
  have hra := hra.no hc
  have hwa := hwa.no hc
  have hna := hna.cc hc
  have hrb := hrb.no hc
  have hwb := hwb.no hc
  have hnb := hnb.cc hc
  have hp := hp.no hc
  have hq := hq.no hc
  have hgr := hgr.no hc
  have hT := hT.cc hc
  have hrnd := hrnd.no hc
  have hb7 := hb7.no hc
  have hb8 := hb8.no hc
  have hb12 := hb12.no hc
  have hb14 := hb14.no hc
  have hS : Ch No w56 w56 := Ch.refl _ _
  iterate 3 refine wsm ?_
  refine ws1 rfl (pfl 0 underlying28) ?_
  refine ws2 rfl (bE (cs := [i64 sa, i64 na, .bool ba, .slice Ara lra cra, .slice Awa lwa cwa]) underlying25 rfl (szL ej rfl) rfl (fun _ h => bR (p := []) (q := ([i64 sa, i64 na, .bool ba, .slice Ara lra cra, .slice Awa lwa cwa] : List Value)) (r := ([.slice Ap lp cp] : List Value)) (hb7.ch h (fun h => h)) rfl rfl)) ?_
  refine ws1 rfl (pfl 5 underlying28) ?_
  refine ws2 rfl (aE underlying26 rfl rfl (fun _ h => h.cell (fun h => h) (hb7.cell rfl))) ?_
  refine ws1 rfl (pfl 0 underlying28) ?_
  refine ws2 rfl (bE (cs := [i64 sb, i64 nb, .bool bb, .slice Arb lrb crb, .slice Awb lwb cwb]) underlying25 rfl (szL ej rfl) rfl (fun _ h => bR (p := []) (q := ([i64 sb, i64 nb, .bool bb, .slice Arb lrb crb, .slice Awb lwb cwb] : List Value)) (r := ([.slice Aq lq cq] : List Value)) (hb8.ch h (fun h => h)) rfl rfl)) ?_
  refine ws1 rfl (pfl 5 underlying28) ?_
  refine ws2 rfl (aE underlying26 rfl rfl (fun _ h => h.cell (fun h => h) (hb8.cell rfl))) ?_
  refine wsm ?_
  refine ax rfl rfl (ai ent11 rfl rfl (jM (hra) (hwa) hna (by omega) (by omega) hRa) ?_)
  rintro _ w57 ⟨A98, l98, c98, rfl, hB98, hn98, hc⟩
  refine ⟨_, rfl, hc, ?_⟩
  have hzw57 := hc.size
  have HC := HC.tr hc
  have hra := hra.no hc
  have hwa := hwa.no hc
  have hna := hna.cc hc
  have hrb := hrb.no hc
  have hwb := hwb.no hc
  have hnb := hnb.cc hc
  have hp := hp.no hc
  have hq := hq.no hc
  have hgr := hgr.no hc
  have hT := hT.cc hc
  have hrnd := hrnd.no hc
  have hb7 := hb7.no hc
  have hb8 := hb8.no hc
  have hb12 := hb12.no hc
  have hb14 := hb14.no hc
  refine aB hc ?_
  refine ws1 rfl (dj (vs' := [.slice A98 l98 c98, .slice Ap lp cp]) (cs := ([.slice A98 l98 c98, .slice Ap lp cp] : List Value)) (cs' := ([.slice A98 l98 c98, .slice Ap lp cp] : List Value)) rfl rfl rfl (fun _ => by kernel_rfl)) ?_
  refine ax rfl rfl (ai ent11 rfl rfl (jM (hrb) (hwb) hnb (by omega) (by omega) hRb) ?_)
  rintro _ w58 ⟨A104, l104, c104, rfl, hB104, hn104, hc⟩
  refine ⟨_, rfl, hc, ?_⟩
  have hzw58 := hc.size
  have HC := HC.tr hc
  have hra := hra.no hc
  have hwa := hwa.no hc
  have hna := hna.cc hc
  have hrb := hrb.no hc
  have hwb := hwb.no hc
  have hnb := hnb.cc hc
  have hp := hp.no hc
  have hq := hq.no hc
  have hgr := hgr.no hc
  have hT := hT.cc hc
  have hrnd := hrnd.no hc
  have hb7 := hb7.no hc
  have hb8 := hb8.no hc
  have hb12 := hb12.no hc
  have hb14 := hb14.no hc
  have hB98 := hB98.no hc
  refine aB hc ?_
  refine ws1 rfl (dj (vs' := [.slice A104 l104 c104, .slice Aq lq cq]) (cs := ([.slice A104 l104 c104, .slice Aq lq cq] : List Value)) (cs' := ([.slice A104 l104 c104, .slice Aq lq cq] : List Value)) rfl rfl rfl (fun _ => by kernel_rfl)) ?_
  refine ax rfl rfl (ai ent14 rfl rfl (nv (hB98) (by omega) (hp) (by omega) (hB104) (by omega) (hq) (by omega) (hgr) (by omega) hrnd) ?_)
  rintro _ w59 ⟨A109, l109, c109, B109, k109, d109, x109, y109, f109, rfl, hX, hY, hlx, hly, hft, hfn, hc⟩
  refine ⟨_, rfl, hc, ?_⟩
  have hzw59 := hc.size
  have HC := HC.tr hc
  have hra := hra.no hc
  have hwa := hwa.no hc
  have hna := hna.cc hc
  have hrb := hrb.no hc
  have hwb := hwb.no hc
  have hnb := hnb.cc hc
  have hp := hp.no hc
  have hq := hq.no hc
  have hgr := hgr.no hc
  have hT := hT.cc hc
  have hb7 := hb7.no hc
  have hb8 := hb8.no hc
  have hb12 := hb12.no hc
  have hb14 := hb14.no hc
  refine aB hc ?_
  refine wsm ?_
  refine ws1 rfl (aP rfl rfl) ?_
  refine ws1 rfl (aP rfl rfl) ?_
  refine ws1 rfl (aP rfl rfl) ?_
  iterate 3 refine wsa ?_
  refine aW (ae (ab (ab (aa ?_))))
  iterate 2 refine wmv ?_
  refine az (d := 114) rfl (fun q114 => ?_) (fun q114 => ?_)
  rotate_left
  ·
   iterate 12 refine aM gq rfl rfl ?_
   refine wz (ar rfl rfl) ?_
   refine ac (ae ?_)
   refine bx rfl (rfl) ?_
   refine al (ae (ab (aa ?_)))
   refine wz (pfl 0 underlying28) ?_
   refine wz (pla underlying25 ej (bR (p := []) (q := ([i64 sa, i64 na, .bool ba, .slice Ara lra cra, .slice Awa lwa cwa] : List Value)) (r := ([.slice Ap lp cp] : List Value)) hb7 rfl rfl)) ?_
   refine wz (pfl 0 underlying28) ?_
   refine wz (pla underlying25 ej (bR (p := []) (q := ([i64 sb, i64 nb, .bool bb, .slice Arb lrb crb, .slice Awb lwb cwb] : List Value)) (r := ([.slice Aq lq cq] : List Value)) hb8 rfl rfl)) ?_
   refine wle rfl (ai ent13 rfl rfl (kD (hra) (hwa) hna (hrb) (hwb) hnb (by omega) (by omega)) ?_)
   rintro _ w70 ⟨x132, rfl, hx132, hc⟩
   refine ⟨_, rfl, ?_⟩
   have hzw70 := hc.size
   have HC := HC.tr hc
   have hp := hp.no hc
   have hq := hq.no hc
   have hgr := hgr.no hc
   have hT := hT.cc hc
   have hb12 := hb12.no hc
   have hb14 := hb14.no hc
   refine was ?_
   refine ac (ae (ab (aa ?_)))
   refine wmv ?_
   refine wz (bc rfl) ?_
   refine wmv ?_
   refine az (d := 135) rfl (fun q135 => ?_) (fun q135 => ?_)
   ·
    iterate 2 refine aM gq rfl rfl ?_
    refine wz (am rfl rfl) ?_
    refine wmv ?_
    refine aM gq rfl rfl ?_
    refine wz (am rfl rfl) ?_
    refine wmv ?_
    iterate 7 refine aM gq rfl rfl ?_
    refine wz (am rfl rfl) ?_
    refine wmv ?_
    refine aM gq rfl rfl ?_
    refine wz (am rfl rfl) ?_
    refine wmv ?_
    refine bX gq (ai eO rfl rfl (bk hT) ?_)
    rintro _ w71 ⟨rfl, hc⟩
    refine ⟨_, rfl, ?_⟩
    have hzw71 := hc.size
    have HC := HC.tr hc
    refine wz (am rfl rfl) ?_
    refine was ?_
    refine ac (ae (ao ?_))
    refine aj ((aK rfl rfl)) ?_
    exact ⟨rfl, HC⟩
   refine aq gq rfl rfl (aS rfl) ?_
   refine aq gq rfl rfl (bc rfl) ?_
   refine wz (ar rfl rfl) ?_
   refine wmv ?_
   refine az (d := 139) rfl (fun q139 => ?_) (fun q139 => ?_)
   ·
    refine aM gq rfl rfl ?_
    refine wz (am rfl rfl) ?_
    refine wmv ?_
    iterate 7 refine aM gq rfl rfl ?_
    refine wz (am rfl rfl) ?_
    refine wmv ?_
    refine aM gq rfl rfl ?_
    refine wz (am rfl rfl) ?_
    refine wmv ?_
    refine bX gq (ai eO rfl rfl (bk hT) ?_)
    rintro _ w72 ⟨rfl, hc⟩
    refine ⟨_, rfl, ?_⟩
    have hzw72 := hc.size
    have HC := HC.tr hc
    refine wz (am rfl rfl) ?_
    refine was ?_
    refine ac (ae (ao ?_))
    refine aj ((aK rfl rfl)) ?_
    exact ⟨rfl, HC⟩
   refine aq gq rfl rfl (aS rfl) ?_
   refine wz (ar rfl rfl) ?_
   refine wmv ?_
   refine az (d := 142) rfl (fun q142 => ?_) (fun q142 => ?_)
   ·
    iterate 7 refine aM gq rfl rfl ?_
    refine wz (am rfl rfl) ?_
    refine wmv ?_
    refine aM gq rfl rfl ?_
    refine wz (am rfl rfl) ?_
    refine wmv ?_
    refine bX gq (ai eO rfl rfl (bk hT) ?_)
    rintro _ w73 ⟨rfl, hc⟩
    refine ⟨_, rfl, ?_⟩
    have hzw73 := hc.size
    have HC := HC.tr hc
    refine wz (am rfl rfl) ?_
    refine was ?_
    refine ac (ae (ao ?_))
    refine aj ((aK rfl rfl)) ?_
    exact ⟨rfl, HC⟩
   refine aq gq rfl rfl (pla underlying34 au (aN hb12)) ?_
   refine aq gq rfl rfl (pla underlying34 au (aN hb14)) ?_
   refine aq gq rfl rfl (aS rfl) ?_
   refine aq gq rfl rfl (aS rfl) ?_
   refine aq gq rfl rfl (aS rfl) ?_
   refine bX gq (ai ent15 rfl rfl (iL (hu78) (hu89) (hgr) (by omega)) ?_)
   rintro _ w74 ⟨x148, rfl, hx148, hc⟩
   refine ⟨_, rfl, ?_⟩
   have hzw74 := hc.size
   have HC := HC.tr hc
   have hp := hp.no hc
   have hq := hq.no hc
   have hgr := hgr.no hc
   have hT := hT.cc hc
   refine aq gq rfl rfl (bc rfl) ?_
   refine wz (ar rfl rfl) ?_
   refine wmv ?_
   refine az (d := 151) rfl (fun q151 => ?_) (fun q151 => ?_)
   ·
    refine aM gq rfl rfl ?_
    refine wz (am rfl rfl) ?_
    refine wmv ?_
    refine bX gq (ai eO rfl rfl (bk hT) ?_)
    rintro _ w75 ⟨rfl, hc⟩
    refine ⟨_, rfl, ?_⟩
    have hzw75 := hc.size
    have HC := HC.tr hc
    refine wz (am rfl rfl) ?_
    refine was ?_
    refine ac (ae (ao ?_))
    refine aj ((aK rfl rfl)) ?_
    exact ⟨rfl, HC⟩
   refine aq gq rfl rfl (aS rfl) ?_
   refine wz (ar rfl rfl) ?_
   refine wmv ?_
   refine az (d := 154) rfl (fun q154 => ?_) (fun q154 => ?_)
   ·
    refine bX gq (ai eO rfl rfl (bk hT) ?_)
    rintro _ w76 ⟨rfl, hc⟩
    refine ⟨_, rfl, ?_⟩
    have hzw76 := hc.size
    have HC := HC.tr hc
    refine wz (am rfl rfl) ?_
    refine was ?_
    refine ac (ae (ao ?_))
    refine aj ((aK rfl rfl)) ?_
    exact ⟨rfl, HC⟩
   have hA1 : ok78 = true := by simpa using q135
   have hA2 : ok89 = true := by simpa using q139
   have hA3 : x132 = false := by simpa using q142
   have hA5 : x148 = true := by simpa using q151
   have hA4 : f109 = false := by simpa using q154
   have hk1 := hok78.1 hA1
   have hk2 := hok89.1 hA2
   obtain ⟨hm1, hm2, hm3, htw⟩ := hx148 hA5
   have hone := hfn hA4 hk1 hk2 ⟨hm1, hm2, hm3, by simpa using (htw.2.2 rfl).1⟩
   have hAB := jw hRa hRb (by have := hk1.2.2.2.1; omega) (by omega) hk1.2.2.2.2 hk2.2.2.2.2 hp.ok hq.ok hgr.ok (by rw [← hup78 hA1, ← hup89 hA2]; exact htw) hone (fun f hf => List.mem_append.2 (.inl (List.mem_append.2 (.inl hf)))) (fun f hf => List.mem_append.2 (.inr hf)) (fun f hf => List.mem_append.2 (.inl (List.mem_append.2 (.inr hf))))
   have hs := hx132.2 (by simpa only [RC.mk.injEq] using hAB)
   rw [hA3] at hs
   exact absurd hs (by decide)
  refine aq gq rfl rfl (aS rfl) ?_
  refine aq gq rfl rfl (rT underlying38 underlying5 underlying9 rfl ((hX).mono (G := fun _ => True) (fun _ _ _ => trivial)).len (fun _ e => e ▸ ((hX).mono (G := fun _ => True) (fun _ _ _ => trivial)).rd)) ?_
  refine aq gq rfl rfl (aS rfl) ?_
  refine aq gq rfl rfl (rT underlying38 underlying5 underlying9 rfl ((hY).mono (G := fun _ => True) (fun _ _ _ => trivial)).len (fun _ e => e ▸ ((hY).mono (G := fun _ => True) (fun _ _ _ => trivial)).rd)) ?_
  refine aq gq rfl rfl (jc rfl rfl) ?_
  refine aq gq rfl rfl (aS rfl) ?_
  refine bH (d := 120) (b' := false) rfl ((by rw [beq_str]; simpa using (hft q114).1)) ?_
  refine aq gq rfl rfl (aS rfl) ?_
  refine bX gq (ai ru rfl rfl (jN (hX) (by omega)) ?_)
  rintro _ w60 ⟨rfl, hc⟩
  refine ⟨_, rfl, ?_⟩
  have hzw60 := hc.size
  have HC := HC.tr hc
  have hra := hra.no hc
  have hwa := hwa.no hc
  have hna := hna.cc hc
  have hrb := hrb.no hc
  have hwb := hwb.no hc
  have hnb := hnb.cc hc
  have hp := hp.no hc
  have hq := hq.no hc
  have hgr := hgr.no hc
  have hT := hT.cc hc
  have hb7 := hb7.no hc
  have hb8 := hb8.no hc
  have hb12 := hb12.no hc
  have hb14 := hb14.no hc
  have hY := hY.no hc
  refine aq gq rfl rfl (aS rfl) ?_
  refine bX gq (ai ru rfl rfl (jN (hY) (by omega)) ?_)
  rintro _ w61 ⟨rfl, hc⟩
  refine ⟨_, rfl, ?_⟩
  have hzw61 := hc.size
  have HC := HC.tr hc
  have hra := hra.no hc
  have hwa := hwa.no hc
  have hna := hna.cc hc
  have hrb := hrb.no hc
  have hwb := hwb.no hc
  have hnb := hnb.cc hc
  have hp := hp.no hc
  have hq := hq.no hc
  have hgr := hgr.no hc
  have hT := hT.cc hc
  have hb7 := hb7.no hc
  have hb8 := hb8.no hc
  have hb12 := hb12.no hc
  have hb14 := hb14.no hc
  refine aq gq rfl rfl (p_neH (a := (shaF x109)) (b := (shaF y109)) (by kernel_rfl) underlying33 underlying5 sz5 rfl rfl (aD _) (aD _)) ?_
  refine aq gq rfl rfl (ar rfl rfl) ?_
  refine wz (am rfl rfl) ?_
  refine ac (ae ?_)
  refine bx rfl ((by rw [(hft q114).2]; simp)) ?_
  refine al (ae (ab (aa ?_)))
  refine wz (pfl 0 underlying28) ?_
  refine wz (pla underlying25 ej (bR (p := []) (q := ([i64 sa, i64 na, .bool ba, .slice Ara lra cra, .slice Awa lwa cwa] : List Value)) (r := ([.slice Ap lp cp] : List Value)) hb7 rfl rfl)) ?_
  refine wz (pfl 0 underlying28) ?_
  refine wz (pla underlying25 ej (bR (p := []) (q := ([i64 sb, i64 nb, .bool bb, .slice Arb lrb crb, .slice Awb lwb cwb] : List Value)) (r := ([.slice Aq lq cq] : List Value)) hb8 rfl rfl)) ?_
  refine wle rfl (ai ent13 rfl rfl (kD (hra) (hwa) hna (hrb) (hwb) hnb (by omega) (by omega)) ?_)
  rintro _ w62 ⟨x132, rfl, hx132, hc⟩
  refine ⟨_, rfl, ?_⟩
  have hzw62 := hc.size
  have HC := HC.tr hc
  have hp := hp.no hc
  have hq := hq.no hc
  have hgr := hgr.no hc
  have hT := hT.cc hc
  have hb12 := hb12.no hc
  have hb14 := hb14.no hc
  refine was ?_
  refine ac (ae (ab (aa ?_)))
  refine wmv ?_
  refine wz (bc rfl) ?_
  refine wmv ?_
  refine az (d := 135) rfl (fun q135 => ?_) (fun q135 => ?_)
  ·
   iterate 2 refine aM gq rfl rfl ?_
   refine wz (am rfl rfl) ?_
   refine wmv ?_
   refine aM gq rfl rfl ?_
   refine wz (am rfl rfl) ?_
   refine wmv ?_
   iterate 7 refine aM gq rfl rfl ?_
   refine wz (am rfl rfl) ?_
   refine wmv ?_
   refine aM gq rfl rfl ?_
   refine wz (am rfl rfl) ?_
   refine wmv ?_
   refine bX gq (ai eO rfl rfl (bk hT) ?_)
   rintro _ w63 ⟨rfl, hc⟩
   refine ⟨_, rfl, ?_⟩
   have hzw63 := hc.size
   have HC := HC.tr hc
   refine wz (am rfl rfl) ?_
   refine was ?_
   refine ac (ae (ao ?_))
   refine aj ((aK rfl rfl)) ?_
   exact ⟨rfl, HC⟩
  refine aq gq rfl rfl (aS rfl) ?_
  refine aq gq rfl rfl (bc rfl) ?_
  refine wz (ar rfl rfl) ?_
  refine wmv ?_
  refine az (d := 139) rfl (fun q139 => ?_) (fun q139 => ?_)
  ·
   refine aM gq rfl rfl ?_
   refine wz (am rfl rfl) ?_
   refine wmv ?_
   iterate 7 refine aM gq rfl rfl ?_
   refine wz (am rfl rfl) ?_
   refine wmv ?_
   refine aM gq rfl rfl ?_
   refine wz (am rfl rfl) ?_
   refine wmv ?_
   refine bX gq (ai eO rfl rfl (bk hT) ?_)
   rintro _ w65 ⟨rfl, hc⟩
   refine ⟨_, rfl, ?_⟩
   have hzw65 := hc.size
   have HC := HC.tr hc
   refine wz (am rfl rfl) ?_
   refine was ?_
   refine ac (ae (ao ?_))
   refine aj ((aK rfl rfl)) ?_
   exact ⟨rfl, HC⟩
  refine aq gq rfl rfl (aS rfl) ?_
  refine wz (ar rfl rfl) ?_
  refine wmv ?_
  refine az (d := 142) rfl (fun q142 => ?_) (fun q142 => ?_)
  ·
   iterate 7 refine aM gq rfl rfl ?_
   refine wz (am rfl rfl) ?_
   refine wmv ?_
   refine aM gq rfl rfl ?_
   refine wz (am rfl rfl) ?_
   refine wmv ?_
   refine bX gq (ai eO rfl rfl (bk hT) ?_)
   rintro _ w66 ⟨rfl, hc⟩
   refine ⟨_, rfl, ?_⟩
   have hzw66 := hc.size
   have HC := HC.tr hc
   refine wz (am rfl rfl) ?_
   refine was ?_
   refine ac (ae (ao ?_))
   refine aj ((aK rfl rfl)) ?_
   exact ⟨rfl, HC⟩
  refine aq gq rfl rfl (pla underlying34 au (aN hb12)) ?_
  refine aq gq rfl rfl (pla underlying34 au (aN hb14)) ?_
  refine aq gq rfl rfl (aS rfl) ?_
  refine aq gq rfl rfl (aS rfl) ?_
  refine aq gq rfl rfl (aS rfl) ?_
  refine bX gq (ai ent15 rfl rfl (iL (hu78) (hu89) (hgr) (by omega)) ?_)
  rintro _ w67 ⟨x148, rfl, hx148, hc⟩
  refine ⟨_, rfl, ?_⟩
  have hzw67 := hc.size
  have HC := HC.tr hc
  have hp := hp.no hc
  have hq := hq.no hc
  have hgr := hgr.no hc
  have hT := hT.cc hc
  refine aq gq rfl rfl (bc rfl) ?_
  refine wz (ar rfl rfl) ?_
  refine wmv ?_
  refine az (d := 151) rfl (fun q151 => ?_) (fun q151 => ?_)
  ·
   refine aM gq rfl rfl ?_
   refine wz (am rfl rfl) ?_
   refine wmv ?_
   refine bX gq (ai eO rfl rfl (bk hT) ?_)
   rintro _ w68 ⟨rfl, hc⟩
   refine ⟨_, rfl, ?_⟩
   have hzw68 := hc.size
   have HC := HC.tr hc
   refine wz (am rfl rfl) ?_
   refine was ?_
   refine ac (ae (ao ?_))
   refine aj ((aK rfl rfl)) ?_
   exact ⟨rfl, HC⟩
  refine aq gq rfl rfl (aS rfl) ?_
  refine wz (ar rfl rfl) ?_
  refine wmv ?_
  refine az (d := 154) rfl (fun q154 => ?_) (fun q154 => ?_)
  ·
   refine bX gq (ai eO rfl rfl (bk hT) ?_)
   rintro _ w69 ⟨rfl, hc⟩
   refine ⟨_, rfl, ?_⟩
   have hzw69 := hc.size
   have HC := HC.tr hc
   refine wz (am rfl rfl) ?_
   refine was ?_
   refine ac (ae (ao ?_))
   refine aj ((aK rfl rfl)) ?_
   exact ⟨rfl, HC⟩
  have hA1 : ok78 = true := by simpa using q135
  have hA2 : ok89 = true := by simpa using q139
  have hA3 : x132 = false := by simpa using q142
  have hA5 : x148 = true := by simpa using q151
  have hA4 : f109 = false := by simpa using q154
  have hk1 := hok78.1 hA1
  have hk2 := hok89.1 hA2
  obtain ⟨hm1, hm2, hm3, htw⟩ := hx148 hA5
  have hone := hfn hA4 hk1 hk2 ⟨hm1, hm2, hm3, by simpa using (htw.2.2 rfl).1⟩
  have hAB := jw hRa hRb (by have := hk1.2.2.2.1; omega) (by omega) hk1.2.2.2.2 hk2.2.2.2.2 hp.ok hq.ok hgr.ok (by rw [← hup78 hA1, ← hup89 hA2]; exact htw) hone (fun f hf => List.mem_append.2 (.inl (List.mem_append.2 (.inl hf)))) (fun f hf => List.mem_append.2 (.inr hf)) (fun f hf => List.mem_append.2 (.inl (List.mem_append.2 (.inr hf))))
  have hs := hx132.2 (by simpa only [RC.mk.injEq] using hAB)
  rw [hA3] at hs
  exact absurd hs (by decide)
end Go.Proofs.YtdencdfdikmgbaaGreatDoor
