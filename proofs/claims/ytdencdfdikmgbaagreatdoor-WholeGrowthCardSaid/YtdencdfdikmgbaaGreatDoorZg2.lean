/-
 Own text, printed by a program of mine (wip/gx): what functions of the program do, walked operation by operation.
-/
import Derived.Test.YtdencdfdikmgbaaGreatDoorWm2
import Derived.Test.YtdencdfdikmgbaaGreatDoorProg
import Derived.Test.YtdencdfdikmgbaaGreatDoorTab
import Derived.Test.YtdencdfdikmgbaaGreatDoorZS
import Derived.Test.YtdencdfdikmgbaaGreatDoorRxWk
import Derived.Test.YtdencdfdikmgbaaGreatDoorZg0
import Derived.Test.YtdencdfdikmgbaaGreatDoorZg1
set_option linter.unusedVariables false
set_option linter.unusedSimpArgs false
set_option maxHeartbeats 1000000
set_option maxRecDepth 20000
namespace Go.Proofs.YtdencdfdikmgbaaGreatDoor
open Go.RowKit Go.Gx
open Go.Plain
open Tryz
theorem oF {w : World} {n i : Int} {Aq : Option Addr} {lq cq : Nat} {Fq : Nat → Prop} {q : List (List UInt8)} {lf : List UInt8}  (hq : SI w Fq eHs Aq lq cq q) (hlf : lf.length = 32) (hlq : lq ≤ 1000000) (hrnd : Sl w (fun k => k = 0) aO (some ⟨0, 0, none⟩) 64 64 rk) :
    Calls Tryz.prog 85 #[i64 n, i64 i, hv lf, .slice Aq lq cq] w fun e w' => ∃ (u : List UInt8) (ok : Bool), e = .returned (.tuple #[hv u, .bool ok]) ∧ u.length = 32 ∧ (ok = true ↔ (1 ≤ n ∧ n ≤ 1099511627776 ∧ 0 ≤ i ∧ i < n ∧ q.length = (trn n.toNat i.toNat).length)) ∧ Ch No w w' := by
  have hql := hq.len
  have hn0 : 0 < w.heap.size := hrnd.size (by omega) rfl
  have hn1 := hn0
  have hq := hq.old
  have HC : Ch No w w := Ch.refl _ _
  refine kP (args := [i64 n, i64 i, hv lf, .slice Aq lq cq]) (n := 59) Tryz.func85 rfl rfl rfl ?_
  refine ab (aa ?_)
  refine wle rfl (bg (cs := (List.map u8v lf).toArray) rfl rfl rfl (fun w1 g6 hg6 hb6 hc hsz6 => ?_))
  have hzw1 := hc.size
  have hge6 := HC.geo hg6
  have HC := HC.tr hc
  have hq := hq.no hc
  have hrnd := hrnd.no hc
  have hltg6 := hb6.lt
  refine wle rfl (bg (cs := #[_]) rfl rfl rfl (fun w2 g7 hg7 hb7 hc hsz7 => ?_))
  have hzw2 := hc.size
  have hge7 := HC.geo hg7
  have HC := HC.tr hc
  have hq := hq.no hc
  have hrnd := hrnd.no hc
  have hb6 := hb6.no hc
  have hltg6 := hb6.lt
  have hltg7 := hb7.lt
  refine wle rfl (ea3 (fun w3 g8 hg8 hb8 hc hsz8 => ?_))
  have hzw3 := hc.size
  have hge8 := HC.geo hg8
  have HC := HC.tr hc
  have hq := hq.no hc
  have hrnd := hrnd.no hc
  have hb6 := hb6.no hc
  have hb7 := hb7.no hc
  refine was ?_
  refine ac (ae (ab (ab (aa ?_))))
  refine wmv ?_
  refine wz (aU rfl rfl) ?_
  refine wmv ?_
  refine az (d := 16) rfl (fun q16 => ?_) (fun q16 => ?_)
  ·
   have q16 := of_decide_eq_true q16
   iterate 2 refine aM gq rfl rfl ?_
   refine wz (am rfl rfl) ?_
   refine wmv ?_
   iterate 2 refine aM gq rfl rfl ?_
   refine wz (am rfl rfl) ?_
   refine wmv ?_
   iterate 3 refine aM gq rfl rfl ?_
   refine wz (am rfl rfl) ?_
   refine ac (ae ?_)
   refine aR rfl (rfl) ?_
   refine ab (aa ?_)
   refine wz (bI (cs := ((List.replicate 32 (0 : UInt8)).map u8v).toArray) rfl (fun _ => by kernel_rfl)) ?_
   refine wle rfl (esh au hb8 (fun w4 hb8 hc hsz => ?_))
   have hzw4 := hc.size
   have HC := HC.n hc
   refine was ?_
   refine ac (ae (ao (ag ?_)))
   refine bN (bd (rs := [.cell 8 34, .tmp 9]) rfl (.cellA (cs := List.map u8v (List.replicate 32 (0 : UInt8))) rfl underlying34 rfl (szL au (by rw [List.length_map]; exact (List.length_replicate ..))) (aN hb8) (.tmp rfl (.nil))) rfl) ?_
   exact ⟨_, false, rfl, List.length_replicate .., ⟨fun h => (by cases h), fun h => (by omega)⟩, HC⟩
  have q16 := of_decide_eq_false q16
  refine aq gq rfl rfl (aS rfl) ?_
  refine aq gq rfl rfl (bM rfl rfl) ?_
  refine wz (ar rfl rfl) ?_
  refine wmv ?_
  refine az (d := 20) rfl (fun q20 => ?_) (fun q20 => ?_)
  ·
   have q20 := of_decide_eq_true q20
   iterate 2 refine aM gq rfl rfl ?_
   refine wz (am rfl rfl) ?_
   refine wmv ?_
   iterate 3 refine aM gq rfl rfl ?_
   refine wz (am rfl rfl) ?_
   refine ac (ae ?_)
   refine aR rfl (rfl) ?_
   refine ab (aa ?_)
   refine wz (bI (cs := ((List.replicate 32 (0 : UInt8)).map u8v).toArray) rfl (fun _ => by kernel_rfl)) ?_
   refine wle rfl (esh au hb8 (fun w5 hb8 hc hsz => ?_))
   have hzw5 := hc.size
   have HC := HC.n hc
   refine was ?_
   refine ac (ae (ao (ag ?_)))
   refine bN (bd (rs := [.cell 8 34, .tmp 9]) rfl (.cellA (cs := List.map u8v (List.replicate 32 (0 : UInt8))) rfl underlying34 rfl (szL au (by rw [List.length_map]; exact (List.length_replicate ..))) (aN hb8) (.tmp rfl (.nil))) rfl) ?_
   exact ⟨_, false, rfl, List.length_replicate .., ⟨fun h => (by cases h), fun h => (by omega)⟩, HC⟩
  have q20 := of_decide_eq_false q20
  refine aq gq rfl rfl (aS rfl) ?_
  refine aq gq rfl rfl (aU rfl rfl) ?_
  refine wz (ar rfl rfl) ?_
  refine wmv ?_
  refine az (d := 24) rfl (fun q24 => ?_) (fun q24 => ?_)
  ·
   have q24 := of_decide_eq_true q24
   iterate 3 refine aM gq rfl rfl ?_
   refine wz (am rfl rfl) ?_
   refine ac (ae ?_)
   refine aR rfl (rfl) ?_
   refine ab (aa ?_)
   refine wz (bI (cs := ((List.replicate 32 (0 : UInt8)).map u8v).toArray) rfl (fun _ => by kernel_rfl)) ?_
   refine wle rfl (esh au hb8 (fun w6 hb8 hc hsz => ?_))
   have hzw6 := hc.size
   have HC := HC.n hc
   refine was ?_
   refine ac (ae (ao (ag ?_)))
   refine bN (bd (rs := [.cell 8 34, .tmp 9]) rfl (.cellA (cs := List.map u8v (List.replicate 32 (0 : UInt8))) rfl underlying34 rfl (szL au (by rw [List.length_map]; exact (List.length_replicate ..))) (aN hb8) (.tmp rfl (.nil))) rfl) ?_
   exact ⟨_, false, rfl, List.length_replicate .., ⟨fun h => (by cases h), fun h => (by omega)⟩, HC⟩
  have q24 := of_decide_eq_false q24
  refine aq gq rfl rfl (aS rfl) ?_
  refine aq gq rfl rfl (aS rfl) ?_
  refine aq gq rfl rfl (gR rfl rfl) ?_
  refine wz (ar rfl rfl) ?_
  refine ac (ae ?_)
  refine aA rfl (fun c0 => ?_) (fun c0 => ?_)
  ·
   have c0 := of_decide_eq_true c0
   refine ab (aa ?_)
   refine wz (bI (cs := ((List.replicate 32 (0 : UInt8)).map u8v).toArray) rfl (fun _ => by kernel_rfl)) ?_
   refine wle rfl (esh au hb8 (fun w7 hb8 hc hsz => ?_))
   have hzw7 := hc.size
   have HC := HC.n hc
   refine was ?_
   refine ac (ae (ao (ag ?_)))
   refine bN (bd (rs := [.cell 8 34, .tmp 9]) rfl (.cellA (cs := List.map u8v (List.replicate 32 (0 : UInt8))) rfl underlying34 rfl (szL au (by rw [List.length_map]; exact (List.length_replicate ..))) (aN hb8) (.tmp rfl (.nil))) rfl) ?_
   exact ⟨_, false, rfl, List.length_replicate .., ⟨fun h => (by cases h), fun h => (by omega)⟩, HC⟩
  have c0 := of_decide_eq_false c0
  obtain ⟨N, rfl⟩ : ∃ N : Nat, n = (N : Int) := ⟨n.toNat, by omega⟩
  obtain ⟨I, rfl⟩ : ∃ I : Nat, i = (I : Int) := ⟨i.toNat, by omega⟩
  refine al (ae (ab (aa ?_)))
  iterate 2 refine wmv ?_
  refine wle rfl (ai ent144 rfl rfl (rj (n := N) (i := I) (by omega) (by omega)) ?_)
  rintro _ w8 ⟨A32, l32, c32, rfl, hW32, hc⟩
  refine ⟨_, rfl, ?_⟩
  have hzw8 := hc.size
  have HC := HC.tr hc
  have hq := hq.no hc
  have hrnd := hrnd.no hc
  have hb6 := hb6.no hc
  have hb7 := hb7.no hc
  have hb8 := hb8.no hc
  have hWl32 := hW32.len
  refine was ?_
  refine ac (ae (ab (ab (aa ?_))))
  refine wmv ?_
  refine wz (aw underlying233 rfl) ?_
  refine wz (aC underlying26 hb7) ?_
  refine wz (aw underlying26 rfl) ?_
  refine wz (jQ rfl rfl) ?_
  refine ac (ae ?_)
  refine aA rfl (fun c1 => ?_) (fun c1 => ?_)
  ·
   have c1 := of_decide_eq_true c1
   refine ab (aa ?_)
   refine wz (bI (cs := ((List.replicate 32 (0 : UInt8)).map u8v).toArray) rfl (fun _ => by kernel_rfl)) ?_
   refine wle rfl (esh au hb8 (fun w9 hb8 hc hsz => ?_))
   have hzw9 := hc.size
   have HC := HC.n hc
   refine was ?_
   refine ac (ae (ao (ag ?_)))
   refine bN (bd (rs := [.cell 8 34, .tmp 9]) rfl (.cellA (cs := List.map u8v (List.replicate 32 (0 : UInt8))) rfl underlying34 rfl (szL au (by rw [List.length_map]; exact (List.length_replicate ..))) (aN hb8) (.tmp rfl (.nil))) rfl) ?_
   exact ⟨_, false, rfl, List.length_replicate .., ⟨fun h => (by cases h), fun h => (by have h5 : q.length = (trn N I).length := h.2.2.2.2; omega)⟩, HC⟩
  have c1 := of_decide_eq_false c1
  obtain ⟨n8, hn8⟩ : ∃ x, x = w8.heap.size := ⟨_, rfl⟩
  have hSw : SI w8 (fun k => k < n8 ∧ k ≠ g8) eTU A32 l32 c32 (trn N I) := hW32.si.mono (fun k hk h2 => by first | omega | (dsimp only at *; omega))
  refine al (ae (ab (aa ?_)))
  refine wz (pla underlying34 au (aN hb6)) ?_
  have hltg6 := hb6.lt
  have hltg7 := hb7.lt
  have hltg8 := hb8.lt
  refine wle rfl (ea3 (fun w10 g11 hg11 hb11 hc hsz11 => ?_))
  have hzw10 := hc.size
  have hge11 := HC.geo hg11
  have HC := HC.tr hc
  have hq := hq.no hc
  have hrnd := hrnd.no hc
  have hb6 := hb6.no hc
  have hb7 := hb7.no hc
  have hb8 := hb8.no hc
  have hSw := hSw.no hc
  refine wle rfl (esh au hb11 (fun w11 hb11 hc hsz => ?_))
  have hzw11 := hc.size
  have HC := HC.n hc
  first | have hq := hq.cc hc | have hq := hq.cT hc
  first | have hrnd := hrnd.cc hc | have hrnd := hrnd.cT hc
  have hb6 := hb6.cc hc
  have hb7 := hb7.cc hc
  have hb8 := hb8.cc hc
  first | have hSw := hSw.cc hc | have hSw := hSw.cT hc
  refine ac (ae (ab (ab (aa ?_))))
  refine wmv ?_
  refine wle rfl (ai ent154 rfl rfl (up_any) ?_)
  rintro _ w12 ⟨g41, rfl, hgB41, hBn, hc⟩
  refine ⟨_, rfl, ?_⟩
  have hzw12 := hc.size
  have HC := HC.tr hc
  have hq := hq.no hc
  have hrnd := hrnd.no hc
  have hb6 := hb6.no hc
  have hb7 := hb7.no hc
  have hb8 := hb8.no hc
  have hSw := hSw.no hc
  have hb11 := hb11.no hc
  refine ac (ae (ap ?_))
  have hltg6 := hb6.lt
  have hltg7 := hb7.lt
  have hltg8 := hb8.lt
  have hltg11 := hb11.lt
  have hltg41 := hBn.lt
  have hz0 := HC.size
  refine gW (m := 0) rfl (enters_of Tryz.func213 (by kernel_rfl) rfl) (fun i : Nat => #[i64 (i : Int), .agg (eTU.f ((trn N I).getD (l32 - 1 - i) (0, false))).toArray]) (fun _ => rfl) (fun (pre : List Nat) (i : Nat) => pre.length = i ∧ i < l32) (fun xs => xs.length = l32) (fun _ => True) (fun W => Blk W g41 233 #[.slice A32 l32 c32] ∧ SI W (fun k => k < n8 ∧ k ≠ g8) eTU A32 l32 c32 (trn N I)) ?hseq (fun xs W => ∃ h : List UInt8, (h.length = 32) ∧ (Blk W g7 26 #[.slice Aq lq cq]) ∧ (Blk W g8 34 (List.map u8v (List.replicate 32 (0 : UInt8))).toArray) ∧ (Blk W g11 34 (List.map u8v h).toArray) ∧ (Blk W g41 233 #[.slice A32 l32 c32]) ∧ (SI W (fun k => k < n8 ∧ k ≠ g8) eTU A32 l32 c32 (trn N I)) ∧ (SI W (fun k => k < w.heap.size) eHs Aq lq cq q) ∧ (Sl W (fun k => k = 0) aO (some ⟨0, 0, none⟩) 64 64 rk) ∧ (Ch No w W)) (fun _ _ _ => False) ?hI ?hIx ?hIl ?hIxl ?hXI ?h0 ?hround ?hdone ?hstop
  case hseq =>
   intro l J Jx W hcW hsW hJ hJx hXJ hY hJ0
   exact (ups_any (fun xs A h => hXJ xs A h) (by omega) hJ hJx hY hJ0).mono (fun e w' h => ⟨⟨_, h.1⟩, h.2⟩)
  case hI =>
   rintro xs A B ⟨h, hh, hb7, hb8, hb11, hBn, hSw, hq, hrnd, HC⟩ hc
   have hzB := hc.size
   have HC := HC.tr hc
   have hb7 := hb7.no hc
   have hb8 := hb8.no hc
   have hb11 := hb11.no hc
   have hBn := hBn.ch hc (fun h => h)
   have hSw := hSw.no hc
   have hq := hq.no hc
   have hrnd := hrnd.no hc
   exact ⟨h, hh, hb7, hb8, hb11, hBn, hSw, hq, hrnd, HC⟩
  case hIx =>
   exact fun _ _ _ _ h _ => h
  case hIl =>
   rintro xs A B ⟨h, hh, hb7, hb8, hb11, hBn, hSw, hq, hrnd, HC⟩ hc
   have hzB := hc.size
   have HC := HC.n hc
   have hb7 := hb7.cc hc
   have hb8 := hb8.cc hc
   have hb11 := hb11.cc hc
   have hBn := hBn.ch hc (by omega)
   first | have hSw := hSw.cc hc | have hSw := hSw.cT hc
   first | have hq := hq.cc hc | have hq := hq.cT hc
   first | have hrnd := hrnd.cc hc | have hrnd := hrnd.cT hc
   exact ⟨h, hh, hb7, hb8, hb11, hBn, hSw, hq, hrnd, HC⟩
  case hIxl =>
   exact fun _ _ _ _ h _ => h
  case hXI =>
   rintro xs W ⟨h, hh, hb7, hb8, hb11, hBn, hSw, hq, hrnd, HC⟩
   exact ⟨hBn, hSw⟩
  case h0 =>
   intro W hc hs
   have hzW := hc.size
   have HC := HC.tr hc
   have hb6 := hb6.no hc
   have hb7 := hb7.no hc
   have hb8 := hb8.no hc
   have hb11 := hb11.no hc
   have hBn := hBn.ch hc (fun h => h)
   have hSw := hSw.no hc
   have hq := hq.no hc
   have hrnd := hrnd.no hc
   exact ⟨_, hlf, hb7, hb8, hb11, hBn, hSw, hq, hrnd, HC⟩
  case hround =>
   intro l pre x W hl hD hsz hI a F
   subst hl
   obtain ⟨h, hh, hb7, hb8, hb11, hBn, hSw, hq, hrnd, HC⟩ := hI
   have hzW := HC.size
   obtain ⟨hDl, hDx⟩ : pre.length = x ∧ x < l32 := hD
   obtain ⟨y, hy⟩ : ∃ y, y = (trn N I).getD (l32 - 1 - x) (0, false) := ⟨_, rfl⟩
   rw [← hy]
   refine (?_ : WCi _ _ _ _ _ _ _ _) _ (F.hand2 rfl rfl)
   have hB : Ch (fun k => k ≠ w12.heap.size + 1 ∧ k ≠ w12.heap.size) W W := Ch.refl _ _
   refine bS (bj ?_)
   refine wli rfl rfl rfl (jb rfl) ?_
   refine bC (cn (bj ?_))
   have hltg7 := hb7.lt
   have hltg8 := hb8.lt
   have hltg11 := hb11.lt
   have hltg41 := hBn.lt
   refine eo rfl (by repeat (first | with_reducible exact bD | with_reducible exact bo | with_reducible apply bw | with_reducible apply cr)) (eal [Value.int .i64 0, Value.bool false] (fun w13 g13 hg13 hb13 hc hsz13 => ?_))
   have hzw13 := hc.size
   have hge13 := HC.geo hg13
   have HC := HC.tr hc
   have hB := hB.tr hc
   have hb7 := hb7.no hc
   have hb8 := hb8.no hc
   have hb11 := hb11.no hc
   have hBn := hBn.ch hc (fun h => h)
   have hSw := hSw.no hc
   have hq := hq.no hc
   have hrnd := hrnd.no hc
   refine eo rfl (by repeat (first | with_reducible exact bD | with_reducible exact bo | with_reducible apply bw | with_reducible apply cr)) (esw rr hb13 (fun w14 hb13 hc hsz => ?_))
   have hzw14 := hc.size
   have HC := HC.n hc
   have hB := hB.trans hc (fun _ _ h => h) (fun k hk ht => by first | omega | (dsimp only at *; omega))
   have hb7 := hb7.cc hc
   have hb8 := hb8.cc hc
   have hb11 := hb11.cc hc
   have hBn := hBn.ch hc (by omega)
   first | have hSw := hSw.cc hc | have hSw := hSw.cT hc
   first | have hq := hq.cc hc | have hq := hq.cT hc
   first | have hrnd := hrnd.cc hc | have hrnd := hrnd.cT hc
   refine bC ?_
   refine nJ hB (fun W2 hc hsW => ?_)
   have hzW2 := hc.size
   have HC := HC.n hc
   have hb7 := hb7.cc hc
   have hb8 := hb8.cc hc
   have hb11 := hb11.cc hc
   have hBn := hBn.ch hc (by omega)
   first | have hSw := hSw.cc hc | have hSw := hSw.cT hc
   first | have hq := hq.cc hc | have hq := hq.cT hc
   first | have hrnd := hrnd.cc hc | have hrnd := hrnd.cT hc
   have hb13 := hb13.cc hc
   have hB : Ch (fun k => k ≠ w12.heap.size + 1 ∧ k ≠ w12.heap.size) W2 W2 := Ch.refl _ _
   refine gX (bS (bj ?_))
   refine wli rfl rfl rfl (pfl 1 underlying236) ?_
   refine wli rfl rfl rfl (aC underlying4 hb13) ?_
   refine bC (cn ?_)
   refine nI rfl (fun c2 => ?_) (fun c2 => ?_)
   ·
    refine jT (.q 0 [1, 0, 0, 1, 1, 2, 3] .nil) No (fun w15 hc hszw15 => ?_)
    have hzw15 := hc.size
    have HC := HC.tr hc
    have hB := hB.tr hc
    have hb7 := hb7.no hc
    have hb8 := hb8.no hc
    have hb11 := hb11.no hc
    have hBn := hBn.ch hc (fun h => h)
    have hSw := hSw.no hc
    have hq := hq.no hc
    have hrnd := hrnd.no hc
    have hb13 := hb13.no hc
    have hS : Ch No w15 w15 := Ch.refl _ _
    refine ws2 rfl (aE underlying26 rfl rfl (fun _ h => h.cell (fun h => h) (hb7.cell rfl))) ?_
    refine wsm ?_
    obtain ⟨b16, o16, x16, ex16, hA16, hr16, hx16k⟩ := rdH x hq
    refine ws1 rfl (pxs underlying26 au hA16) ?_
    refine ws2 rfl (plh underlying34 au hr16) ?_
    refine ws2 rfl (plh underlying34 au (aN hb11)) ?_
    refine ax rfl rfl (ai rC rfl rfl (kG (hx16k) (hh) hrnd) ?_)
    rintro _ w17 ⟨rfl, hc⟩
    refine ⟨_, rfl, hc, ?_⟩
    have hzw17 := hc.size
    have HC := HC.tr hc
    have hB := hB.tr hc
    have hb7 := hb7.no hc
    have hb8 := hb8.no hc
    have hb11 := hb11.no hc
    have hBn := hBn.ch hc (fun h => h)
    have hSw := hSw.no hc
    have hq := hq.no hc
    have hrnd := hrnd.no hc
    have hb13 := hb13.no hc
    refine aB hc ?_
    refine bf rfl rfl (esh au hb11 (fun w18 hb11 hc hsz => ?_))
    have hzw18 := hc.size
    have HC := HC.n hc
    have hB := hB.trans hc (fun _ _ h => h) (fun k hk ht => by first | omega | (dsimp only at *; omega))
    have hb7 := hb7.cc hc
    have hb8 := hb8.cc hc
    have hBn := hBn.ch hc (by omega)
    first | have hSw := hSw.cc hc | have hSw := hSw.cT hc
    first | have hq := hq.cc hc | have hq := hq.cT hc
    first | have hrnd := hrnd.cc hc | have hrnd := hrnd.cT hc
    have hb13 := hb13.cc hc
    refine bY (ak ?_)
    exact fq ⟨_, (aQ _ _), hb7, hb8, hb11, hBn, hSw, hq, hrnd, HC⟩ hB
   refine jT (.q 0 [1, 1, 0, 0, 1, 2, 3] .nil) No (fun w19 hc hszw19 => ?_)
   have hzw19 := hc.size
   have HC := HC.tr hc
   have hB := hB.tr hc
   have hb7 := hb7.no hc
   have hb8 := hb8.no hc
   have hb11 := hb11.no hc
   have hBn := hBn.ch hc (fun h => h)
   have hSw := hSw.no hc
   have hq := hq.no hc
   have hrnd := hrnd.no hc
   have hb13 := hb13.no hc
   have hS : Ch No w19 w19 := Ch.refl _ _
   refine ws2 rfl (plh underlying34 au (aN hb11)) ?_
   refine ws2 rfl (aE underlying26 rfl rfl (fun _ h => h.cell (fun h => h) (hb7.cell rfl))) ?_
   refine wsm ?_
   obtain ⟨b20, o20, x20, ex20, hA20, hr20, hx20k⟩ := rdH x hq
   refine ws1 rfl (pxs underlying26 au hA20) ?_
   refine ws2 rfl (plh underlying34 au hr20) ?_
   refine ax rfl rfl (ai rC rfl rfl (kG (hh) (hx20k) hrnd) ?_)
   rintro _ w21 ⟨rfl, hc⟩
   refine ⟨_, rfl, hc, ?_⟩
   have hzw21 := hc.size
   have HC := HC.tr hc
   have hB := hB.tr hc
   have hb7 := hb7.no hc
   have hb8 := hb8.no hc
   have hb11 := hb11.no hc
   have hBn := hBn.ch hc (fun h => h)
   have hSw := hSw.no hc
   have hq := hq.no hc
   have hrnd := hrnd.no hc
   have hb13 := hb13.no hc
   refine aB hc ?_
   refine bf rfl rfl (esh au hb11 (fun w22 hb11 hc hsz => ?_))
   have hzw22 := hc.size
   have HC := HC.n hc
   have hB := hB.trans hc (fun _ _ h => h) (fun k hk ht => by first | omega | (dsimp only at *; omega))
   have hb7 := hb7.cc hc
   have hb8 := hb8.cc hc
   have hBn := hBn.ch hc (by omega)
   first | have hSw := hSw.cc hc | have hSw := hSw.cT hc
   first | have hq := hq.cc hc | have hq := hq.cT hc
   first | have hrnd := hrnd.cc hc | have hrnd := hrnd.cT hc
   have hb13 := hb13.cc hc
   refine bY (ak ?_)
   exact fq ⟨_, (aQ _ _), hb7, hb8, hb11, hBn, hSw, hq, hrnd, HC⟩ hB
  case hdone =>
   rintro xs W a' hS ⟨h, hh, hb7, hb8, hb11, hBn, hSw, hq, hrnd, HC⟩ hK F'
   refine nM ?_ F'
   have hzW := HC.size
   refine ep (gZ (kV (fP ?_)))
   refine wld rfl rfl rfl (pla underlying34 au (aN hb11)) ?_
   refine wlde rfl (esh au hb8 (fun w23 hb8 hc hsz => ?_))
   have hzw23 := hc.size
   have HC := HC.n hc
   have hb7 := hb7.cc hc
   have hb11 := hb11.cc hc
   have hBn := hBn.ch hc (by omega)
   first | have hSw := hSw.cc hc | have hSw := hSw.cT hc
   first | have hq := hq.cc hc | have hq := hq.cT hc
   first | have hrnd := hrnd.cc hc | have hrnd := hrnd.cT hc
   have hK := hc.heap hK (by first | exact fun h => h | omega | (dsimp only; omega))
   refine wld rfl rfl rfl (jb rfl) ?_
   refine kU (gZ (kW ?_))
   refine gg hK (fun w24 hc hsz => ?_)
   have hzw24 := hc.size
   have HC := HC.n hc
   have hb7 := hb7.cc hc
   have hb8 := hb8.cc hc
   have hb11 := hb11.cc hc
   have hBn := hBn.ch hc (by omega)
   first | have hSw := hSw.cc hc | have hSw := hSw.cT hc
   first | have hq := hq.cc hc | have hq := hq.cT hc
   first | have hrnd := hrnd.cc hc | have hrnd := hrnd.cT hc
   refine ⟨_, bd (rs := [.cell 8 34, .tmp 9]) rfl (.cellA (cs := List.map u8v h) rfl underlying34 rfl (szL au (by rw [List.length_map]; exact hh)) (aN hb8) (.tmp rfl (.nil))) rfl, ?_⟩
   exact ⟨_, true, rfl, hh, ⟨fun _ => ⟨by omega, by omega, by omega, by omega, (show q.length = (trn N I).length by omega)⟩, fun _ => rfl⟩, HC⟩
  case hstop =>
   exact fun _ _ _ _ _ h => h.elim

theorem kH {w : World} {n i : Int} {Ab : Option Addr} {lb cb : Nat} {Fb : Nat → Prop} {b : List UInt8}{Aq : Option Addr} {lq cq : Nat} {Fq : Nat → Prop} {q : List (List UInt8)}  (hb : Sl w Fb u8v Ab lb cb b) (hlb : lb ≤ 100000000) (hq : SI w Fq eHs Aq lq cq q) (hlq : lq ≤ 1000) (hrnd : Sl w (fun k => k = 0) aO (some ⟨0, 0, none⟩) 64 64 rk) :
    Calls Tryz.prog 40 #[i64 n, i64 i, .slice Ab lb cb, .slice Aq lq cq] w fun e w' => ∃ (A : Option Addr) (l c : Nat) (fs : List FD) (ok : Bool), e = .returned (.tuple #[.slice A l c, .bool ok]) ∧ SI w' (fun k => k < w'.heap.size) eFD A l c fs ∧ NF w' (fun k => k < w'.heap.size) fs ∧ l ≤ 3000 ∧ (ok = true ↔ (1 ≤ n ∧ n ≤ 1099511627776 ∧ 0 ≤ i ∧ i < n ∧ q.length = (trn n.toNat i.toNat).length)) ∧ (ok = true → 0 < l ∧ fs.map FD.abs = iH n.toNat i.toNat b q ∧ (fs.getD (l - 1) FD0).h = up2 (sd n.toNat i.toNat) q (cm b)) ∧ Ch No w w' := by
  have hql := hq.len
  have hbl := hb.len
  have hn0 : 0 < w.heap.size := hrnd.size (by omega) rfl
  have hn1 := hn0
  have hb := hb.old
  have hq := hq.old
  have HC : Ch No w w := Ch.refl _ _
  refine kP (args := [i64 n, i64 i, .slice Ab lb cb, .slice Aq lq cq]) (n := 82) Tryz.func40 rfl rfl rfl ?_
  refine ab (aa ?_)
  refine wle rfl (bg (cs := #[_]) rfl rfl rfl (fun w1 g7 hg7 hb7 hc hsz7 => ?_))
  have hzw1 := hc.size
  have hge7 := HC.geo hg7
  have HC := HC.tr hc
  have hb := hb.no hc
  have hq := hq.no hc
  have hrnd := hrnd.no hc
  iterate 2 refine was ?_
  refine ac (ae (ab (ab (aa ?_))))
  iterate 2 refine wmv ?_
  refine wz (bI (cs := ((List.replicate 32 (0 : UInt8)).map u8v).toArray) rfl (fun _ => by kernel_rfl)) ?_
  refine wz (aC underlying26 hb7) ?_
  refine wle rfl (ai ent85 rfl rfl (oF (hq) ((List.length_replicate ..)) (by omega) hrnd) ?_)
  rintro _ w2 ⟨u24, ok24, rfl, hu24, hok24, hc⟩
  refine ⟨_, rfl, ?_⟩
  have hzw2 := hc.size
  have HC := HC.tr hc
  have hb := hb.no hc
  have hq := hq.no hc
  have hrnd := hrnd.no hc
  have hb7 := hb7.no hc
  refine wmv ?_
  refine wz (aP rfl rfl) ?_
  refine wz (aP rfl rfl) ?_
  have hltg7 := hb7.lt
  refine wle rfl (ea3 (fun w3 g10 hg10 hb10 hc hsz10 => ?_))
  have hzw3 := hc.size
  have hge10 := HC.geo hg10
  have HC := HC.tr hc
  have hb := hb.no hc
  have hq := hq.no hc
  have hrnd := hrnd.no hc
  have hb7 := hb7.no hc
  refine wle rfl (esh au hb10 (fun w4 hb10 hc hsz => ?_))
  have hzw4 := hc.size
  have HC := HC.n hc
  first | have hb := hb.cc hc | have hb := hb.cT hc
  first | have hq := hq.cc hc | have hq := hq.cT hc
  first | have hrnd := hrnd.cc hc | have hrnd := hrnd.cT hc
  have hb7 := hb7.cc hc
  refine was ?_
  refine ac (ae (ab (aa ?_)))
  refine wmv ?_
  refine wz (bc rfl) ?_
  refine ac (ae ?_)
  refine aA rfl (fun c0 => ?_) (fun c0 => ?_)
  ·
   refine ab (aa ?_)
   iterate 2 refine was ?_
   refine ac (ae (ao (ag ?_)))
   refine bN ((l5 rfl rfl rfl)) ?_
   exact ⟨none, 0, 0, [], false, rfl, SI.nil, NF.nil, by omega, ⟨fun h => (by cases h), fun h => absurd (hok24.2 h) (by rw [show ok24 = false by simpa using c0]; decide)⟩, fun h => (by cases h), HC⟩
  have ho : ok24 = true := by simpa using c0
  obtain ⟨o1, o2, o3, o4, o5⟩ := hok24.1 ho
  obtain ⟨N, rfl⟩ : ∃ N : Nat, n = (N : Int) := ⟨n.toNat, by omega⟩
  obtain ⟨I, rfl⟩ : ∃ I : Nat, i = (I : Int) := ⟨i.toNat, by omega⟩
  have o6 : (wys I 0 N).length = lq := by rw [k8]; have := o5; simpa [hql] using this.symm.trans hql
  refine al (ae (ab (aa ?_)))
  iterate 2 refine wmv ?_
  refine wz (aF (Z := ((I + 1 : Nat) : Int)) rfl rfl (by rw [w64 (by omega)]; omega)) ?_
  refine wmv ?_
  have hltg7 := hb7.lt
  have hltg10 := hb10.lt
  refine wle rfl (aT (E := 38) rfl rfl (fun _ => by kernel_rfl) (fun w5 g33 hg33 hb33 hc hsz33 => ?_))
  have hzw5 := hc.size
  have hge33 := HC.geo hg33
  have HC := HC.tr hc
  have hb := hb.no hc
  have hq := hq.no hc
  have hrnd := hrnd.no hc
  have hb7 := hb7.no hc
  have hb10 := hb10.no hc
  have hQ33 := SB.lit1 hb33 (hb)
  refine wle rfl (ai ry rfl rfl (tG (t := 0) hQ33 (by omega) (by first | omega | (simp only [List.flatten_cons, List.flatten_nil, List.length_append, List.length_nil, List.length_cons]; omega))) ?_)
  rintro _ w6 ⟨A34, c34, rfl, hW34, hc⟩
  refine ⟨_, rfl, ?_⟩
  have hzw6 := hc.size
  have HC := HC.tr hc
  have hb := hb.no hc
  have hq := hq.no hc
  have hrnd := hrnd.no hc
  have hb7 := hb7.no hc
  have hb10 := hb10.no hc
  have hT34 := hW34.sl.mono (G := fun k => w5.heap.size ≤ k ∧ k < w6.heap.size) (fun k h1 h2 => ⟨h2, h1⟩)
  rw [show [(0 : UInt8)] ++ [b].flatten = 0 :: b by simp] at hT34
  have hl34 : 1 + [b].flatten.length = List.length (0 :: b) := by simp; omega
  have hm34 : List.length (0 :: b) ≤ 100000100 := by simp; omega
  refine wle rfl (ai rA rfl rfl (qd (hT34) (by omega) hrnd) ?_)
  rintro _ w7 ⟨rfl, hc⟩
  refine ⟨_, rfl, ?_⟩
  have hzw7 := hc.size
  have HC := HC.tr hc
  have hb := hb.no hc
  have hq := hq.no hc
  have hrnd := hrnd.no hc
  have hb7 := hb7.no hc
  have hb10 := hb10.no hc
  have hT34 := hT34.no hc
  have hltg7 := hb7.lt
  have hltg10 := hb10.lt
  refine wle rfl (ea9 (fun w8 g12 hg12 hb12 hc hsz12 => ?_))
  have hzw8 := hc.size
  have hge12 := HC.geo hg12
  have HC := HC.tr hc
  have hb := hb.no hc
  have hq := hq.no hc
  have hrnd := hrnd.no hc
  have hb7 := hb7.no hc
  have hb10 := hb10.no hc
  have hT34 := hT34.no hc
  refine wle rfl (esw bq hb12 (fun w9 hb12 hc hsz => ?_))
  have hzw9 := hc.size
  have HC := HC.n hc
  first | have hb := hb.cc hc | have hb := hb.cT hc
  first | have hq := hq.cc hc | have hq := hq.cT hc
  first | have hrnd := hrnd.cc hc | have hrnd := hrnd.cT hc
  have hb7 := hb7.cc hc
  have hb10 := hb10.cc hc
  first | have hT34 := hT34.cc hc | have hT34 := hT34.cT hc
  refine ac (ae (ab (aa ?_)))
  refine wz (pla underlying93 bq (aN hb12)) ?_
  have hltg7 := hb7.lt
  have hltg10 := hb10.lt
  have hltg12 := hb12.lt
  refine wle rfl (il [⟨I, I + 1, shaF (0 :: b), A34, 1 + [b].flatten.length, c34, 0 :: b⟩] underlying88 bq (by kernel_rfl) (ok1 ⟨aD _, (show 1 + [b].flatten.length ≤ 1000000000 by omega)⟩) rfl rfl rfl rfl (by decide) (by decide) (fun w10 g37 hg37 hb37 hc hsz37 => ?_))
  have hzw10 := hc.size
  have hge37 := HC.geo hg37
  have HC := HC.tr hc
  have hb := hb.no hc
  have hq := hq.no hc
  have hrnd := hrnd.no hc
  have hb7 := hb7.no hc
  have hb10 := hb10.no hc
  have hT34 := hT34.no hc
  have hb12 := hb12.no hc
  have hltg7 := hb7.lt
  have hltg10 := hb10.lt
  have hltg12 := hb12.lt
  have hltg37 := hb37.lt
  refine wle rfl (bz (cs := #[.slice none 0 0]) rfl (by rfl) rfl (fun w11 g13 hg13 hb13 hc hsz13 => ?_))
  have hzw11 := hc.size
  have hge13 := HC.geo hg13
  have HC := HC.tr hc
  have hb := hb.no hc
  have hq := hq.no hc
  have hrnd := hrnd.no hc
  have hb7 := hb7.no hc
  have hb10 := hb10.no hc
  have hT34 := hT34.no hc
  have hb12 := hb12.no hc
  have hb37 := hb37.no hc
  refine wle rfl (jh (by rfl) rfl rfl rfl hb13 (fun w12 hb13 hc hsz => ?_))
  have hzw12 := hc.size
  have HC := HC.n hc
  first | have hb := hb.cc hc | have hb := hb.cT hc
  first | have hq := hq.cc hc | have hq := hq.cT hc
  first | have hrnd := hrnd.cc hc | have hrnd := hrnd.cT hc
  have hb7 := hb7.cc hc
  have hb10 := hb10.cc hc
  first | have hT34 := hT34.cc hc | have hT34 := hT34.cT hc
  have hb12 := hb12.cc hc
  have hb37 := hb37.cc hc
  refine ac (ae (ab (ab (aa ?_))))
  iterate 2 refine wmv ?_
  refine wle rfl (ai ent102 rfl rfl (ri (n := N) (i := I) (by omega) (by omega)) ?_)
  rintro _ w13 ⟨A40, l40, c40, rfl, hW40, hc⟩
  refine ⟨_, rfl, ?_⟩
  have hzw13 := hc.size
  have HC := HC.tr hc
  have hb := hb.no hc
  have hq := hq.no hc
  have hrnd := hrnd.no hc
  have hb7 := hb7.no hc
  have hb10 := hb10.no hc
  have hT34 := hT34.no hc
  have hb12 := hb12.no hc
  have hb37 := hb37.no hc
  have hb13 := hb13.no hc
  have hWl40 := hW40.len
  obtain ⟨n8, hn8⟩ : ∃ x, x = w13.heap.size := ⟨_, rfl⟩
  have hSw : SI w13 (fun k => g13 < k ∧ k < n8) eWS A40 l40 c40 (wys I 0 N) := hW40.si.mono (fun k hk h2 => by first | omega | (dsimp only at *; omega))
  refine wle rfl (ai rB rfl rfl (qe) ?_)
  rintro _ w14 ⟨g41, rfl, hgB41, hBn, hc⟩
  refine ⟨_, rfl, ?_⟩
  have hzw14 := hc.size
  have HC := HC.tr hc
  have hb := hb.no hc
  have hq := hq.no hc
  have hrnd := hrnd.no hc
  have hb7 := hb7.no hc
  have hb10 := hb10.no hc
  have hT34 := hT34.no hc
  have hb12 := hb12.no hc
  have hb37 := hb37.no hc
  have hb13 := hb13.no hc
  have hSw := hSw.no hc
  refine ac (ae (ap ?_))
  have hM : w14.heap.size ≤ w14.heap.size := Nat.le_refl _
  have hok0 := ok1 (a := ⟨I, I + 1, shaF (0 :: b), A34, 1 + [b].flatten.length, c34, 0 :: b⟩) ⟨aD _, (show 1 + [b].flatten.length ≤ 1000000000 by omega)⟩
  have hR := RF.lit (n := 1) (M := w14.heap.size) (Z := (fun k => ((w5.heap.size ≤ k ∧ k < w6.heap.size) ∨ k = g37 ∨ w14.heap.size + 2 ≤ k))) (fs := [⟨I, I + 1, shaF (0 :: b), A34, 1 + [b].flatten.length, c34, 0 :: b⟩]) (G := fun k => w5.heap.size ≤ k ∧ k < w6.heap.size) hb37 (by rw [List.toList_toArray]) rfl hok0 (nf1 hT34) (fun k hk => by have h1 := hk.1; have h2 := hk.2; exact ⟨by omega, by omega, .inl ⟨h1, h2⟩⟩) (.inr (.inl rfl)) (by omega)
  have hltg10 := hb10.lt
  have hltg37 := hb37.lt
  have hltg7 := hb7.lt
  have hltg12 := hb12.lt
  have hltg13 := hb13.lt
  have hltg41 := hBn.lt
  have hz0 := HC.size
  refine gW (m := 0) rfl (enters_of Tryz.func167 (by kernel_rfl) rfl) (fun i : Nat => #[i64 (i : Int), .agg (eWS.f ((wys I 0 N).getD (l40 - 1 - i) (0, 0, 0, false))).toArray]) (fun _ => rfl) (fun (pre : List Nat) (i : Nat) => pre.length = i ∧ i < l40) (fun xs => xs.length = l40) (fun _ => True) (fun W => Blk W g41 179 #[.slice A40 l40 c40] ∧ SI W (fun k => g13 < k ∧ k < n8) eWS A40 l40 c40 (wys I 0 N)) ?hseq (fun xs W => ∃ t : List UInt8, ∃ z1 : Int, ∃ z2 : Int, ∃ A2 : Option Addr, ∃ l2 : Nat, ∃ c2 : Nat, ∃ A : Option Addr, ∃ l : Nat, ∃ c : Nat, ∃ fs : List FD, ∃ M : Nat, (t.length = 32) ∧ (Blk W g7 26 #[.slice Aq lq cq]) ∧ (Blk W g12 93 ([i64 z1, i64 z2] ++ (List.map u8v t ++ [.slice A2 l2 c2]) : List Value).toArray) ∧ (Blk W g13 88 #[.slice A l c]) ∧ (Blk W g41 179 #[.slice A40 l40 c40]) ∧ (SI W (fun k => g13 < k ∧ k < n8) eWS A40 l40 c40 (wys I 0 N)) ∧ (SI W (fun k => k < w.heap.size) eHs Aq lq cq q) ∧ (Sl W (fun k => k = 0) aO (some ⟨0, 0, none⟩) 64 64 rk) ∧ (RF W M (fun k => ((w5.heap.size ≤ k ∧ k < w6.heap.size) ∨ k = g37 ∨ w14.heap.size + 2 ≤ k)) 93 A l c fs) ∧ (M ≤ W.heap.size) ∧ (l = 1 + 2 * xs.length) ∧ (iH N I b q = fs.map FD.abs ++ pfs ((wys I 0 N).reverse.drop xs.length) (q.drop xs.length) t) ∧ (up2 (rts (wys I 0 N).reverse) q (cm b) = up2 (rts ((wys I 0 N).reverse.drop xs.length)) (q.drop xs.length) t) ∧ ((fs.getD (l - 1) FD0).h = t) ∧ (Ch No w W)) (fun _ _ _ => False) ?hI ?hIx ?hIl ?hIxl ?hXI ?h0 ?hround ?hdone ?hstop
  case hseq =>
   intro l J Jx W hcW hsW hJ hJx hXJ hY hJ0
   exact (nu (fun xs A h => hXJ xs A h) (by omega) hJ hJx hY hJ0).mono (fun e w' h => ⟨⟨_, h.1⟩, h.2⟩)
  case hI =>
   rintro xs A B ⟨t, z1, z2, A2, l2, c2, A, l, c, fs, M, ht, hb7, hb12, hb13, hBn, hSw, hq, hrnd, hR, hM, hl, hfs, hup, hla, HC⟩ hc
   have hzB := hc.size
   have HC := HC.tr hc
   have hb7 := hb7.no hc
   have hb12 := hb12.no hc
   have hb13 := hb13.no hc
   have hBn := hBn.ch hc (fun h => h)
   have hSw := hSw.no hc
   have hq := hq.no hc
   have hrnd := hrnd.no hc
   have hR := hR.cc hc
   have hM := Nat.le_trans hM hc.size
   exact ⟨t, z1, z2, A2, l2, c2, A, l, c, fs, M, ht, hb7, hb12, hb13, hBn, hSw, hq, hrnd, hR, hM, hl, hfs, hup, hla, HC⟩
  case hIx =>
   exact fun _ _ _ _ h _ => h
  case hIl =>
   rintro xs A B ⟨t, z1, z2, A2, l2, c2, A, l, c, fs, M, ht, hb7, hb12, hb13, hBn, hSw, hq, hrnd, hR, hM, hl, hfs, hup, hla, HC⟩ hc
   have hzB := hc.size
   have HC := HC.n hc
   have hb7 := hb7.cc hc
   have hb12 := hb12.cc hc
   have hb13 := hb13.cc hc
   have hBn := hBn.ch hc (by omega)
   first | have hSw := hSw.cc hc | have hSw := hSw.cT hc
   first | have hq := hq.cc hc | have hq := hq.cT hc
   first | have hrnd := hrnd.cc hc | have hrnd := hrnd.cT hc
   have hR := hR.cc hc
   have hM := Nat.le_trans hM hc.size
   exact ⟨t, z1, z2, A2, l2, c2, A, l, c, fs, M, ht, hb7, hb12, hb13, hBn, hSw, hq, hrnd, hR, hM, hl, hfs, hup, hla, HC⟩
  case hIxl =>
   exact fun _ _ _ _ h _ => h
  case hXI =>
   rintro xs W ⟨t, z1, z2, A2, l2, c2, A, l, c, fs, M, ht, hb7, hb12, hb13, hBn, hSw, hq, hrnd, hR, hM, hl, hfs, hup, hla, HC⟩
   exact ⟨hBn, hSw⟩
  case h0 =>
   intro W hc hs
   have hzW := hc.size
   have HC := HC.tr hc
   have hb := hb.no hc
   have hb10 := hb10.no hc
   have hT34 := hT34.no hc
   have hb37 := hb37.no hc
   have hb7 := hb7.no hc
   have hb12 := hb12.no hc
   have hb13 := hb13.no hc
   have hBn := hBn.ch hc (fun h => h)
   have hSw := hSw.no hc
   have hq := hq.no hc
   have hrnd := hrnd.no hc
   have hR := hR.cc hc
   have hM := Nat.le_trans hM hc.size
   exact ⟨_, _, _, _, _, _, _, _, _, _, w14.heap.size, aD _, hb7, hb12, hb13, hBn, hSw, hq, hrnd, hR, hM, rfl, rfl, rfl, rfl, HC⟩
  case hround =>
   intro l pre x W hl hD hsz hI a F
   subst hl
   obtain ⟨t, z1, z2, A2, l2, c2, A, l, c, fs, M, ht, hb7, hb12, hb13, hBn, hSw, hq, hrnd, hR, hM, hl, hfs, hup, hla, HC⟩ := hI
   have hzW := HC.size
   obtain ⟨hDl, hDx⟩ : pre.length = x ∧ x < l40 := hD
   rw [hDl] at hl hfs hup
   obtain ⟨y, hy⟩ : ∃ y, y = (wys I 0 N).getD (l40 - 1 - x) (0, 0, 0, false) := ⟨_, rfl⟩
   have hy1 : (wys I 0 N).reverse.getD x (0, 0, 0, false) = y := by rw [mE hWl40 hDx, hy]
   rw [← hy]
   have hM0 := hM
   have hRl := hR.len
   have hrv : (wys I 0 N).reverse.length = l40 := by rw [List.length_reverse]; exact hWl40
   refine (?_ : WCi _ _ _ _ _ _ _ _) _ (F.hand2 rfl rfl)
   have hB : Ch (fun k => k ≠ w14.heap.size + 1 ∧ k ≠ w14.heap.size) W W := Ch.refl _ _
   refine bS (bj ?_)
   refine wli rfl rfl rfl (jb rfl) ?_
   refine bC (cn (bj ?_))
   have hltg7 := hb7.lt
   have hltg12 := hb12.lt
   have hltg13 := hb13.lt
   have hltg41 := hBn.lt
   refine eo rfl (by repeat (first | with_reducible exact bD | with_reducible exact bo | with_reducible apply bw | with_reducible apply cr)) (eal [Value.int .i64 0, Value.int .i64 0, Value.int .i64 0, Value.bool false] (fun w15 g15 hg15 hb15 hc hsz15 => ?_))
   have hzw15 := hc.size
   have hge15 := HC.geo hg15
   have HC := HC.tr hc
   have hB := hB.tr hc
   have hb7 := hb7.no hc
   have hb12 := hb12.no hc
   have hb13 := hb13.no hc
   have hBn := hBn.ch hc (fun h => h)
   have hSw := hSw.no hc
   have hq := hq.no hc
   have hrnd := hrnd.no hc
   have hR := hR.cc hc
   have hM := Nat.le_trans hM hc.size
   refine eo rfl (by repeat (first | with_reducible exact bD | with_reducible exact bo | with_reducible apply bw | with_reducible apply cr)) (esw oI hb15 (fun w16 hb15 hc hsz => ?_))
   have hzw16 := hc.size
   have HC := HC.n hc
   have hB := hB.trans hc (fun _ _ h => h) (fun k hk ht => by first | omega | (dsimp only at *; omega))
   have hb7 := hb7.cc hc
   have hb12 := hb12.cc hc
   have hb13 := hb13.cc hc
   have hBn := hBn.ch hc (by omega)
   first | have hSw := hSw.cc hc | have hSw := hSw.cT hc
   first | have hq := hq.cc hc | have hq := hq.cT hc
   first | have hrnd := hrnd.cc hc | have hrnd := hrnd.cT hc
   have hR := hR.cc hc
   have hM := Nat.le_trans hM hc.size
   refine bC ?_
   refine nJ hB (fun W2 hc hsW => ?_)
   have hzW2 := hc.size
   have HC := HC.n hc
   have hb7 := hb7.cc hc
   have hb12 := hb12.cc hc
   have hb13 := hb13.cc hc
   have hBn := hBn.ch hc (by omega)
   first | have hSw := hSw.cc hc | have hSw := hSw.cT hc
   first | have hq := hq.cc hc | have hq := hq.cT hc
   first | have hrnd := hrnd.cc hc | have hrnd := hrnd.cT hc
   have hR := hR.cc hc
   have hM := Nat.le_trans hM hc.size
   have hb15 := hb15.cc hc
   have hB : Ch (fun k => k ≠ w14.heap.size + 1 ∧ k ≠ w14.heap.size) W2 W2 := Ch.refl _ _
   refine gX (bS ?_)
   refine jT (.q 0 [0, 1, 0, 1, 1, 0, 0, 1, 0, 2, 3] .nil) No (fun w17 hc hszw17 => ?_)
   have hzw17 := hc.size
   have HC := HC.tr hc
   have hB := hB.tr hc
   have hb7 := hb7.no hc
   have hb12 := hb12.no hc
   have hb13 := hb13.no hc
   have hBn := hBn.ch hc (fun h => h)
   have hSw := hSw.no hc
   have hq := hq.no hc
   have hrnd := hrnd.no hc
   have hR := hR.cc hc
   have hM := Nat.le_trans hM hc.size
   have hb15 := hb15.no hc
   have hS : Ch No w17 w17 := Ch.refl _ _
   refine ws1 rfl (pfl 1 underlying182) ?_
   refine ws2 rfl (aE underlying3 rfl rfl (fun _ h => h.cell (fun h => h) (hb15.cell rfl))) ?_
   refine ws1 rfl (pfl 2 underlying182) ?_
   refine ws2 rfl (aE underlying3 rfl rfl (fun _ h => h.cell (fun h => h) (hb15.cell rfl))) ?_
   refine ws2 rfl (aE underlying26 rfl rfl (fun _ h => h.cell (fun h => h) (hb7.cell rfl))) ?_
   refine wsm ?_
   obtain ⟨b18, o18, x18, ex18, hA18, hr18, hx18k⟩ := rdH x hq
   refine ws1 rfl (pxs underlying26 au hA18) ?_
   refine ws2 rfl (plh underlying34 au hr18) ?_
   refine ws1 rfl (dj (vs' := [i64 (y.2.1 : Int), i64 (y.2.2.1 : Int), (.agg ((hx x18) : List Value).toArray)]) (cs := (([i64 (y.2.1 : Int), i64 (y.2.2.1 : Int)] ++ ((List.map u8v x18) ++ [Value.slice none 0 0])) : List Value)) (cs' := (([i64 (y.2.1 : Int), i64 (y.2.2.1 : Int)] ++ ((hx x18) ++ [Value.slice none 0 0])) : List Value)) rfl (by simp only [hv, cW (hx18k)] <;> rfl) (by simp only [hv, cW (hx18k)] <;> rfl) (fun _ => by kernel_rfl)) ?_
   have hltg7 := hb7.lt
   have hltg12 := hb12.lt
   have hltg13 := hb13.lt
   have hltg41 := hBn.lt
   have hltg15 := hb15.lt
   refine ax rfl rfl (ea9 (fun w19 g16 hg16 hb16 hc hsz16 => ⟨hc, ?_⟩))
   have hzw19 := hc.size
   have hge16 := HC.geo hg16
   have HC := HC.tr hc
   have hB := hB.tr hc
   have hb7 := hb7.no hc
   have hb12 := hb12.no hc
   have hb13 := hb13.no hc
   have hBn := hBn.ch hc (fun h => h)
   have hSw := hSw.no hc
   have hq := hq.no hc
   have hrnd := hrnd.no hc
   have hR := hR.cc hc
   have hM := Nat.le_trans hM hc.size
   have hb15 := hb15.no hc
   refine aB hc ?_
   refine bf rfl rfl (esw bq hb16 (fun w20 hb16 hc hsz => ?_))
   have hzw20 := hc.size
   have HC := HC.n hc
   have hB := hB.trans hc (fun _ _ h => h) (fun k hk ht => by first | omega | (dsimp only at *; omega))
   have hb7 := hb7.cc hc
   have hb12 := hb12.cc hc
   have hb13 := hb13.cc hc
   have hBn := hBn.ch hc (by omega)
   first | have hSw := hSw.cc hc | have hSw := hSw.cT hc
   first | have hq := hq.cc hc | have hq := hq.cT hc
   first | have hrnd := hrnd.cc hc | have hrnd := hrnd.cT hc
   have hR := hR.cc hc
   have hM := Nat.le_trans hM hc.size
   have hb15 := hb15.cc hc
   refine bY (cn ?_)
   refine kQ (fun e w' => ∃ (g17 : Nat) (g18 : Nat), e = [(7, .pointer (some ⟨g7, 0, none⟩)), (12, .pointer (some ⟨g12, 0, none⟩)), (13, .pointer (some ⟨g13, 0, none⟩)), (14, i64 (x : Int)), (15, .pointer (some ⟨g15, 0, none⟩)), (16, .pointer (some ⟨g16, 0, none⟩)), (17, .pointer (some ⟨g17, 0, none⟩)), (18, .pointer (some ⟨g18, 0, none⟩))] ∧ (Ch No w20 w') ∧ (Blk w' g17 34 (List.map u8v t).toArray) ∧ (Blk w' g18 34 (List.map u8v x18).toArray) ∧ (w20.heap.size ≤ g17 ∧ w20.heap.size ≤ g18 ∧ g17 ≠ g18)) ?_ ?_
   ·
    refine jT (.q 0 [0, 1, 1, 0, 0, 1] (.alt (.q 6 [2, 2, 2, 3] .nil) (.st 7 2 (.st 6 2 (.st 8 2 (.st 9 3 .nil)))))) No (fun w21 hc hszw21 => ?_)
    have hzw21 := hc.size
    have HC := HC.tr hc
    have hb7 := hb7.no hc
    have hb12 := hb12.no hc
    have hb13 := hb13.no hc
    have hBn := hBn.ch hc (fun h => h)
    have hSw := hSw.no hc
    have hq := hq.no hc
    have hrnd := hrnd.no hc
    have hR := hR.cc hc
    have hM := Nat.le_trans hM hc.size
    have hb15 := hb15.no hc
    have hb16 := hb16.no hc
    have hc0 := hc
    have hS : Ch (No) w21 w21 := Ch.refl _ _
    refine ws1 rfl (pfl 2 underlying93) ?_
    refine ws2 rfl (bE (cs := (List.map u8v t)) underlying34 rfl (szL au (by first | rfl | (simp only [List.length_append, List.length_map, List.length_cons, List.length_nil, (show List.length t = 32 from ht)]; done) | (simp only [List.length_append, List.length_map, List.length_cons, List.length_nil, List.size_toArray, (show List.length t = 32 from ht)]; done))) rfl (fun _ h => bR (p := ([i64 z1, i64 z2] : List Value)) (q := ((List.map u8v t) : List Value)) (r := ([.slice A2 l2 c2] : List Value)) (hb12.ch h (fun h => h)) (by simp only [List.append_assoc, List.cons_append, List.nil_append, List.append_nil]) rfl)) ?_
    refine ws2 rfl (aE underlying26 rfl rfl (fun _ h => h.cell (fun h => h) (hb7.cell rfl))) ?_
    refine wsm ?_
    obtain ⟨b22, o22, x22, ex22, hA22, hr22, hx22k⟩ := rdH x hq
    refine ws1 rfl (pxs underlying26 au hA22) ?_
    refine ws2 rfl (plh underlying34 au hr22) ?_
    refine bh ?_ ?_
    ·
     refine ax rfl rfl (ea3 (fun w23 g17 hg17 hb17 hc hsz17 => ⟨hS.tr hc, ?_⟩))
     have hzw23 := hc.size
     have hge17 : w.heap.size ≤ g17 := by have := HC.size; omega
     have hS := hS.tr hc
     have hltg17 := hb17.lt
     refine ax rfl rfl (ea3 (fun w24 g18 hg18 hb18 hc hsz18 => ⟨hS.tr hc, ?_⟩))
     have hzw24 := hc.size
     have hb17 := hb17.no hc
     have hge18 : w.heap.size ≤ g18 := by have := HC.size; omega
     have hS := hS.tr hc
     refine ax rfl rfl (esh au hb17 (fun w25 hb17 hc hsz => ⟨(hS.s hc), ?_⟩))
     have hzw25 := hc.size
     have hb18 := hb18.cc hc
     have hS := (hS.s hc)
     refine bf rfl rfl (esh au hb18 (fun w26 hb18 hc hsz => ?_))
     have hzw26 := hc.size
     have hb17 := hb17.cc hc
     refine bY ?_
     exact xme ⟨_, _, rfl, ((hc0.tr hS).s hc), hb17, (by rw [show x18 = x22 from ex18.trans ex22.symm]; exact hb18), ⟨by omega, by omega, by omega⟩⟩
    refine ax rfl rfl (ea3 (fun w27 g18 hg18 hb18 hc hsz18 => ⟨hS.tr hc, ?_⟩))
    have hzw27 := hc.size
    have hge18 : w.heap.size ≤ g18 := by have := HC.size; omega
    have hS := hS.tr hc
    have hltg18 := hb18.lt
    refine ax rfl rfl (ea3 (fun w28 g17 hg17 hb17 hc hsz17 => ⟨hS.tr hc, ?_⟩))
    have hzw28 := hc.size
    have hb18 := hb18.no hc
    have hge17 : w.heap.size ≤ g17 := by have := HC.size; omega
    have hS := hS.tr hc
    refine ax rfl rfl (esh au hb17 (fun w29 hb17 hc hsz => ⟨(hS.s hc), ?_⟩))
    have hzw29 := hc.size
    have hb18 := hb18.cc hc
    have hS := (hS.s hc)
    refine bf rfl rfl (esh au hb18 (fun w30 hb18 hc hsz => ?_))
    have hzw30 := hc.size
    have hb17 := hb17.cc hc
    refine bY ?_
    exact xme ⟨_, _, rfl, ((hc0.tr hS).s hc), hb17, (by rw [show x18 = x22 from ex18.trans ex22.symm]; exact hb18), ⟨by omega, by omega, by omega⟩⟩
   rintro _ w31 ⟨g17, g18, rfl, hc, hb17, hb18, hgg⟩
   have hzw31 := hc.size
   have HC := HC.tr hc
   have hB := hB.tr hc
   have hb7 := hb7.no hc
   have hb12 := hb12.no hc
   have hb13 := hb13.no hc
   have hBn := hBn.ch hc (fun h => h)
   have hSw := hSw.no hc
   have hq := hq.no hc
   have hrnd := hrnd.no hc
   have hR := hR.cc hc
   have hM := Nat.le_trans hM hc.size
   have hb15 := hb15.no hc
   have hb16 := hb16.no hc
   refine bS (bS (bj ?_))
   refine wli rfl rfl rfl (pfl 3 underlying182) ?_
   refine wli rfl rfl rfl (aC underlying4 hb15) ?_
   refine bC (cn ?_)
   refine nI rfl (fun c1 => ?_) (fun c1 => ?_)
   ·
    refine bS ?_
    refine jT (.q 0 [0, 1, 0, 1, 0, 2, 0, 3] .nil) (fun k => k = g16) (fun w32 hc hszw32 => ?_)
    have hzw32 := hc.size
    have HC := HC.tr hc
    have hB := hB.tr hc
    have hb7 := hb7.no hc
    have hb12 := hb12.no hc
    have hb13 := hb13.no hc
    have hBn := hBn.ch hc (fun h => h)
    have hSw := hSw.no hc
    have hq := hq.no hc
    have hrnd := hrnd.no hc
    have hR := hR.cc hc
    have hM := Nat.le_trans hM hc.size
    have hb15 := hb15.no hc
    have hb16 := hb16.no hc
    have hb17 := hb17.no hc
    have hb18 := hb18.no hc
    have hS : Ch (fun k => k = g16) w32 w32 := Ch.refl _ _
    refine ws1 rfl (pfl 0 underlying182) ?_
    refine ws2 rfl (aE underlying3 rfl rfl (fun _ h => h.cell (fun ht => by first | omega | (dsimp only at ht; omega)) (hb15.cell rfl))) ?_
    refine ws1 rfl (pfl 1 underlying182) ?_
    refine ws2 rfl (aE underlying3 rfl rfl (fun _ h => h.cell (fun ht => by first | omega | (dsimp only at ht; omega)) (hb15.cell rfl))) ?_
    refine ws1 rfl (pfl 0 underlying93) ?_
    refine ax rfl rfl (e_stC (p := []) (u := (i64 (y.2.1 : Int) : Value)) (r := (([i64 (y.2.2.1 : Int)] ++ ((List.map u8v x18) ++ [Value.slice none 0 0])) : List Value)) (v := i64 (y.1 : Int)) (by rfl) rfl rfl rfl hb16 (by simp only [List.append_assoc, List.cons_append, List.nil_append, List.append_nil]) rfl (fun w33 hb16 hc hsz => ⟨(hS.r hc), ?_⟩))
    have hb16 : Blk w33 g16 93 (([i64 (y.1 : Int), i64 (y.2.2.1 : Int)] ++ ((List.map u8v x18) ++ [Value.slice none 0 0])) : List Value).toArray := by have h := hb16; simp only [List.append_assoc, List.cons_append, List.nil_append, List.append_nil] at h ⊢; exact h
    have hzw33 := hc.size
    have HC := HC.n hc
    have hB := hB.trans hc (fun _ _ h => h) (fun k hk ht => by first | omega | (dsimp only at *; omega))
    have hb7 := hb7.cc hc
    have hb12 := hb12.cc hc
    have hb13 := hb13.cc hc
    have hBn := hBn.ch hc (by omega)
    first | have hSw := hSw.cc hc | have hSw := hSw.cT hc
    first | have hq := hq.cc hc | have hq := hq.cT hc
    first | have hrnd := hrnd.cc hc | have hrnd := hrnd.cT hc
    have hR := hR.cc hc
    have hM := Nat.le_trans hM hc.size
    have hb15 := hb15.cc hc
    have hb17 := hb17.cc hc
    have hb18 := hb18.cc hc
    have hS := (hS.r hc)
    refine ws1 rfl (pfl 1 underlying93) ?_
    refine bf rfl rfl (e_stC (p := ([i64 (y.1 : Int)] : List Value)) (u := (i64 (y.2.2.1 : Int) : Value)) (r := (((List.map u8v x18) ++ [Value.slice none 0 0]) : List Value)) (v := i64 (y.2.1 : Int)) (by rfl) rfl rfl rfl hb16 (by simp only [List.append_assoc, List.cons_append, List.nil_append, List.append_nil]) rfl (fun w34 hb16 hc hsz => ?_))
    have hb16 : Blk w34 g16 93 (([i64 (y.1 : Int), i64 (y.2.1 : Int)] ++ ((List.map u8v x18) ++ [Value.slice none 0 0])) : List Value).toArray := by have h := hb16; simp only [List.append_assoc, List.cons_append, List.nil_append, List.append_nil] at h ⊢; exact h
    have hzw34 := hc.size
    have HC := HC.n hc
    have hB := hB.trans hc (fun _ _ h => h) (fun k hk ht => by first | omega | (dsimp only at *; omega))
    have hb7 := hb7.cc hc
    have hb12 := hb12.cc hc
    have hb13 := hb13.cc hc
    have hBn := hBn.ch hc (by omega)
    first | have hSw := hSw.cc hc | have hSw := hSw.cT hc
    first | have hq := hq.cc hc | have hq := hq.cT hc
    first | have hrnd := hrnd.cc hc | have hrnd := hrnd.cT hc
    have hR := hR.cc hc
    have hM := Nat.le_trans hM hc.size
    have hb15 := hb15.cc hc
    have hb17 := hb17.cc hc
    have hb18 := hb18.cc hc
    refine bY (cn (bj ?_))
    refine wli rfl rfl rfl (pla underlying34 au (aN hb18)) ?_
    refine wli rfl rfl rfl (pla underlying34 au (aN hb17)) ?_
    refine eo rfl (by repeat (first | with_reducible exact bD | with_reducible exact bo | with_reducible apply bw | with_reducible apply cr)) (esh au hb17 (fun w35 hb17 hc hsz => ?_))
    have hzw35 := hc.size
    have HC := HC.n hc
    have hB := hB.trans hc (fun _ _ h => h) (fun k hk ht => by first | omega | (dsimp only at *; omega))
    have hb7 := hb7.cc hc
    have hb12 := hb12.cc hc
    have hb13 := hb13.cc hc
    have hBn := hBn.ch hc (by omega)
    first | have hSw := hSw.cc hc | have hSw := hSw.cT hc
    first | have hq := hq.cc hc | have hq := hq.cT hc
    first | have hrnd := hrnd.cc hc | have hrnd := hrnd.cT hc
    have hR := hR.cc hc
    have hM := Nat.le_trans hM hc.size
    have hb15 := hb15.cc hc
    have hb16 := hb16.cc hc
    have hb18 := hb18.cc hc
    refine eo rfl (by repeat (first | with_reducible exact bD | with_reducible exact bo | with_reducible apply bw | with_reducible apply cr)) (esh au hb18 (fun w36 hb18 hc hsz => ?_))
    have hzw36 := hc.size
    have HC := HC.n hc
    have hB := hB.trans hc (fun _ _ h => h) (fun k hk ht => by first | omega | (dsimp only at *; omega))
    have hb7 := hb7.cc hc
    have hb12 := hb12.cc hc
    have hb13 := hb13.cc hc
    have hBn := hBn.ch hc (by omega)
    first | have hSw := hSw.cc hc | have hSw := hSw.cT hc
    first | have hq := hq.cc hc | have hq := hq.cT hc
    first | have hrnd := hrnd.cc hc | have hrnd := hrnd.cT hc
    have hR := hR.cc hc
    have hM := Nat.le_trans hM hc.size
    have hb15 := hb15.cc hc
    have hb16 := hb16.cc hc
    have hb17 := hb17.cc hc
    refine bC (cn (bS (bj ?_)))
    refine wli rfl rfl rfl (pfl 0 underlying182) ?_
    refine wli rfl rfl rfl (aC underlying3 hb15) ?_
    refine wli rfl rfl rfl (pfl 2 underlying182) ?_
    refine wli rfl rfl rfl (aC underlying3 hb15) ?_
    refine wli rfl rfl rfl (pla underlying34 au (aN hb17)) ?_
    refine wli rfl rfl rfl (pla underlying34 au (aN hb18)) ?_
    refine eo rfl (by repeat (first | with_reducible exact bD | with_reducible exact bo | with_reducible apply bw | with_reducible apply cr)) (ai bL rfl rfl (aY (hx18k) (ht) hrnd) ?_)
    rintro _ w37 ⟨A75, l75, c75, rfl, hI75, hm75, hc⟩
    refine ⟨_, rfl, ?_⟩
    have hzw37 := hc.size
    have HC := HC.tr hc
    have hB := hB.tr hc
    have hb7 := hb7.no hc
    have hb12 := hb12.no hc
    have hb13 := hb13.no hc
    have hBn := hBn.ch hc (fun h => h)
    have hSw := hSw.no hc
    have hq := hq.no hc
    have hrnd := hrnd.no hc
    have hR := hR.cc hc
    have hM := Nat.le_trans hM hc.size
    have hb15 := hb15.no hc
    have hb16 := hb16.no hc
    have hb17 := hb17.no hc
    have hb18 := hb18.no hc
    refine eo rfl (by repeat (first | with_reducible exact bD | with_reducible exact bo | with_reducible apply bw | with_reducible apply cr)) (esw bq hb12 (fun w38 hb12 hc hsz => ?_))
    have hzw38 := hc.size
    have HC := HC.n hc
    have hB := hB.trans hc (fun _ _ h => h) (fun k hk ht => by first | omega | (dsimp only at *; omega))
    have hb7 := hb7.cc hc
    have hb13 := hb13.cc hc
    have hBn := hBn.ch hc (by omega)
    first | have hSw := hSw.cc hc | have hSw := hSw.cT hc
    first | have hq := hq.cc hc | have hq := hq.cT hc
    first | have hrnd := hrnd.cc hc | have hrnd := hrnd.cT hc
    have hR := hR.cc hc
    have hM := Nat.le_trans hM hc.size
    have hb15 := hb15.cc hc
    have hb16 := hb16.cc hc
    have hb17 := hb17.cc hc
    have hb18 := hb18.cc hc
    first | have hI75 := hI75.cc hc | have hI75 := hI75.cT hc
    refine bC (cn (bj ?_))
    refine wli rfl rfl rfl (aC underlying88 hb13) ?_
    refine wli rfl rfl rfl (pla underlying93 bq (aN hb16)) ?_
    refine wli rfl rfl rfl (pla underlying93 bq (aN hb12)) ?_
    have hltg7 := hb7.lt
    have hltg12 := hb12.lt
    have hltg13 := hb13.lt
    have hltg41 := hBn.lt
    have hltg15 := hb15.lt
    have hltg16 := hb16.lt
    have hltg17 := hb17.lt
    have hltg18 := hb18.lt
    refine eo rfl (by repeat (first | with_reducible exact bD | with_reducible exact bo | with_reducible apply bw | with_reducible apply cr)) (il [⟨y.1, y.2.1, x18, none, 0, 0, []⟩, ⟨y.1, y.2.2.1, shaF (1 :: (x18 ++ t)), A75, l75, c75, 1 :: (x18 ++ t)⟩] underlying88 bq (by kernel_rfl) (ok2 ⟨hx18k, Nat.zero_le _⟩ ⟨aD _, (show l75 ≤ 1000000000 by omega)⟩) rfl rfl rfl rfl (by decide) (by decide) (fun w39 g79 hg79 hb79 hc hsz79 => ?_))
    have hzw39 := hc.size
    have hge79 := HC.geo hg79
    have HC := HC.tr hc
    have hB := hB.tr hc
    have hb7 := hb7.no hc
    have hb12 := hb12.no hc
    have hb13 := hb13.no hc
    have hBn := hBn.ch hc (fun h => h)
    have hSw := hSw.no hc
    have hq := hq.no hc
    have hrnd := hrnd.no hc
    have hR := hR.cc hc
    have hM := Nat.le_trans hM hc.size
    have hb15 := hb15.no hc
    have hb16 := hb16.no hc
    have hb17 := hb17.no hc
    have hb18 := hb18.no hc
    have hI75 := hI75.no hc
    have hRo := hR
    have hltg7 := hb7.lt
    have hltg12 := hb12.lt
    have hltg13 := hb13.lt
    have hltg41 := hBn.lt
    have hltg15 := hb15.lt
    have hltg16 := hb16.lt
    have hltg17 := hb17.lt
    have hltg18 := hb18.lt
    have hltg79 := hb79.lt
    refine eo rfl (by repeat (first | with_reducible exact bD | with_reducible exact bo | with_reducible apply bw | with_reducible apply cr)) (iS (G := fun k => w36.heap.size ≤ k ∧ k < w37.heap.size) rfl lW rfl rfl hR (by omega) (SI.lits hb79 (by rw [List.toList_toArray]) rfl (ok2 ⟨hx18k, Nat.zero_le _⟩ ⟨aD _, (show l75 ≤ 1000000000 by omega)⟩)) (nf2 Sl.nil hI75) (fun k hk => by have h1 := hk.1; have h2 := hk.2; exact ⟨by omega, by omega, .inr (.inr (by omega))⟩) (fun k hk => .inr (.inr (by omega))) (by omega) (fun w40 A80 c80 hR hc => ?_))
    have hc := hc.mono (U := fun k => ((w5.heap.size ≤ k ∧ k < w6.heap.size) ∨ k = g37 ∨ w14.heap.size + 2 ≤ k) ∧ k < M) (fun k hk ht => ht.elim (fun h => hRo.own h) (fun h => absurd hk (by omega)))
    have hzw40 := hc.size
    have HC := HC.q hc
    have hB := hB.trans hc (fun _ _ h => h) (fun k hk ht => by first | omega | (dsimp only at *; omega))
    have hb7 := hb7.ch hc (by first | omega | (dsimp only; omega))
    have hb12 := hb12.ch hc (by first | omega | (dsimp only; omega))
    have hb13 := hb13.ch hc (by first | omega | (dsimp only; omega))
    have hBn := hBn.ch hc (by first | omega | (dsimp only; omega))
    first | have hSw := hSw.cc hc | have hSw := hSw.cT hc
    first | have hq := hq.cc hc | have hq := hq.cT hc
    first | have hrnd := hrnd.cc hc | have hrnd := hrnd.cT hc
    have hM := Nat.le_trans hM hc.size
    have hb15 := hb15.ch hc (by first | omega | (dsimp only; omega))
    have hb16 := hb16.ch hc (by first | omega | (dsimp only; omega))
    have hb17 := hb17.ch hc (by first | omega | (dsimp only; omega))
    have hb18 := hb18.ch hc (by first | omega | (dsimp only; omega))
    first | have hI75 := hI75.cc hc | have hI75 := hI75.cT hc
    have hb79 := hb79.ch hc (by first | omega | (dsimp only; omega))
    refine eo rfl (by repeat (first | with_reducible exact bD | with_reducible exact bo | with_reducible apply bw | with_reducible apply cr)) (jh (by rfl) rfl rfl rfl hb13 (fun w41 hb13 hc hsz => ?_))
    have hzw41 := hc.size
    have HC := HC.n hc
    have hB := hB.trans hc (fun _ _ h => h) (fun k hk ht => by first | omega | (dsimp only at *; omega))
    have hb7 := hb7.cc hc
    have hb12 := hb12.cc hc
    have hBn := hBn.ch hc (by omega)
    first | have hSw := hSw.cc hc | have hSw := hSw.cT hc
    first | have hq := hq.cc hc | have hq := hq.cT hc
    first | have hrnd := hrnd.cc hc | have hrnd := hrnd.cT hc
    have hR := hR.cc hc
    have hM := Nat.le_trans hM hc.size
    have hb15 := hb15.cc hc
    have hb16 := hb16.cc hc
    have hb17 := hb17.cc hc
    have hb18 := hb18.cc hc
    first | have hI75 := hI75.cc hc | have hI75 := hI75.cT hc
    have hb79 := hb79.cc hc
    refine bC (ak ?_)
    exact fq ⟨_, _, _, _, _, _, _, _, _, _, _, (aD _), hb7, hb12, hb13, hBn, hSw, hq, hrnd, hR, (by omega), (by rw [List.length_append, hDl]; simp; omega), (by rw [hfs, mF (r := true) (lo := y.1) (mid := y.2.1) (hi := y.2.2.1) (by rw [hy1, ← c1]) ex18.symm (by omega) (by omega), List.length_append, hDl, List.map_append, List.append_assoc]; rfl), (by rw [hup, mG (r := true) (lo := y.1) (mid := y.2.1) (hi := y.2.2.1) (by rw [hy1, ← c1]) ex18.symm (by omega) (by omega), List.length_append, hDl]; rfl), (by rw [last2 hRl]), HC⟩ hB
   refine ml (cn (bS (bj ?_)))
   refine wli rfl rfl rfl (pfl 0 underlying182) ?_
   refine wli rfl rfl rfl (aC underlying3 hb15) ?_
   refine wli rfl rfl rfl (pfl 2 underlying182) ?_
   refine wli rfl rfl rfl (aC underlying3 hb15) ?_
   refine wli rfl rfl rfl (pla underlying34 au (aN hb17)) ?_
   refine wli rfl rfl rfl (pla underlying34 au (aN hb18)) ?_
   refine eo rfl (by repeat (first | with_reducible exact bD | with_reducible exact bo | with_reducible apply bw | with_reducible apply cr)) (ai bL rfl rfl (aY (ht) (hx18k) hrnd) ?_)
   rintro _ w42 ⟨A75, l75, c75, rfl, hI75, hm75, hc⟩
   refine ⟨_, rfl, ?_⟩
   have hzw42 := hc.size
   have HC := HC.tr hc
   have hB := hB.tr hc
   have hb7 := hb7.no hc
   have hb12 := hb12.no hc
   have hb13 := hb13.no hc
   have hBn := hBn.ch hc (fun h => h)
   have hSw := hSw.no hc
   have hq := hq.no hc
   have hrnd := hrnd.no hc
   have hR := hR.cc hc
   have hM := Nat.le_trans hM hc.size
   have hb15 := hb15.no hc
   have hb16 := hb16.no hc
   have hb17 := hb17.no hc
   have hb18 := hb18.no hc
   refine eo rfl (by repeat (first | with_reducible exact bD | with_reducible exact bo | with_reducible apply bw | with_reducible apply cr)) (esw bq hb12 (fun w43 hb12 hc hsz => ?_))
   have hzw43 := hc.size
   have HC := HC.n hc
   have hB := hB.trans hc (fun _ _ h => h) (fun k hk ht => by first | omega | (dsimp only at *; omega))
   have hb7 := hb7.cc hc
   have hb13 := hb13.cc hc
   have hBn := hBn.ch hc (by omega)
   first | have hSw := hSw.cc hc | have hSw := hSw.cT hc
   first | have hq := hq.cc hc | have hq := hq.cT hc
   first | have hrnd := hrnd.cc hc | have hrnd := hrnd.cT hc
   have hR := hR.cc hc
   have hM := Nat.le_trans hM hc.size
   have hb15 := hb15.cc hc
   have hb16 := hb16.cc hc
   have hb17 := hb17.cc hc
   have hb18 := hb18.cc hc
   first | have hI75 := hI75.cc hc | have hI75 := hI75.cT hc
   refine bC (cn (bj ?_))
   refine wli rfl rfl rfl (aC underlying88 hb13) ?_
   refine wli rfl rfl rfl (pla underlying93 bq (aN hb16)) ?_
   refine wli rfl rfl rfl (pla underlying93 bq (aN hb12)) ?_
   have hltg7 := hb7.lt
   have hltg12 := hb12.lt
   have hltg13 := hb13.lt
   have hltg41 := hBn.lt
   have hltg15 := hb15.lt
   have hltg16 := hb16.lt
   have hltg17 := hb17.lt
   have hltg18 := hb18.lt
   refine eo rfl (by repeat (first | with_reducible exact bD | with_reducible exact bo | with_reducible apply bw | with_reducible apply cr)) (il [⟨y.2.1, y.2.2.1, x18, none, 0, 0, []⟩, ⟨y.1, y.2.2.1, shaF (1 :: (t ++ x18)), A75, l75, c75, 1 :: (t ++ x18)⟩] underlying88 bq (by kernel_rfl) (ok2 ⟨hx18k, Nat.zero_le _⟩ ⟨aD _, (show l75 ≤ 1000000000 by omega)⟩) rfl rfl rfl rfl (by decide) (by decide) (fun w44 g79 hg79 hb79 hc hsz79 => ?_))
   have hzw44 := hc.size
   have hge79 := HC.geo hg79
   have HC := HC.tr hc
   have hB := hB.tr hc
   have hb7 := hb7.no hc
   have hb12 := hb12.no hc
   have hb13 := hb13.no hc
   have hBn := hBn.ch hc (fun h => h)
   have hSw := hSw.no hc
   have hq := hq.no hc
   have hrnd := hrnd.no hc
   have hR := hR.cc hc
   have hM := Nat.le_trans hM hc.size
   have hb15 := hb15.no hc
   have hb16 := hb16.no hc
   have hb17 := hb17.no hc
   have hb18 := hb18.no hc
   have hI75 := hI75.no hc
   have hRo := hR
   have hltg7 := hb7.lt
   have hltg12 := hb12.lt
   have hltg13 := hb13.lt
   have hltg41 := hBn.lt
   have hltg15 := hb15.lt
   have hltg16 := hb16.lt
   have hltg17 := hb17.lt
   have hltg18 := hb18.lt
   have hltg79 := hb79.lt
   refine eo rfl (by repeat (first | with_reducible exact bD | with_reducible exact bo | with_reducible apply bw | with_reducible apply cr)) (iS (G := fun k => w31.heap.size ≤ k ∧ k < w42.heap.size) rfl lW rfl rfl hR (by omega) (SI.lits hb79 (by rw [List.toList_toArray]) rfl (ok2 ⟨hx18k, Nat.zero_le _⟩ ⟨aD _, (show l75 ≤ 1000000000 by omega)⟩)) (nf2 Sl.nil hI75) (fun k hk => by have h1 := hk.1; have h2 := hk.2; exact ⟨by omega, by omega, .inr (.inr (by omega))⟩) (fun k hk => .inr (.inr (by omega))) (by omega) (fun w45 A80 c80 hR hc => ?_))
   have hc := hc.mono (U := fun k => ((w5.heap.size ≤ k ∧ k < w6.heap.size) ∨ k = g37 ∨ w14.heap.size + 2 ≤ k) ∧ k < M) (fun k hk ht => ht.elim (fun h => hRo.own h) (fun h => absurd hk (by omega)))
   have hzw45 := hc.size
   have HC := HC.q hc
   have hB := hB.trans hc (fun _ _ h => h) (fun k hk ht => by first | omega | (dsimp only at *; omega))
   have hb7 := hb7.ch hc (by first | omega | (dsimp only; omega))
   have hb12 := hb12.ch hc (by first | omega | (dsimp only; omega))
   have hb13 := hb13.ch hc (by first | omega | (dsimp only; omega))
   have hBn := hBn.ch hc (by first | omega | (dsimp only; omega))
   first | have hSw := hSw.cc hc | have hSw := hSw.cT hc
   first | have hq := hq.cc hc | have hq := hq.cT hc
   first | have hrnd := hrnd.cc hc | have hrnd := hrnd.cT hc
   have hM := Nat.le_trans hM hc.size
   have hb15 := hb15.ch hc (by first | omega | (dsimp only; omega))
   have hb16 := hb16.ch hc (by first | omega | (dsimp only; omega))
   have hb17 := hb17.ch hc (by first | omega | (dsimp only; omega))
   have hb18 := hb18.ch hc (by first | omega | (dsimp only; omega))
   first | have hI75 := hI75.cc hc | have hI75 := hI75.cT hc
   have hb79 := hb79.ch hc (by first | omega | (dsimp only; omega))
   refine eo rfl (by repeat (first | with_reducible exact bD | with_reducible exact bo | with_reducible apply bw | with_reducible apply cr)) (jh (by rfl) rfl rfl rfl hb13 (fun w46 hb13 hc hsz => ?_))
   have hzw46 := hc.size
   have HC := HC.n hc
   have hB := hB.trans hc (fun _ _ h => h) (fun k hk ht => by first | omega | (dsimp only at *; omega))
   have hb7 := hb7.cc hc
   have hb12 := hb12.cc hc
   have hBn := hBn.ch hc (by omega)
   first | have hSw := hSw.cc hc | have hSw := hSw.cT hc
   first | have hq := hq.cc hc | have hq := hq.cT hc
   first | have hrnd := hrnd.cc hc | have hrnd := hrnd.cT hc
   have hR := hR.cc hc
   have hM := Nat.le_trans hM hc.size
   have hb15 := hb15.cc hc
   have hb16 := hb16.cc hc
   have hb17 := hb17.cc hc
   have hb18 := hb18.cc hc
   first | have hI75 := hI75.cc hc | have hI75 := hI75.cT hc
   have hb79 := hb79.cc hc
   refine bC (ak ?_)
   exact fq ⟨_, _, _, _, _, _, _, _, _, _, _, (aD _), hb7, hb12, hb13, hBn, hSw, hq, hrnd, hR, (by omega), (by rw [List.length_append, hDl]; simp; omega), (by rw [hfs, mF (r := false) (lo := y.1) (mid := y.2.1) (hi := y.2.2.1) (by rw [hy1, ← c1]) ex18.symm (by omega) (by omega), List.length_append, hDl, List.map_append, List.append_assoc]; rfl), (by rw [hup, mG (r := false) (lo := y.1) (mid := y.2.1) (hi := y.2.2.1) (by rw [hy1, ← c1]) ex18.symm (by omega) (by omega), List.length_append, hDl]; rfl), (by rw [last2 hRl]), HC⟩ hB
  case hdone =>
   rintro xs W a' hS ⟨t, z1, z2, A2, l2, c2, A, l, c, fs, M, ht, hb7, hb12, hb13, hBn, hSw, hq, hrnd, hR, hM, hl, hfs, hup, hla, HC⟩ hK F'
   refine nM ?_ F'
   have hzW := HC.size
   have hSl : xs.length = l40 := hS
   rw [hSl, List.drop_of_length_le (l := (wys I 0 N).reverse) (by rw [List.length_reverse]; omega)] at hfs hup
   have hfs : iH N I b q = fs.map FD.abs := by rw [hfs]; exact List.append_nil _
   have hup : up2 (rts (wys I 0 N).reverse) q (cm b) = t := hup
   rw [sG] at hup
   refine ep (gZ (kV (fP ?_)))
   refine wld rfl rfl rfl (aC underlying88 hb13) ?_
   refine wld rfl rfl rfl (jb rfl) ?_
   refine wld rfl rfl rfl (jb rfl) ?_
   refine kU (gZ (kW ?_))
   refine gg hK (fun w47 hc hsz => ?_)
   have hzw47 := hc.size
   have HC := HC.n hc
   have hb7 := hb7.cc hc
   have hb12 := hb12.cc hc
   have hb13 := hb13.cc hc
   have hBn := hBn.ch hc (by omega)
   first | have hSw := hSw.cc hc | have hSw := hSw.cT hc
   first | have hq := hq.cc hc | have hq := hq.cT hc
   first | have hrnd := hrnd.cc hc | have hrnd := hrnd.cT hc
   have hR := hR.cc hc
   have hM := Nat.le_trans hM hc.size
   refine ⟨_, (l5 rfl rfl rfl), ?_⟩
   exact ⟨A, l, c, fs, true, rfl, hR.si, hR.nf, (by omega), ⟨fun _ => ⟨o1, o2, o3, o4, o5⟩, fun _ => rfl⟩, fun _ => ⟨by omega, hfs.symm, hla.trans hup.symm⟩, HC⟩
  case hstop =>
   exact fun _ _ _ _ _ h => h.elim

theorem oG {w : World} {m n : Int}  {a : List UInt8}{Aq : Option Addr} {lq cq : Nat} {Fq : Nat → Prop} {q : List (List UInt8)}  (ha : a.length = 32) (hq : SI w Fq eHs Aq lq cq q) (hlq : lq ≤ 1000) (hrnd : Sl w (fun k => k = 0) aO (some ⟨0, 0, none⟩) 64 64 rk) :
    Calls Tryz.prog 41 #[hv a, i64 m, i64 n, .slice Aq lq cq] w fun e w' => ∃ (A : Option Addr) (l c : Nat) (fs : List FD) (ok : Bool), e = .returned (.tuple #[.slice A l c, .bool ok]) ∧ SI w' (fun k => k < w'.heap.size) eFD A l c fs ∧ NF w' (fun k => k < w'.heap.size) fs ∧ l ≤ 4000 ∧ ((1 ≤ m ∧ m ≤ n ∧ n ≤ 1099511627776 ∧ q.length = (gtr m.toNat n.toNat).length + (if gwh m.toNat n.toNat then 0 else 1)) → ok = true) ∧ (ok = true → fs.map FD.abs = fe m.toNat n.toNat a q) ∧ Ch No w w' := by
  have hql := hq.len
  have hn0 : 0 < w.heap.size := hrnd.size (by omega) rfl
  have hn1 := hn0
  have hq := hq.old
  have HC : Ch No w w := Ch.refl _ _
  refine kP (args := [hv a, i64 m, i64 n, .slice Aq lq cq]) (n := 151) Tryz.func41 rfl rfl rfl ?_
  refine ab (aa ?_)
  refine wle rfl (bg (cs := (List.map u8v a).toArray) rfl rfl rfl (fun w1 g4 hg4 hb4 hc hsz4 => ?_))
  have hzw1 := hc.size
  have hge4 := HC.geo hg4
  have HC := HC.tr hc
  have hq := hq.no hc
  have hrnd := hrnd.no hc
  have hltg4 := hb4.lt
  refine wle rfl (bg (cs := #[_]) rfl rfl rfl (fun w2 g5 hg5 hb5 hc hsz5 => ?_))
  have hzw2 := hc.size
  have hge5 := HC.geo hg5
  have HC := HC.tr hc
  have hq := hq.no hc
  have hrnd := hrnd.no hc
  have hb4 := hb4.no hc
  have hltg4 := hb4.lt
  have hltg5 := hb5.lt
  refine wle rfl (bg (cs := #[_]) rfl rfl rfl (fun w3 g7 hg7 hb7 hc hsz7 => ?_))
  have hzw3 := hc.size
  have hge7 := HC.geo hg7
  have HC := HC.tr hc
  have hq := hq.no hc
  have hrnd := hrnd.no hc
  have hb4 := hb4.no hc
  have hb5 := hb5.no hc
  iterate 2 refine was ?_
  refine ac (ae (ab (ab (aa ?_))))
  refine wz (aC underlying3 hb5) ?_
  refine wz (aU rfl rfl) ?_
  refine wmv ?_
  refine az (d := 26) rfl (fun q26 => ?_) (fun q26 => ?_)
  ·
   have q26 := of_decide_eq_true q26
   iterate 3 refine aM gq rfl rfl ?_
   refine wz (am rfl rfl) ?_
   refine wmv ?_
   iterate 2 refine aM gq rfl rfl ?_
   refine wz (am rfl rfl) ?_
   refine ac (ae ?_)
   refine aR rfl (rfl) ?_
   refine ab (aa ?_)
   iterate 2 refine was ?_
   refine ac (ae (ao (ag ?_)))
   refine bN ((l5 rfl rfl rfl)) ?_
   exact ⟨none, 0, 0, [], false, rfl, SI.nil, NF.nil, by omega, fun h => absurd h (fun h => by omega), fun h => (by cases h), HC⟩
  have q26 := of_decide_eq_false q26
  refine aq gq rfl rfl (aC underlying3 hb5) ?_
  refine aq gq rfl rfl (aS rfl) ?_
  refine aq gq rfl rfl (bM rfl rfl) ?_
  refine wz (ar rfl rfl) ?_
  refine wmv ?_
  refine az (d := 31) rfl (fun q31 => ?_) (fun q31 => ?_)
  ·
   have q31 := of_decide_eq_true q31
   iterate 2 refine aM gq rfl rfl ?_
   refine wz (am rfl rfl) ?_
   refine ac (ae ?_)
   refine aR rfl (rfl) ?_
   refine ab (aa ?_)
   iterate 2 refine was ?_
   refine ac (ae (ao (ag ?_)))
   refine bN ((l5 rfl rfl rfl)) ?_
   exact ⟨none, 0, 0, [], false, rfl, SI.nil, NF.nil, by omega, fun h => absurd h (fun h => by omega), fun h => (by cases h), HC⟩
  have q31 := of_decide_eq_false q31
  refine aq gq rfl rfl (aS rfl) ?_
  refine aq gq rfl rfl (bM rfl rfl) ?_
  refine wz (ar rfl rfl) ?_
  refine ac (ae ?_)
  refine aA rfl (fun c0 => ?_) (fun c0 => ?_)
  ·
   have c0 := of_decide_eq_true c0
   refine ab (aa ?_)
   iterate 2 refine was ?_
   refine ac (ae (ao (ag ?_)))
   refine bN ((l5 rfl rfl rfl)) ?_
   exact ⟨none, 0, 0, [], false, rfl, SI.nil, NF.nil, by omega, fun h => absurd h (fun h => by omega), fun h => (by cases h), HC⟩
  have c0 := of_decide_eq_false c0
  obtain ⟨N, rfl⟩ : ∃ N : Nat, n = (N : Int) := ⟨n.toNat, by omega⟩
  obtain ⟨M, rfl⟩ : ∃ M : Nat, m = (M : Int) := ⟨m.toNat, by omega⟩
  have eN : (N : Int).toNat = N := Int.toNat_natCast _
  have eM : (M : Int).toNat = M := Int.toNat_natCast _
  refine al (ae (ab (aa ?_)))
  refine was ?_
  refine ac (ae (ab (aa ?_)))
  refine wmv ?_
  iterate 2 refine was ?_
  refine ac (ae (ab (aa ?_)))
  refine was ?_
  refine ac (ae (ab (ap ?_)))
  refine wcl (fun mz ez uz => ∃ lo : Nat, ∃ hi : Nat, ∃ A : Option Addr, ∃ l : Nat, ∃ c : Nat, ∃ ts : List (Nat × Nat × Nat × Bool), ∃ wh : Bool, mz = hi - lo ∧ ez = [(4, .pointer (some ⟨g4, 0, none⟩)), (5, .pointer (some ⟨g5, 0, none⟩)), (7, .pointer (some ⟨g7, 0, none⟩)), (10, .slice A l c), (11, i64 (lo : Int)), (12, i64 (hi : Int)), (13, .bool wh)] ∧ (lo < M ∧ M ≤ hi ∧ hi ≤ N) ∧ (l + (hi - lo) ≤ N) ∧ (gwy M 0 N = ts ++ gwy M lo hi) ∧ (gC M 0 N = gC M lo hi) ∧ (wh = (rts ts).all (! ·)) ∧ (RI uz (fun k => g7 < k) 182 eWS A l c ts) ∧ (Blk uz g4 34 (List.map u8v a).toArray) ∧ (Blk uz g5 3 #[i64 (M : Int)]) ∧ (Blk uz g7 26 #[.slice Aq lq cq]) ∧ (SI uz (fun k => k < w.heap.size) eHs Aq lq cq q) ∧ (Sl uz (fun k => k = 0) aO (some ⟨0, 0, none⟩) 64 64 rk) ∧ (Ch No w uz))
   ⟨0, N, none, 0, 0, [], true, rfl, rfl, ⟨by omega, by omega, by omega⟩, (by omega), rfl, rfl, rfl, RI.nil _ _ _ _, hb4, hb5, hb7, hq, hrnd, HC⟩ ?_
  rintro m0 e w4 ⟨lo, hi, A, l, c, ts, wh, hm0, rfl, hj, hlm, htr, hge, hwh, hW, hb4, hb5, hb7, hq, hrnd, HC⟩
  have hzw4 := HC.size
  refine ab (ab (aa ?_))
  refine wz (aC underlying3 hb5) ?_
  refine wmv ?_
  refine wz (aU rfl rfl) ?_
  refine ac (ae ?_)
  refine aA rfl (fun c1 => ?_) (fun c1 => ?_)
  ·
   have c1 := of_decide_eq_true c1
   have h2m : 2 ≤ hi - lo := by omega
   have hsl := cF h2m
   have hsp := bT (hi - lo)
   have hsg := ig h2m
   refine al (ae (ap (ab (aa ?_))))
   iterate 3 refine wmv ?_
   refine wz (aZ (Z := ((hi - lo : Nat) : Int)) rfl rfl (by rw [w64 (by omega)]; omega)) ?_
   refine wle rfl (ai nA rfl rfl (ix (n := hi - lo) (by omega) (by omega)) ?_)
   rintro _ w5 ⟨rfl, hc⟩
   refine ⟨_, rfl, ?_⟩
   have hzw5 := hc.size
   have HC := HC.tr hc
   have hW := hW.after hc
   have hb4 := hb4.no hc
   have hb5 := hb5.no hc
   have hb7 := hb7.no hc
   have hq := hq.no hc
   have hrnd := hrnd.no hc
   refine wz (aF (Z := ((lo + spl (hi - lo) : Nat) : Int)) rfl rfl (by rw [w64 (by omega)]; omega)) ?_
   refine was ?_
   refine ac (ae (ab (aa ?_)))
   refine wz (aC underlying3 hb5) ?_
   refine wmv ?_
   refine wz (bM rfl rfl) ?_
   refine was ?_
   refine ac (ae (ab (aa ?_)))
   iterate 5 refine wmv ?_
   refine wz (dj (vs' := [i64 (lo : Int), i64 ((lo + spl (hi - lo) : Nat) : Int), i64 (hi : Int), .bool (decide (((lo + spl (hi - lo) : Nat) : Int) < (M : Int)))]) (cs := ([i64 (lo : Int), i64 ((lo + spl (hi - lo) : Nat) : Int), i64 (hi : Int), .bool (decide (((lo + spl (hi - lo) : Nat) : Int) < (M : Int)))] : List Value)) (cs' := ([i64 (lo : Int), i64 ((lo + spl (hi - lo) : Nat) : Int), i64 (hi : Int), .bool (decide (((lo + spl (hi - lo) : Nat) : Int) < (M : Int)))] : List Value)) rfl rfl rfl (fun _ => by kernel_rfl)) ?_
   have hltg4 := hb4.lt
   have hltg5 := hb5.lt
   have hltg7 := hb7.lt
   refine wle rfl (kO (E := 182) (cs := ([i64 (lo : Int), i64 ((lo + spl (hi - lo) : Nat) : Int), i64 (hi : Int), .bool (decide (((lo + spl (hi - lo) : Nat) : Int) < (M : Int)))] : List Value)) (cs' := ([i64 (lo : Int), i64 ((lo + spl (hi - lo) : Nat) : Int), i64 (hi : Int), .bool (decide (((lo + spl (hi - lo) : Nat) : Int) < (M : Int)))] : List Value)) rfl rfl rfl (fun _ => by kernel_rfl) (fun w6 g54 hg54 hb54 hc hsz54 => ?_))
   have hzw6 := hc.size
   have hge54 := HC.geo hg54
   have HC := HC.tr hc
   have hW := hW.after hc
   have hb4 := hb4.no hc
   have hb5 := hb5.no hc
   have hb7 := hb7.no hc
   have hq := hq.no hc
   have hrnd := hrnd.no hc
   have hS54 := SI.oneA (E := eWS) (x := (lo, (lo + spl (hi - lo)), hi, (decide (((lo + spl (hi - lo) : Nat) : Int) < (M : Int))))) hb54 rfl trivial
   have hltg4 := hb4.lt
   have hltg5 := hb5.lt
   have hltg7 := hb7.lt
   refine wle rfl (eW rfl el179 rfl rfl hW (hS54) (by omega) (by intro k hk; first | omega | (dsimp only at *; omega)) (fun w7 A55 c55 hW hc => ?_))
   have hzw7 := hc.size
   have HC := HC.q hc
   have hb4 := hb4.ch hc (by first | omega | (dsimp only; omega))
   have hb5 := hb5.ch hc (by first | omega | (dsimp only; omega))
   have hb7 := hb7.ch hc (by first | omega | (dsimp only; omega))
   first | have hq := hq.cc hc | have hq := hq.cT hc
   first | have hrnd := hrnd.cc hc | have hrnd := hrnd.cT hc
   refine was ?_
   refine ac (ae (ab (aa ?_)))
   refine wmv ?_
   refine ac (ae ?_)
   refine aA rfl (fun c2 => ?_) (fun c2 => ?_)
   ·
    have c2 := of_decide_eq_true c2
    refine aa ?_
    refine wmv ?_
    iterate 2 refine was ?_
    refine ac (ak ?_)
    refine bG (e' := [(4, .pointer (some ⟨g4, 0, none⟩)), (5, .pointer (some ⟨g5, 0, none⟩)), (7, .pointer (some ⟨g7, 0, none⟩)), (10, .slice (_) (_) (_)), (11, i64 (((lo + spl (hi - lo) : Nat)) : Int)), (12, i64 ((hi) : Int)), (13, .bool (false))]) ⟨rfl, rfl, rfl, rfl, rfl, rfl, rfl, trivial⟩ (by rw [hm0]; omega) ⟨(lo + spl (hi - lo) : Nat), hi, _, _, _, _, false, rfl, rfl, ⟨by omega, by omega, by omega⟩, (by omega), (by rw [htr, po (by omega) h2m (by omega), List.append_assoc, show decide (((lo + spl (hi - lo) : Nat) : Int) < (M : Int)) = true from by simp; omega]; rfl), (by rw [hge, gend_r (by omega) h2m (by omega)]), (by rw [rts, List.map_append, List.all_append, show decide (((lo + spl (hi - lo) : Nat) : Int) < (M : Int)) = true from by simp; omega]; simp []), hW.mono (fun k _ hk => by first | omega | (dsimp only at *; omega)), hb4, hb5, hb7, hq, hrnd, HC⟩
   have c2 := of_decide_eq_false c2
   refine aa ?_
   refine wmv ?_
   refine was ?_
   refine ac (ak ?_)
   refine bG (e' := [(4, .pointer (some ⟨g4, 0, none⟩)), (5, .pointer (some ⟨g5, 0, none⟩)), (7, .pointer (some ⟨g7, 0, none⟩)), (10, .slice (_) (_) (_)), (11, i64 ((lo) : Int)), (12, i64 (((lo + spl (hi - lo) : Nat)) : Int)), (13, .bool (wh))]) ⟨rfl, rfl, rfl, rfl, rfl, rfl, rfl, trivial⟩ (by rw [hm0]; omega) ⟨lo, (lo + spl (hi - lo) : Nat), _, _, _, _, wh, rfl, rfl, ⟨by omega, by omega, by omega⟩, (by omega), (by rw [htr, pr (by omega) h2m (by omega), List.append_assoc, show decide (((lo + spl (hi - lo) : Nat) : Int) < (M : Int)) = false from by simp; omega]; rfl), (by rw [hge, gend_l (by omega) h2m (by omega)]), (by rw [rts, List.map_append, List.all_append, show decide (((lo + spl (hi - lo) : Nat) : Int) < (M : Int)) = false from by simp; omega]; simp [hwh, rts]), hW.mono (fun k _ hk => by first | omega | (dsimp only at *; omega)), hb4, hb5, hb7, hq, hrnd, HC⟩
  have c1 := of_decide_eq_false c1
  have hhi : hi = M := by omega
  rw [sK (lo := lo) (hi := hi) (by omega), List.append_nil] at htr
  rw [gend_1 (lo := lo) (hi := hi) (by omega)] at hge
  have htl := hW.len
  have hgs := ij (m := M) N 0 N (by omega) (by omega) (by omega)
  rw [Nat.sub_zero, Nat.sub_zero, htr] at hgs
  have hgl : (gtr M N).length = l := by rw [← hgs, List.length_map, htl]
  have hgw : gwh M N = wh := by unfold gwh; rw [← hgs, hwh]
  refine aI (ah (ah (av (ae (ab (aa ?_))))))
  refine wz (pla underlying34 au (aN hb4)) ?_
  have hltg4 := hb4.lt
  have hltg5 := hb5.lt
  have hltg7 := hb7.lt
  refine wle rfl (ea3 (fun w8 g16 hg16 hb16 hc hsz16 => ?_))
  have hzw8 := hc.size
  have hge16 := HC.geo hg16
  have HC := HC.tr hc
  have hW := hW.after hc
  have hb5 := hb5.no hc
  have hb7 := hb7.no hc
  have hq := hq.no hc
  have hrnd := hrnd.no hc
  refine wle rfl (esh au hb16 (fun w9 hb16 hc hsz => ?_))
  have hzw9 := hc.size
  have HC := HC.n hc
  have hW := hW.ch hc (by intro k hz hk ht; first | omega | (dsimp only at *; omega))
  have hb5 := hb5.cc hc
  have hb7 := hb7.cc hc
  first | have hq := hq.cc hc | have hq := hq.cT hc
  first | have hrnd := hrnd.cc hc | have hrnd := hrnd.cT hc
  refine ac (ae ?_)
  refine gP (fun e w' => ∃ (o : List UInt8) (A7 : Option Addr) (l7 : Nat) (c7 : Nat) (q2 : List (List UInt8)), e = [(5, .pointer (some ⟨g5, 0, none⟩)), (7, .pointer (some ⟨g7, 0, none⟩)), (10, .slice A l c), (11, i64 (lo : Int)), (12, i64 (hi : Int)), (16, .pointer (some ⟨g16, 0, none⟩))] ∧ (Blk w' g5 3 #[i64 (M : Int)]) ∧ (Blk w' g16 34 (List.map u8v o).toArray) ∧ (o.length = 32) ∧ (o = gst wh a q) ∧ (Blk w' g7 26 #[.slice A7 l7 c7]) ∧ (SI w' (fun k => k < w.heap.size) eHs A7 l7 c7 q2) ∧ (q2 = gpt wh q) ∧ (lq = l7 + (if wh then 0 else 1)) ∧ (RI w' (fun k => g7 < k ∧ k ≠ g16) 182 eWS A l c ts) ∧ (Sl w' (fun k => k = 0) aO (some ⟨0, 0, none⟩) 64 64 rk) ∧ (Ch No w w') ∧ (w9.heap.size ≤ w'.heap.size)) ?_ ?_
  ·
   refine ab (aa ?_)
   refine wmv ?_
   refine wz (bc rfl) ?_
   refine ac (ae ?_)
   refine aA rfl (fun c3 => ?_) (fun c3 => ?_)
   rotate_left
   ·
    have hw0 : wh = true := by simpa using c3
    refine al ?_
    exact xme ⟨_, _, _, _, _, rfl, hb5, hb16, ha, (by rw [hw0]; rfl), hb7, hq, (by rw [hw0]; rfl), (by rw [hw0]; rfl), hW.mono (fun k _ hk => by first | omega | (dsimp only at *; omega)), hrnd, HC, (by omega)⟩
   have hw0 : wh = false := by simpa using c3
   refine ab (ab (aa ?_))
   refine wz (aC underlying26 hb7) ?_
   refine wz (aw underlying26 rfl) ?_
   refine wz (gS rfl rfl) ?_
   refine ac (ae ?_)
   refine aA rfl (fun c4 => ?_) (fun c4 => ?_)
   ·
    have c4 := of_decide_eq_true c4
    refine ab (aa ?_)
    iterate 2 refine was ?_
    refine ac (ae (ao (ag (ag ?_))))
    refine bN ((l5 rfl rfl rfl)) ?_
    exact ⟨none, 0, 0, [], false, rfl, SI.nil, NF.nil, by omega, fun h => absurd h (fun h => by have h4 := h.2.2.2; rw [eM, eN, hgl, hgw, hw0] at h4; simp at h4; omega), fun h => (by cases h), HC⟩
   have c4 := of_decide_eq_false c4
   refine al (ae ?_)
   refine wdrn (.q 0 [1, 0, 1, 1, 0, 2, 3] .nil) 6 (fun k => k = g16) (fun w10 hc hszw10 => ?_)
   have hzw10 := hc.size
   have HC := HC.tr hc
   have hW := hW.no hc
   have hb5 := hb5.no hc
   have hb7 := hb7.no hc
   have hq := hq.no hc
   have hrnd := hrnd.no hc
   have hb16 := hb16.no hc
   have hS : Ch (fun k => k = g16) w10 w10 := Ch.refl _ _
   refine ws2 rfl (aE underlying26 rfl rfl (fun _ h => h.cell (fun ht => by first | omega | (dsimp only at ht; omega)) (hb7.cell rfl))) ?_
   obtain ⟨b11, o11, hA11, hF11, hr11⟩ := (hq).opn (i := 0) (d := zH) (by omega)
   have hok11 := (hq).okAt (i := 0) (d := zH) (by omega)
   obtain ⟨x11, ex11⟩ : ∃ x_, x_ = List.getD q (0) zH := ⟨_, rfl⟩
   rw [← ex11] at hr11 hok11
   have hx11k : List.length x11 = 32 := hok11
   have hr11 : w10.rangeAt b11 (o11 + 0 * 32) ((List.map u8v x11) : List Value) := hr11
   refine ws1 rfl (du (j := 0 * 32) underlying26 au rfl hA11 rfl (by omega) (by omega) rfl) ?_
   refine ws2 rfl (bE (cs := ((List.map u8v x11) : List Value)) underlying34 rfl (szL au (by first | rfl | (simp only [List.length_append, List.length_map, List.length_cons, List.length_nil, (show List.length x11 = 32 from hx11k)]; done) | (simp only [List.length_append, List.length_map, List.length_cons, List.length_nil, List.size_toArray, (show List.length x11 = 32 from hx11k)]; done))) rfl (fun _ h => nH hr11 h (fun ht => absurd ht (by have hq := hF11; first | omega | (dsimp only at *; omega))))) ?_
   refine ws2 rfl (aE underlying26 rfl rfl (fun _ h => h.cell (fun ht => by first | omega | (dsimp only at ht; omega)) (hb7.cell rfl))) ?_
   have hS69 := hq.cutTo (lo := 1) (by omega)
   refine ws1 rfl (dX (l := 1) (h := lq) underlying26 au rfl ⟨_, rfl⟩ rfl (by omega) hq.cap hq.cap (q := lq - 1) rfl) ?_
   refine ax rfl rfl (esh au hb16 (fun w12 hb16 hc hsz => ⟨(hS.r hc), ?_⟩))
   have hzw12 := hc.size
   have HC := HC.n hc
   have hW := hW.ch hc (by intro k hz hk ht; first | omega | (dsimp only at *; omega))
   have hb5 := hb5.cc hc
   have hb7 := hb7.cc hc
   first | have hrnd := hrnd.cc hc | have hrnd := hrnd.cT hc
   first | have hS69 := hS69.cc hc | have hS69 := hS69.cT hc
   have hS := (hS.r hc)
   refine bf rfl rfl (jh (by rfl) rfl rfl rfl hb7 (fun w13 hb7 hc hsz => ?_))
   have hzw13 := hc.size
   have HC := HC.n hc
   have hW := hW.ch hc (by intro k hz hk ht; first | omega | (dsimp only at *; omega))
   have hb5 := hb5.cc hc
   first | have hrnd := hrnd.cc hc | have hrnd := hrnd.cT hc
   have hb16 := hb16.cc hc
   first | have hS69 := hS69.cc hc | have hS69 := hS69.cT hc
   refine bY ?_
   exact xme ⟨_, _, _, _, _, rfl, hb5, hb16, hx11k, (by rw [hw0, ex11]; cases q <;> rfl), hb7, hS69, (by rw [hw0]; exact List.drop_one), (by rw [hw0]; simp; omega), hW.mono (fun k _ hk => by first | omega | (dsimp only at *; omega)), hrnd, HC, (by omega)⟩
  rintro _ w14 ⟨o, A7, l7, c7, q2, rfl, hb5, hb16, ho, hoe, hb7, hq2, hqe, hle, hW, hrnd, HC, hz⟩
  have hzw14 := HC.size
  refine ab (ab (aa ?_))
  refine wz (aC underlying26 hb7) ?_
  refine wz (aw underlying26 rfl) ?_
  refine wmv ?_
  refine wz (aw underlying179 rfl) ?_
  refine wz (jQ rfl rfl) ?_
  refine ac (ae ?_)
  refine aA rfl (fun c5 => ?_) (fun c5 => ?_)
  ·
   have c5 := of_decide_eq_true c5
   refine ab (aa ?_)
   iterate 2 refine was ?_
   refine ac (ae (ao (ag ?_)))
   refine bN ((l5 rfl rfl rfl)) ?_
   exact ⟨none, 0, 0, [], false, rfl, SI.nil, NF.nil, by omega, fun h => absurd h (fun h => by have h4 := h.2.2.2; rw [eM, eN, hgl, hgw] at h4; omega), fun h => (by cases h), HC⟩
  have c5 := of_decide_eq_false c5
  have hgwl : (gwy M 0 N).length = l := by rw [htr]; exact htl
  refine al (ae (ab (aa ?_)))
  refine wz (pla underlying34 au (aN hb16)) ?_
  have hltg5 := hb5.lt
  have hltg16 := hb16.lt
  have hltg7 := hb7.lt
  refine wle rfl (ea3 (fun w15 g17 hg17 hb17 hc hsz17 => ?_))
  have hzw15 := hc.size
  have hge17 := HC.geo hg17
  have HC := HC.tr hc
  have hb5 := hb5.no hc
  have hb16 := hb16.no hc
  have hb7 := hb7.no hc
  have hq2 := hq2.no hc
  have hW := hW.after hc
  have hrnd := hrnd.no hc
  refine wle rfl (esh au hb17 (fun w16 hb17 hc hsz => ?_))
  have hzw16 := hc.size
  have HC := HC.n hc
  have hb5 := hb5.cc hc
  have hb16 := hb16.cc hc
  have hb7 := hb7.cc hc
  first | have hq2 := hq2.cc hc | have hq2 := hq2.cT hc
  have hW := hW.ch hc (by intro k hz hk ht; first | omega | (dsimp only at *; omega))
  first | have hrnd := hrnd.cc hc | have hrnd := hrnd.cT hc
  refine ac (ae (ab (aa ?_)))
  iterate 2 refine wmv ?_
  refine wz (pla underlying34 au (aN hb16)) ?_
  refine wz (dj (vs' := [i64 (lo : Int), i64 (hi : Int), (.agg ((hx o) : List Value).toArray)]) (cs := (([i64 (lo : Int), i64 (hi : Int)] ++ ((List.map u8v o) ++ [Value.slice none 0 0])) : List Value)) (cs' := (([i64 (lo : Int), i64 (hi : Int)] ++ ((hx o) ++ [Value.slice none 0 0])) : List Value)) rfl (by simp only [hv, cW (ho)] <;> rfl) (by simp only [hv, cW (ho)] <;> rfl) (fun _ => by kernel_rfl)) ?_
  have hltg5 := hb5.lt
  have hltg16 := hb16.lt
  have hltg7 := hb7.lt
  have hltg17 := hb17.lt
  refine wle rfl (il [⟨lo, hi, o, none, 0, 0, []⟩] underlying88 bq (by kernel_rfl) (ok1 ⟨ho, Nat.zero_le _⟩) rfl rfl rfl rfl (by decide) (by decide) (fun w17 g80 hg80 hb80 hc hsz80 => ?_))
  have hzw17 := hc.size
  have hge80 := HC.geo hg80
  have HC := HC.tr hc
  have hb5 := hb5.no hc
  have hb16 := hb16.no hc
  have hb7 := hb7.no hc
  have hq2 := hq2.no hc
  have hW := hW.after hc
  have hrnd := hrnd.no hc
  have hb17 := hb17.no hc
  have hltg5 := hb5.lt
  have hltg16 := hb16.lt
  have hltg7 := hb7.lt
  have hltg17 := hb17.lt
  have hltg80 := hb80.lt
  refine wle rfl (bz (cs := #[.slice none 0 0]) rfl (by rfl) rfl (fun w18 g18 hg18 hb18 hc hsz18 => ?_))
  have hzw18 := hc.size
  have hge18 := HC.geo hg18
  have HC := HC.tr hc
  have hb5 := hb5.no hc
  have hb16 := hb16.no hc
  have hb7 := hb7.no hc
  have hq2 := hq2.no hc
  have hW := hW.after hc
  have hrnd := hrnd.no hc
  have hb17 := hb17.no hc
  have hb80 := hb80.no hc
  refine wle rfl (jh (by rfl) rfl rfl rfl hb18 (fun w19 hb18 hc hsz => ?_))
  have hzw19 := hc.size
  have HC := HC.n hc
  have hb5 := hb5.cc hc
  have hb16 := hb16.cc hc
  have hb7 := hb7.cc hc
  first | have hq2 := hq2.cc hc | have hq2 := hq2.cT hc
  have hW := hW.ch hc (by intro k hz hk ht; first | omega | (dsimp only at *; omega))
  first | have hrnd := hrnd.cc hc | have hrnd := hrnd.cT hc
  have hb17 := hb17.cc hc
  have hb80 := hb80.cc hc
  refine ac (ae (ab (ab (aa ?_))))
  refine wmv ?_
  obtain ⟨n8, hn8⟩ : ∃ x, x = w19.heap.size := ⟨_, rfl⟩
  rw [← htr] at hW
  have hSw : SI w19 (fun k => k < n8 ∧ g7 < k ∧ k ≠ g16 ∧ k ≠ g17 ∧ k ≠ g18 ∧ k ≠ g80) eWS A l c (gwy M 0 N) := hW.si.mono (fun k hk h2 => by first | omega | (dsimp only at *; omega))
  refine wle rfl (ai rB rfl rfl (qe) ?_)
  rintro _ w20 ⟨g82, rfl, hgB82, hBn, hc⟩
  refine ⟨_, rfl, ?_⟩
  have hzw20 := hc.size
  have HC := HC.tr hc
  have hb5 := hb5.no hc
  have hb16 := hb16.no hc
  have hb7 := hb7.no hc
  have hq2 := hq2.no hc
  have hrnd := hrnd.no hc
  have hb17 := hb17.no hc
  have hb80 := hb80.no hc
  have hb18 := hb18.no hc
  have hSw := hSw.no hc
  refine ac (ae (ap ?_))
  have hM : w20.heap.size ≤ w20.heap.size := Nat.le_refl _
  have hok0 := ok1 (a := ⟨lo, hi, o, none, 0, 0, []⟩) ⟨ho, Nat.zero_le _⟩
  have hR := RF.lit (n := 1) (M := w20.heap.size) (Z := (fun k => (k = g80 ∨ w20.heap.size + 2 ≤ k))) (fs := [⟨lo, hi, o, none, 0, 0, []⟩]) (G := No) hb80 (by rw [List.toList_toArray]) rfl hok0 (nf1 Sl.nil) (fun k hk => hk.elim) (.inl rfl) (by omega)
  have hf0 : fe M N a q = [FD.abs ⟨lo, hi, o, none, 0, 0, []⟩] ++ gfs M ((gwy M 0 N).reverse.drop ([] : List Nat).length) (q2.drop ([] : List Nat).length) o o := by unfold fe; rw [hgw, hge, ← hoe, ← hqe]; rfl
  have hltg80 := hb80.lt
  have hltg5 := hb5.lt
  have hltg7 := hb7.lt
  have hltg16 := hb16.lt
  have hltg17 := hb17.lt
  have hltg18 := hb18.lt
  have hltg82 := hBn.lt
  have hz0 := HC.size
  refine gW (m := 0) rfl (enters_of Tryz.func167 (by kernel_rfl) rfl) (fun i : Nat => #[i64 (i : Int), .agg (eWS.f ((gwy M 0 N).getD (l - 1 - i) (0, 0, 0, false))).toArray]) (fun _ => rfl) (fun (pre : List Nat) (i : Nat) => pre.length = i ∧ i < l) (fun xs => xs.length = l) (fun _ => True) (fun W => Blk W g82 179 #[.slice A l c] ∧ SI W (fun k => k < n8 ∧ g7 < k ∧ k ≠ g16 ∧ k ≠ g17 ∧ k ≠ g18 ∧ k ≠ g80) eWS A l c (gwy M 0 N)) ?hseq (fun xs W => ∃ o : List UInt8, ∃ z : List UInt8, ∃ A9 : Option Addr, ∃ l9 : Nat, ∃ c9 : Nat, ∃ fs : List FD, ∃ MM : Nat, (o.length = 32) ∧ (z.length = 32) ∧ (Blk W g5 3 #[i64 (M : Int)]) ∧ (Blk W g7 26 #[.slice A7 l7 c7]) ∧ (Blk W g16 34 (List.map u8v o).toArray) ∧ (Blk W g17 34 (List.map u8v z).toArray) ∧ (Blk W g18 88 #[.slice A9 l9 c9]) ∧ (Blk W g82 179 #[.slice A l c]) ∧ (SI W (fun k => k < n8 ∧ g7 < k ∧ k ≠ g16 ∧ k ≠ g17 ∧ k ≠ g18 ∧ k ≠ g80) eWS A l c (gwy M 0 N)) ∧ (SI W (fun k => k < w.heap.size) eHs A7 l7 c7 q2) ∧ (Sl W (fun k => k = 0) aO (some ⟨0, 0, none⟩) 64 64 rk) ∧ (RF W MM (fun k => (k = g80 ∨ w20.heap.size + 2 ≤ k)) 93 A9 l9 c9 fs) ∧ (MM ≤ W.heap.size) ∧ (l9 ≤ 1 + 3 * xs.length) ∧ (fe M N a q = fs.map FD.abs ++ gfs M ((gwy M 0 N).reverse.drop xs.length) (q2.drop xs.length) o z) ∧ (Ch No w W)) (fun _ _ _ => False) ?hI ?hIx ?hIl ?hIxl ?hXI ?h0 ?hround ?hdone ?hstop
  case hseq =>
   intro l_ J Jx W hcW hsW hJ hJx hXJ hY hJ0
   exact (nu (fun xs A h => hXJ xs A h) (by omega) hJ hJx hY hJ0).mono (fun e w' h => ⟨⟨_, h.1⟩, h.2⟩)
  case hI =>
   rintro xs A B ⟨o, z, A9, l9, c9, fs, MM, ho, hz_, hb5, hb7, hb16, hb17, hb18, hBn, hSw, hq2, hrnd, hR, hM, hl, hfs, HC⟩ hc
   have hzB := hc.size
   have HC := HC.tr hc
   have hb5 := hb5.no hc
   have hb7 := hb7.no hc
   have hb16 := hb16.no hc
   have hb17 := hb17.no hc
   have hb18 := hb18.no hc
   have hBn := hBn.ch hc (fun h => h)
   have hSw := hSw.no hc
   have hq2 := hq2.no hc
   have hrnd := hrnd.no hc
   have hR := hR.cc hc
   have hM := Nat.le_trans hM hc.size
   exact ⟨o, z, A9, l9, c9, fs, MM, ho, hz_, hb5, hb7, hb16, hb17, hb18, hBn, hSw, hq2, hrnd, hR, hM, hl, hfs, HC⟩
  case hIx =>
   exact fun _ _ _ _ h _ => h
  case hIl =>
   rintro xs A B ⟨o, z, A9, l9, c9, fs, MM, ho, hz_, hb5, hb7, hb16, hb17, hb18, hBn, hSw, hq2, hrnd, hR, hM, hl, hfs, HC⟩ hc
   have hzB := hc.size
   have HC := HC.n hc
   have hb5 := hb5.cc hc
   have hb7 := hb7.cc hc
   have hb16 := hb16.cc hc
   have hb17 := hb17.cc hc
   have hb18 := hb18.cc hc
   have hBn := hBn.ch hc (by omega)
   first | have hSw := hSw.cc hc | have hSw := hSw.cT hc
   first | have hq2 := hq2.cc hc | have hq2 := hq2.cT hc
   first | have hrnd := hrnd.cc hc | have hrnd := hrnd.cT hc
   have hR := hR.cc hc
   have hM := Nat.le_trans hM hc.size
   exact ⟨o, z, A9, l9, c9, fs, MM, ho, hz_, hb5, hb7, hb16, hb17, hb18, hBn, hSw, hq2, hrnd, hR, hM, hl, hfs, HC⟩
  case hIxl =>
   exact fun _ _ _ _ h _ => h
  case hXI =>
   rintro xs W ⟨o, z, A9, l9, c9, fs, MM, ho, hz_, hb5, hb7, hb16, hb17, hb18, hBn, hSw, hq2, hrnd, hR, hM, hl, hfs, HC⟩
   exact ⟨hBn, hSw⟩
  case h0 =>
   intro W hc hs
   have hzW := hc.size
   have HC := HC.tr hc
   have hb80 := hb80.no hc
   have hb5 := hb5.no hc
   have hb7 := hb7.no hc
   have hb16 := hb16.no hc
   have hb17 := hb17.no hc
   have hb18 := hb18.no hc
   have hBn := hBn.ch hc (fun h => h)
   have hSw := hSw.no hc
   have hq2 := hq2.no hc
   have hrnd := hrnd.no hc
   have hR := hR.cc hc
   have hM := Nat.le_trans hM hc.size
   exact ⟨_, _, _, _, _, _, w20.heap.size, ho, ho, hb5, hb7, hb16, hb17, hb18, hBn, hSw, hq2, hrnd, hR, hM, (by simp), hf0, HC⟩
  case hround =>
   intro l pre x W hl hD hsz hI a F
   subst hl
   obtain ⟨o, z, A9, l9, c9, fs, MM, ho, hz_, hb5, hb7, hb16, hb17, hb18, hBn, hSw, hq2, hrnd, hR, hM, hl, hfs, HC⟩ := hI
   have hzW := HC.size
   obtain ⟨hDl, hDx⟩ : pre.length = x ∧ x < l := hD
   rw [hDl] at hl hfs
   obtain ⟨y, hy⟩ : ∃ y, y = (gwy M 0 N).getD (l - 1 - x) (0, 0, 0, false) := ⟨_, rfl⟩
   have hy1 : (gwy M 0 N).reverse.getD x (0, 0, 0, false) = y := by rw [mE hgwl hDx, hy]
   rw [← hy]
   have hM0 := hM
   have hq2l := hq2.len
   have hRl := hR.len
   have hrv : (gwy M 0 N).reverse.length = l := by rw [List.length_reverse]; exact hgwl
   refine (?_ : WCi _ _ _ _ _ _ _ _) _ (F.hand2 rfl rfl)
   have hB : Ch (fun k => k ≠ w20.heap.size + 1 ∧ k ≠ w20.heap.size) W W := Ch.refl _ _
   refine bS (bj ?_)
   refine wli rfl rfl rfl (jb rfl) ?_
   refine bC (cn (bj ?_))
   have hltg5 := hb5.lt
   have hltg7 := hb7.lt
   have hltg16 := hb16.lt
   have hltg17 := hb17.lt
   have hltg18 := hb18.lt
   have hltg82 := hBn.lt
   refine eo rfl (by repeat (first | with_reducible exact bD | with_reducible exact bo | with_reducible apply bw | with_reducible apply cr)) (eal [Value.int .i64 0, Value.int .i64 0, Value.int .i64 0, Value.bool false] (fun w21 g20 hg20 hb20 hc hsz20 => ?_))
   have hzw21 := hc.size
   have hge20 := HC.geo hg20
   have HC := HC.tr hc
   have hB := hB.tr hc
   have hb5 := hb5.no hc
   have hb7 := hb7.no hc
   have hb16 := hb16.no hc
   have hb17 := hb17.no hc
   have hb18 := hb18.no hc
   have hBn := hBn.ch hc (fun h => h)
   have hSw := hSw.no hc
   have hq2 := hq2.no hc
   have hrnd := hrnd.no hc
   have hR := hR.cc hc
   have hM := Nat.le_trans hM hc.size
   refine eo rfl (by repeat (first | with_reducible exact bD | with_reducible exact bo | with_reducible apply bw | with_reducible apply cr)) (esw oI hb20 (fun w22 hb20 hc hsz => ?_))
   have hzw22 := hc.size
   have HC := HC.n hc
   have hB := hB.trans hc (fun _ _ h => h) (fun k hk ht => by first | omega | (dsimp only at *; omega))
   have hb5 := hb5.cc hc
   have hb7 := hb7.cc hc
   have hb16 := hb16.cc hc
   have hb17 := hb17.cc hc
   have hb18 := hb18.cc hc
   have hBn := hBn.ch hc (by omega)
   first | have hSw := hSw.cc hc | have hSw := hSw.cT hc
   first | have hq2 := hq2.cc hc | have hq2 := hq2.cT hc
   first | have hrnd := hrnd.cc hc | have hrnd := hrnd.cT hc
   have hR := hR.cc hc
   have hM := Nat.le_trans hM hc.size
   refine bC ?_
   refine nJ hB (fun W2 hc hsW => ?_)
   have hzW2 := hc.size
   have HC := HC.n hc
   have hb5 := hb5.cc hc
   have hb7 := hb7.cc hc
   have hb16 := hb16.cc hc
   have hb17 := hb17.cc hc
   have hb18 := hb18.cc hc
   have hBn := hBn.ch hc (by omega)
   first | have hSw := hSw.cc hc | have hSw := hSw.cT hc
   first | have hq2 := hq2.cc hc | have hq2 := hq2.cT hc
   first | have hrnd := hrnd.cc hc | have hrnd := hrnd.cT hc
   have hR := hR.cc hc
   have hM := Nat.le_trans hM hc.size
   have hb20 := hb20.cc hc
   have hB : Ch (fun k => k ≠ w20.heap.size + 1 ∧ k ≠ w20.heap.size) W2 W2 := Ch.refl _ _
   refine gX (bS (bS (bj ?_)))
   refine wli rfl rfl rfl (pfl 3 underlying182) ?_
   refine wli rfl rfl rfl (aC underlying4 hb20) ?_
   refine wli rfl rfl rfl (bc rfl) ?_
   refine bC (cn ?_)
   refine nI rfl (fun c6 => ?_) (fun c6 => ?_)
   ·
    refine kQ (fun e w' => ∃ (p : List UInt8) (g21 : Nat) (B1 : Option Addr) (j1 : Nat) (k1 : Nat), e = [(5, .pointer (some ⟨g5, 0, none⟩)), (7, .pointer (some ⟨g7, 0, none⟩)), (16, .pointer (some ⟨g16, 0, none⟩)), (17, .pointer (some ⟨g17, 0, none⟩)), (18, .pointer (some ⟨g18, 0, none⟩)), (19, i64 (x : Int)), (20, .pointer (some ⟨g20, 0, none⟩)), (21, .pointer (some ⟨g21, 0, none⟩))] ∧ (Ch No W2 w') ∧ (q2.getD x zH = p) ∧ (p.length = 32) ∧ (Blk w' g21 93 ([i64 (y.1 : Int), i64 (y.2.2.1 : Int)] ++ (List.map u8v (shaF (1 :: (z ++ p))) ++ [.slice B1 j1 k1]) : List Value).toArray) ∧ (Sl w' (fun k => W2.heap.size ≤ k ∧ k < w'.heap.size) u8v B1 j1 k1 (1 :: (z ++ p))) ∧ (j1 ≤ 100) ∧ (W2.heap.size ≤ g21)) ?_ ?_
    ·
     refine jT (.q 0 [0, 1, 0, 1, 1, 1, 0, 0, 1] (.alt (.q 9 [2, 2, 3] .nil) (.st 10 2 (.st 9 2 (.st 11 3 .nil))))) No (fun w23 hc hszw23 => ?_)
     have hzw23 := hc.size
     have HC := HC.tr hc
     have hb5 := hb5.no hc
     have hb7 := hb7.no hc
     have hb16 := hb16.no hc
     have hb17 := hb17.no hc
     have hb18 := hb18.no hc
     have hBn := hBn.ch hc (fun h => h)
     have hSw := hSw.no hc
     have hq2 := hq2.no hc
     have hrnd := hrnd.no hc
     have hR := hR.cc hc
     have hM := Nat.le_trans hM hc.size
     have hb20 := hb20.no hc
     have hc0 := hc
     have hS : Ch (No) w23 w23 := Ch.refl _ _
     refine ws1 rfl (pfl 0 underlying182) ?_
     refine ws2 rfl (aE underlying3 rfl rfl (fun _ h => h.cell (fun h => h) (hb20.cell rfl))) ?_
     refine ws1 rfl (pfl 2 underlying182) ?_
     refine ws2 rfl (aE underlying3 rfl rfl (fun _ h => h.cell (fun h => h) (hb20.cell rfl))) ?_
     refine ws2 rfl (plh underlying34 au (aN hb17)) ?_
     refine ws2 rfl (aE underlying26 rfl rfl (fun _ h => h.cell (fun h => h) (hb7.cell rfl))) ?_
     refine wsm ?_
     obtain ⟨b24, o24, x24, ex24, hA24, hr24, hx24k⟩ := rdH x hq2
     refine ws1 rfl (pxs underlying26 au hA24) ?_
     refine ws2 rfl (plh underlying34 au hr24) ?_
     refine bh ?_ ?_
     ·
      refine ax rfl rfl (ai bL rfl rfl (aY (hz_) (hx24k) hrnd) ?_)
      rintro _ w25 ⟨A97, l97, c97, rfl, hI97, hm97, hc⟩
      refine ⟨_, rfl, hS.tr hc, ?_⟩
      have hzw25 := hc.size
      have hrnd := hrnd.no hc
      have hS := hS.tr hc
      refine ax rfl rfl (ea9 (fun w26 g21 hg21 hb21 hc hsz21 => ⟨hS.tr hc, ?_⟩))
      have hzw26 := hc.size
      have hrnd := hrnd.no hc
      have hI97 := hI97.no hc
      have hge21 : w.heap.size ≤ g21 := by have := HC.size; omega
      have hS := hS.tr hc
      refine bf rfl rfl (esw bq hb21 (fun w27 hb21 hc hsz => ?_))
      have hzw27 := hc.size
      first | have hrnd := hrnd.cc hc | have hrnd := hrnd.cT hc
      first | have hI97 := hI97.cc hc | have hI97 := hI97.cT hc
      refine bY ?_
      exact xme ⟨_, _, _, _, _, rfl, ((hc0.tr hS).s hc), ex24.symm, hx24k, hb21, hI97.mono (fun k h1 h2 => ⟨by have := h2.1; omega, h1⟩), hm97, (by omega)⟩
     refine ax rfl rfl (ea9 (fun w28 g21 hg21 hb21 hc hsz21 => ⟨hS.tr hc, ?_⟩))
     have hzw28 := hc.size
     have hrnd := hrnd.no hc
     have hge21 : w.heap.size ≤ g21 := by have := HC.size; omega
     have hS := hS.tr hc
     refine ax rfl rfl (ai bL rfl rfl (aY (hz_) (hx24k) hrnd) ?_)
     rintro _ w29 ⟨A97, l97, c97, rfl, hI97, hm97, hc⟩
     refine ⟨_, rfl, hS.tr hc, ?_⟩
     have hzw29 := hc.size
     have hrnd := hrnd.no hc
     have hb21 := hb21.no hc
     have hS := hS.tr hc
     refine bf rfl rfl (esw bq hb21 (fun w30 hb21 hc hsz => ?_))
     have hzw30 := hc.size
     first | have hrnd := hrnd.cc hc | have hrnd := hrnd.cT hc
     first | have hI97 := hI97.cc hc | have hI97 := hI97.cT hc
     refine bY ?_
     exact xme ⟨_, _, _, _, _, rfl, ((hc0.tr hS).s hc), ex24.symm, hx24k, hb21, hI97.mono (fun k h1 h2 => ⟨by have := h2.1; omega, h1⟩), hm97, (by omega)⟩
    rintro _ w31 ⟨p, g21, B1, j1, k1, rfl, hc, hp2, hpl, hb21, hJ1, hj1, hgg21⟩
    have hzw31 := hc.size
    have HC := HC.tr hc
    have hB := hB.tr hc
    have hb5 := hb5.no hc
    have hb7 := hb7.no hc
    have hb16 := hb16.no hc
    have hb17 := hb17.no hc
    have hb18 := hb18.no hc
    have hBn := hBn.ch hc (fun h => h)
    have hSw := hSw.no hc
    have hq2 := hq2.no hc
    have hrnd := hrnd.no hc
    have hR := hR.cc hc
    have hM := Nat.le_trans hM hc.size
    have hb20 := hb20.no hc
    refine bS ?_
    refine jT (.q 0 [1, 0, 1, 0, 1, 1, 0, 0, 1, 0, 1, 2, 3, 3] .nil) No (fun w32 hc hszw32 => ?_)
    have hzw32 := hc.size
    have HC := HC.tr hc
    have hB := hB.tr hc
    have hb5 := hb5.no hc
    have hb7 := hb7.no hc
    have hb16 := hb16.no hc
    have hb17 := hb17.no hc
    have hb18 := hb18.no hc
    have hBn := hBn.ch hc (fun h => h)
    have hSw := hSw.no hc
    have hq2 := hq2.no hc
    have hrnd := hrnd.no hc
    have hR := hR.cc hc
    have hM := Nat.le_trans hM hc.size
    have hb20 := hb20.no hc
    have hb21 := hb21.no hc
    have hJ1 := hJ1.no hc
    have hS : Ch No w32 w32 := Ch.refl _ _
    refine ws2 rfl (aE underlying88 rfl rfl (fun _ h => h.cell (fun h => h) (hb18.cell rfl))) ?_
    refine ws1 rfl (pfl 1 underlying182) ?_
    refine ws2 rfl (aE underlying3 rfl rfl (fun _ h => h.cell (fun h => h) (hb20.cell rfl))) ?_
    refine ws1 rfl (pfl 2 underlying182) ?_
    refine ws2 rfl (aE underlying3 rfl rfl (fun _ h => h.cell (fun h => h) (hb20.cell rfl))) ?_
    refine ws2 rfl (aE underlying26 rfl rfl (fun _ h => h.cell (fun h => h) (hb7.cell rfl))) ?_
    refine wsm ?_
    obtain ⟨b33, o33, x33, ex33, hA33, hr33, hx33k⟩ := rdH x hq2
    refine ws1 rfl (pxs underlying26 au hA33) ?_
    refine ws2 rfl (plh underlying34 au hr33) ?_
    refine ws1 rfl (dj (vs' := [i64 (y.2.1 : Int), i64 (y.2.2.1 : Int), (.agg ((hx x33) : List Value).toArray)]) (cs := (([i64 (y.2.1 : Int), i64 (y.2.2.1 : Int)] ++ ((List.map u8v x33) ++ [Value.slice none 0 0])) : List Value)) (cs' := (([i64 (y.2.1 : Int), i64 (y.2.2.1 : Int)] ++ ((hx x33) ++ [Value.slice none 0 0])) : List Value)) rfl (by simp only [hv, cW (hx33k)] <;> rfl) (by simp only [hv, cW (hx33k)] <;> rfl) (fun _ => by kernel_rfl)) ?_
    refine ws2 rfl (plh underlying93 bq (aN hb21)) ?_
    have hltg5 := hb5.lt
    have hltg7 := hb7.lt
    have hltg16 := hb16.lt
    have hltg17 := hb17.lt
    have hltg18 := hb18.lt
    have hltg82 := hBn.lt
    have hltg20 := hb20.lt
    have hltg21 := hb21.lt
    refine ax rfl rfl (il [⟨y.2.1, y.2.2.1, x33, none, 0, 0, []⟩, ⟨y.1, y.2.2.1, shaF (1 :: (z ++ p)), B1, j1, k1, 1 :: (z ++ p)⟩] underlying88 bq (by kernel_rfl) (ok2 ⟨hx33k, Nat.zero_le _⟩ ⟨aD _, (show j1 ≤ 1000000000 by omega)⟩) rfl rfl rfl rfl (by decide) (by decide) (fun w34 g109 hg109 hb109 hc hsz109 => ⟨hc, ?_⟩))
    have hzw34 := hc.size
    have hge109 := HC.geo hg109
    have HC := HC.tr hc
    have hB := hB.tr hc
    have hb5 := hb5.no hc
    have hb7 := hb7.no hc
    have hb16 := hb16.no hc
    have hb17 := hb17.no hc
    have hb18 := hb18.no hc
    have hBn := hBn.ch hc (fun h => h)
    have hSw := hSw.no hc
    have hq2 := hq2.no hc
    have hrnd := hrnd.no hc
    have hR := hR.cc hc
    have hM := Nat.le_trans hM hc.size
    have hb20 := hb20.no hc
    have hb21 := hb21.no hc
    have hJ1 := hJ1.no hc
    refine aB hc ?_
    have hRo := hR
    have hltg5 := hb5.lt
    have hltg7 := hb7.lt
    have hltg16 := hb16.lt
    have hltg17 := hb17.lt
    have hltg18 := hb18.lt
    have hltg82 := hBn.lt
    have hltg20 := hb20.lt
    have hltg21 := hb21.lt
    have hltg109 := hb109.lt
    refine bf rfl rfl (iS (G := fun k => W2.heap.size ≤ k ∧ k < w31.heap.size) rfl lW rfl rfl hR (by omega) (SI.lits hb109 (by rw [List.toList_toArray]) rfl (ok2 ⟨hx33k, Nat.zero_le _⟩ ⟨aD _, (show j1 ≤ 1000000000 by omega)⟩)) (nf2 Sl.nil hJ1) (fun k hk => by have h1 := hk.1; have h2 := hk.2; exact ⟨by omega, by omega, .inr (by omega)⟩) (fun k hk => .inr (by omega)) (by omega) (fun w35 A110 c110 hR hc => ?_))
    have hc := hc.mono (U := fun k => (k = g80 ∨ w20.heap.size + 2 ≤ k) ∧ k < MM) (fun k hk ht => ht.elim (fun h => hRo.own h) (fun h => absurd hk (by omega)))
    have hzw35 := hc.size
    have HC := HC.q hc
    have hB := hB.trans hc (fun _ _ h => h) (fun k hk ht => by first | omega | (dsimp only at *; omega))
    have hb5 := hb5.ch hc (by first | omega | (dsimp only; omega))
    have hb7 := hb7.ch hc (by first | omega | (dsimp only; omega))
    have hb16 := hb16.ch hc (by first | omega | (dsimp only; omega))
    have hb17 := hb17.ch hc (by first | omega | (dsimp only; omega))
    have hb18 := hb18.ch hc (by first | omega | (dsimp only; omega))
    have hBn := hBn.ch hc (by first | omega | (dsimp only; omega))
    first | have hSw := hSw.cc hc | have hSw := hSw.cT hc
    first | have hq2 := hq2.cc hc | have hq2 := hq2.cT hc
    first | have hrnd := hrnd.cc hc | have hrnd := hrnd.cT hc
    have hM := Nat.le_trans hM hc.size
    have hb20 := hb20.ch hc (by first | omega | (dsimp only; omega))
    have hb21 := hb21.ch hc (by first | omega | (dsimp only; omega))
    first | have hJ1 := hJ1.cc hc | have hJ1 := hJ1.cT hc
    have hb109 := hb109.ch hc (by first | omega | (dsimp only; omega))
    refine bf rfl rfl (jh (by rfl) rfl rfl rfl hb18 (fun w36 hb18 hc hsz => ?_))
    have hzw36 := hc.size
    have HC := HC.n hc
    have hB := hB.trans hc (fun _ _ h => h) (fun k hk ht => by first | omega | (dsimp only at *; omega))
    have hb5 := hb5.cc hc
    have hb7 := hb7.cc hc
    have hb16 := hb16.cc hc
    have hb17 := hb17.cc hc
    have hBn := hBn.ch hc (by omega)
    first | have hSw := hSw.cc hc | have hSw := hSw.cT hc
    first | have hq2 := hq2.cc hc | have hq2 := hq2.cT hc
    first | have hrnd := hrnd.cc hc | have hrnd := hrnd.cT hc
    have hR := hR.cc hc
    have hM := Nat.le_trans hM hc.size
    have hb20 := hb20.cc hc
    have hb21 := hb21.cc hc
    first | have hJ1 := hJ1.cc hc | have hJ1 := hJ1.cT hc
    have hb109 := hb109.cc hc
    refine bY (cn (bS (bj ?_)))
    refine wli rfl rfl rfl (pfl 2 underlying93) ?_
    refine wli rfl rfl rfl (pla underlying34 au (bR (p := ([i64 (y.1 : Int), i64 (y.2.2.1 : Int)] : List Value)) (q := ((List.map u8v (shaF (1 :: (z ++ p)))) : List Value)) (r := ([.slice B1 j1 k1] : List Value)) hb21 (by simp only [List.append_assoc, List.cons_append, List.nil_append, List.append_nil]) rfl)) ?_
    refine eo rfl (by repeat (first | with_reducible exact bD | with_reducible exact bo | with_reducible apply bw | with_reducible apply cr)) (esh au hb17 (fun w37 hb17 hc hsz => ?_))
    have hzw37 := hc.size
    have HC := HC.n hc
    have hB := hB.trans hc (fun _ _ h => h) (fun k hk ht => by first | omega | (dsimp only at *; omega))
    have hb5 := hb5.cc hc
    have hb7 := hb7.cc hc
    have hb16 := hb16.cc hc
    have hb18 := hb18.cc hc
    have hBn := hBn.ch hc (by omega)
    first | have hSw := hSw.cc hc | have hSw := hSw.cT hc
    first | have hq2 := hq2.cc hc | have hq2 := hq2.cT hc
    first | have hrnd := hrnd.cc hc | have hrnd := hrnd.cT hc
    have hR := hR.cc hc
    have hM := Nat.le_trans hM hc.size
    have hb20 := hb20.cc hc
    have hb21 := hb21.cc hc
    first | have hJ1 := hJ1.cc hc | have hJ1 := hJ1.cT hc
    have hb109 := hb109.cc hc
    refine bC (cn (se (ah (av ?_))))
    exact fq ⟨_, _, _, _, _, _, _, ho, (aD _), hb5, hb7, hb16, hb17, hb18, hBn, hSw, hq2, hrnd, hR, (by omega), (by rw [List.length_append, hDl]; simp; omega), (by have e_ : p = x33 := hp2.symm.trans ex33.symm; rw [hfs, qy (lo := y.1) (mid := y.2.1) (hi := y.2.2.1) (by rw [hy1, ← (show y.2.2.2 = false by simpa using c6)]) hp2 (by omega) (by omega), List.length_append, hDl, List.map_append, List.append_assoc, ← e_]; rfl), HC⟩ hB
   refine ml (cn ?_)
   refine kQ (fun e w' => ∃ (p : List UInt8) (g22 : Nat) (B2 : Option Addr) (j2 : Nat) (k2 : Nat) (g23 : Nat) (B3 : Option Addr) (j3 : Nat) (k3 : Nat), e = [(5, .pointer (some ⟨g5, 0, none⟩)), (7, .pointer (some ⟨g7, 0, none⟩)), (16, .pointer (some ⟨g16, 0, none⟩)), (17, .pointer (some ⟨g17, 0, none⟩)), (18, .pointer (some ⟨g18, 0, none⟩)), (19, i64 (x : Int)), (20, .pointer (some ⟨g20, 0, none⟩)), (22, .pointer (some ⟨g22, 0, none⟩)), (23, .pointer (some ⟨g23, 0, none⟩))] ∧ (Ch No W2 w') ∧ (q2.getD x zH = p) ∧ (p.length = 32) ∧ (Blk w' g22 93 ([i64 (y.1 : Int), i64 (M : Int)] ++ (List.map u8v (shaF (1 :: (p ++ o))) ++ [.slice B2 j2 k2]) : List Value).toArray) ∧ (Sl w' (fun k => W2.heap.size ≤ k ∧ k < w'.heap.size) u8v B2 j2 k2 (1 :: (p ++ o))) ∧ (j2 ≤ 100) ∧ (W2.heap.size ≤ g22) ∧ (Blk w' g23 93 ([i64 (y.1 : Int), i64 (y.2.2.1 : Int)] ++ (List.map u8v (shaF (1 :: (p ++ z))) ++ [.slice B3 j3 k3]) : List Value).toArray) ∧ (Sl w' (fun k => W2.heap.size ≤ k ∧ k < w'.heap.size) u8v B3 j3 k3 (1 :: (p ++ z))) ∧ (j3 ≤ 100) ∧ (W2.heap.size ≤ g23)) ?_ ?_
   ·
    refine jT (.q 0 [0, 1, 1, 1, 0, 0, 1, 1] (.q 9 [0, 1, 0, 1, 1, 0, 0, 1, 1] (.alt (.st 8 2 (.alt (.st 18 2 (.alt (.q 19 [2, 2, 2, 3] .nil) (.st 20 2 (.st 19 2 (.st 21 2 (.st 22 3 .nil)))))) (.alt (.st 19 2 (.alt (.st 18 2 (.q 20 [2, 2, 3] .nil)) (.st 20 2 (.st 18 2 (.st 21 2 (.st 22 3 .nil)))))) (.st 20 2 (.alt (.st 18 2 (.st 19 2 (.st 21 2 (.st 22 3 .nil)))) (.st 19 2 (.st 18 2 (.st 21 2 (.st 22 3 .nil))))))))) (.alt (.st 19 2 (.alt (.st 8 2 (.alt (.st 18 2 (.q 20 [2, 2, 3] .nil)) (.st 20 2 (.st 18 2 (.st 21 2 (.st 22 3 .nil)))))) (.st 20 2 (.st 8 2 (.st 18 2 (.st 21 2 (.st 22 3 .nil))))))) (.st 20 2 (.alt (.st 8 2 (.alt (.st 18 2 (.st 19 2 (.st 21 2 (.st 22 3 .nil)))) (.st 19 2 (.st 18 2 (.st 21 2 (.st 22 3 .nil)))))) (.st 19 2 (.st 8 2 (.st 18 2 (.st 21 2 (.st 22 3 .nil))))))))))) No (fun w38 hc hszw38 => ?_)
    have hzw38 := hc.size
    have HC := HC.tr hc
    have hb5 := hb5.no hc
    have hb7 := hb7.no hc
    have hb16 := hb16.no hc
    have hb17 := hb17.no hc
    have hb18 := hb18.no hc
    have hBn := hBn.ch hc (fun h => h)
    have hSw := hSw.no hc
    have hq2 := hq2.no hc
    have hrnd := hrnd.no hc
    have hR := hR.cc hc
    have hM := Nat.le_trans hM hc.size
    have hb20 := hb20.no hc
    have hc0 := hc
    have hS : Ch (No) w38 w38 := Ch.refl _ _
    refine ws1 rfl (pfl 0 underlying182) ?_
    refine ws2 rfl (aE underlying3 rfl rfl (fun _ h => h.cell (fun h => h) (hb20.cell rfl))) ?_
    refine ws2 rfl (aE underlying3 rfl rfl (fun _ h => h.cell (fun h => h) (hb5.cell rfl))) ?_
    refine ws2 rfl (aE underlying26 rfl rfl (fun _ h => h.cell (fun h => h) (hb7.cell rfl))) ?_
    refine wsm ?_
    obtain ⟨b39, o39, x39, ex39, hA39, hr39, hx39k⟩ := rdH x hq2
    refine ws1 rfl (pxs underlying26 au hA39) ?_
    refine ws2 rfl (plh underlying34 au hr39) ?_
    refine ws2 rfl (plh underlying34 au (aN hb16)) ?_
    refine ws1 rfl (pfl 0 underlying182) ?_
    refine ws2 rfl (aE underlying3 rfl rfl (fun _ h => h.cell (fun h => h) (hb20.cell rfl))) ?_
    refine ws1 rfl (pfl 2 underlying182) ?_
    refine ws2 rfl (aE underlying3 rfl rfl (fun _ h => h.cell (fun h => h) (hb20.cell rfl))) ?_
    refine ws2 rfl (aE underlying26 rfl rfl (fun _ h => h.cell (fun h => h) (hb7.cell rfl))) ?_
    refine wsm ?_
    refine ws1 rfl (pxs underlying26 au hA39) ?_
    refine ws2 rfl (plh underlying34 au hr39) ?_
    refine ws2 rfl (plh underlying34 au (aN hb17)) ?_
    refine bh ?_ ?_
    ·
     refine ax rfl rfl (ai bL rfl rfl (aY (hx39k) (ho) hrnd) ?_)
     rintro _ w40 ⟨A121, l121, c121, rfl, hI121, hm121, hc⟩
     refine ⟨_, rfl, hS.tr hc, ?_⟩
     have hzw40 := hc.size
     have hrnd := hrnd.no hc
     have hS := hS.tr hc
     refine bh ?_ ?_
     ·
      refine ax rfl rfl (ai bL rfl rfl (aY (hx39k) (hz_) hrnd) ?_)
      rintro _ w41 ⟨A131, l131, c131, rfl, hI131, hm131, hc⟩
      refine ⟨_, rfl, hS.tr hc, ?_⟩
      have hzw41 := hc.size
      have hrnd := hrnd.no hc
      have hI121 := hI121.no hc
      have hS := hS.tr hc
      refine bh ?_ ?_
      ·
       refine ax rfl rfl (ea9 (fun w42 g22 hg22 hb22 hc hsz22 => ⟨hS.tr hc, ?_⟩))
       have hzw42 := hc.size
       have hrnd := hrnd.no hc
       have hI121 := hI121.no hc
       have hI131 := hI131.no hc
       have hge22 : w.heap.size ≤ g22 := by have := HC.size; omega
       have hS := hS.tr hc
       have hltg22 := hb22.lt
       refine ax rfl rfl (ea9 (fun w43 g23 hg23 hb23 hc hsz23 => ⟨hS.tr hc, ?_⟩))
       have hzw43 := hc.size
       have hrnd := hrnd.no hc
       have hI121 := hI121.no hc
       have hI131 := hI131.no hc
       have hb22 := hb22.no hc
       have hge23 : w.heap.size ≤ g23 := by have := HC.size; omega
       have hS := hS.tr hc
       refine ax rfl rfl (esw bq hb22 (fun w44 hb22 hc hsz => ⟨(hS.s hc), ?_⟩))
       have hzw44 := hc.size
       first | have hrnd := hrnd.cc hc | have hrnd := hrnd.cT hc
       first | have hI121 := hI121.cc hc | have hI121 := hI121.cT hc
       first | have hI131 := hI131.cc hc | have hI131 := hI131.cT hc
       have hb23 := hb23.cc hc
       have hS := (hS.s hc)
       refine bf rfl rfl (esw bq hb23 (fun w45 hb23 hc hsz => ?_))
       have hzw45 := hc.size
       first | have hrnd := hrnd.cc hc | have hrnd := hrnd.cT hc
       first | have hI121 := hI121.cc hc | have hI121 := hI121.cT hc
       first | have hI131 := hI131.cc hc | have hI131 := hI131.cT hc
       have hb22 := hb22.cc hc
       refine bY ?_
       exact xme ⟨_, _, _, _, _, _, _, _, _, rfl, ((hc0.tr hS).s hc), ex39.symm, hx39k, hb22, hI121.mono (fun k h1 h2 => ⟨by have := h2.1; omega, h1⟩), hm121, (by omega), hb23, hI131.mono (fun k h1 h2 => ⟨by have := h2.1; omega, h1⟩), hm131, (by omega)⟩
      refine ax rfl rfl (ea9 (fun w46 g23 hg23 hb23 hc hsz23 => ⟨hS.tr hc, ?_⟩))
      have hzw46 := hc.size
      have hrnd := hrnd.no hc
      have hI121 := hI121.no hc
      have hI131 := hI131.no hc
      have hge23 : w.heap.size ≤ g23 := by have := HC.size; omega
      have hS := hS.tr hc
      have hltg23 := hb23.lt
      refine ax rfl rfl (ea9 (fun w47 g22 hg22 hb22 hc hsz22 => ⟨hS.tr hc, ?_⟩))
      have hzw47 := hc.size
      have hrnd := hrnd.no hc
      have hI121 := hI121.no hc
      have hI131 := hI131.no hc
      have hb23 := hb23.no hc
      have hge22 : w.heap.size ≤ g22 := by have := HC.size; omega
      have hS := hS.tr hc
      refine ax rfl rfl (esw bq hb22 (fun w48 hb22 hc hsz => ⟨(hS.s hc), ?_⟩))
      have hzw48 := hc.size
      first | have hrnd := hrnd.cc hc | have hrnd := hrnd.cT hc
      first | have hI121 := hI121.cc hc | have hI121 := hI121.cT hc
      first | have hI131 := hI131.cc hc | have hI131 := hI131.cT hc
      have hb23 := hb23.cc hc
      have hS := (hS.s hc)
      refine bf rfl rfl (esw bq hb23 (fun w49 hb23 hc hsz => ?_))
      have hzw49 := hc.size
      first | have hrnd := hrnd.cc hc | have hrnd := hrnd.cT hc
      first | have hI121 := hI121.cc hc | have hI121 := hI121.cT hc
      first | have hI131 := hI131.cc hc | have hI131 := hI131.cT hc
      have hb22 := hb22.cc hc
      refine bY ?_
      exact xme ⟨_, _, _, _, _, _, _, _, _, rfl, ((hc0.tr hS).s hc), ex39.symm, hx39k, hb22, hI121.mono (fun k h1 h2 => ⟨by have := h2.1; omega, h1⟩), hm121, (by omega), hb23, hI131.mono (fun k h1 h2 => ⟨by have := h2.1; omega, h1⟩), hm131, (by omega)⟩
     refine bh ?_ ?_
     ·
      refine ax rfl rfl (ea9 (fun w50 g22 hg22 hb22 hc hsz22 => ⟨hS.tr hc, ?_⟩))
      have hzw50 := hc.size
      have hrnd := hrnd.no hc
      have hI121 := hI121.no hc
      have hge22 : w.heap.size ≤ g22 := by have := HC.size; omega
      have hS := hS.tr hc
      refine bh ?_ ?_
      ·
       refine ax rfl rfl (ai bL rfl rfl (aY (hx39k) (hz_) hrnd) ?_)
       rintro _ w51 ⟨A131, l131, c131, rfl, hI131, hm131, hc⟩
       refine ⟨_, rfl, hS.tr hc, ?_⟩
       have hzw51 := hc.size
       have hrnd := hrnd.no hc
       have hI121 := hI121.no hc
       have hb22 := hb22.no hc
       have hS := hS.tr hc
       have hltg22 := hb22.lt
       refine ax rfl rfl (ea9 (fun w52 g23 hg23 hb23 hc hsz23 => ⟨hS.tr hc, ?_⟩))
       have hzw52 := hc.size
       have hrnd := hrnd.no hc
       have hI121 := hI121.no hc
       have hb22 := hb22.no hc
       have hI131 := hI131.no hc
       have hge23 : w.heap.size ≤ g23 := by have := HC.size; omega
       have hS := hS.tr hc
       refine ax rfl rfl (esw bq hb22 (fun w53 hb22 hc hsz => ⟨(hS.s hc), ?_⟩))
       have hzw53 := hc.size
       first | have hrnd := hrnd.cc hc | have hrnd := hrnd.cT hc
       first | have hI121 := hI121.cc hc | have hI121 := hI121.cT hc
       first | have hI131 := hI131.cc hc | have hI131 := hI131.cT hc
       have hb23 := hb23.cc hc
       have hS := (hS.s hc)
       refine bf rfl rfl (esw bq hb23 (fun w54 hb23 hc hsz => ?_))
       have hzw54 := hc.size
       first | have hrnd := hrnd.cc hc | have hrnd := hrnd.cT hc
       first | have hI121 := hI121.cc hc | have hI121 := hI121.cT hc
       have hb22 := hb22.cc hc
       first | have hI131 := hI131.cc hc | have hI131 := hI131.cT hc
       refine bY ?_
       exact xme ⟨_, _, _, _, _, _, _, _, _, rfl, ((hc0.tr hS).s hc), ex39.symm, hx39k, hb22, hI121.mono (fun k h1 h2 => ⟨by have := h2.1; omega, h1⟩), hm121, (by omega), hb23, hI131.mono (fun k h1 h2 => ⟨by have := h2.1; omega, h1⟩), hm131, (by omega)⟩
      have hltg22 := hb22.lt
      refine ax rfl rfl (ea9 (fun w55 g23 hg23 hb23 hc hsz23 => ⟨hS.tr hc, ?_⟩))
      have hzw55 := hc.size
      have hrnd := hrnd.no hc
      have hI121 := hI121.no hc
      have hb22 := hb22.no hc
      have hge23 : w.heap.size ≤ g23 := by have := HC.size; omega
      have hS := hS.tr hc
      refine ax rfl rfl (ai bL rfl rfl (aY (hx39k) (hz_) hrnd) ?_)
      rintro _ w56 ⟨A131, l131, c131, rfl, hI131, hm131, hc⟩
      refine ⟨_, rfl, hS.tr hc, ?_⟩
      have hzw56 := hc.size
      have hrnd := hrnd.no hc
      have hI121 := hI121.no hc
      have hb22 := hb22.no hc
      have hb23 := hb23.no hc
      have hS := hS.tr hc
      refine ax rfl rfl (esw bq hb22 (fun w57 hb22 hc hsz => ⟨(hS.s hc), ?_⟩))
      have hzw57 := hc.size
      first | have hrnd := hrnd.cc hc | have hrnd := hrnd.cT hc
      first | have hI121 := hI121.cc hc | have hI121 := hI121.cT hc
      have hb23 := hb23.cc hc
      first | have hI131 := hI131.cc hc | have hI131 := hI131.cT hc
      have hS := (hS.s hc)
      refine bf rfl rfl (esw bq hb23 (fun w58 hb23 hc hsz => ?_))
      have hzw58 := hc.size
      first | have hrnd := hrnd.cc hc | have hrnd := hrnd.cT hc
      first | have hI121 := hI121.cc hc | have hI121 := hI121.cT hc
      have hb22 := hb22.cc hc
      first | have hI131 := hI131.cc hc | have hI131 := hI131.cT hc
      refine bY ?_
      exact xme ⟨_, _, _, _, _, _, _, _, _, rfl, ((hc0.tr hS).s hc), ex39.symm, hx39k, hb22, hI121.mono (fun k h1 h2 => ⟨by have := h2.1; omega, h1⟩), hm121, (by omega), hb23, hI131.mono (fun k h1 h2 => ⟨by have := h2.1; omega, h1⟩), hm131, (by omega)⟩
     refine ax rfl rfl (ea9 (fun w59 g23 hg23 hb23 hc hsz23 => ⟨hS.tr hc, ?_⟩))
     have hzw59 := hc.size
     have hrnd := hrnd.no hc
     have hI121 := hI121.no hc
     have hge23 : w.heap.size ≤ g23 := by have := HC.size; omega
     have hS := hS.tr hc
     refine bh ?_ ?_
     ·
      refine ax rfl rfl (ai bL rfl rfl (aY (hx39k) (hz_) hrnd) ?_)
      rintro _ w60 ⟨A131, l131, c131, rfl, hI131, hm131, hc⟩
      refine ⟨_, rfl, hS.tr hc, ?_⟩
      have hzw60 := hc.size
      have hrnd := hrnd.no hc
      have hI121 := hI121.no hc
      have hb23 := hb23.no hc
      have hS := hS.tr hc
      have hltg23 := hb23.lt
      refine ax rfl rfl (ea9 (fun w61 g22 hg22 hb22 hc hsz22 => ⟨hS.tr hc, ?_⟩))
      have hzw61 := hc.size
      have hrnd := hrnd.no hc
      have hI121 := hI121.no hc
      have hb23 := hb23.no hc
      have hI131 := hI131.no hc
      have hge22 : w.heap.size ≤ g22 := by have := HC.size; omega
      have hS := hS.tr hc
      refine ax rfl rfl (esw bq hb22 (fun w62 hb22 hc hsz => ⟨(hS.s hc), ?_⟩))
      have hzw62 := hc.size
      first | have hrnd := hrnd.cc hc | have hrnd := hrnd.cT hc
      first | have hI121 := hI121.cc hc | have hI121 := hI121.cT hc
      have hb23 := hb23.cc hc
      first | have hI131 := hI131.cc hc | have hI131 := hI131.cT hc
      have hS := (hS.s hc)
      refine bf rfl rfl (esw bq hb23 (fun w63 hb23 hc hsz => ?_))
      have hzw63 := hc.size
      first | have hrnd := hrnd.cc hc | have hrnd := hrnd.cT hc
      first | have hI121 := hI121.cc hc | have hI121 := hI121.cT hc
      first | have hI131 := hI131.cc hc | have hI131 := hI131.cT hc
      have hb22 := hb22.cc hc
      refine bY ?_
      exact xme ⟨_, _, _, _, _, _, _, _, _, rfl, ((hc0.tr hS).s hc), ex39.symm, hx39k, hb22, hI121.mono (fun k h1 h2 => ⟨by have := h2.1; omega, h1⟩), hm121, (by omega), hb23, hI131.mono (fun k h1 h2 => ⟨by have := h2.1; omega, h1⟩), hm131, (by omega)⟩
     have hltg23 := hb23.lt
     refine ax rfl rfl (ea9 (fun w65 g22 hg22 hb22 hc hsz22 => ⟨hS.tr hc, ?_⟩))
     have hzw65 := hc.size
     have hrnd := hrnd.no hc
     have hI121 := hI121.no hc
     have hb23 := hb23.no hc
     have hge22 : w.heap.size ≤ g22 := by have := HC.size; omega
     have hS := hS.tr hc
     refine ax rfl rfl (ai bL rfl rfl (aY (hx39k) (hz_) hrnd) ?_)
     rintro _ w66 ⟨A131, l131, c131, rfl, hI131, hm131, hc⟩
     refine ⟨_, rfl, hS.tr hc, ?_⟩
     have hzw66 := hc.size
     have hrnd := hrnd.no hc
     have hI121 := hI121.no hc
     have hb23 := hb23.no hc
     have hb22 := hb22.no hc
     have hS := hS.tr hc
     refine ax rfl rfl (esw bq hb22 (fun w67 hb22 hc hsz => ⟨(hS.s hc), ?_⟩))
     have hzw67 := hc.size
     first | have hrnd := hrnd.cc hc | have hrnd := hrnd.cT hc
     first | have hI121 := hI121.cc hc | have hI121 := hI121.cT hc
     have hb23 := hb23.cc hc
     first | have hI131 := hI131.cc hc | have hI131 := hI131.cT hc
     have hS := (hS.s hc)
     refine bf rfl rfl (esw bq hb23 (fun w68 hb23 hc hsz => ?_))
     have hzw68 := hc.size
     first | have hrnd := hrnd.cc hc | have hrnd := hrnd.cT hc
     first | have hI121 := hI121.cc hc | have hI121 := hI121.cT hc
     have hb22 := hb22.cc hc
     first | have hI131 := hI131.cc hc | have hI131 := hI131.cT hc
     refine bY ?_
     exact xme ⟨_, _, _, _, _, _, _, _, _, rfl, ((hc0.tr hS).s hc), ex39.symm, hx39k, hb22, hI121.mono (fun k h1 h2 => ⟨by have := h2.1; omega, h1⟩), hm121, (by omega), hb23, hI131.mono (fun k h1 h2 => ⟨by have := h2.1; omega, h1⟩), hm131, (by omega)⟩
    refine bh ?_ ?_
    ·
     refine ax rfl rfl (ea9 (fun w69 g22 hg22 hb22 hc hsz22 => ⟨hS.tr hc, ?_⟩))
     have hzw69 := hc.size
     have hrnd := hrnd.no hc
     have hge22 : w.heap.size ≤ g22 := by have := HC.size; omega
     have hS := hS.tr hc
     refine bh ?_ ?_
     ·
      refine ax rfl rfl (ai bL rfl rfl (aY (hx39k) (ho) hrnd) ?_)
      rintro _ w70 ⟨A121, l121, c121, rfl, hI121, hm121, hc⟩
      refine ⟨_, rfl, hS.tr hc, ?_⟩
      have hzw70 := hc.size
      have hrnd := hrnd.no hc
      have hb22 := hb22.no hc
      have hS := hS.tr hc
      refine bh ?_ ?_
      ·
       refine ax rfl rfl (ai bL rfl rfl (aY (hx39k) (hz_) hrnd) ?_)
       rintro _ w71 ⟨A131, l131, c131, rfl, hI131, hm131, hc⟩
       refine ⟨_, rfl, hS.tr hc, ?_⟩
       have hzw71 := hc.size
       have hrnd := hrnd.no hc
       have hb22 := hb22.no hc
       have hI121 := hI121.no hc
       have hS := hS.tr hc
       have hltg22 := hb22.lt
       refine ax rfl rfl (ea9 (fun w72 g23 hg23 hb23 hc hsz23 => ⟨hS.tr hc, ?_⟩))
       have hzw72 := hc.size
       have hrnd := hrnd.no hc
       have hb22 := hb22.no hc
       have hI121 := hI121.no hc
       have hI131 := hI131.no hc
       have hge23 : w.heap.size ≤ g23 := by have := HC.size; omega
       have hS := hS.tr hc
       refine ax rfl rfl (esw bq hb22 (fun w73 hb22 hc hsz => ⟨(hS.s hc), ?_⟩))
       have hzw73 := hc.size
       first | have hrnd := hrnd.cc hc | have hrnd := hrnd.cT hc
       first | have hI121 := hI121.cc hc | have hI121 := hI121.cT hc
       first | have hI131 := hI131.cc hc | have hI131 := hI131.cT hc
       have hb23 := hb23.cc hc
       have hS := (hS.s hc)
       refine bf rfl rfl (esw bq hb23 (fun w74 hb23 hc hsz => ?_))
       have hzw74 := hc.size
       first | have hrnd := hrnd.cc hc | have hrnd := hrnd.cT hc
       have hb22 := hb22.cc hc
       first | have hI121 := hI121.cc hc | have hI121 := hI121.cT hc
       first | have hI131 := hI131.cc hc | have hI131 := hI131.cT hc
       refine bY ?_
       exact xme ⟨_, _, _, _, _, _, _, _, _, rfl, ((hc0.tr hS).s hc), ex39.symm, hx39k, hb22, hI121.mono (fun k h1 h2 => ⟨by have := h2.1; omega, h1⟩), hm121, (by omega), hb23, hI131.mono (fun k h1 h2 => ⟨by have := h2.1; omega, h1⟩), hm131, (by omega)⟩
      have hltg22 := hb22.lt
      refine ax rfl rfl (ea9 (fun w75 g23 hg23 hb23 hc hsz23 => ⟨hS.tr hc, ?_⟩))
      have hzw75 := hc.size
      have hrnd := hrnd.no hc
      have hb22 := hb22.no hc
      have hI121 := hI121.no hc
      have hge23 : w.heap.size ≤ g23 := by have := HC.size; omega
      have hS := hS.tr hc
      refine ax rfl rfl (ai bL rfl rfl (aY (hx39k) (hz_) hrnd) ?_)
      rintro _ w76 ⟨A131, l131, c131, rfl, hI131, hm131, hc⟩
      refine ⟨_, rfl, hS.tr hc, ?_⟩
      have hzw76 := hc.size
      have hrnd := hrnd.no hc
      have hb22 := hb22.no hc
      have hI121 := hI121.no hc
      have hb23 := hb23.no hc
      have hS := hS.tr hc
      refine ax rfl rfl (esw bq hb22 (fun w77 hb22 hc hsz => ⟨(hS.s hc), ?_⟩))
      have hzw77 := hc.size
      first | have hrnd := hrnd.cc hc | have hrnd := hrnd.cT hc
      first | have hI121 := hI121.cc hc | have hI121 := hI121.cT hc
      have hb23 := hb23.cc hc
      first | have hI131 := hI131.cc hc | have hI131 := hI131.cT hc
      have hS := (hS.s hc)
      refine bf rfl rfl (esw bq hb23 (fun w78 hb23 hc hsz => ?_))
      have hzw78 := hc.size
      first | have hrnd := hrnd.cc hc | have hrnd := hrnd.cT hc
      have hb22 := hb22.cc hc
      first | have hI121 := hI121.cc hc | have hI121 := hI121.cT hc
      first | have hI131 := hI131.cc hc | have hI131 := hI131.cT hc
      refine bY ?_
      exact xme ⟨_, _, _, _, _, _, _, _, _, rfl, ((hc0.tr hS).s hc), ex39.symm, hx39k, hb22, hI121.mono (fun k h1 h2 => ⟨by have := h2.1; omega, h1⟩), hm121, (by omega), hb23, hI131.mono (fun k h1 h2 => ⟨by have := h2.1; omega, h1⟩), hm131, (by omega)⟩
     have hltg22 := hb22.lt
     refine ax rfl rfl (ea9 (fun w79 g23 hg23 hb23 hc hsz23 => ⟨hS.tr hc, ?_⟩))
     have hzw79 := hc.size
     have hrnd := hrnd.no hc
     have hb22 := hb22.no hc
     have hge23 : w.heap.size ≤ g23 := by have := HC.size; omega
     have hS := hS.tr hc
     refine ax rfl rfl (ai bL rfl rfl (aY (hx39k) (ho) hrnd) ?_)
     rintro _ w80 ⟨A121, l121, c121, rfl, hI121, hm121, hc⟩
     refine ⟨_, rfl, hS.tr hc, ?_⟩
     have hzw80 := hc.size
     have hrnd := hrnd.no hc
     have hb22 := hb22.no hc
     have hb23 := hb23.no hc
     have hS := hS.tr hc
     refine ax rfl rfl (ai bL rfl rfl (aY (hx39k) (hz_) hrnd) ?_)
     rintro _ w81 ⟨A131, l131, c131, rfl, hI131, hm131, hc⟩
     refine ⟨_, rfl, hS.tr hc, ?_⟩
     have hzw81 := hc.size
     have hrnd := hrnd.no hc
     have hb22 := hb22.no hc
     have hb23 := hb23.no hc
     have hI121 := hI121.no hc
     have hS := hS.tr hc
     refine ax rfl rfl (esw bq hb22 (fun w82 hb22 hc hsz => ⟨(hS.s hc), ?_⟩))
     have hzw82 := hc.size
     first | have hrnd := hrnd.cc hc | have hrnd := hrnd.cT hc
     have hb23 := hb23.cc hc
     first | have hI121 := hI121.cc hc | have hI121 := hI121.cT hc
     first | have hI131 := hI131.cc hc | have hI131 := hI131.cT hc
     have hS := (hS.s hc)
     refine bf rfl rfl (esw bq hb23 (fun w83 hb23 hc hsz => ?_))
     have hzw83 := hc.size
     first | have hrnd := hrnd.cc hc | have hrnd := hrnd.cT hc
     have hb22 := hb22.cc hc
     first | have hI121 := hI121.cc hc | have hI121 := hI121.cT hc
     first | have hI131 := hI131.cc hc | have hI131 := hI131.cT hc
     refine bY ?_
     exact xme ⟨_, _, _, _, _, _, _, _, _, rfl, ((hc0.tr hS).s hc), ex39.symm, hx39k, hb22, hI121.mono (fun k h1 h2 => ⟨by have := h2.1; omega, h1⟩), hm121, (by omega), hb23, hI131.mono (fun k h1 h2 => ⟨by have := h2.1; omega, h1⟩), hm131, (by omega)⟩
    refine ax rfl rfl (ea9 (fun w84 g23 hg23 hb23 hc hsz23 => ⟨hS.tr hc, ?_⟩))
    have hzw84 := hc.size
    have hrnd := hrnd.no hc
    have hge23 : w.heap.size ≤ g23 := by have := HC.size; omega
    have hS := hS.tr hc
    refine bh ?_ ?_
    ·
     refine ax rfl rfl (ai bL rfl rfl (aY (hx39k) (ho) hrnd) ?_)
     rintro _ w85 ⟨A121, l121, c121, rfl, hI121, hm121, hc⟩
     refine ⟨_, rfl, hS.tr hc, ?_⟩
     have hzw85 := hc.size
     have hrnd := hrnd.no hc
     have hb23 := hb23.no hc
     have hS := hS.tr hc
     refine bh ?_ ?_
     ·
      refine ax rfl rfl (ai bL rfl rfl (aY (hx39k) (hz_) hrnd) ?_)
      rintro _ w86 ⟨A131, l131, c131, rfl, hI131, hm131, hc⟩
      refine ⟨_, rfl, hS.tr hc, ?_⟩
      have hzw86 := hc.size
      have hrnd := hrnd.no hc
      have hb23 := hb23.no hc
      have hI121 := hI121.no hc
      have hS := hS.tr hc
      have hltg23 := hb23.lt
      refine ax rfl rfl (ea9 (fun w87 g22 hg22 hb22 hc hsz22 => ⟨hS.tr hc, ?_⟩))
      have hzw87 := hc.size
      have hrnd := hrnd.no hc
      have hb23 := hb23.no hc
      have hI121 := hI121.no hc
      have hI131 := hI131.no hc
      have hge22 : w.heap.size ≤ g22 := by have := HC.size; omega
      have hS := hS.tr hc
      refine ax rfl rfl (esw bq hb22 (fun w88 hb22 hc hsz => ⟨(hS.s hc), ?_⟩))
      have hzw88 := hc.size
      first | have hrnd := hrnd.cc hc | have hrnd := hrnd.cT hc
      have hb23 := hb23.cc hc
      first | have hI121 := hI121.cc hc | have hI121 := hI121.cT hc
      first | have hI131 := hI131.cc hc | have hI131 := hI131.cT hc
      have hS := (hS.s hc)
      refine bf rfl rfl (esw bq hb23 (fun w89 hb23 hc hsz => ?_))
      have hzw89 := hc.size
      first | have hrnd := hrnd.cc hc | have hrnd := hrnd.cT hc
      first | have hI121 := hI121.cc hc | have hI121 := hI121.cT hc
      first | have hI131 := hI131.cc hc | have hI131 := hI131.cT hc
      have hb22 := hb22.cc hc
      refine bY ?_
      exact xme ⟨_, _, _, _, _, _, _, _, _, rfl, ((hc0.tr hS).s hc), ex39.symm, hx39k, hb22, hI121.mono (fun k h1 h2 => ⟨by have := h2.1; omega, h1⟩), hm121, (by omega), hb23, hI131.mono (fun k h1 h2 => ⟨by have := h2.1; omega, h1⟩), hm131, (by omega)⟩
     have hltg23 := hb23.lt
     refine ax rfl rfl (ea9 (fun w90 g22 hg22 hb22 hc hsz22 => ⟨hS.tr hc, ?_⟩))
     have hzw90 := hc.size
     have hrnd := hrnd.no hc
     have hb23 := hb23.no hc
     have hI121 := hI121.no hc
     have hge22 : w.heap.size ≤ g22 := by have := HC.size; omega
     have hS := hS.tr hc
     refine ax rfl rfl (ai bL rfl rfl (aY (hx39k) (hz_) hrnd) ?_)
     rintro _ w91 ⟨A131, l131, c131, rfl, hI131, hm131, hc⟩
     refine ⟨_, rfl, hS.tr hc, ?_⟩
     have hzw91 := hc.size
     have hrnd := hrnd.no hc
     have hb23 := hb23.no hc
     have hI121 := hI121.no hc
     have hb22 := hb22.no hc
     have hS := hS.tr hc
     refine ax rfl rfl (esw bq hb22 (fun w92 hb22 hc hsz => ⟨(hS.s hc), ?_⟩))
     have hzw92 := hc.size
     first | have hrnd := hrnd.cc hc | have hrnd := hrnd.cT hc
     have hb23 := hb23.cc hc
     first | have hI121 := hI121.cc hc | have hI121 := hI121.cT hc
     first | have hI131 := hI131.cc hc | have hI131 := hI131.cT hc
     have hS := (hS.s hc)
     refine bf rfl rfl (esw bq hb23 (fun w93 hb23 hc hsz => ?_))
     have hzw93 := hc.size
     first | have hrnd := hrnd.cc hc | have hrnd := hrnd.cT hc
     first | have hI121 := hI121.cc hc | have hI121 := hI121.cT hc
     have hb22 := hb22.cc hc
     first | have hI131 := hI131.cc hc | have hI131 := hI131.cT hc
     refine bY ?_
     exact xme ⟨_, _, _, _, _, _, _, _, _, rfl, ((hc0.tr hS).s hc), ex39.symm, hx39k, hb22, hI121.mono (fun k h1 h2 => ⟨by have := h2.1; omega, h1⟩), hm121, (by omega), hb23, hI131.mono (fun k h1 h2 => ⟨by have := h2.1; omega, h1⟩), hm131, (by omega)⟩
    have hltg23 := hb23.lt
    refine ax rfl rfl (ea9 (fun w94 g22 hg22 hb22 hc hsz22 => ⟨hS.tr hc, ?_⟩))
    have hzw94 := hc.size
    have hrnd := hrnd.no hc
    have hb23 := hb23.no hc
    have hge22 : w.heap.size ≤ g22 := by have := HC.size; omega
    have hS := hS.tr hc
    refine ax rfl rfl (ai bL rfl rfl (aY (hx39k) (ho) hrnd) ?_)
    rintro _ w95 ⟨A121, l121, c121, rfl, hI121, hm121, hc⟩
    refine ⟨_, rfl, hS.tr hc, ?_⟩
    have hzw95 := hc.size
    have hrnd := hrnd.no hc
    have hb23 := hb23.no hc
    have hb22 := hb22.no hc
    have hS := hS.tr hc
    refine ax rfl rfl (ai bL rfl rfl (aY (hx39k) (hz_) hrnd) ?_)
    rintro _ w96 ⟨A131, l131, c131, rfl, hI131, hm131, hc⟩
    refine ⟨_, rfl, hS.tr hc, ?_⟩
    have hzw96 := hc.size
    have hrnd := hrnd.no hc
    have hb23 := hb23.no hc
    have hb22 := hb22.no hc
    have hI121 := hI121.no hc
    have hS := hS.tr hc
    refine ax rfl rfl (esw bq hb22 (fun w97 hb22 hc hsz => ⟨(hS.s hc), ?_⟩))
    have hzw97 := hc.size
    first | have hrnd := hrnd.cc hc | have hrnd := hrnd.cT hc
    have hb23 := hb23.cc hc
    first | have hI121 := hI121.cc hc | have hI121 := hI121.cT hc
    first | have hI131 := hI131.cc hc | have hI131 := hI131.cT hc
    have hS := (hS.s hc)
    refine bf rfl rfl (esw bq hb23 (fun w98 hb23 hc hsz => ?_))
    have hzw98 := hc.size
    first | have hrnd := hrnd.cc hc | have hrnd := hrnd.cT hc
    have hb22 := hb22.cc hc
    first | have hI121 := hI121.cc hc | have hI121 := hI121.cT hc
    first | have hI131 := hI131.cc hc | have hI131 := hI131.cT hc
    refine bY ?_
    exact xme ⟨_, _, _, _, _, _, _, _, _, rfl, ((hc0.tr hS).s hc), ex39.symm, hx39k, hb22, hI121.mono (fun k h1 h2 => ⟨by have := h2.1; omega, h1⟩), hm121, (by omega), hb23, hI131.mono (fun k h1 h2 => ⟨by have := h2.1; omega, h1⟩), hm131, (by omega)⟩
   rintro _ w99 ⟨p, g22, B2, j2, k2, g23, B3, j3, k3, rfl, hc, hp2, hpl, hb22, hJ2, hj2, hgg22, hb23, hJ3, hj3, hgg23⟩
   have hzw99 := hc.size
   have HC := HC.tr hc
   have hB := hB.tr hc
   have hb5 := hb5.no hc
   have hb7 := hb7.no hc
   have hb16 := hb16.no hc
   have hb17 := hb17.no hc
   have hb18 := hb18.no hc
   have hBn := hBn.ch hc (fun h => h)
   have hSw := hSw.no hc
   have hq2 := hq2.no hc
   have hrnd := hrnd.no hc
   have hR := hR.cc hc
   have hM := Nat.le_trans hM hc.size
   have hb20 := hb20.no hc
   refine bS ?_
   refine jT (.q 0 [1, 0, 1, 0, 1, 1, 0, 0, 1, 0, 1, 1, 2, 3, 3] .nil) No (fun w100 hc hszw100 => ?_)
   have hzw100 := hc.size
   have HC := HC.tr hc
   have hB := hB.tr hc
   have hb5 := hb5.no hc
   have hb7 := hb7.no hc
   have hb16 := hb16.no hc
   have hb17 := hb17.no hc
   have hb18 := hb18.no hc
   have hBn := hBn.ch hc (fun h => h)
   have hSw := hSw.no hc
   have hq2 := hq2.no hc
   have hrnd := hrnd.no hc
   have hR := hR.cc hc
   have hM := Nat.le_trans hM hc.size
   have hb20 := hb20.no hc
   have hb22 := hb22.no hc
   have hJ2 := hJ2.no hc
   have hb23 := hb23.no hc
   have hJ3 := hJ3.no hc
   have hS : Ch No w100 w100 := Ch.refl _ _
   refine ws2 rfl (aE underlying88 rfl rfl (fun _ h => h.cell (fun h => h) (hb18.cell rfl))) ?_
   refine ws1 rfl (pfl 0 underlying182) ?_
   refine ws2 rfl (aE underlying3 rfl rfl (fun _ h => h.cell (fun h => h) (hb20.cell rfl))) ?_
   refine ws1 rfl (pfl 1 underlying182) ?_
   refine ws2 rfl (aE underlying3 rfl rfl (fun _ h => h.cell (fun h => h) (hb20.cell rfl))) ?_
   refine ws2 rfl (aE underlying26 rfl rfl (fun _ h => h.cell (fun h => h) (hb7.cell rfl))) ?_
   refine wsm ?_
   obtain ⟨b101, o101, x101, ex101, hA101, hr101, hx101k⟩ := rdH x hq2
   refine ws1 rfl (pxs underlying26 au hA101) ?_
   refine ws2 rfl (plh underlying34 au hr101) ?_
   refine ws1 rfl (dj (vs' := [i64 (y.1 : Int), i64 (y.2.1 : Int), (.agg ((hx x101) : List Value).toArray)]) (cs := (([i64 (y.1 : Int), i64 (y.2.1 : Int)] ++ ((List.map u8v x101) ++ [Value.slice none 0 0])) : List Value)) (cs' := (([i64 (y.1 : Int), i64 (y.2.1 : Int)] ++ ((hx x101) ++ [Value.slice none 0 0])) : List Value)) rfl (by simp only [hv, cW (hx101k)] <;> rfl) (by simp only [hv, cW (hx101k)] <;> rfl) (fun _ => by kernel_rfl)) ?_
   refine ws2 rfl (plh underlying93 bq (aN hb22)) ?_
   refine ws2 rfl (plh underlying93 bq (aN hb23)) ?_
   have hltg5 := hb5.lt
   have hltg7 := hb7.lt
   have hltg16 := hb16.lt
   have hltg17 := hb17.lt
   have hltg18 := hb18.lt
   have hltg82 := hBn.lt
   have hltg20 := hb20.lt
   have hltg22 := hb22.lt
   have hltg23 := hb23.lt
   refine ax rfl rfl (il [⟨y.1, y.2.1, x101, none, 0, 0, []⟩, ⟨y.1, M, shaF (1 :: (p ++ o)), B2, j2, k2, 1 :: (p ++ o)⟩, ⟨y.1, y.2.2.1, shaF (1 :: (p ++ z)), B3, j3, k3, 1 :: (p ++ z)⟩] underlying88 bq (by kernel_rfl) (ok3 ⟨hx101k, Nat.zero_le _⟩ ⟨aD _, (show j2 ≤ 1000000000 by omega)⟩ ⟨aD _, (show j3 ≤ 1000000000 by omega)⟩) rfl rfl rfl rfl (by decide) (by decide) (fun w102 g144 hg144 hb144 hc hsz144 => ⟨hc, ?_⟩))
   have hzw102 := hc.size
   have hge144 := HC.geo hg144
   have HC := HC.tr hc
   have hB := hB.tr hc
   have hb5 := hb5.no hc
   have hb7 := hb7.no hc
   have hb16 := hb16.no hc
   have hb17 := hb17.no hc
   have hb18 := hb18.no hc
   have hBn := hBn.ch hc (fun h => h)
   have hSw := hSw.no hc
   have hq2 := hq2.no hc
   have hrnd := hrnd.no hc
   have hR := hR.cc hc
   have hM := Nat.le_trans hM hc.size
   have hb20 := hb20.no hc
   have hb22 := hb22.no hc
   have hJ2 := hJ2.no hc
   have hb23 := hb23.no hc
   have hJ3 := hJ3.no hc
   refine aB hc ?_
   have hRo := hR
   have hltg5 := hb5.lt
   have hltg7 := hb7.lt
   have hltg16 := hb16.lt
   have hltg17 := hb17.lt
   have hltg18 := hb18.lt
   have hltg82 := hBn.lt
   have hltg20 := hb20.lt
   have hltg22 := hb22.lt
   have hltg23 := hb23.lt
   have hltg144 := hb144.lt
   refine bf rfl rfl (iS (G := fun k => W2.heap.size ≤ k ∧ k < w99.heap.size) rfl lW rfl rfl hR (by omega) (SI.lits hb144 (by rw [List.toList_toArray]) rfl (ok3 ⟨hx101k, Nat.zero_le _⟩ ⟨aD _, (show j2 ≤ 1000000000 by omega)⟩ ⟨aD _, (show j3 ≤ 1000000000 by omega)⟩)) (nf3 Sl.nil hJ2 hJ3) (fun k hk => by have h1 := hk.1; have h2 := hk.2; exact ⟨by omega, by omega, .inr (by omega)⟩) (fun k hk => .inr (by omega)) (by omega) (fun w103 A145 c145 hR hc => ?_))
   have hc := hc.mono (U := fun k => (k = g80 ∨ w20.heap.size + 2 ≤ k) ∧ k < MM) (fun k hk ht => ht.elim (fun h => hRo.own h) (fun h => absurd hk (by omega)))
   have hzw103 := hc.size
   have HC := HC.q hc
   have hB := hB.trans hc (fun _ _ h => h) (fun k hk ht => by first | omega | (dsimp only at *; omega))
   have hb5 := hb5.ch hc (by first | omega | (dsimp only; omega))
   have hb7 := hb7.ch hc (by first | omega | (dsimp only; omega))
   have hb16 := hb16.ch hc (by first | omega | (dsimp only; omega))
   have hb17 := hb17.ch hc (by first | omega | (dsimp only; omega))
   have hb18 := hb18.ch hc (by first | omega | (dsimp only; omega))
   have hBn := hBn.ch hc (by first | omega | (dsimp only; omega))
   first | have hSw := hSw.cc hc | have hSw := hSw.cT hc
   first | have hq2 := hq2.cc hc | have hq2 := hq2.cT hc
   first | have hrnd := hrnd.cc hc | have hrnd := hrnd.cT hc
   have hM := Nat.le_trans hM hc.size
   have hb20 := hb20.ch hc (by first | omega | (dsimp only; omega))
   have hb22 := hb22.ch hc (by first | omega | (dsimp only; omega))
   first | have hJ2 := hJ2.cc hc | have hJ2 := hJ2.cT hc
   have hb23 := hb23.ch hc (by first | omega | (dsimp only; omega))
   first | have hJ3 := hJ3.cc hc | have hJ3 := hJ3.cT hc
   have hb144 := hb144.ch hc (by first | omega | (dsimp only; omega))
   refine bf rfl rfl (jh (by rfl) rfl rfl rfl hb18 (fun w104 hb18 hc hsz => ?_))
   have hzw104 := hc.size
   have HC := HC.n hc
   have hB := hB.trans hc (fun _ _ h => h) (fun k hk ht => by first | omega | (dsimp only at *; omega))
   have hb5 := hb5.cc hc
   have hb7 := hb7.cc hc
   have hb16 := hb16.cc hc
   have hb17 := hb17.cc hc
   have hBn := hBn.ch hc (by omega)
   first | have hSw := hSw.cc hc | have hSw := hSw.cT hc
   first | have hq2 := hq2.cc hc | have hq2 := hq2.cT hc
   first | have hrnd := hrnd.cc hc | have hrnd := hrnd.cT hc
   have hR := hR.cc hc
   have hM := Nat.le_trans hM hc.size
   have hb20 := hb20.cc hc
   have hb22 := hb22.cc hc
   first | have hJ2 := hJ2.cc hc | have hJ2 := hJ2.cT hc
   have hb23 := hb23.cc hc
   first | have hJ3 := hJ3.cc hc | have hJ3 := hJ3.cT hc
   have hb144 := hb144.cc hc
   refine bY (cn ?_)
   refine jT (.q 0 [0, 1, 0, 1, 2, 3] .nil) (fun k => k = g16) (fun w105 hc hszw105 => ?_)
   have hzw105 := hc.size
   have HC := HC.tr hc
   have hB := hB.tr hc
   have hb5 := hb5.no hc
   have hb7 := hb7.no hc
   have hb16 := hb16.no hc
   have hb17 := hb17.no hc
   have hb18 := hb18.no hc
   have hBn := hBn.ch hc (fun h => h)
   have hSw := hSw.no hc
   have hq2 := hq2.no hc
   have hrnd := hrnd.no hc
   have hR := hR.cc hc
   have hM := Nat.le_trans hM hc.size
   have hb20 := hb20.no hc
   have hb22 := hb22.no hc
   have hJ2 := hJ2.no hc
   have hb23 := hb23.no hc
   have hJ3 := hJ3.no hc
   have hb144 := hb144.no hc
   have hS : Ch (fun k => k = g16) w105 w105 := Ch.refl _ _
   refine ws1 rfl (pfl 2 underlying93) ?_
   refine ws2 rfl (bE (cs := (List.map u8v (shaF (1 :: (p ++ o))))) underlying34 rfl (szL au (by first | rfl | (simp only [List.length_append, List.length_map, List.length_cons, List.length_nil, (show List.length (shaF (1 :: (p ++ o))) = 32 from aD _)]; done) | (simp only [List.length_append, List.length_map, List.length_cons, List.length_nil, List.size_toArray, (show List.length (shaF (1 :: (p ++ o))) = 32 from aD _)]; done))) rfl (fun _ h => bR (p := ([i64 (y.1 : Int), i64 (M : Int)] : List Value)) (q := ((List.map u8v (shaF (1 :: (p ++ o)))) : List Value)) (r := ([.slice B2 j2 k2] : List Value)) (hb22.ch h (fun ht => by first | omega | (dsimp only at ht; omega))) (by simp only [List.append_assoc, List.cons_append, List.nil_append, List.append_nil]) rfl)) ?_
   refine ws1 rfl (pfl 2 underlying93) ?_
   refine ws2 rfl (bE (cs := (List.map u8v (shaF (1 :: (p ++ z))))) underlying34 rfl (szL au (by first | rfl | (simp only [List.length_append, List.length_map, List.length_cons, List.length_nil, (show List.length (shaF (1 :: (p ++ z))) = 32 from aD _)]; done) | (simp only [List.length_append, List.length_map, List.length_cons, List.length_nil, List.size_toArray, (show List.length (shaF (1 :: (p ++ z))) = 32 from aD _)]; done))) rfl (fun _ h => bR (p := ([i64 (y.1 : Int), i64 (y.2.2.1 : Int)] : List Value)) (q := ((List.map u8v (shaF (1 :: (p ++ z)))) : List Value)) (r := ([.slice B3 j3 k3] : List Value)) (hb23.ch h (fun ht => by first | omega | (dsimp only at ht; omega))) (by simp only [List.append_assoc, List.cons_append, List.nil_append, List.append_nil]) rfl)) ?_
   refine ax rfl rfl (esh au hb16 (fun w106 hb16 hc hsz => ⟨(hS.r hc), ?_⟩))
   have hzw106 := hc.size
   have HC := HC.n hc
   have hB := hB.trans hc (fun _ _ h => h) (fun k hk ht => by first | omega | (dsimp only at *; omega))
   have hb5 := hb5.cc hc
   have hb7 := hb7.cc hc
   have hb17 := hb17.cc hc
   have hb18 := hb18.cc hc
   have hBn := hBn.ch hc (by omega)
   first | have hSw := hSw.cc hc | have hSw := hSw.cT hc
   first | have hq2 := hq2.cc hc | have hq2 := hq2.cT hc
   first | have hrnd := hrnd.cc hc | have hrnd := hrnd.cT hc
   have hR := hR.cc hc
   have hM := Nat.le_trans hM hc.size
   have hb20 := hb20.cc hc
   have hb22 := hb22.cc hc
   first | have hJ2 := hJ2.cc hc | have hJ2 := hJ2.cT hc
   have hb23 := hb23.cc hc
   first | have hJ3 := hJ3.cc hc | have hJ3 := hJ3.cT hc
   have hb144 := hb144.cc hc
   have hS := (hS.r hc)
   refine bf rfl rfl (esh au hb17 (fun w107 hb17 hc hsz => ?_))
   have hzw107 := hc.size
   have HC := HC.n hc
   have hB := hB.trans hc (fun _ _ h => h) (fun k hk ht => by first | omega | (dsimp only at *; omega))
   have hb5 := hb5.cc hc
   have hb7 := hb7.cc hc
   have hb16 := hb16.cc hc
   have hb18 := hb18.cc hc
   have hBn := hBn.ch hc (by omega)
   first | have hSw := hSw.cc hc | have hSw := hSw.cT hc
   first | have hq2 := hq2.cc hc | have hq2 := hq2.cT hc
   first | have hrnd := hrnd.cc hc | have hrnd := hrnd.cT hc
   have hR := hR.cc hc
   have hM := Nat.le_trans hM hc.size
   have hb20 := hb20.cc hc
   have hb22 := hb22.cc hc
   first | have hJ2 := hJ2.cc hc | have hJ2 := hJ2.cT hc
   have hb23 := hb23.cc hc
   first | have hJ3 := hJ3.cc hc | have hJ3 := hJ3.cT hc
   have hb144 := hb144.cc hc
   refine bY (ak ?_)
   exact fq ⟨_, _, _, _, _, _, _, (aD _), (aD _), hb5, hb7, hb16, hb17, hb18, hBn, hSw, hq2, hrnd, hR, (by omega), (by rw [List.length_append, hDl]; simp; omega), (by have e_ : p = x101 := hp2.symm.trans ex101.symm; rw [hfs, qx (lo := y.1) (mid := y.2.1) (hi := y.2.2.1) (by rw [hy1, ← (show y.2.2.2 = true by simpa using c6)]) hp2 (by omega) (by omega), List.length_append, hDl, List.map_append, List.append_assoc, ← e_]; rfl), HC⟩ hB
  case hdone =>
   rintro xs W a' hS ⟨o, z, A9, l9, c9, fs, MM, ho, hz_, hb5, hb7, hb16, hb17, hb18, hBn, hSw, hq2, hrnd, hR, hM, hl, hfs, HC⟩ hK F'
   refine nM ?_ F'
   have hzW := HC.size
   have hSl : xs.length = l := hS
   rw [hSl, List.drop_of_length_le (l := (gwy M 0 N).reverse) (by rw [List.length_reverse]; omega)] at hfs
   have hfs : fe M N a q = fs.map FD.abs := by rw [hfs]; exact List.append_nil _
   refine ep (gZ (kV (fP ?_)))
   refine wld rfl rfl rfl (aC underlying88 hb18) ?_
   refine wld rfl rfl rfl (jb rfl) ?_
   refine wld rfl rfl rfl (jb rfl) ?_
   refine kU (gZ (kW ?_))
   refine gg hK (fun w108 hc hsz => ?_)
   have hzw108 := hc.size
   have HC := HC.n hc
   have hb5 := hb5.cc hc
   have hb7 := hb7.cc hc
   have hb16 := hb16.cc hc
   have hb17 := hb17.cc hc
   have hb18 := hb18.cc hc
   have hBn := hBn.ch hc (by omega)
   first | have hSw := hSw.cc hc | have hSw := hSw.cT hc
   first | have hq2 := hq2.cc hc | have hq2 := hq2.cT hc
   first | have hrnd := hrnd.cc hc | have hrnd := hrnd.cT hc
   have hR := hR.cc hc
   have hM := Nat.le_trans hM hc.size
   refine ⟨_, (l5 rfl rfl rfl), ?_⟩
   exact ⟨A9, l9, c9, fs, true, rfl, hR.si, hR.nf, (by omega), fun _ => rfl, fun _ => hfs.symm, HC⟩
  case hstop =>
   exact fun _ _ _ _ _ h => h.elim

theorem rm {w : World} {m : Nat}  (hm : m ≤ 100000) :
    Calls Tryz.prog 107 #[.slice none 0 0, i64 (m : Int)] w fun e w' => ∃ A c, e = .returned (.slice A 0 c) ∧ RI w' (fun k => w.heap.size ≤ k) 93 eFD A 0 c [] ∧ Ch No w w' := by
  have HC : Ch No w w := Ch.refl _ _
  refine aH (args := [.slice none 0 0, i64 (m : Int)]) (n := 27) Tryz.func107 rfl rfl rfl ?_
  refine ab (aa ?_)
  refine was ?_
  refine ac (ae (ab (ab (aa ?_))))
  refine wmv ?_
  refine wz (aU rfl rfl) ?_
  refine ac (ae ?_)
  refine bx rfl (decide_eq_false (by omega)) ?_
  refine al (ae (ab (ab (aa ?_))))
  iterate 2 refine wmv ?_
  refine wz (r8 underlying88 rfl) ?_
  refine wmv ?_
  refine wz (aw underlying88 rfl) ?_
  refine wz (aZ (Z := 0) rfl rfl (by rw [w64 (by omega)]; rfl)) ?_
  refine wz (aZ (Z := (m : Int)) rfl rfl (by rw [w64 (by omega)]; omega)) ?_
  refine was ?_
  refine ac (ae (ab (aa ?_)))
  refine wmv ?_
  refine wz (bM rfl rfl) ?_
  refine ac (ae ?_)
  refine aA rfl (fun c1 => ?_) (fun c1 => ?_)
  ·
   have c1 := of_decide_eq_true c1
   refine aa ?_
   iterate 2 refine wmv ?_
   refine wz (r8 underlying88 rfl) ?_
   refine wz (dX (l := 0) (h := 0) underlying88 bq rfl rfl ⟨_, rfl⟩ (by omega) (by omega) (by omega) (q := 0) rfl) ?_
   refine wmv ?_
   refine wle rfl (e_appZF (m := m) rfl lW underlying3 rfl rfl (by omega) (by omega) (by omega) (fun w1 A22 c22 hW22 hc22 hc => ?_))
   have hzw1 := hc.size
   have HC := HC.tr hc
   refine wmv ?_
   refine wz (aw underlying88 rfl) ?_
   refine wz (dX (l := 0) (h := 0) underlying88 bq rfl rfl ⟨_, rfl⟩ (by omega) (by omega) (by omega) (q := 0) rfl) ?_
   refine was ?_
   refine ac (ae (ab (aa ?_)))
   refine wmv ?_
   refine was ?_
   refine ac (ae (ao ?_))
   refine aj ((aK rfl rfl)) ?_
   exact ⟨_, _, rfl, hW22.mono (fun k _ hk => by first | omega | (dsimp only at *; omega)), HC⟩
  have c1 := of_decide_eq_false c1
  refine al (ae (ab (aa ?_)))
  refine wmv ?_
  refine was ?_
  refine ac (ae (ao ?_))
  refine aj ((aK rfl rfl)) ?_
  exact ⟨_, _, rfl, RI.nil _ _ _ _, HC⟩

theorem tA {w : World} {g0 : Nat} {A1 : Option Addr} {l1 c1 : Nat} {F1 : Nat → Prop} {xs1 : List FD} {A2 : Option Addr} {l2 c2 : Nat} {F2 : Nat → Prop} {xs2 : List FD} {A3 : Option Addr} {l3 c3 : Nat} {F3 : Nat → Prop} {xs3 : List FD}  (hb0 : Blk w g0 88 #[.slice A1 l1 c1, .slice A2 l2 c2, .slice A3 l3 c3]) (hs1 : SI w F1 eFD A1 l1 c1 xs1) (hs2 : SI w F2 eFD A2 l2 c2 xs2) (hs3 : SI w F3 eFD A3 l3 c3 xs3) (hl1 : l1 ≤ 10000) (hl2 : l2 ≤ 10000) (hl3 : l3 ≤ 10000) :
  Calls Tryz.prog 43 #[.slice (some ⟨g0, 0, none⟩) 3 3] w fun e w' => ∃ A c, e = .returned (.slice A (l1 + l2 + l3) c) ∧ SI w' (fun k => k < w'.heap.size) eFD A (l1 + l2 + l3) c (xs1 ++ xs2 ++ xs3) ∧ Ch No w w' := by
 have hlt0 := hb0.lt
 have hsl1 := hs1.len
 have hsl2 := hs2.len
 have hsl3 := hs3.len
 have hs1 := hs1.old
 have hs2 := hs2.old
 have hs3 := hs3.old
 have HC : Ch No w w := Ch.refl _ _
 refine aH (args := [.slice (some ⟨g0, 0, none⟩) 3 3]) (n := 36) Tryz.func43 rfl rfl rfl ?_
 refine ab (aa ?_)
 refine was ?_
 refine ac (ae (ab (aa ?_)))
 refine was ?_
 refine ac (ae (ab (ab (aa ?_))))
 refine wmv ?_
 refine wz (aw underlying187 rfl) ?_
 refine wmv ?_
 refine ac (ae (ap ?_))
 refine jU 4 ?_
 refine dA ?_
 refine ab (aa ?_)
 refine wz (aU rfl rfl) ?_
 refine ac (ae (ab ?_))
 refine aR rfl (rfl) ?_
 refine al (ae (ab (ap (ab (aa ?_)))))
 refine wz (du (j := 0) underlying187 qf rfl rfl rfl (by omega) (by omega) rfl) ?_
 refine wz (aC underlying88 hb0) ?_
 refine was ?_
 refine ac (ae (ab (aa ?_)))
 iterate 2 refine wmv ?_
 refine wz (aw underlying88 rfl) ?_
 refine wz (aF (Z := ((l1 : Nat) : Int)) rfl rfl (by rw [w64 (by omega)]; omega)) ?_
 refine was ?_
 refine ac (ae (ab (aa ?_)))
 refine wmv ?_
 refine wz (aU rfl rfl) ?_
 refine ac (ae ?_)
 refine bx rfl (decide_eq_false (by omega)) ?_
 refine al (ak (ae (aa ?_)))
 refine wz (aF (Z := 1) rfl rfl (by rw [w64 (by omega)]; rfl)) ?_
 refine wmv ?_
 refine ac ?_
 refine dS ?_
 refine dA ?_
 refine ab (aa ?_)
 refine wz (aU rfl rfl) ?_
 refine ac (ae (ab ?_))
 refine aR rfl (rfl) ?_
 refine al (ae (ab (ap (ab (aa ?_)))))
 refine wz (du (j := 1) underlying187 qf rfl rfl rfl (by omega) (by omega) rfl) ?_
 refine wz (aC underlying88 hb0) ?_
 refine was ?_
 refine ac (ae (ab (aa ?_)))
 iterate 2 refine wmv ?_
 refine wz (aw underlying88 rfl) ?_
 refine wz (aF (Z := ((l1 + l2 : Nat) : Int)) rfl rfl (by rw [w64 (by omega)]; omega)) ?_
 refine was ?_
 refine ac (ae (ab (aa ?_)))
 refine wmv ?_
 refine wz (aU rfl rfl) ?_
 refine ac (ae ?_)
 refine bx rfl (decide_eq_false (by omega)) ?_
 refine al (ak (ae (aa ?_)))
 refine wz (aF (Z := 2) rfl rfl (by rw [w64 (by omega)]; rfl)) ?_
 refine wmv ?_
 refine ac ?_
 refine dS ?_
 refine dA ?_
 refine ab (aa ?_)
 refine wz (aU rfl rfl) ?_
 refine ac (ae (ab ?_))
 refine aR rfl (rfl) ?_
 refine al (ae (ab (ap (ab (aa ?_)))))
 refine wz (du (j := 2) underlying187 qf rfl rfl rfl (by omega) (by omega) rfl) ?_
 refine wz (aC underlying88 hb0) ?_
 refine was ?_
 refine ac (ae (ab (aa ?_)))
 iterate 2 refine wmv ?_
 refine wz (aw underlying88 rfl) ?_
 refine wz (aF (Z := ((l1 + l2 + l3 : Nat) : Int)) rfl rfl (by rw [w64 (by omega)]; omega)) ?_
 refine was ?_
 refine ac (ae (ab (aa ?_)))
 refine wmv ?_
 refine wz (aU rfl rfl) ?_
 refine ac (ae ?_)
 refine bx rfl (decide_eq_false (by omega)) ?_
 refine al (ak (ae (aa ?_)))
 refine wz (aF (Z := 3) rfl rfl (by rw [w64 (by omega)]; rfl)) ?_
 refine wmv ?_
 refine ac ?_
 refine dS ?_
 refine dA ?_
 refine ab (aa ?_)
 refine wz (aU rfl rfl) ?_
 refine ac (ae (ab ?_))
 refine bx rfl (rfl) ?_
 refine aI (ah (ah (av (ae (ab (aa ?_))))))
 refine wmv ?_
 refine wle rfl (ai ent107 rfl rfl (rm (m := l1 + l2 + l3) (by omega)) ?_)
 rintro _ w1 ⟨A24, c24, rfl, hW24, hc⟩
 refine ⟨_, rfl, ?_⟩
 have hzw1 := hc.size
 have HC := HC.tr hc
 have hb0 := hb0.no hc
 have hs1 := hs1.no hc
 have hs2 := hs2.no hc
 have hs3 := hs3.no hc
 refine was ?_
 refine ac (ae (ab (ab (aa ?_))))
 refine wmv ?_
 refine wz (aw underlying187 rfl) ?_
 refine wmv ?_
 refine ac (ae (ap ?_))
 refine jU 4 ?_
 refine dA ?_
 refine ab (aa ?_)
 refine wz (aU rfl rfl) ?_
 refine ac (ae (ab ?_))
 refine aR rfl (rfl) ?_
 refine al (ae (ab (ap (ab (aa ?_)))))
 refine wz (du (j := 0) underlying187 qf rfl rfl rfl (by omega) (by omega) rfl) ?_
 refine wz (aC underlying88 hb0) ?_
 refine was ?_
 refine ac (ae (aa ?_))
 iterate 2 refine wmv ?_
 have hltg0 := hb0.lt
 refine wle rfl (eW rfl lW rfl rfl hW24 (hs1) (by omega) (by intro k hk; first | omega | (dsimp only at *; omega)) (fun w2 A33 c33 hW24 hc => ?_))
 have hzw2 := hc.size
 have HC := HC.q hc
 have hb0 := hb0.ch hc (by first | omega | (dsimp only; omega))
 first | have hs2 := hs2.cc hc | have hs2 := hs2.cT hc
 first | have hs3 := hs3.cc hc | have hs3 := hs3.cT hc
 refine was ?_
 refine ac (ak (ae (aa ?_)))
 refine wz (aF (Z := 1) rfl rfl (by rw [w64 (by omega)]; rfl)) ?_
 refine wmv ?_
 refine ac ?_
 refine dS ?_
 refine dA ?_
 refine ab (aa ?_)
 refine wz (aU rfl rfl) ?_
 refine ac (ae (ab ?_))
 refine aR rfl (rfl) ?_
 refine al (ae (ab (ap (ab (aa ?_)))))
 refine wz (du (j := 1) underlying187 qf rfl rfl rfl (by omega) (by omega) rfl) ?_
 refine wz (aC underlying88 hb0) ?_
 refine was ?_
 refine ac (ae (aa ?_))
 iterate 2 refine wmv ?_
 have hltg0 := hb0.lt
 refine wle rfl (eW rfl lW rfl rfl hW24 (hs2) (by omega) (by intro k hk; first | omega | (dsimp only at *; omega)) (fun w3 A33 c33 hW24 hc => ?_))
 have hzw3 := hc.size
 have HC := HC.q hc
 have hb0 := hb0.ch hc (by first | omega | (dsimp only; omega))
 first | have hs3 := hs3.cc hc | have hs3 := hs3.cT hc
 refine was ?_
 refine ac (ak (ae (aa ?_)))
 refine wz (aF (Z := 2) rfl rfl (by rw [w64 (by omega)]; rfl)) ?_
 refine wmv ?_
 refine ac ?_
 refine dS ?_
 refine dA ?_
 refine ab (aa ?_)
 refine wz (aU rfl rfl) ?_
 refine ac (ae (ab ?_))
 refine aR rfl (rfl) ?_
 refine al (ae (ab (ap (ab (aa ?_)))))
 refine wz (du (j := 2) underlying187 qf rfl rfl rfl (by omega) (by omega) rfl) ?_
 refine wz (aC underlying88 hb0) ?_
 refine was ?_
 refine ac (ae (aa ?_))
 iterate 2 refine wmv ?_
 have hltg0 := hb0.lt
 refine wle rfl (eW rfl lW rfl rfl hW24 (hs3) (by omega) (by intro k hk; first | omega | (dsimp only at *; omega)) (fun w4 A33 c33 hW24 hc => ?_))
 have hzw4 := hc.size
 have HC := HC.q hc
 refine was ?_
 refine ac (ak (ae (aa ?_)))
 refine wz (aF (Z := 3) rfl rfl (by rw [w64 (by omega)]; rfl)) ?_
 refine wmv ?_
 refine ac ?_
 refine dS ?_
 refine dA ?_
 refine ab (aa ?_)
 refine wz (aU rfl rfl) ?_
 refine ac (ae (ab ?_))
 refine bx rfl (rfl) ?_
 refine aI (ah (ah (av (ae (ab (aa ?_))))))
 refine wmv ?_
 refine was ?_
 refine ac (ae (ao ?_))
 refine aj ((aK rfl rfl)) ?_
 exact ⟨A33, c33, by simp only [Nat.zero_add], (by simpa only [Nat.zero_add, List.nil_append] using hW24.si.old), HC⟩

theorem eqb_any {w : World} {Ab : Option Addr} {lb cb : Nat} {Fb : Nat → Prop} {b : List UInt8}{Ay : Option Addr} {ly cy : Nat} {Fy : Nat → Prop} {y : List UInt8} (hb : Sl w Fb u8v Ab lb cb b) (hy : Sl w Fy u8v Ay ly cy y) (hlb : lb ≤ 1000000000) :
    Calls Tryz.prog 105 #[.slice Ab lb cb, .slice Ay ly cy] w fun e w' => e = .returned (.bool (decide (b = y))) ∧ Ch No w w' := by
  have hbl := hb.len
  have hyl := hy.len
  have hb := hb.old
  have hy := hy.old
  have HC : Ch No w w := Ch.refl _ _
  refine aH (args := [.slice Ab lb cb, .slice Ay ly cy]) (n := 26) Tryz.func105 rfl rfl rfl ?_
  refine ab (aa ?_)
  refine was ?_
  refine ac (ae (ab (ab (aa ?_))))
  refine wmv ?_
  refine wz (aw underlying38 rfl) ?_
  refine wmv ?_
  refine wz (aw underlying38 rfl) ?_
  refine wz (jQ rfl rfl) ?_
  refine ac (ae ?_)
  refine aA rfl (fun c0 => ?_) (fun c0 => ?_)
  ·
   have c0 := of_decide_eq_true c0
   have eS : decide (b = y) = false := decide_eq_false (fun h => by rw [h] at hbl; omega)
   refine ab (aa ?_)
   refine was ?_
   refine ac (ae (ao (ag ?_)))
   refine aj ((aK rfl rfl)) ?_
   rw [eS]; exact ⟨rfl, HC⟩
  have c0 := of_decide_eq_false c0
  refine al (ae (ab (ab (aa ?_))))
  refine wmv ?_
  refine wz (aw underlying38 rfl) ?_
  refine wmv ?_
  refine ac (ae (ap ?_))
  refine wcl (fun mz ez uz => ∃ k : Nat, mz = lb - k ∧ ez = [(0, .slice Ab lb cb), (1, .slice Ay ly cy), (12, i64 (lb : Int)), (13, i64 (k : Int))] ∧ (b.take k = y.take k) ∧ (k ≤ lb) ∧ (lb = ly) ∧ (Sl uz (fun k => k < w.heap.size) u8v Ab lb cb b) ∧ (Sl uz (fun k => k < w.heap.size) u8v Ay ly cy y) ∧ (Ch No w uz))
   ⟨0, rfl, rfl, by simp, by omega, by omega, hb, hy, HC⟩ ?_
  rintro m0 e w1 ⟨k, hm0, rfl, hkl, hk, hlq, hb, hy, HC⟩
  have hzw1 := HC.size
  refine ab (aa ?_)
  refine wz (aU rfl rfl) ?_
  refine ac (ae (ab ?_))
  refine aA rfl (fun c1 => ?_) (fun c1 => ?_)
  rotate_left
  ·
   have c1 := of_decide_eq_false c1
   have eS : decide (b = y) = true := decide_eq_true (by simpa using hO (f := id) (by simpa using hkl) (by omega) (by omega))
   refine aI (ah (ah (av (ae (ab (aa ?_))))))
   refine was ?_
   refine ac (ae (ao ?_))
   refine aj ((aK rfl rfl)) ?_
   rw [eS]; exact ⟨rfl, HC⟩
  have c1 := of_decide_eq_true c1
  refine al (ae (ab (ap (ab (aa ?_)))))
  refine wmv ?_
  refine was ?_
  refine ac (ae (ab ?_))
  refine wdr (.q 0 [0, 0, 0, 1, 0, 0, 0, 1, 0] .nil) 9 No (fun w2 hc hszw2 => ?_)
  have hzw2 := hc.size
  have HC := HC.tr hc
  have hb := hb.no hc
  have hy := hy.no hc
  have hS : Ch No w2 w2 := Ch.refl _ _
  iterate 2 refine wsm ?_
  obtain ⟨b3, o3, hA3, hF3, hc3⟩ := (hb).opn (d := 0) (by omega)
  refine ws1 rfl (dO underlying38 sz5 rfl hA3 rfl (by omega) (by omega) (Int.toNat_natCast _)) ?_
  refine ws2 rfl (aE underlying5 rfl rfl (fun _ h => h.cell (fun h => h) (hc3 _ (by omega)))) ?_
  iterate 2 refine wsm ?_
  obtain ⟨b4, o4, hA4, hF4, hc4⟩ := (hy).opn (d := 0) (by omega)
  refine ws1 rfl (dO underlying38 sz5 rfl hA4 rfl (by omega) (by omega) (Int.toNat_natCast _)) ?_
  refine ws2 rfl (aE underlying5 rfl rfl (fun _ h => h.cell (fun h => h) (hc4 _ (by omega)))) ?_
  refine ws1 rfl (jQ rfl rfl) ?_
  refine aW (ae ?_)
  refine aA rfl (fun c2 => ?_) (fun c2 => ?_)
  ·
   have c2 := of_decide_eq_true c2
   have eS : decide (b = y) = false := decide_eq_false (fun h => by subst h; simp at c2)
   refine ab (aa ?_)
   refine was ?_
   refine ac (ae (ao (aG (ag (ag (aG (ag ?_)))))))
   refine aj ((aK rfl rfl)) ?_
   rw [eS]; exact ⟨rfl, HC⟩
  have c2 := of_decide_eq_false c2
  have hkl : b.take (k + 1) = y.take (k + 1) := by have h := fT (f := id) (d := (0 : UInt8)) (p := b) (q := y) (k := k) (by omega) (by omega) (by simpa using hkl) (by exact UInt8.toNat_inj.1 (Int.ofNat.inj (Decidable.not_not.1 c2))); simpa using h
  refine al (ak (ae (aa ?_)))
  refine wz (aF rfl rfl (w64 (by omega))) ?_
  refine wmv ?_
  refine ac ?_
  refine xrn ⟨k + 1, rfl, rfl, hkl, by omega, hlq, hb, hy, HC⟩

theorem aks : AKs Tryz.prog 186 := ⟨fun a b ha hb => by
 have h := jj (d := 9999) (xs := (akv a).toArray) (ys := (akv b).toArray) Tryz.underlying186 (by kernel_rfl) (tK rfl (dP (cs := akv a) (p := []) (v := i64 (a.1 : Int)) (r := i64 (a.2.1 : Int) :: List.map u8v a.2.2) Tryz.underlying3 rfl rfl rfl) (dP (cs := akv b) (p := []) (v := i64 (b.1 : Int)) (r := i64 (b.2.1 : Int) :: List.map u8v b.2.2) Tryz.underlying3 rfl rfl rfl) (oR Tryz.underlying3)
  (tK rfl (dP (cs := akv a) (p := [i64 (a.1 : Int)]) (v := i64 (a.2.1 : Int)) (r := List.map u8v a.2.2) Tryz.underlying3 rfl rfl rfl) (dP (cs := akv b) (p := [i64 (b.1 : Int)]) (v := i64 (b.2.1 : Int)) (r := List.map u8v b.2.2) Tryz.underlying3 rfl rfl rfl) (oR Tryz.underlying3)
  (tK rfl (r7 (cs := akv a) (p := [i64 (a.1 : Int), i64 (a.2.1 : Int)]) (L := a.2.2) (r := []) Tryz.underlying34 rfl au ha (by simp [akv]) rfl) (r7 (cs := akv b) (p := [i64 (b.1 : Int), i64 (b.2.1 : Int)]) (L := b.2.2) (r := []) Tryz.underlying34 rfl au hb (by simp [akv]) rfl) (ji Tryz.underlying34 Tryz.underlying5 sz5 ha hb) oS)))
 have e : (decide ((a.1 : Int) = (b.1 : Int)) && (decide ((a.2.1 : Int) = (b.2.1 : Int)) && ((a.2.2 == b.2.2) && true))) = decide (a = b) := by
  obtain ⟨a1, a2, a3⟩ := a
  obtain ⟨b1, b2, b3⟩ := b
  rw [Bool.eq_iff_iff]
  simp
  constructor <;> exact fun ⟨h1, h2, h3⟩ => ⟨by omega, by omega, h3⟩
 rwa [e] at h, fun a b w ha => by
 have h : (akv a).toArray = (([i64 (a.1 : Int), i64 (a.2.1 : Int)] ++ hx a.2.2) : List Value).toArray := by unfold akv; rw [cW ha]
 rw [h]
 show _ = _
 kernel_rfl⟩

theorem rn {w : World} {Af : Option Addr} {l cf : Nat} {Ff Gf : Nat → Prop} {fs : List FD}  (hfs : SI w Ff eFD Af l cf fs) (hnf : NF w Gf fs) (hsh : ∀ x ∈ fs, x.inp ≠ [] → x.h = shaF x.inp) (hll : l ≤ 100000) :
    Calls Tryz.prog 42 #[.slice Af l cf] w fun e w' => ∃ (A : Option Addr) (l1 c1 : Nat) (B : Option Addr) (l2 c2 : Nat) (x y : List UInt8) (f : Bool), e = .returned (.tuple #[.slice A l1 c1, .slice B l2 c2, .bool f]) ∧ Sl w' (fun k => k < w'.heap.size) u8v A l1 c1 x ∧ Sl w' (fun k => k < w'.heap.size) u8v B l2 c2 y ∧ l1 ≤ 1000000000 ∧ l2 ≤ 1000000000 ∧ (f = true → x ≠ y ∧ shaF x = shaF y) ∧ (f = false → iG (fun f => f ∈ fs.map FD.abs)) ∧ Ch No w w' := by
  have hfl := hfs.len
  have hnf := hnf.old
  have hfs := hfs.old
  have HC : Ch No w w := Ch.refl _ _
  refine aH (args := [.slice Af l cf]) (n := 78) Tryz.func42 rfl rfl rfl ?_
  refine ab (aa ?_)
  iterate 3 refine was ?_
  refine ac (ae (ab (aa ?_)))
  refine wle rfl (e_mkFM rfl (fun w1 g13 hg13 hFM hc hsz13 => ?_))
  have hzw1 := hc.size
  have hge13 := HC.geo hg13
  have HC := HC.tr hc
  have hfs := hfs.no hc
  have hnf := hnf.cc hc
  refine was ?_
  refine ac (ae (ab (aa ?_)))
  refine wmv ?_
  refine wz (aw underlying88 rfl) ?_
  iterate 2 refine was ?_
  refine ac (ae (ab (ab (aa ?_))))
  refine wmv ?_
  refine wz (aw underlying88 rfl) ?_
  refine wmv ?_
  refine ac (ae (ap ?_))
  refine wcl (fun mz ez uz => ∃ j : Nat, ∃ b : Nat, ∃ o : Nat, ∃ ks : List (AK × Nat), mz = l - j ∧ ez = [(0, .slice Af l cf), (5, .map (some g13)), (6, i64 (b : Int)), (7, i64 (o : Int)), (16, .slice Af l cf), (17, i64 (l : Int)), (18, i64 (j : Int))] ∧ (j ≤ l) ∧ (MI fs l j ks b o) ∧ (FM uz g13 ks) ∧ (w.heap.size ≤ g13) ∧ (SI uz (fun k => k < w.heap.size) eFD Af l cf fs) ∧ (NF uz (fun k => k < w.heap.size) fs) ∧ (Ch No w uz))
   ⟨0, l, 0, [], rfl, rfl, (by omega), MI.zero, hFM, (by omega), hfs, hnf, HC⟩ ?_
  rintro m0 e w2 ⟨j, b, o, ks, hm0, rfl, hj, hmi, hFM, hg13, hfs, hnf, HC⟩
  have hzw2 := HC.size
  have hltM := hFM.lt
  refine ab (aa ?_)
  refine wz (aU rfl rfl) ?_
  refine ac (ae (ab ?_))
  refine aA rfl (fun c0 => ?_) (fun c0 => ?_)
  rotate_left
  ·
   have c0 := of_decide_eq_false c0
   refine aI (ah (ah (av (ae (ab (ab (aa ?_)))))))
   iterate 2 refine wmv ?_
   refine wz (aw underlying88 rfl) ?_
   refine wz (gS rfl rfl) ?_
   refine ac (ae ?_)
   refine aA rfl (fun c4 => ?_) (fun c4 => ?_)
   ·
    have c4 := of_decide_eq_true c4
    refine ab (aa ?_)
    iterate 3 refine was ?_
    refine ac (ae (ao (ag ?_)))
    refine aj ((qp rfl rfl rfl rfl)) ?_
    rw [show b = l by omega, show j = l by omega] at hmi
    exact ⟨none, 0, 0, none, 0, 0, [], [], false, rfl, Sl.nil, Sl.nil, by omega, by omega, fun h => (by cases h), fun _ => hmi.one hfl, HC⟩
   have c4 := of_decide_eq_false c4
   have hbl := hmi.le
   have hol := (hmi.two (by omega)).1
   refine al (ae (ab ?_))
   refine wdr (.q 0 [0, 0, 0, 0, 1] (.q 6 [0, 0, 0, 0, 1] (.st 5 2 (.q 11 [2, 0, 0, 0] .nil)))) 15 No (fun w12 hc hszw12 => ?_)
   have hzw12 := hc.size
   have HC := HC.tr hc
   have hfs := hfs.no hc
   have hnf := hnf.cc hc
   have hS : Ch No w12 w12 := Ch.refl _ _
   iterate 2 refine wsm ?_
   obtain ⟨b13, o13, x13, ex13, hA13, hr13, hx13k, hx13l⟩ := rdF b hfs
   refine ws1 rfl (pxs underlying88 bq hA13) ?_
   have hix13 := hnf.get ex13 (by omega)
   have hilx13 := hix13.len
   refine ws1 rfl (pfl 34 underlying93) ?_
   refine ws2 rfl (aE underlying38 rfl rfl (fun _ h => jk (v := (.slice x13.A x13.l x13.c : Value)) (p := (([i64 (x13.lo : Int), i64 (x13.hi : Int)] ++ (List.map u8v x13.h)) : List Value)) (r := []) (cE hr13 h) (by first | rfl | simp only [List.append_assoc, List.cons_append, List.nil_append, List.append_nil]) (by first | rfl | (simp only [List.length_append, List.length_map, List.length_cons, List.length_nil, (show List.length x13.h = 32 from hx13k)]; done) | (simp only [List.length_append, List.length_map, List.length_cons, List.length_nil, List.size_toArray, (show List.length x13.h = 32 from hx13k)]; done)))) ?_
   iterate 2 refine wsm ?_
   obtain ⟨b14, o14, x14, ex14, hA14, hr14, hx14k, hx14l⟩ := rdF o hfs
   refine ws1 rfl (pxs underlying88 bq hA14) ?_
   have hix14 := hnf.get ex14 (by omega)
   have hilx14 := hix14.len
   refine ws1 rfl (pfl 34 underlying93) ?_
   refine ws2 rfl (aE underlying38 rfl rfl (fun _ h => jk (v := (.slice x14.A x14.l x14.c : Value)) (p := (([i64 (x14.lo : Int), i64 (x14.hi : Int)] ++ (List.map u8v x14.h)) : List Value)) (r := []) (cE hr14 h) (by first | rfl | simp only [List.append_assoc, List.cons_append, List.nil_append, List.append_nil]) (by first | rfl | (simp only [List.length_append, List.length_map, List.length_cons, List.length_nil, (show List.length x14.h = 32 from hx14k)]; done) | (simp only [List.length_append, List.length_map, List.length_cons, List.length_nil, List.size_toArray, (show List.length x14.h = 32 from hx14k)]; done)))) ?_
   refine ax rfl rfl (ai i9 rfl rfl (ei (hix13) (by omega)) ?_)
   rintro _ w15 ⟨A71, c71, rfl, hW71, hc⟩
   refine ⟨_, rfl, hc, ?_⟩
   have hzw15 := hc.size
   have HC := HC.tr hc
   have hix14 := hix14.no hc
   refine aB hc ?_
   refine ax rfl rfl (ai i9 rfl rfl (ei (hix14) (by omega)) ?_)
   rintro _ w16 ⟨A77, c77, rfl, hW77, hc⟩
   refine ⟨_, rfl, hc, ?_⟩
   have hzw16 := hc.size
   have HC := HC.tr hc
   have hW71 := hW71.after hc
   refine aB hc ?_
   iterate 3 refine wsa ?_
   refine aW (ae (ao ?_))
   refine aj ((qp rfl rfl rfl rfl)) ?_
   obtain ⟨m1, m2, m3, m4, m5⟩ := hmi.two (by omega)
   rw [← ex13, ← ex14] at m2 m5
   rw [← ex13] at m3
   rw [← ex14] at m4
   exact ⟨_, _, _, _, _, _, _, _, true, rfl, hW71.sl.old, hW77.sl.old, (by omega), (by omega), fun _ => ⟨m5, by rw [← hsh _ (by rw [ex13]; exact fy (by omega)) m3, ← hsh _ (by rw [ex14]; exact fy (by omega)) m4]; exact congrArg (fun z => z.2.2) m2⟩, fun h => (by cases h), HC⟩
  have c0 := of_decide_eq_true c0
  refine al (ae (ab (ap (ab (aa ?_)))))
  refine wmv ?_
  obtain ⟨b3, o3, x3, ex3, hA3, hr3, hx3k, hx3l⟩ := rdF j hfs
  refine wz (pxs underlying88 bq hA3) ?_
  have hix3 := hnf.get ex3 (by omega)
  have hilx3 := hix3.len
  refine wz (pla underlying93 bq hr3) ?_
  refine wle rfl (ea9 (fun w4 g9 hg9 hb9 hc hsz9 => ?_))
  have hzw4 := hc.size
  have hge9 := HC.geo hg9
  have HC := HC.tr hc
  have hfs := hfs.no hc
  have hnf := hnf.cc hc
  have hFM := hFM.ch hc (by first | exact fun h => h | omega | (dsimp only; omega))
  have hix3 := hix3.no hc
  refine was ?_
  refine wle rfl (esw bq hb9 (fun w5 hb9 hc hsz => ?_))
  have hzw5 := hc.size
  have HC := HC.n hc
  first | have hfs := hfs.cc hc | have hfs := hfs.cT hc
  have hnf := hnf.cc hc
  have hFM := hFM.ch hc (by first | exact fun h => h | omega | (dsimp only; omega))
  first | have hix3 := hix3.cc hc | have hix3 := hix3.cT hc
  refine ac (ae (ab (ab (aa ?_))))
  refine wz (pfl 34 underlying93) ?_
  refine wz (aE underlying38 rfl rfl (ld (iQ (p := (([i64 (x3.lo : Int), i64 (x3.hi : Int)] ++ (List.map u8v x3.h)) : List Value)) (v := (.slice x3.A x3.l x3.c : Value)) (r := []) hb9 (by simp only [List.append_assoc, List.cons_append, List.nil_append, List.append_nil]) (by first | rfl | (simp only [List.length_append, List.length_map, List.length_cons, List.length_nil, (show List.length x3.h = 32 from hx3k)]; done) | (simp only [List.length_append, List.length_map, List.length_cons, List.length_nil, List.size_toArray, (show List.length x3.h = 32 from hx3k)]; done))))) ?_
  refine wz (aw underlying38 rfl) ?_
  refine wz (gS rfl rfl) ?_
  refine ac (ae ?_)
  refine aA rfl (fun c1 => ?_) (fun c1 => ?_)
  ·
   have c1 := of_decide_eq_true c1
   refine aI (ah (av (ae (aa ?_))))
   refine wz (aF rfl rfl (w64 (by omega))) ?_
   refine wmv ?_
   refine ac ?_
   have hmi := hmi.skip ex3 (List.eq_nil_of_length_eq_zero (by omega))
   refine xrn ⟨j + 1, b, o, ks, rfl, rfl, (by omega), hmi, hFM, hg13, hfs, hnf, HC⟩
  have c1 := of_decide_eq_false c1
  have hin : x3.inp ≠ [] := fun h => by have h9 := congrArg List.length h; simp only [List.length_nil] at h9; omega
  refine al (ae (ab (aa ?_)))
  refine wz (pfl 0 underlying93) ?_
  refine wz (aE underlying3 rfl rfl (ld (iQ (p := []) (v := (i64 (x3.lo : Int) : Value)) (r := (([i64 (x3.hi : Int)] ++ ((List.map u8v x3.h) ++ [.slice x3.A x3.l x3.c])) : List Value)) hb9 (by simp only [List.append_assoc, List.cons_append, List.nil_append, List.append_nil]) rfl))) ?_
  refine wz (pfl 1 underlying93) ?_
  refine wz (aE underlying3 rfl rfl (ld (iQ (p := ([i64 (x3.lo : Int)] : List Value)) (v := (i64 (x3.hi : Int) : Value)) (r := (((List.map u8v x3.h) ++ [.slice x3.A x3.l x3.c]) : List Value)) hb9 (by simp only [List.append_assoc, List.cons_append, List.nil_append, List.append_nil]) rfl))) ?_
  refine wz (pfl 2 underlying93) ?_
  refine wz (pla underlying34 au (bR (p := ([i64 (x3.lo : Int), i64 (x3.hi : Int)] : List Value)) (q := ((List.map u8v x3.h) : List Value)) (r := ([.slice x3.A x3.l x3.c] : List Value)) hb9 (by simp only [List.append_assoc, List.cons_append, List.nil_append, List.append_nil]) rfl)) ?_
  refine wz (dj (vs' := [i64 (x3.lo : Int), i64 (x3.hi : Int), (.agg ((hx x3.h) : List Value).toArray)]) (cs := (([i64 (x3.lo : Int), i64 (x3.hi : Int)] ++ (List.map u8v x3.h)) : List Value)) (cs' := (([i64 (x3.lo : Int), i64 (x3.hi : Int)] ++ (hx x3.h)) : List Value)) rfl (by simp only [hv, cW (hx3k)] <;> rfl) (by simp only [hv, cW (hx3k)] <;> rfl) (fun _ => by kernel_rfl)) ?_
  have hltg9 := hb9.lt
  refine wle rfl (eal ([Value.int .i64 0, Value.int .i64 0] ++ (List.map u8v (List.replicate 32 (0 : UInt8)))) (fun w6 g10 hg10 hb10 hc hsz10 => ?_))
  have hzw6 := hc.size
  have hge10 := HC.geo hg10
  have HC := HC.tr hc
  have hfs := hfs.no hc
  have hnf := hnf.cc hc
  have hFM := hFM.ch hc (by first | exact fun h => h | omega | (dsimp only; omega))
  have hix3 := hix3.no hc
  have hb9 := hb9.no hc
  refine wle rfl (esw rq hb10 (fun w7 hb10 hc hsz => ?_))
  have hzw7 := hc.size
  have HC := HC.n hc
  first | have hfs := hfs.cc hc | have hfs := hfs.cT hc
  have hnf := hnf.cc hc
  have hFM := hFM.ch hc (by first | exact fun h => h | omega | (dsimp only; omega))
  first | have hix3 := hix3.cc hc | have hix3 := hix3.cT hc
  have hb9 := hb9.cc hc
  refine ac (ae (ab (aa ?_)))
  refine wmv ?_
  refine wz (pla underlying186 rq (aN hb10)) ?_
  refine wz (p_fm (k := x3.key) underlying184 underlying186 aks (by kernel_rfl) rfl rfl hx3k (fun _ e => e ▸ hFM)) ?_
  refine wmv ?_
  refine wz (aP rfl rfl) ?_
  refine wz (aP rfl rfl) ?_
  iterate 2 refine was ?_
  refine ac (ae (ab (ab (aa ?_))))
  refine wmv ?_
  refine wz (bc rfl) ?_
  refine ac (ae ?_)
  refine aA rfl (fun c2 => ?_) (fun c2 => ?_)
  ·
   have hno : asc x3.key ks = none := by cases h9 : asc x3.key ks with | none => rfl | some v9 => rw [h9] at c2; cases c2
   refine ab (aa ?_)
   refine wmv ?_
   refine wz (pla underlying186 rq (aN hb10)) ?_
   refine wmv ?_
   refine wle rfl (e_fm (k := x3.key) (v := j) underlying184 underlying186 aks rfl rfl rfl hx3k hFM hno (fun w8 hFM hc hsz => ?_))
   have hzw8 := hc.size
   have HC := HC.n hc
   first | have hfs := hfs.cc hc | have hfs := hfs.cT hc
   have hnf := hnf.cc hc
   refine ac (ae (aI (ah (av (ae (aa ?_))))))
   refine wz (aF rfl rfl (w64 (by omega))) ?_
   refine wmv ?_
   refine ac ?_
   have hmi := hmi.new ex3 hin hno
   refine xrn ⟨j + 1, b, o, (ks ++ [(x3.key, j)]), rfl, rfl, (by omega), hmi, hFM, hg13, hfs, hnf, HC⟩
  obtain ⟨v0, hv0⟩ : ∃ v, asc x3.key ks = some v := by cases h9 : asc x3.key ks with | none => rw [h9] at c2; cases c2 | some v9 => exact ⟨v9, rfl⟩
  rw [hv0, Option.getD_some]
  have hvj := (hmi.at_ _ (iT hv0)).1
  have hvj : v0 < j := hvj
  refine al (ae (ab ?_))
  refine wdr (.q 0 [0, 0, 0, 0, 0, 0, 0, 0, 1, 0, 1, 2, 0, 0] .nil) 14 No (fun w9 hc hszw9 => ?_)
  have hzw9 := hc.size
  have HC := HC.tr hc
  have hfs := hfs.no hc
  have hnf := hnf.cc hc
  have hFM := hFM.ch hc (by first | exact fun h => h | omega | (dsimp only; omega))
  have hix3 := hix3.no hc
  have hb9 := hb9.no hc
  have hS : Ch No w9 w9 := Ch.refl _ _
  iterate 2 refine wsm ?_
  refine ws1 rfl (aU rfl rfl) ?_
  refine wsm ?_
  refine bV (d := 48) rfl (fun q48 => ?_) (fun q48 => ?_)
  rotate_left
  ·
   have q48 := of_decide_eq_false q48
   iterate 9 refine dy rfl gq rfl rfl ?_
   refine ws1 rfl (ar rfl rfl) ?_
   refine aW (ae ?_)
   refine bx rfl (rfl) ?_
   refine al (ak (ae (aa ?_)))
   refine wz (aF rfl rfl (w64 (by omega))) ?_
   refine wmv ?_
   refine ac ?_
   have hmi := hmi.same (by omega) ex3 hv0 (fun hlt => by omega)
   refine xrn ⟨j + 1, b, o, ks, rfl, rfl, (by omega), hmi, hFM, hg13, hfs, hnf, HC⟩
  have q48 := of_decide_eq_true q48
  refine aL rfl gq rfl rfl (aS rfl) ?_
  refine aL rfl gq rfl rfl (aS rfl) ?_
  obtain ⟨b10, o10, x10, ex10, hA10, hr10, hx10k, hx10l⟩ := rdF v0 hfs
  refine aL rfl gq rfl rfl (pxs underlying88 bq hA10) ?_
  have hix10 := hnf.get ex10 (by omega)
  have hilx10 := hix10.len
  refine aL rfl gq rfl rfl (pfl 34 underlying93) ?_
  refine cR rfl gq rfl rfl (aE underlying38 rfl rfl (fun _ h => jk (v := (.slice x10.A x10.l x10.c : Value)) (p := (([i64 (x10.lo : Int), i64 (x10.hi : Int)] ++ (List.map u8v x10.h)) : List Value)) (r := []) (cE hr10 h) (by first | rfl | simp only [List.append_assoc, List.cons_append, List.nil_append, List.append_nil]) (by first | rfl | (simp only [List.length_append, List.length_map, List.length_cons, List.length_nil, (show List.length x10.h = 32 from hx10k)]; done) | (simp only [List.length_append, List.length_map, List.length_cons, List.length_nil, List.size_toArray, (show List.length x10.h = 32 from hx10k)]; done)))) ?_
  refine aL rfl gq rfl rfl (pfl 34 underlying93) ?_
  refine cR rfl gq rfl rfl (aE underlying38 rfl rfl (fun _ h => h.cell (fun h => h) (iQ (p := (([i64 (x3.lo : Int), i64 (x3.hi : Int)] ++ (List.map u8v x3.h)) : List Value)) (v := (.slice x3.A x3.l x3.c : Value)) (r := []) hb9 (by simp only [List.append_assoc, List.cons_append, List.nil_append, List.append_nil]) (by first | rfl | (simp only [List.length_append, List.length_map, List.length_cons, List.length_nil, (show List.length x3.h = 32 from hx3k)]; done) | (simp only [List.length_append, List.length_map, List.length_cons, List.length_nil, List.size_toArray, (show List.length x3.h = 32 from hx3k)]; done))))) ?_
  refine ma rfl gq (ai ent105 rfl rfl (eqb_any (hix10) (hix3) (by omega)) ?_)
  rintro _ w11 ⟨rfl, hc⟩
  refine ⟨_, rfl, hc, ?_⟩
  have hzw11 := hc.size
  have HC := HC.tr hc
  have hfs := hfs.no hc
  have hnf := hnf.cc hc
  have hFM := hFM.ch hc (by first | exact fun h => h | omega | (dsimp only; omega))
  refine aB hc ?_
  refine aL rfl gq rfl rfl (bc rfl) ?_
  refine ws1 rfl (am rfl rfl) ?_
  refine aW (ae ?_)
  refine aA rfl (fun c3 => ?_) (fun c3 => ?_)
  ·
   have c3 := eH c3
   refine aa ?_
   iterate 2 refine wmv ?_
   iterate 2 refine was ?_
   refine ac (ak (ae (aa ?_)))
   refine wz (aF rfl rfl (w64 (by omega))) ?_
   refine wmv ?_
   refine ac ?_
   have hmi := hmi.diff (by omega) ex3 hin hv0 (by rw [← ex10]; exact c3)
   refine xrn ⟨j + 1, v0, j, ks, rfl, rfl, (by omega), hmi, hFM, hg13, hfs, hnf, HC⟩
  have c3 := dY c3
  refine al (ak (ae (aa ?_)))
  refine wz (aF rfl rfl (w64 (by omega))) ?_
  refine wmv ?_
  refine ac ?_
  have hmi := hmi.same (by omega) ex3 hv0 (fun hlt => by rw [← ex10]; exact c3)
  refine xrn ⟨j + 1, b, o, ks, rfl, rfl, (by omega), hmi, hFM, hg13, hfs, hnf, HC⟩
end Go.Proofs.YtdencdfdikmgbaaGreatDoor
