/-
 Own text, printed by a program of mine (wip/gx): what functions of the program do, walked operation by operation.
-/
import Derived.Test.YtdencdfdikmgbaaGreatDoorWm2
import Derived.Test.YtdencdfdikmgbaaGreatDoorProg
import Derived.Test.YtdencdfdikmgbaaGreatDoorTab
import Derived.Test.YtdencdfdikmgbaaGreatDoorZS
import Derived.Test.YtdencdfdikmgbaaGreatDoorRxWk
set_option linter.unusedVariables false
set_option linter.unusedSimpArgs false
set_option maxHeartbeats 1000000
set_option maxRecDepth 20000
namespace Go.Proofs.YtdencdfdikmgbaaGreatDoor
open Go.RowKit Go.Gx
open Go.Plain
open Tryz
theorem kC {w : World} {Ap : Option Addr} {lp cp : Nat} {Fp : Nat → Prop} {p : List Pr} {Aq : Option Addr} {lq cq : Nat} {Fq : Nat → Prop} {q : List Pr}  (hp : SI w Fp ePR Ap lp cp p) (hq : SI w Fq ePR Aq lq cq q) (hlp : lp ≤ 140737488351232) :
    Calls Tryz.prog 39 #[.slice Ap lp cp, .slice Aq lq cq] w fun e w' => e = .returned (.bool (decide (p = q))) ∧ Ch No w w' := by
  have hpl := hp.len
  have hql := hq.len
  have hp := hp.old
  have hq := hq.old
  have HC : Ch No w w := Ch.refl _ _
  refine aH (args := [.slice Ap lp cp, .slice Aq lq cq]) (n := 26) Tryz.func39 rfl rfl rfl ?_
  refine ab (aa ?_)
  refine was ?_
  refine ac (ae (ab (ab (aa ?_))))
  refine wmv ?_
  refine wz (aw underlying23 rfl) ?_
  refine wmv ?_
  refine wz (aw underlying23 rfl) ?_
  refine wz (jQ rfl rfl) ?_
  refine ac (ae ?_)
  refine aA rfl (fun c0 => ?_) (fun c0 => ?_)
  ·
   have c0 := of_decide_eq_true c0
   have eS : decide (p = q) = false := decide_eq_false (fun h => by rw [h] at hpl; omega)
   refine ab (aa ?_)
   refine was ?_
   refine ac (ae (ao (ag ?_)))
   refine aj ((aK rfl rfl)) ?_
   rw [eS]; exact ⟨rfl, HC⟩
  have c0 := of_decide_eq_false c0
  refine al (ae (ab (ab (aa ?_))))
  refine wmv ?_
  refine wz (aw underlying23 rfl) ?_
  refine wmv ?_
  refine ac (ae (ap ?_))
  refine wcl (fun mz ez uz => ∃ k : Nat, mz = lp - k ∧ ez = [(0, .slice Ap lp cp), (1, .slice Aq lq cq), (12, i64 (lp : Int)), (13, i64 (k : Int))] ∧ (p.take k = q.take k) ∧ (k ≤ lp) ∧ (lp = lq) ∧ (SI uz (fun k => k < w.heap.size) ePR Ap lp cp p) ∧ (SI uz (fun k => k < w.heap.size) ePR Aq lq cq q) ∧ (Ch No w uz))
   ⟨0, rfl, rfl, by simp, by omega, by omega, hp, hq, HC⟩ ?_
  rintro m0 e w1 ⟨k, hm0, rfl, hkl, hk, hlq, hp, hq, HC⟩
  have hzw1 := HC.size
  refine ab (aa ?_)
  refine wz (aU rfl rfl) ?_
  refine ac (ae (ab ?_))
  refine aA rfl (fun c1 => ?_) (fun c1 => ?_)
  rotate_left
  ·
   have c1 := of_decide_eq_false c1
   have eS : decide (p = q) = true := decide_eq_true (by simpa using hO (f := id) (by simpa using hkl) (by omega) (by omega))
   refine aI (ah (ah (av (ae (ab (aa ?_))))))
   refine was ?_
   refine ac (ae (ao ?_))
   refine aj ((aK rfl rfl)) ?_
   rw [eS]; exact ⟨rfl, HC⟩
  have c1 := of_decide_eq_true c1
  refine al (ae (ab (ap (ab (aa ?_)))))
  refine wmv ?_
  refine was ?_
  refine ac (ae (ab ?_))
  refine wdr (.q 0 [0, 0, 0, 1, 0, 0, 0, 1, 0] .nil) 9 No (fun w2 hc hszw2 => ?_)
  have hzw2 := hc.size
  have HC := HC.tr hc
  have hp := hp.no hc
  have hq := hq.no hc
  have hS : Ch No w2 w2 := Ch.refl _ _
  iterate 2 refine wsm ?_
  obtain ⟨b3, o3, x3, ex3, hA3, hr3, hx3a, hx3b⟩ := rdP k hp
  refine ws1 rfl (pxs underlying23 bA hA3) ?_
  refine ws2 rfl (plh underlying52 bA hr3) ?_
  iterate 2 refine wsm ?_
  obtain ⟨b4, o4, x4, ex4, hA4, hr4, hx4a, hx4b⟩ := rdP k hq
  refine ws1 rfl (pxs underlying23 bA hA4) ?_
  refine ws2 rfl (plh underlying52 bA hr4) ?_
  refine ws1 rfl (p_neV (by kernel_rfl) rfl rfl (jj underlying52 (by kernel_rfl) (tK rfl (dP (cs := ([.string x3.1, .string x3.2.1, .bool x3.2.2] : List Value)) (p := []) (v := .string x3.1) (r := ([.string x3.2.1, .bool x3.2.2] : List Value)) underlying9 rfl (by first | rfl | simp only [List.append_assoc, List.cons_append, List.nil_append, List.append_nil]) rfl) (dP (cs := ([.string x4.1, .string x4.2.1, .bool x4.2.2] : List Value)) (p := []) (v := .string x4.1) (r := ([.string x4.2.1, .bool x4.2.2] : List Value)) underlying9 rfl (by first | rfl | simp only [List.append_assoc, List.cons_append, List.nil_append, List.append_nil]) rfl) (oX underlying9) (tK rfl (dP (cs := ([.string x3.1, .string x3.2.1, .bool x3.2.2] : List Value)) (p := ([.string x3.1] : List Value)) (v := .string x3.2.1) (r := ([.bool x3.2.2] : List Value)) underlying9 rfl (by first | rfl | simp only [List.append_assoc, List.cons_append, List.nil_append, List.append_nil]) rfl) (dP (cs := ([.string x4.1, .string x4.2.1, .bool x4.2.2] : List Value)) (p := ([.string x4.1] : List Value)) (v := .string x4.2.1) (r := ([.bool x4.2.2] : List Value)) underlying9 rfl (by first | rfl | simp only [List.append_assoc, List.cons_append, List.nil_append, List.append_nil]) rfl) (oX underlying9) (tK rfl (dP (cs := ([.string x3.1, .string x3.2.1, .bool x3.2.2] : List Value)) (p := ([.string x3.1, .string x3.2.1] : List Value)) (v := .bool x3.2.2) (r := []) underlying4 rfl (by first | rfl | simp only [List.append_assoc, List.cons_append, List.nil_append, List.append_nil]) rfl) (dP (cs := ([.string x4.1, .string x4.2.1, .bool x4.2.2] : List Value)) (p := ([.string x4.1, .string x4.2.1] : List Value)) (v := .bool x4.2.2) (r := []) underlying4 rfl (by first | rfl | simp only [List.append_assoc, List.cons_append, List.nil_append, List.append_nil]) rfl) (rW underlying4) (oS)))))) ?_
  refine aW (ae ?_)
  refine aA rfl (fun c2 => ?_) (fun c2 => ?_)
  ·
   have eS : decide (p = q) = false := decide_eq_false (fun h => by subst h; rw [← ex3] at ex4; subst ex4; simp at c2)
   refine ab (aa ?_)
   refine was ?_
   refine ac (ae (ao (aG (ag (ag (aG (ag ?_)))))))
   refine aj ((aK rfl rfl)) ?_
   rw [eS]; exact ⟨rfl, HC⟩
  have hkl : p.take (k + 1) = q.take (k + 1) := by have h := fT (f := id) (d := Pr0) (p := p) (q := q) (k := k) (by omega) (by omega) (by simpa using hkl) (by rw [← ex3, ← ex4]; simp at c2; exact Prod.ext c2.1 (Prod.ext c2.2.1 c2.2.2)); simpa using h
  refine al (ak (ae (aa ?_)))
  refine wz (aF rfl rfl (w64 (by omega))) ?_
  refine wmv ?_
  refine ac ?_
  refine xrn ⟨k + 1, rfl, rfl, hkl, by omega, hlq, hp, hq, HC⟩

theorem rc {w : World} {Ap : Option Addr} {lp cp : Nat} {Fp : Nat → Prop} {p : List RD} {Aq : Option Addr} {lq cq : Nat} {Fq : Nat → Prop} {q : List RD} {Gp Gq : Nat → Prop} (hp : SI w Fp eRD Ap lp cp p) (hq : SI w Fq eRD Aq lq cq q) (hnp : NS w Gp p) (hnq : NS w Gq q) (hlp : lp ≤ 140737488351232) :
    Calls Tryz.prog 38 #[.slice Ap lp cp, .slice Aq lq cq] w fun e w' => e = .returned (.bool (decide (p.map RD.abs = q.map RD.abs))) ∧ Ch No w w' := by
  have hpl := hp.len
  have hql := hq.len
  have hnp := hnp.old
  have hnq := hnq.old
  have hp := hp.old
  have hq := hq.old
  have HC : Ch No w w := Ch.refl _ _
  refine aH (args := [.slice Ap lp cp, .slice Aq lq cq]) (n := 68) Tryz.func38 rfl rfl rfl ?_
  refine ab (aa ?_)
  refine was ?_
  refine ac (ae (ab (ab (aa ?_))))
  refine wmv ?_
  refine wz (aw underlying22 rfl) ?_
  refine wmv ?_
  refine wz (aw underlying22 rfl) ?_
  refine wz (jQ rfl rfl) ?_
  refine ac (ae ?_)
  refine aA rfl (fun c0 => ?_) (fun c0 => ?_)
  ·
   have c0 := of_decide_eq_true c0
   have eS : decide (p.map RD.abs = q.map RD.abs) = false := decide_eq_false (fun h => by have h2 := congrArg List.length h; simp only [List.length_map] at h2; omega)
   refine ab (aa ?_)
   refine was ?_
   refine ac (ae (ao (ag ?_)))
   refine aj ((aK rfl rfl)) ?_
   rw [eS]; exact ⟨rfl, HC⟩
  have c0 := of_decide_eq_false c0
  refine al (ae (ab (ab (aa ?_))))
  refine wmv ?_
  refine wz (aw underlying22 rfl) ?_
  refine wmv ?_
  refine ac (ae (ap ?_))
  refine wcl (fun mz ez uz => ∃ k : Nat, mz = lp - k ∧ ez = [(0, .slice Ap lp cp), (1, .slice Aq lq cq), (12, i64 (lp : Int)), (13, i64 (k : Int))] ∧ ((p.take k).map RD.abs = (q.take k).map RD.abs) ∧ (k ≤ lp) ∧ (lp = lq) ∧ (SI uz (fun k => k < w.heap.size) eRD Ap lp cp p) ∧ (SI uz (fun k => k < w.heap.size) eRD Aq lq cq q) ∧ (NS uz (fun k => k < w.heap.size) p) ∧ (NS uz (fun k => k < w.heap.size) q) ∧ (Ch No w uz))
   ⟨0, rfl, rfl, by simp, by omega, by omega, hp, hq, hnp, hnq, HC⟩ ?_
  rintro m0 e w1 ⟨k, hm0, rfl, hkl, hk, hlq, hp, hq, hnp, hnq, HC⟩
  have hzw1 := HC.size
  refine ab (aa ?_)
  refine wz (aU rfl rfl) ?_
  refine ac (ae (ab ?_))
  refine aA rfl (fun c1 => ?_) (fun c1 => ?_)
  rotate_left
  ·
   have c1 := of_decide_eq_false c1
   have eS : decide (p.map RD.abs = q.map RD.abs) = true := decide_eq_true (hO hkl (by omega) (by omega))
   refine aI (ah (ah (av (ae (ab (aa ?_))))))
   refine was ?_
   refine ac (ae (ao ?_))
   refine aj ((aK rfl rfl)) ?_
   rw [eS]; exact ⟨rfl, HC⟩
  have c1 := of_decide_eq_true c1
  refine al (ae (ab (ap (ab (aa ?_)))))
  refine wmv ?_
  refine was ?_
  refine ac (ae (ab ?_))
  refine wdr (.q 0 [0, 0, 0, 0, 1, 0, 0, 0, 0, 1, 0, 0, 0, 0, 0, 0, 1, 0, 0, 0, 0, 1, 0, 0, 0, 0, 0, 0, 0, 1, 0, 0, 0, 0, 1, 0, 0, 0, 0, 0, 0, 0, 1, 0, 0, 0, 0, 1, 2, 0, 0] .nil) 51 No (fun w2 hc hszw2 => ?_)
  have hzw2 := hc.size
  have HC := HC.tr hc
  have hp := hp.no hc
  have hq := hq.no hc
  have hnp := hnp.cc hc
  have hnq := hnq.cc hc
  have hS : Ch No w2 w2 := Ch.refl _ _
  iterate 2 refine wsm ?_
  obtain ⟨b3, o3, x3, ex3, hA3, hr3, hx3a, hx3b, hx3c⟩ := rdR k hp
  refine ws1 rfl (pxs underlying22 cM hA3) ?_
  refine ws1 rfl (pfl 0 underlying54) ?_
  refine ws2 rfl (aE underlying4 rfl rfl (fun _ h => (cE hr3 h) 0 _ rfl)) ?_
  iterate 2 refine wsm ?_
  obtain ⟨b4, o4, x4, ex4, hA4, hr4, hx4a, hx4b, hx4c⟩ := rdR k hq
  refine ws1 rfl (pxs underlying22 cM hA4) ?_
  refine ws1 rfl (pfl 0 underlying54) ?_
  refine ws2 rfl (aE underlying4 rfl rfl (fun _ h => (cE hr4 h) 0 _ rfl)) ?_
  refine ws1 rfl (p_neB rfl rfl underlying4) ?_
  refine wsm ?_
  refine bV (d := 27) rfl (fun q27 => ?_) (fun q27 => ?_)
  ·
   iterate 11 refine dy rfl gq rfl rfl ?_
   refine ws1 rfl (am rfl rfl) ?_
   refine wsm ?_
   iterate 11 refine dy rfl gq rfl rfl ?_
   refine ws1 rfl (am rfl rfl) ?_
   refine wsm ?_
   iterate 12 refine dy rfl gq rfl rfl ?_
   refine ws1 rfl (am rfl rfl) ?_
   refine aW (ae ?_)
   refine aR rfl (rfl) ?_
   refine ab (aa ?_)
   refine was ?_
   refine ac (ae (ao (aG (ag (ag (aG (ag ?_)))))))
   refine aj ((aK rfl rfl)) ?_
   have eS : decide (p.map RD.abs = q.map RD.abs) = false := decide_eq_false (fun h => by
     have h1 := gh (d := RD0) (k := k) h (by omega) (by omega); simp only [RD.abs, Prod.mk.injEq] at h1; simp_all)
   rw [eS]; exact ⟨rfl, HC⟩
  refine aL rfl gq rfl rfl (aS rfl) ?_
  refine aL rfl gq rfl rfl (aS rfl) ?_
  obtain ⟨b5, o5, x5, ex5, hA5, hr5, hx5a, hx5b, hx5c⟩ := rdR k hp
  refine aL rfl gq rfl rfl (pxs underlying22 cM hA5) ?_
  refine aL rfl gq rfl rfl (pfl 1 underlying54) ?_
  refine cR rfl gq rfl rfl (aE underlying9 rfl rfl (fun _ h => (cE hr5 h) 1 _ rfl)) ?_
  refine aL rfl gq rfl rfl (aS rfl) ?_
  refine aL rfl gq rfl rfl (aS rfl) ?_
  obtain ⟨b6, o6, x6, ex6, hA6, hr6, hx6a, hx6b, hx6c⟩ := rdR k hq
  refine aL rfl gq rfl rfl (pxs underlying22 cM hA6) ?_
  refine aL rfl gq rfl rfl (pfl 1 underlying54) ?_
  refine cR rfl gq rfl rfl (aE underlying9 rfl rfl (fun _ h => (cE hr6 h) 1 _ rfl)) ?_
  refine aL rfl gq rfl rfl (iB rfl rfl) ?_
  refine ws1 rfl (ar rfl rfl) ?_
  refine wsm ?_
  refine bV (d := 40) rfl (fun q40 => ?_) (fun q40 => ?_)
  ·
   iterate 11 refine dy rfl gq rfl rfl ?_
   refine ws1 rfl (am rfl rfl) ?_
   refine wsm ?_
   iterate 12 refine dy rfl gq rfl rfl ?_
   refine ws1 rfl (am rfl rfl) ?_
   refine aW (ae ?_)
   refine aR rfl (rfl) ?_
   refine ab (aa ?_)
   refine was ?_
   refine ac (ae (ao (aG (ag (ag (aG (ag ?_)))))))
   refine aj ((aK rfl rfl)) ?_
   have eS : decide (p.map RD.abs = q.map RD.abs) = false := decide_eq_false (fun h => by
     have h1 := gh (d := RD0) (k := k) h (by omega) (by omega); simp only [RD.abs, Prod.mk.injEq] at h1; simp_all)
   rw [eS]; exact ⟨rfl, HC⟩
  refine aL rfl gq rfl rfl (aS rfl) ?_
  refine aL rfl gq rfl rfl (aS rfl) ?_
  obtain ⟨b7, o7, x7, ex7, hA7, hr7, hx7a, hx7b, hx7c⟩ := rdR k hp
  refine aL rfl gq rfl rfl (pxs underlying22 cM hA7) ?_
  refine aL rfl gq rfl rfl (pfl 2 underlying54) ?_
  refine cR rfl gq rfl rfl (aE underlying9 rfl rfl (fun _ h => (cE hr7 h) 2 _ rfl)) ?_
  refine aL rfl gq rfl rfl (aS rfl) ?_
  refine aL rfl gq rfl rfl (aS rfl) ?_
  obtain ⟨b8, o8, x8, ex8, hA8, hr8, hx8a, hx8b, hx8c⟩ := rdR k hq
  refine aL rfl gq rfl rfl (pxs underlying22 cM hA8) ?_
  refine aL rfl gq rfl rfl (pfl 2 underlying54) ?_
  refine cR rfl gq rfl rfl (aE underlying9 rfl rfl (fun _ h => (cE hr8 h) 2 _ rfl)) ?_
  refine aL rfl gq rfl rfl (iB rfl rfl) ?_
  refine ws1 rfl (ar rfl rfl) ?_
  refine wsm ?_
  refine bV (d := 53) rfl (fun q53 => ?_) (fun q53 => ?_)
  ·
   iterate 12 refine dy rfl gq rfl rfl ?_
   refine ws1 rfl (am rfl rfl) ?_
   refine aW (ae ?_)
   refine aR rfl (rfl) ?_
   refine ab (aa ?_)
   refine was ?_
   refine ac (ae (ao (aG (ag (ag (aG (ag ?_)))))))
   refine aj ((aK rfl rfl)) ?_
   have eS : decide (p.map RD.abs = q.map RD.abs) = false := decide_eq_false (fun h => by
     have h1 := gh (d := RD0) (k := k) h (by omega) (by omega); simp only [RD.abs, Prod.mk.injEq] at h1; simp_all)
   rw [eS]; exact ⟨rfl, HC⟩
  refine aL rfl gq rfl rfl (aS rfl) ?_
  refine aL rfl gq rfl rfl (aS rfl) ?_
  obtain ⟨b9, o9, x9, ex9, hA9, hr9, hx9a, hx9b, hx9c⟩ := rdR k hp
  refine aL rfl gq rfl rfl (pxs underlying22 cM hA9) ?_
  have hqx9 := hnp.get' ex9 (by have := True.intro; omega)
  have hqlx9 := hqx9.len
  refine aL rfl gq rfl rfl (pfl 3 underlying54) ?_
  refine cR rfl gq rfl rfl (aE underlying23 rfl rfl (fun _ h => (cE hr9 h) 3 _ rfl)) ?_
  refine aL rfl gq rfl rfl (aS rfl) ?_
  refine aL rfl gq rfl rfl (aS rfl) ?_
  obtain ⟨b10, o10, x10, ex10, hA10, hr10, hx10a, hx10b, hx10c⟩ := rdR k hq
  refine aL rfl gq rfl rfl (pxs underlying22 cM hA10) ?_
  have hqx10 := hnq.get' ex10 (by have := True.intro; omega)
  have hqlx10 := hqx10.len
  refine aL rfl gq rfl rfl (pfl 3 underlying54) ?_
  refine cR rfl gq rfl rfl (aE underlying23 rfl rfl (fun _ h => (cE hr10 h) 3 _ rfl)) ?_
  refine ma rfl gq (ai ent39 rfl rfl (kC (hqx9) (hqx10) (by omega)) ?_)
  rintro _ w11 ⟨rfl, hc⟩
  refine ⟨_, rfl, hc, ?_⟩
  have hzw11 := hc.size
  have HC := HC.tr hc
  have hp := hp.no hc
  have hq := hq.no hc
  have hnp := hnp.cc hc
  have hnq := hnq.cc hc
  refine aB hc ?_
  refine aL rfl gq rfl rfl (bc rfl) ?_
  refine ws1 rfl (ar rfl rfl) ?_
  refine aW (ae ?_)
  refine aA rfl (fun c2 => ?_) (fun c2 => ?_)
  ·
   have c2 := eH c2
   refine ab (aa ?_)
   refine was ?_
   refine ac (ae (ao (aG (ag (ag (aG (ag ?_)))))))
   refine aj ((aK rfl rfl)) ?_
   have eS : decide (p.map RD.abs = q.map RD.abs) = false := decide_eq_false (fun h => by
     have h1 := gh (d := RD0) (k := k) h (by omega) (by omega); simp only [RD.abs, Prod.mk.injEq] at h1; simp_all)
   rw [eS]; exact ⟨rfl, HC⟩
  have c2 := dY c2
  rw [show x5 = x3 from ex5.trans ex3.symm] at q40
  rw [show x6 = x4 from ex6.trans ex4.symm] at q40
  rw [show x7 = x3 from ex7.trans ex3.symm] at q53
  rw [show x8 = x4 from ex8.trans ex4.symm] at q53
  rw [show x9 = x3 from ex9.trans ex3.symm] at c2
  rw [show x10 = x4 from ex10.trans ex4.symm] at c2
  have hkl : (p.take (k + 1)).map RD.abs = (q.take (k + 1)).map RD.abs := fT (d := RD0) (by omega) (by omega) hkl (by rw [← ex3, ← ex4]; have h1 := dq q40; have h2 := dq q53; simp only [RD.abs, Prod.mk.injEq]; exact ⟨by simpa using q27, h1, h2, by simpa using c2⟩)
  refine al (ak (ae (aa ?_)))
  refine wz (aF rfl rfl (w64 (by omega))) ?_
  refine wmv ?_
  refine ac ?_
  refine xrn ⟨k + 1, rfl, rfl, hkl, by omega, hlq, hp, hq, hnp, hnq, HC⟩

theorem kD {w : World} {sa na : Int} {ba : Bool} {Ara : Option Addr} {lra cra : Nat} {Fra : Nat → Prop} {ra : List RD} {Awa : Option Addr} {lwa cwa : Nat} {Fwa : Nat → Prop} {wa : List Pr} {Ga : Nat → Prop} {sb nb : Int} {bb : Bool} {Arb : Option Addr} {lrb crb : Nat} {Frb : Nat → Prop} {rb : List RD} {Awb : Option Addr} {lwb cwb : Nat} {Fwb : Nat → Prop} {wb : List Pr} {Gb : Nat → Prop}  (hra : SI w Fra eRD Ara lra cra ra) (hwa : SI w Fwa ePR Awa lwa cwa wa) (hna : NS w Ga ra) (hrb : SI w Frb eRD Arb lrb crb rb) (hwb : SI w Fwb ePR Awb lwb cwb wb) (hnb : NS w Gb rb) (hlr : lra ≤ 140737488351232) (hlw : lwa ≤ 140737488351232) :
    Calls Tryz.prog 13 #[.agg ([i64 sa, i64 na, .bool ba, .slice Ara lra cra, .slice Awa lwa cwa] : List Value).toArray, .agg ([i64 sb, i64 nb, .bool bb, .slice Arb lrb crb, .slice Awb lwb cwb] : List Value).toArray] w fun e w' => ∃ x, e = .returned (.bool x) ∧ (x = true ↔ sa = sb ∧ na = nb ∧ ba = bb ∧ ra.map RD.abs = rb.map RD.abs ∧ wa = wb) ∧ Ch No w w' := by
  have hrla := hra.len
  have hwla := hwa.len
  have hna := hna.old
  have hrlb := hrb.len
  have hwlb := hwb.len
  have hnb := hnb.old
  have hra := hra.old
  have hwa := hwa.old
  have hrb := hrb.old
  have hwb := hwb.old
  have HC : Ch No w w := Ch.refl _ _
  refine aH (args := [_, _]) (n := 38) Tryz.func13 rfl rfl rfl ?_
  refine ab (aa ?_)
  refine wle rfl (bg (cs := ([i64 sa, i64 na, .bool ba, .slice Ara lra cra, .slice Awa lwa cwa] : List Value).toArray) rfl rfl rfl (fun w1 g2 hg2 hb2 hc hsz2 => ?_))
  have hzw1 := hc.size
  have hge2 := HC.geo hg2
  have HC := HC.tr hc
  have hra := hra.no hc
  have hwa := hwa.no hc
  have hna := hna.cc hc
  have hrb := hrb.no hc
  have hwb := hwb.no hc
  have hnb := hnb.cc hc
  have hltg2 := hb2.lt
  refine wle rfl (bg (cs := ([i64 sb, i64 nb, .bool bb, .slice Arb lrb crb, .slice Awb lwb cwb] : List Value).toArray) rfl rfl rfl (fun w2 g3 hg3 hb3 hc hsz3 => ?_))
  have hzw2 := hc.size
  have hge3 := HC.geo hg3
  have HC := HC.tr hc
  have hra := hra.no hc
  have hwa := hwa.no hc
  have hna := hna.cc hc
  have hrb := hrb.no hc
  have hwb := hwb.no hc
  have hnb := hnb.cc hc
  have hb2 := hb2.no hc
  refine was ?_
  refine ac (ae (ab (aa ?_)))
  refine wz (pfl 0 underlying25) ?_
  refine wz (aC underlying3 hb2) ?_
  refine wz (pfl 0 underlying25) ?_
  refine wz (aC underlying3 hb3) ?_
  refine wz (gS rfl rfl) ?_
  refine wmv ?_
  refine az (d := 10) rfl (fun q10 => ?_) (fun q10 => ?_)
  rotate_left
  ·
   have q10 := of_decide_eq_false q10
   iterate 5 refine aM gq rfl rfl ?_
   refine wz (ar rfl rfl) ?_
   refine wmv ?_
   iterate 5 refine aM gq rfl rfl ?_
   refine wz (ar rfl rfl) ?_
   refine wmv ?_
   iterate 5 refine aM gq rfl rfl ?_
   refine wz (ar rfl rfl) ?_
   refine wmv ?_
   iterate 5 refine aM gq rfl rfl ?_
   refine wz (ar rfl rfl) ?_
   refine was ?_
   refine ac (ae (ao ?_))
   refine aj ((aK rfl rfl)) ?_
   exact ⟨_, rfl, by simp_all, HC⟩
  have q10 := of_decide_eq_true q10
  refine aq gq rfl rfl (pfl 1 underlying25) ?_
  refine aq gq rfl rfl (aC underlying3 hb2) ?_
  refine aq gq rfl rfl (pfl 1 underlying25) ?_
  refine aq gq rfl rfl (aC underlying3 hb3) ?_
  refine aq gq rfl rfl (gS rfl rfl) ?_
  refine wz (am rfl rfl) ?_
  refine wmv ?_
  refine az (d := 17) rfl (fun q17 => ?_) (fun q17 => ?_)
  rotate_left
  ·
   have q17 := of_decide_eq_false q17
   iterate 5 refine aM gq rfl rfl ?_
   refine wz (ar rfl rfl) ?_
   refine wmv ?_
   iterate 5 refine aM gq rfl rfl ?_
   refine wz (ar rfl rfl) ?_
   refine wmv ?_
   iterate 5 refine aM gq rfl rfl ?_
   refine wz (ar rfl rfl) ?_
   refine was ?_
   refine ac (ae (ao ?_))
   refine aj ((aK rfl rfl)) ?_
   exact ⟨_, rfl, by simp_all, HC⟩
  have q17 := of_decide_eq_true q17
  refine aq gq rfl rfl (pfl 2 underlying25) ?_
  refine aq gq rfl rfl (aC underlying4 hb2) ?_
  refine aq gq rfl rfl (pfl 2 underlying25) ?_
  refine aq gq rfl rfl (aC underlying4 hb3) ?_
  refine aq gq rfl rfl (p_eqB rfl rfl underlying4) ?_
  refine wz (am rfl rfl) ?_
  refine wmv ?_
  refine az (d := 24) rfl (fun q24 => ?_) (fun q24 => ?_)
  rotate_left
  ·
   iterate 5 refine aM gq rfl rfl ?_
   refine wz (ar rfl rfl) ?_
   refine wmv ?_
   iterate 5 refine aM gq rfl rfl ?_
   refine wz (ar rfl rfl) ?_
   refine was ?_
   refine ac (ae (ao ?_))
   refine aj ((aK rfl rfl)) ?_
   exact ⟨_, rfl, by simp_all, HC⟩
  refine aq gq rfl rfl (pfl 3 underlying25) ?_
  refine aq gq rfl rfl (aC underlying22 hb2) ?_
  refine aq gq rfl rfl (pfl 3 underlying25) ?_
  refine aq gq rfl rfl (aC underlying22 hb3) ?_
  refine bX gq (ai ent38 rfl rfl (rc (hra) (hrb) hna hnb (by omega)) ?_)
  rintro _ w3 ⟨rfl, hc⟩
  refine ⟨_, rfl, ?_⟩
  have hzw3 := hc.size
  have HC := HC.tr hc
  have hwa := hwa.no hc
  have hwb := hwb.no hc
  have hb2 := hb2.no hc
  have hb3 := hb3.no hc
  refine wz (am rfl rfl) ?_
  refine wmv ?_
  refine az (d := 31) rfl (fun q31 => ?_) (fun q31 => ?_)
  ·
   have q31 := of_decide_eq_true q31
   refine aq gq rfl rfl (pfl 4 underlying25) ?_
   refine aq gq rfl rfl (aC underlying23 hb2) ?_
   refine aq gq rfl rfl (pfl 4 underlying25) ?_
   refine aq gq rfl rfl (aC underlying23 hb3) ?_
   refine bX gq (ai ent39 rfl rfl (kC (hwa) (hwb) (by omega)) ?_)
   rintro _ w4 ⟨rfl, hc⟩
   refine ⟨_, rfl, ?_⟩
   have hzw4 := hc.size
   have HC := HC.tr hc
   refine wz (am rfl rfl) ?_
   refine was ?_
   refine ac (ae (ao ?_))
   refine aj ((aK rfl rfl)) ?_
   exact ⟨_, rfl, by simp_all, HC⟩
  have q31 := of_decide_eq_false q31
  iterate 5 refine aM gq rfl rfl ?_
  refine wz (ar rfl rfl) ?_
  refine was ?_
  refine ac (ae (ao ?_))
  refine aj ((aK rfl rfl)) ?_
  exact ⟨_, rfl, by simp_all, HC⟩

theorem kE {w : World} {sa na : Int} {ba : Bool} {Ara : Option Addr} {lra cra : Nat} {Fra : Nat → Prop} {ra : List RD} {Awa : Option Addr} {lwa cwa : Nat} {Fwa : Nat → Prop} {wa : List Pr} {Ga : Nat → Prop} {z0 : Int}  (hra : SI w Fra eRD Ara lra cra ra) (hwa : SI w Fwa ePR Awa lwa cwa wa) (hna : NS w Ga ra) (hlr : lra ≤ 140737488351232) (hlw : lwa ≤ 140737488351232) (hz0 : 0 ≤ z0 ∧ z0 ≤ 1000) :
    Calls Tryz.prog 5 #[.agg ([i64 sa, i64 na, .bool ba, .slice Ara lra cra, .slice Awa lwa cwa] : List Value).toArray, i64 z0] w fun e w' => ∃ z : Int, e = .returned (i64 z) ∧ (0 ≤ z → lra ≤ 100 ∧ lwa ≤ 100) ∧ Ch No w w' := by
  have hrla := hra.len
  have hwla := hwa.len
  have hna := hna.old
  have hra := hra.old
  have hwa := hwa.old
  have HC : Ch No w w := Ch.refl _ _
  refine aH (args := [_, _]) (n := 103) Tryz.func5 rfl rfl rfl ?_
  refine ab (aa ?_)
  refine wle rfl (bg (cs := ([i64 sa, i64 na, .bool ba, .slice Ara lra cra, .slice Awa lwa cwa] : List Value).toArray) rfl rfl rfl (fun w1 g2 hg2 hb2 hc hsz2 => ?_))
  have hzw1 := hc.size
  have hge2 := HC.geo hg2
  have HC := HC.tr hc
  have hra := hra.no hc
  have hwa := hwa.no hc
  have hna := hna.cc hc
  refine was ?_
  refine ac (ae (ab (aa ?_)))
  refine wmv ?_
  refine wz (pfl 3 underlying25) ?_
  refine wz (aC underlying22 hb2) ?_
  refine wz (aw underlying22 rfl) ?_
  refine wz (aF rfl rfl (w64 (by omega))) ?_
  refine wz (pfl 4 underlying25) ?_
  refine wz (aC underlying23 hb2) ?_
  refine wz (aw underlying23 rfl) ?_
  refine wz (aF rfl rfl (w64 (by omega))) ?_
  refine wz (aZ rfl rfl (w64 (by omega))) ?_
  refine was ?_
  refine ac (ae (ab (ab (aa ?_))))
  refine wmv ?_
  refine wz (aU rfl rfl) ?_
  refine wmv ?_
  refine az (d := 23) rfl (fun q23 => ?_) (fun q23 => ?_)
  ·
   have q23 := of_decide_eq_true q23
   iterate 4 refine aM gq rfl rfl ?_
   refine wz (am rfl rfl) ?_
   refine wmv ?_
   iterate 4 refine aM gq rfl rfl ?_
   refine wz (am rfl rfl) ?_
   refine ac (ae ?_)
   refine aR rfl (rfl) ?_
   refine ab (aa ?_)
   refine was ?_
   refine ac (ae (ao (ag ?_)))
   refine aj ((aK rfl rfl)) ?_
   exact ⟨_, rfl, fun h => by omega, HC⟩
  have q23 := of_decide_eq_false q23
  refine aq gq rfl rfl (pfl 3 underlying25) ?_
  refine aq gq rfl rfl (aC underlying22 hb2) ?_
  refine aq gq rfl rfl (aw underlying22 rfl) ?_
  refine aq gq rfl rfl (bM rfl rfl) ?_
  refine wz (ar rfl rfl) ?_
  refine wmv ?_
  refine az (d := 29) rfl (fun q29 => ?_) (fun q29 => ?_)
  ·
   have q29 := of_decide_eq_true q29
   iterate 4 refine aM gq rfl rfl ?_
   refine wz (am rfl rfl) ?_
   refine ac (ae ?_)
   refine aR rfl (rfl) ?_
   refine ab (aa ?_)
   refine was ?_
   refine ac (ae (ao (ag ?_)))
   refine aj ((aK rfl rfl)) ?_
   exact ⟨_, rfl, fun h => by omega, HC⟩
  have q29 := of_decide_eq_false q29
  refine aq gq rfl rfl (pfl 4 underlying25) ?_
  refine aq gq rfl rfl (aC underlying23 hb2) ?_
  refine aq gq rfl rfl (aw underlying23 rfl) ?_
  refine aq gq rfl rfl (bM rfl rfl) ?_
  refine wz (ar rfl rfl) ?_
  refine ac (ae ?_)
  refine aA rfl (fun c0 => ?_) (fun c0 => ?_)
  ·
   have c0 := of_decide_eq_true c0
   refine ab (aa ?_)
   refine was ?_
   refine ac (ae (ao (ag ?_)))
   refine aj ((aK rfl rfl)) ?_
   exact ⟨_, rfl, fun h => by omega, HC⟩
  have c0 := of_decide_eq_false c0
  refine al (ae (ab (ab (aa ?_))))
  refine wz (pfl 4 underlying25) ?_
  refine wz (aC underlying23 hb2) ?_
  refine wz (aw underlying23 rfl) ?_
  refine wmv ?_
  refine ac (ae (ap ?_))
  refine ek (e' := [(1, i64 (_)), (2, .pointer (some ⟨g2, 0, none⟩)), (36, .slice Awa lwa cwa), (37, i64 (lwa : Int)), (38, i64 ((0) : Int))]) (fun mz ez uz => ∃ k : Nat, ∃ z : Int, mz = lwa - k ∧ ez = [(1, i64 z), (2, .pointer (some ⟨g2, 0, none⟩)), (36, .slice Awa lwa cwa), (37, i64 (lwa : Int)), (38, i64 (k : Int))] ∧ (k ≤ lwa) ∧ (0 ≤ z ∧ z ≤ 1000) ∧ (lra ≤ 100 ∧ lwa ≤ 100) ∧ (SI uz (fun k => k < w.heap.size) eRD Ara lra cra ra) ∧ (SI uz (fun k => k < w.heap.size) ePR Awa lwa cwa wa) ∧ (NS uz (fun k => k < w.heap.size) ra) ∧ (Blk uz g2 25 ([i64 sa, i64 na, .bool ba, .slice Ara lra cra, .slice Awa lwa cwa] : List Value).toArray) ∧ (w.heap.size ≤ g2) ∧ (Ch No w uz))
   ⟨rfl, rfl, rfl, rfl, rfl, trivial⟩ ⟨0, _, rfl, rfl, by omega, ⟨by omega, by omega⟩, ⟨by omega, by omega⟩, hra, hwa, hna, hb2, (by omega), HC⟩ ?_
  rintro m0 e w2 ⟨k, z, hm0, rfl, hk, hz0, hla, hra, hwa, hna, hb2, hg2, HC⟩
  have hzw2 := HC.size
  refine ab (aa ?_)
  refine wz (aU rfl rfl) ?_
  refine ac (ae (ab ?_))
  refine aA rfl (fun c1 => ?_) (fun c1 => ?_)
  ·
   have c1 := of_decide_eq_true c1
   refine al (ae (ab (ap (ab (aa ?_)))))
   obtain ⟨b3, o3, x3, ex3, hA3, hr3, hx3a, hx3b⟩ := rdP k hwa
   refine wz (pxs underlying23 bA hA3) ?_
   refine wz (pla underlying52 bA hr3) ?_
   have hltg2 := hb2.lt
   refine wle rfl (eal [Value.string ByteArray.empty, Value.string ByteArray.empty, Value.bool false] (fun w4 g6 hg6 hb6 hc hsz6 => ?_))
   have hzw4 := hc.size
   have hge6 := HC.geo hg6
   have HC := HC.tr hc
   have hra := hra.no hc
   have hwa := hwa.no hc
   have hna := hna.cc hc
   have hb2 := hb2.no hc
   refine wle rfl (esw bA hb6 (fun w5 hb6 hc hsz => ?_))
   have hzw5 := hc.size
   have HC := HC.n hc
   first | have hra := hra.cc hc | have hra := hra.cT hc
   first | have hwa := hwa.cc hc | have hwa := hwa.cT hc
   have hna := hna.cc hc
   have hb2 := hb2.cc hc
   refine ac (ae (ab (aa ?_)))
   refine wmv ?_
   refine wz (pfl 0 underlying52) ?_
   refine wz (aC underlying9 hb6) ?_
   refine wz (bQ underlying9 rfl) ?_
   refine wz (pfl 1 underlying52) ?_
   refine wz (aC underlying9 hb6) ?_
   refine wz (bQ underlying9 rfl) ?_
   refine wz (aF rfl rfl (w64 (by omega))) ?_
   refine wz (nN rfl rfl (by omega) (by omega) (by omega)) ?_
   refine wz (aZ rfl rfl (w64 (by omega))) ?_
   refine was ?_
   refine ac (ae (ab (aa ?_)))
   refine wmv ?_
   refine wz (aU rfl rfl) ?_
   refine ac (ae ?_)
   refine aA rfl (fun c2 => ?_) (fun c2 => ?_)
   ·
    have c2 := of_decide_eq_true c2
    refine ab (aa ?_)
    refine was ?_
    refine ac (ae (ao (aG (ag (ag (aG (ag ?_)))))))
    refine aj ((aK rfl rfl)) ?_
    exact ⟨_, rfl, fun h => by omega, HC⟩
   have c2 := of_decide_eq_false c2
   refine al (ak (ae (aa ?_)))
   refine wz (aF rfl rfl (w64 (by omega))) ?_
   refine wmv ?_
   refine ac ?_
   refine bG (e' := [(1, i64 (_)), (2, .pointer (some ⟨g2, 0, none⟩)), (36, .slice Awa lwa cwa), (37, i64 (lwa : Int)), (38, i64 ((k + 1) : Int))]) ⟨rfl, rfl, rfl, rfl, rfl, trivial⟩ (by rw [hm0]; omega) ⟨k + 1, _, rfl, rfl, by omega, ⟨by omega, by omega⟩, hla, hra, hwa, hna, hb2, hg2, HC⟩
  have c1 := of_decide_eq_false c1
  refine aI (ah (ah (av (ae (ab (ab (aa ?_)))))))
  refine wz (pfl 3 underlying25) ?_
  refine wz (aC underlying22 hb2) ?_
  refine wz (aw underlying22 rfl) ?_
  refine wmv ?_
  refine ac (ae (ap ?_))
  refine wcl (fun mz ez uz => ∃ k : Nat, ∃ z : Int, mz = lra - k ∧ ez = [(1, i64 z), (2, .pointer (some ⟨g2, 0, none⟩)), (56, .slice Ara lra cra), (57, i64 (lra : Int)), (58, i64 (k : Int))] ∧ (k ≤ lra) ∧ (-200000000000000 ≤ z ∧ z ≤ 1000) ∧ (lra ≤ 100 ∧ lwa ≤ 100) ∧ (SI uz (fun k => k < w.heap.size) eRD Ara lra cra ra) ∧ (SI uz (fun k => k < w.heap.size) ePR Awa lwa cwa wa) ∧ (NS uz (fun k => k < w.heap.size) ra) ∧ (Blk uz g2 25 ([i64 sa, i64 na, .bool ba, .slice Ara lra cra, .slice Awa lwa cwa] : List Value).toArray) ∧ (w.heap.size ≤ g2) ∧ (Ch No w uz))
   ⟨0, z, rfl, rfl, by omega, ⟨by omega, by omega⟩, hla, hra, hwa, hna, hb2, hg2, HC⟩ ?_
  rintro m1 e w6 ⟨k, z, hm1, rfl, hk, hz0, hla, hra, hwa, hna, hb2, hg2, HC⟩
  have hzw6 := HC.size
  refine ab (aa ?_)
  refine wz (aU rfl rfl) ?_
  refine ac (ae (ab ?_))
  refine aA rfl (fun c3 => ?_) (fun c3 => ?_)
  rotate_left
  ·
   have c3 := of_decide_eq_false c3
   refine aI (ah (ah (av (ae (ab (aa ?_))))))
   refine wmv ?_
   refine was ?_
   refine ac (ae (ao ?_))
   refine aj ((aK rfl rfl)) ?_
   exact ⟨_, rfl, fun h => by omega, HC⟩
  have c3 := of_decide_eq_true c3
  refine al (ae (ab (ap (ab (aa ?_)))))
  obtain ⟨b7, o7, x7, ex7, hA7, hr7, hx7a, hx7b, hx7c⟩ := rdR k hra
  refine wz (pxs underlying22 cM hA7) ?_
  have hqx7 := hna.get' ex7 (by have := True.intro; omega)
  have hqlx7 := hqx7.len
  refine wz (pla underlying54 cM hr7) ?_
  have hltg2 := hb2.lt
  refine wle rfl (eal [Value.bool false, Value.string ByteArray.empty, Value.string ByteArray.empty, Value.slice none 0 0] (fun w8 g8 hg8 hb8 hc hsz8 => ?_))
  have hzw8 := hc.size
  have hge8 := HC.geo hg8
  have HC := HC.tr hc
  have hra := hra.no hc
  have hwa := hwa.no hc
  have hna := hna.cc hc
  have hb2 := hb2.no hc
  have hqx7 := hqx7.no hc
  refine wle rfl (esw cM hb8 (fun w9 hb8 hc hsz => ?_))
  have hzw9 := hc.size
  have HC := HC.n hc
  first | have hra := hra.cc hc | have hra := hra.cT hc
  first | have hwa := hwa.cc hc | have hwa := hwa.cT hc
  have hna := hna.cc hc
  have hb2 := hb2.cc hc
  first | have hqx7 := hqx7.cc hc | have hqx7 := hqx7.cT hc
  refine ac (ae (ab (ab (aa ?_))))
  refine wz (pfl 3 underlying54) ?_
  refine wz (aC underlying23 hb8) ?_
  refine wz (aw underlying23 rfl) ?_
  refine wmv ?_
  refine wz (bM rfl rfl) ?_
  refine ac (ae ?_)
  refine aA rfl (fun c4 => ?_) (fun c4 => ?_)
  ·
   have c4 := of_decide_eq_true c4
   refine ab (aa ?_)
   refine was ?_
   refine ac (ae (ao (ag (aG (ag (ag (aG (ag ?_))))))))
   refine aj ((aK rfl rfl)) ?_
   exact ⟨_, rfl, fun h => by omega, HC⟩
  have c4 := of_decide_eq_false c4
  refine al (ae (ab (aa ?_)))
  refine wmv ?_
  refine wz (pfl 3 underlying54) ?_
  refine wz (aC underlying23 hb8) ?_
  refine wz (aw underlying23 rfl) ?_
  refine wz (pfl 1 underlying54) ?_
  refine wz (aC underlying9 hb8) ?_
  refine wz (bQ underlying9 rfl) ?_
  refine wz (pfl 2 underlying54) ?_
  refine wz (aC underlying9 hb8) ?_
  refine wz (bQ underlying9 rfl) ?_
  refine wz (aF rfl rfl (w64 (by omega))) ?_
  refine wz (nN rfl rfl (by omega) (by omega) (by omega)) ?_
  refine wz (aF rfl rfl (w64 (by omega))) ?_
  refine wz (aZ rfl rfl (w64 (by omega))) ?_
  refine was ?_
  refine ac (ae (ab (aa ?_)))
  refine wz (pfl 3 underlying54) ?_
  refine wz (aC underlying23 hb8) ?_
  refine wz (aw underlying23 rfl) ?_
  refine wmv ?_
  refine ac (ae (ap ?_))
  refine ek (e' := [(1, i64 (_)), (2, .pointer (some ⟨g2, 0, none⟩)), (56, .slice Ara lra cra), (57, i64 (lra : Int)), (58, i64 (k : Int)), (82, .slice x7.A x7.l x7.c), (83, i64 (x7.l : Int)), (84, i64 ((0) : Int))]) (fun mz ez uz => ∃ j : Nat, ∃ y : Int, mz = x7.l - j ∧ ez = [(1, i64 y), (2, .pointer (some ⟨g2, 0, none⟩)), (56, .slice Ara lra cra), (57, i64 (lra : Int)), (58, i64 (k : Int)), (82, .slice x7.A x7.l x7.c), (83, i64 (x7.l : Int)), (84, i64 (j : Int))] ∧ (j ≤ x7.l) ∧ (-200000000000000 ≤ y ∧ y ≤ 1000) ∧ (SI uz (fun k => k < w.heap.size) eRD Ara lra cra ra) ∧ (SI uz (fun k => k < w.heap.size) ePR Awa lwa cwa wa) ∧ (NS uz (fun k => k < w.heap.size) ra) ∧ (Blk uz g2 25 ([i64 sa, i64 na, .bool ba, .slice Ara lra cra, .slice Awa lwa cwa] : List Value).toArray) ∧ (w.heap.size ≤ g2) ∧ (SI uz (fun k => k < w.heap.size) ePR x7.A x7.l x7.c x7.ps) ∧ (Ch No w uz))
   ⟨rfl, rfl, rfl, rfl, rfl, rfl, rfl, rfl, trivial⟩ ⟨0, _, rfl, rfl, by omega, ⟨by omega, by omega⟩, hra, hwa, hna, hb2, hg2, hqx7, HC⟩ ?_
  rintro m2 e w10 ⟨j, y, hm2, rfl, hj, hz1, hra, hwa, hna, hb2, hg2, hqx7, HC⟩
  have hzw10 := HC.size
  refine ab (aa ?_)
  refine wz (aU rfl rfl) ?_
  refine ac (ae (ab ?_))
  refine aA rfl (fun c5 => ?_) (fun c5 => ?_)
  rotate_left
  ·
   have c5 := of_decide_eq_false c5
   refine aI (ah (ah (av (ak (ae (aa ?_))))))
   refine wz (aF rfl rfl (w64 (by omega))) ?_
   refine wmv ?_
   refine ac ?_
   refine bG (e' := [(1, i64 (_)), (2, .pointer (some ⟨g2, 0, none⟩)), (56, .slice Ara lra cra), (57, i64 (lra : Int)), (58, i64 ((k + 1) : Int))]) ⟨rfl, rfl, rfl, rfl, rfl, trivial⟩ (by rw [hm1]; omega) ⟨k + 1, _, rfl, rfl, by omega, ⟨by omega, by omega⟩, hla, hra, hwa, hna, hb2, hg2, HC⟩
  have c5 := of_decide_eq_true c5
  refine al (ae (ab (ap (ab (aa ?_)))))
  obtain ⟨b11, o11, x11, ex11, hA11, hr11, hx11a, hx11b⟩ := rdP j hqx7
  refine wz (pxs underlying23 bA hA11) ?_
  refine wz (pla underlying52 bA hr11) ?_
  have hltg2 := hb2.lt
  refine wle rfl (eal [Value.string ByteArray.empty, Value.string ByteArray.empty, Value.bool false] (fun w12 g10 hg10 hb10 hc hsz10 => ?_))
  have hzw12 := hc.size
  have hge10 := HC.geo hg10
  have HC := HC.tr hc
  have hra := hra.no hc
  have hwa := hwa.no hc
  have hna := hna.cc hc
  have hb2 := hb2.no hc
  have hqx7 := hqx7.no hc
  refine wle rfl (esw bA hb10 (fun w13 hb10 hc hsz => ?_))
  have hzw13 := hc.size
  have HC := HC.n hc
  first | have hra := hra.cc hc | have hra := hra.cT hc
  first | have hwa := hwa.cc hc | have hwa := hwa.cT hc
  have hna := hna.cc hc
  have hb2 := hb2.cc hc
  first | have hqx7 := hqx7.cc hc | have hqx7 := hqx7.cT hc
  refine ac (ae (ab (aa ?_)))
  refine wmv ?_
  refine wz (pfl 0 underlying52) ?_
  refine wz (aC underlying9 hb10) ?_
  refine wz (bQ underlying9 rfl) ?_
  refine wz (pfl 1 underlying52) ?_
  refine wz (aC underlying9 hb10) ?_
  refine wz (bQ underlying9 rfl) ?_
  refine wz (aF rfl rfl (w64 (by omega))) ?_
  refine wz (nN rfl rfl (by omega) (by omega) (by omega)) ?_
  refine wz (aZ rfl rfl (w64 (by omega))) ?_
  refine was ?_
  refine ac (ae (ab (aa ?_)))
  refine wmv ?_
  refine wz (aU rfl rfl) ?_
  refine ac (ae ?_)
  refine aA rfl (fun c6 => ?_) (fun c6 => ?_)
  ·
   have c6 := of_decide_eq_true c6
   refine ab (aa ?_)
   refine was ?_
   refine ac (ae (ao (aG (ag (ag (aG (aG (ag (ag (aG (ag ?_)))))))))))
   refine aj ((aK rfl rfl)) ?_
   exact ⟨_, rfl, fun h => by omega, HC⟩
  have c6 := of_decide_eq_false c6
  refine al (ak (ae (aa ?_)))
  refine wz (aF rfl rfl (w64 (by omega))) ?_
  refine wmv ?_
  refine ac ?_
  refine bG (e' := [(1, i64 (_)), (2, .pointer (some ⟨g2, 0, none⟩)), (56, .slice Ara lra cra), (57, i64 (lra : Int)), (58, i64 (k : Int)), (82, .slice x7.A x7.l x7.c), (83, i64 (x7.l : Int)), (84, i64 ((j + 1) : Int))]) ⟨rfl, rfl, rfl, rfl, rfl, rfl, rfl, rfl, trivial⟩ (by rw [hm2]; omega) ⟨j + 1, _, rfl, rfl, by omega, ⟨by omega, by omega⟩, hra, hwa, hna, hb2, hg2, hqx7, HC⟩

theorem ei {w : World} {Ab : Option Addr} {lb cb : Nat} {Fb : Nat → Prop} {b : List UInt8} (hb : Sl w Fb u8v Ab lb cb b) (hl : lb ≤ 140737488355328) :
    Calls Tryz.prog 106 #[.slice Ab lb cb] w fun e w' => ∃ A c, e = .returned (.slice A (lb) c) ∧ Row w' (fun k => w.heap.size ≤ k) 5 1 (.slice A (lb) c) (lb) ((b).map u8v) ∧ Ch No w w' := by
  have hb := hb.old
  have HC : Ch No w w := Ch.refl _ _
  refine aH (args := [.slice Ab lb cb]) (n := 8) Tryz.func106 rfl rfl rfl ?_
  refine ab (aa ?_)
  refine was ?_
  refine ac (ae (ab (ab (aa ?_))))
  refine wmv ?_
  refine wz (iP rfl rfl underlying38) ?_
  refine ac (ae ?_)
  refine aA rfl (fun c0 => ?_) (fun c0 => ?_)
  ·
   obtain rfl : Ab = none := by cases Ab <;> simp_all
   obtain ⟨rfl, rfl⟩ := hb.none_len
   refine ab (aa ?_)
   refine was ?_
   refine ac (ae (ao (ag ?_)))
   refine aj ((aK rfl rfl)) ?_
   first | exact ⟨_, _, rfl, Row.nil _ _ _ _, HC⟩ | (rw [Nat.zero_add] at hW5; rw [Nat.zero_add]; exact ⟨_, _, rfl, hW5.mono (fun k _ hk => by first | omega | (dsimp only at *; omega)), HC⟩)
  refine al (ae (ab (aa ?_)))
  refine wle rfl (iD (cs := #[]) (E := 5) rfl rfl (fun _ => by kernel_rfl) (fun w1 g5 hg5 hb5 hc hsz5 => ?_))
  have hzw1 := hc.size
  have hge5 := HC.geo hg5
  have HC := HC.tr hc
  have hb := hb.no hc
  have hW5 := Row.lit (l := 0) (f := u8v) (xs := []) (F := fun k => g5 ≤ k) hb5 (by first | omega | (dsimp only; omega)) rfl rfl (by simp [maxLen])
  refine wmv ?_
  refine wle rfl (bJ rfl dt aX rfl rfl hW5 hb (by omega) (by intro k hk; first | omega | (dsimp only at *; omega)) (fun w2 A7 c7 hW5 hc => ?_))
  have hzw2 := hc.size
  have HC := HC.q hc
  refine was ?_
  refine ac (ae (ao ?_))
  refine aj ((aK rfl rfl)) ?_
  first | exact ⟨_, _, rfl, Row.nil _ _ _ _, HC⟩ | (rw [Nat.zero_add] at hW5; rw [Nat.zero_add]; exact ⟨_, _, rfl, hW5.mono (fun k _ hk => by first | omega | (dsimp only at *; omega)), HC⟩)

theorem p9 {w : World} {Ab : Option Addr} {lb cb : Nat} {Fb : Nat → Prop} {b : List UInt8} {x : Nat} (hb : Sl w Fb u8v Ab lb cb b) (hl : lb ≤ 140737488355318) (hx : x < 18446744073709551616) :
    Calls Tryz.prog 165 #[.slice Ab lb cb, dM x] w fun e w' => ∃ A c, e = .returned (.slice A (lb + (bO x).length) c) ∧ Row w' (fun k => w.heap.size ≤ k) 5 1 (.slice A (lb + (bO x).length) c) (lb + (bO x).length) ((b ++ bO x).map u8v) ∧ Ch No w w' := by
  have hb := hb.old
  have HC : Ch No w w := Ch.refl _ _
  refine aH (args := [.slice Ab lb cb, dM x]) (n := 35) Tryz.func165 rfl rfl rfl ?_
  refine ab (aa ?_)
  refine was ?_
  refine ac (ae (ab (aa ?_)))
  refine wmv ?_
  refine wle rfl (ai i9 rfl rfl (ei (hb) (by omega)) ?_)
  rintro _ w1 ⟨A8, c8, rfl, hW8, hc⟩
  refine ⟨_, rfl, ?_⟩
  have hzw1 := hc.size
  have HC := HC.tr hc
  refine was ?_
  refine ac (ae (ab (ab (aa ?_))))
  refine wmv ?_
  refine wz (aU rfl rfl) ?_
  refine ac (ae ?_)
  refine aA rfl (fun c0 => ?_) (fun c0 => ?_)
  ·
   have c0 := of_decide_eq_true c0
   have hx8 : x < 248 := by omega
   have eN := fQ hx8
   refine ab (aa ?_)
   iterate 2 refine wmv ?_
   refine wz (bZ underlying102 underlying5 rfl) ?_
   refine wle rfl (aT (E := 5) rfl rfl (fun _ => by kernel_rfl) (fun w2 g14 hg14 hb14 hc hsz14 => ?_))
   have hzw2 := hc.size
   have hge14 := HC.geo hg14
   have HC := HC.tr hc
   have hW8 := hW8.after hc
   have hS14 := Sl.lit1 (f := u8v) hb14
   refine wle rfl (bJ rfl dt aX rfl rfl hW8 hS14 (by omega) (by intro k hk; first | omega | (dsimp only at *; omega)) (fun w3 A15 c15 hW8 hc => ?_))
   have hzw3 := hc.size
   have HC := HC.q hc
   refine was ?_
   refine ac (ae (ao (ag ?_)))
   refine aj ((aK rfl rfl)) ?_
   rw [eN]
   first
     | exact ⟨_, _, rfl, hW8.mono (fun k _ hk => by first | omega | (dsimp only at *; omega)), HC⟩
     | (rw [hbe, List.append_assoc, show (255 - ((8 - r.length : Nat) : Int)).toNat = 247 + r.length by omega, show lb + 1 + (8 - (8 - r.length)) = lb + (UInt8.ofNat (247 + r.length) :: r).length by simp only [List.length_cons]; omega] at *; exact ⟨_, _, rfl, hW8.mono (fun k _ hk => by first | omega | (dsimp only at *; omega)), HC⟩)
  have c0 := of_decide_eq_false c0
  have hx8 : 248 ≤ x := by omega
  have eN := fR hx8
  have hbl := kX hx
  refine al (ae (ab (aa ?_)))
  refine wle rfl (bz (cs := ((List.replicate 8 (0 : UInt8)).map u8v).toArray) rfl (by rfl) rfl (fun w4 g5 hg5 hb5 hc hsz5 => ?_))
  have hzw4 := hc.size
  have hge5 := HC.geo hg5
  have HC := HC.tr hc
  have hW8 := hW8.after hc
  refine ac (ae (ab (aa ?_)))
  refine was ?_
  refine ac (ae (ab (ap ?_)))
  refine wcl (fun mz ez uz => ∃ y : Nat, ∃ r : List UInt8, mz = y ∧ ez = [(0, .slice A8 lb c8), (1, dM y), (5, .pointer (some ⟨g5, 0, none⟩)), (6, i64 ((8 - r.length : Nat) : Int))] ∧ (Row uz (fun k => w.heap.size ≤ k ∧ k ≠ g5) 5 1 (.slice A8 lb c8) lb (b.map u8v)) ∧ (Blk uz g5 308 ((List.replicate (8 - r.length) (0 : UInt8) ++ r).map u8v).toArray) ∧ (r.length ≤ 8) ∧ (be x = be y ++ r) ∧ (y < 256 ^ (8 - r.length)) ∧ (Ch No w uz))
   ⟨x, [], rfl, rfl, hW8.mono (fun k hk hF => by first | omega | (dsimp only at *; omega)), by simpa using hb5, by simp, by simp, by simpa using hx, HC⟩ ?_
  rintro m0 e w5 ⟨y, r, hm0, rfl, hW8, hb5, hr, hbe, hy, HC⟩
  have hzw5 := HC.size
  refine ab (ab (aa ?_))
  refine wmv ?_
  refine wz (bM rfl rfl) ?_
  refine ac (ae ?_)
  refine aA rfl (fun c1 => ?_) (fun c1 => ?_)
  ·
   have c1 := of_decide_eq_true c1
   have hr8 : r.length < 8 := by
     rcases Nat.lt_or_ge r.length 8 with h | h
     · exact h
     rw [show 8 - r.length = 0 by omega] at hy; simp at hy; omega
   refine al (ae (ab (ap (ab (aa ?_)))))
   refine wmv ?_
   refine wz (aZ rfl rfl (w64 (by omega))) ?_
   refine was ?_
   refine ac (ae (aa ?_))
   iterate 2 refine wmv ?_
   refine wz (bZ underlying102 underlying5 rfl) ?_
   refine wz (aJ underlying308 sz5 rfl rfl (by omega) (by omega) rfl) ?_
   refine wle rfl (dF aX (by rfl) rfl rfl hb5 (by first | (simp; done) | (simp; omega) | omega) (fun w7 hb5 hc hsz => ?_))
   have hzw7 := hc.size
   have HC := HC.n hc
   have hW8 := hW8.ch hc (by intro k hz hk ht; first | omega | (dsimp only at *; omega))
   refine ac (ak (ae (aa ?_)))
   refine wmv ?_
   refine wz (eV (Y := 8) rfl rfl rfl) ?_
   refine was ?_
   refine ac ?_
   have e1 : ((8 - r.length : Nat) : Int) - 1 = ((7 - r.length : Nat) : Int) := by omega
   rw [e1, Int.toNat_natCast, show 8 - r.length = (7 - r.length) + 1 by omega, set_rep, show 7 - r.length = 8 - (UInt8.ofNat y :: r).length by simp only [List.length_cons]; omega] at hb5
   have hbe : be x = be (y / 2 ^ 8) ++ (UInt8.ofNat y :: r) := by rw [hbe, jn (x := y) (by omega)]; simp
   have hy : y / 2 ^ 8 < 256 ^ (8 - (UInt8.ofNat y :: r).length) := by
     rw [List.length_cons, Nat.div_lt_iff_lt_mul (by omega)]; rw [show 8 - r.length = (8 - (r.length + 1)) + 1 by omega, Nat.pow_succ] at hy; exact hy
   refine bG (e' := [(0, .slice A8 lb c8), (1, dM (y / 2 ^ 8)), (5, .pointer (some ⟨g5, 0, none⟩)), (6, i64 ((8 - (UInt8.ofNat y :: r).length : Nat) : Int))]) ⟨rfl, rfl, rfl, (congrArg some (congrArg i64 (by simp only [List.length_cons]; omega))), trivial⟩ (by rw [hm0]; exact Nat.div_lt_self (show 0 < y by omega) (show 1 < 2 ^ 8 by omega)) ⟨y / 2 ^ 8, UInt8.ofNat y :: r, rfl, rfl, hW8, hb5, by simp only [List.length_cons]; omega, hbe, hy, HC⟩
  have c1 := of_decide_eq_false c1
  have hy0 : y = 0 := by omega
  subst hy0
  rw [fw, List.nil_append] at hbe
  refine aI (ah (ah (av (ae (ab ?_)))))
  refine wdr (.q 0 [0, 0, 0, 0] (.st 6 0 (.st 7 0 (.st 4 2 (.st 5 3 (.st 8 3 (.st 9 0 .nil))))))) 5 No (fun w8 hc hszw8 => ?_)
  have hzw8 := hc.size
  have HC := HC.tr hc
  have hW8 := hW8.no hc
  have hb5 := hb5.no hc
  have hS : Ch No w8 w8 := Ch.refl _ _
  iterate 2 refine wsm ?_
  refine ws1 rfl (aZ rfl rfl (w64 (by omega))) ?_
  refine ws1 rfl (me underlying3 underlying5 rfl (by omega)) ?_
  refine wsm ?_
  have hS33 := Sl.arr hb5 (N := 8) (lo := 8 - r.length) (by simp; omega) (by omega)
  rw [sj] at hS33
  refine ws1 rfl (oP (l := 8 - r.length) (h := 8) underlying308 sz5 rfl ⟨_, rfl⟩ rfl (by omega) (by omega)) ?_
  have hltg5 := hb5.lt
  refine ax rfl rfl (aT (E := 5) rfl rfl (fun _ => by kernel_rfl) (fun w9 g30 hg30 hb30 hc hsz30 => ⟨hc, ?_⟩))
  have hzw9 := hc.size
  have hge30 := HC.geo hg30
  have HC := HC.tr hc
  have hW8 := hW8.after hc
  have hb5 := hb5.no hc
  have hS33 := hS33.no hc
  have hS30 := Sl.lit1 (f := u8v) hb30
  refine aB hc ?_
  have hltg5 := hb5.lt
  refine bf rfl rfl (bJ rfl dt aX rfl rfl hW8 hS30 (by omega) (by intro k hk; first | omega | (dsimp only at *; omega)) (fun w10 A31 c31 hW8 hc => ?_))
  have hzw10 := hc.size
  have HC := HC.q hc
  have hb5 := hb5.ch hc (by first | omega | (dsimp only; omega))
  first | have hS33 := hS33.cc hc | have hS33 := hS33.cT hc
  have hltg5 := hb5.lt
  refine bf rfl rfl (bJ rfl dt aX rfl rfl hW8 hS33 (by omega) (by intro k hk; first | omega | (dsimp only at *; omega)) (fun w11 A34 c34 hW8 hc => ?_))
  have hzw11 := hc.size
  have HC := HC.q hc
  refine wsa ?_
  refine aW (ae (ao ?_))
  refine aj ((aK rfl rfl)) ?_
  rw [eN]
  first
    | exact ⟨_, _, rfl, hW8.mono (fun k _ hk => by first | omega | (dsimp only at *; omega)), HC⟩
    | (rw [hbe, List.append_assoc, show (255 - ((8 - r.length : Nat) : Int)).toNat = 247 + r.length by omega, show lb + 1 + (8 - (8 - r.length)) = lb + (UInt8.ofNat (247 + r.length) :: r).length by simp only [List.length_cons]; omega] at *; exact ⟨_, _, rfl, hW8.mono (fun k _ hk => by first | omega | (dsimp only at *; omega)), HC⟩)

theorem str_any {w : World} {Ab : Option Addr} {lb cb : Nat} {Fb : Nat → Prop} {b : List UInt8} {s : ByteArray} (hb : Sl w Fb u8v Ab lb cb b) (hl : lb + s.size ≤ 140737488355318) :
  Calls Tryz.prog 166 #[.slice Ab lb cb, .string s] w fun e w' => ∃ A c, e = .returned (.slice A (lb + (cS s).length) c) ∧ Row w' (fun k => w.heap.size ≤ k) 5 1 (.slice A (lb + (cS s).length) c) (lb + (cS s).length) ((b ++ cS s).map u8v) ∧ Ch No w w' := by
 have hb := hb.old
 have HC : Ch No w w := Ch.refl _ _
 refine aH (args := [.slice Ab lb cb, .string s]) (n := 12) Tryz.func166 rfl rfl rfl ?_
 refine ab (aa ?_)
 refine was ?_
 refine ac (ae (ab (aa ?_)))
 iterate 2 refine wmv ?_
 refine wz (bQ underlying9 rfl) ?_
 refine wz (bB underlying3 underlying102 rfl (eR (by omega))) ?_
 have hle := eX (x := s.size) (by omega)
 refine wle rfl (ai rE rfl rfl (p9 (hb) (by omega) (by omega)) ?_)
 rintro _ w1 ⟨A9, c9, rfl, hW9, hc⟩
 refine ⟨_, rfl, ?_⟩
 have hzw1 := hc.size
 have HC := HC.tr hc
 refine wmv ?_
 refine wle rfl (rV rfl dt (by rfl) underlying9 rfl rfl hW9 (by omega) (by intro k hk; first | omega | (dsimp only at *; omega)) (fun w2 A11 c11 hW9 hc => ?_))
 have hzw2 := hc.size
 have HC := HC.q hc
 refine was ?_
 refine ac (ae (ao ?_))
 refine aj ((aK rfl rfl)) ?_
 exact ⟨_, _, by rw [dG, ← Nat.add_assoc], by rw [dG, ← Nat.add_assoc, cS, ← List.append_assoc]; exact hW9.mono (fun k _ hk => by first | omega | (dsimp only at *; omega)), HC⟩

theorem tq {w : World} {Ab : Option Addr} {lb cb : Nat} {Fb : Nat → Prop} {b : List UInt8} {f : Bool} (hb : Sl w Fb u8v Ab lb cb b) (hl : lb ≤ 140737488355318) :
    Calls Tryz.prog 95 #[.slice Ab lb cb, .bool f] w fun e w' => ∃ A c, e = .returned (.slice A (lb + 1) c) ∧ Row w' (fun k => w.heap.size ≤ k) 5 1 (.slice A (lb + 1) c) (lb + 1) ((b ++ [if f then 1 else 0]).map u8v) ∧ Ch No w w' := by
  have hb := hb.old
  have HC : Ch No w w := Ch.refl _ _
  refine aH (args := [.slice Ab lb cb, .bool f]) (n := 12) Tryz.func95 rfl rfl rfl ?_
  refine ab (aa ?_)
  refine was ?_
  refine ac (ae (ab (aa ?_)))
  refine was ?_
  refine ac (ae (ab (ab (aa ?_))))
  refine wmv ?_
  refine ac (ae ?_)
  refine aA rfl (fun c0 => ?_) (fun c0 => ?_)
  ·
   refine aa ?_
   refine was ?_
   refine ac (ae (ab (aa ?_)))
   refine wmv ?_
   refine wle rfl (ai i9 rfl rfl (ei (hb) (by omega)) ?_)
   rintro _ w1 ⟨A8, c8, rfl, hW8, hc⟩
   refine ⟨_, rfl, ?_⟩
   have hzw1 := hc.size
   have HC := HC.tr hc
   refine wmv ?_
   refine wle rfl (aT (E := 5) rfl rfl (fun _ => by kernel_rfl) (fun w2 g10 hg10 hb10 hc hsz10 => ?_))
   have hzw2 := hc.size
   have hge10 := HC.geo hg10
   have HC := HC.tr hc
   have hW8 := hW8.after hc
   have hS10 := Sl.lit1 (f := u8v) (x := 1) hb10
   refine wle rfl (bJ rfl dt aX rfl rfl hW8 hS10 (by omega) (by intro k hk; first | omega | (dsimp only at *; omega)) (fun w3 A11 c11 hW8 hc => ?_))
   have hzw3 := hc.size
   have HC := HC.q hc
   refine was ?_
   refine ac (ae (ao ?_))
   refine aj ((aK rfl rfl)) ?_
   first | (rw [c0]; exact ⟨_, _, rfl, hW8.mono (fun k _ hk => by first | omega | (dsimp only at *; omega)), HC⟩)
  refine al (ae (ab (aa ?_)))
  refine wmv ?_
  refine wle rfl (ai i9 rfl rfl (ei (hb) (by omega)) ?_)
  rintro _ w4 ⟨A8, c8, rfl, hW8, hc⟩
  refine ⟨_, rfl, ?_⟩
  have hzw4 := hc.size
  have HC := HC.tr hc
  refine wmv ?_
  refine wle rfl (aT (E := 5) rfl rfl (fun _ => by kernel_rfl) (fun w5 g10 hg10 hb10 hc hsz10 => ?_))
  have hzw5 := hc.size
  have hge10 := HC.geo hg10
  have HC := HC.tr hc
  have hW8 := hW8.after hc
  have hS10 := Sl.lit1 (f := u8v) (x := 0) hb10
  refine wle rfl (bJ rfl dt aX rfl rfl hW8 hS10 (by omega) (by intro k hk; first | omega | (dsimp only at *; omega)) (fun w6 A11 c11 hW8 hc => ?_))
  have hzw6 := hc.size
  have HC := HC.q hc
  refine was ?_
  refine ac (ae (ao ?_))
  refine aj ((aK rfl rfl)) ?_
  first | (rw [c0]; exact ⟨_, _, rfl, hW8.mono (fun k _ hk => by first | omega | (dsimp only at *; omega)), HC⟩)

theorem nk {w : World} {Ab : Option Addr} {lb cb : Nat} {Fb : Nat → Prop} {b : List UInt8} {x : Nat} (hb : Sl w Fb u8v Ab lb cb b) (hl : lb ≤ 140737488355318) (hx : x < 18446744073709551616) :
    Calls Tryz.prog 48 #[.slice Ab lb cb, dM x] w fun e w' => ∃ A c, e = .returned (.slice A (lb + (bO x).length) c) ∧ Row w' (fun k => w.heap.size ≤ k) 5 1 (.slice A (lb + (bO x).length) c) (lb + (bO x).length) ((b ++ bO x).map u8v) ∧ Ch No w w' := by
  have hb := hb.old
  have HC : Ch No w w := Ch.refl _ _
  refine aH (args := [.slice Ab lb cb, dM x]) (n := 37) Tryz.func48 rfl rfl rfl ?_
  refine ab (aa ?_)
  refine was ?_
  refine ac (ae (ab (aa ?_)))
  refine wle rfl (iD (cs := #[]) (E := 5) rfl rfl (fun _ => by kernel_rfl) (fun w1 g8 hg8 hb8 hc hsz8 => ?_))
  have hzw1 := hc.size
  have hge8 := HC.geo hg8
  have HC := HC.tr hc
  have hb := hb.no hc
  have hW8 := Row.lit (l := 0) (f := u8v) (xs := []) (F := fun k => g8 ≤ k) hb8 (by first | omega | (dsimp only; omega)) rfl rfl (by simp [maxLen])
  refine wmv ?_
  refine wle rfl (bJ rfl dt aX rfl rfl hW8 hb (by omega) (by intro k hk; first | omega | (dsimp only at *; omega)) (fun w2 A10 c10 hW8 hc => ?_))
  have hzw2 := hc.size
  have HC := HC.q hc
  refine was ?_
  refine ac (ae (ab (ab (aa ?_))))
  refine wmv ?_
  refine wz (aU rfl rfl) ?_
  refine ac (ae ?_)
  refine aA rfl (fun c0 => ?_) (fun c0 => ?_)
  ·
   have c0 := of_decide_eq_true c0
   have hx8 : x < 248 := by omega
   have eN := fQ hx8
   refine ab (aa ?_)
   iterate 2 refine wmv ?_
   refine wz (bZ underlying102 underlying5 rfl) ?_
   refine wle rfl (aT (E := 5) rfl rfl (fun _ => by kernel_rfl) (fun w3 g16 hg16 hb16 hc hsz16 => ?_))
   have hzw3 := hc.size
   have hge16 := HC.geo hg16
   have HC := HC.tr hc
   have hW8 := hW8.after hc
   have hS16 := Sl.lit1 (f := u8v) hb16
   refine wle rfl (bJ rfl dt aX rfl rfl hW8 hS16 (by omega) (by intro k hk; first | omega | (dsimp only at *; omega)) (fun w4 A17 c17 hW8 hc => ?_))
   have hzw4 := hc.size
   have HC := HC.q hc
   refine was ?_
   refine ac (ae (ao (ag ?_)))
   refine aj ((aK rfl rfl)) ?_
   rw [Nat.zero_add] at hW8
   rw [Nat.zero_add]
   rw [eN]
   first
     | exact ⟨_, _, rfl, hW8.mono (fun k _ hk => by first | omega | (dsimp only at *; omega)), HC⟩
     | (rw [hbe, show (247 + (r.length : Int)).toNat = 247 + r.length by omega, List.append_assoc, show lb + 1 + r.length = lb + (UInt8.ofNat (247 + r.length) :: r).length by simp only [List.length_cons]; omega] at *; exact ⟨_, _, rfl, hW8.mono (fun k _ hk => by first | omega | (dsimp only at *; omega)), HC⟩)
  have c0 := of_decide_eq_false c0
  have hx8 : 248 ≤ x := by omega
  have eN := fR hx8
  have hbl := kX hx
  refine al (ae (ab (aa ?_)))
  refine was ?_
  refine ac (ae (ab (ab (aa ?_))))
  refine wmv ?_
  refine was ?_
  refine ac (ae (ap ?_))
  obtain ⟨mm, hmm⟩ : ∃ mm, mm = w2.heap.size := ⟨_, rfl⟩
  refine wcl (fun mz ez uz => ∃ y : Nat, ∃ r : List UInt8, ∃ A6 : Option Addr, ∃ c6 : Nat, mz = y ∧ ez = [(5, .slice A10 (0 + lb) c10), (6, .slice A6 r.length c6), (7, dM y)] ∧ (Row uz (fun k => w.heap.size ≤ k ∧ k < mm) 5 1 (.slice A10 (0 + lb) c10) (0 + lb) (b.map u8v)) ∧ (Sl uz (fun k => mm ≤ k) u8v A6 r.length c6 r) ∧ (mm ≤ uz.heap.size) ∧ (r.length ≤ 8) ∧ (be x = be y ++ r) ∧ (y < 256 ^ (8 - r.length)) ∧ (Ch No w uz))
   ⟨x, [], none, 0, rfl, rfl, hW8.mono (fun k hk hF => by first | omega | (dsimp only at *; omega)), Sl.nil, by omega, by simp, by simp, by simpa using hx, HC⟩ ?_
  rintro m0 e w5 ⟨y, r, A6, c6, hm0, rfl, hW8, hS6, hmm, hr, hbe, hy, HC⟩
  have hzw5 := HC.size
  have hS6 := (Sl.mono hS6 (G := fun k => mm ≤ k ∧ k < w5.heap.size) (fun k h1 h2 => ⟨h2, h1⟩))
  refine ab (ab (aa ?_))
  refine wmv ?_
  refine wz (bM rfl rfl) ?_
  refine ac (ae ?_)
  refine aA rfl (fun c1 => ?_) (fun c1 => ?_)
  ·
   have c1 := of_decide_eq_true c1
   have hr8 : r.length < 8 := by
     rcases Nat.lt_or_ge r.length 8 with h | h
     · exact h
     rw [show 8 - r.length = 0 by omega] at hy; simp at hy; omega
   refine al (ae (ab (ap (aa ?_))))
   refine wmv ?_
   refine wz (bZ underlying102 underlying5 rfl) ?_
   refine wle rfl (aT (E := 5) rfl rfl (fun _ => by kernel_rfl) (fun w6 g25 hg25 hb25 hc hsz25 => ?_))
   have hzw6 := hc.size
   have hge25 := HC.geo hg25
   have HC := HC.tr hc
   have hW8 := hW8.after hc
   have hS6 := hS6.no hc
   have hW25 := Row.lit (l := 1) (f := u8v) (xs := [UInt8.ofNat y]) (F := fun k => g25 ≤ k) hb25 (by first | omega | (dsimp only; omega)) rfl rfl (by simp [maxLen])
   refine wmv ?_
   refine wle rfl (bJ rfl dt aX rfl rfl hW25 hS6 (by omega) (by intro k hk; first | omega | (dsimp only at *; omega)) (fun w7 A27 c27 hW25 hc => ?_))
   have hzw7 := hc.size
   have HC := HC.q hc
   have hW8 := hW8.afterT hc (by intro k hz hk ht; first | omega | (dsimp only at *; omega))
   refine was ?_
   refine ac (ak (ae (aa ?_)))
   refine wmv ?_
   refine wz (eV (Y := 8) rfl rfl rfl) ?_
   refine was ?_
   refine ac ?_
   have hbe : be x = be (y / 2 ^ 8) ++ (UInt8.ofNat y :: r) := by rw [hbe, jn (x := y) (by omega)]; simp
   have hy : y / 2 ^ 8 < 256 ^ (8 - (UInt8.ofNat y :: r).length) := by
     rw [List.length_cons, Nat.div_lt_iff_lt_mul (by omega)]; rw [show 8 - r.length = (8 - (r.length + 1)) + 1 by omega, Nat.pow_succ] at hy; exact hy
   refine bG (e' := [(5, .slice A10 (0 + lb) c10), (6, .slice (A27) (UInt8.ofNat y :: r).length (c27)), (7, dM (y / 2 ^ 8))]) ⟨rfl, (congrArg some (congrArg (fun z => Value.slice A27 z c27) (by simp only [List.length_cons]; omega))), rfl, trivial⟩ (by rw [hm0]; exact Nat.div_lt_self (show 0 < y by omega) (show 1 < 2 ^ 8 by omega)) ⟨y / 2 ^ 8, UInt8.ofNat y :: r, A27, c27, rfl, rfl, hW8.mono (fun k _ hk => by first | omega | (dsimp only at *; omega)), by rw [List.length_cons, Nat.add_comm]; exact hW25.sl.mono (fun k _ hk => by first | omega | (dsimp only at *; omega)), by omega, by simp only [List.length_cons]; omega, hbe, hy, HC⟩
  have c1 := of_decide_eq_false c1
  have hy0 : y = 0 := by omega
  subst hy0
  rw [fw, List.nil_append] at hbe
  have hW8 := hW8.mono (G := fun k => w.heap.size ≤ k ∧ (k < mm ∨ w5.heap.size ≤ k)) (fun k _ hk => by first | omega | (dsimp only at *; omega))
  refine aI (ah (ah (av (ae (ab (aa ?_))))))
  iterate 2 refine wmv ?_
  refine wz (aw underlying38 rfl) ?_
  refine wz (aF rfl rfl (w64 (by omega))) ?_
  refine wz (me underlying3 underlying5 rfl (by omega)) ?_
  refine wle rfl (aT (E := 5) rfl rfl (fun _ => by kernel_rfl) (fun w8 g33 hg33 hb33 hc hsz33 => ?_))
  have hzw8 := hc.size
  have hge33 := HC.geo hg33
  have HC := HC.tr hc
  have hW8 := hW8.after hc
  have hS6 := hS6.no hc
  have hS33 := Sl.lit1 (f := u8v) hb33
  refine wle rfl (bJ rfl dt aX rfl rfl hW8 hS33 (by omega) (by intro k hk; first | omega | (dsimp only at *; omega)) (fun w9 A34 c34 hW8 hc => ?_))
  have hzw9 := hc.size
  have HC := HC.q hc
  first | have hS6 := hS6.cc hc | have hS6 := hS6.cT hc
  refine wmv ?_
  refine wle rfl (bJ rfl dt aX rfl rfl hW8 hS6 (by omega) (by intro k hk; first | omega | (dsimp only at *; omega)) (fun w10 A36 c36 hW8 hc => ?_))
  have hzw10 := hc.size
  have HC := HC.q hc
  refine was ?_
  refine ac (ae (ao ?_))
  refine aj ((aK rfl rfl)) ?_
  rw [Nat.zero_add] at hW8
  rw [Nat.zero_add]
  rw [eN]
  first
    | exact ⟨_, _, rfl, hW8.mono (fun k _ hk => by first | omega | (dsimp only at *; omega)), HC⟩
    | (rw [hbe, show (247 + (r.length : Int)).toNat = 247 + r.length by omega, List.append_assoc, show lb + 1 + r.length = lb + (UInt8.ofNat (247 + r.length) :: r).length by simp only [List.length_cons]; omega] at *; exact ⟨_, _, rfl, hW8.mono (fun k _ hk => by first | omega | (dsimp only at *; omega)), HC⟩)

theorem tu {w : World} {Ab : Option Addr} {lb cb : Nat} {Fb : Nat → Prop} {b : List UInt8} {s : ByteArray} (hb : Sl w Fb u8v Ab lb cb b) (hl : lb + s.size ≤ 140737488355318) :
  Calls Tryz.prog 49 #[.slice Ab lb cb, .string s] w fun e w' => ∃ A c, e = .returned (.slice A (lb + (cS s).length) c) ∧ Row w' (fun k => w.heap.size ≤ k) 5 1 (.slice A (lb + (cS s).length) c) (lb + (cS s).length) ((b ++ cS s).map u8v) ∧ Ch No w w' := by
 have hb := hb.old
 have HC : Ch No w w := Ch.refl _ _
 refine aH (args := [.slice Ab lb cb, .string s]) (n := 12) Tryz.func49 rfl rfl rfl ?_
 refine ab (aa ?_)
 refine was ?_
 refine ac (ae (ab (aa ?_)))
 iterate 2 refine wmv ?_
 refine wz (bQ underlying9 rfl) ?_
 refine wz (bB underlying3 underlying102 rfl (eR (by omega))) ?_
 have hle := eX (x := s.size) (by omega)
 refine wle rfl (ai i6 rfl rfl (nk (hb) (by omega) (by omega)) ?_)
 rintro _ w1 ⟨A9, c9, rfl, hW9, hc⟩
 refine ⟨_, rfl, ?_⟩
 have hzw1 := hc.size
 have HC := HC.tr hc
 refine wmv ?_
 refine wle rfl (rV rfl dt (by rfl) underlying9 rfl rfl hW9 (by omega) (by intro k hk; first | omega | (dsimp only at *; omega)) (fun w2 A11 c11 hW9 hc => ?_))
 have hzw2 := hc.size
 have HC := HC.q hc
 refine was ?_
 refine ac (ae (ao ?_))
 refine aj ((aK rfl rfl)) ?_
 exact ⟨_, _, by rw [dG, ← Nat.add_assoc], by rw [dG, ← Nat.add_assoc, cS, ← List.append_assoc]; exact hW9.mono (fun k _ hk => by first | omega | (dsimp only at *; omega)), HC⟩

theorem re {w : World} {Ab : Option Addr} {lb cb : Nat} {Fb : Nat → Prop} {b : List UInt8} {f : Bool} (hb : Sl w Fb u8v Ab lb cb b) (hl : lb ≤ 140737488355318) :
    Calls Tryz.prog 47 #[.slice Ab lb cb, .bool f] w fun e w' => ∃ A c, e = .returned (.slice A (lb + 1) c) ∧ Row w' (fun k => w.heap.size ≤ k) 5 1 (.slice A (lb + 1) c) (lb + 1) ((b ++ [if f then 1 else 0]).map u8v) ∧ Ch No w w' := by
  have hb := hb.old
  have HC : Ch No w w := Ch.refl _ _
  refine aH (args := [.slice Ab lb cb, .bool f]) (n := 16) Tryz.func47 rfl rfl rfl ?_
  refine ab (aa ?_)
  refine was ?_
  refine ac (ae (ab (ab (aa ?_))))
  refine wmv ?_
  refine ac (ae ?_)
  refine aA rfl (fun c0 => ?_) (fun c0 => ?_)
  ·
   refine ab (aa ?_)
   refine wle rfl (iD (cs := #[]) (E := 5) rfl rfl (fun _ => by kernel_rfl) (fun w1 g6 hg6 hb6 hc hsz6 => ?_))
   have hzw1 := hc.size
   have hge6 := HC.geo hg6
   have HC := HC.tr hc
   have hb := hb.no hc
   have hW6 := Row.lit (l := 0) (f := u8v) (xs := []) (F := fun k => g6 ≤ k) hb6 (by first | omega | (dsimp only; omega)) rfl rfl (by simp [maxLen])
   refine wmv ?_
   refine wle rfl (bJ rfl dt aX rfl rfl hW6 hb (by omega) (by intro k hk; first | omega | (dsimp only at *; omega)) (fun w2 A8 c8 hW6 hc => ?_))
   have hzw2 := hc.size
   have HC := HC.q hc
   refine wle rfl (aT (E := 5) rfl rfl (fun _ => by kernel_rfl) (fun w3 g9 hg9 hb9 hc hsz9 => ?_))
   have hzw3 := hc.size
   have hge9 := HC.geo hg9
   have HC := HC.tr hc
   have hW6 := hW6.after hc
   have hS9 := Sl.lit1 (f := u8v) (x := 1) hb9
   refine wle rfl (bJ rfl dt aX rfl rfl hW6 hS9 (by omega) (by intro k hk; first | omega | (dsimp only at *; omega)) (fun w4 A10 c10 hW6 hc => ?_))
   have hzw4 := hc.size
   have HC := HC.q hc
   refine was ?_
   refine ac (ae (ao (ag ?_)))
   refine aj ((aK rfl rfl)) ?_
   first | (rw [Nat.zero_add] at hW6; rw [Nat.zero_add, c0]; exact ⟨_, _, rfl, hW6.mono (fun k _ hk => by first | omega | (dsimp only at *; omega)), HC⟩) | (rw [Nat.zero_add] at hW11; rw [Nat.zero_add, c0]; exact ⟨_, _, rfl, hW11.mono (fun k _ hk => by first | omega | (dsimp only at *; omega)), HC⟩)
  refine al (ae (ab (aa ?_)))
  refine wle rfl (iD (cs := #[]) (E := 5) rfl rfl (fun _ => by kernel_rfl) (fun w5 g11 hg11 hb11 hc hsz11 => ?_))
  have hzw5 := hc.size
  have hge11 := HC.geo hg11
  have HC := HC.tr hc
  have hb := hb.no hc
  have hW11 := Row.lit (l := 0) (f := u8v) (xs := []) (F := fun k => g11 ≤ k) hb11 (by first | omega | (dsimp only; omega)) rfl rfl (by simp [maxLen])
  refine wmv ?_
  refine wle rfl (bJ rfl dt aX rfl rfl hW11 hb (by omega) (by intro k hk; first | omega | (dsimp only at *; omega)) (fun w6 A13 c13 hW11 hc => ?_))
  have hzw6 := hc.size
  have HC := HC.q hc
  refine wle rfl (aT (E := 5) rfl rfl (fun _ => by kernel_rfl) (fun w7 g14 hg14 hb14 hc hsz14 => ?_))
  have hzw7 := hc.size
  have hge14 := HC.geo hg14
  have HC := HC.tr hc
  have hW11 := hW11.after hc
  have hS14 := Sl.lit1 (f := u8v) (x := 0) hb14
  refine wle rfl (bJ rfl dt aX rfl rfl hW11 hS14 (by omega) (by intro k hk; first | omega | (dsimp only at *; omega)) (fun w8 A15 c15 hW11 hc => ?_))
  have hzw8 := hc.size
  have HC := HC.q hc
  refine was ?_
  refine ac (ae (ao ?_))
  refine aj ((aK rfl rfl)) ?_
  first | (rw [Nat.zero_add] at hW6; rw [Nat.zero_add, c0]; exact ⟨_, _, rfl, hW6.mono (fun k _ hk => by first | omega | (dsimp only at *; omega)), HC⟩) | (rw [Nat.zero_add] at hW11; rw [Nat.zero_add, c0]; exact ⟨_, _, rfl, hW11.mono (fun k _ hk => by first | omega | (dsimp only at *; omega)), HC⟩)

theorem jI {w : World} {Ap : Option Addr} {lp cp : Nat} {Fp : Nat → Prop} {p : List Pr}  (hp : SI w Fp ePR Ap lp cp p) (hlp : lp ≤ 140737488351232) :
    Calls Tryz.prog 45 #[.slice Ap lp cp] w fun e w' => ∃ x, e = .returned (.bool x) ∧ (x = true ↔ dk p) ∧ Ch No w w' := by
  have hpl := hp.len
  have hp := hp.old
  have HC : Ch No w w := Ch.refl _ _
  refine aH (args := [.slice Ap lp cp]) (n := 53) Tryz.func45 rfl rfl rfl ?_
  refine ab (aa ?_)
  refine was ?_
  refine ac (ae (ab (ab (aa ?_))))
  refine wmv ?_
  refine wz (aw underlying23 rfl) ?_
  refine wmv ?_
  refine ac (ae (ap ?_))
  refine wcl (fun mz ez uz => ∃ i : Nat, mz = lp - i ∧ ez = [(0, .slice Ap lp cp), (5, .slice Ap lp cp), (6, i64 (lp : Int)), (7, i64 (i : Int))] ∧ (i ≤ lp) ∧ (∀ j, j < i → OkP (p.getD j Pr0) ∧ (0 < j → ltB (p.getD (j - 1) Pr0).1 (p.getD j Pr0).1 = true)) ∧ (SI uz (fun k => k < w.heap.size) ePR Ap lp cp p) ∧ (Ch No w uz))
   ⟨0, rfl, rfl, by omega, fun j h => absurd h (Nat.not_lt_zero j), hp, HC⟩ ?_
  rintro m0 e w1 ⟨i, hm0, rfl, hi, hg, hp, HC⟩
  have hzw1 := HC.size
  refine ab (aa ?_)
  refine wz (aU rfl rfl) ?_
  refine ac (ae (ab ?_))
  refine aA rfl (fun c0 => ?_) (fun c0 => ?_)
  rotate_left
  ·
   have c0 := of_decide_eq_false c0
   refine aI (ah (ah (av (ae (ab (aa ?_))))))
   refine was ?_
   refine ac (ae (ao ?_))
   refine aj ((aK rfl rfl)) ?_
   exact ⟨true, rfl, ⟨fun _ i hi => hg i (by omega), fun _ => rfl⟩, HC⟩
  have c0 := of_decide_eq_true c0
  refine al (ae (ab (ap (ab (aa ?_)))))
  refine wmv ?_
  obtain ⟨b2, o2, x2, ex2, hA2, hr2, hx2a, hx2b⟩ := rdP i hp
  refine wz (pxs underlying23 bA hA2) ?_
  refine wz (pla underlying52 bA hr2) ?_
  refine wle rfl (eal [Value.string ByteArray.empty, Value.string ByteArray.empty, Value.bool false] (fun w3 g4 hg4 hb4 hc hsz4 => ?_))
  have hzw3 := hc.size
  have hge4 := HC.geo hg4
  have HC := HC.tr hc
  have hp := hp.no hc
  refine was ?_
  refine wle rfl (esw bA hb4 (fun w4 hb4 hc hsz => ?_))
  have hzw4 := hc.size
  have HC := HC.n hc
  first | have hp := hp.cc hc | have hp := hp.cT hc
  refine ac (ae (ab ?_))
  refine wdr (.q 0 [0, 1, 0, 0, 0, 0, 1, 0, 0, 0, 0, 0, 1, 0, 0, 0, 0, 0, 1, 0, 0, 1, 0, 0, 0, 0, 0, 0, 0, 0, 1, 0, 0, 0, 0, 0, 1, 0, 0, 0] .nil) 40 No (fun w5 hc hszw5 => ?_)
  have hzw5 := hc.size
  have HC := HC.tr hc
  have hp := hp.no hc
  have hb4 := hb4.no hc
  have hS : Ch No w5 w5 := Ch.refl _ _
  refine ws1 rfl (pfl 0 underlying52) ?_
  refine ws2 rfl (aE underlying9 rfl rfl (fun _ h => h.cell (fun h => h) (hb4.cell rfl))) ?_
  refine ws1 rfl (bQ underlying9 rfl) ?_
  refine ws1 rfl (aU rfl rfl) ?_
  refine wsm ?_
  refine bV (d := 16) rfl (fun q16 => ?_) (fun q16 => ?_)
  ·
   have q16 := of_decide_eq_true q16
   iterate 4 refine dy rfl gq rfl rfl ?_
   refine ws1 rfl (am rfl rfl) ?_
   refine wsm ?_
   iterate 4 refine dy rfl gq rfl rfl ?_
   refine ws1 rfl (am rfl rfl) ?_
   refine wsm ?_
   iterate 7 refine dy rfl gq rfl rfl ?_
   refine ws1 rfl (am rfl rfl) ?_
   refine wsm ?_
   iterate 13 refine dy rfl gq rfl rfl ?_
   refine ws1 rfl (am rfl rfl) ?_
   refine aW (ae ?_)
   refine aR rfl (rfl) ?_
   refine ab (aa ?_)
   refine was ?_
   refine ac (ae (ao (aG (ag (ag (aG (ag ?_)))))))
   refine aj ((aK rfl rfl)) ?_
   have nG : ¬ dk p := fun h => by
     obtain ⟨⟨a1, a2, a3, a4⟩, a5⟩ := h i (by omega)
     rw [← ex2] at a1 a2 a3 a4 a5
     omega
   exact ⟨false, rfl, ⟨fun h => (by cases h), fun h => absurd h nG⟩, HC⟩
  have q16 := of_decide_eq_false q16
  refine aL rfl gq rfl rfl (pfl 0 underlying52) ?_
  refine cR rfl gq rfl rfl (aE underlying9 rfl rfl (fun _ h => h.cell (fun h => h) (hb4.cell rfl))) ?_
  refine aL rfl gq rfl rfl (bQ underlying9 rfl) ?_
  refine aL rfl gq rfl rfl (bM rfl rfl) ?_
  refine ws1 rfl (ar rfl rfl) ?_
  refine wsm ?_
  refine bV (d := 22) rfl (fun q22 => ?_) (fun q22 => ?_)
  ·
   have q22 := of_decide_eq_true q22
   iterate 4 refine dy rfl gq rfl rfl ?_
   refine ws1 rfl (am rfl rfl) ?_
   refine wsm ?_
   iterate 7 refine dy rfl gq rfl rfl ?_
   refine ws1 rfl (am rfl rfl) ?_
   refine wsm ?_
   iterate 13 refine dy rfl gq rfl rfl ?_
   refine ws1 rfl (am rfl rfl) ?_
   refine aW (ae ?_)
   refine aR rfl (rfl) ?_
   refine ab (aa ?_)
   refine was ?_
   refine ac (ae (ao (aG (ag (ag (aG (ag ?_)))))))
   refine aj ((aK rfl rfl)) ?_
   have nG : ¬ dk p := fun h => by
     obtain ⟨⟨a1, a2, a3, a4⟩, a5⟩ := h i (by omega)
     rw [← ex2] at a1 a2 a3 a4 a5
     omega
   exact ⟨false, rfl, ⟨fun h => (by cases h), fun h => absurd h nG⟩, HC⟩
  have q22 := of_decide_eq_false q22
  refine aL rfl gq rfl rfl (pfl 1 underlying52) ?_
  refine cR rfl gq rfl rfl (aE underlying9 rfl rfl (fun _ h => h.cell (fun h => h) (hb4.cell rfl))) ?_
  refine aL rfl gq rfl rfl (bQ underlying9 rfl) ?_
  refine aL rfl gq rfl rfl (bM rfl rfl) ?_
  refine ws1 rfl (ar rfl rfl) ?_
  refine wsm ?_
  refine bV (d := 28) rfl (fun q28 => ?_) (fun q28 => ?_)
  ·
   have q28 := of_decide_eq_true q28
   iterate 7 refine dy rfl gq rfl rfl ?_
   refine ws1 rfl (am rfl rfl) ?_
   refine wsm ?_
   iterate 13 refine dy rfl gq rfl rfl ?_
   refine ws1 rfl (am rfl rfl) ?_
   refine aW (ae ?_)
   refine aR rfl (rfl) ?_
   refine ab (aa ?_)
   refine was ?_
   refine ac (ae (ao (aG (ag (ag (aG (ag ?_)))))))
   refine aj ((aK rfl rfl)) ?_
   have nG : ¬ dk p := fun h => by
     obtain ⟨⟨a1, a2, a3, a4⟩, a5⟩ := h i (by omega)
     rw [← ex2] at a1 a2 a3 a4 a5
     omega
   exact ⟨false, rfl, ⟨fun h => (by cases h), fun h => absurd h nG⟩, HC⟩
  have q28 := of_decide_eq_false q28
  refine aL rfl gq rfl rfl (pfl 2 underlying52) ?_
  refine cR rfl gq rfl rfl (aE underlying4 rfl rfl (fun _ h => h.cell (fun h => h) (hb4.cell rfl))) ?_
  refine aL rfl gq rfl rfl (aS rfl) ?_
  refine bV (d := 31) rfl (fun q31 => ?_) (fun q31 => ?_)
  rotate_left
  ·
   iterate 3 refine dy rfl gq rfl rfl ?_
   refine aL rfl gq rfl rfl (ar rfl rfl) ?_
   refine ws1 rfl (ar rfl rfl) ?_
   refine wsm ?_
   refine aL rfl gq rfl rfl (aS rfl) ?_
   refine aL rfl gq rfl rfl (bM rfl rfl) ?_
   refine aL rfl gq rfl rfl (aS rfl) ?_
   refine bV (d := 40) rfl (fun q40 => ?_) (fun q40 => ?_)
   rotate_left
   ·
    have q40 := of_decide_eq_false q40
    iterate 9 refine dy rfl gq rfl rfl ?_
    refine aL rfl gq rfl rfl (ar rfl rfl) ?_
    refine ws1 rfl (ar rfl rfl) ?_
    refine aW (ae ?_)
    refine bx rfl (rfl) ?_
    refine al (ak (ae (aa ?_)))
    refine wz (aF rfl rfl (w64 (by omega))) ?_
    refine wmv ?_
    refine ac ?_
    have hg : ∀ j, j < i + 1 → OkP (p.getD j Pr0) ∧ (0 < j → ltB (p.getD (j - 1) Pr0).1 (p.getD j Pr0).1 = true) := fun j hj => by
      rcases Nat.lt_or_ge j i with h | h
      · exact hg j h
      obtain rfl : j = i := by omega
      rw [← ex2]
      refine ⟨⟨by omega, by omega, by omega, fun h => by simp_all⟩, fun h0 => by omega⟩
    refine xrn ⟨i + 1, rfl, rfl, by omega, hg, hp, HC⟩
   have q40 := of_decide_eq_true q40
   refine aL rfl gq rfl rfl (pfl 0 underlying52) ?_
   refine cR rfl gq rfl rfl (aE underlying9 rfl rfl (fun _ h => h.cell (fun h => h) (hb4.cell rfl))) ?_
   refine aL rfl gq rfl rfl (aS rfl) ?_
   refine aL rfl gq rfl rfl (aS rfl) ?_
   refine aL rfl gq rfl rfl (aZ rfl rfl (w64 (by omega))) ?_
   obtain ⟨b7, o7, x7, ex7, hA7, hr7, hx7a, hx7b⟩ := rdP (i - 1) hp
   refine aL rfl gq rfl rfl (du (j := ((i - 1)) * 3) underlying23 bA rfl hA7 rfl (by omega) (by omega) (congrArg (· * 3) (by omega))) ?_
   refine aL rfl gq rfl rfl (pfl 0 underlying52) ?_
   refine cR rfl gq rfl rfl (aE underlying9 rfl rfl (fun _ h => (cE hr7 h) 0 _ rfl)) ?_
   refine aL rfl gq rfl rfl (p_leT rfl rfl) ?_
   refine aL rfl gq rfl rfl (am rfl rfl) ?_
   refine ws1 rfl (ar rfl rfl) ?_
   refine aW (ae ?_)
   refine aA rfl (fun c1 => ?_) (fun c1 => ?_)
   ·
    refine ab (aa ?_)
    refine was ?_
    refine ac (ae (ao (aG (ag (ag (aG (ag ?_)))))))
    refine aj ((aK rfl rfl)) ?_
    have nG : ¬ dk p := fun h => by
      obtain ⟨⟨a1, a2, a3, a4⟩, a5⟩ := h i (by omega)
      rw [← ex2] at a1 a2 a3 a4 a5
      have a6 := a5 (by omega); simp_all
    exact ⟨false, rfl, ⟨fun h => (by cases h), fun h => absurd h nG⟩, HC⟩
   refine al (ak (ae (aa ?_)))
   refine wz (aF rfl rfl (w64 (by omega))) ?_
   refine wmv ?_
   refine ac ?_
   have hg : ∀ j, j < i + 1 → OkP (p.getD j Pr0) ∧ (0 < j → ltB (p.getD (j - 1) Pr0).1 (p.getD j Pr0).1 = true) := fun j hj => by
     rcases Nat.lt_or_ge j i with h | h
     · exact hg j h
     obtain rfl : j = i := by omega
     rw [← ex2]
     refine ⟨⟨by omega, by omega, by omega, fun h => by simp_all⟩, fun h0 => by simp_all⟩
   refine xrn ⟨i + 1, rfl, rfl, by omega, hg, hp, HC⟩
  refine aL rfl gq rfl rfl (pfl 1 underlying52) ?_
  refine cR rfl gq rfl rfl (aE underlying9 rfl rfl (fun _ h => h.cell (fun h => h) (hb4.cell rfl))) ?_
  refine aL rfl gq rfl rfl (iB rfl rfl) ?_
  refine aL rfl gq rfl rfl (am rfl rfl) ?_
  refine ws1 rfl (ar rfl rfl) ?_
  refine wsm ?_
  refine bV (d := 37) rfl (fun q37 => ?_) (fun q37 => ?_)
  ·
   iterate 13 refine dy rfl gq rfl rfl ?_
   refine ws1 rfl (am rfl rfl) ?_
   refine aW (ae ?_)
   refine aR rfl (rfl) ?_
   refine ab (aa ?_)
   refine was ?_
   refine ac (ae (ao (aG (ag (ag (aG (ag ?_)))))))
   refine aj ((aK rfl rfl)) ?_
   have nG : ¬ dk p := fun h => by
     obtain ⟨⟨a1, a2, a3, a4⟩, a5⟩ := h i (by omega)
     rw [← ex2] at a1 a2 a3 a4 a5
     exact jo (by simpa using q37) (a4 q31)
   exact ⟨false, rfl, ⟨fun h => (by cases h), fun h => absurd h nG⟩, HC⟩
  refine aL rfl gq rfl rfl (aS rfl) ?_
  refine aL rfl gq rfl rfl (bM rfl rfl) ?_
  refine aL rfl gq rfl rfl (aS rfl) ?_
  refine bV (d := 40) rfl (fun q40 => ?_) (fun q40 => ?_)
  rotate_left
  ·
   have q40 := of_decide_eq_false q40
   iterate 9 refine dy rfl gq rfl rfl ?_
   refine aL rfl gq rfl rfl (ar rfl rfl) ?_
   refine ws1 rfl (ar rfl rfl) ?_
   refine aW (ae ?_)
   refine bx rfl (rfl) ?_
   refine al (ak (ae (aa ?_)))
   refine wz (aF rfl rfl (w64 (by omega))) ?_
   refine wmv ?_
   refine ac ?_
   have hg : ∀ j, j < i + 1 → OkP (p.getD j Pr0) ∧ (0 < j → ltB (p.getD (j - 1) Pr0).1 (p.getD j Pr0).1 = true) := fun j hj => by
     rcases Nat.lt_or_ge j i with h | h
     · exact hg j h
     obtain rfl : j = i := by omega
     rw [← ex2]
     refine ⟨⟨by omega, by omega, by omega, fun h => by exact dq (by simpa using q37)⟩, fun h0 => by omega⟩
   refine xrn ⟨i + 1, rfl, rfl, by omega, hg, hp, HC⟩
  have q40 := of_decide_eq_true q40
  refine aL rfl gq rfl rfl (pfl 0 underlying52) ?_
  refine cR rfl gq rfl rfl (aE underlying9 rfl rfl (fun _ h => h.cell (fun h => h) (hb4.cell rfl))) ?_
  refine aL rfl gq rfl rfl (aS rfl) ?_
  refine aL rfl gq rfl rfl (aS rfl) ?_
  refine aL rfl gq rfl rfl (aZ rfl rfl (w64 (by omega))) ?_
  obtain ⟨b6, o6, x6, ex6, hA6, hr6, hx6a, hx6b⟩ := rdP (i - 1) hp
  refine aL rfl gq rfl rfl (du (j := ((i - 1)) * 3) underlying23 bA rfl hA6 rfl (by omega) (by omega) (congrArg (· * 3) (by omega))) ?_
  refine aL rfl gq rfl rfl (pfl 0 underlying52) ?_
  refine cR rfl gq rfl rfl (aE underlying9 rfl rfl (fun _ h => (cE hr6 h) 0 _ rfl)) ?_
  refine aL rfl gq rfl rfl (p_leT rfl rfl) ?_
  refine aL rfl gq rfl rfl (am rfl rfl) ?_
  refine ws1 rfl (ar rfl rfl) ?_
  refine aW (ae ?_)
  refine aA rfl (fun c1 => ?_) (fun c1 => ?_)
  ·
   refine ab (aa ?_)
   refine was ?_
   refine ac (ae (ao (aG (ag (ag (aG (ag ?_)))))))
   refine aj ((aK rfl rfl)) ?_
   have nG : ¬ dk p := fun h => by
     obtain ⟨⟨a1, a2, a3, a4⟩, a5⟩ := h i (by omega)
     rw [← ex2] at a1 a2 a3 a4 a5
     have a6 := a5 (by omega); simp_all
   exact ⟨false, rfl, ⟨fun h => (by cases h), fun h => absurd h nG⟩, HC⟩
  refine al (ak (ae (aa ?_)))
  refine wz (aF rfl rfl (w64 (by omega))) ?_
  refine wmv ?_
  refine ac ?_
  have hg : ∀ j, j < i + 1 → OkP (p.getD j Pr0) ∧ (0 < j → ltB (p.getD (j - 1) Pr0).1 (p.getD j Pr0).1 = true) := fun j hj => by
    rcases Nat.lt_or_ge j i with h | h
    · exact hg j h
    obtain rfl : j = i := by omega
    rw [← ex2]
    refine ⟨⟨by omega, by omega, by omega, fun h => by exact dq (by simpa using q37)⟩, fun h0 => by simp_all⟩
  refine xrn ⟨i + 1, rfl, rfl, by omega, hg, hp, HC⟩

theorem ow {w : World} {x : RD} {Fx : Nat → Prop}  (hqx : SI w Fx ePR x.A x.l x.c x.ps) (hxa : x.key.size ≤ 140737488351232) (hxb : x.to.size ≤ 140737488351232) (hxc : x.l ≤ 140737488351232) :
    Calls Tryz.prog 46 #[.agg ([.bool x.sc, .string x.key, .string x.to, .slice x.A x.l x.c] : List Value).toArray] w fun e w' => ∃ b, e = .returned (.bool b) ∧ (b = true ↔ GoodR x.abs) ∧ Ch No w w' := by
  have hqxl := hqx.len
  have hqx := hqx.old
  have HC : Ch No w w := Ch.refl _ _
  refine aH (args := [_]) (n := 86) Tryz.func46 rfl rfl rfl ?_
  refine ab (aa ?_)
  refine wle rfl (bg (cs := ([.bool x.sc, .string x.key, .string x.to, .slice x.A x.l x.c] : List Value).toArray) rfl rfl rfl (fun w1 g1 hg1 hb1 hc hsz1 => ?_))
  have hzw1 := hc.size
  have hge1 := HC.geo hg1
  have HC := HC.tr hc
  have hqx := hqx.no hc
  refine was ?_
  refine ac (ae (ab (ab (aa ?_))))
  refine wz (pfl 1 underlying54) ?_
  refine wz (aC underlying9 hb1) ?_
  refine wz (bQ underlying9 rfl) ?_
  refine wz (bM rfl rfl) ?_
  refine wmv ?_
  refine az (d := 9) rfl (fun q9 => ?_) (fun q9 => ?_)
  ·
   have q9 := of_decide_eq_true q9
   iterate 4 refine aM gq rfl rfl ?_
   refine wz (am rfl rfl) ?_
   refine wmv ?_
   iterate 4 refine aM gq rfl rfl ?_
   refine wz (am rfl rfl) ?_
   refine wmv ?_
   iterate 4 refine aM gq rfl rfl ?_
   refine wz (am rfl rfl) ?_
   refine ac (ae ?_)
   refine aR rfl (rfl) ?_
   refine ab (aa ?_)
   refine was ?_
   refine ac (ae (ao (ag ?_)))
   refine aj ((aK rfl rfl)) ?_
   have nG : ¬ GoodR x.abs := fun h => by
     obtain ⟨h1, h2, h3, h4, h5, h6⟩ := h
     simp only [RD.abs] at h1 h2 h3 h4 h5 h6
     omega
   exact ⟨false, rfl, ⟨fun h => (by cases h), fun h => absurd h nG⟩, HC⟩
  have q9 := of_decide_eq_false q9
  refine aq gq rfl rfl (pfl 2 underlying54) ?_
  refine aq gq rfl rfl (aC underlying9 hb1) ?_
  refine aq gq rfl rfl (bQ underlying9 rfl) ?_
  refine aq gq rfl rfl (bM rfl rfl) ?_
  refine wz (ar rfl rfl) ?_
  refine wmv ?_
  refine az (d := 15) rfl (fun q15 => ?_) (fun q15 => ?_)
  ·
   have q15 := of_decide_eq_true q15
   iterate 4 refine aM gq rfl rfl ?_
   refine wz (am rfl rfl) ?_
   refine wmv ?_
   iterate 4 refine aM gq rfl rfl ?_
   refine wz (am rfl rfl) ?_
   refine ac (ae ?_)
   refine aR rfl (rfl) ?_
   refine ab (aa ?_)
   refine was ?_
   refine ac (ae (ao (ag ?_)))
   refine aj ((aK rfl rfl)) ?_
   have nG : ¬ GoodR x.abs := fun h => by
     obtain ⟨h1, h2, h3, h4, h5, h6⟩ := h
     simp only [RD.abs] at h1 h2 h3 h4 h5 h6
     omega
   exact ⟨false, rfl, ⟨fun h => (by cases h), fun h => absurd h nG⟩, HC⟩
  have q15 := of_decide_eq_false q15
  refine aq gq rfl rfl (pfl 3 underlying54) ?_
  refine aq gq rfl rfl (aC underlying23 hb1) ?_
  refine aq gq rfl rfl (aw underlying23 rfl) ?_
  refine aq gq rfl rfl (bM rfl rfl) ?_
  refine wz (ar rfl rfl) ?_
  refine wmv ?_
  refine az (d := 21) rfl (fun q21 => ?_) (fun q21 => ?_)
  ·
   have q21 := of_decide_eq_true q21
   iterate 4 refine aM gq rfl rfl ?_
   refine wz (am rfl rfl) ?_
   refine ac (ae ?_)
   refine aR rfl (rfl) ?_
   refine ab (aa ?_)
   refine was ?_
   refine ac (ae (ao (ag ?_)))
   refine aj ((aK rfl rfl)) ?_
   have nG : ¬ GoodR x.abs := fun h => by
     obtain ⟨h1, h2, h3, h4, h5, h6⟩ := h
     simp only [RD.abs] at h1 h2 h3 h4 h5 h6
     omega
   exact ⟨false, rfl, ⟨fun h => (by cases h), fun h => absurd h nG⟩, HC⟩
  have q21 := of_decide_eq_false q21
  refine aq gq rfl rfl (pfl 3 underlying54) ?_
  refine aq gq rfl rfl (aC underlying23 hb1) ?_
  refine bX gq (ai ent45 rfl rfl (jI (hqx) (by omega)) ?_)
  rintro _ w2 ⟨x24, rfl, hx24, hc⟩
  refine ⟨_, rfl, ?_⟩
  have hzw2 := hc.size
  have HC := HC.tr hc
  have hqx := hqx.no hc
  have hb1 := hb1.no hc
  refine aq gq rfl rfl (bc rfl) ?_
  refine wz (ar rfl rfl) ?_
  refine ac (ae ?_)
  refine aA rfl (fun c0 => ?_) (fun c0 => ?_)
  ·
   refine ab (aa ?_)
   refine was ?_
   refine ac (ae (ao (ag ?_)))
   refine aj ((aK rfl rfl)) ?_
   have nG : ¬ GoodR x.abs := fun h => by
     obtain ⟨h1, h2, h3, h4, h5, h6⟩ := h
     simp only [RD.abs] at h1 h2 h3 h4 h5 h6
     rw [hx24.2 h4] at c0; cases c0
   exact ⟨false, rfl, ⟨fun h => (by cases h), fun h => absurd h nG⟩, HC⟩
  have hxk : x.key.size ≤ 64 := by omega
  have hxt : x.to.size ≤ 64 := by omega
  have hxn : x.ps.length ≤ 200 := by omega
  have hxg : dk x.ps := hx24.1 (by simpa using c0)
  refine al (ae (ab (ab (aa ?_))))
  refine wz (pfl 3 underlying54) ?_
  refine wz (aC underlying23 hb1) ?_
  refine wz (aw underlying23 rfl) ?_
  refine wmv ?_
  refine ac (ae (ap ?_))
  refine wcl (fun mz ez uz => ∃ i : Nat, mz = x.l - i ∧ ez = [(1, .pointer (some ⟨g1, 0, none⟩)), (28, .slice x.A x.l x.c), (29, i64 (x.l : Int)), (30, i64 (i : Int))] ∧ (i ≤ x.l) ∧ (∀ j, j < i → InR x.abs (x.ps.getD j Pr0)) ∧ (SI uz (fun k => k < w.heap.size) ePR x.A x.l x.c x.ps) ∧ (Blk uz g1 54 ([.bool x.sc, .string x.key, .string x.to, .slice x.A x.l x.c] : List Value).toArray) ∧ (w.heap.size ≤ g1) ∧ (Ch No w uz))
   ⟨0, rfl, rfl, by omega, fun j h => absurd h (Nat.not_lt_zero j), hqx, hb1, (by omega), HC⟩ ?_
  rintro m0 e w3 ⟨i, hm0, rfl, hi, hg, hqx, hb1, hg1, HC⟩
  have hzw3 := HC.size
  refine ab (aa ?_)
  refine wz (aU rfl rfl) ?_
  refine ac (ae (ab ?_))
  refine aA rfl (fun c1 => ?_) (fun c1 => ?_)
  rotate_left
  ·
   have c1 := of_decide_eq_false c1
   refine aI (ah (ah (av (ae (ab (aa ?_))))))
   refine wz (pfl 0 underlying54) ?_
   refine wz (aC underlying4 hb1) ?_
   refine wmv ?_
   refine az (d := 69) rfl (fun q69 => ?_) (fun q69 => ?_)
   ·
    iterate 15 refine aM gq rfl rfl ?_
    refine wz (am rfl rfl) ?_
    refine was ?_
    refine ac (ae (ao ?_))
    refine aj ((aK rfl rfl)) ?_
    have hG := fx hxk hxt hxn hxg (fun j hj => hg j (by omega))
    exact ⟨true, rfl, ⟨fun _ => hG.2 (fun h => by rw [q69] at h; cases h), fun _ => rfl⟩, HC⟩
   refine aq gq rfl rfl (pfl 1 underlying54) ?_
   refine aq gq rfl rfl (aC underlying9 hb1) ?_
   refine aq gq rfl rfl (bQ underlying9 rfl) ?_
   refine aq gq rfl rfl (bM rfl rfl) ?_
   refine aq gq rfl rfl (aS rfl) ?_
   refine az (d := 74) rfl (fun q74 => ?_) (fun q74 => ?_)
   rotate_left
   ·
    have q74 := of_decide_eq_false q74
    iterate 3 refine aM gq rfl rfl ?_
    refine aq gq rfl rfl (ar rfl rfl) ?_
    refine aq gq rfl rfl (aS rfl) ?_
    iterate 4 refine aM gq rfl rfl ?_
    refine aq gq rfl rfl (ar rfl rfl) ?_
    refine wz (ar rfl rfl) ?_
    refine was ?_
    refine ac (ae (ao ?_))
    refine aj ((aK rfl rfl)) ?_
    have hG := fx hxk hxt hxn hxg (fun j hj => hg j (by omega))
    exact ⟨false, rfl, ⟨fun h => (by cases h), fun h => (by have := (hG.1 h q69).1; omega)⟩, HC⟩
   have q74 := of_decide_eq_true q74
   refine aq gq rfl rfl (pfl 2 underlying54) ?_
   refine aq gq rfl rfl (aC underlying9 hb1) ?_
   refine aq gq rfl rfl (jc rfl rfl) ?_
   refine aq gq rfl rfl (am rfl rfl) ?_
   refine aq gq rfl rfl (aS rfl) ?_
   refine az (d := 79) rfl (fun q79 => ?_) (fun q79 => ?_)
   ·
    refine aq gq rfl rfl (pfl 3 underlying54) ?_
    refine aq gq rfl rfl (aC underlying23 hb1) ?_
    refine aq gq rfl rfl (aw underlying23 rfl) ?_
    refine aq gq rfl rfl (qq rfl rfl) ?_
    refine aq gq rfl rfl (am rfl rfl) ?_
    refine wz (ar rfl rfl) ?_
    refine was ?_
    refine ac (ae (ao ?_))
    refine aj ((aK rfl rfl)) ?_
    have hG := fx hxk hxt hxn hxg (fun j hj => hg j (by omega))
    exact ⟨_, rfl, ⟨fun h => hG.2 (fun _ => ⟨by omega, eY q79, by have h2 := of_decide_eq_true h; omega⟩), fun h => decide_eq_true (by have h2 := (hG.1 h q69).2.2; omega)⟩, HC⟩
   iterate 4 refine aM gq rfl rfl ?_
   refine aq gq rfl rfl (ar rfl rfl) ?_
   refine wz (ar rfl rfl) ?_
   refine was ?_
   refine ac (ae (ao ?_))
   refine aj ((aK rfl rfl)) ?_
   have hG := fx hxk hxt hxn hxg (fun j hj => hg j (by omega))
   exact ⟨false, rfl, ⟨fun h => (by cases h), fun h => (by have h1 := (hG.1 h q69).2.1; exact absurd ((fS h1).symm.trans q79) (by decide))⟩, HC⟩
  have c1 := of_decide_eq_true c1
  refine al (ae (ab (ap (ab (aa ?_)))))
  obtain ⟨b4, o4, x4, ex4, hA4, hr4, hx4a, hx4b⟩ := rdP i hqx
  refine wz (pxs underlying23 bA hA4) ?_
  refine wz (pla underlying52 bA hr4) ?_
  have hltg1 := hb1.lt
  refine wle rfl (eal [Value.string ByteArray.empty, Value.string ByteArray.empty, Value.bool false] (fun w5 g4 hg4 hb4 hc hsz4 => ?_))
  have hzw5 := hc.size
  have hge4 := HC.geo hg4
  have HC := HC.tr hc
  have hqx := hqx.no hc
  have hb1 := hb1.no hc
  refine wle rfl (esw bA hb4 (fun w6 hb4 hc hsz => ?_))
  have hzw6 := hc.size
  have HC := HC.n hc
  first | have hqx := hqx.cc hc | have hqx := hqx.cT hc
  have hb1 := hb1.cc hc
  refine ac (ae (ab (aa ?_)))
  refine wz (pfl 2 underlying52) ?_
  refine wz (aC underlying4 hb4) ?_
  refine wmv ?_
  refine az (d := 36) rfl (fun q36 => ?_) (fun q36 => ?_)
  ·
   iterate 16 refine aM gq rfl rfl ?_
   refine wz (am rfl rfl) ?_
   refine wmv ?_
   iterate 10 refine aM gq rfl rfl ?_
   refine wz (am rfl rfl) ?_
   refine ac (ae ?_)
   refine aR rfl (rfl) ?_
   refine ab (aa ?_)
   refine was ?_
   refine ac (ae (ao (aG (ag (ag (aG (ag ?_)))))))
   refine aj ((aK rfl rfl)) ?_
   have nG : ¬ GoodR x.abs := fun h => by
     obtain ⟨h1, h2, h3, h4, h5, h6⟩ := h
     simp only [RD.abs] at h1 h2 h3 h4 h5 h6
     obtain ⟨a1, a2, a3⟩ := h5 i (by omega)
     rw [← ex4] at a1 a2 a3
     simp only [ltB] at a1 a2 a3
     simp_all
   exact ⟨false, rfl, ⟨fun h => (by cases h), fun h => absurd h nG⟩, HC⟩
  refine aq gq rfl rfl (pfl 0 underlying54) ?_
  refine aq gq rfl rfl (aC underlying4 hb1) ?_
  refine aq gq rfl rfl (aS rfl) ?_
  refine az (d := 39) rfl (fun q39 => ?_) (fun q39 => ?_)
  rotate_left
  ·
   iterate 12 refine aM gq rfl rfl ?_
   refine aq gq rfl rfl (ar rfl rfl) ?_
   refine wz (ar rfl rfl) ?_
   refine wmv ?_
   refine aq gq rfl rfl (pfl 0 underlying54) ?_
   refine aq gq rfl rfl (aC underlying4 hb1) ?_
   refine aq gq rfl rfl (bc rfl) ?_
   refine aq gq rfl rfl (aS rfl) ?_
   refine az (d := 58) rfl (fun q58 => ?_) (fun q58 => ?_)
   rotate_left
   ·
    iterate 5 refine aM gq rfl rfl ?_
    refine aq gq rfl rfl (ar rfl rfl) ?_
    refine wz (ar rfl rfl) ?_
    refine ac (ae ?_)
    refine bx rfl (rfl) ?_
    refine al (ak (ae (aa ?_)))
    refine wz (aF rfl rfl (w64 (by omega))) ?_
    refine wmv ?_
    refine ac ?_
    have hg : ∀ j, j < i + 1 → InR x.abs (x.ps.getD j Pr0) := fun j hj => by
      rcases Nat.lt_or_ge j i with h | h
      · exact hg j h
      obtain rfl : j = i := by omega
      rw [← ex4]
      simp only [InR, RD.abs, ltB]
      simp_all
    refine xrn ⟨i + 1, rfl, rfl, by omega, hg, hqx, hb1, hg1, HC⟩
   refine aq gq rfl rfl (pfl 0 underlying52) ?_
   refine aq gq rfl rfl (aC underlying9 hb4) ?_
   refine aq gq rfl rfl (pfl 1 underlying54) ?_
   refine aq gq rfl rfl (aC underlying9 hb1) ?_
   refine aq gq rfl rfl (iB rfl rfl) ?_
   refine aq gq rfl rfl (am rfl rfl) ?_
   refine wz (ar rfl rfl) ?_
   refine ac (ae ?_)
   refine aA rfl (fun c2 => ?_) (fun c2 => ?_)
   ·
    refine ab (aa ?_)
    refine was ?_
    refine ac (ae (ao (aG (ag (ag (aG (ag ?_)))))))
    refine aj ((aK rfl rfl)) ?_
    have nG : ¬ GoodR x.abs := fun h => by
      obtain ⟨h1, h2, h3, h4, h5, h6⟩ := h
      simp only [RD.abs] at h1 h2 h3 h4 h5 h6
      obtain ⟨a1, a2, a3⟩ := h5 i (by omega)
      rw [← ex4] at a1 a2 a3
      simp only [ltB] at a1 a2 a3
      have n2 := jo c2
      simp_all
    exact ⟨false, rfl, ⟨fun h => (by cases h), fun h => absurd h nG⟩, HC⟩
   refine al (ak (ae (aa ?_)))
   refine wz (aF rfl rfl (w64 (by omega))) ?_
   refine wmv ?_
   refine ac ?_
   have n2 := dq c2
   have hg : ∀ j, j < i + 1 → InR x.abs (x.ps.getD j Pr0) := fun j hj => by
     rcases Nat.lt_or_ge j i with h | h
     · exact hg j h
     obtain rfl : j = i := by omega
     rw [← ex4]
     simp only [InR, RD.abs, ltB]
     simp_all
   refine xrn ⟨i + 1, rfl, rfl, by omega, hg, hqx, hb1, hg1, HC⟩
  refine aq gq rfl rfl (pfl 0 underlying52) ?_
  refine aq gq rfl rfl (aC underlying9 hb4) ?_
  refine aq gq rfl rfl (pfl 1 underlying54) ?_
  refine aq gq rfl rfl (aC underlying9 hb1) ?_
  refine aq gq rfl rfl (p_ltT rfl rfl) ?_
  refine aq gq rfl rfl (aS rfl) ?_
  refine az (d := 45) rfl (fun q45 => ?_) (fun q45 => ?_)
  ·
   iterate 5 refine aM gq rfl rfl ?_
   refine aq gq rfl rfl (am rfl rfl) ?_
   refine aq gq rfl rfl (am rfl rfl) ?_
   refine wz (ar rfl rfl) ?_
   refine wmv ?_
   iterate 10 refine aM gq rfl rfl ?_
   refine wz (am rfl rfl) ?_
   refine ac (ae ?_)
   refine aR rfl (rfl) ?_
   refine ab (aa ?_)
   refine was ?_
   refine ac (ae (ao (aG (ag (ag (aG (ag ?_)))))))
   refine aj ((aK rfl rfl)) ?_
   have nG : ¬ GoodR x.abs := fun h => by
     obtain ⟨h1, h2, h3, h4, h5, h6⟩ := h
     simp only [RD.abs] at h1 h2 h3 h4 h5 h6
     obtain ⟨a1, a2, a3⟩ := h5 i (by omega)
     rw [← ex4] at a1 a2 a3
     simp only [ltB] at a1 a2 a3
     simp_all
   exact ⟨false, rfl, ⟨fun h => (by cases h), fun h => absurd h nG⟩, HC⟩
  refine aq gq rfl rfl (pfl 0 underlying52) ?_
  refine aq gq rfl rfl (aC underlying9 hb4) ?_
  refine aq gq rfl rfl (pfl 2 underlying54) ?_
  refine aq gq rfl rfl (aC underlying9 hb1) ?_
  refine aq gq rfl rfl (sn rfl rfl) ?_
  refine aq gq rfl rfl (ar rfl rfl) ?_
  refine aq gq rfl rfl (am rfl rfl) ?_
  refine wz (ar rfl rfl) ?_
  refine wmv ?_
  refine az (d := 54) rfl (fun q54 => ?_) (fun q54 => ?_)
  ·
   iterate 10 refine aM gq rfl rfl ?_
   refine wz (am rfl rfl) ?_
   refine ac (ae ?_)
   refine aR rfl (rfl) ?_
   refine ab (aa ?_)
   refine was ?_
   refine ac (ae (ao (aG (ag (ag (aG (ag ?_)))))))
   refine aj ((aK rfl rfl)) ?_
   have nG : ¬ GoodR x.abs := fun h => by
     obtain ⟨h1, h2, h3, h4, h5, h6⟩ := h
     simp only [RD.abs] at h1 h2 h3 h4 h5 h6
     obtain ⟨a1, a2, a3⟩ := h5 i (by omega)
     rw [← ex4] at a1 a2 a3
     simp only [ltB] at a1 a2 a3
     simp_all
   exact ⟨false, rfl, ⟨fun h => (by cases h), fun h => absurd h nG⟩, HC⟩
  refine aq gq rfl rfl (pfl 0 underlying54) ?_
  refine aq gq rfl rfl (aC underlying4 hb1) ?_
  refine aq gq rfl rfl (bc rfl) ?_
  refine aq gq rfl rfl (aS rfl) ?_
  refine az (d := 58) rfl (fun q58 => ?_) (fun q58 => ?_)
  rotate_left
  ·
   iterate 5 refine aM gq rfl rfl ?_
   refine aq gq rfl rfl (ar rfl rfl) ?_
   refine wz (ar rfl rfl) ?_
   refine ac (ae ?_)
   refine bx rfl (rfl) ?_
   refine al (ak (ae (aa ?_)))
   refine wz (aF rfl rfl (w64 (by omega))) ?_
   refine wmv ?_
   refine ac ?_
   have hg : ∀ j, j < i + 1 → InR x.abs (x.ps.getD j Pr0) := fun j hj => by
     rcases Nat.lt_or_ge j i with h | h
     · exact hg j h
     obtain rfl : j = i := by omega
     rw [← ex4]
     simp only [InR, RD.abs, ltB]
     simp_all
   refine xrn ⟨i + 1, rfl, rfl, by omega, hg, hqx, hb1, hg1, HC⟩
  refine aq gq rfl rfl (pfl 0 underlying52) ?_
  refine aq gq rfl rfl (aC underlying9 hb4) ?_
  refine aq gq rfl rfl (pfl 1 underlying54) ?_
  refine aq gq rfl rfl (aC underlying9 hb1) ?_
  refine aq gq rfl rfl (iB rfl rfl) ?_
  refine aq gq rfl rfl (am rfl rfl) ?_
  refine wz (ar rfl rfl) ?_
  refine ac (ae ?_)
  refine aA rfl (fun c2 => ?_) (fun c2 => ?_)
  ·
   refine ab (aa ?_)
   refine was ?_
   refine ac (ae (ao (aG (ag (ag (aG (ag ?_)))))))
   refine aj ((aK rfl rfl)) ?_
   have nG : ¬ GoodR x.abs := fun h => by
     obtain ⟨h1, h2, h3, h4, h5, h6⟩ := h
     simp only [RD.abs] at h1 h2 h3 h4 h5 h6
     obtain ⟨a1, a2, a3⟩ := h5 i (by omega)
     rw [← ex4] at a1 a2 a3
     simp only [ltB] at a1 a2 a3
     have n2 := jo c2
     simp_all
   exact ⟨false, rfl, ⟨fun h => (by cases h), fun h => absurd h nG⟩, HC⟩
  refine al (ak (ae (aa ?_)))
  refine wz (aF rfl rfl (w64 (by omega))) ?_
  refine wmv ?_
  refine ac ?_
  have n2 := dq c2
  have hg : ∀ j, j < i + 1 → InR x.abs (x.ps.getD j Pr0) := fun j hj => by
    rcases Nat.lt_or_ge j i with h | h
    · exact hg j h
    obtain rfl : j = i := by omega
    rw [← ex4]
    simp only [InR, RD.abs, ltB]
    simp_all
  refine xrn ⟨i + 1, rfl, rfl, by omega, hg, hqx, hb1, hg1, HC⟩

theorem jJ {w : World} {sa na : Int} {ba : Bool} {Ara : Option Addr} {lra cra : Nat} {Fra : Nat → Prop} {ra : List RD} {Awa : Option Addr} {lwa cwa : Nat} {Fwa : Nat → Prop} {wa : List Pr} {Ga : Nat → Prop}  (hra : SI w Fra eRD Ara lra cra ra) (hwa : SI w Fwa ePR Awa lwa cwa wa) (hna : NS w Ga ra) (hlr : lra ≤ 140737488351232) (hlw : lwa ≤ 140737488351232) :
    Calls Tryz.prog 16 #[.agg ([i64 sa, i64 na, .bool ba, .slice Ara lra cra, .slice Awa lwa cwa] : List Value).toArray] w fun e w' => ∃ b, e = .returned (.bool b) ∧ (b = true ↔ Right ⟨sa, na, ba, ra.map RD.abs, wa⟩) ∧ Ch No w w' := by
  have hrla := hra.len
  have hwla := hwa.len
  have hna := hna.old
  have hra := hra.old
  have hwa := hwa.old
  have HC : Ch No w w := Ch.refl _ _
  refine aH (args := [_]) (n := 80) Tryz.func16 rfl rfl rfl ?_
  refine ab (aa ?_)
  refine wle rfl (bg (cs := ([i64 sa, i64 na, .bool ba, .slice Ara lra cra, .slice Awa lwa cwa] : List Value).toArray) rfl rfl rfl (fun w1 g1 hg1 hb1 hc hsz1 => ?_))
  have hzw1 := hc.size
  have hge1 := HC.geo hg1
  have HC := HC.tr hc
  have hra := hra.no hc
  have hwa := hwa.no hc
  have hna := hna.cc hc
  refine was ?_
  refine ac (ae (ab (ab (aa ?_))))
  refine wz (pfl 0 underlying25) ?_
  refine wz (aC underlying3 hb1) ?_
  refine wz (aU rfl rfl) ?_
  refine wmv ?_
  refine az (d := 10) rfl (fun q10 => ?_) (fun q10 => ?_)
  ·
   have q10 := of_decide_eq_true q10
   iterate 3 refine aM gq rfl rfl ?_
   refine wz (am rfl rfl) ?_
   refine wmv ?_
   iterate 3 refine aM gq rfl rfl ?_
   refine wz (am rfl rfl) ?_
   refine wmv ?_
   iterate 3 refine aM gq rfl rfl ?_
   refine wz (am rfl rfl) ?_
   refine wmv ?_
   iterate 4 refine aM gq rfl rfl ?_
   refine wz (am rfl rfl) ?_
   refine wmv ?_
   iterate 4 refine aM gq rfl rfl ?_
   refine wz (am rfl rfl) ?_
   refine wmv ?_
   iterate 4 refine aM gq rfl rfl ?_
   refine wz (am rfl rfl) ?_
   refine ac (ae ?_)
   refine aR rfl (rfl) ?_
   refine ab (aa ?_)
   refine was ?_
   refine ac (ae (ao (ag ?_)))
   refine aj ((aK rfl rfl)) ?_
   have nG : ¬ Right ⟨sa, na, ba, ra.map RD.abs, wa⟩ := fun h => by
     obtain ⟨h1, h2, h3, h4, h5, h6, h7, h8, h9⟩ := right_iff.1 h
     omega
   exact ⟨false, rfl, ⟨fun h => (by cases h), fun h => absurd h nG⟩, HC⟩
  have q10 := of_decide_eq_false q10
  refine aq gq rfl rfl (pfl 0 underlying25) ?_
  refine aq gq rfl rfl (aC underlying3 hb1) ?_
  refine aq gq rfl rfl (bM rfl rfl) ?_
  refine wz (ar rfl rfl) ?_
  refine wmv ?_
  refine az (d := 15) rfl (fun q15 => ?_) (fun q15 => ?_)
  ·
   have q15 := of_decide_eq_true q15
   iterate 3 refine aM gq rfl rfl ?_
   refine wz (am rfl rfl) ?_
   refine wmv ?_
   iterate 3 refine aM gq rfl rfl ?_
   refine wz (am rfl rfl) ?_
   refine wmv ?_
   iterate 4 refine aM gq rfl rfl ?_
   refine wz (am rfl rfl) ?_
   refine wmv ?_
   iterate 4 refine aM gq rfl rfl ?_
   refine wz (am rfl rfl) ?_
   refine wmv ?_
   iterate 4 refine aM gq rfl rfl ?_
   refine wz (am rfl rfl) ?_
   refine ac (ae ?_)
   refine aR rfl (rfl) ?_
   refine ab (aa ?_)
   refine was ?_
   refine ac (ae (ao (ag ?_)))
   refine aj ((aK rfl rfl)) ?_
   have nG : ¬ Right ⟨sa, na, ba, ra.map RD.abs, wa⟩ := fun h => by
     obtain ⟨h1, h2, h3, h4, h5, h6, h7, h8, h9⟩ := right_iff.1 h
     omega
   exact ⟨false, rfl, ⟨fun h => (by cases h), fun h => absurd h nG⟩, HC⟩
  have q15 := of_decide_eq_false q15
  refine aq gq rfl rfl (pfl 1 underlying25) ?_
  refine aq gq rfl rfl (aC underlying3 hb1) ?_
  refine aq gq rfl rfl (aU rfl rfl) ?_
  refine wz (ar rfl rfl) ?_
  refine wmv ?_
  refine az (d := 20) rfl (fun q20 => ?_) (fun q20 => ?_)
  ·
   have q20 := of_decide_eq_true q20
   iterate 3 refine aM gq rfl rfl ?_
   refine wz (am rfl rfl) ?_
   refine wmv ?_
   iterate 4 refine aM gq rfl rfl ?_
   refine wz (am rfl rfl) ?_
   refine wmv ?_
   iterate 4 refine aM gq rfl rfl ?_
   refine wz (am rfl rfl) ?_
   refine wmv ?_
   iterate 4 refine aM gq rfl rfl ?_
   refine wz (am rfl rfl) ?_
   refine ac (ae ?_)
   refine aR rfl (rfl) ?_
   refine ab (aa ?_)
   refine was ?_
   refine ac (ae (ao (ag ?_)))
   refine aj ((aK rfl rfl)) ?_
   have nG : ¬ Right ⟨sa, na, ba, ra.map RD.abs, wa⟩ := fun h => by
     obtain ⟨h1, h2, h3, h4, h5, h6, h7, h8, h9⟩ := right_iff.1 h
     omega
   exact ⟨false, rfl, ⟨fun h => (by cases h), fun h => absurd h nG⟩, HC⟩
  have q20 := of_decide_eq_false q20
  refine aq gq rfl rfl (pfl 1 underlying25) ?_
  refine aq gq rfl rfl (aC underlying3 hb1) ?_
  refine aq gq rfl rfl (bM rfl rfl) ?_
  refine wz (ar rfl rfl) ?_
  refine wmv ?_
  refine az (d := 25) rfl (fun q25 => ?_) (fun q25 => ?_)
  ·
   have q25 := of_decide_eq_true q25
   iterate 4 refine aM gq rfl rfl ?_
   refine wz (am rfl rfl) ?_
   refine wmv ?_
   iterate 4 refine aM gq rfl rfl ?_
   refine wz (am rfl rfl) ?_
   refine wmv ?_
   iterate 4 refine aM gq rfl rfl ?_
   refine wz (am rfl rfl) ?_
   refine ac (ae ?_)
   refine aR rfl (rfl) ?_
   refine ab (aa ?_)
   refine was ?_
   refine ac (ae (ao (ag ?_)))
   refine aj ((aK rfl rfl)) ?_
   have nG : ¬ Right ⟨sa, na, ba, ra.map RD.abs, wa⟩ := fun h => by
     obtain ⟨h1, h2, h3, h4, h5, h6, h7, h8, h9⟩ := right_iff.1 h
     omega
   exact ⟨false, rfl, ⟨fun h => (by cases h), fun h => absurd h nG⟩, HC⟩
  have q25 := of_decide_eq_false q25
  refine aq gq rfl rfl (pfl 3 underlying25) ?_
  refine aq gq rfl rfl (aC underlying22 hb1) ?_
  refine aq gq rfl rfl (aw underlying22 rfl) ?_
  refine aq gq rfl rfl (bM rfl rfl) ?_
  refine wz (ar rfl rfl) ?_
  refine wmv ?_
  refine az (d := 31) rfl (fun q31 => ?_) (fun q31 => ?_)
  ·
   have q31 := of_decide_eq_true q31
   iterate 4 refine aM gq rfl rfl ?_
   refine wz (am rfl rfl) ?_
   refine wmv ?_
   iterate 4 refine aM gq rfl rfl ?_
   refine wz (am rfl rfl) ?_
   refine ac (ae ?_)
   refine aR rfl (rfl) ?_
   refine ab (aa ?_)
   refine was ?_
   refine ac (ae (ao (ag ?_)))
   refine aj ((aK rfl rfl)) ?_
   have nG : ¬ Right ⟨sa, na, ba, ra.map RD.abs, wa⟩ := fun h => by
     obtain ⟨h1, h2, h3, h4, h5, h6, h7, h8, h9⟩ := right_iff.1 h
     omega
   exact ⟨false, rfl, ⟨fun h => (by cases h), fun h => absurd h nG⟩, HC⟩
  have q31 := of_decide_eq_false q31
  refine aq gq rfl rfl (pfl 4 underlying25) ?_
  refine aq gq rfl rfl (aC underlying23 hb1) ?_
  refine aq gq rfl rfl (aw underlying23 rfl) ?_
  refine aq gq rfl rfl (bM rfl rfl) ?_
  refine wz (ar rfl rfl) ?_
  refine wmv ?_
  refine az (d := 37) rfl (fun q37 => ?_) (fun q37 => ?_)
  ·
   have q37 := of_decide_eq_true q37
   iterate 4 refine aM gq rfl rfl ?_
   refine wz (am rfl rfl) ?_
   refine ac (ae ?_)
   refine aR rfl (rfl) ?_
   refine ab (aa ?_)
   refine was ?_
   refine ac (ae (ao (ag ?_)))
   refine aj ((aK rfl rfl)) ?_
   have nG : ¬ Right ⟨sa, na, ba, ra.map RD.abs, wa⟩ := fun h => by
     obtain ⟨h1, h2, h3, h4, h5, h6, h7, h8, h9⟩ := right_iff.1 h
     omega
   exact ⟨false, rfl, ⟨fun h => (by cases h), fun h => absurd h nG⟩, HC⟩
  have q37 := of_decide_eq_false q37
  refine aq gq rfl rfl (pfl 4 underlying25) ?_
  refine aq gq rfl rfl (aC underlying23 hb1) ?_
  refine bX gq (ai ent45 rfl rfl (jI (hwa) (by omega)) ?_)
  rintro _ w2 ⟨x40, rfl, hx40, hc⟩
  refine ⟨_, rfl, ?_⟩
  have hzw2 := hc.size
  have HC := HC.tr hc
  have hra := hra.no hc
  have hwa := hwa.no hc
  have hna := hna.cc hc
  have hb1 := hb1.no hc
  refine aq gq rfl rfl (bc rfl) ?_
  refine wz (ar rfl rfl) ?_
  refine ac (ae ?_)
  refine aA rfl (fun c0 => ?_) (fun c0 => ?_)
  ·
   refine ab (aa ?_)
   refine was ?_
   refine ac (ae (ao (ag ?_)))
   refine aj ((aK rfl rfl)) ?_
   have nG : ¬ Right ⟨sa, na, ba, ra.map RD.abs, wa⟩ := fun h => by
     obtain ⟨h1, h2, h3, h4, h5, h6, h7, h8, h9⟩ := right_iff.1 h
     rw [hx40.2 h7] at c0; cases c0
   exact ⟨false, rfl, ⟨fun h => (by cases h), fun h => absurd h nG⟩, HC⟩
  have hwg : dk wa := hx40.1 (by simpa using c0)
  refine al (ae (ab (ab (aa ?_))))
  refine wz (pfl 3 underlying25) ?_
  refine wz (aC underlying22 hb1) ?_
  refine wz (aw underlying22 rfl) ?_
  refine wmv ?_
  refine ac (ae (ap ?_))
  refine wcl (fun mz ez uz => ∃ i : Nat, mz = lra - i ∧ ez = [(1, .pointer (some ⟨g1, 0, none⟩)), (44, .slice Ara lra cra), (45, i64 (lra : Int)), (46, i64 (i : Int))] ∧ (i ≤ lra) ∧ (∀ j, j < i → GoodR (ra.getD j RD0).abs) ∧ (∀ j k, j < i → k < j → ¬ jp (ra.getD j RD0) (ra.getD k RD0)) ∧ (SI uz (fun k => k < w.heap.size) eRD Ara lra cra ra) ∧ (SI uz (fun k => k < w.heap.size) ePR Awa lwa cwa wa) ∧ (NS uz (fun k => k < w.heap.size) ra) ∧ (Blk uz g1 25 ([i64 sa, i64 na, .bool ba, .slice Ara lra cra, .slice Awa lwa cwa] : List Value).toArray) ∧ (w.heap.size ≤ g1) ∧ (Ch No w uz))
   ⟨0, rfl, rfl, by omega, fun j h => absurd h (Nat.not_lt_zero j), fun j k h => absurd h (Nat.not_lt_zero j), hra, hwa, hna, hb1, (by omega), HC⟩ ?_
  rintro m0 e w3 ⟨i, hm0, rfl, hi, hg, hu, hra, hwa, hna, hb1, hg1, HC⟩
  have hzw3 := HC.size
  refine ab (aa ?_)
  refine wz (aU rfl rfl) ?_
  refine ac (ae (ab ?_))
  refine aA rfl (fun c1 => ?_) (fun c1 => ?_)
  rotate_left
  ·
   have c1 := of_decide_eq_false c1
   refine aI (ah (ah (av (ae (ab (aa ?_))))))
   refine was ?_
   refine ac (ae (ao ?_))
   refine aj ((aK rfl rfl)) ?_
   exact ⟨true, rfl, ⟨fun _ => right_iff.2 ⟨by omega, by omega, by omega, by omega, by omega, by omega, hwg, fun i hi => hg i (by omega), fun i j hi hj => hu i j (by omega) hj⟩, fun _ => rfl⟩, HC⟩
  have c1 := of_decide_eq_true c1
  refine al (ae (ab (ap (ab (aa ?_)))))
  refine wmv ?_
  obtain ⟨b4, o4, x4, ex4, hA4, hr4, hx4a, hx4b, hx4c⟩ := rdR i hra
  refine wz (pxs underlying22 cM hA4) ?_
  have hqx4 := hna.get' ex4 (by have := True.intro; omega)
  have hqlx4 := hqx4.len
  refine wz (pla underlying54 cM hr4) ?_
  have hltg1 := hb1.lt
  refine wle rfl (eal [Value.bool false, Value.string ByteArray.empty, Value.string ByteArray.empty, Value.slice none 0 0] (fun w5 g4 hg4 hb4 hc hsz4 => ?_))
  have hzw5 := hc.size
  have hge4 := HC.geo hg4
  have HC := HC.tr hc
  have hra := hra.no hc
  have hwa := hwa.no hc
  have hna := hna.cc hc
  have hb1 := hb1.no hc
  have hqx4 := hqx4.no hc
  refine was ?_
  refine wle rfl (esw cM hb4 (fun w6 hb4 hc hsz => ?_))
  have hzw6 := hc.size
  have HC := HC.n hc
  first | have hra := hra.cc hc | have hra := hra.cT hc
  first | have hwa := hwa.cc hc | have hwa := hwa.cT hc
  have hna := hna.cc hc
  have hb1 := hb1.cc hc
  first | have hqx4 := hqx4.cc hc | have hqx4 := hqx4.cT hc
  refine ac (ae (ab (ab (aa ?_))))
  refine wz (pla underlying54 cM (aN hb4)) ?_
  refine wle rfl (ai ent46 rfl rfl (ow (x := x4) hqx4 hx4a hx4b hx4c) ?_)
  rintro _ w7 ⟨x52, rfl, hx52, hc⟩
  refine ⟨_, rfl, ?_⟩
  have hzw7 := hc.size
  have HC := HC.tr hc
  have hra := hra.no hc
  have hwa := hwa.no hc
  have hna := hna.cc hc
  have hb1 := hb1.no hc
  have hqx4 := hqx4.no hc
  have hb4 := hb4.no hc
  refine wz (bc rfl) ?_
  refine ac (ae ?_)
  refine aA rfl (fun c2 => ?_) (fun c2 => ?_)
  ·
   refine ab (aa ?_)
   refine was ?_
   refine ac (ae (ao (ag (aG (ag (ag (aG (ag ?_))))))))
   refine aj ((aK rfl rfl)) ?_
   have nG : ¬ Right ⟨sa, na, ba, ra.map RD.abs, wa⟩ := fun h => by
     obtain ⟨h1, h2, h3, h4, h5, h6, h7, h8, h9⟩ := right_iff.1 h
     have h10 := h8 i (by omega); rw [← ex4] at h10; rw [hx52.2 h10] at c2; cases c2
   exact ⟨false, rfl, ⟨fun h => (by cases h), fun h => absurd h nG⟩, HC⟩
  refine al (ae (ab (aa ?_)))
  refine wz (pfl 3 underlying25) ?_
  refine wz (aC underlying22 hb1) ?_
  refine wmv ?_
  have hS57 := hra.cut (lo := 0) (hi := i) (q := i) (by omega) (by omega) rfl
  rw [List.drop_zero] at hS57
  refine wz (dX (l := 0) (h := i) underlying22 cM rfl rfl ⟨_, rfl⟩ (by omega) (by have := hra.cap; omega) hra.cap (q := i) rfl) ?_
  refine wz (aw underlying22 rfl) ?_
  refine wmv ?_
  refine ac (ae (ap ?_))
  have hxg : GoodR x4.abs := hx52.1 (by simpa using c2)
  refine wcl (fun mz ez uz => ∃ j : Nat, mz = i - j ∧ ez = [(1, .pointer (some ⟨g1, 0, none⟩)), (3, i64 (i : Int)), (4, .pointer (some ⟨g4, 0, none⟩)), (44, .slice Ara lra cra), (45, i64 (lra : Int)), (46, i64 (i : Int)), (57, .slice (cN Ara cra 0 4) i (cra - 0)), (58, i64 (i : Int)), (59, i64 (j : Int))] ∧ (j ≤ i) ∧ (∀ k, k < j → ¬ jp x4 (ra.getD k RD0)) ∧ (SI uz (fun k => k < w.heap.size) eRD Ara lra cra ra) ∧ (SI uz (fun k => k < w.heap.size) ePR Awa lwa cwa wa) ∧ (NS uz (fun k => k < w.heap.size) ra) ∧ (Blk uz g1 25 ([i64 sa, i64 na, .bool ba, .slice Ara lra cra, .slice Awa lwa cwa] : List Value).toArray) ∧ (w.heap.size ≤ g1) ∧ (Blk uz g4 54 ([.bool x4.sc, .string x4.key, .string x4.to, .slice x4.A x4.l x4.c] : List Value).toArray) ∧ (w.heap.size ≤ g4 ∧ g1 ≠ g4) ∧ (SI uz (fun k => k < w.heap.size) eRD (cN Ara cra 0 4) i (cra - 0) (ra.take i)) ∧ (SI uz (fun k => k < w.heap.size) ePR x4.A x4.l x4.c x4.ps) ∧ (Ch No w uz))
   ⟨0, rfl, rfl, by omega, fun k h => absurd h (Nat.not_lt_zero k), hra, hwa, hna, hb1, hg1, hb4, ⟨by omega, by omega⟩, hS57, hqx4, HC⟩ ?_
  rintro m1 e w8 ⟨j, hm1, rfl, hj, hv, hra, hwa, hna, hb1, hg1, hb4, hg4, hS57, hqx4, HC⟩
  have hzw8 := HC.size
  refine ab (aa ?_)
  refine wz (aU rfl rfl) ?_
  refine ac (ae (ab ?_))
  refine aA rfl (fun c3 => ?_) (fun c3 => ?_)
  rotate_left
  ·
   have c3 := of_decide_eq_false c3
   refine aI (ah (ah (av (ak (ae (aa ?_))))))
   refine wz (aF rfl rfl (w64 (by omega))) ?_
   refine wmv ?_
   refine ac ?_
   have hg : ∀ j, j < i + 1 → GoodR (ra.getD j RD0).abs := fun j hj => by
     rcases Nat.lt_or_ge j i with h | h
     · exact hg j h
     obtain rfl : j = i := by omega
     rw [← ex4]
     exact hxg
   have hu : ∀ j k, j < i + 1 → k < j → ¬ jp (ra.getD j RD0) (ra.getD k RD0) := fun j k hj hk => by
     rcases Nat.lt_or_ge j i with h | h
     · exact hu j k h hk
     obtain rfl : j = i := by omega
     rw [← ex4]
     exact hv k (by omega)
   refine xrn ⟨i + 1, rfl, rfl, by omega, hg, hu, hra, hwa, hna, hb1, hg1, HC⟩
  have c3 := of_decide_eq_true c3
  refine al (ae (ab (ap (ab (aa ?_)))))
  obtain ⟨b9, o9, x9, ex9, hA9, hr9, hx9a, hx9b, hx9c⟩ := rdR j hS57
  refine wz (pxs underlying22 cM hA9) ?_
  refine wz (pla underlying54 cM hr9) ?_
  have hltg1 := hb1.lt
  have hltg4 := hb4.lt
  refine wle rfl (eal [Value.bool false, Value.string ByteArray.empty, Value.string ByteArray.empty, Value.slice none 0 0] (fun w10 g6 hg6 hb6 hc hsz6 => ?_))
  have hzw10 := hc.size
  have hge6 := HC.geo hg6
  have HC := HC.tr hc
  have hra := hra.no hc
  have hwa := hwa.no hc
  have hna := hna.cc hc
  have hb1 := hb1.no hc
  have hb4 := hb4.no hc
  have hS57 := hS57.no hc
  have hqx4 := hqx4.no hc
  refine wle rfl (esw cM hb6 (fun w11 hb6 hc hsz => ?_))
  have hzw11 := hc.size
  have HC := HC.n hc
  first | have hra := hra.cc hc | have hra := hra.cT hc
  first | have hwa := hwa.cc hc | have hwa := hwa.cT hc
  have hna := hna.cc hc
  have hb1 := hb1.cc hc
  have hb4 := hb4.cc hc
  first | have hS57 := hS57.cc hc | have hS57 := hS57.cT hc
  first | have hqx4 := hqx4.cc hc | have hqx4 := hqx4.cT hc
  refine ac (ae (ab (aa ?_)))
  refine wz (pfl 0 underlying54) ?_
  refine wz (aC underlying4 hb4) ?_
  refine wz (bc rfl) ?_
  refine wmv ?_
  refine az (d := 66) rfl (fun q66 => ?_) (fun q66 => ?_)
  rotate_left
  ·
   iterate 3 refine aM gq rfl rfl ?_
   refine wz (ar rfl rfl) ?_
   refine wmv ?_
   iterate 5 refine aM gq rfl rfl ?_
   refine wz (ar rfl rfl) ?_
   refine ac (ae ?_)
   refine bx rfl (rfl) ?_
   refine al (ak (ae (aa ?_)))
   refine wz (aF rfl rfl (w64 (by omega))) ?_
   refine wmv ?_
   refine ac ?_
   have hv : ∀ k, k < j + 1 → ¬ jp x4 (ra.getD k RD0) := fun k hk h => by
     rcases Nat.lt_or_ge k j with h1 | h1
     · exact hv k h1 h
     obtain rfl : k = j := by omega
     rw [← er (i := i) (by omega), ← ex9] at h
     obtain ⟨h2, h3, h4⟩ := h
     rw [h2] at q66; cases q66
   refine xrn ⟨j + 1, rfl, rfl, by omega, hv, hra, hwa, hna, hb1, hg1, hb4, hg4, hS57, hqx4, HC⟩
  refine aq gq rfl rfl (pfl 0 underlying54) ?_
  refine aq gq rfl rfl (aC underlying4 hb6) ?_
  refine aq gq rfl rfl (bc rfl) ?_
  refine wz (am rfl rfl) ?_
  refine wmv ?_
  refine az (d := 71) rfl (fun q71 => ?_) (fun q71 => ?_)
  rotate_left
  ·
   iterate 5 refine aM gq rfl rfl ?_
   refine wz (ar rfl rfl) ?_
   refine ac (ae ?_)
   refine bx rfl (rfl) ?_
   refine al (ak (ae (aa ?_)))
   refine wz (aF rfl rfl (w64 (by omega))) ?_
   refine wmv ?_
   refine ac ?_
   have hv : ∀ k, k < j + 1 → ¬ jp x4 (ra.getD k RD0) := fun k hk h => by
     rcases Nat.lt_or_ge k j with h1 | h1
     · exact hv k h1 h
     obtain rfl : k = j := by omega
     rw [← er (i := i) (by omega), ← ex9] at h
     obtain ⟨h2, h3, h4⟩ := h
     rw [h3] at q71; cases q71
   refine xrn ⟨j + 1, rfl, rfl, by omega, hv, hra, hwa, hna, hb1, hg1, hb4, hg4, hS57, hqx4, HC⟩
  refine aq gq rfl rfl (pfl 1 underlying54) ?_
  refine aq gq rfl rfl (aC underlying9 hb4) ?_
  refine aq gq rfl rfl (pfl 1 underlying54) ?_
  refine aq gq rfl rfl (aC underlying9 hb6) ?_
  refine aq gq rfl rfl (jc rfl rfl) ?_
  refine wz (am rfl rfl) ?_
  refine ac (ae ?_)
  refine aA rfl (fun c4 => ?_) (fun c4 => ?_)
  ·
   refine ab (aa ?_)
   refine was ?_
   refine ac (ae (ao (aG (ag (ag (aG (aG (ag (ag (aG (ag ?_)))))))))))
   refine aj ((aK rfl rfl)) ?_
   have nG : ¬ Right ⟨sa, na, ba, ra.map RD.abs, wa⟩ := fun h => by
     obtain ⟨h1, h2, h3, h4, h5, h6, h7, h8, h9⟩ := right_iff.1 h
     refine h9 i j (by omega) (by omega) ?_
     rw [← ex4, ← er (i := i) (by omega), ← ex9]
     exact ⟨by simpa using q66, by simpa using q71, eY c4⟩
   exact ⟨false, rfl, ⟨fun h => (by cases h), fun h => absurd h nG⟩, HC⟩
  refine al (ak (ae (aa ?_)))
  refine wz (aF rfl rfl (w64 (by omega))) ?_
  refine wmv ?_
  refine ac ?_
  have hv : ∀ k, k < j + 1 → ¬ jp x4 (ra.getD k RD0) := fun k hk h => by
    rcases Nat.lt_or_ge k j with h1 | h1
    · exact hv k h1 h
    obtain rfl : k = j := by omega
    rw [← er (i := i) (by omega), ← ex9] at h
    obtain ⟨h2, h3, h4⟩ := h
    rw [fS h4] at c4; cases c4
  refine xrn ⟨j + 1, rfl, rfl, by omega, hv, hra, hwa, hna, hb1, hg1, hb4, hg4, hS57, hqx4, HC⟩

theorem num_s {w : World} {A : Option Addr} {l c : Nat} {F : Nat → Prop} {b : List UInt8} {x : Nat} (hb : Sl w F u8v A l c b) (hl : l ≤ 140737488355000) (hx : x < 18446744073709551616) : Calls Tryz.prog 165 #[.slice A l c, dM x] w fun e w' => ∃ A' l' c', e = .returned (.slice A' l' c') ∧ Sl w' (fun k => k < w'.heap.size) u8v A' l' c' (b ++ bO x) ∧ l' ≤ l + 9 ∧ Ch No w w' := (p9 hb (by omega) hx).mono (by rintro e w' ⟨A, c, rfl, hW, hc⟩; exact ⟨A, _, c, rfl, hW.sl.old, by have := eX hx; omega, hc⟩)

theorem iw {w : World} {A : Option Addr} {l c : Nat} {F : Nat → Prop} {b : List UInt8} {x : Nat} (hb : Sl w F u8v A l c b) (hl : l ≤ 140737488355000) (hx : x < 18446744073709551616) : Calls Tryz.prog 48 #[.slice A l c, dM x] w fun e w' => ∃ A' l' c', e = .returned (.slice A' l' c') ∧ Sl w' (fun k => k < w'.heap.size) u8v A' l' c' (b ++ bO x) ∧ l' ≤ l + 9 ∧ Ch No w w' := (nk hb (by omega) hx).mono (by rintro e w' ⟨A, c, rfl, hW, hc⟩; exact ⟨A, _, c, rfl, hW.sl.old, by have := eX hx; omega, hc⟩)

theorem str_s {w : World} {A : Option Addr} {l c : Nat} {F : Nat → Prop} {b : List UInt8} {s : ByteArray} (hb : Sl w F u8v A l c b) (hl : l ≤ 140737488355000) (hs : s.size ≤ 300) : Calls Tryz.prog 166 #[.slice A l c, .string s] w fun e w' => ∃ A' l' c', e = .returned (.slice A' l' c') ∧ Sl w' (fun k => k < w'.heap.size) u8v A' l' c' (b ++ cS s) ∧ l' ≤ l + s.size + 9 ∧ Ch No w w' := (str_any hb (by omega)).mono (by rintro e w' ⟨A, c, rfl, hW, hc⟩; exact ⟨A, _, c, rfl, hW.sl.old, by have := mo (s := s) (by omega); omega, hc⟩)

theorem fm {w : World} {A : Option Addr} {l c : Nat} {F : Nat → Prop} {b : List UInt8} {s : ByteArray} (hb : Sl w F u8v A l c b) (hl : l ≤ 140737488355000) (hs : s.size ≤ 300) : Calls Tryz.prog 49 #[.slice A l c, .string s] w fun e w' => ∃ A' l' c', e = .returned (.slice A' l' c') ∧ Sl w' (fun k => k < w'.heap.size) u8v A' l' c' (b ++ cS s) ∧ l' ≤ l + s.size + 9 ∧ Ch No w w' := (tu hb (by omega)).mono (by rintro e w' ⟨A, c, rfl, hW, hc⟩; exact ⟨A, _, c, rfl, hW.sl.old, by have := mo (s := s) (by omega); omega, hc⟩)

theorem lT {w : World} {A : Option Addr} {l c : Nat} {F : Nat → Prop} {b : List UInt8} {f : Bool} (hb : Sl w F u8v A l c b) (hl : l ≤ 140737488355000) : Calls Tryz.prog 95 #[.slice A l c, .bool f] w fun e w' => ∃ A' l' c', e = .returned (.slice A' l' c') ∧ Sl w' (fun k => k < w'.heap.size) u8v A' l' c' (b ++ cu f) ∧ l' ≤ l + 1 ∧ Ch No w w' := (tq hb (by omega)).mono (by rintro e w' ⟨A, c, rfl, hW, hc⟩; exact ⟨A, _, c, rfl, hW.sl.old, by omega, hc⟩)

theorem lU {w : World} {A : Option Addr} {l c : Nat} {F : Nat → Prop} {b : List UInt8} {f : Bool} (hb : Sl w F u8v A l c b) (hl : l ≤ 140737488355000) : Calls Tryz.prog 47 #[.slice A l c, .bool f] w fun e w' => ∃ A' l' c', e = .returned (.slice A' l' c') ∧ Sl w' (fun k => k < w'.heap.size) u8v A' l' c' (b ++ cu f) ∧ l' ≤ l + 1 ∧ Ch No w w' := (re hb (by omega)).mono (by rintro e w' ⟨A, c, rfl, hW, hc⟩; exact ⟨A, _, c, rfl, hW.sl.old, by omega, hc⟩)

theorem fZ {w : World} {Ab : Option Addr} {lb cb : Nat} {Fb : Nat → Prop} {b : List UInt8} {Aq : Option Addr} {lq cq : Nat} {Fq : Nat → Prop} {q : List Int} (hb : Sl w Fb u8v Ab lb cb b) (hl : lb ≤ 140737488350000) (hq : Sl w Fq i64 Aq lq cq q) (hlq : lq ≤ 5) (hz : ∀ z ∈ q, 0 ≤ z ∧ z ≤ 9223372036854775807) :
    Calls Tryz.prog 96 #[.slice Ab lb cb, .slice Aq lq cq] w fun e w' => ∃ A' l' c', e = .returned (.slice A' l' c') ∧ Sl w' (fun k => k < w'.heap.size) u8v A' l' c' (b ++ nmB q) ∧ l' ≤ lb + lq * 9 ∧ Ch No w w' := by
  have hql := hq.len
  have hb := hb.old
  have hb := hb.old
  have hq := hq.old
  have HC : Ch No w w := Ch.refl _ _
  refine aH (args := [.slice Ab lb cb, .slice Aq lq cq]) (n := 19) Tryz.func96 rfl rfl rfl ?_
  refine ab (aa ?_)
  refine was ?_
  refine ac (ae (ab (ab (aa ?_))))
  refine wmv ?_
  refine wz (aw underlying106 rfl) ?_
  refine wmv ?_
  refine ac (ae (ap ?_))
  refine wcl (fun mz ez uz => ∃ k : Nat, ∃ A : Option Addr, ∃ l : Nat, ∃ c : Nat, mz = lq - k ∧ ez = [(0, .slice A l c), (7, .slice Aq lq cq), (8, i64 (lq : Int)), (9, i64 (k : Int))] ∧ (k ≤ lq) ∧ (l ≤ lb + k * 9) ∧ (Sl uz (fun k => k < uz.heap.size) u8v A l c (b ++ nmB (q.take k))) ∧ (Sl uz (fun k => k < w.heap.size) i64 Aq lq cq q) ∧ (Ch No w uz))
   ⟨0, Ab, lb, cb, rfl, rfl, by omega, by omega, (by rw [show q.take 0 = [] from List.take_zero]; simpa [nmB] using hb), hq, HC⟩ ?_
  rintro m0 e w1 ⟨k, A, l, c, hm0, rfl, hk, hn, hB, hq, HC⟩
  have hzw1 := HC.size
  refine ab (aa ?_)
  refine wz (aU rfl rfl) ?_
  refine ac (ae (ab ?_))
  refine aA rfl (fun c0 => ?_) (fun c0 => ?_)
  ·
   have c0 := of_decide_eq_true c0
   have hzk := hz _ (fy (d := 0) (i := k) (xs := q) (by omega))
   refine al (ae (ab (ap (ab (aa ?_)))))
   obtain ⟨b2, o2, hA2, hF2, hc2⟩ := (hq).opn (d := 0) (by omega)
   refine wz (dO underlying106 sz3 rfl hA2 rfl (by omega) (by omega) (Int.toNat_natCast _)) ?_
   refine wz (aE underlying3 rfl rfl (ld (hc2 _ (by omega)))) ?_
   refine was ?_
   refine ac (ae (aa ?_))
   iterate 2 refine wmv ?_
   refine wz (bB (Z := (((q.getD k 0).toNat : Nat) : Int)) underlying3 underlying102 rfl (by rw [eR (by omega)]; omega)) ?_
   refine wle rfl (ai rE rfl rfl (num_s (hB) (by omega) (by omega)) ?_)
   rintro _ w3 ⟨A16, l16, c16, rfl, hB16, hn16, hc⟩
   refine ⟨_, rfl, ?_⟩
   have hzw3 := hc.size
   have HC := HC.tr hc
   have hq := hq.no hc
   refine was ?_
   refine ac (ak (ae (aa ?_)))
   refine wz (aF rfl rfl (w64 (by omega))) ?_
   refine wmv ?_
   refine ac ?_
   refine xrn ⟨k + 1, A16, l16, c16, rfl, rfl, by omega, by omega, (by rw [so (by omega), ← List.append_assoc]; exact hB16.old), hq, HC⟩
  have c0 := of_decide_eq_false c0
  refine aI (ah (ah (av (ae (ab (aa ?_))))))
  refine wmv ?_
  refine was ?_
  refine ac (ae (ao ?_))
  refine aj ((aK rfl rfl)) ?_
  rw [List.take_of_length_le (by omega)] at hB
  exact ⟨A, l, c, rfl, hB.old, by omega, HC⟩

theorem dg {w : World} {Ab : Option Addr} {lb cb : Nat} {Fb : Nat → Prop} {b : List UInt8} {Aq : Option Addr} {lq cq : Nat} {Fq : Nat → Prop} {q : List ByteArray} (hb : Sl w Fb u8v Ab lb cb b) (hl : lb ≤ 140737488350000) (hq : Sl w Fq Value.string Aq lq cq q) (hlq : lq ≤ 5) (hz : ∀ z ∈ q, z.size ≤ 300) :
    Calls Tryz.prog 97 #[.slice Ab lb cb, .slice Aq lq cq] w fun e w' => ∃ A' l' c', e = .returned (.slice A' l' c') ∧ Sl w' (fun k => k < w'.heap.size) u8v A' l' c' (b ++ txB q) ∧ l' ≤ lb + lq * 309 ∧ Ch No w w' := by
  have hql := hq.len
  have hb := hb.old
  have hb := hb.old
  have hq := hq.old
  have HC : Ch No w w := Ch.refl _ _
  refine aH (args := [.slice Ab lb cb, .slice Aq lq cq]) (n := 18) Tryz.func97 rfl rfl rfl ?_
  refine ab (aa ?_)
  refine was ?_
  refine ac (ae (ab (ab (aa ?_))))
  refine wmv ?_
  refine wz (aw underlying198 rfl) ?_
  refine wmv ?_
  refine ac (ae (ap ?_))
  refine wcl (fun mz ez uz => ∃ k : Nat, ∃ A : Option Addr, ∃ l : Nat, ∃ c : Nat, mz = lq - k ∧ ez = [(0, .slice A l c), (7, .slice Aq lq cq), (8, i64 (lq : Int)), (9, i64 (k : Int))] ∧ (k ≤ lq) ∧ (l ≤ lb + k * 309) ∧ (Sl uz (fun k => k < uz.heap.size) u8v A l c (b ++ txB (q.take k))) ∧ (Sl uz (fun k => k < w.heap.size) Value.string Aq lq cq q) ∧ (Ch No w uz))
   ⟨0, Ab, lb, cb, rfl, rfl, by omega, by omega, (by rw [show q.take 0 = [] from List.take_zero]; simpa [txB] using hb), hq, HC⟩ ?_
  rintro m0 e w1 ⟨k, A, l, c, hm0, rfl, hk, hn, hB, hq, HC⟩
  have hzw1 := HC.size
  refine ab (aa ?_)
  refine wz (aU rfl rfl) ?_
  refine ac (ae (ab ?_))
  refine aA rfl (fun c0 => ?_) (fun c0 => ?_)
  ·
   have c0 := of_decide_eq_true c0
   have hzk := hz _ (fy (d := ByteArray.empty) (i := k) (xs := q) (by omega))
   refine al (ae (ab (ap (ab (aa ?_)))))
   obtain ⟨b2, o2, hA2, hF2, hc2⟩ := (hq).opn (d := ByteArray.empty) (by omega)
   refine wz (dO underlying198 sz9 rfl hA2 rfl (by omega) (by omega) (Int.toNat_natCast _)) ?_
   refine wz (aE underlying9 rfl rfl (ld (hc2 _ (by omega)))) ?_
   refine was ?_
   refine ac (ae (aa ?_))
   iterate 2 refine wmv ?_
   refine wle rfl (ai ent166 rfl rfl (str_s (hB) (by omega) (by omega)) ?_)
   rintro _ w3 ⟨A15, l15, c15, rfl, hB15, hn15, hc⟩
   refine ⟨_, rfl, ?_⟩
   have hzw3 := hc.size
   have HC := HC.tr hc
   have hq := hq.no hc
   refine was ?_
   refine ac (ak (ae (aa ?_)))
   refine wz (aF rfl rfl (w64 (by omega))) ?_
   refine wmv ?_
   refine ac ?_
   refine xrn ⟨k + 1, A15, l15, c15, rfl, rfl, by omega, by omega, (by rw [sp (by omega), ← List.append_assoc]; exact hB15.old), hq, HC⟩
  have c0 := of_decide_eq_false c0
  refine aI (ah (ah (av (ae (ab (aa ?_))))))
  refine wmv ?_
  refine was ?_
  refine ac (ae (ao ?_))
  refine aj ((aK rfl rfl)) ?_
  rw [List.take_of_length_le (by omega)] at hB
  exact ⟨A, l, c, rfl, hB.old, by omega, HC⟩

theorem jK {w : World} {sa na : Int} {ba : Bool} {Ara : Option Addr} {lra cra : Nat} {Fra : Nat → Prop} {ra : List RD} {Awa : Option Addr} {lwa cwa : Nat} {Fwa : Nat → Prop} {wa : List Pr} {Ga : Nat → Prop}  (hra : SI w Fra eRD Ara lra cra ra) (hwa : SI w Fwa ePR Awa lwa cwa wa) (hna : NS w Ga ra) (hR : Right ⟨sa, na, ba, ra.map RD.abs, wa⟩) :
    Calls Tryz.prog 17 #[.agg ([i64 sa, i64 na, .bool ba, .slice Ara lra cra, .slice Awa lwa cwa] : List Value).toArray] w fun e w' => ∃ A' l' c', e = .returned (.slice A' l' c') ∧ Sl w' (fun k => k < w'.heap.size) u8v A' l' c' (cd ⟨sa, na, ba, ra.map RD.abs, wa⟩) ∧ l' ≤ 14000000 ∧ Ch No w w' := by
  have hrla := hra.len
  have hwla := hwa.len
  have hna := hna.old
  obtain ⟨h1, h2, h3, h4, h5, h6, h7, h8, h9⟩ := right_iff.1 hR
  have hra := hra.old
  have hwa := hwa.old
  have HC : Ch No w w := Ch.refl _ _
  refine aH (args := [_]) (n := 98) Tryz.func17 rfl rfl rfl ?_
  refine ab (aa ?_)
  refine wle rfl (bg (cs := ([i64 sa, i64 na, .bool ba, .slice Ara lra cra, .slice Awa lwa cwa] : List Value).toArray) rfl rfl rfl (fun w1 g1 hg1 hb1 hc hsz1 => ?_))
  have hzw1 := hc.size
  have hge1 := HC.geo hg1
  have HC := HC.tr hc
  have hra := hra.no hc
  have hwa := hwa.no hc
  have hna := hna.cc hc
  refine was ?_
  refine ac (ae (ab ?_))
  refine wdr (.q 0 [0, 1, 0] (.q 4 [0, 1, 0] (.st 8 0 (.st 9 1 (.st 3 2 (.st 7 2 (.st 10 2 (.st 11 0 .nil)))))))) 12 No (fun w2 hc hszw2 => ?_)
  have hzw2 := hc.size
  have HC := HC.tr hc
  have hra := hra.no hc
  have hwa := hwa.no hc
  have hna := hna.cc hc
  have hb1 := hb1.no hc
  have hS : Ch No w2 w2 := Ch.refl _ _
  refine ws1 rfl (pfl 0 underlying25) ?_
  refine ws2 rfl (aE underlying3 rfl rfl (fun _ h => h.cell (fun h => h) (hb1.cell rfl))) ?_
  refine ws1 rfl (bB (Z := ((sa.toNat : Nat) : Int)) underlying3 underlying102 rfl (by rw [eR (by omega)]; omega)) ?_
  refine ws1 rfl (pfl 1 underlying25) ?_
  refine ws2 rfl (aE underlying3 rfl rfl (fun _ h => h.cell (fun h => h) (hb1.cell rfl))) ?_
  refine ws1 rfl (bB (Z := ((na.toNat : Nat) : Int)) underlying3 underlying102 rfl (by rw [eR (by omega)]; omega)) ?_
  refine ws1 rfl (pfl 2 underlying25) ?_
  refine ws2 rfl (aE underlying4 rfl rfl (fun _ h => h.cell (fun h => h) (hb1.cell rfl))) ?_
  refine ax rfl rfl (ai i6 rfl rfl (iw (Sl.nil (F := No)) (by omega) (by omega)) ?_)
  rintro _ w3 ⟨A13, l13, c13, rfl, hB13, hn13, hc⟩
  refine ⟨_, rfl, hc, ?_⟩
  have hzw3 := hc.size
  have HC := HC.tr hc
  have hra := hra.no hc
  have hwa := hwa.no hc
  have hna := hna.cc hc
  have hb1 := hb1.no hc
  refine aB hc ?_
  refine ax rfl rfl (ai i6 rfl rfl (iw (hB13) (by omega) (by omega)) ?_)
  rintro _ w4 ⟨A17, l17, c17, rfl, hB17, hn17, hc⟩
  refine ⟨_, rfl, hc, ?_⟩
  have hzw4 := hc.size
  have HC := HC.tr hc
  have hra := hra.no hc
  have hwa := hwa.no hc
  have hna := hna.cc hc
  have hb1 := hb1.no hc
  refine aB hc ?_
  refine ax rfl rfl (ai rv rfl rfl (lU (hB17) (by omega)) ?_)
  rintro _ w5 ⟨A20, l20, c20, rfl, hB20, hn20, hc⟩
  refine ⟨_, rfl, hc, ?_⟩
  have hzw5 := hc.size
  have HC := HC.tr hc
  have hra := hra.no hc
  have hwa := hwa.no hc
  have hna := hna.cc hc
  have hb1 := hb1.no hc
  refine aB hc ?_
  refine wsa ?_
  refine aW (ae (ab (aa ?_)))
  refine wmv ?_
  refine wz (pfl 3 underlying25) ?_
  refine wz (aC underlying22 hb1) ?_
  refine wz (aw underlying22 rfl) ?_
  refine wz (bB underlying3 underlying102 rfl (eR (by omega))) ?_
  refine wle rfl (ai i6 rfl rfl (iw (hB20) (by omega) (by omega)) ?_)
  rintro _ w6 ⟨A26, l26, c26, rfl, hB26, hn26, hc⟩
  refine ⟨_, rfl, ?_⟩
  have hzw6 := hc.size
  have HC := HC.tr hc
  have hra := hra.no hc
  have hwa := hwa.no hc
  have hna := hna.cc hc
  have hb1 := hb1.no hc
  refine was ?_
  refine ac (ae (ab (ab (aa ?_))))
  refine wz (pfl 3 underlying25) ?_
  refine wz (aC underlying22 hb1) ?_
  refine wz (aw underlying22 rfl) ?_
  refine wmv ?_
  refine ac (ae (ap ?_))
  refine wcl (fun mz ez uz => ∃ i : Nat, ∃ Bb : Option Addr, ∃ Lb : Nat, ∃ Cb : Nat, mz = lra - i ∧ ez = [(1, .pointer (some ⟨g1, 0, none⟩)), (3, .slice Bb Lb Cb), (28, .slice Ara lra cra), (29, i64 (lra : Int)), (30, i64 (i : Int))] ∧ (i ≤ lra) ∧ (Lb ≤ 100 + i * 200000) ∧ (Sl uz (fun k => k < uz.heap.size) u8v Bb Lb Cb (hdR sa na ba lra ++ rsB (ra.take i))) ∧ (SI uz (fun k => k < w.heap.size) eRD Ara lra cra ra) ∧ (SI uz (fun k => k < w.heap.size) ePR Awa lwa cwa wa) ∧ (NS uz (fun k => k < w.heap.size) ra) ∧ (Blk uz g1 25 ([i64 sa, i64 na, .bool ba, .slice Ara lra cra, .slice Awa lwa cwa] : List Value).toArray) ∧ (w.heap.size ≤ g1) ∧ (Ch No w uz))
   ⟨0, A26, l26, c26, rfl, rfl, by omega, by omega, (by have h := hB26.old; rw [List.take_zero]; simpa [hdR, rsB, cu, nmB] using h), hra, hwa, hna, hb1, (by omega), HC⟩ ?_
  rintro m0 e w7 ⟨i, Bb, Lb, Cb, hm0, rfl, hi, hn1, hB, hra, hwa, hna, hb1, hg1, HC⟩
  have hzw7 := HC.size
  refine ab (aa ?_)
  refine wz (aU rfl rfl) ?_
  refine ac (ae (ab ?_))
  refine aA rfl (fun c0 => ?_) (fun c0 => ?_)
  rotate_left
  ·
   have c0 := of_decide_eq_false c0
   refine aI (ah (ah (av (ae (ab (aa ?_))))))
   refine wmv ?_
   refine wz (pfl 4 underlying25) ?_
   refine wz (aC underlying23 hb1) ?_
   refine wz (aw underlying23 rfl) ?_
   refine wz (bB underlying3 underlying102 rfl (eR (by omega))) ?_
   refine wle rfl (ai i6 rfl rfl (iw (hB) (by omega) (by omega)) ?_)
   rintro _ w31 ⟨A74, l74, c74, rfl, hB74, hn74, hc⟩
   refine ⟨_, rfl, ?_⟩
   have hzw31 := hc.size
   have HC := HC.tr hc
   have hra := hra.no hc
   have hwa := hwa.no hc
   have hb1 := hb1.no hc
   have hB := hB.no hc
   refine was ?_
   refine ac (ae (ab (ab (aa ?_))))
   refine wz (pfl 4 underlying25) ?_
   refine wz (aC underlying23 hb1) ?_
   refine wz (aw underlying23 rfl) ?_
   refine wmv ?_
   refine ac (ae (ap ?_))
   refine wcl (fun mz ez uz => ∃ k : Nat, ∃ Bb : Option Addr, ∃ Lb : Nat, ∃ Cb : Nat, mz = lwa - k ∧ ez = [(1, .pointer (some ⟨g1, 0, none⟩)), (3, .slice Bb Lb Cb), (76, .slice Awa lwa cwa), (77, i64 (lwa : Int)), (78, i64 (k : Int))] ∧ (k ≤ lwa) ∧ (Lb ≤ 13500000 + k * 1000) ∧ (Sl uz (fun k => k < uz.heap.size) u8v Bb Lb Cb (hdR sa na ba lra ++ rsB ra ++ bO lwa ++ wsB (wa.take k))) ∧ (SI uz (fun k => k < w.heap.size) eRD Ara lra cra ra) ∧ (SI uz (fun k => k < w.heap.size) ePR Awa lwa cwa wa) ∧ (Blk uz g1 25 ([i64 sa, i64 na, .bool ba, .slice Ara lra cra, .slice Awa lwa cwa] : List Value).toArray) ∧ (w.heap.size ≤ g1) ∧ (Ch No w uz))
    ⟨0, A74, l74, c74, rfl, rfl, by omega, by omega, (by have h := hB74.old; rw [List.take_of_length_le (by omega)] at h; rw [List.take_zero]; simpa [wsB, nmB] using h), hra, hwa, hb1, hg1, HC⟩ ?_
   rintro m2 e w32 ⟨k, Bb, Lb, Cb, hm2, rfl, hk, hn3, hB, hra, hwa, hb1, hg1, HC⟩
   have hzw32 := HC.size
   refine ab (aa ?_)
   refine wz (aU rfl rfl) ?_
   refine ac (ae (ab ?_))
   refine aA rfl (fun c3 => ?_) (fun c3 => ?_)
   rotate_left
   ·
    have c3 := of_decide_eq_false c3
    refine aI (ah (ah (av (ae (ab (aa ?_))))))
    refine wmv ?_
    refine was ?_
    refine ac (ae (ao ?_))
    refine aj ((aK rfl rfl)) ?_
    rw [List.take_of_length_le (by omega)] at hB
    rw [mr, hrla, hwla]
    exact ⟨Bb, Lb, Cb, rfl, hB.old, by omega, HC⟩
   have c3 := of_decide_eq_true c3
   refine al (ae (ab (ap (ab (aa ?_)))))
   obtain ⟨b33, o33, x33, ex33, hA33, hr33, hx33a, hx33b⟩ := rdP k hwa
   refine wz (pxs underlying23 bA hA33) ?_
   have hyg := (h7 k (by omega)).1; rw [← ex33] at hyg
   obtain ⟨yk, yk2, yv, yd⟩ := hyg
   refine wz (pla underlying52 bA hr33) ?_
   have hltg1 := hb1.lt
   refine wle rfl (eal [Value.string ByteArray.empty, Value.string ByteArray.empty, Value.bool false] (fun w34 g9 hg9 hb9 hc hsz9 => ?_))
   have hzw34 := hc.size
   have hge9 := HC.geo hg9
   have HC := HC.tr hc
   have hra := hra.no hc
   have hwa := hwa.no hc
   have hb1 := hb1.no hc
   have hB := hB.no hc
   refine wle rfl (esw bA hb9 (fun w35 hb9 hc hsz => ?_))
   have hzw35 := hc.size
   have HC := HC.n hc
   first | have hra := hra.cc hc | have hra := hra.cT hc
   first | have hwa := hwa.cc hc | have hwa := hwa.cT hc
   have hb1 := hb1.cc hc
   first | have hB := hB.cc hc | have hB := hB.cT hc
   refine ac (ae (ab ?_))
   refine wdr (.q 0 [0, 0, 1] (.st 4 0 (.st 5 1 (.st 3 2 (.st 6 2 (.st 7 0 .nil)))))) 8 No (fun w36 hc hszw36 => ?_)
   have hzw36 := hc.size
   have HC := HC.tr hc
   have hra := hra.no hc
   have hwa := hwa.no hc
   have hb1 := hb1.no hc
   have hB := hB.no hc
   have hb9 := hb9.no hc
   have hS : Ch No w36 w36 := Ch.refl _ _
   refine wsm ?_
   refine ws1 rfl (pfl 0 underlying52) ?_
   refine ws2 rfl (aE underlying9 rfl rfl (fun _ h => h.cell (fun h => h) (hb9.cell rfl))) ?_
   refine ws1 rfl (pfl 2 underlying52) ?_
   refine ws2 rfl (aE underlying4 rfl rfl (fun _ h => h.cell (fun h => h) (hb9.cell rfl))) ?_
   refine ax rfl rfl (ai iz rfl rfl (fm (hB) (by omega) (by omega)) ?_)
   rintro _ w37 ⟨A85, l85, c85, rfl, hB85, hn85, hc⟩
   refine ⟨_, rfl, hc, ?_⟩
   have hzw37 := hc.size
   have HC := HC.tr hc
   have hra := hra.no hc
   have hwa := hwa.no hc
   have hb1 := hb1.no hc
   have hb9 := hb9.no hc
   refine aB hc ?_
   refine ax rfl rfl (ai rv rfl rfl (lU (hB85) (by omega)) ?_)
   rintro _ w38 ⟨A88, l88, c88, rfl, hB88, hn88, hc⟩
   refine ⟨_, rfl, hc, ?_⟩
   have hzw38 := hc.size
   have HC := HC.tr hc
   have hra := hra.no hc
   have hwa := hwa.no hc
   have hb1 := hb1.no hc
   have hb9 := hb9.no hc
   refine aB hc ?_
   refine wsa ?_
   refine aW (ae (ab (aa ?_)))
   refine wz (pfl 2 underlying52) ?_
   refine wz (aC underlying4 hb9) ?_
   refine wz (bc rfl) ?_
   refine ac (ae ?_)
   refine aA rfl (fun c4 => ?_) (fun c4 => ?_)
   ·
    refine aa ?_
    refine wmv ?_
    refine wz (pfl 1 underlying52) ?_
    refine wz (aC underlying9 hb9) ?_
    refine wle rfl (ai iz rfl rfl (fm (hB88) (by omega) (by omega)) ?_)
    rintro _ w39 ⟨A95, l95, c95, rfl, hB95, hn95, hc⟩
    refine ⟨_, rfl, ?_⟩
    have hzw39 := hc.size
    have HC := HC.tr hc
    have hra := hra.no hc
    have hwa := hwa.no hc
    have hb1 := hb1.no hc
    refine was ?_
    refine ac (ak (ae (aa ?_)))
    refine wz (aF rfl rfl (w64 (by omega))) ?_
    refine wmv ?_
    refine ac ?_
    refine xrn ⟨k + 1, A95, l95, c95, rfl, rfl, by omega, by omega, (by rw [gm (by omega), ← ex33, ← List.append_assoc]; have h := hB95.old; unfold jS; simpa [cu, txB, show x33.2.2 = false from (by simpa using c4)] using h), hra, hwa, hb1, hg1, HC⟩
   refine al (ak (ae (aa ?_)))
   refine wz (aF rfl rfl (w64 (by omega))) ?_
   refine wmv ?_
   refine ac ?_
   refine xrn ⟨k + 1, A88, l88, c88, rfl, rfl, by omega, by omega, (by rw [gm (by omega), ← ex33, ← List.append_assoc]; have h := hB88.old; unfold jS; simpa [cu, txB, show x33.2.2 = true from (by simpa using c4)] using h), hra, hwa, hb1, hg1, HC⟩
  have c0 := of_decide_eq_true c0
  refine al (ae (ab (ap (ab (aa ?_)))))
  obtain ⟨b8, o8, x8, ex8, hA8, hr8, hx8a, hx8b, hx8c⟩ := rdR i hra
  refine wz (pxs underlying22 cM hA8) ?_
  have hqx8 := hna.get' ex8 (by have := True.intro; omega)
  have hqlx8 := hqx8.len
  have hxg := h8 i (by omega); rw [← ex8] at hxg
  obtain ⟨gk, gt, gn, gp, gi, gz⟩ := hxg
  simp only [RD.abs] at gk gt gn gp gi gz
  refine wz (pla underlying54 cM hr8) ?_
  have hltg1 := hb1.lt
  refine wle rfl (eal [Value.bool false, Value.string ByteArray.empty, Value.string ByteArray.empty, Value.slice none 0 0] (fun w9 g5 hg5 hb5 hc hsz5 => ?_))
  have hzw9 := hc.size
  have hge5 := HC.geo hg5
  have HC := HC.tr hc
  have hra := hra.no hc
  have hwa := hwa.no hc
  have hna := hna.cc hc
  have hb1 := hb1.no hc
  have hB := hB.no hc
  have hqx8 := hqx8.no hc
  refine wle rfl (esw cM hb5 (fun w10 hb5 hc hsz => ?_))
  have hzw10 := hc.size
  have HC := HC.n hc
  first | have hra := hra.cc hc | have hra := hra.cT hc
  first | have hwa := hwa.cc hc | have hwa := hwa.cT hc
  have hna := hna.cc hc
  have hb1 := hb1.cc hc
  first | have hB := hB.cc hc | have hB := hB.cT hc
  first | have hqx8 := hqx8.cc hc | have hqx8 := hqx8.cT hc
  refine ac (ae (ab ?_))
  refine wdr (.q 0 [0, 0, 1] (.st 4 0 (.st 5 1 (.st 3 2 (.st 6 2 (.st 7 0 .nil)))))) 8 No (fun w11 hc hszw11 => ?_)
  have hzw11 := hc.size
  have HC := HC.tr hc
  have hra := hra.no hc
  have hwa := hwa.no hc
  have hna := hna.cc hc
  have hb1 := hb1.no hc
  have hB := hB.no hc
  have hqx8 := hqx8.no hc
  have hb5 := hb5.no hc
  have hS : Ch No w11 w11 := Ch.refl _ _
  refine wsm ?_
  refine ws1 rfl (pfl 0 underlying54) ?_
  refine ws2 rfl (aE underlying4 rfl rfl (fun _ h => h.cell (fun h => h) (hb5.cell rfl))) ?_
  refine ws1 rfl (pfl 1 underlying54) ?_
  refine ws2 rfl (aE underlying9 rfl rfl (fun _ h => h.cell (fun h => h) (hb5.cell rfl))) ?_
  refine ax rfl rfl (ai rv rfl rfl (lU (hB) (by omega)) ?_)
  rintro _ w12 ⟨A37, l37, c37, rfl, hB37, hn37, hc⟩
  refine ⟨_, rfl, hc, ?_⟩
  have hzw12 := hc.size
  have HC := HC.tr hc
  have hra := hra.no hc
  have hwa := hwa.no hc
  have hna := hna.cc hc
  have hb1 := hb1.no hc
  have hB := hB.no hc
  have hqx8 := hqx8.no hc
  have hb5 := hb5.no hc
  refine aB hc ?_
  refine ax rfl rfl (ai iz rfl rfl (fm (hB37) (by omega) (by omega)) ?_)
  rintro _ w13 ⟨A40, l40, c40, rfl, hB40, hn40, hc⟩
  refine ⟨_, rfl, hc, ?_⟩
  have hzw13 := hc.size
  have HC := HC.tr hc
  have hra := hra.no hc
  have hwa := hwa.no hc
  have hna := hna.cc hc
  have hb1 := hb1.no hc
  have hB := hB.no hc
  have hqx8 := hqx8.no hc
  have hb5 := hb5.no hc
  refine aB hc ?_
  refine wsa ?_
  refine aW (ae (ab (ab (aa ?_))))
  refine wz (pfl 0 underlying54) ?_
  refine wz (aC underlying4 hb5) ?_
  refine ac (ae ?_)
  refine aA rfl (fun c1 => ?_) (fun c1 => ?_)
  rotate_left
  ·
   refine al (ae (ab (aa ?_)))
   refine wmv ?_
   refine wz (pfl 3 underlying54) ?_
   refine wz (aC underlying23 hb5) ?_
   refine wz (aw underlying23 rfl) ?_
   refine wz (bB underlying3 underlying102 rfl (eR (by omega))) ?_
   refine wle rfl (ai i6 rfl rfl (iw (hB40) (by omega) (by omega)) ?_)
   rintro _ w23 ⟨A52, l52, c52, rfl, hB52, hn52, hc⟩
   refine ⟨_, rfl, ?_⟩
   have hzw23 := hc.size
   have HC := HC.tr hc
   have hra := hra.no hc
   have hwa := hwa.no hc
   have hna := hna.cc hc
   have hb1 := hb1.no hc
   have hB := hB.no hc
   have hqx8 := hqx8.no hc
   have hb5 := hb5.no hc
   refine was ?_
   refine ac (ae (ab (aa ?_)))
   refine wz (pfl 3 underlying54) ?_
   refine wz (aC underlying23 hb5) ?_
   refine wz (aw underlying23 rfl) ?_
   refine wmv ?_
   refine ac (ae (ap ?_))
   have hB : Sl w23 (fun k => k < w23.heap.size) u8v A52 l52 c52 ((hdR sa na ba lra ++ rsB (ra.take i)) ++ hdX x8 ++ psB (x8.ps.take 0)) := by
     have h := hB52.old; rw [List.take_zero]; unfold hdX psB; rw [hqlx8]; simpa [cu, nmB, txB, show x8.sc = false from c1] using h
   refine wcl (fun mz ez uz => ∃ j : Nat, ∃ Bb : Option Addr, ∃ Lb : Nat, ∃ Cb : Nat, mz = x8.l - j ∧ ez = [(1, .pointer (some ⟨g1, 0, none⟩)), (3, .slice Bb Lb Cb), (28, .slice Ara lra cra), (29, i64 (lra : Int)), (30, i64 (i : Int)), (54, .slice x8.A x8.l x8.c), (55, i64 (x8.l : Int)), (56, i64 (j : Int))] ∧ (j ≤ x8.l) ∧ (Lb ≤ 1200 + i * 200000 + j * 700) ∧ (Sl uz (fun k => k < uz.heap.size) u8v Bb Lb Cb ((hdR sa na ba lra ++ rsB (ra.take i)) ++ hdX x8 ++ psB (x8.ps.take j))) ∧ (SI uz (fun k => k < w.heap.size) eRD Ara lra cra ra) ∧ (SI uz (fun k => k < w.heap.size) ePR Awa lwa cwa wa) ∧ (NS uz (fun k => k < w.heap.size) ra) ∧ (Blk uz g1 25 ([i64 sa, i64 na, .bool ba, .slice Ara lra cra, .slice Awa lwa cwa] : List Value).toArray) ∧ (w.heap.size ≤ g1) ∧ (SI uz (fun k => k < w.heap.size) ePR x8.A x8.l x8.c x8.ps) ∧ (Ch No w uz))
    ⟨0, A52, l52, c52, rfl, rfl, by omega, by omega, hB, hra, hwa, hna, hb1, hg1, hqx8, HC⟩ ?_
   rintro m1 e w24 ⟨j, Bb, Lb, Cb, hm1, rfl, hj, hn2, hB, hra, hwa, hna, hb1, hg1, hqx8, HC⟩
   have hzw24 := HC.size
   refine ab (aa ?_)
   refine wz (aU rfl rfl) ?_
   refine ac (ae (ab ?_))
   refine aA rfl (fun c2 => ?_) (fun c2 => ?_)
   rotate_left
   ·
    have c2 := of_decide_eq_false c2
    refine aI (ah (ah (av (ak (ae (aa ?_))))))
    refine wz (aF rfl rfl (w64 (by omega))) ?_
    refine wmv ?_
    refine ac ?_
    refine xrn ⟨i + 1, Bb, Lb, Cb, rfl, rfl, by omega, by omega, (by rw [tE (by omega), ← ex8, tD, ← List.append_assoc, ← List.append_assoc]; have h := hB.old; rw [show x8.ps.take j = x8.ps from List.take_of_length_le (by omega)] at h; exact h), hra, hwa, hna, hb1, hg1, HC⟩
   have c2 := of_decide_eq_true c2
   refine al (ae (ab (ap (ab (aa ?_)))))
   obtain ⟨b25, o25, x25, ex25, hA25, hr25, hx25a, hx25b⟩ := rdP j hqx8
   refine wz (pxs underlying23 bA hA25) ?_
   have hyg := (gp j (by omega)).1; rw [← ex25] at hyg
   obtain ⟨yk, yk2, yv, yd⟩ := hyg
   refine wz (pla underlying52 bA hr25) ?_
   have hltg1 := hb1.lt
   refine wle rfl (eal [Value.string ByteArray.empty, Value.string ByteArray.empty, Value.bool false] (fun w26 g7 hg7 hb7 hc hsz7 => ?_))
   have hzw26 := hc.size
   have hge7 := HC.geo hg7
   have HC := HC.tr hc
   have hra := hra.no hc
   have hwa := hwa.no hc
   have hna := hna.cc hc
   have hb1 := hb1.no hc
   have hB := hB.no hc
   have hqx8 := hqx8.no hc
   refine wle rfl (esw bA hb7 (fun w27 hb7 hc hsz => ?_))
   have hzw27 := hc.size
   have HC := HC.n hc
   first | have hra := hra.cc hc | have hra := hra.cT hc
   first | have hwa := hwa.cc hc | have hwa := hwa.cT hc
   have hna := hna.cc hc
   have hb1 := hb1.cc hc
   first | have hB := hB.cc hc | have hB := hB.cT hc
   first | have hqx8 := hqx8.cc hc | have hqx8 := hqx8.cT hc
   refine ac (ae ?_)
   refine wdr (.q 0 [0, 0, 1] (.st 4 0 (.st 5 1 (.st 3 2 (.st 6 2 (.st 7 0 .nil)))))) 8 No (fun w28 hc hszw28 => ?_)
   have hzw28 := hc.size
   have HC := HC.tr hc
   have hra := hra.no hc
   have hwa := hwa.no hc
   have hna := hna.cc hc
   have hb1 := hb1.no hc
   have hB := hB.no hc
   have hqx8 := hqx8.no hc
   have hb7 := hb7.no hc
   have hS : Ch No w28 w28 := Ch.refl _ _
   refine wsm ?_
   refine ws1 rfl (pfl 0 underlying52) ?_
   refine ws2 rfl (aE underlying9 rfl rfl (fun _ h => h.cell (fun h => h) (hb7.cell rfl))) ?_
   refine ws1 rfl (pfl 1 underlying52) ?_
   refine ws2 rfl (aE underlying9 rfl rfl (fun _ h => h.cell (fun h => h) (hb7.cell rfl))) ?_
   refine ax rfl rfl (ai iz rfl rfl (fm (hB) (by omega) (by omega)) ?_)
   rintro _ w29 ⟨A63, l63, c63, rfl, hB63, hn63, hc⟩
   refine ⟨_, rfl, hc, ?_⟩
   have hzw29 := hc.size
   have HC := HC.tr hc
   have hra := hra.no hc
   have hwa := hwa.no hc
   have hna := hna.cc hc
   have hb1 := hb1.no hc
   have hqx8 := hqx8.no hc
   refine aB hc ?_
   refine ax rfl rfl (ai iz rfl rfl (fm (hB63) (by omega) (by omega)) ?_)
   rintro _ w30 ⟨A66, l66, c66, rfl, hB66, hn66, hc⟩
   refine ⟨_, rfl, hc, ?_⟩
   have hzw30 := hc.size
   have HC := HC.tr hc
   have hra := hra.no hc
   have hwa := hwa.no hc
   have hna := hna.cc hc
   have hb1 := hb1.no hc
   have hqx8 := hqx8.no hc
   refine aB hc ?_
   refine wsa ?_
   refine aW (ak (ae (aa ?_)))
   refine wz (aF rfl rfl (w64 (by omega))) ?_
   refine wmv ?_
   refine ac ?_
   refine xrn ⟨j + 1, A66, l66, c66, rfl, rfl, by omega, by omega, (by rw [tF (by omega), ← ex25, ← List.append_assoc]; have h := hB66.old; simpa [dH, txB] using h), hra, hwa, hna, hb1, hg1, hqx8, HC⟩
  refine aa ?_
  refine wmv ?_
  refine wz (pfl 2 underlying54) ?_
  refine wz (aC underlying9 hb5) ?_
  refine wle rfl (ai iz rfl rfl (fm (hB40) (by omega) (by omega)) ?_)
  rintro _ w14 ⟨A46, l46, c46, rfl, hB46, hn46, hc⟩
  refine ⟨_, rfl, ?_⟩
  have hzw14 := hc.size
  have HC := HC.tr hc
  have hra := hra.no hc
  have hwa := hwa.no hc
  have hna := hna.cc hc
  have hb1 := hb1.no hc
  have hB := hB.no hc
  have hqx8 := hqx8.no hc
  have hb5 := hb5.no hc
  refine was ?_
  refine ac (ae (ab (aa ?_)))
  refine wmv ?_
  refine wz (pfl 3 underlying54) ?_
  refine wz (aC underlying23 hb5) ?_
  refine wz (aw underlying23 rfl) ?_
  refine wz (bB underlying3 underlying102 rfl (eR (by omega))) ?_
  refine wle rfl (ai i6 rfl rfl (iw (hB46) (by omega) (by omega)) ?_)
  rintro _ w15 ⟨A52, l52, c52, rfl, hB52, hn52, hc⟩
  refine ⟨_, rfl, ?_⟩
  have hzw15 := hc.size
  have HC := HC.tr hc
  have hra := hra.no hc
  have hwa := hwa.no hc
  have hna := hna.cc hc
  have hb1 := hb1.no hc
  have hB := hB.no hc
  have hqx8 := hqx8.no hc
  have hb5 := hb5.no hc
  refine was ?_
  refine ac (ae (ab (aa ?_)))
  refine wz (pfl 3 underlying54) ?_
  refine wz (aC underlying23 hb5) ?_
  refine wz (aw underlying23 rfl) ?_
  refine wmv ?_
  refine ac (ae (ap ?_))
  have hB : Sl w15 (fun k => k < w15.heap.size) u8v A52 l52 c52 ((hdR sa na ba lra ++ rsB (ra.take i)) ++ hdX x8 ++ psB (x8.ps.take 0)) := by
    have h := hB52.old; rw [List.take_zero]; unfold hdX psB; rw [hqlx8]; simpa [cu, nmB, txB, show x8.sc = true from c1] using h
  refine wcl (fun mz ez uz => ∃ j : Nat, ∃ Bb : Option Addr, ∃ Lb : Nat, ∃ Cb : Nat, mz = x8.l - j ∧ ez = [(1, .pointer (some ⟨g1, 0, none⟩)), (3, .slice Bb Lb Cb), (28, .slice Ara lra cra), (29, i64 (lra : Int)), (30, i64 (i : Int)), (54, .slice x8.A x8.l x8.c), (55, i64 (x8.l : Int)), (56, i64 (j : Int))] ∧ (j ≤ x8.l) ∧ (Lb ≤ 1200 + i * 200000 + j * 700) ∧ (Sl uz (fun k => k < uz.heap.size) u8v Bb Lb Cb ((hdR sa na ba lra ++ rsB (ra.take i)) ++ hdX x8 ++ psB (x8.ps.take j))) ∧ (SI uz (fun k => k < w.heap.size) eRD Ara lra cra ra) ∧ (SI uz (fun k => k < w.heap.size) ePR Awa lwa cwa wa) ∧ (NS uz (fun k => k < w.heap.size) ra) ∧ (Blk uz g1 25 ([i64 sa, i64 na, .bool ba, .slice Ara lra cra, .slice Awa lwa cwa] : List Value).toArray) ∧ (w.heap.size ≤ g1) ∧ (SI uz (fun k => k < w.heap.size) ePR x8.A x8.l x8.c x8.ps) ∧ (Ch No w uz))
   ⟨0, A52, l52, c52, rfl, rfl, by omega, by omega, hB, hra, hwa, hna, hb1, hg1, hqx8, HC⟩ ?_
  rintro m1 e w16 ⟨j, Bb, Lb, Cb, hm1, rfl, hj, hn2, hB, hra, hwa, hna, hb1, hg1, hqx8, HC⟩
  have hzw16 := HC.size
  refine ab (aa ?_)
  refine wz (aU rfl rfl) ?_
  refine ac (ae (ab ?_))
  refine aA rfl (fun c2 => ?_) (fun c2 => ?_)
  rotate_left
  ·
   have c2 := of_decide_eq_false c2
   refine aI (ah (ah (av (ak (ae (aa ?_))))))
   refine wz (aF rfl rfl (w64 (by omega))) ?_
   refine wmv ?_
   refine ac ?_
   refine xrn ⟨i + 1, Bb, Lb, Cb, rfl, rfl, by omega, by omega, (by rw [tE (by omega), ← ex8, tD, ← List.append_assoc, ← List.append_assoc]; have h := hB.old; rw [show x8.ps.take j = x8.ps from List.take_of_length_le (by omega)] at h; exact h), hra, hwa, hna, hb1, hg1, HC⟩
  have c2 := of_decide_eq_true c2
  refine al (ae (ab (ap (ab (aa ?_)))))
  obtain ⟨b17, o17, x17, ex17, hA17, hr17, hx17a, hx17b⟩ := rdP j hqx8
  refine wz (pxs underlying23 bA hA17) ?_
  have hyg := (gp j (by omega)).1; rw [← ex17] at hyg
  obtain ⟨yk, yk2, yv, yd⟩ := hyg
  refine wz (pla underlying52 bA hr17) ?_
  have hltg1 := hb1.lt
  refine wle rfl (eal [Value.string ByteArray.empty, Value.string ByteArray.empty, Value.bool false] (fun w18 g7 hg7 hb7 hc hsz7 => ?_))
  have hzw18 := hc.size
  have hge7 := HC.geo hg7
  have HC := HC.tr hc
  have hra := hra.no hc
  have hwa := hwa.no hc
  have hna := hna.cc hc
  have hb1 := hb1.no hc
  have hB := hB.no hc
  have hqx8 := hqx8.no hc
  refine wle rfl (esw bA hb7 (fun w19 hb7 hc hsz => ?_))
  have hzw19 := hc.size
  have HC := HC.n hc
  first | have hra := hra.cc hc | have hra := hra.cT hc
  first | have hwa := hwa.cc hc | have hwa := hwa.cT hc
  have hna := hna.cc hc
  have hb1 := hb1.cc hc
  first | have hB := hB.cc hc | have hB := hB.cT hc
  first | have hqx8 := hqx8.cc hc | have hqx8 := hqx8.cT hc
  refine ac (ae ?_)
  refine wdr (.q 0 [0, 0, 1] (.st 4 0 (.st 5 1 (.st 3 2 (.st 6 2 (.st 7 0 .nil)))))) 8 No (fun w20 hc hszw20 => ?_)
  have hzw20 := hc.size
  have HC := HC.tr hc
  have hra := hra.no hc
  have hwa := hwa.no hc
  have hna := hna.cc hc
  have hb1 := hb1.no hc
  have hB := hB.no hc
  have hqx8 := hqx8.no hc
  have hb7 := hb7.no hc
  have hS : Ch No w20 w20 := Ch.refl _ _
  refine wsm ?_
  refine ws1 rfl (pfl 0 underlying52) ?_
  refine ws2 rfl (aE underlying9 rfl rfl (fun _ h => h.cell (fun h => h) (hb7.cell rfl))) ?_
  refine ws1 rfl (pfl 1 underlying52) ?_
  refine ws2 rfl (aE underlying9 rfl rfl (fun _ h => h.cell (fun h => h) (hb7.cell rfl))) ?_
  refine ax rfl rfl (ai iz rfl rfl (fm (hB) (by omega) (by omega)) ?_)
  rintro _ w21 ⟨A63, l63, c63, rfl, hB63, hn63, hc⟩
  refine ⟨_, rfl, hc, ?_⟩
  have hzw21 := hc.size
  have HC := HC.tr hc
  have hra := hra.no hc
  have hwa := hwa.no hc
  have hna := hna.cc hc
  have hb1 := hb1.no hc
  have hqx8 := hqx8.no hc
  refine aB hc ?_
  refine ax rfl rfl (ai iz rfl rfl (fm (hB63) (by omega) (by omega)) ?_)
  rintro _ w22 ⟨A66, l66, c66, rfl, hB66, hn66, hc⟩
  refine ⟨_, rfl, hc, ?_⟩
  have hzw22 := hc.size
  have HC := HC.tr hc
  have hra := hra.no hc
  have hwa := hwa.no hc
  have hna := hna.cc hc
  have hb1 := hb1.no hc
  have hqx8 := hqx8.no hc
  refine aB hc ?_
  refine wsa ?_
  refine aW (ak (ae (aa ?_)))
  refine wz (aF rfl rfl (w64 (by omega))) ?_
  refine wmv ?_
  refine ac ?_
  refine xrn ⟨j + 1, A66, l66, c66, rfl, rfl, by omega, by omega, (by rw [tF (by omega), ← ex17, ← List.append_assoc]; have h := hB66.old; simpa [dH, txB] using h), hra, hwa, hna, hb1, hg1, hqx8, HC⟩

theorem ox {w : World} {sa na : Int} {ba : Bool} {Ara : Option Addr} {lra cra : Nat} {Fra : Nat → Prop} {ra : List RD} {Awa : Option Addr} {lwa cwa : Nat} {Fwa : Nat → Prop} {wa : List Pr} {Ga : Nat → Prop}  (hra : SI w Fra eRD Ara lra cra ra) (hwa : SI w Fwa ePR Awa lwa cwa wa) (hna : NS w Ga ra) (hR : Right ⟨sa, na, ba, ra.map RD.abs, wa⟩) :
    Calls Tryz.prog 35 #[.agg ([i64 sa, i64 na, .bool ba, .slice Ara lra cra, .slice Awa lwa cwa] : List Value).toArray] w fun e w' => ∃ A' l' c', e = .returned (.slice A' l' c') ∧ Sl w' (fun k => k < w'.heap.size) u8v A' l' c' (cd ⟨sa, na, ba, ra.map RD.abs, wa⟩) ∧ l' ≤ 14000000 ∧ Ch No w w' := by
  have hrla := hra.len
  have hwla := hwa.len
  have hna := hna.old
  obtain ⟨h1, h2, h3, h4, h5, h6, h7, h8, h9⟩ := right_iff.1 hR
  have hra := hra.old
  have hwa := hwa.old
  have HC : Ch No w w := Ch.refl _ _
  refine aH (args := [_]) (n := 100) Tryz.func35 rfl rfl rfl ?_
  refine ab (aa ?_)
  refine wle rfl (bg (cs := ([i64 sa, i64 na, .bool ba, .slice Ara lra cra, .slice Awa lwa cwa] : List Value).toArray) rfl rfl rfl (fun w1 g1 hg1 hb1 hc hsz1 => ?_))
  have hzw1 := hc.size
  have hge1 := HC.geo hg1
  have HC := HC.tr hc
  have hra := hra.no hc
  have hwa := hwa.no hc
  have hna := hna.cc hc
  refine was ?_
  refine ac (ae (ab ?_))
  refine wdr (.q 0 [0, 1, 0, 1] (.st 6 0 (.st 7 1 (.st 4 2 (.st 5 2 (.st 8 2 (.st 9 0 .nil))))))) 10 No (fun w2 hc hszw2 => ?_)
  have hzw2 := hc.size
  have HC := HC.tr hc
  have hra := hra.no hc
  have hwa := hwa.no hc
  have hna := hna.cc hc
  have hb1 := hb1.no hc
  have hS : Ch No w2 w2 := Ch.refl _ _
  refine ws1 rfl (pfl 0 underlying25) ?_
  refine ws2 rfl (aE underlying3 rfl rfl (fun _ h => h.cell (fun h => h) (hb1.cell rfl))) ?_
  refine ws1 rfl (pfl 1 underlying25) ?_
  refine ws2 rfl (aE underlying3 rfl rfl (fun _ h => h.cell (fun h => h) (hb1.cell rfl))) ?_
  refine ws1 rfl (pfl 2 underlying25) ?_
  refine ws2 rfl (aE underlying4 rfl rfl (fun _ h => h.cell (fun h => h) (hb1.cell rfl))) ?_
  have hltg1 := hb1.lt
  refine ax rfl rfl (aT (E := 3) rfl rfl (fun _ => by kernel_rfl) (fun w3 g14 hg14 hb14 hc hsz14 => ⟨hc, ?_⟩))
  have hzw3 := hc.size
  have hge14 := HC.geo hg14
  have HC := HC.tr hc
  have hra := hra.no hc
  have hwa := hwa.no hc
  have hna := hna.cc hc
  have hb1 := hb1.no hc
  have hS14 := Sl.lit2 (f := i64) hb14
  refine aB hc ?_
  refine ax rfl rfl (ai i8 rfl rfl (fZ (Sl.nil (F := No)) (by omega) (hS14) (by simp) (by intro z hz; simp only [List.mem_cons, List.not_mem_nil, or_false] at hz; omega)) ?_)
  rintro _ w4 ⟨A15, l15, c15, rfl, hB15, hn15, hc⟩
  refine ⟨_, rfl, hc, ?_⟩
  have hzw4 := hc.size
  have HC := HC.tr hc
  have hra := hra.no hc
  have hwa := hwa.no hc
  have hna := hna.cc hc
  have hb1 := hb1.no hc
  refine aB hc ?_
  refine ax rfl rfl (ai oJ rfl rfl (lT (hB15) (by omega)) ?_)
  rintro _ w5 ⟨A18, l18, c18, rfl, hB18, hn18, hc⟩
  refine ⟨_, rfl, hc, ?_⟩
  have hzw5 := hc.size
  have HC := HC.tr hc
  have hra := hra.no hc
  have hwa := hwa.no hc
  have hna := hna.cc hc
  have hb1 := hb1.no hc
  refine aB hc ?_
  refine wsa ?_
  refine aW (ae (ab (aa ?_)))
  refine wmv ?_
  refine wz (pfl 3 underlying25) ?_
  refine wz (aC underlying22 hb1) ?_
  refine wz (aw underlying22 rfl) ?_
  have hltg1 := hb1.lt
  refine wle rfl (aT (E := 3) rfl rfl (fun _ => by kernel_rfl) (fun w6 g23 hg23 hb23 hc hsz23 => ?_))
  have hzw6 := hc.size
  have hge23 := HC.geo hg23
  have HC := HC.tr hc
  have hra := hra.no hc
  have hwa := hwa.no hc
  have hna := hna.cc hc
  have hb1 := hb1.no hc
  have hB18 := hB18.no hc
  have hS23 := Sl.lit1 (f := i64) hb23
  refine wle rfl (ai i8 rfl rfl (fZ (hB18) (by omega) (hS23) (by simp) (by intro z hz; simp only [List.mem_cons, List.not_mem_nil, or_false] at hz; omega)) ?_)
  rintro _ w7 ⟨A24, l24, c24, rfl, hB24, hn24, hc⟩
  refine ⟨_, rfl, ?_⟩
  have hzw7 := hc.size
  have HC := HC.tr hc
  have hra := hra.no hc
  have hwa := hwa.no hc
  have hna := hna.cc hc
  have hb1 := hb1.no hc
  refine was ?_
  refine ac (ae (ab (ab (aa ?_))))
  refine wz (pfl 3 underlying25) ?_
  refine wz (aC underlying22 hb1) ?_
  refine wz (aw underlying22 rfl) ?_
  refine wmv ?_
  refine ac (ae (ap ?_))
  refine wcl (fun mz ez uz => ∃ i : Nat, ∃ Bb : Option Addr, ∃ Lb : Nat, ∃ Cb : Nat, mz = lra - i ∧ ez = [(1, .pointer (some ⟨g1, 0, none⟩)), (3, .slice Bb Lb Cb), (26, .slice Ara lra cra), (27, i64 (lra : Int)), (28, i64 (i : Int))] ∧ (i ≤ lra) ∧ (Lb ≤ 100 + i * 200000) ∧ (Sl uz (fun k => k < uz.heap.size) u8v Bb Lb Cb (hdR sa na ba lra ++ rsB (ra.take i))) ∧ (SI uz (fun k => k < w.heap.size) eRD Ara lra cra ra) ∧ (SI uz (fun k => k < w.heap.size) ePR Awa lwa cwa wa) ∧ (NS uz (fun k => k < w.heap.size) ra) ∧ (Blk uz g1 25 ([i64 sa, i64 na, .bool ba, .slice Ara lra cra, .slice Awa lwa cwa] : List Value).toArray) ∧ (w.heap.size ≤ g1) ∧ (Ch No w uz))
   ⟨0, A24, l24, c24, rfl, rfl, by omega, by omega, (by have h := hB24.old; rw [List.take_zero]; simpa [hdR, rsB, cu, nmB] using h), hra, hwa, hna, hb1, (by omega), HC⟩ ?_
  rintro m0 e w8 ⟨i, Bb, Lb, Cb, hm0, rfl, hi, hn1, hB, hra, hwa, hna, hb1, hg1, HC⟩
  have hzw8 := HC.size
  refine ab (aa ?_)
  refine wz (aU rfl rfl) ?_
  refine ac (ae (ab ?_))
  refine aA rfl (fun c0 => ?_) (fun c0 => ?_)
  rotate_left
  ·
   have c0 := of_decide_eq_false c0
   refine aI (ah (ah (av (ae (ab (aa ?_))))))
   refine wmv ?_
   refine wz (pfl 4 underlying25) ?_
   refine wz (aC underlying23 hb1) ?_
   refine wz (aw underlying23 rfl) ?_
   have hltg1 := hb1.lt
   refine wle rfl (aT (E := 3) rfl rfl (fun _ => by kernel_rfl) (fun w55 g73 hg73 hb73 hc hsz73 => ?_))
   have hzw55 := hc.size
   have hge73 := HC.geo hg73
   have HC := HC.tr hc
   have hra := hra.no hc
   have hwa := hwa.no hc
   have hb1 := hb1.no hc
   have hB := hB.no hc
   have hS73 := Sl.lit1 (f := i64) hb73
   refine wle rfl (ai i8 rfl rfl (fZ (hB) (by omega) (hS73) (by simp) (by intro z hz; simp only [List.mem_cons, List.not_mem_nil, or_false] at hz; omega)) ?_)
   rintro _ w56 ⟨A74, l74, c74, rfl, hB74, hn74, hc⟩
   refine ⟨_, rfl, ?_⟩
   have hzw56 := hc.size
   have HC := HC.tr hc
   have hra := hra.no hc
   have hwa := hwa.no hc
   have hb1 := hb1.no hc
   have hB := hB.no hc
   refine was ?_
   refine ac (ae (ab (ab (aa ?_))))
   refine wz (pfl 4 underlying25) ?_
   refine wz (aC underlying23 hb1) ?_
   refine wz (aw underlying23 rfl) ?_
   refine wmv ?_
   refine ac (ae (ap ?_))
   refine wcl (fun mz ez uz => ∃ k : Nat, ∃ Bb : Option Addr, ∃ Lb : Nat, ∃ Cb : Nat, mz = lwa - k ∧ ez = [(1, .pointer (some ⟨g1, 0, none⟩)), (3, .slice Bb Lb Cb), (76, .slice Awa lwa cwa), (77, i64 (lwa : Int)), (78, i64 (k : Int))] ∧ (k ≤ lwa) ∧ (Lb ≤ 13500000 + k * 1000) ∧ (Sl uz (fun k => k < uz.heap.size) u8v Bb Lb Cb (hdR sa na ba lra ++ rsB ra ++ bO lwa ++ wsB (wa.take k))) ∧ (SI uz (fun k => k < w.heap.size) eRD Ara lra cra ra) ∧ (SI uz (fun k => k < w.heap.size) ePR Awa lwa cwa wa) ∧ (Blk uz g1 25 ([i64 sa, i64 na, .bool ba, .slice Ara lra cra, .slice Awa lwa cwa] : List Value).toArray) ∧ (w.heap.size ≤ g1) ∧ (Ch No w uz))
    ⟨0, A74, l74, c74, rfl, rfl, by omega, by omega, (by have h := hB74.old; rw [List.take_of_length_le (by omega)] at h; rw [List.take_zero]; simpa [wsB, nmB] using h), hra, hwa, hb1, hg1, HC⟩ ?_
   rintro m2 e w57 ⟨k, Bb, Lb, Cb, hm2, rfl, hk, hn3, hB, hra, hwa, hb1, hg1, HC⟩
   have hzw57 := HC.size
   refine ab (aa ?_)
   refine wz (aU rfl rfl) ?_
   refine ac (ae (ab ?_))
   refine aA rfl (fun c3 => ?_) (fun c3 => ?_)
   rotate_left
   ·
    have c3 := of_decide_eq_false c3
    refine aI (ah (ah (av (ae (ab (aa ?_))))))
    refine wmv ?_
    refine was ?_
    refine ac (ae (ao ?_))
    refine aj ((aK rfl rfl)) ?_
    rw [List.take_of_length_le (by omega)] at hB
    rw [mr, hrla, hwla]
    exact ⟨Bb, Lb, Cb, rfl, hB.old, by omega, HC⟩
   have c3 := of_decide_eq_true c3
   refine al (ae (ab (ap (ab (aa ?_)))))
   obtain ⟨b58, o58, x58, ex58, hA58, hr58, hx58a, hx58b⟩ := rdP k hwa
   refine wz (pxs underlying23 bA hA58) ?_
   have hyg := (h7 k (by omega)).1; rw [← ex58] at hyg
   obtain ⟨yk, yk2, yv, yd⟩ := hyg
   refine wz (pla underlying52 bA hr58) ?_
   have hltg1 := hb1.lt
   refine wle rfl (eal [Value.string ByteArray.empty, Value.string ByteArray.empty, Value.bool false] (fun w59 g9 hg9 hb9 hc hsz9 => ?_))
   have hzw59 := hc.size
   have hge9 := HC.geo hg9
   have HC := HC.tr hc
   have hra := hra.no hc
   have hwa := hwa.no hc
   have hb1 := hb1.no hc
   have hB := hB.no hc
   refine wle rfl (esw bA hb9 (fun w60 hb9 hc hsz => ?_))
   have hzw60 := hc.size
   have HC := HC.n hc
   first | have hra := hra.cc hc | have hra := hra.cT hc
   first | have hwa := hwa.cc hc | have hwa := hwa.cT hc
   have hb1 := hb1.cc hc
   first | have hB := hB.cc hc | have hB := hB.cT hc
   refine ac (ae (ab ?_))
   refine wdr (.q 0 [0, 0, 1] (.st 5 0 (.st 6 1 (.st 3 2 (.st 4 2 (.st 7 2 (.st 8 0 .nil))))))) 9 No (fun w61 hc hszw61 => ?_)
   have hzw61 := hc.size
   have HC := HC.tr hc
   have hra := hra.no hc
   have hwa := hwa.no hc
   have hb1 := hb1.no hc
   have hB := hB.no hc
   have hb9 := hb9.no hc
   have hS : Ch No w61 w61 := Ch.refl _ _
   refine wsm ?_
   refine ws1 rfl (pfl 0 underlying52) ?_
   refine ws2 rfl (aE underlying9 rfl rfl (fun _ h => h.cell (fun h => h) (hb9.cell rfl))) ?_
   refine ws1 rfl (pfl 2 underlying52) ?_
   refine ws2 rfl (aE underlying4 rfl rfl (fun _ h => h.cell (fun h => h) (hb9.cell rfl))) ?_
   have hltg1 := hb1.lt
   have hltg9 := hb9.lt
   refine ax rfl rfl (aT (E := 9) rfl rfl (fun _ => by kernel_rfl) (fun w62 g85 hg85 hb85 hc hsz85 => ⟨hc, ?_⟩))
   have hzw62 := hc.size
   have hge85 := HC.geo hg85
   have HC := HC.tr hc
   have hra := hra.no hc
   have hwa := hwa.no hc
   have hb1 := hb1.no hc
   have hB := hB.no hc
   have hb9 := hb9.no hc
   have hS85 := Sl.lit1 (f := Value.string) hb85
   refine aB hc ?_
   refine ax rfl rfl (ai fF rfl rfl (dg (hB) (by omega) (hS85) (by simp) (by intro z hz; simp only [List.mem_cons, List.not_mem_nil, or_false] at hz; (first | (rcases hz with rfl | rfl <;> omega) | (subst hz; omega)))) ?_)
   rintro _ w63 ⟨A86, l86, c86, rfl, hB86, hn86, hc⟩
   refine ⟨_, rfl, hc, ?_⟩
   have hzw63 := hc.size
   have HC := HC.tr hc
   have hra := hra.no hc
   have hwa := hwa.no hc
   have hb1 := hb1.no hc
   have hb9 := hb9.no hc
   refine aB hc ?_
   refine ax rfl rfl (ai oJ rfl rfl (lT (hB86) (by omega)) ?_)
   rintro _ w65 ⟨A89, l89, c89, rfl, hB89, hn89, hc⟩
   refine ⟨_, rfl, hc, ?_⟩
   have hzw65 := hc.size
   have HC := HC.tr hc
   have hra := hra.no hc
   have hwa := hwa.no hc
   have hb1 := hb1.no hc
   have hb9 := hb9.no hc
   refine aB hc ?_
   refine wsa ?_
   refine aW (ae (ab (aa ?_)))
   refine wz (pfl 2 underlying52) ?_
   refine wz (aC underlying4 hb9) ?_
   refine wz (bc rfl) ?_
   refine ac (ae ?_)
   refine aA rfl (fun c4 => ?_) (fun c4 => ?_)
   rotate_left
   ·
    refine al (ak (ae (aa ?_)))
    refine wz (aF rfl rfl (w64 (by omega))) ?_
    refine wmv ?_
    refine ac ?_
    refine xrn ⟨k + 1, A89, l89, c89, rfl, rfl, by omega, by omega, (by rw [gm (by omega), ← ex58, ← List.append_assoc]; have h := hB89.old; unfold jS; simpa [cu, txB, show x58.2.2 = true from (by simpa using c4)] using h), hra, hwa, hb1, hg1, HC⟩
   refine aa ?_
   refine wmv ?_
   refine wz (pfl 1 underlying52) ?_
   refine wz (aC underlying9 hb9) ?_
   have hltg1 := hb1.lt
   have hltg9 := hb9.lt
   refine wle rfl (aT (E := 9) rfl rfl (fun _ => by kernel_rfl) (fun w66 g96 hg96 hb96 hc hsz96 => ?_))
   have hzw66 := hc.size
   have hge96 := HC.geo hg96
   have HC := HC.tr hc
   have hra := hra.no hc
   have hwa := hwa.no hc
   have hb1 := hb1.no hc
   have hB89 := hB89.no hc
   have hS96 := Sl.lit1 (f := Value.string) hb96
   refine wle rfl (ai fF rfl rfl (dg (hB89) (by omega) (hS96) (by simp) (by intro z hz; simp only [List.mem_cons, List.not_mem_nil, or_false] at hz; (first | (rcases hz with rfl | rfl <;> omega) | (subst hz; omega)))) ?_)
   rintro _ w67 ⟨A97, l97, c97, rfl, hB97, hn97, hc⟩
   refine ⟨_, rfl, ?_⟩
   have hzw67 := hc.size
   have HC := HC.tr hc
   have hra := hra.no hc
   have hwa := hwa.no hc
   have hb1 := hb1.no hc
   refine was ?_
   refine ac (ak (ae (aa ?_)))
   refine wz (aF rfl rfl (w64 (by omega))) ?_
   refine wmv ?_
   refine ac ?_
   refine xrn ⟨k + 1, A97, l97, c97, rfl, rfl, by omega, by omega, (by rw [gm (by omega), ← ex58, ← List.append_assoc]; have h := hB97.old; unfold jS; simpa [cu, txB, show x58.2.2 = false from (by simpa using c4)] using h), hra, hwa, hb1, hg1, HC⟩
  have c0 := of_decide_eq_true c0
  refine al (ae (ab (ap (ab (aa ?_)))))
  obtain ⟨b9, o9, x9, ex9, hA9, hr9, hx9a, hx9b, hx9c⟩ := rdR i hra
  refine wz (pxs underlying22 cM hA9) ?_
  have hqx9 := hna.get' ex9 (by have := True.intro; omega)
  have hqlx9 := hqx9.len
  have hxg := h8 i (by omega); rw [← ex9] at hxg
  obtain ⟨gk, gt, gn, gp, gi, gz⟩ := hxg
  simp only [RD.abs] at gk gt gn gp gi gz
  refine wz (pla underlying54 cM hr9) ?_
  have hltg1 := hb1.lt
  refine wle rfl (eal [Value.bool false, Value.string ByteArray.empty, Value.string ByteArray.empty, Value.slice none 0 0] (fun w10 g5 hg5 hb5 hc hsz5 => ?_))
  have hzw10 := hc.size
  have hge5 := HC.geo hg5
  have HC := HC.tr hc
  have hra := hra.no hc
  have hwa := hwa.no hc
  have hna := hna.cc hc
  have hb1 := hb1.no hc
  have hB := hB.no hc
  have hqx9 := hqx9.no hc
  refine wle rfl (esw cM hb5 (fun w11 hb5 hc hsz => ?_))
  have hzw11 := hc.size
  have HC := HC.n hc
  first | have hra := hra.cc hc | have hra := hra.cT hc
  first | have hwa := hwa.cc hc | have hwa := hwa.cT hc
  have hna := hna.cc hc
  have hb1 := hb1.cc hc
  first | have hB := hB.cc hc | have hB := hB.cT hc
  first | have hqx9 := hqx9.cc hc | have hqx9 := hqx9.cT hc
  refine ac (ae (ab ?_))
  refine wdr (.q 0 [0, 0, 1] (.st 4 0 (.st 5 1 (.alt (.st 3 2 (.q 6 [2, 2, 0] .nil)) (.st 6 2 (.st 3 2 (.st 7 2 (.st 8 0 .nil)))))))) 9 No (fun w12 hc hszw12 => ?_)
  have hzw12 := hc.size
  have HC := HC.tr hc
  have hra := hra.no hc
  have hwa := hwa.no hc
  have hna := hna.cc hc
  have hb1 := hb1.no hc
  have hB := hB.no hc
  have hqx9 := hqx9.no hc
  have hb5 := hb5.no hc
  have hS : Ch No w12 w12 := Ch.refl _ _
  refine wsm ?_
  refine ws1 rfl (pfl 0 underlying54) ?_
  refine ws2 rfl (aE underlying4 rfl rfl (fun _ h => h.cell (fun h => h) (hb5.cell rfl))) ?_
  refine ws1 rfl (pfl 1 underlying54) ?_
  refine ws2 rfl (aE underlying9 rfl rfl (fun _ h => h.cell (fun h => h) (hb5.cell rfl))) ?_
  refine bh ?_ ?_
  ·
   refine ax rfl rfl (ai oJ rfl rfl (lT (hB) (by omega)) ?_)
   rintro _ w13 ⟨A35, l35, c35, rfl, hB35, hn35, hc⟩
   refine ⟨_, rfl, hc, ?_⟩
   have hzw13 := hc.size
   have HC := HC.tr hc
   have hra := hra.no hc
   have hwa := hwa.no hc
   have hna := hna.cc hc
   have hb1 := hb1.no hc
   have hB := hB.no hc
   have hqx9 := hqx9.no hc
   have hb5 := hb5.no hc
   refine aB hc ?_
   have hltg1 := hb1.lt
   have hltg5 := hb5.lt
   refine ax rfl rfl (aT (E := 9) rfl rfl (fun _ => by kernel_rfl) (fun w14 g38 hg38 hb38 hc hsz38 => ⟨hc, ?_⟩))
   have hzw14 := hc.size
   have hge38 := HC.geo hg38
   have HC := HC.tr hc
   have hra := hra.no hc
   have hwa := hwa.no hc
   have hna := hna.cc hc
   have hb1 := hb1.no hc
   have hB := hB.no hc
   have hqx9 := hqx9.no hc
   have hb5 := hb5.no hc
   have hB35 := hB35.no hc
   have hS38 := Sl.lit1 (f := Value.string) hb38
   refine aB hc ?_
   refine ax rfl rfl (ai fF rfl rfl (dg (hB35) (by omega) (hS38) (by simp) (by intro z hz; simp only [List.mem_cons, List.not_mem_nil, or_false] at hz; (first | (rcases hz with rfl | rfl <;> omega) | (subst hz; omega)))) ?_)
   rintro _ w15 ⟨A39, l39, c39, rfl, hB39, hn39, hc⟩
   refine ⟨_, rfl, hc, ?_⟩
   have hzw15 := hc.size
   have HC := HC.tr hc
   have hra := hra.no hc
   have hwa := hwa.no hc
   have hna := hna.cc hc
   have hb1 := hb1.no hc
   have hB := hB.no hc
   have hqx9 := hqx9.no hc
   have hb5 := hb5.no hc
   refine aB hc ?_
   refine wsa ?_
   refine aW (ae (ab (ab (aa ?_))))
   refine wz (pfl 0 underlying54) ?_
   refine wz (aC underlying4 hb5) ?_
   refine ac (ae ?_)
   refine aA rfl (fun c1 => ?_) (fun c1 => ?_)
   rotate_left
   ·
    refine al (ae (ab (aa ?_)))
    refine wmv ?_
    refine wz (pfl 3 underlying54) ?_
    refine wz (aC underlying23 hb5) ?_
    refine wz (aw underlying23 rfl) ?_
    have hltg1 := hb1.lt
    have hltg5 := hb5.lt
    refine wle rfl (aT (E := 3) rfl rfl (fun _ => by kernel_rfl) (fun w26 g51 hg51 hb51 hc hsz51 => ?_))
    have hzw26 := hc.size
    have hge51 := HC.geo hg51
    have HC := HC.tr hc
    have hra := hra.no hc
    have hwa := hwa.no hc
    have hna := hna.cc hc
    have hb1 := hb1.no hc
    have hB := hB.no hc
    have hqx9 := hqx9.no hc
    have hb5 := hb5.no hc
    have hB39 := hB39.no hc
    have hS51 := Sl.lit1 (f := i64) hb51
    refine wle rfl (ai i8 rfl rfl (fZ (hB39) (by omega) (hS51) (by simp) (by intro z hz; simp only [List.mem_cons, List.not_mem_nil, or_false] at hz; omega)) ?_)
    rintro _ w27 ⟨A52, l52, c52, rfl, hB52, hn52, hc⟩
    refine ⟨_, rfl, ?_⟩
    have hzw27 := hc.size
    have HC := HC.tr hc
    have hra := hra.no hc
    have hwa := hwa.no hc
    have hna := hna.cc hc
    have hb1 := hb1.no hc
    have hB := hB.no hc
    have hqx9 := hqx9.no hc
    have hb5 := hb5.no hc
    refine was ?_
    refine ac (ae (ab (aa ?_)))
    refine wz (pfl 3 underlying54) ?_
    refine wz (aC underlying23 hb5) ?_
    refine wz (aw underlying23 rfl) ?_
    refine wmv ?_
    refine ac (ae (ap ?_))
    have hB : Sl w27 (fun k => k < w27.heap.size) u8v A52 l52 c52 ((hdR sa na ba lra ++ rsB (ra.take i)) ++ hdX x9 ++ psB (x9.ps.take 0)) := by
      have h := hB52.old; rw [List.take_zero]; unfold hdX psB; rw [hqlx9]; simpa [cu, nmB, txB, show x9.sc = false from c1] using h
    refine wcl (fun mz ez uz => ∃ j : Nat, ∃ Bb : Option Addr, ∃ Lb : Nat, ∃ Cb : Nat, mz = x9.l - j ∧ ez = [(1, .pointer (some ⟨g1, 0, none⟩)), (3, .slice Bb Lb Cb), (26, .slice Ara lra cra), (27, i64 (lra : Int)), (28, i64 (i : Int)), (54, .slice x9.A x9.l x9.c), (55, i64 (x9.l : Int)), (56, i64 (j : Int))] ∧ (j ≤ x9.l) ∧ (Lb ≤ 1200 + i * 200000 + j * 700) ∧ (Sl uz (fun k => k < uz.heap.size) u8v Bb Lb Cb ((hdR sa na ba lra ++ rsB (ra.take i)) ++ hdX x9 ++ psB (x9.ps.take j))) ∧ (SI uz (fun k => k < w.heap.size) eRD Ara lra cra ra) ∧ (SI uz (fun k => k < w.heap.size) ePR Awa lwa cwa wa) ∧ (NS uz (fun k => k < w.heap.size) ra) ∧ (Blk uz g1 25 ([i64 sa, i64 na, .bool ba, .slice Ara lra cra, .slice Awa lwa cwa] : List Value).toArray) ∧ (w.heap.size ≤ g1) ∧ (SI uz (fun k => k < w.heap.size) ePR x9.A x9.l x9.c x9.ps) ∧ (Ch No w uz))
     ⟨0, A52, l52, c52, rfl, rfl, by omega, by omega, hB, hra, hwa, hna, hb1, hg1, hqx9, HC⟩ ?_
    rintro m1 e w28 ⟨j, Bb, Lb, Cb, hm1, rfl, hj, hn2, hB, hra, hwa, hna, hb1, hg1, hqx9, HC⟩
    have hzw28 := HC.size
    refine ab (aa ?_)
    refine wz (aU rfl rfl) ?_
    refine ac (ae (ab ?_))
    refine aA rfl (fun c2 => ?_) (fun c2 => ?_)
    rotate_left
    ·
     have c2 := of_decide_eq_false c2
     refine aI (ah (ah (av (ak (ae (aa ?_))))))
     refine wz (aF rfl rfl (w64 (by omega))) ?_
     refine wmv ?_
     refine ac ?_
     refine xrn ⟨i + 1, Bb, Lb, Cb, rfl, rfl, by omega, by omega, (by rw [tE (by omega), ← ex9, tD, ← List.append_assoc, ← List.append_assoc]; have h := hB.old; rw [show x9.ps.take j = x9.ps from List.take_of_length_le (by omega)] at h; exact h), hra, hwa, hna, hb1, hg1, HC⟩
    have c2 := of_decide_eq_true c2
    refine al (ae (ab (ap (ab (aa ?_)))))
    obtain ⟨b29, o29, x29, ex29, hA29, hr29, hx29a, hx29b⟩ := rdP j hqx9
    refine wz (pxs underlying23 bA hA29) ?_
    have hyg := (gp j (by omega)).1; rw [← ex29] at hyg
    obtain ⟨yk, yk2, yv, yd⟩ := hyg
    refine wz (pla underlying52 bA hr29) ?_
    have hltg1 := hb1.lt
    refine wle rfl (eal [Value.string ByteArray.empty, Value.string ByteArray.empty, Value.bool false] (fun w30 g7 hg7 hb7 hc hsz7 => ?_))
    have hzw30 := hc.size
    have hge7 := HC.geo hg7
    have HC := HC.tr hc
    have hra := hra.no hc
    have hwa := hwa.no hc
    have hna := hna.cc hc
    have hb1 := hb1.no hc
    have hB := hB.no hc
    have hqx9 := hqx9.no hc
    refine wle rfl (esw bA hb7 (fun w31 hb7 hc hsz => ?_))
    have hzw31 := hc.size
    have HC := HC.n hc
    first | have hra := hra.cc hc | have hra := hra.cT hc
    first | have hwa := hwa.cc hc | have hwa := hwa.cT hc
    have hna := hna.cc hc
    have hb1 := hb1.cc hc
    first | have hB := hB.cc hc | have hB := hB.cT hc
    first | have hqx9 := hqx9.cc hc | have hqx9 := hqx9.cT hc
    refine ac (ae (aa ?_))
    refine wmv ?_
    refine wz (pfl 0 underlying52) ?_
    refine wz (aC underlying9 hb7) ?_
    refine wz (pfl 1 underlying52) ?_
    refine wz (aC underlying9 hb7) ?_
    have hltg1 := hb1.lt
    have hltg7 := hb7.lt
    refine wle rfl (aT (E := 9) rfl rfl (fun _ => by kernel_rfl) (fun w32 g65 hg65 hb65 hc hsz65 => ?_))
    have hzw32 := hc.size
    have hge65 := HC.geo hg65
    have HC := HC.tr hc
    have hra := hra.no hc
    have hwa := hwa.no hc
    have hna := hna.cc hc
    have hb1 := hb1.no hc
    have hB := hB.no hc
    have hqx9 := hqx9.no hc
    have hS65 := Sl.lit2 (f := Value.string) hb65
    refine wle rfl (ai fF rfl rfl (dg (hB) (by omega) (hS65) (by simp) (by intro z hz; simp only [List.mem_cons, List.not_mem_nil, or_false] at hz; (first | (rcases hz with rfl | rfl <;> omega) | (subst hz; omega)))) ?_)
    rintro _ w33 ⟨A66, l66, c66, rfl, hB66, hn66, hc⟩
    refine ⟨_, rfl, ?_⟩
    have hzw33 := hc.size
    have HC := HC.tr hc
    have hra := hra.no hc
    have hwa := hwa.no hc
    have hna := hna.cc hc
    have hb1 := hb1.no hc
    have hqx9 := hqx9.no hc
    refine was ?_
    refine ac (ak (ae (aa ?_)))
    refine wz (aF rfl rfl (w64 (by omega))) ?_
    refine wmv ?_
    refine ac ?_
    refine xrn ⟨j + 1, A66, l66, c66, rfl, rfl, by omega, by omega, (by rw [tF (by omega), ← ex29, ← List.append_assoc]; have h := hB66.old; simpa [dH, txB] using h), hra, hwa, hna, hb1, hg1, hqx9, HC⟩
   refine aa ?_
   refine wmv ?_
   refine wz (pfl 2 underlying54) ?_
   refine wz (aC underlying9 hb5) ?_
   have hltg1 := hb1.lt
   have hltg5 := hb5.lt
   refine wle rfl (aT (E := 9) rfl rfl (fun _ => by kernel_rfl) (fun w16 g45 hg45 hb45 hc hsz45 => ?_))
   have hzw16 := hc.size
   have hge45 := HC.geo hg45
   have HC := HC.tr hc
   have hra := hra.no hc
   have hwa := hwa.no hc
   have hna := hna.cc hc
   have hb1 := hb1.no hc
   have hB := hB.no hc
   have hqx9 := hqx9.no hc
   have hb5 := hb5.no hc
   have hB39 := hB39.no hc
   have hS45 := Sl.lit1 (f := Value.string) hb45
   refine wle rfl (ai fF rfl rfl (dg (hB39) (by omega) (hS45) (by simp) (by intro z hz; simp only [List.mem_cons, List.not_mem_nil, or_false] at hz; (first | (rcases hz with rfl | rfl <;> omega) | (subst hz; omega)))) ?_)
   rintro _ w17 ⟨A46, l46, c46, rfl, hB46, hn46, hc⟩
   refine ⟨_, rfl, ?_⟩
   have hzw17 := hc.size
   have HC := HC.tr hc
   have hra := hra.no hc
   have hwa := hwa.no hc
   have hna := hna.cc hc
   have hb1 := hb1.no hc
   have hB := hB.no hc
   have hqx9 := hqx9.no hc
   have hb5 := hb5.no hc
   refine was ?_
   refine ac (ae (ab (aa ?_)))
   refine wmv ?_
   refine wz (pfl 3 underlying54) ?_
   refine wz (aC underlying23 hb5) ?_
   refine wz (aw underlying23 rfl) ?_
   have hltg1 := hb1.lt
   have hltg5 := hb5.lt
   refine wle rfl (aT (E := 3) rfl rfl (fun _ => by kernel_rfl) (fun w18 g51 hg51 hb51 hc hsz51 => ?_))
   have hzw18 := hc.size
   have hge51 := HC.geo hg51
   have HC := HC.tr hc
   have hra := hra.no hc
   have hwa := hwa.no hc
   have hna := hna.cc hc
   have hb1 := hb1.no hc
   have hB := hB.no hc
   have hqx9 := hqx9.no hc
   have hb5 := hb5.no hc
   have hB46 := hB46.no hc
   have hS51 := Sl.lit1 (f := i64) hb51
   refine wle rfl (ai i8 rfl rfl (fZ (hB46) (by omega) (hS51) (by simp) (by intro z hz; simp only [List.mem_cons, List.not_mem_nil, or_false] at hz; omega)) ?_)
   rintro _ w19 ⟨A52, l52, c52, rfl, hB52, hn52, hc⟩
   refine ⟨_, rfl, ?_⟩
   have hzw19 := hc.size
   have HC := HC.tr hc
   have hra := hra.no hc
   have hwa := hwa.no hc
   have hna := hna.cc hc
   have hb1 := hb1.no hc
   have hB := hB.no hc
   have hqx9 := hqx9.no hc
   have hb5 := hb5.no hc
   refine was ?_
   refine ac (ae (ab (aa ?_)))
   refine wz (pfl 3 underlying54) ?_
   refine wz (aC underlying23 hb5) ?_
   refine wz (aw underlying23 rfl) ?_
   refine wmv ?_
   refine ac (ae (ap ?_))
   have hB : Sl w19 (fun k => k < w19.heap.size) u8v A52 l52 c52 ((hdR sa na ba lra ++ rsB (ra.take i)) ++ hdX x9 ++ psB (x9.ps.take 0)) := by
     have h := hB52.old; rw [List.take_zero]; unfold hdX psB; rw [hqlx9]; simpa [cu, nmB, txB, show x9.sc = true from c1] using h
   refine wcl (fun mz ez uz => ∃ j : Nat, ∃ Bb : Option Addr, ∃ Lb : Nat, ∃ Cb : Nat, mz = x9.l - j ∧ ez = [(1, .pointer (some ⟨g1, 0, none⟩)), (3, .slice Bb Lb Cb), (26, .slice Ara lra cra), (27, i64 (lra : Int)), (28, i64 (i : Int)), (54, .slice x9.A x9.l x9.c), (55, i64 (x9.l : Int)), (56, i64 (j : Int))] ∧ (j ≤ x9.l) ∧ (Lb ≤ 1200 + i * 200000 + j * 700) ∧ (Sl uz (fun k => k < uz.heap.size) u8v Bb Lb Cb ((hdR sa na ba lra ++ rsB (ra.take i)) ++ hdX x9 ++ psB (x9.ps.take j))) ∧ (SI uz (fun k => k < w.heap.size) eRD Ara lra cra ra) ∧ (SI uz (fun k => k < w.heap.size) ePR Awa lwa cwa wa) ∧ (NS uz (fun k => k < w.heap.size) ra) ∧ (Blk uz g1 25 ([i64 sa, i64 na, .bool ba, .slice Ara lra cra, .slice Awa lwa cwa] : List Value).toArray) ∧ (w.heap.size ≤ g1) ∧ (SI uz (fun k => k < w.heap.size) ePR x9.A x9.l x9.c x9.ps) ∧ (Ch No w uz))
    ⟨0, A52, l52, c52, rfl, rfl, by omega, by omega, hB, hra, hwa, hna, hb1, hg1, hqx9, HC⟩ ?_
   rintro m1 e w20 ⟨j, Bb, Lb, Cb, hm1, rfl, hj, hn2, hB, hra, hwa, hna, hb1, hg1, hqx9, HC⟩
   have hzw20 := HC.size
   refine ab (aa ?_)
   refine wz (aU rfl rfl) ?_
   refine ac (ae (ab ?_))
   refine aA rfl (fun c2 => ?_) (fun c2 => ?_)
   rotate_left
   ·
    have c2 := of_decide_eq_false c2
    refine aI (ah (ah (av (ak (ae (aa ?_))))))
    refine wz (aF rfl rfl (w64 (by omega))) ?_
    refine wmv ?_
    refine ac ?_
    refine xrn ⟨i + 1, Bb, Lb, Cb, rfl, rfl, by omega, by omega, (by rw [tE (by omega), ← ex9, tD, ← List.append_assoc, ← List.append_assoc]; have h := hB.old; rw [show x9.ps.take j = x9.ps from List.take_of_length_le (by omega)] at h; exact h), hra, hwa, hna, hb1, hg1, HC⟩
   have c2 := of_decide_eq_true c2
   refine al (ae (ab (ap (ab (aa ?_)))))
   obtain ⟨b21, o21, x21, ex21, hA21, hr21, hx21a, hx21b⟩ := rdP j hqx9
   refine wz (pxs underlying23 bA hA21) ?_
   have hyg := (gp j (by omega)).1; rw [← ex21] at hyg
   obtain ⟨yk, yk2, yv, yd⟩ := hyg
   refine wz (pla underlying52 bA hr21) ?_
   have hltg1 := hb1.lt
   refine wle rfl (eal [Value.string ByteArray.empty, Value.string ByteArray.empty, Value.bool false] (fun w22 g7 hg7 hb7 hc hsz7 => ?_))
   have hzw22 := hc.size
   have hge7 := HC.geo hg7
   have HC := HC.tr hc
   have hra := hra.no hc
   have hwa := hwa.no hc
   have hna := hna.cc hc
   have hb1 := hb1.no hc
   have hB := hB.no hc
   have hqx9 := hqx9.no hc
   refine wle rfl (esw bA hb7 (fun w23 hb7 hc hsz => ?_))
   have hzw23 := hc.size
   have HC := HC.n hc
   first | have hra := hra.cc hc | have hra := hra.cT hc
   first | have hwa := hwa.cc hc | have hwa := hwa.cT hc
   have hna := hna.cc hc
   have hb1 := hb1.cc hc
   first | have hB := hB.cc hc | have hB := hB.cT hc
   first | have hqx9 := hqx9.cc hc | have hqx9 := hqx9.cT hc
   refine ac (ae (aa ?_))
   refine wmv ?_
   refine wz (pfl 0 underlying52) ?_
   refine wz (aC underlying9 hb7) ?_
   refine wz (pfl 1 underlying52) ?_
   refine wz (aC underlying9 hb7) ?_
   have hltg1 := hb1.lt
   have hltg7 := hb7.lt
   refine wle rfl (aT (E := 9) rfl rfl (fun _ => by kernel_rfl) (fun w24 g65 hg65 hb65 hc hsz65 => ?_))
   have hzw24 := hc.size
   have hge65 := HC.geo hg65
   have HC := HC.tr hc
   have hra := hra.no hc
   have hwa := hwa.no hc
   have hna := hna.cc hc
   have hb1 := hb1.no hc
   have hB := hB.no hc
   have hqx9 := hqx9.no hc
   have hS65 := Sl.lit2 (f := Value.string) hb65
   refine wle rfl (ai fF rfl rfl (dg (hB) (by omega) (hS65) (by simp) (by intro z hz; simp only [List.mem_cons, List.not_mem_nil, or_false] at hz; (first | (rcases hz with rfl | rfl <;> omega) | (subst hz; omega)))) ?_)
   rintro _ w25 ⟨A66, l66, c66, rfl, hB66, hn66, hc⟩
   refine ⟨_, rfl, ?_⟩
   have hzw25 := hc.size
   have HC := HC.tr hc
   have hra := hra.no hc
   have hwa := hwa.no hc
   have hna := hna.cc hc
   have hb1 := hb1.no hc
   have hqx9 := hqx9.no hc
   refine was ?_
   refine ac (ak (ae (aa ?_)))
   refine wz (aF rfl rfl (w64 (by omega))) ?_
   refine wmv ?_
   refine ac ?_
   refine xrn ⟨j + 1, A66, l66, c66, rfl, rfl, by omega, by omega, (by rw [tF (by omega), ← ex21, ← List.append_assoc]; have h := hB66.old; simpa [dH, txB] using h), hra, hwa, hna, hb1, hg1, hqx9, HC⟩
  have hltg1 := hb1.lt
  have hltg5 := hb5.lt
  refine ax rfl rfl (aT (E := 9) rfl rfl (fun _ => by kernel_rfl) (fun w34 g38 hg38 hb38 hc hsz38 => ⟨hc, ?_⟩))
  have hzw34 := hc.size
  have hge38 := HC.geo hg38
  have HC := HC.tr hc
  have hra := hra.no hc
  have hwa := hwa.no hc
  have hna := hna.cc hc
  have hb1 := hb1.no hc
  have hB := hB.no hc
  have hqx9 := hqx9.no hc
  have hb5 := hb5.no hc
  have hS38 := Sl.lit1 (f := Value.string) hb38
  refine aB hc ?_
  refine ax rfl rfl (ai oJ rfl rfl (lT (hB) (by omega)) ?_)
  rintro _ w35 ⟨A35, l35, c35, rfl, hB35, hn35, hc⟩
  refine ⟨_, rfl, hc, ?_⟩
  have hzw35 := hc.size
  have HC := HC.tr hc
  have hra := hra.no hc
  have hwa := hwa.no hc
  have hna := hna.cc hc
  have hb1 := hb1.no hc
  have hB := hB.no hc
  have hqx9 := hqx9.no hc
  have hb5 := hb5.no hc
  have hS38 := hS38.no hc
  refine aB hc ?_
  refine ax rfl rfl (ai fF rfl rfl (dg (hB35) (by omega) (hS38) (by simp) (by intro z hz; simp only [List.mem_cons, List.not_mem_nil, or_false] at hz; (first | (rcases hz with rfl | rfl <;> omega) | (subst hz; omega)))) ?_)
  rintro _ w36 ⟨A39, l39, c39, rfl, hB39, hn39, hc⟩
  refine ⟨_, rfl, hc, ?_⟩
  have hzw36 := hc.size
  have HC := HC.tr hc
  have hra := hra.no hc
  have hwa := hwa.no hc
  have hna := hna.cc hc
  have hb1 := hb1.no hc
  have hB := hB.no hc
  have hqx9 := hqx9.no hc
  have hb5 := hb5.no hc
  refine aB hc ?_
  refine wsa ?_
  refine aW (ae (ab (ab (aa ?_))))
  refine wz (pfl 0 underlying54) ?_
  refine wz (aC underlying4 hb5) ?_
  refine ac (ae ?_)
  refine aA rfl (fun c1 => ?_) (fun c1 => ?_)
  rotate_left
  ·
   refine al (ae (ab (aa ?_)))
   refine wmv ?_
   refine wz (pfl 3 underlying54) ?_
   refine wz (aC underlying23 hb5) ?_
   refine wz (aw underlying23 rfl) ?_
   have hltg1 := hb1.lt
   have hltg5 := hb5.lt
   refine wle rfl (aT (E := 3) rfl rfl (fun _ => by kernel_rfl) (fun w47 g51 hg51 hb51 hc hsz51 => ?_))
   have hzw47 := hc.size
   have hge51 := HC.geo hg51
   have HC := HC.tr hc
   have hra := hra.no hc
   have hwa := hwa.no hc
   have hna := hna.cc hc
   have hb1 := hb1.no hc
   have hB := hB.no hc
   have hqx9 := hqx9.no hc
   have hb5 := hb5.no hc
   have hB39 := hB39.no hc
   have hS51 := Sl.lit1 (f := i64) hb51
   refine wle rfl (ai i8 rfl rfl (fZ (hB39) (by omega) (hS51) (by simp) (by intro z hz; simp only [List.mem_cons, List.not_mem_nil, or_false] at hz; omega)) ?_)
   rintro _ w48 ⟨A52, l52, c52, rfl, hB52, hn52, hc⟩
   refine ⟨_, rfl, ?_⟩
   have hzw48 := hc.size
   have HC := HC.tr hc
   have hra := hra.no hc
   have hwa := hwa.no hc
   have hna := hna.cc hc
   have hb1 := hb1.no hc
   have hB := hB.no hc
   have hqx9 := hqx9.no hc
   have hb5 := hb5.no hc
   refine was ?_
   refine ac (ae (ab (aa ?_)))
   refine wz (pfl 3 underlying54) ?_
   refine wz (aC underlying23 hb5) ?_
   refine wz (aw underlying23 rfl) ?_
   refine wmv ?_
   refine ac (ae (ap ?_))
   have hB : Sl w48 (fun k => k < w48.heap.size) u8v A52 l52 c52 ((hdR sa na ba lra ++ rsB (ra.take i)) ++ hdX x9 ++ psB (x9.ps.take 0)) := by
     have h := hB52.old; rw [List.take_zero]; unfold hdX psB; rw [hqlx9]; simpa [cu, nmB, txB, show x9.sc = false from c1] using h
   refine wcl (fun mz ez uz => ∃ j : Nat, ∃ Bb : Option Addr, ∃ Lb : Nat, ∃ Cb : Nat, mz = x9.l - j ∧ ez = [(1, .pointer (some ⟨g1, 0, none⟩)), (3, .slice Bb Lb Cb), (26, .slice Ara lra cra), (27, i64 (lra : Int)), (28, i64 (i : Int)), (54, .slice x9.A x9.l x9.c), (55, i64 (x9.l : Int)), (56, i64 (j : Int))] ∧ (j ≤ x9.l) ∧ (Lb ≤ 1200 + i * 200000 + j * 700) ∧ (Sl uz (fun k => k < uz.heap.size) u8v Bb Lb Cb ((hdR sa na ba lra ++ rsB (ra.take i)) ++ hdX x9 ++ psB (x9.ps.take j))) ∧ (SI uz (fun k => k < w.heap.size) eRD Ara lra cra ra) ∧ (SI uz (fun k => k < w.heap.size) ePR Awa lwa cwa wa) ∧ (NS uz (fun k => k < w.heap.size) ra) ∧ (Blk uz g1 25 ([i64 sa, i64 na, .bool ba, .slice Ara lra cra, .slice Awa lwa cwa] : List Value).toArray) ∧ (w.heap.size ≤ g1) ∧ (SI uz (fun k => k < w.heap.size) ePR x9.A x9.l x9.c x9.ps) ∧ (Ch No w uz))
    ⟨0, A52, l52, c52, rfl, rfl, by omega, by omega, hB, hra, hwa, hna, hb1, hg1, hqx9, HC⟩ ?_
   rintro m1 e w49 ⟨j, Bb, Lb, Cb, hm1, rfl, hj, hn2, hB, hra, hwa, hna, hb1, hg1, hqx9, HC⟩
   have hzw49 := HC.size
   refine ab (aa ?_)
   refine wz (aU rfl rfl) ?_
   refine ac (ae (ab ?_))
   refine aA rfl (fun c2 => ?_) (fun c2 => ?_)
   rotate_left
   ·
    have c2 := of_decide_eq_false c2
    refine aI (ah (ah (av (ak (ae (aa ?_))))))
    refine wz (aF rfl rfl (w64 (by omega))) ?_
    refine wmv ?_
    refine ac ?_
    refine xrn ⟨i + 1, Bb, Lb, Cb, rfl, rfl, by omega, by omega, (by rw [tE (by omega), ← ex9, tD, ← List.append_assoc, ← List.append_assoc]; have h := hB.old; rw [show x9.ps.take j = x9.ps from List.take_of_length_le (by omega)] at h; exact h), hra, hwa, hna, hb1, hg1, HC⟩
   have c2 := of_decide_eq_true c2
   refine al (ae (ab (ap (ab (aa ?_)))))
   obtain ⟨b50, o50, x50, ex50, hA50, hr50, hx50a, hx50b⟩ := rdP j hqx9
   refine wz (pxs underlying23 bA hA50) ?_
   have hyg := (gp j (by omega)).1; rw [← ex50] at hyg
   obtain ⟨yk, yk2, yv, yd⟩ := hyg
   refine wz (pla underlying52 bA hr50) ?_
   have hltg1 := hb1.lt
   refine wle rfl (eal [Value.string ByteArray.empty, Value.string ByteArray.empty, Value.bool false] (fun w51 g7 hg7 hb7 hc hsz7 => ?_))
   have hzw51 := hc.size
   have hge7 := HC.geo hg7
   have HC := HC.tr hc
   have hra := hra.no hc
   have hwa := hwa.no hc
   have hna := hna.cc hc
   have hb1 := hb1.no hc
   have hB := hB.no hc
   have hqx9 := hqx9.no hc
   refine wle rfl (esw bA hb7 (fun w52 hb7 hc hsz => ?_))
   have hzw52 := hc.size
   have HC := HC.n hc
   first | have hra := hra.cc hc | have hra := hra.cT hc
   first | have hwa := hwa.cc hc | have hwa := hwa.cT hc
   have hna := hna.cc hc
   have hb1 := hb1.cc hc
   first | have hB := hB.cc hc | have hB := hB.cT hc
   first | have hqx9 := hqx9.cc hc | have hqx9 := hqx9.cT hc
   refine ac (ae (aa ?_))
   refine wmv ?_
   refine wz (pfl 0 underlying52) ?_
   refine wz (aC underlying9 hb7) ?_
   refine wz (pfl 1 underlying52) ?_
   refine wz (aC underlying9 hb7) ?_
   have hltg1 := hb1.lt
   have hltg7 := hb7.lt
   refine wle rfl (aT (E := 9) rfl rfl (fun _ => by kernel_rfl) (fun w53 g65 hg65 hb65 hc hsz65 => ?_))
   have hzw53 := hc.size
   have hge65 := HC.geo hg65
   have HC := HC.tr hc
   have hra := hra.no hc
   have hwa := hwa.no hc
   have hna := hna.cc hc
   have hb1 := hb1.no hc
   have hB := hB.no hc
   have hqx9 := hqx9.no hc
   have hS65 := Sl.lit2 (f := Value.string) hb65
   refine wle rfl (ai fF rfl rfl (dg (hB) (by omega) (hS65) (by simp) (by intro z hz; simp only [List.mem_cons, List.not_mem_nil, or_false] at hz; (first | (rcases hz with rfl | rfl <;> omega) | (subst hz; omega)))) ?_)
   rintro _ w54 ⟨A66, l66, c66, rfl, hB66, hn66, hc⟩
   refine ⟨_, rfl, ?_⟩
   have hzw54 := hc.size
   have HC := HC.tr hc
   have hra := hra.no hc
   have hwa := hwa.no hc
   have hna := hna.cc hc
   have hb1 := hb1.no hc
   have hqx9 := hqx9.no hc
   refine was ?_
   refine ac (ak (ae (aa ?_)))
   refine wz (aF rfl rfl (w64 (by omega))) ?_
   refine wmv ?_
   refine ac ?_
   refine xrn ⟨j + 1, A66, l66, c66, rfl, rfl, by omega, by omega, (by rw [tF (by omega), ← ex50, ← List.append_assoc]; have h := hB66.old; simpa [dH, txB] using h), hra, hwa, hna, hb1, hg1, hqx9, HC⟩
  refine aa ?_
  refine wmv ?_
  refine wz (pfl 2 underlying54) ?_
  refine wz (aC underlying9 hb5) ?_
  have hltg1 := hb1.lt
  have hltg5 := hb5.lt
  refine wle rfl (aT (E := 9) rfl rfl (fun _ => by kernel_rfl) (fun w37 g45 hg45 hb45 hc hsz45 => ?_))
  have hzw37 := hc.size
  have hge45 := HC.geo hg45
  have HC := HC.tr hc
  have hra := hra.no hc
  have hwa := hwa.no hc
  have hna := hna.cc hc
  have hb1 := hb1.no hc
  have hB := hB.no hc
  have hqx9 := hqx9.no hc
  have hb5 := hb5.no hc
  have hB39 := hB39.no hc
  have hS45 := Sl.lit1 (f := Value.string) hb45
  refine wle rfl (ai fF rfl rfl (dg (hB39) (by omega) (hS45) (by simp) (by intro z hz; simp only [List.mem_cons, List.not_mem_nil, or_false] at hz; (first | (rcases hz with rfl | rfl <;> omega) | (subst hz; omega)))) ?_)
  rintro _ w38 ⟨A46, l46, c46, rfl, hB46, hn46, hc⟩
  refine ⟨_, rfl, ?_⟩
  have hzw38 := hc.size
  have HC := HC.tr hc
  have hra := hra.no hc
  have hwa := hwa.no hc
  have hna := hna.cc hc
  have hb1 := hb1.no hc
  have hB := hB.no hc
  have hqx9 := hqx9.no hc
  have hb5 := hb5.no hc
  refine was ?_
  refine ac (ae (ab (aa ?_)))
  refine wmv ?_
  refine wz (pfl 3 underlying54) ?_
  refine wz (aC underlying23 hb5) ?_
  refine wz (aw underlying23 rfl) ?_
  have hltg1 := hb1.lt
  have hltg5 := hb5.lt
  refine wle rfl (aT (E := 3) rfl rfl (fun _ => by kernel_rfl) (fun w39 g51 hg51 hb51 hc hsz51 => ?_))
  have hzw39 := hc.size
  have hge51 := HC.geo hg51
  have HC := HC.tr hc
  have hra := hra.no hc
  have hwa := hwa.no hc
  have hna := hna.cc hc
  have hb1 := hb1.no hc
  have hB := hB.no hc
  have hqx9 := hqx9.no hc
  have hb5 := hb5.no hc
  have hB46 := hB46.no hc
  have hS51 := Sl.lit1 (f := i64) hb51
  refine wle rfl (ai i8 rfl rfl (fZ (hB46) (by omega) (hS51) (by simp) (by intro z hz; simp only [List.mem_cons, List.not_mem_nil, or_false] at hz; omega)) ?_)
  rintro _ w40 ⟨A52, l52, c52, rfl, hB52, hn52, hc⟩
  refine ⟨_, rfl, ?_⟩
  have hzw40 := hc.size
  have HC := HC.tr hc
  have hra := hra.no hc
  have hwa := hwa.no hc
  have hna := hna.cc hc
  have hb1 := hb1.no hc
  have hB := hB.no hc
  have hqx9 := hqx9.no hc
  have hb5 := hb5.no hc
  refine was ?_
  refine ac (ae (ab (aa ?_)))
  refine wz (pfl 3 underlying54) ?_
  refine wz (aC underlying23 hb5) ?_
  refine wz (aw underlying23 rfl) ?_
  refine wmv ?_
  refine ac (ae (ap ?_))
  have hB : Sl w40 (fun k => k < w40.heap.size) u8v A52 l52 c52 ((hdR sa na ba lra ++ rsB (ra.take i)) ++ hdX x9 ++ psB (x9.ps.take 0)) := by
    have h := hB52.old; rw [List.take_zero]; unfold hdX psB; rw [hqlx9]; simpa [cu, nmB, txB, show x9.sc = true from c1] using h
  refine wcl (fun mz ez uz => ∃ j : Nat, ∃ Bb : Option Addr, ∃ Lb : Nat, ∃ Cb : Nat, mz = x9.l - j ∧ ez = [(1, .pointer (some ⟨g1, 0, none⟩)), (3, .slice Bb Lb Cb), (26, .slice Ara lra cra), (27, i64 (lra : Int)), (28, i64 (i : Int)), (54, .slice x9.A x9.l x9.c), (55, i64 (x9.l : Int)), (56, i64 (j : Int))] ∧ (j ≤ x9.l) ∧ (Lb ≤ 1200 + i * 200000 + j * 700) ∧ (Sl uz (fun k => k < uz.heap.size) u8v Bb Lb Cb ((hdR sa na ba lra ++ rsB (ra.take i)) ++ hdX x9 ++ psB (x9.ps.take j))) ∧ (SI uz (fun k => k < w.heap.size) eRD Ara lra cra ra) ∧ (SI uz (fun k => k < w.heap.size) ePR Awa lwa cwa wa) ∧ (NS uz (fun k => k < w.heap.size) ra) ∧ (Blk uz g1 25 ([i64 sa, i64 na, .bool ba, .slice Ara lra cra, .slice Awa lwa cwa] : List Value).toArray) ∧ (w.heap.size ≤ g1) ∧ (SI uz (fun k => k < w.heap.size) ePR x9.A x9.l x9.c x9.ps) ∧ (Ch No w uz))
   ⟨0, A52, l52, c52, rfl, rfl, by omega, by omega, hB, hra, hwa, hna, hb1, hg1, hqx9, HC⟩ ?_
  rintro m1 e w41 ⟨j, Bb, Lb, Cb, hm1, rfl, hj, hn2, hB, hra, hwa, hna, hb1, hg1, hqx9, HC⟩
  have hzw41 := HC.size
  refine ab (aa ?_)
  refine wz (aU rfl rfl) ?_
  refine ac (ae (ab ?_))
  refine aA rfl (fun c2 => ?_) (fun c2 => ?_)
  rotate_left
  ·
   have c2 := of_decide_eq_false c2
   refine aI (ah (ah (av (ak (ae (aa ?_))))))
   refine wz (aF rfl rfl (w64 (by omega))) ?_
   refine wmv ?_
   refine ac ?_
   refine xrn ⟨i + 1, Bb, Lb, Cb, rfl, rfl, by omega, by omega, (by rw [tE (by omega), ← ex9, tD, ← List.append_assoc, ← List.append_assoc]; have h := hB.old; rw [show x9.ps.take j = x9.ps from List.take_of_length_le (by omega)] at h; exact h), hra, hwa, hna, hb1, hg1, HC⟩
  have c2 := of_decide_eq_true c2
  refine al (ae (ab (ap (ab (aa ?_)))))
  obtain ⟨b42, o42, x42, ex42, hA42, hr42, hx42a, hx42b⟩ := rdP j hqx9
  refine wz (pxs underlying23 bA hA42) ?_
  have hyg := (gp j (by omega)).1; rw [← ex42] at hyg
  obtain ⟨yk, yk2, yv, yd⟩ := hyg
  refine wz (pla underlying52 bA hr42) ?_
  have hltg1 := hb1.lt
  refine wle rfl (eal [Value.string ByteArray.empty, Value.string ByteArray.empty, Value.bool false] (fun w43 g7 hg7 hb7 hc hsz7 => ?_))
  have hzw43 := hc.size
  have hge7 := HC.geo hg7
  have HC := HC.tr hc
  have hra := hra.no hc
  have hwa := hwa.no hc
  have hna := hna.cc hc
  have hb1 := hb1.no hc
  have hB := hB.no hc
  have hqx9 := hqx9.no hc
  refine wle rfl (esw bA hb7 (fun w44 hb7 hc hsz => ?_))
  have hzw44 := hc.size
  have HC := HC.n hc
  first | have hra := hra.cc hc | have hra := hra.cT hc
  first | have hwa := hwa.cc hc | have hwa := hwa.cT hc
  have hna := hna.cc hc
  have hb1 := hb1.cc hc
  first | have hB := hB.cc hc | have hB := hB.cT hc
  first | have hqx9 := hqx9.cc hc | have hqx9 := hqx9.cT hc
  refine ac (ae (aa ?_))
  refine wmv ?_
  refine wz (pfl 0 underlying52) ?_
  refine wz (aC underlying9 hb7) ?_
  refine wz (pfl 1 underlying52) ?_
  refine wz (aC underlying9 hb7) ?_
  have hltg1 := hb1.lt
  have hltg7 := hb7.lt
  refine wle rfl (aT (E := 9) rfl rfl (fun _ => by kernel_rfl) (fun w45 g65 hg65 hb65 hc hsz65 => ?_))
  have hzw45 := hc.size
  have hge65 := HC.geo hg65
  have HC := HC.tr hc
  have hra := hra.no hc
  have hwa := hwa.no hc
  have hna := hna.cc hc
  have hb1 := hb1.no hc
  have hB := hB.no hc
  have hqx9 := hqx9.no hc
  have hS65 := Sl.lit2 (f := Value.string) hb65
  refine wle rfl (ai fF rfl rfl (dg (hB) (by omega) (hS65) (by simp) (by intro z hz; simp only [List.mem_cons, List.not_mem_nil, or_false] at hz; (first | (rcases hz with rfl | rfl <;> omega) | (subst hz; omega)))) ?_)
  rintro _ w46 ⟨A66, l66, c66, rfl, hB66, hn66, hc⟩
  refine ⟨_, rfl, ?_⟩
  have hzw46 := hc.size
  have HC := HC.tr hc
  have hra := hra.no hc
  have hwa := hwa.no hc
  have hna := hna.cc hc
  have hb1 := hb1.no hc
  have hqx9 := hqx9.no hc
  refine was ?_
  refine ac (ak (ae (aa ?_)))
  refine wz (aF rfl rfl (w64 (by omega))) ?_
  refine wmv ?_
  refine ac ?_
  refine xrn ⟨j + 1, A66, l66, c66, rfl, rfl, by omega, by omega, (by rw [tF (by omega), ← ex42, ← List.append_assoc]; have h := hB66.old; simpa [dH, txB] using h), hra, hwa, hna, hb1, hg1, hqx9, HC⟩

theorem rf {w : World} {y : Pr}  (ho : OkP y) :
    Calls Tryz.prog 161 #[.agg ([.string y.1, .string y.2.1, .bool y.2.2] : List Value).toArray] w fun e w' => e = .returned (.bool true) ∧ Ch No w w' := by
  obtain ⟨k1, k2, kv, kd⟩ := ho
  have HC : Ch No w w := Ch.refl _ _
  refine aH (args := [_]) (n := 28) Tryz.func161 rfl rfl rfl ?_
  refine ab (aa ?_)
  refine wle rfl (bg (cs := ([.string y.1, .string y.2.1, .bool y.2.2] : List Value).toArray) rfl rfl rfl (fun w1 g1 hg1 hb1 hc hsz1 => ?_))
  have hzw1 := hc.size
  have hge1 := HC.geo hg1
  have HC := HC.tr hc
  refine was ?_
  refine ac (ae (ab (aa ?_)))
  refine wz (pfl 0 underlying52) ?_
  refine wz (aC underlying9 hb1) ?_
  refine wz (iB rfl rfl) ?_
  refine wmv ?_
  refine bH (d := 6) (b' := true) rfl (ne_nil k1) ?_
  refine aq gq rfl rfl (pfl 0 underlying52) ?_
  refine aq gq rfl rfl (aC underlying9 hb1) ?_
  refine aq gq rfl rfl (bQ underlying9 rfl) ?_
  refine aq gq rfl rfl (qq rfl rfl) ?_
  refine wz (am rfl rfl) ?_
  refine wmv ?_
  refine bH (d := 12) (b' := true) rfl (decide_eq_true (by omega)) ?_
  refine aq gq rfl rfl (pfl 1 underlying52) ?_
  refine aq gq rfl rfl (aC underlying9 hb1) ?_
  refine aq gq rfl rfl (bQ underlying9 rfl) ?_
  refine aq gq rfl rfl (qq rfl rfl) ?_
  refine wz (am rfl rfl) ?_
  refine wmv ?_
  refine bH (d := 18) (b' := true) rfl (decide_eq_true (by omega)) ?_
  refine aq gq rfl rfl (pfl 2 underlying52) ?_
  refine aq gq rfl rfl (aC underlying4 hb1) ?_
  refine aq gq rfl rfl (bc rfl) ?_
  refine aq gq rfl rfl (aS rfl) ?_
  refine az (d := 22) rfl (fun q22 => ?_) (fun q22 => ?_)
  ·
   iterate 3 refine aM gq rfl rfl ?_
   refine aq gq rfl rfl (am rfl rfl) ?_
   refine wz (am rfl rfl) ?_
   refine was ?_
   refine ac (ae (ao ?_))
   refine aj ((aK rfl rfl)) ?_
   exact ⟨rfl, HC⟩
  refine aq gq rfl rfl (pfl 1 underlying52) ?_
  refine aq gq rfl rfl (aC underlying9 hb1) ?_
  refine aq gq rfl rfl (jc rfl rfl) ?_
  refine aq gq rfl rfl (ar rfl rfl) ?_
  refine wz (am rfl rfl) ?_
  refine was ?_
  refine ac (ae (ao ?_))
  refine aj ((aK rfl rfl)) ?_
  rw [oY (kd (by simpa using q22))]; exact ⟨rfl, HC⟩

theorem jL {w : World} {Ap : Option Addr} {lp cp : Nat} {Fp : Nat → Prop} {p : List Pr}  (hp : SI w Fp ePR Ap lp cp p) (hlp : lp ≤ 140737488351232) (hG : dk p) :
    Calls Tryz.prog 93 #[.slice Ap lp cp] w fun e w' => e = .returned (.bool true) ∧ Ch No w w' := by
  have hpl := hp.len
  have hp := hp.old
  have HC : Ch No w w := Ch.refl _ _
  refine aH (args := [.slice Ap lp cp]) (n := 31) Tryz.func93 rfl rfl rfl ?_
  refine ab (aa ?_)
  refine was ?_
  refine ac (ae (ab (ab (aa ?_))))
  refine wmv ?_
  refine wz (aw underlying23 rfl) ?_
  refine wmv ?_
  refine ac (ae (ap ?_))
  refine wcl (fun mz ez uz => ∃ i : Nat, mz = lp - i ∧ ez = [(0, .slice Ap lp cp), (5, .slice Ap lp cp), (6, i64 (lp : Int)), (7, i64 (i : Int))] ∧ (i ≤ lp) ∧ (SI uz (fun k => k < w.heap.size) ePR Ap lp cp p) ∧ (Ch No w uz))
   ⟨0, rfl, rfl, by omega, hp, HC⟩ ?_
  rintro m0 e w1 ⟨i, hm0, rfl, hi, hp, HC⟩
  have hzw1 := HC.size
  refine ab (aa ?_)
  refine wz (aU rfl rfl) ?_
  refine ac (ae (ab ?_))
  refine aA rfl (fun c0 => ?_) (fun c0 => ?_)
  rotate_left
  ·
   have c0 := of_decide_eq_false c0
   refine aI (ah (ah (av (ae (ab (aa ?_))))))
   refine was ?_
   refine ac (ae (ao ?_))
   refine aj ((aK rfl rfl)) ?_
   exact ⟨rfl, HC⟩
  have c0 := of_decide_eq_true c0
  refine al (ae (ab (ap (ab (aa ?_)))))
  refine wmv ?_
  obtain ⟨b2, o2, x2, ex2, hA2, hr2, hx2a, hx2b⟩ := rdP i hp
  refine wz (pxs underlying23 bA hA2) ?_
  have hokx2 := (hG i (by omega)).1; rw [← ex2] at hokx2
  refine wz (pla underlying52 bA hr2) ?_
  refine wle rfl (eal [Value.string ByteArray.empty, Value.string ByteArray.empty, Value.bool false] (fun w3 g4 hg4 hb4 hc hsz4 => ?_))
  have hzw3 := hc.size
  have hge4 := HC.geo hg4
  have HC := HC.tr hc
  have hp := hp.no hc
  refine was ?_
  refine wle rfl (esw bA hb4 (fun w4 hb4 hc hsz => ?_))
  have hzw4 := hc.size
  have HC := HC.n hc
  first | have hp := hp.cc hc | have hp := hp.cT hc
  refine ac (ae (ab ?_))
  refine wdr (.q 0 [1, 2, 0, 0, 0, 0, 0, 0, 0, 0, 0, 0, 1, 0, 1, 0, 0, 0] .nil) 18 No (fun w5 hc hszw5 => ?_)
  have hzw5 := hc.size
  have HC := HC.tr hc
  have hp := hp.no hc
  have hb4 := hb4.no hc
  have hS : Ch No w5 w5 := Ch.refl _ _
  refine ws2 rfl (plh underlying52 bA (aN hb4)) ?_
  refine ax rfl rfl (ai ent161 rfl rfl (rf (y := x2) hokx2) ?_)
  rintro _ w6 ⟨rfl, hc⟩
  refine ⟨_, rfl, hc, ?_⟩
  have hzw6 := hc.size
  have HC := HC.tr hc
  have hp := hp.no hc
  have hb4 := hb4.no hc
  refine aB hc ?_
  refine ws1 rfl (bc rfl) ?_
  refine wsm ?_
  refine aL rfl gq rfl rfl (aS rfl) ?_
  refine aL rfl gq rfl rfl (bM rfl rfl) ?_
  refine aL rfl gq rfl rfl (aS rfl) ?_
  refine bV (d := 18) rfl (fun q18 => ?_) (fun q18 => ?_)
  ·
   have q18 := of_decide_eq_true q18
   refine aL rfl gq rfl rfl (aS rfl) ?_
   refine aL rfl gq rfl rfl (aS rfl) ?_
   refine aL rfl gq rfl rfl (aZ rfl rfl (w64 (by omega))) ?_
   obtain ⟨b7, o7, x7, ex7, hA7, hr7, hx7a, hx7b⟩ := rdP (i - 1) hp
   refine aL rfl gq rfl rfl (du (j := ((i - 1)) * 3) underlying23 bA rfl hA7 rfl (by omega) (by omega) (congrArg (· * 3) (by omega))) ?_
   have hless := (hG i (by omega)).2 (by omega); rw [← ex2, ← ex7] at hless
   refine aL rfl gq rfl rfl (pfl 0 underlying52) ?_
   refine cR rfl gq rfl rfl (aE underlying9 rfl rfl (fun _ h => (cE hr7 h) 0 _ rfl)) ?_
   refine aL rfl gq rfl rfl (pfl 0 underlying52) ?_
   refine cR rfl gq rfl rfl (aE underlying9 rfl rfl (fun _ h => h.cell (fun h => h) (hb4.cell rfl))) ?_
   refine aL rfl gq rfl rfl (sn rfl rfl) ?_
   refine aL rfl gq rfl rfl (am rfl rfl) ?_
   refine ws1 rfl (ar rfl rfl) ?_
   refine aW (ae ?_)
   refine bx rfl ((by rw [show Op.bytesLess _ _ = true from hless]; rfl)) ?_
   refine al (ak (ae (aa ?_)))
   refine wz (aF rfl rfl (w64 (by omega))) ?_
   refine wmv ?_
   refine ac ?_
   refine xrn ⟨i + 1, rfl, rfl, by omega, hp, HC⟩
  have q18 := of_decide_eq_false q18
  iterate 9 refine dy rfl gq rfl rfl ?_
  refine aL rfl gq rfl rfl (ar rfl rfl) ?_
  refine ws1 rfl (ar rfl rfl) ?_
  refine aW (ae ?_)
  refine bx rfl (rfl) ?_
  refine al (ak (ae (aa ?_)))
  refine wz (aF rfl rfl (w64 (by omega))) ?_
  refine wmv ?_
  refine ac ?_
  refine xrn ⟨i + 1, rfl, rfl, by omega, hp, HC⟩

theorem pin_any {w : World} {x : RD} {y : Pr}  (hin : InR x.abs y) :
    Calls Tryz.prog 164 #[.agg ([.bool x.sc, .string x.key, .string x.to, .slice x.A x.l x.c] : List Value).toArray, .agg ([.string y.1, .string y.2.1, .bool y.2.2] : List Value).toArray] w fun e w' => e = .returned (.bool true) ∧ Ch No w w' := by
  obtain ⟨i1, i2, i3⟩ := hin
  simp only [RD.abs, ltB] at i2 i3
  have HC : Ch No w w := Ch.refl _ _
  refine aH (args := [_, _]) (n := 26) Tryz.func164 rfl rfl rfl ?_
  refine ab (aa ?_)
  refine wle rfl (bg (cs := ([.bool x.sc, .string x.key, .string x.to, .slice x.A x.l x.c] : List Value).toArray) rfl rfl rfl (fun w1 g2 hg2 hb2 hc hsz2 => ?_))
  have hzw1 := hc.size
  have hge2 := HC.geo hg2
  have HC := HC.tr hc
  have hltg2 := hb2.lt
  refine wle rfl (bg (cs := ([.string y.1, .string y.2.1, .bool y.2.2] : List Value).toArray) rfl rfl rfl (fun w2 g3 hg3 hb3 hc hsz3 => ?_))
  have hzw2 := hc.size
  have hge3 := HC.geo hg3
  have HC := HC.tr hc
  have hb2 := hb2.no hc
  refine was ?_
  refine ac (ae (ab (ab (aa ?_))))
  refine wz (pfl 2 underlying52) ?_
  refine wz (aC underlying4 hb3) ?_
  refine ac (ae ?_)
  refine bx rfl (i1) ?_
  refine al (ae (ab (ab (aa ?_))))
  refine wz (pfl 0 underlying54) ?_
  refine wz (aC underlying4 hb2) ?_
  refine ac (ae ?_)
  refine aA rfl (fun c1 => ?_) (fun c1 => ?_)
  ·
   refine ab (aa ?_)
   refine wz (pfl 0 underlying52) ?_
   refine wz (aC underlying9 hb3) ?_
   refine wz (pfl 1 underlying54) ?_
   refine wz (aC underlying9 hb2) ?_
   refine wz (sn rfl rfl) ?_
   refine wmv ?_
   refine bH (d := 14) (b' := true) rfl ((by rw [(i2 c1).1]; rfl)) ?_
   refine aq gq rfl rfl (pfl 0 underlying52) ?_
   refine aq gq rfl rfl (aC underlying9 hb3) ?_
   refine aq gq rfl rfl (pfl 2 underlying54) ?_
   refine aq gq rfl rfl (aC underlying9 hb2) ?_
   refine aq gq rfl rfl (p_ltT rfl rfl) ?_
   refine wz (am rfl rfl) ?_
   refine was ?_
   refine ac (ae (ao (ag ?_)))
   refine aj ((aK rfl rfl)) ?_
   rw [(i2 c1).2]; exact ⟨rfl, HC⟩
  refine al (ae (ab (aa ?_)))
  refine wz (pfl 0 underlying52) ?_
  refine wz (aC underlying9 hb3) ?_
  refine wz (pfl 1 underlying54) ?_
  refine wz (aC underlying9 hb2) ?_
  refine wz (jc rfl rfl) ?_
  refine was ?_
  refine ac (ae (ao ?_))
  refine aj ((aK rfl rfl)) ?_
  rw [fS (i3 c1)]; exact ⟨rfl, HC⟩

theorem tv {w : World} {x : RD} {y : Pr} {g1 : Nat}  (hb1 : Blk w g1 54 ([.bool x.sc, .string x.key, .string x.to, .slice x.A x.l x.c] : List Value).toArray) (hin : InR x.abs y) :
  Calls Tryz.prog 163 #[.agg ([.string y.1, .string y.2.1, .bool y.2.2] : List Value).toArray, .pointer (some ⟨g1, 0, none⟩)] w fun e w' => e = .returned (.bool false) ∧ Ch No w w' := by
 have HC : Ch No w w := Ch.refl _ _
 refine aH (args := [_, _]) (n := 8) Tryz.func163 rfl rfl rfl ?_
 refine ab (aa ?_)
 have hltg1 := hb1.lt
 refine wle rfl (bg (cs := ([.string y.1, .string y.2.1, .bool y.2.2] : List Value).toArray) rfl rfl rfl (fun w1 g2 hg2 hb2 hc hsz2 => ?_))
 have hzw1 := hc.size
 have hge2 := HC.geo hg2
 have HC := HC.tr hc
 have hb1 := hb1.no hc
 refine was ?_
 refine ac (ae (ab (aa ?_)))
 refine wz (pla underlying54 cM (aN hb1)) ?_
 refine wz (pla underlying52 bA (aN hb2)) ?_
 refine wle rfl (ai ent164 rfl rfl (pin_any (x := x) (y := y) hin) ?_)
 rintro _ w2 ⟨rfl, hc⟩
 refine ⟨_, rfl, ?_⟩
 have hzw2 := hc.size
 have HC := HC.tr hc
 refine wz (bc rfl) ?_
 refine was ?_
 refine ac (ae (ao ?_))
 refine aj ((aK rfl rfl)) ?_
 exact ⟨rfl, HC⟩

theorem tw {w : World} {Ap : Option Addr} {lp cp : Nat} {Fp : Nat → Prop} {p : List Pr}  {x : RD} {g1 : Nat}  (hp : SI w Fp ePR Ap lp cp p) (hb1 : Blk w g1 54 ([.bool x.sc, .string x.key, .string x.to, .slice x.A x.l x.c] : List Value).toArray) (hin : ∀ j, j < p.length → InR x.abs (p.getD j Pr0)) (hlp : lp ≤ 140737488351232) :
    Calls Tryz.prog 215 #[.slice Ap lp cp, .func (.func 163) #[] #[.pointer (some ⟨g1, 0, none⟩)]] w fun e w' => e = .returned (i64 (-1)) ∧ Ch No w w' := by
  have hpl := hp.len
  have hlt1 := hb1.lt
  have hp := hp.old
  have HC : Ch No w w := Ch.refl _ _
  refine aH (args := [.slice Ap lp cp, .func (.func 163) #[] #[.pointer (some ⟨g1, 0, none⟩)]]) (n := 19) Tryz.func215 rfl rfl rfl ?_
  refine ab (aa ?_)
  refine was ?_
  refine ac (ae (ab (ab (aa ?_))))
  refine wmv ?_
  refine wz (aw underlying23 rfl) ?_
  refine wmv ?_
  refine ac (ae (ap ?_))
  refine wcl (fun mz ez uz => ∃ k : Nat, mz = lp - k ∧ ez = [(0, .slice Ap lp cp), (1, .func (.func 163) #[] #[.pointer (some ⟨g1, 0, none⟩)]), (7, i64 (lp : Int)), (8, i64 (k : Int))] ∧ (k ≤ lp) ∧ (SI uz (fun k => k < w.heap.size) ePR Ap lp cp p) ∧ (Blk uz g1 54 ([.bool x.sc, .string x.key, .string x.to, .slice x.A x.l x.c] : List Value).toArray) ∧ (Ch No w uz))
   ⟨0, rfl, rfl, by omega, hp, hb1, HC⟩ ?_
  rintro m0 e w1 ⟨k, hm0, rfl, hk, hp, hb1, HC⟩
  have hzw1 := HC.size
  refine ab (aa ?_)
  refine wz (aU rfl rfl) ?_
  refine ac (ae (ab ?_))
  refine aA rfl (fun c0 => ?_) (fun c0 => ?_)
  rotate_left
  ·
   have c0 := of_decide_eq_false c0
   refine aI (ah (ah (av (ae (ab (aa ?_))))))
   refine was ?_
   refine ac (ae (ao ?_))
   refine aj ((aK rfl rfl)) ?_
   exact ⟨rfl, HC⟩
  have c0 := of_decide_eq_true c0
  refine al (ae (ab (ap (ab (aa ?_)))))
  refine wmv ?_
  refine was ?_
  refine ac (ae (ab (aa ?_)))
  iterate 3 refine wmv ?_
  obtain ⟨b2, o2, x2, ex2, hA2, hr2, hx2a, hx2b⟩ := rdP k hp
  refine wz (pxs underlying23 bA hA2) ?_
  have hinx2 := hin k (by omega); rw [← ex2] at hinx2
  refine wz (pla underlying52 bA hr2) ?_
  refine wle rfl (e_callV ent163 rfl rfl rfl (tv (x := x) (y := x2) hb1 hinx2) ?_)
  rintro _ w3 ⟨rfl, hc⟩
  refine ⟨_, rfl, ?_⟩
  have hzw3 := hc.size
  have HC := HC.tr hc
  have hp := hp.no hc
  have hb1 := hb1.no hc
  refine ac (ae ?_)
  refine bx rfl (rfl) ?_
  refine al (ak (ae (aa ?_)))
  refine wz (aF rfl rfl (w64 (by omega))) ?_
  refine wmv ?_
  refine ac ?_
  refine xrn ⟨k + 1, rfl, rfl, by omega, hp, hb1, HC⟩

theorem nl {w : World} {Ap : Option Addr} {lp cp : Nat} {Fp : Nat → Prop} {p : List Pr}  {x : RD} {g1 : Nat}  (hp : SI w Fp ePR Ap lp cp p) (hb1 : Blk w g1 54 ([.bool x.sc, .string x.key, .string x.to, .slice x.A x.l x.c] : List Value).toArray) (hin : ∀ j, j < p.length → InR x.abs (p.getD j Pr0)) (hlp : lp ≤ 140737488351232) :
  Calls Tryz.prog 162 #[.slice Ap lp cp, .func (.func 163) #[] #[.pointer (some ⟨g1, 0, none⟩)]] w fun e w' => e = .returned (.bool false) ∧ Ch No w w' := by
 have hpl := hp.len
 have hp := hp.old
 have HC : Ch No w w := Ch.refl _ _
 refine aH (args := [.slice Ap lp cp, .func (.func 163) #[] #[.pointer (some ⟨g1, 0, none⟩)]]) (n := 9) Tryz.func162 rfl rfl rfl ?_
 refine ab (aa ?_)
 refine was ?_
 refine ac (ae (ab (aa ?_)))
 iterate 2 refine wmv ?_
 refine wle rfl (ai ent215 rfl rfl (tw (x := x) (hp) hb1 hin (by omega)) ?_)
 rintro _ w1 ⟨rfl, hc⟩
 refine ⟨_, rfl, ?_⟩
 have hzw1 := hc.size
 have HC := HC.tr hc
 refine wz (gR rfl rfl) ?_
 refine was ?_
 refine ac (ae (ao ?_))
 refine aj ((aK rfl rfl)) ?_
 exact ⟨rfl, HC⟩
end Go.Proofs.YtdencdfdikmgbaaGreatDoor
