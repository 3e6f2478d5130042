/-
  Own text, printed by a program of mine (wip/gx): what functions of the program do, walked operation by operation.
-/
import Derived.Test.YtkfkdakghjlenaaDoorProg
import Derived.Test.YtkfkdakghjlenaaDoorGxAgg
import Derived.Test.YtkfkdakghjlenaaDoorTab
import Derived.Test.YtkfkdakghjlenaaDoorGxZer
import Derived.Test.YtkfkdakghjlenaaDoorGxLay
import Derived.Test.YtkfkdakghjlenaaDoorPlPack
import Derived.Test.YtkfkdakghjlenaaDoorPlSum
import Derived.Test.YtkfkdakghjlenaaDoorPlSha
import Derived.Test.YtkfkdakghjlenaaDoorPlTag
import Derived.Test.YtkfkdakghjlenaaDoorPlBits
import Derived.Test.YtkfkdakghjlenaaDoorPlShaSt
import Derived.Test.YtkfkdakghjlenaaDoorPlShaB
import Derived.Test.YtkfkdakghjlenaaDoorPlTrie
import Derived.Test.YtkfkdakghjlenaaDoorPlTrieSt
import Derived.Test.YtkfkdakghjlenaaDoorGxRec
import Derived.Test.YtkfkdakghjlenaaDoorGxYld
import Derived.Test.YtkfkdakghjlenaaDoorPlTrieFil
import Derived.Test.YtkfkdakghjlenaaDoorOnceC
import Derived.Test.YtkfkdakghjlenaaDoorPlTrieW
import Derived.Test.YtkfkdakghjlenaaDoorPlMulti
import Derived.Test.YtkfkdakghjlenaaDoorPlEncs
import Derived.Test.YtkfkdakghjlenaaDoorGxMark
import Derived.Test.YtkfkdakghjlenaaDoorPlTrieLaw
import Derived.Test.YtkfkdakghjlenaaDoorPlTrieAct
import Derived.Test.YtkfkdakghjlenaaDoorGxFun
import Derived.Test.YtkfkdakghjlenaaDoorGxPair
import Derived.Test.YtkfkdakghjlenaaDoorPlMany
import Derived.Test.YtkfkdakghjlenaaDoorZo0
import Derived.Test.YtkfkdakghjlenaaDoorZo1
import Derived.Test.YtkfkdakghjlenaaDoorZo2
set_option linter.unusedVariables false
set_option linter.unusedSimpArgs false
namespace Go.Proofs.YtkfkdakghjlenaaDoor
open Go.RowKit Go.Gx
open Go.Plain
set_option maxHeartbeats 4000000 in
set_option maxRecDepth 20000 in
theorem multiOthers_walk {w : World}  {Al : Option Addr} {ll cl : Nat} {Fl : Nat → Prop} {l : List (H8 × H8)} {Ak : Option Addr} {lk ck : Nat} {Fk : Nat → Prop} {ks : List H8} {k : List UInt8} (hin : SI w Fl eIT Al ll cl l) (hks : SI w Fk eH Ak lk ck ks) (hk : k.length = 32) (hrnd : Sl w (fun k => k = 0) u32v (some ⟨0, 0, none⟩) 64 64 rk) :
    Calls Tryd.prog 17 #[.slice Al ll cl, .slice Ak lk ck, hv k] w fun e w' => e = .returned (.bool true) ∧ Ch No w w' := by
  have hn0 : 0 < w.heap.size := hrnd.size (by omega) rfl
  have hn1 := hn0
  have hinl := hin.len
  have hok := hin.ok
  have hkl := hks.len
  have hin := hin.old
  have hks := hks.old
  have HC : Ch No w w := Ch.refl _ _
  refine enter' (args := [.slice Al ll cl, .slice Ak lk ck, hv k]) (n := 70) Tryd.func17 rfl rfl rfl ?_
  refine wc_seq ?_
  refine wc_region ?_
  refine wle rfl (e_box (cs := (List.map u8v k).toArray) rfl rfl rfl (fun w1 g5 hg5 hb5 hc hsz5 => ?_))
  have hzw1 := hc.size
  have HC := HC.tr hc
  have hin := hin.no hc
  have hks := hks.no hc
  have hrnd := hrnd.no hc
  have hge5 : w.heap.size ≤ g5 := by have := HC.size; omega
  refine wl rfl rfl rfl (p_as rfl) ?_
  refine wl_nil ?_
  refine x_seq ?_
  refine wc_seq ?_
  refine wc_seq ?_
  refine wc_region ?_
  refine wl rfl rfl rfl (p_mv rfl) ?_
  refine wl rfl rfl rfl (p_lenS Tryd.underlying22 rfl) ?_
  refine wl rfl rfl rfl (p_gt rfl rfl) ?_
  refine wl rfl rfl rfl (p_mv rfl) ?_
  refine wl_split (d := 18) rfl (fun q18 => ?_) (fun q18 => ?_)
  ·
   have q18 := of_decide_eq_true q18
   refine wl_s (gd_ rfl rfl rfl rfl rfl rfl) rfl rfl ?_
   refine wl_s (gd_ rfl rfl rfl rfl rfl rfl) rfl rfl ?_
   refine wl_s (gd_ rfl rfl rfl rfl rfl rfl) rfl rfl ?_
   refine wl rfl rfl rfl (p_pickT rfl rfl) ?_
   refine wl_nil ?_
   refine x_seq ?_
   refine wc_yes rfl (rfl) ?_
   refine wc_seq ?_
   refine wc_region ?_
   refine wle rfl (e_call ent20 rfl rfl (lives27_any hrnd) ?_)
   rintro _ w2 ⟨rfl, hc⟩
   refine ⟨_, rfl, ?_⟩
   have hzw2 := hc.size
   have HC := HC.tr hc
   have hin := hin.no hc
   have hks := hks.no hc
   have hrnd := hrnd.no hc
   have hb5 := hb5.ch hc (fun h => h)
   refine wl rfl rfl rfl (p_as rfl) ?_
   refine wl_nil ?_
   refine x_seq ?_
   refine wc_ret ?_
   refine x_then_ret ?_
   refine fin_run ((res1 rfl rfl)) ?_
   exact ⟨rfl, HC⟩
  ·
   have q18 := of_decide_eq_false q18
   refine wl_g (gd_ rfl rfl rfl rfl rfl rfl) rfl rfl (p_mv rfl) ?_
   refine wl_g (gd_ rfl rfl rfl rfl rfl rfl) rfl rfl (p_lenS Tryd.underlying23 rfl) ?_
   refine wl_g (gd_ rfl rfl rfl rfl rfl rfl) rfl rfl (p_gt rfl rfl) ?_
   refine wl rfl rfl rfl (p_pickF rfl rfl) ?_
   refine wl_nil ?_
   refine x_seq ?_
   refine wc_if rfl (fun c0 => ?_) (fun c0 => ?_)
   ·
    have c0 := of_decide_eq_true c0
    refine wc_seq ?_
    refine wc_region ?_
    refine wle rfl (e_call ent20 rfl rfl (lives27_any hrnd) ?_)
    rintro _ w3 ⟨rfl, hc⟩
    refine ⟨_, rfl, ?_⟩
    have hzw3 := hc.size
    have HC := HC.tr hc
    have hin := hin.no hc
    have hks := hks.no hc
    have hrnd := hrnd.no hc
    have hb5 := hb5.ch hc (fun h => h)
    refine wl rfl rfl rfl (p_as rfl) ?_
    refine wl_nil ?_
    refine x_seq ?_
    refine wc_ret ?_
    refine x_then_ret ?_
    refine fin_run ((res1 rfl rfl)) ?_
    exact ⟨rfl, HC⟩
   ·
    have c0 := of_decide_eq_false c0
    refine wc_skip ?_
    refine x_seq ?_
    refine wc_seq ?_
    refine wc_region ?_
    refine wl rfl rfl rfl (p_mv rfl) ?_
    refine wle rfl (e_call ent21 rfl rfl (made27_any hin (by omega)) ?_)
    rintro _ w4 ⟨v26, o26, A26, lm26, cm26, rfl, hV26, heo26, hM26, hc⟩
    refine ⟨_, rfl, ?_⟩
    have hzw4 := hc.size
    have HC := HC.tr hc
    have hin := hin.no hc
    have hks := hks.no hc
    have hrnd := hrnd.no hc
    have hb5 := hb5.ch hc (fun h => h)
    obtain ⟨hwf, hmc⟩ := mkT_all hok
    have hml26 : lm26 = cntT (mkT l) := by rw [← itemsT_cnt]; exact hM26.len.symm
    have hwfo : WFO (eo o26) := by rw [heo26]; exact hwf
    have hcno : cntT (eo o26) ≤ 1000 := by rw [heo26]; omega
    have hV26 := hV26.mono (G := fun k => w.heap.size ≤ k ∧ k < w4.heap.size) (fun k h1 h2 => ⟨by first | exact h2 | exact h2.1 | ((try dsimp only at h2); omega), h1⟩)
    have hM26 := hM26.mono (G := fun k => w.heap.size ≤ k ∧ k < w4.heap.size) (fun k h1 h2 => ⟨by first | exact h2 | exact h2.1 | ((try dsimp only at h2); omega), h1⟩)
    refine wl rfl rfl rfl (p_mv rfl) ?_
    refine wl rfl rfl rfl (p_ext rfl rfl) ?_
    refine wl rfl rfl rfl (p_ext rfl rfl) ?_
    refine wl rfl rfl rfl (p_as rfl) ?_
    refine wl rfl rfl rfl (p_as rfl) ?_
    refine wl_nil ?_
    refine x_seq ?_
    refine wc_seq ?_
    refine wc_region ?_
    refine wl rfl rfl rfl (p_mv rfl) ?_
    refine wl rfl rfl rfl (p_mv rfl) ?_
    refine wle rfl (e_call ent24 rfl rfl (mprove27_any hV26 hwfo hcno (hks) (by omega) hrnd) ?_)
    rintro _ w5 ⟨A31, l31, c31, rfl, hP31, hc⟩
    refine ⟨_, rfl, ?_⟩
    have hzw5 := hc.size
    have HC := HC.tr hc
    have hin := hin.no hc
    have hks := hks.no hc
    have hrnd := hrnd.no hc
    have hb5 := hb5.ch hc (fun h => h)
    have hV26 := hV26.ch hc (by first | exact fun _ _ _ h => h | (intro k hk hF ht; have h2 := hF.1; have h3 := hF.2; first | omega | (dsimp only at *; omega)))
    have hM26 := hM26.after hc
    have hPl31 := hP31.len
    have hPb31 : l31 ≤ 2 * cntT (eo o26) + 1 := by rw [← hPl31]; exact prvN_len
    have hP31 := hP31.mono (G := fun k => w4.heap.size ≤ k ∧ k < w5.heap.size) (fun k h1 h2 => ⟨h2, h1⟩)
    refine wl rfl rfl rfl (p_as rfl) ?_
    refine wl_nil ?_
    refine x_seq ?_
    refine wc_seq ?_
    refine wc_draw (.st 0 0 (.st 2 0 (.st 3 1 (.alt (.st 1 2 (.alt (.st 4 2 (.st 5 0 (.st 6 0 (.st 7 0 (.st 8 0 (.st 9 2 (.st 10 3 (.st 11 0 (.st 12 0 .nil))))))))) (.st 9 2 (.st 4 2 (.st 5 0 (.st 6 0 (.st 7 0 (.st 8 0 (.st 10 3 (.st 11 0 (.st 12 0 .nil))))))))))) (.st 9 2 (.st 1 2 (.st 4 2 (.st 5 0 (.st 6 0 (.st 7 0 (.st 8 0 (.st 10 3 (.st 11 0 (.st 12 0 .nil)))))))))))))) 10 (by kernel_rfl) (by kernel_rfl) (by kernel_rfl) (by repeat (first | with_reducible exact pan_body | with_reducible apply pan_then | with_reducible apply pan_in)) (fun z => Ch (fun k => k ∈ adsO o26) w5.drew z) (Ch.refl _ _) ?_
    obtain ⟨w6, ew6⟩ : ∃ x, x = w5.drew := ⟨_, rfl⟩
    rw [← ew6]
    have hc : Ch No w5 w6 := by rw [ew6]; exact Ch.drew _
    have hszw6 : w6.heap.size = w5.heap.size := by rw [ew6]; rfl
    clear ew6
    have hzw6 := hc.size
    have HC := HC.tr hc
    have hin := hin.no hc
    have hks := hks.no hc
    have hrnd := hrnd.no hc
    have hb5 := hb5.ch hc (fun h => h)
    have hV26 := hV26.ch hc (by first | exact fun _ _ _ h => h | (intro k hk hF ht; have h2 := hF.1; have h3 := hF.2; first | omega | (dsimp only at *; omega)))
    have hM26 := hM26.no hc
    have hP31 := hP31.no hc
    have hS : Ch (fun k => k ∈ adsO o26) w6 w6 := Ch.refl _ _
    have hRBd := hV26.adsB
    refine ws_p rfl rfl rfl rfl (p_mv rfl) ?_
    refine ws_p rfl rfl rfl rfl (p_mv rfl) ?_
    refine ws_h rfl rfl rfl rfl (p_ldH (L := k) Tryd.underlying38 sz38 hk rfl (fun _ h => rngL (hb5.ch h (hb5.not_nd hRBd)))) ?_
    refine ws_alt ?_ ?_
    ·
     refine ws_e rfl rfl (e_call ent46 rfl rfl (troot_made hV26 hrnd) ?_)
     rintro _ w7 ⟨rfl, hc, hFil, hRB, hRF⟩
     refine ⟨_, rfl, (by first | exact hS.tr hc | exact hS.trans hc (fun _ _ h => h) (fun _ _ h => h)), ?_⟩
     have hR0 := hV26.ot.out hrnd (by omega)
     have hRo : ∀ k, k < w.heap.size → k ∈ adsO o26 → False := fun k h1 h2 => absurd (hRF k h2).1 (by omega)
     have hzw7 := hc.size
     have HC := HC.trans hc (fun _ _ h => h) (fun k hk ht => absurd (hRF k ht).1 (by omega))
     have hin := hin.ch hc (fun k hk ht => hRo k hk ht)
     have hks := hks.ch hc (fun k hk ht => hRo k hk ht)
     have hrnd := hrnd.ch hc (fun k hk ht => hR0 (hk ▸ ht))
     first | have hb5 := hb5.ch hc (hb5.not_nd hRB) | have hb5 := hb5.ch hc (by assumption)
     have hV26 := hV26.fil hc hRB hFil
     have hM26 := hM26.ty hc (by decide) hRB
     have hP31 := hP31.ty hc (by decide) hRB
     have hS := (by first | exact hS.tr hc | exact hS.trans hc (fun _ _ h => h) (fun _ _ h => h))
     refine ws_alt ?_ ?_
     ·
      refine ws_e rfl rfl (e_call ent58 rfl rfl (mcheck27 (rootT_len) (hP31.si) (by omega) (hk) hrnd) ?_)
      rintro _ w8 ⟨rfl, hc⟩
      refine ⟨_, rfl, (by first | exact hS.tr hc | exact hS.trans hc (fun _ _ h => h) (fun _ _ h => h)), ?_⟩
      have hzw8 := hc.size
      have HC := HC.tr hc
      have hin := hin.no hc
      have hks := hks.no hc
      have hrnd := hrnd.no hc
      have hb5 := hb5.ch hc (fun h => h)
      have hV26 := hV26.ch hc (by first | exact fun _ _ _ h => h | (intro k hk hF ht; have h2 := hF.1; have h3 := hF.2; first | omega | (dsimp only at *; omega)))
      have hM26 := hM26.after hc
      have hP31 := hP31.after hc
      have hS := (by first | exact hS.tr hc | exact hS.trans hc (fun _ _ h => h) (fun _ _ h => h))
      refine ws_p rfl rfl rfl rfl (p_mv rfl) ?_
      refine ws_p rfl rfl rfl rfl (p_ext rfl rfl) ?_
      refine ws_p rfl rfl rfl rfl (p_ext rfl rfl) ?_
      refine ws_p rfl rfl rfl rfl (p_ext rfl rfl) ?_
      have hltg5 := hb5.lt
      refine ws_e rfl rfl (e_alloc (cs := ((List.replicate 32 (0 : UInt8)).map u8v).toArray) rfl (by rfl) rfl (fun w9 g10 hg10 hb10 hc hsz10 => ⟨(by first | exact hS.tr hc | exact hS.trans hc (fun _ _ h => h) (fun _ _ h => h)), ?_⟩))
      have hzw9 := hc.size
      have HC := HC.tr hc
      have hin := hin.no hc
      have hks := hks.no hc
      have hrnd := hrnd.no hc
      have hb5 := hb5.ch hc (fun h => h)
      have hV26 := hV26.ch hc (by first | exact fun _ _ _ h => h | (intro k hk hF ht; have h2 := hF.1; have h3 := hF.2; first | omega | (dsimp only at *; omega)))
      have hM26 := hM26.after hc
      have hP31 := hP31.after hc
      have hge10 : w.heap.size ≤ g10 := by have := HC.size; omega
      have neg5_10 : g5 < g10 := by omega
      have hS := (by first | exact hS.tr hc | exact hS.trans hc (fun _ _ h => h) (fun _ _ h => h))
      refine ws_l rfl rfl (e_stH sz38 (List.length_replicate ..) checkN_len rfl rfl hb10 (fun w10 hb10 hc hsz => ?_))
      have hzw10 := hc.size
      have HC := HC.trans hc (fun _ _ h => h) (fun k hk ht => absurd ht (by omega))
      have hin := hin.ch hc (by intro k hk ht; omega)
      have hks := hks.ch hc (by intro k hk ht; omega)
      first | have hrnd := hrnd.ch hc (by intro k hk ht; omega) | have hrnd := hrnd.chT hc (by intro k hz hk ht; omega)
      have hb5 := hb5.ch hc (by omega)
      have hV26 := hV26.ch hc (by first | exact fun _ _ _ h => h | (intro k hk hF ht; have h2 := hF.1; have h3 := hF.2; first | omega | (dsimp only at *; omega)))
      have hM26 := hM26.ch hc (by intro k hz hk ht; omega)
      have hP31 := hP31.ch hc (by intro k hz hk ht; omega)
      refine ws_p rfl rfl rfl rfl (p_as rfl) ?_
      refine ws_p rfl rfl rfl rfl (p_as rfl) ?_
      refine ws_n ?_
      refine x_seq ?_
      refine wc_seq ?_
      refine wc_region ?_
      refine wl rfl rfl rfl (p_mv rfl) ?_
      refine wl rfl rfl rfl (p_ldH (L := k) Tryd.underlying38 sz38 hk rfl (fun _ e => e ▸ rngL hb5)) ?_
      refine wle rfl (e_call ent42 rfl rfl (tget_any hV26 (hk)) ?_)
      rintro _ w11 ⟨u44, ok44, rfl, hu44, hg44, hc⟩
      refine ⟨_, rfl, ?_⟩
      have hzw11 := hc.size
      have HC := HC.tr hc
      have hin := hin.no hc
      have hks := hks.no hc
      have hrnd := hrnd.no hc
      have hb5 := hb5.ch hc (fun h => h)
      have hV26 := hV26.ch hc (by first | exact fun _ _ _ h => h | (intro k hk hF ht; have h2 := hF.1; have h3 := hF.2; first | omega | (dsimp only at *; omega)))
      have hM26 := hM26.after hc
      have hP31 := hP31.after hc
      have hb10 := hb10.ch hc (fun h => h)
      obtain ⟨hx44, ho44⟩ : u44 = (getT (eo o26) k).getD zeroH ∧ ok44 = (getT (eo o26) k).isSome := by injection hg44 with h1 h2; exact ⟨h1, h2⟩
      refine wl rfl rfl rfl (p_mv rfl) ?_
      refine wl rfl rfl rfl (p_ext rfl rfl) ?_
      refine wl rfl rfl rfl (p_ext rfl rfl) ?_
      have hltg5 := hb5.lt
      have hltg10 := hb10.lt
      refine wle rfl (e_alloc (cs := ((List.replicate 32 (0 : UInt8)).map u8v).toArray) rfl (by rfl) rfl (fun w12 g13 hg13 hb13 hc hsz13 => ?_))
      have hzw12 := hc.size
      have HC := HC.tr hc
      have hin := hin.no hc
      have hks := hks.no hc
      have hrnd := hrnd.no hc
      have hb5 := hb5.ch hc (fun h => h)
      have hV26 := hV26.ch hc (by first | exact fun _ _ _ h => h | (intro k hk hF ht; have h2 := hF.1; have h3 := hF.2; first | omega | (dsimp only at *; omega)))
      have hM26 := hM26.after hc
      have hP31 := hP31.after hc
      have hb10 := hb10.ch hc (fun h => h)
      have hge13 : w.heap.size ≤ g13 := by have := HC.size; omega
      have neg5_13 : g5 < g13 := by omega
      have neg10_13 : g10 < g13 := by omega
      refine wle rfl (e_stH sz38 (List.length_replicate ..) hu44 rfl rfl hb13 (fun w13 hb13 hc hsz => ?_))
      have hzw13 := hc.size
      have HC := HC.trans hc (fun _ _ h => h) (fun k hk ht => absurd ht (by omega))
      have hin := hin.ch hc (by intro k hk ht; omega)
      have hks := hks.ch hc (by intro k hk ht; omega)
      first | have hrnd := hrnd.ch hc (by intro k hk ht; omega) | have hrnd := hrnd.chT hc (by intro k hz hk ht; omega)
      have hb5 := hb5.ch hc (by omega)
      have hV26 := hV26.ch hc (by first | exact fun _ _ _ h => h | (intro k hk hF ht; have h2 := hF.1; have h3 := hF.2; first | omega | (dsimp only at *; omega)))
      have hM26 := hM26.ch hc (by intro k hz hk ht; omega)
      have hP31 := hP31.ch hc (by intro k hz hk ht; omega)
      have hb10 := hb10.ch hc (by omega)
      refine wl rfl rfl rfl (p_as rfl) ?_
      refine wl_nil ?_
      refine x_seq ?_
      refine wc_seq ?_
      refine wc_seq ?_
      refine wc_region ?_
      refine wl rfl rfl rfl (p_mv rfl) ?_
      refine wl rfl rfl rfl (p_not rfl) ?_
      refine wl_nil ?_
      refine x_seq ?_
      refine wc_if rfl (fun c1 => ?_) (fun c1 => ?_)
      ·
       have hcv : checkN (rootT (eo o26)) (prvN (eo o26) ks) k = (zeroH, false, false) := by rcases prvN_check hwfo (ks := ks) (k := k) with h | h; exact h.1; rw [h] at c1; simp at c1
       refine wc_seq ?_
       refine wc_region ?_
       refine wl rfl rfl rfl (p_mv rfl) ?_
       refine wl rfl rfl rfl (p_not rfl) ?_
       refine wl rfl rfl rfl (p_mv rfl) ?_
       refine wl_know (d := 51) (b' := true) rfl (by rw [hcv]; rfl) ?_
       refine wl_g (gd_ rfl rfl rfl rfl rfl rfl) rfl rfl (p_ldH (L := (checkN (rootT (eo o26)) (prvN (eo o26) ks) k).1) Tryd.underlying38 sz38 checkN_len rfl (fun _ e => e ▸ rngL hb10)) ?_
       refine wl_g (gd_ rfl rfl rfl rfl rfl rfl) rfl rfl (p_bldP (cs := ((List.replicate 32 (0 : UInt8)).map u8v).toArray) rfl (fun _ => by kernel_rfl)) ?_
       refine wl_g (gd_ rfl rfl rfl rfl rfl rfl) rfl rfl (p_eqH (a := (checkN (rootT (eo o26)) (prvN (eo o26) ks) k).1) (b := (List.replicate 32 (0 : UInt8))) (by kernel_rfl) Tryd.underlying38 Tryd.underlying5 sz5 rfl rfl (checkN_len) ((List.length_replicate ..))) ?_
       refine wl rfl rfl rfl (p_pickT rfl rfl) ?_
       refine wl rfl rfl rfl (p_mv rfl) ?_
       refine wl_know (d := 56) (b' := true) rfl (by rw [hcv]; simp [zeroH]) ?_
       refine wle_g (gd_ rfl rfl rfl rfl rfl rfl) (e_call ent20 rfl rfl (lives27_any hrnd) ?_)
       rintro _ w14 ⟨rfl, hc⟩
       refine ⟨_, rfl, ?_⟩
       have hzw14 := hc.size
       have HC := HC.tr hc
       have hin := hin.no hc
       have hks := hks.no hc
       have hrnd := hrnd.no hc
       have hb5 := hb5.ch hc (fun h => h)
       have hV26 := hV26.ch hc (by first | exact fun _ _ _ h => h | (intro k hk hF ht; have h2 := hF.1; have h3 := hF.2; first | omega | (dsimp only at *; omega)))
       have hM26 := hM26.after hc
       have hP31 := hP31.after hc
       have hb10 := hb10.ch hc (fun h => h)
       have hb13 := hb13.ch hc (fun h => h)
       refine wl rfl rfl rfl (p_pickT rfl rfl) ?_
       refine wl rfl rfl rfl (p_as rfl) ?_
       refine wl_nil ?_
       refine x_seq ?_
       refine wc_ret ?_
       refine x_then_ret ?_
       refine fin_run ((res1 rfl rfl)) ?_
       exact ⟨rfl, HC⟩
      ·
       have hcv : checkN (rootT (eo o26)) (prvN (eo o26) ks) k = ((getT (eo o26) k).getD zeroH, (getT (eo o26) k).isSome, true) := by rcases prvN_check hwfo (ks := ks) (k := k) with h | h; rw [h.1] at c1; simp at c1; exact h
       refine wc_skip ?_
       refine x_seq ?_
       refine wc_seq ?_
       refine wc_region ?_
       refine wl rfl rfl rfl (p_mv rfl) ?_
       refine wl rfl rfl rfl (p_mv rfl) ?_
       refine wl rfl rfl rfl (p_eqB rfl rfl Tryd.underlying4) ?_
       refine wl rfl rfl rfl (p_mv rfl) ?_
       refine wl_know (d := 62) (b' := true) rfl (by rw [hcv, ho44]; simp) ?_
       refine wl_g (gd_ rfl rfl rfl rfl rfl rfl) rfl rfl (p_ldH (L := (checkN (rootT (eo o26)) (prvN (eo o26) ks) k).1) Tryd.underlying38 sz38 checkN_len rfl (fun _ e => e ▸ rngL hb10)) ?_
       refine wl_g (gd_ rfl rfl rfl rfl rfl rfl) rfl rfl (p_ldH (L := u44) Tryd.underlying38 sz38 hu44 rfl (fun _ e => e ▸ rngL hb13)) ?_
       refine wl_g (gd_ rfl rfl rfl rfl rfl rfl) rfl rfl (p_eqH (a := (checkN (rootT (eo o26)) (prvN (eo o26) ks) k).1) (b := u44) (by kernel_rfl) Tryd.underlying38 Tryd.underlying5 sz5 rfl rfl (checkN_len) (hu44)) ?_
       refine wl rfl rfl rfl (p_pickT rfl rfl) ?_
       refine wl rfl rfl rfl (p_mv rfl) ?_
       refine wl_know (d := 67) (b' := true) rfl (by rw [hcv, hx44]; simp) ?_
       refine wle_g (gd_ rfl rfl rfl rfl rfl rfl) (e_call ent20 rfl rfl (lives27_any hrnd) ?_)
       rintro _ w15 ⟨rfl, hc⟩
       refine ⟨_, rfl, ?_⟩
       have hzw15 := hc.size
       have HC := HC.tr hc
       have hin := hin.no hc
       have hks := hks.no hc
       have hrnd := hrnd.no hc
       have hb5 := hb5.ch hc (fun h => h)
       have hV26 := hV26.ch hc (by first | exact fun _ _ _ h => h | (intro k hk hF ht; have h2 := hF.1; have h3 := hF.2; first | omega | (dsimp only at *; omega)))
       have hM26 := hM26.after hc
       have hP31 := hP31.after hc
       have hb10 := hb10.ch hc (fun h => h)
       have hb13 := hb13.ch hc (fun h => h)
       refine wl rfl rfl rfl (p_pickT rfl rfl) ?_
       refine wl rfl rfl rfl (p_as rfl) ?_
       refine wl_nil ?_
       refine x_seq ?_
       refine wc_ret ?_
       refine fin_run ((res1 rfl rfl)) ?_
       exact ⟨rfl, HC⟩
     ·
      have hltg5 := hb5.lt
      refine ws_e rfl rfl (e_alloc (cs := ((List.replicate 32 (0 : UInt8)).map u8v).toArray) rfl (by rfl) rfl (fun w16 g10 hg10 hb10 hc hsz10 => ⟨(by first | exact hS.tr hc | exact hS.trans hc (fun _ _ h => h) (fun _ _ h => h)), ?_⟩))
      have hzw16 := hc.size
      have HC := HC.tr hc
      have hin := hin.no hc
      have hks := hks.no hc
      have hrnd := hrnd.no hc
      have hb5 := hb5.ch hc (fun h => h)
      have hV26 := hV26.ch hc (by first | exact fun _ _ _ h => h | (intro k hk hF ht; have h2 := hF.1; have h3 := hF.2; first | omega | (dsimp only at *; omega)))
      have hM26 := hM26.after hc
      have hP31 := hP31.after hc
      have hge10 : w.heap.size ≤ g10 := by have := HC.size; omega
      have neg5_10 : g5 < g10 := by omega
      have hS := (by first | exact hS.tr hc | exact hS.trans hc (fun _ _ h => h) (fun _ _ h => h))
      refine ws_e rfl rfl (e_call ent58 rfl rfl (mcheck27 (rootT_len) (hP31.si) (by omega) (hk) hrnd) ?_)
      rintro _ w17 ⟨rfl, hc⟩
      refine ⟨_, rfl, (by first | exact hS.tr hc | exact hS.trans hc (fun _ _ h => h) (fun _ _ h => h)), ?_⟩
      have hzw17 := hc.size
      have HC := HC.tr hc
      have hin := hin.no hc
      have hks := hks.no hc
      have hrnd := hrnd.no hc
      have hb5 := hb5.ch hc (fun h => h)
      have hV26 := hV26.ch hc (by first | exact fun _ _ _ h => h | (intro k hk hF ht; have h2 := hF.1; have h3 := hF.2; first | omega | (dsimp only at *; omega)))
      have hM26 := hM26.after hc
      have hP31 := hP31.after hc
      have hb10 := hb10.ch hc (fun h => h)
      have hS := (by first | exact hS.tr hc | exact hS.trans hc (fun _ _ h => h) (fun _ _ h => h))
      refine ws_p rfl rfl rfl rfl (p_mv rfl) ?_
      refine ws_p rfl rfl rfl rfl (p_ext rfl rfl) ?_
      refine ws_p rfl rfl rfl rfl (p_ext rfl rfl) ?_
      refine ws_p rfl rfl rfl rfl (p_ext rfl rfl) ?_
      refine ws_l rfl rfl (e_stH sz38 (List.length_replicate ..) checkN_len rfl rfl hb10 (fun w18 hb10 hc hsz => ?_))
      have hzw18 := hc.size
      have HC := HC.trans hc (fun _ _ h => h) (fun k hk ht => absurd ht (by omega))
      have hin := hin.ch hc (by intro k hk ht; omega)
      have hks := hks.ch hc (by intro k hk ht; omega)
      first | have hrnd := hrnd.ch hc (by intro k hk ht; omega) | have hrnd := hrnd.chT hc (by intro k hz hk ht; omega)
      have hb5 := hb5.ch hc (by omega)
      have hV26 := hV26.ch hc (by first | exact fun _ _ _ h => h | (intro k hk hF ht; have h2 := hF.1; have h3 := hF.2; first | omega | (dsimp only at *; omega)))
      have hM26 := hM26.ch hc (by intro k hz hk ht; omega)
      have hP31 := hP31.ch hc (by intro k hz hk ht; omega)
      refine ws_p rfl rfl rfl rfl (p_as rfl) ?_
      refine ws_p rfl rfl rfl rfl (p_as rfl) ?_
      refine ws_n ?_
      refine x_seq ?_
      refine wc_seq ?_
      refine wc_region ?_
      refine wl rfl rfl rfl (p_mv rfl) ?_
      refine wl rfl rfl rfl (p_ldH (L := k) Tryd.underlying38 sz38 hk rfl (fun _ e => e ▸ rngL hb5)) ?_
      refine wle rfl (e_call ent42 rfl rfl (tget_any hV26 (hk)) ?_)
      rintro _ w19 ⟨u44, ok44, rfl, hu44, hg44, hc⟩
      refine ⟨_, rfl, ?_⟩
      have hzw19 := hc.size
      have HC := HC.tr hc
      have hin := hin.no hc
      have hks := hks.no hc
      have hrnd := hrnd.no hc
      have hb5 := hb5.ch hc (fun h => h)
      have hV26 := hV26.ch hc (by first | exact fun _ _ _ h => h | (intro k hk hF ht; have h2 := hF.1; have h3 := hF.2; first | omega | (dsimp only at *; omega)))
      have hM26 := hM26.after hc
      have hP31 := hP31.after hc
      have hb10 := hb10.ch hc (fun h => h)
      obtain ⟨hx44, ho44⟩ : u44 = (getT (eo o26) k).getD zeroH ∧ ok44 = (getT (eo o26) k).isSome := by injection hg44 with h1 h2; exact ⟨h1, h2⟩
      refine wl rfl rfl rfl (p_mv rfl) ?_
      refine wl rfl rfl rfl (p_ext rfl rfl) ?_
      refine wl rfl rfl rfl (p_ext rfl rfl) ?_
      have hltg5 := hb5.lt
      have hltg10 := hb10.lt
      refine wle rfl (e_alloc (cs := ((List.replicate 32 (0 : UInt8)).map u8v).toArray) rfl (by rfl) rfl (fun w20 g13 hg13 hb13 hc hsz13 => ?_))
      have hzw20 := hc.size
      have HC := HC.tr hc
      have hin := hin.no hc
      have hks := hks.no hc
      have hrnd := hrnd.no hc
      have hb5 := hb5.ch hc (fun h => h)
      have hV26 := hV26.ch hc (by first | exact fun _ _ _ h => h | (intro k hk hF ht; have h2 := hF.1; have h3 := hF.2; first | omega | (dsimp only at *; omega)))
      have hM26 := hM26.after hc
      have hP31 := hP31.after hc
      have hb10 := hb10.ch hc (fun h => h)
      have hge13 : w.heap.size ≤ g13 := by have := HC.size; omega
      have neg5_13 : g5 < g13 := by omega
      have neg10_13 : g10 < g13 := by omega
      refine wle rfl (e_stH sz38 (List.length_replicate ..) hu44 rfl rfl hb13 (fun w21 hb13 hc hsz => ?_))
      have hzw21 := hc.size
      have HC := HC.trans hc (fun _ _ h => h) (fun k hk ht => absurd ht (by omega))
      have hin := hin.ch hc (by intro k hk ht; omega)
      have hks := hks.ch hc (by intro k hk ht; omega)
      first | have hrnd := hrnd.ch hc (by intro k hk ht; omega) | have hrnd := hrnd.chT hc (by intro k hz hk ht; omega)
      have hb5 := hb5.ch hc (by omega)
      have hV26 := hV26.ch hc (by first | exact fun _ _ _ h => h | (intro k hk hF ht; have h2 := hF.1; have h3 := hF.2; first | omega | (dsimp only at *; omega)))
      have hM26 := hM26.ch hc (by intro k hz hk ht; omega)
      have hP31 := hP31.ch hc (by intro k hz hk ht; omega)
      have hb10 := hb10.ch hc (by omega)
      refine wl rfl rfl rfl (p_as rfl) ?_
      refine wl_nil ?_
      refine x_seq ?_
      refine wc_seq ?_
      refine wc_seq ?_
      refine wc_region ?_
      refine wl rfl rfl rfl (p_mv rfl) ?_
      refine wl rfl rfl rfl (p_not rfl) ?_
      refine wl_nil ?_
      refine x_seq ?_
      refine wc_if rfl (fun c1 => ?_) (fun c1 => ?_)
      ·
       have hcv : checkN (rootT (eo o26)) (prvN (eo o26) ks) k = (zeroH, false, false) := by rcases prvN_check hwfo (ks := ks) (k := k) with h | h; exact h.1; rw [h] at c1; simp at c1
       refine wc_seq ?_
       refine wc_region ?_
       refine wl rfl rfl rfl (p_mv rfl) ?_
       refine wl rfl rfl rfl (p_not rfl) ?_
       refine wl rfl rfl rfl (p_mv rfl) ?_
       refine wl_know (d := 51) (b' := true) rfl (by rw [hcv]; rfl) ?_
       refine wl_g (gd_ rfl rfl rfl rfl rfl rfl) rfl rfl (p_ldH (L := (checkN (rootT (eo o26)) (prvN (eo o26) ks) k).1) Tryd.underlying38 sz38 checkN_len rfl (fun _ e => e ▸ rngL hb10)) ?_
       refine wl_g (gd_ rfl rfl rfl rfl rfl rfl) rfl rfl (p_bldP (cs := ((List.replicate 32 (0 : UInt8)).map u8v).toArray) rfl (fun _ => by kernel_rfl)) ?_
       refine wl_g (gd_ rfl rfl rfl rfl rfl rfl) rfl rfl (p_eqH (a := (checkN (rootT (eo o26)) (prvN (eo o26) ks) k).1) (b := (List.replicate 32 (0 : UInt8))) (by kernel_rfl) Tryd.underlying38 Tryd.underlying5 sz5 rfl rfl (checkN_len) ((List.length_replicate ..))) ?_
       refine wl rfl rfl rfl (p_pickT rfl rfl) ?_
       refine wl rfl rfl rfl (p_mv rfl) ?_
       refine wl_know (d := 56) (b' := true) rfl (by rw [hcv]; simp [zeroH]) ?_
       refine wle_g (gd_ rfl rfl rfl rfl rfl rfl) (e_call ent20 rfl rfl (lives27_any hrnd) ?_)
       rintro _ w22 ⟨rfl, hc⟩
       refine ⟨_, rfl, ?_⟩
       have hzw22 := hc.size
       have HC := HC.tr hc
       have hin := hin.no hc
       have hks := hks.no hc
       have hrnd := hrnd.no hc
       have hb5 := hb5.ch hc (fun h => h)
       have hV26 := hV26.ch hc (by first | exact fun _ _ _ h => h | (intro k hk hF ht; have h2 := hF.1; have h3 := hF.2; first | omega | (dsimp only at *; omega)))
       have hM26 := hM26.after hc
       have hP31 := hP31.after hc
       have hb10 := hb10.ch hc (fun h => h)
       have hb13 := hb13.ch hc (fun h => h)
       refine wl rfl rfl rfl (p_pickT rfl rfl) ?_
       refine wl rfl rfl rfl (p_as rfl) ?_
       refine wl_nil ?_
       refine x_seq ?_
       refine wc_ret ?_
       refine x_then_ret ?_
       refine fin_run ((res1 rfl rfl)) ?_
       exact ⟨rfl, HC⟩
      ·
       have hcv : checkN (rootT (eo o26)) (prvN (eo o26) ks) k = ((getT (eo o26) k).getD zeroH, (getT (eo o26) k).isSome, true) := by rcases prvN_check hwfo (ks := ks) (k := k) with h | h; rw [h.1] at c1; simp at c1; exact h
       refine wc_skip ?_
       refine x_seq ?_
       refine wc_seq ?_
       refine wc_region ?_
       refine wl rfl rfl rfl (p_mv rfl) ?_
       refine wl rfl rfl rfl (p_mv rfl) ?_
       refine wl rfl rfl rfl (p_eqB rfl rfl Tryd.underlying4) ?_
       refine wl rfl rfl rfl (p_mv rfl) ?_
       refine wl_know (d := 62) (b' := true) rfl (by rw [hcv, ho44]; simp) ?_
       refine wl_g (gd_ rfl rfl rfl rfl rfl rfl) rfl rfl (p_ldH (L := (checkN (rootT (eo o26)) (prvN (eo o26) ks) k).1) Tryd.underlying38 sz38 checkN_len rfl (fun _ e => e ▸ rngL hb10)) ?_
       refine wl_g (gd_ rfl rfl rfl rfl rfl rfl) rfl rfl (p_ldH (L := u44) Tryd.underlying38 sz38 hu44 rfl (fun _ e => e ▸ rngL hb13)) ?_
       refine wl_g (gd_ rfl rfl rfl rfl rfl rfl) rfl rfl (p_eqH (a := (checkN (rootT (eo o26)) (prvN (eo o26) ks) k).1) (b := u44) (by kernel_rfl) Tryd.underlying38 Tryd.underlying5 sz5 rfl rfl (checkN_len) (hu44)) ?_
       refine wl rfl rfl rfl (p_pickT rfl rfl) ?_
       refine wl rfl rfl rfl (p_mv rfl) ?_
       refine wl_know (d := 67) (b' := true) rfl (by rw [hcv, hx44]; simp) ?_
       refine wle_g (gd_ rfl rfl rfl rfl rfl rfl) (e_call ent20 rfl rfl (lives27_any hrnd) ?_)
       rintro _ w23 ⟨rfl, hc⟩
       refine ⟨_, rfl, ?_⟩
       have hzw23 := hc.size
       have HC := HC.tr hc
       have hin := hin.no hc
       have hks := hks.no hc
       have hrnd := hrnd.no hc
       have hb5 := hb5.ch hc (fun h => h)
       have hV26 := hV26.ch hc (by first | exact fun _ _ _ h => h | (intro k hk hF ht; have h2 := hF.1; have h3 := hF.2; first | omega | (dsimp only at *; omega)))
       have hM26 := hM26.after hc
       have hP31 := hP31.after hc
       have hb10 := hb10.ch hc (fun h => h)
       have hb13 := hb13.ch hc (fun h => h)
       refine wl rfl rfl rfl (p_pickT rfl rfl) ?_
       refine wl rfl rfl rfl (p_as rfl) ?_
       refine wl_nil ?_
       refine x_seq ?_
       refine wc_ret ?_
       refine fin_run ((res1 rfl rfl)) ?_
       exact ⟨rfl, HC⟩
    ·
     have hltg5 := hb5.lt
     refine ws_e rfl rfl (e_alloc (cs := ((List.replicate 32 (0 : UInt8)).map u8v).toArray) rfl (by rfl) rfl (fun w24 g10 hg10 hb10 hc hsz10 => ⟨(by first | exact hS.tr hc | exact hS.trans hc (fun _ _ h => h) (fun _ _ h => h)), ?_⟩))
     have hzw24 := hc.size
     have HC := HC.tr hc
     have hin := hin.no hc
     have hks := hks.no hc
     have hrnd := hrnd.no hc
     have hb5 := hb5.ch hc (fun h => h)
     have hV26 := hV26.ch hc (by first | exact fun _ _ _ h => h | (intro k hk hF ht; have h2 := hF.1; have h3 := hF.2; first | omega | (dsimp only at *; omega)))
     have hM26 := hM26.after hc
     have hP31 := hP31.after hc
     have hge10 : w.heap.size ≤ g10 := by have := HC.size; omega
     have neg5_10 : g5 < g10 := by omega
     have hS := (by first | exact hS.tr hc | exact hS.trans hc (fun _ _ h => h) (fun _ _ h => h))
     refine ws_e rfl rfl (e_call ent46 rfl rfl (troot_made hV26 hrnd) ?_)
     rintro _ w25 ⟨rfl, hc, hFil, hRB, hRF⟩
     refine ⟨_, rfl, (by first | exact hS.tr hc | exact hS.trans hc (fun _ _ h => h) (fun _ _ h => h)), ?_⟩
     have hR0 := hV26.ot.out hrnd (by omega)
     have hRo : ∀ k, k < w.heap.size → k ∈ adsO o26 → False := fun k h1 h2 => absurd (hRF k h2).1 (by omega)
     have hzw25 := hc.size
     have HC := HC.trans hc (fun _ _ h => h) (fun k hk ht => absurd (hRF k ht).1 (by omega))
     have hin := hin.ch hc (fun k hk ht => hRo k hk ht)
     have hks := hks.ch hc (fun k hk ht => hRo k hk ht)
     have hrnd := hrnd.ch hc (fun k hk ht => hR0 (hk ▸ ht))
     first | have hb5 := hb5.ch hc (hb5.not_nd hRB) | have hb5 := hb5.ch hc (by assumption)
     have hV26 := hV26.fil hc hRB hFil
     have hM26 := hM26.ty hc (by decide) hRB
     have hP31 := hP31.ty hc (by decide) hRB
     first | have hb10 := hb10.ch hc (hb10.not_nd hRB) | have hb10 := hb10.ch hc (by assumption)
     have hS := (by first | exact hS.tr hc | exact hS.trans hc (fun _ _ h => h) (fun _ _ h => h))
     refine ws_e rfl rfl (e_call ent58 rfl rfl (mcheck27 (rootT_len) (hP31.si) (by omega) (hk) hrnd) ?_)
     rintro _ w26 ⟨rfl, hc⟩
     refine ⟨_, rfl, (by first | exact hS.tr hc | exact hS.trans hc (fun _ _ h => h) (fun _ _ h => h)), ?_⟩
     have hzw26 := hc.size
     have HC := HC.tr hc
     have hin := hin.no hc
     have hks := hks.no hc
     have hrnd := hrnd.no hc
     have hb5 := hb5.ch hc (fun h => h)
     have hV26 := hV26.ch hc (by first | exact fun _ _ _ h => h | (intro k hk hF ht; have h2 := hF.1; have h3 := hF.2; first | omega | (dsimp only at *; omega)))
     have hM26 := hM26.after hc
     have hP31 := hP31.after hc
     have hb10 := hb10.ch hc (fun h => h)
     have hS := (by first | exact hS.tr hc | exact hS.trans hc (fun _ _ h => h) (fun _ _ h => h))
     refine ws_p rfl rfl rfl rfl (p_mv rfl) ?_
     refine ws_p rfl rfl rfl rfl (p_ext rfl rfl) ?_
     refine ws_p rfl rfl rfl rfl (p_ext rfl rfl) ?_
     refine ws_p rfl rfl rfl rfl (p_ext rfl rfl) ?_
     refine ws_l rfl rfl (e_stH sz38 (List.length_replicate ..) checkN_len rfl rfl hb10 (fun w27 hb10 hc hsz => ?_))
     have hzw27 := hc.size
     have HC := HC.trans hc (fun _ _ h => h) (fun k hk ht => absurd ht (by omega))
     have hin := hin.ch hc (by intro k hk ht; omega)
     have hks := hks.ch hc (by intro k hk ht; omega)
     first | have hrnd := hrnd.ch hc (by intro k hk ht; omega) | have hrnd := hrnd.chT hc (by intro k hz hk ht; omega)
     have hb5 := hb5.ch hc (by omega)
     have hV26 := hV26.ch hc (by first | exact fun _ _ _ h => h | (intro k hk hF ht; have h2 := hF.1; have h3 := hF.2; first | omega | (dsimp only at *; omega)))
     have hM26 := hM26.ch hc (by intro k hz hk ht; omega)
     have hP31 := hP31.ch hc (by intro k hz hk ht; omega)
     refine ws_p rfl rfl rfl rfl (p_as rfl) ?_
     refine ws_p rfl rfl rfl rfl (p_as rfl) ?_
     refine ws_n ?_
     refine x_seq ?_
     refine wc_seq ?_
     refine wc_region ?_
     refine wl rfl rfl rfl (p_mv rfl) ?_
     refine wl rfl rfl rfl (p_ldH (L := k) Tryd.underlying38 sz38 hk rfl (fun _ e => e ▸ rngL hb5)) ?_
     refine wle rfl (e_call ent42 rfl rfl (tget_any hV26 (hk)) ?_)
     rintro _ w28 ⟨u44, ok44, rfl, hu44, hg44, hc⟩
     refine ⟨_, rfl, ?_⟩
     have hzw28 := hc.size
     have HC := HC.tr hc
     have hin := hin.no hc
     have hks := hks.no hc
     have hrnd := hrnd.no hc
     have hb5 := hb5.ch hc (fun h => h)
     have hV26 := hV26.ch hc (by first | exact fun _ _ _ h => h | (intro k hk hF ht; have h2 := hF.1; have h3 := hF.2; first | omega | (dsimp only at *; omega)))
     have hM26 := hM26.after hc
     have hP31 := hP31.after hc
     have hb10 := hb10.ch hc (fun h => h)
     obtain ⟨hx44, ho44⟩ : u44 = (getT (eo o26) k).getD zeroH ∧ ok44 = (getT (eo o26) k).isSome := by injection hg44 with h1 h2; exact ⟨h1, h2⟩
     refine wl rfl rfl rfl (p_mv rfl) ?_
     refine wl rfl rfl rfl (p_ext rfl rfl) ?_
     refine wl rfl rfl rfl (p_ext rfl rfl) ?_
     have hltg5 := hb5.lt
     have hltg10 := hb10.lt
     refine wle rfl (e_alloc (cs := ((List.replicate 32 (0 : UInt8)).map u8v).toArray) rfl (by rfl) rfl (fun w29 g13 hg13 hb13 hc hsz13 => ?_))
     have hzw29 := hc.size
     have HC := HC.tr hc
     have hin := hin.no hc
     have hks := hks.no hc
     have hrnd := hrnd.no hc
     have hb5 := hb5.ch hc (fun h => h)
     have hV26 := hV26.ch hc (by first | exact fun _ _ _ h => h | (intro k hk hF ht; have h2 := hF.1; have h3 := hF.2; first | omega | (dsimp only at *; omega)))
     have hM26 := hM26.after hc
     have hP31 := hP31.after hc
     have hb10 := hb10.ch hc (fun h => h)
     have hge13 : w.heap.size ≤ g13 := by have := HC.size; omega
     have neg5_13 : g5 < g13 := by omega
     have neg10_13 : g10 < g13 := by omega
     refine wle rfl (e_stH sz38 (List.length_replicate ..) hu44 rfl rfl hb13 (fun w30 hb13 hc hsz => ?_))
     have hzw30 := hc.size
     have HC := HC.trans hc (fun _ _ h => h) (fun k hk ht => absurd ht (by omega))
     have hin := hin.ch hc (by intro k hk ht; omega)
     have hks := hks.ch hc (by intro k hk ht; omega)
     first | have hrnd := hrnd.ch hc (by intro k hk ht; omega) | have hrnd := hrnd.chT hc (by intro k hz hk ht; omega)
     have hb5 := hb5.ch hc (by omega)
     have hV26 := hV26.ch hc (by first | exact fun _ _ _ h => h | (intro k hk hF ht; have h2 := hF.1; have h3 := hF.2; first | omega | (dsimp only at *; omega)))
     have hM26 := hM26.ch hc (by intro k hz hk ht; omega)
     have hP31 := hP31.ch hc (by intro k hz hk ht; omega)
     have hb10 := hb10.ch hc (by omega)
     refine wl rfl rfl rfl (p_as rfl) ?_
     refine wl_nil ?_
     refine x_seq ?_
     refine wc_seq ?_
     refine wc_seq ?_
     refine wc_region ?_
     refine wl rfl rfl rfl (p_mv rfl) ?_
     refine wl rfl rfl rfl (p_not rfl) ?_
     refine wl_nil ?_
     refine x_seq ?_
     refine wc_if rfl (fun c1 => ?_) (fun c1 => ?_)
     ·
      have hcv : checkN (rootT (eo o26)) (prvN (eo o26) ks) k = (zeroH, false, false) := by rcases prvN_check hwfo (ks := ks) (k := k) with h | h; exact h.1; rw [h] at c1; simp at c1
      refine wc_seq ?_
      refine wc_region ?_
      refine wl rfl rfl rfl (p_mv rfl) ?_
      refine wl rfl rfl rfl (p_not rfl) ?_
      refine wl rfl rfl rfl (p_mv rfl) ?_
      refine wl_know (d := 51) (b' := true) rfl (by rw [hcv]; rfl) ?_
      refine wl_g (gd_ rfl rfl rfl rfl rfl rfl) rfl rfl (p_ldH (L := (checkN (rootT (eo o26)) (prvN (eo o26) ks) k).1) Tryd.underlying38 sz38 checkN_len rfl (fun _ e => e ▸ rngL hb10)) ?_
      refine wl_g (gd_ rfl rfl rfl rfl rfl rfl) rfl rfl (p_bldP (cs := ((List.replicate 32 (0 : UInt8)).map u8v).toArray) rfl (fun _ => by kernel_rfl)) ?_
      refine wl_g (gd_ rfl rfl rfl rfl rfl rfl) rfl rfl (p_eqH (a := (checkN (rootT (eo o26)) (prvN (eo o26) ks) k).1) (b := (List.replicate 32 (0 : UInt8))) (by kernel_rfl) Tryd.underlying38 Tryd.underlying5 sz5 rfl rfl (checkN_len) ((List.length_replicate ..))) ?_
      refine wl rfl rfl rfl (p_pickT rfl rfl) ?_
      refine wl rfl rfl rfl (p_mv rfl) ?_
      refine wl_know (d := 56) (b' := true) rfl (by rw [hcv]; simp [zeroH]) ?_
      refine wle_g (gd_ rfl rfl rfl rfl rfl rfl) (e_call ent20 rfl rfl (lives27_any hrnd) ?_)
      rintro _ w31 ⟨rfl, hc⟩
      refine ⟨_, rfl, ?_⟩
      have hzw31 := hc.size
      have HC := HC.tr hc
      have hin := hin.no hc
      have hks := hks.no hc
      have hrnd := hrnd.no hc
      have hb5 := hb5.ch hc (fun h => h)
      have hV26 := hV26.ch hc (by first | exact fun _ _ _ h => h | (intro k hk hF ht; have h2 := hF.1; have h3 := hF.2; first | omega | (dsimp only at *; omega)))
      have hM26 := hM26.after hc
      have hP31 := hP31.after hc
      have hb10 := hb10.ch hc (fun h => h)
      have hb13 := hb13.ch hc (fun h => h)
      refine wl rfl rfl rfl (p_pickT rfl rfl) ?_
      refine wl rfl rfl rfl (p_as rfl) ?_
      refine wl_nil ?_
      refine x_seq ?_
      refine wc_ret ?_
      refine x_then_ret ?_
      refine fin_run ((res1 rfl rfl)) ?_
      exact ⟨rfl, HC⟩
     ·
      have hcv : checkN (rootT (eo o26)) (prvN (eo o26) ks) k = ((getT (eo o26) k).getD zeroH, (getT (eo o26) k).isSome, true) := by rcases prvN_check hwfo (ks := ks) (k := k) with h | h; rw [h.1] at c1; simp at c1; exact h
      refine wc_skip ?_
      refine x_seq ?_
      refine wc_seq ?_
      refine wc_region ?_
      refine wl rfl rfl rfl (p_mv rfl) ?_
      refine wl rfl rfl rfl (p_mv rfl) ?_
      refine wl rfl rfl rfl (p_eqB rfl rfl Tryd.underlying4) ?_
      refine wl rfl rfl rfl (p_mv rfl) ?_
      refine wl_know (d := 62) (b' := true) rfl (by rw [hcv, ho44]; simp) ?_
      refine wl_g (gd_ rfl rfl rfl rfl rfl rfl) rfl rfl (p_ldH (L := (checkN (rootT (eo o26)) (prvN (eo o26) ks) k).1) Tryd.underlying38 sz38 checkN_len rfl (fun _ e => e ▸ rngL hb10)) ?_
      refine wl_g (gd_ rfl rfl rfl rfl rfl rfl) rfl rfl (p_ldH (L := u44) Tryd.underlying38 sz38 hu44 rfl (fun _ e => e ▸ rngL hb13)) ?_
      refine wl_g (gd_ rfl rfl rfl rfl rfl rfl) rfl rfl (p_eqH (a := (checkN (rootT (eo o26)) (prvN (eo o26) ks) k).1) (b := u44) (by kernel_rfl) Tryd.underlying38 Tryd.underlying5 sz5 rfl rfl (checkN_len) (hu44)) ?_
      refine wl rfl rfl rfl (p_pickT rfl rfl) ?_
      refine wl rfl rfl rfl (p_mv rfl) ?_
      refine wl_know (d := 67) (b' := true) rfl (by rw [hcv, hx44]; simp) ?_
      refine wle_g (gd_ rfl rfl rfl rfl rfl rfl) (e_call ent20 rfl rfl (lives27_any hrnd) ?_)
      rintro _ w32 ⟨rfl, hc⟩
      refine ⟨_, rfl, ?_⟩
      have hzw32 := hc.size
      have HC := HC.tr hc
      have hin := hin.no hc
      have hks := hks.no hc
      have hrnd := hrnd.no hc
      have hb5 := hb5.ch hc (fun h => h)
      have hV26 := hV26.ch hc (by first | exact fun _ _ _ h => h | (intro k hk hF ht; have h2 := hF.1; have h3 := hF.2; first | omega | (dsimp only at *; omega)))
      have hM26 := hM26.after hc
      have hP31 := hP31.after hc
      have hb10 := hb10.ch hc (fun h => h)
      have hb13 := hb13.ch hc (fun h => h)
      refine wl rfl rfl rfl (p_pickT rfl rfl) ?_
      refine wl rfl rfl rfl (p_as rfl) ?_
      refine wl_nil ?_
      refine x_seq ?_
      refine wc_ret ?_
      refine fin_run ((res1 rfl rfl)) ?_
      exact ⟨rfl, HC⟩
end Go.Proofs.YtkfkdakghjlenaaDoor
