/-
  Own text, printed by a program of mine (wip/gx): what functions of the program do, walked operation by operation.
-/
import Derived.Test.YtkfkdakghjlenaaDoorProg
import Derived.Test.YtkfkdakghjlenaaDoorGxAgg
import Derived.Test.YtkfkdakghjlenaaDoorTab
import Derived.Test.YtkfkdakghjlenaaDoorGxZer
import Derived.Test.YtkfkdakghjlenaaDoorGxLay
import Derived.Test.YtkfkdakghjlenaaDoorPlPack
import Derived.Test.YtkfkdakghjlenaaDoorPlSum
import Derived.Test.YtkfkdakghjlenaaDoorPlSha
import Derived.Test.YtkfkdakghjlenaaDoorPlTag
import Derived.Test.YtkfkdakghjlenaaDoorPlBits
import Derived.Test.YtkfkdakghjlenaaDoorPlShaSt
import Derived.Test.YtkfkdakghjlenaaDoorPlShaB
import Derived.Test.YtkfkdakghjlenaaDoorPlTrie
import Derived.Test.YtkfkdakghjlenaaDoorPlTrieSt
import Derived.Test.YtkfkdakghjlenaaDoorGxRec
import Derived.Test.YtkfkdakghjlenaaDoorGxYld
import Derived.Test.YtkfkdakghjlenaaDoorPlTrieFil
import Derived.Test.YtkfkdakghjlenaaDoorOnceC
import Derived.Test.YtkfkdakghjlenaaDoorPlTrieW
import Derived.Test.YtkfkdakghjlenaaDoorPlMulti
import Derived.Test.YtkfkdakghjlenaaDoorPlEncs
import Derived.Test.YtkfkdakghjlenaaDoorGxMark
import Derived.Test.YtkfkdakghjlenaaDoorPlTrieLaw
import Derived.Test.YtkfkdakghjlenaaDoorPlTrieAct
import Derived.Test.YtkfkdakghjlenaaDoorGxFun
import Derived.Test.YtkfkdakghjlenaaDoorZj0
import Derived.Test.YtkfkdakghjlenaaDoorZj1
set_option linter.unusedVariables false
set_option linter.unusedSimpArgs false
namespace Go.Proofs.YtkfkdakghjlenaaDoor
open Go.RowKit Go.Gx
open Go.Plain
set_option maxHeartbeats 1000000 in
set_option maxRecDepth 20000 in
theorem lives11_any {w : World}  (hrnd : Sl w (fun k => k = 0) u32v (some ⟨0, 0, none⟩) 64 64 rk) :
    Calls Tryd.prog 40 #[] w fun e w' => e = .returned (.bool true) ∧ Ch No w w' := by
  have hn0 : 0 < w.heap.size := hrnd.size (by omega) rfl
  have hn1 := hn0
  have HC : Ch No w w := Ch.refl _ _
  refine enter' (args := []) (n := 29) Tryd.func40 rfl rfl rfl ?_
  refine wc_seq ?_
  refine wc_region ?_
  refine wl rfl rfl rfl (p_as rfl) ?_
  refine wl_nil ?_
  refine x_seq ?_
  refine wc_seq ?_
  refine wc_region ?_
  refine wle rfl (e_alloc (cs := ((List.replicate 32 (0 : UInt8)).map u8v).toArray) rfl (by rfl) rfl (fun w1 g1 hg1 hb1 hc hsz1 => ?_))
  have hzw1 := hc.size
  have HC := HC.tr hc
  have hrnd := hrnd.no hc
  have hge1 : w.heap.size ≤ g1 := by have := HC.size; omega
  have hltg1 := hb1.lt
  refine wle rfl (e_alloc (cs := ((List.replicate 32 (0 : UInt8)).map u8v).toArray) rfl (by rfl) rfl (fun w2 g2 hg2 hb2 hc hsz2 => ?_))
  have hzw2 := hc.size
  have HC := HC.tr hc
  have hrnd := hrnd.no hc
  have hb1 := hb1.ch hc (fun h => h)
  have hge2 : w.heap.size ≤ g2 := by have := HC.size; omega
  have neg1_2 : g1 < g2 := by omega
  have hltg1 := hb1.lt
  have hltg2 := hb2.lt
  refine wle rfl (e_alloc (cs := ((List.replicate 32 (0 : UInt8)).map u8v).toArray) rfl (by rfl) rfl (fun w3 g3 hg3 hb3 hc hsz3 => ?_))
  have hzw3 := hc.size
  have HC := HC.tr hc
  have hrnd := hrnd.no hc
  have hb1 := hb1.ch hc (fun h => h)
  have hb2 := hb2.ch hc (fun h => h)
  have hge3 : w.heap.size ≤ g3 := by have := HC.size; omega
  have neg1_3 : g1 < g3 := by omega
  have neg2_3 : g2 < g3 := by omega
  refine wl_nil ?_
  refine x_seq ?_
  refine wc_seq ?_
  refine wc_region ?_
  refine wl rfl rfl rfl (p_ixA1 (j := 0) Tryd.underlying38 sz5 rfl rfl (by omega) (by omega) rfl) ?_
  refine wle rfl (e_stL (x := 1) one_u8 (by rfl) rfl rfl hb1 (by first | (simp; done) | (simp; omega) | omega) (fun w5 hb1 hc hsz => ?_))
  have hzw5 := hc.size
  have HC := HC.trans hc (fun _ _ h => h) (fun k hk ht => absurd ht (by omega))
  first | have hrnd := hrnd.ch hc (by intro k hk ht; first | omega | (dsimp only at *; omega)) | have hrnd := hrnd.chT hc (by intro k hz hk ht; first | omega | (dsimp only at *; omega))
  have hb2 := hb2.ch hc (by omega)
  have hb3 := hb3.ch hc (by omega)
  have hb1 : Blk w5 g1 38 (List.map u8v ((List.replicate 32 (0 : UInt8)).set 0 1)).toArray := hb1
  refine wl rfl rfl rfl (p_ixA1 (j := 5) Tryd.underlying38 sz5 rfl rfl (by omega) (by omega) rfl) ?_
  refine wle rfl (e_stL (x := 1) one_u8 (by rfl) rfl rfl hb2 (by first | (simp; done) | (simp; omega) | omega) (fun w7 hb2 hc hsz => ?_))
  have hzw7 := hc.size
  have HC := HC.trans hc (fun _ _ h => h) (fun k hk ht => absurd ht (by omega))
  first | have hrnd := hrnd.ch hc (by intro k hk ht; first | omega | (dsimp only at *; omega)) | have hrnd := hrnd.chT hc (by intro k hz hk ht; first | omega | (dsimp only at *; omega))
  have hb1 := hb1.ch hc (by omega)
  have hb3 := hb3.ch hc (by omega)
  have hb2 : Blk w7 g2 38 (List.map u8v ((List.replicate 32 (0 : UInt8)).set 5 1)).toArray := hb2
  refine wl_nil ?_
  refine x_seq ?_
  refine wc_seq ?_
  refine wc_draw (.st 1 1 (.st 2 1 (.st 4 1 (.st 5 1 (.st 7 1 (.st 0 2 (.st 3 2 (.st 6 2 (.st 8 2 (.st 9 0 .nil)))))))))) 10 (by kernel_rfl) (by kernel_rfl) (by kernel_rfl) (by repeat (first | with_reducible exact pan_body | with_reducible apply pan_then | with_reducible apply pan_in)) (fun x => Ch No w7.drew x) (Ch.refl _ _) ?_
  obtain ⟨w8, ew8⟩ : ∃ x, x = w7.drew := ⟨_, rfl⟩
  rw [← ew8]
  have hc : Ch No w7 w8 := by rw [ew8]; exact Ch.drew _
  have hszw8 : w8.heap.size = w7.heap.size := by rw [ew8]; rfl
  clear ew8
  have hzw8 := hc.size
  have HC := HC.tr hc
  have hrnd := hrnd.no hc
  have hb1 := hb1.ch hc (fun h => h)
  have hb2 := hb2.ch hc (fun h => h)
  have hb3 := hb3.ch hc (fun h => h)
  have hS : Ch No w8 w8 := Ch.refl _ _
  refine ws_h rfl rfl rfl rfl (p_ldA (cs := List.map u8v ((List.replicate 32 (0 : UInt8)).set 0 1)) Tryd.underlying38 rfl (szL sz38 (by rw [List.length_map]; exact ((List.length_set ..).trans (List.length_replicate ..)))) rfl (fun _ h => (rngL (hb1.ch h (fun h => h))))) ?_
  refine ws_h rfl rfl rfl rfl (p_ldA (cs := List.map u8v (List.replicate 32 (0 : UInt8))) Tryd.underlying38 rfl (szL sz38 (by rw [List.length_map]; exact (List.length_replicate ..))) rfl (fun _ h => (rngL (hb3.ch h (fun h => h))))) ?_
  refine ws_h rfl rfl rfl rfl (p_ldA (cs := List.map u8v ((List.replicate 32 (0 : UInt8)).set 5 1)) Tryd.underlying38 rfl (szL sz38 (by rw [List.length_map]; exact ((List.length_set ..).trans (List.length_replicate ..)))) rfl (fun _ h => (rngL (hb2.ch h (fun h => h))))) ?_
  refine ws_h rfl rfl rfl rfl (p_ldA (cs := List.map u8v (List.replicate 32 (0 : UInt8))) Tryd.underlying38 rfl (szL sz38 (by rw [List.length_map]; exact (List.length_replicate ..))) rfl (fun _ h => (rngL (hb3.ch h (fun h => h))))) ?_
  refine ws_h rfl rfl rfl rfl (p_ldA (cs := List.map u8v ((List.replicate 32 (0 : UInt8)).set 5 1)) Tryd.underlying38 rfl (szL sz38 (by rw [List.length_map]; exact ((List.length_set ..).trans (List.length_replicate ..)))) rfl (fun _ h => (rngL (hb2.ch h (fun h => h))))) ?_
  refine ws_e rfl rfl (e_call ent51 rfl rfl (new_any) ?_)
  rintro _ w9 ⟨v7, rfl, hV7, hc⟩
  refine ⟨_, rfl, hc, ?_⟩
  have hzw9 := hc.size
  have HC := HC.tr hc
  have hrnd := hrnd.no hc
  have hb1 := hb1.ch hc (fun h => h)
  have hb2 := hb2.ch hc (fun h => h)
  have hb3 := hb3.ch hc (fun h => h)
  have hV7 := hV7.mono (G := fun k => w8.heap.size ≤ k ∧ k < w9.heap.size) (fun k h1 h2 => ⟨h2, h1⟩)
  refine ws_narrow (S' := fun x => Ch No w9 x) (Ch.refl _ _) (fun x h => hc.tr h) ?_
  refine ws_e rfl rfl (e_call ent44 rfl rfl (tput_made (F := fun k => w.heap.size ≤ k) (hV7.mono (fun k _ h => by first | exact h.1 | (have h2 := h.1; show w.heap.size ≤ k; omega))) (fun j hj => by show w.heap.size ≤ j; omega) (((List.length_set ..).trans (List.length_replicate ..))) ((List.length_replicate ..)) (by show 0 + 1 ≤ _; omega)) ?_)
  rintro _ w10 ⟨v10, t10, rfl, hV10, heq10, hc⟩
  refine ⟨_, rfl, hc, ?_⟩
  have hzw10 := hc.size
  have HC := HC.tr hc
  have hrnd := hrnd.no hc
  have hb1 := hb1.ch hc (fun h => h)
  have hb2 := hb2.ch hc (fun h => h)
  have hb3 := hb3.ch hc (fun h => h)
  have hV7 := hV7.ch hc (by first | exact fun _ _ _ h => h | (intro k hk hF ht; have h2 := hF.1; have h3 := hF.2; first | omega | (dsimp only at *; omega)))
  have hV10 := hV10.mono (G := fun k => w.heap.size ≤ k ∧ k < w10.heap.size) (fun k h1 h2 => ⟨by first | exact h2 | exact h2.1 | ((try dsimp only at h2); omega), h1⟩)
  refine ws_narrow (S' := fun x => Ch No w10 x) (Ch.refl _ _) (fun x h => hc.tr h) ?_
  refine ws_e rfl rfl (e_call ent44 rfl rfl (tput_made (F := fun k => w.heap.size ≤ k) (hV10.mono (fun k _ h => by first | exact h.1 | (have h2 := h.1; show w.heap.size ≤ k; omega))) (fun j hj => by show w.heap.size ≤ j; omega) (((List.length_set ..).trans (List.length_replicate ..))) ((List.length_replicate ..)) (by rw [heq10]; exact Nat.le_trans (Nat.succ_le_succ putT_cnt) (by show 0 + 1 + 1 ≤ _; omega))) ?_)
  rintro _ w11 ⟨v13, t13, rfl, hV13, heq13, hc⟩
  refine ⟨_, rfl, hc, ?_⟩
  have hzw11 := hc.size
  have HC := HC.tr hc
  have hrnd := hrnd.no hc
  have hb1 := hb1.ch hc (fun h => h)
  have hb2 := hb2.ch hc (fun h => h)
  have hb3 := hb3.ch hc (fun h => h)
  have hV7 := hV7.ch hc (by first | exact fun _ _ _ h => h | (intro k hk hF ht; have h2 := hF.1; have h3 := hF.2; first | omega | (dsimp only at *; omega)))
  have hV10 := hV10.ch hc (by first | exact fun _ _ _ h => h | (intro k hk hF ht; have h2 := hF.1; have h3 := hF.2; first | omega | (dsimp only at *; omega)))
  have hV13 := hV13.mono (G := fun k => w.heap.size ≤ k ∧ k < w11.heap.size) (fun k h1 h2 => ⟨by first | exact h2 | exact h2.1 | ((try dsimp only at h2); omega), h1⟩)
  refine ws_narrow (S' := fun x => Ch No w11 x) (Ch.refl _ _) (fun x h => hc.tr h) ?_
  refine ws_e rfl rfl (e_call ent45 rfl rfl (tdrop_made (F := fun k => w.heap.size ≤ k) (hV13.mono (fun k _ h => by first | exact h.1 | (have h2 := h.1; show w.heap.size ≤ k; omega))) (fun j hj => by show w.heap.size ≤ j; omega) (((List.length_set ..).trans (List.length_replicate ..)))) ?_)
  rintro _ w12 ⟨v15, o15, rfl, hV15, heq15, hc⟩
  refine ⟨_, rfl, hc, ?_⟩
  have hzw12 := hc.size
  have HC := HC.tr hc
  have hrnd := hrnd.no hc
  have hb1 := hb1.ch hc (fun h => h)
  have hb2 := hb2.ch hc (fun h => h)
  have hb3 := hb3.ch hc (fun h => h)
  have hV7 := hV7.ch hc (by first | exact fun _ _ _ h => h | (intro k hk hF ht; have h2 := hF.1; have h3 := hF.2; first | omega | (dsimp only at *; omega)))
  have hV10 := hV10.ch hc (by first | exact fun _ _ _ h => h | (intro k hk hF ht; have h2 := hF.1; have h3 := hF.2; first | omega | (dsimp only at *; omega)))
  have hV13 := hV13.ch hc (by first | exact fun _ _ _ h => h | (intro k hk hF ht; have h2 := hF.1; have h3 := hF.2; first | omega | (dsimp only at *; omega)))
  have hV15 := hV15.mono (G := fun k => w.heap.size ≤ k ∧ k < w12.heap.size) (fun k h1 h2 => ⟨by first | exact h2 | exact h2.1 | ((try dsimp only at h2); omega), h1⟩)
  refine ws_narrow (S' := fun x => Ch No w12 x) (Ch.refl _ _) (fun x h => hc.tr h) ?_
  have hfin : eo o15 = some (.leaf ((List.replicate 32 (0 : UInt8)).set 0 1) zeroH) := by rw [heq15, heq13, heq10]; exact lives11_eq
  refine ws_p rfl rfl rfl rfl (p_as rfl) ?_
  refine ws_n ?_
  refine x_seq ?_
  refine wc_seq ?_
  refine wc_draw (.st 0 0 (.st 2 1 (.st 3 1 (.st 4 0 (.alt (.st 1 2 (.st 5 2 (.st 6 2 (.st 7 0 (.st 8 0 (.st 9 0 (.st 10 2 (.st 11 0 (.st 12 0 (.st 13 0 .nil)))))))))) (.st 5 2 (.st 1 2 (.st 6 2 (.st 7 0 (.st 8 0 (.st 9 0 (.st 10 2 (.st 11 0 (.st 12 0 (.st 13 0 .nil))))))))))))))) 14 (by kernel_rfl) (by kernel_rfl) (by kernel_rfl) (by repeat (first | with_reducible exact pan_body | with_reducible apply pan_then | with_reducible apply pan_in)) (fun z => Ch (fun k => k ∈ adsO o15) w12.drew z) (Ch.refl _ _) ?_
  obtain ⟨w13, ew13⟩ : ∃ x, x = w12.drew := ⟨_, rfl⟩
  rw [← ew13]
  have hc : Ch No w12 w13 := by rw [ew13]; exact Ch.drew _
  have hszw13 : w13.heap.size = w12.heap.size := by rw [ew13]; rfl
  clear ew13
  have hzw13 := hc.size
  have HC := HC.tr hc
  have hrnd := hrnd.no hc
  have hb1 := hb1.ch hc (fun h => h)
  have hb2 := hb2.ch hc (fun h => h)
  have hb3 := hb3.ch hc (fun h => h)
  have hV7 := hV7.ch hc (by first | exact fun _ _ _ h => h | (intro k hk hF ht; have h2 := hF.1; have h3 := hF.2; first | omega | (dsimp only at *; omega)))
  have hV10 := hV10.ch hc (by first | exact fun _ _ _ h => h | (intro k hk hF ht; have h2 := hF.1; have h3 := hF.2; first | omega | (dsimp only at *; omega)))
  have hV13 := hV13.ch hc (by first | exact fun _ _ _ h => h | (intro k hk hF ht; have h2 := hF.1; have h3 := hF.2; first | omega | (dsimp only at *; omega)))
  have hV15 := hV15.ch hc (by first | exact fun _ _ _ h => h | (intro k hk hF ht; have h2 := hF.1; have h3 := hF.2; first | omega | (dsimp only at *; omega)))
  have hS : Ch (fun k => k ∈ adsO o15) w13 w13 := Ch.refl _ _
  have hRBd := hV15.adsB
  refine ws_p rfl rfl rfl rfl (p_mv rfl) ?_
  refine ws_h rfl rfl rfl rfl (p_ldA (cs := List.map u8v ((List.replicate 32 (0 : UInt8)).set 0 1)) Tryd.underlying38 rfl (szL sz38 (by rw [List.length_map]; exact ((List.length_set ..).trans (List.length_replicate ..)))) rfl (fun _ h => (rngL (hb1.ch h (hb1.not_nd hRBd))))) ?_
  refine ws_h rfl rfl rfl rfl (p_ldA (cs := List.map u8v (List.replicate 32 (0 : UInt8))) Tryd.underlying38 rfl (szL sz38 (by rw [List.length_map]; exact (List.length_replicate ..))) rfl (fun _ h => (rngL (hb3.ch h (hb3.not_nd hRBd))))) ?_
  refine ws_p rfl rfl rfl rfl (p_bldX (vs' := [(.agg ((hx ((List.replicate 32 (0 : UInt8)).set 0 1)) : List Value).toArray), (.agg ((hx (List.replicate 32 (0 : UInt8))) : List Value).toArray)]) (cs := (((List.map u8v ((List.replicate 32 (0 : UInt8)).set 0 1)) ++ (List.map u8v (List.replicate 32 (0 : UInt8)))) : List Value)) (cs' := (((hx ((List.replicate 32 (0 : UInt8)).set 0 1)) ++ (hx (List.replicate 32 (0 : UInt8)))) : List Value)) rfl (by simp only [hv, map_hx ((List.length_set ..).trans (List.length_replicate ..)), map_hx (List.length_replicate ..)] <;> rfl) (by simp only [hv, map_hx ((List.length_set ..).trans (List.length_replicate ..)), map_hx (List.length_replicate ..)] <;> rfl) (fun _ => by kernel_rfl)) ?_
  refine ws_alt ?_ ?_
  ·
    refine ws_e rfl rfl (e_call ent46 rfl rfl (troot_made hV15 hrnd) ?_)
    rintro _ w14 ⟨rfl, hc, hFil, hRB, hRF⟩
    refine ⟨_, rfl, (by first | exact hS.tr hc | exact hS.trans hc (fun _ _ h => h) (fun _ _ h => h)), ?_⟩
    have hR0 := hV15.ot.out hrnd (by omega)
    have hRo : ∀ k, k < w.heap.size → k ∈ adsO o15 → False := fun k h1 h2 => absurd (hRF k h2).1 (by omega)
    have hzw14 := hc.size
    have HC := HC.trans hc (fun _ _ h => h) (fun k hk ht => absurd (hRF k ht).1 (by omega))
    have hrnd := hrnd.ch hc (fun k hk ht => hR0 (hk ▸ ht))
    first | have hb1 := hb1.ch hc (hb1.not_nd hRB) | have hb1 := hb1.ch hc (by assumption)
    first | have hb2 := hb2.ch hc (hb2.not_nd hRB) | have hb2 := hb2.ch hc (by assumption)
    first | have hb3 := hb3.ch hc (hb3.not_nd hRB) | have hb3 := hb3.ch hc (by assumption)
    have hV7 := hV7.fil hc hRB hFil
    have hV10 := hV10.fil hc hRB hFil
    have hV13 := hV13.fil hc hRB hFil
    have hV15 := hV15.fil hc hRB hFil
    have hS := (by first | exact hS.tr hc | exact hS.trans hc (fun _ _ h => h) (fun _ _ h => h))
    have hltg1 := hb1.lt
    have hltg2 := hb2.lt
    have hltg3 := hb3.lt
    refine ws_e rfl rfl (e_bslX (E := 81) (cs := (((List.map u8v ((List.replicate 32 (0 : UInt8)).set 0 1)) ++ (List.map u8v (List.replicate 32 (0 : UInt8)))) : List Value)) (cs' := (((hx ((List.replicate 32 (0 : UInt8)).set 0 1)) ++ (hx (List.replicate 32 (0 : UInt8)))) : List Value)) rfl rfl (by simp only [hv, map_hx ((List.length_set ..).trans (List.length_replicate ..)), map_hx (List.length_replicate ..)] <;> rfl) (fun _ => by kernel_rfl) (fun w15 g21 hg21 hb21 hc hsz21 => ⟨(by first | exact hS.tr hc | exact hS.trans hc (fun _ _ h => h) (fun _ _ h => h)), ?_⟩))
    have hzw15 := hc.size
    have HC := HC.tr hc
    have hrnd := hrnd.no hc
    have hb1 := hb1.ch hc (fun h => h)
    have hb2 := hb2.ch hc (fun h => h)
    have hb3 := hb3.ch hc (fun h => h)
    have hV7 := hV7.ch hc (by first | exact fun _ _ _ h => h | (intro k hk hF ht; have h2 := hF.1; have h3 := hF.2; first | omega | (dsimp only at *; omega)))
    have hV10 := hV10.ch hc (by first | exact fun _ _ _ h => h | (intro k hk hF ht; have h2 := hF.1; have h3 := hF.2; first | omega | (dsimp only at *; omega)))
    have hV13 := hV13.ch hc (by first | exact fun _ _ _ h => h | (intro k hk hF ht; have h2 := hF.1; have h3 := hF.2; first | omega | (dsimp only at *; omega)))
    have hV15 := hV15.ch hc (by first | exact fun _ _ _ h => h | (intro k hk hF ht; have h2 := hF.1; have h3 := hF.2; first | omega | (dsimp only at *; omega)))
    have hge21 : w.heap.size ≤ g21 := by have := HC.size; omega
    have hS21 := SI.oneA (E := eIT) (x := (((List.replicate 32 (0 : UInt8)).set 0 1), (List.replicate 32 (0 : UInt8)))) hb21 rfl ⟨((List.length_set ..).trans (List.length_replicate ..)), (List.length_replicate ..)⟩
    have hS := (by first | exact hS.tr hc | exact hS.trans hc (fun _ _ h => h) (fun _ _ h => h))
    refine ws_e rfl rfl (e_call ent50 rfl rfl (rroot_any (.leaf ((List.replicate 32 (0 : UInt8)).set 0 1) zeroH) (hS21) ⟨by simp, zeroH_len⟩ (by omega)) ?_)
    rintro _ w16 ⟨rfl, hc⟩
    refine ⟨_, rfl, (by first | exact hS.tr hc | exact hS.trans hc (fun _ _ h => h) (fun _ _ h => h)), ?_⟩
    have hzw16 := hc.size
    have HC := HC.tr hc
    have hrnd := hrnd.no hc
    have hb1 := hb1.ch hc (fun h => h)
    have hb2 := hb2.ch hc (fun h => h)
    have hb3 := hb3.ch hc (fun h => h)
    have hV7 := hV7.ch hc (by first | exact fun _ _ _ h => h | (intro k hk hF ht; have h2 := hF.1; have h3 := hF.2; first | omega | (dsimp only at *; omega)))
    have hV10 := hV10.ch hc (by first | exact fun _ _ _ h => h | (intro k hk hF ht; have h2 := hF.1; have h3 := hF.2; first | omega | (dsimp only at *; omega)))
    have hV13 := hV13.ch hc (by first | exact fun _ _ _ h => h | (intro k hk hF ht; have h2 := hF.1; have h3 := hF.2; first | omega | (dsimp only at *; omega)))
    have hV15 := hV15.ch hc (by first | exact fun _ _ _ h => h | (intro k hk hF ht; have h2 := hF.1; have h3 := hF.2; first | omega | (dsimp only at *; omega)))
    have hS21 := hS21.no hc
    have hb21 := hb21.ch hc (fun h => h)
    have hS := (by first | exact hS.tr hc | exact hS.trans hc (fun _ _ h => h) (fun _ _ h => h))
    refine ws_p rfl rfl rfl rfl (p_eqH (a := (rootT (eo o15))) (b := (Tr.root (.leaf ((List.replicate 32 (0 : UInt8)).set 0 1) zeroH))) (by kernel_rfl) Tryd.underlying38 Tryd.underlying5 sz5 rfl rfl (rootT_len) (Tr.root_len)) ?_
    refine ws_p rfl rfl rfl rfl (p_mv rfl) ?_
    refine ws_know (d := 24) (b' := true) rfl (by rw [hfin]; simp [rootT]) ?_
    refine ws_pg rfl (gd_ rfl rfl rfl rfl rfl rfl) rfl rfl (p_mv rfl) ?_
    refine ws_eg rfl (gd_ rfl rfl rfl rfl rfl rfl) (e_call ent43 rfl rfl (tlen_made hV15) ?_)
    rintro _ w17 ⟨rfl, hc⟩
    refine ⟨_, rfl, (by first | exact hS.tr hc | exact hS.trans hc (fun _ _ h => h) (fun _ _ h => h)), ?_⟩
    have hzw17 := hc.size
    have HC := HC.tr hc
    have hrnd := hrnd.no hc
    have hb1 := hb1.ch hc (fun h => h)
    have hb2 := hb2.ch hc (fun h => h)
    have hb3 := hb3.ch hc (fun h => h)
    have hV7 := hV7.ch hc (by first | exact fun _ _ _ h => h | (intro k hk hF ht; have h2 := hF.1; have h3 := hF.2; first | omega | (dsimp only at *; omega)))
    have hV10 := hV10.ch hc (by first | exact fun _ _ _ h => h | (intro k hk hF ht; have h2 := hF.1; have h3 := hF.2; first | omega | (dsimp only at *; omega)))
    have hV13 := hV13.ch hc (by first | exact fun _ _ _ h => h | (intro k hk hF ht; have h2 := hF.1; have h3 := hF.2; first | omega | (dsimp only at *; omega)))
    have hV15 := hV15.ch hc (by first | exact fun _ _ _ h => h | (intro k hk hF ht; have h2 := hF.1; have h3 := hF.2; first | omega | (dsimp only at *; omega)))
    have hS21 := hS21.no hc
    have hb21 := hb21.ch hc (fun h => h)
    have hS := (by first | exact hS.tr hc | exact hS.trans hc (fun _ _ h => h) (fun _ _ h => h))
    refine ws_pg rfl (gd_ rfl rfl rfl rfl rfl rfl) rfl rfl (p_eq rfl rfl) ?_
    refine ws_p rfl rfl rfl rfl (p_pickT rfl rfl) ?_
    refine ws_p rfl rfl rfl rfl (p_as rfl) ?_
    refine ws_n ?_
    refine x_seq ?_
    refine wc_ret ?_
    refine fin_run ((res1 rfl rfl)) ?_
    exact ⟨by rw [hfin]; rfl, HC⟩
  ·
    have hltg1 := hb1.lt
    have hltg2 := hb2.lt
    have hltg3 := hb3.lt
    refine ws_e rfl rfl (e_bslX (E := 81) (cs := (((List.map u8v ((List.replicate 32 (0 : UInt8)).set 0 1)) ++ (List.map u8v (List.replicate 32 (0 : UInt8)))) : List Value)) (cs' := (((hx ((List.replicate 32 (0 : UInt8)).set 0 1)) ++ (hx (List.replicate 32 (0 : UInt8)))) : List Value)) rfl rfl (by simp only [hv, map_hx ((List.length_set ..).trans (List.length_replicate ..)), map_hx (List.length_replicate ..)] <;> rfl) (fun _ => by kernel_rfl) (fun w18 g21 hg21 hb21 hc hsz21 => ⟨(by first | exact hS.tr hc | exact hS.trans hc (fun _ _ h => h) (fun _ _ h => h)), ?_⟩))
    have hzw18 := hc.size
    have HC := HC.tr hc
    have hrnd := hrnd.no hc
    have hb1 := hb1.ch hc (fun h => h)
    have hb2 := hb2.ch hc (fun h => h)
    have hb3 := hb3.ch hc (fun h => h)
    have hV7 := hV7.ch hc (by first | exact fun _ _ _ h => h | (intro k hk hF ht; have h2 := hF.1; have h3 := hF.2; first | omega | (dsimp only at *; omega)))
    have hV10 := hV10.ch hc (by first | exact fun _ _ _ h => h | (intro k hk hF ht; have h2 := hF.1; have h3 := hF.2; first | omega | (dsimp only at *; omega)))
    have hV13 := hV13.ch hc (by first | exact fun _ _ _ h => h | (intro k hk hF ht; have h2 := hF.1; have h3 := hF.2; first | omega | (dsimp only at *; omega)))
    have hV15 := hV15.ch hc (by first | exact fun _ _ _ h => h | (intro k hk hF ht; have h2 := hF.1; have h3 := hF.2; first | omega | (dsimp only at *; omega)))
    have hge21 : w.heap.size ≤ g21 := by have := HC.size; omega
    have hS21 := SI.oneA (E := eIT) (x := (((List.replicate 32 (0 : UInt8)).set 0 1), (List.replicate 32 (0 : UInt8)))) hb21 rfl ⟨((List.length_set ..).trans (List.length_replicate ..)), (List.length_replicate ..)⟩
    have hS := (by first | exact hS.tr hc | exact hS.trans hc (fun _ _ h => h) (fun _ _ h => h))
    refine ws_e rfl rfl (e_call ent46 rfl rfl (troot_made hV15 hrnd) ?_)
    rintro _ w19 ⟨rfl, hc, hFil, hRB, hRF⟩
    refine ⟨_, rfl, (by first | exact hS.tr hc | exact hS.trans hc (fun _ _ h => h) (fun _ _ h => h)), ?_⟩
    have hR0 := hV15.ot.out hrnd (by omega)
    have hRo : ∀ k, k < w.heap.size → k ∈ adsO o15 → False := fun k h1 h2 => absurd (hRF k h2).1 (by omega)
    have hzw19 := hc.size
    have HC := HC.trans hc (fun _ _ h => h) (fun k hk ht => absurd (hRF k ht).1 (by omega))
    have hrnd := hrnd.ch hc (fun k hk ht => hR0 (hk ▸ ht))
    first | have hb1 := hb1.ch hc (hb1.not_nd hRB) | have hb1 := hb1.ch hc (by assumption)
    first | have hb2 := hb2.ch hc (hb2.not_nd hRB) | have hb2 := hb2.ch hc (by assumption)
    first | have hb3 := hb3.ch hc (hb3.not_nd hRB) | have hb3 := hb3.ch hc (by assumption)
    have hV7 := hV7.fil hc hRB hFil
    have hV10 := hV10.fil hc hRB hFil
    have hV13 := hV13.fil hc hRB hFil
    have hV15 := hV15.fil hc hRB hFil
    have hS21 := hS21.ch hc (fun k hk ht => (show ¬ _ from hb21.not_nd hRB) (by have h9 : k = g21 := hk; rw [← h9]; exact ht))
    first | have hb21 := hb21.ch hc (hb21.not_nd hRB) | have hb21 := hb21.ch hc (by assumption)
    have hS := (by first | exact hS.tr hc | exact hS.trans hc (fun _ _ h => h) (fun _ _ h => h))
    refine ws_e rfl rfl (e_call ent50 rfl rfl (rroot_any (.leaf ((List.replicate 32 (0 : UInt8)).set 0 1) zeroH) (hS21) ⟨by simp, zeroH_len⟩ (by omega)) ?_)
    rintro _ w20 ⟨rfl, hc⟩
    refine ⟨_, rfl, (by first | exact hS.tr hc | exact hS.trans hc (fun _ _ h => h) (fun _ _ h => h)), ?_⟩
    have hzw20 := hc.size
    have HC := HC.tr hc
    have hrnd := hrnd.no hc
    have hb1 := hb1.ch hc (fun h => h)
    have hb2 := hb2.ch hc (fun h => h)
    have hb3 := hb3.ch hc (fun h => h)
    have hV7 := hV7.ch hc (by first | exact fun _ _ _ h => h | (intro k hk hF ht; have h2 := hF.1; have h3 := hF.2; first | omega | (dsimp only at *; omega)))
    have hV10 := hV10.ch hc (by first | exact fun _ _ _ h => h | (intro k hk hF ht; have h2 := hF.1; have h3 := hF.2; first | omega | (dsimp only at *; omega)))
    have hV13 := hV13.ch hc (by first | exact fun _ _ _ h => h | (intro k hk hF ht; have h2 := hF.1; have h3 := hF.2; first | omega | (dsimp only at *; omega)))
    have hV15 := hV15.ch hc (by first | exact fun _ _ _ h => h | (intro k hk hF ht; have h2 := hF.1; have h3 := hF.2; first | omega | (dsimp only at *; omega)))
    have hS21 := hS21.no hc
    have hb21 := hb21.ch hc (fun h => h)
    have hS := (by first | exact hS.tr hc | exact hS.trans hc (fun _ _ h => h) (fun _ _ h => h))
    refine ws_p rfl rfl rfl rfl (p_eqH (a := (rootT (eo o15))) (b := (Tr.root (.leaf ((List.replicate 32 (0 : UInt8)).set 0 1) zeroH))) (by kernel_rfl) Tryd.underlying38 Tryd.underlying5 sz5 rfl rfl (rootT_len) (Tr.root_len)) ?_
    refine ws_p rfl rfl rfl rfl (p_mv rfl) ?_
    refine ws_know (d := 24) (b' := true) rfl (by rw [hfin]; simp [rootT]) ?_
    refine ws_pg rfl (gd_ rfl rfl rfl rfl rfl rfl) rfl rfl (p_mv rfl) ?_
    refine ws_eg rfl (gd_ rfl rfl rfl rfl rfl rfl) (e_call ent43 rfl rfl (tlen_made hV15) ?_)
    rintro _ w21 ⟨rfl, hc⟩
    refine ⟨_, rfl, (by first | exact hS.tr hc | exact hS.trans hc (fun _ _ h => h) (fun _ _ h => h)), ?_⟩
    have hzw21 := hc.size
    have HC := HC.tr hc
    have hrnd := hrnd.no hc
    have hb1 := hb1.ch hc (fun h => h)
    have hb2 := hb2.ch hc (fun h => h)
    have hb3 := hb3.ch hc (fun h => h)
    have hV7 := hV7.ch hc (by first | exact fun _ _ _ h => h | (intro k hk hF ht; have h2 := hF.1; have h3 := hF.2; first | omega | (dsimp only at *; omega)))
    have hV10 := hV10.ch hc (by first | exact fun _ _ _ h => h | (intro k hk hF ht; have h2 := hF.1; have h3 := hF.2; first | omega | (dsimp only at *; omega)))
    have hV13 := hV13.ch hc (by first | exact fun _ _ _ h => h | (intro k hk hF ht; have h2 := hF.1; have h3 := hF.2; first | omega | (dsimp only at *; omega)))
    have hV15 := hV15.ch hc (by first | exact fun _ _ _ h => h | (intro k hk hF ht; have h2 := hF.1; have h3 := hF.2; first | omega | (dsimp only at *; omega)))
    have hS21 := hS21.no hc
    have hb21 := hb21.ch hc (fun h => h)
    have hS := (by first | exact hS.tr hc | exact hS.trans hc (fun _ _ h => h) (fun _ _ h => h))
    refine ws_pg rfl (gd_ rfl rfl rfl rfl rfl rfl) rfl rfl (p_eq rfl rfl) ?_
    refine ws_p rfl rfl rfl rfl (p_pickT rfl rfl) ?_
    refine ws_p rfl rfl rfl rfl (p_as rfl) ?_
    refine ws_n ?_
    refine x_seq ?_
    refine wc_ret ?_
    refine fin_run ((res1 rfl rfl)) ?_
    exact ⟨by rw [hfin]; rfl, HC⟩

set_option maxHeartbeats 1000000 in
set_option maxRecDepth 20000 in
theorem alls_zero {w : World} {m yl gB g : Nat} {J Jx : List (List UInt8 × List UInt8) → World → Prop} (hX : ∀ xs A, J xs A → Blk A gB 25 #[ndp g] ∧ Blk A g 41 [.pointer none, .bool false].toArray) (hJ : ∀ xs A B, J xs A → Ch No A B → J xs B) (hJx : ∀ xs A B, Jx xs A → Ch No A B → Jx xs B) (hJ0 : J [] w) :
    Calls Tryd.prog 97 #[.func (.yield yl) #[] #[], .pointer (some ⟨gB, 0, none⟩)] w fun e w' => e = .returned (.tuple #[]) ∧ ((∃ xs, xs = ([] : List (List UInt8 × List UInt8)) ∧ J xs w') ∨ ∃ xs, True ∧ Jx xs w') := by
  have hJp := hJ0
  obtain ⟨hBn, hbg⟩ := hX _ _ hJ0
  have HC : Ch No w w := Ch.refl _ _
  refine enter' (args := [.func (.yield yl) #[] #[], .pointer (some ⟨gB, 0, none⟩)]) (n := 11) Tryd.func97 rfl rfl rfl ?_
  refine wc_seq ?_
  refine wc_region ?_
  refine wl rfl rfl rfl (p_ld Tryd.underlying25 rfl rfl (ld (hBn.cell rfl))) ?_
  refine wle rfl (e_call ent81 rfl rfl (is_zero hbg) ?_)
  rintro _ w1 ⟨rfl, hc⟩
  refine ⟨_, rfl, ?_⟩
  have hzw1 := hc.size
  have hJp := hJ _ _ _ hJp hc
  have hBn := hBn.ch hc (fun h => h)
  have hbg := hbg.ch hc (fun h => h)
  refine wl_nil ?_
  refine x_seq ?_
  refine wc_no rfl (rfl) ?_
  refine wc_skip ?_
  refine fin_run_n ((res0 rfl)) ?_
  exact ⟨rfl, .inl ⟨_, rfl, hJp⟩⟩

set_option maxHeartbeats 1000000 in
set_option maxRecDepth 20000 in
theorem alls_nil {w : World} {m yl gB : Nat} {J Jx : List (List UInt8 × List UInt8) → World → Prop} (hX : ∀ xs A, J xs A → Blk A gB 25 #[.pointer none]) (hJ : ∀ xs A B, J xs A → Ch No A B → J xs B) (hJx : ∀ xs A B, Jx xs A → Ch No A B → Jx xs B) (hJ0 : J [] w) :
    Calls Tryd.prog 97 #[.func (.yield yl) #[] #[], .pointer (some ⟨gB, 0, none⟩)] w fun e w' => e = .returned (.tuple #[]) ∧ ((∃ xs, xs = ([] : List (List UInt8 × List UInt8)) ∧ J xs w') ∨ ∃ xs, True ∧ Jx xs w') := by
  have hJp := hJ0
  have hBn := hX _ _ hJ0
  have HC : Ch No w w := Ch.refl _ _
  refine enter' (args := [.func (.yield yl) #[] #[], .pointer (some ⟨gB, 0, none⟩)]) (n := 11) Tryd.func97 rfl rfl rfl ?_
  refine wc_seq ?_
  refine wc_region ?_
  refine wl rfl rfl rfl (p_ld Tryd.underlying25 rfl rfl (ld (hBn.cell rfl))) ?_
  refine wle rfl (e_call ent81 rfl rfl (is_nil) ?_)
  rintro _ w1 ⟨rfl, hc⟩
  refine ⟨_, rfl, ?_⟩
  have hzw1 := hc.size
  have hJp := hJ _ _ _ hJp hc
  have hBn := hBn.ch hc (fun h => h)
  refine wl_nil ?_
  refine x_seq ?_
  refine wc_no rfl (rfl) ?_
  refine wc_skip ?_
  refine fin_run_n ((res0 rfl)) ?_
  exact ⟨rfl, .inl ⟨_, rfl, hJp⟩⟩

set_option maxHeartbeats 1000000 in
set_option maxRecDepth 20000 in
theorem all_ptr {w : World} {g : Nat}  :
    Calls Tryd.prog 69 #[ndp g] w fun e w' => ∃ g1, e = .returned (.func (.func 97) #[] #[.pointer (some ⟨g1, 0, none⟩)]) ∧ w.heap.size ≤ g1 ∧ Blk w' g1 25 #[ndp g] ∧ Ch No w w' := by
  have HC : Ch No w w := Ch.refl _ _
  refine enter' (args := [ndp g]) (n := 4) Tryd.func69 rfl rfl rfl ?_
  refine wc_seq ?_
  refine wc_region ?_
  refine wle rfl (e_box (cs := #[_]) rfl rfl rfl (fun w1 g1 hg1 hb1 hc hsz1 => ?_))
  have hzw1 := hc.size
  have HC := HC.tr hc
  have hge1 : w.heap.size ≤ g1 := by have := HC.size; omega
  refine wl rfl rfl rfl (p_as rfl) ?_
  refine wl_nil ?_
  refine x_seq ?_
  refine wc_seq ?_
  refine wc_region ?_
  refine wl rfl rfl rfl (p_mkf rfl) ?_
  refine wl rfl rfl rfl (p_as rfl) ?_
  refine wl_nil ?_
  refine x_seq ?_
  refine wc_ret ?_
  refine fin_run ((res1 rfl rfl)) ?_
  exact ⟨g1, rfl, hge1, hb1, HC⟩

set_option maxHeartbeats 1000000 in
set_option maxRecDepth 20000 in
theorem all_nil {w : World}   :
    Calls Tryd.prog 69 #[.pointer none] w fun e w' => ∃ g1, e = .returned (.func (.func 97) #[] #[.pointer (some ⟨g1, 0, none⟩)]) ∧ w.heap.size ≤ g1 ∧ Blk w' g1 25 #[.pointer none] ∧ Ch No w w' := by
  have HC : Ch No w w := Ch.refl _ _
  refine enter' (args := [.pointer none]) (n := 4) Tryd.func69 rfl rfl rfl ?_
  refine wc_seq ?_
  refine wc_region ?_
  refine wle rfl (e_box (cs := #[_]) rfl rfl rfl (fun w1 g1 hg1 hb1 hc hsz1 => ?_))
  have hzw1 := hc.size
  have HC := HC.tr hc
  have hge1 : w.heap.size ≤ g1 := by have := HC.size; omega
  refine wl rfl rfl rfl (p_as rfl) ?_
  refine wl_nil ?_
  refine x_seq ?_
  refine wc_seq ?_
  refine wc_region ?_
  refine wl rfl rfl rfl (p_mkf rfl) ?_
  refine wl rfl rfl rfl (p_as rfl) ?_
  refine wl_nil ?_
  refine x_seq ?_
  refine wc_ret ?_
  refine fin_run ((res1 rfl rfl)) ?_
  exact ⟨g1, rfl, hge1, hb1, HC⟩

set_option maxHeartbeats 1000000 in
set_option maxRecDepth 20000 in
theorem items_zero {w : World} {g : Nat} {n : Int} (hbg : Blk w g 41 [.pointer none, .bool false].toArray) :
    Calls Tryd.prog 48 #[ndp g, i64 n] w fun e w' => ∃ A l c ys, e = .returned (.tuple #[.slice A l c, .bool true]) ∧ RI w' (fun k => w.heap.size ≤ k) 81 eIT A l c ys ∧ ys = (if n < 0 then ([] : List (List UInt8 × List UInt8)) else ([] : List (List UInt8 × List UInt8)).take n.toNat) ∧ Ch No w w' := by
  have hltg := hbg.lt
  have HC : Ch No w w := Ch.refl _ _
  refine enterM (args := [ndp g, i64 n]) (n := 28) Tryd.func48 rfl rfl rfl ?_
  refine wc_seq ?_
  refine wc_region ?_
  have hltg := hbg.lt
  refine wle rfl (e_box (cs := #[_]) rfl rfl rfl (fun w1 g3 hg3 hb3 hc hsz3 => ?_))
  have hzw1 := hc.size
  have HC := HC.tr hc
  have hbg := hbg.ch hc (fun h => h)
  have hge3 : w.heap.size ≤ g3 := by have := HC.size; omega
  have neg_3 : g < g3 := by omega
  refine wl rfl rfl rfl (p_as rfl) ?_
  refine wl rfl rfl rfl (p_as rfl) ?_
  refine wl_nil ?_
  refine x_seq ?_
  refine wc_seq ?_
  refine wc_region ?_
  refine wl rfl rfl rfl (p_mv rfl) ?_
  refine wle rfl (e_call ent69 rfl rfl (all_ptr (g := g)) ?_)
  rintro _ w2 ⟨g11, rfl, hgB11, hBn, hc⟩
  refine ⟨_, rfl, ?_⟩
  have hzw2 := hc.size
  have HC := HC.tr hc
  have hbg := hbg.ch hc (fun h => h)
  have hb3 := hb3.ch hc (fun h => h)
  refine wl rfl rfl rfl (p_as rfl) ?_
  refine wl_nil ?_
  refine x_seq ?_
  refine wc_seq ?_
  refine wc_seq ?_
  refine wc_region ?_
  refine wl rfl rfl rfl (p_mv rfl) ?_
  refine wl rfl rfl rfl (p_eqFN rfl rfl Tryd.underlying121) ?_
  refine wl_nil ?_
  refine x_seq ?_
  refine wc_no rfl (rfl) ?_
  refine wc_skip ?_
  refine x_seq ?_
  refine wc_seq ?_
  refine wc_region ?_
  have hltg := hbg.lt
  have hltg3 := hb3.lt
  have hltg11 := hBn.lt
  refine wle rfl (e_alloc (cs := #[.slice none 0 0]) rfl (by rfl) rfl (fun w3 g7 hg7 hb7 hc hsz7 => ?_))
  have hzw3 := hc.size
  have HC := HC.tr hc
  have hbg := hbg.ch hc (fun h => h)
  have hb3 := hb3.ch hc (fun h => h)
  have hBn := hBn.ch hc (fun h => h)
  have hge7 : w.heap.size ≤ g7 := by have := HC.size; omega
  have neg_7 : g < g7 := by omega
  have neg3_7 : g3 < g7 := by omega
  have neg11_7 : g11 < g7 := by omega
  refine wl_nil ?_
  refine x_seq ?_
  refine wc_seq ?_
  refine wc_seq ?_
  refine wc_region ?_
  refine wl rfl rfl rfl (p_mv rfl) ?_
  refine wl_nil ?_
  refine x_seq ?_
  refine wc_block ?_
  obtain ⟨n0, hn0⟩ : ∃ z, z = w3.heap.size + 2 := ⟨_, rfl⟩
  have hn0w : w.heap.size + 2 ≤ n0 := by have := HC.size; omega
  have hM : RI w3 (fun k => n0 ≤ k) 81 eIT none 0 0 [] := RI.nil _ _ _ _
  have hltg3 := hb3.lt
  have hltg7 := hb7.lt
  have hltg11 := hBn.lt
  have hltg := hbg.lt
  have hz0 := HC.size
  refine wc_rangeS (m := 0) rfl (enters_of Tryd.func97 (by kernel_rfl) rfl) (fun x : List UInt8 × List UInt8 => #[hv x.1, hv x.2]) (fun _ => rfl) (fun (pre : List (List UInt8 × List UInt8)) (x : List UInt8 × List UInt8) => ∃ q, ([] : List (List UInt8 × List UInt8)) = pre ++ x :: q) (fun xs => xs = ([] : List (List UInt8 × List UInt8))) (fun _ => True) (fun W => Blk W g11 25 #[ndp g] ∧ Blk W g 41 [.pointer none, .bool false].toArray) ?hseq (fun xs W => ∃ A : Option Addr, ∃ l : Nat, ∃ c : Nat, (n < 0 ∨ (xs.length : Int) ≤ n) ∧ (Blk W g3 3 #[i64 n]) ∧ (Blk W g7 27 #[.slice A l c]) ∧ (RI W (fun k => n0 ≤ k) 81 eIT A l c xs) ∧ (Blk W g11 25 #[ndp g]) ∧ (Blk W g 41 [.pointer none, .bool false].toArray) ∧ (Ch No w W)) (fun c xs W => c = (Code.exit 0) ∧ ∃ A : Option Addr, ∃ l : Nat, ∃ c : Nat, ∃ ys : List (List UInt8 × List UInt8), (ys = (if n < 0 then ([] : List (List UInt8 × List UInt8)) else ([] : List (List UInt8 × List UInt8)).take n.toNat)) ∧ (Blk W g7 27 #[.slice A l c]) ∧ (RI W (fun k => n0 ≤ k) 81 eIT A l c ys) ∧ (Ch No w W)) ?hI ?hIx ?hIl ?hIxl ?hXI ?h0 ?hround ?hdone ?hstop
  case hseq =>
    intro l J Jx W hcW hsW hJ hJx hXJ hY hJ0
    exact (alls_zero (m := 0) (fun xs A h => hXJ xs A h) hJ hJx hJ0).mono (fun e w' h => ⟨⟨_, h.1⟩, h.2⟩)
  case hI =>
    rintro xs A B ⟨A, l, c, hle, hb3, hb7, hM, hBn, hbg, HC⟩ hc
    have hzB := hc.size
    have HC := HC.tr hc
    have hb3 := hb3.ch hc (fun h => h)
    have hb7 := hb7.ch hc (fun h => h)
    have hM := hM.no hc
    have hBn := hBn.ch hc (fun h => h)
    have hbg := hbg.ch hc (fun h => h)
    exact ⟨A, l, c, hle, hb3, hb7, hM, hBn, hbg, HC⟩
  case hIx =>
    rintro c xs A B ⟨hcx, A, l, c, ys, hys, hb7, hM, HC⟩ hc
    have hzB := hc.size
    have HC := HC.tr hc
    have hb7 := hb7.ch hc (fun h => h)
    have hM := hM.no hc
    exact ⟨hcx, A, l, c, ys, hys, hb7, hM, HC⟩
  case hIl =>
    rintro xs A B ⟨A, l, c, hle, hb3, hb7, hM, hBn, hbg, HC⟩ hc
    have hzB := hc.size
    have HC := HC.trans hc (fun _ _ h => h) (fun k hk ht => absurd ht (by omega))
    have hb3 := hb3.ch hc (by omega)
    have hb7 := hb7.ch hc (by omega)
    have hM := hM.ch hc (by intro k hz hk ht; first | omega | (dsimp only at *; omega))
    have hBn := hBn.ch hc (by omega)
    have hbg := hbg.ch hc (by omega)
    exact ⟨A, l, c, hle, hb3, hb7, hM, hBn, hbg, HC⟩
  case hIxl =>
    rintro c xs A B ⟨hcx, A, l, c, ys, hys, hb7, hM, HC⟩ hc
    have hzB := hc.size
    have HC := HC.trans hc (fun _ _ h => h) (fun k hk ht => absurd ht (by omega))
    have hb7 := hb7.ch hc (by omega)
    have hM := hM.ch hc (by intro k hz hk ht; first | omega | (dsimp only at *; omega))
    exact ⟨hcx, A, l, c, ys, hys, hb7, hM, HC⟩
  case hXI =>
    rintro xs W ⟨A, l, c, hle, hb3, hb7, hM, hBn, hbg, HC⟩
    exact ⟨hBn, hbg⟩
  case h0 =>
    intro W hc hs
    have hzW := hc.size
    have HC := HC.tr hc
    have hb3 := hb3.ch hc (fun h => h)
    have hb7 := hb7.ch hc (fun h => h)
    have hM := hM.no hc
    have hBn := hBn.ch hc (fun h => h)
    have hbg := hbg.ch hc (fun h => h)
    exact ⟨none, 0, 0, (by simp; omega), hb3, hb7, (hM.mono (fun k _ h => by first | exact h | exact h.1)), hBn, hbg, HC⟩
  case hround =>
    intro l pre x W hl hD hsz hI a F
    subst hl
    obtain ⟨A, l, c, hle, hb3, hb7, hM, hBn, hbg, HC⟩ := hI
    have hzW := HC.size
    have hD : ∃ q, ([] : List (List UInt8 × List UInt8)) = pre ++ x :: q := hD
    obtain ⟨q, hq⟩ := hD
    have hx1 : x.1.length = 32 := absurd hq (by simp)
    have hx2 : x.2.length = 32 := absurd hq (by simp)
    have hp0 : pre.length ≤ 1000 := absurd hq (by simp)
    have hMl := hM.len
    refine (?_ : WCi _ _ _ _ _ _ _ _) _ (F.hand2 rfl rfl)
    have hB : Ch (fun k => k ≠ w3.heap.size + 1 ∧ k ≠ w3.heap.size) W W := Ch.refl _ _
    refine wci_seq ?_
    refine wci_region ?_
    have hltg3 := hb3.lt
    have hltg7 := hb7.lt
    have hltg11 := hBn.lt
    have hltg := hbg.lt
    refine wlie rfl (by repeat (first | with_reducible exact no_stop | with_reducible exact no_false | with_reducible apply no_then | with_reducible apply no_in)) (e_alloc (cs := ((List.replicate 32 (0 : UInt8)).map u8v).toArray) rfl (by rfl) rfl (fun w4 g8 hg8 hb8 hc hsz8 => ?_))
    have hzw4 := hc.size
    have HC := HC.tr hc
    have hB := hB.tr hc
    have hb3 := hb3.ch hc (fun h => h)
    have hb7 := hb7.ch hc (fun h => h)
    have hM := hM.after hc
    have hBn := hBn.ch hc (fun h => h)
    have hbg := hbg.ch hc (fun h => h)
    have hge8 : w.heap.size ≤ g8 := by have := HC.size; omega
    have neg3_8 : g3 < g8 := by omega
    have neg7_8 : g7 < g8 := by omega
    have neg11_8 : g11 < g8 := by omega
    have neg_8 : g < g8 := by omega
    refine wlie rfl (by repeat (first | with_reducible exact no_stop | with_reducible exact no_false | with_reducible apply no_then | with_reducible apply no_in)) (e_stW (vs := List.map u8v x.1) (szL sz38 (by rw [List.length_map]; exact hx1)) (oneL one_u8 _) rfl rfl hb8 (by simp only [List.size_toArray, List.length_map]; first | done | exact ((List.length_replicate ..)).trans (hx1).symm) (fun w5 hb8 hc hsz => ?_))
    have hzw5 := hc.size
    have HC := HC.trans hc (fun _ _ h => h) (fun k hk ht => absurd ht (by omega))
    have hB := hB.trans hc (fun _ _ h => h) (fun k hk ht => by first | omega | (dsimp only at *; omega))
    have hb3 := hb3.ch hc (by omega)
    have hb7 := hb7.ch hc (by omega)
    have hM := hM.ch hc (by intro k hz hk ht; first | omega | (dsimp only at *; omega))
    have hBn := hBn.ch hc (by omega)
    have hbg := hbg.ch hc (by omega)
    refine wli_nil ?_
    refine xi_seq ?_
    refine wci_region ?_
    have hltg3 := hb3.lt
    have hltg7 := hb7.lt
    have hltg11 := hBn.lt
    have hltg := hbg.lt
    have hltg8 := hb8.lt
    refine wlie rfl (by repeat (first | with_reducible exact no_stop | with_reducible exact no_false | with_reducible apply no_then | with_reducible apply no_in)) (e_alloc (cs := ((List.replicate 32 (0 : UInt8)).map u8v).toArray) rfl (by rfl) rfl (fun w6 g9 hg9 hb9 hc hsz9 => ?_))
    have hzw6 := hc.size
    have HC := HC.tr hc
    have hB := hB.tr hc
    have hb3 := hb3.ch hc (fun h => h)
    have hb7 := hb7.ch hc (fun h => h)
    have hM := hM.after hc
    have hBn := hBn.ch hc (fun h => h)
    have hbg := hbg.ch hc (fun h => h)
    have hb8 := hb8.ch hc (fun h => h)
    have hge9 : w.heap.size ≤ g9 := by have := HC.size; omega
    have neg3_9 : g3 < g9 := by omega
    have neg7_9 : g7 < g9 := by omega
    have neg11_9 : g11 < g9 := by omega
    have neg_9 : g < g9 := by omega
    have neg8_9 : g8 < g9 := by omega
    refine wlie rfl (by repeat (first | with_reducible exact no_stop | with_reducible exact no_false | with_reducible apply no_then | with_reducible apply no_in)) (e_stW (vs := List.map u8v x.2) (szL sz38 (by rw [List.length_map]; exact hx2)) (oneL one_u8 _) rfl rfl hb9 (by simp only [List.size_toArray, List.length_map]; first | done | exact ((List.length_replicate ..)).trans (hx2).symm) (fun w7 hb9 hc hsz => ?_))
    have hzw7 := hc.size
    have HC := HC.trans hc (fun _ _ h => h) (fun k hk ht => absurd ht (by omega))
    have hB := hB.trans hc (fun _ _ h => h) (fun k hk ht => by first | omega | (dsimp only at *; omega))
    have hb3 := hb3.ch hc (by omega)
    have hb7 := hb7.ch hc (by omega)
    have hM := hM.ch hc (by intro k hz hk ht; first | omega | (dsimp only at *; omega))
    have hBn := hBn.ch hc (by omega)
    have hbg := hbg.ch hc (by omega)
    have hb8 := hb8.ch hc (by omega)
    refine wli_nil ?_
    refine xi_asg hB (fun W2 hc hsW => ?_)
    have hzW2 := hc.size
    have HC := HC.trans hc (fun _ _ h => h) (fun k hk ht => absurd ht (by omega))
    have hb3 := hb3.ch hc (by omega)
    have hb7 := hb7.ch hc (by omega)
    have hM := hM.ch hc (by intro k hz hk ht; first | omega | (dsimp only at *; omega))
    have hBn := hBn.ch hc (by omega)
    have hbg := hbg.ch hc (by omega)
    have hb8 := hb8.ch hc (by omega)
    have hb9 := hb9.ch hc (by omega)
    have hB : Ch (fun k => k ≠ w3.heap.size + 1 ∧ k ≠ w3.heap.size) W2 W2 := Ch.refl _ _
    refine wci_block ?_
    refine wci_seq ?_
    refine wci_seq ?_
    refine wci_region ?_
    refine wli rfl rfl rfl (p_ld Tryd.underlying27 rfl rfl (ld (hb7.cell rfl))) ?_
    refine wli rfl rfl rfl (p_lenS Tryd.underlying27 rfl) ?_
    refine wli rfl rfl rfl (p_ld Tryd.underlying3 rfl rfl (ld (hb3.cell rfl))) ?_
    refine wli rfl rfl rfl (p_eq rfl rfl) ?_
    refine wli_nil ?_
    refine xi_seq ?_
    refine wci_if rfl (fun c1 => ?_) (fun c1 => ?_)
    ·
      have c1 := of_decide_eq_true c1
      refine wci_exit ?_
      refine x_then_exit ?_
      refine x_in_on rfl ?_
      exact wq_stop_exit ⟨rfl, _, _, _, pre, (take_stop hq (by omega)), hb7, (hM.mono (fun k _ h => by first | exact h | exact h.1 | exact h.1.1 | exact h.1.1.1 | exact h.1.1.1.1)), HC⟩ hB
    ·
      have c1 := of_decide_eq_false c1
      refine wci_skip ?_
      refine xi_seq ?_
      refine wci_region ?_
      refine wli rfl rfl rfl (p_ld Tryd.underlying27 rfl rfl (ld (hb7.cell rfl))) ?_
      refine wli rfl rfl rfl (p_ldA (cs := List.map u8v x.1) Tryd.underlying38 rfl (szL sz38 (by rw [List.length_map]; exact hx1)) rfl (fun _ e => e ▸ rngL hb8)) ?_
      refine wli rfl rfl rfl (p_ldA (cs := List.map u8v x.2) Tryd.underlying38 rfl (szL sz38 (by rw [List.length_map]; exact hx2)) rfl (fun _ e => e ▸ rngL hb9)) ?_
      refine wli rfl rfl rfl (p_bldX (vs' := [(.agg ((hx x.1) : List Value).toArray), (.agg ((hx x.2) : List Value).toArray)]) (cs := (((List.map u8v x.1) ++ (List.map u8v x.2)) : List Value)) (cs' := (((hx x.1) ++ (hx x.2)) : List Value)) rfl (by simp only [hv, map_hx hx1, map_hx hx2] <;> rfl) (by simp only [hv, map_hx hx1, map_hx hx2] <;> rfl) (fun _ => by kernel_rfl)) ?_
      have hltg3 := hb3.lt
      have hltg7 := hb7.lt
      have hltg11 := hBn.lt
      have hltg := hbg.lt
      have hltg8 := hb8.lt
      have hltg9 := hb9.lt
      refine wlie rfl (by repeat (first | with_reducible exact no_stop | with_reducible exact no_false | with_reducible apply no_then | with_reducible apply no_in)) (e_bslX (E := 81) (cs := (((List.map u8v x.1) ++ (List.map u8v x.2)) : List Value)) (cs' := (((hx x.1) ++ (hx x.2)) : List Value)) rfl rfl (by simp only [hv, map_hx hx1, map_hx hx2] <;> rfl) (fun _ => by kernel_rfl) (fun w8 g25 hg25 hb25 hc hsz25 => ?_))
      have hzw8 := hc.size
      have HC := HC.tr hc
      have hB := hB.tr hc
      have hb3 := hb3.ch hc (fun h => h)
      have hb7 := hb7.ch hc (fun h => h)
      have hM := hM.after hc
      have hBn := hBn.ch hc (fun h => h)
      have hbg := hbg.ch hc (fun h => h)
      have hb8 := hb8.ch hc (fun h => h)
      have hb9 := hb9.ch hc (fun h => h)
      have hge25 : w.heap.size ≤ g25 := by have := HC.size; omega
      have hS25 := SI.oneA (E := eIT) (x := (x.1, x.2)) hb25 rfl ⟨hx1, hx2⟩
      have hltg3 := hb3.lt
      have hltg7 := hb7.lt
      have hltg11 := hBn.lt
      have hltg := hbg.lt
      have hltg8 := hb8.lt
      have hltg9 := hb9.lt
      refine wlie rfl (by repeat (first | with_reducible exact no_stop | with_reducible exact no_false | with_reducible apply no_then | with_reducible apply no_in)) (e_appI rfl el27 rfl rfl hM (hS25) (by omega) (by intro k hk; first | omega | (dsimp only at *; omega)) (fun w9 A26 c26 hM hc => ?_))
      have hzw9 := hc.size
      have HC := HC.trans hc (fun _ _ h => h) (fun k hk ht => absurd ht (by first | omega | (dsimp only at *; omega)))
      have hB := hB.trans hc (fun _ _ h => h) (fun k hk ht => by first | omega | (dsimp only at *; omega))
      have hb3 := hb3.ch hc (by first | omega | (dsimp only; omega))
      have hb7 := hb7.ch hc (by first | omega | (dsimp only; omega))
      have hBn := hBn.ch hc (by first | omega | (dsimp only; omega))
      have hbg := hbg.ch hc (by first | omega | (dsimp only; omega))
      have hb8 := hb8.ch hc (by first | omega | (dsimp only; omega))
      have hb9 := hb9.ch hc (by first | omega | (dsimp only; omega))
      first | have hS25 := hS25.ch hc (by intro k hk ht; first | omega | (dsimp only at *; omega)) | have hS25 := hS25.chT hc (by intro k hz hk ht; first | omega | (dsimp only at *; omega))
      refine wlie rfl (by repeat (first | with_reducible exact no_stop | with_reducible exact no_false | with_reducible apply no_then | with_reducible apply no_in)) (e_st1 (by rfl) rfl rfl rfl hb7 (fun w10 hb7 hc hsz => ?_))
      have hzw10 := hc.size
      have HC := HC.trans hc (fun _ _ h => h) (fun k hk ht => absurd ht (by omega))
      have hB := hB.trans hc (fun _ _ h => h) (fun k hk ht => by first | omega | (dsimp only at *; omega))
      have hb3 := hb3.ch hc (by omega)
      have hM := hM.ch hc (by intro k hz hk ht; first | omega | (dsimp only at *; omega))
      have hBn := hBn.ch hc (by omega)
      have hbg := hbg.ch hc (by omega)
      have hb8 := hb8.ch hc (by omega)
      have hb9 := hb9.ch hc (by omega)
      first | have hS25 := hS25.ch hc (by intro k hk ht; first | omega | (dsimp only at *; omega)) | have hS25 := hS25.chT hc (by intro k hz hk ht; first | omega | (dsimp only at *; omega))
      refine wli_nil ?_
      refine x_in_normal ?_
      exact wq_stop ⟨_, _, _, (by simp only [List.length_append, List.length_singleton]; omega), hb3, hb7, (hM.mono (fun k _ h => by first | exact h | exact h.1 | exact h.1.1 | exact h.1.1.1 | exact h.1.1.1.1)), hBn, hbg, HC⟩ hB
  case hdone =>
    rintro xs W a' hS ⟨A, l, c, hle, hb3, hb7, hM, hBn, hbg, HC⟩ hK F'
    refine wqd_ap ?_ F'
    have hzW := HC.size
    have hys := take_done (n := n) hS hle
    refine xd_in_normal ?_
    refine xd_seq ?_
    refine wcd_seq ?_
    refine wcd_region ?_
    refine wld rfl rfl rfl (p_ld Tryd.underlying27 rfl rfl (ld (hb7.cell rfl))) ?_
    refine wld rfl rfl rfl (p_as rfl) ?_
    refine wld rfl rfl rfl (p_as rfl) ?_
    refine wld_nil ?_
    refine xd_seq ?_
    refine wcd_ret ?_
    refine fin_runM hK (fun w11 hc hsz => ?_)
    have hzw11 := hc.size
    have HC := HC.trans hc (fun _ _ h => h) (fun k hk ht => absurd ht (by omega))
    have hb3 := hb3.ch hc (by omega)
    have hb7 := hb7.ch hc (by omega)
    have hM := hM.ch hc (by intro k hz hk ht; first | omega | (dsimp only at *; omega))
    have hBn := hBn.ch hc (by omega)
    have hbg := hbg.ch hc (by omega)
    refine ⟨_, (res2 rfl rfl rfl), ?_⟩
    exact ⟨_, _, _, _, rfl, hM.mono (fun k _ h => by have h2 : n0 ≤ k := h; show w.heap.size ≤ k; omega), hys, HC⟩
  case hstop =>
    rintro c xs W a' hS ⟨rfl, A, l, c, ys, hys, hb7, hM, HC⟩ hK F'
    refine wp_exit (wqd_ap ?_ F')
    have hzW := HC.size
    refine xd_in_here ?_
    refine xd_seq ?_
    refine wcd_seq ?_
    refine wcd_region ?_
    refine wld rfl rfl rfl (p_ld Tryd.underlying27 rfl rfl (ld (hb7.cell rfl))) ?_
    refine wld rfl rfl rfl (p_as rfl) ?_
    refine wld rfl rfl rfl (p_as rfl) ?_
    refine wld_nil ?_
    refine xd_seq ?_
    refine wcd_ret ?_
    refine fin_runM hK (fun w12 hc hsz => ?_)
    have hzw12 := hc.size
    have HC := HC.trans hc (fun _ _ h => h) (fun k hk ht => absurd ht (by omega))
    have hb7 := hb7.ch hc (by omega)
    have hM := hM.ch hc (by intro k hz hk ht; first | omega | (dsimp only at *; omega))
    refine ⟨_, (res2 rfl rfl rfl), ?_⟩
    exact ⟨_, _, _, _, rfl, hM.mono (fun k _ h => by have h2 : n0 ≤ k := h; show w.heap.size ≤ k; omega), hys, HC⟩

set_option maxHeartbeats 1000000 in
set_option maxRecDepth 20000 in
theorem items_nil {w : World}  {n : Int}  :
    Calls Tryd.prog 48 #[.pointer none, i64 n] w fun e w' => ∃ A l c ys, e = .returned (.tuple #[.slice A l c, .bool true]) ∧ RI w' (fun k => w.heap.size ≤ k) 81 eIT A l c ys ∧ ys = (if n < 0 then ([] : List (List UInt8 × List UInt8)) else ([] : List (List UInt8 × List UInt8)).take n.toNat) ∧ Ch No w w' := by
  have HC : Ch No w w := Ch.refl _ _
  refine enterM (args := [.pointer none, i64 n]) (n := 28) Tryd.func48 rfl rfl rfl ?_
  refine wc_seq ?_
  refine wc_region ?_
  refine wle rfl (e_box (cs := #[_]) rfl rfl rfl (fun w1 g3 hg3 hb3 hc hsz3 => ?_))
  have hzw1 := hc.size
  have HC := HC.tr hc
  have hge3 : w.heap.size ≤ g3 := by have := HC.size; omega
  refine wl rfl rfl rfl (p_as rfl) ?_
  refine wl rfl rfl rfl (p_as rfl) ?_
  refine wl_nil ?_
  refine x_seq ?_
  refine wc_seq ?_
  refine wc_region ?_
  refine wl rfl rfl rfl (p_mv rfl) ?_
  refine wle rfl (e_call ent69 rfl rfl (all_nil) ?_)
  rintro _ w2 ⟨g11, rfl, hgB11, hBn, hc⟩
  refine ⟨_, rfl, ?_⟩
  have hzw2 := hc.size
  have HC := HC.tr hc
  have hb3 := hb3.ch hc (fun h => h)
  refine wl rfl rfl rfl (p_as rfl) ?_
  refine wl_nil ?_
  refine x_seq ?_
  refine wc_seq ?_
  refine wc_seq ?_
  refine wc_region ?_
  refine wl rfl rfl rfl (p_mv rfl) ?_
  refine wl rfl rfl rfl (p_eqFN rfl rfl Tryd.underlying121) ?_
  refine wl_nil ?_
  refine x_seq ?_
  refine wc_no rfl (rfl) ?_
  refine wc_skip ?_
  refine x_seq ?_
  refine wc_seq ?_
  refine wc_region ?_
  have hltg3 := hb3.lt
  have hltg11 := hBn.lt
  refine wle rfl (e_alloc (cs := #[.slice none 0 0]) rfl (by rfl) rfl (fun w3 g7 hg7 hb7 hc hsz7 => ?_))
  have hzw3 := hc.size
  have HC := HC.tr hc
  have hb3 := hb3.ch hc (fun h => h)
  have hBn := hBn.ch hc (fun h => h)
  have hge7 : w.heap.size ≤ g7 := by have := HC.size; omega
  have neg3_7 : g3 < g7 := by omega
  have neg11_7 : g11 < g7 := by omega
  refine wl_nil ?_
  refine x_seq ?_
  refine wc_seq ?_
  refine wc_seq ?_
  refine wc_region ?_
  refine wl rfl rfl rfl (p_mv rfl) ?_
  refine wl_nil ?_
  refine x_seq ?_
  refine wc_block ?_
  obtain ⟨n0, hn0⟩ : ∃ z, z = w3.heap.size + 2 := ⟨_, rfl⟩
  have hn0w : w.heap.size + 2 ≤ n0 := by have := HC.size; omega
  have hM : RI w3 (fun k => n0 ≤ k) 81 eIT none 0 0 [] := RI.nil _ _ _ _
  have hltg3 := hb3.lt
  have hltg7 := hb7.lt
  have hltg11 := hBn.lt
  have hz0 := HC.size
  refine wc_rangeS (m := 0) rfl (enters_of Tryd.func97 (by kernel_rfl) rfl) (fun x : List UInt8 × List UInt8 => #[hv x.1, hv x.2]) (fun _ => rfl) (fun (pre : List (List UInt8 × List UInt8)) (x : List UInt8 × List UInt8) => ∃ q, ([] : List (List UInt8 × List UInt8)) = pre ++ x :: q) (fun xs => xs = ([] : List (List UInt8 × List UInt8))) (fun _ => True) (fun W => Blk W g11 25 #[.pointer none]) ?hseq (fun xs W => ∃ A : Option Addr, ∃ l : Nat, ∃ c : Nat, (n < 0 ∨ (xs.length : Int) ≤ n) ∧ (Blk W g3 3 #[i64 n]) ∧ (Blk W g7 27 #[.slice A l c]) ∧ (RI W (fun k => n0 ≤ k) 81 eIT A l c xs) ∧ (Blk W g11 25 #[.pointer none]) ∧ (Ch No w W)) (fun c xs W => c = (Code.exit 0) ∧ ∃ A : Option Addr, ∃ l : Nat, ∃ c : Nat, ∃ ys : List (List UInt8 × List UInt8), (ys = (if n < 0 then ([] : List (List UInt8 × List UInt8)) else ([] : List (List UInt8 × List UInt8)).take n.toNat)) ∧ (Blk W g7 27 #[.slice A l c]) ∧ (RI W (fun k => n0 ≤ k) 81 eIT A l c ys) ∧ (Ch No w W)) ?hI ?hIx ?hIl ?hIxl ?hXI ?h0 ?hround ?hdone ?hstop
  case hseq =>
    intro l J Jx W hcW hsW hJ hJx hXJ hY hJ0
    exact (alls_nil (m := 0) (fun xs A h => hXJ xs A h) hJ hJx hJ0).mono (fun e w' h => ⟨⟨_, h.1⟩, h.2⟩)
  case hI =>
    rintro xs A B ⟨A, l, c, hle, hb3, hb7, hM, hBn, HC⟩ hc
    have hzB := hc.size
    have HC := HC.tr hc
    have hb3 := hb3.ch hc (fun h => h)
    have hb7 := hb7.ch hc (fun h => h)
    have hM := hM.no hc
    have hBn := hBn.ch hc (fun h => h)
    exact ⟨A, l, c, hle, hb3, hb7, hM, hBn, HC⟩
  case hIx =>
    rintro c xs A B ⟨hcx, A, l, c, ys, hys, hb7, hM, HC⟩ hc
    have hzB := hc.size
    have HC := HC.tr hc
    have hb7 := hb7.ch hc (fun h => h)
    have hM := hM.no hc
    exact ⟨hcx, A, l, c, ys, hys, hb7, hM, HC⟩
  case hIl =>
    rintro xs A B ⟨A, l, c, hle, hb3, hb7, hM, hBn, HC⟩ hc
    have hzB := hc.size
    have HC := HC.trans hc (fun _ _ h => h) (fun k hk ht => absurd ht (by omega))
    have hb3 := hb3.ch hc (by omega)
    have hb7 := hb7.ch hc (by omega)
    have hM := hM.ch hc (by intro k hz hk ht; first | omega | (dsimp only at *; omega))
    have hBn := hBn.ch hc (by omega)
    exact ⟨A, l, c, hle, hb3, hb7, hM, hBn, HC⟩
  case hIxl =>
    rintro c xs A B ⟨hcx, A, l, c, ys, hys, hb7, hM, HC⟩ hc
    have hzB := hc.size
    have HC := HC.trans hc (fun _ _ h => h) (fun k hk ht => absurd ht (by omega))
    have hb7 := hb7.ch hc (by omega)
    have hM := hM.ch hc (by intro k hz hk ht; first | omega | (dsimp only at *; omega))
    exact ⟨hcx, A, l, c, ys, hys, hb7, hM, HC⟩
  case hXI =>
    rintro xs W ⟨A, l, c, hle, hb3, hb7, hM, hBn, HC⟩
    exact hBn
  case h0 =>
    intro W hc hs
    have hzW := hc.size
    have HC := HC.tr hc
    have hb3 := hb3.ch hc (fun h => h)
    have hb7 := hb7.ch hc (fun h => h)
    have hM := hM.no hc
    have hBn := hBn.ch hc (fun h => h)
    exact ⟨none, 0, 0, (by simp; omega), hb3, hb7, (hM.mono (fun k _ h => by first | exact h | exact h.1)), hBn, HC⟩
  case hround =>
    intro l pre x W hl hD hsz hI a F
    subst hl
    obtain ⟨A, l, c, hle, hb3, hb7, hM, hBn, HC⟩ := hI
    have hzW := HC.size
    have hD : ∃ q, ([] : List (List UInt8 × List UInt8)) = pre ++ x :: q := hD
    obtain ⟨q, hq⟩ := hD
    have hx1 : x.1.length = 32 := absurd hq (by simp)
    have hx2 : x.2.length = 32 := absurd hq (by simp)
    have hp0 : pre.length ≤ 1000 := absurd hq (by simp)
    have hMl := hM.len
    refine (?_ : WCi _ _ _ _ _ _ _ _) _ (F.hand2 rfl rfl)
    have hB : Ch (fun k => k ≠ w3.heap.size + 1 ∧ k ≠ w3.heap.size) W W := Ch.refl _ _
    refine wci_seq ?_
    refine wci_region ?_
    have hltg3 := hb3.lt
    have hltg7 := hb7.lt
    have hltg11 := hBn.lt
    refine wlie rfl (by repeat (first | with_reducible exact no_stop | with_reducible exact no_false | with_reducible apply no_then | with_reducible apply no_in)) (e_alloc (cs := ((List.replicate 32 (0 : UInt8)).map u8v).toArray) rfl (by rfl) rfl (fun w4 g8 hg8 hb8 hc hsz8 => ?_))
    have hzw4 := hc.size
    have HC := HC.tr hc
    have hB := hB.tr hc
    have hb3 := hb3.ch hc (fun h => h)
    have hb7 := hb7.ch hc (fun h => h)
    have hM := hM.after hc
    have hBn := hBn.ch hc (fun h => h)
    have hge8 : w.heap.size ≤ g8 := by have := HC.size; omega
    have neg3_8 : g3 < g8 := by omega
    have neg7_8 : g7 < g8 := by omega
    have neg11_8 : g11 < g8 := by omega
    refine wlie rfl (by repeat (first | with_reducible exact no_stop | with_reducible exact no_false | with_reducible apply no_then | with_reducible apply no_in)) (e_stW (vs := List.map u8v x.1) (szL sz38 (by rw [List.length_map]; exact hx1)) (oneL one_u8 _) rfl rfl hb8 (by simp only [List.size_toArray, List.length_map]; first | done | exact ((List.length_replicate ..)).trans (hx1).symm) (fun w5 hb8 hc hsz => ?_))
    have hzw5 := hc.size
    have HC := HC.trans hc (fun _ _ h => h) (fun k hk ht => absurd ht (by omega))
    have hB := hB.trans hc (fun _ _ h => h) (fun k hk ht => by first | omega | (dsimp only at *; omega))
    have hb3 := hb3.ch hc (by omega)
    have hb7 := hb7.ch hc (by omega)
    have hM := hM.ch hc (by intro k hz hk ht; first | omega | (dsimp only at *; omega))
    have hBn := hBn.ch hc (by omega)
    refine wli_nil ?_
    refine xi_seq ?_
    refine wci_region ?_
    have hltg3 := hb3.lt
    have hltg7 := hb7.lt
    have hltg11 := hBn.lt
    have hltg8 := hb8.lt
    refine wlie rfl (by repeat (first | with_reducible exact no_stop | with_reducible exact no_false | with_reducible apply no_then | with_reducible apply no_in)) (e_alloc (cs := ((List.replicate 32 (0 : UInt8)).map u8v).toArray) rfl (by rfl) rfl (fun w6 g9 hg9 hb9 hc hsz9 => ?_))
    have hzw6 := hc.size
    have HC := HC.tr hc
    have hB := hB.tr hc
    have hb3 := hb3.ch hc (fun h => h)
    have hb7 := hb7.ch hc (fun h => h)
    have hM := hM.after hc
    have hBn := hBn.ch hc (fun h => h)
    have hb8 := hb8.ch hc (fun h => h)
    have hge9 : w.heap.size ≤ g9 := by have := HC.size; omega
    have neg3_9 : g3 < g9 := by omega
    have neg7_9 : g7 < g9 := by omega
    have neg11_9 : g11 < g9 := by omega
    have neg8_9 : g8 < g9 := by omega
    refine wlie rfl (by repeat (first | with_reducible exact no_stop | with_reducible exact no_false | with_reducible apply no_then | with_reducible apply no_in)) (e_stW (vs := List.map u8v x.2) (szL sz38 (by rw [List.length_map]; exact hx2)) (oneL one_u8 _) rfl rfl hb9 (by simp only [List.size_toArray, List.length_map]; first | done | exact ((List.length_replicate ..)).trans (hx2).symm) (fun w7 hb9 hc hsz => ?_))
    have hzw7 := hc.size
    have HC := HC.trans hc (fun _ _ h => h) (fun k hk ht => absurd ht (by omega))
    have hB := hB.trans hc (fun _ _ h => h) (fun k hk ht => by first | omega | (dsimp only at *; omega))
    have hb3 := hb3.ch hc (by omega)
    have hb7 := hb7.ch hc (by omega)
    have hM := hM.ch hc (by intro k hz hk ht; first | omega | (dsimp only at *; omega))
    have hBn := hBn.ch hc (by omega)
    have hb8 := hb8.ch hc (by omega)
    refine wli_nil ?_
    refine xi_asg hB (fun W2 hc hsW => ?_)
    have hzW2 := hc.size
    have HC := HC.trans hc (fun _ _ h => h) (fun k hk ht => absurd ht (by omega))
    have hb3 := hb3.ch hc (by omega)
    have hb7 := hb7.ch hc (by omega)
    have hM := hM.ch hc (by intro k hz hk ht; first | omega | (dsimp only at *; omega))
    have hBn := hBn.ch hc (by omega)
    have hb8 := hb8.ch hc (by omega)
    have hb9 := hb9.ch hc (by omega)
    have hB : Ch (fun k => k ≠ w3.heap.size + 1 ∧ k ≠ w3.heap.size) W2 W2 := Ch.refl _ _
    refine wci_block ?_
    refine wci_seq ?_
    refine wci_seq ?_
    refine wci_region ?_
    refine wli rfl rfl rfl (p_ld Tryd.underlying27 rfl rfl (ld (hb7.cell rfl))) ?_
    refine wli rfl rfl rfl (p_lenS Tryd.underlying27 rfl) ?_
    refine wli rfl rfl rfl (p_ld Tryd.underlying3 rfl rfl (ld (hb3.cell rfl))) ?_
    refine wli rfl rfl rfl (p_eq rfl rfl) ?_
    refine wli_nil ?_
    refine xi_seq ?_
    refine wci_if rfl (fun c1 => ?_) (fun c1 => ?_)
    ·
      have c1 := of_decide_eq_true c1
      refine wci_exit ?_
      refine x_then_exit ?_
      refine x_in_on rfl ?_
      exact wq_stop_exit ⟨rfl, _, _, _, pre, (take_stop hq (by omega)), hb7, (hM.mono (fun k _ h => by first | exact h | exact h.1 | exact h.1.1 | exact h.1.1.1 | exact h.1.1.1.1)), HC⟩ hB
    ·
      have c1 := of_decide_eq_false c1
      refine wci_skip ?_
      refine xi_seq ?_
      refine wci_region ?_
      refine wli rfl rfl rfl (p_ld Tryd.underlying27 rfl rfl (ld (hb7.cell rfl))) ?_
      refine wli rfl rfl rfl (p_ldA (cs := List.map u8v x.1) Tryd.underlying38 rfl (szL sz38 (by rw [List.length_map]; exact hx1)) rfl (fun _ e => e ▸ rngL hb8)) ?_
      refine wli rfl rfl rfl (p_ldA (cs := List.map u8v x.2) Tryd.underlying38 rfl (szL sz38 (by rw [List.length_map]; exact hx2)) rfl (fun _ e => e ▸ rngL hb9)) ?_
      refine wli rfl rfl rfl (p_bldX (vs' := [(.agg ((hx x.1) : List Value).toArray), (.agg ((hx x.2) : List Value).toArray)]) (cs := (((List.map u8v x.1) ++ (List.map u8v x.2)) : List Value)) (cs' := (((hx x.1) ++ (hx x.2)) : List Value)) rfl (by simp only [hv, map_hx hx1, map_hx hx2] <;> rfl) (by simp only [hv, map_hx hx1, map_hx hx2] <;> rfl) (fun _ => by kernel_rfl)) ?_
      have hltg3 := hb3.lt
      have hltg7 := hb7.lt
      have hltg11 := hBn.lt
      have hltg8 := hb8.lt
      have hltg9 := hb9.lt
      refine wlie rfl (by repeat (first | with_reducible exact no_stop | with_reducible exact no_false | with_reducible apply no_then | with_reducible apply no_in)) (e_bslX (E := 81) (cs := (((List.map u8v x.1) ++ (List.map u8v x.2)) : List Value)) (cs' := (((hx x.1) ++ (hx x.2)) : List Value)) rfl rfl (by simp only [hv, map_hx hx1, map_hx hx2] <;> rfl) (fun _ => by kernel_rfl) (fun w8 g25 hg25 hb25 hc hsz25 => ?_))
      have hzw8 := hc.size
      have HC := HC.tr hc
      have hB := hB.tr hc
      have hb3 := hb3.ch hc (fun h => h)
      have hb7 := hb7.ch hc (fun h => h)
      have hM := hM.after hc
      have hBn := hBn.ch hc (fun h => h)
      have hb8 := hb8.ch hc (fun h => h)
      have hb9 := hb9.ch hc (fun h => h)
      have hge25 : w.heap.size ≤ g25 := by have := HC.size; omega
      have hS25 := SI.oneA (E := eIT) (x := (x.1, x.2)) hb25 rfl ⟨hx1, hx2⟩
      have hltg3 := hb3.lt
      have hltg7 := hb7.lt
      have hltg11 := hBn.lt
      have hltg8 := hb8.lt
      have hltg9 := hb9.lt
      refine wlie rfl (by repeat (first | with_reducible exact no_stop | with_reducible exact no_false | with_reducible apply no_then | with_reducible apply no_in)) (e_appI rfl el27 rfl rfl hM (hS25) (by omega) (by intro k hk; first | omega | (dsimp only at *; omega)) (fun w9 A26 c26 hM hc => ?_))
      have hzw9 := hc.size
      have HC := HC.trans hc (fun _ _ h => h) (fun k hk ht => absurd ht (by first | omega | (dsimp only at *; omega)))
      have hB := hB.trans hc (fun _ _ h => h) (fun k hk ht => by first | omega | (dsimp only at *; omega))
      have hb3 := hb3.ch hc (by first | omega | (dsimp only; omega))
      have hb7 := hb7.ch hc (by first | omega | (dsimp only; omega))
      have hBn := hBn.ch hc (by first | omega | (dsimp only; omega))
      have hb8 := hb8.ch hc (by first | omega | (dsimp only; omega))
      have hb9 := hb9.ch hc (by first | omega | (dsimp only; omega))
      first | have hS25 := hS25.ch hc (by intro k hk ht; first | omega | (dsimp only at *; omega)) | have hS25 := hS25.chT hc (by intro k hz hk ht; first | omega | (dsimp only at *; omega))
      refine wlie rfl (by repeat (first | with_reducible exact no_stop | with_reducible exact no_false | with_reducible apply no_then | with_reducible apply no_in)) (e_st1 (by rfl) rfl rfl rfl hb7 (fun w10 hb7 hc hsz => ?_))
      have hzw10 := hc.size
      have HC := HC.trans hc (fun _ _ h => h) (fun k hk ht => absurd ht (by omega))
      have hB := hB.trans hc (fun _ _ h => h) (fun k hk ht => by first | omega | (dsimp only at *; omega))
      have hb3 := hb3.ch hc (by omega)
      have hM := hM.ch hc (by intro k hz hk ht; first | omega | (dsimp only at *; omega))
      have hBn := hBn.ch hc (by omega)
      have hb8 := hb8.ch hc (by omega)
      have hb9 := hb9.ch hc (by omega)
      first | have hS25 := hS25.ch hc (by intro k hk ht; first | omega | (dsimp only at *; omega)) | have hS25 := hS25.chT hc (by intro k hz hk ht; first | omega | (dsimp only at *; omega))
      refine wli_nil ?_
      refine x_in_normal ?_
      exact wq_stop ⟨_, _, _, (by simp only [List.length_append, List.length_singleton]; omega), hb3, hb7, (hM.mono (fun k _ h => by first | exact h | exact h.1 | exact h.1.1 | exact h.1.1.1 | exact h.1.1.1.1)), hBn, HC⟩ hB
  case hdone =>
    rintro xs W a' hS ⟨A, l, c, hle, hb3, hb7, hM, hBn, HC⟩ hK F'
    refine wqd_ap ?_ F'
    have hzW := HC.size
    have hys := take_done (n := n) hS hle
    refine xd_in_normal ?_
    refine xd_seq ?_
    refine wcd_seq ?_
    refine wcd_region ?_
    refine wld rfl rfl rfl (p_ld Tryd.underlying27 rfl rfl (ld (hb7.cell rfl))) ?_
    refine wld rfl rfl rfl (p_as rfl) ?_
    refine wld rfl rfl rfl (p_as rfl) ?_
    refine wld_nil ?_
    refine xd_seq ?_
    refine wcd_ret ?_
    refine fin_runM hK (fun w11 hc hsz => ?_)
    have hzw11 := hc.size
    have HC := HC.trans hc (fun _ _ h => h) (fun k hk ht => absurd ht (by omega))
    have hb3 := hb3.ch hc (by omega)
    have hb7 := hb7.ch hc (by omega)
    have hM := hM.ch hc (by intro k hz hk ht; first | omega | (dsimp only at *; omega))
    have hBn := hBn.ch hc (by omega)
    refine ⟨_, (res2 rfl rfl rfl), ?_⟩
    exact ⟨_, _, _, _, rfl, hM.mono (fun k _ h => by have h2 : n0 ≤ k := h; show w.heap.size ≤ k; omega), hys, HC⟩
  case hstop =>
    rintro c xs W a' hS ⟨rfl, A, l, c, ys, hys, hb7, hM, HC⟩ hK F'
    refine wp_exit (wqd_ap ?_ F')
    have hzW := HC.size
    refine xd_in_here ?_
    refine xd_seq ?_
    refine wcd_seq ?_
    refine wcd_region ?_
    refine wld rfl rfl rfl (p_ld Tryd.underlying27 rfl rfl (ld (hb7.cell rfl))) ?_
    refine wld rfl rfl rfl (p_as rfl) ?_
    refine wld rfl rfl rfl (p_as rfl) ?_
    refine wld_nil ?_
    refine xd_seq ?_
    refine wcd_ret ?_
    refine fin_runM hK (fun w12 hc hsz => ?_)
    have hzw12 := hc.size
    have HC := HC.trans hc (fun _ _ h => h) (fun k hk ht => absurd ht (by omega))
    have hb7 := hb7.ch hc (by omega)
    have hM := hM.ch hc (by intro k hz hk ht; first | omega | (dsimp only at *; omega))
    refine ⟨_, (res2 rfl rfl rfl), ?_⟩
    exact ⟨_, _, _, _, rfl, hM.mono (fun k _ h => by have h2 : n0 ≤ k := h; show w.heap.size ≤ k; omega), hys, HC⟩

set_option maxHeartbeats 4000000 in
set_option maxRecDepth 20000 in
theorem trieNone_walk {w : World}  {ak av : List UInt8} {adr : Bool} (hak : ak.length = 32) (hav : av.length = 32) (hrnd : Sl w (fun k => k = 0) u32v (some ⟨0, 0, none⟩) 64 64 rk) :
    Calls Tryd.prog 10 #[.agg ((List.map u8v ak ++ (List.map u8v av ++ [.bool adr])) : List Value).toArray] w fun e w' => e = .returned (.bool true) ∧ Ch No w w' := by
  have hn0 : 0 < w.heap.size := hrnd.size (by omega) rfl
  have hn1 := hn0
  have HC : Ch No w w := Ch.refl _ _
  refine enter' (args := [_]) (n := 65) Tryd.func10 rfl rfl rfl ?_
  refine wc_seq ?_
  refine wc_region ?_
  refine wle rfl (e_box (cs := (((List.map u8v ak) ++ ((List.map u8v av) ++ [.bool adr])) : List Value).toArray) rfl rfl rfl (fun w1 g1 hg1 hb1 hc hsz1 => ?_))
  have hzw1 := hc.size
  have HC := HC.tr hc
  have hrnd := hrnd.no hc
  have hge1 : w.heap.size ≤ g1 := by have := HC.size; omega
  refine wl rfl rfl rfl (p_as rfl) ?_
  refine wl_nil ?_
  refine x_seq ?_
  refine wc_seq ?_
  refine wc_region ?_
  have hltg1 := hb1.lt
  refine wle rfl (e_alloc (cs := ([Value.pointer none, Value.bool false] : List Value).toArray) rfl (by rfl) rfl (fun w2 g3 hg3 hb3 hc hsz3 => ?_))
  have hzw2 := hc.size
  have HC := HC.tr hc
  have hrnd := hrnd.no hc
  have hb1 := hb1.ch hc (fun h => h)
  have hge3 : w.heap.size ≤ g3 := by have := HC.size; omega
  have neg1_3 : g1 < g3 := by omega
  have hbz : Blk w2 g3 41 [.pointer none, .bool false].toArray := hb3
  refine wl_nil ?_
  refine x_seq ?_
  refine wc_seq ?_
  refine wc_seq ?_
  refine wc_region ?_
  refine wl rfl rfl rfl (p_bldV rfl (fun _ => by kernel_rfl)) ?_
  refine wl rfl rfl rfl (p_mv rfl) ?_
  refine wl_nil ?_
  refine x_seq ?_
  refine wc_block ?_
  refine wc_rounds 3 ?_
  refine wr_succ ?_
  refine wc_seq ?_
  refine wc_region ?_
  refine wl rfl rfl rfl (p_lt rfl rfl) ?_
  refine wl_nil ?_
  refine x_seq ?_
  refine wc_seq ?_
  refine wc_yes rfl (rfl) ?_
  refine wc_skip ?_
  refine x_seq ?_
  refine wc_seq ?_
  refine wc_block ?_
  refine wc_seq ?_
  refine wc_region ?_
  refine wl rfl rfl rfl ((p_ixG (f := fun v : Value => v) (L := [.pointer none, .pointer (some ⟨g3, 0, none⟩)]) (d0 := .pointer none) (j := 0) Tryd.underlying83 Tryd.underlying25 rfl sz25 rfl rfl (by omega) (by omega) rfl rfl).to (show _ = Value.pointer none from rfl)) ?_
  refine wl rfl rfl rfl (p_as rfl) ?_
  refine wl_nil ?_
  refine x_seq ?_
  refine wc_seq ?_
  refine wc_region ?_
  refine wl rfl rfl rfl (p_mv rfl) ?_
  refine wl rfl rfl rfl (p_fld (j := 0) Tryd.underlying66 rfl ⟨_, by rfl⟩ rfl rfl) ?_
  refine wl rfl rfl rfl (p_ldA (cs := (List.map u8v ak)) Tryd.underlying38 rfl (szL sz38 (by first | rfl | (simp only [List.length_append, List.length_map, List.length_cons, List.length_nil, (show List.length ak = 32 from hak)]; done) | (simp only [List.length_append, List.length_map, List.length_cons, List.length_nil, List.size_toArray, (show List.length ak = 32 from hak)]; done))) rfl (fun _ e => e ▸ rng_at (p := []) (q := ((List.map u8v ak) : List Value)) (r := (((List.map u8v av) ++ [.bool adr]) : List Value)) hb1 (by simp only [List.append_assoc, List.cons_append, List.nil_append, List.append_nil]) (by first | rfl | (simp only [List.length_append, List.length_map, List.length_cons, List.length_nil]; done) | (simp only [List.length_append, List.length_map, List.length_cons, List.length_nil, List.size_toArray]; done)))) ?_
  refine wle rfl (e_call ent42 rfl rfl (tget_nil (hak)) ?_)
  rintro _ w3 ⟨rfl, hc⟩
  refine ⟨_, rfl, ?_⟩
  have hzw3 := hc.size
  have HC := HC.tr hc
  have hrnd := hrnd.no hc
  have hb1 := hb1.ch hc (fun h => h)
  have hbz := hbz.ch hc (fun h => h)
  refine wl rfl rfl rfl (p_mv rfl) ?_
  refine wl rfl rfl rfl (p_ext rfl rfl) ?_
  refine wl rfl rfl rfl (p_ext rfl rfl) ?_
  have hltg1 := hb1.lt
  have hltg3 := hbz.lt
  refine wle rfl (e_alloc (cs := ((List.replicate 32 (0 : UInt8)).map u8v).toArray) rfl (by rfl) rfl (fun w4 g6 hg6 hb6 hc hsz6 => ?_))
  have hzw4 := hc.size
  have HC := HC.tr hc
  have hrnd := hrnd.no hc
  have hb1 := hb1.ch hc (fun h => h)
  have hbz := hbz.ch hc (fun h => h)
  have hge6 : w.heap.size ≤ g6 := by have := HC.size; omega
  have neg1_6 : g1 < g6 := by omega
  have neg3_6 : g3 < g6 := by omega
  refine wle rfl (e_stW (vs := List.map u8v zeroH) (szL sz38 (by rw [List.length_map]; exact zeroH_len)) (oneL one_u8 _) rfl rfl hb6 (by simp only [List.size_toArray, List.length_map]; first | done | exact ((List.length_replicate ..)).trans (zeroH_len).symm) (fun w5 hb6 hc hsz => ?_))
  have hzw5 := hc.size
  have HC := HC.trans hc (fun _ _ h => h) (fun k hk ht => absurd ht (by omega))
  first | have hrnd := hrnd.ch hc (by intro k hk ht; first | omega | (dsimp only at *; omega)) | have hrnd := hrnd.chT hc (by intro k hz hk ht; first | omega | (dsimp only at *; omega))
  have hb1 := hb1.ch hc (by omega)
  have hbz := hbz.ch hc (by omega)
  refine wl rfl rfl rfl (p_as rfl) ?_
  refine wl_nil ?_
  refine x_seq ?_
  refine wc_seq ?_
  refine wc_region ?_
  refine wl rfl rfl rfl (p_mv rfl) ?_
  refine wle rfl (e_call ent48 rfl rfl (items_nil (n := -1)) ?_)
  rintro _ w6 ⟨A23, l23, c23, ys23, rfl, hY23, hys23, hc⟩
  refine ⟨_, rfl, ?_⟩
  have hzw6 := hc.size
  have HC := HC.tr hc
  have hrnd := hrnd.no hc
  have hb1 := hb1.ch hc (fun h => h)
  have hbz := hbz.ch hc (fun h => h)
  have hb6 := hb6.ch hc (fun h => h)
  have hyl23 := hY23.len
  have hY23 := hY23.mono (G := fun k => w5.heap.size ≤ k ∧ k < w6.heap.size) (fun k h1 h2 => ⟨h2, h1⟩)
  have hys23 : ys23 = [] := by rw [hys23]; split <;> rfl
  have hl23 : l23 = 0 := by rw [← hyl23, hys23]; rfl
  refine wl rfl rfl rfl (p_mv rfl) ?_
  refine wl rfl rfl rfl (p_ext rfl rfl) ?_
  refine wl rfl rfl rfl (p_ext rfl rfl) ?_
  refine wl rfl rfl rfl (p_as rfl) ?_
  refine wl rfl rfl rfl (p_as rfl) ?_
  refine wl_nil ?_
  refine x_seq ?_
  refine wc_seq ?_
  refine wc_region ?_
  refine wl rfl rfl rfl (p_mv rfl) ?_
  refine wl rfl rfl rfl (p_fld (j := 0) Tryd.underlying66 rfl ⟨_, by rfl⟩ rfl rfl) ?_
  refine wl rfl rfl rfl (p_ldA (cs := (List.map u8v ak)) Tryd.underlying38 rfl (szL sz38 (by first | rfl | (simp only [List.length_append, List.length_map, List.length_cons, List.length_nil, (show List.length ak = 32 from hak)]; done) | (simp only [List.length_append, List.length_map, List.length_cons, List.length_nil, List.size_toArray, (show List.length ak = 32 from hak)]; done))) rfl (fun _ e => e ▸ rng_at (p := []) (q := ((List.map u8v ak) : List Value)) (r := (((List.map u8v av) ++ [.bool adr]) : List Value)) hb1 (by simp only [List.append_assoc, List.cons_append, List.nil_append, List.append_nil]) (by first | rfl | (simp only [List.length_append, List.length_map, List.length_cons, List.length_nil]; done) | (simp only [List.length_append, List.length_map, List.length_cons, List.length_nil, List.size_toArray]; done)))) ?_
  refine wl rfl rfl rfl (p_fld (j := 32) Tryd.underlying66 rfl ⟨_, by rfl⟩ rfl rfl) ?_
  refine wl rfl rfl rfl (p_ldA (cs := (List.map u8v av)) Tryd.underlying38 rfl (szL sz38 (by first | rfl | (simp only [List.length_append, List.length_map, List.length_cons, List.length_nil, (show List.length av = 32 from hav)]; done) | (simp only [List.length_append, List.length_map, List.length_cons, List.length_nil, List.size_toArray, (show List.length av = 32 from hav)]; done))) rfl (fun _ e => e ▸ rng_at (p := ((List.map u8v ak) : List Value)) (q := ((List.map u8v av) : List Value)) (r := ([.bool adr] : List Value)) hb1 (by simp only [List.append_assoc, List.cons_append, List.nil_append, List.append_nil]) (by first | rfl | (simp only [List.length_append, List.length_map, List.length_cons, List.length_nil, (show List.length ak = 32 from hak)]; done) | (simp only [List.length_append, List.length_map, List.length_cons, List.length_nil, List.size_toArray, (show List.length ak = 32 from hak)]; done)))) ?_
  refine wle rfl (e_call ent44 rfl rfl (tput_nil (hak) (hav)) ?_)
  rintro _ w7 ⟨rfl, hc⟩
  refine ⟨_, rfl, ?_⟩
  have hzw7 := hc.size
  have HC := HC.tr hc
  have hrnd := hrnd.no hc
  have hb1 := hb1.ch hc (fun h => h)
  have hbz := hbz.ch hc (fun h => h)
  have hb6 := hb6.ch hc (fun h => h)
  have hY23 := hY23.after hc
  refine wl rfl rfl rfl (p_nePN rfl rfl Tryd.underlying25) ?_
  refine wl rfl rfl rfl (p_mv rfl) ?_
  refine wl_g (gd_ rfl rfl rfl rfl rfl rfl) rfl rfl (p_mv rfl) ?_
  refine wl_g (gd_ rfl rfl rfl rfl rfl rfl) rfl rfl (p_fld (j := 0) Tryd.underlying66 rfl ⟨_, by rfl⟩ rfl rfl) ?_
  refine wl_g (gd_ rfl rfl rfl rfl rfl rfl) rfl rfl (p_ldA (cs := (List.map u8v ak)) Tryd.underlying38 rfl (szL sz38 (by first | rfl | (simp only [List.length_append, List.length_map, List.length_cons, List.length_nil, (show List.length ak = 32 from hak)]; done) | (simp only [List.length_append, List.length_map, List.length_cons, List.length_nil, List.size_toArray, (show List.length ak = 32 from hak)]; done))) rfl (fun _ e => e ▸ rng_at (p := []) (q := ((List.map u8v ak) : List Value)) (r := (((List.map u8v av) ++ [.bool adr]) : List Value)) hb1 (by simp only [List.append_assoc, List.cons_append, List.nil_append, List.append_nil]) (by first | rfl | (simp only [List.length_append, List.length_map, List.length_cons, List.length_nil]; done) | (simp only [List.length_append, List.length_map, List.length_cons, List.length_nil, List.size_toArray]; done)))) ?_
  refine wle_g (gd_ rfl rfl rfl rfl rfl rfl) (e_call ent45 rfl rfl (tdrop_nil (hak)) ?_)
  rintro _ w8 ⟨rfl, hc⟩
  refine ⟨_, rfl, ?_⟩
  have hzw8 := hc.size
  have HC := HC.tr hc
  have hrnd := hrnd.no hc
  have hb1 := hb1.ch hc (fun h => h)
  have hbz := hbz.ch hc (fun h => h)
  have hb6 := hb6.ch hc (fun h => h)
  have hY23 := hY23.after hc
  refine wl_g (gd_ rfl rfl rfl rfl rfl rfl) rfl rfl (p_nePN rfl rfl Tryd.underlying25) ?_
  refine wl rfl rfl rfl (p_pickF rfl rfl) ?_
  refine wl rfl rfl rfl (p_mv rfl) ?_
  refine wl_g (gd_ rfl rfl rfl rfl rfl rfl) rfl rfl (p_mv rfl) ?_
  refine wl rfl rfl rfl (p_pickF rfl rfl) ?_
  refine wl rfl rfl rfl (p_mv rfl) ?_
  refine wl_g (gd_ rfl rfl rfl rfl rfl rfl) rfl rfl (p_mv rfl) ?_
  refine wle_g (gd_ rfl rfl rfl rfl rfl rfl) (e_call ent43 rfl rfl (tlen_nil) ?_)
  rintro _ w9 ⟨rfl, hc⟩
  refine ⟨_, rfl, ?_⟩
  have hzw9 := hc.size
  have HC := HC.tr hc
  have hrnd := hrnd.no hc
  have hb1 := hb1.ch hc (fun h => h)
  have hbz := hbz.ch hc (fun h => h)
  have hb6 := hb6.ch hc (fun h => h)
  have hY23 := hY23.after hc
  refine wl_g (gd_ rfl rfl rfl rfl rfl rfl) rfl rfl (p_ne rfl rfl) ?_
  refine wl rfl rfl rfl (p_pickF rfl rfl) ?_
  refine wl rfl rfl rfl (p_mv rfl) ?_
  refine wl_know (d := 48) (b' := false) rfl (rfl) ?_
  refine wl_g (gd_ rfl rfl rfl rfl rfl rfl) rfl rfl (p_mv rfl) ?_
  refine wle_g (gd_ rfl rfl rfl rfl rfl rfl) (e_call ent46 rfl rfl (troot_nil) ?_)
  rintro _ w10 ⟨rfl, hc⟩
  refine ⟨_, rfl, ?_⟩
  have hzw10 := hc.size
  have HC := HC.tr hc
  have hrnd := hrnd.no hc
  have hb1 := hb1.ch hc (fun h => h)
  have hbz := hbz.ch hc (fun h => h)
  have hb6 := hb6.ch hc (fun h => h)
  have hY23 := hY23.after hc
  refine wl_g (gd_ rfl rfl rfl rfl rfl rfl) rfl rfl (p_bldP (cs := ((List.replicate 32 (0 : UInt8)).map u8v).toArray) rfl (fun _ => by kernel_rfl)) ?_
  refine wl_g (gd_ rfl rfl rfl rfl rfl rfl) rfl rfl (p_neH (a := zeroH) (b := (List.replicate 32 (0 : UInt8))) (by kernel_rfl) Tryd.underlying38 Tryd.underlying5 sz5 rfl rfl (zeroH_len) ((List.length_replicate ..))) ?_
  refine wl rfl rfl rfl (p_pickF rfl rfl) ?_
  refine wl rfl rfl rfl (p_mv rfl) ?_
  refine wl_know (d := 54) (b' := false) rfl (by simp [zeroH]) ?_
  refine wl_g (gd_ rfl rfl rfl rfl rfl rfl) rfl rfl (p_mv rfl) ?_
  refine wl_g (gd_ rfl rfl rfl rfl rfl rfl) rfl rfl (p_not rfl) ?_
  refine wl rfl rfl rfl (p_pickF rfl rfl) ?_
  refine wl rfl rfl rfl (p_mv rfl) ?_
  refine wl_g (gd_ rfl rfl rfl rfl rfl rfl) rfl rfl (p_mv rfl) ?_
  refine wl_g (gd_ rfl rfl rfl rfl rfl rfl) rfl rfl (p_lenS Tryd.underlying27 rfl) ?_
  refine wl_g (gd_ rfl rfl rfl rfl rfl rfl) rfl rfl (p_gt rfl rfl) ?_
  refine wl rfl rfl rfl (p_pickF rfl rfl) ?_
  refine wl_nil ?_
  refine x_seq ?_
  refine wc_no rfl (decide_eq_false (by omega)) ?_
  refine wc_skip ?_
  refine x_in_normal ?_
  refine x_seq ?_
  refine wc_region ?_
  refine wl rfl rfl rfl (p_add (Z := 1) rfl rfl (by rw [w64 (by omega)]; rfl)) ?_
  refine wl rfl rfl rfl (p_mv rfl) ?_
  refine wl_nil ?_
  refine x_rounds ?_
  refine wr_succ ?_
  refine wc_seq ?_
  refine wc_region ?_
  refine wl rfl rfl rfl (p_lt rfl rfl) ?_
  refine wl_nil ?_
  refine x_seq ?_
  refine wc_seq ?_
  refine wc_yes rfl (rfl) ?_
  refine wc_skip ?_
  refine x_seq ?_
  refine wc_seq ?_
  refine wc_block ?_
  refine wc_seq ?_
  refine wc_region ?_
  refine wl rfl rfl rfl ((p_ixG (f := fun v : Value => v) (L := [.pointer none, .pointer (some ⟨g3, 0, none⟩)]) (d0 := .pointer none) (j := 1) Tryd.underlying83 Tryd.underlying25 rfl sz25 rfl rfl (by omega) (by omega) rfl rfl).to (show _ = Value.pointer (some ⟨g3, 0, none⟩) from rfl)) ?_
  refine wl rfl rfl rfl (p_as rfl) ?_
  refine wl_nil ?_
  refine x_seq ?_
  refine wc_seq ?_
  refine wc_region ?_
  refine wl rfl rfl rfl (p_mv rfl) ?_
  refine wl rfl rfl rfl (p_fld (j := 0) Tryd.underlying66 rfl ⟨_, by rfl⟩ rfl rfl) ?_
  refine wl rfl rfl rfl (p_ldA (cs := (List.map u8v ak)) Tryd.underlying38 rfl (szL sz38 (by first | rfl | (simp only [List.length_append, List.length_map, List.length_cons, List.length_nil, (show List.length ak = 32 from hak)]; done) | (simp only [List.length_append, List.length_map, List.length_cons, List.length_nil, List.size_toArray, (show List.length ak = 32 from hak)]; done))) rfl (fun _ e => e ▸ rng_at (p := []) (q := ((List.map u8v ak) : List Value)) (r := (((List.map u8v av) ++ [.bool adr]) : List Value)) hb1 (by simp only [List.append_assoc, List.cons_append, List.nil_append, List.append_nil]) (by first | rfl | (simp only [List.length_append, List.length_map, List.length_cons, List.length_nil]; done) | (simp only [List.length_append, List.length_map, List.length_cons, List.length_nil, List.size_toArray]; done)))) ?_
  refine wle rfl (e_call ent42 rfl rfl (tget_zero hbz (hak)) ?_)
  rintro _ w11 ⟨rfl, hc⟩
  refine ⟨_, rfl, ?_⟩
  have hzw11 := hc.size
  have HC := HC.tr hc
  have hrnd := hrnd.no hc
  have hb1 := hb1.ch hc (fun h => h)
  have hbz := hbz.ch hc (fun h => h)
  refine wl rfl rfl rfl (p_mv rfl) ?_
  refine wl rfl rfl rfl (p_ext rfl rfl) ?_
  refine wl rfl rfl rfl (p_ext rfl rfl) ?_
  have hltg1 := hb1.lt
  have hltg3 := hbz.lt
  refine wle rfl (e_alloc (cs := ((List.replicate 32 (0 : UInt8)).map u8v).toArray) rfl (by rfl) rfl (fun w12 g6 hg6 hb6 hc hsz6 => ?_))
  have hzw12 := hc.size
  have HC := HC.tr hc
  have hrnd := hrnd.no hc
  have hb1 := hb1.ch hc (fun h => h)
  have hbz := hbz.ch hc (fun h => h)
  have hge6 : w.heap.size ≤ g6 := by have := HC.size; omega
  have neg1_6 : g1 < g6 := by omega
  have neg3_6 : g3 < g6 := by omega
  refine wle rfl (e_stW (vs := List.map u8v zeroH) (szL sz38 (by rw [List.length_map]; exact zeroH_len)) (oneL one_u8 _) rfl rfl hb6 (by simp only [List.size_toArray, List.length_map]; first | done | exact ((List.length_replicate ..)).trans (zeroH_len).symm) (fun w13 hb6 hc hsz => ?_))
  have hzw13 := hc.size
  have HC := HC.trans hc (fun _ _ h => h) (fun k hk ht => absurd ht (by omega))
  first | have hrnd := hrnd.ch hc (by intro k hk ht; first | omega | (dsimp only at *; omega)) | have hrnd := hrnd.chT hc (by intro k hz hk ht; first | omega | (dsimp only at *; omega))
  have hb1 := hb1.ch hc (by omega)
  have hbz := hbz.ch hc (by omega)
  refine wl rfl rfl rfl (p_as rfl) ?_
  refine wl_nil ?_
  refine x_seq ?_
  refine wc_seq ?_
  refine wc_region ?_
  refine wl rfl rfl rfl (p_mv rfl) ?_
  refine wle rfl (e_call ent48 rfl rfl (items_zero (n := -1) hbz) ?_)
  rintro _ w14 ⟨A23, l23, c23, ys23, rfl, hY23, hys23, hc⟩
  refine ⟨_, rfl, ?_⟩
  have hzw14 := hc.size
  have HC := HC.tr hc
  have hrnd := hrnd.no hc
  have hb1 := hb1.ch hc (fun h => h)
  have hbz := hbz.ch hc (fun h => h)
  have hb6 := hb6.ch hc (fun h => h)
  have hyl23 := hY23.len
  have hY23 := hY23.mono (G := fun k => w13.heap.size ≤ k ∧ k < w14.heap.size) (fun k h1 h2 => ⟨h2, h1⟩)
  have hys23 : ys23 = [] := by rw [hys23]; split <;> rfl
  have hl23 : l23 = 0 := by rw [← hyl23, hys23]; rfl
  refine wl rfl rfl rfl (p_mv rfl) ?_
  refine wl rfl rfl rfl (p_ext rfl rfl) ?_
  refine wl rfl rfl rfl (p_ext rfl rfl) ?_
  refine wl rfl rfl rfl (p_as rfl) ?_
  refine wl rfl rfl rfl (p_as rfl) ?_
  refine wl_nil ?_
  refine x_seq ?_
  refine wc_seq ?_
  refine wc_region ?_
  refine wl rfl rfl rfl (p_mv rfl) ?_
  refine wl rfl rfl rfl (p_fld (j := 0) Tryd.underlying66 rfl ⟨_, by rfl⟩ rfl rfl) ?_
  refine wl rfl rfl rfl (p_ldA (cs := (List.map u8v ak)) Tryd.underlying38 rfl (szL sz38 (by first | rfl | (simp only [List.length_append, List.length_map, List.length_cons, List.length_nil, (show List.length ak = 32 from hak)]; done) | (simp only [List.length_append, List.length_map, List.length_cons, List.length_nil, List.size_toArray, (show List.length ak = 32 from hak)]; done))) rfl (fun _ e => e ▸ rng_at (p := []) (q := ((List.map u8v ak) : List Value)) (r := (((List.map u8v av) ++ [.bool adr]) : List Value)) hb1 (by simp only [List.append_assoc, List.cons_append, List.nil_append, List.append_nil]) (by first | rfl | (simp only [List.length_append, List.length_map, List.length_cons, List.length_nil]; done) | (simp only [List.length_append, List.length_map, List.length_cons, List.length_nil, List.size_toArray]; done)))) ?_
  refine wl rfl rfl rfl (p_fld (j := 32) Tryd.underlying66 rfl ⟨_, by rfl⟩ rfl rfl) ?_
  refine wl rfl rfl rfl (p_ldA (cs := (List.map u8v av)) Tryd.underlying38 rfl (szL sz38 (by first | rfl | (simp only [List.length_append, List.length_map, List.length_cons, List.length_nil, (show List.length av = 32 from hav)]; done) | (simp only [List.length_append, List.length_map, List.length_cons, List.length_nil, List.size_toArray, (show List.length av = 32 from hav)]; done))) rfl (fun _ e => e ▸ rng_at (p := ((List.map u8v ak) : List Value)) (q := ((List.map u8v av) : List Value)) (r := ([.bool adr] : List Value)) hb1 (by simp only [List.append_assoc, List.cons_append, List.nil_append, List.append_nil]) (by first | rfl | (simp only [List.length_append, List.length_map, List.length_cons, List.length_nil, (show List.length ak = 32 from hak)]; done) | (simp only [List.length_append, List.length_map, List.length_cons, List.length_nil, List.size_toArray, (show List.length ak = 32 from hak)]; done)))) ?_
  refine wle rfl (e_call ent44 rfl rfl (tput_zero hbz (hak) (hav)) ?_)
  rintro _ w15 ⟨rfl, hc⟩
  refine ⟨_, rfl, ?_⟩
  have hzw15 := hc.size
  have HC := HC.tr hc
  have hrnd := hrnd.no hc
  have hb1 := hb1.ch hc (fun h => h)
  have hbz := hbz.ch hc (fun h => h)
  have hb6 := hb6.ch hc (fun h => h)
  have hY23 := hY23.after hc
  refine wl rfl rfl rfl (p_nePN rfl rfl Tryd.underlying25) ?_
  refine wl rfl rfl rfl (p_mv rfl) ?_
  refine wl_g (gd_ rfl rfl rfl rfl rfl rfl) rfl rfl (p_mv rfl) ?_
  refine wl_g (gd_ rfl rfl rfl rfl rfl rfl) rfl rfl (p_fld (j := 0) Tryd.underlying66 rfl ⟨_, by rfl⟩ rfl rfl) ?_
  refine wl_g (gd_ rfl rfl rfl rfl rfl rfl) rfl rfl (p_ldA (cs := (List.map u8v ak)) Tryd.underlying38 rfl (szL sz38 (by first | rfl | (simp only [List.length_append, List.length_map, List.length_cons, List.length_nil, (show List.length ak = 32 from hak)]; done) | (simp only [List.length_append, List.length_map, List.length_cons, List.length_nil, List.size_toArray, (show List.length ak = 32 from hak)]; done))) rfl (fun _ e => e ▸ rng_at (p := []) (q := ((List.map u8v ak) : List Value)) (r := (((List.map u8v av) ++ [.bool adr]) : List Value)) hb1 (by simp only [List.append_assoc, List.cons_append, List.nil_append, List.append_nil]) (by first | rfl | (simp only [List.length_append, List.length_map, List.length_cons, List.length_nil]; done) | (simp only [List.length_append, List.length_map, List.length_cons, List.length_nil, List.size_toArray]; done)))) ?_
  refine wle_g (gd_ rfl rfl rfl rfl rfl rfl) (e_call ent45 rfl rfl (tdrop_zero hbz (hak)) ?_)
  rintro _ w16 ⟨rfl, hc⟩
  refine ⟨_, rfl, ?_⟩
  have hzw16 := hc.size
  have HC := HC.tr hc
  have hrnd := hrnd.no hc
  have hb1 := hb1.ch hc (fun h => h)
  have hbz := hbz.ch hc (fun h => h)
  have hb6 := hb6.ch hc (fun h => h)
  have hY23 := hY23.after hc
  refine wl_g (gd_ rfl rfl rfl rfl rfl rfl) rfl rfl (p_nePN rfl rfl Tryd.underlying25) ?_
  refine wl rfl rfl rfl (p_pickF rfl rfl) ?_
  refine wl rfl rfl rfl (p_mv rfl) ?_
  refine wl_g (gd_ rfl rfl rfl rfl rfl rfl) rfl rfl (p_mv rfl) ?_
  refine wl rfl rfl rfl (p_pickF rfl rfl) ?_
  refine wl rfl rfl rfl (p_mv rfl) ?_
  refine wl_g (gd_ rfl rfl rfl rfl rfl rfl) rfl rfl (p_mv rfl) ?_
  refine wle_g (gd_ rfl rfl rfl rfl rfl rfl) (e_call ent43 rfl rfl (tlen_zero hbz) ?_)
  rintro _ w17 ⟨rfl, hc⟩
  refine ⟨_, rfl, ?_⟩
  have hzw17 := hc.size
  have HC := HC.tr hc
  have hrnd := hrnd.no hc
  have hb1 := hb1.ch hc (fun h => h)
  have hbz := hbz.ch hc (fun h => h)
  have hb6 := hb6.ch hc (fun h => h)
  have hY23 := hY23.after hc
  refine wl_g (gd_ rfl rfl rfl rfl rfl rfl) rfl rfl (p_ne rfl rfl) ?_
  refine wl rfl rfl rfl (p_pickF rfl rfl) ?_
  refine wl rfl rfl rfl (p_mv rfl) ?_
  refine wl_know (d := 48) (b' := false) rfl (rfl) ?_
  refine wl_g (gd_ rfl rfl rfl rfl rfl rfl) rfl rfl (p_mv rfl) ?_
  refine wle_g (gd_ rfl rfl rfl rfl rfl rfl) (e_call ent46 rfl rfl (troot_zero hbz) ?_)
  rintro _ w18 ⟨rfl, hc⟩
  refine ⟨_, rfl, ?_⟩
  have hzw18 := hc.size
  have HC := HC.tr hc
  have hrnd := hrnd.no hc
  have hb1 := hb1.ch hc (fun h => h)
  have hbz := hbz.ch hc (fun h => h)
  have hb6 := hb6.ch hc (fun h => h)
  have hY23 := hY23.after hc
  refine wl_g (gd_ rfl rfl rfl rfl rfl rfl) rfl rfl (p_bldP (cs := ((List.replicate 32 (0 : UInt8)).map u8v).toArray) rfl (fun _ => by kernel_rfl)) ?_
  refine wl_g (gd_ rfl rfl rfl rfl rfl rfl) rfl rfl (p_neH (a := zeroH) (b := (List.replicate 32 (0 : UInt8))) (by kernel_rfl) Tryd.underlying38 Tryd.underlying5 sz5 rfl rfl (zeroH_len) ((List.length_replicate ..))) ?_
  refine wl rfl rfl rfl (p_pickF rfl rfl) ?_
  refine wl rfl rfl rfl (p_mv rfl) ?_
  refine wl_know (d := 54) (b' := false) rfl (by simp [zeroH]) ?_
  refine wl_g (gd_ rfl rfl rfl rfl rfl rfl) rfl rfl (p_mv rfl) ?_
  refine wl_g (gd_ rfl rfl rfl rfl rfl rfl) rfl rfl (p_not rfl) ?_
  refine wl rfl rfl rfl (p_pickF rfl rfl) ?_
  refine wl rfl rfl rfl (p_mv rfl) ?_
  refine wl_g (gd_ rfl rfl rfl rfl rfl rfl) rfl rfl (p_mv rfl) ?_
  refine wl_g (gd_ rfl rfl rfl rfl rfl rfl) rfl rfl (p_lenS Tryd.underlying27 rfl) ?_
  refine wl_g (gd_ rfl rfl rfl rfl rfl rfl) rfl rfl (p_gt rfl rfl) ?_
  refine wl rfl rfl rfl (p_pickF rfl rfl) ?_
  refine wl_nil ?_
  refine x_seq ?_
  refine wc_no rfl (decide_eq_false (by omega)) ?_
  refine wc_skip ?_
  refine x_in_normal ?_
  refine x_seq ?_
  refine wc_region ?_
  refine wl rfl rfl rfl (p_add (Z := 2) rfl rfl (by rw [w64 (by omega)]; rfl)) ?_
  refine wl rfl rfl rfl (p_mv rfl) ?_
  refine wl_nil ?_
  refine x_rounds ?_
  refine wr_succ ?_
  refine wc_seq ?_
  refine wc_region ?_
  refine wl rfl rfl rfl (p_lt rfl rfl) ?_
  refine wl_nil ?_
  refine x_seq ?_
  refine wc_seq ?_
  refine wc_no rfl (rfl) ?_
  refine wc_exit ?_
  refine x_then_exit ?_
  refine x_then_exit ?_
  refine x_in_here ?_
  refine x_seq ?_
  refine wc_seq ?_
  refine wc_region ?_
  refine wle rfl (e_call ent40 rfl rfl (lives11_any hrnd) ?_)
  rintro _ w19 ⟨rfl, hc⟩
  refine ⟨_, rfl, ?_⟩
  have hzw19 := hc.size
  have HC := HC.tr hc
  have hrnd := hrnd.no hc
  have hb1 := hb1.ch hc (fun h => h)
  have hbz := hbz.ch hc (fun h => h)
  refine wl rfl rfl rfl (p_as rfl) ?_
  refine wl_nil ?_
  refine x_seq ?_
  refine wc_ret ?_
  refine fin_run ((res1 rfl rfl)) ?_
  exact ⟨rfl, HC⟩
end Go.Proofs.YtkfkdakghjlenaaDoor
