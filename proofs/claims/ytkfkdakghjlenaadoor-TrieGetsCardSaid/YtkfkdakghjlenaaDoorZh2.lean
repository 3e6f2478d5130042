/-
  Own text, printed by a program of mine (wip/gx): what functions of the program do, walked operation by operation.
-/
import Derived.Test.YtkfkdakghjlenaaDoorProg
import Derived.Test.YtkfkdakghjlenaaDoorGxAgg
import Derived.Test.YtkfkdakghjlenaaDoorTab
import Derived.Test.YtkfkdakghjlenaaDoorGxZer
import Derived.Test.YtkfkdakghjlenaaDoorGxLay
import Derived.Test.YtkfkdakghjlenaaDoorPlPack
import Derived.Test.YtkfkdakghjlenaaDoorPlSum
import Derived.Test.YtkfkdakghjlenaaDoorPlSha
import Derived.Test.YtkfkdakghjlenaaDoorPlTag
import Derived.Test.YtkfkdakghjlenaaDoorPlBits
import Derived.Test.YtkfkdakghjlenaaDoorPlShaSt
import Derived.Test.YtkfkdakghjlenaaDoorPlShaB
import Derived.Test.YtkfkdakghjlenaaDoorPlTrie
import Derived.Test.YtkfkdakghjlenaaDoorPlTrieSt
import Derived.Test.YtkfkdakghjlenaaDoorGxRec
import Derived.Test.YtkfkdakghjlenaaDoorGxYld
import Derived.Test.YtkfkdakghjlenaaDoorPlTrieFil
import Derived.Test.YtkfkdakghjlenaaDoorOnceC
import Derived.Test.YtkfkdakghjlenaaDoorPlTrieW
import Derived.Test.YtkfkdakghjlenaaDoorPlMulti
import Derived.Test.YtkfkdakghjlenaaDoorPlEncs
import Derived.Test.YtkfkdakghjlenaaDoorGxMark
import Derived.Test.YtkfkdakghjlenaaDoorPlTrieLaw
import Derived.Test.YtkfkdakghjlenaaDoorPlTrieAct
import Derived.Test.YtkfkdakghjlenaaDoorZh0
import Derived.Test.YtkfkdakghjlenaaDoorZh1
set_option linter.unusedVariables false
set_option linter.unusedSimpArgs false
namespace Go.Proofs.YtkfkdakghjlenaaDoor
open Go.RowKit Go.Gx
open Go.Plain
set_option maxHeartbeats 1000000 in
set_option maxRecDepth 20000 in
theorem tlen_some {w : World} {g : Nat} {t : LT} (hbg : Blk w g 41 [ndp t.adr, .bool true].toArray) (hX : LAt 156 w t) :
    Calls Tryd.prog 43 #[ndp g] w fun e w' => e = .returned (i64 (t.er.cnt : Int)) ∧ Ch No w w' := by
  have hltg := hbg.lt
  obtain ⟨gn, p, q, v0, d0, h0, egn, hvn, hhn, hkn, hbl, hcl, hbn⟩ := hX.top
  rw [← egn] at hbg
  have hbn : Blk w gn 156 (([i64 (t.er.bit : Int), p, q] ++ ((List.map u8v t.er.key) ++ ((List.map u8v v0) ++ ([i64 (t.er.cnt : Int), .int .u32 (d0 : Int), .int .i32 ((0 : Nat) : Int), .int .u32 0] ++ (List.map u8v h0))))) : List Value).toArray := hbn
  have hltgn := hbn.lt
  have hbg : Blk w g 41 ([ndp gn, .bool true] : List Value).toArray := hbg
  have HC : Ch No w w := Ch.refl _ _
  refine enter' (args := [ndp g]) (n := 20) Tryd.func43 rfl rfl rfl ?_
  refine wc_seq ?_
  refine wc_region ?_
  refine wl rfl rfl rfl (p_as rfl) ?_
  refine wl_nil ?_
  refine x_seq ?_
  refine wc_seq ?_
  refine wc_seq ?_
  refine wc_region ?_
  refine wl rfl rfl rfl (p_mv rfl) ?_
  refine wle rfl (e_call ent81 rfl rfl (is_madeP hbg) ?_)
  rintro _ w1 ⟨rfl, hc⟩
  refine ⟨_, rfl, ?_⟩
  have hzw1 := hc.size
  have HC := HC.tr hc
  have hbg := hbg.ch hc (fun h => h)
  have hbn := hbn.ch hc (fun h => h)
  refine wl rfl rfl rfl (p_not rfl) ?_
  refine wl rfl rfl rfl (p_mv rfl) ?_
  refine wl_g (gd_ rfl rfl rfl rfl rfl rfl) rfl rfl (p_mv rfl) ?_
  refine wl_g (gd_ rfl rfl rfl rfl rfl rfl) rfl rfl (p_nck rfl) ?_
  refine wl_g (gd_ rfl rfl rfl rfl rfl rfl) rfl rfl (p_fld (j := 0) Tryd.underlying41 rfl ⟨_, by rfl⟩ rfl rfl) ?_
  refine wl_g (gd_ rfl rfl rfl rfl rfl rfl) rfl rfl (p_ld Tryd.underlying39 rfl rfl (ld (cell_at (p := []) (v := (ndp gn : Value)) (r := ([.bool true] : List Value)) hbg (by simp only [List.append_assoc, List.cons_append, List.nil_append, List.append_nil]) (by first | rfl | (simp only [List.length_append, List.length_map, List.length_cons, List.length_nil]; done) | (simp only [List.length_append, List.length_map, List.length_cons, List.length_nil, List.size_toArray]; done))))) ?_
  refine wl_g (gd_ rfl rfl rfl rfl rfl rfl) rfl rfl (p_eqPN rfl rfl Tryd.underlying39) ?_
  refine wl rfl rfl rfl (p_pickF rfl rfl) ?_
  refine wl_nil ?_
  refine x_seq ?_
  refine wc_no rfl (rfl) ?_
  refine wc_skip ?_
  refine x_seq ?_
  refine wc_seq ?_
  refine wc_region ?_
  refine wl rfl rfl rfl (p_mv rfl) ?_
  refine wl rfl rfl rfl (p_nck rfl) ?_
  refine wl rfl rfl rfl (p_fld (j := 0) Tryd.underlying41 rfl ⟨_, by rfl⟩ rfl rfl) ?_
  refine wl rfl rfl rfl (p_ld Tryd.underlying39 rfl rfl (ld (cell_at (p := []) (v := (ndp gn : Value)) (r := ([.bool true] : List Value)) hbg (by simp only [List.append_assoc, List.cons_append, List.nil_append, List.append_nil]) (by first | rfl | (simp only [List.length_append, List.length_map, List.length_cons, List.length_nil]; done) | (simp only [List.length_append, List.length_map, List.length_cons, List.length_nil, List.size_toArray]; done))))) ?_
  refine wl rfl rfl rfl (p_nck rfl) ?_
  refine wl rfl rfl rfl (p_fld (j := 67) Tryd.underlying156 rfl ⟨_, by rfl⟩ rfl rfl) ?_
  refine wl rfl rfl rfl (p_ld Tryd.underlying3 rfl rfl (ld (cell_at (p := (([i64 (t.er.bit : Int), p, q] ++ ((List.map u8v t.er.key) ++ (List.map u8v v0))) : List Value)) (v := (i64 (t.er.cnt : Int) : Value)) (r := (([.int .u32 (d0 : Int), .int .i32 ((0 : Nat) : Int), .int .u32 0] ++ (List.map u8v h0)) : List Value)) hbn (by simp only [List.append_assoc, List.cons_append, List.nil_append, List.append_nil]) (by first | rfl | (simp only [List.length_append, List.length_map, List.length_cons, List.length_nil, (show List.length t.er.key = 32 from hkn), (show List.length v0 = 32 from hvn)]; done) | (simp only [List.length_append, List.length_map, List.length_cons, List.length_nil, List.size_toArray, (show List.length t.er.key = 32 from hkn), (show List.length v0 = 32 from hvn)]; done))))) ?_
  refine wl rfl rfl rfl (p_as rfl) ?_
  refine wl_nil ?_
  refine x_seq ?_
  refine wc_ret ?_
  refine fin_run (res1 rfl rfl) ?_
  exact ⟨rfl, HC⟩

theorem tlen_made {w : World} {v : Value} {o : Option LT} {F : Nat → Prop} (hV : TR 41 156 F w v o) : Calls Tryd.prog 43 #[v] w fun e w' => e = .returned (i64 (cntT (eo o) : Int)) ∧ Ch No w w' := by
  obtain ⟨g, rfl, hFg, hbg, hT⟩ := hV.opn
  cases o with
  | none => exact tlen_none hbg
  | some t => exact tlen_some hbg (hT t rfl).1

set_option maxHeartbeats 1000000 in
set_option maxRecDepth 20000 in
theorem lives11_any {w : World}  (hrnd : Sl w (fun k => k = 0) u32v (some ⟨0, 0, none⟩) 64 64 rk) :
    Calls Tryd.prog 40 #[] w fun e w' => e = .returned (.bool true) ∧ Ch No w w' := by
  have hn0 : 0 < w.heap.size := hrnd.size (by omega) rfl
  have hn1 := hn0
  have HC : Ch No w w := Ch.refl _ _
  refine enter' (args := []) (n := 29) Tryd.func40 rfl rfl rfl ?_
  refine wc_seq ?_
  refine wc_region ?_
  refine wl rfl rfl rfl (p_as rfl) ?_
  refine wl_nil ?_
  refine x_seq ?_
  refine wc_seq ?_
  refine wc_region ?_
  refine wle rfl (e_alloc (cs := ((List.replicate 32 (0 : UInt8)).map u8v).toArray) rfl (by rfl) rfl (fun w1 g1 hg1 hb1 hc hsz1 => ?_))
  have hzw1 := hc.size
  have HC := HC.tr hc
  have hrnd := hrnd.no hc
  have hge1 : w.heap.size ≤ g1 := by have := HC.size; omega
  have hltg1 := hb1.lt
  refine wle rfl (e_alloc (cs := ((List.replicate 32 (0 : UInt8)).map u8v).toArray) rfl (by rfl) rfl (fun w2 g2 hg2 hb2 hc hsz2 => ?_))
  have hzw2 := hc.size
  have HC := HC.tr hc
  have hrnd := hrnd.no hc
  have hb1 := hb1.ch hc (fun h => h)
  have hge2 : w.heap.size ≤ g2 := by have := HC.size; omega
  have neg1_2 : g1 < g2 := by omega
  have hltg1 := hb1.lt
  have hltg2 := hb2.lt
  refine wle rfl (e_alloc (cs := ((List.replicate 32 (0 : UInt8)).map u8v).toArray) rfl (by rfl) rfl (fun w3 g3 hg3 hb3 hc hsz3 => ?_))
  have hzw3 := hc.size
  have HC := HC.tr hc
  have hrnd := hrnd.no hc
  have hb1 := hb1.ch hc (fun h => h)
  have hb2 := hb2.ch hc (fun h => h)
  have hge3 : w.heap.size ≤ g3 := by have := HC.size; omega
  have neg1_3 : g1 < g3 := by omega
  have neg2_3 : g2 < g3 := by omega
  refine wl_nil ?_
  refine x_seq ?_
  refine wc_seq ?_
  refine wc_region ?_
  refine wl rfl rfl rfl (p_ixA1 (j := 0) Tryd.underlying38 sz5 rfl rfl (by omega) (by omega) rfl) ?_
  refine wle rfl (e_stL (x := 1) one_u8 (by rfl) rfl rfl hb1 (by first | (simp; done) | (simp; omega) | omega) (fun w5 hb1 hc hsz => ?_))
  have hzw5 := hc.size
  have HC := HC.trans hc (fun _ _ h => h) (fun k hk ht => absurd ht (by omega))
  first | have hrnd := hrnd.ch hc (by intro k hk ht; first | omega | (dsimp only at *; omega)) | have hrnd := hrnd.chT hc (by intro k hz hk ht; first | omega | (dsimp only at *; omega))
  have hb2 := hb2.ch hc (by omega)
  have hb3 := hb3.ch hc (by omega)
  have hb1 : Blk w5 g1 38 (List.map u8v ((List.replicate 32 (0 : UInt8)).set 0 1)).toArray := hb1
  refine wl rfl rfl rfl (p_ixA1 (j := 5) Tryd.underlying38 sz5 rfl rfl (by omega) (by omega) rfl) ?_
  refine wle rfl (e_stL (x := 1) one_u8 (by rfl) rfl rfl hb2 (by first | (simp; done) | (simp; omega) | omega) (fun w7 hb2 hc hsz => ?_))
  have hzw7 := hc.size
  have HC := HC.trans hc (fun _ _ h => h) (fun k hk ht => absurd ht (by omega))
  first | have hrnd := hrnd.ch hc (by intro k hk ht; first | omega | (dsimp only at *; omega)) | have hrnd := hrnd.chT hc (by intro k hz hk ht; first | omega | (dsimp only at *; omega))
  have hb1 := hb1.ch hc (by omega)
  have hb3 := hb3.ch hc (by omega)
  have hb2 : Blk w7 g2 38 (List.map u8v ((List.replicate 32 (0 : UInt8)).set 5 1)).toArray := hb2
  refine wl_nil ?_
  refine x_seq ?_
  refine wc_seq ?_
  refine wc_draw (.st 1 1 (.st 2 1 (.st 4 1 (.st 5 1 (.st 7 1 (.st 0 2 (.st 3 2 (.st 6 2 (.st 8 2 (.st 9 0 .nil)))))))))) 10 (by kernel_rfl) (by kernel_rfl) (by kernel_rfl) (by repeat (first | with_reducible exact pan_body | with_reducible apply pan_then | with_reducible apply pan_in)) (fun x => Ch No w7.drew x) (Ch.refl _ _) ?_
  obtain ⟨w8, ew8⟩ : ∃ x, x = w7.drew := ⟨_, rfl⟩
  rw [← ew8]
  have hc : Ch No w7 w8 := by rw [ew8]; exact Ch.drew _
  have hszw8 : w8.heap.size = w7.heap.size := by rw [ew8]; rfl
  clear ew8
  have hzw8 := hc.size
  have HC := HC.tr hc
  have hrnd := hrnd.no hc
  have hb1 := hb1.ch hc (fun h => h)
  have hb2 := hb2.ch hc (fun h => h)
  have hb3 := hb3.ch hc (fun h => h)
  have hS : Ch No w8 w8 := Ch.refl _ _
  refine ws_h rfl rfl rfl rfl (p_ldA (cs := List.map u8v ((List.replicate 32 (0 : UInt8)).set 0 1)) Tryd.underlying38 rfl (szL sz38 (by rw [List.length_map]; exact ((List.length_set ..).trans (List.length_replicate ..)))) rfl (fun _ h => (rngL (hb1.ch h (fun h => h))))) ?_
  refine ws_h rfl rfl rfl rfl (p_ldA (cs := List.map u8v (List.replicate 32 (0 : UInt8))) Tryd.underlying38 rfl (szL sz38 (by rw [List.length_map]; exact (List.length_replicate ..))) rfl (fun _ h => (rngL (hb3.ch h (fun h => h))))) ?_
  refine ws_h rfl rfl rfl rfl (p_ldA (cs := List.map u8v ((List.replicate 32 (0 : UInt8)).set 5 1)) Tryd.underlying38 rfl (szL sz38 (by rw [List.length_map]; exact ((List.length_set ..).trans (List.length_replicate ..)))) rfl (fun _ h => (rngL (hb2.ch h (fun h => h))))) ?_
  refine ws_h rfl rfl rfl rfl (p_ldA (cs := List.map u8v (List.replicate 32 (0 : UInt8))) Tryd.underlying38 rfl (szL sz38 (by rw [List.length_map]; exact (List.length_replicate ..))) rfl (fun _ h => (rngL (hb3.ch h (fun h => h))))) ?_
  refine ws_h rfl rfl rfl rfl (p_ldA (cs := List.map u8v ((List.replicate 32 (0 : UInt8)).set 5 1)) Tryd.underlying38 rfl (szL sz38 (by rw [List.length_map]; exact ((List.length_set ..).trans (List.length_replicate ..)))) rfl (fun _ h => (rngL (hb2.ch h (fun h => h))))) ?_
  refine ws_e rfl rfl (e_call ent51 rfl rfl (new_any) ?_)
  rintro _ w9 ⟨v7, rfl, hV7, hc⟩
  refine ⟨_, rfl, hc, ?_⟩
  have hzw9 := hc.size
  have HC := HC.tr hc
  have hrnd := hrnd.no hc
  have hb1 := hb1.ch hc (fun h => h)
  have hb2 := hb2.ch hc (fun h => h)
  have hb3 := hb3.ch hc (fun h => h)
  have hV7 := hV7.mono (G := fun k => w8.heap.size ≤ k ∧ k < w9.heap.size) (fun k h1 h2 => ⟨h2, h1⟩)
  refine ws_narrow (S' := fun x => Ch No w9 x) (Ch.refl _ _) (fun x h => hc.tr h) ?_
  refine ws_e rfl rfl (e_call ent44 rfl rfl (tput_made (F := fun k => w.heap.size ≤ k) (hV7.mono (fun k _ h => by first | exact h.1 | (have h2 := h.1; show w.heap.size ≤ k; omega))) (fun j hj => by show w.heap.size ≤ j; omega) (((List.length_set ..).trans (List.length_replicate ..))) ((List.length_replicate ..)) (by show 0 + 1 ≤ _; omega)) ?_)
  rintro _ w10 ⟨v10, t10, rfl, hV10, heq10, hc⟩
  refine ⟨_, rfl, hc, ?_⟩
  have hzw10 := hc.size
  have HC := HC.tr hc
  have hrnd := hrnd.no hc
  have hb1 := hb1.ch hc (fun h => h)
  have hb2 := hb2.ch hc (fun h => h)
  have hb3 := hb3.ch hc (fun h => h)
  have hV7 := hV7.ch hc (by first | exact fun _ _ _ h => h | (intro k hk hF ht; have h2 := hF.1; have h3 := hF.2; first | omega | (dsimp only at *; omega)))
  have hV10 := hV10.mono (G := fun k => w.heap.size ≤ k ∧ k < w10.heap.size) (fun k h1 h2 => ⟨by first | exact h2 | exact h2.1 | ((try dsimp only at h2); omega), h1⟩)
  refine ws_narrow (S' := fun x => Ch No w10 x) (Ch.refl _ _) (fun x h => hc.tr h) ?_
  refine ws_e rfl rfl (e_call ent44 rfl rfl (tput_made (F := fun k => w.heap.size ≤ k) (hV10.mono (fun k _ h => by first | exact h.1 | (have h2 := h.1; show w.heap.size ≤ k; omega))) (fun j hj => by show w.heap.size ≤ j; omega) (((List.length_set ..).trans (List.length_replicate ..))) ((List.length_replicate ..)) (by rw [heq10]; exact Nat.le_trans (Nat.succ_le_succ putT_cnt) (by show 0 + 1 + 1 ≤ _; omega))) ?_)
  rintro _ w11 ⟨v13, t13, rfl, hV13, heq13, hc⟩
  refine ⟨_, rfl, hc, ?_⟩
  have hzw11 := hc.size
  have HC := HC.tr hc
  have hrnd := hrnd.no hc
  have hb1 := hb1.ch hc (fun h => h)
  have hb2 := hb2.ch hc (fun h => h)
  have hb3 := hb3.ch hc (fun h => h)
  have hV7 := hV7.ch hc (by first | exact fun _ _ _ h => h | (intro k hk hF ht; have h2 := hF.1; have h3 := hF.2; first | omega | (dsimp only at *; omega)))
  have hV10 := hV10.ch hc (by first | exact fun _ _ _ h => h | (intro k hk hF ht; have h2 := hF.1; have h3 := hF.2; first | omega | (dsimp only at *; omega)))
  have hV13 := hV13.mono (G := fun k => w.heap.size ≤ k ∧ k < w11.heap.size) (fun k h1 h2 => ⟨by first | exact h2 | exact h2.1 | ((try dsimp only at h2); omega), h1⟩)
  refine ws_narrow (S' := fun x => Ch No w11 x) (Ch.refl _ _) (fun x h => hc.tr h) ?_
  refine ws_e rfl rfl (e_call ent45 rfl rfl (tdrop_made (F := fun k => w.heap.size ≤ k) (hV13.mono (fun k _ h => by first | exact h.1 | (have h2 := h.1; show w.heap.size ≤ k; omega))) (fun j hj => by show w.heap.size ≤ j; omega) (((List.length_set ..).trans (List.length_replicate ..)))) ?_)
  rintro _ w12 ⟨v15, o15, rfl, hV15, heq15, hc⟩
  refine ⟨_, rfl, hc, ?_⟩
  have hzw12 := hc.size
  have HC := HC.tr hc
  have hrnd := hrnd.no hc
  have hb1 := hb1.ch hc (fun h => h)
  have hb2 := hb2.ch hc (fun h => h)
  have hb3 := hb3.ch hc (fun h => h)
  have hV7 := hV7.ch hc (by first | exact fun _ _ _ h => h | (intro k hk hF ht; have h2 := hF.1; have h3 := hF.2; first | omega | (dsimp only at *; omega)))
  have hV10 := hV10.ch hc (by first | exact fun _ _ _ h => h | (intro k hk hF ht; have h2 := hF.1; have h3 := hF.2; first | omega | (dsimp only at *; omega)))
  have hV13 := hV13.ch hc (by first | exact fun _ _ _ h => h | (intro k hk hF ht; have h2 := hF.1; have h3 := hF.2; first | omega | (dsimp only at *; omega)))
  have hV15 := hV15.mono (G := fun k => w.heap.size ≤ k ∧ k < w12.heap.size) (fun k h1 h2 => ⟨by first | exact h2 | exact h2.1 | ((try dsimp only at h2); omega), h1⟩)
  refine ws_narrow (S' := fun x => Ch No w12 x) (Ch.refl _ _) (fun x h => hc.tr h) ?_
  have hfin : eo o15 = some (.leaf ((List.replicate 32 (0 : UInt8)).set 0 1) zeroH) := by rw [heq15, heq13, heq10]; exact lives11_eq
  refine ws_p rfl rfl rfl rfl (p_as rfl) ?_
  refine ws_n ?_
  refine x_seq ?_
  refine wc_seq ?_
  refine wc_draw (.st 0 0 (.st 2 1 (.st 3 1 (.st 4 0 (.alt (.st 1 2 (.st 5 2 (.st 6 2 (.st 7 0 (.st 8 0 (.st 9 0 (.st 10 2 (.st 11 0 (.st 12 0 (.st 13 0 .nil)))))))))) (.st 5 2 (.st 1 2 (.st 6 2 (.st 7 0 (.st 8 0 (.st 9 0 (.st 10 2 (.st 11 0 (.st 12 0 (.st 13 0 .nil))))))))))))))) 14 (by kernel_rfl) (by kernel_rfl) (by kernel_rfl) (by repeat (first | with_reducible exact pan_body | with_reducible apply pan_then | with_reducible apply pan_in)) (fun z => Ch (fun k => k ∈ adsO o15) w12.drew z) (Ch.refl _ _) ?_
  obtain ⟨w13, ew13⟩ : ∃ x, x = w12.drew := ⟨_, rfl⟩
  rw [← ew13]
  have hc : Ch No w12 w13 := by rw [ew13]; exact Ch.drew _
  have hszw13 : w13.heap.size = w12.heap.size := by rw [ew13]; rfl
  clear ew13
  have hzw13 := hc.size
  have HC := HC.tr hc
  have hrnd := hrnd.no hc
  have hb1 := hb1.ch hc (fun h => h)
  have hb2 := hb2.ch hc (fun h => h)
  have hb3 := hb3.ch hc (fun h => h)
  have hV7 := hV7.ch hc (by first | exact fun _ _ _ h => h | (intro k hk hF ht; have h2 := hF.1; have h3 := hF.2; first | omega | (dsimp only at *; omega)))
  have hV10 := hV10.ch hc (by first | exact fun _ _ _ h => h | (intro k hk hF ht; have h2 := hF.1; have h3 := hF.2; first | omega | (dsimp only at *; omega)))
  have hV13 := hV13.ch hc (by first | exact fun _ _ _ h => h | (intro k hk hF ht; have h2 := hF.1; have h3 := hF.2; first | omega | (dsimp only at *; omega)))
  have hV15 := hV15.ch hc (by first | exact fun _ _ _ h => h | (intro k hk hF ht; have h2 := hF.1; have h3 := hF.2; first | omega | (dsimp only at *; omega)))
  have hS : Ch (fun k => k ∈ adsO o15) w13 w13 := Ch.refl _ _
  have hRBd := hV15.adsB
  refine ws_p rfl rfl rfl rfl (p_mv rfl) ?_
  refine ws_h rfl rfl rfl rfl (p_ldA (cs := List.map u8v ((List.replicate 32 (0 : UInt8)).set 0 1)) Tryd.underlying38 rfl (szL sz38 (by rw [List.length_map]; exact ((List.length_set ..).trans (List.length_replicate ..)))) rfl (fun _ h => (rngL (hb1.ch h (hb1.not_nd hRBd))))) ?_
  refine ws_h rfl rfl rfl rfl (p_ldA (cs := List.map u8v (List.replicate 32 (0 : UInt8))) Tryd.underlying38 rfl (szL sz38 (by rw [List.length_map]; exact (List.length_replicate ..))) rfl (fun _ h => (rngL (hb3.ch h (hb3.not_nd hRBd))))) ?_
  refine ws_p rfl rfl rfl rfl (p_bldX (vs' := [(.agg ((hx ((List.replicate 32 (0 : UInt8)).set 0 1)) : List Value).toArray), (.agg ((hx (List.replicate 32 (0 : UInt8))) : List Value).toArray)]) (cs := (((List.map u8v ((List.replicate 32 (0 : UInt8)).set 0 1)) ++ (List.map u8v (List.replicate 32 (0 : UInt8)))) : List Value)) (cs' := (((hx ((List.replicate 32 (0 : UInt8)).set 0 1)) ++ (hx (List.replicate 32 (0 : UInt8)))) : List Value)) rfl (by simp only [hv, map_hx ((List.length_set ..).trans (List.length_replicate ..)), map_hx (List.length_replicate ..)] <;> rfl) (by simp only [hv, map_hx ((List.length_set ..).trans (List.length_replicate ..)), map_hx (List.length_replicate ..)] <;> rfl) (fun _ => by kernel_rfl)) ?_
  refine ws_alt ?_ ?_
  ·
    refine ws_e rfl rfl (e_call ent46 rfl rfl (troot_made hV15 hrnd) ?_)
    rintro _ w14 ⟨rfl, hc, hFil, hRB, hRF⟩
    refine ⟨_, rfl, (by first | exact hS.tr hc | exact hS.trans hc (fun _ _ h => h) (fun _ _ h => h)), ?_⟩
    have hR0 := hV15.ot.out hrnd (by omega)
    have hRo : ∀ k, k < w.heap.size → k ∈ adsO o15 → False := fun k h1 h2 => absurd (hRF k h2).1 (by omega)
    have hzw14 := hc.size
    have HC := HC.trans hc (fun _ _ h => h) (fun k hk ht => absurd (hRF k ht).1 (by omega))
    have hrnd := hrnd.ch hc (fun k hk ht => hR0 (hk ▸ ht))
    first | have hb1 := hb1.ch hc (hb1.not_nd hRB) | have hb1 := hb1.ch hc (by assumption)
    first | have hb2 := hb2.ch hc (hb2.not_nd hRB) | have hb2 := hb2.ch hc (by assumption)
    first | have hb3 := hb3.ch hc (hb3.not_nd hRB) | have hb3 := hb3.ch hc (by assumption)
    have hV7 := hV7.fil hc hRB hFil
    have hV10 := hV10.fil hc hRB hFil
    have hV13 := hV13.fil hc hRB hFil
    have hV15 := hV15.fil hc hRB hFil
    have hS := (by first | exact hS.tr hc | exact hS.trans hc (fun _ _ h => h) (fun _ _ h => h))
    have hltg1 := hb1.lt
    have hltg2 := hb2.lt
    have hltg3 := hb3.lt
    refine ws_e rfl rfl (e_bslX (E := 81) (cs := (((List.map u8v ((List.replicate 32 (0 : UInt8)).set 0 1)) ++ (List.map u8v (List.replicate 32 (0 : UInt8)))) : List Value)) (cs' := (((hx ((List.replicate 32 (0 : UInt8)).set 0 1)) ++ (hx (List.replicate 32 (0 : UInt8)))) : List Value)) rfl rfl (by simp only [hv, map_hx ((List.length_set ..).trans (List.length_replicate ..)), map_hx (List.length_replicate ..)] <;> rfl) (fun _ => by kernel_rfl) (fun w15 g21 hg21 hb21 hc hsz21 => ⟨(by first | exact hS.tr hc | exact hS.trans hc (fun _ _ h => h) (fun _ _ h => h)), ?_⟩))
    have hzw15 := hc.size
    have HC := HC.tr hc
    have hrnd := hrnd.no hc
    have hb1 := hb1.ch hc (fun h => h)
    have hb2 := hb2.ch hc (fun h => h)
    have hb3 := hb3.ch hc (fun h => h)
    have hV7 := hV7.ch hc (by first | exact fun _ _ _ h => h | (intro k hk hF ht; have h2 := hF.1; have h3 := hF.2; first | omega | (dsimp only at *; omega)))
    have hV10 := hV10.ch hc (by first | exact fun _ _ _ h => h | (intro k hk hF ht; have h2 := hF.1; have h3 := hF.2; first | omega | (dsimp only at *; omega)))
    have hV13 := hV13.ch hc (by first | exact fun _ _ _ h => h | (intro k hk hF ht; have h2 := hF.1; have h3 := hF.2; first | omega | (dsimp only at *; omega)))
    have hV15 := hV15.ch hc (by first | exact fun _ _ _ h => h | (intro k hk hF ht; have h2 := hF.1; have h3 := hF.2; first | omega | (dsimp only at *; omega)))
    have hge21 : w.heap.size ≤ g21 := by have := HC.size; omega
    have hS21 := SI.oneA (E := eIT) (x := (((List.replicate 32 (0 : UInt8)).set 0 1), (List.replicate 32 (0 : UInt8)))) hb21 rfl ⟨((List.length_set ..).trans (List.length_replicate ..)), (List.length_replicate ..)⟩
    have hS := (by first | exact hS.tr hc | exact hS.trans hc (fun _ _ h => h) (fun _ _ h => h))
    refine ws_e rfl rfl (e_call ent50 rfl rfl (rroot_any (.leaf ((List.replicate 32 (0 : UInt8)).set 0 1) zeroH) (hS21) ⟨by simp, zeroH_len⟩ (by omega)) ?_)
    rintro _ w16 ⟨rfl, hc⟩
    refine ⟨_, rfl, (by first | exact hS.tr hc | exact hS.trans hc (fun _ _ h => h) (fun _ _ h => h)), ?_⟩
    have hzw16 := hc.size
    have HC := HC.tr hc
    have hrnd := hrnd.no hc
    have hb1 := hb1.ch hc (fun h => h)
    have hb2 := hb2.ch hc (fun h => h)
    have hb3 := hb3.ch hc (fun h => h)
    have hV7 := hV7.ch hc (by first | exact fun _ _ _ h => h | (intro k hk hF ht; have h2 := hF.1; have h3 := hF.2; first | omega | (dsimp only at *; omega)))
    have hV10 := hV10.ch hc (by first | exact fun _ _ _ h => h | (intro k hk hF ht; have h2 := hF.1; have h3 := hF.2; first | omega | (dsimp only at *; omega)))
    have hV13 := hV13.ch hc (by first | exact fun _ _ _ h => h | (intro k hk hF ht; have h2 := hF.1; have h3 := hF.2; first | omega | (dsimp only at *; omega)))
    have hV15 := hV15.ch hc (by first | exact fun _ _ _ h => h | (intro k hk hF ht; have h2 := hF.1; have h3 := hF.2; first | omega | (dsimp only at *; omega)))
    have hS21 := hS21.no hc
    have hb21 := hb21.ch hc (fun h => h)
    have hS := (by first | exact hS.tr hc | exact hS.trans hc (fun _ _ h => h) (fun _ _ h => h))
    refine ws_p rfl rfl rfl rfl (p_eqH (a := (rootT (eo o15))) (b := (Tr.root (.leaf ((List.replicate 32 (0 : UInt8)).set 0 1) zeroH))) (by kernel_rfl) Tryd.underlying38 Tryd.underlying5 sz5 rfl rfl (rootT_len) (Tr.root_len)) ?_
    refine ws_p rfl rfl rfl rfl (p_mv rfl) ?_
    refine ws_know (d := 24) (b' := true) rfl (by rw [hfin]; simp [rootT]) ?_
    refine ws_pg rfl (gd_ rfl rfl rfl rfl rfl rfl) rfl rfl (p_mv rfl) ?_
    refine ws_eg rfl (gd_ rfl rfl rfl rfl rfl rfl) (e_call ent43 rfl rfl (tlen_made hV15) ?_)
    rintro _ w17 ⟨rfl, hc⟩
    refine ⟨_, rfl, (by first | exact hS.tr hc | exact hS.trans hc (fun _ _ h => h) (fun _ _ h => h)), ?_⟩
    have hzw17 := hc.size
    have HC := HC.tr hc
    have hrnd := hrnd.no hc
    have hb1 := hb1.ch hc (fun h => h)
    have hb2 := hb2.ch hc (fun h => h)
    have hb3 := hb3.ch hc (fun h => h)
    have hV7 := hV7.ch hc (by first | exact fun _ _ _ h => h | (intro k hk hF ht; have h2 := hF.1; have h3 := hF.2; first | omega | (dsimp only at *; omega)))
    have hV10 := hV10.ch hc (by first | exact fun _ _ _ h => h | (intro k hk hF ht; have h2 := hF.1; have h3 := hF.2; first | omega | (dsimp only at *; omega)))
    have hV13 := hV13.ch hc (by first | exact fun _ _ _ h => h | (intro k hk hF ht; have h2 := hF.1; have h3 := hF.2; first | omega | (dsimp only at *; omega)))
    have hV15 := hV15.ch hc (by first | exact fun _ _ _ h => h | (intro k hk hF ht; have h2 := hF.1; have h3 := hF.2; first | omega | (dsimp only at *; omega)))
    have hS21 := hS21.no hc
    have hb21 := hb21.ch hc (fun h => h)
    have hS := (by first | exact hS.tr hc | exact hS.trans hc (fun _ _ h => h) (fun _ _ h => h))
    refine ws_pg rfl (gd_ rfl rfl rfl rfl rfl rfl) rfl rfl (p_eq rfl rfl) ?_
    refine ws_p rfl rfl rfl rfl (p_pickT rfl rfl) ?_
    refine ws_p rfl rfl rfl rfl (p_as rfl) ?_
    refine ws_n ?_
    refine x_seq ?_
    refine wc_ret ?_
    refine fin_run ((res1 rfl rfl)) ?_
    exact ⟨by rw [hfin]; rfl, HC⟩
  ·
    have hltg1 := hb1.lt
    have hltg2 := hb2.lt
    have hltg3 := hb3.lt
    refine ws_e rfl rfl (e_bslX (E := 81) (cs := (((List.map u8v ((List.replicate 32 (0 : UInt8)).set 0 1)) ++ (List.map u8v (List.replicate 32 (0 : UInt8)))) : List Value)) (cs' := (((hx ((List.replicate 32 (0 : UInt8)).set 0 1)) ++ (hx (List.replicate 32 (0 : UInt8)))) : List Value)) rfl rfl (by simp only [hv, map_hx ((List.length_set ..).trans (List.length_replicate ..)), map_hx (List.length_replicate ..)] <;> rfl) (fun _ => by kernel_rfl) (fun w18 g21 hg21 hb21 hc hsz21 => ⟨(by first | exact hS.tr hc | exact hS.trans hc (fun _ _ h => h) (fun _ _ h => h)), ?_⟩))
    have hzw18 := hc.size
    have HC := HC.tr hc
    have hrnd := hrnd.no hc
    have hb1 := hb1.ch hc (fun h => h)
    have hb2 := hb2.ch hc (fun h => h)
    have hb3 := hb3.ch hc (fun h => h)
    have hV7 := hV7.ch hc (by first | exact fun _ _ _ h => h | (intro k hk hF ht; have h2 := hF.1; have h3 := hF.2; first | omega | (dsimp only at *; omega)))
    have hV10 := hV10.ch hc (by first | exact fun _ _ _ h => h | (intro k hk hF ht; have h2 := hF.1; have h3 := hF.2; first | omega | (dsimp only at *; omega)))
    have hV13 := hV13.ch hc (by first | exact fun _ _ _ h => h | (intro k hk hF ht; have h2 := hF.1; have h3 := hF.2; first | omega | (dsimp only at *; omega)))
    have hV15 := hV15.ch hc (by first | exact fun _ _ _ h => h | (intro k hk hF ht; have h2 := hF.1; have h3 := hF.2; first | omega | (dsimp only at *; omega)))
    have hge21 : w.heap.size ≤ g21 := by have := HC.size; omega
    have hS21 := SI.oneA (E := eIT) (x := (((List.replicate 32 (0 : UInt8)).set 0 1), (List.replicate 32 (0 : UInt8)))) hb21 rfl ⟨((List.length_set ..).trans (List.length_replicate ..)), (List.length_replicate ..)⟩
    have hS := (by first | exact hS.tr hc | exact hS.trans hc (fun _ _ h => h) (fun _ _ h => h))
    refine ws_e rfl rfl (e_call ent46 rfl rfl (troot_made hV15 hrnd) ?_)
    rintro _ w19 ⟨rfl, hc, hFil, hRB, hRF⟩
    refine ⟨_, rfl, (by first | exact hS.tr hc | exact hS.trans hc (fun _ _ h => h) (fun _ _ h => h)), ?_⟩
    have hR0 := hV15.ot.out hrnd (by omega)
    have hRo : ∀ k, k < w.heap.size → k ∈ adsO o15 → False := fun k h1 h2 => absurd (hRF k h2).1 (by omega)
    have hzw19 := hc.size
    have HC := HC.trans hc (fun _ _ h => h) (fun k hk ht => absurd (hRF k ht).1 (by omega))
    have hrnd := hrnd.ch hc (fun k hk ht => hR0 (hk ▸ ht))
    first | have hb1 := hb1.ch hc (hb1.not_nd hRB) | have hb1 := hb1.ch hc (by assumption)
    first | have hb2 := hb2.ch hc (hb2.not_nd hRB) | have hb2 := hb2.ch hc (by assumption)
    first | have hb3 := hb3.ch hc (hb3.not_nd hRB) | have hb3 := hb3.ch hc (by assumption)
    have hV7 := hV7.fil hc hRB hFil
    have hV10 := hV10.fil hc hRB hFil
    have hV13 := hV13.fil hc hRB hFil
    have hV15 := hV15.fil hc hRB hFil
    have hS21 := hS21.ch hc (fun k hk ht => (show ¬ _ from hb21.not_nd hRB) (by have h9 : k = g21 := hk; rw [← h9]; exact ht))
    first | have hb21 := hb21.ch hc (hb21.not_nd hRB) | have hb21 := hb21.ch hc (by assumption)
    have hS := (by first | exact hS.tr hc | exact hS.trans hc (fun _ _ h => h) (fun _ _ h => h))
    refine ws_e rfl rfl (e_call ent50 rfl rfl (rroot_any (.leaf ((List.replicate 32 (0 : UInt8)).set 0 1) zeroH) (hS21) ⟨by simp, zeroH_len⟩ (by omega)) ?_)
    rintro _ w20 ⟨rfl, hc⟩
    refine ⟨_, rfl, (by first | exact hS.tr hc | exact hS.trans hc (fun _ _ h => h) (fun _ _ h => h)), ?_⟩
    have hzw20 := hc.size
    have HC := HC.tr hc
    have hrnd := hrnd.no hc
    have hb1 := hb1.ch hc (fun h => h)
    have hb2 := hb2.ch hc (fun h => h)
    have hb3 := hb3.ch hc (fun h => h)
    have hV7 := hV7.ch hc (by first | exact fun _ _ _ h => h | (intro k hk hF ht; have h2 := hF.1; have h3 := hF.2; first | omega | (dsimp only at *; omega)))
    have hV10 := hV10.ch hc (by first | exact fun _ _ _ h => h | (intro k hk hF ht; have h2 := hF.1; have h3 := hF.2; first | omega | (dsimp only at *; omega)))
    have hV13 := hV13.ch hc (by first | exact fun _ _ _ h => h | (intro k hk hF ht; have h2 := hF.1; have h3 := hF.2; first | omega | (dsimp only at *; omega)))
    have hV15 := hV15.ch hc (by first | exact fun _ _ _ h => h | (intro k hk hF ht; have h2 := hF.1; have h3 := hF.2; first | omega | (dsimp only at *; omega)))
    have hS21 := hS21.no hc
    have hb21 := hb21.ch hc (fun h => h)
    have hS := (by first | exact hS.tr hc | exact hS.trans hc (fun _ _ h => h) (fun _ _ h => h))
    refine ws_p rfl rfl rfl rfl (p_eqH (a := (rootT (eo o15))) (b := (Tr.root (.leaf ((List.replicate 32 (0 : UInt8)).set 0 1) zeroH))) (by kernel_rfl) Tryd.underlying38 Tryd.underlying5 sz5 rfl rfl (rootT_len) (Tr.root_len)) ?_
    refine ws_p rfl rfl rfl rfl (p_mv rfl) ?_
    refine ws_know (d := 24) (b' := true) rfl (by rw [hfin]; simp [rootT]) ?_
    refine ws_pg rfl (gd_ rfl rfl rfl rfl rfl rfl) rfl rfl (p_mv rfl) ?_
    refine ws_eg rfl (gd_ rfl rfl rfl rfl rfl rfl) (e_call ent43 rfl rfl (tlen_made hV15) ?_)
    rintro _ w21 ⟨rfl, hc⟩
    refine ⟨_, rfl, (by first | exact hS.tr hc | exact hS.trans hc (fun _ _ h => h) (fun _ _ h => h)), ?_⟩
    have hzw21 := hc.size
    have HC := HC.tr hc
    have hrnd := hrnd.no hc
    have hb1 := hb1.ch hc (fun h => h)
    have hb2 := hb2.ch hc (fun h => h)
    have hb3 := hb3.ch hc (fun h => h)
    have hV7 := hV7.ch hc (by first | exact fun _ _ _ h => h | (intro k hk hF ht; have h2 := hF.1; have h3 := hF.2; first | omega | (dsimp only at *; omega)))
    have hV10 := hV10.ch hc (by first | exact fun _ _ _ h => h | (intro k hk hF ht; have h2 := hF.1; have h3 := hF.2; first | omega | (dsimp only at *; omega)))
    have hV13 := hV13.ch hc (by first | exact fun _ _ _ h => h | (intro k hk hF ht; have h2 := hF.1; have h3 := hF.2; first | omega | (dsimp only at *; omega)))
    have hV15 := hV15.ch hc (by first | exact fun _ _ _ h => h | (intro k hk hF ht; have h2 := hF.1; have h3 := hF.2; first | omega | (dsimp only at *; omega)))
    have hS21 := hS21.no hc
    have hb21 := hb21.ch hc (fun h => h)
    have hS := (by first | exact hS.tr hc | exact hS.trans hc (fun _ _ h => h) (fun _ _ h => h))
    refine ws_pg rfl (gd_ rfl rfl rfl rfl rfl rfl) rfl rfl (p_eq rfl rfl) ?_
    refine ws_p rfl rfl rfl rfl (p_pickT rfl rfl) ?_
    refine ws_p rfl rfl rfl rfl (p_as rfl) ?_
    refine ws_n ?_
    refine x_seq ?_
    refine wc_ret ?_
    refine fin_run ((res1 rfl rfl)) ?_
    exact ⟨by rw [hfin]; rfl, HC⟩

set_option maxHeartbeats 1000000 in
set_option maxRecDepth 20000 in
theorem made11_any {w : World}  {Al : Option Addr} {ll cl : Nat} {Fl : Nat → Prop} {l : List AC} (hin : SI w Fl eAC Al ll cl l) (hll : ll ≤ 1000) :
    Calls Tryd.prog 41 #[.slice Al ll cl] w fun e w' => ∃ v o A lm cm, e = .returned (.tuple #[v, .slice A lm cm]) ∧ TR 41 156 (fun k => w.heap.size ≤ k) w' v o ∧ eo o = mkA l ∧ RI w' (fun k => w.heap.size ≤ k) 81 eIT A lm cm (itemsT (mkA l)) ∧ Ch No w w' := by
  have hinl := hin.len
  have hok := hin.ok
  have hin := hin.old
  have HC : Ch No w w := Ch.refl _ _
  refine enter' (args := [.slice Al ll cl]) (n := 40) Tryd.func41 rfl rfl rfl ?_
  refine wc_seq ?_
  refine wc_region ?_
  refine wl rfl rfl rfl (p_as rfl) ?_
  refine wl rfl rfl rfl (p_as rfl) ?_
  refine wl_nil ?_
  refine x_seq ?_
  refine wc_seq ?_
  refine wc_region ?_
  refine wle rfl (e_call ent51 rfl rfl (new_any) ?_)
  rintro _ w1 ⟨v8, rfl, hV8, hc⟩
  refine ⟨_, rfl, ?_⟩
  have hzw1 := hc.size
  have HC := HC.tr hc
  have hin := hin.no hc
  have hV8 := hV8.mono (G := fun k => w.heap.size ≤ k ∧ k < w1.heap.size) (fun k h1 h2 => ⟨h2, h1⟩)
  refine wl rfl rfl rfl (p_as rfl) ?_
  refine wl_nil ?_
  refine x_seq ?_
  refine wc_seq ?_
  refine wc_region ?_
  refine wl rfl rfl rfl (p_as rfl) ?_
  refine wl_nil ?_
  refine x_seq ?_
  refine wc_seq ?_
  refine wc_seq ?_
  refine wc_region ?_
  refine wl rfl rfl rfl (p_mv rfl) ?_
  refine wl rfl rfl rfl (p_lenS Tryd.underlying64 rfl) ?_
  refine wl rfl rfl rfl (p_mv rfl) ?_
  refine wl_nil ?_
  refine x_seq ?_
  refine wc_block ?_
  refine wc_loop (e' := [(4, (_)), (5, .slice (none) (0) (0)), (9, .slice Al ll cl), (10, i64 (ll : Int)), (11, i64 ((0) : Int))]) (fun mz ez uz => ∃ i : Nat, ∃ v : Value, ∃ o : Option LT, ∃ Am : Option Addr, ∃ lm : Nat, ∃ cm : Nat, mz = ll - i ∧ ez = [(4, v), (5, .slice Am lm cm), (9, .slice Al ll cl), (10, i64 (ll : Int)), (11, i64 (i : Int))] ∧ (i ≤ ll) ∧ (eo o = mkA (l.take i)) ∧ (TR 41 156 (fun k => w.heap.size ≤ k) uz v o) ∧ (RI uz (fun k => w.heap.size ≤ k) 81 eIT Am lm cm (itemsT (mkA (l.take i)))) ∧ (SI uz (fun k => k < w.heap.size) eAC Al ll cl l) ∧ (Ch No w uz))
    ⟨rfl, rfl, rfl, rfl, rfl, trivial⟩ ⟨0, _, _, none, 0, 0, rfl, rfl, (by omega), rfl, (hV8.mono (fun k _ h => by have := h.1; show w.heap.size ≤ k; omega)), RI.nil _ _ _ _, hin, HC⟩ ?_
  rintro m0 e w2 ⟨i, v, o, Am, lm, cm, hm0, rfl, hi, heo, hV, hM, hin, HC⟩
  have hzw2 := HC.size
  have hV := hV.mono (G := fun k => w.heap.size ≤ k ∧ k < w2.heap.size) (fun k h1 h2 => ⟨by first | exact h2 | exact h2.1 | ((try dsimp only at h2); omega), h1⟩)
  have hM := hM.mono (G := fun k => w.heap.size ≤ k ∧ k < w2.heap.size) (fun k h1 h2 => ⟨by first | exact h2 | exact h2.1 | ((try dsimp only at h2); omega), h1⟩)
  refine wc_seq ?_
  refine wc_region ?_
  refine wl rfl rfl rfl (p_lt rfl rfl) ?_
  refine wl_nil ?_
  refine x_seq ?_
  refine wc_seq ?_
  refine wc_if rfl (fun c0 => ?_) (fun c0 => ?_)
  ·
    have c0 := of_decide_eq_true c0
    refine wc_skip ?_
    refine x_seq ?_
    refine wc_seq ?_
    refine wc_block ?_
    refine wc_seq ?_
    refine wc_region ?_
    obtain ⟨b3, o3, hA3, hF3, hr3⟩ := (hin).opn (i := i) (d := ⟨zeroH, zeroH, false⟩) (by omega)
    have hok3 := (hin).okAt (i := i) (d := ⟨zeroH, zeroH, false⟩) (by omega)
    obtain ⟨x3, ex3⟩ : ∃ x, x = List.getD l (i) ⟨zeroH, zeroH, false⟩ := ⟨_, rfl⟩
    rw [← ex3] at hr3 hok3
    obtain ⟨hx3k, hx3v⟩ := hok3
    have hr3 : w2.rangeAt b3 (o3 + i * 65) (((List.map u8v x3.k) ++ ((List.map u8v x3.v) ++ [.bool x3.dr])) : List Value) := hr3
    refine wl rfl rfl rfl (p_ixS (j := i * 65) Tryd.underlying64 sz66 rfl hA3 rfl (by omega) (by omega) (congrArg (· * 65) (Int.toNat_natCast _))) ?_
    have hmk : mkA (l.take (i + 1)) = actT (mkA (l.take i)) x3 := by rw [ex3]; exact mkA_take (by omega)
    obtain ⟨hwf, hct⟩ := mkA_ok l i hok (by omega)
    have hcnt : cntT (eo o) + 1 ≤ 4611686018427387904 := by rw [heo]; omega
    have hml : lm = cntT (mkA (l.take i)) := by rw [← itemsT_cnt]; exact hM.len.symm
    refine wl rfl rfl rfl (p_ldA (cs := (((List.map u8v x3.k) ++ ((List.map u8v x3.v) ++ [.bool x3.dr])) : List Value)) Tryd.underlying66 rfl (szL sz66 (by first | rfl | (simp only [List.length_append, List.length_map, List.length_cons, List.length_nil, (show List.length x3.k = 32 from hx3k), (show List.length x3.v = 32 from hx3v)]; done) | (simp only [List.length_append, List.length_map, List.length_cons, List.length_nil, List.size_toArray, (show List.length x3.k = 32 from hx3k), (show List.length x3.v = 32 from hx3v)]; done))) rfl (fun _ e => e ▸ hr3)) ?_
    refine wle rfl (e_alloc (cs := (((List.map u8v (List.replicate 32 (0 : UInt8))) ++ ((List.map u8v (List.replicate 32 (0 : UInt8))) ++ [Value.bool false])) : List Value).toArray) rfl (by rfl) (by rfl) (fun w4 g7 hg7 hb7 hc hsz7 => ?_))
    have hzw4 := hc.size
    have HC := HC.tr hc
    have hin := hin.no hc
    have hV := hV.ch hc (by first | exact fun _ _ _ h => h | (intro k hk hF ht; have h2 := hF.1; have h3 := hF.2; first | omega | (dsimp only at *; omega)))
    have hM := hM.after hc
    have hge7 : w.heap.size ≤ g7 := by have := HC.size; omega
    refine wle rfl (e_stW (vs := (((List.map u8v x3.k) ++ ((List.map u8v x3.v) ++ [.bool x3.dr])) : List Value)) (szL sz66 (by first | rfl | (simp only [List.length_append, List.length_map, List.length_cons, List.length_nil, (show List.length x3.k = 32 from hx3k), (show List.length x3.v = 32 from hx3v)]; done) | (simp only [List.length_append, List.length_map, List.length_cons, List.length_nil, List.size_toArray, (show List.length x3.k = 32 from hx3k), (show List.length x3.v = 32 from hx3v)]; done))) (oneA (oneL one_u8 _) (oneA (oneL one_u8 _) (allOne rfl))) rfl rfl hb7 (by first | rfl | (simp only [List.length_append, List.length_map, List.length_cons, List.length_nil, (show List.length (List.replicate 32 (0 : UInt8)) = 32 from (List.length_replicate ..)), (show List.length (List.replicate 32 (0 : UInt8)) = 32 from (List.length_replicate ..)), (show List.length x3.k = 32 from hx3k), (show List.length x3.v = 32 from hx3v)]; done) | (simp only [List.length_append, List.length_map, List.length_cons, List.length_nil, List.size_toArray, (show List.length (List.replicate 32 (0 : UInt8)) = 32 from (List.length_replicate ..)), (show List.length (List.replicate 32 (0 : UInt8)) = 32 from (List.length_replicate ..)), (show List.length x3.k = 32 from hx3k), (show List.length x3.v = 32 from hx3v)]; done)) (fun w5 hb7 hc hsz => ?_))
    have hzw5 := hc.size
    have HC := HC.trans hc (fun _ _ h => h) (fun k hk ht => absurd ht (by omega))
    first | have hin := hin.ch hc (by intro k hk ht; first | omega | (dsimp only at *; omega)) | have hin := hin.chT hc (by intro k hz hk ht; first | omega | (dsimp only at *; omega))
    have hV := hV.ch hc (by first | exact fun _ _ _ h => h | (intro k hk hF ht; have h2 := hF.1; have h3 := hF.2; first | omega | (dsimp only at *; omega)))
    have hM := hM.ch hc (by intro k hz hk ht; first | omega | (dsimp only at *; omega))
    refine wl_nil ?_
    refine x_seq ?_
    refine wc_seq ?_
    refine wc_region ?_
    refine wl rfl rfl rfl (p_fld (j := 64) Tryd.underlying66 rfl ⟨_, by rfl⟩ rfl rfl) ?_
    refine wl rfl rfl rfl (p_ld Tryd.underlying4 rfl rfl (ld (cell_at (p := (((List.map u8v x3.k) ++ (List.map u8v x3.v)) : List Value)) (v := (.bool x3.dr : Value)) (r := []) hb7 (by simp only [List.append_assoc, List.cons_append, List.nil_append, List.append_nil]) (by first | rfl | (simp only [List.length_append, List.length_map, List.length_cons, List.length_nil, (show List.length x3.k = 32 from hx3k), (show List.length x3.v = 32 from hx3v)]; done) | (simp only [List.length_append, List.length_map, List.length_cons, List.length_nil, List.size_toArray, (show List.length x3.k = 32 from hx3k), (show List.length x3.v = 32 from hx3v)]; done))))) ?_
    refine wl_nil ?_
    refine x_seq ?_
    refine wc_if rfl (fun c1 => ?_) (fun c1 => ?_)
    ·
      refine wc_draw (.st 0 0 (.st 1 0 (.st 2 1 (.st 4 0 (.st 5 0 (.st 6 1 (.st 3 2 (.st 7 2 (.st 8 0 (.st 9 0 .nil)))))))))) 10 (by kernel_rfl) (by kernel_rfl) (by kernel_rfl) (by repeat (first | with_reducible exact pan_body | with_reducible apply pan_then | with_reducible apply pan_in)) (fun x => Ch No w5.drew x) (Ch.refl _ _) ?_
      obtain ⟨w6, ew6⟩ : ∃ x, x = w5.drew := ⟨_, rfl⟩
      rw [← ew6]
      have hc : Ch No w5 w6 := by rw [ew6]; exact Ch.drew _
      have hszw6 : w6.heap.size = w5.heap.size := by rw [ew6]; rfl
      clear ew6
      have hzw6 := hc.size
      have HC := HC.tr hc
      have hin := hin.no hc
      have hV := hV.ch hc (by first | exact fun _ _ _ h => h | (intro k hk hF ht; have h2 := hF.1; have h3 := hF.2; first | omega | (dsimp only at *; omega)))
      have hM := hM.no hc
      have hb7 := hb7.ch hc (fun h => h)
      have hS : Ch No w6 w6 := Ch.refl _ _
      refine ws_p rfl rfl rfl rfl (p_mv rfl) ?_
      refine ws_p rfl rfl rfl rfl (p_fld (j := 0) Tryd.underlying66 rfl ⟨_, by rfl⟩ rfl rfl) ?_
      refine ws_h rfl rfl rfl rfl (p_ldA (cs := (List.map u8v x3.k)) Tryd.underlying38 rfl (szL sz38 (by first | rfl | (simp only [List.length_append, List.length_map, List.length_cons, List.length_nil, (show List.length x3.k = 32 from hx3k)]; done) | (simp only [List.length_append, List.length_map, List.length_cons, List.length_nil, List.size_toArray, (show List.length x3.k = 32 from hx3k)]; done))) rfl (fun _ h => rng_at (p := []) (q := ((List.map u8v x3.k) : List Value)) (r := (((List.map u8v x3.v) ++ [.bool x3.dr]) : List Value)) (hb7.ch h (fun h => h)) (by simp only [List.append_assoc, List.cons_append, List.nil_append, List.append_nil]) (by first | rfl | (simp only [List.length_append, List.length_map, List.length_cons, List.length_nil]; done) | (simp only [List.length_append, List.length_map, List.length_cons, List.length_nil, List.size_toArray]; done)))) ?_
      refine ws_p rfl rfl rfl rfl (p_mv rfl) ?_
      refine ws_p rfl rfl rfl rfl (p_fld (j := 0) Tryd.underlying66 rfl ⟨_, by rfl⟩ rfl rfl) ?_
      refine ws_h rfl rfl rfl rfl (p_ldA (cs := (List.map u8v x3.k)) Tryd.underlying38 rfl (szL sz38 (by first | rfl | (simp only [List.length_append, List.length_map, List.length_cons, List.length_nil, (show List.length x3.k = 32 from hx3k)]; done) | (simp only [List.length_append, List.length_map, List.length_cons, List.length_nil, List.size_toArray, (show List.length x3.k = 32 from hx3k)]; done))) rfl (fun _ h => rng_at (p := []) (q := ((List.map u8v x3.k) : List Value)) (r := (((List.map u8v x3.v) ++ [.bool x3.dr]) : List Value)) (hb7.ch h (fun h => h)) (by simp only [List.append_assoc, List.cons_append, List.nil_append, List.append_nil]) (by first | rfl | (simp only [List.length_append, List.length_map, List.length_cons, List.length_nil]; done) | (simp only [List.length_append, List.length_map, List.length_cons, List.length_nil, List.size_toArray]; done)))) ?_
      refine ws_e rfl rfl (e_call ent45 rfl rfl (tdrop_made (F := fun k => w.heap.size ≤ k) (hV.mono (fun k _ h => by first | exact h.1 | (have h2 := h.1; show w.heap.size ≤ k; omega))) (fun j hj => by show w.heap.size ≤ j; omega) (hx3k)) ?_)
      rintro _ w7 ⟨v20, o20, rfl, hV20, heq20, hc⟩
      refine ⟨_, rfl, hc, ?_⟩
      have hzw7 := hc.size
      have HC := HC.tr hc
      have hin := hin.no hc
      have hV := hV.ch hc (by first | exact fun _ _ _ h => h | (intro k hk hF ht; have h2 := hF.1; have h3 := hF.2; first | omega | (dsimp only at *; omega)))
      have hM := hM.after hc
      have hb7 := hb7.ch hc (fun h => h)
      have hV20 := hV20.mono (G := fun k => w.heap.size ≤ k ∧ k < w7.heap.size) (fun k h1 h2 => ⟨by first | exact h2 | exact h2.1 | ((try dsimp only at h2); omega), h1⟩)
      refine ws_narrow (S' := fun x => Ch No w7 x) (Ch.refl _ _) (fun x h => hc.tr h) ?_
      refine ws_e rfl rfl (e_call ent80 rfl rfl (rdrop_any (hM.si) (hx3k) (by omega)) ?_)
      rintro _ w8 ⟨A24, lm24, cm24, rfl, hM24, hc⟩
      refine ⟨_, rfl, hc, ?_⟩
      have hzw8 := hc.size
      have HC := HC.tr hc
      have hin := hin.no hc
      have hV := hV.ch hc (by first | exact fun _ _ _ h => h | (intro k hk hF ht; have h2 := hF.1; have h3 := hF.2; first | omega | (dsimp only at *; omega)))
      have hM := hM.after hc
      have hb7 := hb7.ch hc (fun h => h)
      have hV20 := hV20.ch hc (by first | exact fun _ _ _ h => h | (intro k hk hF ht; have h2 := hF.1; have h3 := hF.2; first | omega | (dsimp only at *; omega)))
      have hMl24 := hM24.len
      have hM24 := hM24.mono (G := fun k => w7.heap.size ≤ k ∧ k < w8.heap.size) (fun k h1 h2 => ⟨h2, h1⟩)
      refine ws_narrow (S' := fun x => Ch No w8 x) (Ch.refl _ _) (fun x h => hc.tr h) ?_
      refine ws_p rfl rfl rfl rfl (p_as rfl) ?_
      refine ws_p rfl rfl rfl rfl (p_as rfl) ?_
      refine ws_n ?_
      refine x_in_normal ?_
      refine x_seq ?_
      refine wc_region ?_
      refine wl rfl rfl rfl (p_add rfl rfl (w64 (by omega))) ?_
      refine wl rfl rfl rfl (p_mv rfl) ?_
      refine wl_nil ?_
      refine x_round (e' := [(4, (_)), (5, .slice (_) (_) (_)), (9, .slice Al ll cl), (10, i64 (ll : Int)), (11, i64 ((i + 1) : Int))]) ⟨rfl, rfl, rfl, rfl, rfl, trivial⟩ (by rw [hm0]; omega) ⟨i + 1, _, _, _, _, _, rfl, rfl, (by omega), (by rw [hmk, heq20, heo]; unfold actT; rw [if_pos (by first | assumption | simpa using c1)]), (hV20.mono (fun k _ h => h.1)), (by rw [hmk]; unfold actT; rw [if_pos (by first | assumption | simpa using c1), dropT_items hwf]; exact hM24.mono (fun k _ h => by have := h.1; show w.heap.size ≤ k; omega)), hin, HC⟩
    ·
      refine wc_draw (.st 0 0 (.st 1 0 (.st 2 1 (.st 3 0 (.st 4 1 (.st 6 0 (.st 7 0 (.st 8 1 (.st 9 0 (.st 10 1 (.st 5 2 (.st 11 2 (.st 12 0 (.st 13 0 .nil)))))))))))))) 14 (by kernel_rfl) (by kernel_rfl) (by kernel_rfl) (by repeat (first | with_reducible exact pan_body | with_reducible apply pan_then | with_reducible apply pan_in)) (fun x => Ch No w5.drew x) (Ch.refl _ _) ?_
      obtain ⟨w9, ew9⟩ : ∃ x, x = w5.drew := ⟨_, rfl⟩
      rw [← ew9]
      have hc : Ch No w5 w9 := by rw [ew9]; exact Ch.drew _
      have hszw9 : w9.heap.size = w5.heap.size := by rw [ew9]; rfl
      clear ew9
      have hzw9 := hc.size
      have HC := HC.tr hc
      have hin := hin.no hc
      have hV := hV.ch hc (by first | exact fun _ _ _ h => h | (intro k hk hF ht; have h2 := hF.1; have h3 := hF.2; first | omega | (dsimp only at *; omega)))
      have hM := hM.no hc
      have hb7 := hb7.ch hc (fun h => h)
      have hS : Ch No w9 w9 := Ch.refl _ _
      refine ws_p rfl rfl rfl rfl (p_mv rfl) ?_
      refine ws_p rfl rfl rfl rfl (p_fld (j := 0) Tryd.underlying66 rfl ⟨_, by rfl⟩ rfl rfl) ?_
      refine ws_h rfl rfl rfl rfl (p_ldA (cs := (List.map u8v x3.k)) Tryd.underlying38 rfl (szL sz38 (by first | rfl | (simp only [List.length_append, List.length_map, List.length_cons, List.length_nil, (show List.length x3.k = 32 from hx3k)]; done) | (simp only [List.length_append, List.length_map, List.length_cons, List.length_nil, List.size_toArray, (show List.length x3.k = 32 from hx3k)]; done))) rfl (fun _ h => rng_at (p := []) (q := ((List.map u8v x3.k) : List Value)) (r := (((List.map u8v x3.v) ++ [.bool x3.dr]) : List Value)) (hb7.ch h (fun h => h)) (by simp only [List.append_assoc, List.cons_append, List.nil_append, List.append_nil]) (by first | rfl | (simp only [List.length_append, List.length_map, List.length_cons, List.length_nil]; done) | (simp only [List.length_append, List.length_map, List.length_cons, List.length_nil, List.size_toArray]; done)))) ?_
      refine ws_p rfl rfl rfl rfl (p_fld (j := 32) Tryd.underlying66 rfl ⟨_, by rfl⟩ rfl rfl) ?_
      refine ws_h rfl rfl rfl rfl (p_ldA (cs := (List.map u8v x3.v)) Tryd.underlying38 rfl (szL sz38 (by first | rfl | (simp only [List.length_append, List.length_map, List.length_cons, List.length_nil, (show List.length x3.v = 32 from hx3v)]; done) | (simp only [List.length_append, List.length_map, List.length_cons, List.length_nil, List.size_toArray, (show List.length x3.v = 32 from hx3v)]; done))) rfl (fun _ h => rng_at (p := ((List.map u8v x3.k) : List Value)) (q := ((List.map u8v x3.v) : List Value)) (r := ([.bool x3.dr] : List Value)) (hb7.ch h (fun h => h)) (by simp only [List.append_assoc, List.cons_append, List.nil_append, List.append_nil]) (by first | rfl | (simp only [List.length_append, List.length_map, List.length_cons, List.length_nil, (show List.length x3.k = 32 from hx3k)]; done) | (simp only [List.length_append, List.length_map, List.length_cons, List.length_nil, List.size_toArray, (show List.length x3.k = 32 from hx3k)]; done)))) ?_
      refine ws_p rfl rfl rfl rfl (p_mv rfl) ?_
      refine ws_p rfl rfl rfl rfl (p_fld (j := 0) Tryd.underlying66 rfl ⟨_, by rfl⟩ rfl rfl) ?_
      refine ws_h rfl rfl rfl rfl (p_ldA (cs := (List.map u8v x3.k)) Tryd.underlying38 rfl (szL sz38 (by first | rfl | (simp only [List.length_append, List.length_map, List.length_cons, List.length_nil, (show List.length x3.k = 32 from hx3k)]; done) | (simp only [List.length_append, List.length_map, List.length_cons, List.length_nil, List.size_toArray, (show List.length x3.k = 32 from hx3k)]; done))) rfl (fun _ h => rng_at (p := []) (q := ((List.map u8v x3.k) : List Value)) (r := (((List.map u8v x3.v) ++ [.bool x3.dr]) : List Value)) (hb7.ch h (fun h => h)) (by simp only [List.append_assoc, List.cons_append, List.nil_append, List.append_nil]) (by first | rfl | (simp only [List.length_append, List.length_map, List.length_cons, List.length_nil]; done) | (simp only [List.length_append, List.length_map, List.length_cons, List.length_nil, List.size_toArray]; done)))) ?_
      refine ws_p rfl rfl rfl rfl (p_fld (j := 32) Tryd.underlying66 rfl ⟨_, by rfl⟩ rfl rfl) ?_
      refine ws_h rfl rfl rfl rfl (p_ldA (cs := (List.map u8v x3.v)) Tryd.underlying38 rfl (szL sz38 (by first | rfl | (simp only [List.length_append, List.length_map, List.length_cons, List.length_nil, (show List.length x3.v = 32 from hx3v)]; done) | (simp only [List.length_append, List.length_map, List.length_cons, List.length_nil, List.size_toArray, (show List.length x3.v = 32 from hx3v)]; done))) rfl (fun _ h => rng_at (p := ((List.map u8v x3.k) : List Value)) (q := ((List.map u8v x3.v) : List Value)) (r := ([.bool x3.dr] : List Value)) (hb7.ch h (fun h => h)) (by simp only [List.append_assoc, List.cons_append, List.nil_append, List.append_nil]) (by first | rfl | (simp only [List.length_append, List.length_map, List.length_cons, List.length_nil, (show List.length x3.k = 32 from hx3k)]; done) | (simp only [List.length_append, List.length_map, List.length_cons, List.length_nil, List.size_toArray, (show List.length x3.k = 32 from hx3k)]; done)))) ?_
      refine ws_e rfl rfl (e_call ent44 rfl rfl (tput_made (F := fun k => w.heap.size ≤ k) (hV.mono (fun k _ h => by first | exact h.1 | (have h2 := h.1; show w.heap.size ≤ k; omega))) (fun j hj => by show w.heap.size ≤ j; omega) (hx3k) (hx3v) (hcnt)) ?_)
      rintro _ w10 ⟨v30, t30, rfl, hV30, heq30, hc⟩
      refine ⟨_, rfl, hc, ?_⟩
      have hzw10 := hc.size
      have HC := HC.tr hc
      have hin := hin.no hc
      have hV := hV.ch hc (by first | exact fun _ _ _ h => h | (intro k hk hF ht; have h2 := hF.1; have h3 := hF.2; first | omega | (dsimp only at *; omega)))
      have hM := hM.after hc
      have hb7 := hb7.ch hc (fun h => h)
      have hV30 := hV30.mono (G := fun k => w.heap.size ≤ k ∧ k < w10.heap.size) (fun k h1 h2 => ⟨by first | exact h2 | exact h2.1 | ((try dsimp only at h2); omega), h1⟩)
      refine ws_narrow (S' := fun x => Ch No w10 x) (Ch.refl _ _) (fun x h => hc.tr h) ?_
      refine ws_e rfl rfl (e_call ent52 rfl rfl (rput_any (hM.si) (hx3k) (hx3v) (by omega)) ?_)
      rintro _ w11 ⟨A36, lm36, cm36, rfl, hM36, hc⟩
      refine ⟨_, rfl, hc, ?_⟩
      have hzw11 := hc.size
      have HC := HC.tr hc
      have hin := hin.no hc
      have hV := hV.ch hc (by first | exact fun _ _ _ h => h | (intro k hk hF ht; have h2 := hF.1; have h3 := hF.2; first | omega | (dsimp only at *; omega)))
      have hM := hM.after hc
      have hb7 := hb7.ch hc (fun h => h)
      have hV30 := hV30.ch hc (by first | exact fun _ _ _ h => h | (intro k hk hF ht; have h2 := hF.1; have h3 := hF.2; first | omega | (dsimp only at *; omega)))
      have hMl36 := hM36.len
      have hM36 := hM36.mono (G := fun k => w10.heap.size ≤ k ∧ k < w11.heap.size) (fun k h1 h2 => ⟨h2, h1⟩)
      refine ws_narrow (S' := fun x => Ch No w11 x) (Ch.refl _ _) (fun x h => hc.tr h) ?_
      refine ws_p rfl rfl rfl rfl (p_as rfl) ?_
      refine ws_p rfl rfl rfl rfl (p_as rfl) ?_
      refine ws_n ?_
      refine x_in_normal ?_
      refine x_seq ?_
      refine wc_region ?_
      refine wl rfl rfl rfl (p_add rfl rfl (w64 (by omega))) ?_
      refine wl rfl rfl rfl (p_mv rfl) ?_
      refine wl_nil ?_
      refine x_round (e' := [(4, (_)), (5, .slice (_) (_) (_)), (9, .slice Al ll cl), (10, i64 (ll : Int)), (11, i64 ((i + 1) : Int))]) ⟨rfl, rfl, rfl, rfl, rfl, trivial⟩ (by rw [hm0]; omega) ⟨i + 1, _, _, _, _, _, rfl, rfl, (by omega), (by rw [hmk, heq30, heo]; unfold actT; rw [if_neg (by first | assumption | simpa using c1)]), (hV30.mono (fun k _ h => h.1)), (by rw [hmk]; unfold actT; rw [if_neg (by first | assumption | simpa using c1), putT_items hwf (by assumption) (by assumption)]; exact hM36.mono (fun k _ h => by have := h.1; show w.heap.size ≤ k; omega)), hin, HC⟩
  ·
    have c0 := of_decide_eq_false c0
    refine wc_exit ?_
    refine x_then_exit ?_
    refine x_then_exit ?_
    refine x_in_here ?_
    refine x_seq ?_
    refine wc_seq ?_
    refine wc_region ?_
    refine wl rfl rfl rfl (p_mv rfl) ?_
    refine wl rfl rfl rfl (p_mv rfl) ?_
    refine wl rfl rfl rfl (p_as rfl) ?_
    refine wl rfl rfl rfl (p_as rfl) ?_
    refine wl_nil ?_
    refine x_seq ?_
    refine wc_ret ?_
    refine fin_run ((res2 rfl rfl rfl)) ?_
    rw [List.take_of_length_le (by omega)] at heo hM
    exact ⟨v, o, Am, lm, cm, rfl, hV.mono (fun k _ h => h.1), heo, hM.mono (fun k _ h => h.1), HC⟩

set_option maxHeartbeats 4000000 in
set_option maxRecDepth 20000 in
theorem trieGets_walk {w : World}  {Al : Option Addr} {ll cl : Nat} {Fl : Nat → Prop} {l : List AC} {ak av : List UInt8} {adr : Bool} {k : List UInt8} (hin : SI w Fl eAC Al ll cl l) (hak : ak.length = 32) (hav : av.length = 32) (hk : k.length = 32) (hrnd : Sl w (fun k => k = 0) u32v (some ⟨0, 0, none⟩) 64 64 rk) :
    Calls Tryd.prog 7 #[.slice Al ll cl, .agg ((List.map u8v ak ++ (List.map u8v av ++ [.bool adr])) : List Value).toArray, hv k] w fun e w' => e = .returned (.bool true) ∧ Ch No w w' := by
  have hn0 : 0 < w.heap.size := hrnd.size (by omega) rfl
  have hn1 := hn0
  have hinl := hin.len
  have hok := hin.ok
  have hin := hin.old
  have HC : Ch No w w := Ch.refl _ _
  refine enter' (args := [.slice Al ll cl, _, hv k]) (n := 155) Tryd.func7 rfl rfl rfl ?_
  refine wc_seq ?_
  refine wc_region ?_
  refine wle rfl (e_box (cs := (((List.map u8v ak) ++ ((List.map u8v av) ++ [.bool adr])) : List Value).toArray) rfl rfl rfl (fun w1 g4 hg4 hb4 hc hsz4 => ?_))
  have hzw1 := hc.size
  have HC := HC.tr hc
  have hin := hin.no hc
  have hrnd := hrnd.no hc
  have hge4 : w.heap.size ≤ g4 := by have := HC.size; omega
  have hltg4 := hb4.lt
  refine wle rfl (e_box (cs := (List.map u8v k).toArray) rfl rfl rfl (fun w2 g5 hg5 hb5 hc hsz5 => ?_))
  have hzw2 := hc.size
  have HC := HC.tr hc
  have hin := hin.no hc
  have hrnd := hrnd.no hc
  have hb4 := hb4.ch hc (fun h => h)
  have hge5 : w.heap.size ≤ g5 := by have := HC.size; omega
  have neg4_5 : g4 < g5 := by omega
  refine wl rfl rfl rfl (p_as rfl) ?_
  refine wl_nil ?_
  refine x_seq ?_
  refine wc_seq ?_
  refine wc_seq ?_
  refine wc_region ?_
  refine wl rfl rfl rfl (p_mv rfl) ?_
  refine wl rfl rfl rfl (p_lenS Tryd.underlying64 rfl) ?_
  refine wl rfl rfl rfl (p_gt rfl rfl) ?_
  refine wl_nil ?_
  refine x_seq ?_
  refine wc_if rfl (fun c0 => ?_) (fun c0 => ?_)
  ·
    have c0 := of_decide_eq_true c0
    refine wc_seq ?_
    refine wc_region ?_
    refine wle rfl (e_call ent40 rfl rfl (lives11_any hrnd) ?_)
    rintro _ w3 ⟨rfl, hc⟩
    refine ⟨_, rfl, ?_⟩
    have hzw3 := hc.size
    have HC := HC.tr hc
    have hin := hin.no hc
    have hrnd := hrnd.no hc
    have hb4 := hb4.ch hc (fun h => h)
    have hb5 := hb5.ch hc (fun h => h)
    refine wl rfl rfl rfl (p_as rfl) ?_
    refine wl_nil ?_
    refine x_seq ?_
    refine wc_ret ?_
    refine x_then_ret ?_
    refine fin_run ((res1 rfl rfl)) ?_
    exact ⟨rfl, HC⟩
  ·
    have c0 := of_decide_eq_false c0
    refine wc_skip ?_
    refine x_seq ?_
    refine wc_seq ?_
    refine wc_region ?_
    refine wl rfl rfl rfl (p_mv rfl) ?_
    refine wle rfl (e_call ent41 rfl rfl (made11_any hin (by omega)) ?_)
    rintro _ w4 ⟨v32, o32, A32, lm32, cm32, rfl, hV32, heo32, hM32, hc⟩
    refine ⟨_, rfl, ?_⟩
    have hzw4 := hc.size
    have HC := HC.tr hc
    have hin := hin.no hc
    have hrnd := hrnd.no hc
    have hb4 := hb4.ch hc (fun h => h)
    have hb5 := hb5.ch hc (fun h => h)
    obtain ⟨hwf, hmc⟩ := mkA_all hok
    have hml32 : lm32 = cntT (mkA l) := by rw [← itemsT_cnt]; exact hM32.len.symm
    have hwfo32 : WFO (eo o32) := by rw [heo32]; exact hwf
    have hcn32 : cntT (eo o32) ≤ 40 := by rw [heo32]; omega
    have hV32 := hV32.mono (G := fun k => w.heap.size ≤ k ∧ k < w4.heap.size) (fun k h1 h2 => ⟨by first | exact h2 | exact h2.1 | ((try dsimp only at h2); omega), h1⟩)
    have hM32 := hM32.mono (G := fun k => w.heap.size ≤ k ∧ k < w4.heap.size) (fun k h1 h2 => ⟨by first | exact h2 | exact h2.1 | ((try dsimp only at h2); omega), h1⟩)
    refine wl rfl rfl rfl (p_mv rfl) ?_
    refine wl rfl rfl rfl (p_ext rfl rfl) ?_
    refine wl rfl rfl rfl (p_ext rfl rfl) ?_
    refine wl rfl rfl rfl (p_as rfl) ?_
    refine wl rfl rfl rfl (p_as rfl) ?_
    refine wl_nil ?_
    refine x_seq ?_
    refine wc_seq ?_
    refine wc_region ?_
    refine wl rfl rfl rfl (p_mv rfl) ?_
    refine wl rfl rfl rfl (p_ldA (cs := List.map u8v k) Tryd.underlying38 rfl (szL sz38 (by rw [List.length_map]; exact hk)) rfl (fun _ e => e ▸ rngL hb5)) ?_
    refine wle rfl (e_call ent42 rfl rfl (tget_any hV32 (hk)) ?_)
    rintro _ w5 ⟨u38, ok38, rfl, hu38, hg38, hc⟩
    refine ⟨_, rfl, ?_⟩
    have hzw5 := hc.size
    have HC := HC.tr hc
    have hin := hin.no hc
    have hrnd := hrnd.no hc
    have hb4 := hb4.ch hc (fun h => h)
    have hb5 := hb5.ch hc (fun h => h)
    have hV32 := hV32.ch hc (by first | exact fun _ _ _ h => h | (intro k hk hF ht; have h2 := hF.1; have h3 := hF.2; first | omega | (dsimp only at *; omega)))
    have hM32 := hM32.after hc
    obtain ⟨hx38, ho38⟩ : u38 = (getT (eo o32) k).getD zeroH ∧ ok38 = (getT (eo o32) k).isSome := by injection hg38 with h1 h2; exact ⟨h1, h2⟩
    refine wl rfl rfl rfl (p_mv rfl) ?_
    refine wl rfl rfl rfl (p_ext rfl rfl) ?_
    refine wl rfl rfl rfl (p_ext rfl rfl) ?_
    have hltg4 := hb4.lt
    have hltg5 := hb5.lt
    refine wle rfl (e_alloc (cs := ((List.replicate 32 (0 : UInt8)).map u8v).toArray) rfl (by rfl) rfl (fun w6 g9 hg9 hb9 hc hsz9 => ?_))
    have hzw6 := hc.size
    have HC := HC.tr hc
    have hin := hin.no hc
    have hrnd := hrnd.no hc
    have hb4 := hb4.ch hc (fun h => h)
    have hb5 := hb5.ch hc (fun h => h)
    have hV32 := hV32.ch hc (by first | exact fun _ _ _ h => h | (intro k hk hF ht; have h2 := hF.1; have h3 := hF.2; first | omega | (dsimp only at *; omega)))
    have hM32 := hM32.after hc
    have hge9 : w.heap.size ≤ g9 := by have := HC.size; omega
    have neg4_9 : g4 < g9 := by omega
    have neg5_9 : g5 < g9 := by omega
    refine wle rfl (e_stW (vs := List.map u8v u38) (szL sz38 (by rw [List.length_map]; exact hu38)) (oneL one_u8 _) rfl rfl hb9 (by simp only [List.size_toArray, List.length_map]; first | done | exact ((List.length_replicate ..)).trans (hu38).symm) (fun w7 hb9 hc hsz => ?_))
    have hzw7 := hc.size
    have HC := HC.trans hc (fun _ _ h => h) (fun k hk ht => absurd ht (by omega))
    first | have hin := hin.ch hc (by intro k hk ht; first | omega | (dsimp only at *; omega)) | have hin := hin.chT hc (by intro k hz hk ht; first | omega | (dsimp only at *; omega))
    first | have hrnd := hrnd.ch hc (by intro k hk ht; first | omega | (dsimp only at *; omega)) | have hrnd := hrnd.chT hc (by intro k hz hk ht; first | omega | (dsimp only at *; omega))
    have hb4 := hb4.ch hc (by omega)
    have hb5 := hb5.ch hc (by omega)
    have hV32 := hV32.ch hc (by first | exact fun _ _ _ h => h | (intro k hk hF ht; have h2 := hF.1; have h3 := hF.2; first | omega | (dsimp only at *; omega)))
    have hM32 := hM32.ch hc (by intro k hz hk ht; first | omega | (dsimp only at *; omega))
    refine wl rfl rfl rfl (p_as rfl) ?_
    refine wl_nil ?_
    refine x_seq ?_
    refine wc_seq ?_
    refine wc_region ?_
    refine wl rfl rfl rfl (p_mv rfl) ?_
    refine wle rfl (e_call ent43 rfl rfl (tlen_made hV32) ?_)
    rintro _ w8 ⟨rfl, hc⟩
    refine ⟨_, rfl, ?_⟩
    have hzw8 := hc.size
    have HC := HC.tr hc
    have hin := hin.no hc
    have hrnd := hrnd.no hc
    have hb4 := hb4.ch hc (fun h => h)
    have hb5 := hb5.ch hc (fun h => h)
    have hV32 := hV32.ch hc (by first | exact fun _ _ _ h => h | (intro k hk hF ht; have h2 := hF.1; have h3 := hF.2; first | omega | (dsimp only at *; omega)))
    have hM32 := hM32.after hc
    have hb9 := hb9.ch hc (fun h => h)
    refine wl rfl rfl rfl (p_as rfl) ?_
    refine wl_nil ?_
    refine x_seq ?_
    refine wc_seq ?_
    refine wc_region ?_
    refine wl rfl rfl rfl (p_mv rfl) ?_
    refine wl rfl rfl rfl (p_fld (j := 0) Tryd.underlying66 rfl ⟨_, by rfl⟩ rfl rfl) ?_
    refine wl rfl rfl rfl (p_ldA (cs := (List.map u8v ak)) Tryd.underlying38 rfl (szL sz38 (by first | rfl | (simp only [List.length_append, List.length_map, List.length_cons, List.length_nil, (show List.length ak = 32 from hak)]; done) | (simp only [List.length_append, List.length_map, List.length_cons, List.length_nil, List.size_toArray, (show List.length ak = 32 from hak)]; done))) rfl (fun _ e => e ▸ rng_at (p := []) (q := ((List.map u8v ak) : List Value)) (r := (((List.map u8v av) ++ [.bool adr]) : List Value)) hb4 (by simp only [List.append_assoc, List.cons_append, List.nil_append, List.append_nil]) (by first | rfl | (simp only [List.length_append, List.length_map, List.length_cons, List.length_nil]; done) | (simp only [List.length_append, List.length_map, List.length_cons, List.length_nil, List.size_toArray]; done)))) ?_
    refine wle rfl (e_call ent42 rfl rfl (tget_any hV32 (hak)) ?_)
    rintro _ w9 ⟨u47, ok47, rfl, hu47, hg47, hc⟩
    refine ⟨_, rfl, ?_⟩
    have hzw9 := hc.size
    have HC := HC.tr hc
    have hin := hin.no hc
    have hrnd := hrnd.no hc
    have hb4 := hb4.ch hc (fun h => h)
    have hb5 := hb5.ch hc (fun h => h)
    have hV32 := hV32.ch hc (by first | exact fun _ _ _ h => h | (intro k hk hF ht; have h2 := hF.1; have h3 := hF.2; first | omega | (dsimp only at *; omega)))
    have hM32 := hM32.after hc
    have hb9 := hb9.ch hc (fun h => h)
    obtain ⟨hx47, ho47⟩ : u47 = (getT (eo o32) ak).getD zeroH ∧ ok47 = (getT (eo o32) ak).isSome := by injection hg47 with h1 h2; exact ⟨h1, h2⟩
    refine wl rfl rfl rfl (p_mv rfl) ?_
    refine wl rfl rfl rfl (p_ext rfl rfl) ?_
    refine wl rfl rfl rfl (p_ext rfl rfl) ?_
    have hltg4 := hb4.lt
    have hltg5 := hb5.lt
    have hltg9 := hb9.lt
    refine wle rfl (e_alloc (cs := ((List.replicate 32 (0 : UInt8)).map u8v).toArray) rfl (by rfl) rfl (fun w10 g12 hg12 hb12 hc hsz12 => ?_))
    have hzw10 := hc.size
    have HC := HC.tr hc
    have hin := hin.no hc
    have hrnd := hrnd.no hc
    have hb4 := hb4.ch hc (fun h => h)
    have hb5 := hb5.ch hc (fun h => h)
    have hV32 := hV32.ch hc (by first | exact fun _ _ _ h => h | (intro k hk hF ht; have h2 := hF.1; have h3 := hF.2; first | omega | (dsimp only at *; omega)))
    have hM32 := hM32.after hc
    have hb9 := hb9.ch hc (fun h => h)
    have hge12 : w.heap.size ≤ g12 := by have := HC.size; omega
    have neg4_12 : g4 < g12 := by omega
    have neg5_12 : g5 < g12 := by omega
    have neg9_12 : g9 < g12 := by omega
    refine wle rfl (e_stW (vs := List.map u8v u47) (szL sz38 (by rw [List.length_map]; exact hu47)) (oneL one_u8 _) rfl rfl hb12 (by simp only [List.size_toArray, List.length_map]; first | done | exact ((List.length_replicate ..)).trans (hu47).symm) (fun w11 hb12 hc hsz => ?_))
    have hzw11 := hc.size
    have HC := HC.trans hc (fun _ _ h => h) (fun k hk ht => absurd ht (by omega))
    first | have hin := hin.ch hc (by intro k hk ht; first | omega | (dsimp only at *; omega)) | have hin := hin.chT hc (by intro k hz hk ht; first | omega | (dsimp only at *; omega))
    first | have hrnd := hrnd.ch hc (by intro k hk ht; first | omega | (dsimp only at *; omega)) | have hrnd := hrnd.chT hc (by intro k hz hk ht; first | omega | (dsimp only at *; omega))
    have hb4 := hb4.ch hc (by omega)
    have hb5 := hb5.ch hc (by omega)
    have hV32 := hV32.ch hc (by first | exact fun _ _ _ h => h | (intro k hk hF ht; have h2 := hF.1; have h3 := hF.2; first | omega | (dsimp only at *; omega)))
    have hM32 := hM32.ch hc (by intro k hz hk ht; first | omega | (dsimp only at *; omega))
    have hb9 := hb9.ch hc (by omega)
    refine wl rfl rfl rfl (p_as rfl) ?_
    refine wl_nil ?_
    refine x_seq ?_
    refine wc_seq ?_
    refine wc_draw (.st 0 0 (.st 1 0 (.st 2 1 (.st 3 0 (.st 4 1 (.st 6 0 (.st 7 0 (.st 8 1 (.st 5 2 (.st 9 2 (.st 10 0 (.st 11 0 .nil)))))))))))) 12 (by kernel_rfl) (by kernel_rfl) (by kernel_rfl) (by repeat (first | with_reducible exact pan_body | with_reducible apply pan_then | with_reducible apply pan_in)) (fun x => Ch No w11.drew x) (Ch.refl _ _) ?_
    obtain ⟨w12, ew12⟩ : ∃ x, x = w11.drew := ⟨_, rfl⟩
    rw [← ew12]
    have hc : Ch No w11 w12 := by rw [ew12]; exact Ch.drew _
    have hszw12 : w12.heap.size = w11.heap.size := by rw [ew12]; rfl
    clear ew12
    have hzw12 := hc.size
    have HC := HC.tr hc
    have hin := hin.no hc
    have hrnd := hrnd.no hc
    have hb4 := hb4.ch hc (fun h => h)
    have hb5 := hb5.ch hc (fun h => h)
    have hV32 := hV32.ch hc (by first | exact fun _ _ _ h => h | (intro k hk hF ht; have h2 := hF.1; have h3 := hF.2; first | omega | (dsimp only at *; omega)))
    have hM32 := hM32.no hc
    have hb9 := hb9.ch hc (fun h => h)
    have hb12 := hb12.ch hc (fun h => h)
    have hS : Ch No w12 w12 := Ch.refl _ _
    refine ws_p rfl rfl rfl rfl (p_mv rfl) ?_
    refine ws_p rfl rfl rfl rfl (p_fld (j := 0) Tryd.underlying66 rfl ⟨_, by rfl⟩ rfl rfl) ?_
    refine ws_h rfl rfl rfl rfl (p_ldA (cs := (List.map u8v ak)) Tryd.underlying38 rfl (szL sz38 (by first | rfl | (simp only [List.length_append, List.length_map, List.length_cons, List.length_nil, (show List.length ak = 32 from hak)]; done) | (simp only [List.length_append, List.length_map, List.length_cons, List.length_nil, List.size_toArray, (show List.length ak = 32 from hak)]; done))) rfl (fun _ h => rng_at (p := []) (q := ((List.map u8v ak) : List Value)) (r := (((List.map u8v av) ++ [.bool adr]) : List Value)) (hb4.ch h (fun h => h)) (by simp only [List.append_assoc, List.cons_append, List.nil_append, List.append_nil]) (by first | rfl | (simp only [List.length_append, List.length_map, List.length_cons, List.length_nil]; done) | (simp only [List.length_append, List.length_map, List.length_cons, List.length_nil, List.size_toArray]; done)))) ?_
    refine ws_p rfl rfl rfl rfl (p_fld (j := 32) Tryd.underlying66 rfl ⟨_, by rfl⟩ rfl rfl) ?_
    refine ws_h rfl rfl rfl rfl (p_ldA (cs := (List.map u8v av)) Tryd.underlying38 rfl (szL sz38 (by first | rfl | (simp only [List.length_append, List.length_map, List.length_cons, List.length_nil, (show List.length av = 32 from hav)]; done) | (simp only [List.length_append, List.length_map, List.length_cons, List.length_nil, List.size_toArray, (show List.length av = 32 from hav)]; done))) rfl (fun _ h => rng_at (p := ((List.map u8v ak) : List Value)) (q := ((List.map u8v av) : List Value)) (r := ([.bool adr] : List Value)) (hb4.ch h (fun h => h)) (by simp only [List.append_assoc, List.cons_append, List.nil_append, List.append_nil]) (by first | rfl | (simp only [List.length_append, List.length_map, List.length_cons, List.length_nil, (show List.length ak = 32 from hak)]; done) | (simp only [List.length_append, List.length_map, List.length_cons, List.length_nil, List.size_toArray, (show List.length ak = 32 from hak)]; done)))) ?_
    refine ws_p rfl rfl rfl rfl (p_mv rfl) ?_
    refine ws_p rfl rfl rfl rfl (p_fld (j := 0) Tryd.underlying66 rfl ⟨_, by rfl⟩ rfl rfl) ?_
    refine ws_h rfl rfl rfl rfl (p_ldA (cs := (List.map u8v ak)) Tryd.underlying38 rfl (szL sz38 (by first | rfl | (simp only [List.length_append, List.length_map, List.length_cons, List.length_nil, (show List.length ak = 32 from hak)]; done) | (simp only [List.length_append, List.length_map, List.length_cons, List.length_nil, List.size_toArray, (show List.length ak = 32 from hak)]; done))) rfl (fun _ h => rng_at (p := []) (q := ((List.map u8v ak) : List Value)) (r := (((List.map u8v av) ++ [.bool adr]) : List Value)) (hb4.ch h (fun h => h)) (by simp only [List.append_assoc, List.cons_append, List.nil_append, List.append_nil]) (by first | rfl | (simp only [List.length_append, List.length_map, List.length_cons, List.length_nil]; done) | (simp only [List.length_append, List.length_map, List.length_cons, List.length_nil, List.size_toArray]; done)))) ?_
    refine ws_e rfl rfl (e_call ent44 rfl rfl (tput_made (F := fun k => w.heap.size ≤ k) (hV32.mono (fun k _ h => by first | exact h.1 | (have h2 := h.1; show w.heap.size ≤ k; omega))) (fun j hj => by show w.heap.size ≤ j; omega) (hak) (hav) (by omega)) ?_)
    rintro _ w13 ⟨v55, t55, rfl, hV55, heq55, hc⟩
    refine ⟨_, rfl, hc, ?_⟩
    have hzw13 := hc.size
    have HC := HC.tr hc
    have hin := hin.no hc
    have hrnd := hrnd.no hc
    have hb4 := hb4.ch hc (fun h => h)
    have hb5 := hb5.ch hc (fun h => h)
    have hV32 := hV32.ch hc (by first | exact fun _ _ _ h => h | (intro k hk hF ht; have h2 := hF.1; have h3 := hF.2; first | omega | (dsimp only at *; omega)))
    have hM32 := hM32.after hc
    have hb9 := hb9.ch hc (fun h => h)
    have hb12 := hb12.ch hc (fun h => h)
    have hV55 := hV55.mono (G := fun k => w.heap.size ≤ k ∧ k < w13.heap.size) (fun k h1 h2 => ⟨by first | exact h2 | exact h2.1 | ((try dsimp only at h2); omega), h1⟩)
    refine ws_narrow (S' := fun x => Ch No w13 x) (Ch.refl _ _) (fun x h => hc.tr h) ?_
    refine ws_e rfl rfl (e_call ent45 rfl rfl (tdrop_made (F := fun k => w.heap.size ≤ k) (hV32.mono (fun k _ h => by first | exact h.1 | (have h2 := h.1; show w.heap.size ≤ k; omega))) (fun j hj => by show w.heap.size ≤ j; omega) (hak)) ?_)
    rintro _ w14 ⟨v59, o59, rfl, hV59, heq59, hc⟩
    refine ⟨_, rfl, hc, ?_⟩
    have hzw14 := hc.size
    have HC := HC.tr hc
    have hin := hin.no hc
    have hrnd := hrnd.no hc
    have hb4 := hb4.ch hc (fun h => h)
    have hb5 := hb5.ch hc (fun h => h)
    have hV32 := hV32.ch hc (by first | exact fun _ _ _ h => h | (intro k hk hF ht; have h2 := hF.1; have h3 := hF.2; first | omega | (dsimp only at *; omega)))
    have hM32 := hM32.after hc
    have hb9 := hb9.ch hc (fun h => h)
    have hb12 := hb12.ch hc (fun h => h)
    have hV55 := hV55.ch hc (by first | exact fun _ _ _ h => h | (intro k hk hF ht; have h2 := hF.1; have h3 := hF.2; first | omega | (dsimp only at *; omega)))
    have hV59 := hV59.mono (G := fun k => w.heap.size ≤ k ∧ k < w14.heap.size) (fun k h1 h2 => ⟨by first | exact h2 | exact h2.1 | ((try dsimp only at h2); omega), h1⟩)
    refine ws_narrow (S' := fun x => Ch No w14 x) (Ch.refl _ _) (fun x h => hc.tr h) ?_
    have hpl : cntT (eo (some t55)) + (if ok47 = true then 1 else 0) = cntT (eo o32) + 1 := by rw [heq55, ho47]; exact putT_len hwfo32 hak hav
    have hdl : cntT (eo o59) + (if ok47 = true then 1 else 0) = cntT (eo o32) := by rw [heq59, ho47]; exact dropT_len hwfo32
    refine ws_p rfl rfl rfl rfl (p_as rfl) ?_
    refine ws_p rfl rfl rfl rfl (p_as rfl) ?_
    refine ws_n ?_
    refine x_seq ?_
    refine wc_seq ?_
    refine wc_region ?_
    refine wl rfl rfl rfl (p_mv rfl) ?_
    refine wl rfl rfl rfl (p_fld (j := 0) Tryd.underlying66 rfl ⟨_, by rfl⟩ rfl rfl) ?_
    refine wl rfl rfl rfl (p_ldA (cs := (List.map u8v ak)) Tryd.underlying38 rfl (szL sz38 (by first | rfl | (simp only [List.length_append, List.length_map, List.length_cons, List.length_nil, (show List.length ak = 32 from hak)]; done) | (simp only [List.length_append, List.length_map, List.length_cons, List.length_nil, List.size_toArray, (show List.length ak = 32 from hak)]; done))) rfl (fun _ e => e ▸ rng_at (p := []) (q := ((List.map u8v ak) : List Value)) (r := (((List.map u8v av) ++ [.bool adr]) : List Value)) hb4 (by simp only [List.append_assoc, List.cons_append, List.nil_append, List.append_nil]) (by first | rfl | (simp only [List.length_append, List.length_map, List.length_cons, List.length_nil]; done) | (simp only [List.length_append, List.length_map, List.length_cons, List.length_nil, List.size_toArray]; done)))) ?_
    refine wle rfl (e_call ent42 rfl rfl (tget_any hV55 (hak)) ?_)
    rintro _ w15 ⟨u64, ok64, rfl, hu64, hg64, hc⟩
    refine ⟨_, rfl, ?_⟩
    have hzw15 := hc.size
    have HC := HC.tr hc
    have hin := hin.no hc
    have hrnd := hrnd.no hc
    have hb4 := hb4.ch hc (fun h => h)
    have hb5 := hb5.ch hc (fun h => h)
    have hV32 := hV32.ch hc (by first | exact fun _ _ _ h => h | (intro k hk hF ht; have h2 := hF.1; have h3 := hF.2; first | omega | (dsimp only at *; omega)))
    have hM32 := hM32.after hc
    have hb9 := hb9.ch hc (fun h => h)
    have hb12 := hb12.ch hc (fun h => h)
    have hV55 := hV55.ch hc (by first | exact fun _ _ _ h => h | (intro k hk hF ht; have h2 := hF.1; have h3 := hF.2; first | omega | (dsimp only at *; omega)))
    have hV59 := hV59.ch hc (by first | exact fun _ _ _ h => h | (intro k hk hF ht; have h2 := hF.1; have h3 := hF.2; first | omega | (dsimp only at *; omega)))
    rw [heq55, getT_put hwfo32 hak hav, if_pos rfl] at hg64
    obtain ⟨hx64, ho64⟩ : u64 = av ∧ ok64 = true := by injection hg64 with h1 h2; exact ⟨h1, h2⟩
    refine wl rfl rfl rfl (p_mv rfl) ?_
    refine wl rfl rfl rfl (p_ext rfl rfl) ?_
    refine wl rfl rfl rfl (p_ext rfl rfl) ?_
    have hltg4 := hb4.lt
    have hltg5 := hb5.lt
    have hltg9 := hb9.lt
    have hltg12 := hb12.lt
    refine wle rfl (e_alloc (cs := ((List.replicate 32 (0 : UInt8)).map u8v).toArray) rfl (by rfl) rfl (fun w16 g16 hg16 hb16 hc hsz16 => ?_))
    have hzw16 := hc.size
    have HC := HC.tr hc
    have hin := hin.no hc
    have hrnd := hrnd.no hc
    have hb4 := hb4.ch hc (fun h => h)
    have hb5 := hb5.ch hc (fun h => h)
    have hV32 := hV32.ch hc (by first | exact fun _ _ _ h => h | (intro k hk hF ht; have h2 := hF.1; have h3 := hF.2; first | omega | (dsimp only at *; omega)))
    have hM32 := hM32.after hc
    have hb9 := hb9.ch hc (fun h => h)
    have hb12 := hb12.ch hc (fun h => h)
    have hV55 := hV55.ch hc (by first | exact fun _ _ _ h => h | (intro k hk hF ht; have h2 := hF.1; have h3 := hF.2; first | omega | (dsimp only at *; omega)))
    have hV59 := hV59.ch hc (by first | exact fun _ _ _ h => h | (intro k hk hF ht; have h2 := hF.1; have h3 := hF.2; first | omega | (dsimp only at *; omega)))
    have hge16 : w.heap.size ≤ g16 := by have := HC.size; omega
    have neg4_16 : g4 < g16 := by omega
    have neg5_16 : g5 < g16 := by omega
    have neg9_16 : g9 < g16 := by omega
    have neg12_16 : g12 < g16 := by omega
    refine wle rfl (e_stW (vs := List.map u8v u64) (szL sz38 (by rw [List.length_map]; exact hu64)) (oneL one_u8 _) rfl rfl hb16 (by simp only [List.size_toArray, List.length_map]; first | done | exact ((List.length_replicate ..)).trans (hu64).symm) (fun w17 hb16 hc hsz => ?_))
    have hzw17 := hc.size
    have HC := HC.trans hc (fun _ _ h => h) (fun k hk ht => absurd ht (by omega))
    first | have hin := hin.ch hc (by intro k hk ht; first | omega | (dsimp only at *; omega)) | have hin := hin.chT hc (by intro k hz hk ht; first | omega | (dsimp only at *; omega))
    first | have hrnd := hrnd.ch hc (by intro k hk ht; first | omega | (dsimp only at *; omega)) | have hrnd := hrnd.chT hc (by intro k hz hk ht; first | omega | (dsimp only at *; omega))
    have hb4 := hb4.ch hc (by omega)
    have hb5 := hb5.ch hc (by omega)
    have hV32 := hV32.ch hc (by first | exact fun _ _ _ h => h | (intro k hk hF ht; have h2 := hF.1; have h3 := hF.2; first | omega | (dsimp only at *; omega)))
    have hM32 := hM32.ch hc (by intro k hz hk ht; first | omega | (dsimp only at *; omega))
    have hb9 := hb9.ch hc (by omega)
    have hb12 := hb12.ch hc (by omega)
    have hV55 := hV55.ch hc (by first | exact fun _ _ _ h => h | (intro k hk hF ht; have h2 := hF.1; have h3 := hF.2; first | omega | (dsimp only at *; omega)))
    have hV59 := hV59.ch hc (by first | exact fun _ _ _ h => h | (intro k hk hF ht; have h2 := hF.1; have h3 := hF.2; first | omega | (dsimp only at *; omega)))
    refine wl rfl rfl rfl (p_as rfl) ?_
    refine wl_nil ?_
    refine x_seq ?_
    refine wc_seq ?_
    refine wc_region ?_
    refine wl rfl rfl rfl (p_mv rfl) ?_
    refine wl rfl rfl rfl (p_fld (j := 0) Tryd.underlying66 rfl ⟨_, by rfl⟩ rfl rfl) ?_
    refine wl rfl rfl rfl (p_ldA (cs := (List.map u8v ak)) Tryd.underlying38 rfl (szL sz38 (by first | rfl | (simp only [List.length_append, List.length_map, List.length_cons, List.length_nil, (show List.length ak = 32 from hak)]; done) | (simp only [List.length_append, List.length_map, List.length_cons, List.length_nil, List.size_toArray, (show List.length ak = 32 from hak)]; done))) rfl (fun _ e => e ▸ rng_at (p := []) (q := ((List.map u8v ak) : List Value)) (r := (((List.map u8v av) ++ [.bool adr]) : List Value)) hb4 (by simp only [List.append_assoc, List.cons_append, List.nil_append, List.append_nil]) (by first | rfl | (simp only [List.length_append, List.length_map, List.length_cons, List.length_nil]; done) | (simp only [List.length_append, List.length_map, List.length_cons, List.length_nil, List.size_toArray]; done)))) ?_
    refine wle rfl (e_call ent42 rfl rfl (tget_any hV59 (hak)) ?_)
    rintro _ w18 ⟨u71, ok71, rfl, hu71, hg71, hc⟩
    refine ⟨_, rfl, ?_⟩
    have hzw18 := hc.size
    have HC := HC.tr hc
    have hin := hin.no hc
    have hrnd := hrnd.no hc
    have hb4 := hb4.ch hc (fun h => h)
    have hb5 := hb5.ch hc (fun h => h)
    have hV32 := hV32.ch hc (by first | exact fun _ _ _ h => h | (intro k hk hF ht; have h2 := hF.1; have h3 := hF.2; first | omega | (dsimp only at *; omega)))
    have hM32 := hM32.after hc
    have hb9 := hb9.ch hc (fun h => h)
    have hb12 := hb12.ch hc (fun h => h)
    have hV55 := hV55.ch hc (by first | exact fun _ _ _ h => h | (intro k hk hF ht; have h2 := hF.1; have h3 := hF.2; first | omega | (dsimp only at *; omega)))
    have hV59 := hV59.ch hc (by first | exact fun _ _ _ h => h | (intro k hk hF ht; have h2 := hF.1; have h3 := hF.2; first | omega | (dsimp only at *; omega)))
    have hb16 := hb16.ch hc (fun h => h)
    rw [heq59, getT_drop hwfo32, if_pos rfl] at hg71
    obtain ⟨hx71, ho71⟩ : u71 = zeroH ∧ ok71 = false := by injection hg71 with h1 h2; exact ⟨h1, h2⟩
    refine wl rfl rfl rfl (p_mv rfl) ?_
    refine wl rfl rfl rfl (p_ext rfl rfl) ?_
    refine wl rfl rfl rfl (p_ext rfl rfl) ?_
    have hltg4 := hb4.lt
    have hltg5 := hb5.lt
    have hltg9 := hb9.lt
    have hltg12 := hb12.lt
    have hltg16 := hb16.lt
    refine wle rfl (e_alloc (cs := ((List.replicate 32 (0 : UInt8)).map u8v).toArray) rfl (by rfl) rfl (fun w19 g18 hg18 hb18 hc hsz18 => ?_))
    have hzw19 := hc.size
    have HC := HC.tr hc
    have hin := hin.no hc
    have hrnd := hrnd.no hc
    have hb4 := hb4.ch hc (fun h => h)
    have hb5 := hb5.ch hc (fun h => h)
    have hV32 := hV32.ch hc (by first | exact fun _ _ _ h => h | (intro k hk hF ht; have h2 := hF.1; have h3 := hF.2; first | omega | (dsimp only at *; omega)))
    have hM32 := hM32.after hc
    have hb9 := hb9.ch hc (fun h => h)
    have hb12 := hb12.ch hc (fun h => h)
    have hV55 := hV55.ch hc (by first | exact fun _ _ _ h => h | (intro k hk hF ht; have h2 := hF.1; have h3 := hF.2; first | omega | (dsimp only at *; omega)))
    have hV59 := hV59.ch hc (by first | exact fun _ _ _ h => h | (intro k hk hF ht; have h2 := hF.1; have h3 := hF.2; first | omega | (dsimp only at *; omega)))
    have hb16 := hb16.ch hc (fun h => h)
    have hge18 : w.heap.size ≤ g18 := by have := HC.size; omega
    have neg4_18 : g4 < g18 := by omega
    have neg5_18 : g5 < g18 := by omega
    have neg9_18 : g9 < g18 := by omega
    have neg12_18 : g12 < g18 := by omega
    have neg16_18 : g16 < g18 := by omega
    refine wle rfl (e_stW (vs := List.map u8v u71) (szL sz38 (by rw [List.length_map]; exact hu71)) (oneL one_u8 _) rfl rfl hb18 (by simp only [List.size_toArray, List.length_map]; first | done | exact ((List.length_replicate ..)).trans (hu71).symm) (fun w20 hb18 hc hsz => ?_))
    have hzw20 := hc.size
    have HC := HC.trans hc (fun _ _ h => h) (fun k hk ht => absurd ht (by omega))
    first | have hin := hin.ch hc (by intro k hk ht; first | omega | (dsimp only at *; omega)) | have hin := hin.chT hc (by intro k hz hk ht; first | omega | (dsimp only at *; omega))
    first | have hrnd := hrnd.ch hc (by intro k hk ht; first | omega | (dsimp only at *; omega)) | have hrnd := hrnd.chT hc (by intro k hz hk ht; first | omega | (dsimp only at *; omega))
    have hb4 := hb4.ch hc (by omega)
    have hb5 := hb5.ch hc (by omega)
    have hV32 := hV32.ch hc (by first | exact fun _ _ _ h => h | (intro k hk hF ht; have h2 := hF.1; have h3 := hF.2; first | omega | (dsimp only at *; omega)))
    have hM32 := hM32.ch hc (by intro k hz hk ht; first | omega | (dsimp only at *; omega))
    have hb9 := hb9.ch hc (by omega)
    have hb12 := hb12.ch hc (by omega)
    have hV55 := hV55.ch hc (by first | exact fun _ _ _ h => h | (intro k hk hF ht; have h2 := hF.1; have h3 := hF.2; first | omega | (dsimp only at *; omega)))
    have hV59 := hV59.ch hc (by first | exact fun _ _ _ h => h | (intro k hk hF ht; have h2 := hF.1; have h3 := hF.2; first | omega | (dsimp only at *; omega)))
    have hb16 := hb16.ch hc (by omega)
    refine wl rfl rfl rfl (p_as rfl) ?_
    refine wl_nil ?_
    refine x_seq ?_
    refine wc_seq ?_
    refine wc_seq ?_
    refine wc_region ?_
    refine wl rfl rfl rfl (p_mv rfl) ?_
    refine wl rfl rfl rfl (p_not rfl) ?_
    refine wl rfl rfl rfl (p_mv rfl) ?_
    refine wl_know (d := 76) (b' := false) rfl (by simp [ho64]) ?_
    refine wl_g (gd_ rfl rfl rfl rfl rfl rfl) rfl rfl (p_ldA (cs := List.map u8v u64) Tryd.underlying38 rfl (szL sz38 (by rw [List.length_map]; exact hu64)) rfl (fun _ e => e ▸ rngL hb16)) ?_
    refine wl_g (gd_ rfl rfl rfl rfl rfl rfl) rfl rfl (p_fld (j := 32) Tryd.underlying66 rfl ⟨_, by rfl⟩ rfl rfl) ?_
    refine wl_g (gd_ rfl rfl rfl rfl rfl rfl) rfl rfl (p_ldA (cs := (List.map u8v av)) Tryd.underlying38 rfl (szL sz38 (by first | rfl | (simp only [List.length_append, List.length_map, List.length_cons, List.length_nil, (show List.length av = 32 from hav)]; done) | (simp only [List.length_append, List.length_map, List.length_cons, List.length_nil, List.size_toArray, (show List.length av = 32 from hav)]; done))) rfl (fun _ e => e ▸ rng_at (p := ((List.map u8v ak) : List Value)) (q := ((List.map u8v av) : List Value)) (r := ([.bool adr] : List Value)) hb4 (by simp only [List.append_assoc, List.cons_append, List.nil_append, List.append_nil]) (by first | rfl | (simp only [List.length_append, List.length_map, List.length_cons, List.length_nil, (show List.length ak = 32 from hak)]; done) | (simp only [List.length_append, List.length_map, List.length_cons, List.length_nil, List.size_toArray, (show List.length ak = 32 from hak)]; done)))) ?_
    refine wl_g (gd_ rfl rfl rfl rfl rfl rfl) rfl rfl (p_neH (a := u64) (b := av) (by kernel_rfl) Tryd.underlying38 Tryd.underlying5 sz5 rfl rfl (hu64) (hav)) ?_
    refine wl rfl rfl rfl (p_pickF rfl rfl) ?_
    refine wl rfl rfl rfl (p_mv rfl) ?_
    refine wl_know (d := 82) (b' := false) rfl (by simp [hx64]) ?_
    refine wl_g (gd_ rfl rfl rfl rfl rfl rfl) rfl rfl (p_mv rfl) ?_
    refine wl rfl rfl rfl (p_pickF rfl rfl) ?_
    refine wl_nil ?_
    refine x_seq ?_
    refine wc_no rfl (by simp [ho71]) ?_
    refine wc_skip ?_
    refine x_seq ?_
    refine wc_seq ?_
    refine wc_seq ?_
    refine wc_region ?_
    refine wl rfl rfl rfl (p_ldA (cs := List.map u8v k) Tryd.underlying38 rfl (szL sz38 (by rw [List.length_map]; exact hk)) rfl (fun _ e => e ▸ rngL hb5)) ?_
    refine wl rfl rfl rfl (p_fld (j := 0) Tryd.underlying66 rfl ⟨_, by rfl⟩ rfl rfl) ?_
    refine wl rfl rfl rfl (p_ldA (cs := (List.map u8v ak)) Tryd.underlying38 rfl (szL sz38 (by first | rfl | (simp only [List.length_append, List.length_map, List.length_cons, List.length_nil, (show List.length ak = 32 from hak)]; done) | (simp only [List.length_append, List.length_map, List.length_cons, List.length_nil, List.size_toArray, (show List.length ak = 32 from hak)]; done))) rfl (fun _ e => e ▸ rng_at (p := []) (q := ((List.map u8v ak) : List Value)) (r := (((List.map u8v av) ++ [.bool adr]) : List Value)) hb4 (by simp only [List.append_assoc, List.cons_append, List.nil_append, List.append_nil]) (by first | rfl | (simp only [List.length_append, List.length_map, List.length_cons, List.length_nil]; done) | (simp only [List.length_append, List.length_map, List.length_cons, List.length_nil, List.size_toArray]; done)))) ?_
    refine wl rfl rfl rfl (p_neH (a := k) (b := ak) (by kernel_rfl) Tryd.underlying38 Tryd.underlying5 sz5 rfl rfl (hk) (hak)) ?_
    refine wl_nil ?_
    refine x_seq ?_
    refine wc_if rfl (fun c2 => ?_) (fun c2 => ?_)
    ·
      have hnk : ¬ k = ak := by simpa using c2
      refine wc_seq ?_
      refine wc_region ?_
      refine wl rfl rfl rfl (p_mv rfl) ?_
      refine wl rfl rfl rfl (p_ldA (cs := List.map u8v k) Tryd.underlying38 rfl (szL sz38 (by rw [List.length_map]; exact hk)) rfl (fun _ e => e ▸ rngL hb5)) ?_
      refine wle rfl (e_call ent42 rfl rfl (tget_any hV55 (hk)) ?_)
      rintro _ w21 ⟨u92, ok92, rfl, hu92, hg92, hc⟩
      refine ⟨_, rfl, ?_⟩
      have hzw21 := hc.size
      have HC := HC.tr hc
      have hin := hin.no hc
      have hrnd := hrnd.no hc
      have hb4 := hb4.ch hc (fun h => h)
      have hb5 := hb5.ch hc (fun h => h)
      have hV32 := hV32.ch hc (by first | exact fun _ _ _ h => h | (intro k hk hF ht; have h2 := hF.1; have h3 := hF.2; first | omega | (dsimp only at *; omega)))
      have hM32 := hM32.after hc
      have hb9 := hb9.ch hc (fun h => h)
      have hb12 := hb12.ch hc (fun h => h)
      have hV55 := hV55.ch hc (by first | exact fun _ _ _ h => h | (intro k hk hF ht; have h2 := hF.1; have h3 := hF.2; first | omega | (dsimp only at *; omega)))
      have hV59 := hV59.ch hc (by first | exact fun _ _ _ h => h | (intro k hk hF ht; have h2 := hF.1; have h3 := hF.2; first | omega | (dsimp only at *; omega)))
      have hb16 := hb16.ch hc (fun h => h)
      have hb18 := hb18.ch hc (fun h => h)
      rw [heq55, getT_put hwfo32 hak hav, if_neg hnk] at hg92
      obtain ⟨hx92, ho92⟩ : u92 = (getT (eo o32) k).getD zeroH ∧ ok92 = (getT (eo o32) k).isSome := by injection hg92 with h1 h2; exact ⟨h1, h2⟩
      refine wl rfl rfl rfl (p_mv rfl) ?_
      refine wl rfl rfl rfl (p_ext rfl rfl) ?_
      refine wl rfl rfl rfl (p_ext rfl rfl) ?_
      have hltg4 := hb4.lt
      have hltg5 := hb5.lt
      have hltg9 := hb9.lt
      have hltg12 := hb12.lt
      have hltg16 := hb16.lt
      have hltg18 := hb18.lt
      refine wle rfl (e_alloc (cs := ((List.replicate 32 (0 : UInt8)).map u8v).toArray) rfl (by rfl) rfl (fun w22 g20 hg20 hb20 hc hsz20 => ?_))
      have hzw22 := hc.size
      have HC := HC.tr hc
      have hin := hin.no hc
      have hrnd := hrnd.no hc
      have hb4 := hb4.ch hc (fun h => h)
      have hb5 := hb5.ch hc (fun h => h)
      have hV32 := hV32.ch hc (by first | exact fun _ _ _ h => h | (intro k hk hF ht; have h2 := hF.1; have h3 := hF.2; first | omega | (dsimp only at *; omega)))
      have hM32 := hM32.after hc
      have hb9 := hb9.ch hc (fun h => h)
      have hb12 := hb12.ch hc (fun h => h)
      have hV55 := hV55.ch hc (by first | exact fun _ _ _ h => h | (intro k hk hF ht; have h2 := hF.1; have h3 := hF.2; first | omega | (dsimp only at *; omega)))
      have hV59 := hV59.ch hc (by first | exact fun _ _ _ h => h | (intro k hk hF ht; have h2 := hF.1; have h3 := hF.2; first | omega | (dsimp only at *; omega)))
      have hb16 := hb16.ch hc (fun h => h)
      have hb18 := hb18.ch hc (fun h => h)
      have hge20 : w.heap.size ≤ g20 := by have := HC.size; omega
      have neg4_20 : g4 < g20 := by omega
      have neg5_20 : g5 < g20 := by omega
      have neg9_20 : g9 < g20 := by omega
      have neg12_20 : g12 < g20 := by omega
      have neg16_20 : g16 < g20 := by omega
      have neg18_20 : g18 < g20 := by omega
      refine wle rfl (e_stW (vs := List.map u8v u92) (szL sz38 (by rw [List.length_map]; exact hu92)) (oneL one_u8 _) rfl rfl hb20 (by simp only [List.size_toArray, List.length_map]; first | done | exact ((List.length_replicate ..)).trans (hu92).symm) (fun w23 hb20 hc hsz => ?_))
      have hzw23 := hc.size
      have HC := HC.trans hc (fun _ _ h => h) (fun k hk ht => absurd ht (by omega))
      first | have hin := hin.ch hc (by intro k hk ht; first | omega | (dsimp only at *; omega)) | have hin := hin.chT hc (by intro k hz hk ht; first | omega | (dsimp only at *; omega))
      first | have hrnd := hrnd.ch hc (by intro k hk ht; first | omega | (dsimp only at *; omega)) | have hrnd := hrnd.chT hc (by intro k hz hk ht; first | omega | (dsimp only at *; omega))
      have hb4 := hb4.ch hc (by omega)
      have hb5 := hb5.ch hc (by omega)
      have hV32 := hV32.ch hc (by first | exact fun _ _ _ h => h | (intro k hk hF ht; have h2 := hF.1; have h3 := hF.2; first | omega | (dsimp only at *; omega)))
      have hM32 := hM32.ch hc (by intro k hz hk ht; first | omega | (dsimp only at *; omega))
      have hb9 := hb9.ch hc (by omega)
      have hb12 := hb12.ch hc (by omega)
      have hV55 := hV55.ch hc (by first | exact fun _ _ _ h => h | (intro k hk hF ht; have h2 := hF.1; have h3 := hF.2; first | omega | (dsimp only at *; omega)))
      have hV59 := hV59.ch hc (by first | exact fun _ _ _ h => h | (intro k hk hF ht; have h2 := hF.1; have h3 := hF.2; first | omega | (dsimp only at *; omega)))
      have hb16 := hb16.ch hc (by omega)
      have hb18 := hb18.ch hc (by omega)
      refine wl rfl rfl rfl (p_as rfl) ?_
      refine wl_nil ?_
      refine x_seq ?_
      refine wc_seq ?_
      refine wc_region ?_
      refine wl rfl rfl rfl (p_mv rfl) ?_
      refine wl rfl rfl rfl (p_ldA (cs := List.map u8v k) Tryd.underlying38 rfl (szL sz38 (by rw [List.length_map]; exact hk)) rfl (fun _ e => e ▸ rngL hb5)) ?_
      refine wle rfl (e_call ent42 rfl rfl (tget_any hV59 (hk)) ?_)
      rintro _ w24 ⟨u98, ok98, rfl, hu98, hg98, hc⟩
      refine ⟨_, rfl, ?_⟩
      have hzw24 := hc.size
      have HC := HC.tr hc
      have hin := hin.no hc
      have hrnd := hrnd.no hc
      have hb4 := hb4.ch hc (fun h => h)
      have hb5 := hb5.ch hc (fun h => h)
      have hV32 := hV32.ch hc (by first | exact fun _ _ _ h => h | (intro k hk hF ht; have h2 := hF.1; have h3 := hF.2; first | omega | (dsimp only at *; omega)))
      have hM32 := hM32.after hc
      have hb9 := hb9.ch hc (fun h => h)
      have hb12 := hb12.ch hc (fun h => h)
      have hV55 := hV55.ch hc (by first | exact fun _ _ _ h => h | (intro k hk hF ht; have h2 := hF.1; have h3 := hF.2; first | omega | (dsimp only at *; omega)))
      have hV59 := hV59.ch hc (by first | exact fun _ _ _ h => h | (intro k hk hF ht; have h2 := hF.1; have h3 := hF.2; first | omega | (dsimp only at *; omega)))
      have hb16 := hb16.ch hc (fun h => h)
      have hb18 := hb18.ch hc (fun h => h)
      have hb20 := hb20.ch hc (fun h => h)
      rw [heq59, getT_drop hwfo32, if_neg hnk] at hg98
      obtain ⟨hx98, ho98⟩ : u98 = (getT (eo o32) k).getD zeroH ∧ ok98 = (getT (eo o32) k).isSome := by injection hg98 with h1 h2; exact ⟨h1, h2⟩
      refine wl rfl rfl rfl (p_mv rfl) ?_
      refine wl rfl rfl rfl (p_ext rfl rfl) ?_
      refine wl rfl rfl rfl (p_ext rfl rfl) ?_
      have hltg4 := hb4.lt
      have hltg5 := hb5.lt
      have hltg9 := hb9.lt
      have hltg12 := hb12.lt
      have hltg16 := hb16.lt
      have hltg18 := hb18.lt
      have hltg20 := hb20.lt
      refine wle rfl (e_alloc (cs := ((List.replicate 32 (0 : UInt8)).map u8v).toArray) rfl (by rfl) rfl (fun w25 g22 hg22 hb22 hc hsz22 => ?_))
      have hzw25 := hc.size
      have HC := HC.tr hc
      have hin := hin.no hc
      have hrnd := hrnd.no hc
      have hb4 := hb4.ch hc (fun h => h)
      have hb5 := hb5.ch hc (fun h => h)
      have hV32 := hV32.ch hc (by first | exact fun _ _ _ h => h | (intro k hk hF ht; have h2 := hF.1; have h3 := hF.2; first | omega | (dsimp only at *; omega)))
      have hM32 := hM32.after hc
      have hb9 := hb9.ch hc (fun h => h)
      have hb12 := hb12.ch hc (fun h => h)
      have hV55 := hV55.ch hc (by first | exact fun _ _ _ h => h | (intro k hk hF ht; have h2 := hF.1; have h3 := hF.2; first | omega | (dsimp only at *; omega)))
      have hV59 := hV59.ch hc (by first | exact fun _ _ _ h => h | (intro k hk hF ht; have h2 := hF.1; have h3 := hF.2; first | omega | (dsimp only at *; omega)))
      have hb16 := hb16.ch hc (fun h => h)
      have hb18 := hb18.ch hc (fun h => h)
      have hb20 := hb20.ch hc (fun h => h)
      have hge22 : w.heap.size ≤ g22 := by have := HC.size; omega
      have neg4_22 : g4 < g22 := by omega
      have neg5_22 : g5 < g22 := by omega
      have neg9_22 : g9 < g22 := by omega
      have neg12_22 : g12 < g22 := by omega
      have neg16_22 : g16 < g22 := by omega
      have neg18_22 : g18 < g22 := by omega
      have neg20_22 : g20 < g22 := by omega
      refine wle rfl (e_stW (vs := List.map u8v u98) (szL sz38 (by rw [List.length_map]; exact hu98)) (oneL one_u8 _) rfl rfl hb22 (by simp only [List.size_toArray, List.length_map]; first | done | exact ((List.length_replicate ..)).trans (hu98).symm) (fun w26 hb22 hc hsz => ?_))
      have hzw26 := hc.size
      have HC := HC.trans hc (fun _ _ h => h) (fun k hk ht => absurd ht (by omega))
      first | have hin := hin.ch hc (by intro k hk ht; first | omega | (dsimp only at *; omega)) | have hin := hin.chT hc (by intro k hz hk ht; first | omega | (dsimp only at *; omega))
      first | have hrnd := hrnd.ch hc (by intro k hk ht; first | omega | (dsimp only at *; omega)) | have hrnd := hrnd.chT hc (by intro k hz hk ht; first | omega | (dsimp only at *; omega))
      have hb4 := hb4.ch hc (by omega)
      have hb5 := hb5.ch hc (by omega)
      have hV32 := hV32.ch hc (by first | exact fun _ _ _ h => h | (intro k hk hF ht; have h2 := hF.1; have h3 := hF.2; first | omega | (dsimp only at *; omega)))
      have hM32 := hM32.ch hc (by intro k hz hk ht; first | omega | (dsimp only at *; omega))
      have hb9 := hb9.ch hc (by omega)
      have hb12 := hb12.ch hc (by omega)
      have hV55 := hV55.ch hc (by first | exact fun _ _ _ h => h | (intro k hk hF ht; have h2 := hF.1; have h3 := hF.2; first | omega | (dsimp only at *; omega)))
      have hV59 := hV59.ch hc (by first | exact fun _ _ _ h => h | (intro k hk hF ht; have h2 := hF.1; have h3 := hF.2; first | omega | (dsimp only at *; omega)))
      have hb16 := hb16.ch hc (by omega)
      have hb18 := hb18.ch hc (by omega)
      have hb20 := hb20.ch hc (by omega)
      refine wl rfl rfl rfl (p_as rfl) ?_
      refine wl_nil ?_
      refine x_seq ?_
      refine wc_seq ?_
      refine wc_region ?_
      refine wl rfl rfl rfl (p_ldA (cs := List.map u8v u92) Tryd.underlying38 rfl (szL sz38 (by rw [List.length_map]; exact hu92)) rfl (fun _ e => e ▸ rngL hb20)) ?_
      refine wl rfl rfl rfl (p_ldA (cs := List.map u8v u38) Tryd.underlying38 rfl (szL sz38 (by rw [List.length_map]; exact hu38)) rfl (fun _ e => e ▸ rngL hb9)) ?_
      refine wl rfl rfl rfl (p_neH (a := u92) (b := u38) (by kernel_rfl) Tryd.underlying38 Tryd.underlying5 sz5 rfl rfl (hu92) (hu38)) ?_
      refine wl rfl rfl rfl (p_mv rfl) ?_
      refine wl_know (d := 104) (b' := false) rfl (by simp [hx92, hx38]) ?_
      refine wl_g (gd_ rfl rfl rfl rfl rfl rfl) rfl rfl (p_ldA (cs := List.map u8v u98) Tryd.underlying38 rfl (szL sz38 (by rw [List.length_map]; exact hu98)) rfl (fun _ e => e ▸ rngL hb22)) ?_
      refine wl_g (gd_ rfl rfl rfl rfl rfl rfl) rfl rfl (p_ldA (cs := List.map u8v u38) Tryd.underlying38 rfl (szL sz38 (by rw [List.length_map]; exact hu38)) rfl (fun _ e => e ▸ rngL hb9)) ?_
      refine wl_g (gd_ rfl rfl rfl rfl rfl rfl) rfl rfl (p_neH (a := u98) (b := u38) (by kernel_rfl) Tryd.underlying38 Tryd.underlying5 sz5 rfl rfl (hu98) (hu38)) ?_
      refine wl rfl rfl rfl (p_pickF rfl rfl) ?_
      refine wl rfl rfl rfl (p_mv rfl) ?_
      refine wl_know (d := 109) (b' := false) rfl (by simp [hx98, hx38]) ?_
      refine wl_g (gd_ rfl rfl rfl rfl rfl rfl) rfl rfl (p_mv rfl) ?_
      refine wl_g (gd_ rfl rfl rfl rfl rfl rfl) rfl rfl (p_mv rfl) ?_
      refine wl_g (gd_ rfl rfl rfl rfl rfl rfl) rfl rfl (p_neB rfl rfl Tryd.underlying4) ?_
      refine wl rfl rfl rfl (p_pickF rfl rfl) ?_
      refine wl rfl rfl rfl (p_mv rfl) ?_
      refine wl_know (d := 114) (b' := false) rfl (by simp [ho92, ho38]) ?_
      refine wl_g (gd_ rfl rfl rfl rfl rfl rfl) rfl rfl (p_mv rfl) ?_
      refine wl_g (gd_ rfl rfl rfl rfl rfl rfl) rfl rfl (p_mv rfl) ?_
      refine wl_g (gd_ rfl rfl rfl rfl rfl rfl) rfl rfl (p_neB rfl rfl Tryd.underlying4) ?_
      refine wl rfl rfl rfl (p_pickF rfl rfl) ?_
      refine wl_nil ?_
      refine x_seq ?_
      refine wc_no rfl (by simp [ho98, ho38]) ?_
      refine wc_skip ?_
      refine x_seq ?_
      refine wc_seq ?_
      refine wc_region ?_
      refine wl rfl rfl rfl (p_mv rfl) ?_
      refine wl rfl rfl rfl (p_add rfl rfl (w64 (by omega))) ?_
      refine wl rfl rfl rfl (p_mv rfl) ?_
      refine wl rfl rfl rfl (p_as rfl) ?_
      refine wl rfl rfl rfl (p_as rfl) ?_
      refine wl_nil ?_
      refine x_seq ?_
      refine wc_seq ?_
      refine wc_seq ?_
      refine wc_region ?_
      refine wl rfl rfl rfl (p_mv rfl) ?_
      refine wl_nil ?_
      refine x_seq ?_
      refine wc_if rfl (fun c4 => ?_) (fun c4 => ?_)
      ·
        rw [if_pos (by simpa using c4)] at hpl hdl
        refine wc_region ?_
        refine wl rfl rfl rfl (p_mv rfl) ?_
        refine wl rfl rfl rfl (p_mv rfl) ?_
        refine wl rfl rfl rfl (p_sub rfl rfl (w64 (by omega))) ?_
        refine wl rfl rfl rfl (p_as rfl) ?_
        refine wl rfl rfl rfl (p_as rfl) ?_
        refine wl_nil ?_
        refine x_seq ?_
        refine wc_seq ?_
        refine wc_region ?_
        refine wl rfl rfl rfl (p_mv rfl) ?_
        refine wle rfl (e_call ent43 rfl rfl (tlen_made hV55) ?_)
        rintro _ w27 ⟨rfl, hc⟩
        refine ⟨_, rfl, ?_⟩
        have hzw27 := hc.size
        have HC := HC.tr hc
        have hin := hin.no hc
        have hrnd := hrnd.no hc
        have hb4 := hb4.ch hc (fun h => h)
        have hb5 := hb5.ch hc (fun h => h)
        have hV32 := hV32.ch hc (by first | exact fun _ _ _ h => h | (intro k hk hF ht; have h2 := hF.1; have h3 := hF.2; first | omega | (dsimp only at *; omega)))
        have hM32 := hM32.after hc
        have hb9 := hb9.ch hc (fun h => h)
        have hb12 := hb12.ch hc (fun h => h)
        have hV55 := hV55.ch hc (by first | exact fun _ _ _ h => h | (intro k hk hF ht; have h2 := hF.1; have h3 := hF.2; first | omega | (dsimp only at *; omega)))
        have hV59 := hV59.ch hc (by first | exact fun _ _ _ h => h | (intro k hk hF ht; have h2 := hF.1; have h3 := hF.2; first | omega | (dsimp only at *; omega)))
        have hb16 := hb16.ch hc (fun h => h)
        have hb18 := hb18.ch hc (fun h => h)
        have hb20 := hb20.ch hc (fun h => h)
        have hb22 := hb22.ch hc (fun h => h)
        refine wl rfl rfl rfl (p_mv rfl) ?_
        refine wl rfl rfl rfl (p_eq rfl rfl) ?_
        refine wl rfl rfl rfl (p_mv rfl) ?_
        refine wl_know (d := 130) (b' := true) rfl (by simp; omega) ?_
        refine wl_g (gd_ rfl rfl rfl rfl rfl rfl) rfl rfl (p_mv rfl) ?_
        refine wle_g (gd_ rfl rfl rfl rfl rfl rfl) (e_call ent43 rfl rfl (tlen_made hV59) ?_)
        rintro _ w28 ⟨rfl, hc⟩
        refine ⟨_, rfl, ?_⟩
        have hzw28 := hc.size
        have HC := HC.tr hc
        have hin := hin.no hc
        have hrnd := hrnd.no hc
        have hb4 := hb4.ch hc (fun h => h)
        have hb5 := hb5.ch hc (fun h => h)
        have hV32 := hV32.ch hc (by first | exact fun _ _ _ h => h | (intro k hk hF ht; have h2 := hF.1; have h3 := hF.2; first | omega | (dsimp only at *; omega)))
        have hM32 := hM32.after hc
        have hb9 := hb9.ch hc (fun h => h)
        have hb12 := hb12.ch hc (fun h => h)
        have hV55 := hV55.ch hc (by first | exact fun _ _ _ h => h | (intro k hk hF ht; have h2 := hF.1; have h3 := hF.2; first | omega | (dsimp only at *; omega)))
        have hV59 := hV59.ch hc (by first | exact fun _ _ _ h => h | (intro k hk hF ht; have h2 := hF.1; have h3 := hF.2; first | omega | (dsimp only at *; omega)))
        have hb16 := hb16.ch hc (fun h => h)
        have hb18 := hb18.ch hc (fun h => h)
        have hb20 := hb20.ch hc (fun h => h)
        have hb22 := hb22.ch hc (fun h => h)
        refine wl_g (gd_ rfl rfl rfl rfl rfl rfl) rfl rfl (p_mv rfl) ?_
        refine wl_g (gd_ rfl rfl rfl rfl rfl rfl) rfl rfl (p_eq rfl rfl) ?_
        refine wl rfl rfl rfl (p_pickT rfl rfl) ?_
        refine wl rfl rfl rfl (p_mv rfl) ?_
        refine wl_know (d := 136) (b' := true) rfl (by simp; omega) ?_
        refine wl_g (gd_ rfl rfl rfl rfl rfl rfl) rfl rfl (p_mv rfl) ?_
        refine wle_g (gd_ rfl rfl rfl rfl rfl rfl) (e_call ent43 rfl rfl (tlen_made hV32) ?_)
        rintro _ w29 ⟨rfl, hc⟩
        refine ⟨_, rfl, ?_⟩
        have hzw29 := hc.size
        have HC := HC.tr hc
        have hin := hin.no hc
        have hrnd := hrnd.no hc
        have hb4 := hb4.ch hc (fun h => h)
        have hb5 := hb5.ch hc (fun h => h)
        have hV32 := hV32.ch hc (by first | exact fun _ _ _ h => h | (intro k hk hF ht; have h2 := hF.1; have h3 := hF.2; first | omega | (dsimp only at *; omega)))
        have hM32 := hM32.after hc
        have hb9 := hb9.ch hc (fun h => h)
        have hb12 := hb12.ch hc (fun h => h)
        have hV55 := hV55.ch hc (by first | exact fun _ _ _ h => h | (intro k hk hF ht; have h2 := hF.1; have h3 := hF.2; first | omega | (dsimp only at *; omega)))
        have hV59 := hV59.ch hc (by first | exact fun _ _ _ h => h | (intro k hk hF ht; have h2 := hF.1; have h3 := hF.2; first | omega | (dsimp only at *; omega)))
        have hb16 := hb16.ch hc (fun h => h)
        have hb18 := hb18.ch hc (fun h => h)
        have hb20 := hb20.ch hc (fun h => h)
        have hb22 := hb22.ch hc (fun h => h)
        refine wl_g (gd_ rfl rfl rfl rfl rfl rfl) rfl rfl (p_mv rfl) ?_
        refine wl_g (gd_ rfl rfl rfl rfl rfl rfl) rfl rfl (p_eq rfl rfl) ?_
        refine wl rfl rfl rfl (p_pickT rfl rfl) ?_
        refine wl rfl rfl rfl (p_mv rfl) ?_
        refine wl_know (d := 142) (b' := true) rfl (by simp) ?_
        refine wl_g (gd_ rfl rfl rfl rfl rfl rfl) rfl rfl (p_mv rfl) ?_
        refine wl_g (gd_ rfl rfl rfl rfl rfl rfl) rfl rfl (p_mv rfl) ?_
        refine wl_split (d := 144) rfl (fun q144 => ?_) (fun q144 => ?_)
        ·
          refine wl_s (gd_ rfl rfl rfl rfl rfl rfl) rfl rfl ?_
          refine wl_s (gd_ rfl rfl rfl rfl rfl rfl) rfl rfl ?_
          refine wl_s (gd_ rfl rfl rfl rfl rfl rfl) rfl rfl ?_
          refine wl_s (gd_ rfl rfl rfl rfl rfl rfl) rfl rfl ?_
          refine wl_s (gd_ rfl rfl rfl rfl rfl rfl) rfl rfl ?_
          refine wl_g (gd_ rfl rfl rfl rfl rfl rfl) rfl rfl (p_pickT rfl rfl) ?_
          refine wl rfl rfl rfl (p_pickT rfl rfl) ?_
          refine wl rfl rfl rfl (p_mv rfl) ?_
          refine wle_g (gd_ rfl rfl rfl rfl rfl rfl) (e_call ent40 rfl rfl (lives11_any hrnd) ?_)
          rintro _ w30 ⟨rfl, hc⟩
          refine ⟨_, rfl, ?_⟩
          have hzw30 := hc.size
          have HC := HC.tr hc
          have hin := hin.no hc
          have hrnd := hrnd.no hc
          have hb4 := hb4.ch hc (fun h => h)
          have hb5 := hb5.ch hc (fun h => h)
          have hV32 := hV32.ch hc (by first | exact fun _ _ _ h => h | (intro k hk hF ht; have h2 := hF.1; have h3 := hF.2; first | omega | (dsimp only at *; omega)))
          have hM32 := hM32.after hc
          have hb9 := hb9.ch hc (fun h => h)
          have hb12 := hb12.ch hc (fun h => h)
          have hV55 := hV55.ch hc (by first | exact fun _ _ _ h => h | (intro k hk hF ht; have h2 := hF.1; have h3 := hF.2; first | omega | (dsimp only at *; omega)))
          have hV59 := hV59.ch hc (by first | exact fun _ _ _ h => h | (intro k hk hF ht; have h2 := hF.1; have h3 := hF.2; first | omega | (dsimp only at *; omega)))
          have hb16 := hb16.ch hc (fun h => h)
          have hb18 := hb18.ch hc (fun h => h)
          have hb20 := hb20.ch hc (fun h => h)
          have hb22 := hb22.ch hc (fun h => h)
          refine wl rfl rfl rfl (p_pickT rfl rfl) ?_
          refine wl rfl rfl rfl (p_as rfl) ?_
          refine wl_nil ?_
          refine x_seq ?_
          refine wc_ret ?_
          refine fin_run ((res1 rfl rfl)) ?_
          exact ⟨rfl, HC⟩
        ·
          refine wl_g (gd_ rfl rfl rfl rfl rfl rfl) rfl rfl (p_mv rfl) ?_
          refine wle_g (gd_ rfl rfl rfl rfl rfl rfl) (e_call ent46 rfl rfl (troot_made hV59 hrnd) ?_)
          rintro _ w31 ⟨rfl, hc, hFil, hRB, hRF⟩
          refine ⟨_, rfl, ?_⟩
          have hR0 := hV59.ot.out hrnd (by omega)
          have hRo : ∀ k, k < w.heap.size → k ∈ adsO o59 → False := fun k h1 h2 => absurd (hRF k h2).1 (by omega)
          have hzw31 := hc.size
          have HC := HC.trans hc (fun _ _ h => h) (fun k hk ht => absurd (hRF k ht).1 (by omega))
          have hin := hin.ch hc (fun k hk ht => hRo k hk ht)
          have hrnd := hrnd.ch hc (fun k hk ht => hR0 (hk ▸ ht))
          first | have hb4 := hb4.ch hc (hb4.not_nd hRB) | have hb4 := hb4.ch hc (by assumption)
          first | have hb5 := hb5.ch hc (hb5.not_nd hRB) | have hb5 := hb5.ch hc (by assumption)
          have hV32 := hV32.fil hc hRB hFil
          have hM32 := hM32.ty hc (by decide) hRB
          first | have hb9 := hb9.ch hc (hb9.not_nd hRB) | have hb9 := hb9.ch hc (by assumption)
          first | have hb12 := hb12.ch hc (hb12.not_nd hRB) | have hb12 := hb12.ch hc (by assumption)
          have hV55 := hV55.fil hc hRB hFil
          have hV59 := hV59.fil hc hRB hFil
          first | have hb16 := hb16.ch hc (hb16.not_nd hRB) | have hb16 := hb16.ch hc (by assumption)
          first | have hb18 := hb18.ch hc (hb18.not_nd hRB) | have hb18 := hb18.ch hc (by assumption)
          first | have hb20 := hb20.ch hc (hb20.not_nd hRB) | have hb20 := hb20.ch hc (by assumption)
          first | have hb22 := hb22.ch hc (hb22.not_nd hRB) | have hb22 := hb22.ch hc (by assumption)
          refine wl_g (gd_ rfl rfl rfl rfl rfl rfl) rfl rfl (p_mv rfl) ?_
          refine wle_g (gd_ rfl rfl rfl rfl rfl rfl) (e_call ent46 rfl rfl (troot_made hV32 hrnd) ?_)
          rintro _ w32 ⟨rfl, hc, hFil, hRB, hRF⟩
          refine ⟨_, rfl, ?_⟩
          have hR0 := hV32.ot.out hrnd (by omega)
          have hRo : ∀ k, k < w.heap.size → k ∈ adsO o32 → False := fun k h1 h2 => absurd (hRF k h2).1 (by omega)
          have hzw32 := hc.size
          have HC := HC.trans hc (fun _ _ h => h) (fun k hk ht => absurd (hRF k ht).1 (by omega))
          have hin := hin.ch hc (fun k hk ht => hRo k hk ht)
          have hrnd := hrnd.ch hc (fun k hk ht => hR0 (hk ▸ ht))
          first | have hb4 := hb4.ch hc (hb4.not_nd hRB) | have hb4 := hb4.ch hc (by assumption)
          first | have hb5 := hb5.ch hc (hb5.not_nd hRB) | have hb5 := hb5.ch hc (by assumption)
          have hV32 := hV32.fil hc hRB hFil
          have hM32 := hM32.ty hc (by decide) hRB
          first | have hb9 := hb9.ch hc (hb9.not_nd hRB) | have hb9 := hb9.ch hc (by assumption)
          first | have hb12 := hb12.ch hc (hb12.not_nd hRB) | have hb12 := hb12.ch hc (by assumption)
          have hV55 := hV55.fil hc hRB hFil
          have hV59 := hV59.fil hc hRB hFil
          first | have hb16 := hb16.ch hc (hb16.not_nd hRB) | have hb16 := hb16.ch hc (by assumption)
          first | have hb18 := hb18.ch hc (hb18.not_nd hRB) | have hb18 := hb18.ch hc (by assumption)
          first | have hb20 := hb20.ch hc (hb20.not_nd hRB) | have hb20 := hb20.ch hc (by assumption)
          first | have hb22 := hb22.ch hc (hb22.not_nd hRB) | have hb22 := hb22.ch hc (by assumption)
          refine wl_g (gd_ rfl rfl rfl rfl rfl rfl) rfl rfl (p_eqH (a := (rootT (eo o59))) (b := (rootT (eo o32))) (by kernel_rfl) Tryd.underlying38 Tryd.underlying5 sz5 rfl rfl (rootT_len) (rootT_len)) ?_
          refine wl_g (gd_ rfl rfl rfl rfl rfl rfl) rfl rfl (p_pickF rfl rfl) ?_
          refine wl rfl rfl rfl (p_pickT rfl rfl) ?_
          refine wl rfl rfl rfl (p_mv rfl) ?_
          refine wl_know (d := 152) (b' := true) rfl (by first | (simp; done) | (rw [hsm]; simp; done) | exact absurd (show ok47 = true by simpa using c4) (by simpa using q144)) ?_
          refine wle_g (gd_ rfl rfl rfl rfl rfl rfl) (e_call ent40 rfl rfl (lives11_any hrnd) ?_)
          rintro _ w33 ⟨rfl, hc⟩
          refine ⟨_, rfl, ?_⟩
          have hzw33 := hc.size
          have HC := HC.tr hc
          have hin := hin.no hc
          have hrnd := hrnd.no hc
          have hb4 := hb4.ch hc (fun h => h)
          have hb5 := hb5.ch hc (fun h => h)
          have hV32 := hV32.ch hc (by first | exact fun _ _ _ h => h | (intro k hk hF ht; have h2 := hF.1; have h3 := hF.2; first | omega | (dsimp only at *; omega)))
          have hM32 := hM32.after hc
          have hb9 := hb9.ch hc (fun h => h)
          have hb12 := hb12.ch hc (fun h => h)
          have hV55 := hV55.ch hc (by first | exact fun _ _ _ h => h | (intro k hk hF ht; have h2 := hF.1; have h3 := hF.2; first | omega | (dsimp only at *; omega)))
          have hV59 := hV59.ch hc (by first | exact fun _ _ _ h => h | (intro k hk hF ht; have h2 := hF.1; have h3 := hF.2; first | omega | (dsimp only at *; omega)))
          have hb16 := hb16.ch hc (fun h => h)
          have hb18 := hb18.ch hc (fun h => h)
          have hb20 := hb20.ch hc (fun h => h)
          have hb22 := hb22.ch hc (fun h => h)
          refine wl rfl rfl rfl (p_pickT rfl rfl) ?_
          refine wl rfl rfl rfl (p_as rfl) ?_
          refine wl_nil ?_
          refine x_seq ?_
          refine wc_ret ?_
          refine fin_run ((res1 rfl rfl)) ?_
          exact ⟨rfl, HC⟩
      ·
        rw [if_neg (by simpa using c4)] at hpl hdl
        have hsm : eo o59 = eo o32 := by rw [heq59]; exact (dropT_id (by rw [← ho47]; simpa using c4)).symm
        refine wc_skip ?_
        refine x_seq ?_
        refine wc_seq ?_
        refine wc_region ?_
        refine wl rfl rfl rfl (p_mv rfl) ?_
        refine wle rfl (e_call ent43 rfl rfl (tlen_made hV55) ?_)
        rintro _ w34 ⟨rfl, hc⟩
        refine ⟨_, rfl, ?_⟩
        have hzw34 := hc.size
        have HC := HC.tr hc
        have hin := hin.no hc
        have hrnd := hrnd.no hc
        have hb4 := hb4.ch hc (fun h => h)
        have hb5 := hb5.ch hc (fun h => h)
        have hV32 := hV32.ch hc (by first | exact fun _ _ _ h => h | (intro k hk hF ht; have h2 := hF.1; have h3 := hF.2; first | omega | (dsimp only at *; omega)))
        have hM32 := hM32.after hc
        have hb9 := hb9.ch hc (fun h => h)
        have hb12 := hb12.ch hc (fun h => h)
        have hV55 := hV55.ch hc (by first | exact fun _ _ _ h => h | (intro k hk hF ht; have h2 := hF.1; have h3 := hF.2; first | omega | (dsimp only at *; omega)))
        have hV59 := hV59.ch hc (by first | exact fun _ _ _ h => h | (intro k hk hF ht; have h2 := hF.1; have h3 := hF.2; first | omega | (dsimp only at *; omega)))
        have hb16 := hb16.ch hc (fun h => h)
        have hb18 := hb18.ch hc (fun h => h)
        have hb20 := hb20.ch hc (fun h => h)
        have hb22 := hb22.ch hc (fun h => h)
        refine wl rfl rfl rfl (p_mv rfl) ?_
        refine wl rfl rfl rfl (p_eq rfl rfl) ?_
        refine wl rfl rfl rfl (p_mv rfl) ?_
        refine wl_know (d := 130) (b' := true) rfl (by simp; omega) ?_
        refine wl_g (gd_ rfl rfl rfl rfl rfl rfl) rfl rfl (p_mv rfl) ?_
        refine wle_g (gd_ rfl rfl rfl rfl rfl rfl) (e_call ent43 rfl rfl (tlen_made hV59) ?_)
        rintro _ w35 ⟨rfl, hc⟩
        refine ⟨_, rfl, ?_⟩
        have hzw35 := hc.size
        have HC := HC.tr hc
        have hin := hin.no hc
        have hrnd := hrnd.no hc
        have hb4 := hb4.ch hc (fun h => h)
        have hb5 := hb5.ch hc (fun h => h)
        have hV32 := hV32.ch hc (by first | exact fun _ _ _ h => h | (intro k hk hF ht; have h2 := hF.1; have h3 := hF.2; first | omega | (dsimp only at *; omega)))
        have hM32 := hM32.after hc
        have hb9 := hb9.ch hc (fun h => h)
        have hb12 := hb12.ch hc (fun h => h)
        have hV55 := hV55.ch hc (by first | exact fun _ _ _ h => h | (intro k hk hF ht; have h2 := hF.1; have h3 := hF.2; first | omega | (dsimp only at *; omega)))
        have hV59 := hV59.ch hc (by first | exact fun _ _ _ h => h | (intro k hk hF ht; have h2 := hF.1; have h3 := hF.2; first | omega | (dsimp only at *; omega)))
        have hb16 := hb16.ch hc (fun h => h)
        have hb18 := hb18.ch hc (fun h => h)
        have hb20 := hb20.ch hc (fun h => h)
        have hb22 := hb22.ch hc (fun h => h)
        refine wl_g (gd_ rfl rfl rfl rfl rfl rfl) rfl rfl (p_mv rfl) ?_
        refine wl_g (gd_ rfl rfl rfl rfl rfl rfl) rfl rfl (p_eq rfl rfl) ?_
        refine wl rfl rfl rfl (p_pickT rfl rfl) ?_
        refine wl rfl rfl rfl (p_mv rfl) ?_
        refine wl_know (d := 136) (b' := true) rfl (by simp; omega) ?_
        refine wl_g (gd_ rfl rfl rfl rfl rfl rfl) rfl rfl (p_mv rfl) ?_
        refine wle_g (gd_ rfl rfl rfl rfl rfl rfl) (e_call ent43 rfl rfl (tlen_made hV32) ?_)
        rintro _ w36 ⟨rfl, hc⟩
        refine ⟨_, rfl, ?_⟩
        have hzw36 := hc.size
        have HC := HC.tr hc
        have hin := hin.no hc
        have hrnd := hrnd.no hc
        have hb4 := hb4.ch hc (fun h => h)
        have hb5 := hb5.ch hc (fun h => h)
        have hV32 := hV32.ch hc (by first | exact fun _ _ _ h => h | (intro k hk hF ht; have h2 := hF.1; have h3 := hF.2; first | omega | (dsimp only at *; omega)))
        have hM32 := hM32.after hc
        have hb9 := hb9.ch hc (fun h => h)
        have hb12 := hb12.ch hc (fun h => h)
        have hV55 := hV55.ch hc (by first | exact fun _ _ _ h => h | (intro k hk hF ht; have h2 := hF.1; have h3 := hF.2; first | omega | (dsimp only at *; omega)))
        have hV59 := hV59.ch hc (by first | exact fun _ _ _ h => h | (intro k hk hF ht; have h2 := hF.1; have h3 := hF.2; first | omega | (dsimp only at *; omega)))
        have hb16 := hb16.ch hc (fun h => h)
        have hb18 := hb18.ch hc (fun h => h)
        have hb20 := hb20.ch hc (fun h => h)
        have hb22 := hb22.ch hc (fun h => h)
        refine wl_g (gd_ rfl rfl rfl rfl rfl rfl) rfl rfl (p_mv rfl) ?_
        refine wl_g (gd_ rfl rfl rfl rfl rfl rfl) rfl rfl (p_eq rfl rfl) ?_
        refine wl rfl rfl rfl (p_pickT rfl rfl) ?_
        refine wl rfl rfl rfl (p_mv rfl) ?_
        refine wl_know (d := 142) (b' := true) rfl (by simp) ?_
        refine wl_g (gd_ rfl rfl rfl rfl rfl rfl) rfl rfl (p_mv rfl) ?_
        refine wl_g (gd_ rfl rfl rfl rfl rfl rfl) rfl rfl (p_mv rfl) ?_
        refine wl_split (d := 144) rfl (fun q144 => ?_) (fun q144 => ?_)
        ·
          refine wl_s (gd_ rfl rfl rfl rfl rfl rfl) rfl rfl ?_
          refine wl_s (gd_ rfl rfl rfl rfl rfl rfl) rfl rfl ?_
          refine wl_s (gd_ rfl rfl rfl rfl rfl rfl) rfl rfl ?_
          refine wl_s (gd_ rfl rfl rfl rfl rfl rfl) rfl rfl ?_
          refine wl_s (gd_ rfl rfl rfl rfl rfl rfl) rfl rfl ?_
          refine wl_g (gd_ rfl rfl rfl rfl rfl rfl) rfl rfl (p_pickT rfl rfl) ?_
          refine wl rfl rfl rfl (p_pickT rfl rfl) ?_
          refine wl rfl rfl rfl (p_mv rfl) ?_
          refine wle_g (gd_ rfl rfl rfl rfl rfl rfl) (e_call ent40 rfl rfl (lives11_any hrnd) ?_)
          rintro _ w37 ⟨rfl, hc⟩
          refine ⟨_, rfl, ?_⟩
          have hzw37 := hc.size
          have HC := HC.tr hc
          have hin := hin.no hc
          have hrnd := hrnd.no hc
          have hb4 := hb4.ch hc (fun h => h)
          have hb5 := hb5.ch hc (fun h => h)
          have hV32 := hV32.ch hc (by first | exact fun _ _ _ h => h | (intro k hk hF ht; have h2 := hF.1; have h3 := hF.2; first | omega | (dsimp only at *; omega)))
          have hM32 := hM32.after hc
          have hb9 := hb9.ch hc (fun h => h)
          have hb12 := hb12.ch hc (fun h => h)
          have hV55 := hV55.ch hc (by first | exact fun _ _ _ h => h | (intro k hk hF ht; have h2 := hF.1; have h3 := hF.2; first | omega | (dsimp only at *; omega)))
          have hV59 := hV59.ch hc (by first | exact fun _ _ _ h => h | (intro k hk hF ht; have h2 := hF.1; have h3 := hF.2; first | omega | (dsimp only at *; omega)))
          have hb16 := hb16.ch hc (fun h => h)
          have hb18 := hb18.ch hc (fun h => h)
          have hb20 := hb20.ch hc (fun h => h)
          have hb22 := hb22.ch hc (fun h => h)
          refine wl rfl rfl rfl (p_pickT rfl rfl) ?_
          refine wl rfl rfl rfl (p_as rfl) ?_
          refine wl_nil ?_
          refine x_seq ?_
          refine wc_ret ?_
          refine fin_run ((res1 rfl rfl)) ?_
          exact ⟨rfl, HC⟩
        ·
          refine wl_g (gd_ rfl rfl rfl rfl rfl rfl) rfl rfl (p_mv rfl) ?_
          refine wle_g (gd_ rfl rfl rfl rfl rfl rfl) (e_call ent46 rfl rfl (troot_made hV59 hrnd) ?_)
          rintro _ w38 ⟨rfl, hc, hFil, hRB, hRF⟩
          refine ⟨_, rfl, ?_⟩
          have hR0 := hV59.ot.out hrnd (by omega)
          have hRo : ∀ k, k < w.heap.size → k ∈ adsO o59 → False := fun k h1 h2 => absurd (hRF k h2).1 (by omega)
          have hzw38 := hc.size
          have HC := HC.trans hc (fun _ _ h => h) (fun k hk ht => absurd (hRF k ht).1 (by omega))
          have hin := hin.ch hc (fun k hk ht => hRo k hk ht)
          have hrnd := hrnd.ch hc (fun k hk ht => hR0 (hk ▸ ht))
          first | have hb4 := hb4.ch hc (hb4.not_nd hRB) | have hb4 := hb4.ch hc (by assumption)
          first | have hb5 := hb5.ch hc (hb5.not_nd hRB) | have hb5 := hb5.ch hc (by assumption)
          have hV32 := hV32.fil hc hRB hFil
          have hM32 := hM32.ty hc (by decide) hRB
          first | have hb9 := hb9.ch hc (hb9.not_nd hRB) | have hb9 := hb9.ch hc (by assumption)
          first | have hb12 := hb12.ch hc (hb12.not_nd hRB) | have hb12 := hb12.ch hc (by assumption)
          have hV55 := hV55.fil hc hRB hFil
          have hV59 := hV59.fil hc hRB hFil
          first | have hb16 := hb16.ch hc (hb16.not_nd hRB) | have hb16 := hb16.ch hc (by assumption)
          first | have hb18 := hb18.ch hc (hb18.not_nd hRB) | have hb18 := hb18.ch hc (by assumption)
          first | have hb20 := hb20.ch hc (hb20.not_nd hRB) | have hb20 := hb20.ch hc (by assumption)
          first | have hb22 := hb22.ch hc (hb22.not_nd hRB) | have hb22 := hb22.ch hc (by assumption)
          refine wl_g (gd_ rfl rfl rfl rfl rfl rfl) rfl rfl (p_mv rfl) ?_
          refine wle_g (gd_ rfl rfl rfl rfl rfl rfl) (e_call ent46 rfl rfl (troot_made hV32 hrnd) ?_)
          rintro _ w39 ⟨rfl, hc, hFil, hRB, hRF⟩
          refine ⟨_, rfl, ?_⟩
          have hR0 := hV32.ot.out hrnd (by omega)
          have hRo : ∀ k, k < w.heap.size → k ∈ adsO o32 → False := fun k h1 h2 => absurd (hRF k h2).1 (by omega)
          have hzw39 := hc.size
          have HC := HC.trans hc (fun _ _ h => h) (fun k hk ht => absurd (hRF k ht).1 (by omega))
          have hin := hin.ch hc (fun k hk ht => hRo k hk ht)
          have hrnd := hrnd.ch hc (fun k hk ht => hR0 (hk ▸ ht))
          first | have hb4 := hb4.ch hc (hb4.not_nd hRB) | have hb4 := hb4.ch hc (by assumption)
          first | have hb5 := hb5.ch hc (hb5.not_nd hRB) | have hb5 := hb5.ch hc (by assumption)
          have hV32 := hV32.fil hc hRB hFil
          have hM32 := hM32.ty hc (by decide) hRB
          first | have hb9 := hb9.ch hc (hb9.not_nd hRB) | have hb9 := hb9.ch hc (by assumption)
          first | have hb12 := hb12.ch hc (hb12.not_nd hRB) | have hb12 := hb12.ch hc (by assumption)
          have hV55 := hV55.fil hc hRB hFil
          have hV59 := hV59.fil hc hRB hFil
          first | have hb16 := hb16.ch hc (hb16.not_nd hRB) | have hb16 := hb16.ch hc (by assumption)
          first | have hb18 := hb18.ch hc (hb18.not_nd hRB) | have hb18 := hb18.ch hc (by assumption)
          first | have hb20 := hb20.ch hc (hb20.not_nd hRB) | have hb20 := hb20.ch hc (by assumption)
          first | have hb22 := hb22.ch hc (hb22.not_nd hRB) | have hb22 := hb22.ch hc (by assumption)
          refine wl_g (gd_ rfl rfl rfl rfl rfl rfl) rfl rfl (p_eqH (a := (rootT (eo o59))) (b := (rootT (eo o32))) (by kernel_rfl) Tryd.underlying38 Tryd.underlying5 sz5 rfl rfl (rootT_len) (rootT_len)) ?_
          refine wl_g (gd_ rfl rfl rfl rfl rfl rfl) rfl rfl (p_pickF rfl rfl) ?_
          refine wl rfl rfl rfl (p_pickT rfl rfl) ?_
          refine wl rfl rfl rfl (p_mv rfl) ?_
          refine wl_know (d := 152) (b' := true) rfl (by first | (simp; done) | (rw [hsm]; simp; done) | exact absurd (show ok47 = true by simpa using c4) (by simpa using q144)) ?_
          refine wle_g (gd_ rfl rfl rfl rfl rfl rfl) (e_call ent40 rfl rfl (lives11_any hrnd) ?_)
          rintro _ w40 ⟨rfl, hc⟩
          refine ⟨_, rfl, ?_⟩
          have hzw40 := hc.size
          have HC := HC.tr hc
          have hin := hin.no hc
          have hrnd := hrnd.no hc
          have hb4 := hb4.ch hc (fun h => h)
          have hb5 := hb5.ch hc (fun h => h)
          have hV32 := hV32.ch hc (by first | exact fun _ _ _ h => h | (intro k hk hF ht; have h2 := hF.1; have h3 := hF.2; first | omega | (dsimp only at *; omega)))
          have hM32 := hM32.after hc
          have hb9 := hb9.ch hc (fun h => h)
          have hb12 := hb12.ch hc (fun h => h)
          have hV55 := hV55.ch hc (by first | exact fun _ _ _ h => h | (intro k hk hF ht; have h2 := hF.1; have h3 := hF.2; first | omega | (dsimp only at *; omega)))
          have hV59 := hV59.ch hc (by first | exact fun _ _ _ h => h | (intro k hk hF ht; have h2 := hF.1; have h3 := hF.2; first | omega | (dsimp only at *; omega)))
          have hb16 := hb16.ch hc (fun h => h)
          have hb18 := hb18.ch hc (fun h => h)
          have hb20 := hb20.ch hc (fun h => h)
          have hb22 := hb22.ch hc (fun h => h)
          refine wl rfl rfl rfl (p_pickT rfl rfl) ?_
          refine wl rfl rfl rfl (p_as rfl) ?_
          refine wl_nil ?_
          refine x_seq ?_
          refine wc_ret ?_
          refine fin_run ((res1 rfl rfl)) ?_
          exact ⟨rfl, HC⟩
    ·
      refine wc_skip ?_
      refine x_seq ?_
      refine wc_seq ?_
      refine wc_region ?_
      refine wl rfl rfl rfl (p_mv rfl) ?_
      refine wl rfl rfl rfl (p_add rfl rfl (w64 (by omega))) ?_
      refine wl rfl rfl rfl (p_mv rfl) ?_
      refine wl rfl rfl rfl (p_as rfl) ?_
      refine wl rfl rfl rfl (p_as rfl) ?_
      refine wl_nil ?_
      refine x_seq ?_
      refine wc_seq ?_
      refine wc_seq ?_
      refine wc_region ?_
      refine wl rfl rfl rfl (p_mv rfl) ?_
      refine wl_nil ?_
      refine x_seq ?_
      refine wc_if rfl (fun c4 => ?_) (fun c4 => ?_)
      ·
        rw [if_pos (by simpa using c4)] at hpl hdl
        refine wc_region ?_
        refine wl rfl rfl rfl (p_mv rfl) ?_
        refine wl rfl rfl rfl (p_mv rfl) ?_
        refine wl rfl rfl rfl (p_sub rfl rfl (w64 (by omega))) ?_
        refine wl rfl rfl rfl (p_as rfl) ?_
        refine wl rfl rfl rfl (p_as rfl) ?_
        refine wl_nil ?_
        refine x_seq ?_
        refine wc_seq ?_
        refine wc_region ?_
        refine wl rfl rfl rfl (p_mv rfl) ?_
        refine wle rfl (e_call ent43 rfl rfl (tlen_made hV55) ?_)
        rintro _ w41 ⟨rfl, hc⟩
        refine ⟨_, rfl, ?_⟩
        have hzw41 := hc.size
        have HC := HC.tr hc
        have hin := hin.no hc
        have hrnd := hrnd.no hc
        have hb4 := hb4.ch hc (fun h => h)
        have hb5 := hb5.ch hc (fun h => h)
        have hV32 := hV32.ch hc (by first | exact fun _ _ _ h => h | (intro k hk hF ht; have h2 := hF.1; have h3 := hF.2; first | omega | (dsimp only at *; omega)))
        have hM32 := hM32.after hc
        have hb9 := hb9.ch hc (fun h => h)
        have hb12 := hb12.ch hc (fun h => h)
        have hV55 := hV55.ch hc (by first | exact fun _ _ _ h => h | (intro k hk hF ht; have h2 := hF.1; have h3 := hF.2; first | omega | (dsimp only at *; omega)))
        have hV59 := hV59.ch hc (by first | exact fun _ _ _ h => h | (intro k hk hF ht; have h2 := hF.1; have h3 := hF.2; first | omega | (dsimp only at *; omega)))
        have hb16 := hb16.ch hc (fun h => h)
        have hb18 := hb18.ch hc (fun h => h)
        refine wl rfl rfl rfl (p_mv rfl) ?_
        refine wl rfl rfl rfl (p_eq rfl rfl) ?_
        refine wl rfl rfl rfl (p_mv rfl) ?_
        refine wl_know (d := 130) (b' := true) rfl (by simp; omega) ?_
        refine wl_g (gd_ rfl rfl rfl rfl rfl rfl) rfl rfl (p_mv rfl) ?_
        refine wle_g (gd_ rfl rfl rfl rfl rfl rfl) (e_call ent43 rfl rfl (tlen_made hV59) ?_)
        rintro _ w42 ⟨rfl, hc⟩
        refine ⟨_, rfl, ?_⟩
        have hzw42 := hc.size
        have HC := HC.tr hc
        have hin := hin.no hc
        have hrnd := hrnd.no hc
        have hb4 := hb4.ch hc (fun h => h)
        have hb5 := hb5.ch hc (fun h => h)
        have hV32 := hV32.ch hc (by first | exact fun _ _ _ h => h | (intro k hk hF ht; have h2 := hF.1; have h3 := hF.2; first | omega | (dsimp only at *; omega)))
        have hM32 := hM32.after hc
        have hb9 := hb9.ch hc (fun h => h)
        have hb12 := hb12.ch hc (fun h => h)
        have hV55 := hV55.ch hc (by first | exact fun _ _ _ h => h | (intro k hk hF ht; have h2 := hF.1; have h3 := hF.2; first | omega | (dsimp only at *; omega)))
        have hV59 := hV59.ch hc (by first | exact fun _ _ _ h => h | (intro k hk hF ht; have h2 := hF.1; have h3 := hF.2; first | omega | (dsimp only at *; omega)))
        have hb16 := hb16.ch hc (fun h => h)
        have hb18 := hb18.ch hc (fun h => h)
        refine wl_g (gd_ rfl rfl rfl rfl rfl rfl) rfl rfl (p_mv rfl) ?_
        refine wl_g (gd_ rfl rfl rfl rfl rfl rfl) rfl rfl (p_eq rfl rfl) ?_
        refine wl rfl rfl rfl (p_pickT rfl rfl) ?_
        refine wl rfl rfl rfl (p_mv rfl) ?_
        refine wl_know (d := 136) (b' := true) rfl (by simp; omega) ?_
        refine wl_g (gd_ rfl rfl rfl rfl rfl rfl) rfl rfl (p_mv rfl) ?_
        refine wle_g (gd_ rfl rfl rfl rfl rfl rfl) (e_call ent43 rfl rfl (tlen_made hV32) ?_)
        rintro _ w43 ⟨rfl, hc⟩
        refine ⟨_, rfl, ?_⟩
        have hzw43 := hc.size
        have HC := HC.tr hc
        have hin := hin.no hc
        have hrnd := hrnd.no hc
        have hb4 := hb4.ch hc (fun h => h)
        have hb5 := hb5.ch hc (fun h => h)
        have hV32 := hV32.ch hc (by first | exact fun _ _ _ h => h | (intro k hk hF ht; have h2 := hF.1; have h3 := hF.2; first | omega | (dsimp only at *; omega)))
        have hM32 := hM32.after hc
        have hb9 := hb9.ch hc (fun h => h)
        have hb12 := hb12.ch hc (fun h => h)
        have hV55 := hV55.ch hc (by first | exact fun _ _ _ h => h | (intro k hk hF ht; have h2 := hF.1; have h3 := hF.2; first | omega | (dsimp only at *; omega)))
        have hV59 := hV59.ch hc (by first | exact fun _ _ _ h => h | (intro k hk hF ht; have h2 := hF.1; have h3 := hF.2; first | omega | (dsimp only at *; omega)))
        have hb16 := hb16.ch hc (fun h => h)
        have hb18 := hb18.ch hc (fun h => h)
        refine wl_g (gd_ rfl rfl rfl rfl rfl rfl) rfl rfl (p_mv rfl) ?_
        refine wl_g (gd_ rfl rfl rfl rfl rfl rfl) rfl rfl (p_eq rfl rfl) ?_
        refine wl rfl rfl rfl (p_pickT rfl rfl) ?_
        refine wl rfl rfl rfl (p_mv rfl) ?_
        refine wl_know (d := 142) (b' := true) rfl (by simp) ?_
        refine wl_g (gd_ rfl rfl rfl rfl rfl rfl) rfl rfl (p_mv rfl) ?_
        refine wl_g (gd_ rfl rfl rfl rfl rfl rfl) rfl rfl (p_mv rfl) ?_
        refine wl_split (d := 144) rfl (fun q144 => ?_) (fun q144 => ?_)
        ·
          refine wl_s (gd_ rfl rfl rfl rfl rfl rfl) rfl rfl ?_
          refine wl_s (gd_ rfl rfl rfl rfl rfl rfl) rfl rfl ?_
          refine wl_s (gd_ rfl rfl rfl rfl rfl rfl) rfl rfl ?_
          refine wl_s (gd_ rfl rfl rfl rfl rfl rfl) rfl rfl ?_
          refine wl_s (gd_ rfl rfl rfl rfl rfl rfl) rfl rfl ?_
          refine wl_g (gd_ rfl rfl rfl rfl rfl rfl) rfl rfl (p_pickT rfl rfl) ?_
          refine wl rfl rfl rfl (p_pickT rfl rfl) ?_
          refine wl rfl rfl rfl (p_mv rfl) ?_
          refine wle_g (gd_ rfl rfl rfl rfl rfl rfl) (e_call ent40 rfl rfl (lives11_any hrnd) ?_)
          rintro _ w44 ⟨rfl, hc⟩
          refine ⟨_, rfl, ?_⟩
          have hzw44 := hc.size
          have HC := HC.tr hc
          have hin := hin.no hc
          have hrnd := hrnd.no hc
          have hb4 := hb4.ch hc (fun h => h)
          have hb5 := hb5.ch hc (fun h => h)
          have hV32 := hV32.ch hc (by first | exact fun _ _ _ h => h | (intro k hk hF ht; have h2 := hF.1; have h3 := hF.2; first | omega | (dsimp only at *; omega)))
          have hM32 := hM32.after hc
          have hb9 := hb9.ch hc (fun h => h)
          have hb12 := hb12.ch hc (fun h => h)
          have hV55 := hV55.ch hc (by first | exact fun _ _ _ h => h | (intro k hk hF ht; have h2 := hF.1; have h3 := hF.2; first | omega | (dsimp only at *; omega)))
          have hV59 := hV59.ch hc (by first | exact fun _ _ _ h => h | (intro k hk hF ht; have h2 := hF.1; have h3 := hF.2; first | omega | (dsimp only at *; omega)))
          have hb16 := hb16.ch hc (fun h => h)
          have hb18 := hb18.ch hc (fun h => h)
          refine wl rfl rfl rfl (p_pickT rfl rfl) ?_
          refine wl rfl rfl rfl (p_as rfl) ?_
          refine wl_nil ?_
          refine x_seq ?_
          refine wc_ret ?_
          refine fin_run ((res1 rfl rfl)) ?_
          exact ⟨rfl, HC⟩
        ·
          refine wl_g (gd_ rfl rfl rfl rfl rfl rfl) rfl rfl (p_mv rfl) ?_
          refine wle_g (gd_ rfl rfl rfl rfl rfl rfl) (e_call ent46 rfl rfl (troot_made hV59 hrnd) ?_)
          rintro _ w45 ⟨rfl, hc, hFil, hRB, hRF⟩
          refine ⟨_, rfl, ?_⟩
          have hR0 := hV59.ot.out hrnd (by omega)
          have hRo : ∀ k, k < w.heap.size → k ∈ adsO o59 → False := fun k h1 h2 => absurd (hRF k h2).1 (by omega)
          have hzw45 := hc.size
          have HC := HC.trans hc (fun _ _ h => h) (fun k hk ht => absurd (hRF k ht).1 (by omega))
          have hin := hin.ch hc (fun k hk ht => hRo k hk ht)
          have hrnd := hrnd.ch hc (fun k hk ht => hR0 (hk ▸ ht))
          first | have hb4 := hb4.ch hc (hb4.not_nd hRB) | have hb4 := hb4.ch hc (by assumption)
          first | have hb5 := hb5.ch hc (hb5.not_nd hRB) | have hb5 := hb5.ch hc (by assumption)
          have hV32 := hV32.fil hc hRB hFil
          have hM32 := hM32.ty hc (by decide) hRB
          first | have hb9 := hb9.ch hc (hb9.not_nd hRB) | have hb9 := hb9.ch hc (by assumption)
          first | have hb12 := hb12.ch hc (hb12.not_nd hRB) | have hb12 := hb12.ch hc (by assumption)
          have hV55 := hV55.fil hc hRB hFil
          have hV59 := hV59.fil hc hRB hFil
          first | have hb16 := hb16.ch hc (hb16.not_nd hRB) | have hb16 := hb16.ch hc (by assumption)
          first | have hb18 := hb18.ch hc (hb18.not_nd hRB) | have hb18 := hb18.ch hc (by assumption)
          refine wl_g (gd_ rfl rfl rfl rfl rfl rfl) rfl rfl (p_mv rfl) ?_
          refine wle_g (gd_ rfl rfl rfl rfl rfl rfl) (e_call ent46 rfl rfl (troot_made hV32 hrnd) ?_)
          rintro _ w46 ⟨rfl, hc, hFil, hRB, hRF⟩
          refine ⟨_, rfl, ?_⟩
          have hR0 := hV32.ot.out hrnd (by omega)
          have hRo : ∀ k, k < w.heap.size → k ∈ adsO o32 → False := fun k h1 h2 => absurd (hRF k h2).1 (by omega)
          have hzw46 := hc.size
          have HC := HC.trans hc (fun _ _ h => h) (fun k hk ht => absurd (hRF k ht).1 (by omega))
          have hin := hin.ch hc (fun k hk ht => hRo k hk ht)
          have hrnd := hrnd.ch hc (fun k hk ht => hR0 (hk ▸ ht))
          first | have hb4 := hb4.ch hc (hb4.not_nd hRB) | have hb4 := hb4.ch hc (by assumption)
          first | have hb5 := hb5.ch hc (hb5.not_nd hRB) | have hb5 := hb5.ch hc (by assumption)
          have hV32 := hV32.fil hc hRB hFil
          have hM32 := hM32.ty hc (by decide) hRB
          first | have hb9 := hb9.ch hc (hb9.not_nd hRB) | have hb9 := hb9.ch hc (by assumption)
          first | have hb12 := hb12.ch hc (hb12.not_nd hRB) | have hb12 := hb12.ch hc (by assumption)
          have hV55 := hV55.fil hc hRB hFil
          have hV59 := hV59.fil hc hRB hFil
          first | have hb16 := hb16.ch hc (hb16.not_nd hRB) | have hb16 := hb16.ch hc (by assumption)
          first | have hb18 := hb18.ch hc (hb18.not_nd hRB) | have hb18 := hb18.ch hc (by assumption)
          refine wl_g (gd_ rfl rfl rfl rfl rfl rfl) rfl rfl (p_eqH (a := (rootT (eo o59))) (b := (rootT (eo o32))) (by kernel_rfl) Tryd.underlying38 Tryd.underlying5 sz5 rfl rfl (rootT_len) (rootT_len)) ?_
          refine wl_g (gd_ rfl rfl rfl rfl rfl rfl) rfl rfl (p_pickF rfl rfl) ?_
          refine wl rfl rfl rfl (p_pickT rfl rfl) ?_
          refine wl rfl rfl rfl (p_mv rfl) ?_
          refine wl_know (d := 152) (b' := true) rfl (by first | (simp; done) | (rw [hsm]; simp; done) | exact absurd (show ok47 = true by simpa using c4) (by simpa using q144)) ?_
          refine wle_g (gd_ rfl rfl rfl rfl rfl rfl) (e_call ent40 rfl rfl (lives11_any hrnd) ?_)
          rintro _ w47 ⟨rfl, hc⟩
          refine ⟨_, rfl, ?_⟩
          have hzw47 := hc.size
          have HC := HC.tr hc
          have hin := hin.no hc
          have hrnd := hrnd.no hc
          have hb4 := hb4.ch hc (fun h => h)
          have hb5 := hb5.ch hc (fun h => h)
          have hV32 := hV32.ch hc (by first | exact fun _ _ _ h => h | (intro k hk hF ht; have h2 := hF.1; have h3 := hF.2; first | omega | (dsimp only at *; omega)))
          have hM32 := hM32.after hc
          have hb9 := hb9.ch hc (fun h => h)
          have hb12 := hb12.ch hc (fun h => h)
          have hV55 := hV55.ch hc (by first | exact fun _ _ _ h => h | (intro k hk hF ht; have h2 := hF.1; have h3 := hF.2; first | omega | (dsimp only at *; omega)))
          have hV59 := hV59.ch hc (by first | exact fun _ _ _ h => h | (intro k hk hF ht; have h2 := hF.1; have h3 := hF.2; first | omega | (dsimp only at *; omega)))
          have hb16 := hb16.ch hc (fun h => h)
          have hb18 := hb18.ch hc (fun h => h)
          refine wl rfl rfl rfl (p_pickT rfl rfl) ?_
          refine wl rfl rfl rfl (p_as rfl) ?_
          refine wl_nil ?_
          refine x_seq ?_
          refine wc_ret ?_
          refine fin_run ((res1 rfl rfl)) ?_
          exact ⟨rfl, HC⟩
      ·
        rw [if_neg (by simpa using c4)] at hpl hdl
        have hsm : eo o59 = eo o32 := by rw [heq59]; exact (dropT_id (by rw [← ho47]; simpa using c4)).symm
        refine wc_skip ?_
        refine x_seq ?_
        refine wc_seq ?_
        refine wc_region ?_
        refine wl rfl rfl rfl (p_mv rfl) ?_
        refine wle rfl (e_call ent43 rfl rfl (tlen_made hV55) ?_)
        rintro _ w48 ⟨rfl, hc⟩
        refine ⟨_, rfl, ?_⟩
        have hzw48 := hc.size
        have HC := HC.tr hc
        have hin := hin.no hc
        have hrnd := hrnd.no hc
        have hb4 := hb4.ch hc (fun h => h)
        have hb5 := hb5.ch hc (fun h => h)
        have hV32 := hV32.ch hc (by first | exact fun _ _ _ h => h | (intro k hk hF ht; have h2 := hF.1; have h3 := hF.2; first | omega | (dsimp only at *; omega)))
        have hM32 := hM32.after hc
        have hb9 := hb9.ch hc (fun h => h)
        have hb12 := hb12.ch hc (fun h => h)
        have hV55 := hV55.ch hc (by first | exact fun _ _ _ h => h | (intro k hk hF ht; have h2 := hF.1; have h3 := hF.2; first | omega | (dsimp only at *; omega)))
        have hV59 := hV59.ch hc (by first | exact fun _ _ _ h => h | (intro k hk hF ht; have h2 := hF.1; have h3 := hF.2; first | omega | (dsimp only at *; omega)))
        have hb16 := hb16.ch hc (fun h => h)
        have hb18 := hb18.ch hc (fun h => h)
        refine wl rfl rfl rfl (p_mv rfl) ?_
        refine wl rfl rfl rfl (p_eq rfl rfl) ?_
        refine wl rfl rfl rfl (p_mv rfl) ?_
        refine wl_know (d := 130) (b' := true) rfl (by simp; omega) ?_
        refine wl_g (gd_ rfl rfl rfl rfl rfl rfl) rfl rfl (p_mv rfl) ?_
        refine wle_g (gd_ rfl rfl rfl rfl rfl rfl) (e_call ent43 rfl rfl (tlen_made hV59) ?_)
        rintro _ w49 ⟨rfl, hc⟩
        refine ⟨_, rfl, ?_⟩
        have hzw49 := hc.size
        have HC := HC.tr hc
        have hin := hin.no hc
        have hrnd := hrnd.no hc
        have hb4 := hb4.ch hc (fun h => h)
        have hb5 := hb5.ch hc (fun h => h)
        have hV32 := hV32.ch hc (by first | exact fun _ _ _ h => h | (intro k hk hF ht; have h2 := hF.1; have h3 := hF.2; first | omega | (dsimp only at *; omega)))
        have hM32 := hM32.after hc
        have hb9 := hb9.ch hc (fun h => h)
        have hb12 := hb12.ch hc (fun h => h)
        have hV55 := hV55.ch hc (by first | exact fun _ _ _ h => h | (intro k hk hF ht; have h2 := hF.1; have h3 := hF.2; first | omega | (dsimp only at *; omega)))
        have hV59 := hV59.ch hc (by first | exact fun _ _ _ h => h | (intro k hk hF ht; have h2 := hF.1; have h3 := hF.2; first | omega | (dsimp only at *; omega)))
        have hb16 := hb16.ch hc (fun h => h)
        have hb18 := hb18.ch hc (fun h => h)
        refine wl_g (gd_ rfl rfl rfl rfl rfl rfl) rfl rfl (p_mv rfl) ?_
        refine wl_g (gd_ rfl rfl rfl rfl rfl rfl) rfl rfl (p_eq rfl rfl) ?_
        refine wl rfl rfl rfl (p_pickT rfl rfl) ?_
        refine wl rfl rfl rfl (p_mv rfl) ?_
        refine wl_know (d := 136) (b' := true) rfl (by simp; omega) ?_
        refine wl_g (gd_ rfl rfl rfl rfl rfl rfl) rfl rfl (p_mv rfl) ?_
        refine wle_g (gd_ rfl rfl rfl rfl rfl rfl) (e_call ent43 rfl rfl (tlen_made hV32) ?_)
        rintro _ w50 ⟨rfl, hc⟩
        refine ⟨_, rfl, ?_⟩
        have hzw50 := hc.size
        have HC := HC.tr hc
        have hin := hin.no hc
        have hrnd := hrnd.no hc
        have hb4 := hb4.ch hc (fun h => h)
        have hb5 := hb5.ch hc (fun h => h)
        have hV32 := hV32.ch hc (by first | exact fun _ _ _ h => h | (intro k hk hF ht; have h2 := hF.1; have h3 := hF.2; first | omega | (dsimp only at *; omega)))
        have hM32 := hM32.after hc
        have hb9 := hb9.ch hc (fun h => h)
        have hb12 := hb12.ch hc (fun h => h)
        have hV55 := hV55.ch hc (by first | exact fun _ _ _ h => h | (intro k hk hF ht; have h2 := hF.1; have h3 := hF.2; first | omega | (dsimp only at *; omega)))
        have hV59 := hV59.ch hc (by first | exact fun _ _ _ h => h | (intro k hk hF ht; have h2 := hF.1; have h3 := hF.2; first | omega | (dsimp only at *; omega)))
        have hb16 := hb16.ch hc (fun h => h)
        have hb18 := hb18.ch hc (fun h => h)
        refine wl_g (gd_ rfl rfl rfl rfl rfl rfl) rfl rfl (p_mv rfl) ?_
        refine wl_g (gd_ rfl rfl rfl rfl rfl rfl) rfl rfl (p_eq rfl rfl) ?_
        refine wl rfl rfl rfl (p_pickT rfl rfl) ?_
        refine wl rfl rfl rfl (p_mv rfl) ?_
        refine wl_know (d := 142) (b' := true) rfl (by simp) ?_
        refine wl_g (gd_ rfl rfl rfl rfl rfl rfl) rfl rfl (p_mv rfl) ?_
        refine wl_g (gd_ rfl rfl rfl rfl rfl rfl) rfl rfl (p_mv rfl) ?_
        refine wl_split (d := 144) rfl (fun q144 => ?_) (fun q144 => ?_)
        ·
          refine wl_s (gd_ rfl rfl rfl rfl rfl rfl) rfl rfl ?_
          refine wl_s (gd_ rfl rfl rfl rfl rfl rfl) rfl rfl ?_
          refine wl_s (gd_ rfl rfl rfl rfl rfl rfl) rfl rfl ?_
          refine wl_s (gd_ rfl rfl rfl rfl rfl rfl) rfl rfl ?_
          refine wl_s (gd_ rfl rfl rfl rfl rfl rfl) rfl rfl ?_
          refine wl_g (gd_ rfl rfl rfl rfl rfl rfl) rfl rfl (p_pickT rfl rfl) ?_
          refine wl rfl rfl rfl (p_pickT rfl rfl) ?_
          refine wl rfl rfl rfl (p_mv rfl) ?_
          refine wle_g (gd_ rfl rfl rfl rfl rfl rfl) (e_call ent40 rfl rfl (lives11_any hrnd) ?_)
          rintro _ w51 ⟨rfl, hc⟩
          refine ⟨_, rfl, ?_⟩
          have hzw51 := hc.size
          have HC := HC.tr hc
          have hin := hin.no hc
          have hrnd := hrnd.no hc
          have hb4 := hb4.ch hc (fun h => h)
          have hb5 := hb5.ch hc (fun h => h)
          have hV32 := hV32.ch hc (by first | exact fun _ _ _ h => h | (intro k hk hF ht; have h2 := hF.1; have h3 := hF.2; first | omega | (dsimp only at *; omega)))
          have hM32 := hM32.after hc
          have hb9 := hb9.ch hc (fun h => h)
          have hb12 := hb12.ch hc (fun h => h)
          have hV55 := hV55.ch hc (by first | exact fun _ _ _ h => h | (intro k hk hF ht; have h2 := hF.1; have h3 := hF.2; first | omega | (dsimp only at *; omega)))
          have hV59 := hV59.ch hc (by first | exact fun _ _ _ h => h | (intro k hk hF ht; have h2 := hF.1; have h3 := hF.2; first | omega | (dsimp only at *; omega)))
          have hb16 := hb16.ch hc (fun h => h)
          have hb18 := hb18.ch hc (fun h => h)
          refine wl rfl rfl rfl (p_pickT rfl rfl) ?_
          refine wl rfl rfl rfl (p_as rfl) ?_
          refine wl_nil ?_
          refine x_seq ?_
          refine wc_ret ?_
          refine fin_run ((res1 rfl rfl)) ?_
          exact ⟨rfl, HC⟩
        ·
          refine wl_g (gd_ rfl rfl rfl rfl rfl rfl) rfl rfl (p_mv rfl) ?_
          refine wle_g (gd_ rfl rfl rfl rfl rfl rfl) (e_call ent46 rfl rfl (troot_made hV59 hrnd) ?_)
          rintro _ w52 ⟨rfl, hc, hFil, hRB, hRF⟩
          refine ⟨_, rfl, ?_⟩
          have hR0 := hV59.ot.out hrnd (by omega)
          have hRo : ∀ k, k < w.heap.size → k ∈ adsO o59 → False := fun k h1 h2 => absurd (hRF k h2).1 (by omega)
          have hzw52 := hc.size
          have HC := HC.trans hc (fun _ _ h => h) (fun k hk ht => absurd (hRF k ht).1 (by omega))
          have hin := hin.ch hc (fun k hk ht => hRo k hk ht)
          have hrnd := hrnd.ch hc (fun k hk ht => hR0 (hk ▸ ht))
          first | have hb4 := hb4.ch hc (hb4.not_nd hRB) | have hb4 := hb4.ch hc (by assumption)
          first | have hb5 := hb5.ch hc (hb5.not_nd hRB) | have hb5 := hb5.ch hc (by assumption)
          have hV32 := hV32.fil hc hRB hFil
          have hM32 := hM32.ty hc (by decide) hRB
          first | have hb9 := hb9.ch hc (hb9.not_nd hRB) | have hb9 := hb9.ch hc (by assumption)
          first | have hb12 := hb12.ch hc (hb12.not_nd hRB) | have hb12 := hb12.ch hc (by assumption)
          have hV55 := hV55.fil hc hRB hFil
          have hV59 := hV59.fil hc hRB hFil
          first | have hb16 := hb16.ch hc (hb16.not_nd hRB) | have hb16 := hb16.ch hc (by assumption)
          first | have hb18 := hb18.ch hc (hb18.not_nd hRB) | have hb18 := hb18.ch hc (by assumption)
          refine wl_g (gd_ rfl rfl rfl rfl rfl rfl) rfl rfl (p_mv rfl) ?_
          refine wle_g (gd_ rfl rfl rfl rfl rfl rfl) (e_call ent46 rfl rfl (troot_made hV32 hrnd) ?_)
          rintro _ w53 ⟨rfl, hc, hFil, hRB, hRF⟩
          refine ⟨_, rfl, ?_⟩
          have hR0 := hV32.ot.out hrnd (by omega)
          have hRo : ∀ k, k < w.heap.size → k ∈ adsO o32 → False := fun k h1 h2 => absurd (hRF k h2).1 (by omega)
          have hzw53 := hc.size
          have HC := HC.trans hc (fun _ _ h => h) (fun k hk ht => absurd (hRF k ht).1 (by omega))
          have hin := hin.ch hc (fun k hk ht => hRo k hk ht)
          have hrnd := hrnd.ch hc (fun k hk ht => hR0 (hk ▸ ht))
          first | have hb4 := hb4.ch hc (hb4.not_nd hRB) | have hb4 := hb4.ch hc (by assumption)
          first | have hb5 := hb5.ch hc (hb5.not_nd hRB) | have hb5 := hb5.ch hc (by assumption)
          have hV32 := hV32.fil hc hRB hFil
          have hM32 := hM32.ty hc (by decide) hRB
          first | have hb9 := hb9.ch hc (hb9.not_nd hRB) | have hb9 := hb9.ch hc (by assumption)
          first | have hb12 := hb12.ch hc (hb12.not_nd hRB) | have hb12 := hb12.ch hc (by assumption)
          have hV55 := hV55.fil hc hRB hFil
          have hV59 := hV59.fil hc hRB hFil
          first | have hb16 := hb16.ch hc (hb16.not_nd hRB) | have hb16 := hb16.ch hc (by assumption)
          first | have hb18 := hb18.ch hc (hb18.not_nd hRB) | have hb18 := hb18.ch hc (by assumption)
          refine wl_g (gd_ rfl rfl rfl rfl rfl rfl) rfl rfl (p_eqH (a := (rootT (eo o59))) (b := (rootT (eo o32))) (by kernel_rfl) Tryd.underlying38 Tryd.underlying5 sz5 rfl rfl (rootT_len) (rootT_len)) ?_
          refine wl_g (gd_ rfl rfl rfl rfl rfl rfl) rfl rfl (p_pickF rfl rfl) ?_
          refine wl rfl rfl rfl (p_pickT rfl rfl) ?_
          refine wl rfl rfl rfl (p_mv rfl) ?_
          refine wl_know (d := 152) (b' := true) rfl (by first | (simp; done) | (rw [hsm]; simp; done) | exact absurd (show ok47 = true by simpa using c4) (by simpa using q144)) ?_
          refine wle_g (gd_ rfl rfl rfl rfl rfl rfl) (e_call ent40 rfl rfl (lives11_any hrnd) ?_)
          rintro _ w54 ⟨rfl, hc⟩
          refine ⟨_, rfl, ?_⟩
          have hzw54 := hc.size
          have HC := HC.tr hc
          have hin := hin.no hc
          have hrnd := hrnd.no hc
          have hb4 := hb4.ch hc (fun h => h)
          have hb5 := hb5.ch hc (fun h => h)
          have hV32 := hV32.ch hc (by first | exact fun _ _ _ h => h | (intro k hk hF ht; have h2 := hF.1; have h3 := hF.2; first | omega | (dsimp only at *; omega)))
          have hM32 := hM32.after hc
          have hb9 := hb9.ch hc (fun h => h)
          have hb12 := hb12.ch hc (fun h => h)
          have hV55 := hV55.ch hc (by first | exact fun _ _ _ h => h | (intro k hk hF ht; have h2 := hF.1; have h3 := hF.2; first | omega | (dsimp only at *; omega)))
          have hV59 := hV59.ch hc (by first | exact fun _ _ _ h => h | (intro k hk hF ht; have h2 := hF.1; have h3 := hF.2; first | omega | (dsimp only at *; omega)))
          have hb16 := hb16.ch hc (fun h => h)
          have hb18 := hb18.ch hc (fun h => h)
          refine wl rfl rfl rfl (p_pickT rfl rfl) ?_
          refine wl rfl rfl rfl (p_as rfl) ?_
          refine wl_nil ?_
          refine x_seq ?_
          refine wc_ret ?_
          refine fin_run ((res1 rfl rfl)) ?_
          exact ⟨rfl, HC⟩
end Go.Proofs.YtkfkdakghjlenaaDoor
