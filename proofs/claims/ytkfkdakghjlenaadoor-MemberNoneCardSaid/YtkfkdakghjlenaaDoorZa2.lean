/-
  Own text, printed by a program of mine (wip/gx): what functions of the program do, walked operation by operation.
-/
import Derived.Test.YtkfkdakghjlenaaDoorProg
import Derived.Test.YtkfkdakghjlenaaDoorGxAgg
import Derived.Test.YtkfkdakghjlenaaDoorTab
import Derived.Test.YtkfkdakghjlenaaDoorGxZer
import Derived.Test.YtkfkdakghjlenaaDoorGxLay
import Derived.Test.YtkfkdakghjlenaaDoorPlPack
import Derived.Test.YtkfkdakghjlenaaDoorPlSum
import Derived.Test.YtkfkdakghjlenaaDoorPlSha
import Derived.Test.YtkfkdakghjlenaaDoorPlTag
import Derived.Test.YtkfkdakghjlenaaDoorPlBits
import Derived.Test.YtkfkdakghjlenaaDoorPlShaSt
import Derived.Test.YtkfkdakghjlenaaDoorPlShaB
import Derived.Test.YtkfkdakghjlenaaDoorPlTrie
import Derived.Test.YtkfkdakghjlenaaDoorPlTrieSt
import Derived.Test.YtkfkdakghjlenaaDoorGxRec
import Derived.Test.YtkfkdakghjlenaaDoorGxYld
import Derived.Test.YtkfkdakghjlenaaDoorPlTrieFil
import Derived.Test.YtkfkdakghjlenaaDoorOnceC
import Derived.Test.YtkfkdakghjlenaaDoorPlTrieW
import Derived.Test.YtkfkdakghjlenaaDoorPlMulti
import Derived.Test.YtkfkdakghjlenaaDoorPlEncs
import Derived.Test.YtkfkdakghjlenaaDoorGxMark
import Derived.Test.YtkfkdakghjlenaaDoorZa0
import Derived.Test.YtkfkdakghjlenaaDoorZa1
set_option linter.unusedVariables false
set_option linter.unusedSimpArgs false
namespace Go.Proofs.YtkfkdakghjlenaaDoor
open Go.RowKit Go.Gx
open Go.Plain
set_option maxHeartbeats 1000000 in
set_option maxRecDepth 20000 in
theorem mprove_zero {w : World} {g : Nat} {k : List UInt8} (hbg : Blk w g 41 [.pointer none, .bool false].toArray) (hk : k.length = 32) :
    Calls Tryd.prog 28 #[ndp g, hv k] w fun e w' => e = .returned (.agg (([Value.slice none 0 0, Value.bool false] ++ ((List.map u8v (List.replicate 32 (0 : UInt8))) ++ (List.map u8v (List.replicate 32 (0 : UInt8))))) : List Value).toArray) ∧ Ch No w w' := by
  have hltg := hbg.lt
  have HC : Ch No w w := Ch.refl _ _
  refine enter' (args := [ndp g, hv k]) (n := 40) Tryd.func28 rfl rfl rfl ?_
  refine wc_seq ?_
  refine wc_region ?_
  have hltg := hbg.lt
  refine wle rfl (e_box (cs := (List.map u8v k).toArray) rfl rfl rfl (fun w1 g3 hg3 hb3 hc hsz3 => ?_))
  have hzw1 := hc.size
  have HC := HC.tr hc
  have hbg := hbg.ch hc (fun h => h)
  have hge3 : w.heap.size ≤ g3 := by have := HC.size; omega
  have neg_3 : g < g3 := by omega
  have hltg := hbg.lt
  have hltg3 := hb3.lt
  refine wle rfl (e_alloc (cs := (([Value.slice none 0 0, Value.bool false] ++ ((List.map u8v (List.replicate 32 (0 : UInt8))) ++ (List.map u8v (List.replicate 32 (0 : UInt8))))) : List Value).toArray) rfl (by rfl) (by rfl) (fun w2 g4 hg4 hb4 hc hsz4 => ?_))
  have hzw2 := hc.size
  have HC := HC.tr hc
  have hbg := hbg.ch hc (fun h => h)
  have hb3 := hb3.ch hc (fun h => h)
  have hge4 : w.heap.size ≤ g4 := by have := HC.size; omega
  have neg_4 : g < g4 := by omega
  have neg3_4 : g3 < g4 := by omega
  refine wl_nil ?_
  refine x_seq ?_
  refine wc_seq ?_
  refine wc_region ?_
  refine wl rfl rfl rfl (p_mv rfl) ?_
  refine wl rfl rfl rfl (p_ldA (cs := List.map u8v k) Tryd.underlying38 rfl (szL sz38 (by rw [List.length_map]; exact hk)) rfl (fun _ e => e ▸ rngL hb3)) ?_
  refine wle rfl (e_call ent72 rfl rfl (tdown_zero hbg (hk)) ?_)
  rintro _ w3 ⟨rfl, hc⟩
  refine ⟨_, rfl, ?_⟩
  have hzw3 := hc.size
  have HC := HC.tr hc
  have hbg := hbg.ch hc (fun h => h)
  have hb3 := hb3.ch hc (fun h => h)
  have hb4 := hb4.ch hc (fun h => h)
  refine wl rfl rfl rfl (p_mv rfl) ?_
  refine wl rfl rfl rfl (p_ext rfl rfl) ?_
  refine wl rfl rfl rfl (p_ext rfl rfl) ?_
  refine wl rfl rfl rfl (p_ext rfl rfl) ?_
  refine wl rfl rfl rfl (p_ext rfl rfl) ?_
  have hltg := hbg.lt
  have hltg3 := hb3.lt
  have hltg4 := hb4.lt
  refine wle rfl (e_alloc (cs := ((List.replicate 32 (0 : UInt8)).map u8v).toArray) rfl (by rfl) rfl (fun w4 g6 hg6 hb6 hc hsz6 => ?_))
  have hzw4 := hc.size
  have HC := HC.tr hc
  have hbg := hbg.ch hc (fun h => h)
  have hb3 := hb3.ch hc (fun h => h)
  have hb4 := hb4.ch hc (fun h => h)
  have hge6 : w.heap.size ≤ g6 := by have := HC.size; omega
  have neg_6 : g < g6 := by omega
  have neg3_6 : g3 < g6 := by omega
  have neg4_6 : g4 < g6 := by omega
  have hltg := hbg.lt
  have hltg3 := hb3.lt
  have hltg4 := hb4.lt
  have hltg6 := hb6.lt
  refine wle rfl (e_alloc (cs := ((List.replicate 32 (0 : UInt8)).map u8v).toArray) rfl (by rfl) rfl (fun w5 g7 hg7 hb7 hc hsz7 => ?_))
  have hzw5 := hc.size
  have HC := HC.tr hc
  have hbg := hbg.ch hc (fun h => h)
  have hb3 := hb3.ch hc (fun h => h)
  have hb4 := hb4.ch hc (fun h => h)
  have hb6 := hb6.ch hc (fun h => h)
  have hge7 : w.heap.size ≤ g7 := by have := HC.size; omega
  have neg_7 : g < g7 := by omega
  have neg3_7 : g3 < g7 := by omega
  have neg4_7 : g4 < g7 := by omega
  have neg6_7 : g6 < g7 := by omega
  refine wl rfl rfl rfl (p_as rfl) ?_
  refine wle rfl (e_stW (vs := List.map u8v zeroH) (szL sz38 (by rw [List.length_map]; exact zeroH_len)) (oneL one_u8 _) rfl rfl hb6 (by simp only [List.size_toArray, List.length_map]; first | done | exact ((List.length_replicate ..)).trans (zeroH_len).symm) (fun w6 hb6 hc hsz => ?_))
  have hzw6 := hc.size
  have HC := HC.trans hc (fun _ _ h => h) (fun k hk ht => absurd ht (by omega))
  have hbg := hbg.ch hc (by omega)
  have hb3 := hb3.ch hc (by omega)
  have hb4 := hb4.ch hc (by omega)
  have hb7 := hb7.ch hc (by omega)
  refine wle rfl (e_stW (vs := List.map u8v zeroH) (szL sz38 (by rw [List.length_map]; exact zeroH_len)) (oneL one_u8 _) rfl rfl hb7 (by simp only [List.size_toArray, List.length_map]; first | done | exact ((List.length_replicate ..)).trans (zeroH_len).symm) (fun w7 hb7 hc hsz => ?_))
  have hzw7 := hc.size
  have HC := HC.trans hc (fun _ _ h => h) (fun k hk ht => absurd ht (by omega))
  have hbg := hbg.ch hc (by omega)
  have hb3 := hb3.ch hc (by omega)
  have hb4 := hb4.ch hc (by omega)
  have hb6 := hb6.ch hc (by omega)
  refine wl rfl rfl rfl (p_as rfl) ?_
  refine wl_nil ?_
  refine x_seq ?_
  refine wc_seq ?_
  refine wc_seq ?_
  refine wc_region ?_
  refine wl rfl rfl rfl (p_mv rfl) ?_
  refine wl rfl rfl rfl (p_not rfl) ?_
  refine wl_nil ?_
  refine x_seq ?_
  refine wc_yes rfl (rfl) ?_
  refine wc_seq ?_
  refine wc_region ?_
  refine wl rfl rfl rfl (p_bldX (vs' := []) (cs := (([Value.slice none 0 0, Value.bool false] ++ ((List.map u8v (List.replicate 32 (0 : UInt8))) ++ (List.map u8v (List.replicate 32 (0 : UInt8))))) : List Value)) (cs' := (([Value.slice none 0 0, Value.bool false] ++ ((hx (List.replicate 32 (0 : UInt8))) ++ (hx (List.replicate 32 (0 : UInt8))))) : List Value)) rfl rfl (by simp only [hv, map_hx (List.length_replicate ..)] <;> rfl) (fun _ => by kernel_rfl)) ?_
  refine wle rfl (e_stW (vs := (([Value.slice none 0 0, Value.bool false] ++ ((List.map u8v (List.replicate 32 (0 : UInt8))) ++ (List.map u8v (List.replicate 32 (0 : UInt8))))) : List Value)) (szL sz49 (by first | rfl | (simp only [List.length_append, List.length_map, List.length_cons, List.length_nil, (show List.length (List.replicate 32 (0 : UInt8)) = 32 from (List.length_replicate ..)), (show List.length (List.replicate 32 (0 : UInt8)) = 32 from (List.length_replicate ..))]; done) | (simp only [List.length_append, List.length_map, List.length_cons, List.length_nil, List.size_toArray, (show List.length (List.replicate 32 (0 : UInt8)) = 32 from (List.length_replicate ..)), (show List.length (List.replicate 32 (0 : UInt8)) = 32 from (List.length_replicate ..))]; done))) (oneA (allOne rfl) (oneA (oneL one_u8 _) (oneL one_u8 _))) rfl rfl hb4 (by first | rfl | (simp only [List.length_append, List.length_map, List.length_cons, List.length_nil, (show List.length (List.replicate 32 (0 : UInt8)) = 32 from (List.length_replicate ..)), (show List.length (List.replicate 32 (0 : UInt8)) = 32 from (List.length_replicate ..)), (show List.length (List.replicate 32 (0 : UInt8)) = 32 from (List.length_replicate ..)), (show List.length (List.replicate 32 (0 : UInt8)) = 32 from (List.length_replicate ..))]; done) | (simp only [List.length_append, List.length_map, List.length_cons, List.length_nil, List.size_toArray, (show List.length (List.replicate 32 (0 : UInt8)) = 32 from (List.length_replicate ..)), (show List.length (List.replicate 32 (0 : UInt8)) = 32 from (List.length_replicate ..)), (show List.length (List.replicate 32 (0 : UInt8)) = 32 from (List.length_replicate ..)), (show List.length (List.replicate 32 (0 : UInt8)) = 32 from (List.length_replicate ..))]; done)) (fun w8 hb4 hc hsz => ?_))
  have hzw8 := hc.size
  have HC := HC.trans hc (fun _ _ h => h) (fun k hk ht => absurd ht (by omega))
  have hbg := hbg.ch hc (by omega)
  have hb3 := hb3.ch hc (by omega)
  have hb6 := hb6.ch hc (by omega)
  have hb7 := hb7.ch hc (by omega)
  refine wl_nil ?_
  refine x_seq ?_
  refine wc_ret ?_
  refine x_then_ret ?_
  refine fin_run (resC (cs := (([Value.slice none 0 0, Value.bool false] ++ ((List.map u8v (List.replicate 32 (0 : UInt8))) ++ (List.map u8v (List.replicate 32 (0 : UInt8))))) : List Value)) rfl rfl Tryd.underlying49 rfl (szL sz49 (by first | rfl | (simp only [List.length_append, List.length_map, List.length_cons, List.length_nil, (show List.length (List.replicate 32 (0 : UInt8)) = 32 from (List.length_replicate ..)), (show List.length (List.replicate 32 (0 : UInt8)) = 32 from (List.length_replicate ..))]; done) | (simp only [List.length_append, List.length_map, List.length_cons, List.length_nil, List.size_toArray, (show List.length (List.replicate 32 (0 : UInt8)) = 32 from (List.length_replicate ..)), (show List.length (List.replicate 32 (0 : UInt8)) = 32 from (List.length_replicate ..))]; done))) (rngL hb4)) ?_
  exact ⟨rfl, HC⟩

set_option maxHeartbeats 1000000 in
set_option maxRecDepth 20000 in
theorem memberNone_walk {w : World}  {k : List UInt8} (hk : k.length = 32) (hrnd : Sl w (fun k => k = 0) u32v (some ⟨0, 0, none⟩) 64 64 rk) :
    Calls Tryd.prog 4 #[hv k] w fun e w' => e = .returned (.bool true) ∧ Ch No w w' := by
  have hn0 : 0 < w.heap.size := hrnd.size (by omega) rfl
  have hn1 := hn0
  have HC : Ch No w w := Ch.refl _ _
  refine enter' (args := [hv k]) (n := 19) Tryd.func4 rfl rfl rfl ?_
  refine wc_seq ?_
  refine wc_region ?_
  refine wle rfl (e_box (cs := (List.map u8v k).toArray) rfl rfl rfl (fun w1 g1 hg1 hb1 hc hsz1 => ?_))
  have hzw1 := hc.size
  have HC := HC.tr hc
  have hrnd := hrnd.no hc
  have hge1 : w.heap.size ≤ g1 := by have := HC.size; omega
  refine wl rfl rfl rfl (p_as rfl) ?_
  refine wl_nil ?_
  refine x_seq ?_
  refine wc_seq ?_
  refine wc_region ?_
  have hltg1 := hb1.lt
  refine wle rfl (e_alloc (cs := ([Value.pointer none, Value.bool false] : List Value).toArray) rfl (by rfl) rfl (fun w2 g3 hg3 hb3 hc hsz3 => ?_))
  have hzw2 := hc.size
  have HC := HC.tr hc
  have hrnd := hrnd.no hc
  have hb1 := hb1.ch hc (fun h => h)
  have hge3 : w.heap.size ≤ g3 := by have := HC.size; omega
  have neg1_3 : g1 < g3 := by omega
  refine wl_nil ?_
  refine x_seq ?_
  refine wc_seq ?_
  refine wc_region ?_
  refine wl rfl rfl rfl (p_ldA (cs := List.map u8v k) Tryd.underlying38 rfl (szL sz38 (by rw [List.length_map]; exact hk)) rfl (fun _ e => e ▸ rngL hb1)) ?_
  refine wle rfl (e_call ent28 rfl rfl (mprove_nil (hk)) ?_)
  rintro _ w3 ⟨rfl, hc⟩
  refine ⟨_, rfl, ?_⟩
  have hzw3 := hc.size
  have HC := HC.tr hc
  have hrnd := hrnd.no hc
  have hb1 := hb1.ch hc (fun h => h)
  have hb3 := hb3.ch hc (fun h => h)
  refine wle rfl (e_call ent27 rfl rfl (mplain_any (SI.nil (F := No) (E := eST)) ((List.length_replicate ..)) ((List.length_replicate ..)) (by omega)) ?_)
  rintro _ w4 ⟨A6, l6, c6, rfl, hW6, hc⟩
  refine ⟨_, rfl, ?_⟩
  have hzw4 := hc.size
  have HC := HC.tr hc
  have hrnd := hrnd.no hc
  have hb1 := hb1.ch hc (fun h => h)
  have hb3 := hb3.ch hc (fun h => h)
  have hWl6 := hW6.len
  have hz6 : l6 = 0 := hW6.len.symm
  refine wl rfl rfl rfl (p_bldX (vs' := []) (cs := (([Value.slice none 0 0, Value.bool false] ++ ((List.map u8v (List.replicate 32 (0 : UInt8))) ++ (List.map u8v (List.replicate 32 (0 : UInt8))))) : List Value)) (cs' := (([Value.slice none 0 0, Value.bool false] ++ ((hx (List.replicate 32 (0 : UInt8))) ++ (hx (List.replicate 32 (0 : UInt8))))) : List Value)) rfl rfl (by simp only [hv, map_hx (List.length_replicate ..)] <;> rfl) (fun _ => by kernel_rfl)) ?_
  refine wle rfl (e_call ent26 rfl rfl (rsame_same (hW6.si) (SI.nil (F := No) (E := eST)) ((List.length_replicate ..)) ((List.length_replicate ..)) (by omega) (by omega)) ?_)
  rintro _ w5 ⟨rfl, hc⟩
  refine ⟨_, rfl, ?_⟩
  have hzw5 := hc.size
  have HC := HC.tr hc
  have hrnd := hrnd.no hc
  have hb1 := hb1.ch hc (fun h => h)
  have hb3 := hb3.ch hc (fun h => h)
  have hW6 := hW6.after hc
  refine wl rfl rfl rfl (p_mv rfl) ?_
  refine wl_g (gd_ rfl rfl rfl rfl rfl rfl) rfl rfl (p_ldA (cs := List.map u8v k) Tryd.underlying38 rfl (szL sz38 (by rw [List.length_map]; exact hk)) rfl (fun _ e => e ▸ rngL hb1)) ?_
  refine wle_g (gd_ rfl rfl rfl rfl rfl rfl) (e_call ent28 rfl rfl (mprove_zero hb3 (hk)) ?_)
  rintro _ w6 ⟨rfl, hc⟩
  refine ⟨_, rfl, ?_⟩
  have hzw6 := hc.size
  have HC := HC.tr hc
  have hrnd := hrnd.no hc
  have hb1 := hb1.ch hc (fun h => h)
  have hb3 := hb3.ch hc (fun h => h)
  have hW6 := hW6.after hc
  refine wle_g (gd_ rfl rfl rfl rfl rfl rfl) (e_call ent27 rfl rfl (mplain_any (SI.nil (F := No) (E := eST)) ((List.length_replicate ..)) ((List.length_replicate ..)) (by omega)) ?_)
  rintro _ w7 ⟨A12, l12, c12, rfl, hW12, hc⟩
  refine ⟨_, rfl, ?_⟩
  have hzw7 := hc.size
  have HC := HC.tr hc
  have hrnd := hrnd.no hc
  have hb1 := hb1.ch hc (fun h => h)
  have hb3 := hb3.ch hc (fun h => h)
  have hW6 := hW6.after hc
  have hWl12 := hW12.len
  have hz12 : l12 = 0 := hW12.len.symm
  refine wl_g (gd_ rfl rfl rfl rfl rfl rfl) rfl rfl (p_bldX (vs' := []) (cs := (([Value.slice none 0 0, Value.bool false] ++ ((List.map u8v (List.replicate 32 (0 : UInt8))) ++ (List.map u8v (List.replicate 32 (0 : UInt8))))) : List Value)) (cs' := (([Value.slice none 0 0, Value.bool false] ++ ((hx (List.replicate 32 (0 : UInt8))) ++ (hx (List.replicate 32 (0 : UInt8))))) : List Value)) rfl rfl (by simp only [hv, map_hx (List.length_replicate ..)] <;> rfl) (fun _ => by kernel_rfl)) ?_
  refine wle_g (gd_ rfl rfl rfl rfl rfl rfl) (e_call ent26 rfl rfl (rsame_same (hW12.si) (SI.nil (F := No) (E := eST)) ((List.length_replicate ..)) ((List.length_replicate ..)) (by omega) (by omega)) ?_)
  rintro _ w8 ⟨rfl, hc⟩
  refine ⟨_, rfl, ?_⟩
  have hzw8 := hc.size
  have HC := HC.tr hc
  have hrnd := hrnd.no hc
  have hb1 := hb1.ch hc (fun h => h)
  have hb3 := hb3.ch hc (fun h => h)
  have hW6 := hW6.after hc
  have hW12 := hW12.after hc
  refine wl rfl rfl rfl (p_pickT rfl rfl) ?_
  refine wl rfl rfl rfl (p_mv rfl) ?_
  refine wle_g (gd_ rfl rfl rfl rfl rfl rfl) (e_call ent29 rfl rfl (lives12_any hrnd) ?_)
  rintro _ w9 ⟨rfl, hc⟩
  refine ⟨_, rfl, ?_⟩
  have hzw9 := hc.size
  have HC := HC.tr hc
  have hrnd := hrnd.no hc
  have hb1 := hb1.ch hc (fun h => h)
  have hb3 := hb3.ch hc (fun h => h)
  have hW6 := hW6.after hc
  have hW12 := hW12.after hc
  refine wl rfl rfl rfl (p_pickT rfl rfl) ?_
  refine wl rfl rfl rfl (p_as rfl) ?_
  refine wl_nil ?_
  refine x_seq ?_
  refine wc_ret ?_
  refine fin_run ((res1 rfl rfl)) ?_
  exact ⟨rfl, HC⟩
end Go.Proofs.YtkfkdakghjlenaaDoor
