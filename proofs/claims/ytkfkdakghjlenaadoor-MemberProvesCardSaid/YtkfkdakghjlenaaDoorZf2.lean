/-
  Own text, printed by a program of mine (wip/gx): what functions of the program do, walked operation by operation.
-/
import Derived.Test.YtkfkdakghjlenaaDoorProg
import Derived.Test.YtkfkdakghjlenaaDoorGxAgg
import Derived.Test.YtkfkdakghjlenaaDoorTab
import Derived.Test.YtkfkdakghjlenaaDoorGxZer
import Derived.Test.YtkfkdakghjlenaaDoorGxLay
import Derived.Test.YtkfkdakghjlenaaDoorPlPack
import Derived.Test.YtkfkdakghjlenaaDoorPlSum
import Derived.Test.YtkfkdakghjlenaaDoorPlSha
import Derived.Test.YtkfkdakghjlenaaDoorPlTag
import Derived.Test.YtkfkdakghjlenaaDoorPlBits
import Derived.Test.YtkfkdakghjlenaaDoorPlShaSt
import Derived.Test.YtkfkdakghjlenaaDoorPlShaB
import Derived.Test.YtkfkdakghjlenaaDoorPlTrie
import Derived.Test.YtkfkdakghjlenaaDoorPlTrieSt
import Derived.Test.YtkfkdakghjlenaaDoorGxRec
import Derived.Test.YtkfkdakghjlenaaDoorGxYld
import Derived.Test.YtkfkdakghjlenaaDoorPlTrieFil
import Derived.Test.YtkfkdakghjlenaaDoorOnceC
import Derived.Test.YtkfkdakghjlenaaDoorPlTrieW
import Derived.Test.YtkfkdakghjlenaaDoorPlMulti
import Derived.Test.YtkfkdakghjlenaaDoorPlEncs
import Derived.Test.YtkfkdakghjlenaaDoorGxMark
import Derived.Test.YtkfkdakghjlenaaDoorPlTrieLaw
import Derived.Test.YtkfkdakghjlenaaDoorZf0
import Derived.Test.YtkfkdakghjlenaaDoorZf1
set_option linter.unusedVariables false
set_option linter.unusedSimpArgs false
namespace Go.Proofs.YtkfkdakghjlenaaDoor
open Go.RowKit Go.Gx
open Go.Plain
set_option maxHeartbeats 1000000 in
set_option maxRecDepth 20000 in
theorem mprove_any {w : World} {v : Value} {o : Option LT} {F : Nat → Prop} {k : List UInt8} (hV : TR 41 156 F w v o) (hk : k.length = 32) (hrnd : Sl w (fun k => k = 0) u32v (some ⟨0, 0, none⟩) 64 64 rk) (hsz : szO o ≤ 1000000) :
    Calls Tryd.prog 28 #[v, hv k] w fun e w' => ∃ A l c lf u x, e = .returned (.agg (([.slice A l c, .bool lf] ++ (List.map u8v u ++ List.map u8v x)) : List Value).toArray) ∧ u.length = 32 ∧ x.length = 32 ∧ RI w' (fun k => w.heap.size ≤ k) 126 eST A l c (wayT (eo o) k) ∧ (u, x, lf) = endT (eo o) k ∧ Ch (fun k => k ∈ adsO o) w w' ∧ Fil 156 w w' ∧ (∀ k, k ∈ adsO o → ∃ cs, Blk w k 156 cs) ∧ ∀ k, k ∈ adsO o → F k := by
  have hV0 := hV
  have hV := hV.mono (G := fun k => F k ∧ k < w.heap.size) (fun k h1 h2 => ⟨h2, h1⟩)
  have hVl : ∀ k, k ∈ adsO o → k < w.heap.size := fun k hk => (hV.adsF k hk).2
  have hn0 : 0 < w.heap.size := hrnd.size (by omega) rfl
  have hn1 := hn0
  have HC : Ch (fun k => k ∈ adsO o) w w := Ch.refl _ _
  refine enter' (args := [v, hv k]) (n := 40) Tryd.func28 rfl rfl rfl ?_
  refine wc_seq ?_
  refine wc_region ?_
  refine wle rfl (e_box (cs := (List.map u8v k).toArray) rfl rfl rfl (fun w1 g3 hg3 hb3 hc hsz3 => ?_))
  have hzw1 := hc.size
  have HC := HC.tr hc
  have hV := hV.ch hc (by first | exact fun _ _ _ h => h | (intro k hk hF ht; have h2 : k < w.heap.size := hF.2; first | omega | (dsimp only at *; omega)))
  have hrnd := hrnd.no hc
  have hge3 : w.heap.size ≤ g3 := by have := HC.size; omega
  have hltg3 := hb3.lt
  refine wle rfl (e_alloc (cs := (([Value.slice none 0 0, Value.bool false] ++ ((List.map u8v (List.replicate 32 (0 : UInt8))) ++ (List.map u8v (List.replicate 32 (0 : UInt8))))) : List Value).toArray) rfl (by rfl) (by rfl) (fun w2 g4 hg4 hb4 hc hsz4 => ?_))
  have hzw2 := hc.size
  have HC := HC.tr hc
  have hV := hV.ch hc (by first | exact fun _ _ _ h => h | (intro k hk hF ht; have h2 : k < w.heap.size := hF.2; first | omega | (dsimp only at *; omega)))
  have hrnd := hrnd.no hc
  have hb3 := hb3.ch hc (fun h => h)
  have hge4 : w.heap.size ≤ g4 := by have := HC.size; omega
  have neg3_4 : g3 < g4 := by omega
  refine wl_nil ?_
  refine x_seq ?_
  refine wc_seq ?_
  refine wc_region ?_
  refine wl rfl rfl rfl (p_mv rfl) ?_
  refine wl rfl rfl rfl (p_ldA (cs := List.map u8v k) Tryd.underlying38 rfl (szL sz38 (by rw [List.length_map]; exact hk)) rfl (fun _ e => e ▸ rngL hb3)) ?_
  refine wle rfl (e_call ent72 rfl rfl (tdown_made hV (hk) hrnd hsz) ?_)
  rintro _ w3 ⟨A15, l15, c15, u15, v15, ok15, rfl, hu15, hv15, hW15, hen15, hc, hFil, hRB, hRF⟩
  refine ⟨_, rfl, ?_⟩
  have hR0 := hV.ot.out hrnd (by omega)
  have hzw3 := hc.size
  have HC := HC.trans hc (fun _ _ h => h) (fun k hk ht => ht)
  have hV := hV.fil hc hRB hFil
  have hrnd := hrnd.ch hc (fun k hk ht => hR0 (hk ▸ ht))
  first | have hb3 := hb3.ch hc (hb3.not_nd hRB) | have hb3 := hb3.ch hc (by assumption)
  first | have hb4 := hb4.ch hc (hb4.not_nd hRB) | have hb4 := hb4.ch hc (by assumption)
  have hWl15 := hW15.len
  refine wl rfl rfl rfl (p_mv rfl) ?_
  refine wl rfl rfl rfl (p_ext rfl rfl) ?_
  refine wl rfl rfl rfl (p_ext rfl rfl) ?_
  refine wl rfl rfl rfl (p_ext rfl rfl) ?_
  refine wl rfl rfl rfl (p_ext rfl rfl) ?_
  have hltg3 := hb3.lt
  have hltg4 := hb4.lt
  refine wle rfl (e_alloc (cs := ((List.replicate 32 (0 : UInt8)).map u8v).toArray) rfl (by rfl) rfl (fun w4 g6 hg6 hb6 hc hsz6 => ?_))
  have hzw4 := hc.size
  have HC := HC.tr hc
  have hV := hV.ch hc (by first | exact fun _ _ _ h => h | (intro k hk hF ht; have h2 : k < w.heap.size := hF.2; first | omega | (dsimp only at *; omega)))
  have hrnd := hrnd.no hc
  have hb3 := hb3.ch hc (fun h => h)
  have hb4 := hb4.ch hc (fun h => h)
  have hW15 := hW15.after hc
  have hge6 : w.heap.size ≤ g6 := by have := HC.size; omega
  have neg3_6 : g3 < g6 := by omega
  have neg4_6 : g4 < g6 := by omega
  have hltg3 := hb3.lt
  have hltg4 := hb4.lt
  have hltg6 := hb6.lt
  refine wle rfl (e_alloc (cs := ((List.replicate 32 (0 : UInt8)).map u8v).toArray) rfl (by rfl) rfl (fun w5 g7 hg7 hb7 hc hsz7 => ?_))
  have hzw5 := hc.size
  have HC := HC.tr hc
  have hV := hV.ch hc (by first | exact fun _ _ _ h => h | (intro k hk hF ht; have h2 : k < w.heap.size := hF.2; first | omega | (dsimp only at *; omega)))
  have hrnd := hrnd.no hc
  have hb3 := hb3.ch hc (fun h => h)
  have hb4 := hb4.ch hc (fun h => h)
  have hW15 := hW15.after hc
  have hb6 := hb6.ch hc (fun h => h)
  have hge7 : w.heap.size ≤ g7 := by have := HC.size; omega
  have neg3_7 : g3 < g7 := by omega
  have neg4_7 : g4 < g7 := by omega
  have neg6_7 : g6 < g7 := by omega
  refine wl rfl rfl rfl (p_as rfl) ?_
  refine wle rfl (e_stW (vs := List.map u8v u15) (szL sz38 (by rw [List.length_map]; exact hu15)) (oneL one_u8 _) rfl rfl hb6 (by simp only [List.size_toArray, List.length_map]; first | done | exact ((List.length_replicate ..)).trans (hu15).symm) (fun w6 hb6 hc hsz => ?_))
  have hzw6 := hc.size
  have HC := HC.trans hc (fun _ _ h => h) (fun k hk ht => absurd ht (by omega))
  have hV := hV.ch hc (by first | exact fun _ _ _ h => h | (intro k hk hF ht; have h2 : k < w.heap.size := hF.2; first | omega | (dsimp only at *; omega)))
  first | have hrnd := hrnd.ch hc (by intro k hk ht; first | omega | (dsimp only at *; omega)) | have hrnd := hrnd.chT hc (by intro k hz hk ht; first | omega | (dsimp only at *; omega))
  have hb3 := hb3.ch hc (by omega)
  have hb4 := hb4.ch hc (by omega)
  have hW15 := hW15.ch hc (by intro k hz hk ht; first | omega | (dsimp only at *; omega))
  have hb7 := hb7.ch hc (by omega)
  refine wle rfl (e_stW (vs := List.map u8v v15) (szL sz38 (by rw [List.length_map]; exact hv15)) (oneL one_u8 _) rfl rfl hb7 (by simp only [List.size_toArray, List.length_map]; first | done | exact ((List.length_replicate ..)).trans (hv15).symm) (fun w7 hb7 hc hsz => ?_))
  have hzw7 := hc.size
  have HC := HC.trans hc (fun _ _ h => h) (fun k hk ht => absurd ht (by omega))
  have hV := hV.ch hc (by first | exact fun _ _ _ h => h | (intro k hk hF ht; have h2 : k < w.heap.size := hF.2; first | omega | (dsimp only at *; omega)))
  first | have hrnd := hrnd.ch hc (by intro k hk ht; first | omega | (dsimp only at *; omega)) | have hrnd := hrnd.chT hc (by intro k hz hk ht; first | omega | (dsimp only at *; omega))
  have hb3 := hb3.ch hc (by omega)
  have hb4 := hb4.ch hc (by omega)
  have hW15 := hW15.ch hc (by intro k hz hk ht; first | omega | (dsimp only at *; omega))
  have hb6 := hb6.ch hc (by omega)
  refine wl rfl rfl rfl (p_as rfl) ?_
  refine wl_nil ?_
  refine x_seq ?_
  refine wc_seq ?_
  refine wc_seq ?_
  refine wc_region ?_
  refine wl rfl rfl rfl (p_mv rfl) ?_
  refine wl rfl rfl rfl (p_not rfl) ?_
  refine wl_nil ?_
  refine x_seq ?_
  refine wc_if rfl (fun c0 => ?_) (fun c0 => ?_)
  ·
    refine wc_seq ?_
    refine wc_region ?_
    refine wl rfl rfl rfl (p_bldX (vs' := []) (cs := (([Value.slice none 0 0, Value.bool false] ++ ((List.map u8v (List.replicate 32 (0 : UInt8))) ++ (List.map u8v (List.replicate 32 (0 : UInt8))))) : List Value)) (cs' := (([Value.slice none 0 0, Value.bool false] ++ ((hx (List.replicate 32 (0 : UInt8))) ++ (hx (List.replicate 32 (0 : UInt8))))) : List Value)) rfl rfl (by simp only [hv, map_hx (List.length_replicate ..)] <;> rfl) (fun _ => by kernel_rfl)) ?_
    refine wle rfl (e_stW (vs := (([Value.slice none 0 0, Value.bool false] ++ ((List.map u8v (List.replicate 32 (0 : UInt8))) ++ (List.map u8v (List.replicate 32 (0 : UInt8))))) : List Value)) (szL sz49 (by first | rfl | (simp only [List.length_append, List.length_map, List.length_cons, List.length_nil, (show List.length (List.replicate 32 (0 : UInt8)) = 32 from (List.length_replicate ..)), (show List.length (List.replicate 32 (0 : UInt8)) = 32 from (List.length_replicate ..))]; done) | (simp only [List.length_append, List.length_map, List.length_cons, List.length_nil, List.size_toArray, (show List.length (List.replicate 32 (0 : UInt8)) = 32 from (List.length_replicate ..)), (show List.length (List.replicate 32 (0 : UInt8)) = 32 from (List.length_replicate ..))]; done))) (oneA (allOne rfl) (oneA (oneL one_u8 _) (oneL one_u8 _))) rfl rfl hb4 (by first | rfl | (simp only [List.length_append, List.length_map, List.length_cons, List.length_nil, (show List.length (List.replicate 32 (0 : UInt8)) = 32 from (List.length_replicate ..)), (show List.length (List.replicate 32 (0 : UInt8)) = 32 from (List.length_replicate ..)), (show List.length (List.replicate 32 (0 : UInt8)) = 32 from (List.length_replicate ..)), (show List.length (List.replicate 32 (0 : UInt8)) = 32 from (List.length_replicate ..))]; done) | (simp only [List.length_append, List.length_map, List.length_cons, List.length_nil, List.size_toArray, (show List.length (List.replicate 32 (0 : UInt8)) = 32 from (List.length_replicate ..)), (show List.length (List.replicate 32 (0 : UInt8)) = 32 from (List.length_replicate ..)), (show List.length (List.replicate 32 (0 : UInt8)) = 32 from (List.length_replicate ..)), (show List.length (List.replicate 32 (0 : UInt8)) = 32 from (List.length_replicate ..))]; done)) (fun w8 hb4 hc hsz => ?_))
    have hzw8 := hc.size
    have HC := HC.trans hc (fun _ _ h => h) (fun k hk ht => absurd ht (by omega))
    have hV := hV.ch hc (by first | exact fun _ _ _ h => h | (intro k hk hF ht; have h2 : k < w.heap.size := hF.2; first | omega | (dsimp only at *; omega)))
    first | have hrnd := hrnd.ch hc (by intro k hk ht; first | omega | (dsimp only at *; omega)) | have hrnd := hrnd.chT hc (by intro k hz hk ht; first | omega | (dsimp only at *; omega))
    have hb3 := hb3.ch hc (by omega)
    have hW15 := hW15.ch hc (by intro k hz hk ht; first | omega | (dsimp only at *; omega))
    have hb6 := hb6.ch hc (by omega)
    have hb7 := hb7.ch hc (by omega)
    refine wl_nil ?_
    refine x_seq ?_
    refine wc_ret ?_
    refine x_then_ret ?_
    refine fin_run (resC (cs := (([Value.slice none 0 0, Value.bool false] ++ ((List.map u8v (List.replicate 32 (0 : UInt8))) ++ (List.map u8v (List.replicate 32 (0 : UInt8))))) : List Value)) rfl rfl Tryd.underlying49 rfl (szL sz49 (by first | rfl | (simp only [List.length_append, List.length_map, List.length_cons, List.length_nil, (show List.length (List.replicate 32 (0 : UInt8)) = 32 from (List.length_replicate ..)), (show List.length (List.replicate 32 (0 : UInt8)) = 32 from (List.length_replicate ..))]; done) | (simp only [List.length_append, List.length_map, List.length_cons, List.length_nil, List.size_toArray, (show List.length (List.replicate 32 (0 : UInt8)) = 32 from (List.length_replicate ..)), (show List.length (List.replicate 32 (0 : UInt8)) = 32 from (List.length_replicate ..))]; done))) (rngL hb4)) ?_
    obtain ⟨e1, e2⟩ := end_no hen15 (by simpa using c0)
    exact ⟨none, 0, 0, false, _, _, rfl, zeroH_len, zeroH_len, by rw [e1]; exact RI.nil _ _ _ _, e2, HC, Fil.ofO hV0.ot HC (fun t e => hV.lat t e), hV0.adsB, hV0.adsF⟩
  ·
    have hokt : ok15 = true := by simpa using c0
    obtain ⟨n8, hn8⟩ : ∃ x, x = w7.heap.size := ⟨_, rfl⟩
    have hSw : SI w7 (fun k => k < n8 ∧ k ≠ g4) eST A15 l15 c15 (wayT (eo o) k) := hW15.si.mono (fun k hk h2 => by first | omega | (dsimp only at *; omega))
    refine wc_skip ?_
    refine x_seq ?_
    refine wc_seq ?_
    refine wc_region ?_
    refine wl rfl rfl rfl (p_ldA (cs := List.map u8v u15) Tryd.underlying38 rfl (szL sz38 (by rw [List.length_map]; exact hu15)) rfl (fun _ e => e ▸ rngL hb6)) ?_
    refine wl rfl rfl rfl (p_ldA (cs := List.map u8v v15) Tryd.underlying38 rfl (szL sz38 (by rw [List.length_map]; exact hv15)) rfl (fun _ e => e ▸ rngL hb7)) ?_
    refine wl rfl rfl rfl (p_bldX (vs' := [.bool true, (.agg ((hx u15) : List Value).toArray), (.agg ((hx v15) : List Value).toArray)]) (cs := (([Value.slice none 0 0, .bool true] ++ ((List.map u8v u15) ++ (List.map u8v v15))) : List Value)) (cs' := (([Value.slice none 0 0, .bool true] ++ ((hx u15) ++ (hx v15))) : List Value)) rfl (by simp only [hv, map_hx hu15, map_hx hv15] <;> rfl) (by simp only [hv, map_hx hu15, map_hx hv15] <;> rfl) (fun _ => by kernel_rfl)) ?_
    have hltg3 := hb3.lt
    have hltg4 := hb4.lt
    have hltg6 := hb6.lt
    have hltg7 := hb7.lt
    refine wle rfl (e_alloc (cs := (([Value.slice none 0 0, Value.bool false] ++ ((List.map u8v (List.replicate 32 (0 : UInt8))) ++ (List.map u8v (List.replicate 32 (0 : UInt8))))) : List Value).toArray) rfl (by rfl) (by rfl) (fun w9 g9 hg9 hb9 hc hsz9 => ?_))
    have hzw9 := hc.size
    have HC := HC.tr hc
    have hV := hV.ch hc (by first | exact fun _ _ _ h => h | (intro k hk hF ht; have h2 : k < w.heap.size := hF.2; first | omega | (dsimp only at *; omega)))
    have hrnd := hrnd.no hc
    have hb3 := hb3.ch hc (fun h => h)
    have hb4 := hb4.ch hc (fun h => h)
    have hSw := hSw.no hc
    have hb6 := hb6.ch hc (fun h => h)
    have hb7 := hb7.ch hc (fun h => h)
    have hge9 : w.heap.size ≤ g9 := by have := HC.size; omega
    have neg3_9 : g3 < g9 := by omega
    have neg4_9 : g4 < g9 := by omega
    have neg6_9 : g6 < g9 := by omega
    have neg7_9 : g7 < g9 := by omega
    refine wle rfl (e_stW (vs := (([Value.slice none 0 0, .bool true] ++ ((List.map u8v u15) ++ (List.map u8v v15))) : List Value)) (szL sz49 (by first | rfl | (simp only [List.length_append, List.length_map, List.length_cons, List.length_nil, (show List.length u15 = 32 from hu15), (show List.length v15 = 32 from hv15)]; done) | (simp only [List.length_append, List.length_map, List.length_cons, List.length_nil, List.size_toArray, (show List.length u15 = 32 from hu15), (show List.length v15 = 32 from hv15)]; done))) (oneA (allOne rfl) (oneA (oneL one_u8 _) (oneL one_u8 _))) rfl rfl hb9 (by first | rfl | (simp only [List.length_append, List.length_map, List.length_cons, List.length_nil, (show List.length (List.replicate 32 (0 : UInt8)) = 32 from (List.length_replicate ..)), (show List.length (List.replicate 32 (0 : UInt8)) = 32 from (List.length_replicate ..)), (show List.length u15 = 32 from hu15), (show List.length v15 = 32 from hv15)]; done) | (simp only [List.length_append, List.length_map, List.length_cons, List.length_nil, List.size_toArray, (show List.length (List.replicate 32 (0 : UInt8)) = 32 from (List.length_replicate ..)), (show List.length (List.replicate 32 (0 : UInt8)) = 32 from (List.length_replicate ..)), (show List.length u15 = 32 from hu15), (show List.length v15 = 32 from hv15)]; done)) (fun w10 hb9 hc hsz => ?_))
    have hzw10 := hc.size
    have HC := HC.trans hc (fun _ _ h => h) (fun k hk ht => absurd ht (by omega))
    have hV := hV.ch hc (by first | exact fun _ _ _ h => h | (intro k hk hF ht; have h2 : k < w.heap.size := hF.2; first | omega | (dsimp only at *; omega)))
    first | have hrnd := hrnd.ch hc (by intro k hk ht; first | omega | (dsimp only at *; omega)) | have hrnd := hrnd.chT hc (by intro k hz hk ht; first | omega | (dsimp only at *; omega))
    have hb3 := hb3.ch hc (by omega)
    have hb4 := hb4.ch hc (by omega)
    first | have hSw := hSw.ch hc (by intro k hk ht; first | omega | (dsimp only at *; omega)) | have hSw := hSw.chT hc (by intro k hz hk ht; first | omega | (dsimp only at *; omega))
    have hb6 := hb6.ch hc (by omega)
    have hb7 := hb7.ch hc (by omega)
    refine wl_nil ?_
    refine x_seq ?_
    refine wc_seq ?_
    refine wc_seq ?_
    refine wc_region ?_
    refine wl rfl rfl rfl (p_mv rfl) ?_
    refine wl rfl rfl rfl (p_lenS Tryd.underlying127 rfl) ?_
    refine wl rfl rfl rfl (p_mv rfl) ?_
    refine wl_nil ?_
    refine x_seq ?_
    refine wc_block ?_
    obtain ⟨n9, hn9⟩ : ∃ x, x = w10.heap.size := ⟨_, rfl⟩
    refine wc_loop (e' := [(4, .pointer (some ⟨g4, 0, none⟩)), (9, .pointer (some ⟨g9, 0, none⟩)), (26, .slice A15 l15 c15), (27, i64 (l15 : Int)), (28, i64 ((0) : Int))]) (fun mz ez uz => ∃ i : Nat, ∃ A : Option Addr, ∃ l : Nat, ∃ c : Nat, mz = l15 - i ∧ ez = [(4, .pointer (some ⟨g4, 0, none⟩)), (9, .pointer (some ⟨g9, 0, none⟩)), (26, .slice A15 l15 c15), (27, i64 (l15 : Int)), (28, i64 (i : Int))] ∧ (i ≤ l15) ∧ (l = i) ∧ (RI uz (fun k => n9 ≤ k) 126 eST A l c ((wayT (eo o) k).take i)) ∧ (SI uz (fun k => k < n8 ∧ k ≠ g4) eST A15 l15 c15 (wayT (eo o) k)) ∧ (Blk uz g9 49 (([.slice A l c, .bool true] ++ ((List.map u8v u15) ++ (List.map u8v v15))) : List Value).toArray) ∧ (Blk uz g4 49 (([Value.slice none 0 0, Value.bool false] ++ ((List.map u8v (List.replicate 32 (0 : UInt8))) ++ (List.map u8v (List.replicate 32 (0 : UInt8))))) : List Value).toArray) ∧ (w.heap.size ≤ g9 ∧ w.heap.size ≤ g4 ∧ g4 < g9 ∧ n8 ≤ g9 ∧ g9 < n9 ∧ w.heap.size ≤ n9 ∧ n9 ≤ uz.heap.size ∧ l15 ≤ 1000000) ∧ (TR 41 156 (fun k => F k ∧ k < w.heap.size) uz v o) ∧ (Ch (fun k => k ∈ adsO o) w uz))
      ⟨rfl, rfl, rfl, rfl, rfl, trivial⟩ ⟨0, none, 0, 0, rfl, rfl, by omega, rfl, (by rw [List.take_zero]; exact RI.nil _ _ _ _), hSw, hb9, hb4, (by have := way_lenO (o := o) (k := k); omega), hV, HC⟩ ?_
    rintro m0 e w11 ⟨i, A, l, c, hm0, rfl, hi, hl, hW, hSw, hb9, hb4, hg9, hV, HC⟩
    have hzw11 := HC.size
    have hlt9 := hb9.lt
    refine wc_seq ?_
    refine wc_region ?_
    refine wl rfl rfl rfl (p_lt rfl rfl) ?_
    refine wl_nil ?_
    refine x_seq ?_
    refine wc_seq ?_
    refine wc_if rfl (fun c1 => ?_) (fun c1 => ?_)
    ·
      have c1 := of_decide_eq_true c1
      refine wc_skip ?_
      refine x_seq ?_
      refine wc_seq ?_
      refine wc_block ?_
      refine wc_seq ?_
      refine wc_region ?_
      obtain ⟨b12, o12, hA12, hF12, hr12⟩ := (hSw).opn (i := i) (d := ⟨0, zeroH⟩) (by omega)
      have hok12 := (hSw).okAt (i := i) (d := ⟨0, zeroH⟩) (by omega)
      obtain ⟨x12, ex12⟩ : ∃ x, x = List.getD (wayT (eo o) k) (i) ⟨0, zeroH⟩ := ⟨_, rfl⟩
      rw [← ex12] at hr12 hok12
      have hx12k : List.length x12.side = 32 := hok12
      have hr12 : w11.rangeAt b12 (o12 + i * 33) (([i64 x12.bit] ++ (List.map u8v x12.side)) : List Value) := hr12
      refine wl rfl rfl rfl (p_ixS (j := i * 33) Tryd.underlying127 sz130 rfl hA12 rfl (by omega) (by omega) (congrArg (· * 33) (Int.toNat_natCast _))) ?_
      have hdr : True := trivial
      refine wl rfl rfl rfl (p_ldA (cs := (([i64 x12.bit] ++ (List.map u8v x12.side)) : List Value)) Tryd.underlying130 rfl (szL sz130 (by first | rfl | (simp only [List.length_append, List.length_map, List.length_cons, List.length_nil, (show List.length x12.side = 32 from hx12k)]; done) | (simp only [List.length_append, List.length_map, List.length_cons, List.length_nil, List.size_toArray, (show List.length x12.side = 32 from hx12k)]; done))) rfl (fun _ e => e ▸ hr12)) ?_
      have hltg9 := hb9.lt
      have hltg4 := hb4.lt
      refine wle rfl (e_alloc (cs := (([Value.int .i64 0] ++ (List.map u8v (List.replicate 32 (0 : UInt8)))) : List Value).toArray) rfl (by rfl) rfl (fun w13 g11 hg11 hb11 hc hsz11 => ?_))
      have hzw13 := hc.size
      have HC := HC.tr hc
      have hW := hW.after hc
      have hSw := hSw.no hc
      have hb9 := hb9.ch hc (fun h => h)
      have hb4 := hb4.ch hc (fun h => h)
      have hV := hV.ch hc (by first | exact fun _ _ _ h => h | (intro k hk hF ht; have h2 : k < w.heap.size := hF.2; first | omega | (dsimp only at *; omega)))
      have hge11 : w.heap.size ≤ g11 := by have := HC.size; omega
      have neg9_11 : g9 < g11 := by omega
      have neg4_11 : g4 < g11 := by omega
      refine wle rfl (e_stW (vs := (([i64 x12.bit] ++ (List.map u8v x12.side)) : List Value)) (szL sz130 (by first | rfl | (simp only [List.length_append, List.length_map, List.length_cons, List.length_nil, (show List.length x12.side = 32 from hx12k)]; done) | (simp only [List.length_append, List.length_map, List.length_cons, List.length_nil, List.size_toArray, (show List.length x12.side = 32 from hx12k)]; done))) (oneA (allOne rfl) (oneL one_u8 _)) rfl rfl hb11 (by first | rfl | (simp only [List.length_append, List.length_map, List.length_cons, List.length_nil, (show List.length (List.replicate 32 (0 : UInt8)) = 32 from (List.length_replicate ..)), (show List.length x12.side = 32 from hx12k)]; done) | (simp only [List.length_append, List.length_map, List.length_cons, List.length_nil, List.size_toArray, (show List.length (List.replicate 32 (0 : UInt8)) = 32 from (List.length_replicate ..)), (show List.length x12.side = 32 from hx12k)]; done)) (fun w14 hb11 hc hsz => ?_))
      have hzw14 := hc.size
      have HC := HC.trans hc (fun _ _ h => h) (fun k hk ht => absurd ht (by omega))
      have hW := hW.ch hc (by intro k hz hk ht; first | omega | (dsimp only at *; omega))
      first | have hSw := hSw.ch hc (by intro k hk ht; first | omega | (dsimp only at *; omega)) | have hSw := hSw.chT hc (by intro k hz hk ht; first | omega | (dsimp only at *; omega))
      have hb9 := hb9.ch hc (by omega)
      have hb4 := hb4.ch hc (by omega)
      have hV := hV.ch hc (by first | exact fun _ _ _ h => h | (intro k hk hF ht; have h2 : k < w.heap.size := hF.2; first | omega | (dsimp only at *; omega)))
      refine wl_nil ?_
      refine x_seq ?_
      refine wc_region ?_
      refine wl rfl rfl rfl (p_fld (j := 0) Tryd.underlying49 rfl ⟨_, by rfl⟩ rfl rfl) ?_
      refine wl rfl rfl rfl (p_ld Tryd.underlying47 rfl rfl (ld (cell_at (p := []) (v := (.slice A l c : Value)) (r := (([.bool true] ++ ((List.map u8v u15) ++ (List.map u8v v15))) : List Value)) hb9 (by simp only [List.append_assoc, List.cons_append, List.nil_append, List.append_nil]) (by first | rfl | (simp only [List.length_append, List.length_map, List.length_cons, List.length_nil]; done) | (simp only [List.length_append, List.length_map, List.length_cons, List.length_nil, List.size_toArray]; done))))) ?_
      refine wl rfl rfl rfl (p_ldA (cs := (([i64 x12.bit] ++ (List.map u8v x12.side)) : List Value)) Tryd.underlying130 rfl (szL sz130 (by first | rfl | (simp only [List.length_append, List.length_map, List.length_cons, List.length_nil, (show List.length x12.side = 32 from hx12k)]; done) | (simp only [List.length_append, List.length_map, List.length_cons, List.length_nil, List.size_toArray, (show List.length x12.side = 32 from hx12k)]; done))) rfl (fun _ e => e ▸ rngL hb11)) ?_
      have hltg9 := hb9.lt
      have hltg4 := hb4.lt
      have hltg11 := hb11.lt
      refine wle rfl (e_bslX (E := 126) (cs := (([i64 x12.bit] ++ (List.map u8v x12.side)) : List Value)) (cs' := (([i64 x12.bit] ++ (hx x12.side)) : List Value)) rfl rfl (by simp only [hv, map_hx hx12k] <;> rfl) (fun _ => by kernel_rfl) (fun w15 g35 hg35 hb35 hc hsz35 => ?_))
      have hzw15 := hc.size
      have HC := HC.tr hc
      have hW := hW.after hc
      have hSw := hSw.no hc
      have hb9 := hb9.ch hc (fun h => h)
      have hb4 := hb4.ch hc (fun h => h)
      have hV := hV.ch hc (by first | exact fun _ _ _ h => h | (intro k hk hF ht; have h2 : k < w.heap.size := hF.2; first | omega | (dsimp only at *; omega)))
      have hb11 := hb11.ch hc (fun h => h)
      have hge35 : w.heap.size ≤ g35 := by have := HC.size; omega
      have hS35 := SI.oneA (E := eST) (x := ⟨x12.bit, x12.side⟩) hb35 rfl hx12k
      have hltg9 := hb9.lt
      have hltg4 := hb4.lt
      have hltg11 := hb11.lt
      refine wle rfl (e_appI rfl el47 rfl rfl hW (hS35) (by omega) (by intro k hk; first | omega | (dsimp only at *; omega)) (fun w16 A36 c36 hW hc => ?_))
      have hzw16 := hc.size
      have HC := HC.trans hc (fun _ _ h => h) (fun k hk ht => absurd ht (by first | omega | (dsimp only at *; omega)))
      first | have hSw := hSw.ch hc (by intro k hk ht; first | omega | (dsimp only at *; omega)) | have hSw := hSw.chT hc (by intro k hz hk ht; first | omega | (dsimp only at *; omega))
      have hb9 := hb9.ch hc (by first | omega | (dsimp only; omega))
      have hb4 := hb4.ch hc (by first | omega | (dsimp only; omega))
      have hV := hV.ch hc (by first | exact fun _ _ _ h => h | (intro k hk hF ht; have h2 : k < w.heap.size := hF.2; first | omega | (dsimp only at *; omega)))
      have hb11 := hb11.ch hc (by first | omega | (dsimp only; omega))
      first | have hS35 := hS35.ch hc (by intro k hk ht; first | omega | (dsimp only at *; omega)) | have hS35 := hS35.chT hc (by intro k hz hk ht; first | omega | (dsimp only at *; omega))
      refine wl rfl rfl rfl (p_fld (j := 0) Tryd.underlying49 rfl ⟨_, by rfl⟩ rfl rfl) ?_
      refine wle rfl (e_stC (p := []) (u := (.slice A l c : Value)) (r := (([.bool true] ++ ((List.map u8v u15) ++ (List.map u8v v15))) : List Value)) (v := .slice A36 (l + 1) c36) (by rfl) rfl rfl rfl hb9 (by simp only [List.append_assoc, List.cons_append, List.nil_append, List.append_nil]) (by first | rfl | (simp only [List.length_append, List.length_map, List.length_cons, List.length_nil]; done) | (simp only [List.length_append, List.length_map, List.length_cons, List.length_nil, List.size_toArray]; done)) (fun w17 hb9 hc hsz => ?_))
      have hb9 : Blk w17 g9 49 (([.slice A36 (l + 1) c36, .bool true] ++ ((List.map u8v u15) ++ (List.map u8v v15))) : List Value).toArray := by have h := hb9; simp only [List.append_assoc, List.cons_append, List.nil_append, List.append_nil] at h ⊢; exact h
      have hzw17 := hc.size
      have HC := HC.trans hc (fun _ _ h => h) (fun k hk ht => absurd ht (by omega))
      have hW := hW.ch hc (by intro k hz hk ht; first | omega | (dsimp only at *; omega))
      first | have hSw := hSw.ch hc (by intro k hk ht; first | omega | (dsimp only at *; omega)) | have hSw := hSw.chT hc (by intro k hz hk ht; first | omega | (dsimp only at *; omega))
      have hb4 := hb4.ch hc (by omega)
      have hV := hV.ch hc (by first | exact fun _ _ _ h => h | (intro k hk hF ht; have h2 : k < w.heap.size := hF.2; first | omega | (dsimp only at *; omega)))
      have hb11 := hb11.ch hc (by omega)
      first | have hS35 := hS35.ch hc (by intro k hk ht; first | omega | (dsimp only at *; omega)) | have hS35 := hS35.chT hc (by intro k hz hk ht; first | omega | (dsimp only at *; omega))
      refine wl_nil ?_
      refine x_in_normal ?_
      refine x_seq ?_
      refine wc_region ?_
      refine wl rfl rfl rfl (p_add rfl rfl (w64 (by omega))) ?_
      refine wl rfl rfl rfl (p_mv rfl) ?_
      refine wl_nil ?_
      refine x_round (e' := [(4, .pointer (some ⟨g4, 0, none⟩)), (9, .pointer (some ⟨g9, 0, none⟩)), (26, .slice A15 l15 c15), (27, i64 (l15 : Int)), (28, i64 ((i + 1) : Int))]) ⟨rfl, rfl, rfl, rfl, rfl, trivial⟩ (by rw [hm0]; omega) ⟨i + 1, _, _, _, rfl, rfl, by omega, by omega, (by rw [getD_take (d := ⟨0, zeroH⟩) (by omega), ← ex12]; exact hW.mono (fun k _ hk => by first | omega | (dsimp only at *; omega))), hSw.mono (fun k _ hk => by first | exact hk | exact hk.1 | exact hk.1.1 | exact hk.1.1.1), hb9, hb4, (by omega), hV, HC⟩
    ·
      have c1 := of_decide_eq_false c1
      refine wc_exit ?_
      refine x_then_exit ?_
      refine x_then_exit ?_
      refine x_in_here ?_
      refine x_seq ?_
      refine wc_seq ?_
      refine wc_region ?_
      refine wl rfl rfl rfl (p_ldA (cs := (([.slice A l c, .bool true] ++ ((List.map u8v u15) ++ (List.map u8v v15))) : List Value)) Tryd.underlying49 rfl (szL sz49 (by first | rfl | (simp only [List.length_append, List.length_map, List.length_cons, List.length_nil, (show List.length u15 = 32 from hu15), (show List.length v15 = 32 from hv15)]; done) | (simp only [List.length_append, List.length_map, List.length_cons, List.length_nil, List.size_toArray, (show List.length u15 = 32 from hu15), (show List.length v15 = 32 from hv15)]; done))) rfl (fun _ e => e ▸ rngL hb9)) ?_
      refine wle rfl (e_stW (vs := (([.slice A l c, .bool true] ++ ((List.map u8v u15) ++ (List.map u8v v15))) : List Value)) (szL sz49 (by first | rfl | (simp only [List.length_append, List.length_map, List.length_cons, List.length_nil, (show List.length u15 = 32 from hu15), (show List.length v15 = 32 from hv15)]; done) | (simp only [List.length_append, List.length_map, List.length_cons, List.length_nil, List.size_toArray, (show List.length u15 = 32 from hu15), (show List.length v15 = 32 from hv15)]; done))) (oneA (allOne rfl) (oneA (oneL one_u8 _) (oneL one_u8 _))) rfl rfl hb4 (by first | rfl | (simp only [List.length_append, List.length_map, List.length_cons, List.length_nil, (show List.length (List.replicate 32 (0 : UInt8)) = 32 from (List.length_replicate ..)), (show List.length (List.replicate 32 (0 : UInt8)) = 32 from (List.length_replicate ..)), (show List.length u15 = 32 from hu15), (show List.length v15 = 32 from hv15)]; done) | (simp only [List.length_append, List.length_map, List.length_cons, List.length_nil, List.size_toArray, (show List.length (List.replicate 32 (0 : UInt8)) = 32 from (List.length_replicate ..)), (show List.length (List.replicate 32 (0 : UInt8)) = 32 from (List.length_replicate ..)), (show List.length u15 = 32 from hu15), (show List.length v15 = 32 from hv15)]; done)) (fun w18 hb4 hc hsz => ?_))
      have hzw18 := hc.size
      have HC := HC.trans hc (fun _ _ h => h) (fun k hk ht => absurd ht (by omega))
      have hW := hW.ch hc (by intro k hz hk ht; first | omega | (dsimp only at *; omega))
      first | have hSw := hSw.ch hc (by intro k hk ht; first | omega | (dsimp only at *; omega)) | have hSw := hSw.chT hc (by intro k hz hk ht; first | omega | (dsimp only at *; omega))
      have hb9 := hb9.ch hc (by omega)
      have hV := hV.ch hc (by first | exact fun _ _ _ h => h | (intro k hk hF ht; have h2 : k < w.heap.size := hF.2; first | omega | (dsimp only at *; omega)))
      refine wl_nil ?_
      refine x_seq ?_
      refine wc_ret ?_
      refine fin_run (resC (cs := (([.slice A l c, .bool true] ++ ((List.map u8v u15) ++ (List.map u8v v15))) : List Value)) rfl rfl Tryd.underlying49 rfl (szL sz49 (by first | rfl | (simp only [List.length_append, List.length_map, List.length_cons, List.length_nil, (show List.length u15 = 32 from hu15), (show List.length v15 = 32 from hv15)]; done) | (simp only [List.length_append, List.length_map, List.length_cons, List.length_nil, List.size_toArray, (show List.length u15 = 32 from hu15), (show List.length v15 = 32 from hv15)]; done))) (rngL hb4)) ?_
      rw [List.take_of_length_le (by omega)] at hW
      exact ⟨A, l, c, _, _, _, rfl, hu15, hv15, hW.mono (fun k _ hk => by first | omega | (dsimp only at *; omega)), by rw [← hen15, show ok15 = true from by simpa using hokt], HC, Fil.ofO hV0.ot HC (fun t e => hV.lat t e), hV0.adsB, hV0.adsF⟩

set_option maxHeartbeats 1000000 in
set_option maxRecDepth 20000 in
theorem rprove_some {w : World} {Am : Option Addr} {lm cm : Nat} {Fm : Nat → Prop} {t : Tr} {k : List UInt8} (hm : SI w Fm eIT Am lm cm t.items) (hw : t.WF) (hk : k.length = 32) (hl : lm ≤ 1000000) :
    Calls Tryd.prog 54 #[.slice Am lm cm, hv k] w fun e w' => ∃ A l c lf u x, e = .returned (.agg (([.slice A l c, .bool lf] ++ (List.map u8v u ++ List.map u8v x)) : List Value).toArray) ∧ u.length = 32 ∧ x.length = 32 ∧ RI w' (fun k => w.heap.size ≤ k) 125 eST A l c (wayT (some t) k) ∧ (u, x, lf) = endT (some t) k ∧ Ch No w w' := by
  have hml := hm.len
  have hm := hm.old
  have HC : Ch No w w := Ch.refl _ _
  refine enter' (args := [.slice Am lm cm, hv k]) (n := 63) Tryd.func54 rfl rfl rfl ?_
  refine wc_seq ?_
  refine wc_region ?_
  refine wle rfl (e_box (cs := (List.map u8v k).toArray) rfl rfl rfl (fun w1 g3 hg3 hb3 hc hsz3 => ?_))
  have hzw1 := hc.size
  have HC := HC.tr hc
  have hm := hm.no hc
  have hge3 : w.heap.size ≤ g3 := by have := HC.size; omega
  have hltg3 := hb3.lt
  refine wle rfl (e_alloc (cs := (([Value.slice none 0 0, Value.bool false] ++ ((List.map u8v (List.replicate 32 (0 : UInt8))) ++ (List.map u8v (List.replicate 32 (0 : UInt8))))) : List Value).toArray) rfl (by rfl) (by rfl) (fun w2 g4 hg4 hb4 hc hsz4 => ?_))
  have hzw2 := hc.size
  have HC := HC.tr hc
  have hm := hm.no hc
  have hb3 := hb3.ch hc (fun h => h)
  have hge4 : w.heap.size ≤ g4 := by have := HC.size; omega
  have neg3_4 : g3 < g4 := by omega
  refine wl_nil ?_
  refine x_seq ?_
  refine wc_seq ?_
  refine wc_region ?_
  have hltg3 := hb3.lt
  have hltg4 := hb4.lt
  refine wle rfl (e_alloc (cs := (([Value.slice none 0 0, Value.bool false] ++ ((List.map u8v (List.replicate 32 (0 : UInt8))) ++ (List.map u8v (List.replicate 32 (0 : UInt8))))) : List Value).toArray) rfl (by rfl) (by rfl) (fun w3 g5 hg5 hb5 hc hsz5 => ?_))
  have hzw3 := hc.size
  have HC := HC.tr hc
  have hm := hm.no hc
  have hb3 := hb3.ch hc (fun h => h)
  have hb4 := hb4.ch hc (fun h => h)
  have hge5 : w.heap.size ≤ g5 := by have := HC.size; omega
  have neg3_5 : g3 < g5 := by omega
  have neg4_5 : g4 < g5 := by omega
  refine wl_nil ?_
  refine x_seq ?_
  refine wc_seq ?_
  refine wc_block ?_
  obtain ⟨n9, hn9⟩ : ∃ x, x = w3.heap.size := ⟨_, rfl⟩
  refine wc_loop (e' := [(0, .slice (Am) (lm) (cm)), (3, .pointer (some ⟨g3, 0, none⟩)), (4, .pointer (some ⟨g4, 0, none⟩)), (5, .pointer (some ⟨g5, 0, none⟩))]) (fun mz ez uz => ∃ z : Tr, ∃ B : Option Addr, ∃ lz : Nat, ∃ cz : Nat, ∃ ys : List Stp, ∃ A : Option Addr, ∃ l : Nat, ∃ c : Nat, mz = z.size ∧ ez = [(0, .slice B lz cz), (3, .pointer (some ⟨g3, 0, none⟩)), (4, .pointer (some ⟨g4, 0, none⟩)), (5, .pointer (some ⟨g5, 0, none⟩))] ∧ (SI uz (fun k => k < w.heap.size) eIT B lz cz z.items) ∧ (z.WF) ∧ (lz ≤ 1000000 ∧ l + lz ≤ 1000001) ∧ (t.find k = z.find k) ∧ (t.way k = ys ++ z.way k) ∧ (RI uz (fun k => n9 ≤ k) 125 eST A l c ys) ∧ (Blk uz g3 38 (List.map u8v k).toArray) ∧ (Blk uz g4 45 (([Value.slice none 0 0, Value.bool false] ++ ((List.map u8v (List.replicate 32 (0 : UInt8))) ++ (List.map u8v (List.replicate 32 (0 : UInt8))))) : List Value).toArray) ∧ (Blk uz g5 45 (([.slice A l c, .bool false] ++ ((List.map u8v (List.replicate 32 (0 : UInt8))) ++ (List.map u8v (List.replicate 32 (0 : UInt8))))) : List Value).toArray) ∧ (w.heap.size ≤ g5 ∧ w.heap.size ≤ g4 ∧ w.heap.size ≤ g3 ∧ g3 < g4 ∧ g4 < g5 ∧ g5 < n9 ∧ w.heap.size ≤ n9 ∧ n9 ≤ uz.heap.size) ∧ (Ch No w uz))
    ⟨rfl, rfl, rfl, rfl, trivial⟩ ⟨t, Am, lm, cm, [], none, 0, 0, rfl, rfl, hm, hw, (by omega), rfl, rfl, RI.nil _ _ _ _, hb3, hb4, hb5, (by omega), HC⟩ ?_
  rintro m0 e w4 ⟨z, B, lz, cz, ys, A, l, c, hm0, rfl, hz, hwz, hlz1, hfd, hwy, hW, hb3, hb4, hb5, hg5, HC⟩
  have hzw4 := HC.size
  have hlt5 := hb5.lt
  have hlz := hz.len
  refine wc_seq ?_
  refine wc_seq ?_
  rcases z with ⟨k0, v0⟩ | ⟨b, x, y⟩
  ·
    have hzl := hz.len
    have hz1 : lz = 1 := hzl.symm
    refine wc_region ?_
    refine wl rfl rfl rfl (p_mv rfl) ?_
    refine wl rfl rfl rfl (p_lenS Tryd.underlying27 rfl) ?_
    refine wl rfl rfl rfl (p_gt rfl rfl) ?_
    refine wl_nil ?_
    refine x_seq ?_
    refine wc_no rfl (decide_eq_false (by omega)) ?_
    refine wc_exit ?_
    refine x_then_exit ?_
    refine x_then_exit ?_
    refine x_in_here ?_
    refine x_seq ?_
    refine wc_seq ?_
    refine wc_seq ?_
    refine wc_region ?_
    refine wl rfl rfl rfl (p_mv rfl) ?_
    refine wl rfl rfl rfl (p_lenS Tryd.underlying27 rfl) ?_
    refine wl rfl rfl rfl (p_eq rfl rfl) ?_
    refine wl_nil ?_
    refine x_seq ?_
    refine wc_yes rfl (decide_eq_true (by omega)) ?_
    refine wc_draw (.st 0 0 (.st 1 0 (.st 2 0 (.st 3 1 (.st 4 0 (.st 5 0 (.st 6 0 (.st 7 1 (.st 8 0 (.st 9 2 (.st 10 0 (.st 11 2 (.st 12 0 (.st 13 3 .nil)))))))))))))) 13 (by kernel_rfl) (by kernel_rfl) (by kernel_rfl) (by repeat (first | with_reducible exact pan_body | with_reducible apply pan_then | with_reducible apply pan_in)) (fun z => Ch (fun k => k = g5) w4.drew z) (Ch.refl _ _) ?_
    obtain ⟨w5, ew5⟩ : ∃ x, x = w4.drew := ⟨_, rfl⟩
    rw [← ew5]
    have hc : Ch No w4 w5 := by rw [ew5]; exact Ch.drew _
    have hszw5 : w5.heap.size = w4.heap.size := by rw [ew5]; rfl
    clear ew5
    have hzw5 := hc.size
    have HC := HC.tr hc
    have hz := hz.no hc
    have hW := hW.no hc
    have hb3 := hb3.ch hc (fun h => h)
    have hb4 := hb4.ch hc (fun h => h)
    have hb5 := hb5.ch hc (fun h => h)
    have hS : Ch (fun k => k = g5) w5 w5 := Ch.refl _ _
    refine ws_p rfl rfl rfl rfl (p_mv rfl) ?_
    obtain ⟨b6, o6, hA6, hF6, hr6⟩ := (hz).opn (i := 0) (d := (zeroH, zeroH)) (by omega)
    have hok6 := (hz).okAt (i := 0) (d := (zeroH, zeroH)) (by omega)
    obtain ⟨x6, ex6⟩ : ∃ x, x = List.getD (Tr.items (.leaf k0 v0)) (0) (zeroH, zeroH) := ⟨_, rfl⟩
    rw [← ex6] at hr6 hok6
    obtain ⟨hx6k, hx6v⟩ := hok6
    have hr6 : w5.rangeAt b6 (o6 + 0 * 64) (((List.map u8v x6.1) ++ (List.map u8v x6.2)) : List Value) := hr6
    refine ws_p rfl rfl rfl rfl (p_ixS (j := 0 * 64) Tryd.underlying27 sz81 rfl hA6 rfl (by omega) (by omega) rfl) ?_
    refine ws_p rfl rfl rfl rfl (p_fld (j := 0) Tryd.underlying81 rfl ⟨_, by rfl⟩ rfl rfl) ?_
    refine ws_h rfl rfl rfl rfl (p_ldA (cs := (List.map u8v x6.1)) Tryd.underlying38 rfl (szL sz38 (by first | rfl | (simp only [List.length_append, List.length_map, List.length_cons, List.length_nil, (show List.length x6.1 = 32 from hx6k)]; done) | (simp only [List.length_append, List.length_map, List.length_cons, List.length_nil, List.size_toArray, (show List.length x6.1 = 32 from hx6k)]; done))) rfl (fun _ h => rng_sub (q := (List.map u8v x6.1)) (p := []) (r := ((List.map u8v x6.2) : List Value)) (rng_ch hr6 h (fun ht => absurd ht (by have hq := hF6; first | omega | (dsimp only at *; omega)))) (by first | rfl | simp only [List.append_assoc, List.cons_append, List.nil_append, List.append_nil]) rfl)) ?_
    refine ws_p rfl rfl rfl rfl (p_mv rfl) ?_
    obtain ⟨b7, o7, hA7, hF7, hr7⟩ := (hz).opn (i := 0) (d := (zeroH, zeroH)) (by omega)
    have hok7 := (hz).okAt (i := 0) (d := (zeroH, zeroH)) (by omega)
    obtain ⟨x7, ex7⟩ : ∃ x, x = List.getD (Tr.items (.leaf k0 v0)) (0) (zeroH, zeroH) := ⟨_, rfl⟩
    rw [← ex7] at hr7 hok7
    obtain ⟨hx7k, hx7v⟩ := hok7
    have hr7 : w5.rangeAt b7 (o7 + 0 * 64) (((List.map u8v x7.1) ++ (List.map u8v x7.2)) : List Value) := hr7
    refine ws_p rfl rfl rfl rfl (p_ixS (j := 0 * 64) Tryd.underlying27 sz81 rfl hA7 rfl (by omega) (by omega) rfl) ?_
    refine ws_p rfl rfl rfl rfl (p_fld (j := 32) Tryd.underlying81 rfl ⟨_, by rfl⟩ rfl rfl) ?_
    refine ws_h rfl rfl rfl rfl (p_ldA (cs := (List.map u8v x7.2)) Tryd.underlying38 rfl (szL sz38 (by first | rfl | (simp only [List.length_append, List.length_map, List.length_cons, List.length_nil, (show List.length x7.2 = 32 from hx7v)]; done) | (simp only [List.length_append, List.length_map, List.length_cons, List.length_nil, List.size_toArray, (show List.length x7.2 = 32 from hx7v)]; done))) rfl (fun _ h => rng_sub (q := (List.map u8v x7.2)) (p := ((List.map u8v x7.1) : List Value)) (r := []) (rng_ch hr7 h (fun ht => absurd ht (by have hq := hF7; first | omega | (dsimp only at *; omega)))) (by first | rfl | simp only [List.append_assoc, List.cons_append, List.nil_append, List.append_nil]) (by first | rfl | (simp only [List.length_append, List.length_map, List.length_cons, List.length_nil, (show List.length x7.1 = 32 from hx7k)]; done) | (simp only [List.length_append, List.length_map, List.length_cons, List.length_nil, List.size_toArray, (show List.length x7.1 = 32 from hx7k)]; done)))) ?_
    refine ws_p rfl rfl rfl rfl (p_fld (j := 1) Tryd.underlying45 rfl ⟨_, by rfl⟩ rfl rfl) ?_
    refine ws_e rfl rfl (e_stC (p := ([.slice A l c] : List Value)) (u := (.bool false : Value)) (r := (((List.map u8v (List.replicate 32 (0 : UInt8))) ++ (List.map u8v (List.replicate 32 (0 : UInt8)))) : List Value)) (v := .bool true) (by rfl) rfl rfl rfl hb5 (by simp only [List.append_assoc, List.cons_append, List.nil_append, List.append_nil]) (by first | rfl | (simp only [List.length_append, List.length_map, List.length_cons, List.length_nil]; done) | (simp only [List.length_append, List.length_map, List.length_cons, List.length_nil, List.size_toArray]; done)) (fun w8 hb5 hc hsz => ⟨(hS.trans hc (fun _ _ h => h) (fun _ _ h => h)), ?_⟩))
    have hb5 : Blk w8 g5 45 (([.slice A l c, .bool true] ++ ((List.map u8v (List.replicate 32 (0 : UInt8))) ++ (List.map u8v (List.replicate 32 (0 : UInt8))))) : List Value).toArray := by have h := hb5; simp only [List.append_assoc, List.cons_append, List.nil_append, List.append_nil] at h ⊢; exact h
    have hzw8 := hc.size
    have HC := HC.trans hc (fun _ _ h => h) (fun k hk ht => absurd ht (by omega))
    first | have hz := hz.ch hc (by intro k hk ht; first | omega | (dsimp only at *; omega)) | have hz := hz.chT hc (by intro k hz hk ht; first | omega | (dsimp only at *; omega))
    have hW := hW.ch hc (by intro k hz hk ht; first | omega | (dsimp only at *; omega))
    have hb3 := hb3.ch hc (by omega)
    have hb4 := hb4.ch hc (by omega)
    have hS := (hS.trans hc (fun _ _ h => h) (fun _ _ h => h))
    refine ws_p rfl rfl rfl rfl (p_fld (j := 2) Tryd.underlying45 rfl ⟨_, by rfl⟩ rfl rfl) ?_
    refine ws_e rfl rfl (e_stR2 (p := ([.slice A l c, .bool true] : List Value)) (q := ((List.map u8v (List.replicate 32 (0 : UInt8))) : List Value)) (r := ((List.map u8v (List.replicate 32 (0 : UInt8))) : List Value)) (vs := ((List.map u8v x6.1) : List Value)) (szL sz38 (by first | rfl | (simp only [List.length_append, List.length_map, List.length_cons, List.length_nil, (show List.length x6.1 = 32 from hx6k)]; done) | (simp only [List.length_append, List.length_map, List.length_cons, List.length_nil, List.size_toArray, (show List.length x6.1 = 32 from hx6k)]; done))) (oneL one_u8 _) rfl rfl hb5 (by simp only [List.append_assoc, List.cons_append, List.nil_append, List.append_nil]) (by first | rfl | (simp only [List.length_append, List.length_map, List.length_cons, List.length_nil]; done) | (simp only [List.length_append, List.length_map, List.length_cons, List.length_nil, List.size_toArray]; done)) (by first | rfl | (simp only [List.length_append, List.length_map, List.length_cons, List.length_nil, (show List.length x6.1 = 32 from hx6k), (show List.length (List.replicate 32 (0 : UInt8)) = 32 from (List.length_replicate ..))]; done) | (simp only [List.length_append, List.length_map, List.length_cons, List.length_nil, List.size_toArray, (show List.length x6.1 = 32 from hx6k), (show List.length (List.replicate 32 (0 : UInt8)) = 32 from (List.length_replicate ..))]; done)) (fun w9 hb5 hc hsz => ⟨(hS.trans hc (fun _ _ h => h) (fun _ _ h => h)), ?_⟩))
    have hb5 : Blk w9 g5 45 (([.slice A l c, .bool true] ++ ((List.map u8v x6.1) ++ (List.map u8v (List.replicate 32 (0 : UInt8))))) : List Value).toArray := by have h := hb5; simp only [List.append_assoc, List.cons_append, List.nil_append, List.append_nil] at h ⊢; exact h
    have hzw9 := hc.size
    have HC := HC.trans hc (fun _ _ h => h) (fun k hk ht => absurd ht (by omega))
    first | have hz := hz.ch hc (by intro k hk ht; first | omega | (dsimp only at *; omega)) | have hz := hz.chT hc (by intro k hz hk ht; first | omega | (dsimp only at *; omega))
    have hW := hW.ch hc (by intro k hz hk ht; first | omega | (dsimp only at *; omega))
    have hb3 := hb3.ch hc (by omega)
    have hb4 := hb4.ch hc (by omega)
    have hS := (hS.trans hc (fun _ _ h => h) (fun _ _ h => h))
    refine ws_p rfl rfl rfl rfl (p_fld (j := 34) Tryd.underlying45 rfl ⟨_, by rfl⟩ rfl rfl) ?_
    refine ws_l rfl rfl (e_stR2 (p := (([.slice A l c, .bool true] ++ (List.map u8v x6.1)) : List Value)) (q := ((List.map u8v (List.replicate 32 (0 : UInt8))) : List Value)) (r := []) (vs := ((List.map u8v x7.2) : List Value)) (szL sz38 (by first | rfl | (simp only [List.length_append, List.length_map, List.length_cons, List.length_nil, (show List.length x7.2 = 32 from hx7v)]; done) | (simp only [List.length_append, List.length_map, List.length_cons, List.length_nil, List.size_toArray, (show List.length x7.2 = 32 from hx7v)]; done))) (oneL one_u8 _) rfl rfl hb5 (by simp only [List.append_assoc, List.cons_append, List.nil_append, List.append_nil]) (by first | rfl | (simp only [List.length_append, List.length_map, List.length_cons, List.length_nil, (show List.length x6.1 = 32 from hx6k)]; done) | (simp only [List.length_append, List.length_map, List.length_cons, List.length_nil, List.size_toArray, (show List.length x6.1 = 32 from hx6k)]; done)) (by first | rfl | (simp only [List.length_append, List.length_map, List.length_cons, List.length_nil, (show List.length x7.2 = 32 from hx7v), (show List.length (List.replicate 32 (0 : UInt8)) = 32 from (List.length_replicate ..))]; done) | (simp only [List.length_append, List.length_map, List.length_cons, List.length_nil, List.size_toArray, (show List.length x7.2 = 32 from hx7v), (show List.length (List.replicate 32 (0 : UInt8)) = 32 from (List.length_replicate ..))]; done)) (fun w10 hb5 hc hsz => ?_))
    have hb5 : Blk w10 g5 45 (([.slice A l c, .bool true] ++ ((List.map u8v x6.1) ++ (List.map u8v x7.2))) : List Value).toArray := by have h := hb5; simp only [List.append_assoc, List.cons_append, List.nil_append, List.append_nil] at h ⊢; exact h
    have hzw10 := hc.size
    have HC := HC.trans hc (fun _ _ h => h) (fun k hk ht => absurd ht (by omega))
    first | have hz := hz.ch hc (by intro k hk ht; first | omega | (dsimp only at *; omega)) | have hz := hz.chT hc (by intro k hz hk ht; first | omega | (dsimp only at *; omega))
    have hW := hW.ch hc (by intro k hz hk ht; first | omega | (dsimp only at *; omega))
    have hb3 := hb3.ch hc (by omega)
    have hb4 := hb4.ch hc (by omega)
    refine ws_n ?_
    refine x_seq ?_
    refine wc_seq ?_
    refine wc_region ?_
    refine wl rfl rfl rfl (p_ldA (cs := (([.slice A l c, .bool true] ++ ((List.map u8v x6.1) ++ (List.map u8v x7.2))) : List Value)) Tryd.underlying45 rfl (szL sz45 (by first | rfl | (simp only [List.length_append, List.length_map, List.length_cons, List.length_nil, (show List.length x6.1 = 32 from hx6k), (show List.length x7.2 = 32 from hx7v)]; done) | (simp only [List.length_append, List.length_map, List.length_cons, List.length_nil, List.size_toArray, (show List.length x6.1 = 32 from hx6k), (show List.length x7.2 = 32 from hx7v)]; done))) rfl (fun _ e => e ▸ rngL hb5)) ?_
    refine wle rfl (e_stW (vs := (([.slice A l c, .bool true] ++ ((List.map u8v x6.1) ++ (List.map u8v x7.2))) : List Value)) (szL sz45 (by first | rfl | (simp only [List.length_append, List.length_map, List.length_cons, List.length_nil, (show List.length x6.1 = 32 from hx6k), (show List.length x7.2 = 32 from hx7v)]; done) | (simp only [List.length_append, List.length_map, List.length_cons, List.length_nil, List.size_toArray, (show List.length x6.1 = 32 from hx6k), (show List.length x7.2 = 32 from hx7v)]; done))) (oneA (allOne rfl) (oneA (oneL one_u8 _) (oneL one_u8 _))) rfl rfl hb4 (by first | rfl | (simp only [List.length_append, List.length_map, List.length_cons, List.length_nil, (show List.length (List.replicate 32 (0 : UInt8)) = 32 from (List.length_replicate ..)), (show List.length (List.replicate 32 (0 : UInt8)) = 32 from (List.length_replicate ..)), (show List.length x6.1 = 32 from hx6k), (show List.length x7.2 = 32 from hx7v)]; done) | (simp only [List.length_append, List.length_map, List.length_cons, List.length_nil, List.size_toArray, (show List.length (List.replicate 32 (0 : UInt8)) = 32 from (List.length_replicate ..)), (show List.length (List.replicate 32 (0 : UInt8)) = 32 from (List.length_replicate ..)), (show List.length x6.1 = 32 from hx6k), (show List.length x7.2 = 32 from hx7v)]; done)) (fun w11 hb4 hc hsz => ?_))
    have hzw11 := hc.size
    have HC := HC.trans hc (fun _ _ h => h) (fun k hk ht => absurd ht (by omega))
    first | have hz := hz.ch hc (by intro k hk ht; first | omega | (dsimp only at *; omega)) | have hz := hz.chT hc (by intro k hz hk ht; first | omega | (dsimp only at *; omega))
    have hW := hW.ch hc (by intro k hz hk ht; first | omega | (dsimp only at *; omega))
    have hb3 := hb3.ch hc (by omega)
    have hb5 := hb5.ch hc (by omega)
    refine wl_nil ?_
    refine x_seq ?_
    refine wc_ret ?_
    refine fin_run (resC (cs := (([.slice A l c, .bool true] ++ ((List.map u8v x6.1) ++ (List.map u8v x7.2))) : List Value)) rfl rfl Tryd.underlying45 rfl (szL sz45 (by first | rfl | (simp only [List.length_append, List.length_map, List.length_cons, List.length_nil, (show List.length x6.1 = 32 from hx6k), (show List.length x7.2 = 32 from hx7v)]; done) | (simp only [List.length_append, List.length_map, List.length_cons, List.length_nil, List.size_toArray, (show List.length x6.1 = 32 from hx6k), (show List.length x7.2 = 32 from hx7v)]; done))) (rngL hb4)) ?_
    have hx1 : x6 = (k0, v0) := ex6
    have hx2 : x7 = (k0, v0) := ex7
    have hwy3 : t.way k = ys := by rw [hwy]; show _ ++ Tr.way (.leaf k0 v0) k = _; rw [Tr.way, List.append_nil]
    have hen : (x6.1, x7.2, true) = endT (some t) k := by rw [hx1, hx2]; show _ = ((t.find k).1, (t.find k).2, true); rw [hfd]; rfl
    refine ⟨A, l, c, true, _, _, rfl, hx6k, hx7v, ?_, hen, HC⟩
    show RI _ _ _ _ _ _ _ (t.way k)
    rw [hwy3]; exact hW.mono (fun k _ hk => by first | omega | (dsimp only at *; omega))
  ·
    have hzl := hz.len
    obtain ⟨hc1, hc2, hc3⟩ := cut_fork hwz
    have hwzx := hwz.2.1
    have hwzy := hwz.2.2.1
    have px := Tr.cnt_pos x
    have py := Tr.cnt_pos y
    refine wc_region ?_
    refine wl rfl rfl rfl (p_mv rfl) ?_
    refine wl rfl rfl rfl (p_lenS Tryd.underlying27 rfl) ?_
    refine wl rfl rfl rfl (p_gt rfl rfl) ?_
    refine wl_nil ?_
    refine x_seq ?_
    refine wc_yes rfl (decide_eq_true (by omega)) ?_
    refine wc_skip ?_
    refine x_seq ?_
    refine wc_block ?_
    refine wc_seq ?_
    refine wc_region ?_
    refine wl rfl rfl rfl (p_mv rfl) ?_
    refine wle rfl (e_call ent86 rfl rfl (rcut_any (hz) (by omega) (by omega)) ?_)
    rintro _ w12 ⟨i13, n13, rfl, hi13, hn13, hc⟩
    refine ⟨_, rfl, ?_⟩
    have hzw12 := hc.size
    have HC := HC.tr hc
    have hz := hz.no hc
    have hW := hW.after hc
    have hb3 := hb3.ch hc (fun h => h)
    have hb4 := hb4.ch hc (fun h => h)
    have hb5 := hb5.ch hc (fun h => h)
    have hib : i13 = b := hi13.trans hc1
    have hnx : n13 = x.cnt := by rw [hn13, hib]; exact hc2
    refine wl rfl rfl rfl (p_mv rfl) ?_
    refine wl rfl rfl rfl (p_ext rfl rfl) ?_
    refine wl rfl rfl rfl (p_ext rfl rfl) ?_
    refine wl rfl rfl rfl (p_as rfl) ?_
    refine wl rfl rfl rfl (p_as rfl) ?_
    refine wl_nil ?_
    refine x_seq ?_
    refine wc_seq ?_
    refine wc_region ?_
    refine wl rfl rfl rfl (p_ldA (cs := List.map u8v k) Tryd.underlying38 rfl (szL sz38 (by rw [List.length_map]; exact hk)) rfl (fun _ e => e ▸ rngL hb3)) ?_
    refine wl rfl rfl rfl (p_mv rfl) ?_
    refine wle rfl (e_call ent39 rfl rfl (rbitN_any (n := i13) (hk)) ?_)
    rintro _ w13 ⟨rfl, hc⟩
    refine ⟨_, rfl, ?_⟩
    have hzw13 := hc.size
    have HC := HC.tr hc
    have hz := hz.no hc
    have hW := hW.after hc
    have hb3 := hb3.ch hc (fun h => h)
    have hb4 := hb4.ch hc (fun h => h)
    have hb5 := hb5.ch hc (fun h => h)
    refine wl rfl rfl rfl (p_eq rfl rfl) ?_
    refine wl_nil ?_
    refine x_seq ?_
    refine wc_if rfl (fun c1 => ?_) (fun c1 => ?_)
    ·
      have c1 := of_decide_eq_true c1
      refine wc_seq ?_
      refine wc_draw (.st 0 0 (.st 1 1 (.st 2 0 (.st 3 0 (.st 4 0 (.st 5 0 (.st 6 2 (.st 7 0 (.st 8 2 (.st 9 3 (.st 10 0 (.st 11 3 .nil)))))))))))) 9 (by kernel_rfl) (by kernel_rfl) (by kernel_rfl) (by repeat (first | with_reducible exact pan_body | with_reducible apply pan_then | with_reducible apply pan_in)) (fun x => Ch No w13.drew x) (Ch.refl _ _) ?_
      obtain ⟨w14, ew14⟩ : ∃ x, x = w13.drew := ⟨_, rfl⟩
      rw [← ew14]
      have hc : Ch No w13 w14 := by rw [ew14]; exact Ch.drew _
      have hszw14 : w14.heap.size = w13.heap.size := by rw [ew14]; rfl
      clear ew14
      have hzw14 := hc.size
      have HC := HC.tr hc
      have hz := hz.no hc
      have hW := hW.no hc
      have hb3 := hb3.ch hc (fun h => h)
      have hb4 := hb4.ch hc (fun h => h)
      have hb5 := hb5.ch hc (fun h => h)
      have hS : Ch No w14 w14 := Ch.refl _ _
      refine ws_p rfl rfl rfl rfl (p_fld (j := 0) Tryd.underlying45 rfl ⟨_, by rfl⟩ rfl rfl) ?_
      refine ws_h rfl rfl rfl rfl (p_ld Tryd.underlying43 rfl rfl (fun _ h => h.cell (fun h => h) (cell_at (p := []) (v := (.slice A l c : Value)) (r := (([.bool false] ++ ((List.map u8v (List.replicate 32 (0 : UInt8))) ++ (List.map u8v (List.replicate 32 (0 : UInt8))))) : List Value)) hb5 (by simp only [List.append_assoc, List.cons_append, List.nil_append, List.append_nil]) (by first | rfl | (simp only [List.length_append, List.length_map, List.length_cons, List.length_nil]; done) | (simp only [List.length_append, List.length_map, List.length_cons, List.length_nil, List.size_toArray]; done))))) ?_
      refine ws_p rfl rfl rfl rfl (p_mv rfl) ?_
      refine ws_p rfl rfl rfl rfl (p_mv rfl) ?_
      refine ws_p rfl rfl rfl rfl (p_mv rfl) ?_
      have hS25 : SI w14 (fun k => k < w.heap.size) eIT (cutA B cz n13 64) (lz - n13) (cz - n13) (Tr.items y) := by have h := hz.cutTo (lo := n13) (by omega); rw [hnx, fork_drop] at h; rw [hnx]; exact h
      refine ws_p rfl rfl rfl rfl (p_slS (l := n13) (h := lz) Tryd.underlying27 sz81 rfl ⟨_, rfl⟩ rfl (by omega) (by have := hz.cap; omega) hz.cap (q := lz - n13) (by omega)) ?_
      refine ws_e rfl rfl (e_call ent50 rfl rfl (rroot_any _ hS25 hwzy (by omega)) ?_)
      rintro _ w15 ⟨rfl, hc⟩
      refine ⟨_, rfl, hc, ?_⟩
      have hzw15 := hc.size
      have HC := HC.tr hc
      have hz := hz.no hc
      have hW := hW.after hc
      have hb3 := hb3.ch hc (fun h => h)
      have hb4 := hb4.ch hc (fun h => h)
      have hb5 := hb5.ch hc (fun h => h)
      have hS25 := hS25.no hc
      refine ws_narrow (S' := fun x => Ch No w15 x) (Ch.refl _ _) (fun x h => hc.tr h) ?_
      refine ws_p rfl rfl rfl rfl (p_bldX (vs' := [i64 (i13 : Int), (.agg ((hx (Tr.root y)) : List Value).toArray)]) (cs := (([i64 (i13 : Int)] ++ (List.map u8v (Tr.root y))) : List Value)) (cs' := (([i64 (i13 : Int)] ++ (hx (Tr.root y))) : List Value)) rfl (by simp only [hv, map_hx Tr.root_len] <;> rfl) (by simp only [hv, map_hx Tr.root_len] <;> rfl) (fun _ => by kernel_rfl)) ?_
      have hltg3 := hb3.lt
      have hltg4 := hb4.lt
      have hltg5 := hb5.lt
      refine ws_e rfl rfl (e_bslX (E := 125) (cs := (([i64 (i13 : Int)] ++ (List.map u8v (Tr.root y))) : List Value)) (cs' := (([i64 (i13 : Int)] ++ (hx (Tr.root y))) : List Value)) rfl rfl (by simp only [hv, map_hx Tr.root_len] <;> rfl) (fun _ => by kernel_rfl) (fun w16 g28 hg28 hb28 hc hsz28 => ⟨hc, ?_⟩))
      have hzw16 := hc.size
      have HC := HC.tr hc
      have hz := hz.no hc
      have hW := hW.after hc
      have hb3 := hb3.ch hc (fun h => h)
      have hb4 := hb4.ch hc (fun h => h)
      have hb5 := hb5.ch hc (fun h => h)
      have hS25 := hS25.no hc
      have hge28 : w.heap.size ≤ g28 := by have := HC.size; omega
      have hS28 := SI.oneA (E := eST) (x := ⟨(i13 : Int), (Tr.root y)⟩) hb28 rfl Tr.root_len
      refine ws_narrow (S' := fun x => Ch No w16 x) (Ch.refl _ _) (fun x h => hc.tr h) ?_
      have hltg3 := hb3.lt
      have hltg4 := hb4.lt
      have hltg5 := hb5.lt
      refine ws_l rfl rfl (e_appI rfl el43 rfl rfl hW (hS28) (by omega) (by intro k hk; first | omega | (dsimp only at *; omega)) (fun w17 A29 c29 hW hc => ?_))
      have hzw17 := hc.size
      have HC := HC.trans hc (fun _ _ h => h) (fun k hk ht => absurd ht (by first | omega | (dsimp only at *; omega)))
      first | have hz := hz.ch hc (by intro k hk ht; first | omega | (dsimp only at *; omega)) | have hz := hz.chT hc (by intro k hz hk ht; first | omega | (dsimp only at *; omega))
      have hb3 := hb3.ch hc (by first | omega | (dsimp only; omega))
      have hb4 := hb4.ch hc (by first | omega | (dsimp only; omega))
      have hb5 := hb5.ch hc (by first | omega | (dsimp only; omega))
      first | have hS25 := hS25.ch hc (by intro k hk ht; first | omega | (dsimp only at *; omega)) | have hS25 := hS25.chT hc (by intro k hz hk ht; first | omega | (dsimp only at *; omega))
      first | have hS28 := hS28.ch hc (by intro k hk ht; first | omega | (dsimp only at *; omega)) | have hS28 := hS28.chT hc (by intro k hz hk ht; first | omega | (dsimp only at *; omega))
      refine ws_p rfl rfl rfl rfl (p_fld (j := 0) Tryd.underlying45 rfl ⟨_, by rfl⟩ rfl rfl) ?_
      refine ws_l rfl rfl (e_stC (p := []) (u := (.slice A l c : Value)) (r := (([.bool false] ++ ((List.map u8v (List.replicate 32 (0 : UInt8))) ++ (List.map u8v (List.replicate 32 (0 : UInt8))))) : List Value)) (v := .slice A29 (l + 1) c29) (by rfl) rfl rfl rfl hb5 (by simp only [List.append_assoc, List.cons_append, List.nil_append, List.append_nil]) (by first | rfl | (simp only [List.length_append, List.length_map, List.length_cons, List.length_nil]; done) | (simp only [List.length_append, List.length_map, List.length_cons, List.length_nil, List.size_toArray]; done)) (fun w18 hb5 hc hsz => ?_))
      have hb5 : Blk w18 g5 45 (([.slice A29 (l + 1) c29, .bool false] ++ ((List.map u8v (List.replicate 32 (0 : UInt8))) ++ (List.map u8v (List.replicate 32 (0 : UInt8))))) : List Value).toArray := by have h := hb5; simp only [List.append_assoc, List.cons_append, List.nil_append, List.append_nil] at h ⊢; exact h
      have hzw18 := hc.size
      have HC := HC.trans hc (fun _ _ h => h) (fun k hk ht => absurd ht (by omega))
      first | have hz := hz.ch hc (by intro k hk ht; first | omega | (dsimp only at *; omega)) | have hz := hz.chT hc (by intro k hz hk ht; first | omega | (dsimp only at *; omega))
      have hW := hW.ch hc (by intro k hz hk ht; first | omega | (dsimp only at *; omega))
      have hb3 := hb3.ch hc (by omega)
      have hb4 := hb4.ch hc (by omega)
      first | have hS25 := hS25.ch hc (by intro k hk ht; first | omega | (dsimp only at *; omega)) | have hS25 := hS25.chT hc (by intro k hz hk ht; first | omega | (dsimp only at *; omega))
      first | have hS28 := hS28.ch hc (by intro k hk ht; first | omega | (dsimp only at *; omega)) | have hS28 := hS28.chT hc (by intro k hz hk ht; first | omega | (dsimp only at *; omega))
      refine ws_n ?_
      refine x_seq ?_
      refine wc_region ?_
      refine wl rfl rfl rfl (p_mv rfl) ?_
      refine wl rfl rfl rfl (p_mv rfl) ?_
      have hS33 : SI w18 (fun k => k < w.heap.size) eIT (cutA B cz 0 64) n13 (cz - 0) (Tr.items x) := by have h := hz.cut (lo := 0) (hi := n13) (q := n13) (by omega) (by omega) (by omega); rw [List.drop_zero, hnx, fork_take] at h; rw [hnx]; exact h
      refine wl rfl rfl rfl (p_slS (l := 0) (h := n13) Tryd.underlying27 sz81 rfl rfl ⟨_, rfl⟩ (by omega) (by have := hz.cap; omega) hz.cap (q := n13) (by omega)) ?_
      refine wl rfl rfl rfl (p_as rfl) ?_
      refine wl_nil ?_
      refine x_in_normal ?_
      refine x_round (e' := [(0, .slice (_) (_) (_)), (3, .pointer (some ⟨g3, 0, none⟩)), (4, .pointer (some ⟨g4, 0, none⟩)), (5, .pointer (some ⟨g5, 0, none⟩))]) ⟨rfl, rfl, rfl, rfl, trivial⟩ (by rw [hm0]; (show _ < Tr.size _; simp only [Tr.size]; omega)) ⟨x, _, _, _, _, _, _, _, rfl, rfl, hS33, hwzx, (by omega), (by rw [hfd]; show Tr.find (.fork b x y) k = _; rw [Tr.find]; first | rw [if_pos (by rw [← hib]; omega)] | rw [if_neg (by rw [← hib]; omega)]), (by rw [hwy, hib]; show _ ++ Tr.way (.fork b x y) k = _; rw [Tr.way]; first | rw [if_pos (by rw [← hib]; omega), List.append_assoc]; rfl | rw [if_neg (by rw [← hib]; omega), List.append_assoc]; rfl), hW.mono (fun k _ hk => by first | omega | (dsimp only at *; omega)), hb3, hb4, hb5, (by omega), HC⟩
    ·
      have c1 := of_decide_eq_false c1
      refine wc_seq ?_
      refine wc_draw (.st 0 0 (.st 1 1 (.st 2 0 (.st 3 0 (.st 4 0 (.st 5 0 (.st 6 2 (.st 7 0 (.st 8 2 (.st 9 3 (.st 10 0 (.st 11 3 .nil)))))))))))) 9 (by kernel_rfl) (by kernel_rfl) (by kernel_rfl) (by repeat (first | with_reducible exact pan_body | with_reducible apply pan_then | with_reducible apply pan_in)) (fun x => Ch No w13.drew x) (Ch.refl _ _) ?_
      obtain ⟨w19, ew19⟩ : ∃ x, x = w13.drew := ⟨_, rfl⟩
      rw [← ew19]
      have hc : Ch No w13 w19 := by rw [ew19]; exact Ch.drew _
      have hszw19 : w19.heap.size = w13.heap.size := by rw [ew19]; rfl
      clear ew19
      have hzw19 := hc.size
      have HC := HC.tr hc
      have hz := hz.no hc
      have hW := hW.no hc
      have hb3 := hb3.ch hc (fun h => h)
      have hb4 := hb4.ch hc (fun h => h)
      have hb5 := hb5.ch hc (fun h => h)
      have hS : Ch No w19 w19 := Ch.refl _ _
      refine ws_p rfl rfl rfl rfl (p_fld (j := 0) Tryd.underlying45 rfl ⟨_, by rfl⟩ rfl rfl) ?_
      refine ws_h rfl rfl rfl rfl (p_ld Tryd.underlying43 rfl rfl (fun _ h => h.cell (fun h => h) (cell_at (p := []) (v := (.slice A l c : Value)) (r := (([.bool false] ++ ((List.map u8v (List.replicate 32 (0 : UInt8))) ++ (List.map u8v (List.replicate 32 (0 : UInt8))))) : List Value)) hb5 (by simp only [List.append_assoc, List.cons_append, List.nil_append, List.append_nil]) (by first | rfl | (simp only [List.length_append, List.length_map, List.length_cons, List.length_nil]; done) | (simp only [List.length_append, List.length_map, List.length_cons, List.length_nil, List.size_toArray]; done))))) ?_
      refine ws_p rfl rfl rfl rfl (p_mv rfl) ?_
      refine ws_p rfl rfl rfl rfl (p_mv rfl) ?_
      refine ws_p rfl rfl rfl rfl (p_mv rfl) ?_
      have hS39 : SI w19 (fun k => k < w.heap.size) eIT (cutA B cz 0 64) n13 (cz - 0) (Tr.items x) := by have h := hz.cut (lo := 0) (hi := n13) (q := n13) (by omega) (by omega) (by omega); rw [List.drop_zero, hnx, fork_take] at h; rw [hnx]; exact h
      refine ws_p rfl rfl rfl rfl (p_slS (l := 0) (h := n13) Tryd.underlying27 sz81 rfl rfl ⟨_, rfl⟩ (by omega) (by have := hz.cap; omega) hz.cap (q := n13) (by omega)) ?_
      refine ws_e rfl rfl (e_call ent50 rfl rfl (rroot_any _ hS39 hwzx (by omega)) ?_)
      rintro _ w20 ⟨rfl, hc⟩
      refine ⟨_, rfl, hc, ?_⟩
      have hzw20 := hc.size
      have HC := HC.tr hc
      have hz := hz.no hc
      have hW := hW.after hc
      have hb3 := hb3.ch hc (fun h => h)
      have hb4 := hb4.ch hc (fun h => h)
      have hb5 := hb5.ch hc (fun h => h)
      have hS39 := hS39.no hc
      refine ws_narrow (S' := fun x => Ch No w20 x) (Ch.refl _ _) (fun x h => hc.tr h) ?_
      refine ws_p rfl rfl rfl rfl (p_bldX (vs' := [i64 (i13 : Int), (.agg ((hx (Tr.root x)) : List Value).toArray)]) (cs := (([i64 (i13 : Int)] ++ (List.map u8v (Tr.root x))) : List Value)) (cs' := (([i64 (i13 : Int)] ++ (hx (Tr.root x))) : List Value)) rfl (by simp only [hv, map_hx Tr.root_len] <;> rfl) (by simp only [hv, map_hx Tr.root_len] <;> rfl) (fun _ => by kernel_rfl)) ?_
      have hltg3 := hb3.lt
      have hltg4 := hb4.lt
      have hltg5 := hb5.lt
      refine ws_e rfl rfl (e_bslX (E := 125) (cs := (([i64 (i13 : Int)] ++ (List.map u8v (Tr.root x))) : List Value)) (cs' := (([i64 (i13 : Int)] ++ (hx (Tr.root x))) : List Value)) rfl rfl (by simp only [hv, map_hx Tr.root_len] <;> rfl) (fun _ => by kernel_rfl) (fun w21 g42 hg42 hb42 hc hsz42 => ⟨hc, ?_⟩))
      have hzw21 := hc.size
      have HC := HC.tr hc
      have hz := hz.no hc
      have hW := hW.after hc
      have hb3 := hb3.ch hc (fun h => h)
      have hb4 := hb4.ch hc (fun h => h)
      have hb5 := hb5.ch hc (fun h => h)
      have hS39 := hS39.no hc
      have hge42 : w.heap.size ≤ g42 := by have := HC.size; omega
      have hS42 := SI.oneA (E := eST) (x := ⟨(i13 : Int), (Tr.root x)⟩) hb42 rfl Tr.root_len
      refine ws_narrow (S' := fun x => Ch No w21 x) (Ch.refl _ _) (fun x h => hc.tr h) ?_
      have hltg3 := hb3.lt
      have hltg4 := hb4.lt
      have hltg5 := hb5.lt
      refine ws_l rfl rfl (e_appI rfl el43 rfl rfl hW (hS42) (by omega) (by intro k hk; first | omega | (dsimp only at *; omega)) (fun w22 A43 c43 hW hc => ?_))
      have hzw22 := hc.size
      have HC := HC.trans hc (fun _ _ h => h) (fun k hk ht => absurd ht (by first | omega | (dsimp only at *; omega)))
      first | have hz := hz.ch hc (by intro k hk ht; first | omega | (dsimp only at *; omega)) | have hz := hz.chT hc (by intro k hz hk ht; first | omega | (dsimp only at *; omega))
      have hb3 := hb3.ch hc (by first | omega | (dsimp only; omega))
      have hb4 := hb4.ch hc (by first | omega | (dsimp only; omega))
      have hb5 := hb5.ch hc (by first | omega | (dsimp only; omega))
      first | have hS39 := hS39.ch hc (by intro k hk ht; first | omega | (dsimp only at *; omega)) | have hS39 := hS39.chT hc (by intro k hz hk ht; first | omega | (dsimp only at *; omega))
      first | have hS42 := hS42.ch hc (by intro k hk ht; first | omega | (dsimp only at *; omega)) | have hS42 := hS42.chT hc (by intro k hz hk ht; first | omega | (dsimp only at *; omega))
      refine ws_p rfl rfl rfl rfl (p_fld (j := 0) Tryd.underlying45 rfl ⟨_, by rfl⟩ rfl rfl) ?_
      refine ws_l rfl rfl (e_stC (p := []) (u := (.slice A l c : Value)) (r := (([.bool false] ++ ((List.map u8v (List.replicate 32 (0 : UInt8))) ++ (List.map u8v (List.replicate 32 (0 : UInt8))))) : List Value)) (v := .slice A43 (l + 1) c43) (by rfl) rfl rfl rfl hb5 (by simp only [List.append_assoc, List.cons_append, List.nil_append, List.append_nil]) (by first | rfl | (simp only [List.length_append, List.length_map, List.length_cons, List.length_nil]; done) | (simp only [List.length_append, List.length_map, List.length_cons, List.length_nil, List.size_toArray]; done)) (fun w23 hb5 hc hsz => ?_))
      have hb5 : Blk w23 g5 45 (([.slice A43 (l + 1) c43, .bool false] ++ ((List.map u8v (List.replicate 32 (0 : UInt8))) ++ (List.map u8v (List.replicate 32 (0 : UInt8))))) : List Value).toArray := by have h := hb5; simp only [List.append_assoc, List.cons_append, List.nil_append, List.append_nil] at h ⊢; exact h
      have hzw23 := hc.size
      have HC := HC.trans hc (fun _ _ h => h) (fun k hk ht => absurd ht (by omega))
      first | have hz := hz.ch hc (by intro k hk ht; first | omega | (dsimp only at *; omega)) | have hz := hz.chT hc (by intro k hz hk ht; first | omega | (dsimp only at *; omega))
      have hW := hW.ch hc (by intro k hz hk ht; first | omega | (dsimp only at *; omega))
      have hb3 := hb3.ch hc (by omega)
      have hb4 := hb4.ch hc (by omega)
      first | have hS39 := hS39.ch hc (by intro k hk ht; first | omega | (dsimp only at *; omega)) | have hS39 := hS39.chT hc (by intro k hz hk ht; first | omega | (dsimp only at *; omega))
      first | have hS42 := hS42.ch hc (by intro k hk ht; first | omega | (dsimp only at *; omega)) | have hS42 := hS42.chT hc (by intro k hz hk ht; first | omega | (dsimp only at *; omega))
      refine ws_n ?_
      refine x_seq ?_
      refine wc_region ?_
      refine wl rfl rfl rfl (p_mv rfl) ?_
      refine wl rfl rfl rfl (p_mv rfl) ?_
      have hS47 : SI w23 (fun k => k < w.heap.size) eIT (cutA B cz n13 64) (lz - n13) (cz - n13) (Tr.items y) := by have h := hz.cutTo (lo := n13) (by omega); rw [hnx, fork_drop] at h; rw [hnx]; exact h
      refine wl rfl rfl rfl (p_slS (l := n13) (h := lz) Tryd.underlying27 sz81 rfl ⟨_, rfl⟩ rfl (by omega) (by have := hz.cap; omega) hz.cap (q := lz - n13) (by omega)) ?_
      refine wl rfl rfl rfl (p_as rfl) ?_
      refine wl_nil ?_
      refine x_in_normal ?_
      refine x_round (e' := [(0, .slice (_) (_) (_)), (3, .pointer (some ⟨g3, 0, none⟩)), (4, .pointer (some ⟨g4, 0, none⟩)), (5, .pointer (some ⟨g5, 0, none⟩))]) ⟨rfl, rfl, rfl, rfl, trivial⟩ (by rw [hm0]; (show _ < Tr.size _; simp only [Tr.size]; omega)) ⟨y, _, _, _, _, _, _, _, rfl, rfl, hS47, hwzy, (by omega), (by rw [hfd]; show Tr.find (.fork b x y) k = _; rw [Tr.find]; first | rw [if_pos (by rw [← hib]; omega)] | rw [if_neg (by rw [← hib]; omega)]), (by rw [hwy, hib]; show _ ++ Tr.way (.fork b x y) k = _; rw [Tr.way]; first | rw [if_pos (by rw [← hib]; omega), List.append_assoc]; rfl | rw [if_neg (by rw [← hib]; omega), List.append_assoc]; rfl), hW.mono (fun k _ hk => by first | omega | (dsimp only at *; omega)), hb3, hb4, hb5, (by omega), HC⟩

set_option maxHeartbeats 1000000 in
set_option maxRecDepth 20000 in
theorem rprove_nil {w : World} {Am : Option Addr} {cm : Nat} {k : List UInt8} (hk : k.length = 32) :
    Calls Tryd.prog 54 #[.slice Am 0 cm, hv k] w fun e w' => ∃ A l c lf u x, e = .returned (.agg (([.slice A l c, .bool lf] ++ (List.map u8v u ++ List.map u8v x)) : List Value).toArray) ∧ u.length = 32 ∧ x.length = 32 ∧ RI w' (fun k => w.heap.size ≤ k) 125 eST A l c (wayT none k) ∧ (u, x, lf) = endT none k ∧ Ch No w w' := by
  have HC : Ch No w w := Ch.refl _ _
  refine enter' (args := [.slice Am 0 cm, hv k]) (n := 63) Tryd.func54 rfl rfl rfl ?_
  refine wc_seq ?_
  refine wc_region ?_
  refine wle rfl (e_box (cs := (List.map u8v k).toArray) rfl rfl rfl (fun w1 g3 hg3 hb3 hc hsz3 => ?_))
  have hzw1 := hc.size
  have HC := HC.tr hc
  have hge3 : w.heap.size ≤ g3 := by have := HC.size; omega
  have hltg3 := hb3.lt
  refine wle rfl (e_alloc (cs := (([Value.slice none 0 0, Value.bool false] ++ ((List.map u8v (List.replicate 32 (0 : UInt8))) ++ (List.map u8v (List.replicate 32 (0 : UInt8))))) : List Value).toArray) rfl (by rfl) (by rfl) (fun w2 g4 hg4 hb4 hc hsz4 => ?_))
  have hzw2 := hc.size
  have HC := HC.tr hc
  have hb3 := hb3.ch hc (fun h => h)
  have hge4 : w.heap.size ≤ g4 := by have := HC.size; omega
  have neg3_4 : g3 < g4 := by omega
  refine wl_nil ?_
  refine x_seq ?_
  refine wc_seq ?_
  refine wc_region ?_
  have hltg3 := hb3.lt
  have hltg4 := hb4.lt
  refine wle rfl (e_alloc (cs := (([Value.slice none 0 0, Value.bool false] ++ ((List.map u8v (List.replicate 32 (0 : UInt8))) ++ (List.map u8v (List.replicate 32 (0 : UInt8))))) : List Value).toArray) rfl (by rfl) (by rfl) (fun w3 g5 hg5 hb5 hc hsz5 => ?_))
  have hzw3 := hc.size
  have HC := HC.tr hc
  have hb3 := hb3.ch hc (fun h => h)
  have hb4 := hb4.ch hc (fun h => h)
  have hge5 : w.heap.size ≤ g5 := by have := HC.size; omega
  have neg3_5 : g3 < g5 := by omega
  have neg4_5 : g4 < g5 := by omega
  refine wl_nil ?_
  refine x_seq ?_
  refine wc_seq ?_
  refine wc_block ?_
  refine wc_loop (e' := [(0, .slice Am 0 cm), (3, .pointer (some ⟨g3, 0, none⟩)), (4, .pointer (some ⟨g4, 0, none⟩)), (5, .pointer (some ⟨g5, 0, none⟩))]) (fun mz ez uz => mz = 0 ∧ ez = [(0, .slice Am 0 cm), (3, .pointer (some ⟨g3, 0, none⟩)), (4, .pointer (some ⟨g4, 0, none⟩)), (5, .pointer (some ⟨g5, 0, none⟩))] ∧ (Blk uz g3 38 (List.map u8v k).toArray) ∧ (Blk uz g4 45 (([Value.slice none 0 0, Value.bool false] ++ ((List.map u8v (List.replicate 32 (0 : UInt8))) ++ (List.map u8v (List.replicate 32 (0 : UInt8))))) : List Value).toArray) ∧ (Blk uz g5 45 (([Value.slice none 0 0, Value.bool false] ++ ((List.map u8v (List.replicate 32 (0 : UInt8))) ++ (List.map u8v (List.replicate 32 (0 : UInt8))))) : List Value).toArray) ∧ (w.heap.size ≤ g5 ∧ w.heap.size ≤ g4 ∧ w.heap.size ≤ g3 ∧ g3 < g4 ∧ g4 < g5) ∧ (Ch No w uz))
    ⟨rfl, rfl, rfl, rfl, trivial⟩ ⟨rfl, rfl, hb3, hb4, hb5, (by omega), HC⟩ ?_
  rintro m0 e w4 ⟨hm0, rfl, hb3, hb4, hb5, hg5, HC⟩
  have hzw4 := HC.size
  refine wc_seq ?_
  refine wc_seq ?_
  refine wc_region ?_
  refine wl rfl rfl rfl (p_mv rfl) ?_
  refine wl rfl rfl rfl (p_lenS Tryd.underlying27 rfl) ?_
  refine wl rfl rfl rfl (p_gt rfl rfl) ?_
  refine wl_nil ?_
  refine x_seq ?_
  refine wc_no rfl (decide_eq_false (by omega)) ?_
  refine wc_exit ?_
  refine x_then_exit ?_
  refine x_then_exit ?_
  refine x_in_here ?_
  refine x_seq ?_
  refine wc_seq ?_
  refine wc_seq ?_
  refine wc_region ?_
  refine wl rfl rfl rfl (p_mv rfl) ?_
  refine wl rfl rfl rfl (p_lenS Tryd.underlying27 rfl) ?_
  refine wl rfl rfl rfl (p_eq rfl rfl) ?_
  refine wl_nil ?_
  refine x_seq ?_
  refine wc_no rfl (decide_eq_false (by omega)) ?_
  refine wc_skip ?_
  refine x_seq ?_
  refine wc_seq ?_
  refine wc_region ?_
  refine wl rfl rfl rfl (p_ldA (cs := (([Value.slice none 0 0, Value.bool false] ++ ((List.map u8v (List.replicate 32 (0 : UInt8))) ++ (List.map u8v (List.replicate 32 (0 : UInt8))))) : List Value)) Tryd.underlying45 rfl (szL sz45 (by first | rfl | (simp only [List.length_append, List.length_map, List.length_cons, List.length_nil, (show List.length (List.replicate 32 (0 : UInt8)) = 32 from (List.length_replicate ..)), (show List.length (List.replicate 32 (0 : UInt8)) = 32 from (List.length_replicate ..))]; done) | (simp only [List.length_append, List.length_map, List.length_cons, List.length_nil, List.size_toArray, (show List.length (List.replicate 32 (0 : UInt8)) = 32 from (List.length_replicate ..)), (show List.length (List.replicate 32 (0 : UInt8)) = 32 from (List.length_replicate ..))]; done))) rfl (fun _ e => e ▸ rngL hb5)) ?_
  refine wle rfl (e_stW (vs := (([Value.slice none 0 0, Value.bool false] ++ ((List.map u8v (List.replicate 32 (0 : UInt8))) ++ (List.map u8v (List.replicate 32 (0 : UInt8))))) : List Value)) (szL sz45 (by first | rfl | (simp only [List.length_append, List.length_map, List.length_cons, List.length_nil, (show List.length (List.replicate 32 (0 : UInt8)) = 32 from (List.length_replicate ..)), (show List.length (List.replicate 32 (0 : UInt8)) = 32 from (List.length_replicate ..))]; done) | (simp only [List.length_append, List.length_map, List.length_cons, List.length_nil, List.size_toArray, (show List.length (List.replicate 32 (0 : UInt8)) = 32 from (List.length_replicate ..)), (show List.length (List.replicate 32 (0 : UInt8)) = 32 from (List.length_replicate ..))]; done))) (oneA (allOne rfl) (oneA (oneL one_u8 _) (oneL one_u8 _))) rfl rfl hb4 (by first | rfl | (simp only [List.length_append, List.length_map, List.length_cons, List.length_nil, (show List.length (List.replicate 32 (0 : UInt8)) = 32 from (List.length_replicate ..)), (show List.length (List.replicate 32 (0 : UInt8)) = 32 from (List.length_replicate ..)), (show List.length (List.replicate 32 (0 : UInt8)) = 32 from (List.length_replicate ..)), (show List.length (List.replicate 32 (0 : UInt8)) = 32 from (List.length_replicate ..))]; done) | (simp only [List.length_append, List.length_map, List.length_cons, List.length_nil, List.size_toArray, (show List.length (List.replicate 32 (0 : UInt8)) = 32 from (List.length_replicate ..)), (show List.length (List.replicate 32 (0 : UInt8)) = 32 from (List.length_replicate ..)), (show List.length (List.replicate 32 (0 : UInt8)) = 32 from (List.length_replicate ..)), (show List.length (List.replicate 32 (0 : UInt8)) = 32 from (List.length_replicate ..))]; done)) (fun w5 hb4 hc hsz => ?_))
  have hzw5 := hc.size
  have HC := HC.trans hc (fun _ _ h => h) (fun k hk ht => absurd ht (by omega))
  have hb3 := hb3.ch hc (by omega)
  have hb5 := hb5.ch hc (by omega)
  refine wl_nil ?_
  refine x_seq ?_
  refine wc_ret ?_
  refine fin_run (resC (cs := (([Value.slice none 0 0, Value.bool false] ++ ((List.map u8v (List.replicate 32 (0 : UInt8))) ++ (List.map u8v (List.replicate 32 (0 : UInt8))))) : List Value)) rfl rfl Tryd.underlying45 rfl (szL sz45 (by first | rfl | (simp only [List.length_append, List.length_map, List.length_cons, List.length_nil, (show List.length (List.replicate 32 (0 : UInt8)) = 32 from (List.length_replicate ..)), (show List.length (List.replicate 32 (0 : UInt8)) = 32 from (List.length_replicate ..))]; done) | (simp only [List.length_append, List.length_map, List.length_cons, List.length_nil, List.size_toArray, (show List.length (List.replicate 32 (0 : UInt8)) = 32 from (List.length_replicate ..)), (show List.length (List.replicate 32 (0 : UInt8)) = 32 from (List.length_replicate ..))]; done))) (rngL hb4)) ?_
  exact ⟨none, 0, 0, false, _, _, rfl, List.length_replicate .., List.length_replicate .., RI.nil _ _ _ _, rfl, HC⟩

theorem rprove_any {w : World} {Am : Option Addr} {lm cm : Nat} {Fm : Nat → Prop} {o : Option Tr} {k : List UInt8} (hm : SI w Fm eIT Am lm cm (itemsT o)) (hw : WFO o) (hk : k.length = 32) (hl : lm ≤ 1000000) : Calls Tryd.prog 54 #[.slice Am lm cm, hv k] w fun e w' => ∃ A l c lf u x, e = .returned (.agg (([.slice A l c, .bool lf] ++ (List.map u8v u ++ List.map u8v x)) : List Value).toArray) ∧ u.length = 32 ∧ x.length = 32 ∧ RI w' (fun k => w.heap.size ≤ k) 125 eST A l c (wayT o k) ∧ (u, x, lf) = endT o k ∧ Ch No w w' := by
  cases o with
  | none => have e := hm.len; simp [itemsT] at e; subst e; exact rprove_nil hk
  | some t => exact rprove_some hm (hw t rfl) hk hl

set_option maxHeartbeats 1000000 in
set_option maxRecDepth 20000 in
theorem backs_any {w : World} {m yl gB : Nat} {J Jx : List Nat → World → Prop} {As : Option Addr} {ls cs : Nat} {Fs : Nat → Prop} {st : List Stp} (hX : ∀ xs A, J xs A → Blk A gB 47 #[.slice As ls cs] ∧ SI A Fs eST As ls cs st) (hls : ls ≤ 1000000) (hJ : ∀ xs A B, J xs A → Ch No A B → J xs B) (hJx : ∀ xs A B, Jx xs A → Ch No A B → Jx xs B) (hY : ∀ pre x Wq, (fun (pre : List Nat) (i : Nat) => pre.length + i + 1 = ls) pre x → J pre Wq → YieldAt Fence.wide m Tryd.prog yl ((fun i : Nat => #[i64 (i : Int), .agg (eST.f (st.getD i ⟨0, zeroH⟩)).toArray]) x) Wq fun ed W' => (ed = .returned (.bool true) ∧ J (pre ++ [x]) W') ∨ (ed = .returned (.bool false) ∧ Jx (pre ++ [x]) W')) (hJ0 : J [] w) :
    Calls Tryd.prog 103 #[.func (.yield yl) #[] #[], .pointer (some ⟨gB, 0, none⟩)] w fun e w' => e = .returned (.tuple #[]) ∧ ((∃ xs, xs.length = ls ∧ J xs w') ∨ ∃ xs, True ∧ Jx xs w') := by
  have hJp := hJ0
  obtain ⟨hBn, hst⟩ := hX _ _ hJ0
  have HC : Ch No w w := Ch.refl _ _
  refine enter' (args := [.func (.yield yl) #[] #[], .pointer (some ⟨gB, 0, none⟩)]) (n := 19) Tryd.func103 rfl rfl rfl ?_
  refine wc_seq ?_
  refine wc_region ?_
  refine wl rfl rfl rfl (p_ld Tryd.underlying47 rfl rfl (ld (hBn.cell rfl))) ?_
  refine wl rfl rfl rfl (p_lenS Tryd.underlying47 rfl) ?_
  refine wl rfl rfl rfl (p_sub rfl rfl (w64 (by omega))) ?_
  refine wl rfl rfl rfl (p_as rfl) ?_
  refine wl_nil ?_
  refine x_seq ?_
  refine wc_block ?_
  refine wc_loop (e' := [(0, .func (.yield yl) #[] #[]), (1, .pointer (some ⟨gB, 0, none⟩)), (3, i64 (((ls) : Int) - 1))]) (fun mz ez uz => ∃ j : Nat, ∃ pre : List Nat, mz = j ∧ ez = [(0, .func (.yield yl) #[] #[]), (1, .pointer (some ⟨gB, 0, none⟩)), (3, i64 ((j : Int) - 1))] ∧ (pre.length + j = ls) ∧ (J pre uz))
    ⟨rfl, rfl, rfl, trivial⟩ ⟨ls, [], rfl, rfl, by simp, hJp⟩ ?_
  rintro m0 e w1 ⟨j, pre, hm0, rfl, hj, hJp⟩
  obtain ⟨hBn, hst⟩ := hX _ _ hJp
  have hstl := hst.len
  refine wc_seq ?_
  refine wc_seq ?_
  refine wc_region ?_
  refine wl rfl rfl rfl (p_mv rfl) ?_
  refine wl rfl rfl rfl (p_ge rfl rfl) ?_
  refine wl_nil ?_
  refine x_seq ?_
  refine wc_if rfl (fun c0 => ?_) (fun c0 => ?_)
  ·
    have c0 := of_decide_eq_true c0
    obtain ⟨q, rfl⟩ : ∃ q, j = q + 1 := ⟨j - 1, by omega⟩
    refine wc_skip ?_
    refine x_seq ?_
    refine wc_seq ?_
    refine wc_block ?_
    refine wc_seq ?_
    refine wc_regionI (m + 1) ?_
    refine wli rfl rfl rfl (p_mv rfl) ?_
    refine wli rfl rfl rfl ((p_mv rfl).to (show Value.int .i64 _ = Value.int .i64 (q : Int) from by congr 1; omega)) ?_
    refine wli rfl rfl rfl (p_ld Tryd.underlying47 rfl rfl (ld (hBn.cell rfl))) ?_
    refine wli rfl rfl rfl ((p_mv rfl).to (show Value.int .i64 _ = Value.int .i64 (q : Int) from by congr 1; omega)) ?_
    obtain ⟨b2, o2, hA2, hF2, hr2⟩ := (hst).opn (i := q) (d := ⟨0, zeroH⟩) (by omega)
    have hok2 := (hst).okAt (i := q) (d := ⟨0, zeroH⟩) (by omega)
    obtain ⟨x2, ex2⟩ : ∃ x, x = List.getD st (q) ⟨0, zeroH⟩ := ⟨_, rfl⟩
    rw [← ex2] at hr2 hok2
    have hx2k : List.length x2.side = 32 := hok2
    have hr2 : w1.rangeAt b2 (o2 + q * 33) (([i64 x2.bit] ++ (List.map u8v x2.side)) : List Value) := hr2
    refine wli rfl rfl rfl (p_ixS (j := q * 33) Tryd.underlying47 sz126 rfl hA2 rfl (by omega) (by omega) (congrArg (· * 33) (Int.toNat_natCast _))) ?_
    refine wli rfl rfl rfl (p_ldA (cs := (([i64 x2.bit] ++ (List.map u8v x2.side)) : List Value)) Tryd.underlying126 rfl (szL sz126 (by first | rfl | (simp only [List.length_append, List.length_map, List.length_cons, List.length_nil, (show List.length x2.side = 32 from hx2k)]; done) | (simp only [List.length_append, List.length_map, List.length_cons, List.length_nil, List.size_toArray, (show List.length x2.side = 32 from hx2k)]; done))) rfl (fun _ e => e ▸ hr2)) ?_
    subst ex2
    have hD : pre.length + q + 1 = ls := by omega
    refine wli_yield (fun _ _ => rfl) rfl rfl rfl (hY pre q w1 hD hJp) (by repeat (first | exact no_body (fun _ h => by cases h.1) | with_reducible apply no_then | with_reducible apply no_in)) ?_
    rintro _ w3 (⟨rfl, hJp⟩ | ⟨rfl, hJq⟩)
    ·
      refine ⟨_, rfl, ?_⟩
      obtain ⟨hBn, hst⟩ := hX _ _ hJp
      refine wli rfl rfl rfl (p_not rfl) ?_
      refine wli_nil ?_
      refine x_seq ?_
      refine wc_no rfl (rfl) ?_
      refine wc_skip ?_
      refine x_in_normal ?_
      refine x_seq ?_
      refine wc_region ?_
      refine wl rfl rfl rfl (p_mv rfl) ?_
      refine wl rfl rfl rfl (p_sub (Z := (q : Int) - 1) rfl rfl (by rw [w64 (by omega)]; omega)) ?_
      refine wl rfl rfl rfl (p_as rfl) ?_
      refine wl_nil ?_
      refine x_round (e' := [(0, .func (.yield yl) #[] #[]), (1, .pointer (some ⟨gB, 0, none⟩)), (3, i64 (((q) : Int) - 1))]) ⟨rfl, rfl, rfl, trivial⟩ (by rw [hm0]; omega) ⟨q, (pre ++ [q]), rfl, rfl, (by simp; omega), hJp⟩
    ·
      refine ⟨_, rfl, ?_⟩
      refine wli rfl rfl rfl (p_not rfl) ?_
      refine wli_nil ?_
      refine x_seq ?_
      refine wc_yes rfl (rfl) ?_
      refine wc_ret ?_
      refine x_in_ret ?_
      refine x_then_ret ?_
      refine x_then_ret ?_
      refine x_in_ret ?_
      refine fin_run ((res0 rfl)) ?_
      exact ⟨rfl, .inr ⟨_, trivial, hJq⟩⟩
  ·
    have c0 := of_decide_eq_false c0
    refine wc_exit ?_
    refine x_then_exit ?_
    refine x_then_exit ?_
    refine x_in_here ?_
    refine fin_run_n ((res0 rfl)) ?_
    exact ⟨rfl, .inl ⟨pre, by omega, hJp⟩⟩

set_option maxHeartbeats 1000000 in
set_option maxRecDepth 20000 in
theorem back_any {w : World} {As : Option Addr} {ls cs : Nat}  :
    Calls Tryd.prog 75 #[.slice As ls cs] w fun e w' => ∃ g, e = .returned (.func (.func 103) #[] #[.pointer (some ⟨g, 0, none⟩)]) ∧ w.heap.size ≤ g ∧ Blk w' g 47 #[.slice As ls cs] ∧ Ch No w w' := by
  have HC : Ch No w w := Ch.refl _ _
  refine enter' (args := [.slice As ls cs]) (n := 4) Tryd.func75 rfl rfl rfl ?_
  refine wc_seq ?_
  refine wc_region ?_
  refine wle rfl (e_box (cs := #[_]) rfl rfl rfl (fun w1 g1 hg1 hb1 hc hsz1 => ?_))
  have hzw1 := hc.size
  have HC := HC.tr hc
  have hge1 : w.heap.size ≤ g1 := by have := HC.size; omega
  refine wl rfl rfl rfl (p_as rfl) ?_
  refine wl_nil ?_
  refine x_seq ?_
  refine wc_seq ?_
  refine wc_region ?_
  refine wl rfl rfl rfl (p_mkf rfl) ?_
  refine wl rfl rfl rfl (p_as rfl) ?_
  refine wl_nil ?_
  refine x_seq ?_
  refine wc_ret ?_
  refine fin_run ((res1 rfl rfl)) ?_
  exact ⟨g1, rfl, hge1, hb1, HC⟩

theorem bitIS {w : World} {k : List UInt8} {i : Int} (hk : k.length = 32) : Calls Tryd.prog 38 #[hv k, i64 i] w fun e w' => ∃ s : Nat, e = .returned (i64 (s : Int)) ∧ bitI k i = s ∧ s < 2 ∧ Ch No w w' :=
  (bit_any hk).mono fun e w' ⟨h1, h2⟩ => ⟨bitI k i, h1, rfl, bitI_lt _ _, h2⟩

set_option maxHeartbeats 1000000 in
set_option maxRecDepth 20000 in
theorem mclimb_any {w : World}  {k : List UInt8} {As : Option Addr} {ls cs : Nat} {Fs : Nat → Prop} {st : List Stp} {lf : Bool} {pk pv : List UInt8} (hk : k.length = 32) (hst : SI w Fs eST As ls cs st) (hpk : pk.length = 32) (hpv : pv.length = 32) (hls : ls ≤ 1000000) (hrnd : Sl w (fun k => k = 0) u32v (some ⟨0, 0, none⟩) 64 64 rk) :
    Calls Tryd.prog 30 #[hv k, .agg (([.slice As ls cs, .bool lf] ++ ((List.map u8v pk) ++ (List.map u8v pv))) : List Value).toArray] w fun e w' => ∃ (u : List UInt8) (ok : Bool), e = .returned (.tuple #[hv u, .bool ok]) ∧ u.length = 32 ∧ (u, ok) = ((climbP k st lf pk pv).getD zeroH, (climbP k st lf pk pv).isSome) ∧ Ch No w w' := by
  have hstl := hst.len
  have hn0 : 0 < w.heap.size := hrnd.size (by omega) rfl
  have hn1 := hn0
  have hst := hst.old
  have HC : Ch No w w := Ch.refl _ _
  refine enterM (args := [hv k, _]) (n := 59) Tryd.func30 rfl rfl rfl ?_
  refine wc_seq ?_
  refine wc_region ?_
  refine wle rfl (e_box (cs := (List.map u8v k).toArray) rfl rfl rfl (fun w1 g2 hg2 hb2 hc hsz2 => ?_))
  have hzw1 := hc.size
  have HC := HC.tr hc
  have hst := hst.no hc
  have hrnd := hrnd.no hc
  have hge2 : w.heap.size ≤ g2 := by have := HC.size; omega
  have hltg2 := hb2.lt
  refine wle rfl (e_box (cs := (([.slice As ls cs, .bool lf] ++ ((List.map u8v pk) ++ (List.map u8v pv))) : List Value).toArray) rfl rfl rfl (fun w2 g3 hg3 hb3 hc hsz3 => ?_))
  have hzw2 := hc.size
  have HC := HC.tr hc
  have hst := hst.no hc
  have hrnd := hrnd.no hc
  have hb2 := hb2.ch hc (fun h => h)
  have hge3 : w.heap.size ≤ g3 := by have := HC.size; omega
  have neg2_3 : g2 < g3 := by omega
  have hltg2 := hb2.lt
  have hltg3 := hb3.lt
  refine wle rfl (e_alloc (cs := ((List.replicate 32 (0 : UInt8)).map u8v).toArray) rfl (by rfl) rfl (fun w3 g4 hg4 hb4 hc hsz4 => ?_))
  have hzw3 := hc.size
  have HC := HC.tr hc
  have hst := hst.no hc
  have hrnd := hrnd.no hc
  have hb2 := hb2.ch hc (fun h => h)
  have hb3 := hb3.ch hc (fun h => h)
  have hge4 : w.heap.size ≤ g4 := by have := HC.size; omega
  have neg2_4 : g2 < g4 := by omega
  have neg3_4 : g3 < g4 := by omega
  have hltg2 := hb2.lt
  have hltg3 := hb3.lt
  have hltg4 := hb4.lt
  refine wle rfl (e_alloc (cs := #[.bool false]) rfl (by rfl) rfl (fun w4 g5 hg5 hb5 hc hsz5 => ?_))
  have hzw4 := hc.size
  have HC := HC.tr hc
  have hst := hst.no hc
  have hrnd := hrnd.no hc
  have hb2 := hb2.ch hc (fun h => h)
  have hb3 := hb3.ch hc (fun h => h)
  have hb4 := hb4.ch hc (fun h => h)
  have hge5 : w.heap.size ≤ g5 := by have := HC.size; omega
  have neg2_5 : g2 < g5 := by omega
  have neg3_5 : g3 < g5 := by omega
  have neg4_5 : g4 < g5 := by omega
  refine wl_nil ?_
  refine x_seq ?_
  refine wc_seq ?_
  refine wc_block ?_
  refine wc_seq ?_
  refine wc_region ?_
  refine wl rfl rfl rfl (p_ldA (cs := (([.slice As ls cs, .bool lf] ++ ((List.map u8v pk) ++ (List.map u8v pv))) : List Value)) Tryd.underlying49 rfl (szL sz49 (by first | rfl | (simp only [List.length_append, List.length_map, List.length_cons, List.length_nil, (show List.length pk = 32 from hpk), (show List.length pv = 32 from hpv)]; done) | (simp only [List.length_append, List.length_map, List.length_cons, List.length_nil, List.size_toArray, (show List.length pk = 32 from hpk), (show List.length pv = 32 from hpv)]; done))) rfl (fun _ e => e ▸ rngL hb3)) ?_
  refine wle rfl (e_call ent34 rfl rfl (mgood_any (hst) (hpk) (hpv) (by omega)) ?_)
  rintro _ w5 ⟨rfl, hc⟩
  refine ⟨_, rfl, ?_⟩
  have hzw5 := hc.size
  have HC := HC.tr hc
  have hst := hst.no hc
  have hrnd := hrnd.no hc
  have hb2 := hb2.ch hc (fun h => h)
  have hb3 := hb3.ch hc (fun h => h)
  have hb4 := hb4.ch hc (fun h => h)
  have hb5 := hb5.ch hc (fun h => h)
  refine wl rfl rfl rfl (p_not rfl) ?_
  refine wl rfl rfl rfl (p_as rfl) ?_
  refine wl_nil ?_
  refine x_seq ?_
  refine wc_if rfl (fun c0 => ?_) (fun c0 => ?_)
  ·
    refine wc_seq ?_
    refine wc_region ?_
    refine wl rfl rfl rfl (p_bldP (cs := ((List.replicate 32 (0 : UInt8)).map u8v).toArray) rfl (fun _ => by kernel_rfl)) ?_
    refine wle rfl (e_stW (vs := List.map u8v (List.replicate 32 (0 : UInt8))) (szL sz38 (by rw [List.length_map]; exact (List.length_replicate ..))) (oneL one_u8 _) rfl rfl hb4 (by simp only [List.size_toArray, List.length_map]; first | done | exact ((List.length_replicate ..)).trans ((List.length_replicate ..)).symm) (fun w6 hb4 hc hsz => ?_))
    have hzw6 := hc.size
    have HC := HC.trans hc (fun _ _ h => h) (fun k hk ht => absurd ht (by omega))
    first | have hst := hst.ch hc (by intro k hk ht; first | omega | (dsimp only at *; omega)) | have hst := hst.chT hc (by intro k hz hk ht; first | omega | (dsimp only at *; omega))
    first | have hrnd := hrnd.ch hc (by intro k hk ht; first | omega | (dsimp only at *; omega)) | have hrnd := hrnd.chT hc (by intro k hz hk ht; first | omega | (dsimp only at *; omega))
    have hb2 := hb2.ch hc (by omega)
    have hb3 := hb3.ch hc (by omega)
    have hb5 := hb5.ch hc (by omega)
    refine wle rfl (e_st1 (by rfl) rfl rfl rfl hb5 (fun w7 hb5 hc hsz => ?_))
    have hzw7 := hc.size
    have HC := HC.trans hc (fun _ _ h => h) (fun k hk ht => absurd ht (by omega))
    first | have hst := hst.ch hc (by intro k hk ht; first | omega | (dsimp only at *; omega)) | have hst := hst.chT hc (by intro k hz hk ht; first | omega | (dsimp only at *; omega))
    first | have hrnd := hrnd.ch hc (by intro k hk ht; first | omega | (dsimp only at *; omega)) | have hrnd := hrnd.chT hc (by intro k hz hk ht; first | omega | (dsimp only at *; omega))
    have hb2 := hb2.ch hc (by omega)
    have hb3 := hb3.ch hc (by omega)
    have hb4 := hb4.ch hc (by omega)
    refine wl_nil ?_
    refine x_seq ?_
    refine wc_ret ?_
    refine x_in_ret ?_
    refine x_then_ret ?_
    refine fin_runM0 (resMany (rs := [.cell 4 38, .cell 5 4]) rfl (.cellA (cs := List.map u8v (List.replicate 32 (0 : UInt8))) rfl Tryd.underlying38 rfl (szL sz38 (by rw [List.length_map]; exact (List.length_replicate ..))) (rngL hb4) (.cell1 rfl Tryd.underlying4 rfl (hb5.cell rfl) (.nil))) rfl) ?_
    exact ⟨_, _, rfl, List.length_replicate .., by rw [climbP, if_pos (by simpa using c0)]; rfl, HC⟩
  ·
    refine wc_seq ?_
    refine wc_region ?_
    refine wl rfl rfl rfl (p_fld (j := 1) Tryd.underlying49 rfl ⟨_, by rfl⟩ rfl rfl) ?_
    refine wl rfl rfl rfl (p_ld Tryd.underlying4 rfl rfl (ld (cell_at (p := ([.slice As ls cs] : List Value)) (v := (.bool lf : Value)) (r := (((List.map u8v pk) ++ (List.map u8v pv)) : List Value)) hb3 (by simp only [List.append_assoc, List.cons_append, List.nil_append, List.append_nil]) (by first | rfl | (simp only [List.length_append, List.length_map, List.length_cons, List.length_nil]; done) | (simp only [List.length_append, List.length_map, List.length_cons, List.length_nil, List.size_toArray]; done))))) ?_
    refine wl rfl rfl rfl (p_not rfl) ?_
    refine wl rfl rfl rfl (p_as rfl) ?_
    refine wl_nil ?_
    refine x_seq ?_
    refine wc_if rfl (fun c1 => ?_) (fun c1 => ?_)
    ·
      refine wc_seq ?_
      refine wc_region ?_
      refine wle rfl (e_call ent73 rfl rfl (tnone_any hrnd) ?_)
      rintro _ w8 ⟨rfl, hc⟩
      refine ⟨_, rfl, ?_⟩
      have hzw8 := hc.size
      have HC := HC.tr hc
      have hst := hst.no hc
      have hrnd := hrnd.no hc
      have hb2 := hb2.ch hc (fun h => h)
      have hb3 := hb3.ch hc (fun h => h)
      have hb4 := hb4.ch hc (fun h => h)
      have hb5 := hb5.ch hc (fun h => h)
      refine wle rfl (e_stW (vs := List.map u8v noneH) (szL sz38 (by rw [List.length_map]; exact noneH_len)) (oneL one_u8 _) rfl rfl hb4 (by simp only [List.size_toArray, List.length_map]; first | done | exact ((List.length_replicate ..)).trans (noneH_len).symm) (fun w9 hb4 hc hsz => ?_))
      have hzw9 := hc.size
      have HC := HC.trans hc (fun _ _ h => h) (fun k hk ht => absurd ht (by omega))
      first | have hst := hst.ch hc (by intro k hk ht; first | omega | (dsimp only at *; omega)) | have hst := hst.chT hc (by intro k hz hk ht; first | omega | (dsimp only at *; omega))
      first | have hrnd := hrnd.ch hc (by intro k hk ht; first | omega | (dsimp only at *; omega)) | have hrnd := hrnd.chT hc (by intro k hz hk ht; first | omega | (dsimp only at *; omega))
      have hb2 := hb2.ch hc (by omega)
      have hb3 := hb3.ch hc (by omega)
      have hb5 := hb5.ch hc (by omega)
      refine wle rfl (e_st1 (by rfl) rfl rfl rfl hb5 (fun w10 hb5 hc hsz => ?_))
      have hzw10 := hc.size
      have HC := HC.trans hc (fun _ _ h => h) (fun k hk ht => absurd ht (by omega))
      first | have hst := hst.ch hc (by intro k hk ht; first | omega | (dsimp only at *; omega)) | have hst := hst.chT hc (by intro k hz hk ht; first | omega | (dsimp only at *; omega))
      first | have hrnd := hrnd.ch hc (by intro k hk ht; first | omega | (dsimp only at *; omega)) | have hrnd := hrnd.chT hc (by intro k hz hk ht; first | omega | (dsimp only at *; omega))
      have hb2 := hb2.ch hc (by omega)
      have hb3 := hb3.ch hc (by omega)
      have hb4 := hb4.ch hc (by omega)
      refine wl_nil ?_
      refine x_seq ?_
      refine wc_ret ?_
      refine x_in_ret ?_
      refine x_then_ret ?_
      refine fin_runM0 (resMany (rs := [.cell 4 38, .cell 5 4]) rfl (.cellA (cs := List.map u8v noneH) rfl Tryd.underlying38 rfl (szL sz38 (by rw [List.length_map]; exact noneH_len)) (rngL hb4) (.cell1 rfl Tryd.underlying4 rfl (hb5.cell rfl) (.nil))) rfl) ?_
      exact ⟨_, _, rfl, noneH_len, by rw [climbP, if_neg (by simpa using c0), if_pos (by simpa using c1)]; rfl, HC⟩
    ·
      refine wc_skip ?_
      refine x_in_normal ?_
      refine x_seq ?_
      refine wc_seq ?_
      refine wc_region ?_
      refine wl rfl rfl rfl (p_fld (j := 2) Tryd.underlying49 rfl ⟨_, by rfl⟩ rfl rfl) ?_
      refine wl rfl rfl rfl (p_ldA (cs := (List.map u8v pk)) Tryd.underlying38 rfl (szL sz38 (by first | rfl | (simp only [List.length_append, List.length_map, List.length_cons, List.length_nil, (show List.length pk = 32 from hpk)]; done) | (simp only [List.length_append, List.length_map, List.length_cons, List.length_nil, List.size_toArray, (show List.length pk = 32 from hpk)]; done))) rfl (fun _ e => e ▸ rng_at (p := ([.slice As ls cs, .bool lf] : List Value)) (q := ((List.map u8v pk) : List Value)) (r := ((List.map u8v pv) : List Value)) hb3 (by simp only [List.append_assoc, List.cons_append, List.nil_append, List.append_nil]) (by first | rfl | (simp only [List.length_append, List.length_map, List.length_cons, List.length_nil]; done) | (simp only [List.length_append, List.length_map, List.length_cons, List.length_nil, List.size_toArray]; done)))) ?_
      refine wl rfl rfl rfl (p_fld (j := 34) Tryd.underlying49 rfl ⟨_, by rfl⟩ rfl rfl) ?_
      refine wl rfl rfl rfl (p_ldA (cs := (List.map u8v pv)) Tryd.underlying38 rfl (szL sz38 (by first | rfl | (simp only [List.length_append, List.length_map, List.length_cons, List.length_nil, (show List.length pv = 32 from hpv)]; done) | (simp only [List.length_append, List.length_map, List.length_cons, List.length_nil, List.size_toArray, (show List.length pv = 32 from hpv)]; done))) rfl (fun _ e => e ▸ rng_at (p := (([.slice As ls cs, .bool lf] ++ (List.map u8v pk)) : List Value)) (q := ((List.map u8v pv) : List Value)) (r := []) hb3 (by simp only [List.append_assoc, List.cons_append, List.nil_append, List.append_nil]) (by first | rfl | (simp only [List.length_append, List.length_map, List.length_cons, List.length_nil, (show List.length pk = 32 from hpk)]; done) | (simp only [List.length_append, List.length_map, List.length_cons, List.length_nil, List.size_toArray, (show List.length pk = 32 from hpk)]; done)))) ?_
      refine wle rfl (e_call ent74 rfl rfl (titem_any (hpk) (hpv) hrnd) ?_)
      rintro _ w11 ⟨rfl, hc⟩
      refine ⟨_, rfl, ?_⟩
      have hzw11 := hc.size
      have HC := HC.tr hc
      have hst := hst.no hc
      have hrnd := hrnd.no hc
      have hb2 := hb2.ch hc (fun h => h)
      have hb3 := hb3.ch hc (fun h => h)
      have hb4 := hb4.ch hc (fun h => h)
      have hb5 := hb5.ch hc (fun h => h)
      have hltg2 := hb2.lt
      have hltg3 := hb3.lt
      have hltg4 := hb4.lt
      have hltg5 := hb5.lt
      refine wle rfl (e_alloc (cs := ((List.replicate 32 (0 : UInt8)).map u8v).toArray) rfl (by rfl) rfl (fun w12 g6 hg6 hb6 hc hsz6 => ?_))
      have hzw12 := hc.size
      have HC := HC.tr hc
      have hst := hst.no hc
      have hrnd := hrnd.no hc
      have hb2 := hb2.ch hc (fun h => h)
      have hb3 := hb3.ch hc (fun h => h)
      have hb4 := hb4.ch hc (fun h => h)
      have hb5 := hb5.ch hc (fun h => h)
      have hge6 : w.heap.size ≤ g6 := by have := HC.size; omega
      have neg2_6 : g2 < g6 := by omega
      have neg3_6 : g3 < g6 := by omega
      have neg4_6 : g4 < g6 := by omega
      have neg5_6 : g5 < g6 := by omega
      refine wle rfl (e_stW (vs := List.map u8v (itemH pk pv)) (szL sz38 (by rw [List.length_map]; exact (itemH_len _ _ ))) (oneL one_u8 _) rfl rfl hb6 (by simp only [List.size_toArray, List.length_map]; first | done | exact ((List.length_replicate ..)).trans ((itemH_len _ _ )).symm) (fun w13 hb6 hc hsz => ?_))
      have hzw13 := hc.size
      have HC := HC.trans hc (fun _ _ h => h) (fun k hk ht => absurd ht (by omega))
      first | have hst := hst.ch hc (by intro k hk ht; first | omega | (dsimp only at *; omega)) | have hst := hst.chT hc (by intro k hz hk ht; first | omega | (dsimp only at *; omega))
      first | have hrnd := hrnd.ch hc (by intro k hk ht; first | omega | (dsimp only at *; omega)) | have hrnd := hrnd.chT hc (by intro k hz hk ht; first | omega | (dsimp only at *; omega))
      have hb2 := hb2.ch hc (by omega)
      have hb3 := hb3.ch hc (by omega)
      have hb4 := hb4.ch hc (by omega)
      have hb5 := hb5.ch hc (by omega)
      refine wl_nil ?_
      refine x_seq ?_
      refine wc_seq ?_
      refine wc_seq ?_
      refine wc_region ?_
      refine wl rfl rfl rfl (p_fld (j := 0) Tryd.underlying49 rfl ⟨_, by rfl⟩ rfl rfl) ?_
      refine wl rfl rfl rfl (p_ld Tryd.underlying47 rfl rfl (ld (cell_at (p := []) (v := (.slice As ls cs : Value)) (r := (([.bool lf] ++ ((List.map u8v pk) ++ (List.map u8v pv))) : List Value)) hb3 (by simp only [List.append_assoc, List.cons_append, List.nil_append, List.append_nil]) (by first | rfl | (simp only [List.length_append, List.length_map, List.length_cons, List.length_nil]; done) | (simp only [List.length_append, List.length_map, List.length_cons, List.length_nil, List.size_toArray]; done))))) ?_
      refine wle rfl (e_call ent75 rfl rfl (back_any) ?_)
      rintro _ w14 ⟨g28, rfl, hgB28, hBn, hc⟩
      refine ⟨_, rfl, ?_⟩
      have hzw14 := hc.size
      have HC := HC.tr hc
      have hst := hst.no hc
      have hrnd := hrnd.no hc
      have hb2 := hb2.ch hc (fun h => h)
      have hb3 := hb3.ch hc (fun h => h)
      have hb4 := hb4.ch hc (fun h => h)
      have hb5 := hb5.ch hc (fun h => h)
      have hb6 := hb6.ch hc (fun h => h)
      refine wl_nil ?_
      refine x_seq ?_
      refine wc_block ?_
      have hltg2 := hb2.lt
      have hltg3 := hb3.lt
      have hltg4 := hb4.lt
      have hltg5 := hb5.lt
      have hltg6 := hb6.lt
      have hltg28 := hBn.lt
      have hz0 := HC.size
      refine wc_rangeS (m := 0) rfl (enters_of Tryd.func103 (by kernel_rfl) rfl) (fun i : Nat => #[i64 (i : Int), .agg (eST.f (st.getD i ⟨0, zeroH⟩)).toArray]) (fun _ => rfl) (fun (pre : List Nat) (i : Nat) => pre.length + i + 1 = ls) (fun xs => xs.length = ls) (fun _ => True) (fun W => Blk W g28 47 #[.slice As ls cs] ∧ SI W (fun k => k < w.heap.size) eST As ls cs st) ?hseq (fun xs W => ∃ h : List UInt8, (h.length = 32) ∧ (climbS k pk (itemH pk pv) (st.drop (ls - xs.length)) = some h) ∧ (xs.length ≤ ls) ∧ (Blk W g2 38 (List.map u8v k).toArray) ∧ (Blk W g3 49 (([.slice As ls cs, .bool lf] ++ ((List.map u8v pk) ++ (List.map u8v pv))) : List Value).toArray) ∧ (Blk W g4 38 (List.map u8v (List.replicate 32 (0 : UInt8))).toArray) ∧ (Blk W g5 4 #[.bool false]) ∧ (Blk W g6 38 (List.map u8v h).toArray) ∧ (Blk W g28 47 #[.slice As ls cs]) ∧ (SI W (fun k => k < w.heap.size) eST As ls cs st) ∧ (Sl W (fun k => k = 0) u32v (some ⟨0, 0, none⟩) 64 64 rk) ∧ (Ch No w W)) (fun c xs W => c = Code.ret ∧ (climbS k pk (itemH pk pv) st = none) ∧ (Blk W g4 38 (List.map u8v (List.replicate 32 (0 : UInt8))).toArray) ∧ (Blk W g5 4 #[.bool false]) ∧ (Ch No w W)) ?hI ?hIx ?hIl ?hIxl ?hXI ?h0 ?hround ?hdone ?hstop
      case hseq =>
        intro l J Jx W hcW hsW hJ hJx hXJ hY hJ0
        exact (backs_any (fun xs A h => hXJ xs A h) hls hJ hJx hY hJ0).mono (fun e w' h => ⟨⟨_, h.1⟩, h.2⟩)
      case hI =>
        rintro xs A B ⟨h, hh, hcl, hxl, hb2, hb3, hb4, hb5, hb6, hBn, hst, hrnd, HC⟩ hc
        have hzB := hc.size
        have HC := HC.tr hc
        have hb2 := hb2.ch hc (fun h => h)
        have hb3 := hb3.ch hc (fun h => h)
        have hb4 := hb4.ch hc (fun h => h)
        have hb5 := hb5.ch hc (fun h => h)
        have hb6 := hb6.ch hc (fun h => h)
        have hBn := hBn.ch hc (fun h => h)
        have hst := hst.no hc
        have hrnd := hrnd.no hc
        exact ⟨h, hh, hcl, hxl, hb2, hb3, hb4, hb5, hb6, hBn, hst, hrnd, HC⟩
      case hIx =>
        rintro c xs A B ⟨hcx, hno, hb4, hb5, HC⟩ hc
        have hzB := hc.size
        have HC := HC.tr hc
        have hb4 := hb4.ch hc (fun h => h)
        have hb5 := hb5.ch hc (fun h => h)
        exact ⟨hcx, hno, hb4, hb5, HC⟩
      case hIl =>
        rintro xs A B ⟨h, hh, hcl, hxl, hb2, hb3, hb4, hb5, hb6, hBn, hst, hrnd, HC⟩ hc
        have hzB := hc.size
        have HC := HC.trans hc (fun _ _ h => h) (fun k hk ht => absurd ht (by omega))
        have hb2 := hb2.ch hc (by omega)
        have hb3 := hb3.ch hc (by omega)
        have hb4 := hb4.ch hc (by omega)
        have hb5 := hb5.ch hc (by omega)
        have hb6 := hb6.ch hc (by omega)
        have hBn := hBn.ch hc (by omega)
        first | have hst := hst.ch hc (by intro k hk ht; first | omega | (dsimp only at *; omega)) | have hst := hst.chT hc (by intro k hz hk ht; first | omega | (dsimp only at *; omega))
        first | have hrnd := hrnd.ch hc (by intro k hk ht; first | omega | (dsimp only at *; omega)) | have hrnd := hrnd.chT hc (by intro k hz hk ht; first | omega | (dsimp only at *; omega))
        exact ⟨h, hh, hcl, hxl, hb2, hb3, hb4, hb5, hb6, hBn, hst, hrnd, HC⟩
      case hIxl =>
        rintro c xs A B ⟨hcx, hno, hb4, hb5, HC⟩ hc
        have hzB := hc.size
        have HC := HC.trans hc (fun _ _ h => h) (fun k hk ht => absurd ht (by omega))
        have hb4 := hb4.ch hc (by omega)
        have hb5 := hb5.ch hc (by omega)
        exact ⟨hcx, hno, hb4, hb5, HC⟩
      case hXI =>
        rintro xs W ⟨h, hh, hcl, hxl, hb2, hb3, hb4, hb5, hb6, hBn, hst, hrnd, HC⟩
        exact ⟨hBn, hst⟩
      case h0 =>
        intro W hc hs
        have hzW := hc.size
        have HC := HC.tr hc
        have hb2 := hb2.ch hc (fun h => h)
        have hb3 := hb3.ch hc (fun h => h)
        have hb4 := hb4.ch hc (fun h => h)
        have hb5 := hb5.ch hc (fun h => h)
        have hb6 := hb6.ch hc (fun h => h)
        have hBn := hBn.ch hc (fun h => h)
        have hst := hst.no hc
        have hrnd := hrnd.no hc
        exact ⟨_, (itemH_len _ _), (by rw [List.length_nil, Nat.sub_zero, List.drop_of_length_le (by omega)]; rfl), (by simp), hb2, hb3, hb4, hb5, hb6, hBn, hst, hrnd, HC⟩
      case hround =>
        intro l pre x W hl hD hsz hI a F
        subst hl
        obtain ⟨h, hh, hcl, hxl, hb2, hb3, hb4, hb5, hb6, hBn, hst, hrnd, HC⟩ := hI
        have hzW := HC.size
        have hD : pre.length + x + 1 = ls := hD
        obtain ⟨y, hy⟩ : ∃ y, y = st.getD x ⟨0, zeroH⟩ := ⟨_, rfl⟩
        rw [← hy]
        have hyk : y.side.length = 32 := by rw [hy]; exact hst.okAt (by omega)
        have hdr : st.drop x = y :: st.drop (x + 1) := by rw [hy]; exact getD_drop (by omega)
        refine (?_ : WCi _ _ _ _ _ _ _ _) _ (F.hand2 rfl rfl)
        have hB : Ch (fun k => k ≠ w14.heap.size + 1 ∧ k ≠ w14.heap.size) W W := Ch.refl _ _
        refine wci_region ?_
        have hltg2 := hb2.lt
        have hltg3 := hb3.lt
        have hltg4 := hb4.lt
        have hltg5 := hb5.lt
        have hltg6 := hb6.lt
        have hltg28 := hBn.lt
        refine wlie rfl (by repeat (first | with_reducible exact no_stop | with_reducible exact no_false | with_reducible apply no_then | with_reducible apply no_in)) (e_alloc (cs := (([Value.int .i64 0] ++ (List.map u8v (List.replicate 32 (0 : UInt8)))) : List Value).toArray) rfl (by rfl) rfl (fun w15 g8 hg8 hb8 hc hsz8 => ?_))
        have hzw15 := hc.size
        have HC := HC.tr hc
        have hB := hB.tr hc
        have hb2 := hb2.ch hc (fun h => h)
        have hb3 := hb3.ch hc (fun h => h)
        have hb4 := hb4.ch hc (fun h => h)
        have hb5 := hb5.ch hc (fun h => h)
        have hb6 := hb6.ch hc (fun h => h)
        have hBn := hBn.ch hc (fun h => h)
        have hst := hst.no hc
        have hrnd := hrnd.no hc
        have hge8 : w.heap.size ≤ g8 := by have := HC.size; omega
        have neg2_8 : g2 < g8 := by omega
        have neg3_8 : g3 < g8 := by omega
        have neg4_8 : g4 < g8 := by omega
        have neg5_8 : g5 < g8 := by omega
        have neg6_8 : g6 < g8 := by omega
        have neg28_8 : g28 < g8 := by omega
        refine wlie rfl (by repeat (first | with_reducible exact no_stop | with_reducible exact no_false | with_reducible apply no_then | with_reducible apply no_in)) (e_stW (vs := (([i64 y.bit] ++ (List.map u8v y.side)) : List Value)) (szL sz126 (by first | rfl | (simp only [List.length_append, List.length_map, List.length_cons, List.length_nil, (show List.length y.side = 32 from hyk)]; done) | (simp only [List.length_append, List.length_map, List.length_cons, List.length_nil, List.size_toArray, (show List.length y.side = 32 from hyk)]; done))) (oneA (allOne rfl) (oneL one_u8 _)) rfl rfl hb8 (by first | rfl | (simp only [List.length_append, List.length_map, List.length_cons, List.length_nil, (show List.length (List.replicate 32 (0 : UInt8)) = 32 from (List.length_replicate ..)), (show List.length y.side = 32 from hyk)]; done) | (simp only [List.length_append, List.length_map, List.length_cons, List.length_nil, List.size_toArray, (show List.length (List.replicate 32 (0 : UInt8)) = 32 from (List.length_replicate ..)), (show List.length y.side = 32 from hyk)]; done)) (fun w16 hb8 hc hsz => ?_))
        have hzw16 := hc.size
        have HC := HC.trans hc (fun _ _ h => h) (fun k hk ht => absurd ht (by omega))
        have hB := hB.trans hc (fun _ _ h => h) (fun k hk ht => by first | omega | (dsimp only at *; omega))
        have hb2 := hb2.ch hc (by omega)
        have hb3 := hb3.ch hc (by omega)
        have hb4 := hb4.ch hc (by omega)
        have hb5 := hb5.ch hc (by omega)
        have hb6 := hb6.ch hc (by omega)
        have hBn := hBn.ch hc (by omega)
        first | have hst := hst.ch hc (by intro k hk ht; first | omega | (dsimp only at *; omega)) | have hst := hst.chT hc (by intro k hz hk ht; first | omega | (dsimp only at *; omega))
        first | have hrnd := hrnd.ch hc (by intro k hk ht; first | omega | (dsimp only at *; omega)) | have hrnd := hrnd.chT hc (by intro k hz hk ht; first | omega | (dsimp only at *; omega))
        refine wli_nil ?_
        refine xi_asg hB (fun W2 hc hsW => ?_)
        have hzW2 := hc.size
        have HC := HC.trans hc (fun _ _ h => h) (fun k hk ht => absurd ht (by omega))
        have hb2 := hb2.ch hc (by omega)
        have hb3 := hb3.ch hc (by omega)
        have hb4 := hb4.ch hc (by omega)
        have hb5 := hb5.ch hc (by omega)
        have hb6 := hb6.ch hc (by omega)
        have hBn := hBn.ch hc (by omega)
        first | have hst := hst.ch hc (by intro k hk ht; first | omega | (dsimp only at *; omega)) | have hst := hst.chT hc (by intro k hz hk ht; first | omega | (dsimp only at *; omega))
        first | have hrnd := hrnd.ch hc (by intro k hk ht; first | omega | (dsimp only at *; omega)) | have hrnd := hrnd.chT hc (by intro k hz hk ht; first | omega | (dsimp only at *; omega))
        have hb8 := hb8.ch hc (by omega)
        have hB : Ch (fun k => k ≠ w14.heap.size + 1 ∧ k ≠ w14.heap.size) W2 W2 := Ch.refl _ _
        refine wci_block ?_
        refine wci_seq ?_
        refine wci_region ?_
        refine wli rfl rfl rfl (p_ldA (cs := List.map u8v k) Tryd.underlying38 rfl (szL sz38 (by rw [List.length_map]; exact hk)) rfl (fun _ e => e ▸ rngL hb2)) ?_
        refine wli rfl rfl rfl (p_fld (j := 0) Tryd.underlying126 rfl ⟨_, by rfl⟩ rfl rfl) ?_
        refine wli rfl rfl rfl (p_ld Tryd.underlying3 rfl rfl (ld (cell_at (p := []) (v := (i64 y.bit : Value)) (r := ((List.map u8v y.side) : List Value)) hb8 (by simp only [List.append_assoc, List.cons_append, List.nil_append, List.append_nil]) (by first | rfl | (simp only [List.length_append, List.length_map, List.length_cons, List.length_nil]; done) | (simp only [List.length_append, List.length_map, List.length_cons, List.length_nil, List.size_toArray]; done))))) ?_
        refine wlie rfl (by repeat (first | with_reducible exact no_stop | with_reducible exact no_false | with_reducible apply no_then | with_reducible apply no_in)) (e_call ent38 rfl rfl (bitIS (i := y.bit) (hk)) ?_)
        rintro _ w17 ⟨s34, rfl, hs34, hsl34, hc⟩
        refine ⟨_, rfl, ?_⟩
        have hzw17 := hc.size
        have HC := HC.tr hc
        have hB := hB.tr hc
        have hb2 := hb2.ch hc (fun h => h)
        have hb3 := hb3.ch hc (fun h => h)
        have hb4 := hb4.ch hc (fun h => h)
        have hb5 := hb5.ch hc (fun h => h)
        have hb6 := hb6.ch hc (fun h => h)
        have hBn := hBn.ch hc (fun h => h)
        have hst := hst.no hc
        have hrnd := hrnd.no hc
        have hb8 := hb8.ch hc (fun h => h)
        refine wli rfl rfl rfl (p_as rfl) ?_
        refine wli_nil ?_
        refine xi_seq ?_
        refine wci_seq ?_
        refine wci_seq ?_
        refine wci_region ?_
        refine wli rfl rfl rfl (p_fld (j := 2) Tryd.underlying49 rfl ⟨_, by rfl⟩ rfl rfl) ?_
        refine wli rfl rfl rfl (p_ldA (cs := (List.map u8v pk)) Tryd.underlying38 rfl (szL sz38 (by first | rfl | (simp only [List.length_append, List.length_map, List.length_cons, List.length_nil, (show List.length pk = 32 from hpk)]; done) | (simp only [List.length_append, List.length_map, List.length_cons, List.length_nil, List.size_toArray, (show List.length pk = 32 from hpk)]; done))) rfl (fun _ e => e ▸ rng_at (p := ([.slice As ls cs, .bool lf] : List Value)) (q := ((List.map u8v pk) : List Value)) (r := ((List.map u8v pv) : List Value)) hb3 (by simp only [List.append_assoc, List.cons_append, List.nil_append, List.append_nil]) (by first | rfl | (simp only [List.length_append, List.length_map, List.length_cons, List.length_nil]; done) | (simp only [List.length_append, List.length_map, List.length_cons, List.length_nil, List.size_toArray]; done)))) ?_
        refine wli rfl rfl rfl (p_fld (j := 0) Tryd.underlying126 rfl ⟨_, by rfl⟩ rfl rfl) ?_
        refine wli rfl rfl rfl (p_ld Tryd.underlying3 rfl rfl (ld (cell_at (p := []) (v := (i64 y.bit : Value)) (r := ((List.map u8v y.side) : List Value)) hb8 (by simp only [List.append_assoc, List.cons_append, List.nil_append, List.append_nil]) (by first | rfl | (simp only [List.length_append, List.length_map, List.length_cons, List.length_nil]; done) | (simp only [List.length_append, List.length_map, List.length_cons, List.length_nil, List.size_toArray]; done))))) ?_
        refine wlie rfl (by repeat (first | with_reducible exact no_stop | with_reducible exact no_false | with_reducible apply no_then | with_reducible apply no_in)) (e_call ent38 rfl rfl (bitIS (i := y.bit) (hpk)) ?_)
        rintro _ w18 ⟨s39, rfl, hs39, hsl39, hc⟩
        refine ⟨_, rfl, ?_⟩
        have hzw18 := hc.size
        have HC := HC.tr hc
        have hB := hB.tr hc
        have hb2 := hb2.ch hc (fun h => h)
        have hb3 := hb3.ch hc (fun h => h)
        have hb4 := hb4.ch hc (fun h => h)
        have hb5 := hb5.ch hc (fun h => h)
        have hb6 := hb6.ch hc (fun h => h)
        have hBn := hBn.ch hc (fun h => h)
        have hst := hst.no hc
        have hrnd := hrnd.no hc
        have hb8 := hb8.ch hc (fun h => h)
        refine wli rfl rfl rfl (p_mv rfl) ?_
        refine wli rfl rfl rfl (p_ne rfl rfl) ?_
        refine wli_nil ?_
        refine xi_seq ?_
        refine wci_if rfl (fun c2 => ?_) (fun c2 => ?_)
        ·
          have c2 := of_decide_eq_true c2
          refine wci_seq ?_
          refine wci_region ?_
          refine wli rfl rfl rfl (p_bldP (cs := ((List.replicate 32 (0 : UInt8)).map u8v).toArray) rfl (fun _ => by kernel_rfl)) ?_
          refine wlie rfl (by repeat (first | with_reducible exact no_stop | with_reducible exact no_false | with_reducible apply no_then | with_reducible apply no_in)) (e_stW (vs := List.map u8v (List.replicate 32 (0 : UInt8))) (szL sz38 (by rw [List.length_map]; exact (List.length_replicate ..))) (oneL one_u8 _) rfl rfl hb4 (by simp only [List.size_toArray, List.length_map]; first | done | exact ((List.length_replicate ..)).trans ((List.length_replicate ..)).symm) (fun w19 hb4 hc hsz => ?_))
          have hzw19 := hc.size
          have HC := HC.trans hc (fun _ _ h => h) (fun k hk ht => absurd ht (by omega))
          have hB := hB.trans hc (fun _ _ h => h) (fun k hk ht => by first | omega | (dsimp only at *; omega))
          have hb2 := hb2.ch hc (by omega)
          have hb3 := hb3.ch hc (by omega)
          have hb5 := hb5.ch hc (by omega)
          have hb6 := hb6.ch hc (by omega)
          have hBn := hBn.ch hc (by omega)
          first | have hst := hst.ch hc (by intro k hk ht; first | omega | (dsimp only at *; omega)) | have hst := hst.chT hc (by intro k hz hk ht; first | omega | (dsimp only at *; omega))
          first | have hrnd := hrnd.ch hc (by intro k hk ht; first | omega | (dsimp only at *; omega)) | have hrnd := hrnd.chT hc (by intro k hz hk ht; first | omega | (dsimp only at *; omega))
          have hb8 := hb8.ch hc (by omega)
          refine wlie rfl (by repeat (first | with_reducible exact no_stop | with_reducible exact no_false | with_reducible apply no_then | with_reducible apply no_in)) (e_st1 (by rfl) rfl rfl rfl hb5 (fun w20 hb5 hc hsz => ?_))
          have hzw20 := hc.size
          have HC := HC.trans hc (fun _ _ h => h) (fun k hk ht => absurd ht (by omega))
          have hB := hB.trans hc (fun _ _ h => h) (fun k hk ht => by first | omega | (dsimp only at *; omega))
          have hb2 := hb2.ch hc (by omega)
          have hb3 := hb3.ch hc (by omega)
          have hb4 := hb4.ch hc (by omega)
          have hb6 := hb6.ch hc (by omega)
          have hBn := hBn.ch hc (by omega)
          first | have hst := hst.ch hc (by intro k hk ht; first | omega | (dsimp only at *; omega)) | have hst := hst.chT hc (by intro k hz hk ht; first | omega | (dsimp only at *; omega))
          first | have hrnd := hrnd.ch hc (by intro k hk ht; first | omega | (dsimp only at *; omega)) | have hrnd := hrnd.chT hc (by intro k hz hk ht; first | omega | (dsimp only at *; omega))
          have hb8 := hb8.ch hc (by omega)
          refine wli_nil ?_
          refine xi_seq ?_
          refine wci_ret ?_
          refine x_then_ret ?_
          refine x_in_ret ?_
          exact wq_stop_ret ⟨rfl, (climb_no hdr (by omega) hcl (by omega)), hb4, hb5, HC⟩ hB
        ·
          have c2 := of_decide_eq_false c2
          refine wci_skip ?_
          refine xi_seq ?_
          refine wci_seq ?_
          refine wci_region ?_
          refine wli rfl rfl rfl (p_fld (j := 1) Tryd.underlying126 rfl ⟨_, by rfl⟩ rfl rfl) ?_
          refine wli rfl rfl rfl (p_ldA (cs := (List.map u8v y.side)) Tryd.underlying38 rfl (szL sz38 (by first | rfl | (simp only [List.length_append, List.length_map, List.length_cons, List.length_nil, (show List.length y.side = 32 from hyk)]; done) | (simp only [List.length_append, List.length_map, List.length_cons, List.length_nil, List.size_toArray, (show List.length y.side = 32 from hyk)]; done))) rfl (fun _ e => e ▸ rng_at (p := ([i64 y.bit] : List Value)) (q := ((List.map u8v y.side) : List Value)) (r := []) hb8 (by simp only [List.append_assoc, List.cons_append, List.nil_append, List.append_nil]) (by first | rfl | (simp only [List.length_append, List.length_map, List.length_cons, List.length_nil]; done) | (simp only [List.length_append, List.length_map, List.length_cons, List.length_nil, List.size_toArray]; done)))) ?_
          refine wli rfl rfl rfl (p_fld (j := 1) Tryd.underlying126 rfl ⟨_, by rfl⟩ rfl rfl) ?_
          refine wli rfl rfl rfl (p_ldA (cs := (List.map u8v y.side)) Tryd.underlying38 rfl (szL sz38 (by first | rfl | (simp only [List.length_append, List.length_map, List.length_cons, List.length_nil, (show List.length y.side = 32 from hyk)]; done) | (simp only [List.length_append, List.length_map, List.length_cons, List.length_nil, List.size_toArray, (show List.length y.side = 32 from hyk)]; done))) rfl (fun _ e => e ▸ rng_at (p := ([i64 y.bit] : List Value)) (q := ((List.map u8v y.side) : List Value)) (r := []) hb8 (by simp only [List.append_assoc, List.cons_append, List.nil_append, List.append_nil]) (by first | rfl | (simp only [List.length_append, List.length_map, List.length_cons, List.length_nil]; done) | (simp only [List.length_append, List.length_map, List.length_cons, List.length_nil, List.size_toArray]; done)))) ?_
          refine wli rfl rfl rfl (p_bldX (vs' := [(.agg ((hx y.side) : List Value).toArray), (.agg ((hx y.side) : List Value).toArray)]) (cs := (((List.map u8v y.side) ++ (List.map u8v y.side)) : List Value)) (cs' := (((hx y.side) ++ (hx y.side)) : List Value)) rfl (by simp only [hv, map_hx hyk] <;> rfl) (by simp only [hv, map_hx hyk] <;> rfl) (fun _ => by kernel_rfl)) ?_
          have hltg2 := hb2.lt
          have hltg3 := hb3.lt
          have hltg4 := hb4.lt
          have hltg5 := hb5.lt
          have hltg6 := hb6.lt
          have hltg28 := hBn.lt
          have hltg8 := hb8.lt
          refine wlie rfl (by repeat (first | with_reducible exact no_stop | with_reducible exact no_false | with_reducible apply no_then | with_reducible apply no_in)) (e_alloc (cs := (((List.map u8v (List.replicate 32 (0 : UInt8))) ++ (List.map u8v (List.replicate 32 (0 : UInt8)))) : List Value).toArray) rfl (by rfl) rfl (fun w21 g10 hg10 hb10 hc hsz10 => ?_))
          have hzw21 := hc.size
          have HC := HC.tr hc
          have hB := hB.tr hc
          have hb2 := hb2.ch hc (fun h => h)
          have hb3 := hb3.ch hc (fun h => h)
          have hb4 := hb4.ch hc (fun h => h)
          have hb5 := hb5.ch hc (fun h => h)
          have hb6 := hb6.ch hc (fun h => h)
          have hBn := hBn.ch hc (fun h => h)
          have hst := hst.no hc
          have hrnd := hrnd.no hc
          have hb8 := hb8.ch hc (fun h => h)
          have hge10 : w.heap.size ≤ g10 := by have := HC.size; omega
          have neg2_10 : g2 < g10 := by omega
          have neg3_10 : g3 < g10 := by omega
          have neg4_10 : g4 < g10 := by omega
          have neg5_10 : g5 < g10 := by omega
          have neg6_10 : g6 < g10 := by omega
          have neg28_10 : g28 < g10 := by omega
          have neg8_10 : g8 < g10 := by omega
          refine wlie rfl (by repeat (first | with_reducible exact no_stop | with_reducible exact no_false | with_reducible apply no_then | with_reducible apply no_in)) (e_stW (vs := (((List.map u8v y.side) ++ (List.map u8v y.side)) : List Value)) (szL sz135 (by first | rfl | (simp only [List.length_append, List.length_map, List.length_cons, List.length_nil, (show List.length y.side = 32 from hyk), (show List.length y.side = 32 from hyk)]; done) | (simp only [List.length_append, List.length_map, List.length_cons, List.length_nil, List.size_toArray, (show List.length y.side = 32 from hyk), (show List.length y.side = 32 from hyk)]; done))) (oneA (oneL one_u8 _) (oneL one_u8 _)) rfl rfl hb10 (by first | rfl | (simp only [List.length_append, List.length_map, List.length_cons, List.length_nil, (show List.length (List.replicate 32 (0 : UInt8)) = 32 from (List.length_replicate ..)), (show List.length (List.replicate 32 (0 : UInt8)) = 32 from (List.length_replicate ..)), (show List.length y.side = 32 from hyk), (show List.length y.side = 32 from hyk)]; done) | (simp only [List.length_append, List.length_map, List.length_cons, List.length_nil, List.size_toArray, (show List.length (List.replicate 32 (0 : UInt8)) = 32 from (List.length_replicate ..)), (show List.length (List.replicate 32 (0 : UInt8)) = 32 from (List.length_replicate ..)), (show List.length y.side = 32 from hyk), (show List.length y.side = 32 from hyk)]; done)) (fun w22 hb10 hc hsz => ?_))
          have hzw22 := hc.size
          have HC := HC.trans hc (fun _ _ h => h) (fun k hk ht => absurd ht (by omega))
          have hB := hB.trans hc (fun _ _ h => h) (fun k hk ht => by first | omega | (dsimp only at *; omega))
          have hb2 := hb2.ch hc (by omega)
          have hb3 := hb3.ch hc (by omega)
          have hb4 := hb4.ch hc (by omega)
          have hb5 := hb5.ch hc (by omega)
          have hb6 := hb6.ch hc (by omega)
          have hBn := hBn.ch hc (by omega)
          first | have hst := hst.ch hc (by intro k hk ht; first | omega | (dsimp only at *; omega)) | have hst := hst.chT hc (by intro k hz hk ht; first | omega | (dsimp only at *; omega))
          first | have hrnd := hrnd.ch hc (by intro k hk ht; first | omega | (dsimp only at *; omega)) | have hrnd := hrnd.chT hc (by intro k hz hk ht; first | omega | (dsimp only at *; omega))
          have hb8 := hb8.ch hc (by omega)
          refine wli_nil ?_
          refine xi_seq ?_
          refine wci_seq ?_
          obtain rfl | rfl : s34 = 0 ∨ s34 = 1 := by omega
          ·
            refine wci_region ?_
            refine wli rfl rfl rfl (p_mv rfl) ?_
            refine wli rfl rfl rfl (p_ldA (cs := List.map u8v h) Tryd.underlying38 rfl (szL sz38 (by rw [List.length_map]; exact hh)) rfl (fun _ e => e ▸ rngL hb6)) ?_
            refine wli rfl rfl rfl (p_ixA (j := 0) Tryd.underlying135 sz38 rfl rfl (by omega) (by omega) rfl) ?_
            refine wlie rfl (by repeat (first | with_reducible exact no_stop | with_reducible exact no_false | with_reducible apply no_then | with_reducible apply no_in)) (e_stR2 (p := []) (q := ((List.map u8v y.side) : List Value)) (r := ((List.map u8v y.side) : List Value)) (vs := ((List.map u8v h) : List Value)) (szL sz38 (by first | rfl | (simp only [List.length_append, List.length_map, List.length_cons, List.length_nil, (show List.length h = 32 from hh)]; done) | (simp only [List.length_append, List.length_map, List.length_cons, List.length_nil, List.size_toArray, (show List.length h = 32 from hh)]; done))) (oneL one_u8 _) rfl rfl hb10 (by simp only [List.append_assoc, List.cons_append, List.nil_append, List.append_nil]) (by first | rfl | (simp only [List.length_append, List.length_map, List.length_cons, List.length_nil]; done) | (simp only [List.length_append, List.length_map, List.length_cons, List.length_nil, List.size_toArray]; done)) (by first | rfl | (simp only [List.length_append, List.length_map, List.length_cons, List.length_nil, (show List.length h = 32 from hh), (show List.length y.side = 32 from hyk)]; done) | (simp only [List.length_append, List.length_map, List.length_cons, List.length_nil, List.size_toArray, (show List.length h = 32 from hh), (show List.length y.side = 32 from hyk)]; done)) (fun w24 hb10 hc hsz => ?_))
            have hb10 : Blk w24 g10 135 (((List.map u8v h) ++ (List.map u8v y.side)) : List Value).toArray := by have h := hb10; simp only [List.append_assoc, List.cons_append, List.nil_append, List.append_nil] at h ⊢; exact h
            have hzw24 := hc.size
            have HC := HC.trans hc (fun _ _ h => h) (fun k hk ht => absurd ht (by omega))
            have hB := hB.trans hc (fun _ _ h => h) (fun k hk ht => by first | omega | (dsimp only at *; omega))
            have hb2 := hb2.ch hc (by omega)
            have hb3 := hb3.ch hc (by omega)
            have hb4 := hb4.ch hc (by omega)
            have hb5 := hb5.ch hc (by omega)
            have hb6 := hb6.ch hc (by omega)
            have hBn := hBn.ch hc (by omega)
            first | have hst := hst.ch hc (by intro k hk ht; first | omega | (dsimp only at *; omega)) | have hst := hst.chT hc (by intro k hz hk ht; first | omega | (dsimp only at *; omega))
            first | have hrnd := hrnd.ch hc (by intro k hk ht; first | omega | (dsimp only at *; omega)) | have hrnd := hrnd.chT hc (by intro k hz hk ht; first | omega | (dsimp only at *; omega))
            have hb8 := hb8.ch hc (by omega)
            refine wli_nil ?_
            refine xi_seq ?_
            refine wci_region ?_
            refine wli rfl rfl rfl (p_fld (j := 0) Tryd.underlying126 rfl ⟨_, by rfl⟩ rfl rfl) ?_
            refine wli rfl rfl rfl (p_ld Tryd.underlying3 rfl rfl (ld (cell_at (p := []) (v := (i64 y.bit : Value)) (r := ((List.map u8v y.side) : List Value)) hb8 (by simp only [List.append_assoc, List.cons_append, List.nil_append, List.append_nil]) (by first | rfl | (simp only [List.length_append, List.length_map, List.length_cons, List.length_nil]; done) | (simp only [List.length_append, List.length_map, List.length_cons, List.length_nil, List.size_toArray]; done))))) ?_
            refine wli rfl rfl rfl (p_ixA (j := 0) Tryd.underlying135 sz38 rfl rfl (by omega) (by omega) rfl) ?_
            refine wli rfl rfl rfl (p_ldA (cs := (List.map u8v h)) Tryd.underlying38 rfl (szL sz38 (by first | rfl | (simp only [List.length_append, List.length_map, List.length_cons, List.length_nil, (show List.length h = 32 from hh)]; done) | (simp only [List.length_append, List.length_map, List.length_cons, List.length_nil, List.size_toArray, (show List.length h = 32 from hh)]; done))) rfl (fun _ e => e ▸ rng_at (p := []) (q := ((List.map u8v h) : List Value)) (r := ((List.map u8v y.side) : List Value)) hb10 (by simp only [List.append_assoc, List.cons_append, List.nil_append, List.append_nil]) (by first | rfl | (simp only [List.length_append, List.length_map, List.length_cons, List.length_nil]; done) | (simp only [List.length_append, List.length_map, List.length_cons, List.length_nil, List.size_toArray]; done)))) ?_
            refine wli rfl rfl rfl (p_ixA (j := 32) Tryd.underlying135 sz38 rfl rfl (by omega) (by omega) rfl) ?_
            refine wli rfl rfl rfl (p_ldA (cs := (List.map u8v y.side)) Tryd.underlying38 rfl (szL sz38 (by first | rfl | (simp only [List.length_append, List.length_map, List.length_cons, List.length_nil, (show List.length y.side = 32 from hyk)]; done) | (simp only [List.length_append, List.length_map, List.length_cons, List.length_nil, List.size_toArray, (show List.length y.side = 32 from hyk)]; done))) rfl (fun _ e => e ▸ rng_at (p := ((List.map u8v h) : List Value)) (q := ((List.map u8v y.side) : List Value)) (r := []) hb10 (by simp only [List.append_assoc, List.cons_append, List.nil_append, List.append_nil]) (by first | rfl | (simp only [List.length_append, List.length_map, List.length_cons, List.length_nil, (show List.length h = 32 from hh)]; done) | (simp only [List.length_append, List.length_map, List.length_cons, List.length_nil, List.size_toArray, (show List.length h = 32 from hh)]; done)))) ?_
            refine wlie rfl (by repeat (first | with_reducible exact no_stop | with_reducible exact no_false | with_reducible apply no_then | with_reducible apply no_in)) (e_call ent76 rfl rfl (tfork_any (hh) (hyk) hrnd) ?_)
            rintro _ w27 ⟨rfl, hc⟩
            refine ⟨_, rfl, ?_⟩
            have hzw27 := hc.size
            have HC := HC.tr hc
            have hB := hB.tr hc
            have hb2 := hb2.ch hc (fun h => h)
            have hb3 := hb3.ch hc (fun h => h)
            have hb4 := hb4.ch hc (fun h => h)
            have hb5 := hb5.ch hc (fun h => h)
            have hb6 := hb6.ch hc (fun h => h)
            have hBn := hBn.ch hc (fun h => h)
            have hst := hst.no hc
            have hrnd := hrnd.no hc
            have hb8 := hb8.ch hc (fun h => h)
            have hb10 := hb10.ch hc (fun h => h)
            refine wlie rfl (by repeat (first | with_reducible exact no_stop | with_reducible exact no_false | with_reducible apply no_then | with_reducible apply no_in)) (e_stW (vs := List.map u8v (forkH (b8i (y.bit)) h y.side)) (szL sz38 (by rw [List.length_map]; exact (forkH_len _ _ _ ))) (oneL one_u8 _) rfl rfl hb6 (by simp only [List.size_toArray, List.length_map]; first | done | exact (hh).trans ((forkH_len _ _ _ )).symm) (fun w28 hb6 hc hsz => ?_))
            have hzw28 := hc.size
            have HC := HC.trans hc (fun _ _ h => h) (fun k hk ht => absurd ht (by omega))
            have hB := hB.trans hc (fun _ _ h => h) (fun k hk ht => by first | omega | (dsimp only at *; omega))
            have hb2 := hb2.ch hc (by omega)
            have hb3 := hb3.ch hc (by omega)
            have hb4 := hb4.ch hc (by omega)
            have hb5 := hb5.ch hc (by omega)
            have hBn := hBn.ch hc (by omega)
            first | have hst := hst.ch hc (by intro k hk ht; first | omega | (dsimp only at *; omega)) | have hst := hst.chT hc (by intro k hz hk ht; first | omega | (dsimp only at *; omega))
            first | have hrnd := hrnd.ch hc (by intro k hk ht; first | omega | (dsimp only at *; omega)) | have hrnd := hrnd.chT hc (by intro k hz hk ht; first | omega | (dsimp only at *; omega))
            have hb8 := hb8.ch hc (by omega)
            have hb10 := hb10.ch hc (by omega)
            refine wli_nil ?_
            refine x_in_normal ?_
            exact wq_stop ⟨(forkH (b8i y.bit) h y.side), (forkH_len _ _ _), (by rw [List.length_append]; exact climb_ok hdr (by omega) hcl hs34 (by omega) (by rfl)), (by rw [List.length_append]; simp; omega), hb2, hb3, hb4, hb5, hb6, hBn, hst, hrnd, HC⟩ hB
          ·
            refine wci_region ?_
            refine wli rfl rfl rfl (p_mv rfl) ?_
            refine wli rfl rfl rfl (p_ldA (cs := List.map u8v h) Tryd.underlying38 rfl (szL sz38 (by rw [List.length_map]; exact hh)) rfl (fun _ e => e ▸ rngL hb6)) ?_
            refine wli rfl rfl rfl (p_ixA (j := 32) Tryd.underlying135 sz38 rfl rfl (by omega) (by omega) rfl) ?_
            refine wlie rfl (by repeat (first | with_reducible exact no_stop | with_reducible exact no_false | with_reducible apply no_then | with_reducible apply no_in)) (e_stR2 (p := ((List.map u8v y.side) : List Value)) (q := ((List.map u8v y.side) : List Value)) (r := []) (vs := ((List.map u8v h) : List Value)) (szL sz38 (by first | rfl | (simp only [List.length_append, List.length_map, List.length_cons, List.length_nil, (show List.length h = 32 from hh)]; done) | (simp only [List.length_append, List.length_map, List.length_cons, List.length_nil, List.size_toArray, (show List.length h = 32 from hh)]; done))) (oneL one_u8 _) rfl rfl hb10 (by simp only [List.append_assoc, List.cons_append, List.nil_append, List.append_nil]) (by first | rfl | (simp only [List.length_append, List.length_map, List.length_cons, List.length_nil, (show List.length y.side = 32 from hyk)]; done) | (simp only [List.length_append, List.length_map, List.length_cons, List.length_nil, List.size_toArray, (show List.length y.side = 32 from hyk)]; done)) (by first | rfl | (simp only [List.length_append, List.length_map, List.length_cons, List.length_nil, (show List.length h = 32 from hh), (show List.length y.side = 32 from hyk)]; done) | (simp only [List.length_append, List.length_map, List.length_cons, List.length_nil, List.size_toArray, (show List.length h = 32 from hh), (show List.length y.side = 32 from hyk)]; done)) (fun w30 hb10 hc hsz => ?_))
            have hb10 : Blk w30 g10 135 (((List.map u8v y.side) ++ (List.map u8v h)) : List Value).toArray := by have h := hb10; simp only [List.append_assoc, List.cons_append, List.nil_append, List.append_nil] at h ⊢; exact h
            have hzw30 := hc.size
            have HC := HC.trans hc (fun _ _ h => h) (fun k hk ht => absurd ht (by omega))
            have hB := hB.trans hc (fun _ _ h => h) (fun k hk ht => by first | omega | (dsimp only at *; omega))
            have hb2 := hb2.ch hc (by omega)
            have hb3 := hb3.ch hc (by omega)
            have hb4 := hb4.ch hc (by omega)
            have hb5 := hb5.ch hc (by omega)
            have hb6 := hb6.ch hc (by omega)
            have hBn := hBn.ch hc (by omega)
            first | have hst := hst.ch hc (by intro k hk ht; first | omega | (dsimp only at *; omega)) | have hst := hst.chT hc (by intro k hz hk ht; first | omega | (dsimp only at *; omega))
            first | have hrnd := hrnd.ch hc (by intro k hk ht; first | omega | (dsimp only at *; omega)) | have hrnd := hrnd.chT hc (by intro k hz hk ht; first | omega | (dsimp only at *; omega))
            have hb8 := hb8.ch hc (by omega)
            refine wli_nil ?_
            refine xi_seq ?_
            refine wci_region ?_
            refine wli rfl rfl rfl (p_fld (j := 0) Tryd.underlying126 rfl ⟨_, by rfl⟩ rfl rfl) ?_
            refine wli rfl rfl rfl (p_ld Tryd.underlying3 rfl rfl (ld (cell_at (p := []) (v := (i64 y.bit : Value)) (r := ((List.map u8v y.side) : List Value)) hb8 (by simp only [List.append_assoc, List.cons_append, List.nil_append, List.append_nil]) (by first | rfl | (simp only [List.length_append, List.length_map, List.length_cons, List.length_nil]; done) | (simp only [List.length_append, List.length_map, List.length_cons, List.length_nil, List.size_toArray]; done))))) ?_
            refine wli rfl rfl rfl (p_ixA (j := 0) Tryd.underlying135 sz38 rfl rfl (by omega) (by omega) rfl) ?_
            refine wli rfl rfl rfl (p_ldA (cs := (List.map u8v y.side)) Tryd.underlying38 rfl (szL sz38 (by first | rfl | (simp only [List.length_append, List.length_map, List.length_cons, List.length_nil, (show List.length y.side = 32 from hyk)]; done) | (simp only [List.length_append, List.length_map, List.length_cons, List.length_nil, List.size_toArray, (show List.length y.side = 32 from hyk)]; done))) rfl (fun _ e => e ▸ rng_at (p := []) (q := ((List.map u8v y.side) : List Value)) (r := ((List.map u8v h) : List Value)) hb10 (by simp only [List.append_assoc, List.cons_append, List.nil_append, List.append_nil]) (by first | rfl | (simp only [List.length_append, List.length_map, List.length_cons, List.length_nil]; done) | (simp only [List.length_append, List.length_map, List.length_cons, List.length_nil, List.size_toArray]; done)))) ?_
            refine wli rfl rfl rfl (p_ixA (j := 32) Tryd.underlying135 sz38 rfl rfl (by omega) (by omega) rfl) ?_
            refine wli rfl rfl rfl (p_ldA (cs := (List.map u8v h)) Tryd.underlying38 rfl (szL sz38 (by first | rfl | (simp only [List.length_append, List.length_map, List.length_cons, List.length_nil, (show List.length h = 32 from hh)]; done) | (simp only [List.length_append, List.length_map, List.length_cons, List.length_nil, List.size_toArray, (show List.length h = 32 from hh)]; done))) rfl (fun _ e => e ▸ rng_at (p := ((List.map u8v y.side) : List Value)) (q := ((List.map u8v h) : List Value)) (r := []) hb10 (by simp only [List.append_assoc, List.cons_append, List.nil_append, List.append_nil]) (by first | rfl | (simp only [List.length_append, List.length_map, List.length_cons, List.length_nil, (show List.length y.side = 32 from hyk)]; done) | (simp only [List.length_append, List.length_map, List.length_cons, List.length_nil, List.size_toArray, (show List.length y.side = 32 from hyk)]; done)))) ?_
            refine wlie rfl (by repeat (first | with_reducible exact no_stop | with_reducible exact no_false | with_reducible apply no_then | with_reducible apply no_in)) (e_call ent76 rfl rfl (tfork_any (hyk) (hh) hrnd) ?_)
            rintro _ w33 ⟨rfl, hc⟩
            refine ⟨_, rfl, ?_⟩
            have hzw33 := hc.size
            have HC := HC.tr hc
            have hB := hB.tr hc
            have hb2 := hb2.ch hc (fun h => h)
            have hb3 := hb3.ch hc (fun h => h)
            have hb4 := hb4.ch hc (fun h => h)
            have hb5 := hb5.ch hc (fun h => h)
            have hb6 := hb6.ch hc (fun h => h)
            have hBn := hBn.ch hc (fun h => h)
            have hst := hst.no hc
            have hrnd := hrnd.no hc
            have hb8 := hb8.ch hc (fun h => h)
            have hb10 := hb10.ch hc (fun h => h)
            refine wlie rfl (by repeat (first | with_reducible exact no_stop | with_reducible exact no_false | with_reducible apply no_then | with_reducible apply no_in)) (e_stW (vs := List.map u8v (forkH (b8i (y.bit)) y.side h)) (szL sz38 (by rw [List.length_map]; exact (forkH_len _ _ _ ))) (oneL one_u8 _) rfl rfl hb6 (by simp only [List.size_toArray, List.length_map]; first | done | exact (hh).trans ((forkH_len _ _ _ )).symm) (fun w34 hb6 hc hsz => ?_))
            have hzw34 := hc.size
            have HC := HC.trans hc (fun _ _ h => h) (fun k hk ht => absurd ht (by omega))
            have hB := hB.trans hc (fun _ _ h => h) (fun k hk ht => by first | omega | (dsimp only at *; omega))
            have hb2 := hb2.ch hc (by omega)
            have hb3 := hb3.ch hc (by omega)
            have hb4 := hb4.ch hc (by omega)
            have hb5 := hb5.ch hc (by omega)
            have hBn := hBn.ch hc (by omega)
            first | have hst := hst.ch hc (by intro k hk ht; first | omega | (dsimp only at *; omega)) | have hst := hst.chT hc (by intro k hz hk ht; first | omega | (dsimp only at *; omega))
            first | have hrnd := hrnd.ch hc (by intro k hk ht; first | omega | (dsimp only at *; omega)) | have hrnd := hrnd.chT hc (by intro k hz hk ht; first | omega | (dsimp only at *; omega))
            have hb8 := hb8.ch hc (by omega)
            have hb10 := hb10.ch hc (by omega)
            refine wli_nil ?_
            refine x_in_normal ?_
            exact wq_stop ⟨(forkH (b8i y.bit) y.side h), (forkH_len _ _ _), (by rw [List.length_append]; exact climb_ok hdr (by omega) hcl hs34 (by omega) (by rfl)), (by rw [List.length_append]; simp; omega), hb2, hb3, hb4, hb5, hb6, hBn, hst, hrnd, HC⟩ hB
      case hdone =>
        rintro xs W a' hS ⟨h, hh, hcl, hxl, hb2, hb3, hb4, hb5, hb6, hBn, hst, hrnd, HC⟩ hK F'
        refine wqd_ap ?_ F'
        have hzW := HC.size
        have hSl : xs.length = ls := hS
        rw [hSl, Nat.sub_self, List.drop_zero] at hcl
        refine xd_in_normal ?_
        refine xd_seq ?_
        refine wcd_seq ?_
        refine wcd_region ?_
        refine wld rfl rfl rfl (p_ldA (cs := List.map u8v h) Tryd.underlying38 rfl (szL sz38 (by rw [List.length_map]; exact hh)) rfl (fun _ e => e ▸ rngL hb6)) ?_
        refine wlde rfl (e_stW (vs := List.map u8v h) (szL sz38 (by rw [List.length_map]; exact hh)) (oneL one_u8 _) rfl rfl hb4 (by simp only [List.size_toArray, List.length_map]; first | done | exact ((List.length_replicate ..)).trans (hh).symm) (fun w35 hb4 hc hsz => ?_))
        have hzw35 := hc.size
        have HC := HC.trans hc (fun _ _ h => h) (fun k hk ht => absurd ht (by omega))
        have hb2 := hb2.ch hc (by omega)
        have hb3 := hb3.ch hc (by omega)
        have hb5 := hb5.ch hc (by omega)
        have hb6 := hb6.ch hc (by omega)
        have hBn := hBn.ch hc (by omega)
        first | have hst := hst.ch hc (by intro k hk ht; first | omega | (dsimp only at *; omega)) | have hst := hst.chT hc (by intro k hz hk ht; first | omega | (dsimp only at *; omega))
        first | have hrnd := hrnd.ch hc (by intro k hk ht; first | omega | (dsimp only at *; omega)) | have hrnd := hrnd.chT hc (by intro k hz hk ht; first | omega | (dsimp only at *; omega))
        have hK := hc.heap hK (by first | exact fun h => h | omega | (dsimp only; omega))
        refine wlde rfl (e_st1 (by rfl) rfl rfl rfl hb5 (fun w36 hb5 hc hsz => ?_))
        have hzw36 := hc.size
        have HC := HC.trans hc (fun _ _ h => h) (fun k hk ht => absurd ht (by omega))
        have hb2 := hb2.ch hc (by omega)
        have hb3 := hb3.ch hc (by omega)
        have hb4 := hb4.ch hc (by omega)
        have hb6 := hb6.ch hc (by omega)
        have hBn := hBn.ch hc (by omega)
        first | have hst := hst.ch hc (by intro k hk ht; first | omega | (dsimp only at *; omega)) | have hst := hst.chT hc (by intro k hz hk ht; first | omega | (dsimp only at *; omega))
        first | have hrnd := hrnd.ch hc (by intro k hk ht; first | omega | (dsimp only at *; omega)) | have hrnd := hrnd.chT hc (by intro k hz hk ht; first | omega | (dsimp only at *; omega))
        have hK := hc.heap hK (by first | exact fun h => h | omega | (dsimp only; omega))
        refine wld_nil ?_
        refine xd_seq ?_
        refine wcd_ret ?_
        refine fin_runM hK (fun w37 hc hsz => ?_)
        have hzw37 := hc.size
        have HC := HC.trans hc (fun _ _ h => h) (fun k hk ht => absurd ht (by omega))
        have hb2 := hb2.ch hc (by omega)
        have hb3 := hb3.ch hc (by omega)
        have hb4 := hb4.ch hc (by omega)
        have hb5 := hb5.ch hc (by omega)
        have hb6 := hb6.ch hc (by omega)
        have hBn := hBn.ch hc (by omega)
        first | have hst := hst.ch hc (by intro k hk ht; first | omega | (dsimp only at *; omega)) | have hst := hst.chT hc (by intro k hz hk ht; first | omega | (dsimp only at *; omega))
        first | have hrnd := hrnd.ch hc (by intro k hk ht; first | omega | (dsimp only at *; omega)) | have hrnd := hrnd.chT hc (by intro k hz hk ht; first | omega | (dsimp only at *; omega))
        refine ⟨_, resMany (rs := [.cell 4 38, .cell 5 4]) rfl (.cellA (cs := List.map u8v h) rfl Tryd.underlying38 rfl (szL sz38 (by rw [List.length_map]; exact hh)) (rngL hb4) (.cell1 rfl Tryd.underlying4 rfl (hb5.cell rfl) (.nil))) rfl, ?_⟩
        exact ⟨_, _, rfl, hh, by rw [climbP, if_neg (by simpa using c0), if_neg (by simpa using c1), hcl]; rfl, HC⟩
      case hstop =>
        rintro c xs W a' hS ⟨rfl, hno, hb4, hb5, HC⟩ hK F'
        refine wp_ret (wqd_ap ?_ F')
        have hzW := HC.size
        refine xd_in_ret ?_
        refine xd_then_ret ?_
        refine fin_runM hK (fun w38 hc hsz => ?_)
        have hzw38 := hc.size
        have HC := HC.trans hc (fun _ _ h => h) (fun k hk ht => absurd ht (by omega))
        have hb4 := hb4.ch hc (by omega)
        have hb5 := hb5.ch hc (by omega)
        refine ⟨_, resMany (rs := [.cell 4 38, .cell 5 4]) rfl (.cellA (cs := List.map u8v (List.replicate 32 (0 : UInt8))) rfl Tryd.underlying38 rfl (szL sz38 (by rw [List.length_map]; exact (List.length_replicate ..))) (rngL hb4) (.cell1 rfl Tryd.underlying4 rfl (hb5.cell rfl) (.nil))) rfl, ?_⟩
        exact ⟨_, _, rfl, List.length_replicate .., by rw [climbP, if_neg (by simpa using c0), if_neg (by simpa using c1), hno]; rfl, HC⟩

set_option maxHeartbeats 1000000 in
set_option maxRecDepth 20000 in
theorem rsame_same {w : World}  {As : Option Addr} {ls cs : Nat} {Fs : Nat → Prop} {st : List Stp} {lf : Bool} {pk pv : List UInt8} {At : Option Addr} {lt ct : Nat} {Ft : Nat → Prop} (hst : SI w Fs eST As ls cs st) (hst2 : SI w Ft eST At lt ct st) (hpk : pk.length = 32) (hpv : pv.length = 32) (hls : ls ≤ 1000000) (hlt : lt ≤ 1000000) :
    Calls Tryd.prog 26 #[.agg (([.slice As ls cs, .bool lf] ++ ((List.map u8v pk) ++ (List.map u8v pv))) : List Value).toArray, .agg (([.slice At lt ct, .bool lf] ++ ((List.map u8v pk) ++ (List.map u8v pv))) : List Value).toArray] w fun e w' => e = .returned (.bool true) ∧ Ch No w w' := by
  have hstl := hst.len
  have hstl2 := hst2.len
  have hst := hst.old
  have hst2 := hst2.old
  have HC : Ch No w w := Ch.refl _ _
  refine enter' (args := [_, _]) (n := 52) Tryd.func26 rfl rfl rfl ?_
  refine wc_seq ?_
  refine wc_region ?_
  refine wle rfl (e_box (cs := (([.slice As ls cs, .bool lf] ++ ((List.map u8v pk) ++ (List.map u8v pv))) : List Value).toArray) rfl rfl rfl (fun w1 g2 hg2 hb2 hc hsz2 => ?_))
  have hzw1 := hc.size
  have HC := HC.tr hc
  have hst := hst.no hc
  have hst2 := hst2.no hc
  have hge2 : w.heap.size ≤ g2 := by have := HC.size; omega
  have hltg2 := hb2.lt
  refine wle rfl (e_box (cs := (([.slice At lt ct, .bool lf] ++ ((List.map u8v pk) ++ (List.map u8v pv))) : List Value).toArray) rfl rfl rfl (fun w2 g3 hg3 hb3 hc hsz3 => ?_))
  have hzw2 := hc.size
  have HC := HC.tr hc
  have hst := hst.no hc
  have hst2 := hst2.no hc
  have hb2 := hb2.ch hc (fun h => h)
  have hge3 : w.heap.size ≤ g3 := by have := HC.size; omega
  have neg2_3 : g2 < g3 := by omega
  refine wl rfl rfl rfl (p_as rfl) ?_
  refine wl_nil ?_
  refine x_seq ?_
  refine wc_seq ?_
  refine wc_seq ?_
  refine wc_region ?_
  refine wl rfl rfl rfl (p_fld (j := 0) Tryd.underlying45 rfl ⟨_, by rfl⟩ rfl rfl) ?_
  refine wl rfl rfl rfl (p_ld Tryd.underlying43 rfl rfl (ld (cell_at (p := []) (v := (.slice As ls cs : Value)) (r := (([.bool lf] ++ ((List.map u8v pk) ++ (List.map u8v pv))) : List Value)) hb2 (by simp only [List.append_assoc, List.cons_append, List.nil_append, List.append_nil]) (by first | rfl | (simp only [List.length_append, List.length_map, List.length_cons, List.length_nil]; done) | (simp only [List.length_append, List.length_map, List.length_cons, List.length_nil, List.size_toArray]; done))))) ?_
  refine wl rfl rfl rfl (p_lenS Tryd.underlying43 rfl) ?_
  refine wl rfl rfl rfl (p_fld (j := 0) Tryd.underlying45 rfl ⟨_, by rfl⟩ rfl rfl) ?_
  refine wl rfl rfl rfl (p_ld Tryd.underlying43 rfl rfl (ld (cell_at (p := []) (v := (.slice At lt ct : Value)) (r := (([.bool lf] ++ ((List.map u8v pk) ++ (List.map u8v pv))) : List Value)) hb3 (by simp only [List.append_assoc, List.cons_append, List.nil_append, List.append_nil]) (by first | rfl | (simp only [List.length_append, List.length_map, List.length_cons, List.length_nil]; done) | (simp only [List.length_append, List.length_map, List.length_cons, List.length_nil, List.size_toArray]; done))))) ?_
  refine wl rfl rfl rfl (p_lenS Tryd.underlying43 rfl) ?_
  refine wl rfl rfl rfl (p_ne rfl rfl) ?_
  refine wl rfl rfl rfl (p_mv rfl) ?_
  refine wl_know (d := 13) (b' := false) rfl (decide_eq_false (by omega)) ?_
  refine wl_g (gd_ rfl rfl rfl rfl rfl rfl) rfl rfl (p_fld (j := 1) Tryd.underlying45 rfl ⟨_, by rfl⟩ rfl rfl) ?_
  refine wl_g (gd_ rfl rfl rfl rfl rfl rfl) rfl rfl (p_ld Tryd.underlying4 rfl rfl (ld (cell_at (p := ([.slice As ls cs] : List Value)) (v := (.bool lf : Value)) (r := (((List.map u8v pk) ++ (List.map u8v pv)) : List Value)) hb2 (by simp only [List.append_assoc, List.cons_append, List.nil_append, List.append_nil]) (by first | rfl | (simp only [List.length_append, List.length_map, List.length_cons, List.length_nil]; done) | (simp only [List.length_append, List.length_map, List.length_cons, List.length_nil, List.size_toArray]; done))))) ?_
  refine wl_g (gd_ rfl rfl rfl rfl rfl rfl) rfl rfl (p_fld (j := 1) Tryd.underlying45 rfl ⟨_, by rfl⟩ rfl rfl) ?_
  refine wl_g (gd_ rfl rfl rfl rfl rfl rfl) rfl rfl (p_ld Tryd.underlying4 rfl rfl (ld (cell_at (p := ([.slice At lt ct] : List Value)) (v := (.bool lf : Value)) (r := (((List.map u8v pk) ++ (List.map u8v pv)) : List Value)) hb3 (by simp only [List.append_assoc, List.cons_append, List.nil_append, List.append_nil]) (by first | rfl | (simp only [List.length_append, List.length_map, List.length_cons, List.length_nil]; done) | (simp only [List.length_append, List.length_map, List.length_cons, List.length_nil, List.size_toArray]; done))))) ?_
  refine wl_g (gd_ rfl rfl rfl rfl rfl rfl) rfl rfl (p_neB rfl rfl Tryd.underlying4) ?_
  refine wl rfl rfl rfl (p_pickF rfl rfl) ?_
  refine wl rfl rfl rfl (p_mv rfl) ?_
  refine wl_know (d := 20) (b' := false) rfl (by simp) ?_
  refine wl_g (gd_ rfl rfl rfl rfl rfl rfl) rfl rfl (p_fld (j := 2) Tryd.underlying45 rfl ⟨_, by rfl⟩ rfl rfl) ?_
  refine wl_g (gd_ rfl rfl rfl rfl rfl rfl) rfl rfl (p_ldA (cs := (List.map u8v pk)) Tryd.underlying38 rfl (szL sz38 (by first | rfl | (simp only [List.length_append, List.length_map, List.length_cons, List.length_nil, (show List.length pk = 32 from hpk)]; done) | (simp only [List.length_append, List.length_map, List.length_cons, List.length_nil, List.size_toArray, (show List.length pk = 32 from hpk)]; done))) rfl (fun _ e => e ▸ rng_at (p := ([.slice As ls cs, .bool lf] : List Value)) (q := ((List.map u8v pk) : List Value)) (r := ((List.map u8v pv) : List Value)) hb2 (by simp only [List.append_assoc, List.cons_append, List.nil_append, List.append_nil]) (by first | rfl | (simp only [List.length_append, List.length_map, List.length_cons, List.length_nil]; done) | (simp only [List.length_append, List.length_map, List.length_cons, List.length_nil, List.size_toArray]; done)))) ?_
  refine wl_g (gd_ rfl rfl rfl rfl rfl rfl) rfl rfl (p_fld (j := 2) Tryd.underlying45 rfl ⟨_, by rfl⟩ rfl rfl) ?_
  refine wl_g (gd_ rfl rfl rfl rfl rfl rfl) rfl rfl (p_ldA (cs := (List.map u8v pk)) Tryd.underlying38 rfl (szL sz38 (by first | rfl | (simp only [List.length_append, List.length_map, List.length_cons, List.length_nil, (show List.length pk = 32 from hpk)]; done) | (simp only [List.length_append, List.length_map, List.length_cons, List.length_nil, List.size_toArray, (show List.length pk = 32 from hpk)]; done))) rfl (fun _ e => e ▸ rng_at (p := ([.slice At lt ct, .bool lf] : List Value)) (q := ((List.map u8v pk) : List Value)) (r := ((List.map u8v pv) : List Value)) hb3 (by simp only [List.append_assoc, List.cons_append, List.nil_append, List.append_nil]) (by first | rfl | (simp only [List.length_append, List.length_map, List.length_cons, List.length_nil]; done) | (simp only [List.length_append, List.length_map, List.length_cons, List.length_nil, List.size_toArray]; done)))) ?_
  refine wl_g (gd_ rfl rfl rfl rfl rfl rfl) rfl rfl (p_neH (a := pk) (b := pk) (by kernel_rfl) Tryd.underlying38 Tryd.underlying5 sz5 rfl rfl (hpk) (hpk)) ?_
  refine wl rfl rfl rfl (p_pickF rfl rfl) ?_
  refine wl rfl rfl rfl (p_mv rfl) ?_
  refine wl_know (d := 27) (b' := false) rfl (by simp) ?_
  refine wl_g (gd_ rfl rfl rfl rfl rfl rfl) rfl rfl (p_fld (j := 34) Tryd.underlying45 rfl ⟨_, by rfl⟩ rfl rfl) ?_
  refine wl_g (gd_ rfl rfl rfl rfl rfl rfl) rfl rfl (p_ldA (cs := (List.map u8v pv)) Tryd.underlying38 rfl (szL sz38 (by first | rfl | (simp only [List.length_append, List.length_map, List.length_cons, List.length_nil, (show List.length pv = 32 from hpv)]; done) | (simp only [List.length_append, List.length_map, List.length_cons, List.length_nil, List.size_toArray, (show List.length pv = 32 from hpv)]; done))) rfl (fun _ e => e ▸ rng_at (p := (([.slice As ls cs, .bool lf] ++ (List.map u8v pk)) : List Value)) (q := ((List.map u8v pv) : List Value)) (r := []) hb2 (by simp only [List.append_assoc, List.cons_append, List.nil_append, List.append_nil]) (by first | rfl | (simp only [List.length_append, List.length_map, List.length_cons, List.length_nil, (show List.length pk = 32 from hpk)]; done) | (simp only [List.length_append, List.length_map, List.length_cons, List.length_nil, List.size_toArray, (show List.length pk = 32 from hpk)]; done)))) ?_
  refine wl_g (gd_ rfl rfl rfl rfl rfl rfl) rfl rfl (p_fld (j := 34) Tryd.underlying45 rfl ⟨_, by rfl⟩ rfl rfl) ?_
  refine wl_g (gd_ rfl rfl rfl rfl rfl rfl) rfl rfl (p_ldA (cs := (List.map u8v pv)) Tryd.underlying38 rfl (szL sz38 (by first | rfl | (simp only [List.length_append, List.length_map, List.length_cons, List.length_nil, (show List.length pv = 32 from hpv)]; done) | (simp only [List.length_append, List.length_map, List.length_cons, List.length_nil, List.size_toArray, (show List.length pv = 32 from hpv)]; done))) rfl (fun _ e => e ▸ rng_at (p := (([.slice At lt ct, .bool lf] ++ (List.map u8v pk)) : List Value)) (q := ((List.map u8v pv) : List Value)) (r := []) hb3 (by simp only [List.append_assoc, List.cons_append, List.nil_append, List.append_nil]) (by first | rfl | (simp only [List.length_append, List.length_map, List.length_cons, List.length_nil, (show List.length pk = 32 from hpk)]; done) | (simp only [List.length_append, List.length_map, List.length_cons, List.length_nil, List.size_toArray, (show List.length pk = 32 from hpk)]; done)))) ?_
  refine wl_g (gd_ rfl rfl rfl rfl rfl rfl) rfl rfl (p_neH (a := pv) (b := pv) (by kernel_rfl) Tryd.underlying38 Tryd.underlying5 sz5 rfl rfl (hpv) (hpv)) ?_
  refine wl rfl rfl rfl (p_pickF rfl rfl) ?_
  refine wl_nil ?_
  refine x_seq ?_
  refine wc_no rfl (by simp) ?_
  refine wc_skip ?_
  refine x_seq ?_
  refine wc_seq ?_
  refine wc_seq ?_
  refine wc_region ?_
  refine wl rfl rfl rfl (p_fld (j := 0) Tryd.underlying45 rfl ⟨_, by rfl⟩ rfl rfl) ?_
  refine wl rfl rfl rfl (p_ld Tryd.underlying43 rfl rfl (ld (cell_at (p := []) (v := (.slice As ls cs : Value)) (r := (([.bool lf] ++ ((List.map u8v pk) ++ (List.map u8v pv))) : List Value)) hb2 (by simp only [List.append_assoc, List.cons_append, List.nil_append, List.append_nil]) (by first | rfl | (simp only [List.length_append, List.length_map, List.length_cons, List.length_nil]; done) | (simp only [List.length_append, List.length_map, List.length_cons, List.length_nil, List.size_toArray]; done))))) ?_
  refine wl rfl rfl rfl (p_lenS Tryd.underlying43 rfl) ?_
  refine wl rfl rfl rfl (p_mv rfl) ?_
  refine wl_nil ?_
  refine x_seq ?_
  refine wc_block ?_
  refine wc_loop (e' := [(2, .pointer (some ⟨g2, 0, none⟩)), (3, .pointer (some ⟨g3, 0, none⟩)), (36, i64 (ls : Int)), (37, i64 ((0) : Int))]) (fun mz ez uz => ∃ i : Nat, mz = ls - i ∧ ez = [(2, .pointer (some ⟨g2, 0, none⟩)), (3, .pointer (some ⟨g3, 0, none⟩)), (36, i64 (ls : Int)), (37, i64 (i : Int))] ∧ (i ≤ ls) ∧ (SI uz (fun k => k < w.heap.size) eST As ls cs st) ∧ (SI uz (fun k => k < w.heap.size) eST At lt ct st) ∧ (Blk uz g2 45 (([.slice As ls cs, .bool lf] ++ ((List.map u8v pk) ++ (List.map u8v pv))) : List Value).toArray) ∧ (Blk uz g3 45 (([.slice At lt ct, .bool lf] ++ ((List.map u8v pk) ++ (List.map u8v pv))) : List Value).toArray) ∧ (Ch No w uz))
    ⟨rfl, rfl, rfl, rfl, trivial⟩ ⟨0, rfl, rfl, (by omega), hst, hst2, hb2, hb3, HC⟩ ?_
  rintro m0 e w3 ⟨i, hm0, rfl, hi, hst, hst2, hb2, hb3, HC⟩
  have hzw3 := HC.size
  refine wc_seq ?_
  refine wc_region ?_
  refine wl rfl rfl rfl (p_lt rfl rfl) ?_
  refine wl_nil ?_
  refine x_seq ?_
  refine wc_seq ?_
  refine wc_if rfl (fun c1 => ?_) (fun c1 => ?_)
  ·
    have c1 := of_decide_eq_true c1
    refine wc_skip ?_
    refine x_seq ?_
    refine wc_seq ?_
    refine wc_block ?_
    refine wc_seq ?_
    refine wc_region ?_
    refine wl rfl rfl rfl (p_mv rfl) ?_
    refine wl rfl rfl rfl (p_as rfl) ?_
    refine wl_nil ?_
    refine x_seq ?_
    refine wc_seq ?_
    refine wc_draw (.st 0 0 (.st 1 1 (.st 2 0 (.st 3 0 (.st 4 1 (.st 5 0 (.st 6 1 (.st 7 0 (.st 8 0 (.st 9 1 (.st 10 0 .nil))))))))))) 11 (by kernel_rfl) (by kernel_rfl) (by kernel_rfl) (by repeat (first | with_reducible exact pan_body | with_reducible apply pan_then | with_reducible apply pan_in)) (fun x => Ch No w3.drew x) (Ch.refl _ _) ?_
    obtain ⟨w4, ew4⟩ : ∃ x, x = w3.drew := ⟨_, rfl⟩
    rw [← ew4]
    have hc : Ch No w3 w4 := by rw [ew4]; exact Ch.drew _
    have hszw4 : w4.heap.size = w3.heap.size := by rw [ew4]; rfl
    clear ew4
    have hzw4 := hc.size
    have HC := HC.tr hc
    have hst := hst.no hc
    have hst2 := hst2.no hc
    have hb2 := hb2.ch hc (fun h => h)
    have hb3 := hb3.ch hc (fun h => h)
    have hS : Ch No w4 w4 := Ch.refl _ _
    refine ws_p rfl rfl rfl rfl (p_fld (j := 0) Tryd.underlying45 rfl ⟨_, by rfl⟩ rfl rfl) ?_
    refine ws_h rfl rfl rfl rfl (p_ld Tryd.underlying43 rfl rfl (fun _ h => h.cell (fun h => h) (cell_at (p := []) (v := (.slice As ls cs : Value)) (r := (([.bool lf] ++ ((List.map u8v pk) ++ (List.map u8v pv))) : List Value)) hb2 (by simp only [List.append_assoc, List.cons_append, List.nil_append, List.append_nil]) (by first | rfl | (simp only [List.length_append, List.length_map, List.length_cons, List.length_nil]; done) | (simp only [List.length_append, List.length_map, List.length_cons, List.length_nil, List.size_toArray]; done))))) ?_
    refine ws_p rfl rfl rfl rfl (p_mv rfl) ?_
    obtain ⟨b5, o5, hA5, hF5, hr5⟩ := (hst).opn (i := i) (d := ⟨0, zeroH⟩) (by omega)
    have hok5 := (hst).okAt (i := i) (d := ⟨0, zeroH⟩) (by omega)
    obtain ⟨x5, ex5⟩ : ∃ x, x = List.getD st (i) ⟨0, zeroH⟩ := ⟨_, rfl⟩
    rw [← ex5] at hr5 hok5
    have hx5k : List.length x5.side = 32 := hok5
    have hr5 : w4.rangeAt b5 (o5 + i * 33) (([i64 x5.bit] ++ (List.map u8v x5.side)) : List Value) := hr5
    refine ws_p rfl rfl rfl rfl (p_ixS (j := i * 33) Tryd.underlying43 sz125 rfl hA5 rfl (by omega) (by omega) (congrArg (· * 33) (Int.toNat_natCast _))) ?_
    refine ws_h rfl rfl rfl rfl (p_ldA (cs := (([i64 x5.bit] ++ (List.map u8v x5.side)) : List Value)) Tryd.underlying125 rfl (szL sz125 (by first | rfl | (simp only [List.length_append, List.length_map, List.length_cons, List.length_nil, (show List.length x5.side = 32 from hx5k)]; done) | (simp only [List.length_append, List.length_map, List.length_cons, List.length_nil, List.size_toArray, (show List.length x5.side = 32 from hx5k)]; done))) rfl (fun _ h => rng_no hr5 h)) ?_
    refine ws_p rfl rfl rfl rfl (p_fld (j := 0) Tryd.underlying45 rfl ⟨_, by rfl⟩ rfl rfl) ?_
    refine ws_h rfl rfl rfl rfl (p_ld Tryd.underlying43 rfl rfl (fun _ h => h.cell (fun h => h) (cell_at (p := []) (v := (.slice At lt ct : Value)) (r := (([.bool lf] ++ ((List.map u8v pk) ++ (List.map u8v pv))) : List Value)) hb3 (by simp only [List.append_assoc, List.cons_append, List.nil_append, List.append_nil]) (by first | rfl | (simp only [List.length_append, List.length_map, List.length_cons, List.length_nil]; done) | (simp only [List.length_append, List.length_map, List.length_cons, List.length_nil, List.size_toArray]; done))))) ?_
    refine ws_p rfl rfl rfl rfl (p_mv rfl) ?_
    obtain ⟨b6, o6, hA6, hF6, hr6⟩ := (hst2).opn (i := i) (d := ⟨0, zeroH⟩) (by omega)
    have hok6 := (hst2).okAt (i := i) (d := ⟨0, zeroH⟩) (by omega)
    obtain ⟨x6, ex6⟩ : ∃ x, x = List.getD st (i) ⟨0, zeroH⟩ := ⟨_, rfl⟩
    rw [← ex6] at hr6 hok6
    have hx6k : List.length x6.side = 32 := hok6
    have hr6 : w4.rangeAt b6 (o6 + i * 33) (([i64 x6.bit] ++ (List.map u8v x6.side)) : List Value) := hr6
    refine ws_p rfl rfl rfl rfl (p_ixS (j := i * 33) Tryd.underlying43 sz125 rfl hA6 rfl (by omega) (by omega) (congrArg (· * 33) (Int.toNat_natCast _))) ?_
    refine ws_h rfl rfl rfl rfl (p_ldA (cs := (([i64 x6.bit] ++ (List.map u8v x6.side)) : List Value)) Tryd.underlying125 rfl (szL sz125 (by first | rfl | (simp only [List.length_append, List.length_map, List.length_cons, List.length_nil, (show List.length x6.side = 32 from hx6k)]; done) | (simp only [List.length_append, List.length_map, List.length_cons, List.length_nil, List.size_toArray, (show List.length x6.side = 32 from hx6k)]; done))) rfl (fun _ h => rng_no hr6 h)) ?_
    have hxx : x5 = x6 := by rw [ex5, ex6]
    refine ws_p rfl rfl rfl rfl (p_neV (by kernel_rfl) rfl rfl (eqv_struct Tryd.underlying125 (by kernel_rfl) (eqf_cons rfl (part_c (cs := (([i64 x5.bit] ++ (List.map u8v x5.side)) : List Value)) (p := []) (v := i64 x5.bit) (r := ((List.map u8v x5.side) : List Value)) Tryd.underlying3 rfl (by first | rfl | simp only [List.append_assoc, List.cons_append, List.nil_append, List.append_nil]) rfl) (part_c (cs := (([i64 x6.bit] ++ (List.map u8v x6.side)) : List Value)) (p := []) (v := i64 x6.bit) (r := ((List.map u8v x6.side) : List Value)) Tryd.underlying3 rfl (by first | rfl | simp only [List.append_assoc, List.cons_append, List.nil_append, List.append_nil]) rfl) (eqv_int Tryd.underlying3) (eqf_cons rfl (part_h (cs := (([i64 x5.bit] ++ (List.map u8v x5.side)) : List Value)) (p := ([i64 x5.bit] : List Value)) (L := x5.side) (r := []) Tryd.underlying38 rfl sz38 (hx5k) (by first | rfl | simp only [List.append_assoc, List.cons_append, List.nil_append, List.append_nil]) (by first | rfl | (simp only [List.length_append, List.length_map, List.length_cons, List.length_nil]; done) | (simp only [List.length_append, List.length_map, List.length_cons, List.length_nil, List.size_toArray]; done))) (part_h (cs := (([i64 x6.bit] ++ (List.map u8v x6.side)) : List Value)) (p := ([i64 x6.bit] : List Value)) (L := x6.side) (r := []) Tryd.underlying38 rfl sz38 (hx6k) (by first | rfl | simp only [List.append_assoc, List.cons_append, List.nil_append, List.append_nil]) (by first | rfl | (simp only [List.length_append, List.length_map, List.length_cons, List.length_nil]; done) | (simp only [List.length_append, List.length_map, List.length_cons, List.length_nil, List.size_toArray]; done))) (eqv_hash Tryd.underlying38 Tryd.underlying5 sz5 (hx5k) (hx6k)) (eqf_nil))))) ?_
    refine ws_n ?_
    refine x_seq ?_
    refine wc_no rfl (by rw [hxx]; simp) ?_
    refine wc_skip ?_
    refine x_in_normal ?_
    refine x_seq ?_
    refine wc_region ?_
    refine wl rfl rfl rfl (p_add rfl rfl (w64 (by omega))) ?_
    refine wl rfl rfl rfl (p_mv rfl) ?_
    refine wl_nil ?_
    refine x_round (e' := [(2, .pointer (some ⟨g2, 0, none⟩)), (3, .pointer (some ⟨g3, 0, none⟩)), (36, i64 (ls : Int)), (37, i64 ((i + 1) : Int))]) ⟨rfl, rfl, rfl, rfl, trivial⟩ (by rw [hm0]; omega) ⟨i + 1, rfl, rfl, (by omega), hst, hst2, hb2, hb3, HC⟩
  ·
    have c1 := of_decide_eq_false c1
    refine wc_exit ?_
    refine x_then_exit ?_
    refine x_then_exit ?_
    refine x_in_here ?_
    refine x_seq ?_
    refine wc_seq ?_
    refine wc_region ?_
    refine wl rfl rfl rfl (p_as rfl) ?_
    refine wl_nil ?_
    refine x_seq ?_
    refine wc_ret ?_
    refine fin_run ((res1 rfl rfl)) ?_
    exact ⟨rfl, HC⟩

theorem mprove_new {w : World} {v : Value} {F : Nat → Prop} {k : List UInt8} (hV : TR 41 156 F w v none) (hk : k.length = 32) (hrnd : Sl w (fun k => k = 0) u32v (some ⟨0, 0, none⟩) 64 64 rk) : Calls Tryd.prog 28 #[v, hv k] w fun e w' => ∃ A c, e = .returned (.agg (([.slice A 0 c, .bool false] ++ (List.map u8v zeroH ++ List.map u8v zeroH)) : List Value).toArray) ∧ RI w' (fun k => w.heap.size ≤ k) 126 eST A 0 c [] ∧ Ch No w w' := by
  refine (mprove_any hV hk hrnd (by decide)).mono fun e w' ⟨A, l, c, lf, u, x, h1, h2, h3, h4, h5, h6, _⟩ => ?_
  injection h5 with e1 e2
  injection e2 with e2 e3
  subst e1; subst e2; subst e3
  obtain rfl : l = 0 := h4.len.symm
  exact ⟨A, c, h1, h4, h6.mono (fun _ _ h => by simp [adsO] at h)⟩

set_option maxHeartbeats 1000000 in
set_option maxRecDepth 20000 in
theorem lives12_any {w : World}  (hrnd : Sl w (fun k => k = 0) u32v (some ⟨0, 0, none⟩) 64 64 rk) :
    Calls Tryd.prog 29 #[] w fun e w' => e = .returned (.bool true) ∧ Ch No w w' := by
  have hn0 : 0 < w.heap.size := hrnd.size (by omega) rfl
  have hn1 := hn0
  have HC : Ch No w w := Ch.refl _ _
  refine enter' (args := []) (n := 31) Tryd.func29 rfl rfl rfl ?_
  refine wc_seq ?_
  refine wc_region ?_
  refine wl rfl rfl rfl (p_as rfl) ?_
  refine wl_nil ?_
  refine x_seq ?_
  refine wc_seq ?_
  refine wc_region ?_
  refine wle rfl (e_alloc (cs := ((List.replicate 32 (0 : UInt8)).map u8v).toArray) rfl (by rfl) rfl (fun w1 g1 hg1 hb1 hc hsz1 => ?_))
  have hzw1 := hc.size
  have HC := HC.tr hc
  have hrnd := hrnd.no hc
  have hge1 : w.heap.size ≤ g1 := by have := HC.size; omega
  refine wl_nil ?_
  refine x_seq ?_
  refine wc_seq ?_
  refine wc_draw (.st 1 1 (.alt (.st 0 2 (.alt (.st 2 2 (.st 3 2 (.st 4 3 .nil))) (.st 3 2 (.st 2 2 (.st 4 3 .nil))))) (.st 3 2 (.st 0 2 (.st 2 2 (.st 4 3 .nil)))))) 4 (by kernel_rfl) (by kernel_rfl) (by kernel_rfl) (by repeat (first | with_reducible exact pan_body | with_reducible apply pan_then | with_reducible apply pan_in)) (fun x => Ch No w1.drew x) (Ch.refl _ _) ?_
  obtain ⟨w2, ew2⟩ : ∃ x, x = w1.drew := ⟨_, rfl⟩
  rw [← ew2]
  have hc : Ch No w1 w2 := by rw [ew2]; exact Ch.drew _
  have hszw2 : w2.heap.size = w1.heap.size := by rw [ew2]; rfl
  clear ew2
  have hzw2 := hc.size
  have HC := HC.tr hc
  have hrnd := hrnd.no hc
  have hb1 := hb1.ch hc (fun h => h)
  have hS : Ch No w2 w2 := Ch.refl _ _
  refine ws_h rfl rfl rfl rfl (p_ldA (cs := List.map u8v (List.replicate 32 (0 : UInt8))) Tryd.underlying38 rfl (szL sz38 (by rw [List.length_map]; exact (List.length_replicate ..))) rfl (fun _ h => (rngL (hb1.ch h (fun h => h))))) ?_
  refine ws_alt ?_ ?_
  ·
    refine ws_e rfl rfl (e_call ent51 rfl rfl (new_any) ?_)
    rintro _ w3 ⟨v5, rfl, hV5, hc⟩
    refine ⟨_, rfl, hc, ?_⟩
    have hzw3 := hc.size
    have HC := HC.tr hc
    have hrnd := hrnd.no hc
    have hb1 := hb1.ch hc (fun h => h)
    have hV5 := hV5.mono (G := fun k => w2.heap.size ≤ k ∧ k < w3.heap.size) (fun k h1 h2 => ⟨h2, h1⟩)
    refine ws_narrow (S' := fun x => Ch No w3 x) (Ch.refl _ _) (fun x h => hc.tr h) ?_
    refine ws_alt ?_ ?_
    ·
      refine ws_e rfl rfl (e_call ent28 rfl rfl (mprove_new hV5 ((List.length_replicate ..)) hrnd) ?_)
      rintro _ w4 ⟨A7, c7, rfl, hW7, hc⟩
      refine ⟨_, rfl, hc, ?_⟩
      have hzw4 := hc.size
      have HC := HC.tr hc
      have hrnd := hrnd.no hc
      have hb1 := hb1.ch hc (fun h => h)
      have hV5 := hV5.ch hc (by first | exact fun _ _ _ h => h | (intro k hk hF ht; have h2 := hF.1; have h3 := hF.2; first | omega | (dsimp only at *; omega)))
      refine ws_narrow (S' := fun x => Ch No w4 x) (Ch.refl _ _) (fun x h => hc.tr h) ?_
      have hltg1 := hb1.lt
      refine ws_e rfl rfl (e_alloc (cs := (([Value.slice none 0 0, Value.bool false] ++ ((List.map u8v (List.replicate 32 (0 : UInt8))) ++ (List.map u8v (List.replicate 32 (0 : UInt8))))) : List Value).toArray) rfl (by rfl) (by rfl) (fun w5 g2 hg2 hb2 hc hsz2 => ⟨hc, ?_⟩))
      have hzw5 := hc.size
      have HC := HC.tr hc
      have hrnd := hrnd.no hc
      have hb1 := hb1.ch hc (fun h => h)
      have hV5 := hV5.ch hc (by first | exact fun _ _ _ h => h | (intro k hk hF ht; have h2 := hF.1; have h3 := hF.2; first | omega | (dsimp only at *; omega)))
      have hW7 := hW7.after hc
      have hge2 : w.heap.size ≤ g2 := by have := HC.size; omega
      have neg1_2 : g1 < g2 := by omega
      refine ws_narrow (S' := fun x => Ch No w5 x) (Ch.refl _ _) (fun x h => hc.tr h) ?_
      refine ws_l rfl rfl (e_stW (vs := (([.slice A7 0 c7, .bool false] ++ ((List.map u8v zeroH) ++ (List.map u8v zeroH))) : List Value)) (szL sz49 (by first | rfl | (simp only [List.length_append, List.length_map, List.length_cons, List.length_nil, (show List.length zeroH = 32 from zeroH_len), (show List.length zeroH = 32 from zeroH_len)]; done) | (simp only [List.length_append, List.length_map, List.length_cons, List.length_nil, List.size_toArray, (show List.length zeroH = 32 from zeroH_len), (show List.length zeroH = 32 from zeroH_len)]; done))) (oneA (allOne rfl) (oneA (oneL one_u8 _) (oneL one_u8 _))) rfl rfl hb2 (by first | rfl | (simp only [List.length_append, List.length_map, List.length_cons, List.length_nil, (show List.length (List.replicate 32 (0 : UInt8)) = 32 from (List.length_replicate ..)), (show List.length (List.replicate 32 (0 : UInt8)) = 32 from (List.length_replicate ..)), (show List.length zeroH = 32 from zeroH_len), (show List.length zeroH = 32 from zeroH_len)]; done) | (simp only [List.length_append, List.length_map, List.length_cons, List.length_nil, List.size_toArray, (show List.length (List.replicate 32 (0 : UInt8)) = 32 from (List.length_replicate ..)), (show List.length (List.replicate 32 (0 : UInt8)) = 32 from (List.length_replicate ..)), (show List.length zeroH = 32 from zeroH_len), (show List.length zeroH = 32 from zeroH_len)]; done)) (fun w6 hb2 hc hsz => ?_))
      have hzw6 := hc.size
      have HC := HC.trans hc (fun _ _ h => h) (fun k hk ht => absurd ht (by omega))
      first | have hrnd := hrnd.ch hc (by intro k hk ht; first | omega | (dsimp only at *; omega)) | have hrnd := hrnd.chT hc (by intro k hz hk ht; first | omega | (dsimp only at *; omega))
      have hb1 := hb1.ch hc (by omega)
      have hV5 := hV5.ch hc (by first | exact fun _ _ _ h => h | (intro k hk hF ht; have h2 := hF.1; have h3 := hF.2; first | omega | (dsimp only at *; omega)))
      have hW7 := hW7.ch hc (by intro k hz hk ht; first | omega | (dsimp only at *; omega))
      refine ws_n ?_
      refine x_seq ?_
      refine wc_seq ?_
      refine wc_region ?_
      refine wl rfl rfl rfl (p_ldA (cs := List.map u8v (List.replicate 32 (0 : UInt8))) Tryd.underlying38 rfl (szL sz38 (by rw [List.length_map]; exact (List.length_replicate ..))) rfl (fun _ e => e ▸ rngL hb1)) ?_
      refine wl rfl rfl rfl (p_ldA (cs := (([.slice A7 0 c7, .bool false] ++ ((List.map u8v zeroH) ++ (List.map u8v zeroH))) : List Value)) Tryd.underlying49 rfl (szL sz49 (by first | rfl | (simp only [List.length_append, List.length_map, List.length_cons, List.length_nil, (show List.length zeroH = 32 from zeroH_len), (show List.length zeroH = 32 from zeroH_len)]; done) | (simp only [List.length_append, List.length_map, List.length_cons, List.length_nil, List.size_toArray, (show List.length zeroH = 32 from zeroH_len), (show List.length zeroH = 32 from zeroH_len)]; done))) rfl (fun _ e => e ▸ rngL hb2)) ?_
      refine wle rfl (e_call ent30 rfl rfl (mclimb_any ((List.length_replicate ..)) (hW7.si) (zeroH_len) (zeroH_len) (by omega) hrnd) ?_)
      rintro _ w7 ⟨u11, ok11, rfl, hu11, hcl11, hc⟩
      refine ⟨_, rfl, ?_⟩
      have hzw7 := hc.size
      have HC := HC.tr hc
      have hrnd := hrnd.no hc
      have hb1 := hb1.ch hc (fun h => h)
      have hV5 := hV5.ch hc (by first | exact fun _ _ _ h => h | (intro k hk hF ht; have h2 := hF.1; have h3 := hF.2; first | omega | (dsimp only at *; omega)))
      have hW7 := hW7.after hc
      have hb2 := hb2.ch hc (fun h => h)
      have hcl0 : (u11, ok11) = (noneH, true) := hcl11
      injection hcl0 with hcu hco
      refine wl rfl rfl rfl (p_mv rfl) ?_
      refine wl rfl rfl rfl (p_ext rfl rfl) ?_
      refine wl rfl rfl rfl (p_ext rfl rfl) ?_
      have hltg1 := hb1.lt
      have hltg2 := hb2.lt
      refine wle rfl (e_alloc (cs := ((List.replicate 32 (0 : UInt8)).map u8v).toArray) rfl (by rfl) rfl (fun w8 g3 hg3 hb3 hc hsz3 => ?_))
      have hzw8 := hc.size
      have HC := HC.tr hc
      have hrnd := hrnd.no hc
      have hb1 := hb1.ch hc (fun h => h)
      have hV5 := hV5.ch hc (by first | exact fun _ _ _ h => h | (intro k hk hF ht; have h2 := hF.1; have h3 := hF.2; first | omega | (dsimp only at *; omega)))
      have hW7 := hW7.after hc
      have hb2 := hb2.ch hc (fun h => h)
      have hge3 : w.heap.size ≤ g3 := by have := HC.size; omega
      have neg1_3 : g1 < g3 := by omega
      have neg2_3 : g2 < g3 := by omega
      refine wle rfl (e_stW (vs := List.map u8v u11) (szL sz38 (by rw [List.length_map]; exact hu11)) (oneL one_u8 _) rfl rfl hb3 (by simp only [List.size_toArray, List.length_map]; first | done | exact ((List.length_replicate ..)).trans (hu11).symm) (fun w9 hb3 hc hsz => ?_))
      have hzw9 := hc.size
      have HC := HC.trans hc (fun _ _ h => h) (fun k hk ht => absurd ht (by omega))
      first | have hrnd := hrnd.ch hc (by intro k hk ht; first | omega | (dsimp only at *; omega)) | have hrnd := hrnd.chT hc (by intro k hz hk ht; first | omega | (dsimp only at *; omega))
      have hb1 := hb1.ch hc (by omega)
      have hV5 := hV5.ch hc (by first | exact fun _ _ _ h => h | (intro k hk hF ht; have h2 := hF.1; have h3 := hF.2; first | omega | (dsimp only at *; omega)))
      have hW7 := hW7.ch hc (by intro k hz hk ht; first | omega | (dsimp only at *; omega))
      have hb2 := hb2.ch hc (by omega)
      refine wl rfl rfl rfl (p_as rfl) ?_
      refine wl_nil ?_
      refine x_seq ?_
      refine wc_seq ?_
      refine wc_draw (.st 0 0 (.st 1 1 (.st 2 0 (.st 3 0 (.st 4 0 (.st 5 0 (.st 6 1 (.st 7 0 (.st 8 0 (.st 9 0 (.st 10 0 (.st 11 0 (.st 12 0 (.st 13 1 (.st 14 2 (.st 15 0 (.st 16 0 (.st 17 0 .nil)))))))))))))))))) 18 (by kernel_rfl) (by kernel_rfl) (by kernel_rfl) (by repeat (first | with_reducible exact pan_body | with_reducible apply pan_then | with_reducible apply pan_in)) (fun x => Ch No w9.drew x) (Ch.refl _ _) ?_
      obtain ⟨w10, ew10⟩ : ∃ x, x = w9.drew := ⟨_, rfl⟩
      rw [← ew10]
      have hc : Ch No w9 w10 := by rw [ew10]; exact Ch.drew _
      have hszw10 : w10.heap.size = w9.heap.size := by rw [ew10]; rfl
      clear ew10
      have hzw10 := hc.size
      have HC := HC.tr hc
      have hrnd := hrnd.no hc
      have hb1 := hb1.ch hc (fun h => h)
      have hV5 := hV5.ch hc (by first | exact fun _ _ _ h => h | (intro k hk hF ht; have h2 := hF.1; have h3 := hF.2; first | omega | (dsimp only at *; omega)))
      have hW7 := hW7.no hc
      have hb2 := hb2.ch hc (fun h => h)
      have hb3 := hb3.ch hc (fun h => h)
      have hS : Ch No w10 w10 := Ch.refl _ _
      refine ws_p rfl rfl rfl rfl (p_fld (j := 0) Tryd.underlying49 rfl ⟨_, by rfl⟩ rfl rfl) ?_
      refine ws_h rfl rfl rfl rfl (p_ld Tryd.underlying47 rfl rfl (fun _ h => h.cell (fun h => h) (cell_at (p := []) (v := (.slice A7 0 c7 : Value)) (r := (([.bool false] ++ ((List.map u8v zeroH) ++ (List.map u8v zeroH))) : List Value)) hb2 (by simp only [List.append_assoc, List.cons_append, List.nil_append, List.append_nil]) (by first | rfl | (simp only [List.length_append, List.length_map, List.length_cons, List.length_nil]; done) | (simp only [List.length_append, List.length_map, List.length_cons, List.length_nil, List.size_toArray]; done))))) ?_
      refine ws_p rfl rfl rfl rfl (p_lenS Tryd.underlying47 rfl) ?_
      refine ws_p rfl rfl rfl rfl (p_eq rfl rfl) ?_
      refine ws_p rfl rfl rfl rfl (p_mv rfl) ?_
      refine ws_know (d := 18) (b' := true) rfl (by simp) ?_
      refine ws_pg rfl (gd_ rfl rfl rfl rfl rfl rfl) rfl rfl (p_fld (j := 1) Tryd.underlying49 rfl ⟨_, by rfl⟩ rfl rfl) ?_
      refine ws_hg rfl (gd_ rfl rfl rfl rfl rfl rfl) rfl rfl (p_ld Tryd.underlying4 rfl rfl (fun _ h => h.cell (fun h => h) (cell_at (p := ([.slice A7 0 c7] : List Value)) (v := (.bool false : Value)) (r := (((List.map u8v zeroH) ++ (List.map u8v zeroH)) : List Value)) hb2 (by simp only [List.append_assoc, List.cons_append, List.nil_append, List.append_nil]) (by first | rfl | (simp only [List.length_append, List.length_map, List.length_cons, List.length_nil]; done) | (simp only [List.length_append, List.length_map, List.length_cons, List.length_nil, List.size_toArray]; done))))) ?_
      refine ws_pg rfl (gd_ rfl rfl rfl rfl rfl rfl) rfl rfl (p_not rfl) ?_
      refine ws_p rfl rfl rfl rfl (p_pickT rfl rfl) ?_
      refine ws_p rfl rfl rfl rfl (p_mv rfl) ?_
      refine ws_pg rfl (gd_ rfl rfl rfl rfl rfl rfl) rfl rfl (p_mv rfl) ?_
      refine ws_p rfl rfl rfl rfl (p_pickT rfl rfl) ?_
      refine ws_p rfl rfl rfl rfl (p_mv rfl) ?_
      refine ws_know (d := 26) (b' := true) rfl (by simp [hco]) ?_
      refine ws_hg rfl (gd_ rfl rfl rfl rfl rfl rfl) rfl rfl (p_ldA (cs := List.map u8v u11) Tryd.underlying38 rfl (szL sz38 (by rw [List.length_map]; exact hu11)) rfl (fun _ h => (rngL (hb3.ch h (fun h => h))))) ?_
      refine ws_eg rfl (gd_ rfl rfl rfl rfl rfl rfl) (e_call ent67 rfl rfl (rtnone_any) ?_)
      rintro _ w11 ⟨rfl, hc⟩
      refine ⟨_, rfl, hc, ?_⟩
      have hzw11 := hc.size
      have HC := HC.tr hc
      have hrnd := hrnd.no hc
      have hb1 := hb1.ch hc (fun h => h)
      have hV5 := hV5.ch hc (by first | exact fun _ _ _ h => h | (intro k hk hF ht; have h2 := hF.1; have h3 := hF.2; first | omega | (dsimp only at *; omega)))
      have hW7 := hW7.after hc
      have hb2 := hb2.ch hc (fun h => h)
      have hb3 := hb3.ch hc (fun h => h)
      refine ws_narrow (S' := fun x => Ch No w11 x) (Ch.refl _ _) (fun x h => hc.tr h) ?_
      refine ws_pg rfl (gd_ rfl rfl rfl rfl rfl rfl) rfl rfl (p_eqH (a := u11) (b := noneH) (by kernel_rfl) Tryd.underlying38 Tryd.underlying5 sz5 rfl rfl (hu11) (noneH_len)) ?_
      refine ws_p rfl rfl rfl rfl (p_pickT rfl rfl) ?_
      refine ws_p rfl rfl rfl rfl (p_as rfl) ?_
      refine ws_n ?_
      refine x_seq ?_
      refine wc_ret ?_
      refine fin_run ((res1 rfl rfl)) ?_
      exact ⟨by congr 2; simp [hcu], HC⟩
    ·
      have hltg1 := hb1.lt
      refine ws_e rfl rfl (e_alloc (cs := (([Value.slice none 0 0, Value.bool false] ++ ((List.map u8v (List.replicate 32 (0 : UInt8))) ++ (List.map u8v (List.replicate 32 (0 : UInt8))))) : List Value).toArray) rfl (by rfl) (by rfl) (fun w12 g2 hg2 hb2 hc hsz2 => ⟨hc, ?_⟩))
      have hzw12 := hc.size
      have HC := HC.tr hc
      have hrnd := hrnd.no hc
      have hb1 := hb1.ch hc (fun h => h)
      have hV5 := hV5.ch hc (by first | exact fun _ _ _ h => h | (intro k hk hF ht; have h2 := hF.1; have h3 := hF.2; first | omega | (dsimp only at *; omega)))
      have hge2 : w.heap.size ≤ g2 := by have := HC.size; omega
      have neg1_2 : g1 < g2 := by omega
      refine ws_narrow (S' := fun x => Ch No w12 x) (Ch.refl _ _) (fun x h => hc.tr h) ?_
      refine ws_e rfl rfl (e_call ent28 rfl rfl (mprove_new hV5 ((List.length_replicate ..)) hrnd) ?_)
      rintro _ w13 ⟨A7, c7, rfl, hW7, hc⟩
      refine ⟨_, rfl, hc, ?_⟩
      have hzw13 := hc.size
      have HC := HC.tr hc
      have hrnd := hrnd.no hc
      have hb1 := hb1.ch hc (fun h => h)
      have hV5 := hV5.ch hc (by first | exact fun _ _ _ h => h | (intro k hk hF ht; have h2 := hF.1; have h3 := hF.2; first | omega | (dsimp only at *; omega)))
      have hb2 := hb2.ch hc (fun h => h)
      refine ws_narrow (S' := fun x => Ch No w13 x) (Ch.refl _ _) (fun x h => hc.tr h) ?_
      refine ws_l rfl rfl (e_stW (vs := (([.slice A7 0 c7, .bool false] ++ ((List.map u8v zeroH) ++ (List.map u8v zeroH))) : List Value)) (szL sz49 (by first | rfl | (simp only [List.length_append, List.length_map, List.length_cons, List.length_nil, (show List.length zeroH = 32 from zeroH_len), (show List.length zeroH = 32 from zeroH_len)]; done) | (simp only [List.length_append, List.length_map, List.length_cons, List.length_nil, List.size_toArray, (show List.length zeroH = 32 from zeroH_len), (show List.length zeroH = 32 from zeroH_len)]; done))) (oneA (allOne rfl) (oneA (oneL one_u8 _) (oneL one_u8 _))) rfl rfl hb2 (by first | rfl | (simp only [List.length_append, List.length_map, List.length_cons, List.length_nil, (show List.length (List.replicate 32 (0 : UInt8)) = 32 from (List.length_replicate ..)), (show List.length (List.replicate 32 (0 : UInt8)) = 32 from (List.length_replicate ..)), (show List.length zeroH = 32 from zeroH_len), (show List.length zeroH = 32 from zeroH_len)]; done) | (simp only [List.length_append, List.length_map, List.length_cons, List.length_nil, List.size_toArray, (show List.length (List.replicate 32 (0 : UInt8)) = 32 from (List.length_replicate ..)), (show List.length (List.replicate 32 (0 : UInt8)) = 32 from (List.length_replicate ..)), (show List.length zeroH = 32 from zeroH_len), (show List.length zeroH = 32 from zeroH_len)]; done)) (fun w14 hb2 hc hsz => ?_))
      have hzw14 := hc.size
      have HC := HC.trans hc (fun _ _ h => h) (fun k hk ht => absurd ht (by omega))
      first | have hrnd := hrnd.ch hc (by intro k hk ht; first | omega | (dsimp only at *; omega)) | have hrnd := hrnd.chT hc (by intro k hz hk ht; first | omega | (dsimp only at *; omega))
      have hb1 := hb1.ch hc (by omega)
      have hV5 := hV5.ch hc (by first | exact fun _ _ _ h => h | (intro k hk hF ht; have h2 := hF.1; have h3 := hF.2; first | omega | (dsimp only at *; omega)))
      have hW7 := hW7.ch hc (by intro k hz hk ht; first | omega | (dsimp only at *; omega))
      refine ws_n ?_
      refine x_seq ?_
      refine wc_seq ?_
      refine wc_region ?_
      refine wl rfl rfl rfl (p_ldA (cs := List.map u8v (List.replicate 32 (0 : UInt8))) Tryd.underlying38 rfl (szL sz38 (by rw [List.length_map]; exact (List.length_replicate ..))) rfl (fun _ e => e ▸ rngL hb1)) ?_
      refine wl rfl rfl rfl (p_ldA (cs := (([.slice A7 0 c7, .bool false] ++ ((List.map u8v zeroH) ++ (List.map u8v zeroH))) : List Value)) Tryd.underlying49 rfl (szL sz49 (by first | rfl | (simp only [List.length_append, List.length_map, List.length_cons, List.length_nil, (show List.length zeroH = 32 from zeroH_len), (show List.length zeroH = 32 from zeroH_len)]; done) | (simp only [List.length_append, List.length_map, List.length_cons, List.length_nil, List.size_toArray, (show List.length zeroH = 32 from zeroH_len), (show List.length zeroH = 32 from zeroH_len)]; done))) rfl (fun _ e => e ▸ rngL hb2)) ?_
      refine wle rfl (e_call ent30 rfl rfl (mclimb_any ((List.length_replicate ..)) (hW7.si) (zeroH_len) (zeroH_len) (by omega) hrnd) ?_)
      rintro _ w15 ⟨u11, ok11, rfl, hu11, hcl11, hc⟩
      refine ⟨_, rfl, ?_⟩
      have hzw15 := hc.size
      have HC := HC.tr hc
      have hrnd := hrnd.no hc
      have hb1 := hb1.ch hc (fun h => h)
      have hV5 := hV5.ch hc (by first | exact fun _ _ _ h => h | (intro k hk hF ht; have h2 := hF.1; have h3 := hF.2; first | omega | (dsimp only at *; omega)))
      have hb2 := hb2.ch hc (fun h => h)
      have hW7 := hW7.after hc
      have hcl0 : (u11, ok11) = (noneH, true) := hcl11
      injection hcl0 with hcu hco
      refine wl rfl rfl rfl (p_mv rfl) ?_
      refine wl rfl rfl rfl (p_ext rfl rfl) ?_
      refine wl rfl rfl rfl (p_ext rfl rfl) ?_
      have hltg1 := hb1.lt
      have hltg2 := hb2.lt
      refine wle rfl (e_alloc (cs := ((List.replicate 32 (0 : UInt8)).map u8v).toArray) rfl (by rfl) rfl (fun w16 g3 hg3 hb3 hc hsz3 => ?_))
      have hzw16 := hc.size
      have HC := HC.tr hc
      have hrnd := hrnd.no hc
      have hb1 := hb1.ch hc (fun h => h)
      have hV5 := hV5.ch hc (by first | exact fun _ _ _ h => h | (intro k hk hF ht; have h2 := hF.1; have h3 := hF.2; first | omega | (dsimp only at *; omega)))
      have hb2 := hb2.ch hc (fun h => h)
      have hW7 := hW7.after hc
      have hge3 : w.heap.size ≤ g3 := by have := HC.size; omega
      have neg1_3 : g1 < g3 := by omega
      have neg2_3 : g2 < g3 := by omega
      refine wle rfl (e_stW (vs := List.map u8v u11) (szL sz38 (by rw [List.length_map]; exact hu11)) (oneL one_u8 _) rfl rfl hb3 (by simp only [List.size_toArray, List.length_map]; first | done | exact ((List.length_replicate ..)).trans (hu11).symm) (fun w17 hb3 hc hsz => ?_))
      have hzw17 := hc.size
      have HC := HC.trans hc (fun _ _ h => h) (fun k hk ht => absurd ht (by omega))
      first | have hrnd := hrnd.ch hc (by intro k hk ht; first | omega | (dsimp only at *; omega)) | have hrnd := hrnd.chT hc (by intro k hz hk ht; first | omega | (dsimp only at *; omega))
      have hb1 := hb1.ch hc (by omega)
      have hV5 := hV5.ch hc (by first | exact fun _ _ _ h => h | (intro k hk hF ht; have h2 := hF.1; have h3 := hF.2; first | omega | (dsimp only at *; omega)))
      have hb2 := hb2.ch hc (by omega)
      have hW7 := hW7.ch hc (by intro k hz hk ht; first | omega | (dsimp only at *; omega))
      refine wl rfl rfl rfl (p_as rfl) ?_
      refine wl_nil ?_
      refine x_seq ?_
      refine wc_seq ?_
      refine wc_draw (.st 0 0 (.st 1 1 (.st 2 0 (.st 3 0 (.st 4 0 (.st 5 0 (.st 6 1 (.st 7 0 (.st 8 0 (.st 9 0 (.st 10 0 (.st 11 0 (.st 12 0 (.st 13 1 (.st 14 2 (.st 15 0 (.st 16 0 (.st 17 0 .nil)))))))))))))))))) 18 (by kernel_rfl) (by kernel_rfl) (by kernel_rfl) (by repeat (first | with_reducible exact pan_body | with_reducible apply pan_then | with_reducible apply pan_in)) (fun x => Ch No w17.drew x) (Ch.refl _ _) ?_
      obtain ⟨w18, ew18⟩ : ∃ x, x = w17.drew := ⟨_, rfl⟩
      rw [← ew18]
      have hc : Ch No w17 w18 := by rw [ew18]; exact Ch.drew _
      have hszw18 : w18.heap.size = w17.heap.size := by rw [ew18]; rfl
      clear ew18
      have hzw18 := hc.size
      have HC := HC.tr hc
      have hrnd := hrnd.no hc
      have hb1 := hb1.ch hc (fun h => h)
      have hV5 := hV5.ch hc (by first | exact fun _ _ _ h => h | (intro k hk hF ht; have h2 := hF.1; have h3 := hF.2; first | omega | (dsimp only at *; omega)))
      have hb2 := hb2.ch hc (fun h => h)
      have hW7 := hW7.no hc
      have hb3 := hb3.ch hc (fun h => h)
      have hS : Ch No w18 w18 := Ch.refl _ _
      refine ws_p rfl rfl rfl rfl (p_fld (j := 0) Tryd.underlying49 rfl ⟨_, by rfl⟩ rfl rfl) ?_
      refine ws_h rfl rfl rfl rfl (p_ld Tryd.underlying47 rfl rfl (fun _ h => h.cell (fun h => h) (cell_at (p := []) (v := (.slice A7 0 c7 : Value)) (r := (([.bool false] ++ ((List.map u8v zeroH) ++ (List.map u8v zeroH))) : List Value)) hb2 (by simp only [List.append_assoc, List.cons_append, List.nil_append, List.append_nil]) (by first | rfl | (simp only [List.length_append, List.length_map, List.length_cons, List.length_nil]; done) | (simp only [List.length_append, List.length_map, List.length_cons, List.length_nil, List.size_toArray]; done))))) ?_
      refine ws_p rfl rfl rfl rfl (p_lenS Tryd.underlying47 rfl) ?_
      refine ws_p rfl rfl rfl rfl (p_eq rfl rfl) ?_
      refine ws_p rfl rfl rfl rfl (p_mv rfl) ?_
      refine ws_know (d := 18) (b' := true) rfl (by simp) ?_
      refine ws_pg rfl (gd_ rfl rfl rfl rfl rfl rfl) rfl rfl (p_fld (j := 1) Tryd.underlying49 rfl ⟨_, by rfl⟩ rfl rfl) ?_
      refine ws_hg rfl (gd_ rfl rfl rfl rfl rfl rfl) rfl rfl (p_ld Tryd.underlying4 rfl rfl (fun _ h => h.cell (fun h => h) (cell_at (p := ([.slice A7 0 c7] : List Value)) (v := (.bool false : Value)) (r := (((List.map u8v zeroH) ++ (List.map u8v zeroH)) : List Value)) hb2 (by simp only [List.append_assoc, List.cons_append, List.nil_append, List.append_nil]) (by first | rfl | (simp only [List.length_append, List.length_map, List.length_cons, List.length_nil]; done) | (simp only [List.length_append, List.length_map, List.length_cons, List.length_nil, List.size_toArray]; done))))) ?_
      refine ws_pg rfl (gd_ rfl rfl rfl rfl rfl rfl) rfl rfl (p_not rfl) ?_
      refine ws_p rfl rfl rfl rfl (p_pickT rfl rfl) ?_
      refine ws_p rfl rfl rfl rfl (p_mv rfl) ?_
      refine ws_pg rfl (gd_ rfl rfl rfl rfl rfl rfl) rfl rfl (p_mv rfl) ?_
      refine ws_p rfl rfl rfl rfl (p_pickT rfl rfl) ?_
      refine ws_p rfl rfl rfl rfl (p_mv rfl) ?_
      refine ws_know (d := 26) (b' := true) rfl (by simp [hco]) ?_
      refine ws_hg rfl (gd_ rfl rfl rfl rfl rfl rfl) rfl rfl (p_ldA (cs := List.map u8v u11) Tryd.underlying38 rfl (szL sz38 (by rw [List.length_map]; exact hu11)) rfl (fun _ h => (rngL (hb3.ch h (fun h => h))))) ?_
      refine ws_eg rfl (gd_ rfl rfl rfl rfl rfl rfl) (e_call ent67 rfl rfl (rtnone_any) ?_)
      rintro _ w19 ⟨rfl, hc⟩
      refine ⟨_, rfl, hc, ?_⟩
      have hzw19 := hc.size
      have HC := HC.tr hc
      have hrnd := hrnd.no hc
      have hb1 := hb1.ch hc (fun h => h)
      have hV5 := hV5.ch hc (by first | exact fun _ _ _ h => h | (intro k hk hF ht; have h2 := hF.1; have h3 := hF.2; first | omega | (dsimp only at *; omega)))
      have hb2 := hb2.ch hc (fun h => h)
      have hW7 := hW7.after hc
      have hb3 := hb3.ch hc (fun h => h)
      refine ws_narrow (S' := fun x => Ch No w19 x) (Ch.refl _ _) (fun x h => hc.tr h) ?_
      refine ws_pg rfl (gd_ rfl rfl rfl rfl rfl rfl) rfl rfl (p_eqH (a := u11) (b := noneH) (by kernel_rfl) Tryd.underlying38 Tryd.underlying5 sz5 rfl rfl (hu11) (noneH_len)) ?_
      refine ws_p rfl rfl rfl rfl (p_pickT rfl rfl) ?_
      refine ws_p rfl rfl rfl rfl (p_as rfl) ?_
      refine ws_n ?_
      refine x_seq ?_
      refine wc_ret ?_
      refine fin_run ((res1 rfl rfl)) ?_
      exact ⟨by congr 2; simp [hcu], HC⟩
  ·
    have hltg1 := hb1.lt
    refine ws_e rfl rfl (e_alloc (cs := (([Value.slice none 0 0, Value.bool false] ++ ((List.map u8v (List.replicate 32 (0 : UInt8))) ++ (List.map u8v (List.replicate 32 (0 : UInt8))))) : List Value).toArray) rfl (by rfl) (by rfl) (fun w20 g2 hg2 hb2 hc hsz2 => ⟨hc, ?_⟩))
    have hzw20 := hc.size
    have HC := HC.tr hc
    have hrnd := hrnd.no hc
    have hb1 := hb1.ch hc (fun h => h)
    have hge2 : w.heap.size ≤ g2 := by have := HC.size; omega
    have neg1_2 : g1 < g2 := by omega
    refine ws_narrow (S' := fun x => Ch No w20 x) (Ch.refl _ _) (fun x h => hc.tr h) ?_
    refine ws_e rfl rfl (e_call ent51 rfl rfl (new_any) ?_)
    rintro _ w21 ⟨v5, rfl, hV5, hc⟩
    refine ⟨_, rfl, hc, ?_⟩
    have hzw21 := hc.size
    have HC := HC.tr hc
    have hrnd := hrnd.no hc
    have hb1 := hb1.ch hc (fun h => h)
    have hb2 := hb2.ch hc (fun h => h)
    have hV5 := hV5.mono (G := fun k => w20.heap.size ≤ k ∧ k < w21.heap.size) (fun k h1 h2 => ⟨h2, h1⟩)
    refine ws_narrow (S' := fun x => Ch No w21 x) (Ch.refl _ _) (fun x h => hc.tr h) ?_
    refine ws_e rfl rfl (e_call ent28 rfl rfl (mprove_new hV5 ((List.length_replicate ..)) hrnd) ?_)
    rintro _ w22 ⟨A7, c7, rfl, hW7, hc⟩
    refine ⟨_, rfl, hc, ?_⟩
    have hzw22 := hc.size
    have HC := HC.tr hc
    have hrnd := hrnd.no hc
    have hb1 := hb1.ch hc (fun h => h)
    have hb2 := hb2.ch hc (fun h => h)
    have hV5 := hV5.ch hc (by first | exact fun _ _ _ h => h | (intro k hk hF ht; have h2 := hF.1; have h3 := hF.2; first | omega | (dsimp only at *; omega)))
    refine ws_narrow (S' := fun x => Ch No w22 x) (Ch.refl _ _) (fun x h => hc.tr h) ?_
    refine ws_l rfl rfl (e_stW (vs := (([.slice A7 0 c7, .bool false] ++ ((List.map u8v zeroH) ++ (List.map u8v zeroH))) : List Value)) (szL sz49 (by first | rfl | (simp only [List.length_append, List.length_map, List.length_cons, List.length_nil, (show List.length zeroH = 32 from zeroH_len), (show List.length zeroH = 32 from zeroH_len)]; done) | (simp only [List.length_append, List.length_map, List.length_cons, List.length_nil, List.size_toArray, (show List.length zeroH = 32 from zeroH_len), (show List.length zeroH = 32 from zeroH_len)]; done))) (oneA (allOne rfl) (oneA (oneL one_u8 _) (oneL one_u8 _))) rfl rfl hb2 (by first | rfl | (simp only [List.length_append, List.length_map, List.length_cons, List.length_nil, (show List.length (List.replicate 32 (0 : UInt8)) = 32 from (List.length_replicate ..)), (show List.length (List.replicate 32 (0 : UInt8)) = 32 from (List.length_replicate ..)), (show List.length zeroH = 32 from zeroH_len), (show List.length zeroH = 32 from zeroH_len)]; done) | (simp only [List.length_append, List.length_map, List.length_cons, List.length_nil, List.size_toArray, (show List.length (List.replicate 32 (0 : UInt8)) = 32 from (List.length_replicate ..)), (show List.length (List.replicate 32 (0 : UInt8)) = 32 from (List.length_replicate ..)), (show List.length zeroH = 32 from zeroH_len), (show List.length zeroH = 32 from zeroH_len)]; done)) (fun w23 hb2 hc hsz => ?_))
    have hzw23 := hc.size
    have HC := HC.trans hc (fun _ _ h => h) (fun k hk ht => absurd ht (by omega))
    first | have hrnd := hrnd.ch hc (by intro k hk ht; first | omega | (dsimp only at *; omega)) | have hrnd := hrnd.chT hc (by intro k hz hk ht; first | omega | (dsimp only at *; omega))
    have hb1 := hb1.ch hc (by omega)
    have hV5 := hV5.ch hc (by first | exact fun _ _ _ h => h | (intro k hk hF ht; have h2 := hF.1; have h3 := hF.2; first | omega | (dsimp only at *; omega)))
    have hW7 := hW7.ch hc (by intro k hz hk ht; first | omega | (dsimp only at *; omega))
    refine ws_n ?_
    refine x_seq ?_
    refine wc_seq ?_
    refine wc_region ?_
    refine wl rfl rfl rfl (p_ldA (cs := List.map u8v (List.replicate 32 (0 : UInt8))) Tryd.underlying38 rfl (szL sz38 (by rw [List.length_map]; exact (List.length_replicate ..))) rfl (fun _ e => e ▸ rngL hb1)) ?_
    refine wl rfl rfl rfl (p_ldA (cs := (([.slice A7 0 c7, .bool false] ++ ((List.map u8v zeroH) ++ (List.map u8v zeroH))) : List Value)) Tryd.underlying49 rfl (szL sz49 (by first | rfl | (simp only [List.length_append, List.length_map, List.length_cons, List.length_nil, (show List.length zeroH = 32 from zeroH_len), (show List.length zeroH = 32 from zeroH_len)]; done) | (simp only [List.length_append, List.length_map, List.length_cons, List.length_nil, List.size_toArray, (show List.length zeroH = 32 from zeroH_len), (show List.length zeroH = 32 from zeroH_len)]; done))) rfl (fun _ e => e ▸ rngL hb2)) ?_
    refine wle rfl (e_call ent30 rfl rfl (mclimb_any ((List.length_replicate ..)) (hW7.si) (zeroH_len) (zeroH_len) (by omega) hrnd) ?_)
    rintro _ w24 ⟨u11, ok11, rfl, hu11, hcl11, hc⟩
    refine ⟨_, rfl, ?_⟩
    have hzw24 := hc.size
    have HC := HC.tr hc
    have hrnd := hrnd.no hc
    have hb1 := hb1.ch hc (fun h => h)
    have hb2 := hb2.ch hc (fun h => h)
    have hV5 := hV5.ch hc (by first | exact fun _ _ _ h => h | (intro k hk hF ht; have h2 := hF.1; have h3 := hF.2; first | omega | (dsimp only at *; omega)))
    have hW7 := hW7.after hc
    have hcl0 : (u11, ok11) = (noneH, true) := hcl11
    injection hcl0 with hcu hco
    refine wl rfl rfl rfl (p_mv rfl) ?_
    refine wl rfl rfl rfl (p_ext rfl rfl) ?_
    refine wl rfl rfl rfl (p_ext rfl rfl) ?_
    have hltg1 := hb1.lt
    have hltg2 := hb2.lt
    refine wle rfl (e_alloc (cs := ((List.replicate 32 (0 : UInt8)).map u8v).toArray) rfl (by rfl) rfl (fun w25 g3 hg3 hb3 hc hsz3 => ?_))
    have hzw25 := hc.size
    have HC := HC.tr hc
    have hrnd := hrnd.no hc
    have hb1 := hb1.ch hc (fun h => h)
    have hb2 := hb2.ch hc (fun h => h)
    have hV5 := hV5.ch hc (by first | exact fun _ _ _ h => h | (intro k hk hF ht; have h2 := hF.1; have h3 := hF.2; first | omega | (dsimp only at *; omega)))
    have hW7 := hW7.after hc
    have hge3 : w.heap.size ≤ g3 := by have := HC.size; omega
    have neg1_3 : g1 < g3 := by omega
    have neg2_3 : g2 < g3 := by omega
    refine wle rfl (e_stW (vs := List.map u8v u11) (szL sz38 (by rw [List.length_map]; exact hu11)) (oneL one_u8 _) rfl rfl hb3 (by simp only [List.size_toArray, List.length_map]; first | done | exact ((List.length_replicate ..)).trans (hu11).symm) (fun w26 hb3 hc hsz => ?_))
    have hzw26 := hc.size
    have HC := HC.trans hc (fun _ _ h => h) (fun k hk ht => absurd ht (by omega))
    first | have hrnd := hrnd.ch hc (by intro k hk ht; first | omega | (dsimp only at *; omega)) | have hrnd := hrnd.chT hc (by intro k hz hk ht; first | omega | (dsimp only at *; omega))
    have hb1 := hb1.ch hc (by omega)
    have hb2 := hb2.ch hc (by omega)
    have hV5 := hV5.ch hc (by first | exact fun _ _ _ h => h | (intro k hk hF ht; have h2 := hF.1; have h3 := hF.2; first | omega | (dsimp only at *; omega)))
    have hW7 := hW7.ch hc (by intro k hz hk ht; first | omega | (dsimp only at *; omega))
    refine wl rfl rfl rfl (p_as rfl) ?_
    refine wl_nil ?_
    refine x_seq ?_
    refine wc_seq ?_
    refine wc_draw (.st 0 0 (.st 1 1 (.st 2 0 (.st 3 0 (.st 4 0 (.st 5 0 (.st 6 1 (.st 7 0 (.st 8 0 (.st 9 0 (.st 10 0 (.st 11 0 (.st 12 0 (.st 13 1 (.st 14 2 (.st 15 0 (.st 16 0 (.st 17 0 .nil)))))))))))))))))) 18 (by kernel_rfl) (by kernel_rfl) (by kernel_rfl) (by repeat (first | with_reducible exact pan_body | with_reducible apply pan_then | with_reducible apply pan_in)) (fun x => Ch No w26.drew x) (Ch.refl _ _) ?_
    obtain ⟨w27, ew27⟩ : ∃ x, x = w26.drew := ⟨_, rfl⟩
    rw [← ew27]
    have hc : Ch No w26 w27 := by rw [ew27]; exact Ch.drew _
    have hszw27 : w27.heap.size = w26.heap.size := by rw [ew27]; rfl
    clear ew27
    have hzw27 := hc.size
    have HC := HC.tr hc
    have hrnd := hrnd.no hc
    have hb1 := hb1.ch hc (fun h => h)
    have hb2 := hb2.ch hc (fun h => h)
    have hV5 := hV5.ch hc (by first | exact fun _ _ _ h => h | (intro k hk hF ht; have h2 := hF.1; have h3 := hF.2; first | omega | (dsimp only at *; omega)))
    have hW7 := hW7.no hc
    have hb3 := hb3.ch hc (fun h => h)
    have hS : Ch No w27 w27 := Ch.refl _ _
    refine ws_p rfl rfl rfl rfl (p_fld (j := 0) Tryd.underlying49 rfl ⟨_, by rfl⟩ rfl rfl) ?_
    refine ws_h rfl rfl rfl rfl (p_ld Tryd.underlying47 rfl rfl (fun _ h => h.cell (fun h => h) (cell_at (p := []) (v := (.slice A7 0 c7 : Value)) (r := (([.bool false] ++ ((List.map u8v zeroH) ++ (List.map u8v zeroH))) : List Value)) hb2 (by simp only [List.append_assoc, List.cons_append, List.nil_append, List.append_nil]) (by first | rfl | (simp only [List.length_append, List.length_map, List.length_cons, List.length_nil]; done) | (simp only [List.length_append, List.length_map, List.length_cons, List.length_nil, List.size_toArray]; done))))) ?_
    refine ws_p rfl rfl rfl rfl (p_lenS Tryd.underlying47 rfl) ?_
    refine ws_p rfl rfl rfl rfl (p_eq rfl rfl) ?_
    refine ws_p rfl rfl rfl rfl (p_mv rfl) ?_
    refine ws_know (d := 18) (b' := true) rfl (by simp) ?_
    refine ws_pg rfl (gd_ rfl rfl rfl rfl rfl rfl) rfl rfl (p_fld (j := 1) Tryd.underlying49 rfl ⟨_, by rfl⟩ rfl rfl) ?_
    refine ws_hg rfl (gd_ rfl rfl rfl rfl rfl rfl) rfl rfl (p_ld Tryd.underlying4 rfl rfl (fun _ h => h.cell (fun h => h) (cell_at (p := ([.slice A7 0 c7] : List Value)) (v := (.bool false : Value)) (r := (((List.map u8v zeroH) ++ (List.map u8v zeroH)) : List Value)) hb2 (by simp only [List.append_assoc, List.cons_append, List.nil_append, List.append_nil]) (by first | rfl | (simp only [List.length_append, List.length_map, List.length_cons, List.length_nil]; done) | (simp only [List.length_append, List.length_map, List.length_cons, List.length_nil, List.size_toArray]; done))))) ?_
    refine ws_pg rfl (gd_ rfl rfl rfl rfl rfl rfl) rfl rfl (p_not rfl) ?_
    refine ws_p rfl rfl rfl rfl (p_pickT rfl rfl) ?_
    refine ws_p rfl rfl rfl rfl (p_mv rfl) ?_
    refine ws_pg rfl (gd_ rfl rfl rfl rfl rfl rfl) rfl rfl (p_mv rfl) ?_
    refine ws_p rfl rfl rfl rfl (p_pickT rfl rfl) ?_
    refine ws_p rfl rfl rfl rfl (p_mv rfl) ?_
    refine ws_know (d := 26) (b' := true) rfl (by simp [hco]) ?_
    refine ws_hg rfl (gd_ rfl rfl rfl rfl rfl rfl) rfl rfl (p_ldA (cs := List.map u8v u11) Tryd.underlying38 rfl (szL sz38 (by rw [List.length_map]; exact hu11)) rfl (fun _ h => (rngL (hb3.ch h (fun h => h))))) ?_
    refine ws_eg rfl (gd_ rfl rfl rfl rfl rfl rfl) (e_call ent67 rfl rfl (rtnone_any) ?_)
    rintro _ w28 ⟨rfl, hc⟩
    refine ⟨_, rfl, hc, ?_⟩
    have hzw28 := hc.size
    have HC := HC.tr hc
    have hrnd := hrnd.no hc
    have hb1 := hb1.ch hc (fun h => h)
    have hb2 := hb2.ch hc (fun h => h)
    have hV5 := hV5.ch hc (by first | exact fun _ _ _ h => h | (intro k hk hF ht; have h2 := hF.1; have h3 := hF.2; first | omega | (dsimp only at *; omega)))
    have hW7 := hW7.after hc
    have hb3 := hb3.ch hc (fun h => h)
    refine ws_narrow (S' := fun x => Ch No w28 x) (Ch.refl _ _) (fun x h => hc.tr h) ?_
    refine ws_pg rfl (gd_ rfl rfl rfl rfl rfl rfl) rfl rfl (p_eqH (a := u11) (b := noneH) (by kernel_rfl) Tryd.underlying38 Tryd.underlying5 sz5 rfl rfl (hu11) (noneH_len)) ?_
    refine ws_p rfl rfl rfl rfl (p_pickT rfl rfl) ?_
    refine ws_p rfl rfl rfl rfl (p_as rfl) ?_
    refine ws_n ?_
    refine x_seq ?_
    refine wc_ret ?_
    refine fin_run ((res1 rfl rfl)) ?_
    exact ⟨by congr 2; simp [hcu], HC⟩

set_option maxHeartbeats 1000000 in
set_option maxRecDepth 20000 in
theorem made12_any {w : World}  {Al : Option Addr} {ll cl : Nat} {Fl : Nat → Prop} {l : List (H8 × H8)} (hin : SI w Fl eIT Al ll cl l) (hll : ll ≤ 1000) :
    Calls Tryd.prog 53 #[.slice Al ll cl] w fun e w' => ∃ v o A lm cm, e = .returned (.tuple #[v, .slice A lm cm]) ∧ TR 41 156 (fun k => w.heap.size ≤ k) w' v o ∧ eo o = mkT l ∧ RI w' (fun k => w.heap.size ≤ k) 81 eIT A lm cm (itemsT (mkT l)) ∧ Ch No w w' := by
  have hinl := hin.len
  have hok := hin.ok
  have hin := hin.old
  have HC : Ch No w w := Ch.refl _ _
  refine enter' (args := [.slice Al ll cl]) (n := 30) Tryd.func53 rfl rfl rfl ?_
  refine wc_seq ?_
  refine wc_region ?_
  refine wl rfl rfl rfl (p_as rfl) ?_
  refine wl rfl rfl rfl (p_as rfl) ?_
  refine wl_nil ?_
  refine x_seq ?_
  refine wc_seq ?_
  refine wc_region ?_
  refine wle rfl (e_call ent51 rfl rfl (new_any) ?_)
  rintro _ w1 ⟨v8, rfl, hV8, hc⟩
  refine ⟨_, rfl, ?_⟩
  have hzw1 := hc.size
  have HC := HC.tr hc
  have hin := hin.no hc
  have hV8 := hV8.mono (G := fun k => w.heap.size ≤ k ∧ k < w1.heap.size) (fun k h1 h2 => ⟨h2, h1⟩)
  refine wl rfl rfl rfl (p_as rfl) ?_
  refine wl_nil ?_
  refine x_seq ?_
  refine wc_seq ?_
  refine wc_region ?_
  refine wl rfl rfl rfl (p_as rfl) ?_
  refine wl_nil ?_
  refine x_seq ?_
  refine wc_seq ?_
  refine wc_seq ?_
  refine wc_region ?_
  refine wl rfl rfl rfl (p_mv rfl) ?_
  refine wl rfl rfl rfl (p_lenS Tryd.underlying87 rfl) ?_
  refine wl rfl rfl rfl (p_mv rfl) ?_
  refine wl_nil ?_
  refine x_seq ?_
  refine wc_block ?_
  refine wc_loop (e' := [(4, (_)), (5, .slice (none) (0) (0)), (9, .slice Al ll cl), (10, i64 (ll : Int)), (11, i64 ((0) : Int))]) (fun mz ez uz => ∃ i : Nat, ∃ v : Value, ∃ o : Option LT, ∃ Am : Option Addr, ∃ lm : Nat, ∃ cm : Nat, mz = ll - i ∧ ez = [(4, v), (5, .slice Am lm cm), (9, .slice Al ll cl), (10, i64 (ll : Int)), (11, i64 (i : Int))] ∧ (i ≤ ll) ∧ (eo o = mkT (l.take i)) ∧ (TR 41 156 (fun k => w.heap.size ≤ k) uz v o) ∧ (RI uz (fun k => w.heap.size ≤ k) 81 eIT Am lm cm (itemsT (mkT (l.take i)))) ∧ (SI uz (fun k => k < w.heap.size) eIT Al ll cl l) ∧ (Ch No w uz))
    ⟨rfl, rfl, rfl, rfl, rfl, trivial⟩ ⟨0, _, _, none, 0, 0, rfl, rfl, (by omega), rfl, (hV8.mono (fun k _ h => by have := h.1; show w.heap.size ≤ k; omega)), RI.nil _ _ _ _, hin, HC⟩ ?_
  rintro m0 e w2 ⟨i, v, o, Am, lm, cm, hm0, rfl, hi, heo, hV, hM, hin, HC⟩
  have hzw2 := HC.size
  have hV := hV.mono (G := fun k => w.heap.size ≤ k ∧ k < w2.heap.size) (fun k h1 h2 => ⟨by first | exact h2 | exact h2.1 | ((try dsimp only at h2); omega), h1⟩)
  have hM := hM.mono (G := fun k => w.heap.size ≤ k ∧ k < w2.heap.size) (fun k h1 h2 => ⟨by first | exact h2 | exact h2.1 | ((try dsimp only at h2); omega), h1⟩)
  refine wc_seq ?_
  refine wc_region ?_
  refine wl rfl rfl rfl (p_lt rfl rfl) ?_
  refine wl_nil ?_
  refine x_seq ?_
  refine wc_seq ?_
  refine wc_if rfl (fun c0 => ?_) (fun c0 => ?_)
  ·
    have c0 := of_decide_eq_true c0
    refine wc_skip ?_
    refine x_seq ?_
    refine wc_seq ?_
    refine wc_block ?_
    refine wc_seq ?_
    refine wc_region ?_
    obtain ⟨b3, o3, hA3, hF3, hr3⟩ := (hin).opn (i := i) (d := (zeroH, zeroH)) (by omega)
    have hok3 := (hin).okAt (i := i) (d := (zeroH, zeroH)) (by omega)
    obtain ⟨x3, ex3⟩ : ∃ x, x = List.getD l (i) (zeroH, zeroH) := ⟨_, rfl⟩
    rw [← ex3] at hr3 hok3
    obtain ⟨hx3k, hx3v⟩ := hok3
    have hr3 : w2.rangeAt b3 (o3 + i * 64) (((List.map u8v x3.1) ++ (List.map u8v x3.2)) : List Value) := hr3
    refine wl rfl rfl rfl (p_ixS (j := i * 64) Tryd.underlying87 sz95 rfl hA3 rfl (by omega) (by omega) (congrArg (· * 64) (Int.toNat_natCast _))) ?_
    have hmk : mkT (l.take (i + 1)) = putT (mkT (l.take i)) x3.1 x3.2 := by rw [ex3]; exact mkT_take (by omega)
    obtain ⟨hwf, hct⟩ := mkT_ok l i hok (by omega)
    have hcnt : cntT (eo o) + 1 ≤ 4611686018427387904 := by rw [heo]; omega
    have hml : lm = cntT (mkT (l.take i)) := by rw [← itemsT_cnt]; exact hM.len.symm
    refine wl rfl rfl rfl (p_ldA (cs := (((List.map u8v x3.1) ++ (List.map u8v x3.2)) : List Value)) Tryd.underlying95 rfl (szL sz95 (by first | rfl | (simp only [List.length_append, List.length_map, List.length_cons, List.length_nil, (show List.length x3.1 = 32 from hx3k), (show List.length x3.2 = 32 from hx3v)]; done) | (simp only [List.length_append, List.length_map, List.length_cons, List.length_nil, List.size_toArray, (show List.length x3.1 = 32 from hx3k), (show List.length x3.2 = 32 from hx3v)]; done))) rfl (fun _ e => e ▸ hr3)) ?_
    refine wle rfl (e_alloc (cs := (((List.map u8v (List.replicate 32 (0 : UInt8))) ++ (List.map u8v (List.replicate 32 (0 : UInt8)))) : List Value).toArray) rfl (by rfl) rfl (fun w4 g7 hg7 hb7 hc hsz7 => ?_))
    have hzw4 := hc.size
    have HC := HC.tr hc
    have hin := hin.no hc
    have hV := hV.ch hc (by first | exact fun _ _ _ h => h | (intro k hk hF ht; have h2 := hF.1; have h3 := hF.2; first | omega | (dsimp only at *; omega)))
    have hM := hM.after hc
    have hge7 : w.heap.size ≤ g7 := by have := HC.size; omega
    refine wle rfl (e_stW (vs := (((List.map u8v x3.1) ++ (List.map u8v x3.2)) : List Value)) (szL sz95 (by first | rfl | (simp only [List.length_append, List.length_map, List.length_cons, List.length_nil, (show List.length x3.1 = 32 from hx3k), (show List.length x3.2 = 32 from hx3v)]; done) | (simp only [List.length_append, List.length_map, List.length_cons, List.length_nil, List.size_toArray, (show List.length x3.1 = 32 from hx3k), (show List.length x3.2 = 32 from hx3v)]; done))) (oneA (oneL one_u8 _) (oneL one_u8 _)) rfl rfl hb7 (by first | rfl | (simp only [List.length_append, List.length_map, List.length_cons, List.length_nil, (show List.length (List.replicate 32 (0 : UInt8)) = 32 from (List.length_replicate ..)), (show List.length (List.replicate 32 (0 : UInt8)) = 32 from (List.length_replicate ..)), (show List.length x3.1 = 32 from hx3k), (show List.length x3.2 = 32 from hx3v)]; done) | (simp only [List.length_append, List.length_map, List.length_cons, List.length_nil, List.size_toArray, (show List.length (List.replicate 32 (0 : UInt8)) = 32 from (List.length_replicate ..)), (show List.length (List.replicate 32 (0 : UInt8)) = 32 from (List.length_replicate ..)), (show List.length x3.1 = 32 from hx3k), (show List.length x3.2 = 32 from hx3v)]; done)) (fun w5 hb7 hc hsz => ?_))
    have hzw5 := hc.size
    have HC := HC.trans hc (fun _ _ h => h) (fun k hk ht => absurd ht (by omega))
    first | have hin := hin.ch hc (by intro k hk ht; first | omega | (dsimp only at *; omega)) | have hin := hin.chT hc (by intro k hz hk ht; first | omega | (dsimp only at *; omega))
    have hV := hV.ch hc (by first | exact fun _ _ _ h => h | (intro k hk hF ht; have h2 := hF.1; have h3 := hF.2; first | omega | (dsimp only at *; omega)))
    have hM := hM.ch hc (by intro k hz hk ht; first | omega | (dsimp only at *; omega))
    refine wl_nil ?_
    refine x_seq ?_
    refine wc_draw (.st 0 0 (.st 1 0 (.st 2 1 (.st 3 0 (.st 4 1 (.st 6 0 (.st 7 0 (.st 8 1 (.st 9 0 (.st 10 1 (.st 5 2 (.st 11 2 (.st 12 0 (.st 13 0 .nil)))))))))))))) 14 (by kernel_rfl) (by kernel_rfl) (by kernel_rfl) (by repeat (first | with_reducible exact pan_body | with_reducible apply pan_then | with_reducible apply pan_in)) (fun x => Ch No w5.drew x) (Ch.refl _ _) ?_
    obtain ⟨w6, ew6⟩ : ∃ x, x = w5.drew := ⟨_, rfl⟩
    rw [← ew6]
    have hc : Ch No w5 w6 := by rw [ew6]; exact Ch.drew _
    have hszw6 : w6.heap.size = w5.heap.size := by rw [ew6]; rfl
    clear ew6
    have hzw6 := hc.size
    have HC := HC.tr hc
    have hin := hin.no hc
    have hV := hV.ch hc (by first | exact fun _ _ _ h => h | (intro k hk hF ht; have h2 := hF.1; have h3 := hF.2; first | omega | (dsimp only at *; omega)))
    have hM := hM.no hc
    have hb7 := hb7.ch hc (fun h => h)
    have hS : Ch No w6 w6 := Ch.refl _ _
    refine ws_p rfl rfl rfl rfl (p_mv rfl) ?_
    refine ws_p rfl rfl rfl rfl (p_fld (j := 0) Tryd.underlying95 rfl ⟨_, by rfl⟩ rfl rfl) ?_
    refine ws_h rfl rfl rfl rfl (p_ldA (cs := (List.map u8v x3.1)) Tryd.underlying38 rfl (szL sz38 (by first | rfl | (simp only [List.length_append, List.length_map, List.length_cons, List.length_nil, (show List.length x3.1 = 32 from hx3k)]; done) | (simp only [List.length_append, List.length_map, List.length_cons, List.length_nil, List.size_toArray, (show List.length x3.1 = 32 from hx3k)]; done))) rfl (fun _ h => rng_at (p := []) (q := ((List.map u8v x3.1) : List Value)) (r := ((List.map u8v x3.2) : List Value)) (hb7.ch h (fun h => h)) (by simp only [List.append_assoc, List.cons_append, List.nil_append, List.append_nil]) (by first | rfl | (simp only [List.length_append, List.length_map, List.length_cons, List.length_nil]; done) | (simp only [List.length_append, List.length_map, List.length_cons, List.length_nil, List.size_toArray]; done)))) ?_
    refine ws_p rfl rfl rfl rfl (p_fld (j := 32) Tryd.underlying95 rfl ⟨_, by rfl⟩ rfl rfl) ?_
    refine ws_h rfl rfl rfl rfl (p_ldA (cs := (List.map u8v x3.2)) Tryd.underlying38 rfl (szL sz38 (by first | rfl | (simp only [List.length_append, List.length_map, List.length_cons, List.length_nil, (show List.length x3.2 = 32 from hx3v)]; done) | (simp only [List.length_append, List.length_map, List.length_cons, List.length_nil, List.size_toArray, (show List.length x3.2 = 32 from hx3v)]; done))) rfl (fun _ h => rng_at (p := ((List.map u8v x3.1) : List Value)) (q := ((List.map u8v x3.2) : List Value)) (r := []) (hb7.ch h (fun h => h)) (by simp only [List.append_assoc, List.cons_append, List.nil_append, List.append_nil]) (by first | rfl | (simp only [List.length_append, List.length_map, List.length_cons, List.length_nil, (show List.length x3.1 = 32 from hx3k)]; done) | (simp only [List.length_append, List.length_map, List.length_cons, List.length_nil, List.size_toArray, (show List.length x3.1 = 32 from hx3k)]; done)))) ?_
    refine ws_p rfl rfl rfl rfl (p_mv rfl) ?_
    refine ws_p rfl rfl rfl rfl (p_fld (j := 0) Tryd.underlying95 rfl ⟨_, by rfl⟩ rfl rfl) ?_
    refine ws_h rfl rfl rfl rfl (p_ldA (cs := (List.map u8v x3.1)) Tryd.underlying38 rfl (szL sz38 (by first | rfl | (simp only [List.length_append, List.length_map, List.length_cons, List.length_nil, (show List.length x3.1 = 32 from hx3k)]; done) | (simp only [List.length_append, List.length_map, List.length_cons, List.length_nil, List.size_toArray, (show List.length x3.1 = 32 from hx3k)]; done))) rfl (fun _ h => rng_at (p := []) (q := ((List.map u8v x3.1) : List Value)) (r := ((List.map u8v x3.2) : List Value)) (hb7.ch h (fun h => h)) (by simp only [List.append_assoc, List.cons_append, List.nil_append, List.append_nil]) (by first | rfl | (simp only [List.length_append, List.length_map, List.length_cons, List.length_nil]; done) | (simp only [List.length_append, List.length_map, List.length_cons, List.length_nil, List.size_toArray]; done)))) ?_
    refine ws_p rfl rfl rfl rfl (p_fld (j := 32) Tryd.underlying95 rfl ⟨_, by rfl⟩ rfl rfl) ?_
    refine ws_h rfl rfl rfl rfl (p_ldA (cs := (List.map u8v x3.2)) Tryd.underlying38 rfl (szL sz38 (by first | rfl | (simp only [List.length_append, List.length_map, List.length_cons, List.length_nil, (show List.length x3.2 = 32 from hx3v)]; done) | (simp only [List.length_append, List.length_map, List.length_cons, List.length_nil, List.size_toArray, (show List.length x3.2 = 32 from hx3v)]; done))) rfl (fun _ h => rng_at (p := ((List.map u8v x3.1) : List Value)) (q := ((List.map u8v x3.2) : List Value)) (r := []) (hb7.ch h (fun h => h)) (by simp only [List.append_assoc, List.cons_append, List.nil_append, List.append_nil]) (by first | rfl | (simp only [List.length_append, List.length_map, List.length_cons, List.length_nil, (show List.length x3.1 = 32 from hx3k)]; done) | (simp only [List.length_append, List.length_map, List.length_cons, List.length_nil, List.size_toArray, (show List.length x3.1 = 32 from hx3k)]; done)))) ?_
    refine ws_e rfl rfl (e_call ent44 rfl rfl (tput_made (F := fun k => w.heap.size ≤ k) (hV.mono (fun k _ h => h.1)) (fun j hj => by show w.heap.size ≤ j; omega) (hx3k) (hx3v) hcnt) ?_)
    rintro _ w7 ⟨v20, t20, rfl, hV20, heq20, hc⟩
    refine ⟨_, rfl, hc, ?_⟩
    have hzw7 := hc.size
    have HC := HC.tr hc
    have hin := hin.no hc
    have hV := hV.ch hc (by first | exact fun _ _ _ h => h | (intro k hk hF ht; have h2 := hF.1; have h3 := hF.2; first | omega | (dsimp only at *; omega)))
    have hM := hM.after hc
    have hb7 := hb7.ch hc (fun h => h)
    have hV20 := hV20.mono (G := fun k => w.heap.size ≤ k ∧ k < w7.heap.size) (fun k h1 h2 => ⟨by first | exact h2 | exact h2.1 | ((try dsimp only at h2); omega), h1⟩)
    refine ws_narrow (S' := fun x => Ch No w7 x) (Ch.refl _ _) (fun x h => hc.tr h) ?_
    refine ws_e rfl rfl (e_call ent52 rfl rfl (rput_any (hM.si) (hx3k) (hx3v) (by omega)) ?_)
    rintro _ w8 ⟨A26, lm26, cm26, rfl, hM26, hc⟩
    refine ⟨_, rfl, hc, ?_⟩
    have hzw8 := hc.size
    have HC := HC.tr hc
    have hin := hin.no hc
    have hV := hV.ch hc (by first | exact fun _ _ _ h => h | (intro k hk hF ht; have h2 := hF.1; have h3 := hF.2; first | omega | (dsimp only at *; omega)))
    have hM := hM.after hc
    have hb7 := hb7.ch hc (fun h => h)
    have hV20 := hV20.ch hc (by first | exact fun _ _ _ h => h | (intro k hk hF ht; have h2 := hF.1; have h3 := hF.2; first | omega | (dsimp only at *; omega)))
    have hMl26 := hM26.len
    have hM26 := hM26.mono (G := fun k => w7.heap.size ≤ k ∧ k < w8.heap.size) (fun k h1 h2 => ⟨h2, h1⟩)
    refine ws_narrow (S' := fun x => Ch No w8 x) (Ch.refl _ _) (fun x h => hc.tr h) ?_
    refine ws_p rfl rfl rfl rfl (p_as rfl) ?_
    refine ws_p rfl rfl rfl rfl (p_as rfl) ?_
    refine ws_n ?_
    refine x_in_normal ?_
    refine x_seq ?_
    refine wc_region ?_
    refine wl rfl rfl rfl (p_add rfl rfl (w64 (by omega))) ?_
    refine wl rfl rfl rfl (p_mv rfl) ?_
    refine wl_nil ?_
    refine x_round (e' := [(4, (_)), (5, .slice (_) (_) (_)), (9, .slice Al ll cl), (10, i64 (ll : Int)), (11, i64 ((i + 1) : Int))]) ⟨rfl, rfl, rfl, rfl, rfl, trivial⟩ (by rw [hm0]; omega) ⟨i + 1, _, _, _, _, _, rfl, rfl, (by omega), (by rw [hmk, heq20, heo]), (hV20.mono (fun k _ h => h.1)), (by rw [hmk, putT_items hwf (by assumption) (by assumption)]; exact hM26.mono (fun k _ h => by have := h.1; show w.heap.size ≤ k; omega)), hin, HC⟩
  ·
    have c0 := of_decide_eq_false c0
    refine wc_exit ?_
    refine x_then_exit ?_
    refine x_then_exit ?_
    refine x_in_here ?_
    refine x_seq ?_
    refine wc_seq ?_
    refine wc_region ?_
    refine wl rfl rfl rfl (p_mv rfl) ?_
    refine wl rfl rfl rfl (p_mv rfl) ?_
    refine wl rfl rfl rfl (p_as rfl) ?_
    refine wl rfl rfl rfl (p_as rfl) ?_
    refine wl_nil ?_
    refine x_seq ?_
    refine wc_ret ?_
    refine fin_run ((res2 rfl rfl rfl)) ?_
    rw [List.take_of_length_le (by omega)] at heo hM
    exact ⟨v, o, Am, lm, cm, rfl, hV.mono (fun k _ h => h.1), heo, hM.mono (fun k _ h => h.1), HC⟩

set_option maxHeartbeats 1000000 in
set_option maxRecDepth 20000 in
theorem mmany_any {w : World} {v : Value} {o : Option LT} {F : Nat → Prop} {Ak : Option Addr} {lk ck : Nat} {Fk : Nat → Prop} {ks : List H8} (hV : TR 41 156 F w v o) (hks : SI w Fk eH Ak lk ck ks) (hrnd : Sl w (fun k => k = 0) u32v (some ⟨0, 0, none⟩) 64 64 rk) (hszo : szO o ≤ 1000000) (hlk : lk ≤ 1000) (hko : ∀ k, k ∈ adsO o → ¬ Fk k) :
    Calls Tryd.prog 55 #[v, .slice Ak lk ck] w fun e w' => ∃ A c rps, e = .returned (.slice A lk c) ∧ RI w' (fun k => w.heap.size ≤ k) 49 eRP A lk c rps ∧ PSok w' 126 (eo o) ks rps ∧ Ch (fun k => k ∈ adsO o) w w' ∧ Fil 156 w w' ∧ (∀ k, k ∈ adsO o → ∃ cs, Blk w k 156 cs) ∧ ∀ k, k ∈ adsO o → F k := by
  have hn0 : 0 < w.heap.size := hrnd.size (by omega) rfl
  have hn1 := hn0
  have hV0 := hV
  have hV := hV.mono (G := fun k => F k ∧ k < w.heap.size) (fun k h1 h2 => ⟨h2, h1⟩)
  have hkl := hks.len
  have hks := hks.mono (G := fun k => Fk k ∧ k < w.heap.size) (fun k h1 h2 => ⟨h2, h1⟩)
  have HC : Ch (fun k => k ∈ adsO o) w w := Ch.refl _ _
  refine enter' (args := [v, .slice Ak lk ck]) (n := 22) Tryd.func55 rfl rfl rfl ?_
  refine wc_seq ?_
  refine wc_region ?_
  refine wl rfl rfl rfl (p_as rfl) ?_
  refine wl_nil ?_
  refine x_seq ?_
  refine wc_seq ?_
  refine wc_region ?_
  refine wl rfl rfl rfl (p_as rfl) ?_
  refine wl_nil ?_
  refine x_seq ?_
  refine wc_seq ?_
  refine wc_seq ?_
  refine wc_region ?_
  refine wl rfl rfl rfl (p_mv rfl) ?_
  refine wl rfl rfl rfl (p_lenS Tryd.underlying23 rfl) ?_
  refine wl rfl rfl rfl (p_mv rfl) ?_
  refine wl_nil ?_
  refine x_seq ?_
  refine wc_block ?_
  refine wc_loop (e' := [(0, v), (1, .slice Ak lk ck), (5, .slice (none) (0) (0)), (8, .slice Ak lk ck), (9, i64 (lk : Int)), (10, i64 ((0) : Int))]) (fun mz ez uz => ∃ i : Nat, ∃ rps : List RP, ∃ A : Option Addr, ∃ l : Nat, ∃ c : Nat, mz = lk - i ∧ ez = [(0, v), (1, .slice Ak lk ck), (5, .slice A l c), (8, .slice Ak lk ck), (9, i64 (lk : Int)), (10, i64 (i : Int))] ∧ (i ≤ lk) ∧ (l = i) ∧ (rps.length = i) ∧ (RI uz (fun k => w.heap.size ≤ k) 49 eRP A l c rps) ∧ (PSok uz 126 (eo o) ks rps) ∧ (SI uz (fun k => Fk k ∧ k < w.heap.size) eH Ak lk ck ks) ∧ (TR 41 156 (fun k => F k ∧ k < w.heap.size) uz v o) ∧ (Sl uz (fun k => k = 0) u32v (some ⟨0, 0, none⟩) 64 64 rk) ∧ (Ch (fun k => k ∈ adsO o) w uz))
    ⟨rfl, rfl, rfl, rfl, rfl, rfl, trivial⟩ ⟨0, [], none, 0, 0, rfl, rfl, (by omega), rfl, rfl, RI.nil _ _ _ _, PSok.nil, hks, hV, hrnd, HC⟩ ?_
  rintro m0 e w1 ⟨i, rps, A, l, c, hm0, rfl, hi, hl, hrl, hW, hPS, hks, hV, hrnd, HC⟩
  have hzw1 := HC.size
  refine wc_seq ?_
  refine wc_region ?_
  refine wl rfl rfl rfl (p_lt rfl rfl) ?_
  refine wl_nil ?_
  refine x_seq ?_
  refine wc_seq ?_
  refine wc_if rfl (fun c0 => ?_) (fun c0 => ?_)
  ·
    have c0 := of_decide_eq_true c0
    refine wc_skip ?_
    refine x_seq ?_
    refine wc_seq ?_
    refine wc_block ?_
    refine wc_seq ?_
    refine wc_region ?_
    obtain ⟨b2, o2, hA2, hF2, hr2⟩ := (hks).opn (i := i) (d := zeroH) (by omega)
    have hok2 := (hks).okAt (i := i) (d := zeroH) (by omega)
    obtain ⟨x2, ex2⟩ : ∃ x, x = List.getD ks (i) zeroH := ⟨_, rfl⟩
    rw [← ex2] at hr2 hok2
    have hx2k : List.length x2 = 32 := hok2
    have hr2 : w1.rangeAt b2 (o2 + i * 32) ((List.map u8v x2) : List Value) := hr2
    refine wl rfl rfl rfl (p_ixS (j := i * 32) Tryd.underlying23 sz38 rfl hA2 rfl (by omega) (by omega) (congrArg (· * 32) (Int.toNat_natCast _))) ?_
    have hkx : ks.getD i zeroH = x2 := ex2.symm
    refine wl rfl rfl rfl (p_ldA (cs := ((List.map u8v x2) : List Value)) Tryd.underlying38 rfl (szL sz38 (by first | rfl | (simp only [List.length_append, List.length_map, List.length_cons, List.length_nil, (show List.length x2 = 32 from hx2k)]; done) | (simp only [List.length_append, List.length_map, List.length_cons, List.length_nil, List.size_toArray, (show List.length x2 = 32 from hx2k)]; done))) rfl (fun _ e => e ▸ hr2)) ?_
    refine wle rfl (e_alloc (cs := ((List.replicate 32 (0 : UInt8)).map u8v).toArray) rfl (by rfl) rfl (fun w3 g7 hg7 hb7 hc hsz7 => ?_))
    have hzw3 := hc.size
    have HC := HC.tr hc
    have hW := hW.after hc
    have hPS := hPS.no hc
    have hks := hks.no hc
    have hV := hV.ch hc (by first | exact fun _ _ _ h => h | (intro k hk hF ht; have h2 : k < w.heap.size := hF.2; first | omega | (dsimp only at *; omega)))
    have hrnd := hrnd.no hc
    have hge7 : w.heap.size ≤ g7 := by have := HC.size; omega
    refine wle rfl (e_stW (vs := List.map u8v x2) (szL sz38 (by rw [List.length_map]; exact hx2k)) (oneL one_u8 _) rfl rfl hb7 (by simp only [List.size_toArray, List.length_map]; first | done | exact ((List.length_replicate ..)).trans (hx2k).symm) (fun w4 hb7 hc hsz => ?_))
    have hzw4 := hc.size
    have HC := HC.trans hc (fun _ _ h => h) (fun k hk ht => absurd ht (by omega))
    have hW := hW.oth hc (t' := 38) (fun k hk ht => ⟨_, (by subst ht; assumption)⟩)
    have hPS := hPS.oth hc (t' := 38) (fun k hk ht => ⟨_, (by subst ht; assumption)⟩)
    first | have hks := hks.ch hc (by intro k hk ht; first | omega | (dsimp only at *; omega)) | have hks := hks.chT hc (by intro k hz hk ht; first | omega | (dsimp only at *; omega))
    have hV := hV.ch hc (by first | exact fun _ _ _ h => h | (intro k hk hF ht; have h2 : k < w.heap.size := hF.2; first | omega | (dsimp only at *; omega)))
    first | have hrnd := hrnd.ch hc (by intro k hk ht; first | omega | (dsimp only at *; omega)) | have hrnd := hrnd.chT hc (by intro k hz hk ht; first | omega | (dsimp only at *; omega))
    refine wl_nil ?_
    refine x_seq ?_
    refine wc_region ?_
    refine wl rfl rfl rfl (p_mv rfl) ?_
    refine wl rfl rfl rfl (p_mv rfl) ?_
    refine wl rfl rfl rfl (p_ldA (cs := List.map u8v x2) Tryd.underlying38 rfl (szL sz38 (by rw [List.length_map]; exact hx2k)) rfl (fun _ e => e ▸ rngL hb7)) ?_
    refine wle rfl (e_call ent28 rfl rfl (mprove_any hV (hx2k) hrnd hszo) ?_)
    rintro _ w5 ⟨A17, l17, c17, lf17, u17, x17, rfl, hu17, hx17, hW17, hen17, hc, hFil, hRB, hRF⟩
    refine ⟨_, rfl, ?_⟩
    have hR0 := hV.ot.out hrnd (by omega)
    have hzw5 := hc.size
    have HC := HC.trans hc (fun _ _ h => h) (fun k hk ht => ht)
    have hW := hW.ty hc (by decide) hRB
    have hPS := hPS.oth hc (fun k _ hk => hRB k hk)
    have hks := hks.ch hc (fun k hk ht => hko k ht hk.1)
    have hV := hV.fil hc hRB hFil
    have hrnd := hrnd.ch hc (fun k hk ht => hR0 (hk ▸ ht))
    first | have hb7 := hb7.ch hc (hb7.not_nd hRB) | have hb7 := hb7.ch hc (by assumption)
    have hWl17 := hW17.len
    have hltg7 := hb7.lt
    refine wle rfl (e_bslX (E := 49) (cs := (([.slice A17 l17 c17, .bool lf17] ++ ((List.map u8v u17) ++ (List.map u8v x17))) : List Value)) (cs' := (([.slice A17 l17 c17, .bool lf17] ++ ((hx u17) ++ (hx x17))) : List Value)) rfl rfl (by simp only [hv, map_hx hu17, map_hx hx17] <;> rfl) (fun _ => by kernel_rfl) (fun w6 g18 hg18 hb18 hc hsz18 => ?_))
    have hzw6 := hc.size
    have HC := HC.tr hc
    have hW := hW.after hc
    have hPS := hPS.no hc
    have hks := hks.no hc
    have hV := hV.ch hc (by first | exact fun _ _ _ h => h | (intro k hk hF ht; have h2 : k < w.heap.size := hF.2; first | omega | (dsimp only at *; omega)))
    have hrnd := hrnd.no hc
    have hb7 := hb7.ch hc (fun h => h)
    have hW17 := hW17.after hc
    have hge18 : w.heap.size ≤ g18 := by have := HC.size; omega
    have hS18 := SI.oneA (E := eRP) (x := ⟨A17, l17, c17, lf17, u17, x17⟩) hb18 rfl ⟨hu17, hx17⟩
    have hltg7 := hb7.lt
    refine wle rfl (e_appI rfl el90 rfl rfl (hW.typ (B := fun k => w.heap.size ≤ k) (fun k _ hk => by first | exact hk | omega | (dsimp only at *; omega))) (hS18) (by omega) (fun k hk => .inr hk) (fun w7 A19 c19 hW hc => ?_))
    have hzw7 := hc.size
    have HC := HC.trans hc (fun _ _ h => h) (fun k hk ht => ht.elim (fun h => absurd h.1 (Nat.not_le.2 hk)) (fun h => by omega))
    have hPS := hPS.oth hc (fun k hk ht => ht.elim (fun h => h.2) (fun h => by omega))
    have hks := hks.ch hc (fun k hk ht => ht.elim (fun h => absurd h.1 (by show ¬ (w.heap.size ≤ k); first | omega | (dsimp only at *; omega))) (fun h => by first | omega | (dsimp only at *; omega)))
    have hV := hV.oth hc (fun k hk ht => ht.elim (fun h => h.2) (fun h => by omega))
    have hrnd := hrnd.ch hc (fun k hk ht => ht.elim (fun h => absurd h.1 (by show ¬ (w.heap.size ≤ k); first | omega | (dsimp only at *; omega))) (fun h => by first | omega | (dsimp only at *; omega)))
    have hltg7 := hb7.lt
    have hb7 := hb7.ch hc (fun ht => ht.elim (fun h => h.2.elim fun _ hq => hq.ne hb7 (by decide) rfl) (fun h => by omega))
    have hW17 := hW17.oth hc (fun k hk ht => ht.elim (fun h => h.2) (fun h => by omega))
    have hW := hW.mono (G := fun k => w.heap.size ≤ k) (fun k _ h => h.elim (fun h => h.1) (fun h => by omega))
    refine wl rfl rfl rfl (p_as rfl) ?_
    refine wl_nil ?_
    refine x_in_normal ?_
    refine x_seq ?_
    refine wc_region ?_
    refine wl rfl rfl rfl (p_add rfl rfl (w64 (by omega))) ?_
    refine wl rfl rfl rfl (p_mv rfl) ?_
    refine wl_nil ?_
    refine x_round (e' := [(0, v), (1, .slice Ak lk ck), (5, .slice (_) (_) (_)), (8, .slice Ak lk ck), (9, i64 (lk : Int)), (10, i64 ((i + 1) : Int))]) ⟨rfl, rfl, rfl, rfl, rfl, rfl, trivial⟩ (by rw [hm0]; omega) ⟨i + 1, _, _, _, _, rfl, rfl, (by omega), (by omega), (by simp; omega), hW, (PSok.snoc hPS (by rw [hrl, hkx]; exact hW17) (by rw [hrl, hkx]; exact hen17)), hks, hV, hrnd, HC⟩
  ·
    have c0 := of_decide_eq_false c0
    refine wc_exit ?_
    refine x_then_exit ?_
    refine x_then_exit ?_
    refine x_in_here ?_
    refine x_seq ?_
    refine wc_seq ?_
    refine wc_region ?_
    refine wl rfl rfl rfl (p_mv rfl) ?_
    refine wl rfl rfl rfl (p_as rfl) ?_
    refine wl_nil ?_
    refine x_seq ?_
    refine wc_ret ?_
    refine fin_run ((res1 rfl rfl)) ?_
    obtain rfl : l = lk := by omega
    exact ⟨A, c, rps, rfl, hW, hPS, HC, Fil.ofO hV0.ot HC (fun t e => hV.lat t e), hV0.adsB, hV0.adsF⟩

set_option maxHeartbeats 4000000 in
set_option maxRecDepth 20000 in
theorem memberProves_walk {w : World}  {Al : Option Addr} {ll cl : Nat} {Fl : Nat → Prop} {l : List (H8 × H8)} {k : List UInt8} {Ak : Option Addr} {lk ck : Nat} {Fk : Nat → Prop} {ks : List H8} (hin : SI w Fl eIT Al ll cl l) (hk : k.length = 32) (hks : SI w Fk eH Ak lk ck ks) (hrnd : Sl w (fun k => k = 0) u32v (some ⟨0, 0, none⟩) 64 64 rk) :
    Calls Tryd.prog 12 #[.slice Al ll cl, hv k, .slice Ak lk ck] w fun e w' => e = .returned (.bool true) ∧ Ch No w w' := by
  have hn0 : 0 < w.heap.size := hrnd.size (by omega) rfl
  have hn1 := hn0
  have hinl := hin.len
  have hok := hin.ok
  have hkl := hks.len
  have hin := hin.old
  have hks := hks.old
  have HC : Ch No w w := Ch.refl _ _
  refine enter' (args := [.slice Al ll cl, hv k, .slice Ak lk ck]) (n := 62) Tryd.func12 rfl rfl rfl ?_
  refine wc_seq ?_
  refine wc_region ?_
  refine wle rfl (e_box (cs := (List.map u8v k).toArray) rfl rfl rfl (fun w1 g4 hg4 hb4 hc hsz4 => ?_))
  have hzw1 := hc.size
  have HC := HC.tr hc
  have hin := hin.no hc
  have hks := hks.no hc
  have hrnd := hrnd.no hc
  have hge4 : w.heap.size ≤ g4 := by have := HC.size; omega
  refine wl rfl rfl rfl (p_as rfl) ?_
  refine wl_nil ?_
  refine x_seq ?_
  refine wc_seq ?_
  refine wc_seq ?_
  refine wc_region ?_
  refine wl rfl rfl rfl (p_mv rfl) ?_
  refine wl rfl rfl rfl (p_lenS Tryd.underlying87 rfl) ?_
  refine wl rfl rfl rfl (p_gt rfl rfl) ?_
  refine wl rfl rfl rfl (p_mv rfl) ?_
  refine wl_split (d := 15) rfl (fun q15 => ?_) (fun q15 => ?_)
  ·
    have q15 := of_decide_eq_true q15
    refine wl_s (gd_ rfl rfl rfl rfl rfl rfl) rfl rfl ?_
    refine wl_s (gd_ rfl rfl rfl rfl rfl rfl) rfl rfl ?_
    refine wl_s (gd_ rfl rfl rfl rfl rfl rfl) rfl rfl ?_
    refine wl rfl rfl rfl (p_pickT rfl rfl) ?_
    refine wl_nil ?_
    refine x_seq ?_
    refine wc_yes rfl (rfl) ?_
    refine wc_seq ?_
    refine wc_region ?_
    refine wle rfl (e_call ent29 rfl rfl (lives12_any hrnd) ?_)
    rintro _ w2 ⟨rfl, hc⟩
    refine ⟨_, rfl, ?_⟩
    have hzw2 := hc.size
    have HC := HC.tr hc
    have hin := hin.no hc
    have hks := hks.no hc
    have hrnd := hrnd.no hc
    have hb4 := hb4.ch hc (fun h => h)
    refine wl rfl rfl rfl (p_as rfl) ?_
    refine wl_nil ?_
    refine x_seq ?_
    refine wc_ret ?_
    refine x_then_ret ?_
    refine fin_run ((res1 rfl rfl)) ?_
    exact ⟨rfl, HC⟩
  ·
    have q15 := of_decide_eq_false q15
    refine wl_g (gd_ rfl rfl rfl rfl rfl rfl) rfl rfl (p_mv rfl) ?_
    refine wl_g (gd_ rfl rfl rfl rfl rfl rfl) rfl rfl (p_lenS Tryd.underlying23 rfl) ?_
    refine wl_g (gd_ rfl rfl rfl rfl rfl rfl) rfl rfl (p_gt rfl rfl) ?_
    refine wl rfl rfl rfl (p_pickF rfl rfl) ?_
    refine wl_nil ?_
    refine x_seq ?_
    refine wc_if rfl (fun c0 => ?_) (fun c0 => ?_)
    ·
      have c0 := of_decide_eq_true c0
      refine wc_seq ?_
      refine wc_region ?_
      refine wle rfl (e_call ent29 rfl rfl (lives12_any hrnd) ?_)
      rintro _ w3 ⟨rfl, hc⟩
      refine ⟨_, rfl, ?_⟩
      have hzw3 := hc.size
      have HC := HC.tr hc
      have hin := hin.no hc
      have hks := hks.no hc
      have hrnd := hrnd.no hc
      have hb4 := hb4.ch hc (fun h => h)
      refine wl rfl rfl rfl (p_as rfl) ?_
      refine wl_nil ?_
      refine x_seq ?_
      refine wc_ret ?_
      refine x_then_ret ?_
      refine fin_run ((res1 rfl rfl)) ?_
      exact ⟨rfl, HC⟩
    ·
      have c0 := of_decide_eq_false c0
      refine wc_skip ?_
      refine x_seq ?_
      refine wc_seq ?_
      refine wc_region ?_
      refine wl rfl rfl rfl (p_mv rfl) ?_
      refine wle rfl (e_call ent53 rfl rfl (made12_any hin (by omega)) ?_)
      rintro _ w4 ⟨v23, o23, A23, lm23, cm23, rfl, hV23, heo23, hM23, hc⟩
      refine ⟨_, rfl, ?_⟩
      have hzw4 := hc.size
      have HC := HC.tr hc
      have hin := hin.no hc
      have hks := hks.no hc
      have hrnd := hrnd.no hc
      have hb4 := hb4.ch hc (fun h => h)
      obtain ⟨hwf, hmc⟩ := mkT_all hok
      have hml23 : lm23 = cntT (mkT l) := by rw [← itemsT_cnt]; exact hM23.len.symm
      have hszo : szO o23 ≤ 2 * cntT (mkT l) := by rw [← heo23]; exact szO_le
      have hVo := hV23.ot
      have hV23 := hV23.mono (G := fun k => w.heap.size ≤ k ∧ k < w4.heap.size) (fun k h1 h2 => ⟨by first | exact h2 | exact h2.1 | ((try dsimp only at h2); omega), h1⟩)
      have hM23 := hM23.mono (G := fun k => w.heap.size ≤ k ∧ k < w4.heap.size) (fun k h1 h2 => ⟨by first | exact h2 | exact h2.1 | ((try dsimp only at h2); omega), h1⟩)
      have hwfo : WFO (eo o23) := by rw [heo23]; exact hwf
      have hml23b : lm23 ≤ 30 := by omega
      refine wl rfl rfl rfl (p_mv rfl) ?_
      refine wl rfl rfl rfl (p_ext rfl rfl) ?_
      refine wl rfl rfl rfl (p_ext rfl rfl) ?_
      refine wl rfl rfl rfl (p_as rfl) ?_
      refine wl rfl rfl rfl (p_as rfl) ?_
      refine wl_nil ?_
      refine x_seq ?_
      refine wc_seq ?_
      refine wc_seq ?_
      refine wc_draw (.st 0 0 (.st 1 1 (.st 4 0 (.st 5 1 (.st 2 2 (.st 3 2 (.st 6 2 (.st 7 2 (.st 8 0 .nil))))))))) 9 (by kernel_rfl) (by kernel_rfl) (by kernel_rfl) (by repeat (first | with_reducible exact pan_body | with_reducible apply pan_then | with_reducible apply pan_in)) (fun z => Ch (fun k => k ∈ adsO o23) w4.drew z) (Ch.refl _ _) ?_
      obtain ⟨w5, ew5⟩ : ∃ x, x = w4.drew := ⟨_, rfl⟩
      rw [← ew5]
      have hc : Ch No w4 w5 := by rw [ew5]; exact Ch.drew _
      have hszw5 : w5.heap.size = w4.heap.size := by rw [ew5]; rfl
      clear ew5
      have hzw5 := hc.size
      have HC := HC.tr hc
      have hin := hin.no hc
      have hks := hks.no hc
      have hrnd := hrnd.no hc
      have hb4 := hb4.ch hc (fun h => h)
      have hV23 := hV23.ch hc (by first | exact fun _ _ _ h => h | (intro k hk hF ht; have h2 := hF.1; have h3 := hF.2; first | omega | (dsimp only at *; omega)))
      have hM23 := hM23.no hc
      have hS : Ch (fun k => k ∈ adsO o23) w5 w5 := Ch.refl _ _
      have hRBd := hV23.adsB
      refine ws_p rfl rfl rfl rfl (p_mv rfl) ?_
      refine ws_h rfl rfl rfl rfl (p_ldA (cs := List.map u8v k) Tryd.underlying38 rfl (szL sz38 (by rw [List.length_map]; exact hk)) rfl (fun _ h => (rngL (hb4.ch h (hb4.not_nd hRBd))))) ?_
      refine ws_p rfl rfl rfl rfl (p_mv rfl) ?_
      refine ws_h rfl rfl rfl rfl (p_ldA (cs := List.map u8v k) Tryd.underlying38 rfl (szL sz38 (by rw [List.length_map]; exact hk)) rfl (fun _ h => (rngL (hb4.ch h (hb4.not_nd hRBd))))) ?_
      refine ws_e rfl rfl (e_call ent28 rfl rfl (mprove_any hV23 (hk) hrnd (by omega)) ?_)
      rintro _ w6 ⟨A28, l28, c28, lf28, u28, x28, rfl, hu28, hx28, hW28, hen28, hc, hFil, hRB, hRF⟩
      refine ⟨_, rfl, (by first | exact hS.tr hc | exact hS.trans hc (fun _ _ h => h) (fun _ _ h => h)), ?_⟩
      have hR0 := hV23.ot.out hrnd (by omega)
      have hRo : ∀ k, k < w.heap.size → k ∈ adsO o23 → False := fun k h1 h2 => absurd (hRF k h2).1 (by omega)
      have hzw6 := hc.size
      have HC := HC.trans hc (fun _ _ h => h) (fun k hk ht => absurd (hRF k ht).1 (by omega))
      have hin := hin.ch hc (fun k hk ht => hRo k hk ht)
      have hks := hks.ch hc (fun k hk ht => hRo k hk ht)
      have hrnd := hrnd.ch hc (fun k hk ht => hR0 (hk ▸ ht))
      first | have hb4 := hb4.ch hc (hb4.not_nd hRB) | have hb4 := hb4.ch hc (by assumption)
      have hV23 := hV23.fil hc hRB hFil
      have hM23 := hM23.ty hc (by decide) hRB
      have hWl28 : l28 ≤ szO o23 := by rw [← hW28.len]; exact way_lenO
      have hW28 := hW28.mono (G := fun k => w5.heap.size ≤ k ∧ k < w6.heap.size) (fun k h1 h2 => ⟨h2, h1⟩)
      have hS := (by first | exact hS.tr hc | exact hS.trans hc (fun _ _ h => h) (fun _ _ h => h))
      refine ws_e rfl rfl (e_call ent27 rfl rfl (mplain_any (hW28.si) (hu28) (hx28) (by omega)) ?_)
      rintro _ w7 ⟨A29, l29, c29, rfl, hW29, hc⟩
      refine ⟨_, rfl, (by first | exact hS.tr hc | exact hS.trans hc (fun _ _ h => h) (fun _ _ h => h)), ?_⟩
      have hzw7 := hc.size
      have HC := HC.tr hc
      have hin := hin.no hc
      have hks := hks.no hc
      have hrnd := hrnd.no hc
      have hb4 := hb4.ch hc (fun h => h)
      have hV23 := hV23.ch hc (by first | exact fun _ _ _ h => h | (intro k hk hF ht; have h2 := hF.1; have h3 := hF.2; first | omega | (dsimp only at *; omega)))
      have hM23 := hM23.after hc
      have hW28 := hW28.after hc
      have hWl29 : l29 ≤ szO o23 := by rw [← hW29.len]; exact way_lenO
      have hW29 := hW29.mono (G := fun k => w6.heap.size ≤ k ∧ k < w7.heap.size) (fun k h1 h2 => ⟨h2, h1⟩)
      have hS := (by first | exact hS.tr hc | exact hS.trans hc (fun _ _ h => h) (fun _ _ h => h))
      refine ws_e rfl rfl (e_call ent54 rfl rfl (rprove_any hM23.si hwf (hk) (by omega)) ?_)
      rintro _ w8 ⟨A32, l32, c32, lf32, u32, x32, rfl, hu32, hx32, hW32, hen32, hc⟩
      refine ⟨_, rfl, (by first | exact hS.tr hc | exact hS.trans hc (fun _ _ h => h) (fun _ _ h => h)), ?_⟩
      have hzw8 := hc.size
      have HC := HC.tr hc
      have hin := hin.no hc
      have hks := hks.no hc
      have hrnd := hrnd.no hc
      have hb4 := hb4.ch hc (fun h => h)
      have hV23 := hV23.ch hc (by first | exact fun _ _ _ h => h | (intro k hk hF ht; have h2 := hF.1; have h3 := hF.2; first | omega | (dsimp only at *; omega)))
      have hM23 := hM23.after hc
      have hW28 := hW28.after hc
      have hW29 := hW29.after hc
      rw [← heo23] at hW32 hen32
      obtain ⟨hq1, hq2, hq3⟩ : u28 = u32 ∧ x28 = x32 ∧ lf28 = lf32 := by have h := (hen28).trans hen32.symm; injection h with h1 h2; injection h2 with h2 h3; exact ⟨h1, h2, h3⟩
      subst hq1; subst hq2; subst hq3
      have hWl32 : l32 ≤ szO o23 := by rw [← hW32.len]; exact way_lenO
      have hW32 := hW32.mono (G := fun k => w7.heap.size ≤ k ∧ k < w8.heap.size) (fun k h1 h2 => ⟨h2, h1⟩)
      have hS := (by first | exact hS.tr hc | exact hS.trans hc (fun _ _ h => h) (fun _ _ h => h))
      refine ws_e rfl rfl (e_call ent26 rfl rfl (rsame_same (hW29.si) (hW32.si) (hu28) (hx28) (by omega) (by omega)) ?_)
      rintro _ w9 ⟨rfl, hc⟩
      refine ⟨_, rfl, (by first | exact hS.tr hc | exact hS.trans hc (fun _ _ h => h) (fun _ _ h => h)), ?_⟩
      have hzw9 := hc.size
      have HC := HC.tr hc
      have hin := hin.no hc
      have hks := hks.no hc
      have hrnd := hrnd.no hc
      have hb4 := hb4.ch hc (fun h => h)
      have hV23 := hV23.ch hc (by first | exact fun _ _ _ h => h | (intro k hk hF ht; have h2 := hF.1; have h3 := hF.2; first | omega | (dsimp only at *; omega)))
      have hM23 := hM23.after hc
      have hW28 := hW28.after hc
      have hW29 := hW29.after hc
      have hW32 := hW32.after hc
      have hS := (by first | exact hS.tr hc | exact hS.trans hc (fun _ _ h => h) (fun _ _ h => h))
      refine ws_p rfl rfl rfl rfl (p_not rfl) ?_
      refine ws_n ?_
      refine x_seq ?_
      refine wc_no rfl (rfl) ?_
      refine wc_skip ?_
      refine x_seq ?_
      refine wc_seq ?_
      refine wc_region ?_
      refine wl rfl rfl rfl (p_mv rfl) ?_
      refine wl rfl rfl rfl (p_mv rfl) ?_
      refine wle rfl (e_call ent55 rfl rfl (mmany_any hV23 hks hrnd (by omega) (by omega) (fun k h1 h2 => absurd (hV23.adsF k h1).1 (Nat.not_le.2 h2))) ?_)
      rintro _ w10 ⟨A37, c37, rps37, rfl, hW37, hPS37, hc, hFil, hRB, hRF⟩
      refine ⟨_, rfl, ?_⟩
      have hR0 := hV23.ot.out hrnd (by omega)
      have hRo : ∀ k, k < w.heap.size → k ∈ adsO o23 → False := fun k h1 h2 => absurd (hRF k h2).1 (by omega)
      have hzw10 := hc.size
      have HC := HC.trans hc (fun _ _ h => h) (fun k hk ht => absurd (hRF k ht).1 (by omega))
      have hin := hin.ch hc (fun k hk ht => hRo k hk ht)
      have hks := hks.ch hc (fun k hk ht => hRo k hk ht)
      have hrnd := hrnd.ch hc (fun k hk ht => hR0 (hk ▸ ht))
      first | have hb4 := hb4.ch hc (hb4.not_nd hRB) | have hb4 := hb4.ch hc (by assumption)
      have hV23 := hV23.fil hc hRB hFil
      have hM23 := hM23.ty hc (by decide) hRB
      have hW28 := hW28.ty hc (by decide) hRB
      have hW29 := hW29.ty hc (by decide) hRB
      have hW32 := hW32.ty hc (by decide) hRB
      have hW37 := hW37.mono (G := fun k => w9.heap.size ≤ k ∧ k < w10.heap.size) (fun k h1 h2 => ⟨h2, h1⟩)
      have hrpl := hW37.len
      refine wl rfl rfl rfl (p_as rfl) ?_
      refine wl_nil ?_
      refine x_seq ?_
      refine wc_seq ?_
      refine wc_seq ?_
      refine wc_region ?_
      refine wl rfl rfl rfl (p_mv rfl) ?_
      refine wl rfl rfl rfl (p_lenS Tryd.underlying90 rfl) ?_
      refine wl rfl rfl rfl (p_mv rfl) ?_
      refine wl rfl rfl rfl (p_lenS Tryd.underlying23 rfl) ?_
      refine wl rfl rfl rfl (p_ne rfl rfl) ?_
      refine wl_nil ?_
      refine x_seq ?_
      refine wc_no rfl (decide_eq_false (by omega)) ?_
      refine wc_skip ?_
      refine x_seq ?_
      refine wc_seq ?_
      refine wc_seq ?_
      refine wc_region ?_
      refine wl rfl rfl rfl (p_mv rfl) ?_
      refine wl rfl rfl rfl (p_lenS Tryd.underlying90 rfl) ?_
      refine wl rfl rfl rfl (p_mv rfl) ?_
      refine wl_nil ?_
      refine x_seq ?_
      refine wc_block ?_
      obtain ⟨n7, hn7⟩ : ∃ x, x = w10.heap.size := ⟨_, rfl⟩
      refine wc_loop (e' := [(2, .slice Ak lk ck), (8, .slice A23 lm23 cm23), (9, .slice A37 lk c37), (43, .slice A37 lk c37), (44, i64 (lk : Int)), (45, i64 ((0) : Int))]) (fun mz ez uz => ∃ i : Nat, mz = lk - i ∧ ez = [(2, .slice Ak lk ck), (8, .slice A23 lm23 cm23), (9, .slice A37 lk c37), (43, .slice A37 lk c37), (44, i64 (lk : Int)), (45, i64 (i : Int))] ∧ (i ≤ lk) ∧ (SI uz (fun k => k < w.heap.size) eH Ak lk ck ks) ∧ (RI uz (fun k => w.heap.size ≤ k ∧ k < n7) 81 eIT A23 lm23 cm23 (itemsT (mkT l))) ∧ (RI uz (fun k => w.heap.size ≤ k ∧ k < n7) 49 eRP A37 lk c37 rps37) ∧ (PSok uz 126 (eo o23) ks rps37) ∧ (Sl uz (fun k => k = 0) u32v (some ⟨0, 0, none⟩) 64 64 rk) ∧ (n7 ≤ uz.heap.size ∧ w.heap.size ≤ n7) ∧ (Ch No w uz))
        ⟨rfl, rfl, rfl, rfl, rfl, rfl, trivial⟩ ⟨0, rfl, rfl, (by omega), hks, (hM23.mono (fun k h1 h2 => ⟨by first | exact h2.1 | exact h2.1.1 | exact h2.1.1.1 | omega | (dsimp only at *; omega), by omega⟩)), (hW37.mono (fun k h1 h2 => ⟨by first | omega | (dsimp only at *; omega), by omega⟩)), hPS37, hrnd, (by omega), HC⟩ ?_
      rintro m0 e w11 ⟨i, hm0, rfl, hi, hks, hM23, hW37, hPS37, hrnd, hn7, HC⟩
      have hzw11 := HC.size
      refine wc_seq ?_
      refine wc_region ?_
      refine wl rfl rfl rfl (p_lt rfl rfl) ?_
      refine wl_nil ?_
      refine x_seq ?_
      refine wc_seq ?_
      refine wc_if rfl (fun c3 => ?_) (fun c3 => ?_)
      ·
        have c3 := of_decide_eq_true c3
        refine wc_skip ?_
        refine x_seq ?_
        refine wc_seq ?_
        refine wc_block ?_
        refine wc_seq ?_
        refine wc_region ?_
        refine wl rfl rfl rfl (p_mv rfl) ?_
        obtain ⟨b12, o12, hA12, hF12, hr12⟩ := (hW37.si).opn (i := i) (d := RP0) (by omega)
        have hok12 := (hW37.si).okAt (i := i) (d := RP0) (by omega)
        obtain ⟨x12, ex12⟩ : ∃ x, x = List.getD rps37 (i) RP0 := ⟨_, rfl⟩
        rw [← ex12] at hr12 hok12
        obtain ⟨hx12k, hx12v⟩ := hok12
        have hr12 : w11.rangeAt b12 (o12 + i * 66) (([.slice x12.A x12.l x12.c, .bool x12.lf] ++ ((List.map u8v x12.u) ++ (List.map u8v x12.x))) : List Value) := hr12
        refine wl rfl rfl rfl (p_ixS (j := i * 66) Tryd.underlying90 sz49 rfl hA12 rfl (by omega) (by omega) (congrArg (· * 66) (Int.toNat_natCast _))) ?_
        refine wl rfl rfl rfl (p_ldA (cs := (([.slice x12.A x12.l x12.c, .bool x12.lf] ++ ((List.map u8v x12.u) ++ (List.map u8v x12.x))) : List Value)) Tryd.underlying49 rfl (szL sz49 (by first | rfl | (simp only [List.length_append, List.length_map, List.length_cons, List.length_nil, (show List.length x12.u = 32 from hx12k), (show List.length x12.x = 32 from hx12v)]; done) | (simp only [List.length_append, List.length_map, List.length_cons, List.length_nil, List.size_toArray, (show List.length x12.u = 32 from hx12k), (show List.length x12.x = 32 from hx12v)]; done))) rfl (fun _ e => e ▸ hr12)) ?_
        refine wle rfl (e_alloc (cs := (([Value.slice none 0 0, Value.bool false] ++ ((List.map u8v (List.replicate 32 (0 : UInt8))) ++ (List.map u8v (List.replicate 32 (0 : UInt8))))) : List Value).toArray) rfl (by rfl) (by rfl) (fun w13 g11 hg11 hb11 hc hsz11 => ?_))
        have hzw13 := hc.size
        have HC := HC.tr hc
        have hks := hks.no hc
        have hM23 := hM23.after hc
        have hW37 := hW37.after hc
        have hPS37 := hPS37.no hc
        have hrnd := hrnd.no hc
        have hge11 : w.heap.size ≤ g11 := by have := HC.size; omega
        refine wl rfl rfl rfl (p_as rfl) ?_
        refine wle rfl (e_stW (vs := (([.slice x12.A x12.l x12.c, .bool x12.lf] ++ ((List.map u8v x12.u) ++ (List.map u8v x12.x))) : List Value)) (szL sz49 (by first | rfl | (simp only [List.length_append, List.length_map, List.length_cons, List.length_nil, (show List.length x12.u = 32 from hx12k), (show List.length x12.x = 32 from hx12v)]; done) | (simp only [List.length_append, List.length_map, List.length_cons, List.length_nil, List.size_toArray, (show List.length x12.u = 32 from hx12k), (show List.length x12.x = 32 from hx12v)]; done))) (oneA (allOne rfl) (oneA (oneL one_u8 _) (oneL one_u8 _))) rfl rfl hb11 (by first | rfl | (simp only [List.length_append, List.length_map, List.length_cons, List.length_nil, (show List.length (List.replicate 32 (0 : UInt8)) = 32 from (List.length_replicate ..)), (show List.length (List.replicate 32 (0 : UInt8)) = 32 from (List.length_replicate ..)), (show List.length x12.u = 32 from hx12k), (show List.length x12.x = 32 from hx12v)]; done) | (simp only [List.length_append, List.length_map, List.length_cons, List.length_nil, List.size_toArray, (show List.length (List.replicate 32 (0 : UInt8)) = 32 from (List.length_replicate ..)), (show List.length (List.replicate 32 (0 : UInt8)) = 32 from (List.length_replicate ..)), (show List.length x12.u = 32 from hx12k), (show List.length x12.x = 32 from hx12v)]; done)) (fun w14 hb11 hc hsz => ?_))
        have hzw14 := hc.size
        have HC := HC.trans hc (fun _ _ h => h) (fun k hk ht => absurd ht (by omega))
        first | have hks := hks.ch hc (by intro k hk ht; first | omega | (dsimp only at *; omega)) | have hks := hks.chT hc (by intro k hz hk ht; first | omega | (dsimp only at *; omega))
        have hM23 := hM23.ch hc (by intro k hz hk ht; first | omega | (dsimp only at *; omega))
        have hW37 := hW37.ch hc (by intro k hz hk ht; first | omega | (dsimp only at *; omega))
        have hPS37 := hPS37.oth hc (t' := 49) (fun k hk ht => ⟨_, (by subst ht; assumption)⟩)
        first | have hrnd := hrnd.ch hc (by intro k hk ht; first | omega | (dsimp only at *; omega)) | have hrnd := hrnd.chT hc (by intro k hz hk ht; first | omega | (dsimp only at *; omega))
        refine wl_nil ?_
        refine x_seq ?_
        refine wc_seq ?_
        refine wc_draw (.st 0 1 (.st 2 0 (.st 3 0 (.st 4 0 (.st 5 0 (.st 6 1 (.st 1 2 (.st 7 2 (.st 8 2 (.st 9 0 .nil)))))))))) 10 (by kernel_rfl) (by kernel_rfl) (by kernel_rfl) (by repeat (first | with_reducible exact pan_body | with_reducible apply pan_then | with_reducible apply pan_in)) (fun x => Ch No w14.drew x) (Ch.refl _ _) ?_
        obtain ⟨w15, ew15⟩ : ∃ x, x = w14.drew := ⟨_, rfl⟩
        rw [← ew15]
        have hc : Ch No w14 w15 := by rw [ew15]; exact Ch.drew _
        have hszw15 : w15.heap.size = w14.heap.size := by rw [ew15]; rfl
        clear ew15
        have hzw15 := hc.size
        have HC := HC.tr hc
        have hks := hks.no hc
        have hM23 := hM23.no hc
        have hW37 := hW37.no hc
        have hPS37 := hPS37.no hc
        have hrnd := hrnd.no hc
        have hb11 := hb11.ch hc (fun h => h)
        have hS : Ch No w15 w15 := Ch.refl _ _
        refine ws_h rfl rfl rfl rfl (p_ldA (cs := (([.slice x12.A x12.l x12.c, .bool x12.lf] ++ ((List.map u8v x12.u) ++ (List.map u8v x12.x))) : List Value)) Tryd.underlying49 rfl (szL sz49 (by first | rfl | (simp only [List.length_append, List.length_map, List.length_cons, List.length_nil, (show List.length x12.u = 32 from hx12k), (show List.length x12.x = 32 from hx12v)]; done) | (simp only [List.length_append, List.length_map, List.length_cons, List.length_nil, List.size_toArray, (show List.length x12.u = 32 from hx12k), (show List.length x12.x = 32 from hx12v)]; done))) rfl (fun _ h => (rngL (hb11.ch h (fun h => h))))) ?_
        refine ws_p rfl rfl rfl rfl (p_mv rfl) ?_
        refine ws_p rfl rfl rfl rfl (p_mv rfl) ?_
        refine ws_p rfl rfl rfl rfl (p_mv rfl) ?_
        obtain ⟨b16, o16, hA16, hF16, hr16⟩ := (hks).opn (i := i) (d := zeroH) (by omega)
        have hok16 := (hks).okAt (i := i) (d := zeroH) (by omega)
        obtain ⟨x16, ex16⟩ : ∃ x, x = List.getD ks (i) zeroH := ⟨_, rfl⟩
        rw [← ex16] at hr16 hok16
        have hx16k : List.length x16 = 32 := hok16
        have hr16 : w15.rangeAt b16 (o16 + i * 32) ((List.map u8v x16) : List Value) := hr16
        refine ws_p rfl rfl rfl rfl (p_ixS (j := i * 32) Tryd.underlying23 sz38 rfl hA16 rfl (by omega) (by omega) (congrArg (· * 32) (Int.toNat_natCast _))) ?_
        refine ws_h rfl rfl rfl rfl (p_ldA (cs := ((List.map u8v x16) : List Value)) Tryd.underlying38 rfl (szL sz38 (by first | rfl | (simp only [List.length_append, List.length_map, List.length_cons, List.length_nil, (show List.length x16 = 32 from hx16k)]; done) | (simp only [List.length_append, List.length_map, List.length_cons, List.length_nil, List.size_toArray, (show List.length x16 = 32 from hx16k)]; done))) rfl (fun _ h => rng_no hr16 h)) ?_
        have hPi := hPS37 i (by omega)
        rw [← ex12] at hPi
        have hPl : x12.l ≤ szO o23 := by rw [← hPi.1.len]; exact way_lenO
        rw [← ex16] at hPi
        refine ws_e rfl rfl (e_call ent27 rfl rfl (mplain_any (hPi.1.si) (hx12k) (hx12v) (by omega)) ?_)
        rintro _ w17 ⟨A51, l51, c51, rfl, hW51, hc⟩
        refine ⟨_, rfl, hc, ?_⟩
        have hzw17 := hc.size
        have HC := HC.tr hc
        have hks := hks.no hc
        have hM23 := hM23.after hc
        have hW37 := hW37.after hc
        have hPS37 := hPS37.no hc
        have hrnd := hrnd.no hc
        have hb11 := hb11.ch hc (fun h => h)
        have hWl51 : l51 ≤ szO o23 := by rw [← hW51.len]; exact way_lenO
        have hW51 := hW51.mono (G := fun k => w15.heap.size ≤ k ∧ k < w17.heap.size) (fun k h1 h2 => ⟨h2, h1⟩)
        refine ws_narrow (S' := fun x => Ch No w17 x) (Ch.refl _ _) (fun x h => hc.tr h) ?_
        refine ws_e rfl rfl (e_call ent54 rfl rfl (rprove_any hM23.si hwf (hx16k) (by omega)) ?_)
        rintro _ w18 ⟨A57, l57, c57, lf57, u57, x57, rfl, hu57, hx57, hW57, hen57, hc⟩
        refine ⟨_, rfl, hc, ?_⟩
        have hzw18 := hc.size
        have HC := HC.tr hc
        have hks := hks.no hc
        have hM23 := hM23.after hc
        have hW37 := hW37.after hc
        have hPS37 := hPS37.no hc
        have hrnd := hrnd.no hc
        have hb11 := hb11.ch hc (fun h => h)
        have hW51 := hW51.after hc
        rw [← heo23] at hW57 hen57
        obtain ⟨hq1, hq2, hq3⟩ : x12.u = u57 ∧ x12.x = x57 ∧ x12.lf = lf57 := by have h := (hPi.2).trans hen57.symm; injection h with h1 h2; injection h2 with h2 h3; exact ⟨h1, h2, h3⟩
        subst hq1; subst hq2; subst hq3
        have hWl57 : l57 ≤ szO o23 := by rw [← hW57.len]; exact way_lenO
        have hW57 := hW57.mono (G := fun k => w17.heap.size ≤ k ∧ k < w18.heap.size) (fun k h1 h2 => ⟨h2, h1⟩)
        refine ws_narrow (S' := fun x => Ch No w18 x) (Ch.refl _ _) (fun x h => hc.tr h) ?_
        refine ws_e rfl rfl (e_call ent26 rfl rfl (rsame_same (hW51.si) (hW57.si) (hx12k) (hx12v) (by omega) (by omega)) ?_)
        rintro _ w19 ⟨rfl, hc⟩
        refine ⟨_, rfl, hc, ?_⟩
        have hzw19 := hc.size
        have HC := HC.tr hc
        have hks := hks.no hc
        have hM23 := hM23.after hc
        have hW37 := hW37.after hc
        have hPS37 := hPS37.no hc
        have hrnd := hrnd.no hc
        have hb11 := hb11.ch hc (fun h => h)
        have hW51 := hW51.after hc
        have hW57 := hW57.after hc
        refine ws_narrow (S' := fun x => Ch No w19 x) (Ch.refl _ _) (fun x h => hc.tr h) ?_
        refine ws_p rfl rfl rfl rfl (p_not rfl) ?_
        refine ws_n ?_
        refine x_seq ?_
        refine wc_no rfl (rfl) ?_
        refine wc_skip ?_
        refine x_in_normal ?_
        refine x_seq ?_
        refine wc_region ?_
        refine wl rfl rfl rfl (p_add rfl rfl (w64 (by omega))) ?_
        refine wl rfl rfl rfl (p_mv rfl) ?_
        refine wl_nil ?_
        refine x_round (e' := [(2, .slice Ak lk ck), (8, .slice A23 lm23 cm23), (9, .slice A37 lk c37), (43, .slice A37 lk c37), (44, i64 (lk : Int)), (45, i64 ((i + 1) : Int))]) ⟨rfl, rfl, rfl, rfl, rfl, rfl, trivial⟩ (by rw [hm0]; omega) ⟨i + 1, rfl, rfl, (by omega), hks, (hM23.mono (fun k _ h => by first | exact h | exact h.1 | exact h.1.1 | exact h.1.1.1 | exact h.1.1.1.1 | exact h.1.1.1.1.1 | exact h.1.1.1.1.1.1)), (hW37.mono (fun k _ h => by first | exact h | exact h.1 | exact h.1.1 | exact h.1.1.1 | exact h.1.1.1.1 | exact h.1.1.1.1.1 | exact h.1.1.1.1.1.1)), hPS37, hrnd, (by omega), HC⟩
      ·
        have c3 := of_decide_eq_false c3
        refine wc_exit ?_
        refine x_then_exit ?_
        refine x_then_exit ?_
        refine x_in_here ?_
        refine x_seq ?_
        refine wc_seq ?_
        refine wc_region ?_
        refine wle rfl (e_call ent29 rfl rfl (lives12_any hrnd) ?_)
        rintro _ w20 ⟨rfl, hc⟩
        refine ⟨_, rfl, ?_⟩
        have hzw20 := hc.size
        have HC := HC.tr hc
        have hks := hks.no hc
        have hM23 := hM23.after hc
        have hW37 := hW37.after hc
        have hPS37 := hPS37.no hc
        have hrnd := hrnd.no hc
        refine wl rfl rfl rfl (p_as rfl) ?_
        refine wl_nil ?_
        refine x_seq ?_
        refine wc_ret ?_
        refine fin_run ((res1 rfl rfl)) ?_
        exact ⟨rfl, HC⟩
end Go.Proofs.YtkfkdakghjlenaaDoor
