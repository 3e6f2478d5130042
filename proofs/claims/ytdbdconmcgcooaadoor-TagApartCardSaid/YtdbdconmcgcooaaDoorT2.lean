/-
  Own text, printed by a program of mine (wip/gx): what functions of the program do, walked operation by operation.
-/
import Derived.Test.YtdbdconmcgcooaaDoorProg
import Derived.Test.YtdbdconmcgcooaaDoorGxAgg
import Derived.Test.YtdbdconmcgcooaaDoorTab
import Derived.Test.YtdbdconmcgcooaaDoorPlPack
import Derived.Test.YtdbdconmcgcooaaDoorPlSum
import Derived.Test.YtdbdconmcgcooaaDoorPlSha
import Derived.Test.YtdbdconmcgcooaaDoorPlShaSt
import Derived.Test.YtdbdconmcgcooaaDoorPlShaB
import Derived.Test.YtdbdconmcgcooaaDoorPlTag
import Derived.Test.YtdbdconmcgcooaaDoorT1
set_option linter.unusedVariables false
namespace Go.Proofs.YtdbdconmcgcooaaDoor
open Go.RowKit Go.Gx
open Go.Plain
set_option maxHeartbeats 1000000 in
set_option maxRecDepth 20000 in
theorem tleaf_any {w : World} {Ab : Option Addr} {lb cb : Nat} {Fb : Nat → Prop} {b : List UInt8} (hb : Sl w Fb u8v Ab lb cb b) (hl : lb ≤ 1099511627000) (hrnd : Sl w (fun k => k = 1) u32v (some ⟨1, 0, none⟩) 64 64 rk) :
    Calls Tryd.prog 36 #[.slice Ab lb cb] w fun e w' => e = .returned (hv (leafH b)) ∧ Ch No w w' := by
  have hbl := hb.len
  have hn1 : 1 < w.heap.size := hrnd.size (by omega) rfl
  have hb := hb.old
  have HC : Ch No w w := Ch.refl _ _
  refine enter' (args := [.slice Ab lb cb]) (n := 6) Tryd.func36 rfl rfl rfl ?_
  refine wc_seq ?_
  refine wc_region ?_
  refine wle rfl (e_alloc (cs := ((List.replicate 32 (0 : UInt8)).map u8v).toArray) rfl (by rfl) rfl (fun w1 g2 hg2 hb2 hc hsz2 => ?_))
  have hzw1 := hc.size
  have HC := HC.tr hc
  have hb := hb.no hc
  have hrnd := hrnd.no hc
  have hge2 : w.heap.size ≤ g2 := by have := HC.size; omega
  refine wl_nil ?_
  refine x_seq ?_
  refine wc_seq ?_
  refine wc_region ?_
  refine wl rfl rfl rfl (p_mv rfl) ?_
  have hltg2 := hb2.lt
  refine wle rfl (e_bslV (E := 22) rfl rfl (fun _ => by kernel_rfl) (fun w2 g4 hg4 hb4 hc hsz4 => ?_))
  have hzw2 := hc.size
  have HC := HC.tr hc
  have hb := hb.no hc
  have hrnd := hrnd.no hc
  have hb2 := hb2.ch hc (fun h => h)
  have hge4 : w.heap.size ≤ g4 := by have := HC.size; omega
  have hQ4 := SB.lit1 hb4 (hb)
  refine wle rfl (e_call ent64 rfl rfl (tof_any (t := 0) (hQ4) (by omega) (by first | omega | (simp only [List.flatten_cons, List.flatten_nil, List.length_append, List.length_nil, List.length_cons]; omega)) hrnd) ?_)
  rintro _ w3 ⟨rfl, hc⟩
  refine ⟨_, rfl, ?_⟩
  have hzw3 := hc.size
  have HC := HC.tr hc
  have hb := hb.no hc
  have hrnd := hrnd.no hc
  have hb2 := hb2.ch hc (fun h => h)
  have hQ4 := hQ4.no hc
  refine wle rfl (e_stW (vs := List.map u8v (shaF _)) (szL sz25 (by rw [List.length_map]; exact shaF_len _)) (oneL one_u8 _) rfl rfl hb2 (by simp only [List.size_toArray, List.length_map]; first | done | exact ((List.length_replicate ..)).trans (shaF_len _).symm) (fun w4 hb2 hc hsz => ?_))
  have hzw4 := hc.size
  have HC := HC.trans hc (fun _ _ h => h) (fun k hk ht => absurd ht (by omega))
  first | have hb := hb.ch hc (by intro k hk ht; first | omega | (dsimp only at *; omega)) | have hb := hb.chT hc (by intro k hz hk ht; first | omega | (dsimp only at *; omega))
  first | have hrnd := hrnd.ch hc (by intro k hk ht; first | omega | (dsimp only at *; omega)) | have hrnd := hrnd.chT hc (by intro k hz hk ht; first | omega | (dsimp only at *; omega))
  refine wl_nil ?_
  refine x_seq ?_
  refine wc_ret ?_
  refine fin_run (resC (cs := List.map u8v (shaF _)) rfl rfl Tryd.underlying25 rfl (szL sz25 (by rw [List.length_map]; exact shaF_len _)) (rngL hb2)) ?_
  rw [leaf_of]; exact ⟨rfl, HC⟩

set_option maxHeartbeats 1000000 in
set_option maxRecDepth 20000 in
theorem tkey_any {w : World} {s : ByteArray} (hl : s.size ≤ 1099511627000) (hrnd : Sl w (fun k => k = 1) u32v (some ⟨1, 0, none⟩) 64 64 rk) :
    Calls Tryd.prog 37 #[.string s] w fun e w' => e = .returned (hv (keyH s.data.toList)) ∧ Ch No w w' := by
  have hsz : s.data.toList.length = s.size := Array.length_toList
  have hn1 : 1 < w.heap.size := hrnd.size (by omega) rfl
  have HC : Ch No w w := Ch.refl _ _
  refine enter' (args := [.string s]) (n := 7) Tryd.func37 rfl rfl rfl ?_
  refine wc_seq ?_
  refine wc_region ?_
  refine wle rfl (e_alloc (cs := ((List.replicate 32 (0 : UInt8)).map u8v).toArray) rfl (by rfl) rfl (fun w1 g2 hg2 hb2 hc hsz2 => ?_))
  have hzw1 := hc.size
  have HC := HC.tr hc
  have hrnd := hrnd.no hc
  have hge2 : w.heap.size ≤ g2 := by have := HC.size; omega
  refine wl_nil ?_
  refine x_seq ?_
  refine wc_seq ?_
  refine wc_region ?_
  refine wl rfl rfl rfl (p_mv rfl) ?_
  refine wle rfl (e_stb rfl Tryd.underlying9 Tryd.underlying22 Tryd.underlying5 rfl (fun w2 g4 c4 hg4 hS4 hc hsz4 => ?_))
  have hzw2 := hc.size
  have HC := HC.tr hc
  have hrnd := hrnd.no hc
  have hb2 := hb2.ch hc (fun h => h)
  have hltg2 := hb2.lt
  refine wle rfl (e_bslV (E := 22) rfl rfl (fun _ => by kernel_rfl) (fun w3 g5 hg5 hb5 hc hsz5 => ?_))
  have hzw3 := hc.size
  have HC := HC.tr hc
  have hrnd := hrnd.no hc
  have hb2 := hb2.ch hc (fun h => h)
  have hS4 := hS4.no hc
  have hge5 : w.heap.size ≤ g5 := by have := HC.size; omega
  have hQ5 := SB.lit1 hb5 (hS4)
  refine wle rfl (e_call ent64 rfl rfl (tof_any (t := 2) (hQ5) (by omega) (by first | omega | (simp only [List.flatten_cons, List.flatten_nil, List.length_append, List.length_nil, List.length_cons]; omega)) hrnd) ?_)
  rintro _ w4 ⟨rfl, hc⟩
  refine ⟨_, rfl, ?_⟩
  have hzw4 := hc.size
  have HC := HC.tr hc
  have hrnd := hrnd.no hc
  have hb2 := hb2.ch hc (fun h => h)
  have hS4 := hS4.no hc
  have hQ5 := hQ5.no hc
  refine wle rfl (e_stW (vs := List.map u8v (shaF _)) (szL sz25 (by rw [List.length_map]; exact shaF_len _)) (oneL one_u8 _) rfl rfl hb2 (by simp only [List.size_toArray, List.length_map]; first | done | exact ((List.length_replicate ..)).trans (shaF_len _).symm) (fun w5 hb2 hc hsz => ?_))
  have hzw5 := hc.size
  have HC := HC.trans hc (fun _ _ h => h) (fun k hk ht => absurd ht (by omega))
  first | have hrnd := hrnd.ch hc (by intro k hk ht; first | omega | (dsimp only at *; omega)) | have hrnd := hrnd.chT hc (by intro k hz hk ht; first | omega | (dsimp only at *; omega))
  first | have hS4 := hS4.ch hc (by intro k hk ht; first | omega | (dsimp only at *; omega)) | have hS4 := hS4.chT hc (by intro k hz hk ht; first | omega | (dsimp only at *; omega))
  refine wl_nil ?_
  refine x_seq ?_
  refine wc_ret ?_
  refine fin_run (resC (cs := List.map u8v (shaF _)) rfl rfl Tryd.underlying25 rfl (szL sz25 (by rw [List.length_map]; exact shaF_len _)) (rngL hb2)) ?_
  rw [key_of]; exact ⟨rfl, HC⟩

set_option maxHeartbeats 1000000 in
set_option maxRecDepth 20000 in
theorem tval_any {w : World} {s : ByteArray} (hl : s.size ≤ 1099511627000) (hrnd : Sl w (fun k => k = 1) u32v (some ⟨1, 0, none⟩) 64 64 rk) :
    Calls Tryd.prog 39 #[.string s] w fun e w' => e = .returned (hv (valH s.data.toList)) ∧ Ch No w w' := by
  have hsz : s.data.toList.length = s.size := Array.length_toList
  have hn1 : 1 < w.heap.size := hrnd.size (by omega) rfl
  have HC : Ch No w w := Ch.refl _ _
  refine enter' (args := [.string s]) (n := 7) Tryd.func39 rfl rfl rfl ?_
  refine wc_seq ?_
  refine wc_region ?_
  refine wle rfl (e_alloc (cs := ((List.replicate 32 (0 : UInt8)).map u8v).toArray) rfl (by rfl) rfl (fun w1 g2 hg2 hb2 hc hsz2 => ?_))
  have hzw1 := hc.size
  have HC := HC.tr hc
  have hrnd := hrnd.no hc
  have hge2 : w.heap.size ≤ g2 := by have := HC.size; omega
  refine wl_nil ?_
  refine x_seq ?_
  refine wc_seq ?_
  refine wc_region ?_
  refine wl rfl rfl rfl (p_mv rfl) ?_
  refine wle rfl (e_stb rfl Tryd.underlying9 Tryd.underlying22 Tryd.underlying5 rfl (fun w2 g4 c4 hg4 hS4 hc hsz4 => ?_))
  have hzw2 := hc.size
  have HC := HC.tr hc
  have hrnd := hrnd.no hc
  have hb2 := hb2.ch hc (fun h => h)
  have hltg2 := hb2.lt
  refine wle rfl (e_bslV (E := 22) rfl rfl (fun _ => by kernel_rfl) (fun w3 g5 hg5 hb5 hc hsz5 => ?_))
  have hzw3 := hc.size
  have HC := HC.tr hc
  have hrnd := hrnd.no hc
  have hb2 := hb2.ch hc (fun h => h)
  have hS4 := hS4.no hc
  have hge5 : w.heap.size ≤ g5 := by have := HC.size; omega
  have hQ5 := SB.lit1 hb5 (hS4)
  refine wle rfl (e_call ent64 rfl rfl (tof_any (t := 6) (hQ5) (by omega) (by first | omega | (simp only [List.flatten_cons, List.flatten_nil, List.length_append, List.length_nil, List.length_cons]; omega)) hrnd) ?_)
  rintro _ w4 ⟨rfl, hc⟩
  refine ⟨_, rfl, ?_⟩
  have hzw4 := hc.size
  have HC := HC.tr hc
  have hrnd := hrnd.no hc
  have hb2 := hb2.ch hc (fun h => h)
  have hS4 := hS4.no hc
  have hQ5 := hQ5.no hc
  refine wle rfl (e_stW (vs := List.map u8v (shaF _)) (szL sz25 (by rw [List.length_map]; exact shaF_len _)) (oneL one_u8 _) rfl rfl hb2 (by simp only [List.size_toArray, List.length_map]; first | done | exact ((List.length_replicate ..)).trans (shaF_len _).symm) (fun w5 hb2 hc hsz => ?_))
  have hzw5 := hc.size
  have HC := HC.trans hc (fun _ _ h => h) (fun k hk ht => absurd ht (by omega))
  first | have hrnd := hrnd.ch hc (by intro k hk ht; first | omega | (dsimp only at *; omega)) | have hrnd := hrnd.chT hc (by intro k hz hk ht; first | omega | (dsimp only at *; omega))
  first | have hS4 := hS4.ch hc (by intro k hk ht; first | omega | (dsimp only at *; omega)) | have hS4 := hS4.chT hc (by intro k hz hk ht; first | omega | (dsimp only at *; omega))
  refine wl_nil ?_
  refine x_seq ?_
  refine wc_ret ?_
  refine fin_run (resC (cs := List.map u8v (shaF _)) rfl rfl Tryd.underlying25 rfl (szL sz25 (by rw [List.length_map]; exact shaF_len _)) (rngL hb2)) ?_
  rw [val_of]; exact ⟨rfl, HC⟩

set_option maxHeartbeats 1000000 in
set_option maxRecDepth 20000 in
theorem tnode_any {w : World}  {a : List UInt8} {y : List UInt8} (ha : a.length = 32) (hy : y.length = 32) (hrnd : Sl w (fun k => k = 1) u32v (some ⟨1, 0, none⟩) 64 64 rk) :
    Calls Tryd.prog 28 #[hv a, hv y] w fun e w' => e = .returned (hv (nodeH a y)) ∧ Ch No w w' := by
  have hn1 : 1 < w.heap.size := hrnd.size (by omega) rfl
  have HC : Ch No w w := Ch.refl _ _
  refine enter' (args := [hv a, hv y]) (n := 9) Tryd.func28 rfl rfl rfl ?_
  refine wc_seq ?_
  refine wc_region ?_
  refine wle rfl (e_box (cs := (List.map u8v a).toArray) rfl rfl rfl (fun w1 g2 hg2 hb2 hc hsz2 => ?_))
  have hzw1 := hc.size
  have HC := HC.tr hc
  have hrnd := hrnd.no hc
  have hge2 : w.heap.size ≤ g2 := by have := HC.size; omega
  have hltg2 := hb2.lt
  refine wle rfl (e_box (cs := (List.map u8v y).toArray) rfl rfl rfl (fun w2 g3 hg3 hb3 hc hsz3 => ?_))
  have hzw2 := hc.size
  have HC := HC.tr hc
  have hrnd := hrnd.no hc
  have hb2 := hb2.ch hc (fun h => h)
  have hge3 : w.heap.size ≤ g3 := by have := HC.size; omega
  have neg2_3 : g2 < g3 := by omega
  have hltg2 := hb2.lt
  have hltg3 := hb3.lt
  refine wle rfl (e_alloc (cs := ((List.replicate 32 (0 : UInt8)).map u8v).toArray) rfl (by rfl) rfl (fun w3 g4 hg4 hb4 hc hsz4 => ?_))
  have hzw3 := hc.size
  have HC := HC.tr hc
  have hrnd := hrnd.no hc
  have hb2 := hb2.ch hc (fun h => h)
  have hb3 := hb3.ch hc (fun h => h)
  have hge4 : w.heap.size ≤ g4 := by have := HC.size; omega
  have neg2_4 : g2 < g4 := by omega
  have neg3_4 : g3 < g4 := by omega
  refine wl_nil ?_
  refine x_seq ?_
  refine wc_seq ?_
  refine wc_draw (.st 0 0 (.st 1 0 (.st 2 2 (.st 3 2 (.st 4 3 .nil))))) 4 (by kernel_rfl) (by kernel_rfl) (by kernel_rfl) (by repeat (first | with_reducible exact pan_body | with_reducible apply pan_then | with_reducible apply pan_in)) (fun x => Ch No w3.drew x) (Ch.refl _ _) ?_
  obtain ⟨w4, ew4⟩ : ∃ x, x = w3.drew := ⟨_, rfl⟩
  rw [← ew4]
  have hc : Ch No w3 w4 := by rw [ew4]; exact Ch.drew _
  have hszw4 : w4.heap.size = w3.heap.size := by rw [ew4]; rfl
  clear ew4
  have hzw4 := hc.size
  have HC := HC.tr hc
  have hrnd := hrnd.no hc
  have hb2 := hb2.ch hc (fun h => h)
  have hb3 := hb3.ch hc (fun h => h)
  have hb4 := hb4.ch hc (fun h => h)
  have hS : Ch No w4 w4 := Ch.refl _ _
  have hS5 := Sl.whole (L := a) hb2 (ha)
  refine ws_p rfl rfl rfl rfl (p_slW (N := 31) Tryd.underlying25 sz5 rfl) ?_
  have hS6 := Sl.whole (L := y) hb3 (hy)
  refine ws_p rfl rfl rfl rfl (p_slW (N := 31) Tryd.underlying25 sz5 rfl) ?_
  have hltg2 := hb2.lt
  have hltg3 := hb3.lt
  have hltg4 := hb4.lt
  refine ws_e rfl rfl (e_bslV (E := 22) rfl rfl (fun _ => by kernel_rfl) (fun w5 g7 hg7 hb7 hc hsz7 => ⟨hc, ?_⟩))
  have hzw5 := hc.size
  have HC := HC.tr hc
  have hrnd := hrnd.no hc
  have hb2 := hb2.ch hc (fun h => h)
  have hb3 := hb3.ch hc (fun h => h)
  have hb4 := hb4.ch hc (fun h => h)
  have hS5 := hS5.no hc
  have hS6 := hS6.no hc
  have hge7 : w.heap.size ≤ g7 := by have := HC.size; omega
  have hQ7 := SB.lit2 hb7 (hS5) (hS6)
  refine ws_narrow (S' := fun x => Ch No w5 x) (Ch.refl _ _) (fun x h => hc.tr h) ?_
  refine ws_e rfl rfl (e_call ent64 rfl rfl (tof_any (t := 1) (hQ7) (by omega) (by first | omega | (simp only [List.flatten_cons, List.flatten_nil, List.length_append, List.length_nil, List.length_cons]; omega)) hrnd) ?_)
  rintro _ w6 ⟨rfl, hc⟩
  refine ⟨_, rfl, hc, ?_⟩
  have hzw6 := hc.size
  have HC := HC.tr hc
  have hrnd := hrnd.no hc
  have hb2 := hb2.ch hc (fun h => h)
  have hb3 := hb3.ch hc (fun h => h)
  have hb4 := hb4.ch hc (fun h => h)
  have hS5 := hS5.no hc
  have hS6 := hS6.no hc
  have hQ7 := hQ7.no hc
  refine ws_narrow (S' := fun x => Ch No w6 x) (Ch.refl _ _) (fun x h => hc.tr h) ?_
  refine ws_l rfl rfl (e_stW (vs := List.map u8v (shaF _)) (szL sz25 (by rw [List.length_map]; exact shaF_len _)) (oneL one_u8 _) rfl rfl hb4 (by simp only [List.size_toArray, List.length_map]; first | done | exact ((List.length_replicate ..)).trans (shaF_len _).symm) (fun w7 hb4 hc hsz => ?_))
  have hzw7 := hc.size
  have HC := HC.trans hc (fun _ _ h => h) (fun k hk ht => absurd ht (by omega))
  first | have hrnd := hrnd.ch hc (by intro k hk ht; first | omega | (dsimp only at *; omega)) | have hrnd := hrnd.chT hc (by intro k hz hk ht; first | omega | (dsimp only at *; omega))
  have hb2 := hb2.ch hc (by omega)
  have hb3 := hb3.ch hc (by omega)
  first | have hS5 := hS5.ch hc (by intro k hk ht; first | omega | (dsimp only at *; omega)) | have hS5 := hS5.chT hc (by intro k hz hk ht; first | omega | (dsimp only at *; omega))
  first | have hS6 := hS6.ch hc (by intro k hk ht; first | omega | (dsimp only at *; omega)) | have hS6 := hS6.chT hc (by intro k hz hk ht; first | omega | (dsimp only at *; omega))
  refine ws_n ?_
  refine x_seq ?_
  refine wc_ret ?_
  refine fin_run (resC (cs := List.map u8v (shaF _)) rfl rfl Tryd.underlying25 rfl (szL sz25 (by rw [List.length_map]; exact shaF_len _)) (rngL hb4)) ?_
  rw [node_of]; exact ⟨rfl, HC⟩

set_option maxHeartbeats 1000000 in
set_option maxRecDepth 20000 in
theorem titem_any {w : World}  {a : List UInt8} {y : List UInt8} (ha : a.length = 32) (hy : y.length = 32) (hrnd : Sl w (fun k => k = 1) u32v (some ⟨1, 0, none⟩) 64 64 rk) :
    Calls Tryd.prog 38 #[hv a, hv y] w fun e w' => e = .returned (hv (itemH a y)) ∧ Ch No w w' := by
  have hn1 : 1 < w.heap.size := hrnd.size (by omega) rfl
  have HC : Ch No w w := Ch.refl _ _
  refine enter' (args := [hv a, hv y]) (n := 9) Tryd.func38 rfl rfl rfl ?_
  refine wc_seq ?_
  refine wc_region ?_
  refine wle rfl (e_box (cs := (List.map u8v a).toArray) rfl rfl rfl (fun w1 g2 hg2 hb2 hc hsz2 => ?_))
  have hzw1 := hc.size
  have HC := HC.tr hc
  have hrnd := hrnd.no hc
  have hge2 : w.heap.size ≤ g2 := by have := HC.size; omega
  have hltg2 := hb2.lt
  refine wle rfl (e_box (cs := (List.map u8v y).toArray) rfl rfl rfl (fun w2 g3 hg3 hb3 hc hsz3 => ?_))
  have hzw2 := hc.size
  have HC := HC.tr hc
  have hrnd := hrnd.no hc
  have hb2 := hb2.ch hc (fun h => h)
  have hge3 : w.heap.size ≤ g3 := by have := HC.size; omega
  have neg2_3 : g2 < g3 := by omega
  have hltg2 := hb2.lt
  have hltg3 := hb3.lt
  refine wle rfl (e_alloc (cs := ((List.replicate 32 (0 : UInt8)).map u8v).toArray) rfl (by rfl) rfl (fun w3 g4 hg4 hb4 hc hsz4 => ?_))
  have hzw3 := hc.size
  have HC := HC.tr hc
  have hrnd := hrnd.no hc
  have hb2 := hb2.ch hc (fun h => h)
  have hb3 := hb3.ch hc (fun h => h)
  have hge4 : w.heap.size ≤ g4 := by have := HC.size; omega
  have neg2_4 : g2 < g4 := by omega
  have neg3_4 : g3 < g4 := by omega
  refine wl_nil ?_
  refine x_seq ?_
  refine wc_seq ?_
  refine wc_draw (.st 0 0 (.st 1 0 (.st 2 2 (.st 3 2 (.st 4 3 .nil))))) 4 (by kernel_rfl) (by kernel_rfl) (by kernel_rfl) (by repeat (first | with_reducible exact pan_body | with_reducible apply pan_then | with_reducible apply pan_in)) (fun x => Ch No w3.drew x) (Ch.refl _ _) ?_
  obtain ⟨w4, ew4⟩ : ∃ x, x = w3.drew := ⟨_, rfl⟩
  rw [← ew4]
  have hc : Ch No w3 w4 := by rw [ew4]; exact Ch.drew _
  have hszw4 : w4.heap.size = w3.heap.size := by rw [ew4]; rfl
  clear ew4
  have hzw4 := hc.size
  have HC := HC.tr hc
  have hrnd := hrnd.no hc
  have hb2 := hb2.ch hc (fun h => h)
  have hb3 := hb3.ch hc (fun h => h)
  have hb4 := hb4.ch hc (fun h => h)
  have hS : Ch No w4 w4 := Ch.refl _ _
  have hS5 := Sl.whole (L := a) hb2 (ha)
  refine ws_p rfl rfl rfl rfl (p_slW (N := 31) Tryd.underlying25 sz5 rfl) ?_
  have hS6 := Sl.whole (L := y) hb3 (hy)
  refine ws_p rfl rfl rfl rfl (p_slW (N := 31) Tryd.underlying25 sz5 rfl) ?_
  have hltg2 := hb2.lt
  have hltg3 := hb3.lt
  have hltg4 := hb4.lt
  refine ws_e rfl rfl (e_bslV (E := 22) rfl rfl (fun _ => by kernel_rfl) (fun w5 g7 hg7 hb7 hc hsz7 => ⟨hc, ?_⟩))
  have hzw5 := hc.size
  have HC := HC.tr hc
  have hrnd := hrnd.no hc
  have hb2 := hb2.ch hc (fun h => h)
  have hb3 := hb3.ch hc (fun h => h)
  have hb4 := hb4.ch hc (fun h => h)
  have hS5 := hS5.no hc
  have hS6 := hS6.no hc
  have hge7 : w.heap.size ≤ g7 := by have := HC.size; omega
  have hQ7 := SB.lit2 hb7 (hS5) (hS6)
  refine ws_narrow (S' := fun x => Ch No w5 x) (Ch.refl _ _) (fun x h => hc.tr h) ?_
  refine ws_e rfl rfl (e_call ent64 rfl rfl (tof_any (t := 3) (hQ7) (by omega) (by first | omega | (simp only [List.flatten_cons, List.flatten_nil, List.length_append, List.length_nil, List.length_cons]; omega)) hrnd) ?_)
  rintro _ w6 ⟨rfl, hc⟩
  refine ⟨_, rfl, hc, ?_⟩
  have hzw6 := hc.size
  have HC := HC.tr hc
  have hrnd := hrnd.no hc
  have hb2 := hb2.ch hc (fun h => h)
  have hb3 := hb3.ch hc (fun h => h)
  have hb4 := hb4.ch hc (fun h => h)
  have hS5 := hS5.no hc
  have hS6 := hS6.no hc
  have hQ7 := hQ7.no hc
  refine ws_narrow (S' := fun x => Ch No w6 x) (Ch.refl _ _) (fun x h => hc.tr h) ?_
  refine ws_l rfl rfl (e_stW (vs := List.map u8v (shaF _)) (szL sz25 (by rw [List.length_map]; exact shaF_len _)) (oneL one_u8 _) rfl rfl hb4 (by simp only [List.size_toArray, List.length_map]; first | done | exact ((List.length_replicate ..)).trans (shaF_len _).symm) (fun w7 hb4 hc hsz => ?_))
  have hzw7 := hc.size
  have HC := HC.trans hc (fun _ _ h => h) (fun k hk ht => absurd ht (by omega))
  first | have hrnd := hrnd.ch hc (by intro k hk ht; first | omega | (dsimp only at *; omega)) | have hrnd := hrnd.chT hc (by intro k hz hk ht; first | omega | (dsimp only at *; omega))
  have hb2 := hb2.ch hc (by omega)
  have hb3 := hb3.ch hc (by omega)
  first | have hS5 := hS5.ch hc (by intro k hk ht; first | omega | (dsimp only at *; omega)) | have hS5 := hS5.chT hc (by intro k hz hk ht; first | omega | (dsimp only at *; omega))
  first | have hS6 := hS6.ch hc (by intro k hk ht; first | omega | (dsimp only at *; omega)) | have hS6 := hS6.chT hc (by intro k hz hk ht; first | omega | (dsimp only at *; omega))
  refine ws_n ?_
  refine x_seq ?_
  refine wc_ret ?_
  refine fin_run (resC (cs := List.map u8v (shaF _)) rfl rfl Tryd.underlying25 rfl (szL sz25 (by rw [List.length_map]; exact shaF_len _)) (rngL hb4)) ?_
  rw [item_of]; exact ⟨rfl, HC⟩

set_option maxHeartbeats 1000000 in
set_option maxRecDepth 20000 in
theorem tfork_any {w : World} {x : Int} {a : List UInt8} {y : List UInt8} (ha : a.length = 32) (hy : y.length = 32) (hrnd : Sl w (fun k => k = 1) u32v (some ⟨1, 0, none⟩) 64 64 rk) :
    Calls Tryd.prog 29 #[i64 x, hv a, hv y] w fun e w' => e = .returned (hv (forkH (b8i x) a y)) ∧ Ch No w w' := by
  have hn1 : 1 < w.heap.size := hrnd.size (by omega) rfl
  have HC : Ch No w w := Ch.refl _ _
  refine enter' (args := [i64 x, hv a, hv y]) (n := 14) Tryd.func29 rfl rfl rfl ?_
  refine wc_seq ?_
  refine wc_region ?_
  refine wle rfl (e_box (cs := (List.map u8v a).toArray) rfl rfl rfl (fun w1 g4 hg4 hb4 hc hsz4 => ?_))
  have hzw1 := hc.size
  have HC := HC.tr hc
  have hrnd := hrnd.no hc
  have hge4 : w.heap.size ≤ g4 := by have := HC.size; omega
  have hltg4 := hb4.lt
  refine wle rfl (e_box (cs := (List.map u8v y).toArray) rfl rfl rfl (fun w2 g5 hg5 hb5 hc hsz5 => ?_))
  have hzw2 := hc.size
  have HC := HC.tr hc
  have hrnd := hrnd.no hc
  have hb4 := hb4.ch hc (fun h => h)
  have hge5 : w.heap.size ≤ g5 := by have := HC.size; omega
  have neg4_5 : g4 < g5 := by omega
  have hltg4 := hb4.lt
  have hltg5 := hb5.lt
  refine wle rfl (e_alloc (cs := ((List.replicate 32 (0 : UInt8)).map u8v).toArray) rfl (by rfl) rfl (fun w3 g6 hg6 hb6 hc hsz6 => ?_))
  have hzw3 := hc.size
  have HC := HC.tr hc
  have hrnd := hrnd.no hc
  have hb4 := hb4.ch hc (fun h => h)
  have hb5 := hb5.ch hc (fun h => h)
  have hge6 : w.heap.size ≤ g6 := by have := HC.size; omega
  have neg4_6 : g4 < g6 := by omega
  have neg5_6 : g5 < g6 := by omega
  refine wl_nil ?_
  refine x_seq ?_
  refine wc_seq ?_
  refine wc_draw (.st 0 0 (.st 1 0 (.st 3 0 (.st 4 0 (.st 2 2 (.st 5 2 (.st 6 2 (.st 7 3 .nil)))))))) 7 (by kernel_rfl) (by kernel_rfl) (by kernel_rfl) (by repeat (first | with_reducible exact pan_body | with_reducible apply pan_then | with_reducible apply pan_in)) (fun x => Ch No w3.drew x) (Ch.refl _ _) ?_
  obtain ⟨w4, ew4⟩ : ∃ x, x = w3.drew := ⟨_, rfl⟩
  rw [← ew4]
  have hc : Ch No w3 w4 := by rw [ew4]; exact Ch.drew _
  have hszw4 : w4.heap.size = w3.heap.size := by rw [ew4]; rfl
  clear ew4
  have hzw4 := hc.size
  have HC := HC.tr hc
  have hrnd := hrnd.no hc
  have hb4 := hb4.ch hc (fun h => h)
  have hb5 := hb5.ch hc (fun h => h)
  have hb6 := hb6.ch hc (fun h => h)
  have hS : Ch No w4 w4 := Ch.refl _ _
  refine ws_p rfl rfl rfl rfl (p_mv rfl) ?_
  refine ws_p rfl rfl rfl rfl (p_conv Tryd.underlying3 Tryd.underlying5 rfl (wrap_b8i _)) ?_
  have hS10 := Sl.whole (L := a) hb4 (ha)
  refine ws_p rfl rfl rfl rfl (p_slW (N := 31) Tryd.underlying25 sz5 rfl) ?_
  have hS11 := Sl.whole (L := y) hb5 (hy)
  refine ws_p rfl rfl rfl rfl (p_slW (N := 31) Tryd.underlying25 sz5 rfl) ?_
  have hltg4 := hb4.lt
  have hltg5 := hb5.lt
  have hltg6 := hb6.lt
  refine ws_e rfl rfl (e_bslV (E := 5) rfl rfl (fun _ => by kernel_rfl) (fun w5 g9 hg9 hb9 hc hsz9 => ⟨hc, ?_⟩))
  have hzw5 := hc.size
  have HC := HC.tr hc
  have hrnd := hrnd.no hc
  have hb4 := hb4.ch hc (fun h => h)
  have hb5 := hb5.ch hc (fun h => h)
  have hb6 := hb6.ch hc (fun h => h)
  have hS10 := hS10.no hc
  have hS11 := hS11.no hc
  have hge9 : w.heap.size ≤ g9 := by have := HC.size; omega
  have hS9 := Sl.lit1 (f := u8v) hb9
  refine ws_narrow (S' := fun x => Ch No w5 x) (Ch.refl _ _) (fun x h => hc.tr h) ?_
  have hltg4 := hb4.lt
  have hltg5 := hb5.lt
  have hltg6 := hb6.lt
  refine ws_e rfl rfl (e_bslV (E := 22) rfl rfl (fun _ => by kernel_rfl) (fun w6 g12 hg12 hb12 hc hsz12 => ⟨hc, ?_⟩))
  have hzw6 := hc.size
  have HC := HC.tr hc
  have hrnd := hrnd.no hc
  have hb4 := hb4.ch hc (fun h => h)
  have hb5 := hb5.ch hc (fun h => h)
  have hb6 := hb6.ch hc (fun h => h)
  have hS10 := hS10.no hc
  have hS11 := hS11.no hc
  have hS9 := hS9.no hc
  have hge12 : w.heap.size ≤ g12 := by have := HC.size; omega
  have hQ12 := SB.lit3 hb12 (hS9) (hS10) (hS11)
  refine ws_narrow (S' := fun x => Ch No w6 x) (Ch.refl _ _) (fun x h => hc.tr h) ?_
  refine ws_e rfl rfl (e_call ent64 rfl rfl (tof_any (t := 4) (hQ12) (by omega) (by first | omega | (simp only [List.flatten_cons, List.flatten_nil, List.length_append, List.length_nil, List.length_cons]; omega)) hrnd) ?_)
  rintro _ w7 ⟨rfl, hc⟩
  refine ⟨_, rfl, hc, ?_⟩
  have hzw7 := hc.size
  have HC := HC.tr hc
  have hrnd := hrnd.no hc
  have hb4 := hb4.ch hc (fun h => h)
  have hb5 := hb5.ch hc (fun h => h)
  have hb6 := hb6.ch hc (fun h => h)
  have hS10 := hS10.no hc
  have hS11 := hS11.no hc
  have hS9 := hS9.no hc
  have hQ12 := hQ12.no hc
  refine ws_narrow (S' := fun x => Ch No w7 x) (Ch.refl _ _) (fun x h => hc.tr h) ?_
  refine ws_l rfl rfl (e_stW (vs := List.map u8v (shaF _)) (szL sz25 (by rw [List.length_map]; exact shaF_len _)) (oneL one_u8 _) rfl rfl hb6 (by simp only [List.size_toArray, List.length_map]; first | done | exact ((List.length_replicate ..)).trans (shaF_len _).symm) (fun w8 hb6 hc hsz => ?_))
  have hzw8 := hc.size
  have HC := HC.trans hc (fun _ _ h => h) (fun k hk ht => absurd ht (by omega))
  first | have hrnd := hrnd.ch hc (by intro k hk ht; first | omega | (dsimp only at *; omega)) | have hrnd := hrnd.chT hc (by intro k hz hk ht; first | omega | (dsimp only at *; omega))
  have hb4 := hb4.ch hc (by omega)
  have hb5 := hb5.ch hc (by omega)
  first | have hS10 := hS10.ch hc (by intro k hk ht; first | omega | (dsimp only at *; omega)) | have hS10 := hS10.chT hc (by intro k hz hk ht; first | omega | (dsimp only at *; omega))
  first | have hS11 := hS11.ch hc (by intro k hk ht; first | omega | (dsimp only at *; omega)) | have hS11 := hS11.chT hc (by intro k hz hk ht; first | omega | (dsimp only at *; omega))
  first | have hS9 := hS9.ch hc (by intro k hk ht; first | omega | (dsimp only at *; omega)) | have hS9 := hS9.chT hc (by intro k hz hk ht; first | omega | (dsimp only at *; omega))
  refine ws_n ?_
  refine x_seq ?_
  refine wc_ret ?_
  refine fin_run (resC (cs := List.map u8v (shaF _)) rfl rfl Tryd.underlying25 rfl (szL sz25 (by rw [List.length_map]; exact shaF_len _)) (rngL hb6)) ?_
  rw [fork_of]; exact ⟨rfl, HC⟩

set_option maxHeartbeats 1000000 in
set_option maxRecDepth 20000 in
theorem tnone_any {w : World}  (hrnd : Sl w (fun k => k = 1) u32v (some ⟨1, 0, none⟩) 64 64 rk) :
    Calls Tryd.prog 30 #[] w fun e w' => e = .returned (hv (noneH)) ∧ Ch No w w' := by
  have hn1 : 1 < w.heap.size := hrnd.size (by omega) rfl
  have HC : Ch No w w := Ch.refl _ _
  refine enter' (args := []) (n := 2) Tryd.func30 rfl rfl rfl ?_
  refine wc_seq ?_
  refine wc_region ?_
  refine wle rfl (e_alloc (cs := ((List.replicate 32 (0 : UInt8)).map u8v).toArray) rfl (by rfl) rfl (fun w1 g0 hg0 hb0 hc hsz0 => ?_))
  have hzw1 := hc.size
  have HC := HC.tr hc
  have hrnd := hrnd.no hc
  have hge0 : w.heap.size ≤ g0 := by have := HC.size; omega
  refine wl_nil ?_
  refine x_seq ?_
  refine wc_seq ?_
  refine wc_region ?_
  refine wle rfl (e_call ent64 rfl rfl (tof_any (t := 5) (SB.nil (F := No)) (by omega) (by first | omega | (simp only [List.flatten_cons, List.flatten_nil, List.length_append, List.length_nil, List.length_cons]; omega)) hrnd) ?_)
  rintro _ w2 ⟨rfl, hc⟩
  refine ⟨_, rfl, ?_⟩
  have hzw2 := hc.size
  have HC := HC.tr hc
  have hrnd := hrnd.no hc
  have hb0 := hb0.ch hc (fun h => h)
  refine wle rfl (e_stW (vs := List.map u8v (shaF _)) (szL sz25 (by rw [List.length_map]; exact shaF_len _)) (oneL one_u8 _) rfl rfl hb0 (by simp only [List.size_toArray, List.length_map]; first | done | exact ((List.length_replicate ..)).trans (shaF_len _).symm) (fun w3 hb0 hc hsz => ?_))
  have hzw3 := hc.size
  have HC := HC.trans hc (fun _ _ h => h) (fun k hk ht => absurd ht (by omega))
  first | have hrnd := hrnd.ch hc (by intro k hk ht; first | omega | (dsimp only at *; omega)) | have hrnd := hrnd.chT hc (by intro k hz hk ht; first | omega | (dsimp only at *; omega))
  refine wl_nil ?_
  refine x_seq ?_
  refine wc_ret ?_
  refine fin_run (resC (cs := List.map u8v (shaF _)) rfl rfl Tryd.underlying25 rfl (szL sz25 (by rw [List.length_map]; exact shaF_len _)) (rngL hb0)) ?_
  rw [none_of_]; exact ⟨rfl, HC⟩

set_option maxHeartbeats 1000000 in
set_option maxRecDepth 20000 in
theorem tempty_any {w : World}  (hrnd : Sl w (fun k => k = 1) u32v (some ⟨1, 0, none⟩) 64 64 rk) :
    Calls Tryd.prog 31 #[] w fun e w' => e = .returned (hv (emptyH)) ∧ Ch No w w' := by
  have hn1 : 1 < w.heap.size := hrnd.size (by omega) rfl
  have HC : Ch No w w := Ch.refl _ _
  refine enter' (args := []) (n := 2) Tryd.func31 rfl rfl rfl ?_
  refine wc_seq ?_
  refine wc_region ?_
  refine wle rfl (e_alloc (cs := ((List.replicate 32 (0 : UInt8)).map u8v).toArray) rfl (by rfl) rfl (fun w1 g0 hg0 hb0 hc hsz0 => ?_))
  have hzw1 := hc.size
  have HC := HC.tr hc
  have hrnd := hrnd.no hc
  have hge0 : w.heap.size ≤ g0 := by have := HC.size; omega
  refine wl_nil ?_
  refine x_seq ?_
  refine wc_seq ?_
  refine wc_region ?_
  refine wle rfl (e_call ent19 rfl rfl (sum_any (Sl.nil (F := No)) (by omega) hrnd) ?_)
  rintro _ w2 ⟨rfl, hc⟩
  refine ⟨_, rfl, ?_⟩
  have hzw2 := hc.size
  have HC := HC.tr hc
  have hrnd := hrnd.no hc
  have hb0 := hb0.ch hc (fun h => h)
  refine wle rfl (e_stW (vs := List.map u8v (shaF _)) (szL sz25 (by rw [List.length_map]; exact shaF_len _)) (oneL one_u8 _) rfl rfl hb0 (by simp only [List.size_toArray, List.length_map]; first | done | exact ((List.length_replicate ..)).trans (shaF_len _).symm) (fun w3 hb0 hc hsz => ?_))
  have hzw3 := hc.size
  have HC := HC.trans hc (fun _ _ h => h) (fun k hk ht => absurd ht (by omega))
  first | have hrnd := hrnd.ch hc (by intro k hk ht; first | omega | (dsimp only at *; omega)) | have hrnd := hrnd.chT hc (by intro k hz hk ht; first | omega | (dsimp only at *; omega))
  refine wl_nil ?_
  refine x_seq ?_
  refine wc_ret ?_
  refine fin_run (resC (cs := List.map u8v (shaF _)) rfl rfl Tryd.underlying25 rfl (szL sz25 (by rw [List.length_map]; exact shaF_len _)) (rngL hb0)) ?_
  exact ⟨rfl, HC⟩
end Go.Proofs.YtdbdconmcgcooaaDoor
