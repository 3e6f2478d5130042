/-
  Own text, printed by a program of mine (wip/gx): what functions of the program do, walked operation by operation.
-/
import Derived.Test.YtdbdconmcgcooaaDoorProg
import Derived.Test.YtdbdconmcgcooaaDoorGxAgg
import Derived.Test.YtdbdconmcgcooaaDoorTab
import Derived.Test.YtdbdconmcgcooaaDoorPlPack
import Derived.Test.YtdbdconmcgcooaaDoorPlSum
import Derived.Test.YtdbdconmcgcooaaDoorPlSha
import Derived.Test.YtdbdconmcgcooaaDoorPlShaSt
import Derived.Test.YtdbdconmcgcooaaDoorPlShaB
import Derived.Test.YtdbdconmcgcooaaDoorSX
set_option linter.unusedVariables false
namespace Go.Proofs.YtdbdconmcgcooaaDoor
open Go.RowKit Go.Gx
open Go.Plain
set_option maxHeartbeats 1000000 in
set_option maxRecDepth 20000 in
theorem lives3_any {w : World}  (hrnd : Sl w (fun k => k = 1) u32v (some ⟨1, 0, none⟩) 64 64 rk) :
    Calls Tryd.prog 18 #[] w fun e w' => e = .returned (.bool true) ∧ Ch No w w' := by
  have hn1 : 1 < w.heap.size := hrnd.size (by omega) rfl
  have HC : Ch No w w := Ch.refl _ _
  refine enter' (args := []) (n := 6) Tryd.func18 rfl rfl rfl ?_
  refine wc_seq ?_
  refine wc_region ?_
  refine wl rfl rfl rfl (p_as rfl) ?_
  refine wl_nil ?_
  refine x_seq ?_
  refine wc_seq ?_
  refine wc_region ?_
  refine wle rfl (e_bslV (E := 5) rfl rfl (fun _ => by kernel_rfl) (fun w1 g1 hg1 hb1 hc hsz1 => ?_))
  have hzw1 := hc.size
  have HC := HC.tr hc
  have hrnd := hrnd.no hc
  have hge1 : w.heap.size ≤ g1 := by have := HC.size; omega
  have hS1 := Sl.lit3 (f := u8v) (x := 97) (y := 98) (z := 99) hb1
  refine wle rfl (e_mark (xs := [97, 98, 99]) rfl Tryd.underlying22 Tryd.underlying5 rfl hb1 rfl rfl (by omega) (fun w2 hS1 hc hsz => ?_))
  have hzw2 := hc.size
  have HC := HC.trans hc (fun _ _ h => h) (fun k hk ht => absurd ht (by omega))
  first | have hrnd := hrnd.ch hc (by intro k hk ht; first | omega | (dsimp only at *; omega)) | have hrnd := hrnd.chT hc (by intro k hz hk ht; first | omega | (dsimp only at *; omega))
  refine wle rfl (e_call ent19 rfl rfl (sum_any (hS1) (by omega) hrnd) ?_)
  rintro _ w3 ⟨rfl, hc⟩
  refine ⟨_, rfl, ?_⟩
  have hzw3 := hc.size
  have HC := HC.tr hc
  have hrnd := hrnd.no hc
  have hS1 := hS1.no hc
  refine wle rfl (e_call ent50 rfl rfl (hex_any (shaF_len _)) ?_)
  rintro _ w4 ⟨rfl, hc⟩
  refine ⟨_, rfl, ?_⟩
  have hzw4 := hc.size
  have HC := HC.tr hc
  have hrnd := hrnd.no hc
  have hS1 := hS1.no hc
  refine wl rfl rfl rfl (p_eqT rfl rfl) ?_
  refine wl rfl rfl rfl (p_as rfl) ?_
  refine wl_nil ?_
  refine x_seq ?_
  refine wc_ret ?_
  refine fin_run (res1 rfl rfl) ?_
  rw [lives_hex]
  exact ⟨rfl, HC⟩

set_option maxHeartbeats 1000000 in
set_option maxRecDepth 20000 in
theorem none3_any {w : World}   :
    Calls Tryd.prog 52 #[] w fun e w' => e = .returned (hv (List.replicate 32 0)) ∧ Ch No w w' := by
  have HC : Ch No w w := Ch.refl _ _
  refine enter' (args := []) (n := 2) Tryd.func52 rfl rfl rfl ?_
  refine wc_seq ?_
  refine wc_region ?_
  refine wle rfl (e_alloc (cs := ((List.replicate 32 (0 : UInt8)).map u8v).toArray) rfl (by rfl) rfl (fun w1 g0 hg0 hb0 hc hsz0 => ?_))
  have hzw1 := hc.size
  have HC := HC.tr hc
  have hge0 : w.heap.size ≤ g0 := by have := HC.size; omega
  refine wl_nil ?_
  refine x_seq ?_
  refine wc_seq ?_
  refine wc_region ?_
  refine wl rfl rfl rfl (p_bldP (cs := ((List.replicate 32 (0 : UInt8)).map u8v).toArray) rfl (fun _ => by kernel_rfl)) ?_
  refine wle rfl (e_stW (vs := List.map u8v (List.replicate 32 (0 : UInt8))) (szL sz25 (by rw [List.length_map]; exact (List.length_replicate ..))) (oneL one_u8 _) rfl rfl hb0 (by simp only [List.size_toArray, List.length_map]; first | done | exact ((List.length_replicate ..)).trans ((List.length_replicate ..)).symm) (fun w2 hb0 hc hsz => ?_))
  have hzw2 := hc.size
  have HC := HC.trans hc (fun _ _ h => h) (fun k hk ht => absurd ht (by omega))
  refine wl_nil ?_
  refine x_seq ?_
  refine wc_ret ?_
  refine fin_run (resC (cs := List.map u8v (List.replicate 32 (0 : UInt8))) rfl rfl Tryd.underlying25 rfl (szL sz25 (by rw [List.length_map]; exact (List.length_replicate ..))) (rngL hb0)) ?_
  exact ⟨rfl, HC⟩
end Go.Proofs.YtdbdconmcgcooaaDoor
