/-
  Own text, printed by a program of mine (wip/gx): what functions of the program do, walked operation by operation.
-/
import Derived.Test.YtdbdconmcgcooaaDoorProg
import Derived.Test.YtdbdconmcgcooaaDoorGxAgg
import Derived.Test.YtdbdconmcgcooaaDoorTab
import Derived.Test.YtdbdconmcgcooaaDoorPlPack
import Derived.Test.YtdbdconmcgcooaaDoorPlSum
import Derived.Test.YtdbdconmcgcooaaDoorPlSha
import Derived.Test.YtdbdconmcgcooaaDoorPlShaSt
import Derived.Test.YtdbdconmcgcooaaDoorPlShaB
import Derived.Test.YtdbdconmcgcooaaDoorPlTag
import Derived.Test.YtdbdconmcgcooaaDoorGxTwo
import Derived.Test.YtdbdconmcgcooaaDoorTX
set_option linter.unusedVariables false
namespace Go.Proofs.YtdbdconmcgcooaaDoor
open Go.RowKit Go.Gx
open Go.Plain
set_option maxHeartbeats 1000000 in
set_option maxRecDepth 20000 in
theorem lives4_any {w : World}  (hrnd : Sl w (fun k => k = 1) u32v (some ⟨1, 0, none⟩) 64 64 rk) :
    Calls Tryd.prog 25 #[] w fun e w' => e = .returned (.bool true) ∧ Ch No w w' := by
  have hn1 : 1 < w.heap.size := hrnd.size (by omega) rfl
  have HC : Ch No w w := Ch.refl _ _
  refine enter' (args := []) (n := 5) Tryd.func25 rfl rfl rfl ?_
  refine wc_seq ?_
  refine wc_region ?_
  refine wl rfl rfl rfl (p_as rfl) ?_
  refine wl_nil ?_
  refine x_seq ?_
  refine wc_seq ?_
  refine wc_region ?_
  refine wle rfl (e_call ent36 rfl rfl (tleaf_any (Sl.nil (F := No)) (by omega) hrnd) ?_)
  rintro _ w1 ⟨rfl, hc⟩
  refine ⟨_, rfl, ?_⟩
  have hzw1 := hc.size
  have HC := HC.tr hc
  have hrnd := hrnd.no hc
  refine wle rfl (e_bslV (E := 5) rfl rfl (fun _ => by kernel_rfl) (fun w2 g2 hg2 hb2 hc hsz2 => ?_))
  have hzw2 := hc.size
  have HC := HC.tr hc
  have hrnd := hrnd.no hc
  have hge2 : w.heap.size ≤ g2 := by have := HC.size; omega
  have hS2 := Sl.lit1 (f := u8v) (x := 0) hb2
  refine wle rfl (e_call ent20 rfl rfl (rsum_any (hS2) (by first | omega | (simp only [List.flatten_cons, List.flatten_nil, List.length_append, List.length_nil, List.length_cons]; omega))) ?_)
  rintro _ w3 ⟨rfl, hc⟩
  refine ⟨_, rfl, ?_⟩
  have hzw3 := hc.size
  have HC := HC.tr hc
  have hrnd := hrnd.no hc
  have hS2 := hS2.no hc
  refine wl rfl rfl rfl (p_eqH (a := (leafH _)) (b := (shaF _)) (by kernel_rfl) Tryd.underlying25 Tryd.underlying5 sz5 rfl rfl (leafH_len _) (shaF_len _)) ?_
  refine wl rfl rfl rfl (p_as rfl) ?_
  refine wl_nil ?_
  refine x_seq ?_
  refine wc_ret ?_
  refine fin_run (res1 rfl rfl) ?_
  rw [show (leafH [] == shaF [0]) = true from beq_self_eq_true _]
  exact ⟨rfl, HC⟩
end Go.Proofs.YtdbdconmcgcooaaDoor
