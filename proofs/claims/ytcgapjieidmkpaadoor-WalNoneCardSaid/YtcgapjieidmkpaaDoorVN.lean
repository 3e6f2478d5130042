/-
  Own text, printed by a program of mine (wip/gx): what functions of the program do, walked operation by operation.
-/
import Derived.Test.YtcgapjieidmkpaaDoorProg
import Derived.Test.YtcgapjieidmkpaaDoorGxAgg
import Derived.Test.YtcgapjieidmkpaaDoorTab
import Derived.Test.YtcgapjieidmkpaaDoorPlDisk
import Derived.Test.YtcgapjieidmkpaaDoorPlDiskSt
import Derived.Test.YtcgapjieidmkpaaDoorPlDiskOk
import Derived.Test.YtcgapjieidmkpaaDoorPlDiskC
import Derived.Test.YtcgapjieidmkpaaDoorPlActD
import Derived.Test.YtcgapjieidmkpaaDoorPlActs
import Derived.Test.YtcgapjieidmkpaaDoorPlDiskLaw
import Derived.Test.YtcgapjieidmkpaaDoorDTd
import Derived.Test.YtcgapjieidmkpaaDoorVD
import Derived.Test.YtcgapjieidmkpaaDoorVD
set_option linter.unusedVariables false
namespace Go.Proofs.YtcgapjieidmkpaaDoor
open Go.RowKit Go.Gx
open Go.Plain
set_option maxHeartbeats 1000000 in
set_option maxRecDepth 20000 in
theorem made_nil {w : World}   :
    Calls Tryd.prog 35 #[.pointer none] w fun e w' => e = .returned (.bool false) ∧ Ch No w w' := by
  have HC : Ch No w w := Ch.refl _ _
  refine enter' (args := [.pointer none]) (n := 12) Tryd.func35 rfl rfl rfl ?_
  refine wc_seq ?_
  refine wc_region ?_
  refine wl rfl rfl rfl (p_as rfl) ?_
  refine wl_nil ?_
  refine x_seq ?_
  refine wc_seq ?_
  refine wc_region ?_
  refine wl rfl rfl rfl (p_mv rfl) ?_
  refine wl rfl rfl rfl (p_nePN rfl rfl Tryd.underlying31) ?_
  refine wl rfl rfl rfl (p_mv rfl) ?_
  refine wl_s (gd_ rfl rfl rfl rfl rfl rfl) rfl rfl ?_
  refine wl_s (gd_ rfl rfl rfl rfl rfl rfl) rfl rfl ?_
  refine wl_s (gd_ rfl rfl rfl rfl rfl rfl) rfl rfl ?_
  refine wl_s (gd_ rfl rfl rfl rfl rfl rfl) rfl rfl ?_
  refine wl_s (gd_ rfl rfl rfl rfl rfl rfl) rfl rfl ?_
  refine wl rfl rfl rfl (p_pickF rfl rfl) ?_
  refine wl rfl rfl rfl (p_as rfl) ?_
  refine wl_nil ?_
  refine x_seq ?_
  refine wc_ret ?_
  refine fin_run (res1 rfl rfl) ?_
  exact ⟨rfl, HC⟩

set_option maxHeartbeats 1000000 in
set_option maxRecDepth 20000 in
theorem made_zero {w : World} {g : Nat} (hD : Blk w g 47 #[.slice none 0 0, .map none, .slice none 0 0, .bool false, i64 0, .slice none 0 0, i64 0]) :
    Calls Tryd.prog 35 #[.pointer (some ⟨g, 0, none⟩)] w fun e w' => e = .returned (.bool false) ∧ Ch No w w' := by
  have HC : Ch No w w := Ch.refl _ _
  refine enter' (args := [.pointer (some ⟨g, 0, none⟩)]) (n := 12) Tryd.func35 rfl rfl rfl ?_
  refine wc_seq ?_
  refine wc_region ?_
  refine wl rfl rfl rfl (p_as rfl) ?_
  refine wl_nil ?_
  refine x_seq ?_
  refine wc_seq ?_
  refine wc_region ?_
  refine wl rfl rfl rfl (p_mv rfl) ?_
  refine wl rfl rfl rfl (p_nePN rfl rfl Tryd.underlying31) ?_
  refine wl rfl rfl rfl (p_mv rfl) ?_
  refine wl_g (gd_ rfl rfl rfl rfl rfl rfl) rfl rfl (p_mv rfl) ?_
  refine wl_g (gd_ rfl rfl rfl rfl rfl rfl) rfl rfl (p_nck rfl) ?_
  refine wl_g (gd_ rfl rfl rfl rfl rfl rfl) rfl rfl (p_fld (j := 0) Tryd.underlying47 rfl ⟨_, by rfl⟩ rfl rfl) ?_
  refine wl_g (gd_ rfl rfl rfl rfl rfl rfl) rfl rfl (p_ld Tryd.underlying43 rfl rfl (ld (hD.cell rfl))) ?_
  refine wl_g (gd_ rfl rfl rfl rfl rfl rfl) rfl rfl (p_nenil rfl rfl Tryd.underlying43) ?_
  refine wl rfl rfl rfl (p_pickT rfl rfl) ?_
  refine wl rfl rfl rfl (p_as rfl) ?_
  refine wl_nil ?_
  refine x_seq ?_
  refine wc_ret ?_
  refine fin_run (res1 rfl rfl) ?_
  exact ⟨rfl, HC⟩

theorem made_no {w : World} {pv : Value} (hz : NoDk 47 w pv) : Calls Tryd.prog 35 #[pv] w fun e w' => e = .returned (.bool false) ∧ Ch No w w' := by
  rcases hz with rfl | ⟨g, rfl, hD⟩
  · exact made_nil
  · exact made_zero hD

set_option maxHeartbeats 1000000 in
set_option maxRecDepth 20000 in
theorem may_no {w : World} {pv : Value} (hz : NoDk 47 w pv) :
    Calls Tryd.prog 39 #[pv] w fun e w' => e = .returned (i64 1) ∧ Ch No w w' := by
  have HC : Ch No w w := Ch.refl _ _
  refine enter' (args := [pv]) (n := 12) Tryd.func39 rfl rfl rfl ?_
  refine wc_seq ?_
  refine wc_region ?_
  refine wl rfl rfl rfl (p_as rfl) ?_
  refine wl_nil ?_
  refine x_seq ?_
  refine wc_seq ?_
  refine wc_block ?_
  refine wc_seq ?_
  refine wc_region ?_
  refine wl rfl rfl rfl (p_mv rfl) ?_
  refine wle rfl (e_call ent35 rfl rfl (made_no hz) ?_)
  rintro _ w1 ⟨rfl, hc⟩
  refine ⟨_, rfl, ?_⟩
  have hzw1 := hc.size
  have HC := HC.tr hc
  have hz := hz.no hc
  refine wl rfl rfl rfl (p_not rfl) ?_
  refine wl rfl rfl rfl (p_as rfl) ?_
  refine wl_nil ?_
  refine x_seq ?_
  refine wc_yes rfl (rfl) ?_
  refine wc_seq ?_
  refine wc_region ?_
  refine wl rfl rfl rfl (p_as rfl) ?_
  refine wl_nil ?_
  refine x_seq ?_
  refine wc_ret ?_
  refine x_in_ret ?_
  refine x_then_ret ?_
  refine fin_run (res1 rfl rfl) ?_
  exact ⟨rfl, HC⟩

set_option maxHeartbeats 1000000 in
set_option maxRecDepth 20000 in
theorem size_no {w : World} {pv : Value} (hz : NoDk 47 w pv) :
    Calls Tryd.prog 28 #[pv] w fun e w' => e = .returned (i64 0) ∧ Ch No w w' := by
  have HC : Ch No w w := Ch.refl _ _
  refine enter' (args := [pv]) (n := 12) Tryd.func28 rfl rfl rfl ?_
  refine wc_seq ?_
  refine wc_region ?_
  refine wl rfl rfl rfl (p_as rfl) ?_
  refine wl_nil ?_
  refine x_seq ?_
  refine wc_seq ?_
  refine wc_seq ?_
  refine wc_region ?_
  refine wl rfl rfl rfl (p_mv rfl) ?_
  refine wle rfl (e_call ent35 rfl rfl (made_no hz) ?_)
  rintro _ w1 ⟨rfl, hc⟩
  refine ⟨_, rfl, ?_⟩
  have hzw1 := hc.size
  have HC := HC.tr hc
  have hz := hz.no hc
  refine wl rfl rfl rfl (p_not rfl) ?_
  refine wl_nil ?_
  refine x_seq ?_
  refine wc_yes rfl (rfl) ?_
  refine wc_seq ?_
  refine wc_region ?_
  refine wl rfl rfl rfl (p_as rfl) ?_
  refine wl_nil ?_
  refine x_seq ?_
  refine wc_ret ?_
  refine x_then_ret ?_
  refine fin_run (res1 rfl rfl) ?_
  exact ⟨rfl, HC⟩

set_option maxHeartbeats 1000000 in
set_option maxRecDepth 20000 in
theorem read_no {w : World} {pv : Value} {x y : Value} (hz : NoDk 47 w pv) :
    Calls Tryd.prog 25 #[pv, x, y] w fun e w' => e = .returned (.tuple #[.slice none 0 0, i64 1]) ∧ Ch No w w' := by
  have HC : Ch No w w := Ch.refl _ _
  refine enter' (args := [pv, x, y]) (n := 69) Tryd.func25 rfl rfl rfl ?_
  refine wc_seq ?_
  refine wc_region ?_
  refine wl rfl rfl rfl (p_as rfl) ?_
  refine wl rfl rfl rfl (p_as rfl) ?_
  refine wl_nil ?_
  refine x_seq ?_
  refine wc_seq ?_
  refine wc_seq ?_
  refine wc_region ?_
  refine wl rfl rfl rfl (p_mv rfl) ?_
  refine wle rfl (e_call ent39 rfl rfl (may_no hz) ?_)
  rintro _ w1 ⟨rfl, hc⟩
  refine ⟨_, rfl, ?_⟩
  have hzw1 := hc.size
  have HC := HC.tr hc
  have hz := hz.no hc
  refine wl rfl rfl rfl (p_as rfl) ?_
  refine wl_nil ?_
  refine x_seq ?_
  refine wc_seq ?_
  refine wc_region ?_
  refine wl rfl rfl rfl (p_mv rfl) ?_
  refine wl rfl rfl rfl (p_ne rfl rfl) ?_
  refine wl_nil ?_
  refine x_seq ?_
  refine wc_yes rfl (rfl) ?_
  refine wc_seq ?_
  refine wc_region ?_
  refine wl rfl rfl rfl (p_mv rfl) ?_
  refine wl rfl rfl rfl (p_as rfl) ?_
  refine wl rfl rfl rfl (p_as rfl) ?_
  refine wl_nil ?_
  refine x_seq ?_
  refine wc_ret ?_
  refine x_then_ret ?_
  refine fin_run (res2 rfl rfl rfl) ?_
  exact ⟨rfl, HC⟩
end Go.Proofs.YtcgapjieidmkpaaDoor
