/-
  Own text, printed by a program of mine (wip/gx): what functions of the program do, walked operation by operation.
-/
import Derived.Test.YtcgapjieidmkpaaDoorProg
import Derived.Test.YtcgapjieidmkpaaDoorGxAgg
import Derived.Test.YtcgapjieidmkpaaDoorTab
import Derived.Test.YtcgapjieidmkpaaDoorGxZer
import Derived.Test.YtcgapjieidmkpaaDoorPlDisk
import Derived.Test.YtcgapjieidmkpaaDoorPlDiskSt
import Derived.Test.YtcgapjieidmkpaaDoorPlDiskOk
import Derived.Test.YtcgapjieidmkpaaDoorPlDiskC
import Derived.Test.YtcgapjieidmkpaaDoorPlDiskLaw
import Derived.Test.YtcgapjieidmkpaaDoorPlActD
import Derived.Test.YtcgapjieidmkpaaDoorPlActs
import Derived.Test.YtcgapjieidmkpaaDoorPlWal
import Derived.Test.YtcgapjieidmkpaaDoorPlWalSt
import Derived.Test.YtcgapjieidmkpaaDoorDTd
import Derived.Test.YtcgapjieidmkpaaDoorVD
import Derived.Test.YtcgapjieidmkpaaDoorXW
set_option linter.unusedVariables false
namespace Go.Proofs.YtcgapjieidmkpaaDoor
open Go.RowKit Go.Gx
open Go.Plain
set_option maxHeartbeats 1000000 in
set_option maxRecDepth 20000 in
theorem walScans_walk {w : World} {Ab : Option Addr} {lb cb : Nat} {Fb : Nat → Prop} {b : List UInt8} (hb : Sl w Fb u8v Ab lb cb b) (hnib : Sl w (fun k => k = 0) u32v (some ⟨0, 0, none⟩) 16 16 nib) :
    Calls Tryd.prog 3 #[.slice Ab lb cb] w fun e w' => e = .returned (.bool true) ∧ Ch No w w' := by
  have hbz : 0 < w.heap.size := hnib.size (by omega) rfl
  have hbl := hb.len
  have hcn := scanW_cnt b
  have hb := hb.old
  have HC : Ch No w w := Ch.refl _ _
  refine enter' (args := [.slice Ab lb cb]) (n := 32) Tryd.func3 rfl rfl rfl ?_
  refine wc_seq ?_
  refine wc_region ?_
  refine wl rfl rfl rfl (p_as rfl) ?_
  refine wl_nil ?_
  refine x_seq ?_
  refine wc_seq ?_
  refine wc_seq ?_
  refine wc_region ?_
  refine wl rfl rfl rfl (p_mv rfl) ?_
  refine wl rfl rfl rfl (p_lenS Tryd.underlying22 rfl) ?_
  refine wl rfl rfl rfl (p_gt rfl rfl) ?_
  refine wl_nil ?_
  refine x_seq ?_
  refine wc_if rfl (fun c0 => ?_) (fun c0 => ?_)
  ·
    have c0 := of_decide_eq_true c0
    refine wc_seq ?_
    refine wc_region ?_
    refine wle rfl (e_call ent9 rfl rfl (lives6_any hnib) ?_)
    rintro _ w1 ⟨rfl, hc⟩
    refine ⟨_, rfl, ?_⟩
    have hzw1 := hc.size
    have HC := HC.tr hc
    have hb := hb.no hc
    have hnib := hnib.no hc
    refine wl rfl rfl rfl (p_as rfl) ?_
    refine wl_nil ?_
    refine x_seq ?_
    refine wc_ret ?_
    refine x_then_ret ?_
    refine fin_run (res1 rfl rfl) ?_
    exact ⟨rfl, HC⟩
  ·
    have c0 := of_decide_eq_false c0
    refine wc_skip ?_
    refine x_seq ?_
    refine wc_seq ?_
    refine wc_region ?_
    refine wl rfl rfl rfl (p_mv rfl) ?_
    refine wle rfl (e_call ent10 rfl rfl (scan_any (hb) (by omega) hnib) ?_)
    rintro _ w2 ⟨A13, l13, c13, rfl, hS13, hc⟩
    refine ⟨_, rfl, ?_⟩
    have hzw2 := hc.size
    have HC := HC.tr hc
    have hb := hb.no hc
    have hnib := hnib.no hc
    have hSl13 := hS13.len
    refine wl rfl rfl rfl (p_mv rfl) ?_
    refine wl rfl rfl rfl (p_ext rfl rfl) ?_
    refine wl rfl rfl rfl (p_ext rfl rfl) ?_
    refine wl rfl rfl rfl (p_as rfl) ?_
    refine wl rfl rfl rfl (p_as rfl) ?_
    refine wl_nil ?_
    refine x_seq ?_
    refine wc_seq ?_
    refine wc_region ?_
    refine wl rfl rfl rfl (p_mv rfl) ?_
    refine wle rfl (e_call ent11 rfl rfl (rscan_any (hb) (by omega)) ?_)
    rintro _ w3 ⟨A18, l18, c18, rfl, hS18, hc⟩
    refine ⟨_, rfl, ?_⟩
    have hzw3 := hc.size
    have HC := HC.tr hc
    have hb := hb.no hc
    have hnib := hnib.no hc
    have hS13 := hS13.no hc
    have hSl18 := hS18.len
    refine wl rfl rfl rfl (p_mv rfl) ?_
    refine wl rfl rfl rfl (p_ext rfl rfl) ?_
    refine wl rfl rfl rfl (p_ext rfl rfl) ?_
    refine wl rfl rfl rfl (p_as rfl) ?_
    refine wl rfl rfl rfl (p_as rfl) ?_
    refine wl_nil ?_
    refine x_seq ?_
    refine wc_seq ?_
    refine wc_region ?_
    refine wl rfl rfl rfl (p_mv rfl) ?_
    refine wl rfl rfl rfl (p_mv rfl) ?_
    refine wle rfl (e_call ent12 rfl rfl (same6_any hS13 hS18 (by omega) (by omega)) ?_)
    rintro _ w4 ⟨rfl, hc⟩
    refine ⟨_, rfl, ?_⟩
    have hzw4 := hc.size
    have HC := HC.tr hc
    have hb := hb.no hc
    have hnib := hnib.no hc
    have hS13 := hS13.no hc
    have hS18 := hS18.no hc
    refine wl rfl rfl rfl (p_mv rfl) ?_
    refine wl_know (d := 24) (b' := true) rfl (decide_eq_true rfl) ?_
    refine wl_g (gd_ rfl rfl rfl rfl rfl rfl) rfl rfl (p_mv rfl) ?_
    refine wl_g (gd_ rfl rfl rfl rfl rfl rfl) rfl rfl (p_mv rfl) ?_
    refine wl_g (gd_ rfl rfl rfl rfl rfl rfl) rfl rfl (p_eq rfl rfl) ?_
    refine wl rfl rfl rfl (p_pickT rfl rfl) ?_
    refine wl rfl rfl rfl (p_mv rfl) ?_
    refine wl_know (d := 29) (b' := true) rfl (decide_eq_true rfl) ?_
    refine wle_g (gd_ rfl rfl rfl rfl rfl rfl) (e_call ent9 rfl rfl (lives6_any hnib) ?_)
    rintro _ w5 ⟨rfl, hc⟩
    refine ⟨_, rfl, ?_⟩
    have hzw5 := hc.size
    have HC := HC.tr hc
    have hb := hb.no hc
    have hnib := hnib.no hc
    have hS13 := hS13.no hc
    have hS18 := hS18.no hc
    refine wl rfl rfl rfl (p_pickT rfl rfl) ?_
    refine wl rfl rfl rfl (p_as rfl) ?_
    refine wl_nil ?_
    refine x_seq ?_
    refine wc_ret ?_
    refine fin_run (res1 rfl rfl) ?_
    exact ⟨rfl, HC⟩
end Go.Proofs.YtcgapjieidmkpaaDoor
