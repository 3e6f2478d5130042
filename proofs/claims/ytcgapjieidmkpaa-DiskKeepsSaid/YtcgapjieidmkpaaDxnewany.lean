/-
  Own text, printed by a program of mine (wip/gx): what functions of the program do, walked operation by operation.
-/
import Derived.Test.YtcgapjieidmkpaaProg
import Derived.Test.YtcgapjieidmkpaaGxAgg
import Derived.Test.YtcgapjieidmkpaaTab
import Derived.Test.YtcgapjieidmkpaaPlDisk
import Derived.Test.YtcgapjieidmkpaaPlDiskSt
import Derived.Test.YtcgapjieidmkpaaDTb
import Derived.Test.YtcgapjieidmkpaaD3
set_option linter.unusedVariables false
namespace Go.Proofs.Ytcgapjieidmkpaa
open Go.RowKit Go.Gx
open Go.Plain
set_option maxHeartbeats 1000000 in
set_option maxRecDepth 20000 in
theorem new_any {w : World} {n : Nat} (h1 : 1 ≤ n) (h2 : n ≤ 4096) :
    Calls Try.prog 10 #[i64 (n : Int)] w fun e w' => ∃ g, e = .returned (.pointer (some ⟨g, 0, none⟩)) ∧ w.heap.size ≤ g ∧ DkAt TD w' (fun k => w.heap.size ≤ k) g n (newD n) ∧ Ch No w w' := by
  have HC : Ch No w w := Ch.refl _ _
  refine enter' (args := [i64 (n : Int)]) (n := 14) Try.func10 rfl rfl rfl ?_
  refine wc_seq ?_
  refine wc_region ?_
  refine wl rfl rfl rfl (p_as rfl) ?_
  refine wl_nil ?_
  refine x_seq ?_
  refine wc_seq ?_
  refine wc_seq ?_
  refine wc_region ?_
  refine wl rfl rfl rfl (p_mv rfl) ?_
  refine wl rfl rfl rfl (p_lt rfl rfl) ?_
  refine wl rfl rfl rfl (p_mv rfl) ?_
  refine wl_know (d := 5) (b' := false) rfl (decide_eq_false (by omega)) ?_
  refine wl_g (gd_ rfl rfl rfl rfl rfl rfl) rfl rfl (p_mv rfl) ?_
  refine wl_g (gd_ rfl rfl rfl rfl rfl rfl) rfl rfl (p_gt rfl rfl) ?_
  refine wl rfl rfl rfl (p_pickF rfl rfl) ?_
  refine wl_nil ?_
  refine x_seq ?_
  refine wc_no rfl (decide_eq_false (by omega)) ?_
  refine wc_skip ?_
  refine x_seq ?_
  refine wc_seq ?_
  refine wc_region ?_
  refine wl rfl rfl rfl (p_mv rfl) ?_
  refine wle rfl (e_mkZ (v := u8v 0) (sz := 32) (by_ := 32) rfl Try.underlying46 (by rfl) (by rfl) (by omega) rfl rfl (by omega) (by omega) (fun w1 g10 hg10 hb10 hc hsz10 => ?_))
  have hzw1 := hc.size
  have HC := HC.tr hc
  have hge10 : w.heap.size ≤ g10 := by have := HC.size; omega
  refine wle rfl (e_mkMap rfl (fun w2 g11 hg11 hm11 hc hsz11 => ?_))
  have hzw2 := hc.size
  have HC := HC.tr hc
  have hb10 := hb10.ch hc (fun h => h)
  have hge11 : w.heap.size ≤ g11 := by have := HC.size; omega
  refine wl rfl rfl rfl (p_bldP (cs := dcell g10 n n g11 Option.none 0 0 false 0 Option.none 0 0 0) rfl (fun _ => by kernel_rfl)) ?_
  have hne : g10 < g11 := by omega
  have hgl10 := hb10.lt
  have hgl11 := hm11.lt
  have hltg10 := hb10.lt
  refine wle rfl (e_box rfl rfl rfl (fun w3 g13 hg13 hb13 hc hsz13 => ?_))
  have hzw3 := hc.size
  have HC := HC.tr hc
  have hb10 := hb10.ch hc (fun h => h)
  first | have hm11 := hm11.ch hc (fun h => h) | have hm11 := hm11.ch hc (by omega)
  have hge13 : w.heap.size ≤ g13 := by have := HC.size; omega
  have neg10_13 : g10 < g13 := by omega
  refine wl rfl rfl rfl (p_as rfl) ?_
  refine wl_nil ?_
  refine x_seq ?_
  refine wc_ret ?_
  refine fin_run (res1 rfl rfl) ?_
  refine ⟨g13, rfl, hge13, ⟨g10, n, g11, _, _, _, _, _, _, hb13, ⟨⟨[], ?_⟩, ⟨[], 0, hm11, by simp, by simp [newD], by simp, by simp⟩, Row.nil _ _ _ _, Row.nil _ _ _ _, by simp [Value.ownBlock], hge13, hge10, hge11⟩⟩, HC⟩
  have : (List.replicate (n * 32) (u8v 0)).toArray = ((newD n).safe.map u8v).toArray := by simp [newD, Nat.mul_comm]
  rw [List.append_nil, ← this]; exact hb10
end Go.Proofs.Ytcgapjieidmkpaa
