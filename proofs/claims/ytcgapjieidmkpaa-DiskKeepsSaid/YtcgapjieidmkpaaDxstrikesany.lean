/-
  Own text, printed by a program of mine (wip/gx): what functions of the program do, walked operation by operation.
-/
import Derived.Test.YtcgapjieidmkpaaProg
import Derived.Test.YtcgapjieidmkpaaGxAgg
import Derived.Test.YtcgapjieidmkpaaTab
import Derived.Test.YtcgapjieidmkpaaPlDisk
import Derived.Test.YtcgapjieidmkpaaPlDiskSt
import Derived.Test.YtcgapjieidmkpaaDTb
import Derived.Test.YtcgapjieidmkpaaD3
set_option linter.unusedVariables false
namespace Go.Proofs.Ytcgapjieidmkpaa
open Go.RowKit Go.Gx
open Go.Plain
set_option maxHeartbeats 1000000 in
set_option maxRecDepth 20000 in
theorem strikes_any {w : World} {F : Nat → Prop} {g n : Nat} {d : DS} (hd : DkAt TD w F g n d) (hok : d.Ok n) (hn : n ≤ 4096) (hF : ∀ k, w.heap.size ≤ k → F k) (hoff : d.off = false) (harm : d.armed ≤ 9223372036854775807) :
    Calls Try.prog 28 #[.pointer (some ⟨g, 0, none⟩)] w fun e w' => e = .returned (.bool (strk d).1) ∧ DkAt TD w' F g n (strk d).2 ∧ Ch F w w' := by
  obtain ⟨gs, cs, gm, Ao, lo, co, Ak, lk, ck, hD, hR⟩ := hd
  have hlk := hR.kcap
  have hgl := hD.lt
  have HC : Ch F w w := Ch.refl _ _
  refine enter' (args := [.pointer (some ⟨g, 0, none⟩)]) (n := 30) Try.func28 rfl rfl rfl ?_
  refine wc_seq ?_
  refine wc_region ?_
  refine wl rfl rfl rfl (p_as rfl) ?_
  refine wl_nil ?_
  refine x_seq ?_
  refine wc_seq ?_
  refine wc_seq ?_
  refine wc_region ?_
  refine wl rfl rfl rfl (p_mv rfl) ?_
  refine wl rfl rfl rfl (p_nck rfl) ?_
  refine wl rfl rfl rfl (p_fld (j := 4) Try.underlying49 rfl ⟨_, by rfl⟩ rfl rfl) ?_
  refine wl rfl rfl rfl (p_ld Try.underlying3 rfl rfl (ld (hD.cell rfl))) ?_
  refine wl rfl rfl rfl (p_eq rfl rfl) ?_
  refine wl_nil ?_
  refine x_seq ?_
  refine wc_if rfl (fun c0 => ?_) (fun c0 => ?_)
  ·
    have c0 := of_decide_eq_true c0
    have hst : strk d = (false, d) := strk_0 (by omega)
    refine wc_seq ?_
    refine wc_region ?_
    refine wl rfl rfl rfl (p_as rfl) ?_
    refine wl_nil ?_
    refine x_seq ?_
    refine wc_ret ?_
    refine x_then_ret ?_
    refine fin_run (res1 rfl rfl) ?_
    rw [hst]; first | exact ⟨rfl, ⟨_, _, _, _, _, _, _, _, _, hD, hR⟩, HC⟩ | exact ⟨rfl, hd, HC⟩
  ·
    have c0 := of_decide_eq_false c0
    refine wc_skip ?_
    refine x_seq ?_
    refine wc_seq ?_
    refine wc_seq ?_
    refine wc_region ?_
    refine wl rfl rfl rfl (p_mv rfl) ?_
    refine wl rfl rfl rfl (p_nck rfl) ?_
    refine wl rfl rfl rfl (p_fld (j := 4) Try.underlying49 rfl ⟨_, by rfl⟩ rfl rfl) ?_
    refine wl rfl rfl rfl (p_ld Try.underlying3 rfl rfl (ld (hD.cell rfl))) ?_
    refine wl rfl rfl rfl (p_sub (Z := ((d.armed - 1 : Nat) : Int)) rfl rfl (by rw [w64 (by have := harm; omega)]; omega)) ?_
    refine wl rfl rfl rfl (p_nck rfl) ?_
    refine wl rfl rfl rfl (p_fld (j := 4) Try.underlying49 rfl ⟨_, by rfl⟩ rfl rfl) ?_
    refine wle rfl (e_stD (T := TD) (j := 4) (by rfl) rfl rfl rfl hD hR (show 4 < 7 by decide) (fun w1 hD hR hc hsz => ?_))
    have hzw1 := hc.size
    have HC := HC.trans hc (fun _ _ h => h) (fun k hk ht => (by rw [ht]; exact hR.fg))
    refine wl_nil ?_
    refine x_seq ?_
    refine wc_seq ?_
    refine wc_region ?_
    refine wl rfl rfl rfl (p_mv rfl) ?_
    refine wl rfl rfl rfl (p_nck rfl) ?_
    refine wl rfl rfl rfl (p_fld (j := 4) Try.underlying49 rfl ⟨_, by rfl⟩ rfl rfl) ?_
    refine wl rfl rfl rfl (p_ld Try.underlying3 rfl rfl (ld (hD.cell rfl))) ?_
    refine wl rfl rfl rfl (p_gt rfl rfl) ?_
    refine wl_nil ?_
    refine x_seq ?_
    refine wc_if rfl (fun c1 => ?_) (fun c1 => ?_)
    ·
      have c1 := of_decide_eq_true c1
      have hst : strk d = (false, { d with armed := d.armed - 1 }) := strk_n (by omega)
      refine wc_seq ?_
      refine wc_region ?_
      refine wl rfl rfl rfl (p_as rfl) ?_
      refine wl_nil ?_
      refine x_seq ?_
      refine wc_ret ?_
      refine x_then_ret ?_
      refine fin_run (res1 rfl rfl) ?_
      rw [hst]; first | exact ⟨rfl, ⟨_, _, _, _, _, _, _, _, _, hD, hR⟩, HC⟩ | exact ⟨rfl, hd, HC⟩
    ·
      have c1 := of_decide_eq_false c1
      have hst : strk d = (true, crash d d.keep d.torn) := strk_1 (by omega)
      refine wc_skip ?_
      refine x_seq ?_
      refine wc_seq ?_
      refine wc_draw (.st 0 0 (.st 1 0 (.st 2 0 (.st 3 0 (.st 4 1 (.st 5 0 (.st 6 0 (.st 7 0 (.st 8 1 (.st 9 3 (.st 10 0 .nil))))))))))) 9 (by kernel_rfl) (by kernel_rfl) (by kernel_rfl) (by repeat (first | with_reducible exact pan_body | with_reducible apply pan_then | with_reducible apply pan_in)) (fun x => Ch No w1.drew x) (Ch.refl _ _) ?_
      obtain ⟨w2, ew2⟩ : ∃ x, x = w1.drew := ⟨_, rfl⟩
      rw [← ew2]
      have hc : Ch No w1 w2 := by rw [ew2]; exact Ch.drew _
      have hszw2 : w2.heap.size = w1.heap.size := by rw [ew2]; rfl
      clear ew2
      have hzw2 := hc.size
      have HC := HC.tr hc
      have hD := hD.ch hc (fun h => h)
      first | have hR := hR.no hc | have hR := hR.ch hc (by intro k hz hk ht; first | omega | (dsimp only at *; omega))
      have hS : Ch No w2 w2 := Ch.refl _ _
      refine ws_p rfl rfl rfl rfl (p_mv rfl) ?_
      refine ws_p rfl rfl rfl rfl (p_mv rfl) ?_
      refine ws_p rfl rfl rfl rfl (p_nck rfl) ?_
      refine ws_p rfl rfl rfl rfl (p_fld (j := 5) Try.underlying49 rfl ⟨_, by rfl⟩ rfl rfl) ?_
      refine ws_h rfl rfl rfl rfl (p_ld Try.underlying26 rfl rfl (fun _ h => h.cell (fun h => h) (hD.cell rfl))) ?_
      refine ws_p rfl rfl rfl rfl (p_mv rfl) ?_
      refine ws_p rfl rfl rfl rfl (p_nck rfl) ?_
      refine ws_p rfl rfl rfl rfl (p_fld (j := 6) Try.underlying49 rfl ⟨_, by rfl⟩ rfl rfl) ?_
      refine ws_h rfl rfl rfl rfl (p_ld Try.underlying3 rfl rfl (fun _ h => h.cell (fun h => h) (hD.cell rfl))) ?_
      refine ws_l rfl rfl (e_call ent20 rfl rfl (crash_any (d := { d with armed := d.armed - 1 }) ⟨_, _, _, _, _, _, _, _, _, hD, hR⟩ hR.kSl (by have := hR.kSl.cap; have := hlk; omega) (by intro k hk; exact .inr hk) ⟨hok.s, hok.w, hok.nd, hok.lt, hok.same⟩ hn (by intro k hk; exact hF k (by omega))) ?_)
      rintro _ w3 ⟨rfl, hd, hc⟩
      refine ⟨_, rfl, ?_⟩
      have HC := HC.trans hc (fun _ _ h => h) (fun _ _ h => h)
      have hzw3 := hc.size
      rw [crS_on (d := { d with armed := d.armed - 1 }) hoff] at hd ⊢
      refine ws_p rfl rfl rfl rfl (p_as rfl) ?_
      refine ws_n ?_
      refine x_seq ?_
      refine wc_ret ?_
      refine fin_run (res1 rfl rfl) ?_
      rw [hst]; first | exact ⟨rfl, ⟨_, _, _, _, _, _, _, _, _, hD, hR⟩, HC⟩ | exact ⟨rfl, hd, HC⟩
end Go.Proofs.Ytcgapjieidmkpaa
