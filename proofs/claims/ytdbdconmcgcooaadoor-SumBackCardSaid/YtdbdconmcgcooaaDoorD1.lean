/-
  Own text, printed by a program of mine (wip/gx): what functions of the program do, walked operation by operation.
-/
import Derived.Test.YtdbdconmcgcooaaDoorProg
import Derived.Test.YtdbdconmcgcooaaDoorGxAux
import Derived.Test.YtdbdconmcgcooaaDoorTab
import Derived.Test.YtdbdconmcgcooaaDoorPlPack
import Derived.Test.YtdbdconmcgcooaaDoorPlPackB
import Derived.Test.YtdbdconmcgcooaaDoorPlSum
import Derived.Test.YtdbdconmcgcooaaDoorPlSumB
set_option linter.unusedVariables false
namespace Go.Proofs.YtdbdconmcgcooaaDoor
open Go.RowKit Go.Gx
open Go.Plain
set_option maxHeartbeats 1000000 in
set_option maxRecDepth 20000 in
theorem times_any {w : World} {a b : BitVec 32}  :
    Calls Tryd.prog 63 #[u32v a, u32v b] w fun e w' => e = .returned (u32v (mul a b)) ∧ Ch No w w' := by
  have HC : Ch No w w := Ch.refl _ _
  refine enter' (args := [u32v a, u32v b]) (n := 32) Tryd.func63 rfl rfl rfl ?_
  refine wc_seq ?_
  refine wc_region ?_
  refine wl rfl rfl rfl (p_as rfl) ?_
  refine wl_nil ?_
  refine x_seq ?_
  refine wc_scope ?_
  refine wc_seq ?_
  refine wc_region ?_
  refine wl rfl rfl rfl (p_as rfl) ?_
  refine wl_nil ?_
  refine x_seq ?_
  refine wc_seq ?_
  refine wc_label ?_
  refine x_seq ?_
  refine wc_seq ?_
  refine wc_seq ?_
  refine wc_region ?_
  refine wl rfl rfl rfl (p_as rfl) ?_
  refine wl_nil ?_
  refine x_seq ?_
  refine wc_block ?_
  refine wc_loop (e' := [(0, u32v a), (1, u32v (pw (0) b)), (5, u32v (acc a b (0))), (6, u32v (e0 >>> (0)))]) (fun m e u => ∃ i : Nat, m = 33 - i ∧ e = [(0, u32v a), (1, u32v (pw i b)), (5, u32v (acc a b i)), (6, u32v (e0 >>> i))] ∧ i ≤ 32 ∧ Ch No w u)
    ⟨rfl, rfl, rfl, rfl, trivial⟩ ⟨0, rfl, rfl, by omega, HC⟩ ?_
  rintro m0 e w1 ⟨i, hm0, rfl, hi32, HC⟩
  have hzw1 := HC.size
  refine wc_seq ?_
  refine wc_block ?_
  refine wc_seq ?_
  refine wc_seq ?_
  refine wc_region ?_
  refine wl rfl rfl rfl (p_mv rfl) ?_
  refine wl rfl rfl rfl (p_mv rfl) ?_
  refine wl rfl rfl rfl (p_and32 rfl rfl) ?_
  refine wl rfl rfl rfl (p_ne rfl rfl) ?_
  refine wl_nil ?_
  refine x_seq ?_
  refine wc_if rfl (fun c0 => ?_) (fun c0 => ?_)
  ·
    have c0 := of_decide_eq_true c0
    have hi : i < 32 := and_lt hi32 c0
    refine wc_seq ?_
    refine wc_region ?_
    refine wl rfl rfl rfl (p_mv rfl) ?_
    refine wl rfl rfl rfl (p_mv rfl) ?_
    refine wl rfl rfl rfl (p_xor32 rfl rfl) ?_
    refine wl rfl rfl rfl (p_as rfl) ?_
    refine wl_nil ?_
    refine x_seq ?_
    refine wc_seq ?_
    refine wc_region ?_
    refine wl rfl rfl rfl (p_mv rfl) ?_
    refine wl rfl rfl rfl (p_mv rfl) ?_
    refine wl rfl rfl rfl (p_sub32 (Y := 1#32) rfl rfl) ?_
    refine wl rfl rfl rfl (p_and32 rfl rfl) ?_
    refine wl rfl rfl rfl (p_eq rfl rfl) ?_
    refine wl_nil ?_
    refine x_seq ?_
    refine wc_if rfl (fun c1 => ?_) (fun c1 => ?_)
    ·
      have c1 := of_decide_eq_true c1
      have hM := mul_stop (b := b) hi c0 c1
      refine wc_exit ?_
      refine x_then_exit ?_
      refine x_in_on rfl ?_
      refine x_then_exit ?_
      refine x_then_exit ?_
      refine x_in_here ?_
      refine x_seq ?_
      refine wc_seq ?_
      refine wc_region ?_
      refine wl rfl rfl rfl (p_mv rfl) ?_
      refine wl rfl rfl rfl (p_as rfl) ?_
      refine wl_nil ?_
      refine x_seq ?_
      refine wc_ret ?_
      refine x_scope_ret ?_
      refine fin_run (res1 rfl rfl) ?_
      first
        | exact ⟨by rw [hM], HC⟩
        | exact (stop_no c2 c0).elim
        | (subst hi2; exact ⟨rfl, HC⟩)
    ·
      have c1 := of_decide_eq_false c1
      refine wc_skip ?_
      refine x_seq ?_
      refine wc_seq ?_
      refine wc_seq ?_
      refine wc_region ?_
      refine wl rfl rfl rfl (p_mv rfl) ?_
      refine wl rfl rfl rfl (p_eq rfl rfl) ?_
      refine wl_nil ?_
      refine x_seq ?_
      refine wc_if rfl (fun c2 => ?_) (fun c2 => ?_)
      ·
        have c2 := of_decide_eq_true c2
        have hi2 : i = 32 := mi_zero hi32 c2
        refine wc_exit ?_
        refine x_then_exit ?_
        refine x_in_on rfl ?_
        refine x_then_exit ?_
        refine x_then_exit ?_
        refine x_in_here ?_
        refine x_seq ?_
        refine wc_seq ?_
        refine wc_region ?_
        refine wl rfl rfl rfl (p_mv rfl) ?_
        refine wl rfl rfl rfl (p_as rfl) ?_
        refine wl_nil ?_
        refine x_seq ?_
        refine wc_ret ?_
        refine x_scope_ret ?_
        refine fin_run (res1 rfl rfl) ?_
        first
          | exact ⟨by rw [hM], HC⟩
          | exact (stop_no c2 c0).elim
          | (subst hi2; exact ⟨rfl, HC⟩)
      ·
        have c2 := of_decide_eq_false c2
        have hi2 : i < 32 := mi_pos hi32 c2
        first | have hA := acc_yes (b := b) hi2 c0 | have hA := acc_no (b := b) hi2 c0
        refine wc_skip ?_
        refine x_seq ?_
        refine wc_seq ?_
        refine wc_region ?_
        refine wl rfl rfl rfl (p_mv rfl) ?_
        refine wl rfl rfl rfl (p_and32 (Y := 1#32) rfl rfl) ?_
        refine wl rfl rfl rfl (p_eq rfl rfl) ?_
        refine wl_nil ?_
        refine x_seq ?_
        refine wc_if rfl (fun c3 => ?_) (fun c3 => ?_)
        ·
          have c3 := of_decide_eq_true c3
          have hS := stp_odd c3
          refine wc_region ?_
          refine wl rfl rfl rfl (p_mv rfl) ?_
          refine wl rfl rfl rfl (p_shr32 (Y := 1) rfl rfl) ?_
          refine wl rfl rfl rfl (p_xor32 (Y := 2197175160#32) rfl rfl) ?_
          refine wl rfl rfl rfl (p_as rfl) ?_
          refine wl_nil ?_
          refine x_in_normal ?_
          refine x_seq ?_
          refine wc_region ?_
          refine wl rfl rfl rfl (p_mv rfl) ?_
          refine wl rfl rfl rfl (p_shr32 (Y := 1) rfl rfl) ?_
          refine wl rfl rfl rfl (p_as rfl) ?_
          refine wl_nil ?_
          refine x_round (e' := [(0, u32v a), (1, u32v (pw (i + 1) b)), (5, u32v (acc a b (i + 1))), (6, u32v (e0 >>> (i + 1)))]) ⟨rfl, (by rw [pw, hS]; rfl), (by rw [hA]; rfl), (by rw [BitVec.shiftRight_add]; rfl), trivial⟩ (by rw [hm0]; omega) ⟨i + 1, rfl, rfl, by omega, HC⟩
        ·
          have c3 := of_decide_eq_false c3
          have hS := stp_ev c3
          refine wc_region ?_
          refine wl rfl rfl rfl (p_mv rfl) ?_
          refine wl rfl rfl rfl (p_shr32 (Y := 1) rfl rfl) ?_
          refine wl rfl rfl rfl (p_as rfl) ?_
          refine wl_nil ?_
          refine x_in_normal ?_
          refine x_seq ?_
          refine wc_region ?_
          refine wl rfl rfl rfl (p_mv rfl) ?_
          refine wl rfl rfl rfl (p_shr32 (Y := 1) rfl rfl) ?_
          refine wl rfl rfl rfl (p_as rfl) ?_
          refine wl_nil ?_
          refine x_round (e' := [(0, u32v a), (1, u32v (pw (i + 1) b)), (5, u32v (acc a b (i + 1))), (6, u32v (e0 >>> (i + 1)))]) ⟨rfl, (by rw [pw, hS]; rfl), (by rw [hA]; rfl), (by rw [BitVec.shiftRight_add]; rfl), trivial⟩ (by rw [hm0]; omega) ⟨i + 1, rfl, rfl, by omega, HC⟩
  ·
    have c0 := of_decide_eq_false c0
    refine wc_skip ?_
    refine x_seq ?_
    refine wc_seq ?_
    refine wc_seq ?_
    refine wc_region ?_
    refine wl rfl rfl rfl (p_mv rfl) ?_
    refine wl rfl rfl rfl (p_eq rfl rfl) ?_
    refine wl_nil ?_
    refine x_seq ?_
    refine wc_if rfl (fun c2 => ?_) (fun c2 => ?_)
    ·
      have c2 := of_decide_eq_true c2
      have hi2 : i = 32 := mi_zero hi32 c2
      refine wc_exit ?_
      refine x_then_exit ?_
      refine x_in_on rfl ?_
      refine x_then_exit ?_
      refine x_then_exit ?_
      refine x_in_here ?_
      refine x_seq ?_
      refine wc_seq ?_
      refine wc_region ?_
      refine wl rfl rfl rfl (p_mv rfl) ?_
      refine wl rfl rfl rfl (p_as rfl) ?_
      refine wl_nil ?_
      refine x_seq ?_
      refine wc_ret ?_
      refine x_scope_ret ?_
      refine fin_run (res1 rfl rfl) ?_
      first
        | exact ⟨by rw [hM], HC⟩
        | exact (stop_no c2 c0).elim
        | (subst hi2; exact ⟨rfl, HC⟩)
    ·
      have c2 := of_decide_eq_false c2
      have hi2 : i < 32 := mi_pos hi32 c2
      first | have hA := acc_yes (b := b) hi2 c0 | have hA := acc_no (b := b) hi2 c0
      refine wc_skip ?_
      refine x_seq ?_
      refine wc_seq ?_
      refine wc_region ?_
      refine wl rfl rfl rfl (p_mv rfl) ?_
      refine wl rfl rfl rfl (p_and32 (Y := 1#32) rfl rfl) ?_
      refine wl rfl rfl rfl (p_eq rfl rfl) ?_
      refine wl_nil ?_
      refine x_seq ?_
      refine wc_if rfl (fun c3 => ?_) (fun c3 => ?_)
      ·
        have c3 := of_decide_eq_true c3
        have hS := stp_odd c3
        refine wc_region ?_
        refine wl rfl rfl rfl (p_mv rfl) ?_
        refine wl rfl rfl rfl (p_shr32 (Y := 1) rfl rfl) ?_
        refine wl rfl rfl rfl (p_xor32 (Y := 2197175160#32) rfl rfl) ?_
        refine wl rfl rfl rfl (p_as rfl) ?_
        refine wl_nil ?_
        refine x_in_normal ?_
        refine x_seq ?_
        refine wc_region ?_
        refine wl rfl rfl rfl (p_mv rfl) ?_
        refine wl rfl rfl rfl (p_shr32 (Y := 1) rfl rfl) ?_
        refine wl rfl rfl rfl (p_as rfl) ?_
        refine wl_nil ?_
        refine x_round (e' := [(0, u32v a), (1, u32v (pw (i + 1) b)), (5, u32v (acc a b (i + 1))), (6, u32v (e0 >>> (i + 1)))]) ⟨rfl, (by rw [pw, hS]; rfl), (by rw [hA]; rfl), (by rw [BitVec.shiftRight_add]; rfl), trivial⟩ (by rw [hm0]; omega) ⟨i + 1, rfl, rfl, by omega, HC⟩
      ·
        have c3 := of_decide_eq_false c3
        have hS := stp_ev c3
        refine wc_region ?_
        refine wl rfl rfl rfl (p_mv rfl) ?_
        refine wl rfl rfl rfl (p_shr32 (Y := 1) rfl rfl) ?_
        refine wl rfl rfl rfl (p_as rfl) ?_
        refine wl_nil ?_
        refine x_in_normal ?_
        refine x_seq ?_
        refine wc_region ?_
        refine wl rfl rfl rfl (p_mv rfl) ?_
        refine wl rfl rfl rfl (p_shr32 (Y := 1) rfl rfl) ?_
        refine wl rfl rfl rfl (p_as rfl) ?_
        refine wl_nil ?_
        refine x_round (e' := [(0, u32v a), (1, u32v (pw (i + 1) b)), (5, u32v (acc a b (i + 1))), (6, u32v (e0 >>> (i + 1)))]) ⟨rfl, (by rw [pw, hS]; rfl), (by rw [hA]; rfl), (by rw [BitVec.shiftRight_add]; rfl), trivial⟩ (by rw [hm0]; omega) ⟨i + 1, rfl, rfl, by omega, HC⟩
end Go.Proofs.YtdbdconmcgcooaaDoor
