/-
  Own text, printed by a program of mine (wip/gx): what functions of the program do, walked operation by operation.
-/
import Derived.Test.YtdbdconmcgcooaaDoorProg
import Derived.Test.YtdbdconmcgcooaaDoorGxAux
import Derived.Test.YtdbdconmcgcooaaDoorTab
import Derived.Test.YtdbdconmcgcooaaDoorPlPack
import Derived.Test.YtdbdconmcgcooaaDoorPlPackB
import Derived.Test.YtdbdconmcgcooaaDoorPlSum
import Derived.Test.YtdbdconmcgcooaaDoorPlSumB
import Derived.Test.YtdbdconmcgcooaaDoorD1
set_option linter.unusedVariables false
namespace Go.Proofs.YtdbdconmcgcooaaDoor
open Go.RowKit Go.Gx
open Go.Plain
set_option maxHeartbeats 1000000 in
set_option maxRecDepth 20000 in
theorem join_any {w : World} {a b : BitVec 32} {n : Nat} (hn : n ≤ 9223372036854775807) :
    Calls Tryd.prog 24 #[u32v a, u32v b, i64 (n : Int)] w fun e w' => e = .returned (u32v (pw (8 * n) a ^^^ b)) ∧ Ch No w w' := by
  have HC : Ch No w w := Ch.refl _ _
  refine enter' (args := [u32v a, u32v b, i64 (n : Int)]) (n := 27) Tryd.func24 rfl rfl rfl ?_
  refine wc_seq ?_
  refine wc_region ?_
  refine wl rfl rfl rfl (p_as rfl) ?_
  refine wl_nil ?_
  refine x_seq ?_
  refine wc_seq ?_
  refine wc_region ?_
  refine wl rfl rfl rfl (p_as rfl) ?_
  refine wl_nil ?_
  refine x_seq ?_
  refine wc_seq ?_
  refine wc_region ?_
  refine wl rfl rfl rfl (p_as rfl) ?_
  refine wl_nil ?_
  refine x_seq ?_
  refine wc_seq ?_
  refine wc_block ?_
  refine wc_loop (e' := [(0, u32v a), (1, u32v b), (2, i64 ((n) : Int)), (7, u32v (e0)), (8, u32v (pw (8 * 2 ^ (0)) e0))]) (fun m e u => ∃ n2 : Nat, ∃ q : Nat, ∃ x : BitVec 32, m = n2 ∧ e = [(0, u32v a), (1, u32v b), (2, i64 (n2 : Int)), (7, u32v x), (8, u32v (pw (8 * 2 ^ q) e0))] ∧ JoinI n n2 q x ∧ Ch No w u)
    ⟨rfl, rfl, rfl, rfl, (rfl), trivial⟩ ⟨n, 0, e0, rfl, rfl, joinI_start n, HC⟩ ?_
  rintro m0 e w1 ⟨n2, q, x, hm0, rfl, hk, HC⟩
  have hzw1 := HC.size
  refine wc_seq ?_
  refine wc_seq ?_
  refine wc_region ?_
  refine wl rfl rfl rfl (p_mv rfl) ?_
  refine wl rfl rfl rfl (p_gt rfl rfl) ?_
  refine wl_nil ?_
  refine x_seq ?_
  refine wc_if rfl (fun c0 => ?_) (fun c0 => ?_)
  ·
    have c0 := of_decide_eq_true c0
    refine wc_skip ?_
    refine x_seq ?_
    refine wc_seq ?_
    refine wc_block ?_
    refine wc_seq ?_
    refine wc_seq ?_
    refine wc_region ?_
    refine wl rfl rfl rfl (p_mv rfl) ?_
    refine wl rfl rfl rfl (p_and64 rfl rfl (Z := ((n2 % 2 : Nat) : Int)) (and1_i64 n2)) ?_
    refine wl rfl rfl rfl (p_eq rfl rfl) ?_
    refine wl_nil ?_
    refine x_seq ?_
    refine wc_if rfl (fun c1 => ?_) (fun c1 => ?_)
    ·
      have c1 := of_decide_eq_true c1
      have hbit : n2 % 2 = 1 := by omega
      have hx := join_yes (q := q) hbit hk
      refine wc_region ?_
      refine wl rfl rfl rfl (p_mv rfl) ?_
      refine wl rfl rfl rfl (p_mv rfl) ?_
      refine wle rfl (e_call ent63 rfl rfl (times_any ) ?_)
      rintro _ w2 ⟨rfl, hc⟩
      refine ⟨_, rfl, ?_⟩
      have hzw2 := hc.size
      have HC := HC.tr hc
      refine wl rfl rfl rfl (p_as rfl) ?_
      refine wl_nil ?_
      refine x_seq ?_
      refine wc_region ?_
      refine wl rfl rfl rfl (p_mv rfl) ?_
      refine wl rfl rfl rfl (p_mv rfl) ?_
      refine wle rfl (e_call ent63 rfl rfl (times_any ) ?_)
      rintro _ w3 ⟨rfl, hc⟩
      refine ⟨_, rfl, ?_⟩
      have hzw3 := hc.size
      have HC := HC.tr hc
      refine wl rfl rfl rfl (p_as rfl) ?_
      refine wl_nil ?_
      refine x_in_normal ?_
      refine x_seq ?_
      refine wc_region ?_
      refine wl rfl rfl rfl (p_mv rfl) ?_
      refine wl rfl rfl rfl (p_shrN (Y := 1) rfl rfl rfl) ?_
      refine wl rfl rfl rfl (p_as rfl) ?_
      refine wl_nil ?_
      refine x_round (e' := [(0, u32v a), (1, u32v b), (2, i64 ((n2 / 2 ^ 1) : Int)), (7, u32v (pw (8 * (n - n2 / 2 * 2 ^ (q + 1))) e0)), (8, u32v (pw (8 * 2 ^ (q + 1)) e0))]) ⟨rfl, rfl, rfl, (by rw [hx.2]; rfl), (by rw [join_sq]; rfl), trivial⟩ (by rw [hm0]; exact Nat.div_lt_self (by omega) (by omega)) ⟨n2 / 2 ^ 1, q + 1, pw (8 * (n - n2 / 2 * 2 ^ (q + 1))) e0, rfl, rfl, hx.1, HC⟩
    ·
      have c1 := of_decide_eq_false c1
      have hbit : n2 % 2 = 0 := by omega
      have hx := join_no (q := q) hbit hk
      refine wc_skip ?_
      refine x_seq ?_
      refine wc_region ?_
      refine wl rfl rfl rfl (p_mv rfl) ?_
      refine wl rfl rfl rfl (p_mv rfl) ?_
      refine wle rfl (e_call ent63 rfl rfl (times_any ) ?_)
      rintro _ w4 ⟨rfl, hc⟩
      refine ⟨_, rfl, ?_⟩
      have hzw4 := hc.size
      have HC := HC.tr hc
      refine wl rfl rfl rfl (p_as rfl) ?_
      refine wl_nil ?_
      refine x_in_normal ?_
      refine x_seq ?_
      refine wc_region ?_
      refine wl rfl rfl rfl (p_mv rfl) ?_
      refine wl rfl rfl rfl (p_shrN (Y := 1) rfl rfl rfl) ?_
      refine wl rfl rfl rfl (p_as rfl) ?_
      refine wl_nil ?_
      refine x_round (e' := [(0, u32v a), (1, u32v b), (2, i64 ((n2 / 2 ^ 1) : Int)), (7, u32v (pw (8 * (n - n2 / 2 * 2 ^ (q + 1))) e0)), (8, u32v (pw (8 * 2 ^ (q + 1)) e0))]) ⟨rfl, rfl, rfl, (by rw [hx.2]; rfl), (by rw [join_sq]; rfl), trivial⟩ (by rw [hm0]; exact Nat.div_lt_self (by omega) (by omega)) ⟨n2 / 2 ^ 1, q + 1, pw (8 * (n - n2 / 2 * 2 ^ (q + 1))) e0, rfl, rfl, hx.1, HC⟩
  ·
    have c0 := of_decide_eq_false c0
    have h0 : n2 = 0 := by omega
    have hfin := join_fin (a := a) h0 hk
    refine wc_exit ?_
    refine x_then_exit ?_
    refine x_then_exit ?_
    refine x_in_here ?_
    refine x_seq ?_
    refine wc_seq ?_
    refine wc_region ?_
    refine wl rfl rfl rfl (p_mv rfl) ?_
    refine wl rfl rfl rfl (p_mv rfl) ?_
    refine wle rfl (e_call ent63 rfl rfl (times_any ) ?_)
    rintro _ w5 ⟨rfl, hc⟩
    refine ⟨_, rfl, ?_⟩
    have hzw5 := hc.size
    have HC := HC.tr hc
    refine wl rfl rfl rfl (p_mv rfl) ?_
    refine wl rfl rfl rfl (p_xor32 rfl rfl) ?_
    refine wl rfl rfl rfl (p_as rfl) ?_
    refine wl_nil ?_
    refine x_seq ?_
    refine wc_ret ?_
    refine fin_run (res1 rfl rfl) ?_
    exact ⟨by rw [hfin], HC⟩
end Go.Proofs.YtdbdconmcgcooaaDoor
