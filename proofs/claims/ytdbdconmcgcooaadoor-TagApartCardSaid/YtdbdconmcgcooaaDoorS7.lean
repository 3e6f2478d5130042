/-
  Own text, printed by a program of mine (wip/gx): what functions of the program do, walked operation by operation.
-/
import Derived.Test.YtdbdconmcgcooaaDoorProg
import Derived.Test.YtdbdconmcgcooaaDoorGxAgg
import Derived.Test.YtdbdconmcgcooaaDoorTab
import Derived.Test.YtdbdconmcgcooaaDoorPlPack
import Derived.Test.YtdbdconmcgcooaaDoorPlSum
import Derived.Test.YtdbdconmcgcooaaDoorPlSha
import Derived.Test.YtdbdconmcgcooaaDoorPlShaSt
import Derived.Test.YtdbdconmcgcooaaDoorPlShaB
set_option linter.unusedVariables false
namespace Go.Proofs.YtdbdconmcgcooaaDoor
open Go.RowKit Go.Gx
open Go.Plain
set_option maxHeartbeats 1000000 in
set_option maxRecDepth 20000 in
theorem turn_any {w : World} {x : BitVec 32} {n : Nat} (hn : n ≤ 31) :
    Calls Tryd.prog 76 #[u32v x, u64v n] w fun e w' => e = .returned (u32v (rotr x n)) ∧ Ch No w w' := by
  have HC : Ch No w w := Ch.refl _ _
  refine enter' (args := [u32v x, u64v n]) (n := 13) Tryd.func76 rfl rfl rfl ?_
  refine wc_seq ?_
  refine wc_region ?_
  refine wl rfl rfl rfl (p_as rfl) ?_
  refine wl_nil ?_
  refine x_seq ?_
  refine wc_seq ?_
  refine wc_region ?_
  refine wl rfl rfl rfl (p_mv rfl) ?_
  refine wl rfl rfl rfl (p_mv rfl) ?_
  refine wl rfl rfl rfl (p_shr32 (Y := n) rfl rfl) ?_
  refine wl rfl rfl rfl (p_mv rfl) ?_
  refine wl rfl rfl rfl (p_mv rfl) ?_
  refine wl rfl rfl rfl (p_sub (Z := ((32 - n : Nat) : Int)) rfl rfl (by rw [wu64 (by omega)]; omega)) ?_
  refine wl rfl rfl rfl (p_shl32 (Y := 32 - n) rfl rfl) ?_
  refine wl rfl rfl rfl (p_or32 rfl rfl) ?_
  refine wl rfl rfl rfl (p_as rfl) ?_
  refine wl_nil ?_
  refine x_seq ?_
  refine wc_ret ?_
  refine fin_run (res1 rfl rfl) ?_
  exact ⟨rfl, HC⟩

set_option maxHeartbeats 1000000 in
set_option maxRecDepth 20000 in
theorem keys_any {w : World}   :
    Calls Tryd.prog 77 #[] w fun e w' => e = .returned (.agg (rk.map u32v).toArray) ∧ Ch No w w' := by
  have HC : Ch No w w := Ch.refl _ _
  refine enter' (args := []) (n := 2) Tryd.func77 rfl rfl rfl ?_
  refine wc_seq ?_
  refine wc_region ?_
  refine wle rfl (e_alloc (cs := ((List.replicate 64 0#32).map u32v).toArray) rfl (by rfl) rfl (fun w1 g0 hg0 hb0 hc hsz0 => ?_))
  have hzw1 := hc.size
  have HC := HC.tr hc
  have hge0 : w.heap.size ≤ g0 := by have := HC.size; omega
  refine wl_nil ?_
  refine x_seq ?_
  refine wc_seq ?_
  refine wc_region ?_
  refine wl rfl rfl rfl (p_bldP (cs := (rk.map u32v).toArray) rfl (fun _ => by kernel_rfl)) ?_
  refine wle rfl (e_stW (vs := (rk.map u32v)) (by kernel_rfl) (oneL one_u32 _) rfl rfl hb0 (by kernel_rfl) (fun w2 hb0 hc hsz => ?_))
  have hzw2 := hc.size
  have HC := HC.trans hc (fun _ _ h => h) (fun k hk ht => absurd ht (by omega))
  refine wl_nil ?_
  refine x_seq ?_
  refine wc_ret ?_
  refine fin_run (resC rfl rfl Tryd.underlying85 rfl (by kernel_rfl) (rngL hb0)) ?_
  exact ⟨rfl, HC⟩

set_option maxHeartbeats 1000000 in
set_option maxRecDepth 20000 in
theorem padded_any {w : World} {Ab : Option Addr} {lb cb : Nat} {Fb : Nat → Prop} {b : List UInt8} (hb : Sl w Fb u8v Ab lb cb b) (hl : lb ≤ 1099511627776) :
    Calls Tryd.prog 61 #[.slice Ab lb cb] w fun e w' => ∃ A c, e = .returned (.slice A (lb + 1 + nz b.length + 8) c) ∧ Row w' (fun k => w.heap.size ≤ k) 5 1 (.slice A (lb + 1 + nz b.length + 8) c) (lb + 1 + nz b.length + 8) ((pad b).map u8v) ∧ Ch No w w' := by
  have hbl := hb.len
  have hnz : nz b.length < 64 := by unfold nz; omega
  have hb := hb.old
  have HC : Ch No w w := Ch.refl _ _
  refine enter' (args := [.slice Ab lb cb]) (n := 36) Tryd.func61 rfl rfl rfl ?_
  refine wc_seq ?_
  refine wc_region ?_
  refine wl rfl rfl rfl (p_as rfl) ?_
  refine wl_nil ?_
  refine x_seq ?_
  refine wc_seq ?_
  refine wc_region ?_
  refine wle rfl (e_bsl (cs := #[]) (E := 5) rfl rfl (fun _ => by kernel_rfl) (fun w1 g6 hg6 hb6 hc hsz6 => ?_))
  have hzw1 := hc.size
  have HC := HC.tr hc
  have hb := hb.no hc
  have hge6 : w.heap.size ≤ g6 := by have := HC.size; omega
  have hW6 := Row.lit (l := 0) (f := u8v) (xs := []) (F := fun k => g6 ≤ k) hb6 (by first | omega | (dsimp only; omega)) rfl rfl (by simp [maxLen])
  refine wl rfl rfl rfl (p_mv rfl) ?_
  refine wle rfl (e_appS rfl el22 one_u8 rfl rfl hW6 hb (by omega) (by intro k hk; first | omega | (dsimp only at *; omega)) (fun w2 A8 c8 hW6 hc => ?_))
  have hzw2 := hc.size
  have HC := HC.trans hc (fun _ _ h => h) (fun k hk ht => absurd ht (by first | omega | (dsimp only at *; omega)))
  first | have hb := hb.ch hc (by intro k hk ht; first | omega | (dsimp only at *; omega)) | have hb := hb.chT hc (by intro k hz hk ht; first | omega | (dsimp only at *; omega))
  refine wle rfl (e_bslV (E := 5) rfl rfl (fun _ => by kernel_rfl) (fun w3 g9 hg9 hb9 hc hsz9 => ?_))
  have hzw3 := hc.size
  have HC := HC.tr hc
  have hb := hb.no hc
  have hW6 := hW6.after hc
  have hge9 : w.heap.size ≤ g9 := by have := HC.size; omega
  have hS9 := Sl.lit1 (f := u8v) (x := 128) hb9
  refine wle rfl (e_appS rfl el22 one_u8 rfl rfl hW6 hS9 (by omega) (by intro k hk; first | omega | (dsimp only at *; omega)) (fun w4 A10 c10 hW6 hc => ?_))
  have hzw4 := hc.size
  have HC := HC.trans hc (fun _ _ h => h) (fun k hk ht => absurd ht (by first | omega | (dsimp only at *; omega)))
  first | have hb := hb.ch hc (by intro k hk ht; first | omega | (dsimp only at *; omega)) | have hb := hb.chT hc (by intro k hz hk ht; first | omega | (dsimp only at *; omega))
  first | have hS9 := hS9.ch hc (by intro k hk ht; first | omega | (dsimp only at *; omega)) | have hS9 := hS9.chT hc (by intro k hz hk ht; first | omega | (dsimp only at *; omega))
  refine wl rfl rfl rfl (p_as rfl) ?_
  refine wl_nil ?_
  refine x_seq ?_
  refine wc_seq ?_
  refine wc_block ?_
  refine wc_loop (e' := [(0, .slice Ab lb cb), (3, .slice (A10) (lb + 1 + (0)) (c10))]) (fun mz ez uz => ∃ j : Nat, ∃ A : Option Addr, ∃ c : Nat, mz = nz b.length - j ∧ ez = [(0, .slice Ab lb cb), (3, .slice A (lb + 1 + j) c)] ∧ (j ≤ nz b.length) ∧ (Row uz (fun k => w.heap.size ≤ k) 5 1 (.slice A (lb + 1 + j) c) (lb + 1 + j) ((pz b j).map u8v)) ∧ (Sl uz (fun k => k < w.heap.size) u8v Ab lb cb b) ∧ (Ch No w uz))
    ⟨rfl, (congrArg (fun z => some (Value.slice A10 z c10)) (show 0 + lb + 1 = lb + 1 + 0 by omega)), trivial⟩ ⟨0, A10, c10, rfl, rfl, by omega, by rw [show lb + 1 + 0 = 0 + lb + 1 by omega]; exact hW6.mono (fun k _ hk => by first | omega | (dsimp only at *; omega)), hb, HC⟩ ?_
  rintro m0 e w5 ⟨j, A, c, hm0, rfl, hj, hW6, hb, HC⟩
  have hzw5 := HC.size
  have hpl := pz_len (m := b) (j := j)
  refine wc_seq ?_
  refine wc_seq ?_
  refine wc_region ?_
  refine wl rfl rfl rfl (p_mv rfl) ?_
  refine wl rfl rfl rfl (p_lenS Tryd.underlying22 rfl) ?_
  refine wl rfl rfl rfl (p_rem (Z := (((pz b j).length % 64 : Nat) : Int)) rfl rfl (by omega) (by rw [pz_len, hbl]; rfl)) ?_
  refine wl rfl rfl rfl (p_ne rfl rfl) ?_
  refine wl_nil ?_
  refine x_seq ?_
  refine wc_if rfl (fun c0 => ?_) (fun c0 => ?_)
  ·
    have c0 := of_decide_eq_true c0
    have hjn : j < nz b.length := nz_on hj (fun e => c0 (by rw [hpl, e]; rfl))
    refine wc_skip ?_
    refine x_seq ?_
    refine wc_block ?_
    refine wc_region ?_
    refine wl rfl rfl rfl (p_mv rfl) ?_
    refine wle rfl (e_bslV (E := 5) rfl rfl (fun _ => by kernel_rfl) (fun w6 g16 hg16 hb16 hc hsz16 => ?_))
    have hzw6 := hc.size
    have HC := HC.tr hc
    have hb := hb.no hc
    have hW6 := hW6.after hc
    have hge16 : w.heap.size ≤ g16 := by have := HC.size; omega
    have hS16 := Sl.lit1 (f := u8v) (x := 0) hb16
    refine wle rfl (e_appS rfl el22 one_u8 rfl rfl hW6 hS16 (by omega) (by intro k hk; first | omega | (dsimp only at *; omega)) (fun w7 A17 c17 hW6 hc => ?_))
    have hzw7 := hc.size
    have HC := HC.trans hc (fun _ _ h => h) (fun k hk ht => absurd ht (by first | omega | (dsimp only at *; omega)))
    first | have hb := hb.ch hc (by intro k hk ht; first | omega | (dsimp only at *; omega)) | have hb := hb.chT hc (by intro k hz hk ht; first | omega | (dsimp only at *; omega))
    first | have hS16 := hS16.ch hc (by intro k hk ht; first | omega | (dsimp only at *; omega)) | have hS16 := hS16.chT hc (by intro k hz hk ht; first | omega | (dsimp only at *; omega))
    refine wl rfl rfl rfl (p_as rfl) ?_
    refine wl_nil ?_
    refine x_in_normal ?_
    refine x_round (e' := [(0, .slice Ab lb cb), (3, .slice (A17) (lb + 1 + (j + 1)) (c17))]) ⟨rfl, rfl, trivial⟩ (by rw [hm0]; omega) ⟨j + 1, A17, c17, rfl, rfl, by omega, by rw [← pz_next]; exact hW6.mono (fun k _ hk => by first | omega | (dsimp only at *; omega)), hb, HC⟩
  ·
    have c0 := of_decide_eq_false c0
    have hjn : j = nz b.length := nz_stop hj (by rw [hpl] at c0; omega)
    subst hjn
    rw [pq_zero] at hW6
    refine wc_exit ?_
    refine x_then_exit ?_
    refine x_then_exit ?_
    refine x_in_here ?_
    refine x_seq ?_
    refine wc_seq ?_
    refine wc_region ?_
    refine wl rfl rfl rfl (p_mv rfl) ?_
    refine wl rfl rfl rfl (p_lenS Tryd.underlying22 rfl) ?_
    refine wl rfl rfl rfl (p_conv Tryd.underlying3 Tryd.underlying79 rfl (wu64 (by omega))) ?_
    refine wl rfl rfl rfl (p_mul (Z := ((8 * b.length : Nat) : Int)) rfl rfl (by rw [wu64 (by omega)]; omega)) ?_
    refine wl rfl rfl rfl (p_as rfl) ?_
    refine wl_nil ?_
    refine x_seq ?_
    refine wc_seq ?_
    refine wc_seq ?_
    refine wc_region ?_
    refine wl rfl rfl rfl (p_as rfl) ?_
    refine wl_nil ?_
    refine x_seq ?_
    refine wc_block ?_
    refine wc_loop (e' := [(0, .slice Ab lb cb), (3, .slice (A) (lb + 1 + nz b.length + (0)) (c)), (4, u64v (8 * b.length)), (5, i64 (7 - ((0) : Int)))]) (fun mz ez uz => ∃ k : Nat, ∃ A : Option Addr, ∃ c : Nat, mz = 8 - k ∧ ez = [(0, .slice Ab lb cb), (3, .slice A (lb + 1 + nz b.length + k) c), (4, u64v (8 * b.length)), (5, i64 (7 - (k : Int)))] ∧ (k ≤ 8) ∧ (Row uz (fun k => w.heap.size ≤ k) 5 1 (.slice A (lb + 1 + nz b.length + k) c) (lb + 1 + nz b.length + k) ((pq b k).map u8v)) ∧ (Sl uz (fun k => k < w.heap.size) u8v Ab lb cb b) ∧ (Ch No w uz))
      ⟨rfl, rfl, rfl, rfl, trivial⟩ ⟨0, A, c, rfl, rfl, by omega, hW6.mono (fun k _ hk => by first | omega | (dsimp only at *; omega)), hb, HC⟩ ?_
    rintro m1 e w8 ⟨k, A, c, hm1, rfl, hk, hW6, hb, HC⟩
    have hzw8 := HC.size
    refine wc_seq ?_
    refine wc_seq ?_
    refine wc_region ?_
    refine wl rfl rfl rfl (p_mv rfl) ?_
    refine wl rfl rfl rfl (p_ge rfl rfl) ?_
    refine wl_nil ?_
    refine x_seq ?_
    refine wc_if rfl (fun c1 => ?_) (fun c1 => ?_)
    ·
      have c1 := of_decide_eq_true c1
      refine wc_skip ?_
      refine x_seq ?_
      refine wc_seq ?_
      refine wc_block ?_
      refine wc_region ?_
      refine wl rfl rfl rfl (p_mv rfl) ?_
      refine wl rfl rfl rfl (p_mv rfl) ?_
      refine wl rfl rfl rfl (p_mv (v := i64 ((7 - k : Nat) : Int)) (show some (i64 (7 - (k : Int))) = some (i64 ((7 - k : Nat) : Int)) from congrArg some (congrArg i64 (by omega)))) ?_
      refine wl rfl rfl rfl (p_mul (Z := ((56 - 8 * k : Nat) : Int)) rfl rfl (by rw [w64 (by omega)]; omega)) ?_
      refine wl rfl rfl rfl (p_conv Tryd.underlying3 Tryd.underlying46 rfl (wu64 (by omega))) ?_
      refine wl rfl rfl rfl (p_shrN (Y := 56 - 8 * k) rfl rfl (Nat.ble_eq_true_of_le (show 56 - 8 * k ≤ 64 by omega))) ?_
      refine wl rfl rfl rfl (p_convN8 Tryd.underlying79 Tryd.underlying5 rfl) ?_
      refine wle rfl (e_bslV (E := 5) rfl rfl (fun _ => by kernel_rfl) (fun w9 g33 hg33 hb33 hc hsz33 => ?_))
      have hzw9 := hc.size
      have HC := HC.tr hc
      have hb := hb.no hc
      have hW6 := hW6.after hc
      have hge33 : w.heap.size ≤ g33 := by have := HC.size; omega
      have hS33 := Sl.lit1 (f := u8v) hb33
      refine wle rfl (e_appS rfl el22 one_u8 rfl rfl hW6 hS33 (by omega) (by intro k hk; first | omega | (dsimp only at *; omega)) (fun w10 A34 c34 hW6 hc => ?_))
      have hzw10 := hc.size
      have HC := HC.trans hc (fun _ _ h => h) (fun k hk ht => absurd ht (by first | omega | (dsimp only at *; omega)))
      first | have hb := hb.ch hc (by intro k hk ht; first | omega | (dsimp only at *; omega)) | have hb := hb.chT hc (by intro k hz hk ht; first | omega | (dsimp only at *; omega))
      first | have hS33 := hS33.ch hc (by intro k hk ht; first | omega | (dsimp only at *; omega)) | have hS33 := hS33.chT hc (by intro k hz hk ht; first | omega | (dsimp only at *; omega))
      refine wl rfl rfl rfl (p_as rfl) ?_
      refine wl_nil ?_
      refine x_in_normal ?_
      refine x_seq ?_
      refine wc_region ?_
      refine wl rfl rfl rfl (p_mv rfl) ?_
      refine wl rfl rfl rfl (p_sub rfl rfl (w64 (by omega))) ?_
      refine wl rfl rfl rfl (p_as rfl) ?_
      refine wl_nil ?_
      refine x_round (e' := [(0, .slice Ab lb cb), (3, .slice (A34) (lb + 1 + nz b.length + (k + 1)) (c34)), (4, u64v (8 * b.length)), (5, i64 (7 - ((k + 1) : Int)))]) ⟨rfl, rfl, rfl, (congrArg some (congrArg i64 (by omega))), trivial⟩ (by rw [hm1]; omega) ⟨k + 1, A34, c34, rfl, rfl, by omega, by rw [← pq_next (by omega)]; exact hW6.mono (fun k _ hk => by first | omega | (dsimp only at *; omega)), hb, HC⟩
    ·
      have c1 := of_decide_eq_false c1
      obtain rfl : k = 8 := by omega
      rw [pq_all] at hW6
      refine wc_exit ?_
      refine x_then_exit ?_
      refine x_then_exit ?_
      refine x_in_here ?_
      refine x_seq ?_
      refine wc_seq ?_
      refine wc_region ?_
      refine wl rfl rfl rfl (p_mv rfl) ?_
      refine wl rfl rfl rfl (p_as rfl) ?_
      refine wl_nil ?_
      refine x_seq ?_
      refine wc_ret ?_
      refine fin_run (res1 rfl rfl) ?_
      exact ⟨_, _, rfl, hW6, HC⟩
end Go.Proofs.YtdbdconmcgcooaaDoor
