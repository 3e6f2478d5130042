/-
  Own text, printed by a program of mine (wip/gx): what functions of the program do, walked operation by operation.
-/
import Derived.Test.YtcgapjieidmkpaaDoorProg
import Derived.Test.YtcgapjieidmkpaaDoorGxAgg
import Derived.Test.YtcgapjieidmkpaaDoorTab
import Derived.Test.YtcgapjieidmkpaaDoorGxZer
import Derived.Test.YtcgapjieidmkpaaDoorPlDisk
import Derived.Test.YtcgapjieidmkpaaDoorPlDiskSt
import Derived.Test.YtcgapjieidmkpaaDoorPlDiskOk
import Derived.Test.YtcgapjieidmkpaaDoorPlDiskC
import Derived.Test.YtcgapjieidmkpaaDoorPlDiskLaw
import Derived.Test.YtcgapjieidmkpaaDoorPlActD
import Derived.Test.YtcgapjieidmkpaaDoorPlActs
import Derived.Test.YtcgapjieidmkpaaDoorPlWal
import Derived.Test.YtcgapjieidmkpaaDoorPlWalSt
import Derived.Test.YtcgapjieidmkpaaDoorPlWalLaw
import Derived.Test.YtcgapjieidmkpaaDoorPlWalKeep
import Derived.Test.YtcgapjieidmkpaaDoorDTd
import Derived.Test.YtcgapjieidmkpaaDoorVD
set_option linter.unusedVariables false
namespace Go.Proofs.YtcgapjieidmkpaaDoor
open Go.RowKit Go.Gx
open Go.Plain
set_option maxHeartbeats 1000000 in
set_option maxRecDepth 20000 in
theorem light6_any {w : World} {Aq : Option Addr} {lq cq : Nat} {Fq : Nat → Prop} {q : List ActD} (hq : SA w Fq Aq lq cq q) (hcq : cq ≤ 1954687338211) :
    Calls Tryd.prog 20 #[.slice Aq lq cq] w fun e w' => ∃ b, e = .returned (.bool b) ∧ Ch No w w' := by
  have hql := hq.len
  have hqc := hq.cap
  have hq := hq.old
  have HC : Ch No w w := Ch.refl _ _
  refine enter' (args := [.slice Aq lq cq]) (n := 41) Tryd.func20 rfl rfl rfl ?_
  refine wc_seq ?_
  refine wc_region ?_
  refine wl rfl rfl rfl (p_as rfl) ?_
  refine wl_nil ?_
  refine x_seq ?_
  refine wc_seq ?_
  refine wc_region ?_
  refine wl rfl rfl rfl (p_mv rfl) ?_
  refine wl rfl rfl rfl (p_lenS Tryd.underlying51 rfl) ?_
  refine wl rfl rfl rfl (p_as rfl) ?_
  refine wl_nil ?_
  refine x_seq ?_
  refine wc_seq ?_
  refine wc_seq ?_
  refine wc_region ?_
  refine wl rfl rfl rfl (p_mv rfl) ?_
  refine wl rfl rfl rfl (p_gt rfl rfl) ?_
  refine wl_nil ?_
  refine x_seq ?_
  refine wc_if rfl (fun c0 => ?_) (fun c0 => ?_)
  ·
    have c0 := of_decide_eq_true c0
    refine wc_seq ?_
    refine wc_region ?_
    refine wl rfl rfl rfl (p_as rfl) ?_
    refine wl_nil ?_
    refine x_seq ?_
    refine wc_ret ?_
    refine x_then_ret ?_
    refine fin_run (res1 rfl rfl) ?_
    exact ⟨_, rfl, HC⟩
  ·
    have c0 := of_decide_eq_false c0
    refine wc_skip ?_
    refine x_seq ?_
    refine wc_seq ?_
    refine wc_seq ?_
    refine wc_region ?_
    refine wl rfl rfl rfl (p_mv rfl) ?_
    refine wl rfl rfl rfl (p_lenS Tryd.underlying51 rfl) ?_
    refine wl rfl rfl rfl (p_mv rfl) ?_
    refine wl_nil ?_
    refine x_seq ?_
    refine wc_block ?_
    refine wc_loop (e' := [(0, .slice Aq lq cq), (3, i64 ((lq) : Int)), (10, .slice Aq lq cq), (11, i64 (lq : Int)), (12, i64 ((0) : Int))]) (fun mz ez uz => ∃ i : Nat, ∃ N : Nat, mz = lq - i ∧ ez = [(0, .slice Aq lq cq), (3, i64 (N : Int)), (10, .slice Aq lq cq), (11, i64 (lq : Int)), (12, i64 (i : Int))] ∧ (i ≤ lq) ∧ (N ≤ 400) ∧ (SA uz (fun k => k < w.heap.size) Aq lq cq q) ∧ (Ch No w uz))
      ⟨rfl, rfl, rfl, rfl, rfl, trivial⟩ ⟨0, lq, rfl, rfl, by omega, by omega, hq, HC⟩ ?_
    rintro m0 e w1 ⟨i, N, hm0, rfl, hi, hN, hq, HC⟩
    have hzw1 := HC.size
    refine wc_seq ?_
    refine wc_region ?_
    refine wl rfl rfl rfl (p_lt rfl rfl) ?_
    refine wl_nil ?_
    refine x_seq ?_
    refine wc_seq ?_
    refine wc_if rfl (fun c1 => ?_) (fun c1 => ?_)
    ·
      have c1 := of_decide_eq_true c1
      refine wc_skip ?_
      refine x_seq ?_
      refine wc_seq ?_
      refine wc_block ?_
      refine wc_seq ?_
      refine wc_region ?_
      obtain ⟨a14, ha14, b14, o14, bA14, bl14, bc14, kA14, kl14, kc14, hA14, hr14, hB14, hK14, hbz14, hkz14, h1a14, h2a14, h1n14, h2n14⟩ := hq.opn5 (i := i) (by omega)
      have hBl14 := hB14.len
      have hBc14 := hB14.cap
      have hKl14 := hK14.len
      have hKc14 := hK14.cap
      refine wl rfl rfl rfl (p_ixS (j := i * 5) Tryd.underlying51 sz53 rfl hA14 rfl (by omega) (by omega) (congrArg (· * 5) (Int.toNat_natCast _))) ?_
      refine wl rfl rfl rfl (p_ldA (cs := [i64 a14.kind, i64 a14.a, i64 a14.n, .slice bA14 bl14 bc14, .slice kA14 kl14 kc14]) Tryd.underlying53 rfl sz53 rfl (fun _ e => e ▸ hr14)) ?_
      refine wle rfl (e_alloc (cs := #[.int .i64 0, .int .i64 0, .int .i64 0, .slice none 0 0, .slice none 0 0]) rfl (by rfl) rfl (fun w3 g5 hg5 hb5 hc hsz5 => ?_))
      have hzw3 := hc.size
      have HC := HC.tr hc
      have hq := hq.no hc
      have hB14 := hB14.no hc
      have hK14 := hK14.no hc
      have hge5 : w.heap.size ≤ g5 := by have := HC.size; omega
      refine wle rfl (e_stW (vs := [i64 a14.kind, i64 a14.a, i64 a14.n, .slice bA14 bl14 bc14, .slice kA14 kl14 kc14]) sz53 (allOne rfl) rfl rfl hb5 (by rfl) (fun w4 hb5 hc hsz => ?_))
      have hzw4 := hc.size
      have HC := HC.trans hc (fun _ _ h => h) (fun k hk ht => absurd ht (by omega))
      have hq := hq.ch hc (by intro k hk ht; have h2 : k < w.heap.size := hk; first | omega | (dsimp only at *; omega))
      first | have hB14 := hB14.ch hc (by intro k hk ht; first | omega | (dsimp only at *; omega)) | have hB14 := hB14.chT hc (by intro k hz hk ht; first | omega | (dsimp only at *; omega))
      first | have hK14 := hK14.ch hc (by intro k hk ht; first | omega | (dsimp only at *; omega)) | have hK14 := hK14.chT hc (by intro k hz hk ht; first | omega | (dsimp only at *; omega))
      refine wl_nil ?_
      refine x_seq ?_
      refine wc_seq ?_
      refine wc_seq ?_
      refine wc_region ?_
      refine wl rfl rfl rfl (p_fld (j := 3) Tryd.underlying53 rfl ⟨_, by rfl⟩ rfl rfl) ?_
      refine wl rfl rfl rfl (p_ld Tryd.underlying22 rfl rfl (ld (hb5.cell rfl))) ?_
      refine wl rfl rfl rfl (p_lenS Tryd.underlying22 rfl) ?_
      refine wl rfl rfl rfl (p_gt rfl rfl) ?_
      refine wl rfl rfl rfl (p_mv rfl) ?_
      refine wl_split (d := 20) rfl (fun q20 => ?_) (fun q20 => ?_)
      ·
        have q20 := of_decide_eq_true q20
        refine wl_g (gd_ rfl rfl rfl rfl rfl rfl) rfl rfl (p_fld (j := 3) Tryd.underlying53 rfl ⟨_, by rfl⟩ rfl rfl) ?_
        refine wl_g (gd_ rfl rfl rfl rfl rfl rfl) rfl rfl (p_ld Tryd.underlying22 rfl rfl (ld (hb5.cell rfl))) ?_
        refine wl_g (gd_ rfl rfl rfl rfl rfl rfl) rfl rfl (p_lenS Tryd.underlying22 rfl) ?_
        refine wl_g (gd_ rfl rfl rfl rfl rfl rfl) rfl rfl (p_le rfl rfl) ?_
        refine wl rfl rfl rfl (p_pickT rfl rfl) ?_
        refine wl rfl rfl rfl (p_mv rfl) ?_
        refine wl_split (d := 26) rfl (fun q26 => ?_) (fun q26 => ?_)
        ·
          have q26 := of_decide_eq_true q26
          refine wl_s (gd_ rfl rfl rfl rfl rfl rfl) rfl rfl ?_
          refine wl_s (gd_ rfl rfl rfl rfl rfl rfl) rfl rfl ?_
          refine wl_s (gd_ rfl rfl rfl rfl rfl rfl) rfl rfl ?_
          refine wl_s (gd_ rfl rfl rfl rfl rfl rfl) rfl rfl ?_
          refine wl rfl rfl rfl (p_pickT rfl rfl) ?_
          refine wl_nil ?_
          refine x_seq ?_
          refine wc_yes rfl (rfl) ?_
          refine wc_seq ?_
          refine wc_region ?_
          refine wl rfl rfl rfl (p_as rfl) ?_
          refine wl_nil ?_
          refine x_seq ?_
          refine wc_ret ?_
          refine x_then_ret ?_
          refine x_in_ret ?_
          refine x_then_ret ?_
          refine x_then_ret ?_
          refine x_in_ret ?_
          refine x_then_ret ?_
          refine fin_run (res1 rfl rfl) ?_
          exact ⟨_, rfl, HC⟩
        ·
          have q26 := of_decide_eq_false q26
          refine wl_g (gd_ rfl rfl rfl rfl rfl rfl) rfl rfl (p_fld (j := 4) Tryd.underlying53 rfl ⟨_, by rfl⟩ rfl rfl) ?_
          refine wl_g (gd_ rfl rfl rfl rfl rfl rfl) rfl rfl (p_ld Tryd.underlying45 rfl rfl (ld (hb5.cell rfl))) ?_
          refine wl_g (gd_ rfl rfl rfl rfl rfl rfl) rfl rfl (p_lenS Tryd.underlying45 rfl) ?_
          refine wl_g (gd_ rfl rfl rfl rfl rfl rfl) rfl rfl (p_gt rfl rfl) ?_
          refine wl rfl rfl rfl (p_pickF rfl rfl) ?_
          refine wl_nil ?_
          refine x_seq ?_
          refine wc_if rfl (fun c2 => ?_) (fun c2 => ?_)
          ·
            have c2 := of_decide_eq_true c2
            refine wc_seq ?_
            refine wc_region ?_
            refine wl rfl rfl rfl (p_as rfl) ?_
            refine wl_nil ?_
            refine x_seq ?_
            refine wc_ret ?_
            refine x_then_ret ?_
            refine x_in_ret ?_
            refine x_then_ret ?_
            refine x_then_ret ?_
            refine x_in_ret ?_
            refine x_then_ret ?_
            refine fin_run (res1 rfl rfl) ?_
            exact ⟨_, rfl, HC⟩
          ·
            have c2 := of_decide_eq_false c2
            refine wc_skip ?_
            refine x_seq ?_
            refine wc_seq ?_
            refine wc_region ?_
            refine wl rfl rfl rfl (p_mv rfl) ?_
            refine wl rfl rfl rfl (p_fld (j := 3) Tryd.underlying53 rfl ⟨_, by rfl⟩ rfl rfl) ?_
            refine wl rfl rfl rfl (p_ld Tryd.underlying22 rfl rfl (ld (hb5.cell rfl))) ?_
            refine wl rfl rfl rfl (p_lenS Tryd.underlying22 rfl) ?_
            refine wl rfl rfl rfl (p_quo (Z := ((bl14 / 64 : Nat) : Int)) rfl rfl (by omega) (by rw [show ((bl14 : Nat) : Int).tdiv 64 = ((bl14 / 64 : Nat) : Int) from rfl, w64 (by omega)])) ?_
            refine wl rfl rfl rfl (p_add (Z := ((N + bl14 / 64 : Nat) : Int)) rfl rfl (by rw [w64 (by omega)]; omega)) ?_
            refine wl rfl rfl rfl (p_as rfl) ?_
            refine wl_nil ?_
            refine x_seq ?_
            refine wc_seq ?_
            refine wc_region ?_
            refine wl rfl rfl rfl (p_mv rfl) ?_
            refine wl rfl rfl rfl (p_gt rfl rfl) ?_
            refine wl_nil ?_
            refine x_seq ?_
            refine wc_if rfl (fun c3 => ?_) (fun c3 => ?_)
            ·
              have c3 := of_decide_eq_true c3
              refine wc_seq ?_
              refine wc_region ?_
              refine wl rfl rfl rfl (p_as rfl) ?_
              refine wl_nil ?_
              refine x_seq ?_
              refine wc_ret ?_
              refine x_in_ret ?_
              refine x_then_ret ?_
              refine x_then_ret ?_
              refine x_in_ret ?_
              refine x_then_ret ?_
              refine fin_run (res1 rfl rfl) ?_
              exact ⟨_, rfl, HC⟩
            ·
              have c3 := of_decide_eq_false c3
              refine wc_skip ?_
              refine x_in_normal ?_
              refine x_seq ?_
              refine wc_region ?_
              refine wl rfl rfl rfl (p_add rfl rfl (w64 (by omega))) ?_
              refine wl rfl rfl rfl (p_mv rfl) ?_
              refine wl_nil ?_
              refine x_round (e' := [(0, .slice Aq lq cq), (3, i64 ((N + bl14 / 64) : Int)), (10, .slice Aq lq cq), (11, i64 (lq : Int)), (12, i64 ((i + 1) : Int))]) ⟨rfl, rfl, rfl, rfl, rfl, trivial⟩ (by rw [hm0]; omega) ⟨i + 1, N + bl14 / 64, rfl, rfl, by omega, by omega, hq, HC⟩
      ·
        have q20 := of_decide_eq_false q20
        refine wl_s (gd_ rfl rfl rfl rfl rfl rfl) rfl rfl ?_
        refine wl_s (gd_ rfl rfl rfl rfl rfl rfl) rfl rfl ?_
        refine wl_s (gd_ rfl rfl rfl rfl rfl rfl) rfl rfl ?_
        refine wl_s (gd_ rfl rfl rfl rfl rfl rfl) rfl rfl ?_
        refine wl rfl rfl rfl (p_pickF rfl rfl) ?_
        refine wl rfl rfl rfl (p_mv rfl) ?_
        refine wl_g (gd_ rfl rfl rfl rfl rfl rfl) rfl rfl (p_fld (j := 4) Tryd.underlying53 rfl ⟨_, by rfl⟩ rfl rfl) ?_
        refine wl_g (gd_ rfl rfl rfl rfl rfl rfl) rfl rfl (p_ld Tryd.underlying45 rfl rfl (ld (hb5.cell rfl))) ?_
        refine wl_g (gd_ rfl rfl rfl rfl rfl rfl) rfl rfl (p_lenS Tryd.underlying45 rfl) ?_
        refine wl_g (gd_ rfl rfl rfl rfl rfl rfl) rfl rfl (p_gt rfl rfl) ?_
        refine wl rfl rfl rfl (p_pickF rfl rfl) ?_
        refine wl_nil ?_
        refine x_seq ?_
        refine wc_if rfl (fun c2 => ?_) (fun c2 => ?_)
        ·
          have c2 := of_decide_eq_true c2
          refine wc_seq ?_
          refine wc_region ?_
          refine wl rfl rfl rfl (p_as rfl) ?_
          refine wl_nil ?_
          refine x_seq ?_
          refine wc_ret ?_
          refine x_then_ret ?_
          refine x_in_ret ?_
          refine x_then_ret ?_
          refine x_then_ret ?_
          refine x_in_ret ?_
          refine x_then_ret ?_
          refine fin_run (res1 rfl rfl) ?_
          exact ⟨_, rfl, HC⟩
        ·
          have c2 := of_decide_eq_false c2
          refine wc_skip ?_
          refine x_seq ?_
          refine wc_seq ?_
          refine wc_region ?_
          refine wl rfl rfl rfl (p_mv rfl) ?_
          refine wl rfl rfl rfl (p_fld (j := 3) Tryd.underlying53 rfl ⟨_, by rfl⟩ rfl rfl) ?_
          refine wl rfl rfl rfl (p_ld Tryd.underlying22 rfl rfl (ld (hb5.cell rfl))) ?_
          refine wl rfl rfl rfl (p_lenS Tryd.underlying22 rfl) ?_
          refine wl rfl rfl rfl (p_quo (Z := ((bl14 / 64 : Nat) : Int)) rfl rfl (by omega) (by rw [show ((bl14 : Nat) : Int).tdiv 64 = ((bl14 / 64 : Nat) : Int) from rfl, w64 (by omega)])) ?_
          refine wl rfl rfl rfl (p_add (Z := ((N + bl14 / 64 : Nat) : Int)) rfl rfl (by rw [w64 (by omega)]; omega)) ?_
          refine wl rfl rfl rfl (p_as rfl) ?_
          refine wl_nil ?_
          refine x_seq ?_
          refine wc_seq ?_
          refine wc_region ?_
          refine wl rfl rfl rfl (p_mv rfl) ?_
          refine wl rfl rfl rfl (p_gt rfl rfl) ?_
          refine wl_nil ?_
          refine x_seq ?_
          refine wc_if rfl (fun c3 => ?_) (fun c3 => ?_)
          ·
            have c3 := of_decide_eq_true c3
            refine wc_seq ?_
            refine wc_region ?_
            refine wl rfl rfl rfl (p_as rfl) ?_
            refine wl_nil ?_
            refine x_seq ?_
            refine wc_ret ?_
            refine x_in_ret ?_
            refine x_then_ret ?_
            refine x_then_ret ?_
            refine x_in_ret ?_
            refine x_then_ret ?_
            refine fin_run (res1 rfl rfl) ?_
            exact ⟨_, rfl, HC⟩
          ·
            have c3 := of_decide_eq_false c3
            refine wc_skip ?_
            refine x_in_normal ?_
            refine x_seq ?_
            refine wc_region ?_
            refine wl rfl rfl rfl (p_add rfl rfl (w64 (by omega))) ?_
            refine wl rfl rfl rfl (p_mv rfl) ?_
            refine wl_nil ?_
            refine x_round (e' := [(0, .slice Aq lq cq), (3, i64 ((N + bl14 / 64) : Int)), (10, .slice Aq lq cq), (11, i64 (lq : Int)), (12, i64 ((i + 1) : Int))]) ⟨rfl, rfl, rfl, rfl, rfl, trivial⟩ (by rw [hm0]; omega) ⟨i + 1, N + bl14 / 64, rfl, rfl, by omega, by omega, hq, HC⟩
    ·
      have c1 := of_decide_eq_false c1
      refine wc_exit ?_
      refine x_then_exit ?_
      refine x_then_exit ?_
      refine x_in_here ?_
      refine x_seq ?_
      refine wc_seq ?_
      refine wc_region ?_
      refine wl rfl rfl rfl (p_as rfl) ?_
      refine wl_nil ?_
      refine x_seq ?_
      refine wc_ret ?_
      refine fin_run (res1 rfl rfl) ?_
      exact ⟨_, rfl, HC⟩
end Go.Proofs.YtcgapjieidmkpaaDoor
