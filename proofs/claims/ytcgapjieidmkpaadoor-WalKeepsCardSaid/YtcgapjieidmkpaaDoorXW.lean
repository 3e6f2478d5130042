/-
  Own text, printed by a program of mine (wip/gx): what functions of the program do, walked operation by operation.
-/
import Derived.Test.YtcgapjieidmkpaaDoorProg
import Derived.Test.YtcgapjieidmkpaaDoorGxAgg
import Derived.Test.YtcgapjieidmkpaaDoorTab
import Derived.Test.YtcgapjieidmkpaaDoorGxZer
import Derived.Test.YtcgapjieidmkpaaDoorPlDisk
import Derived.Test.YtcgapjieidmkpaaDoorPlDiskSt
import Derived.Test.YtcgapjieidmkpaaDoorPlDiskOk
import Derived.Test.YtcgapjieidmkpaaDoorPlDiskC
import Derived.Test.YtcgapjieidmkpaaDoorPlDiskLaw
import Derived.Test.YtcgapjieidmkpaaDoorPlActD
import Derived.Test.YtcgapjieidmkpaaDoorPlActs
import Derived.Test.YtcgapjieidmkpaaDoorPlWal
import Derived.Test.YtcgapjieidmkpaaDoorPlWalSt
import Derived.Test.YtcgapjieidmkpaaDoorDTd
import Derived.Test.YtcgapjieidmkpaaDoorVD
import Derived.Test.YtcgapjieidmkpaaDoorVS
set_option linter.unusedVariables false
namespace Go.Proofs.YtcgapjieidmkpaaDoor
open Go.RowKit Go.Gx
open Go.Plain
set_option maxHeartbeats 1000000 in
set_option maxRecDepth 20000 in
theorem up_any {w : World} {x : Nat} (hx : x ≤ 4611686018427387904) :
    Calls Tryd.prog 32 #[i64 (x : Int)] w fun e w' => e = .returned (i64 ((up32 x : Nat) : Int)) ∧ Ch No w w' := by
  have HC : Ch No w w := Ch.refl _ _
  refine enter' (args := [i64 (x : Int)]) (n := 8) Tryd.func32 rfl rfl rfl ?_
  refine wc_seq ?_
  refine wc_region ?_
  refine wl rfl rfl rfl (p_as rfl) ?_
  refine wl_nil ?_
  refine x_seq ?_
  refine wc_seq ?_
  refine wc_region ?_
  refine wl rfl rfl rfl (p_mv rfl) ?_
  refine wl rfl rfl rfl (p_add (Z := ((x + 32 : Nat) : Int)) rfl rfl (by rw [w64 (by omega)]; omega)) ?_
  refine wl rfl rfl rfl (p_sub (Z := ((x + 31 : Nat) : Int)) rfl rfl (by rw [w64 (by omega)]; omega)) ?_
  refine wl rfl rfl rfl (p_quo (Z := (((x + 31) / 32 : Nat) : Int)) rfl rfl (by omega) (by rw [show ((x + 31 : Nat) : Int).tdiv 32 = (((x + 31) / 32 : Nat) : Int) from rfl, w64 (by omega)])) ?_
  refine wl rfl rfl rfl (p_mul (Z := (((x + 31) / 32 * 32 : Nat) : Int)) rfl rfl (by rw [w64 (by omega)]; omega)) ?_
  refine wl rfl rfl rfl (p_as rfl) ?_
  refine wl_nil ?_
  refine x_seq ?_
  refine wc_ret ?_
  refine fin_run (res1 rfl rfl) ?_
  exact ⟨rfl, HC⟩

set_option maxHeartbeats 1000000 in
set_option maxRecDepth 20000 in
theorem noughts_any {w : World} {Ab : Option Addr} {lb cb : Nat} {Fb : Nat → Prop} {b : List UInt8} (hb : Sl w Fb u8v Ab lb cb b) (hl : lb ≤ 9223372036854775807) :
    Calls Tryd.prog 43 #[.slice Ab lb cb] w fun e w' => e = .returned (.bool (nul b)) ∧ Ch No w w' := by
  have hbl := hb.len
  have hb := hb.old
  have HC : Ch No w w := Ch.refl _ _
  refine enter' (args := [.slice Ab lb cb]) (n := 14) Tryd.func43 rfl rfl rfl ?_
  refine wc_seq ?_
  refine wc_region ?_
  refine wl rfl rfl rfl (p_as rfl) ?_
  refine wl_nil ?_
  refine x_seq ?_
  refine wc_seq ?_
  refine wc_seq ?_
  refine wc_region ?_
  refine wl rfl rfl rfl (p_mv rfl) ?_
  refine wl rfl rfl rfl (p_lenS Tryd.underlying22 rfl) ?_
  refine wl rfl rfl rfl (p_mv rfl) ?_
  refine wl_nil ?_
  refine x_seq ?_
  refine wc_block ?_
  refine wc_loop (e' := [(5, .slice Ab lb cb), (6, i64 (lb : Int)), (7, i64 ((0) : Int))]) (fun mz ez uz => ∃ k : Nat, mz = lb - k ∧ ez = [(5, .slice Ab lb cb), (6, i64 (lb : Int)), (7, i64 (k : Int))] ∧ (k ≤ lb) ∧ (∀ j, j < k → b.getD j 0 = 0) ∧ (Sl uz (fun k => k < w.heap.size) u8v Ab lb cb b) ∧ (Ch No w uz))
    ⟨rfl, rfl, rfl, trivial⟩ ⟨0, rfl, rfl, by omega, (fun j hj => by omega), hb, HC⟩ ?_
  rintro m0 e w1 ⟨k, hm0, rfl, hk, hno, hb, HC⟩
  have hzw1 := HC.size
  refine wc_seq ?_
  refine wc_region ?_
  refine wl rfl rfl rfl (p_lt rfl rfl) ?_
  refine wl_nil ?_
  refine x_seq ?_
  refine wc_seq ?_
  refine wc_if rfl (fun c0 => ?_) (fun c0 => ?_)
  ·
    have c0 := of_decide_eq_true c0
    refine wc_skip ?_
    refine x_seq ?_
    refine wc_seq ?_
    refine wc_block ?_
    refine wc_seq ?_
    refine wc_region ?_
    obtain ⟨b2, o2, hA2, hF2, hc2⟩ := (hb).opn (d := 0) (by omega)
    refine wl rfl rfl rfl (p_ixS1 Tryd.underlying22 sz5 rfl hA2 rfl (by omega) (by omega) (Int.toNat_natCast _)) ?_
    refine wl rfl rfl rfl (p_ld Tryd.underlying5 rfl rfl (ld (hc2 _ (by omega)))) ?_
    refine wl rfl rfl rfl (p_as rfl) ?_
    refine wl_nil ?_
    refine x_seq ?_
    refine wc_seq ?_
    refine wc_region ?_
    refine wl rfl rfl rfl (p_mv rfl) ?_
    refine wl rfl rfl rfl (p_ne rfl rfl) ?_
    refine wl_nil ?_
    refine x_seq ?_
    refine wc_if rfl (fun c1 => ?_) (fun c1 => ?_)
    ·
      have c1 := of_decide_eq_true c1
      have hne : nul b = false := nul_no (k := k) (by omega) (fun h => c1 (by rw [h]; rfl))
      refine wc_seq ?_
      refine wc_region ?_
      refine wl rfl rfl rfl (p_as rfl) ?_
      refine wl_nil ?_
      refine x_seq ?_
      refine wc_ret ?_
      refine x_in_ret ?_
      refine x_then_ret ?_
      refine x_then_ret ?_
      refine x_in_ret ?_
      refine x_then_ret ?_
      refine fin_run (res1 rfl rfl) ?_
      first
        | (rw [hne]; exact ⟨rfl, HC⟩)
        | (rw [hyes]; exact ⟨rfl, HC⟩)
    ·
      have c1 := of_decide_eq_false c1
      have hz : b.getD k 0 = 0 := UInt8.toNat_inj.1 (by have := Decidable.not_not.1 c1; simpa using this)
      have hno : ∀ j, j < k + 1 → b.getD j 0 = 0 := fun j hj => by
        rcases Nat.lt_or_ge j k with h | h
        · exact hno j h
        · have : j = k := by omega
          rw [this]; exact hz
      refine wc_skip ?_
      refine x_in_normal ?_
      refine x_seq ?_
      refine wc_region ?_
      refine wl rfl rfl rfl (p_add rfl rfl (w64 (by omega))) ?_
      refine wl rfl rfl rfl (p_mv rfl) ?_
      refine wl_nil ?_
      refine x_round (e' := [(5, .slice Ab lb cb), (6, i64 (lb : Int)), (7, i64 ((k + 1) : Int))]) ⟨rfl, rfl, rfl, trivial⟩ (by rw [hm0]; omega) ⟨k + 1, rfl, rfl, by omega, hno, hb, HC⟩
  ·
    have c0 := of_decide_eq_false c0
    have hyes : nul b = true := nul_yes (fun j hj => hno j (by omega))
    refine wc_exit ?_
    refine x_then_exit ?_
    refine x_then_exit ?_
    refine x_in_here ?_
    refine x_seq ?_
    refine wc_seq ?_
    refine wc_region ?_
    refine wl rfl rfl rfl (p_as rfl) ?_
    refine wl_nil ?_
    refine x_seq ?_
    refine wc_ret ?_
    refine fin_run (res1 rfl rfl) ?_
    first
      | (rw [hne]; exact ⟨rfl, HC⟩)
      | (rw [hyes]; exact ⟨rfl, HC⟩)

set_option maxHeartbeats 1000000 in
set_option maxRecDepth 20000 in
theorem frames1_any {w : World} {m yl n1 Bn : Nat} {J : List WX → World → Prop} {T : Nat → Prop} {Ab : Option Addr} {lb cb : Nat} {Fb : Nat → Prop} {b : List UInt8} (hb : Sl w Fb u8v Ab lb cb b) (hBn : Blk w Bn 22 #[.slice Ab lb cb]) (hl : lb ≤ 1099511627776) (hTB : ¬ T Bn) (hTb : ∀ k, Fb k → ¬ T k) (hT0 : ¬ T 0) (hn1 : n1 ≤ w.heap.size) (hJ : ∀ xs A B, J xs A → Ch No A B → J xs B) (hY : ∀ pre x Wp Wq, J pre Wp → Ch No Wp Wq → wxM n1 pre x Wp Wq → YieldAt Fence.wide m Tryd.prog yl (wxEnc x) Wq fun ed W' => ed = .returned (.bool true) ∧ J (pre ++ [x]) W' ∧ Ch T Wq W') (hJ0 : J [] w) (hnib : Sl w (fun k => k = 0) u32v (some ⟨0, 0, none⟩) 16 16 nib) :
    Calls Tryd.prog 41 #[.func (.yield yl) #[] #[], .pointer (some ⟨Bn, 0, none⟩)] w fun e w' => e = .returned (.tuple #[]) ∧ ∃ xs, (xs.map (·.bs) = (scanW b).1 ∧ wxEnd xs = (scanW b).2) ∧ J xs w' := by
  have hbl := hb.len
  have hbc := hb.cap
  have hbz : 0 < w.heap.size := hnib.size (by omega) rfl
  have HC : Ch T w w := Ch.refl _ _
  refine enter' (args := [.func (.yield yl) #[] #[], .pointer (some ⟨Bn, 0, none⟩)]) (n := 46) Tryd.func41 rfl rfl rfl ?_
  refine wc_seq ?_
  refine wc_region ?_
  refine wl rfl rfl rfl (p_as rfl) ?_
  refine wl_nil ?_
  refine x_seq ?_
  refine wc_block ?_
  refine wc_loop (e' := [(0, .func (.yield yl) #[] #[]), (1, .pointer (some ⟨Bn, 0, none⟩)), (3, i64 ((0) : Int))]) (fun mz ez uz => ∃ pre : List WX, ∃ p : Nat, mz = lb + 1 - p ∧ ez = [(0, .func (.yield yl) #[] #[]), (1, .pointer (some ⟨Bn, 0, none⟩)), (3, i64 (p : Int))] ∧ (p ≤ lb) ∧ (p % 32 = 0) ∧ (scanW b = (pre.map (·.bs) ++ (scanA b p).1, (scanA b p).2)) ∧ (wxEnd pre = p) ∧ (J pre uz) ∧ (Blk uz Bn 22 #[.slice Ab lb cb]) ∧ (Sl uz Fb u8v Ab lb cb b) ∧ (Sl uz (fun k => k = 0) u32v (some ⟨0, 0, none⟩) 16 16 nib) ∧ (Ch T w uz))
    ⟨rfl, rfl, rfl, trivial⟩ ⟨[], 0, rfl, rfl, by omega, by omega, (by rw [scanW_A]; rfl), rfl, hJ0, hBn, hb, hnib, HC⟩ ?_
  rintro m0 e w1 ⟨pre, p, hm0, rfl, hp, hp32, hsc, hend, hJp, hBn, hb, hnib, HC⟩
  have hzw1 := HC.size
  refine wc_block ?_
  refine wc_seq ?_
  refine wc_region ?_
  refine wl rfl rfl rfl (p_ld Tryd.underlying22 rfl rfl (ld (hBn.cell rfl))) ?_
  refine wl rfl rfl rfl (p_mv rfl) ?_
  have hS11 := hb.cutTo (lo := p) (by omega)
  refine wl rfl rfl rfl (p_slS (l := p) (h := lb) Tryd.underlying22 sz5 rfl ⟨_, rfl⟩ rfl (by omega) (by have := hb.cap; omega) hb.cap (q := lb - p) rfl) ?_
  have hJ0 := hJp
  obtain ⟨Wp, hWp⟩ : ∃ x, x = w1 := ⟨_, rfl⟩
  rw [← hWp] at hJ0
  have hzp : n1 ≤ Wp.heap.size := by rw [hWp]; omega
  have hzq : Wp.heap.size = w1.heap.size := by rw [hWp]
  refine wle rfl (e_call ent42 rfl rfl (open_any (hS11) (by omega) hnib) ?_)
  rintro _ w2 ⟨A12, c12, rfl, hW12, hc⟩
  refine ⟨_, rfl, ?_⟩
  have hzw2 := hc.size
  have HC := HC.tr hc
  have hb := hb.no hc
  have hBn := hBn.ch hc (fun h => h)
  have hnib := hnib.no hc
  have hJp := hJ _ _ _ hJp hc
  have hS11 := hS11.no hc
  have hcp : Ch No Wp w2 := by rw [hWp]; exact hc
  have hok := opk_le (c := b.drop p)
  have hdl : (b.drop p).length = lb - p := by rw [List.length_drop, hbl]
  have hug := up32_ge (p + opk (b.drop p))
  have hul := up32_lt (p + opk (b.drop p))
  have hxl := opx_len (b.drop p)
  refine wl rfl rfl rfl (p_mv rfl) ?_
  refine wl rfl rfl rfl (p_ext rfl rfl) ?_
  refine wl rfl rfl rfl (p_ext rfl rfl) ?_
  refine wl rfl rfl rfl (p_ext rfl rfl) ?_
  refine wl rfl rfl rfl (p_as rfl) ?_
  refine wl rfl rfl rfl (p_as rfl) ?_
  refine wl rfl rfl rfl (p_as rfl) ?_
  refine wl_nil ?_
  refine x_seq ?_
  refine wc_seq ?_
  refine wc_region ?_
  refine wl rfl rfl rfl (p_mv rfl) ?_
  refine wl rfl rfl rfl (p_mv rfl) ?_
  refine wl rfl rfl rfl (p_add (Z := (((p + opk (b.drop p)) : Nat) : Int)) rfl rfl (by rw [w64 (by omega)]; omega)) ?_
  refine wle rfl (e_call ent32 rfl rfl (up_any (by omega)) ?_)
  rintro _ w3 ⟨rfl, hc⟩
  refine ⟨_, rfl, ?_⟩
  have hzw3 := hc.size
  have HC := HC.tr hc
  have hb := hb.no hc
  have hBn := hBn.ch hc (fun h => h)
  have hnib := hnib.no hc
  have hJp := hJ _ _ _ hJp hc
  have hS11 := hS11.no hc
  have hW12 := hW12.after hc
  have hcp := hcp.tr hc
  refine wl rfl rfl rfl (p_as rfl) ?_
  refine wl_nil ?_
  refine x_seq ?_
  refine wc_seq ?_
  refine wc_seq ?_
  refine wc_regionI (m + 1) ?_
  refine wli rfl rfl rfl (p_mv rfl) ?_
  refine wli rfl rfl rfl (p_not rfl) ?_
  refine wli rfl rfl rfl (p_mv rfl) ?_
  refine wli_split (d := 22) rfl (fun q22 => ?_) (fun q22 => ?_)
  ·
    have hst := step_no1 (b := b) (a := p) (by simpa using q22)
    refine wli_s (gd_ rfl rfl rfl rfl rfl rfl) rfl rfl ?_
    refine wli_s (gd_ rfl rfl rfl rfl rfl rfl) rfl rfl ?_
    refine wli_s (gd_ rfl rfl rfl rfl rfl rfl) rfl rfl ?_
    refine wli_s (gd_ rfl rfl rfl rfl rfl rfl) rfl rfl ?_
    refine wli rfl rfl rfl (p_pickT rfl rfl) ?_
    refine wli rfl rfl rfl (p_mv rfl) ?_
    refine wli_s (gd_ rfl rfl rfl rfl rfl rfl) rfl rfl ?_
    refine wli_s (gd_ rfl rfl rfl rfl rfl rfl) rfl rfl ?_
    refine wli_s (gd_ rfl rfl rfl rfl rfl rfl) rfl rfl ?_
    refine wli_s (gd_ rfl rfl rfl rfl rfl rfl) rfl rfl ?_
    refine wli_s (gd_ rfl rfl rfl rfl rfl rfl) rfl rfl ?_
    refine wli_s (gd_ rfl rfl rfl rfl rfl rfl) rfl rfl ?_
    refine wli_s (gd_ rfl rfl rfl rfl rfl rfl) rfl rfl ?_
    refine wli_s (gd_ rfl rfl rfl rfl rfl rfl) rfl rfl ?_
    refine wli rfl rfl rfl (p_pickT rfl rfl) ?_
    refine wli rfl rfl rfl (p_mv rfl) ?_
    refine wli_s (gd_ rfl rfl rfl rfl rfl rfl) rfl rfl ?_
    refine wli_s (gd_ rfl rfl rfl rfl rfl rfl) rfl rfl ?_
    refine wli_s (gd_ rfl rfl rfl rfl rfl rfl) rfl rfl ?_
    refine wli_s (gd_ rfl rfl rfl rfl rfl rfl) rfl rfl ?_
    refine wli_s (gd_ rfl rfl rfl rfl rfl rfl) rfl rfl ?_
    refine wli rfl rfl rfl (p_pickT rfl rfl) ?_
    refine wli_nil ?_
    refine x_seq ?_
    refine wc_yes rfl (rfl) ?_
    refine wc_ret ?_
    refine x_then_ret ?_
    refine x_in_ret ?_
    refine x_then_ret ?_
    refine x_in_ret ?_
    refine fin_run (res0 rfl) ?_
    rw [hsc, scanA_none hst]; exact ⟨rfl, pre, ⟨by simp, hend⟩, hJp⟩
  ·
    have ho : opo (b.drop p) = true := by simpa using q22
    refine wli_g (gd_ rfl rfl rfl rfl rfl rfl) rfl rfl (p_mv rfl) ?_
    refine wli_g (gd_ rfl rfl rfl rfl rfl rfl) rfl rfl (p_ld Tryd.underlying22 rfl rfl (ld (hBn.cell rfl))) ?_
    refine wli_g (gd_ rfl rfl rfl rfl rfl rfl) rfl rfl (p_lenS Tryd.underlying22 rfl) ?_
    refine wli_g (gd_ rfl rfl rfl rfl rfl rfl) rfl rfl (p_gt rfl rfl) ?_
    refine wli rfl rfl rfl (p_pickF rfl rfl) ?_
    refine wli rfl rfl rfl (p_mv rfl) ?_
    refine wli_split (d := 28) rfl (fun q28 => ?_) (fun q28 => ?_)
    ·
      have q28 := of_decide_eq_true q28
      have hst := step_no2 ho (by rw [hbl]; omega)
      refine wli_s (gd_ rfl rfl rfl rfl rfl rfl) rfl rfl ?_
      refine wli_s (gd_ rfl rfl rfl rfl rfl rfl) rfl rfl ?_
      refine wli_s (gd_ rfl rfl rfl rfl rfl rfl) rfl rfl ?_
      refine wli_s (gd_ rfl rfl rfl rfl rfl rfl) rfl rfl ?_
      refine wli_s (gd_ rfl rfl rfl rfl rfl rfl) rfl rfl ?_
      refine wli_s (gd_ rfl rfl rfl rfl rfl rfl) rfl rfl ?_
      refine wli_s (gd_ rfl rfl rfl rfl rfl rfl) rfl rfl ?_
      refine wli_s (gd_ rfl rfl rfl rfl rfl rfl) rfl rfl ?_
      refine wli rfl rfl rfl (p_pickT rfl rfl) ?_
      refine wli rfl rfl rfl (p_mv rfl) ?_
      refine wli_s (gd_ rfl rfl rfl rfl rfl rfl) rfl rfl ?_
      refine wli_s (gd_ rfl rfl rfl rfl rfl rfl) rfl rfl ?_
      refine wli_s (gd_ rfl rfl rfl rfl rfl rfl) rfl rfl ?_
      refine wli_s (gd_ rfl rfl rfl rfl rfl rfl) rfl rfl ?_
      refine wli_s (gd_ rfl rfl rfl rfl rfl rfl) rfl rfl ?_
      refine wli rfl rfl rfl (p_pickT rfl rfl) ?_
      refine wli_nil ?_
      refine x_seq ?_
      refine wc_yes rfl (rfl) ?_
      refine wc_ret ?_
      refine x_then_ret ?_
      refine x_in_ret ?_
      refine x_then_ret ?_
      refine x_in_ret ?_
      refine fin_run (res0 rfl) ?_
      rw [hsc, scanA_none hst]; exact ⟨rfl, pre, ⟨by simp, hend⟩, hJp⟩
    ·
      have q28 := of_decide_eq_false q28
      refine wli_g (gd_ rfl rfl rfl rfl rfl rfl) rfl rfl (p_ld Tryd.underlying22 rfl rfl (ld (hBn.cell rfl))) ?_
      refine wli_g (gd_ rfl rfl rfl rfl rfl rfl) rfl rfl (p_mv rfl) ?_
      refine wli_g (gd_ rfl rfl rfl rfl rfl rfl) rfl rfl (p_mv rfl) ?_
      refine wli_g (gd_ rfl rfl rfl rfl rfl rfl) rfl rfl (p_add (Z := (((p + opk (b.drop p)) : Nat) : Int)) rfl rfl (by rw [w64 (by omega)]; omega)) ?_
      refine wli_g (gd_ rfl rfl rfl rfl rfl rfl) rfl rfl (p_mv rfl) ?_
      have hS34 := hb.cut (lo := (p + opk (b.drop p))) (hi := (up32 (p + opk (b.drop p)))) (by omega) (by omega) rfl
      refine wli_g (gd_ rfl rfl rfl rfl rfl rfl) rfl rfl (p_slS (l := (p + opk (b.drop p))) (h := (up32 (p + opk (b.drop p)))) Tryd.underlying22 sz5 rfl ⟨_, rfl⟩ ⟨_, rfl⟩ (by omega) (by have := hb.cap; omega) hb.cap (q := (up32 (p + opk (b.drop p))) - (p + opk (b.drop p))) rfl) ?_
      refine wlie_g (gd_ rfl rfl rfl rfl rfl rfl) (by repeat (first | exact no_body (fun _ h => by cases h.1) | with_reducible apply no_then | with_reducible apply no_in)) (e_call ent43 rfl rfl (noughts_any (hS34) (by omega)) ?_)
      rintro _ w4 ⟨rfl, hc⟩
      refine ⟨_, rfl, ?_⟩
      have hzw4 := hc.size
      have HC := HC.tr hc
      have hb := hb.no hc
      have hBn := hBn.ch hc (fun h => h)
      have hnib := hnib.no hc
      have hJp := hJ _ _ _ hJp hc
      have hS11 := hS11.no hc
      have hW12 := hW12.after hc
      have hS34 := hS34.no hc
      have hcp := hcp.tr hc
      refine wli_g (gd_ rfl rfl rfl rfl rfl rfl) rfl rfl (p_not rfl) ?_
      refine wli rfl rfl rfl (p_pickF rfl rfl) ?_
      refine wli rfl rfl rfl (p_mv rfl) ?_
      refine wli_split (d := 38) rfl (fun q38 => ?_) (fun q38 => ?_)
      ·
        have hst := step_no3 ho (by rw [hbl]; omega) (by simpa using q38)
        refine wli_s (gd_ rfl rfl rfl rfl rfl rfl) rfl rfl ?_
        refine wli_s (gd_ rfl rfl rfl rfl rfl rfl) rfl rfl ?_
        refine wli_s (gd_ rfl rfl rfl rfl rfl rfl) rfl rfl ?_
        refine wli_s (gd_ rfl rfl rfl rfl rfl rfl) rfl rfl ?_
        refine wli_s (gd_ rfl rfl rfl rfl rfl rfl) rfl rfl ?_
        refine wli rfl rfl rfl (p_pickT rfl rfl) ?_
        refine wli_nil ?_
        refine x_seq ?_
        refine wc_yes rfl (rfl) ?_
        refine wc_ret ?_
        refine x_then_ret ?_
        refine x_in_ret ?_
        refine x_then_ret ?_
        refine x_in_ret ?_
        refine fin_run (res0 rfl) ?_
        rw [hsc, scanA_none hst]; exact ⟨rfl, pre, ⟨by simp, hend⟩, hJp⟩
      ·
        have hst := step_yes ho (by rw [hbl]; omega) (by simpa using q38)
        have hsa := scanA_some hst
        have hsl := step_lt hst
        refine wli_g (gd_ rfl rfl rfl rfl rfl rfl) rfl rfl (p_mv rfl) ?_
        refine wli_g (gd_ rfl rfl rfl rfl rfl rfl) rfl rfl (p_mv rfl) ?_
        refine wli_g (gd_ rfl rfl rfl rfl rfl rfl) rfl rfl (p_mv rfl) ?_
        have hM : wxM n1 pre ⟨A12, (opx (b.drop p)).length, c12, (up32 (p + opk (b.drop p))), opx (b.drop p)⟩ Wp w4 := ⟨hW12.sl.mono (fun k _ hk => by have h2 := hzp; refine ⟨?_, ?_⟩ <;> omega), by have h3 := hsl; dsimp only; omega, by dsimp only; omega⟩
        refine wli_yield (gd_ rfl rfl rfl rfl rfl rfl) rfl rfl rfl (hY _ _ _ _ hJ0 hcp hM) (by repeat (first | exact no_body (fun _ h => by cases h.1) | with_reducible apply no_then | with_reducible apply no_in)) ?_
        rintro _ w5 ⟨rfl, hJp, hc⟩
        refine ⟨_, rfl, ?_⟩
        have hzw5 := hc.size
        have HC := HC.trans hc (fun _ _ h => h) (fun _ _ h => h)
        have hBn := hBn.ch hc hTB
        have hb := hb.ch hc hTb
        have hnib := hnib.ch hc (fun k hk ht => hT0 (hk ▸ ht))
        refine wli_g (gd_ rfl rfl rfl rfl rfl rfl) rfl rfl (p_not rfl) ?_
        refine wli rfl rfl rfl (p_pickF rfl rfl) ?_
        refine wli_nil ?_
        refine x_seq ?_
        refine wc_no rfl (rfl) ?_
        refine wc_skip ?_
        refine x_seq ?_
        refine wc_region ?_
        refine wl rfl rfl rfl (p_mv rfl) ?_
        refine wl rfl rfl rfl (p_as rfl) ?_
        refine wl_nil ?_
        refine x_in_normal ?_
        refine x_round (e' := [(0, .func (.yield yl) #[] #[]), (1, .pointer (some ⟨Bn, 0, none⟩)), (3, i64 (((up32 (p + opk (b.drop p)))) : Int))]) ⟨rfl, rfl, rfl, trivial⟩ (by rw [hm0]; (have := hsl.1; omega)) ⟨_, (up32 (p + opk (b.drop p))), rfl, rfl, by omega, hsl.2.2.1, by rw [hsc, hsa]; simp, wxEnd_snoc _ _, hJp, hBn, hb, hnib, HC⟩

set_option maxHeartbeats 1000000 in
set_option maxRecDepth 20000 in
theorem frames_any {w : World} {Ab : Option Addr} {lb cb : Nat}  :
    Calls Tryd.prog 26 #[.slice Ab lb cb] w fun e w' => ∃ g, e = .returned (.func (.func 41) #[] #[.pointer (some ⟨g, 0, none⟩)]) ∧ w.heap.size ≤ g ∧ Blk w' g 22 #[.slice Ab lb cb] ∧ Ch No w w' := by
  have HC : Ch No w w := Ch.refl _ _
  refine enter' (args := [.slice Ab lb cb]) (n := 4) Tryd.func26 rfl rfl rfl ?_
  refine wc_seq ?_
  refine wc_region ?_
  refine wle rfl (e_box (cs := #[_]) rfl rfl rfl (fun w1 g1 hg1 hb1 hc hsz1 => ?_))
  have hzw1 := hc.size
  have HC := HC.tr hc
  have hge1 : w.heap.size ≤ g1 := by have := HC.size; omega
  refine wl rfl rfl rfl (p_as rfl) ?_
  refine wl_nil ?_
  refine x_seq ?_
  refine wc_seq ?_
  refine wc_region ?_
  refine wl rfl rfl rfl (p_mkf rfl) ?_
  refine wl rfl rfl rfl (p_as rfl) ?_
  refine wl_nil ?_
  refine x_seq ?_
  refine wc_ret ?_
  refine fin_run (res1 rfl rfl) ?_
  exact ⟨g1, rfl, hge1, hb1, HC⟩

set_option maxHeartbeats 1000000 in
set_option maxRecDepth 20000 in
theorem scan_any {w : World} {Ab : Option Addr} {lb cb : Nat} {Fb : Nat → Prop} {b : List UInt8} (hb : Sl w Fb u8v Ab lb cb b) (hl : lb ≤ 1099511627776) (hnib : Sl w (fun k => k = 0) u32v (some ⟨0, 0, none⟩) 16 16 nib) :
    Calls Tryd.prog 10 #[.slice Ab lb cb] w fun e w' => ∃ X l c, e = .returned (.tuple #[.slice X l c, i64 ((scanW b).2 : Int)]) ∧ SB w' (fun k => w.heap.size ≤ k) X l c (scanW b).1 ∧ Ch No w w' := by
  have hbl := hb.len
  have hbz : 0 < w.heap.size := hnib.size (by omega) rfl
  have hb := hb.old
  have HC : Ch No w w := Ch.refl _ _
  refine enterM (args := [.slice Ab lb cb]) (n := 19) Tryd.func10 rfl rfl rfl ?_
  refine wc_seq ?_
  refine wc_region ?_
  refine wl rfl rfl rfl (p_as rfl) ?_
  refine wl rfl rfl rfl (p_as rfl) ?_
  refine wl_nil ?_
  refine x_seq ?_
  refine wc_seq ?_
  refine wc_region ?_
  refine wle rfl (e_alloc (cs := #[.slice none 0 0]) rfl (by rfl) rfl (fun w1 g4 hg4 hb4 hc hsz4 => ?_))
  have hzw1 := hc.size
  have HC := HC.tr hc
  have hb := hb.no hc
  have hnib := hnib.no hc
  have hge4 : w.heap.size ≤ g4 := by have := HC.size; omega
  refine wl_nil ?_
  refine x_seq ?_
  refine wc_seq ?_
  refine wc_region ?_
  have hltg4 := hb4.lt
  refine wle rfl (e_alloc (cs := #[.int .i64 0]) rfl (by rfl) rfl (fun w2 g5 hg5 hb5 hc hsz5 => ?_))
  have hzw2 := hc.size
  have HC := HC.tr hc
  have hb := hb.no hc
  have hnib := hnib.no hc
  have hb4 := hb4.ch hc (fun h => h)
  have hge5 : w.heap.size ≤ g5 := by have := HC.size; omega
  have neg4_5 : g4 < g5 := by omega
  refine wle rfl (e_st1 (by rfl) rfl rfl rfl hb5 (fun w3 hb5 hc hsz => ?_))
  have hzw3 := hc.size
  have HC := HC.trans hc (fun _ _ h => h) (fun k hk ht => absurd ht (by omega))
  first | have hb := hb.ch hc (by intro k hk ht; first | omega | (dsimp only at *; omega)) | have hb := hb.chT hc (by intro k hz hk ht; first | omega | (dsimp only at *; omega))
  first | have hnib := hnib.ch hc (by intro k hk ht; first | omega | (dsimp only at *; omega)) | have hnib := hnib.chT hc (by intro k hz hk ht; first | omega | (dsimp only at *; omega))
  have hb4 := hb4.ch hc (by omega)
  refine wl_nil ?_
  refine x_seq ?_
  refine wc_seq ?_
  refine wc_seq ?_
  refine wc_region ?_
  refine wl rfl rfl rfl (p_mv rfl) ?_
  refine wle rfl (e_call ent26 rfl rfl (frames_any) ?_)
  rintro _ w4 ⟨g9, rfl, hg9, hBn, hc⟩
  refine ⟨_, rfl, ?_⟩
  have hzw4 := hc.size
  have HC := HC.tr hc
  have hb := hb.no hc
  have hnib := hnib.no hc
  have hb4 := hb4.ch hc (fun h => h)
  have hb5 := hb5.ch hc (fun h => h)
  refine wl_nil ?_
  refine x_seq ?_
  refine wc_block ?_
  obtain ⟨W0, hW0⟩ : ∃ x, x = w4 := ⟨_, rfl⟩
  rw [← hW0]
  have hzW : W0.heap.size = w4.heap.size := by rw [hW0]
  have HC0 : Ch No w W0 := by rw [hW0]; exact HC
  have hb4 : Blk W0 g4 24 _ := hW0 ▸ hb4
  have hb5 : Blk W0 g5 3 _ := hW0 ▸ hb5
  have hBn : Blk W0 g9 22 _ := hW0 ▸ hBn
  have hb : Sl W0 (fun k => k < w.heap.size) u8v Ab lb cb b := hW0 ▸ hb
  have hnib : Sl W0 (fun k => k = 0) u32v _ _ _ _ := hW0 ▸ hnib
  have hlt4 := hb4.lt
  have hlt5 := hb5.lt
  have hltn := hBn.lt
  refine wc_rangeW (m := 0) (fun k => k = g4 ∨ k = g5 ∨ W0.heap.size ≤ k) rfl (enters_of Tryd.func41 (by kernel_rfl) rfl) wxEnc (fun _ => rfl) (wxM (W0.heap.size + 2)) (fun xs => xs.map (·.bs) = (scanW b).1 ∧ wxEnd xs = (scanW b).2) ?hseq (ScanI 22 24 g4 g5 (W0.heap.size + 2)) (fun _ _ _ h c => h.no c) ?hIl ?hMl (fun k h => .inr (.inr h)) ?h0 (fun x => (7, i64 (x.e : Int)) :: (6, wxV x) :: (11, i64 (x.e : Int)) :: (10, wxV x) :: (9, .func (.func 41) #[] #[.pointer (some ⟨g9, 0, none⟩)]) :: (5, .pointer (some ⟨g5, 0, none⟩)) :: (4, .pointer (some ⟨g4, 0, none⟩)) :: []) ?hassign ?hbody ?hdone
  case hseq =>
    intro l J W c hsz hJ hY hJ0
    exact (frames1_any (T := fun k => k = g4 ∨ k = g5 ∨ W0.heap.size ≤ k) (hb.no c) (hBn.ch c (fun h => h)) hl (by omega) (fun k hk ht => by omega) (by omega) hsz hJ hY hJ0 (hnib.no c)).mono (fun e w' h => ⟨⟨_, h.1⟩, h.2⟩)
  case hIl =>
    intro xs A B h c
    exact h.keep c (by omega) (by omega) (fun k hk _ hh => by omega)
  case hMl =>
    intro pre x Wp A B h c
    exact ⟨Sl.ch h.1 c (fun k hk hh => by have := hk.2; omega), h.2⟩
  case h0 =>
    intro W c hs
    exact ScanI.nil (hb4.ch c (fun h => h)) (hb5.ch c (fun h => h)) (by omega)
  case hassign =>
    intro l x W a F
    have F2 : Fr 19 { tmps := (#[10, 11].zip (wxEnc x)).foldl (fun t (p, v) => t.setIfInBounds p v) a.tmps, defers := [] } ((11, i64 (x.e : Int)) :: (10, wxV x) :: (9, .func (.func 41) #[] #[.pointer (some ⟨g9, 0, none⟩)]) :: (5, .pointer (some ⟨g5, 0, none⟩)) :: (4, .pointer (some ⟨g4, 0, none⟩)) :: []) := (F.sub (e' := (9, .func (.func 41) #[] #[.pointer (some ⟨g9, 0, none⟩)]) :: (5, .pointer (some ⟨g5, 0, none⟩)) :: (4, .pointer (some ⟨g4, 0, none⟩)) :: []) ⟨rfl, rfl, rfl, trivial⟩).hand2 rfl rfl
    refine wpIn_seq (wpIn_region_lit ?_)
    refine (wli (n := 19) (ro := some l) rfl rfl rfl (p_as rfl) (wli_nil ?_)) _ F2
    intro a2 F3
    refine wpIn_region_lit ?_
    refine (wli (n := 19) (ro := some l) rfl rfl rfl (p_as rfl) (wli_nil ?_)) _ F3
    exact fun a3 F4 => ⟨rfl, F4⟩
  case hbody =>
    intro l pre x Wp W a1 hl1 F1 hps hI hc hM
    obtain ⟨X, k, G, b4, b5, hR, hG, hC, hn, hle, hle2⟩ := hI
    have hbd := hc.size
    have b4 := b4.ch hc (by omega)
    have b5 := b5.ch hc (by omega)
    have hR := (hR.mono (G := fun k => G k) (fun j hj hf => hf.resolve_right (by omega))).ch hc (fun j hj hf hh => by have := hG j hf; omega)
    have hC := fun i hi => (hC i hi).ch hc (fun j hj hh => by have := hj.1; omega)
    refine wpIn_block (wpIn_region_lit ?_)
    refine (wli (n := 19) (ro := some l) rfl rfl rfl (p_ld Tryd.underlying24 rfl rfl (ld (b4.cell rfl))) ?_) _ F1
    refine wli rfl rfl rfl (p_mv rfl) ?_
    refine wlie rfl (no_in (no_then (fun ⟨_, _, h⟩ => h))) (e_bslV (E := 22) rfl rfl (fun _ => by kernel_rfl) (fun W2 g14 hg14 hb14 c1 hs14 => ?_))
    have b4 := b4.ch c1 (fun h => h)
    have b5 := b5.ch c1 (fun h => h)
    have hR2 := (hR.no c1).mono (G := fun k => G k ∨ W2.heap.size ≤ k) (fun j hj hf => .inl hf)
    have hX2 : Sl W2 (fun k => k = g14) wxV _ 1 1 [x] := Sl.lit1 hb14
    have hz1 := c1.size
    refine wlie rfl (no_in (no_then (fun ⟨_, _, h⟩ => h))) (e_appS rfl el24 (fun _ => rfl) rfl rfl hR2 hX2 (by omega) (fun k hk => .inr hk) (fun W3 X3 k3 hR3 c2 => ?_))
    have hz2 := c2.size
    have b4 := b4.ch c2 (fun hh => Or.elim hh (fun h2 => by have := hG _ h2; omega) (fun h2 => by omega))
    have b5 := b5.ch c2 (fun hh => Or.elim hh (fun h2 => by have := hG _ h2; omega) (fun h2 => by omega))
    refine wli rfl rfl rfl (p_mv rfl) ?_
    refine wlie rfl (no_in (no_then (fun ⟨_, _, h⟩ => h))) (e_st1 (by rfl) rfl rfl rfl b4 (fun W4 b4 c3 hs4 => ?_))
    have b5 := b5.ch c3 (by omega)
    refine wlie rfl (no_in (no_then (fun ⟨_, _, h⟩ => h))) (e_st1 (by rfl) rfl rfl rfl b5 (fun W5 b5 c4 hs5 => ?_))
    have hfin := scan_step hG hbd hC hM hle hn (by omega) (by omega) (by omega) c1 (by rw [List.map_append] at hR3; exact hR3) c2 b4 c3 b5 c4
    refine wli_nil (fun a5 F5 => ⟨hfin.1, hfin.2.mono (fun k _ hk => ?_)⟩)
    rcases hk with hk | hk | hk
    · exact ⟨.inl hk, by omega, by omega⟩
    · exact ⟨.inr (.inl hk), by omega, by omega⟩
    · have := hG k hk
      exact ⟨.inr (.inr (by omega)), by omega, by omega⟩
  case hdone =>
    rintro xs W a' ⟨hx1, hx2⟩ hI hK c F
    obtain ⟨X, c', b4, b5, hsb⟩ := hI.sb
    have hd := Ch.drew W
    have b4 := b4.ch hd (fun h => h)
    have b5 := b5.ch hd (fun h => h)
    have hsb := hsb.no hd
    refine wp_seq (wp_pureD (n := 19) (ds := [{ target := .collected W0.heap.size, args := #[] }]) (e := (9, .func (.func 41) #[] #[.pointer (some ⟨g9, 0, none⟩)]) :: (5, .pointer (some ⟨g5, 0, none⟩)) :: (4, .pointer (some ⟨g4, 0, none⟩)) :: []) [17, 18, 2, 3] (fun i => [[], [], [0], [1]].getD i []) (fun i => [.slice X xs.length c', i64 (wxEnd xs : Int), .slice X xs.length c', i64 (wxEnd xs : Int)].getD i undef)
      (by kernel_rfl) rfl rfl rfl rfl (by kernel_rfl) ?_ (fun a1 F1 h1 => wp_ret ?_) (F.sub ⟨rfl, rfl, rfl, trivial⟩))
    · exact ⟨p_ld Tryd.underlying24 rfl rfl (ld (b4.cell rfl)), p_ld Tryd.underlying3 rfl rfl (ld (b5.cell rfl)), p_as rfl, p_as rfl, trivial⟩
    have hK2 := hd.heap hK (fun h => h)
    have r2 : a1.tmps.getD 2 undef = .slice X xs.length c' := h1 2 (by decide)
    have r3 : a1.tmps.getD 3 undef = i64 (wxEnd xs : Int) := h1 3 (by decide)
    have hT := ch_put W.drew W0.heap.size (.deferred none)
    show LeavesInM Fence.wide 1 Tryd.prog _ a1.tmps _ a1.defers .returning W.drew
    rw [F1.defs]
    refine ⟨by simp, .inl ⟨_, _, rfl, run_takeDeferred hK2, _, by rw [results_tmp2 rfl], X, xs.length, c', ?_, ?_, ?_⟩⟩
    · rw [r2, r3, ← hx2]
    · rw [← hx1]
      exact (hsb.ch hT (by omega)).mono (fun k _ hk => by omega)
    · exact HC0.trans ((c.tr hd).trans hT (fun _ _ h => h) (fun k _ h => .inr (.inr (by omega)))) (fun _ _ h => h.elim) (fun k hk h => by have := HC0.size; omega)

set_option maxHeartbeats 4000000 in
set_option maxRecDepth 20000 in
theorem wipe_any {w : World} {w0 : World} {O : Nat → Prop} {g n s : Nat} {d : DS}{Ab : Option Addr} {lb cb : Nat} {Fb : Nat → Prop} {b : List UInt8} (hd : CD TD w0 w O g n d) (hb : Sl w Fb u8v Ab lb cb b) (hfo : ∀ k, Fb k → ¬ O k) (hfz : ∀ k, Fb k → k < w.heap.size) (hw0 : w0.heap.size ≤ w.heap.size) (hbn : lb = 32 * n) (hs0 : s ≤ n) :
    Calls Tryd.prog 29 #[.pointer (some ⟨g, 0, none⟩), .slice Ab lb cb, i64 ((32 * s : Nat) : Int)] w fun e w' => ∃ O' : Nat → Prop, e = .returned (i64 (wipeR n b (n - s) d false).1) ∧ CD TD w0 w' O' g n (wipeR n b (n - s) d false).2 ∧ (∀ k, O' k → O k ∨ w.heap.size ≤ k) ∧ Ch O w w' := by
  have hbl := hb.len
  have hbc := hb.cap
  have hd0 := hd
  have hOz : ∀ k, O k → O k ∨ w.heap.size ≤ k := fun k h => .inl h
  have hn := hd.hn
  have HC : Ch O w w := Ch.refl _ _
  refine enter' (args := [.pointer (some ⟨g, 0, none⟩), .slice Ab lb cb, i64 ((32 * s : Nat) : Int)]) (n := 36) Tryd.func29 rfl rfl rfl ?_
  refine wc_seq ?_
  refine wc_region ?_
  refine wl rfl rfl rfl (p_as rfl) ?_
  refine wl_nil ?_
  refine x_seq ?_
  refine wc_seq ?_
  refine wc_region ?_
  refine wle rfl (e_alloc (cs := ((List.replicate 32 (0 : UInt8)).map u8v).toArray) rfl (by rfl) rfl (fun w1 g7 hg7 hb7 hc hsz7 => ?_))
  have hzw1 := hc.size
  have HC := HC.tr hc
  have hphd := hd.hi
  have hd := hd.no hc
  first | have hb := hb.no hc | have hb := hb.ch hc hfo | have hb := hb.ch hc (fun k hk ht => by have h2 := hfz k hk; omega)
  have hohb7_hd : ∀ k, O k → k ≠ g7 := fun k h e => by have := hphd k h; omega
  have hge7 : w.heap.size ≤ g7 := by have := HC.size; omega
  have hb7 : Blk w1 g7 70 (zero32.map u8v).toArray := hb7
  refine wl_nil ?_
  refine x_seq ?_
  refine wc_seq ?_
  refine wc_region ?_
  refine wl rfl rfl rfl (p_as rfl) ?_
  refine wl_nil ?_
  refine x_seq ?_
  refine wc_seq ?_
  refine wc_block ?_
  refine wc_loop (e' := [(0, .pointer (some ⟨g, 0, none⟩)), (1, .slice Ab lb cb), (2, i64 ((32 * (s) : Nat) : Int)), (7, .pointer (some ⟨g7, 0, none⟩)), (8, .bool (false))]) (fun mz ez uz => ∃ t : Nat, ∃ dd : DS, ∃ O1 : Nat → Prop, ∃ wr : Bool, mz = n - t ∧ ez = [(0, .pointer (some ⟨g, 0, none⟩)), (1, .slice Ab lb cb), (2, i64 ((32 * t : Nat) : Int)), (7, .pointer (some ⟨g7, 0, none⟩)), (8, .bool wr)] ∧ (t ≤ n) ∧ (wipeR n b (n - s) d false = wipeR n b (n - t) dd wr) ∧ (CD TD w0 uz O1 g n dd) ∧ (∀ k, O1 k → O k ∨ w.heap.size ≤ k) ∧ (∀ k, Fb k → ¬ O1 k) ∧ (Sl uz Fb u8v Ab lb cb b) ∧ (Blk uz g7 70 (zero32.map u8v).toArray) ∧ (∀ k, O1 k → k ≠ g7) ∧ (Ch O w uz))
    ⟨rfl, rfl, rfl, rfl, rfl, trivial⟩ ⟨s, d, O, false, rfl, rfl, hs0, rfl, hd, hOz, hfo, hb, hb7, hohb7_hd, HC⟩ ?_
  rintro m0 e w2 ⟨t, dd, O1, wr, hm0, rfl, htn, hwp, hd, hOz, hfo, hb, hb7, hohb7_hd, HC⟩
  have hzw2 := HC.size
  refine wc_seq ?_
  refine wc_seq ?_
  refine wc_region ?_
  refine wl rfl rfl rfl (p_mv rfl) ?_
  refine wl rfl rfl rfl (p_mv rfl) ?_
  refine wl rfl rfl rfl (p_lenS Tryd.underlying22 rfl) ?_
  refine wl rfl rfl rfl (p_lt rfl rfl) ?_
  refine wl_nil ?_
  refine x_seq ?_
  refine wc_if rfl (fun c0 => ?_) (fun c0 => ?_)
  ·
    have c0 := of_decide_eq_true c0
    have htn : t < n := by omega
    refine wc_skip ?_
    refine x_seq ?_
    refine wc_seq ?_
    refine wc_block ?_
    refine wc_seq ?_
    refine wc_seq ?_
    refine wc_draw (.st 0 0 (.st 1 0 (.st 2 0 (.st 3 0 (.st 4 0 (.st 5 0 (.st 6 1 (.st 7 1 (.st 8 0 .nil))))))))) 9 (by kernel_rfl) (by kernel_rfl) (by kernel_rfl) (by repeat (first | with_reducible exact pan_body | with_reducible apply pan_then | with_reducible apply pan_in)) (fun x => Ch No w2.drew x) (Ch.refl _ _) ?_
    obtain ⟨w3, ew3⟩ : ∃ x, x = w2.drew := ⟨_, rfl⟩
    rw [← ew3]
    have hc : Ch No w2 w3 := by rw [ew3]; exact Ch.drew _
    have hszw3 : w3.heap.size = w2.heap.size := by rw [ew3]; rfl
    clear ew3
    have hzw3 := hc.size
    have HC := HC.tr hc
    have hphd := hd.hi
    have hd := hd.no hc
    first | have hb := hb.no hc | have hb := hb.ch hc hfo | have hb := hb.ch hc (fun k hk ht => by have h2 := hfz k hk; omega)
    have hb7 := hb7.ch hc (fun h => h)
    have hS : Ch No w3 w3 := Ch.refl _ _
    refine ws_p rfl rfl rfl rfl (p_mv rfl) ?_
    refine ws_p rfl rfl rfl rfl (p_mv rfl) ?_
    refine ws_p rfl rfl rfl rfl (p_mv rfl) ?_
    refine ws_p rfl rfl rfl rfl (p_add (Z := ((32 * t + 32 : Nat) : Int)) rfl rfl (by rw [w64 (by omega)]; omega)) ?_
    have hS20 := hb.cut (lo := 32 * t) (hi := 32 * t + 32) (q := 32) (by omega) (by omega) (by omega)
    refine ws_p rfl rfl rfl rfl (p_slS (l := 32 * t) (h := 32 * t + 32) Tryd.underlying22 sz5 rfl ⟨_, rfl⟩ ⟨_, rfl⟩ (by omega) (by omega) hbc (q := 32) (by omega)) ?_
    obtain ⟨b20, o20, hA20, hF20, _⟩ := hS20.opn (d := 0) (by omega)
    rw [hA20] at hS20
    refine ws_p rfl rfl rfl rfl ((p_s2a Tryd.underlying70 rfl (by omega)).to (congrArg Value.pointer hA20)) ?_
    refine ws_h rfl rfl rfl rfl (p_ldA (cs := List.map u8v (sec b t)) Tryd.underlying70 rfl (szL sz70 (by rw [List.length_map]; exact sec_len (n := n) (by omega) htn)) rfl (fun _ h => (hS20.no h).range)) ?_
    refine ws_h rfl rfl rfl rfl (p_ldA (cs := List.map u8v zero32) Tryd.underlying70 rfl (szL sz70 (by rw [List.length_map]; exact (List.length_replicate ..))) rfl (fun _ h => (rngL (hb7.ch h (fun h => h))))) ?_
    refine ws_p rfl rfl rfl rfl (p_eqH (a := (sec b t)) (b := zero32) (by kernel_rfl) Tryd.underlying70 Tryd.underlying5 sz5 rfl rfl (sec_len (n := n) (by omega) htn) ((List.length_replicate ..))) ?_
    refine ws_n ?_
    refine x_seq ?_
    refine wc_if rfl (fun c1 => ?_) (fun c1 => ?_)
    ·
      have hst := wipe_skip (d := dd) (wr := wr) htn c1
      refine wc_exit ?_
      refine x_then_exit ?_
      refine x_in_here ?_
      refine x_seq ?_
      refine wc_region ?_
      refine wl rfl rfl rfl (p_mv rfl) ?_
      refine wl rfl rfl rfl (p_add (Z := ((32 * (t + 1) : Nat) : Int)) rfl rfl (by rw [w64 (by omega)]; omega)) ?_
      refine wl rfl rfl rfl (p_as rfl) ?_
      refine wl_nil ?_
      refine x_round (e' := [(0, .pointer (some ⟨g, 0, none⟩)), (1, .slice Ab lb cb), (2, i64 ((32 * (t + 1) : Nat) : Int)), (7, .pointer (some ⟨g7, 0, none⟩)), (8, .bool (_))]) ⟨rfl, rfl, rfl, rfl, rfl, trivial⟩ (by rw [hm0]; omega) ⟨t + 1, _, _, _, rfl, rfl, by omega, by rw [hwp, hst], hd, hOz, hfo, hb, hb7, hohb7_hd, HC⟩
    ·
      refine wc_skip ?_
      refine x_seq ?_
      refine wc_seq ?_
      refine wc_seq ?_
      refine wc_region ?_
      refine wl rfl rfl rfl (p_mv rfl) ?_
      refine wl rfl rfl rfl (p_mv rfl) ?_
      have hok0 := hd.ok
      have hS27 := Sl.whole (L := zero32) hb7 ((List.length_replicate ..))
      refine wl rfl rfl rfl (p_slW (N := 31) Tryd.underlying70 sz5 rfl) ?_
      refine wle rfl (e_call ent33 rfl rfl (write_any hd.at_ hd.ok hd.hn (fun _ h => .inr h) hd.arm (by omega) (by omega) (hS27) (fun k hk => (fun hf => hf.elim (fun h => hohb7_hd k h hk) (fun h => by have h3 : k = g7 := hk; have := hb7.lt; omega))) (by omega)) ?_)
      rintro _ w4 ⟨rfl, hdk, hc⟩
      refine ⟨_, rfl, ?_⟩
      obtain ⟨O28, hdn, hO28, hc⟩ := hd.next hdk hc (wr_ok hd.ok _ _) (Nat.le_trans (wr_arm _ _) hd.arm) (by rw [wr_keep]; exact hd.kp) (by omega)
      have hzw4 := hc.size
      first | have HC := HC.trans hc (fun _ _ h => h) (fun _ _ h => h) | have HC := HC.trans hc (fun _ _ h => h) (fun k hk ht => (hOz k ht).resolve_right (by omega))
      first | have hb := hb.no hc | have hb := hb.ch hc hfo | have hb := hb.ch hc (fun k hk ht => by have h2 := hfz k hk; omega)
      have hltg7 := hb7.lt
      have hb7 := hb7.ch hc (fun ht => hohb7_hd _ ht rfl)
      have hohb7_hd : ∀ k, O28 k → k ≠ g7 := fun k h => (hO28 k h).elim (hohb7_hd k) (fun h => by omega)
      have hd := hdn
      have hOz : ∀ k, O28 k → O k ∨ w.heap.size ≤ k := fun k h => (hO28 k h).elim (hOz k) (fun h => .inr (by omega))
      have hfo : ∀ k, Fb k → ¬ O28 k := fun k h1 h2 => (hO28 k h2).elim (hfo k h1) (fun h3 => by have := hfz k h1; omega)
      refine wl rfl rfl rfl (p_as rfl) ?_
      refine wl_nil ?_
      refine x_seq ?_
      refine wc_seq ?_
      refine wc_region ?_
      refine wl rfl rfl rfl (p_mv rfl) ?_
      refine wl rfl rfl rfl (p_ne rfl rfl) ?_
      refine wl_nil ?_
      refine x_seq ?_
      refine wc_if rfl (fun c2 => ?_) (fun c2 => ?_)
      ·
        have c2 := of_decide_eq_true c2
        have hst := wipe_err (wr := wr) htn c1 c2
        refine wc_seq ?_
        refine wc_region ?_
        refine wl rfl rfl rfl (p_mv rfl) ?_
        refine wl rfl rfl rfl (p_as rfl) ?_
        refine wl_nil ?_
        refine x_seq ?_
        refine wc_ret ?_
        refine x_then_ret ?_
        refine x_in_ret ?_
        refine x_then_ret ?_
        refine x_then_ret ?_
        refine x_in_ret ?_
        refine x_then_ret ?_
        refine fin_run (res1 rfl rfl) ?_
        rw [hwp, hst]
        first | exact ⟨_, rfl, hd, hOz, HC⟩ | exact ⟨_, rfl, hd, fun k h => (hO35 k h).elim (hOz k) (fun h => .inr (by omega)), HC⟩
      ·
        have c2 := of_decide_eq_false c2
        have hst := wipe_go (wr := wr) htn c1 (Decidable.not_not.1 c2)
        refine wc_skip ?_
        refine x_seq ?_
        refine wc_region ?_
        refine wl rfl rfl rfl (p_as rfl) ?_
        refine wl_nil ?_
        refine x_in_normal ?_
        refine x_seq ?_
        refine wc_region ?_
        refine wl rfl rfl rfl (p_mv rfl) ?_
        refine wl rfl rfl rfl (p_add (Z := ((32 * (t + 1) : Nat) : Int)) rfl rfl (by rw [w64 (by omega)]; omega)) ?_
        refine wl rfl rfl rfl (p_as rfl) ?_
        refine wl_nil ?_
        refine x_round (e' := [(0, .pointer (some ⟨g, 0, none⟩)), (1, .slice Ab lb cb), (2, i64 ((32 * (t + 1) : Nat) : Int)), (7, .pointer (some ⟨g7, 0, none⟩)), (8, .bool (_))]) ⟨rfl, rfl, rfl, rfl, rfl, trivial⟩ (by rw [hm0]; omega) ⟨t + 1, _, _, _, rfl, rfl, by omega, by rw [hwp, hst], hd, hOz, hfo, hb, hb7, hohb7_hd, HC⟩
  ·
    have c0 := of_decide_eq_false c0
    have htn : t = n := by omega
    subst htn
    refine wc_exit ?_
    refine x_then_exit ?_
    refine x_then_exit ?_
    refine x_in_here ?_
    refine x_seq ?_
    refine wc_seq ?_
    refine wc_seq ?_
    refine wc_region ?_
    refine wl rfl rfl rfl (p_mv rfl) ?_
    refine wl rfl rfl rfl (p_not rfl) ?_
    refine wl_nil ?_
    refine x_seq ?_
    refine wc_if rfl (fun c3 => ?_) (fun c3 => ?_)
    ·
      obtain rfl : wr = false := by simpa using c3
      have hst : wipeR t b (t - t) dd false = (0, dd) := wipe_end
      refine wc_seq ?_
      refine wc_region ?_
      refine wl rfl rfl rfl (p_as rfl) ?_
      refine wl_nil ?_
      refine x_seq ?_
      refine wc_ret ?_
      refine x_then_ret ?_
      refine fin_run (res1 rfl rfl) ?_
      rw [hwp, hst]
      first | exact ⟨_, rfl, hd, hOz, HC⟩ | exact ⟨_, rfl, hd, fun k h => (hO35 k h).elim (hOz k) (fun h => .inr (by omega)), HC⟩
    ·
      obtain rfl : wr = true := by simpa using c3
      have hst : wipeR t b (t - t) dd true = syS dd := wipe_end
      refine wc_skip ?_
      refine x_seq ?_
      refine wc_seq ?_
      refine wc_region ?_
      refine wl rfl rfl rfl (p_mv rfl) ?_
      refine wle rfl (e_call ent34 rfl rfl (sync_any hd.at_ hd.ok hd.hn (fun _ h => .inr h) hd.arm) ?_)
      rintro _ w5 ⟨rfl, hdk, hc⟩
      refine ⟨_, rfl, ?_⟩
      obtain ⟨O35, hdn, hO35, hc⟩ := hd.next hdk hc (sy_ok hd.ok) (Nat.le_trans sy_arm hd.arm) (by rw [sy_keep]; exact hd.kp) (by omega)
      have hzw5 := hc.size
      first | have HC := HC.trans hc (fun _ _ h => h) (fun _ _ h => h) | have HC := HC.trans hc (fun _ _ h => h) (fun k hk ht => (hOz k ht).resolve_right (by omega))
      first | have hb := hb.no hc | have hb := hb.ch hc hfo | have hb := hb.ch hc (fun k hk ht => by have h2 := hfz k hk; omega)
      have hltg7 := hb7.lt
      have hb7 := hb7.ch hc (fun ht => hohb7_hd _ ht rfl)
      have hohb7_hd : ∀ k, O35 k → k ≠ g7 := fun k h => (hO35 k h).elim (hohb7_hd k) (fun h => by omega)
      have hd := hdn
      refine wl rfl rfl rfl (p_as rfl) ?_
      refine wl_nil ?_
      refine x_seq ?_
      refine wc_ret ?_
      refine fin_run (res1 rfl rfl) ?_
      rw [hwp, hst]
      first | exact ⟨_, rfl, hd, hOz, HC⟩ | exact ⟨_, rfl, hd, fun k h => (hO35 k h).elim (hOz k) (fun h => .inr (by omega)), HC⟩

set_option maxHeartbeats 4000000 in
set_option maxRecDepth 20000 in
theorem open6_any {w : World} {w0 : World} {O : Nat → Prop} {g n : Nat} {d : DS} (hd : CD TD w0 w O g n d) (hw0 : w0.heap.size ≤ w.heap.size) (hnib : Sl w (fun k => k = 0) u32v (some ⟨0, 0, none⟩) 16 16 nib) (hw00 : 0 < w0.heap.size) :
    Calls Tryd.prog 14 #[.pointer (some ⟨g, 0, none⟩)] w fun e w' => ∃ (O' : Nat → Prop) (V : Value) (A : Option Addr) (l c : Nat) (wa wb : World) (r : Int × DS), r = openE n d ∧ e = .returned (.tuple #[V, .slice A l c, i64 r.1]) ∧ CD TD w0 w' O' g n r.2 ∧ (∀ k, O' k → O k ∨ w.heap.size ≤ k) ∧ Ch O w w' ∧ w.heap.size ≤ wa.heap.size ∧ wa.heap.size ≤ wb.heap.size ∧ wb.heap.size ≤ w'.heap.size ∧ (r.1 = 0 → (∀ k, O' k → k < wa.heap.size ∨ wb.heap.size ≤ k) ∧ SB w' (fun k => wa.heap.size ≤ k ∧ k < wb.heap.size) A l c (scanW d.now).1 ∧ ∃ gL, V = .pointer (some ⟨gL, 0, none⟩) ∧ wb.heap.size ≤ gL ∧ (∀ k, O' k → k ≠ gL) ∧ ∃ l2 : LS, l2 = ⟨(scanW d.now).2, l, l⟩ ∧ Blk w' gL 42 #[.pointer (some ⟨g, 0, none⟩), i64 (l2.e : Int), i64 (l2.c : Int), i64 (l2.s : Int)]) ∧ (r.1 ≠ 0 → V = .pointer none ∧ A = none ∧ l = 0) := by
  have hd0 := hd
  have hOz : ∀ k, O k → O k ∨ w.heap.size ≤ k := fun k h => .inl h
  have hn := hd.hn
  have HC : Ch O w w := Ch.refl _ _
  refine enter' (args := [.pointer (some ⟨g, 0, none⟩)]) (n := 41) Tryd.func14 rfl rfl rfl ?_
  refine wc_seq ?_
  refine wc_region ?_
  refine wl rfl rfl rfl (p_as rfl) ?_
  refine wl rfl rfl rfl (p_as rfl) ?_
  refine wl rfl rfl rfl (p_as rfl) ?_
  refine wl_nil ?_
  refine x_seq ?_
  refine wc_seq ?_
  refine wc_region ?_
  refine wl rfl rfl rfl (p_mv rfl) ?_
  refine wl rfl rfl rfl (p_mv rfl) ?_
  refine wle rfl (e_call ent28 rfl rfl (size_any hd.at_ hd.hn) ?_)
  rintro _ w1 ⟨rfl, hc⟩
  refine ⟨_, rfl, ?_⟩
  have hzw1 := hc.size
  have HC := HC.tr hc
  have hphd := hd.hi
  have hd := hd.no hc
  have hnib := hnib.no hc
  refine wle rfl (e_call ent25 rfl rfl (read_any (a := 0) hd.at_ hd.ok hd.hn (by omega) (by omega) (by omega) (by omega)) ?_)
  rintro _ w2 ⟨A14, l14, c14, rfl, hl14, hS14, hc⟩
  refine ⟨_, rfl, ?_⟩
  have hzw2 := hc.size
  have HC := HC.tr hc
  have hphd := hd.hi
  have hd := hd.no hc
  have hnib := hnib.no hc
  have hS14 := hS14.mono (G := fun k => w1.heap.size ≤ k ∧ k < w2.heap.size) (fun k h1 h2 => ⟨by first | exact h2 | (have h3 : k = _ := h2; omega), h1⟩)
  have hohS14_hd : ∀ k, O k → k < w1.heap.size ∨ w2.heap.size ≤ k := fun k h => .inl (hphd k h)
  refine wl rfl rfl rfl (p_mv rfl) ?_
  refine wl rfl rfl rfl (p_ext rfl rfl) ?_
  refine wl rfl rfl rfl (p_ext rfl rfl) ?_
  refine wl rfl rfl rfl (p_as rfl) ?_
  refine wl rfl rfl rfl (p_as rfl) ?_
  refine wl_nil ?_
  refine x_seq ?_
  refine wc_seq ?_
  refine wc_seq ?_
  refine wc_region ?_
  refine wl rfl rfl rfl (p_mv rfl) ?_
  refine wl rfl rfl rfl (p_ne rfl rfl) ?_
  refine wl_nil ?_
  refine x_seq ?_
  refine wc_if rfl (fun c0 => ?_) (fun c0 => ?_)
  ·
    have c0 := of_decide_eq_true c0
    have hop := open_bad c0
    refine wc_seq ?_
    refine wc_region ?_
    refine wl rfl rfl rfl (p_mv rfl) ?_
    refine wl rfl rfl rfl (p_as rfl) ?_
    refine wl rfl rfl rfl (p_as rfl) ?_
    refine wl rfl rfl rfl (p_as rfl) ?_
    refine wl_nil ?_
    refine x_seq ?_
    refine wc_ret ?_
    refine x_then_ret ?_
    refine fin_run (res3 rfl rfl rfl rfl) ?_
    rw [hop]
    first
      | exact ⟨O, _, _, _, _, w, w, _, rfl, rfl, hd, hOz, HC, by omega, by omega, HC.size, fun h => absurd h c0, fun _ => ⟨rfl, rfl, rfl⟩⟩
      | exact ⟨O28, _, _, _, _, w2, w3, _, rfl, rfl, hd, hOz, HC, by omega, by omega, by omega, fun h => absurd h c1, fun _ => ⟨rfl, rfl, rfl⟩⟩
      | exact ⟨O28, _, _, _, _, w2, w3, _, rfl, by rw [Decidable.not_not.1 c1]; rfl, hd, hOz, HC, by omega, by omega, by omega, fun _ => ⟨hohS22_hd, hS22, g39, rfl, by omega, hohb39_hd, _, rfl, hb39⟩, fun h => absurd (Decidable.not_not.1 c1) h⟩
  ·
    have c0 := of_decide_eq_false c0
    have c0 := Decidable.not_not.1 c0
    have hop := open_good hd.ok.w c0
    have e14 := rd_ok hd.ok.w c0
    rw [e14] at hS14 hl14 ⊢
    have hl14 : l14 = 32 * n := by rw [hl14]; exact hd.ok.w
    refine wc_skip ?_
    refine x_seq ?_
    refine wc_seq ?_
    refine wc_region ?_
    refine wl rfl rfl rfl (p_mv rfl) ?_
    refine wle rfl (e_call ent10 rfl rfl (scan_any (hS14) (by omega) hnib) ?_)
    rintro _ w3 ⟨A22, l22, c22, rfl, hS22, hc⟩
    refine ⟨_, rfl, ?_⟩
    have hzw3 := hc.size
    have HC := HC.tr hc
    have hphd := hd.hi
    have hd := hd.no hc
    have hnib := hnib.no hc
    have hS14 := hS14.no hc
    have hSl22 := hS22.len
    have hS22 := hS22.mono (G := fun k => w2.heap.size ≤ k ∧ k < w3.heap.size) (fun k h1 h2 => ⟨by first | exact h2 | (have h3 : k = _ := h2; omega), h1⟩)
    have hohS22_hd : ∀ k, O k → k < w2.heap.size ∨ w3.heap.size ≤ k := fun k h => .inl (hphd k h)
    have hle := scanW_le (b := d.now)
    rw [hd0.ok.w] at hle
    obtain ⟨q, hq⟩ : ∃ q, (scanW d.now).2 = 32 * q := ⟨(scanW d.now).2 / 32, by omega⟩
    rw [hq]
    rw [hq, show 32 * q / 32 = q by omega] at hop
    refine wl rfl rfl rfl (p_mv rfl) ?_
    refine wl rfl rfl rfl (p_ext rfl rfl) ?_
    refine wl rfl rfl rfl (p_ext rfl rfl) ?_
    refine wl rfl rfl rfl (p_as rfl) ?_
    refine wl rfl rfl rfl (p_as rfl) ?_
    refine wl_nil ?_
    refine x_seq ?_
    refine wc_seq ?_
    refine wc_seq ?_
    refine wc_region ?_
    refine wl rfl rfl rfl (p_mv rfl) ?_
    refine wl rfl rfl rfl (p_mv rfl) ?_
    refine wl rfl rfl rfl (p_mv rfl) ?_
    refine wle rfl (e_call ent29 rfl rfl (wipe_any hd hS14 (fun k hk hf => by have h1 := hohS14_hd k hf; have h2 : w1.heap.size ≤ k ∧ k < w2.heap.size := hk; omega) (fun k hk => by have h2 : w1.heap.size ≤ k ∧ k < w2.heap.size := hk; omega) (by omega) (by omega) (by omega)) ?_)
    rintro _ w4 ⟨O28, rfl, hdn, hO28, hc⟩
    refine ⟨_, rfl, ?_⟩
    have hzw4 := hc.size
    first | have HC := HC.trans hc (fun _ _ h => h) (fun _ _ h => h) | have HC := HC.trans hc (fun _ _ h => h) (fun k hk ht => (hOz k ht).resolve_right (by omega))
    have hnib := hnib.ch hc (fun k hk ht => by have h1 := hd.lo k ht; first | (have h2 : k < w0.heap.size := hk; omega) | (have h2 : k = 0 := hk; omega))
    have hS14 := hS14.ch hc (fun k hk ht => by have h1 := hohS14_hd k ht; have h2 : w1.heap.size ≤ k ∧ k < w2.heap.size := hk; omega)
    have hS22 := hS22.ch hc (fun k hk ht => by have h1 := hohS22_hd k ht; have h2 : w2.heap.size ≤ k ∧ k < w3.heap.size := hk; omega)
    have hohS14_hd : ∀ k, O28 k → k < w1.heap.size ∨ w2.heap.size ≤ k := fun k h => (hO28 k h).elim (hohS14_hd k) (fun h => .inr (by omega))
    have hohS22_hd : ∀ k, O28 k → k < w2.heap.size ∨ w3.heap.size ≤ k := fun k h => (hO28 k h).elim (hohS22_hd k) (fun h => .inr (by omega))
    have hd := hdn
    have hOz : ∀ k, O28 k → O k ∨ w.heap.size ≤ k := fun k h => (hO28 k h).elim (hOz k) (fun h => .inr (by omega))
    refine wl rfl rfl rfl (p_as rfl) ?_
    refine wl_nil ?_
    refine x_seq ?_
    refine wc_seq ?_
    refine wc_region ?_
    refine wl rfl rfl rfl (p_mv rfl) ?_
    refine wl rfl rfl rfl (p_ne rfl rfl) ?_
    refine wl_nil ?_
    refine x_seq ?_
    refine wc_if rfl (fun c1 => ?_) (fun c1 => ?_)
    ·
      have c1 := of_decide_eq_true c1
      refine wc_seq ?_
      refine wc_region ?_
      refine wl rfl rfl rfl (p_mv rfl) ?_
      refine wl rfl rfl rfl (p_as rfl) ?_
      refine wl rfl rfl rfl (p_as rfl) ?_
      refine wl rfl rfl rfl (p_as rfl) ?_
      refine wl_nil ?_
      refine x_seq ?_
      refine wc_ret ?_
      refine x_then_ret ?_
      refine fin_run (res3 rfl rfl rfl rfl) ?_
      rw [hop]
      first
        | exact ⟨O, _, _, _, _, w, w, _, rfl, rfl, hd, hOz, HC, by omega, by omega, HC.size, fun h => absurd h c0, fun _ => ⟨rfl, rfl, rfl⟩⟩
        | exact ⟨O28, _, _, _, _, w2, w3, _, rfl, rfl, hd, hOz, HC, by omega, by omega, by omega, fun h => absurd h c1, fun _ => ⟨rfl, rfl, rfl⟩⟩
        | exact ⟨O28, _, _, _, _, w2, w3, _, rfl, by rw [Decidable.not_not.1 c1]; rfl, hd, hOz, HC, by omega, by omega, by omega, fun _ => ⟨hohS22_hd, hS22, g39, rfl, by omega, hohb39_hd, _, rfl, hb39⟩, fun h => absurd (Decidable.not_not.1 c1) h⟩
    ·
      have c1 := of_decide_eq_false c1
      refine wc_skip ?_
      refine x_seq ?_
      refine wc_seq ?_
      refine wc_region ?_
      refine wl rfl rfl rfl (p_mv rfl) ?_
      refine wl rfl rfl rfl (p_mv rfl) ?_
      refine wl rfl rfl rfl (p_mv rfl) ?_
      refine wl rfl rfl rfl (p_lenS Tryd.underlying24 rfl) ?_
      refine wl rfl rfl rfl (p_mv rfl) ?_
      refine wl rfl rfl rfl (p_lenS Tryd.underlying24 rfl) ?_
      refine wl rfl rfl rfl (p_bldV rfl (fun _ => by kernel_rfl)) ?_
      refine wle rfl (e_box (cs := #[.pointer (some ⟨g, 0, none⟩), i64 ((32 * q : Nat) : Int), i64 (l22 : Int), i64 (l22 : Int)]) rfl rfl rfl (fun w5 g39 hg39 hb39 hc hsz39 => ?_))
      have hzw5 := hc.size
      have HC := HC.tr hc
      have hphd := hd.hi
      have hd := hd.no hc
      have hnib := hnib.no hc
      have hS14 := hS14.no hc
      have hS22 := hS22.no hc
      have hohb39_hd : ∀ k, O28 k → k ≠ g39 := fun k h e => by have := hphd k h; omega
      have hge39 : w.heap.size ≤ g39 := by have := HC.size; omega
      refine wl rfl rfl rfl (p_mv rfl) ?_
      refine wl rfl rfl rfl (p_as rfl) ?_
      refine wl rfl rfl rfl (p_as rfl) ?_
      refine wl rfl rfl rfl (p_as rfl) ?_
      refine wl_nil ?_
      refine x_seq ?_
      refine wc_ret ?_
      refine fin_run (res3 rfl rfl rfl rfl) ?_
      rw [hop]
      first
        | exact ⟨O, _, _, _, _, w, w, _, rfl, rfl, hd, hOz, HC, by omega, by omega, HC.size, fun h => absurd h c0, fun _ => ⟨rfl, rfl, rfl⟩⟩
        | exact ⟨O28, _, _, _, _, w2, w3, _, rfl, rfl, hd, hOz, HC, by omega, by omega, by omega, fun h => absurd h c1, fun _ => ⟨rfl, rfl, rfl⟩⟩
        | exact ⟨O28, _, _, _, _, w2, w3, _, rfl, by rw [Decidable.not_not.1 c1]; rfl, hd, hOz, HC, by omega, by omega, by omega, fun _ => ⟨hohS22_hd, hS22, g39, rfl, by omega, hohb39_hd, _, rfl, hb39⟩, fun h => absurd (Decidable.not_not.1 c1) h⟩

set_option maxHeartbeats 1000000 in
set_option maxRecDepth 20000 in
theorem made6_any {w : World} {gL g : Nat} {l : LS} (hL : Blk w gL 42 #[.pointer (some ⟨g, 0, none⟩), i64 (l.e : Int), i64 (l.c : Int), i64 (l.s : Int)]) :
    Calls Tryd.prog 30 #[.pointer (some ⟨gL, 0, none⟩)] w fun e w' => e = .returned (.bool true) ∧ Ch No w w' := by
  have HC : Ch No w w := Ch.refl _ _
  refine enter' (args := [.pointer (some ⟨gL, 0, none⟩)]) (n := 12) Tryd.func30 rfl rfl rfl ?_
  refine wc_seq ?_
  refine wc_region ?_
  refine wl rfl rfl rfl (p_as rfl) ?_
  refine wl_nil ?_
  refine x_seq ?_
  refine wc_seq ?_
  refine wc_region ?_
  refine wl rfl rfl rfl (p_mv rfl) ?_
  refine wl rfl rfl rfl (p_nePN rfl rfl Tryd.underlying33) ?_
  refine wl rfl rfl rfl (p_mv rfl) ?_
  refine wl_g (gd_ rfl rfl rfl rfl rfl rfl) rfl rfl (p_mv rfl) ?_
  refine wl_g (gd_ rfl rfl rfl rfl rfl rfl) rfl rfl (p_nck rfl) ?_
  refine wl_g (gd_ rfl rfl rfl rfl rfl rfl) rfl rfl (p_fld (j := 0) Tryd.underlying42 rfl ⟨_, by rfl⟩ rfl rfl) ?_
  refine wl_g (gd_ rfl rfl rfl rfl rfl rfl) rfl rfl (p_ld Tryd.underlying31 rfl rfl (ld (hL.cell rfl))) ?_
  refine wl_g (gd_ rfl rfl rfl rfl rfl rfl) rfl rfl (p_nePN rfl rfl Tryd.underlying31) ?_
  refine wl rfl rfl rfl (p_pickT rfl rfl) ?_
  refine wl rfl rfl rfl (p_as rfl) ?_
  refine wl_nil ?_
  refine x_seq ?_
  refine wc_ret ?_
  refine fin_run (res1 rfl rfl) ?_
  exact ⟨rfl, HC⟩

set_option maxHeartbeats 1000000 in
set_option maxRecDepth 20000 in
theorem end6_any {w : World} {gL g : Nat} {l : LS} (hL : Blk w gL 42 #[.pointer (some ⟨g, 0, none⟩), i64 (l.e : Int), i64 (l.c : Int), i64 (l.s : Int)]) :
    Calls Tryd.prog 16 #[.pointer (some ⟨gL, 0, none⟩)] w fun e w' => e = .returned (i64 (l.e : Int)) ∧ Ch No w w' := by
  have HC : Ch No w w := Ch.refl _ _
  refine enter' (args := [.pointer (some ⟨gL, 0, none⟩)]) (n := 10) Tryd.func16 rfl rfl rfl ?_
  refine wc_seq ?_
  refine wc_region ?_
  refine wl rfl rfl rfl (p_as rfl) ?_
  refine wl_nil ?_
  refine x_seq ?_
  refine wc_seq ?_
  refine wc_seq ?_
  refine wc_region ?_
  refine wl rfl rfl rfl (p_mv rfl) ?_
  refine wle rfl (e_call ent30 rfl rfl (made6_any (l := l) hL) ?_)
  rintro _ w1 ⟨rfl, hc⟩
  refine ⟨_, rfl, ?_⟩
  have hzw1 := hc.size
  have HC := HC.tr hc
  have hL := hL.ch hc (fun h => h)
  refine wl rfl rfl rfl (p_not rfl) ?_
  refine wl_nil ?_
  refine x_seq ?_
  refine wc_no rfl (rfl) ?_
  refine wc_skip ?_
  refine x_seq ?_
  refine wc_seq ?_
  refine wc_region ?_
  refine wl rfl rfl rfl (p_mv rfl) ?_
  refine wl rfl rfl rfl (p_nck rfl) ?_
  refine wl rfl rfl rfl (p_fld (j := 1) Tryd.underlying42 rfl ⟨_, by rfl⟩ rfl rfl) ?_
  refine wl rfl rfl rfl (p_ld Tryd.underlying3 rfl rfl (ld (hL.cell rfl))) ?_
  refine wl rfl rfl rfl (p_as rfl) ?_
  refine wl_nil ?_
  refine x_seq ?_
  refine wc_ret ?_
  refine fin_run (res1 rfl rfl) ?_
  exact ⟨rfl, HC⟩

set_option maxHeartbeats 1000000 in
set_option maxRecDepth 20000 in
theorem count6_any {w : World} {gL g : Nat} {l : LS} (hL : Blk w gL 42 #[.pointer (some ⟨g, 0, none⟩), i64 (l.e : Int), i64 (l.c : Int), i64 (l.s : Int)]) :
    Calls Tryd.prog 17 #[.pointer (some ⟨gL, 0, none⟩)] w fun e w' => e = .returned (i64 (l.c : Int)) ∧ Ch No w w' := by
  have HC : Ch No w w := Ch.refl _ _
  refine enter' (args := [.pointer (some ⟨gL, 0, none⟩)]) (n := 10) Tryd.func17 rfl rfl rfl ?_
  refine wc_seq ?_
  refine wc_region ?_
  refine wl rfl rfl rfl (p_as rfl) ?_
  refine wl_nil ?_
  refine x_seq ?_
  refine wc_seq ?_
  refine wc_seq ?_
  refine wc_region ?_
  refine wl rfl rfl rfl (p_mv rfl) ?_
  refine wle rfl (e_call ent30 rfl rfl (made6_any (l := l) hL) ?_)
  rintro _ w1 ⟨rfl, hc⟩
  refine ⟨_, rfl, ?_⟩
  have hzw1 := hc.size
  have HC := HC.tr hc
  have hL := hL.ch hc (fun h => h)
  refine wl rfl rfl rfl (p_not rfl) ?_
  refine wl_nil ?_
  refine x_seq ?_
  refine wc_no rfl (rfl) ?_
  refine wc_skip ?_
  refine x_seq ?_
  refine wc_seq ?_
  refine wc_region ?_
  refine wl rfl rfl rfl (p_mv rfl) ?_
  refine wl rfl rfl rfl (p_nck rfl) ?_
  refine wl rfl rfl rfl (p_fld (j := 2) Tryd.underlying42 rfl ⟨_, by rfl⟩ rfl rfl) ?_
  refine wl rfl rfl rfl (p_ld Tryd.underlying3 rfl rfl (ld (hL.cell rfl))) ?_
  refine wl rfl rfl rfl (p_as rfl) ?_
  refine wl_nil ?_
  refine x_seq ?_
  refine wc_ret ?_
  refine fin_run (res1 rfl rfl) ?_
  exact ⟨rfl, HC⟩

set_option maxHeartbeats 1000000 in
set_option maxRecDepth 20000 in
theorem synced6_any {w : World} {gL g : Nat} {l : LS} (hL : Blk w gL 42 #[.pointer (some ⟨g, 0, none⟩), i64 (l.e : Int), i64 (l.c : Int), i64 (l.s : Int)]) :
    Calls Tryd.prog 19 #[.pointer (some ⟨gL, 0, none⟩)] w fun e w' => e = .returned (i64 (l.s : Int)) ∧ Ch No w w' := by
  have HC : Ch No w w := Ch.refl _ _
  refine enter' (args := [.pointer (some ⟨gL, 0, none⟩)]) (n := 10) Tryd.func19 rfl rfl rfl ?_
  refine wc_seq ?_
  refine wc_region ?_
  refine wl rfl rfl rfl (p_as rfl) ?_
  refine wl_nil ?_
  refine x_seq ?_
  refine wc_seq ?_
  refine wc_seq ?_
  refine wc_region ?_
  refine wl rfl rfl rfl (p_mv rfl) ?_
  refine wle rfl (e_call ent30 rfl rfl (made6_any (l := l) hL) ?_)
  rintro _ w1 ⟨rfl, hc⟩
  refine ⟨_, rfl, ?_⟩
  have hzw1 := hc.size
  have HC := HC.tr hc
  have hL := hL.ch hc (fun h => h)
  refine wl rfl rfl rfl (p_not rfl) ?_
  refine wl_nil ?_
  refine x_seq ?_
  refine wc_no rfl (rfl) ?_
  refine wc_skip ?_
  refine x_seq ?_
  refine wc_seq ?_
  refine wc_region ?_
  refine wl rfl rfl rfl (p_mv rfl) ?_
  refine wl rfl rfl rfl (p_nck rfl) ?_
  refine wl rfl rfl rfl (p_fld (j := 3) Tryd.underlying42 rfl ⟨_, by rfl⟩ rfl rfl) ?_
  refine wl rfl rfl rfl (p_ld Tryd.underlying3 rfl rfl (ld (hL.cell rfl))) ?_
  refine wl rfl rfl rfl (p_as rfl) ?_
  refine wl_nil ?_
  refine x_seq ?_
  refine wc_ret ?_
  refine fin_run (res1 rfl rfl) ?_
  exact ⟨rfl, HC⟩

set_option maxHeartbeats 4000000 in
set_option maxRecDepth 20000 in
theorem sync6_any {w : World} {w0 : World} {O : Nat → Prop} {g gL n : Nat} {d : DS} {l : LS} (hd : CD TD w0 w O g n d) (hL : Blk w gL 42 #[.pointer (some ⟨g, 0, none⟩), i64 (l.e : Int), i64 (l.c : Int), i64 (l.s : Int)]) (hohL_hd : ∀ k, O k → k ≠ gL) (hw0 : w0.heap.size ≤ w.heap.size) :
    Calls Tryd.prog 18 #[.pointer (some ⟨gL, 0, none⟩)] w fun e w' => ∃ (O' : Nat → Prop) (wm : World) (r : Int × DS) (l2 : LS), r = syS d ∧ l2 = syL d l ∧ e = .returned (i64 r.1) ∧ CD TD w0 wm O' g n r.2 ∧ (∀ k, O' k → O k ∨ w.heap.size ≤ k) ∧ Ch O w wm ∧ Ch (fun k => k = gL) wm w' ∧ Blk w' gL 42 #[.pointer (some ⟨g, 0, none⟩), i64 (l2.e : Int), i64 (l2.c : Int), i64 (l2.s : Int)] := by
  have hd0 := hd
  have hOz : ∀ k, O k → O k ∨ w.heap.size ≤ k := fun k h => .inl h
  have hn := hd.hn
  have hHi := hd.hi
  have hgLw := hL.lt
  have HC : Ch O w w := Ch.refl _ _
  refine enter' (args := [.pointer (some ⟨gL, 0, none⟩)]) (n := 22) Tryd.func18 rfl rfl rfl ?_
  refine wc_seq ?_
  refine wc_region ?_
  refine wl rfl rfl rfl (p_as rfl) ?_
  refine wl_nil ?_
  refine x_seq ?_
  refine wc_seq ?_
  refine wc_seq ?_
  refine wc_region ?_
  refine wl rfl rfl rfl (p_mv rfl) ?_
  refine wle rfl (e_call ent30 rfl rfl (made6_any (l := l) hL) ?_)
  rintro _ w1 ⟨rfl, hc⟩
  refine ⟨_, rfl, ?_⟩
  have hzw1 := hc.size
  have HC := HC.tr hc
  have hphd := hd.hi
  have hd := hd.no hc
  have hL := hL.ch hc (fun h => h)
  refine wl rfl rfl rfl (p_not rfl) ?_
  refine wl_nil ?_
  refine x_seq ?_
  refine wc_no rfl (rfl) ?_
  refine wc_skip ?_
  refine x_seq ?_
  refine wc_seq ?_
  refine wc_region ?_
  refine wl rfl rfl rfl (p_mv rfl) ?_
  refine wl rfl rfl rfl (p_nck rfl) ?_
  refine wl rfl rfl rfl (p_fld (j := 0) Tryd.underlying42 rfl ⟨_, by rfl⟩ rfl rfl) ?_
  refine wl rfl rfl rfl (p_ld Tryd.underlying31 rfl rfl (ld (hL.cell rfl))) ?_
  refine wle rfl (e_call ent34 rfl rfl (sync_any hd.at_ hd.ok hd.hn (fun _ h => .inr h) hd.arm) ?_)
  rintro _ w2 ⟨rfl, hdk, hc⟩
  refine ⟨_, rfl, ?_⟩
  obtain ⟨O11, hdn, hO11, hc⟩ := hd.next hdk hc (sy_ok hd.ok) (Nat.le_trans sy_arm hd.arm) (by rw [sy_keep]; exact hd.kp) (by omega)
  have hzw2 := hc.size
  first | have HC := HC.trans hc (fun _ _ h => h) (fun _ _ h => h) | have HC := HC.trans hc (fun _ _ h => h) (fun k hk ht => (hOz k ht).resolve_right (by omega))
  have hltgL := hL.lt
  have hL := hL.ch hc (fun ht => hohL_hd _ ht rfl)
  have hohL_hd : ∀ k, O11 k → k ≠ gL := fun k h => (hO11 k h).elim (hohL_hd k) (fun h => by omega)
  have hd := hdn
  have hOz : ∀ k, O11 k → O k ∨ w.heap.size ≤ k := fun k h => (hO11 k h).elim (hOz k) (fun h => .inr (by omega))
  obtain ⟨wm, hwm⟩ : ∃ x, x = w2 := ⟨_, rfl⟩
  have hdm := hd
  have HCm := HC
  rw [← hwm] at hdm HCm
  have hcL : Ch (fun k => k = gL) wm w2 := by rw [hwm]; exact Ch.refl _ _
  refine wl rfl rfl rfl (p_as rfl) ?_
  refine wl_nil ?_
  refine x_seq ?_
  refine wc_seq ?_
  refine wc_seq ?_
  refine wc_region ?_
  refine wl rfl rfl rfl (p_mv rfl) ?_
  refine wl rfl rfl rfl (p_eq rfl rfl) ?_
  refine wl_nil ?_
  refine x_seq ?_
  refine wc_if rfl (fun c1 => ?_) (fun c1 => ?_)
  ·
    have c1 := of_decide_eq_true c1
    have hl : syL d l = ⟨l.e, l.c, l.c⟩ := by rw [syL, if_pos c1]
    refine wc_region ?_
    refine wl rfl rfl rfl (p_mv rfl) ?_
    refine wl rfl rfl rfl (p_mv rfl) ?_
    refine wl rfl rfl rfl (p_nck rfl) ?_
    refine wl rfl rfl rfl (p_fld (j := 2) Tryd.underlying42 rfl ⟨_, by rfl⟩ rfl rfl) ?_
    refine wl rfl rfl rfl (p_ld Tryd.underlying3 rfl rfl (ld (hL.cell rfl))) ?_
    refine wl rfl rfl rfl (p_nck rfl) ?_
    refine wl rfl rfl rfl (p_fld (j := 3) Tryd.underlying42 rfl ⟨_, by rfl⟩ rfl rfl) ?_
    refine wle rfl (e_stF (j := 3) (vs := [.pointer (some ⟨g, 0, none⟩), i64 (l.e : Int), i64 (l.c : Int), i64 (l.s : Int)]) (by rfl) rfl rfl rfl hL (by simp) (fun w3 hL hc hsz => ?_))
    have hL : Blk w3 gL 42 #[.pointer (some ⟨g, 0, none⟩), i64 (l.e : Int), i64 (l.c : Int), i64 (l.c : Int)] := hL
    have hzw3 := hc.size
    have hcL := hcL.trans hc (fun _ _ h => h) (fun _ _ h => h)
    have hd := hd.other hc (fun k hk ht => by have h1 := hohL_hd k hk; have h2 : k = gL := ht; omega)
    refine wl_nil ?_
    refine x_seq ?_
    refine wc_seq ?_
    refine wc_region ?_
    refine wl rfl rfl rfl (p_mv rfl) ?_
    refine wl rfl rfl rfl (p_as rfl) ?_
    refine wl_nil ?_
    refine x_seq ?_
    refine wc_ret ?_
    refine fin_run (res1 rfl rfl) ?_
    rw [hl]
    exact ⟨O11, wm, _, _, rfl, rfl, rfl, hdm, hOz, HCm, hcL, hL⟩
  ·
    have c1 := of_decide_eq_false c1
    have hl : syL d l = l := by rw [syL, if_neg c1]
    refine wc_skip ?_
    refine x_seq ?_
    refine wc_seq ?_
    refine wc_region ?_
    refine wl rfl rfl rfl (p_mv rfl) ?_
    refine wl rfl rfl rfl (p_as rfl) ?_
    refine wl_nil ?_
    refine x_seq ?_
    refine wc_ret ?_
    refine fin_run (res1 rfl rfl) ?_
    rw [hl]
    exact ⟨O11, wm, _, _, rfl, rfl, rfl, hdm, hOz, HCm, hcL, hL⟩

set_option maxHeartbeats 4000000 in
set_option maxRecDepth 20000 in
theorem append6_any {w : World} {w0 : World} {O : Nat → Prop} {g gL n : Nat} {d : DS} {l : LS}{Ab : Option Addr} {lb cb : Nat} {Fb : Nat → Prop} {b : List UInt8} (hd : CD TD w0 w O g n d) (hL : Blk w gL 42 #[.pointer (some ⟨g, 0, none⟩), i64 (l.e : Int), i64 (l.c : Int), i64 (l.s : Int)]) (hohL_hd : ∀ k, O k → k ≠ gL) (hw0 : w0.heap.size ≤ w.heap.size) (hb : Sl w Fb u8v Ab lb cb b) (hle : l.e ≤ 131072) (hlc : l.c ≤ 4096) (hlb : lb ≤ 140737488355328) (hnib : Sl w (fun k => k = 0) u32v (some ⟨0, 0, none⟩) 16 16 nib) (hw00 : 0 < w0.heap.size) :
    Calls Tryd.prog 15 #[.pointer (some ⟨gL, 0, none⟩), .slice Ab lb cb] w fun e w' => ∃ (O' : Nat → Prop) (wm : World) (r : Int × DS) (l2 : LS), r = apE n d l b ∧ l2 = apL n d l b ∧ e = .returned (i64 r.1) ∧ CD TD w0 wm O' g n r.2 ∧ (∀ k, O' k → O k ∨ w.heap.size ≤ k) ∧ Ch O w wm ∧ Ch (fun k => k = gL) wm w' ∧ Blk w' gL 42 #[.pointer (some ⟨g, 0, none⟩), i64 (l2.e : Int), i64 (l2.c : Int), i64 (l2.s : Int)] := by
  have hd0 := hd
  have hOz : ∀ k, O k → O k ∨ w.heap.size ≤ k := fun k h => .inl h
  have hn := hd.hn
  have hHi := hd.hi
  have hgLw := hL.lt
  have hbl := hb.len
  have hbc := hb.cap
  have hb := hb.old
  have HC : Ch O w w := Ch.refl _ _
  refine enter' (args := [.pointer (some ⟨gL, 0, none⟩), .slice Ab lb cb]) (n := 54) Tryd.func15 rfl rfl rfl ?_
  refine wc_seq ?_
  refine wc_region ?_
  refine wl rfl rfl rfl (p_as rfl) ?_
  refine wl_nil ?_
  refine x_seq ?_
  refine wc_seq ?_
  refine wc_block ?_
  refine wc_seq ?_
  refine wc_region ?_
  refine wl rfl rfl rfl (p_mv rfl) ?_
  refine wle rfl (e_call ent30 rfl rfl (made6_any (l := l) hL) ?_)
  rintro _ w1 ⟨rfl, hc⟩
  refine ⟨_, rfl, ?_⟩
  have hzw1 := hc.size
  have HC := HC.tr hc
  have hphd := hd.hi
  have hd := hd.no hc
  have hL := hL.ch hc (fun h => h)
  have hb := hb.no hc
  have hnib := hnib.no hc
  refine wl rfl rfl rfl (p_not rfl) ?_
  refine wl rfl rfl rfl (p_as rfl) ?_
  refine wl_nil ?_
  refine x_seq ?_
  refine wc_no rfl (rfl) ?_
  refine wc_seq ?_
  refine wc_region ?_
  refine wl rfl rfl rfl (p_mv rfl) ?_
  refine wl rfl rfl rfl (p_lenS Tryd.underlying22 rfl) ?_
  refine wl rfl rfl rfl (p_gt rfl rfl) ?_
  refine wl rfl rfl rfl (p_as rfl) ?_
  refine wl_nil ?_
  refine x_seq ?_
  refine wc_if rfl (fun c1 => ?_) (fun c1 => ?_)
  ·
    have c1 := of_decide_eq_true c1
    have hap := ap_long (n := n) (d := d) (l := l) (b := b) (by omega)
    have hcL : Ch (fun k => k = gL) w1 w1 := Ch.refl _ _
    refine wc_seq ?_
    refine wc_region ?_
    refine wl rfl rfl rfl (p_as rfl) ?_
    refine wl_nil ?_
    refine x_seq ?_
    refine wc_ret ?_
    refine x_in_ret ?_
    refine x_then_ret ?_
    refine fin_run (res1 rfl rfl) ?_
    rw [hap.1, hap.2]
    first | exact ⟨O34, wm, _, _, rfl, rfl, rfl, hdm, hOz, HCm, hcL, hL⟩ | exact ⟨O34, wm, _, _, rfl, rfl, congrArg (fun z => Ending.returned (i64 z)) c2.symm, hdm, hOz, HCm, hcL, hL⟩ | exact ⟨O, _, _, _, rfl, rfl, rfl, hd, hOz, HC, hcL, hL⟩
  ·
    have c1 := of_decide_eq_false c1
    have hsm : b.length ≤ 8192 := by omega
    have hfl := frame_len (b := b) rfl hsm
    have hel := encN_len (x := b.length) (by omega)
    have hpl := padW_len b
    have hug := up32_ge (frame b).length
    have hul := up32_lt (frame b).length
    refine wc_skip ?_
    refine x_in_normal ?_
    refine x_seq ?_
    refine wc_seq ?_
    refine wc_region ?_
    refine wl rfl rfl rfl (p_mv rfl) ?_
    refine wle rfl (e_call ent31 rfl rfl (frame_any (hb) (by omega) hnib) ?_)
    rintro _ w2 ⟨A16, c16, rfl, hW16, hc⟩
    refine ⟨_, rfl, ?_⟩
    have hzw2 := hc.size
    have HC := HC.tr hc
    have hphd := hd.hi
    have hd := hd.no hc
    have hL := hL.ch hc (fun h => h)
    have hb := hb.no hc
    have hnib := hnib.no hc
    refine wl rfl rfl rfl (p_as rfl) ?_
    refine wl_nil ?_
    refine x_seq ?_
    refine wc_seq ?_
    refine wc_region ?_
    refine wl rfl rfl rfl (p_mv rfl) ?_
    refine wl rfl rfl rfl (p_mv rfl) ?_
    refine wl rfl rfl rfl (p_lenS Tryd.underlying22 rfl) ?_
    refine wle rfl (e_call ent32 rfl rfl (up_any (by omega)) ?_)
    rintro _ w3 ⟨rfl, hc⟩
    refine ⟨_, rfl, ?_⟩
    have hzw3 := hc.size
    have HC := HC.tr hc
    have hphd := hd.hi
    have hd := hd.no hc
    have hL := hL.ch hc (fun h => h)
    have hb := hb.no hc
    have hnib := hnib.no hc
    have hW16 := hW16.after hc
    refine wl rfl rfl rfl (p_mv rfl) ?_
    refine wl rfl rfl rfl (p_lenS Tryd.underlying22 rfl) ?_
    refine wl rfl rfl rfl (p_sub (Z := ((up32 (frame b).length - (frame b).length : Nat) : Int)) rfl rfl (by rw [w64 (by omega)]; omega)) ?_
    refine wle rfl (e_appZ rfl el22 (by rfl) Tryd.underlying3 rfl rfl hW16 (by omega) (by omega) (by intro k hk; first | omega | (dsimp only at *; omega)) (fun w4 v24 hW16 hc => ?_))
    obtain ⟨A24, c24, rfl⟩ := hW16.shape
    rw [show (frame b).map u8v ++ List.replicate (up32 (frame b).length - (frame b).length) (Value.int .u8 0) = (padW b).map u8v by rw [padW, List.map_append, List.map_replicate]; rfl, show (frame b).length + (up32 (frame b).length - (frame b).length) = (padW b).length by rw [hpl]; omega] at hW16
    rw [show (frame b).length + (up32 (frame b).length - (frame b).length) = (padW b).length by rw [hpl]; omega]
    have hzw4 := hc.size
    have HC := HC.trans hc (fun _ _ h => h) (fun k hk ht => absurd ht (by first | omega | (dsimp only at *; omega)))
    have hd := hd.other hc (fun k hk ht => by have h1 := hHi k hk; first | omega | (dsimp only at ht; omega))
    have hL := hL.ch hc (by first | omega | (dsimp only; omega))
    first | have hb := hb.ch hc (by intro k hk ht; first | omega | (dsimp only at *; omega)) | have hb := hb.chT hc (by intro k hz hk ht; first | omega | (dsimp only at *; omega))
    first | have hnib := hnib.ch hc (by intro k hk ht; first | omega | (dsimp only at *; omega)) | have hnib := hnib.chT hc (by intro k hz hk ht; first | omega | (dsimp only at *; omega))
    refine wl rfl rfl rfl (p_as rfl) ?_
    refine wl_nil ?_
    refine x_seq ?_
    refine wc_seq ?_
    refine wc_seq ?_
    have hS16 : Sl w4 (fun k => w.heap.size ≤ k ∧ k < w4.heap.size) u8v A24 (padW b).length c24 (padW b) := by have h := hW16.sl; rw [hpl] at h ⊢; exact h.mono (fun k hk hf => ⟨by first | omega | (dsimp only at hf; omega), hk⟩)
    have hohS16_hd : ∀ k, O k → k < w.heap.size ∨ w4.heap.size ≤ k := fun k h => .inl (hHi k h)
    refine wc_draw (.st 0 0 (.st 1 0 (.st 2 0 (.st 3 1 (.st 4 0 (.st 5 0 (.st 6 0 (.st 7 1 (.st 8 0 (.st 9 3 (.st 10 0 .nil))))))))))) 9 (by kernel_rfl) (by kernel_rfl) (by kernel_rfl) (by repeat (first | with_reducible exact pan_body | with_reducible apply pan_then | with_reducible apply pan_in)) (fun x => Ch No w4.drew x) (Ch.refl _ _) ?_
    obtain ⟨w5, ew5⟩ : ∃ x, x = w4.drew := ⟨_, rfl⟩
    rw [← ew5]
    have hc : Ch No w4 w5 := by rw [ew5]; exact Ch.drew _
    have hszw5 : w5.heap.size = w4.heap.size := by rw [ew5]; rfl
    clear ew5
    have hzw5 := hc.size
    have HC := HC.tr hc
    have hphd := hd.hi
    have hd := hd.no hc
    have hL := hL.ch hc (fun h => h)
    have hS16 := hS16.no hc
    have hS : Ch No w5 w5 := Ch.refl _ _
    refine ws_p rfl rfl rfl rfl (p_mv rfl) ?_
    refine ws_p rfl rfl rfl rfl (p_nck rfl) ?_
    refine ws_p rfl rfl rfl rfl (p_fld (j := 0) Tryd.underlying42 rfl ⟨_, by rfl⟩ rfl rfl) ?_
    refine ws_h rfl rfl rfl rfl (p_ld Tryd.underlying31 rfl rfl (fun _ h => h.cell (fun h => h) (hL.cell rfl))) ?_
    refine ws_p rfl rfl rfl rfl (p_mv rfl) ?_
    refine ws_p rfl rfl rfl rfl (p_nck rfl) ?_
    refine ws_p rfl rfl rfl rfl (p_fld (j := 1) Tryd.underlying42 rfl ⟨_, by rfl⟩ rfl rfl) ?_
    refine ws_h rfl rfl rfl rfl (p_ld Tryd.underlying3 rfl rfl (fun _ h => h.cell (fun h => h) (hL.cell rfl))) ?_
    refine ws_p rfl rfl rfl rfl (p_mv rfl) ?_
    refine ws_l rfl rfl (e_call ent33 rfl rfl (write_any hd.at_ hd.ok hd.hn (fun _ h => .inr h) hd.arm (by omega) (by omega) (hS16) (fun k hk => (fun hf => hf.elim (fun h => by have h1 := hohS16_hd k h; have h2 : w.heap.size ≤ k ∧ k < w4.heap.size := hk; omega) (fun h => by have h2 : w.heap.size ≤ k ∧ k < w4.heap.size := hk; omega))) (by omega)) ?_)
    rintro _ w6 ⟨rfl, hdk, hc⟩
    refine ⟨_, rfl, ?_⟩
    obtain ⟨O34, hdn, hO34, hc⟩ := hd.next hdk hc (wr_ok hd.ok _ _) (Nat.le_trans (wr_arm _ _) hd.arm) (by rw [wr_keep]; exact hd.kp) (by omega)
    have hzw6 := hc.size
    first | have HC := HC.trans hc (fun _ _ h => h) (fun _ _ h => h) | have HC := HC.trans hc (fun _ _ h => h) (fun k hk ht => (hOz k ht).resolve_right (by omega))
    have hltgL := hL.lt
    have hL := hL.ch hc (fun ht => hohL_hd _ ht rfl)
    have hS16 := hS16.ch hc (fun k hk ht => by have h1 := hohS16_hd k ht; have h2 : w.heap.size ≤ k ∧ k < w4.heap.size := hk; omega)
    have hohL_hd : ∀ k, O34 k → k ≠ gL := fun k h => (hO34 k h).elim (hohL_hd k) (fun h => by omega)
    have hohS16_hd : ∀ k, O34 k → k < w.heap.size ∨ w4.heap.size ≤ k := fun k h => (hO34 k h).elim (hohS16_hd k) (fun h => .inr (by omega))
    have hd := hdn
    have hOz : ∀ k, O34 k → O k ∨ w.heap.size ≤ k := fun k h => (hO34 k h).elim (hOz k) (fun h => .inr (by omega))
    obtain ⟨wm, hwm⟩ : ∃ x, x = w6 := ⟨_, rfl⟩
    have hdm := hd
    have HCm := HC
    rw [← hwm] at hdm HCm
    have hcL : Ch (fun k => k = gL) wm w6 := by rw [hwm]; exact Ch.refl _ _
    refine ws_p rfl rfl rfl rfl (p_as rfl) ?_
    refine ws_n ?_
    refine x_seq ?_
    refine wc_seq ?_
    refine wc_region ?_
    refine wl rfl rfl rfl (p_mv rfl) ?_
    refine wl rfl rfl rfl (p_ne rfl rfl) ?_
    refine wl_nil ?_
    refine x_seq ?_
    refine wc_if rfl (fun c2 => ?_) (fun c2 => ?_)
    ·
      have c2 := of_decide_eq_true c2
      have hap := ap_err (n := n) (d := d) (l := l) (b := b) (by omega) c2
      refine wc_seq ?_
      refine wc_region ?_
      refine wl rfl rfl rfl (p_mv rfl) ?_
      refine wl rfl rfl rfl (p_as rfl) ?_
      refine wl_nil ?_
      refine x_seq ?_
      refine wc_ret ?_
      refine x_then_ret ?_
      refine fin_run (res1 rfl rfl) ?_
      rw [hap.1, hap.2]
      first | exact ⟨O34, wm, _, _, rfl, rfl, rfl, hdm, hOz, HCm, hcL, hL⟩ | exact ⟨O34, wm, _, _, rfl, rfl, congrArg (fun z => Ending.returned (i64 z)) c2.symm, hdm, hOz, HCm, hcL, hL⟩ | exact ⟨O, _, _, _, rfl, rfl, rfl, hd, hOz, HC, hcL, hL⟩
    ·
      have c2 := of_decide_eq_false c2
      have hap := ap_ok (n := n) (d := d) (l := l) (b := b) (by omega) (Decidable.not_not.1 c2)
      have c2 := Decidable.not_not.1 c2
      refine wc_skip ?_
      refine x_seq ?_
      refine wc_seq ?_
      refine wc_region ?_
      refine wl rfl rfl rfl (p_mv rfl) ?_
      refine wl rfl rfl rfl (p_nck rfl) ?_
      refine wl rfl rfl rfl (p_fld (j := 1) Tryd.underlying42 rfl ⟨_, by rfl⟩ rfl rfl) ?_
      refine wl rfl rfl rfl (p_ld Tryd.underlying3 rfl rfl (ld (hL.cell rfl))) ?_
      refine wl rfl rfl rfl (p_mv rfl) ?_
      refine wl rfl rfl rfl (p_lenS Tryd.underlying22 rfl) ?_
      refine wl rfl rfl rfl (p_add (Z := ((l.e + (padW b).length : Nat) : Int)) rfl rfl (by rw [w64 (by omega)]; omega)) ?_
      refine wl rfl rfl rfl (p_nck rfl) ?_
      refine wl rfl rfl rfl (p_fld (j := 1) Tryd.underlying42 rfl ⟨_, by rfl⟩ rfl rfl) ?_
      refine wle rfl (e_stF (j := 1) (vs := [.pointer (some ⟨g, 0, none⟩), i64 (l.e : Int), i64 (l.c : Int), i64 (l.s : Int)]) (by rfl) rfl rfl rfl hL (by simp) (fun w7 hL hc hsz => ?_))
      have hL : Blk w7 gL 42 #[.pointer (some ⟨g, 0, none⟩), i64 ((l.e + (padW b).length : Nat) : Int), i64 (l.c : Int), i64 (l.s : Int)] := hL
      have hzw7 := hc.size
      have hcL := hcL.trans hc (fun _ _ h => h) (fun _ _ h => h)
      have hd := hd.other hc (fun k hk ht => by have h1 := hohL_hd k hk; have h2 : k = gL := ht; omega)
      refine wl_nil ?_
      refine x_seq ?_
      refine wc_seq ?_
      refine wc_region ?_
      refine wl rfl rfl rfl (p_mv rfl) ?_
      refine wl rfl rfl rfl (p_nck rfl) ?_
      refine wl rfl rfl rfl (p_fld (j := 2) Tryd.underlying42 rfl ⟨_, by rfl⟩ rfl rfl) ?_
      refine wl rfl rfl rfl (p_ld Tryd.underlying3 rfl rfl (ld (hL.cell rfl))) ?_
      refine wl rfl rfl rfl (p_add (Z := ((l.c + 1 : Nat) : Int)) rfl rfl (by rw [w64 (by omega)]; omega)) ?_
      refine wl rfl rfl rfl (p_nck rfl) ?_
      refine wl rfl rfl rfl (p_fld (j := 2) Tryd.underlying42 rfl ⟨_, by rfl⟩ rfl rfl) ?_
      refine wle rfl (e_stF (j := 2) (vs := [.pointer (some ⟨g, 0, none⟩), i64 ((l.e + (padW b).length : Nat) : Int), i64 (l.c : Int), i64 (l.s : Int)]) (by rfl) rfl rfl rfl hL (by simp) (fun w8 hL hc hsz => ?_))
      have hL : Blk w8 gL 42 #[.pointer (some ⟨g, 0, none⟩), i64 ((l.e + (padW b).length : Nat) : Int), i64 ((l.c + 1 : Nat) : Int), i64 (l.s : Int)] := hL
      have hzw8 := hc.size
      have hcL := hcL.trans hc (fun _ _ h => h) (fun _ _ h => h)
      have hd := hd.other hc (fun k hk ht => by have h1 := hohL_hd k hk; have h2 : k = gL := ht; omega)
      refine wl_nil ?_
      refine x_seq ?_
      refine wc_seq ?_
      refine wc_region ?_
      refine wl rfl rfl rfl (p_as rfl) ?_
      refine wl_nil ?_
      refine x_seq ?_
      refine wc_ret ?_
      refine fin_run (res1 rfl rfl) ?_
      rw [hap.1, hap.2]
      first | exact ⟨O34, wm, _, _, rfl, rfl, rfl, hdm, hOz, HCm, hcL, hL⟩ | exact ⟨O34, wm, _, _, rfl, rfl, congrArg (fun z => Ending.returned (i64 z)) c2.symm, hdm, hOz, HCm, hcL, hL⟩ | exact ⟨O, _, _, _, rfl, rfl, rfl, hd, hOz, HC, hcL, hL⟩

set_option maxHeartbeats 4000000 in
set_option maxRecDepth 20000 in
theorem rscan_any {w : World} {Ab : Option Addr} {lb cb : Nat} {Fb : Nat → Prop} {b : List UInt8} (hb : Sl w Fb u8v Ab lb cb b) (hl : lb ≤ 1099511627776) :
    Calls Tryd.prog 11 #[.slice Ab lb cb] w fun e w' => ∃ A l c, e = .returned (.tuple #[.slice A l c, i64 ((scanW b).2 : Int)]) ∧ SB w' (fun k => w.heap.size ≤ k) A l c (scanW b).1 ∧ Ch No w w' := by
  have hbl := hb.len
  have hbc := hb.cap
  have hb := hb.old
  have HC : Ch No w w := Ch.refl _ _
  refine enter' (args := [.slice Ab lb cb]) (n := 48) Tryd.func11 rfl rfl rfl ?_
  refine wc_seq ?_
  refine wc_region ?_
  refine wl rfl rfl rfl (p_as rfl) ?_
  refine wl rfl rfl rfl (p_as rfl) ?_
  refine wl_nil ?_
  refine x_seq ?_
  refine wc_seq ?_
  refine wc_region ?_
  refine wl rfl rfl rfl (p_as rfl) ?_
  refine wl_nil ?_
  refine x_seq ?_
  refine wc_seq ?_
  refine wc_region ?_
  refine wl rfl rfl rfl (p_as rfl) ?_
  refine wl_nil ?_
  refine x_seq ?_
  refine wc_block ?_
  refine wc_loop (e' := [(0, .slice Ab lb cb), (2, .slice none 0 0), (3, i64 0), (4, .slice (none) ([]).length (0)), (5, i64 ((0) : Int))]) (fun mz ez uz => ∃ pre : List WX, ∃ p : Nat, ∃ Al : Option Addr, ∃ cl : Nat, mz = lb + 1 - p ∧ ez = [(0, .slice Ab lb cb), (2, .slice none 0 0), (3, i64 0), (4, .slice Al pre.length cl), (5, i64 (p : Int))] ∧ (p ≤ lb) ∧ (p % 32 = 0) ∧ (scanW b = (pre.map (·.bs) ++ (scanA b p).1, (scanA b p).2)) ∧ (pre.length * 32 ≤ p) ∧ (BL 22 w.heap.size pre Al cl uz) ∧ (Sl uz (fun k => k < w.heap.size) u8v Ab lb cb b) ∧ (Ch No w uz))
    ⟨rfl, rfl, rfl, rfl, rfl, trivial⟩ ⟨[], 0, none, 0, rfl, rfl, by omega, by omega, (by rw [scanW_A]; rfl), by simp, BL.nil, hb, HC⟩ ?_
  rintro m0 e w1 ⟨pre, p, Al, cl, hm0, rfl, hp, hp32, hsc, hle, hBL, hb, HC⟩
  have hzw1 := HC.size
  obtain ⟨G, hR, hG, hC⟩ := hBL
  obtain ⟨Wr, hWr⟩ : ∃ x, x = w1 := ⟨_, rfl⟩
  rw [← hWr] at hG hC
  have hR : Row w1 G 22 1 _ _ _ := hR
  have hC : ∀ i, i < pre.length → Sl w1 (fun k => w.heap.size ≤ k ∧ ¬ G k ∧ k < Wr.heap.size) u8v (pre.getD i default).A (pre.getD i default).l (pre.getD i default).c (pre.getD i default).bs := hWr ▸ hC
  have hzr : Wr.heap.size = w1.heap.size := by rw [hWr]
  refine wc_block ?_
  refine wc_seq ?_
  refine wc_region ?_
  refine wl rfl rfl rfl (p_mv rfl) ?_
  refine wl rfl rfl rfl (p_mv rfl) ?_
  have hS13 := hb.cutTo (lo := p) (by omega)
  refine wl rfl rfl rfl (p_slS (l := p) (h := lb) Tryd.underlying22 sz5 rfl ⟨_, rfl⟩ rfl (by omega) (by have := hb.cap; omega) hb.cap (q := lb - p) rfl) ?_
  refine wle rfl (e_call ent27 rfl rfl (ropen_any (hS13) (by omega)) ?_)
  rintro _ w2 ⟨A14, c14, rfl, hW14, hc⟩
  refine ⟨_, rfl, ?_⟩
  have hzw2 := hc.size
  have HC := HC.tr hc
  have hb := hb.no hc
  have hR := hR.no hc
  have hC := fun i hi => (hC i hi).no hc
  have hS13 := hS13.no hc
  have hX14 : Sl w2 (fun k => Wr.heap.size ≤ k ∧ k < w2.heap.size) u8v A14 (opx (b.drop p)).length c14 (opx (b.drop p)) := hW14.sl.mono (fun k hk hf => ⟨by first | omega | (dsimp only at hf; omega), hk⟩)
  have hzx : w2.heap.size ≤ w2.heap.size := Nat.le_refl _
  refine wl rfl rfl rfl (p_mv rfl) ?_
  refine wl rfl rfl rfl (p_ext rfl rfl) ?_
  refine wl rfl rfl rfl (p_ext rfl rfl) ?_
  refine wl rfl rfl rfl (p_ext rfl rfl) ?_
  refine wl rfl rfl rfl (p_as rfl) ?_
  refine wl rfl rfl rfl (p_as rfl) ?_
  refine wl rfl rfl rfl (p_as rfl) ?_
  refine wl_nil ?_
  refine x_seq ?_
  refine wc_seq ?_
  refine wc_seq ?_
  refine wc_region ?_
  refine wl rfl rfl rfl (p_mv rfl) ?_
  refine wl rfl rfl rfl (p_not rfl) ?_
  refine wl_nil ?_
  refine x_seq ?_
  refine wc_if rfl (fun c0 => ?_) (fun c0 => ?_)
  ·
    have hst := step_no1 (b := b) (a := p) (by simpa using c0)
    refine wc_seq ?_
    refine wc_region ?_
    refine wl rfl rfl rfl (p_mv rfl) ?_
    refine wl rfl rfl rfl (p_mv rfl) ?_
    refine wl rfl rfl rfl (p_as rfl) ?_
    refine wl rfl rfl rfl (p_as rfl) ?_
    refine wl_nil ?_
    refine x_seq ?_
    refine wc_ret ?_
    refine x_then_ret ?_
    refine x_in_ret ?_
    refine x_then_ret ?_
    refine x_in_ret ?_
    refine fin_run (res2 rfl rfl rfl) ?_
    rw [hsc, scanA_none hst, List.append_nil]
    exact ⟨_, _, _, rfl, BL.sb ⟨G, hR, fun k h => ⟨(hG k h).1, by have := hG k h; omega⟩, fun i hi => (hC i hi).mono (fun k _ h => ⟨h.1, h.2.1, by have := h.2.2; omega⟩)⟩, HC⟩
  ·
    have ho : opo (b.drop p) = true := by simpa using c0
    have hok := opk_le (c := b.drop p)
    have hdl : (b.drop p).length = lb - p := by rw [List.length_drop, hbl]
    have hug := up32_ge (p + opk (b.drop p))
    have hul := up32_lt (p + opk (b.drop p))
    have hum := up32_mod (p + opk (b.drop p))
    have hxl := opx_len (b.drop p)
    refine wc_skip ?_
    refine x_seq ?_
    refine wc_seq ?_
    refine wc_region ?_
    refine wl rfl rfl rfl (p_mv rfl) ?_
    refine wl rfl rfl rfl (p_mv rfl) ?_
    refine wl rfl rfl rfl (p_add (Z := ((p + opk (b.drop p) : Nat) : Int)) rfl rfl (by rw [w64 (by omega)]; omega)) ?_
    refine wl rfl rfl rfl (p_as rfl) ?_
    refine wl_nil ?_
    refine x_seq ?_
    refine wc_seq ?_
    refine wc_block ?_
    have hzx := Nat.le_refl w2.heap.size
    refine wc_loop (e' := [(0, .slice Ab lb cb), (2, .slice none 0 0), (3, i64 0), (4, .slice Al pre.length cl), (5, i64 (p : Int)), (6, .slice A14 (opx (b.drop p)).length c14), (9, i64 ((p + opk (b.drop p)) : Int))]) (fun mz ez uz => ∃ q : Nat, mz = up32 (p + opk (b.drop p)) - q ∧ ez = [(0, .slice Ab lb cb), (2, .slice none 0 0), (3, i64 0), (4, .slice Al pre.length cl), (5, i64 (p : Int)), (6, .slice A14 (opx (b.drop p)).length c14), (9, i64 (q : Int))] ∧ (p + opk (b.drop p) ≤ q) ∧ (q ≤ up32 (p + opk (b.drop p))) ∧ (∀ j, p + opk (b.drop p) ≤ j → j < q → b.getD j 0 = 0) ∧ (q ≤ lb) ∧ (Sl uz (fun k => k < w.heap.size) u8v Ab lb cb b) ∧ (Row uz G 22 1 (.slice Al pre.length cl) pre.length (pre.map wxV)) ∧ (∀ i, i < pre.length → Sl uz (fun k => w.heap.size ≤ k ∧ ¬ G k ∧ k < Wr.heap.size) u8v (pre.getD i default).A (pre.getD i default).l (pre.getD i default).c (pre.getD i default).bs) ∧ (Sl uz (fun k => Wr.heap.size ≤ k) u8v A14 (opx (b.drop p)).length c14 (opx (b.drop p))) ∧ (Wr.heap.size ≤ uz.heap.size) ∧ (Ch No w uz))
      ⟨rfl, rfl, rfl, rfl, rfl, rfl, rfl, trivial⟩ ⟨p + opk (b.drop p), rfl, rfl, Nat.le_refl _, hug, (fun j h1 h2 => by omega), by omega, hb, hR, hC, hX14.mono (fun k _ h => h.1), by omega, HC⟩ ?_
    rintro m1 e w3 ⟨q, hm1, rfl, hq1, hq2, hqz, hqb, hb, hR, hC, hX14, hzW, HC⟩
    have hzw3 := HC.size
    refine wc_seq ?_
    refine wc_seq ?_
    refine wc_region ?_
    refine wl rfl rfl rfl (p_mv rfl) ?_
    refine wl rfl rfl rfl (p_rem (Z := ((q % 32 : Nat) : Int)) rfl rfl (by omega) rfl) ?_
    refine wl rfl rfl rfl (p_ne rfl rfl) ?_
    refine wl_nil ?_
    refine x_seq ?_
    refine wc_if rfl (fun c1 => ?_) (fun c1 => ?_)
    ·
      have c1 := of_decide_eq_true c1
      refine wc_skip ?_
      refine x_seq ?_
      refine wc_block ?_
      refine wc_seq ?_
      refine wc_seq ?_
      refine wc_region ?_
      refine wl rfl rfl rfl (p_mv rfl) ?_
      refine wl rfl rfl rfl (p_mv rfl) ?_
      refine wl rfl rfl rfl (p_lenS Tryd.underlying22 rfl) ?_
      refine wl rfl rfl rfl (p_ge rfl rfl) ?_
      refine wl rfl rfl rfl (p_mv rfl) ?_
      refine wl_split (d := 32) rfl (fun q32 => ?_) (fun q32 => ?_)
      ·
        have q32 := of_decide_eq_true q32
        have hst := step_qn ho hq1 hq2 (by omega) (.inl (by omega))
        refine wl_s (gd_ rfl rfl rfl rfl rfl rfl) rfl rfl ?_
        refine wl_s (gd_ rfl rfl rfl rfl rfl rfl) rfl rfl ?_
        refine wl_s (gd_ rfl rfl rfl rfl rfl rfl) rfl rfl ?_
        refine wl_s (gd_ rfl rfl rfl rfl rfl rfl) rfl rfl ?_
        refine wl_s (gd_ rfl rfl rfl rfl rfl rfl) rfl rfl ?_
        refine wl rfl rfl rfl (p_pickT rfl rfl) ?_
        refine wl_nil ?_
        refine x_seq ?_
        refine wc_yes rfl (rfl) ?_
        refine wc_seq ?_
        refine wc_region ?_
        refine wl rfl rfl rfl (p_mv rfl) ?_
        refine wl rfl rfl rfl (p_mv rfl) ?_
        refine wl rfl rfl rfl (p_as rfl) ?_
        refine wl rfl rfl rfl (p_as rfl) ?_
        refine wl_nil ?_
        refine x_seq ?_
        refine wc_ret ?_
        refine x_then_ret ?_
        refine x_in_ret ?_
        refine x_then_ret ?_
        refine x_in_ret ?_
        refine x_then_ret ?_
        refine x_in_ret ?_
        refine x_then_ret ?_
        refine x_in_ret ?_
        refine fin_run (res2 rfl rfl rfl) ?_
        rw [hsc, scanA_none hst, List.append_nil]
        exact ⟨_, _, _, rfl, BL.sb ⟨G, hR, fun k h => ⟨(hG k h).1, by have := hG k h; omega⟩, fun i hi => (hC i hi).mono (fun k _ h => ⟨h.1, h.2.1, by have := h.2.2; omega⟩)⟩, HC⟩
      ·
        have q32 := of_decide_eq_false q32
        refine wl_g (gd_ rfl rfl rfl rfl rfl rfl) rfl rfl (p_mv rfl) ?_
        refine wl_g (gd_ rfl rfl rfl rfl rfl rfl) rfl rfl (p_mv rfl) ?_
        obtain ⟨b4, o4, hA4, hF4, hc4⟩ := (hb).opn (d := 0) (by omega)
        refine wl_g (gd_ rfl rfl rfl rfl rfl rfl) rfl rfl (p_ixS1 Tryd.underlying22 sz5 rfl hA4 rfl (by omega) (by omega) (Int.toNat_natCast _)) ?_
        refine wl_g (gd_ rfl rfl rfl rfl rfl rfl) rfl rfl (p_ld Tryd.underlying5 rfl rfl (ld (hc4 _ (by omega)))) ?_
        refine wl_g (gd_ rfl rfl rfl rfl rfl rfl) rfl rfl (p_ne rfl rfl) ?_
        refine wl rfl rfl rfl (p_pickF rfl rfl) ?_
        refine wl_nil ?_
        refine x_seq ?_
        refine wc_if rfl (fun c2 => ?_) (fun c2 => ?_)
        ·
          have c2 := of_decide_eq_true c2
          first | have hst2 := hst | have hst := step_qn ho hq1 hq2 (by omega) (.inr (fun h => c2 (by rw [h]; rfl)))
          refine wc_seq ?_
          refine wc_region ?_
          refine wl rfl rfl rfl (p_mv rfl) ?_
          refine wl rfl rfl rfl (p_mv rfl) ?_
          refine wl rfl rfl rfl (p_as rfl) ?_
          refine wl rfl rfl rfl (p_as rfl) ?_
          refine wl_nil ?_
          refine x_seq ?_
          refine wc_ret ?_
          refine x_then_ret ?_
          refine x_in_ret ?_
          refine x_then_ret ?_
          refine x_in_ret ?_
          refine x_then_ret ?_
          refine x_in_ret ?_
          refine x_then_ret ?_
          refine x_in_ret ?_
          refine fin_run (res2 rfl rfl rfl) ?_
          rw [hsc, scanA_none hst, List.append_nil]
          exact ⟨_, _, _, rfl, BL.sb ⟨G, hR, fun k h => ⟨(hG k h).1, by have := hG k h; omega⟩, fun i hi => (hC i hi).mono (fun k _ h => ⟨h.1, h.2.1, by have := h.2.2; omega⟩)⟩, HC⟩
        ·
          have c2 := of_decide_eq_false c2
          have hq0 : b.getD q 0 = 0 := UInt8.toNat_inj.1 (by have := Decidable.not_not.1 c2; simpa using this)
          have hqz2 : ∀ j, p + opk (b.drop p) ≤ j → j < q + 1 → b.getD j 0 = 0 := fun j h1 h2 => by
            rcases Nat.lt_or_ge j q with h | h
            · exact hqz j h1 h
            · rw [show j = q by omega]; exact hq0
          refine wc_skip ?_
          refine x_seq ?_
          refine wc_region ?_
          refine wl rfl rfl rfl (p_mv rfl) ?_
          refine wl rfl rfl rfl (p_add rfl rfl (w64 (by omega))) ?_
          refine wl rfl rfl rfl (p_as rfl) ?_
          refine wl_nil ?_
          refine x_in_normal ?_
          refine x_round (e' := [(0, .slice Ab lb cb), (2, .slice none 0 0), (3, i64 0), (4, .slice Al pre.length cl), (5, i64 (p : Int)), (6, .slice A14 (opx (b.drop p)).length c14), (9, i64 ((q + 1) : Int))]) ⟨rfl, rfl, rfl, rfl, rfl, rfl, rfl, trivial⟩ (by rw [hm1]; omega) ⟨q + 1, rfl, rfl, by omega, by omega, hqz2, by omega, hb, hR, hC, hX14, by omega, HC⟩
    ·
      have c1 := of_decide_eq_false c1
      have hst := step_qy ho hq1 hq2 (by omega) (by omega) hqz
      have hsa := scanA_some hst
      have hsl := step_lt hst
      refine wc_exit ?_
      refine x_then_exit ?_
      refine x_then_exit ?_
      refine x_in_here ?_
      refine x_seq ?_
      refine wc_seq ?_
      refine wc_region ?_
      refine wl rfl rfl rfl (p_mv rfl) ?_
      refine wl rfl rfl rfl (p_mv rfl) ?_
      refine wle rfl (e_bslV (E := 22) rfl rfl (fun _ => by kernel_rfl) (fun w5 g45 hg45 hb45 hc hsz45 => ?_))
      have hzw5 := hc.size
      have HC := HC.tr hc
      have hb := hb.no hc
      have hR := hR.no hc
      have hC := fun i hi => (hC i hi).no hc
      have hX14 := hX14.no hc
      have hR2 := hR.mono (G := fun k => G k ∨ w5.heap.size ≤ k) (fun k _ h => .inl h)
      have hX2 : Sl w5 (fun k => k = g45) wxV _ 1 1 [(⟨A14, (opx (b.drop p)).length, c14, q, opx (b.drop p)⟩ : WX)] := Sl.lit1 hb45
      refine wle rfl (e_appS rfl el24 (fun _ => rfl) rfl rfl hR2 hX2 (by omega) (fun k hk => .inr hk) (fun w6 A46 c46 hR3 hc => ?_))
      have hBL : BL 22 w.heap.size (pre ++ [⟨A14, (opx (b.drop p)).length, c14, q, opx (b.drop p)⟩]) A46 c46 w6 := BL.step hG (by omega) hC (by omega) (hX14.mono (fun k hk hf => ⟨hf, hk⟩)) (by rw [List.map_append] at hR3; exact hR3) hc
      have hc := hc.mono (U := fun k => w.heap.size ≤ k) (fun k _ ht => ht.elim (fun h => (hG k h).1) (fun h => by omega))
      have hzw6 := hc.size
      have HC := HC.trans hc (fun _ _ h => h) (fun k hk ht => absurd ht (by first | omega | (dsimp only at *; omega)))
      first | have hb := hb.ch hc (by intro k hk ht; first | omega | (dsimp only at *; omega)) | have hb := hb.chT hc (by intro k hz hk ht; first | omega | (dsimp only at *; omega))
      refine wl rfl rfl rfl (p_as rfl) ?_
      refine wl_nil ?_
      refine x_seq ?_
      refine wc_region ?_
      refine wl rfl rfl rfl (p_mv rfl) ?_
      refine wl rfl rfl rfl (p_as rfl) ?_
      refine wl_nil ?_
      refine x_in_normal ?_
      refine x_round (e' := [(0, .slice Ab lb cb), (2, .slice none 0 0), (3, i64 0), (4, .slice (A46) (pre ++ [WX.mk A14 (opx (b.drop p)).length c14 q (opx (b.drop p))]).length (c46)), (5, i64 ((q) : Int))]) ⟨rfl, rfl, rfl, (by rw [List.length_append, List.length_singleton]; rfl), rfl, trivial⟩ (by rw [hm0]; (have := hsl.1; omega)) ⟨pre ++ [WX.mk A14 (opx (b.drop p)).length c14 q (opx (b.drop p))], q, A46, c46, rfl, rfl, by omega, by omega, by rw [hsc, hsa]; simp, by rw [List.length_append, List.length_singleton]; omega, hBL, hb, HC⟩

set_option maxHeartbeats 1000000 in
set_option maxRecDepth 20000 in
theorem same6_any {w : World} {Ax : Option Addr} {lx cx : Nat} {Fx : Nat → Prop} {x : List (List UInt8)} {Ay : Option Addr} {ly cy : Nat} {Fy : Nat → Prop} {y : List (List UInt8)} (hx : SB w Fx Ax lx cx x) (hy : SB w Fy Ay ly cy y) (hlx : lx ≤ 9223372036854775807) (hly : ly ≤ 9223372036854775807) :
    Calls Tryd.prog 12 #[.slice Ax lx cx, .slice Ay ly cy] w fun e w' => e = .returned (.bool (decide (x = y))) ∧ Ch No w w' := by
  have hxl := hx.len
  have hyl := hy.len
  have hx := hx.old
  have hy := hy.old
  have HC : Ch No w w := Ch.refl _ _
  refine enter' (args := [.slice Ax lx cx, .slice Ay ly cy]) (n := 28) Tryd.func12 rfl rfl rfl ?_
  refine wc_seq ?_
  refine wc_region ?_
  refine wl rfl rfl rfl (p_as rfl) ?_
  refine wl_nil ?_
  refine x_seq ?_
  refine wc_seq ?_
  refine wc_seq ?_
  refine wc_region ?_
  refine wl rfl rfl rfl (p_mv rfl) ?_
  refine wl rfl rfl rfl (p_lenS Tryd.underlying24 rfl) ?_
  refine wl rfl rfl rfl (p_mv rfl) ?_
  refine wl rfl rfl rfl (p_lenS Tryd.underlying24 rfl) ?_
  refine wl rfl rfl rfl (p_ne rfl rfl) ?_
  refine wl_nil ?_
  refine x_seq ?_
  refine wc_if rfl (fun c0 => ?_) (fun c0 => ?_)
  ·
    have c0 := of_decide_eq_true c0
    have hne : ¬ x = y := fun e => c0 (by rw [← hxl, ← hyl, e])
    refine wc_seq ?_
    refine wc_region ?_
    refine wl rfl rfl rfl (p_as rfl) ?_
    refine wl_nil ?_
    refine x_seq ?_
    refine wc_ret ?_
    refine x_then_ret ?_
    refine fin_run (res1 rfl rfl) ?_
    first
      | (rw [decide_eq_true heq]; exact ⟨rfl, HC⟩)
      | (rw [decide_eq_false hne]; exact ⟨rfl, HC⟩)
  ·
    have c0 := of_decide_eq_false c0
    have hll : lx = ly := by omega
    refine wc_skip ?_
    refine x_seq ?_
    refine wc_seq ?_
    refine wc_seq ?_
    refine wc_region ?_
    refine wl rfl rfl rfl (p_mv rfl) ?_
    refine wl rfl rfl rfl (p_lenS Tryd.underlying24 rfl) ?_
    refine wl rfl rfl rfl (p_mv rfl) ?_
    refine wl_nil ?_
    refine x_seq ?_
    refine wc_block ?_
    refine wc_loop (e' := [(0, .slice Ax lx cx), (1, .slice Ay ly cy), (4, .bool false), (12, i64 (lx : Int)), (13, i64 ((0) : Int))]) (fun mz ez uz => ∃ i : Nat, mz = lx - i ∧ ez = [(0, .slice Ax lx cx), (1, .slice Ay ly cy), (4, .bool false), (12, i64 (lx : Int)), (13, i64 (i : Int))] ∧ (i ≤ lx) ∧ (∀ j, j < i → x.getD j [] = y.getD j []) ∧ (SB uz (fun k => k < w.heap.size) Ax lx cx x) ∧ (SB uz (fun k => k < w.heap.size) Ay ly cy y) ∧ (Ch No w uz))
      ⟨rfl, rfl, rfl, rfl, rfl, trivial⟩ ⟨0, rfl, rfl, by omega, (fun j hj => by omega), hx, hy, HC⟩ ?_
    rintro m0 e w1 ⟨i, hm0, rfl, hi, hno, hx, hy, HC⟩
    have hzw1 := HC.size
    refine wc_seq ?_
    refine wc_region ?_
    refine wl rfl rfl rfl (p_lt rfl rfl) ?_
    refine wl_nil ?_
    refine x_seq ?_
    refine wc_seq ?_
    refine wc_if rfl (fun c1 => ?_) (fun c1 => ?_)
    ·
      have c1 := of_decide_eq_true c1
      refine wc_skip ?_
      refine x_seq ?_
      refine wc_seq ?_
      refine wc_block ?_
      refine wc_seq ?_
      refine wc_region ?_
      refine wl rfl rfl rfl (p_mv rfl) ?_
      refine wl rfl rfl rfl (p_as rfl) ?_
      refine wl_nil ?_
      refine x_seq ?_
      refine wc_seq ?_
      refine wc_draw (.st 0 0 (.st 1 0 (.st 2 0 (.st 3 1 (.st 4 1 (.st 5 0 (.st 6 0 (.st 7 0 (.st 8 1 (.st 9 1 (.st 10 0 .nil))))))))))) 11 (by kernel_rfl) (by kernel_rfl) (by kernel_rfl) (by repeat (first | with_reducible exact pan_body | with_reducible apply pan_then | with_reducible apply pan_in)) (fun x => Ch No w1.drew x) (Ch.refl _ _) ?_
      obtain ⟨w2, ew2⟩ : ∃ x, x = w1.drew := ⟨_, rfl⟩
      rw [← ew2]
      have hc : Ch No w1 w2 := by rw [ew2]; exact Ch.drew _
      have hszw2 : w2.heap.size = w1.heap.size := by rw [ew2]; rfl
      clear ew2
      have hzw2 := hc.size
      have HC := HC.tr hc
      have hx := hx.no hc
      have hy := hy.no hc
      have hS : Ch No w2 w2 := Ch.refl _ _
      refine ws_p rfl rfl rfl rfl (p_mv rfl) ?_
      refine ws_p rfl rfl rfl rfl (p_mv rfl) ?_
      obtain ⟨b3, o3, hA3, hF3, hc3⟩ := hx.opn (by omega)
      obtain ⟨SA18, sl18, sc18, hcc3, hS18⟩ := hc3 i (by omega)
      have hSl18 := hS18.len
      refine ws_p rfl rfl rfl rfl (p_ixS1 (j := i) Tryd.underlying24 sz22 rfl hA3 rfl (by omega) (by omega) (Int.toNat_natCast _)) ?_
      refine ws_h rfl rfl rfl rfl (p_ld Tryd.underlying22 rfl rfl (fun _ h => h.cell (fun h => h) (hcc3))) ?_
      refine ws_h rfl rfl rfl rfl (p_bts Tryd.underlying22 Tryd.underlying5 Tryd.underlying9 rfl (hS18).len (fun _ h => (hS18).rd.no h)) ?_
      refine ws_p rfl rfl rfl rfl (p_mv rfl) ?_
      refine ws_p rfl rfl rfl rfl (p_mv rfl) ?_
      obtain ⟨b4, o4, hA4, hF4, hc4⟩ := hy.opn (by omega)
      obtain ⟨SA23, sl23, sc23, hcc4, hS23⟩ := hc4 i (by omega)
      have hSl23 := hS23.len
      refine ws_p rfl rfl rfl rfl (p_ixS1 (j := i) Tryd.underlying24 sz22 rfl hA4 rfl (by omega) (by omega) (Int.toNat_natCast _)) ?_
      refine ws_h rfl rfl rfl rfl (p_ld Tryd.underlying22 rfl rfl (fun _ h => h.cell (fun h => h) (hcc4))) ?_
      refine ws_h rfl rfl rfl rfl (p_bts Tryd.underlying22 Tryd.underlying5 Tryd.underlying9 rfl (hS23).len (fun _ h => (hS23).rd.no h)) ?_
      refine ws_p rfl rfl rfl rfl (p_neT rfl rfl) ?_
      refine ws_n ?_
      refine x_seq ?_
      refine wc_if rfl (fun c2 => ?_) (fun c2 => ?_)
      ·
        have hne : ¬ x = y := fun e => by rw [strs_not (by rw [e])] at c2; cases c2
        refine wc_seq ?_
        refine wc_region ?_
        refine wl rfl rfl rfl (p_as rfl) ?_
        refine wl_nil ?_
        refine x_seq ?_
        refine wc_ret ?_
        refine x_in_ret ?_
        refine x_then_ret ?_
        refine x_then_ret ?_
        refine x_in_ret ?_
        refine x_then_ret ?_
        refine fin_run (res1 rfl rfl) ?_
        first
          | (rw [decide_eq_true heq]; exact ⟨rfl, HC⟩)
          | (rw [decide_eq_false hne]; exact ⟨rfl, HC⟩)
      ·
        have hii : x.getD i [] = y.getD i [] := strs_true (b_of_nf c2)
        have hno2 : ∀ j, j < i + 1 → x.getD j [] = y.getD j [] := fun j hj => by
          rcases Nat.lt_or_ge j i with h | h
          · exact hno j h
          · rw [show j = i by omega]; exact hii
        refine wc_skip ?_
        refine x_in_normal ?_
        refine x_seq ?_
        refine wc_region ?_
        refine wl rfl rfl rfl (p_add rfl rfl (w64 (by omega))) ?_
        refine wl rfl rfl rfl (p_mv rfl) ?_
        refine wl_nil ?_
        refine x_round (e' := [(0, .slice Ax lx cx), (1, .slice Ay ly cy), (4, .bool false), (12, i64 (lx : Int)), (13, i64 ((i + 1) : Int))]) ⟨rfl, rfl, rfl, rfl, rfl, trivial⟩ (by rw [hm0]; omega) ⟨i + 1, rfl, rfl, by omega, hno2, hx, hy, HC⟩
    ·
      have c1 := of_decide_eq_false c1
      have heq : x = y := ext_getD (d := []) (by omega) (fun j hj => hno j (by omega))
      refine wc_exit ?_
      refine x_then_exit ?_
      refine x_then_exit ?_
      refine x_in_here ?_
      refine x_seq ?_
      refine wc_seq ?_
      refine wc_region ?_
      refine wl rfl rfl rfl (p_as rfl) ?_
      refine wl_nil ?_
      refine x_seq ?_
      refine wc_ret ?_
      refine fin_run (res1 rfl rfl) ?_
      first
        | (rw [decide_eq_true heq]; exact ⟨rfl, HC⟩)
        | (rw [decide_eq_false hne]; exact ⟨rfl, HC⟩)

set_option maxHeartbeats 4000000 in
set_option maxRecDepth 20000 in
theorem lives6_any {w : World}  (hnib : Sl w (fun k => k = 0) u32v (some ⟨0, 0, none⟩) 16 16 nib) :
    Calls Tryd.prog 9 #[] w fun e w' => e = .returned (.bool true) ∧ Ch No w w' := by
  have hbz : 0 < w.heap.size := hnib.size (by omega) rfl
  have HC : Ch No w w := Ch.refl _ _
  refine enter' (args := []) (n := 54) Tryd.func9 rfl rfl rfl ?_
  refine wc_seq ?_
  refine wc_region ?_
  refine wl rfl rfl rfl (p_as rfl) ?_
  refine wl_nil ?_
  refine x_seq ?_
  refine wc_seq ?_
  refine wc_region ?_
  refine wle rfl (e_call ent13 rfl rfl (new_any (n := 4) (by omega) (by omega)) ?_)
  rintro _ w1 ⟨g8, rfl, hg8, hdk, hc⟩
  refine ⟨_, rfl, ?_⟩
  have hzw1 := hc.size
  have HC := HC.tr hc
  have hnib := hnib.no hc
  obtain ⟨O8, hd8, hOl8⟩ := CD.first (w0 := w) hdk (newD_ok _) (by omega) (Nat.zero_le _) (Nat.zero_le _) (by omega)
  refine wl rfl rfl rfl (p_as rfl) ?_
  refine wl_nil ?_
  refine x_seq ?_
  refine wc_seq ?_
  refine wc_region ?_
  refine wl rfl rfl rfl (p_mv rfl) ?_
  refine wle rfl (e_call ent14 rfl rfl (open6_any hd8 (by omega) hnib (by omega)) ?_)
  rintro _ w2 ⟨O11, V11, A11, q11, c11, wa11, wb11, r11, hr11, rfl, hdn, hO11, hc, hza11, hzb11, hzc11, hok11, hbad11⟩
  refine ⟨_, rfl, ?_⟩
  have hzw2 := hc.size
  have HC := HC.trans hc (fun _ _ h => h) (fun k hk ht => absurd hk (by have := hd8.lo k ht; omega))
  have hnib := hnib.ch hc (fun k hk ht => by have h1 := hd8.lo k ht; first | (have h2 : k < w.heap.size := hk; omega) | (have h2 : k = 0 := hk; omega))
  have hd8 := hdn
  obtain ⟨hohS11_hd8, hS11, gL11, rfl, hgL11, hohL11_hd8, l11, hl11, hL11⟩ := hok11 (by rw [hr11]; decide +kernel)
  have hSl11 := hS11.len
  have hLl11 := hL11.lt
  have e11 : scanW (newD 4).now = ([], 0) := by decide +kernel
  rw [e11] at hS11 hl11 hSl11
  obtain rfl : q11 = 0 := hSl11.symm
  have hle11 : l11.e = 0 ∧ l11.c = 0 := by rw [hl11]; exact ⟨rfl, rfl⟩
  have he11 : r11.1 = 0 := by rw [hr11]; decide +kernel
  refine wl rfl rfl rfl (p_mv rfl) ?_
  refine wl rfl rfl rfl (p_ext rfl rfl) ?_
  refine wl rfl rfl rfl (p_ext rfl rfl) ?_
  refine wl rfl rfl rfl (p_ext rfl rfl) ?_
  refine wl rfl rfl rfl (p_as rfl) ?_
  refine wl rfl rfl rfl (p_as rfl) ?_
  refine wl rfl rfl rfl (p_as rfl) ?_
  refine wl_nil ?_
  refine x_seq ?_
  refine wc_seq ?_
  refine wc_region ?_
  refine wl rfl rfl rfl (p_mv rfl) ?_
  have hltgL11 := hL11.lt
  refine wle rfl (e_bslV (E := 5) rfl rfl (fun _ => by kernel_rfl) (fun w3 g16 hg16 hb16 hc hsz16 => ?_))
  have hzw3 := hc.size
  have HC := HC.tr hc
  have hnib := hnib.no hc
  have hphd8 := hd8.hi
  have hd8 := hd8.no hc
  have hS11 := hS11.no hc
  have hL11 := hL11.ch hc (fun h => h)
  have hge16 : w.heap.size ≤ g16 := by have := HC.size; omega
  have hS16 := Sl.lit2 (f := u8v) (x := 97) (y := 98) hb16
  have hS16 := hS16.mono (G := fun k => w2.heap.size ≤ k ∧ k < w3.heap.size) (fun k h1 h2 => ⟨by first | exact h2 | (have h3 : k = _ := h2; omega), h1⟩)
  have hohS16_hd8 : ∀ k, O11 k → k < w2.heap.size ∨ w3.heap.size ≤ k := fun k h => .inl (hphd8 k h)
  refine wle rfl (e_mark (xs := [97, 98]) rfl Tryd.underlying22 Tryd.underlying5 rfl hb16 rfl rfl (by omega) (fun w4 hS16 hc hsz => ?_))
  have hzw4 := hc.size
  have HC := HC.trans hc (fun _ _ h => h) (fun k hk ht => absurd ht (by omega))
  first | have hnib := hnib.ch hc (by intro k hk ht; first | omega | (dsimp only at *; omega)) | have hnib := hnib.chT hc (by intro k hz hk ht; first | omega | (dsimp only at *; omega))
  have hd8 := hd8.other hc (fun k hk ht => by have h1 := hohS16_hd8 k hk; have h2 : k = g16 := ht; omega)
  first | have hS11 := hS11.ch hc (by intro k hk ht; first | omega | (dsimp only at *; omega)) | have hS11 := hS11.chT hc (by intro k hz hk ht; first | omega | (dsimp only at *; omega))
  have hL11 := hL11.ch hc (by omega)
  have hS16 := hS16.mono (G := fun k => w2.heap.size ≤ k ∧ k < w3.heap.size) (fun k h1 h2 => by have h3 : k = _ := h2; omega)
  refine wle rfl (e_call ent15 rfl rfl (append6_any (l := l11) hd8 hL11 hohL11_hd8 (by omega) (hS16) (by omega) (by omega) (by omega) hnib (by omega)) ?_)
  rintro _ w5 ⟨O18, wm18, r18, l18, hr18, hl18, rfl, hdn, hO18, hc, hc2, hL2⟩
  refine ⟨_, rfl, ?_⟩
  have hzwm18 := hc.size
  have HC := HC.trans hc (fun _ _ h => h) (fun k hk ht => absurd hk (by have := hd8.lo k ht; omega))
  have hnib := hnib.ch hc (fun k hk ht => by have h1 := hd8.lo k ht; first | (have h2 : k < w.heap.size := hk; omega) | (have h2 : k = 0 := hk; omega))
  have hS11 := hS11.ch hc (fun k hk ht => by have h1 := hohS11_hd8 k ht; have h2 : wa11.heap.size ≤ k ∧ k < wb11.heap.size := hk; omega)
  have hltgL11 := hL11.lt
  have hL11 := hL11.ch hc (fun ht => hohL11_hd8 _ ht rfl)
  have hS16 := hS16.ch hc (fun k hk ht => by have h1 := hohS16_hd8 k ht; have h2 : w2.heap.size ≤ k ∧ k < w3.heap.size := hk; omega)
  have hohS11_hd8 : ∀ k, O18 k → k < wa11.heap.size ∨ wb11.heap.size ≤ k := fun k h => (hO18 k h).elim (hohS11_hd8 k) (fun h => .inr (by omega))
  have hohL11_hd8 : ∀ k, O18 k → k ≠ gL11 := fun k h => (hO18 k h).elim (hohL11_hd8 k) (fun h => by omega)
  have hohS16_hd8 : ∀ k, O18 k → k < w2.heap.size ∨ w3.heap.size ≤ k := fun k h => (hO18 k h).elim (hohS16_hd8 k) (fun h => .inr (by omega))
  have hd8 := hdn
  have hc := hc2
  have hL11 := hL2
  have hzw5 := hc.size
  have HC := HC.trans hc (fun _ _ h => h) (fun k hk ht => absurd ht (by omega))
  first | have hnib := hnib.ch hc (by intro k hk ht; first | omega | (dsimp only at *; omega)) | have hnib := hnib.chT hc (by intro k hz hk ht; first | omega | (dsimp only at *; omega))
  have hd8 := hd8.other hc (fun k hk ht => by have h1 := hohL11_hd8 k hk; have h2 : k = gL11 := ht; omega)
  first | have hS11 := hS11.ch hc (by intro k hk ht; first | omega | (dsimp only at *; omega)) | have hS11 := hS11.chT hc (by intro k hz hk ht; first | omega | (dsimp only at *; omega))
  first | have hS16 := hS16.ch hc (by intro k hk ht; first | omega | (dsimp only at *; omega)) | have hS16 := hS16.chT hc (by intro k hz hk ht; first | omega | (dsimp only at *; omega))
  have he18 : r18.1 = 0 := by rw [hr18, hr11, hl11]; decide +kernel
  have hl18e : l18.e = 32 ∧ l18.c = 1 := by rw [hl18, hr11, hl11]; decide +kernel
  refine wl rfl rfl rfl (p_as rfl) ?_
  refine wl_nil ?_
  refine x_seq ?_
  refine wc_seq ?_
  refine wc_region ?_
  refine wl rfl rfl rfl (p_mv rfl) ?_
  refine wle rfl (e_call ent25 rfl rfl (read_any (a := 0) (m := 3) hd8.at_ hd8.ok hd8.hn (by omega) (by omega) (by omega) (by omega)) ?_)
  rintro _ w6 ⟨A21, l21, c21, rfl, hl21, hS21, hc⟩
  refine ⟨_, rfl, ?_⟩
  have hzw6 := hc.size
  have HC := HC.tr hc
  have hnib := hnib.no hc
  have hphd8 := hd8.hi
  have hd8 := hd8.no hc
  have hS11 := hS11.no hc
  have hL11 := hL11.ch hc (fun h => h)
  have hS16 := hS16.no hc
  have hS21 := hS21.mono (G := fun k => w5.heap.size ≤ k ∧ k < w6.heap.size) (fun k h1 h2 => ⟨by first | exact h2 | (have h3 : k = _ := h2; omega), h1⟩)
  have hohS21_hd8 : ∀ k, O18 k → k < w5.heap.size ∨ w6.heap.size ≤ k := fun k h => .inl (hphd8 k h)
  have e21 : rdS 4 r18.2 0 3 = ([2, 97, 98], 0) := by rw [hr18, hr11, hl11]; decide +kernel
  refine wl rfl rfl rfl (p_mv rfl) ?_
  refine wl rfl rfl rfl (p_ext rfl rfl) ?_
  refine wl rfl rfl rfl (p_ext rfl rfl) ?_
  refine wl rfl rfl rfl (p_as rfl) ?_
  refine wl rfl rfl rfl (p_as rfl) ?_
  refine wl_nil ?_
  refine x_seq ?_
  refine wc_seq ?_
  refine wc_region ?_
  refine wl rfl rfl rfl (p_mv rfl) ?_
  refine wl rfl rfl rfl (p_eq rfl rfl) ?_
  refine wl rfl rfl rfl (p_mv rfl) ?_
  refine wl_know (d := 26) (b' := true) rfl (decide_eq_true he11) ?_
  refine wl_g (gd_ rfl rfl rfl rfl rfl rfl) rfl rfl (p_mv rfl) ?_
  refine wl_g (gd_ rfl rfl rfl rfl rfl rfl) rfl rfl (p_lenS Tryd.underlying24 rfl) ?_
  refine wl_g (gd_ rfl rfl rfl rfl rfl rfl) rfl rfl (p_eq rfl rfl) ?_
  refine wl rfl rfl rfl (p_pickT rfl rfl) ?_
  refine wl rfl rfl rfl (p_mv rfl) ?_
  refine wl_know (d := 31) (b' := true) rfl (rfl) ?_
  refine wl_g (gd_ rfl rfl rfl rfl rfl rfl) rfl rfl (p_mv rfl) ?_
  refine wl_g (gd_ rfl rfl rfl rfl rfl rfl) rfl rfl (p_eq rfl rfl) ?_
  refine wl rfl rfl rfl (p_pickT rfl rfl) ?_
  refine wl rfl rfl rfl (p_mv rfl) ?_
  refine wl_know (d := 35) (b' := true) rfl (decide_eq_true he18) ?_
  refine wl_g (gd_ rfl rfl rfl rfl rfl rfl) rfl rfl (p_mv rfl) ?_
  refine wl_g (gd_ rfl rfl rfl rfl rfl rfl) rfl rfl (p_eq rfl rfl) ?_
  refine wl rfl rfl rfl (p_pickT rfl rfl) ?_
  refine wl rfl rfl rfl (p_mv rfl) ?_
  refine wl_know (d := 39) (b' := true) rfl (decide_eq_true (by rw [e21])) ?_
  refine wl_g (gd_ rfl rfl rfl rfl rfl rfl) rfl rfl (p_mv rfl) ?_
  refine wl_g (gd_ rfl rfl rfl rfl rfl rfl) rfl rfl (p_bts Tryd.underlying22 Tryd.underlying5 Tryd.underlying9 rfl ((hS21).mono (G := fun _ => True) (fun _ _ _ => trivial)).len (fun _ e => e ▸ ((hS21).mono (G := fun _ => True) (fun _ _ _ => trivial)).rd)) ?_
  refine wl_g (gd_ rfl rfl rfl rfl rfl rfl) rfl rfl (p_eqT rfl rfl) ?_
  refine wl rfl rfl rfl (p_pickT rfl rfl) ?_
  refine wl rfl rfl rfl (p_mv rfl) ?_
  refine wl_know (d := 44) (b' := true) rfl (by rw [e21]; decide +kernel) ?_
  refine wl_g (gd_ rfl rfl rfl rfl rfl rfl) rfl rfl (p_mv rfl) ?_
  refine wle_g (gd_ rfl rfl rfl rfl rfl rfl) (e_call ent16 rfl rfl (end6_any (l := l18) hL11) ?_)
  rintro _ w7 ⟨rfl, hc⟩
  refine ⟨_, rfl, ?_⟩
  have hzw7 := hc.size
  have HC := HC.tr hc
  have hnib := hnib.no hc
  have hphd8 := hd8.hi
  have hd8 := hd8.no hc
  have hS11 := hS11.no hc
  have hL11 := hL11.ch hc (fun h => h)
  have hS16 := hS16.no hc
  have hS21 := hS21.no hc
  refine wl_g (gd_ rfl rfl rfl rfl rfl rfl) rfl rfl (p_eq rfl rfl) ?_
  refine wl rfl rfl rfl (p_pickT rfl rfl) ?_
  refine wl rfl rfl rfl (p_mv rfl) ?_
  refine wl_know (d := 49) (b' := true) rfl (decide_eq_true (by rw [hl18e.1]; rfl)) ?_
  refine wl_g (gd_ rfl rfl rfl rfl rfl rfl) rfl rfl (p_mv rfl) ?_
  refine wle_g (gd_ rfl rfl rfl rfl rfl rfl) (e_call ent17 rfl rfl (count6_any (l := l18) hL11) ?_)
  rintro _ w8 ⟨rfl, hc⟩
  refine ⟨_, rfl, ?_⟩
  have hzw8 := hc.size
  have HC := HC.tr hc
  have hnib := hnib.no hc
  have hphd8 := hd8.hi
  have hd8 := hd8.no hc
  have hS11 := hS11.no hc
  have hL11 := hL11.ch hc (fun h => h)
  have hS16 := hS16.no hc
  have hS21 := hS21.no hc
  refine wl_g (gd_ rfl rfl rfl rfl rfl rfl) rfl rfl (p_eq rfl rfl) ?_
  refine wl rfl rfl rfl (p_pickT rfl rfl) ?_
  refine wl rfl rfl rfl (p_as rfl) ?_
  refine wl_nil ?_
  refine x_seq ?_
  refine wc_ret ?_
  refine fin_run (res1 rfl rfl) ?_
  rw [hl18e.2]
  exact ⟨rfl, HC⟩
end Go.Proofs.YtcgapjieidmkpaaDoor
