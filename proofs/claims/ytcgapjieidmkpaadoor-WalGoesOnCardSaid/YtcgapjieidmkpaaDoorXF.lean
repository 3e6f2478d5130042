/-
  Own text, printed by a program of mine (wip/gx): what functions of the program do, walked operation by operation.
-/
import Derived.Test.YtcgapjieidmkpaaDoorProg
import Derived.Test.YtcgapjieidmkpaaDoorGxAgg
import Derived.Test.YtcgapjieidmkpaaDoorTab
import Derived.Test.YtcgapjieidmkpaaDoorGxZer
import Derived.Test.YtcgapjieidmkpaaDoorPlDisk
import Derived.Test.YtcgapjieidmkpaaDoorPlDiskSt
import Derived.Test.YtcgapjieidmkpaaDoorPlDiskOk
import Derived.Test.YtcgapjieidmkpaaDoorPlDiskC
import Derived.Test.YtcgapjieidmkpaaDoorPlDiskLaw
import Derived.Test.YtcgapjieidmkpaaDoorPlActD
import Derived.Test.YtcgapjieidmkpaaDoorPlActs
import Derived.Test.YtcgapjieidmkpaaDoorPlWal
import Derived.Test.YtcgapjieidmkpaaDoorPlWalSt
import Derived.Test.YtcgapjieidmkpaaDoorPlWalLaw
import Derived.Test.YtcgapjieidmkpaaDoorDTd
import Derived.Test.YtcgapjieidmkpaaDoorVD
import Derived.Test.YtcgapjieidmkpaaDoorXW
set_option linter.unusedVariables false
namespace Go.Proofs.YtcgapjieidmkpaaDoor
open Go.RowKit Go.Gx
open Go.Plain
set_option maxHeartbeats 8000000 in
set_option maxRecDepth 20000 in
theorem walGoesOn_walk {w : World} {Aq : Option Addr} {lq cq : Nat} {Fq : Nat → Prop} {q : List ByteArray} {ev : Nat} (hq : Sl w Fq Value.string Aq lq cq q) (hev : ev < 18446744073709551616) (hnib : Sl w (fun k => k = 0) u32v (some ⟨0, 0, none⟩) 16 16 nib) :
    Calls Tryd.prog 4 #[.slice Aq lq cq, .int .u64 (ev : Int)] w fun e w' => e = .returned (.bool true) ∧ Ch No w w' := by
  have hbz : 0 < w.heap.size := hnib.size (by omega) rfl
  have hql := hq.len
  have hq := hq.old
  have HC : Ch No w w := Ch.refl _ _
  refine enter' (args := [.slice Aq lq cq, .int .u64 (ev : Int)]) (n := 133) Tryd.func4 rfl rfl rfl ?_
  refine wc_seq ?_
  refine wc_region ?_
  refine wl rfl rfl rfl (p_as rfl) ?_
  refine wl_nil ?_
  refine x_seq ?_
  refine wc_seq ?_
  refine wc_region ?_
  refine wle rfl (e_call ent13 rfl rfl (new_any (n := 200) (by omega) (by omega)) ?_)
  rintro _ w1 ⟨g17, rfl, hg17, hdk, hc⟩
  refine ⟨_, rfl, ?_⟩
  have hzw1 := hc.size
  have HC := HC.tr hc
  have hq := hq.no hc
  have hnib := hnib.no hc
  obtain ⟨O17, hd17, hOl17⟩ := CD.first (w0 := w) hdk (newD_ok _) (by omega) (Nat.zero_le _) (Nat.zero_le _) (by omega)
  refine wl rfl rfl rfl (p_as rfl) ?_
  refine wl_nil ?_
  refine x_seq ?_
  refine wc_seq ?_
  refine wc_region ?_
  refine wl rfl rfl rfl (p_mv rfl) ?_
  refine wle rfl (e_call ent14 rfl rfl (open6_any hd17 (by omega) hnib (by omega)) ?_)
  rintro _ w2 ⟨O20, V20, A20, q20, c20, wa20, wb20, r20, hr20, rfl, hdn, hO20, hc, hza20, hzb20, hzc20, hok20, hbad20⟩
  refine ⟨_, rfl, ?_⟩
  have hzw2 := hc.size
  have HC := HC.trans hc (fun _ _ h => h) (fun k hk ht => absurd hk (by have := hd17.lo k ht; omega))
  have hq := hq.ch hc (fun k hk ht => by have h1 := hd17.lo k ht; first | (have h2 : k < w.heap.size := hk; omega) | (have h2 : k = 0 := hk; omega))
  have hnib := hnib.ch hc (fun k hk ht => by have h1 := hd17.lo k ht; first | (have h2 : k < w.heap.size := hk; omega) | (have h2 : k = 0 := hk; omega))
  have hd17 := hdn
  obtain ⟨hohS20_hd17, hS20, gL20, rfl, hgL20, hohL20_hd17, l20, hl20, hL20⟩ := hok20 (by rw [hr20, (log_new 200).open])
  have hSl20 := hS20.len
  have hLl20 := hL20.lt
  have hrz20 := log_open (log_new 200) hr20
  obtain ⟨hg20, hq20⟩ := lg_open (log_new 200) hl20 hSl20
  subst hrz20
  rw [(log_new 200).scan] at hS20
  refine wl rfl rfl rfl (p_mv rfl) ?_
  refine wl rfl rfl rfl (p_ext rfl rfl) ?_
  refine wl rfl rfl rfl (p_ext rfl rfl) ?_
  refine wl rfl rfl rfl (p_ext rfl rfl) ?_
  refine wl rfl rfl rfl (p_as rfl) ?_
  refine wl rfl rfl rfl (p_as rfl) ?_
  refine wl rfl rfl rfl (p_as rfl) ?_
  refine wl_nil ?_
  refine x_seq ?_
  refine wc_seq ?_
  refine wc_seq ?_
  refine wc_region ?_
  refine wl rfl rfl rfl (p_mv rfl) ?_
  refine wl rfl rfl rfl (p_ne rfl rfl) ?_
  refine wl rfl rfl rfl (p_mv rfl) ?_
  refine wl_know (d := 26) (b' := false) rfl (rfl) ?_
  refine wl_g (gd_ rfl rfl rfl rfl rfl rfl) rfl rfl (p_mv rfl) ?_
  refine wl_g (gd_ rfl rfl rfl rfl rfl rfl) rfl rfl (p_lenS Tryd.underlying29 rfl) ?_
  refine wl_g (gd_ rfl rfl rfl rfl rfl rfl) rfl rfl (p_gt rfl rfl) ?_
  refine wl rfl rfl rfl (p_pickF rfl rfl) ?_
  refine wl_nil ?_
  refine x_seq ?_
  refine wc_if rfl (fun c0 => ?_) (fun c0 => ?_)
  ·
    have c0 := of_decide_eq_true c0
    refine wc_seq ?_
    refine wc_region ?_
    refine wl rfl rfl rfl (p_mv rfl) ?_
    refine wl rfl rfl rfl (p_eq rfl rfl) ?_
    refine wl rfl rfl rfl (p_mv rfl) ?_
    refine wl_know (d := 33) (b' := true) rfl (rfl) ?_
    refine wle_g (gd_ rfl rfl rfl rfl rfl rfl) (e_call ent9 rfl rfl (lives6_any hnib) ?_)
    rintro _ w3 ⟨rfl, hc⟩
    refine ⟨_, rfl, ?_⟩
    have hzw3 := hc.size
    have HC := HC.tr hc
    have hq := hq.no hc
    have hnib := hnib.no hc
    have hphd17 := hd17.hi
    have hd17 := hd17.no hc
    have hS20 := hS20.no hc
    have hL20 := hL20.ch hc (fun h => h)
    refine wl rfl rfl rfl (p_pickT rfl rfl) ?_
    refine wl rfl rfl rfl (p_as rfl) ?_
    refine wl_nil ?_
    refine x_seq ?_
    refine wc_ret ?_
    refine x_then_ret ?_
    refine fin_run (res1 rfl rfl) ?_
    exact ⟨rfl, HC⟩
  ·
    have c0 := of_decide_eq_false c0
    refine wc_skip ?_
    refine x_seq ?_
    refine wc_seq ?_
    refine wc_region ?_
    refine wl rfl rfl rfl (p_as rfl) ?_
    refine wl_nil ?_
    refine x_seq ?_
    refine wc_seq ?_
    refine wc_seq ?_
    refine wc_region ?_
    refine wl rfl rfl rfl (p_mv rfl) ?_
    refine wl rfl rfl rfl (p_lenS Tryd.underlying29 rfl) ?_
    refine wl rfl rfl rfl (p_mv rfl) ?_
    refine wl_nil ?_
    refine x_seq ?_
    refine wc_block ?_
    refine wc_loop (e' := [(0, .slice Aq lq cq), (1, .int .u64 (ev : Int)), (4, .bool false), (5, .pointer (some ⟨g17, 0, none⟩)), (6, .pointer (some ⟨(gL20), 0, none⟩)), (9, i64 ((flatW ((q.take (0)).map bts)).length : Int)), (36, .slice Aq lq cq), (37, i64 (lq : Int)), (38, i64 ((0) : Int))]) (fun mz ez uz => ∃ i : Nat, ∃ dd : DS, ∃ O1 : Nat → Prop, ∃ l1 : LS, ∃ gl : Nat, ∃ sv : Nat, mz = lq - i ∧ ez = [(0, .slice Aq lq cq), (1, .int .u64 (ev : Int)), (4, .bool false), (5, .pointer (some ⟨g17, 0, none⟩)), (6, .pointer (some ⟨gl, 0, none⟩)), (9, i64 ((flatW ((q.take i).map bts)).length : Int)), (36, .slice Aq lq cq), (37, i64 (lq : Int)), (38, i64 (i : Int))] ∧ (i ≤ lq) ∧ (w.heap.size ≤ gl) ∧ (LogOK 200 dd ((q.take i).map bts)) ∧ (LgOf l1 ((q.take i).map bts) sv) ∧ ((flatW ((q.take i).map bts)).length ≤ 128 * i) ∧ (CD TD w uz O1 g17 200 dd) ∧ (Blk uz gl 42 #[.pointer (some ⟨g17, 0, none⟩), i64 (l1.e : Int), i64 (l1.c : Int), i64 (l1.s : Int)]) ∧ (∀ k, O1 k → k ≠ gl) ∧ (Sl uz (fun k => k < w.heap.size) Value.string Aq lq cq q) ∧ (Sl uz (fun k => k = 0) u32v (some ⟨0, 0, none⟩) 16 16 nib) ∧ (Ch No w uz))
      ⟨rfl, rfl, rfl, rfl, rfl, rfl, rfl, rfl, rfl, trivial⟩ ⟨0, newD 200, O20, l20, gL20, 0, rfl, rfl, by omega, by omega, log_new 200, hg20, Nat.le_refl _, hd17, hL20, hohL20_hd17, hq, hnib, HC⟩ ?_
    rintro m0 e w4 ⟨i, dd, O1, l1, gl, sv, hm0, rfl, hi, hgw, hlg, hg1, hfb, hd17, hL, hohL_hd17, hq, hnib, HC⟩
    have hzw4 := HC.size
    refine wc_seq ?_
    refine wc_region ?_
    refine wl rfl rfl rfl (p_lt rfl rfl) ?_
    refine wl_nil ?_
    refine x_seq ?_
    refine wc_seq ?_
    refine wc_if rfl (fun c1 => ?_) (fun c1 => ?_)
    ·
      have c1 := of_decide_eq_true c1
      refine wc_skip ?_
      refine x_seq ?_
      refine wc_seq ?_
      refine wc_block ?_
      refine wc_seq ?_
      refine wc_region ?_
      refine wl rfl rfl rfl (p_mv rfl) ?_
      obtain ⟨b5, o5, hA5, hF5, hc5⟩ := (hq).opn (d := ByteArray.empty) (by omega)
      refine wl rfl rfl rfl (p_ixS1 Tryd.underlying29 sz9 rfl hA5 rfl (by omega) (by omega) (Int.toNat_natCast _)) ?_
      refine wl rfl rfl rfl (p_ld Tryd.underlying9 rfl rfl (ld (hc5 _ (by omega)))) ?_
      obtain ⟨z, hz⟩ : ∃ z, z = q.getD i ByteArray.empty := ⟨_, rfl⟩
      rw [← hz]
      have hzl := bts_len z
      have hzl2 : z.data.toList.length = z.size := hzl
      have htk := take_snocB (q := q) (i := i) (by omega)
      rw [← hz] at htk
      have hxl1 : ((q.take (i + 1)).map bts) = ((q.take i).map bts) ++ [bts z] := by rw [htk, bts_snoc]
      have hxln : ((q.take i).map bts).length = i := by rw [List.length_map, List.length_take]; omega
      refine wl rfl rfl rfl (p_as rfl) ?_
      refine wl rfl rfl rfl (p_as rfl) ?_
      refine wl_nil ?_
      refine x_seq ?_
      refine wc_seq ?_
      refine wc_seq ?_
      refine wc_region ?_
      refine wl rfl rfl rfl (p_mv rfl) ?_
      refine wl rfl rfl rfl (p_lenT Tryd.underlying9 rfl) ?_
      refine wl rfl rfl rfl (p_gt rfl rfl) ?_
      refine wl_nil ?_
      refine x_seq ?_
      refine wc_if rfl (fun c2 => ?_) (fun c2 => ?_)
      ·
        have c2 := of_decide_eq_true c2
        refine wc_seq ?_
        refine wc_region ?_
        refine wle rfl (e_call ent9 rfl rfl (lives6_any hnib) ?_)
        rintro _ w6 ⟨rfl, hc⟩
        refine ⟨_, rfl, ?_⟩
        have hzw6 := hc.size
        have HC := HC.tr hc
        have hq := hq.no hc
        have hnib := hnib.no hc
        have hphd17 := hd17.hi
        have hd17 := hd17.no hc
        have hL := hL.ch hc (fun h => h)
        refine wl rfl rfl rfl (p_as rfl) ?_
        refine wl_nil ?_
        refine x_seq ?_
        refine wc_ret ?_
        refine x_then_ret ?_
        refine x_in_ret ?_
        refine x_then_ret ?_
        refine x_then_ret ?_
        refine x_in_ret ?_
        refine x_then_ret ?_
        refine fin_run (res1 rfl rfl) ?_
        exact ⟨rfl, HC⟩
      ·
        have c2 := of_decide_eq_false c2
        refine wc_skip ?_
        refine x_seq ?_
        refine wc_seq ?_
        refine wc_seq ?_
        refine wc_region ?_
        refine wl rfl rfl rfl (p_mv rfl) ?_
        refine wl rfl rfl rfl (p_mv rfl) ?_
        have hLlb := hL.lt
        refine wle rfl (e_stb rfl Tryd.underlying9 Tryd.underlying22 Tryd.underlying5 rfl (fun w7 g49 c49 hg49 hS49 hc hsz49 => ?_))
        have hzw7 := hc.size
        have HC := HC.tr hc
        have hq := hq.no hc
        have hnib := hnib.no hc
        have hphd17 := hd17.hi
        have hd17 := hd17.no hc
        have hL := hL.ch hc (fun h => h)
        have hS49 := hS49.mono (G := fun k => w4.heap.size ≤ k ∧ k < w7.heap.size) (fun k h1 h2 => ⟨by first | exact h2 | (have h3 : k = _ := h2; omega), h1⟩)
        have hohS49_hd17 : ∀ k, O1 k → k < w4.heap.size ∨ w7.heap.size ≤ k := fun k h => .inl (hphd17 k h)
        have he1 := hg1.e
        have hc1 := hg1.c
        have hpad := pad_small (x := bts z) (by omega)
        rw [hzl] at hpad
        have hpad : (padW z.data.toList).length = (z.size + 5 + 31) / 32 * 32 := hpad
        refine wle rfl (e_call ent15 rfl rfl (append6_any (l := l1) hd17 hL hohL_hd17 (by omega) (hS49) (by omega) (by omega) (by omega) hnib (by omega)) ?_)
        rintro _ w8 ⟨O50, wm50, r50, l50, hr50, hl50, rfl, hdn, hO50, hc, hc2, hL2⟩
        refine ⟨_, rfl, ?_⟩
        have hzwm50 := hc.size
        have HC := HC.trans hc (fun _ _ h => h) (fun k hk ht => absurd hk (by have := hd17.lo k ht; omega))
        have hq := hq.ch hc (fun k hk ht => by have h1 := hd17.lo k ht; first | (have h2 : k < w.heap.size := hk; omega) | (have h2 : k = 0 := hk; omega))
        have hnib := hnib.ch hc (fun k hk ht => by have h1 := hd17.lo k ht; first | (have h2 : k < w.heap.size := hk; omega) | (have h2 : k = 0 := hk; omega))
        have hltgl := hL.lt
        have hL := hL.ch hc (fun ht => hohL_hd17 _ ht rfl)
        have hS49 := hS49.ch hc (fun k hk ht => by have h1 := hohS49_hd17 k ht; have h2 : w4.heap.size ≤ k ∧ k < w7.heap.size := hk; omega)
        have hohL_hd17 : ∀ k, O50 k → k ≠ gl := fun k h => (hO50 k h).elim (hohL_hd17 k) (fun h => by omega)
        have hohS49_hd17 : ∀ k, O50 k → k < w4.heap.size ∨ w7.heap.size ≤ k := fun k h => (hO50 k h).elim (hohS49_hd17 k) (fun h => .inr (by omega))
        have hd17 := hdn
        have hc := hc2
        have hL := hL2
        have hzw8 := hc.size
        have HC := HC.trans hc (fun _ _ h => h) (fun k hk ht => absurd ht (by omega))
        first | have hq := hq.ch hc (by intro k hk ht; first | omega | (dsimp only at *; omega)) | have hq := hq.chT hc (by intro k hz hk ht; first | omega | (dsimp only at *; omega))
        first | have hnib := hnib.ch hc (by intro k hk ht; first | omega | (dsimp only at *; omega)) | have hnib := hnib.chT hc (by intro k hz hk ht; first | omega | (dsimp only at *; omega))
        have hd17 := hd17.other hc (fun k hk ht => by have h1 := hohL_hd17 k hk; have h2 : k = gl := ht; omega)
        first | have hS49 := hS49.ch hc (by intro k hk ht; first | omega | (dsimp only at *; omega)) | have hS49 := hS49.chT hc (by intro k hz hk ht; first | omega | (dsimp only at *; omega))
        obtain ⟨hr50z, hlg50, hg50⟩ := log_app hlg hg1 hr50 hl50 (by omega) (by omega)
        have hlg50 : LogOK 200 r50.2 ((q.take (i + 1)).map bts) := by rw [hxl1]; exact hlg50
        have hg50 : LgOf l50 ((q.take (i + 1)).map bts) sv := by rw [hxl1]; exact hg50
        have he50 := hg50.e
        have hc50 := hg50.c
        have hfl : (flatW ((q.take (i + 1)).map bts)).length = (flatW ((q.take i).map bts)).length + (z.size + 5 + 31) / 32 * 32 := by rw [hxl1, flatW_snoc, List.length_append, show (padW (bts z)).length = (z.size + 5 + 31) / 32 * 32 from hpad]
        have hfm := flatW_mod ((q.take (i + 1)).map bts)
        have hx1n : ((q.take (i + 1)).map bts).length = i + 1 := by rw [hxl1, List.length_append, hxln]; rfl
        refine wl rfl rfl rfl (p_ne rfl rfl) ?_
        refine wl rfl rfl rfl (p_mv rfl) ?_
        refine wl_know (d := 52) (b' := false) rfl (decide_eq_false (fun h => h hr50z)) ?_
        refine wl_g (gd_ rfl rfl rfl rfl rfl rfl) rfl rfl (p_mv rfl) ?_
        refine wle_g (gd_ rfl rfl rfl rfl rfl rfl) (e_call ent16 rfl rfl (end6_any (l := l50) hL) ?_)
        rintro _ w9 ⟨rfl, hc⟩
        refine ⟨_, rfl, ?_⟩
        have hzw9 := hc.size
        have HC := HC.tr hc
        have hq := hq.no hc
        have hnib := hnib.no hc
        have hphd17 := hd17.hi
        have hd17 := hd17.no hc
        have hL := hL.ch hc (fun h => h)
        have hS49 := hS49.no hc
        refine wl_g (gd_ rfl rfl rfl rfl rfl rfl) rfl rfl (p_mv rfl) ?_
        refine wl_g (gd_ rfl rfl rfl rfl rfl rfl) rfl rfl (p_le rfl rfl) ?_
        refine wl rfl rfl rfl (p_pickF rfl rfl) ?_
        refine wl rfl rfl rfl (p_mv rfl) ?_
        refine wl_know (d := 58) (b' := false) rfl (decide_eq_false (by omega)) ?_
        refine wl_g (gd_ rfl rfl rfl rfl rfl rfl) rfl rfl (p_mv rfl) ?_
        refine wle_g (gd_ rfl rfl rfl rfl rfl rfl) (e_call ent16 rfl rfl (end6_any (l := l50) hL) ?_)
        rintro _ w10 ⟨rfl, hc⟩
        refine ⟨_, rfl, ?_⟩
        have hzw10 := hc.size
        have HC := HC.tr hc
        have hq := hq.no hc
        have hnib := hnib.no hc
        have hphd17 := hd17.hi
        have hd17 := hd17.no hc
        have hL := hL.ch hc (fun h => h)
        have hS49 := hS49.no hc
        refine wl_g (gd_ rfl rfl rfl rfl rfl rfl) rfl rfl (p_rem (Z := ((l50.e % 32 : Nat) : Int)) rfl rfl (by omega) rfl) ?_
        refine wl_g (gd_ rfl rfl rfl rfl rfl rfl) rfl rfl (p_ne rfl rfl) ?_
        refine wl rfl rfl rfl (p_pickF rfl rfl) ?_
        refine wl_nil ?_
        refine x_seq ?_
        refine wc_no rfl (decide_eq_false (by omega)) ?_
        refine wc_skip ?_
        refine x_seq ?_
        refine wc_seq ?_
        refine wc_region ?_
        refine wl rfl rfl rfl (p_mv rfl) ?_
        refine wle rfl (e_call ent16 rfl rfl (end6_any (l := l50) hL) ?_)
        rintro _ w11 ⟨rfl, hc⟩
        refine ⟨_, rfl, ?_⟩
        have hzw11 := hc.size
        have HC := HC.tr hc
        have hq := hq.no hc
        have hnib := hnib.no hc
        have hphd17 := hd17.hi
        have hd17 := hd17.no hc
        have hL := hL.ch hc (fun h => h)
        have hS49 := hS49.no hc
        refine wl rfl rfl rfl (p_as rfl) ?_
        refine wl_nil ?_
        refine x_seq ?_
        refine wc_seq ?_
        refine wc_region ?_
        refine wl rfl rfl rfl (p_mv rfl) ?_
        refine wl rfl rfl rfl (p_rem (Z := ((ev % 4 : Nat) : Int)) rfl rfl (by omega) rfl) ?_
        refine wl rfl rfl rfl (p_mv rfl) ?_
        refine wl rfl rfl rfl (p_rem (Z := ((i % 4 : Nat) : Int)) rfl rfl (by omega) rfl) ?_
        refine wl rfl rfl rfl (p_conv Tryd.underlying3 Tryd.underlying30 rfl (wu64 (by omega))) ?_
        refine wl rfl rfl rfl (p_eq rfl rfl) ?_
        refine wl_nil ?_
        refine x_seq ?_
        refine wc_if rfl (fun c4 => ?_) (fun c4 => ?_)
        ·
          have c4 := of_decide_eq_true c4
          refine wc_seq ?_
          refine wc_region ?_
          refine wl rfl rfl rfl (p_as rfl) ?_
          refine wl_nil ?_
          refine x_seq ?_
          refine wc_seq ?_
          refine wc_region ?_
          refine wl rfl rfl rfl (p_mv rfl) ?_
          refine wle rfl (e_call ent14 rfl rfl (open6_any hd17 (by omega) hnib (by omega)) ?_)
          rintro _ w12 ⟨O74, V74, A74, q74, c74, wa74, wb74, r74, hr74, rfl, hdn, hO74, hc, hza74, hzb74, hzc74, hok74, hbad74⟩
          refine ⟨_, rfl, ?_⟩
          have hzw12 := hc.size
          have HC := HC.trans hc (fun _ _ h => h) (fun k hk ht => absurd hk (by have := hd17.lo k ht; omega))
          have hq := hq.ch hc (fun k hk ht => by have h1 := hd17.lo k ht; first | (have h2 : k < w.heap.size := hk; omega) | (have h2 : k = 0 := hk; omega))
          have hnib := hnib.ch hc (fun k hk ht => by have h1 := hd17.lo k ht; first | (have h2 : k < w.heap.size := hk; omega) | (have h2 : k = 0 := hk; omega))
          have hltgl := hL.lt
          have hL := hL.ch hc (fun ht => hohL_hd17 _ ht rfl)
          have hS49 := hS49.ch hc (fun k hk ht => by have h1 := hohS49_hd17 k ht; have h2 : w4.heap.size ≤ k ∧ k < w7.heap.size := hk; omega)
          have hohL_hd17 : ∀ k, O74 k → k ≠ gl := fun k h => (hO74 k h).elim (hohL_hd17 k) (fun h => by omega)
          have hohS49_hd17 : ∀ k, O74 k → k < w4.heap.size ∨ w7.heap.size ≤ k := fun k h => (hO74 k h).elim (hohS49_hd17 k) (fun h => .inr (by omega))
          have hd17 := hdn
          obtain ⟨hohS74_hd17, hS74, gL74, rfl, hgL74, hohL74_hd17, l74, hl74, hL74⟩ := hok74 (by rw [hr74, hlg50.open])
          have hSl74 := hS74.len
          have hLl74 := hL74.lt
          have hrz74 := log_open hlg50 hr74
          obtain ⟨hg74, hq74⟩ := lg_open hlg50 hl74 hSl74
          subst hrz74
          rw [hlg50.scan] at hS74
          have he74 := hg74.e
          have hc74 := hg74.c
          have hgl74 : w.heap.size ≤ gL74 := by omega
          refine wl rfl rfl rfl (p_mv rfl) ?_
          refine wl rfl rfl rfl (p_ext rfl rfl) ?_
          refine wl rfl rfl rfl (p_ext rfl rfl) ?_
          refine wl rfl rfl rfl (p_ext rfl rfl) ?_
          refine wl rfl rfl rfl (p_as rfl) ?_
          refine wl rfl rfl rfl (p_as rfl) ?_
          refine wl rfl rfl rfl (p_as rfl) ?_
          refine wl_nil ?_
          refine x_seq ?_
          refine wc_seq ?_
          refine wc_region ?_
          refine wl rfl rfl rfl (p_mv rfl) ?_
          refine wl rfl rfl rfl (p_ne rfl rfl) ?_
          refine wl rfl rfl rfl (p_mv rfl) ?_
          refine wl_know (d := 80) (b' := false) rfl (rfl) ?_
          refine wl_g (gd_ rfl rfl rfl rfl rfl rfl) rfl rfl (p_mv rfl) ?_
          refine wl_g (gd_ rfl rfl rfl rfl rfl rfl) rfl rfl (p_lenS Tryd.underlying24 rfl) ?_
          refine wl_g (gd_ rfl rfl rfl rfl rfl rfl) rfl rfl (p_mv rfl) ?_
          refine wl_g (gd_ rfl rfl rfl rfl rfl rfl) rfl rfl (p_add rfl rfl (w64 (by omega))) ?_
          refine wl_g (gd_ rfl rfl rfl rfl rfl rfl) rfl rfl (p_ne rfl rfl) ?_
          refine wl rfl rfl rfl (p_pickF rfl rfl) ?_
          refine wl rfl rfl rfl (p_mv rfl) ?_
          refine wl_know (d := 87) (b' := false) rfl (decide_eq_false (by omega)) ?_
          refine wl_g (gd_ rfl rfl rfl rfl rfl rfl) rfl rfl (p_mv rfl) ?_
          refine wle_g (gd_ rfl rfl rfl rfl rfl rfl) (e_call ent16 rfl rfl (end6_any (l := l74) hL74) ?_)
          rintro _ w13 ⟨rfl, hc⟩
          refine ⟨_, rfl, ?_⟩
          have hzw13 := hc.size
          have HC := HC.tr hc
          have hq := hq.no hc
          have hnib := hnib.no hc
          have hphd17 := hd17.hi
          have hd17 := hd17.no hc
          have hL := hL.ch hc (fun h => h)
          have hS49 := hS49.no hc
          have hS74 := hS74.no hc
          have hL74 := hL74.ch hc (fun h => h)
          refine wl_g (gd_ rfl rfl rfl rfl rfl rfl) rfl rfl (p_mv rfl) ?_
          refine wl_g (gd_ rfl rfl rfl rfl rfl rfl) rfl rfl (p_ne rfl rfl) ?_
          refine wl rfl rfl rfl (p_pickF rfl rfl) ?_
          refine wl rfl rfl rfl (p_mv rfl) ?_
          refine wl_know (d := 93) (b' := false) rfl (decide_eq_false (by omega)) ?_
          refine wl_g (gd_ rfl rfl rfl rfl rfl rfl) rfl rfl (p_mv rfl) ?_
          refine wle_g (gd_ rfl rfl rfl rfl rfl rfl) (e_call ent17 rfl rfl (count6_any (l := l74) hL74) ?_)
          rintro _ w14 ⟨rfl, hc⟩
          refine ⟨_, rfl, ?_⟩
          have hzw14 := hc.size
          have HC := HC.tr hc
          have hq := hq.no hc
          have hnib := hnib.no hc
          have hphd17 := hd17.hi
          have hd17 := hd17.no hc
          have hL := hL.ch hc (fun h => h)
          have hS49 := hS49.no hc
          have hS74 := hS74.no hc
          have hL74 := hL74.ch hc (fun h => h)
          refine wl_g (gd_ rfl rfl rfl rfl rfl rfl) rfl rfl (p_mv rfl) ?_
          refine wl_g (gd_ rfl rfl rfl rfl rfl rfl) rfl rfl (p_add rfl rfl (w64 (by omega))) ?_
          refine wl_g (gd_ rfl rfl rfl rfl rfl rfl) rfl rfl (p_ne rfl rfl) ?_
          refine wl rfl rfl rfl (p_pickF rfl rfl) ?_
          refine wl_nil ?_
          refine x_seq ?_
          refine wc_no rfl (decide_eq_false (by omega)) ?_
          refine wc_skip ?_
          refine x_in_normal ?_
          refine x_seq ?_
          refine wc_region ?_
          refine wl rfl rfl rfl (p_add rfl rfl (w64 (by omega))) ?_
          refine wl rfl rfl rfl (p_mv rfl) ?_
          refine wl_nil ?_
          obtain ⟨gn, hgn⟩ : ∃ x, x = gL74 := ⟨_, rfl⟩
          obtain ⟨ln, hln⟩ : ∃ x, x = l74 := ⟨_, rfl⟩
          obtain ⟨sn, hsn⟩ : ∃ x, x = ((q.take (i + 1)).map bts).length := ⟨_, rfl⟩
          refine x_round (e' := [(0, .slice Aq lq cq), (1, .int .u64 (ev : Int)), (4, .bool false), (5, .pointer (some ⟨g17, 0, none⟩)), (6, .pointer (some ⟨(gn), 0, none⟩)), (9, i64 ((flatW ((q.take (i + 1)).map bts)).length : Int)), (36, .slice Aq lq cq), (37, i64 (lq : Int)), (38, i64 ((i + 1) : Int))]) ⟨rfl, rfl, rfl, rfl, (by rw [hgn]; rfl), (by rw [he50]; rfl), rfl, rfl, rfl, trivial⟩ (by rw [hm0]; omega) ⟨i + 1, r50.2, _, ln, gn, sn, rfl, rfl, by omega, by omega, hlg50, by rw [hln, hsn]; first | exact hg74 | exact hg50, by rw [hfl]; omega, hd17, by rw [hgn, hln]; first | exact hL74 | exact hL, by rw [hgn]; first | exact hohL74_hd17 | exact hohL_hd17, hq, hnib, HC⟩
        ·
          have c4 := of_decide_eq_false c4
          refine wc_skip ?_
          refine x_in_normal ?_
          refine x_seq ?_
          refine wc_region ?_
          refine wl rfl rfl rfl (p_add rfl rfl (w64 (by omega))) ?_
          refine wl rfl rfl rfl (p_mv rfl) ?_
          refine wl_nil ?_
          obtain ⟨gn, hgn⟩ : ∃ x, x = gl := ⟨_, rfl⟩
          obtain ⟨ln, hln⟩ : ∃ x, x = l50 := ⟨_, rfl⟩
          obtain ⟨sn, hsn⟩ : ∃ x, x = sv := ⟨_, rfl⟩
          refine x_round (e' := [(0, .slice Aq lq cq), (1, .int .u64 (ev : Int)), (4, .bool false), (5, .pointer (some ⟨g17, 0, none⟩)), (6, .pointer (some ⟨(gn), 0, none⟩)), (9, i64 ((flatW ((q.take (i + 1)).map bts)).length : Int)), (36, .slice Aq lq cq), (37, i64 (lq : Int)), (38, i64 ((i + 1) : Int))]) ⟨rfl, rfl, rfl, rfl, (by rw [hgn]; rfl), (by rw [he50]; rfl), rfl, rfl, rfl, trivial⟩ (by rw [hm0]; omega) ⟨i + 1, r50.2, _, ln, gn, sn, rfl, rfl, by omega, by omega, hlg50, by rw [hln, hsn]; first | exact hg74 | exact hg50, by rw [hfl]; omega, hd17, by rw [hgn, hln]; first | exact hL74 | exact hL, by rw [hgn]; first | exact hohL74_hd17 | exact hohL_hd17, hq, hnib, HC⟩
    ·
      have c1 := of_decide_eq_false c1
      refine wc_exit ?_
      refine x_then_exit ?_
      refine x_then_exit ?_
      refine x_in_here ?_
      refine x_seq ?_
      refine wc_seq ?_
      refine wc_region ?_
      refine wl rfl rfl rfl (p_mv rfl) ?_
      refine wle rfl (e_call ent14 rfl rfl (open6_any hd17 (by omega) hnib (by omega)) ?_)
      rintro _ w15 ⟨O103, V103, A103, q103, c103, wa103, wb103, r103, hr103, rfl, hdn, hO103, hc, hza103, hzb103, hzc103, hok103, hbad103⟩
      refine ⟨_, rfl, ?_⟩
      have hzw15 := hc.size
      have HC := HC.trans hc (fun _ _ h => h) (fun k hk ht => absurd hk (by have := hd17.lo k ht; omega))
      have hq := hq.ch hc (fun k hk ht => by have h1 := hd17.lo k ht; first | (have h2 : k < w.heap.size := hk; omega) | (have h2 : k = 0 := hk; omega))
      have hnib := hnib.ch hc (fun k hk ht => by have h1 := hd17.lo k ht; first | (have h2 : k < w.heap.size := hk; omega) | (have h2 : k = 0 := hk; omega))
      have hltgl := hL.lt
      have hL := hL.ch hc (fun ht => hohL_hd17 _ ht rfl)
      have hohL_hd17 : ∀ k, O103 k → k ≠ gl := fun k h => (hO103 k h).elim (hohL_hd17 k) (fun h => by omega)
      have hd17 := hdn
      obtain ⟨hohS103_hd17, hS103, gL103, rfl, hgL103, hohL103_hd17, l103, hl103, hL103⟩ := hok103 (by rw [hr103, hlg.open])
      have hSl103 := hS103.len
      have hLl103 := hL103.lt
      have hil : i = lq := by omega
      have hXq : ((q.take i).map bts) = q.map bts := by rw [List.take_of_length_le (by omega)]
      have hrz103 := log_open hlg hr103
      obtain ⟨hg103, hq103⟩ := lg_open hlg hl103 hSl103
      subst hrz103
      rw [hlg.scan] at hS103
      rw [hXq] at hS103 hq103
      rw [List.length_map] at hq103
      have hq103b : q103 = lq := by omega
      clear hq103 hSl103
      subst q103
      refine wl rfl rfl rfl (p_mv rfl) ?_
      refine wl rfl rfl rfl (p_ext rfl rfl) ?_
      refine wl rfl rfl rfl (p_ext rfl rfl) ?_
      refine wl rfl rfl rfl (p_ext rfl rfl) ?_
      refine wl rfl rfl rfl (p_as rfl) ?_
      refine wl rfl rfl rfl (p_as rfl) ?_
      refine wl rfl rfl rfl (p_as rfl) ?_
      refine wl_nil ?_
      refine x_seq ?_
      refine wc_seq ?_
      refine wc_seq ?_
      refine wc_region ?_
      refine wl rfl rfl rfl (p_mv rfl) ?_
      refine wl rfl rfl rfl (p_ne rfl rfl) ?_
      refine wl rfl rfl rfl (p_mv rfl) ?_
      refine wl_know (d := 109) (b' := false) rfl (rfl) ?_
      refine wl_g (gd_ rfl rfl rfl rfl rfl rfl) rfl rfl (p_mv rfl) ?_
      refine wl_g (gd_ rfl rfl rfl rfl rfl rfl) rfl rfl (p_lenS Tryd.underlying24 rfl) ?_
      refine wl_g (gd_ rfl rfl rfl rfl rfl rfl) rfl rfl (p_mv rfl) ?_
      refine wl_g (gd_ rfl rfl rfl rfl rfl rfl) rfl rfl (p_lenS Tryd.underlying29 rfl) ?_
      refine wl_g (gd_ rfl rfl rfl rfl rfl rfl) rfl rfl (p_ne rfl rfl) ?_
      refine wl rfl rfl rfl (p_pickF rfl rfl) ?_
      refine wl_nil ?_
      refine x_seq ?_
      refine wc_no rfl (decide_eq_false (by omega)) ?_
      refine wc_skip ?_
      refine x_seq ?_
      refine wc_seq ?_
      refine wc_seq ?_
      refine wc_region ?_
      refine wl rfl rfl rfl (p_mv rfl) ?_
      refine wl rfl rfl rfl (p_lenS Tryd.underlying29 rfl) ?_
      refine wl rfl rfl rfl (p_mv rfl) ?_
      refine wl_nil ?_
      refine x_seq ?_
      refine wc_block ?_
      refine wc_loop (e' := [(0, .slice Aq lq cq), (4, .bool false), (14, .slice A103 lq c103), (117, i64 (lq : Int)), (118, i64 ((0) : Int))]) (fun mz ez uz => ∃ j : Nat, mz = lq - j ∧ ez = [(0, .slice Aq lq cq), (4, .bool false), (14, .slice A103 lq c103), (117, i64 (lq : Int)), (118, i64 (j : Int))] ∧ (j ≤ lq) ∧ (SB uz (fun k => wa103.heap.size ≤ k ∧ k < wb103.heap.size) A103 lq c103 (q.map bts)) ∧ (Sl uz (fun k => k < w.heap.size) Value.string Aq lq cq q) ∧ (Sl uz (fun k => k = 0) u32v (some ⟨0, 0, none⟩) 16 16 nib) ∧ (Ch No w uz))
        ⟨rfl, rfl, rfl, rfl, rfl, trivial⟩ ⟨0, rfl, rfl, by omega, hS103, hq, hnib, HC⟩ ?_
      rintro m1 e w16 ⟨j, hm1, rfl, hj, hS103, hq, hnib, HC⟩
      have hzw16 := HC.size
      refine wc_seq ?_
      refine wc_region ?_
      refine wl rfl rfl rfl (p_lt rfl rfl) ?_
      refine wl_nil ?_
      refine x_seq ?_
      refine wc_seq ?_
      refine wc_if rfl (fun c7 => ?_) (fun c7 => ?_)
      ·
        have c7 := of_decide_eq_true c7
        have hbj := bts_getD (ws := q) (j := j) (by omega)
        refine wc_skip ?_
        refine x_seq ?_
        refine wc_seq ?_
        refine wc_block ?_
        refine wc_seq ?_
        refine wc_region ?_
        refine wl rfl rfl rfl (p_mv rfl) ?_
        refine wl rfl rfl rfl (p_as rfl) ?_
        refine wl_nil ?_
        refine x_seq ?_
        refine wc_seq ?_
        refine wc_draw (.st 0 0 (.st 1 0 (.st 2 0 (.st 3 1 (.st 4 1 (.st 5 0 (.st 6 0 (.st 7 0 (.st 8 1 (.st 9 0 .nil)))))))))) 10 (by kernel_rfl) (by kernel_rfl) (by kernel_rfl) (by repeat (first | with_reducible exact pan_body | with_reducible apply pan_then | with_reducible apply pan_in)) (fun x => Ch No w16.drew x) (Ch.refl _ _) ?_
        obtain ⟨w17, ew17⟩ : ∃ x, x = w16.drew := ⟨_, rfl⟩
        rw [← ew17]
        have hc : Ch No w16 w17 := by rw [ew17]; exact Ch.drew _
        have hszw17 : w17.heap.size = w16.heap.size := by rw [ew17]; rfl
        clear ew17
        have hzw17 := hc.size
        have HC := HC.tr hc
        have hS103 := hS103.no hc
        have hq := hq.no hc
        have hnib := hnib.no hc
        have hS : Ch No w17 w17 := Ch.refl _ _
        refine ws_p rfl rfl rfl rfl (p_mv rfl) ?_
        refine ws_p rfl rfl rfl rfl (p_mv rfl) ?_
        obtain ⟨b18, o18, hA18, hF18, hc18⟩ := hS103.opn (by omega)
        obtain ⟨SA123, sl123, sc123, hcc18, hS123⟩ := hc18 j (by omega)
        have hSl123 := hS123.len
        refine ws_p rfl rfl rfl rfl (p_ixS1 (j := j) Tryd.underlying24 sz22 rfl hA18 rfl (by omega) (by omega) (Int.toNat_natCast _)) ?_
        refine ws_h rfl rfl rfl rfl (p_ld Tryd.underlying22 rfl rfl (fun _ h => h.cell (fun h => h) (hcc18))) ?_
        refine ws_h rfl rfl rfl rfl (p_bts Tryd.underlying22 Tryd.underlying5 Tryd.underlying9 rfl (hS123).len (fun _ h => (hS123).rd.no h)) ?_
        refine ws_p rfl rfl rfl rfl (p_mv rfl) ?_
        refine ws_p rfl rfl rfl rfl (p_mv rfl) ?_
        obtain ⟨b19, o19, hA19, hF19, hc19⟩ := (hq).opn (d := ByteArray.empty) (by omega)
        refine ws_p rfl rfl rfl rfl (p_ixS1 Tryd.underlying29 sz9 rfl hA19 rfl (by omega) (by omega) (Int.toNat_natCast _)) ?_
        refine ws_h rfl rfl rfl rfl (p_ld Tryd.underlying9 rfl rfl (fun _ h => h.cell (fun h => h) (hc19 _ (by omega)))) ?_
        refine ws_p rfl rfl rfl rfl (p_neT rfl rfl) ?_
        refine ws_n ?_
        refine x_seq ?_
        refine wc_no rfl (by rw [hbj]; exact bts_str _) ?_
        refine wc_skip ?_
        refine x_in_normal ?_
        refine x_seq ?_
        refine wc_region ?_
        refine wl rfl rfl rfl (p_add rfl rfl (w64 (by omega))) ?_
        refine wl rfl rfl rfl (p_mv rfl) ?_
        refine wl_nil ?_
        refine x_round (e' := [(0, .slice Aq lq cq), (4, .bool false), (14, .slice A103 lq c103), (117, i64 (lq : Int)), (118, i64 ((j + 1) : Int))]) ⟨rfl, rfl, rfl, rfl, rfl, trivial⟩ (by rw [hm1]; omega) ⟨j + 1, rfl, rfl, by omega, hS103, hq, hnib, HC⟩
      ·
        have c7 := of_decide_eq_false c7
        refine wc_exit ?_
        refine x_then_exit ?_
        refine x_then_exit ?_
        refine x_in_here ?_
        refine x_seq ?_
        refine wc_seq ?_
        refine wc_region ?_
        refine wle rfl (e_call ent9 rfl rfl (lives6_any hnib) ?_)
        rintro _ w20 ⟨rfl, hc⟩
        refine ⟨_, rfl, ?_⟩
        have hzw20 := hc.size
        have HC := HC.tr hc
        have hS103 := hS103.no hc
        have hq := hq.no hc
        have hnib := hnib.no hc
        refine wl rfl rfl rfl (p_as rfl) ?_
        refine wl_nil ?_
        refine x_seq ?_
        refine wc_ret ?_
        refine fin_run (res1 rfl rfl) ?_
        exact ⟨rfl, HC⟩
end Go.Proofs.YtcgapjieidmkpaaDoor
