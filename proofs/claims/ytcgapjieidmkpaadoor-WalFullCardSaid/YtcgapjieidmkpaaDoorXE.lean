/-
  Own text, printed by a program of mine (wip/gx): what functions of the program do, walked operation by operation.
-/
import Derived.Test.YtcgapjieidmkpaaDoorProg
import Derived.Test.YtcgapjieidmkpaaDoorGxAgg
import Derived.Test.YtcgapjieidmkpaaDoorTab
import Derived.Test.YtcgapjieidmkpaaDoorGxZer
import Derived.Test.YtcgapjieidmkpaaDoorPlDisk
import Derived.Test.YtcgapjieidmkpaaDoorPlDiskSt
import Derived.Test.YtcgapjieidmkpaaDoorPlDiskOk
import Derived.Test.YtcgapjieidmkpaaDoorPlDiskC
import Derived.Test.YtcgapjieidmkpaaDoorPlDiskLaw
import Derived.Test.YtcgapjieidmkpaaDoorPlActD
import Derived.Test.YtcgapjieidmkpaaDoorPlActs
import Derived.Test.YtcgapjieidmkpaaDoorPlWal
import Derived.Test.YtcgapjieidmkpaaDoorPlWalSt
import Derived.Test.YtcgapjieidmkpaaDoorPlWalLaw
import Derived.Test.YtcgapjieidmkpaaDoorDTd
import Derived.Test.YtcgapjieidmkpaaDoorVD
import Derived.Test.YtcgapjieidmkpaaDoorXW
set_option linter.unusedVariables false
namespace Go.Proofs.YtcgapjieidmkpaaDoor
open Go.RowKit Go.Gx
open Go.Plain
set_option maxHeartbeats 8000000 in
set_option maxRecDepth 20000 in
theorem walFull_walk {w : World} {n : Nat}{Aq : Option Addr} {lq cq : Nat} {Fq : Nat → Prop} {q : List ByteArray} (hn : n < 18446744073709551616) (hq : Sl w Fq Value.string Aq lq cq q) (hnib : Sl w (fun k => k = 0) u32v (some ⟨0, 0, none⟩) 16 16 nib) :
    Calls Tryd.prog 5 #[.int .u64 (n : Int), .slice Aq lq cq] w fun e w' => e = .returned (.bool true) ∧ Ch No w w' := by
  have hbz : 0 < w.heap.size := hnib.size (by omega) rfl
  have hql := hq.len
  have hq := hq.old
  have HC : Ch No w w := Ch.refl _ _
  refine enter' (args := [.int .u64 (n : Int), .slice Aq lq cq]) (n := 141) Tryd.func5 rfl rfl rfl ?_
  refine wc_seq ?_
  refine wc_region ?_
  refine wl rfl rfl rfl (p_as rfl) ?_
  refine wl_nil ?_
  refine x_seq ?_
  refine wc_seq ?_
  refine wc_region ?_
  refine wl rfl rfl rfl (p_mv rfl) ?_
  refine wl rfl rfl rfl (p_rem (Z := ((n % 30 : Nat) : Int)) rfl rfl (by omega) rfl) ?_
  refine wl rfl rfl rfl (p_conv Tryd.underlying30 Tryd.underlying3 rfl (w64 (by omega))) ?_
  obtain ⟨N, hN⟩ : ∃ x, x = 1 + n % 30 := ⟨_, rfl⟩
  refine wl rfl rfl rfl (p_add (Z := (N : Int)) rfl rfl (by rw [w64 (by omega)]; omega)) ?_
  refine wl rfl rfl rfl (p_as rfl) ?_
  refine wl_nil ?_
  refine x_seq ?_
  refine wc_seq ?_
  refine wc_region ?_
  refine wl rfl rfl rfl (p_mv rfl) ?_
  refine wle rfl (e_call ent13 rfl rfl (new_any (n := N) (by omega) (by omega)) ?_)
  rintro _ w1 ⟨g26, rfl, hg26, hdk, hc⟩
  refine ⟨_, rfl, ?_⟩
  have hzw1 := hc.size
  have HC := HC.tr hc
  have hq := hq.no hc
  have hnib := hnib.no hc
  obtain ⟨O26, hd26, hOl26⟩ := CD.first (w0 := w) hdk (newD_ok _) (by omega) (Nat.zero_le _) (Nat.zero_le _) (by omega)
  refine wl rfl rfl rfl (p_as rfl) ?_
  refine wl_nil ?_
  refine x_seq ?_
  refine wc_seq ?_
  refine wc_region ?_
  refine wl rfl rfl rfl (p_mv rfl) ?_
  refine wle rfl (e_call ent14 rfl rfl (open6_any hd26 (by omega) hnib (by omega)) ?_)
  rintro _ w2 ⟨O29, V29, A29, q29, c29, wa29, wb29, r29, hr29, rfl, hdn, hO29, hc, hza29, hzb29, hzc29, hok29, hbad29⟩
  refine ⟨_, rfl, ?_⟩
  have hzw2 := hc.size
  have HC := HC.trans hc (fun _ _ h => h) (fun k hk ht => absurd hk (by have := hd26.lo k ht; omega))
  have hq := hq.ch hc (fun k hk ht => by have h1 := hd26.lo k ht; first | (have h2 : k < w.heap.size := hk; omega) | (have h2 : k = 0 := hk; omega))
  have hnib := hnib.ch hc (fun k hk ht => by have h1 := hd26.lo k ht; first | (have h2 : k < w.heap.size := hk; omega) | (have h2 : k = 0 := hk; omega))
  have hd26 := hdn
  obtain ⟨hohS29_hd26, hS29, gL29, rfl, hgL29, hohL29_hd26, l29, hl29, hL29⟩ := hok29 (by rw [hr29, (log_new N).open])
  have hSl29 := hS29.len
  have hLl29 := hL29.lt
  have hrz29 := log_open (log_new N) hr29
  obtain ⟨hg29, hq29⟩ := lg_open (log_new N) hl29 hSl29
  subst hrz29
  rw [(log_new N).scan] at hS29
  have hg29 : LgOf l29 ([].map bts) 0 := hg29
  have hlg29 : LogOK N (newD N) ([].map bts) := log_new N
  refine wl rfl rfl rfl (p_mv rfl) ?_
  refine wl rfl rfl rfl (p_ext rfl rfl) ?_
  refine wl rfl rfl rfl (p_ext rfl rfl) ?_
  refine wl rfl rfl rfl (p_ext rfl rfl) ?_
  refine wl rfl rfl rfl (p_as rfl) ?_
  refine wl rfl rfl rfl (p_as rfl) ?_
  refine wl rfl rfl rfl (p_as rfl) ?_
  refine wl_nil ?_
  refine x_seq ?_
  refine wc_seq ?_
  refine wc_seq ?_
  refine wc_region ?_
  refine wl rfl rfl rfl (p_mv rfl) ?_
  refine wl rfl rfl rfl (p_ne rfl rfl) ?_
  refine wl rfl rfl rfl (p_mv rfl) ?_
  refine wl_know (d := 35) (b' := false) rfl (rfl) ?_
  refine wl_g (gd_ rfl rfl rfl rfl rfl rfl) rfl rfl (p_mv rfl) ?_
  refine wl_g (gd_ rfl rfl rfl rfl rfl rfl) rfl rfl (p_lenS Tryd.underlying29 rfl) ?_
  refine wl_g (gd_ rfl rfl rfl rfl rfl rfl) rfl rfl (p_gt rfl rfl) ?_
  refine wl rfl rfl rfl (p_pickF rfl rfl) ?_
  refine wl_nil ?_
  refine x_seq ?_
  refine wc_if rfl (fun c0 => ?_) (fun c0 => ?_)
  ·
    have c0 := of_decide_eq_true c0
    refine wc_seq ?_
    refine wc_region ?_
    refine wl rfl rfl rfl (p_mv rfl) ?_
    refine wl rfl rfl rfl (p_eq rfl rfl) ?_
    refine wl rfl rfl rfl (p_mv rfl) ?_
    refine wl_know (d := 42) (b' := true) rfl (rfl) ?_
    refine wle_g (gd_ rfl rfl rfl rfl rfl rfl) (e_call ent9 rfl rfl (lives6_any hnib) ?_)
    rintro _ w3 ⟨rfl, hc⟩
    refine ⟨_, rfl, ?_⟩
    have hzw3 := hc.size
    have HC := HC.tr hc
    have hq := hq.no hc
    have hnib := hnib.no hc
    have hphd26 := hd26.hi
    have hd26 := hd26.no hc
    have hS29 := hS29.no hc
    have hL29 := hL29.ch hc (fun h => h)
    refine wl rfl rfl rfl (p_pickT rfl rfl) ?_
    refine wl rfl rfl rfl (p_as rfl) ?_
    refine wl_nil ?_
    refine x_seq ?_
    refine wc_ret ?_
    refine x_then_ret ?_
    refine fin_run (res1 rfl rfl) ?_
    exact ⟨rfl, HC⟩
  ·
    have c0 := of_decide_eq_false c0
    refine wc_skip ?_
    refine x_seq ?_
    refine wc_seq ?_
    refine wc_region ?_
    refine wl rfl rfl rfl (p_as rfl) ?_
    refine wl_nil ?_
    refine x_seq ?_
    refine wc_seq ?_
    refine wc_region ?_
    refine wl rfl rfl rfl (p_mv rfl) ?_
    refine wl rfl rfl rfl (p_as rfl) ?_
    refine wl_nil ?_
    refine x_seq ?_
    refine wc_seq ?_
    refine wc_seq ?_
    refine wc_region ?_
    refine wl rfl rfl rfl (p_mv rfl) ?_
    refine wl rfl rfl rfl (p_lenS Tryd.underlying29 rfl) ?_
    refine wl rfl rfl rfl (p_mv rfl) ?_
    refine wl_nil ?_
    refine x_seq ?_
    refine wc_block ?_
    have hw := CR.nil w w2 9
    have aphd26_hw : ∀ k, O29 k → ¬ (fun _ : Nat => False) k := fun k _ h => h
    have hohL29_hw : ∀ k, (fun _ : Nat => False) k → k ≠ gL29 := fun k h => h.elim
    refine wc_loop (e' := [(1, .slice Aq lq cq), (4, .bool false), (5, i64 (N : Int)), (6, .pointer (some ⟨g26, 0, none⟩)), (7, .pointer (some ⟨gL29, 0, none⟩)), (10, .slice (none) ([]).length (0)), (11, i64 ((N) : Int)), (46, .slice Aq lq cq), (47, i64 (lq : Int)), (48, i64 ((0) : Int))]) (fun mz ez uz => ∃ i : Nat, ∃ dd : DS, ∃ O1 : Nat → Prop, ∃ l1 : LS, ∃ ws : List ByteArray, ∃ R : Nat, ∃ G : Nat → Prop, ∃ Aw : Option Addr, ∃ cw : Nat, mz = lq - i ∧ ez = [(1, .slice Aq lq cq), (4, .bool false), (5, i64 (N : Int)), (6, .pointer (some ⟨g26, 0, none⟩)), (7, .pointer (some ⟨gL29, 0, none⟩)), (10, .slice Aw ws.length cw), (11, i64 (R : Int)), (46, .slice Aq lq cq), (47, i64 (lq : Int)), (48, i64 (i : Int))] ∧ (i ≤ lq) ∧ (LogOK N dd (ws.map bts)) ∧ (LgOf l1 (ws.map bts) 0) ∧ (32 * R + (flatW (ws.map bts)).length = 32 * N) ∧ (ws.length ≤ i) ∧ (CD TD w uz O1 g26 N dd) ∧ (Blk uz gL29 42 #[.pointer (some ⟨g26, 0, none⟩), i64 (l1.e : Int), i64 (l1.c : Int), i64 (l1.s : Int)]) ∧ (∀ k, O1 k → k ≠ gL29) ∧ (∀ k, G k → k ≠ gL29) ∧ (CR w uz G 9 (.slice Aw ws.length cw) ws.length (ws.map Value.string)) ∧ (∀ k, O1 k → ¬ G k) ∧ (Sl uz (fun k => k < w.heap.size) Value.string Aq lq cq q) ∧ (Sl uz (fun k => k = 0) u32v (some ⟨0, 0, none⟩) 16 16 nib) ∧ (Ch No w uz))
      ⟨rfl, rfl, rfl, rfl, rfl, rfl, rfl, rfl, rfl, rfl, trivial⟩ ⟨0, newD N, O29, l29, [], N, _, none, 0, rfl, rfl, by omega, hlg29, hg29, by rw [show flatW (List.map bts []) = [] from rfl]; simp, by simp, hd26, hL29, hohL29_hd26, hohL29_hw, hw, aphd26_hw, hq, hnib, HC⟩ ?_
    rintro m0 e w4 ⟨i, dd, O1, l1, ws, R, G, Aw, cw, hm0, rfl, hi, hlg, hg1, hR, hwl, hd26, hL29, hohL29_hd26, hohL29_hw, hw, aphd26_hw, hq, hnib, HC⟩
    have hzw4 := HC.size
    refine wc_seq ?_
    refine wc_region ?_
    refine wl rfl rfl rfl (p_lt rfl rfl) ?_
    refine wl_nil ?_
    refine x_seq ?_
    refine wc_seq ?_
    refine wc_if rfl (fun c1 => ?_) (fun c1 => ?_)
    ·
      have c1 := of_decide_eq_true c1
      refine wc_skip ?_
      refine x_seq ?_
      refine wc_seq ?_
      refine wc_block ?_
      refine wc_seq ?_
      refine wc_region ?_
      obtain ⟨b5, o5, hA5, hF5, hc5⟩ := (hq).opn (d := ByteArray.empty) (by omega)
      refine wl rfl rfl rfl (p_ixS1 Tryd.underlying29 sz9 rfl hA5 rfl (by omega) (by omega) (Int.toNat_natCast _)) ?_
      refine wl rfl rfl rfl (p_ld Tryd.underlying9 rfl rfl (ld (hc5 _ (by omega)))) ?_
      obtain ⟨z, hz⟩ : ∃ z, z = q.getD i ByteArray.empty := ⟨_, rfl⟩
      rw [← hz]
      have hzl := bts_len z
      have hzl2 : z.data.toList.length = z.size := hzl
      refine wl rfl rfl rfl (p_as rfl) ?_
      refine wl_nil ?_
      refine x_seq ?_
      refine wc_seq ?_
      refine wc_seq ?_
      refine wc_region ?_
      refine wl rfl rfl rfl (p_mv rfl) ?_
      refine wl rfl rfl rfl (p_lenT Tryd.underlying9 rfl) ?_
      refine wl rfl rfl rfl (p_gt rfl rfl) ?_
      refine wl_nil ?_
      refine x_seq ?_
      refine wc_if rfl (fun c2 => ?_) (fun c2 => ?_)
      ·
        have c2 := of_decide_eq_true c2
        refine wc_seq ?_
        refine wc_region ?_
        refine wle rfl (e_call ent9 rfl rfl (lives6_any hnib) ?_)
        rintro _ w6 ⟨rfl, hc⟩
        refine ⟨_, rfl, ?_⟩
        have hzw6 := hc.size
        have HC := HC.tr hc
        have hq := hq.no hc
        have hnib := hnib.no hc
        have hphd26 := hd26.hi
        have hd26 := hd26.no hc
        have hL29 := hL29.ch hc (fun h => h)
        have hphw := hw.hi
        have hw := hw.no hc
        refine wl rfl rfl rfl (p_as rfl) ?_
        refine wl_nil ?_
        refine x_seq ?_
        refine wc_ret ?_
        refine x_then_ret ?_
        refine x_in_ret ?_
        refine x_then_ret ?_
        refine x_then_ret ?_
        refine x_in_ret ?_
        refine x_then_ret ?_
        refine fin_run (res1 rfl rfl) ?_
        exact ⟨rfl, HC⟩
      ·
        have c2 := of_decide_eq_false c2
        refine wc_skip ?_
        refine x_seq ?_
        refine wc_seq ?_
        refine wc_region ?_
        refine wl rfl rfl rfl (p_mv rfl) ?_
        refine wl rfl rfl rfl (p_lenT Tryd.underlying9 rfl) ?_
        refine wl rfl rfl rfl (p_add rfl rfl (w64 (by omega))) ?_
        refine wl rfl rfl rfl (p_as rfl) ?_
        refine wl_nil ?_
        refine x_seq ?_
        refine wc_seq ?_
        refine wc_seq ?_
        refine wc_region ?_
        refine wl rfl rfl rfl (p_mv rfl) ?_
        refine wl rfl rfl rfl (p_lenT Tryd.underlying9 rfl) ?_
        refine wl rfl rfl rfl (p_gt rfl rfl) ?_
        refine wl_nil ?_
        refine x_seq ?_
        refine wc_no rfl (decide_eq_false (by omega)) ?_
        refine wc_skip ?_
        refine x_seq ?_
        refine wc_seq ?_
        refine wc_region ?_
        refine wl rfl rfl rfl (p_mv rfl) ?_
        refine wl rfl rfl rfl (p_add rfl rfl (w64 (by omega))) ?_
        refine wl rfl rfl rfl (p_quo (Z := (((z.size + 5 + 31) / 32 : Nat) : Int)) rfl rfl (by omega) (by rw [show ((z.size : Int) + 5 + 31).tdiv 32 = (((z.size + 5 + 31) / 32 : Nat) : Int) from rfl, w64 (by omega)])) ?_
        refine wl rfl rfl rfl (p_as rfl) ?_
        refine wl_nil ?_
        refine x_seq ?_
        refine wc_seq ?_
        refine wc_region ?_
        refine wl rfl rfl rfl (p_mv rfl) ?_
        refine wl rfl rfl rfl (p_mv rfl) ?_
        have hLl29b := hL29.lt
        refine wle rfl (e_stb rfl Tryd.underlying9 Tryd.underlying22 Tryd.underlying5 rfl (fun w7 g69 c69 hg69 hS69 hc hsz69 => ?_))
        have hzw7 := hc.size
        have HC := HC.tr hc
        have hq := hq.no hc
        have hnib := hnib.no hc
        have hphd26 := hd26.hi
        have hd26 := hd26.no hc
        have hL29 := hL29.ch hc (fun h => h)
        have hphw := hw.hi
        have hw := hw.no hc
        have hS69 := hS69.mono (G := fun k => w4.heap.size ≤ k ∧ k < w7.heap.size) (fun k h1 h2 => ⟨by first | exact h2 | (have h3 : k = _ := h2; omega), h1⟩)
        have hohS69_hd26 : ∀ k, O1 k → k < w4.heap.size ∨ w7.heap.size ≤ k := fun k h => .inl (hphd26 k h)
        have hohS69_hw : ∀ k, G k → k < w4.heap.size ∨ w7.heap.size ≤ k := fun k h => .inl (hphw k h)
        have he1 := hg1.e
        have hc1 := hg1.c
        have hwc : (ws.map bts).length = ws.length := List.length_map ..
        refine wle rfl (e_call ent15 rfl rfl (append6_any (l := l1) hd26 hL29 hohL29_hd26 (by omega) (hS69) (by omega) (by omega) (by omega) hnib (by omega)) ?_)
        rintro _ w8 ⟨O70, wm70, r70, l70, hr70, hl70, rfl, hdn, hO70, hc, hc2, hL2⟩
        refine ⟨_, rfl, ?_⟩
        have hzwm70 := hc.size
        have HC := HC.trans hc (fun _ _ h => h) (fun k hk ht => absurd hk (by have := hd26.lo k ht; omega))
        have hq := hq.ch hc (fun k hk ht => by have h1 := hd26.lo k ht; first | (have h2 : k < w.heap.size := hk; omega) | (have h2 : k = 0 := hk; omega))
        have hnib := hnib.ch hc (fun k hk ht => by have h1 := hd26.lo k ht; first | (have h2 : k < w.heap.size := hk; omega) | (have h2 : k = 0 := hk; omega))
        have hltgL29 := hL29.lt
        have hL29 := hL29.ch hc (fun ht => hohL29_hd26 _ ht rfl)
        have hphw := hw.hi
        have hw := hw.other hc (fun k hk ht => aphd26_hw k ht hk)
        have hS69 := hS69.ch hc (fun k hk ht => by have h1 := hohS69_hd26 k ht; have h2 : w4.heap.size ≤ k ∧ k < w7.heap.size := hk; omega)
        have hohL29_hd26 : ∀ k, O70 k → k ≠ gL29 := fun k h => (hO70 k h).elim (hohL29_hd26 k) (fun h => by omega)
        have aphd26_hw : ∀ k, O70 k → ¬ G k := fun k h1 h2 => (hO70 k h1).elim (fun h => aphd26_hw k h h2) (fun h => by have := hphw k h2; omega)
        have hohS69_hd26 : ∀ k, O70 k → k < w4.heap.size ∨ w7.heap.size ≤ k := fun k h => (hO70 k h).elim (hohS69_hd26 k) (fun h => .inr (by omega))
        have hd26 := hdn
        have hc := hc2
        have hL29 := hL2
        have hzw8 := hc.size
        have HC := HC.trans hc (fun _ _ h => h) (fun k hk ht => absurd ht (by omega))
        first | have hq := hq.ch hc (by intro k hk ht; first | omega | (dsimp only at *; omega)) | have hq := hq.chT hc (by intro k hz hk ht; first | omega | (dsimp only at *; omega))
        first | have hnib := hnib.ch hc (by intro k hk ht; first | omega | (dsimp only at *; omega)) | have hnib := hnib.chT hc (by intro k hz hk ht; first | omega | (dsimp only at *; omega))
        have hd26 := hd26.other hc (fun k hk ht => by have h1 := hohL29_hd26 k hk; have h2 : k = gL29 := ht; omega)
        have hw := hw.other hc (fun k hk ht => by have h1 := hohL29_hw k hk; have h2 : k = gL29 := ht; omega)
        first | have hS69 := hS69.ch hc (by intro k hk ht; first | omega | (dsimp only at *; omega)) | have hS69 := hS69.chT hc (by intro k hz hk ht; first | omega | (dsimp only at *; omega))
        have hpad := pad_small (x := bts z) (by omega)
        rw [hzl] at hpad
        obtain ⟨nd0, hnd0⟩ : ∃ x, x = (z.size + 5 + 31) / 32 := ⟨_, rfl⟩
        rw [← hnd0] at hpad ⊢
        have hpad : (padW z.data.toList).length = nd0 * 32 := hpad
        obtain ⟨ys, hlg70, hg70, hor⟩ := log_any hlg hg1 hr70 hl70 (by omega)
        have he70 := hg70.e
        have hc70 := hg70.c
        refine wl rfl rfl rfl (p_as rfl) ?_
        refine wl_nil ?_
        refine x_seq ?_
        refine wc_seq ?_
        refine wc_seq ?_
        refine wc_region ?_
        refine wl rfl rfl rfl (p_mv rfl) ?_
        refine wl rfl rfl rfl (p_eq rfl rfl) ?_
        refine wl rfl rfl rfl (p_mv rfl) ?_
        refine wl rfl rfl rfl (p_mv rfl) ?_
        refine wl rfl rfl rfl (p_le rfl rfl) ?_
        refine wl rfl rfl rfl (p_neB rfl rfl Tryd.underlying4) ?_
        refine wl rfl rfl rfl (p_mv rfl) ?_
        refine wl_know (d := 77) (b' := false) rfl (bne_dec (by omega)) ?_
        refine wl_g (gd_ rfl rfl rfl rfl rfl rfl) rfl rfl (p_mv rfl) ?_
        refine wl_g (gd_ rfl rfl rfl rfl rfl rfl) rfl rfl (p_ne rfl rfl) ?_
        refine wl_g (gd_ rfl rfl rfl rfl rfl rfl) rfl rfl (p_mv rfl) ?_
        refine wl_split (d := 80) rfl (fun q80 => ?_) (fun q80 => ?_)
        ·
          have q80 := of_decide_eq_true q80
          refine wl_g (gd_ rfl rfl rfl rfl rfl rfl) rfl rfl (p_mv rfl) ?_
          refine wl_g (gd_ rfl rfl rfl rfl rfl rfl) rfl rfl (p_ne rfl rfl) ?_
          refine wl_g (gd_ rfl rfl rfl rfl rfl rfl) rfl rfl (p_pickT rfl rfl) ?_
          refine wl rfl rfl rfl (p_pickF rfl rfl) ?_
          refine wl_nil ?_
          refine x_seq ?_
          refine wc_no rfl (decide_eq_false (by omega)) ?_
          refine wc_skip ?_
          refine x_seq ?_
          refine wc_seq ?_
          refine wc_seq ?_
          refine wc_region ?_
          refine wl rfl rfl rfl (p_mv rfl) ?_
          refine wl rfl rfl rfl (p_eq rfl rfl) ?_
          refine wl_nil ?_
          refine x_seq ?_
          refine wc_if rfl (fun c5 => ?_) (fun c5 => ?_)
          ·
            have c5 := of_decide_eq_true c5
            obtain ⟨_, hfit, rfl⟩ := hor.resolve_right (fun h => by omega)
            rw [List.length_append, List.length_singleton] at hc70
            rw [flatW_snoc, List.length_append] at he70
            refine wc_seq ?_
            refine wc_region ?_
            refine wl rfl rfl rfl (p_mv rfl) ?_
            refine wl rfl rfl rfl (p_mv rfl) ?_
            have hltgL29 := hL29.lt
            refine wle rfl (e_bslV (E := 9) rfl rfl (fun _ => by kernel_rfl) (fun w9 g89 hg89 hb89 hc hsz89 => ?_))
            have hzw9 := hc.size
            have HC := HC.tr hc
            have hq := hq.no hc
            have hnib := hnib.no hc
            have hphd26 := hd26.hi
            have hd26 := hd26.no hc
            have hL29 := hL29.ch hc (fun h => h)
            have hphw := hw.hi
            have hw := hw.no hc
            have hS69 := hS69.no hc
            have hge89 : w.heap.size ≤ g89 := by have := HC.size; omega
            have hS89 := Sl.lit1 (f := Value.string) hb89
            have hS89 := hS89.mono (G := fun k => w8.heap.size ≤ k ∧ k < w9.heap.size) (fun k h1 h2 => ⟨by first | exact h2 | (have h3 : k = _ := h2; omega), h1⟩)
            have hohS89_hd26 : ∀ k, O70 k → k < w8.heap.size ∨ w9.heap.size ≤ k := fun k h => .inl (hphd26 k h)
            have hohS89_hw : ∀ k, G k → k < w8.heap.size ∨ w9.heap.size ≤ k := fun k h => .inl (hphw k h)
            have hltgL29 := hL29.lt
            refine wle rfl (e_appS rfl el29 (fun _ => rfl) rfl rfl hw.at_ hS89 (by omega) (fun _ h => .inr h) (fun w10 A90 c90 hw90 hc => ?_))
            obtain ⟨G90, hdn, hG90, hc⟩ := hw.next hw90 hc (by omega)
            have hzw10 := hc.size
            have HC := HC.trans hc (fun _ _ h => h) (fun k hk ht => absurd hk (by have := hw.lo k ht; omega))
            have hq := hq.ch hc (fun k hk ht => by have h1 := hw.lo k ht; first | (have h2 : k < w.heap.size := hk; omega) | (have h2 : k = 0 := hk; omega))
            have hnib := hnib.ch hc (fun k hk ht => by have h1 := hw.lo k ht; first | (have h2 : k < w.heap.size := hk; omega) | (have h2 : k = 0 := hk; omega))
            have hphd26 := hd26.hi
            have hd26 := hd26.other hc (fun k hk ht => (fun k h1 h2 => aphd26_hw k h2 h1) k ht hk)
            have hltgL29 := hL29.lt
            have hL29 := hL29.ch hc (fun ht => hohL29_hw _ ht rfl)
            have hS69 := hS69.ch hc (fun k hk ht => by have h1 := hohS69_hw k ht; have h2 : w4.heap.size ≤ k ∧ k < w7.heap.size := hk; omega)
            have hS89 := hS89.ch hc (fun k hk ht => by have h1 := hohS89_hw k ht; have h2 : w8.heap.size ≤ k ∧ k < w9.heap.size := hk; omega)
            have aphd26_hw : ∀ k, O70 k → ¬ G90 k := fun k h1 h2 => (hG90 k h2).elim (fun h => aphd26_hw k h1 h) (fun h => by have := hphd26 k h1; omega)
            have hohL29_hw : ∀ k, G90 k → k ≠ gL29 := fun k h => (hG90 k h).elim (hohL29_hw k) (fun h => by omega)
            have hohS69_hw : ∀ k, G90 k → k < w4.heap.size ∨ w7.heap.size ≤ k := fun k h => (hG90 k h).elim (hohS69_hw k) (fun h => .inr (by omega))
            have hohS89_hw : ∀ k, G90 k → k < w8.heap.size ∨ w9.heap.size ≤ k := fun k h => (hG90 k h).elim (hohS89_hw k) (fun h => .inr (by omega))
            have hw := hdn
            refine wl rfl rfl rfl (p_as rfl) ?_
            refine wl_nil ?_
            refine x_seq ?_
            refine wc_region ?_
            refine wl rfl rfl rfl (p_mv rfl) ?_
            refine wl rfl rfl rfl (p_mv rfl) ?_
            refine wl rfl rfl rfl (p_sub (Z := ((R - nd0 : Nat) : Int)) rfl rfl (by rw [w64 (by omega)]; omega)) ?_
            refine wl rfl rfl rfl (p_as rfl) ?_
            refine wl_nil ?_
            refine x_seq ?_
            refine wc_seq ?_
            refine wc_region ?_
            refine wl rfl rfl rfl (p_mv rfl) ?_
            refine wle rfl (e_call ent17 rfl rfl (count6_any (l := l70) hL29) ?_)
            rintro _ w11 ⟨rfl, hc⟩
            refine ⟨_, rfl, ?_⟩
            have hzw11 := hc.size
            have HC := HC.tr hc
            have hq := hq.no hc
            have hnib := hnib.no hc
            have hphd26 := hd26.hi
            have hd26 := hd26.no hc
            have hL29 := hL29.ch hc (fun h => h)
            have hphw := hw.hi
            have hw := hw.no hc
            have hS69 := hS69.no hc
            have hS89 := hS89.no hc
            refine wl rfl rfl rfl (p_mv rfl) ?_
            refine wl rfl rfl rfl (p_lenS Tryd.underlying29 rfl) ?_
            refine wl rfl rfl rfl (p_ne rfl rfl) ?_
            refine wl rfl rfl rfl (p_mv rfl) ?_
            refine wl_know (d := 99) (b' := false) rfl (decide_eq_false (by omega)) ?_
            refine wl_g (gd_ rfl rfl rfl rfl rfl rfl) rfl rfl (p_mv rfl) ?_
            refine wle_g (gd_ rfl rfl rfl rfl rfl rfl) (e_call ent16 rfl rfl (end6_any (l := l70) hL29) ?_)
            rintro _ w12 ⟨rfl, hc⟩
            refine ⟨_, rfl, ?_⟩
            have hzw12 := hc.size
            have HC := HC.tr hc
            have hq := hq.no hc
            have hnib := hnib.no hc
            have hphd26 := hd26.hi
            have hd26 := hd26.no hc
            have hL29 := hL29.ch hc (fun h => h)
            have hphw := hw.hi
            have hw := hw.no hc
            have hS69 := hS69.no hc
            have hS89 := hS89.no hc
            refine wl_g (gd_ rfl rfl rfl rfl rfl rfl) rfl rfl (p_mv rfl) ?_
            refine wl_g (gd_ rfl rfl rfl rfl rfl rfl) rfl rfl (p_mv rfl) ?_
            refine wl_g (gd_ rfl rfl rfl rfl rfl rfl) rfl rfl (p_sub rfl rfl (w64 (by omega))) ?_
            refine wl_g (gd_ rfl rfl rfl rfl rfl rfl) rfl rfl (p_mul rfl rfl (w64 (by omega))) ?_
            refine wl_g (gd_ rfl rfl rfl rfl rfl rfl) rfl rfl (p_ne rfl rfl) ?_
            refine wl rfl rfl rfl (p_pickF rfl rfl) ?_
            refine wl_nil ?_
            refine x_seq ?_
            refine wc_no rfl (decide_eq_false (by omega)) ?_
            refine wc_skip ?_
            refine x_in_normal ?_
            refine x_seq ?_
            refine wc_region ?_
            refine wl rfl rfl rfl (p_add rfl rfl (w64 (by omega))) ?_
            refine wl rfl rfl rfl (p_mv rfl) ?_
            refine wl_nil ?_
            obtain ⟨wn, hwn⟩ : ∃ x, x = ws ++ [z] := ⟨_, rfl⟩
            obtain ⟨Rn, hRn⟩ : ∃ x, x = R - nd0 := ⟨_, rfl⟩
            obtain ⟨An, hAn⟩ : ∃ x, x = A90 := ⟨_, rfl⟩
            obtain ⟨cn, hcn⟩ : ∃ x, x = c90 := ⟨_, rfl⟩
            refine x_round (e' := [(1, .slice Aq lq cq), (4, .bool false), (5, i64 (N : Int)), (6, .pointer (some ⟨g26, 0, none⟩)), (7, .pointer (some ⟨gL29, 0, none⟩)), (10, .slice (An) (wn).length (cn)), (11, i64 ((Rn) : Int)), (46, .slice Aq lq cq), (47, i64 (lq : Int)), (48, i64 ((i + 1) : Int))]) ⟨rfl, rfl, rfl, rfl, rfl, (by rw [hwn, hAn, hcn]; first | rfl | (rw [List.length_append, List.length_singleton]; rfl)), (by rw [hRn]; rfl), rfl, rfl, rfl, trivial⟩ (by rw [hm0]; omega) ⟨i + 1, r70.2, O70, l70, wn, Rn, _, An, cn, rfl, rfl, by omega, by rw [hwn]; first | exact hlg70 | (rw [bts_snoc]; exact hlg70), by rw [hwn]; first | exact hg70 | (rw [bts_snoc]; exact hg70), by rw [hwn, hRn]; first | omega | (rw [bts_snoc, flatW_snoc, List.length_append, show (padW (bts z)).length = nd0 * 32 from hpad]; omega), by rw [hwn]; first | omega | (rw [List.length_append, List.length_singleton]; omega), hd26, hL29, hohL29_hd26, hohL29_hw, by rw [hwn, hAn, hcn]; first | exact hw | (rw [List.length_append, List.length_singleton]; exact hw), aphd26_hw, hq, hnib, HC⟩
          ·
            have c5 := of_decide_eq_false c5
            obtain ⟨_, hfit, rfl⟩ := hor.resolve_left (fun h => by omega)
            refine wc_skip ?_
            refine x_seq ?_
            refine wc_seq ?_
            refine wc_region ?_
            refine wl rfl rfl rfl (p_mv rfl) ?_
            refine wle rfl (e_call ent17 rfl rfl (count6_any (l := l70) hL29) ?_)
            rintro _ w13 ⟨rfl, hc⟩
            refine ⟨_, rfl, ?_⟩
            have hzw13 := hc.size
            have HC := HC.tr hc
            have hq := hq.no hc
            have hnib := hnib.no hc
            have hphd26 := hd26.hi
            have hd26 := hd26.no hc
            have hL29 := hL29.ch hc (fun h => h)
            have hphw := hw.hi
            have hw := hw.no hc
            have hS69 := hS69.no hc
            refine wl rfl rfl rfl (p_mv rfl) ?_
            refine wl rfl rfl rfl (p_lenS Tryd.underlying29 rfl) ?_
            refine wl rfl rfl rfl (p_ne rfl rfl) ?_
            refine wl rfl rfl rfl (p_mv rfl) ?_
            refine wl_know (d := 99) (b' := false) rfl (decide_eq_false (by omega)) ?_
            refine wl_g (gd_ rfl rfl rfl rfl rfl rfl) rfl rfl (p_mv rfl) ?_
            refine wle_g (gd_ rfl rfl rfl rfl rfl rfl) (e_call ent16 rfl rfl (end6_any (l := l70) hL29) ?_)
            rintro _ w14 ⟨rfl, hc⟩
            refine ⟨_, rfl, ?_⟩
            have hzw14 := hc.size
            have HC := HC.tr hc
            have hq := hq.no hc
            have hnib := hnib.no hc
            have hphd26 := hd26.hi
            have hd26 := hd26.no hc
            have hL29 := hL29.ch hc (fun h => h)
            have hphw := hw.hi
            have hw := hw.no hc
            have hS69 := hS69.no hc
            refine wl_g (gd_ rfl rfl rfl rfl rfl rfl) rfl rfl (p_mv rfl) ?_
            refine wl_g (gd_ rfl rfl rfl rfl rfl rfl) rfl rfl (p_mv rfl) ?_
            refine wl_g (gd_ rfl rfl rfl rfl rfl rfl) rfl rfl (p_sub rfl rfl (w64 (by omega))) ?_
            refine wl_g (gd_ rfl rfl rfl rfl rfl rfl) rfl rfl (p_mul rfl rfl (w64 (by omega))) ?_
            refine wl_g (gd_ rfl rfl rfl rfl rfl rfl) rfl rfl (p_ne rfl rfl) ?_
            refine wl rfl rfl rfl (p_pickF rfl rfl) ?_
            refine wl_nil ?_
            refine x_seq ?_
            refine wc_no rfl (decide_eq_false (by omega)) ?_
            refine wc_skip ?_
            refine x_in_normal ?_
            refine x_seq ?_
            refine wc_region ?_
            refine wl rfl rfl rfl (p_add rfl rfl (w64 (by omega))) ?_
            refine wl rfl rfl rfl (p_mv rfl) ?_
            refine wl_nil ?_
            obtain ⟨wn, hwn⟩ : ∃ x, x = ws := ⟨_, rfl⟩
            obtain ⟨Rn, hRn⟩ : ∃ x, x = R := ⟨_, rfl⟩
            obtain ⟨An, hAn⟩ : ∃ x, x = Aw := ⟨_, rfl⟩
            obtain ⟨cn, hcn⟩ : ∃ x, x = cw := ⟨_, rfl⟩
            refine x_round (e' := [(1, .slice Aq lq cq), (4, .bool false), (5, i64 (N : Int)), (6, .pointer (some ⟨g26, 0, none⟩)), (7, .pointer (some ⟨gL29, 0, none⟩)), (10, .slice (An) (wn).length (cn)), (11, i64 ((Rn) : Int)), (46, .slice Aq lq cq), (47, i64 (lq : Int)), (48, i64 ((i + 1) : Int))]) ⟨rfl, rfl, rfl, rfl, rfl, (by rw [hwn, hAn, hcn]; first | rfl | (rw [List.length_append, List.length_singleton]; rfl)), (by rw [hRn]; rfl), rfl, rfl, rfl, trivial⟩ (by rw [hm0]; omega) ⟨i + 1, r70.2, O70, l70, wn, Rn, _, An, cn, rfl, rfl, by omega, by rw [hwn]; first | exact hlg70 | (rw [bts_snoc]; exact hlg70), by rw [hwn]; first | exact hg70 | (rw [bts_snoc]; exact hg70), by rw [hwn, hRn]; first | omega | (rw [bts_snoc, flatW_snoc, List.length_append, show (padW (bts z)).length = nd0 * 32 from hpad]; omega), by rw [hwn]; first | omega | (rw [List.length_append, List.length_singleton]; omega), hd26, hL29, hohL29_hd26, hohL29_hw, by rw [hwn, hAn, hcn]; first | exact hw | (rw [List.length_append, List.length_singleton]; exact hw), aphd26_hw, hq, hnib, HC⟩
        ·
          have q80 := of_decide_eq_false q80
          refine wl_s (gd_ rfl rfl rfl rfl rfl rfl) rfl rfl ?_
          refine wl_s (gd_ rfl rfl rfl rfl rfl rfl) rfl rfl ?_
          refine wl_g (gd_ rfl rfl rfl rfl rfl rfl) rfl rfl (p_pickF rfl rfl) ?_
          refine wl rfl rfl rfl (p_pickF rfl rfl) ?_
          refine wl_nil ?_
          refine x_seq ?_
          refine wc_no rfl (rfl) ?_
          refine wc_skip ?_
          refine x_seq ?_
          refine wc_seq ?_
          refine wc_seq ?_
          refine wc_region ?_
          refine wl rfl rfl rfl (p_mv rfl) ?_
          refine wl rfl rfl rfl (p_eq rfl rfl) ?_
          refine wl_nil ?_
          refine x_seq ?_
          refine wc_if rfl (fun c5 => ?_) (fun c5 => ?_)
          ·
            have c5 := of_decide_eq_true c5
            obtain ⟨_, hfit, rfl⟩ := hor.resolve_right (fun h => by omega)
            rw [List.length_append, List.length_singleton] at hc70
            rw [flatW_snoc, List.length_append] at he70
            refine wc_seq ?_
            refine wc_region ?_
            refine wl rfl rfl rfl (p_mv rfl) ?_
            refine wl rfl rfl rfl (p_mv rfl) ?_
            have hltgL29 := hL29.lt
            refine wle rfl (e_bslV (E := 9) rfl rfl (fun _ => by kernel_rfl) (fun w15 g89 hg89 hb89 hc hsz89 => ?_))
            have hzw15 := hc.size
            have HC := HC.tr hc
            have hq := hq.no hc
            have hnib := hnib.no hc
            have hphd26 := hd26.hi
            have hd26 := hd26.no hc
            have hL29 := hL29.ch hc (fun h => h)
            have hphw := hw.hi
            have hw := hw.no hc
            have hS69 := hS69.no hc
            have hge89 : w.heap.size ≤ g89 := by have := HC.size; omega
            have hS89 := Sl.lit1 (f := Value.string) hb89
            have hS89 := hS89.mono (G := fun k => w8.heap.size ≤ k ∧ k < w15.heap.size) (fun k h1 h2 => ⟨by first | exact h2 | (have h3 : k = _ := h2; omega), h1⟩)
            have hohS89_hd26 : ∀ k, O70 k → k < w8.heap.size ∨ w15.heap.size ≤ k := fun k h => .inl (hphd26 k h)
            have hohS89_hw : ∀ k, G k → k < w8.heap.size ∨ w15.heap.size ≤ k := fun k h => .inl (hphw k h)
            have hltgL29 := hL29.lt
            refine wle rfl (e_appS rfl el29 (fun _ => rfl) rfl rfl hw.at_ hS89 (by omega) (fun _ h => .inr h) (fun w16 A90 c90 hw90 hc => ?_))
            obtain ⟨G90, hdn, hG90, hc⟩ := hw.next hw90 hc (by omega)
            have hzw16 := hc.size
            have HC := HC.trans hc (fun _ _ h => h) (fun k hk ht => absurd hk (by have := hw.lo k ht; omega))
            have hq := hq.ch hc (fun k hk ht => by have h1 := hw.lo k ht; first | (have h2 : k < w.heap.size := hk; omega) | (have h2 : k = 0 := hk; omega))
            have hnib := hnib.ch hc (fun k hk ht => by have h1 := hw.lo k ht; first | (have h2 : k < w.heap.size := hk; omega) | (have h2 : k = 0 := hk; omega))
            have hphd26 := hd26.hi
            have hd26 := hd26.other hc (fun k hk ht => (fun k h1 h2 => aphd26_hw k h2 h1) k ht hk)
            have hltgL29 := hL29.lt
            have hL29 := hL29.ch hc (fun ht => hohL29_hw _ ht rfl)
            have hS69 := hS69.ch hc (fun k hk ht => by have h1 := hohS69_hw k ht; have h2 : w4.heap.size ≤ k ∧ k < w7.heap.size := hk; omega)
            have hS89 := hS89.ch hc (fun k hk ht => by have h1 := hohS89_hw k ht; have h2 : w8.heap.size ≤ k ∧ k < w15.heap.size := hk; omega)
            have aphd26_hw : ∀ k, O70 k → ¬ G90 k := fun k h1 h2 => (hG90 k h2).elim (fun h => aphd26_hw k h1 h) (fun h => by have := hphd26 k h1; omega)
            have hohL29_hw : ∀ k, G90 k → k ≠ gL29 := fun k h => (hG90 k h).elim (hohL29_hw k) (fun h => by omega)
            have hohS69_hw : ∀ k, G90 k → k < w4.heap.size ∨ w7.heap.size ≤ k := fun k h => (hG90 k h).elim (hohS69_hw k) (fun h => .inr (by omega))
            have hohS89_hw : ∀ k, G90 k → k < w8.heap.size ∨ w15.heap.size ≤ k := fun k h => (hG90 k h).elim (hohS89_hw k) (fun h => .inr (by omega))
            have hw := hdn
            refine wl rfl rfl rfl (p_as rfl) ?_
            refine wl_nil ?_
            refine x_seq ?_
            refine wc_region ?_
            refine wl rfl rfl rfl (p_mv rfl) ?_
            refine wl rfl rfl rfl (p_mv rfl) ?_
            refine wl rfl rfl rfl (p_sub (Z := ((R - nd0 : Nat) : Int)) rfl rfl (by rw [w64 (by omega)]; omega)) ?_
            refine wl rfl rfl rfl (p_as rfl) ?_
            refine wl_nil ?_
            refine x_seq ?_
            refine wc_seq ?_
            refine wc_region ?_
            refine wl rfl rfl rfl (p_mv rfl) ?_
            refine wle rfl (e_call ent17 rfl rfl (count6_any (l := l70) hL29) ?_)
            rintro _ w17 ⟨rfl, hc⟩
            refine ⟨_, rfl, ?_⟩
            have hzw17 := hc.size
            have HC := HC.tr hc
            have hq := hq.no hc
            have hnib := hnib.no hc
            have hphd26 := hd26.hi
            have hd26 := hd26.no hc
            have hL29 := hL29.ch hc (fun h => h)
            have hphw := hw.hi
            have hw := hw.no hc
            have hS69 := hS69.no hc
            have hS89 := hS89.no hc
            refine wl rfl rfl rfl (p_mv rfl) ?_
            refine wl rfl rfl rfl (p_lenS Tryd.underlying29 rfl) ?_
            refine wl rfl rfl rfl (p_ne rfl rfl) ?_
            refine wl rfl rfl rfl (p_mv rfl) ?_
            refine wl_know (d := 99) (b' := false) rfl (decide_eq_false (by omega)) ?_
            refine wl_g (gd_ rfl rfl rfl rfl rfl rfl) rfl rfl (p_mv rfl) ?_
            refine wle_g (gd_ rfl rfl rfl rfl rfl rfl) (e_call ent16 rfl rfl (end6_any (l := l70) hL29) ?_)
            rintro _ w18 ⟨rfl, hc⟩
            refine ⟨_, rfl, ?_⟩
            have hzw18 := hc.size
            have HC := HC.tr hc
            have hq := hq.no hc
            have hnib := hnib.no hc
            have hphd26 := hd26.hi
            have hd26 := hd26.no hc
            have hL29 := hL29.ch hc (fun h => h)
            have hphw := hw.hi
            have hw := hw.no hc
            have hS69 := hS69.no hc
            have hS89 := hS89.no hc
            refine wl_g (gd_ rfl rfl rfl rfl rfl rfl) rfl rfl (p_mv rfl) ?_
            refine wl_g (gd_ rfl rfl rfl rfl rfl rfl) rfl rfl (p_mv rfl) ?_
            refine wl_g (gd_ rfl rfl rfl rfl rfl rfl) rfl rfl (p_sub rfl rfl (w64 (by omega))) ?_
            refine wl_g (gd_ rfl rfl rfl rfl rfl rfl) rfl rfl (p_mul rfl rfl (w64 (by omega))) ?_
            refine wl_g (gd_ rfl rfl rfl rfl rfl rfl) rfl rfl (p_ne rfl rfl) ?_
            refine wl rfl rfl rfl (p_pickF rfl rfl) ?_
            refine wl_nil ?_
            refine x_seq ?_
            refine wc_no rfl (decide_eq_false (by omega)) ?_
            refine wc_skip ?_
            refine x_in_normal ?_
            refine x_seq ?_
            refine wc_region ?_
            refine wl rfl rfl rfl (p_add rfl rfl (w64 (by omega))) ?_
            refine wl rfl rfl rfl (p_mv rfl) ?_
            refine wl_nil ?_
            obtain ⟨wn, hwn⟩ : ∃ x, x = ws ++ [z] := ⟨_, rfl⟩
            obtain ⟨Rn, hRn⟩ : ∃ x, x = R - nd0 := ⟨_, rfl⟩
            obtain ⟨An, hAn⟩ : ∃ x, x = A90 := ⟨_, rfl⟩
            obtain ⟨cn, hcn⟩ : ∃ x, x = c90 := ⟨_, rfl⟩
            refine x_round (e' := [(1, .slice Aq lq cq), (4, .bool false), (5, i64 (N : Int)), (6, .pointer (some ⟨g26, 0, none⟩)), (7, .pointer (some ⟨gL29, 0, none⟩)), (10, .slice (An) (wn).length (cn)), (11, i64 ((Rn) : Int)), (46, .slice Aq lq cq), (47, i64 (lq : Int)), (48, i64 ((i + 1) : Int))]) ⟨rfl, rfl, rfl, rfl, rfl, (by rw [hwn, hAn, hcn]; first | rfl | (rw [List.length_append, List.length_singleton]; rfl)), (by rw [hRn]; rfl), rfl, rfl, rfl, trivial⟩ (by rw [hm0]; omega) ⟨i + 1, r70.2, O70, l70, wn, Rn, _, An, cn, rfl, rfl, by omega, by rw [hwn]; first | exact hlg70 | (rw [bts_snoc]; exact hlg70), by rw [hwn]; first | exact hg70 | (rw [bts_snoc]; exact hg70), by rw [hwn, hRn]; first | omega | (rw [bts_snoc, flatW_snoc, List.length_append, show (padW (bts z)).length = nd0 * 32 from hpad]; omega), by rw [hwn]; first | omega | (rw [List.length_append, List.length_singleton]; omega), hd26, hL29, hohL29_hd26, hohL29_hw, by rw [hwn, hAn, hcn]; first | exact hw | (rw [List.length_append, List.length_singleton]; exact hw), aphd26_hw, hq, hnib, HC⟩
          ·
            have c5 := of_decide_eq_false c5
            obtain ⟨_, hfit, rfl⟩ := hor.resolve_left (fun h => by omega)
            refine wc_skip ?_
            refine x_seq ?_
            refine wc_seq ?_
            refine wc_region ?_
            refine wl rfl rfl rfl (p_mv rfl) ?_
            refine wle rfl (e_call ent17 rfl rfl (count6_any (l := l70) hL29) ?_)
            rintro _ w19 ⟨rfl, hc⟩
            refine ⟨_, rfl, ?_⟩
            have hzw19 := hc.size
            have HC := HC.tr hc
            have hq := hq.no hc
            have hnib := hnib.no hc
            have hphd26 := hd26.hi
            have hd26 := hd26.no hc
            have hL29 := hL29.ch hc (fun h => h)
            have hphw := hw.hi
            have hw := hw.no hc
            have hS69 := hS69.no hc
            refine wl rfl rfl rfl (p_mv rfl) ?_
            refine wl rfl rfl rfl (p_lenS Tryd.underlying29 rfl) ?_
            refine wl rfl rfl rfl (p_ne rfl rfl) ?_
            refine wl rfl rfl rfl (p_mv rfl) ?_
            refine wl_know (d := 99) (b' := false) rfl (decide_eq_false (by omega)) ?_
            refine wl_g (gd_ rfl rfl rfl rfl rfl rfl) rfl rfl (p_mv rfl) ?_
            refine wle_g (gd_ rfl rfl rfl rfl rfl rfl) (e_call ent16 rfl rfl (end6_any (l := l70) hL29) ?_)
            rintro _ w20 ⟨rfl, hc⟩
            refine ⟨_, rfl, ?_⟩
            have hzw20 := hc.size
            have HC := HC.tr hc
            have hq := hq.no hc
            have hnib := hnib.no hc
            have hphd26 := hd26.hi
            have hd26 := hd26.no hc
            have hL29 := hL29.ch hc (fun h => h)
            have hphw := hw.hi
            have hw := hw.no hc
            have hS69 := hS69.no hc
            refine wl_g (gd_ rfl rfl rfl rfl rfl rfl) rfl rfl (p_mv rfl) ?_
            refine wl_g (gd_ rfl rfl rfl rfl rfl rfl) rfl rfl (p_mv rfl) ?_
            refine wl_g (gd_ rfl rfl rfl rfl rfl rfl) rfl rfl (p_sub rfl rfl (w64 (by omega))) ?_
            refine wl_g (gd_ rfl rfl rfl rfl rfl rfl) rfl rfl (p_mul rfl rfl (w64 (by omega))) ?_
            refine wl_g (gd_ rfl rfl rfl rfl rfl rfl) rfl rfl (p_ne rfl rfl) ?_
            refine wl rfl rfl rfl (p_pickF rfl rfl) ?_
            refine wl_nil ?_
            refine x_seq ?_
            refine wc_no rfl (decide_eq_false (by omega)) ?_
            refine wc_skip ?_
            refine x_in_normal ?_
            refine x_seq ?_
            refine wc_region ?_
            refine wl rfl rfl rfl (p_add rfl rfl (w64 (by omega))) ?_
            refine wl rfl rfl rfl (p_mv rfl) ?_
            refine wl_nil ?_
            obtain ⟨wn, hwn⟩ : ∃ x, x = ws := ⟨_, rfl⟩
            obtain ⟨Rn, hRn⟩ : ∃ x, x = R := ⟨_, rfl⟩
            obtain ⟨An, hAn⟩ : ∃ x, x = Aw := ⟨_, rfl⟩
            obtain ⟨cn, hcn⟩ : ∃ x, x = cw := ⟨_, rfl⟩
            refine x_round (e' := [(1, .slice Aq lq cq), (4, .bool false), (5, i64 (N : Int)), (6, .pointer (some ⟨g26, 0, none⟩)), (7, .pointer (some ⟨gL29, 0, none⟩)), (10, .slice (An) (wn).length (cn)), (11, i64 ((Rn) : Int)), (46, .slice Aq lq cq), (47, i64 (lq : Int)), (48, i64 ((i + 1) : Int))]) ⟨rfl, rfl, rfl, rfl, rfl, (by rw [hwn, hAn, hcn]; first | rfl | (rw [List.length_append, List.length_singleton]; rfl)), (by rw [hRn]; rfl), rfl, rfl, rfl, trivial⟩ (by rw [hm0]; omega) ⟨i + 1, r70.2, O70, l70, wn, Rn, _, An, cn, rfl, rfl, by omega, by rw [hwn]; first | exact hlg70 | (rw [bts_snoc]; exact hlg70), by rw [hwn]; first | exact hg70 | (rw [bts_snoc]; exact hg70), by rw [hwn, hRn]; first | omega | (rw [bts_snoc, flatW_snoc, List.length_append, show (padW (bts z)).length = nd0 * 32 from hpad]; omega), by rw [hwn]; first | omega | (rw [List.length_append, List.length_singleton]; omega), hd26, hL29, hohL29_hd26, hohL29_hw, by rw [hwn, hAn, hcn]; first | exact hw | (rw [List.length_append, List.length_singleton]; exact hw), aphd26_hw, hq, hnib, HC⟩
    ·
      have c1 := of_decide_eq_false c1
      refine wc_exit ?_
      refine x_then_exit ?_
      refine x_then_exit ?_
      refine x_in_here ?_
      refine x_seq ?_
      refine wc_seq ?_
      refine wc_region ?_
      refine wl rfl rfl rfl (p_mv rfl) ?_
      refine wle rfl (e_call ent14 rfl rfl (open6_any hd26 (by omega) hnib (by omega)) ?_)
      rintro _ w21 ⟨O111, V111, A111, q111, c111, wa111, wb111, r111, hr111, rfl, hdn, hO111, hc, hza111, hzb111, hzc111, hok111, hbad111⟩
      refine ⟨_, rfl, ?_⟩
      have hzw21 := hc.size
      have HC := HC.trans hc (fun _ _ h => h) (fun k hk ht => absurd hk (by have := hd26.lo k ht; omega))
      have hq := hq.ch hc (fun k hk ht => by have h1 := hd26.lo k ht; first | (have h2 : k < w.heap.size := hk; omega) | (have h2 : k = 0 := hk; omega))
      have hnib := hnib.ch hc (fun k hk ht => by have h1 := hd26.lo k ht; first | (have h2 : k < w.heap.size := hk; omega) | (have h2 : k = 0 := hk; omega))
      have hltgL29 := hL29.lt
      have hL29 := hL29.ch hc (fun ht => hohL29_hd26 _ ht rfl)
      have hphw := hw.hi
      have hw := hw.other hc (fun k hk ht => aphd26_hw k ht hk)
      have hohL29_hd26 : ∀ k, O111 k → k ≠ gL29 := fun k h => (hO111 k h).elim (hohL29_hd26 k) (fun h => by omega)
      have aphd26_hw : ∀ k, O111 k → ¬ G k := fun k h1 h2 => (hO111 k h1).elim (fun h => aphd26_hw k h h2) (fun h => by have := hphw k h2; omega)
      have hd26 := hdn
      obtain ⟨hohS111_hd26, hS111, gL111, rfl, hgL111, hohL111_hd26, l111, hl111, hL111⟩ := hok111 (by rw [hr111, hlg.open])
      have hSl111 := hS111.len
      have hLl111 := hL111.lt
      have hrz111 := log_open hlg hr111
      obtain ⟨hg111, hq111⟩ := lg_open hlg hl111 hSl111
      subst hrz111
      rw [hlg.scan] at hS111
      have hq111b : q111 = ws.length := by rw [hq111, List.length_map]
      subst hq111b
      refine wl rfl rfl rfl (p_mv rfl) ?_
      refine wl rfl rfl rfl (p_ext rfl rfl) ?_
      refine wl rfl rfl rfl (p_ext rfl rfl) ?_
      refine wl rfl rfl rfl (p_ext rfl rfl) ?_
      refine wl rfl rfl rfl (p_as rfl) ?_
      refine wl rfl rfl rfl (p_as rfl) ?_
      refine wl rfl rfl rfl (p_as rfl) ?_
      refine wl_nil ?_
      refine x_seq ?_
      refine wc_seq ?_
      refine wc_seq ?_
      refine wc_region ?_
      refine wl rfl rfl rfl (p_mv rfl) ?_
      refine wl rfl rfl rfl (p_ne rfl rfl) ?_
      refine wl rfl rfl rfl (p_mv rfl) ?_
      refine wl_know (d := 117) (b' := false) rfl (rfl) ?_
      refine wl_g (gd_ rfl rfl rfl rfl rfl rfl) rfl rfl (p_mv rfl) ?_
      refine wl_g (gd_ rfl rfl rfl rfl rfl rfl) rfl rfl (p_lenS Tryd.underlying24 rfl) ?_
      refine wl_g (gd_ rfl rfl rfl rfl rfl rfl) rfl rfl (p_mv rfl) ?_
      refine wl_g (gd_ rfl rfl rfl rfl rfl rfl) rfl rfl (p_lenS Tryd.underlying29 rfl) ?_
      refine wl_g (gd_ rfl rfl rfl rfl rfl rfl) rfl rfl (p_ne rfl rfl) ?_
      refine wl rfl rfl rfl (p_pickF rfl rfl) ?_
      refine wl_nil ?_
      refine x_seq ?_
      refine wc_no rfl (decide_eq_false (by omega)) ?_
      refine wc_skip ?_
      refine x_seq ?_
      refine wc_seq ?_
      refine wc_seq ?_
      refine wc_region ?_
      refine wl rfl rfl rfl (p_mv rfl) ?_
      refine wl rfl rfl rfl (p_lenS Tryd.underlying29 rfl) ?_
      refine wl rfl rfl rfl (p_mv rfl) ?_
      refine wl_nil ?_
      refine x_seq ?_
      refine wc_block ?_
      refine wc_loop (e' := [(4, .bool false), (10, .slice Aw ws.length cw), (18, .slice A111 ws.length c111), (125, i64 (ws.length : Int)), (126, i64 ((0) : Int))]) (fun mz ez uz => ∃ j : Nat, mz = ws.length - j ∧ ez = [(4, .bool false), (10, .slice Aw ws.length cw), (18, .slice A111 ws.length c111), (125, i64 (ws.length : Int)), (126, i64 (j : Int))] ∧ (j ≤ ws.length) ∧ (SB uz (fun k => wa111.heap.size ≤ k ∧ k < wb111.heap.size) A111 ws.length c111 (ws.map bts)) ∧ (CR w uz G 9 (.slice Aw ws.length cw) ws.length (ws.map Value.string)) ∧ (Sl uz (fun k => k = 0) u32v (some ⟨0, 0, none⟩) 16 16 nib) ∧ (Ch No w uz))
        ⟨rfl, rfl, rfl, rfl, rfl, trivial⟩ ⟨0, rfl, rfl, by omega, hS111, hw, hnib, HC⟩ ?_
      rintro m1 e w22 ⟨j, hm1, rfl, hj, hS111, hw, hnib, HC⟩
      have hzw22 := HC.size
      refine wc_seq ?_
      refine wc_region ?_
      refine wl rfl rfl rfl (p_lt rfl rfl) ?_
      refine wl_nil ?_
      refine x_seq ?_
      refine wc_seq ?_
      refine wc_if rfl (fun c8 => ?_) (fun c8 => ?_)
      ·
        have c8 := of_decide_eq_true c8
        have hbj := bts_getD (ws := ws) (j := j) (by omega)
        refine wc_skip ?_
        refine x_seq ?_
        refine wc_seq ?_
        refine wc_block ?_
        refine wc_seq ?_
        refine wc_region ?_
        refine wl rfl rfl rfl (p_mv rfl) ?_
        refine wl rfl rfl rfl (p_as rfl) ?_
        refine wl_nil ?_
        refine x_seq ?_
        refine wc_seq ?_
        refine wc_draw (.st 0 0 (.st 1 0 (.st 2 0 (.st 3 1 (.st 4 1 (.st 5 0 (.st 6 0 (.st 7 0 (.st 8 1 (.st 9 0 .nil)))))))))) 10 (by kernel_rfl) (by kernel_rfl) (by kernel_rfl) (by repeat (first | with_reducible exact pan_body | with_reducible apply pan_then | with_reducible apply pan_in)) (fun x => Ch No w22.drew x) (Ch.refl _ _) ?_
        obtain ⟨w23, ew23⟩ : ∃ x, x = w22.drew := ⟨_, rfl⟩
        rw [← ew23]
        have hc : Ch No w22 w23 := by rw [ew23]; exact Ch.drew _
        have hszw23 : w23.heap.size = w22.heap.size := by rw [ew23]; rfl
        clear ew23
        have hzw23 := hc.size
        have HC := HC.tr hc
        have hS111 := hS111.no hc
        have hphw := hw.hi
        have hw := hw.no hc
        have hnib := hnib.no hc
        have hS : Ch No w23 w23 := Ch.refl _ _
        refine ws_p rfl rfl rfl rfl (p_mv rfl) ?_
        refine ws_p rfl rfl rfl rfl (p_mv rfl) ?_
        obtain ⟨b24, o24, hA24, hF24, hc24⟩ := hS111.opn (by omega)
        obtain ⟨SA131, sl131, sc131, hcc24, hS131⟩ := hc24 j (by omega)
        have hSl131 := hS131.len
        refine ws_p rfl rfl rfl rfl (p_ixS1 (j := j) Tryd.underlying24 sz22 rfl hA24 rfl (by omega) (by omega) (Int.toNat_natCast _)) ?_
        refine ws_h rfl rfl rfl rfl (p_ld Tryd.underlying22 rfl rfl (fun _ h => h.cell (fun h => h) (hcc24))) ?_
        refine ws_h rfl rfl rfl rfl (p_bts Tryd.underlying22 Tryd.underlying5 Tryd.underlying9 rfl (hS131).len (fun _ h => (hS131).rd.no h)) ?_
        refine ws_p rfl rfl rfl rfl (p_mv rfl) ?_
        refine ws_p rfl rfl rfl rfl (p_mv rfl) ?_
        obtain ⟨b25, o25, hA25, hF25, hc25⟩ := (hw.at_.sl).opn (d := ByteArray.empty) (by omega)
        refine ws_p rfl rfl rfl rfl (p_ixS1 Tryd.underlying29 sz9 rfl hA25 rfl (by omega) (by omega) (Int.toNat_natCast _)) ?_
        refine ws_h rfl rfl rfl rfl (p_ld Tryd.underlying9 rfl rfl (fun _ h => h.cell (fun h => h) (hc25 _ (by omega)))) ?_
        refine ws_p rfl rfl rfl rfl (p_neT rfl rfl) ?_
        refine ws_n ?_
        refine x_seq ?_
        refine wc_no rfl (by rw [hbj]; exact bts_str _) ?_
        refine wc_skip ?_
        refine x_in_normal ?_
        refine x_seq ?_
        refine wc_region ?_
        refine wl rfl rfl rfl (p_add rfl rfl (w64 (by omega))) ?_
        refine wl rfl rfl rfl (p_mv rfl) ?_
        refine wl_nil ?_
        refine x_round (e' := [(4, .bool false), (10, .slice Aw ws.length cw), (18, .slice A111 ws.length c111), (125, i64 (ws.length : Int)), (126, i64 ((j + 1) : Int))]) ⟨rfl, rfl, rfl, rfl, rfl, trivial⟩ (by rw [hm1]; omega) ⟨j + 1, rfl, rfl, by omega, hS111, hw, hnib, HC⟩
      ·
        have c8 := of_decide_eq_false c8
        refine wc_exit ?_
        refine x_then_exit ?_
        refine x_then_exit ?_
        refine x_in_here ?_
        refine x_seq ?_
        refine wc_seq ?_
        refine wc_region ?_
        refine wle rfl (e_call ent9 rfl rfl (lives6_any hnib) ?_)
        rintro _ w26 ⟨rfl, hc⟩
        refine ⟨_, rfl, ?_⟩
        have hzw26 := hc.size
        have HC := HC.tr hc
        have hS111 := hS111.no hc
        have hphw := hw.hi
        have hw := hw.no hc
        have hnib := hnib.no hc
        refine wl rfl rfl rfl (p_as rfl) ?_
        refine wl_nil ?_
        refine x_seq ?_
        refine wc_ret ?_
        refine fin_run (res1 rfl rfl) ?_
        exact ⟨rfl, HC⟩
end Go.Proofs.YtcgapjieidmkpaaDoor
