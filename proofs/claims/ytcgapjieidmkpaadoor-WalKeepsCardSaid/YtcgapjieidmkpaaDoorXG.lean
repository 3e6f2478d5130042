/-
  Own text, printed by a program of mine (wip/gx): what functions of the program do, walked operation by operation.
-/
import Derived.Test.YtcgapjieidmkpaaDoorProg
import Derived.Test.YtcgapjieidmkpaaDoorGxAgg
import Derived.Test.YtcgapjieidmkpaaDoorTab
import Derived.Test.YtcgapjieidmkpaaDoorGxZer
import Derived.Test.YtcgapjieidmkpaaDoorPlDisk
import Derived.Test.YtcgapjieidmkpaaDoorPlDiskSt
import Derived.Test.YtcgapjieidmkpaaDoorPlDiskOk
import Derived.Test.YtcgapjieidmkpaaDoorPlDiskC
import Derived.Test.YtcgapjieidmkpaaDoorPlDiskLaw
import Derived.Test.YtcgapjieidmkpaaDoorPlActD
import Derived.Test.YtcgapjieidmkpaaDoorPlActs
import Derived.Test.YtcgapjieidmkpaaDoorPlWal
import Derived.Test.YtcgapjieidmkpaaDoorPlWalSt
import Derived.Test.YtcgapjieidmkpaaDoorPlWalLaw
import Derived.Test.YtcgapjieidmkpaaDoorPlWalKeep
import Derived.Test.YtcgapjieidmkpaaDoorDTd
import Derived.Test.YtcgapjieidmkpaaDoorVD
import Derived.Test.YtcgapjieidmkpaaDoorXW
import Derived.Test.YtcgapjieidmkpaaDoorXG0
set_option linter.unusedVariables false
namespace Go.Proofs.YtcgapjieidmkpaaDoor
open Go.RowKit Go.Gx
open Go.Plain
set_option maxHeartbeats 16000000 in
set_option maxRecDepth 20000 in
theorem walKeeps_walk {w : World} {Aq : Option Addr} {lq cq : Nat} {Fq : Nat → Prop} {q : List ActD} {au : ActD} {bAu kAu : Option Addr} {blu bcu klu kcu : Nat} {FBu FKu : Nat → Prop} {av : ActD} {bAv kAv : Option Addr} {blv bcv klv kcv : Nat} {FBv FKv : Nat → Prop} (hq : SA w Fq Aq lq cq q) (hBu : Sl w FBu u8v bAu blu bcu au.b) (hKu : Sl w FKu i64 kAu klu kcu au.keep) (hBv : Sl w FBv u8v bAv blv bcv av.b) (hKv : Sl w FKv i64 kAv klv kcv av.keep) (hcq : cq ≤ 1954687338211) (hbzu : bcu ≤ 140737488351232) (hkzu : kcu ≤ 17592186044416) (h1au : -9223372036854775808 ≤ au.a) (h2au : au.a ≤ 9223372036854775807) (h1nu : -9223372036854775808 ≤ au.n) (h2nu : au.n ≤ 9223372036854775807) (hbzv : bcv ≤ 140737488351232) (hkzv : kcv ≤ 17592186044416) (h1av : -9223372036854775808 ≤ av.a) (h2av : av.a ≤ 9223372036854775807) (h1nv : -9223372036854775808 ≤ av.n) (h2nv : av.n ≤ 9223372036854775807) (hnib : Sl w (fun k => k = 0) u32v (some ⟨0, 0, none⟩) 16 16 nib) :
    Calls Tryd.prog 8 #[.slice Aq lq cq, .agg #[i64 au.kind, i64 au.a, i64 au.n, .slice bAu blu bcu, .slice kAu klu kcu], .agg #[i64 av.kind, i64 av.a, i64 av.n, .slice bAv blv bcv, .slice kAv klv kcv]] w fun e w' => e = .returned (.bool true) ∧ Ch No w w' := by
  have hbz : 0 < w.heap.size := hnib.size (by omega) rfl
  have hql := hq.len
  have hqc := hq.cap
  have hq := hq.old
  have hBu := hBu.old
  have hKu := hKu.old
  have hBv := hBv.old
  have hKv := hKv.old
  have HC : Ch No w w := Ch.refl _ _
  refine enter' (args := [.slice Aq lq cq, .agg #[i64 au.kind, i64 au.a, i64 au.n, .slice bAu blu bcu, .slice kAu klu kcu], .agg #[i64 av.kind, i64 av.a, i64 av.n, .slice bAv blv bcv, .slice kAv klv kcv]]) (n := 178) Tryd.func8 rfl rfl rfl ?_
  refine wc_seq ?_
  refine wc_region ?_
  refine wle rfl (e_box (cs := #[i64 au.kind, i64 au.a, i64 au.n, .slice bAu blu bcu, .slice kAu klu kcu]) rfl rfl rfl (fun w1 g4 hg4 hb4 hc hsz4 => ?_))
  have hzw1 := hc.size
  have HC := HC.tr hc
  have hq := hq.no hc
  have hBu := hBu.no hc
  have hKu := hKu.no hc
  have hBv := hBv.no hc
  have hKv := hKv.no hc
  have hnib := hnib.no hc
  have hge4 : w.heap.size ≤ g4 := by have := HC.size; omega
  have hltg4 := hb4.lt
  refine wle rfl (e_box (cs := #[i64 av.kind, i64 av.a, i64 av.n, .slice bAv blv bcv, .slice kAv klv kcv]) rfl rfl rfl (fun w2 g5 hg5 hb5 hc hsz5 => ?_))
  have hzw2 := hc.size
  have HC := HC.tr hc
  have hq := hq.no hc
  have hBu := hBu.no hc
  have hKu := hKu.no hc
  have hBv := hBv.no hc
  have hKv := hKv.no hc
  have hnib := hnib.no hc
  have hb4 := hb4.ch hc (fun h => h)
  have hge5 : w.heap.size ≤ g5 := by have := HC.size; omega
  have neg4_5 : g4 < g5 := by omega
  refine wl rfl rfl rfl (p_as rfl) ?_
  refine wl_nil ?_
  refine x_seq ?_
  refine wc_seq ?_
  refine wc_region ?_
  refine wle rfl (e_call ent13 rfl rfl (new_any (n := 60) (by omega) (by omega)) ?_)
  rintro _ w3 ⟨g23, rfl, hg23, hdk, hc⟩
  refine ⟨_, rfl, ?_⟩
  have hzw3 := hc.size
  have HC := HC.tr hc
  have hq := hq.no hc
  have hBu := hBu.no hc
  have hKu := hKu.no hc
  have hBv := hBv.no hc
  have hKv := hKv.no hc
  have hnib := hnib.no hc
  have hb4 := hb4.ch hc (fun h => h)
  have hb5 := hb5.ch hc (fun h => h)
  obtain ⟨O23, hd23, hOl23⟩ := CD.first (w0 := w) hdk (newD_ok _) (by omega) (Nat.zero_le _) (Nat.zero_le _) (by omega)
  have hohb4_hd23 : ∀ k, O23 k → k ≠ g4 := fun k h e => by have := hOl23 k h; have := hb4.lt; omega
  have hohb5_hd23 : ∀ k, O23 k → k ≠ g5 := fun k h e => by have := hOl23 k h; have := hb5.lt; omega
  refine wl rfl rfl rfl (p_as rfl) ?_
  refine wl_nil ?_
  refine x_seq ?_
  refine wc_seq ?_
  refine wc_region ?_
  refine wl rfl rfl rfl (p_mv rfl) ?_
  refine wle rfl (e_call ent14 rfl rfl (open6_any hd23 (by omega) hnib (by omega)) ?_)
  rintro _ w4 ⟨O26, V26, A26, q26, c26, wa26, wb26, r26, hr26, rfl, hdn, hO26, hc, hza26, hzb26, hzc26, hok26, hbad26⟩
  refine ⟨_, rfl, ?_⟩
  have hzw4 := hc.size
  have HC := HC.trans hc (fun _ _ h => h) (fun k hk ht => absurd hk (by have := hd23.lo k ht; omega))
  have hq := hq.ch hc (fun k hk ht => by have h1 := hd23.lo k ht; have h2 : k < w.heap.size := hk; omega)
  have hBu := hBu.ch hc (fun k hk ht => by have h1 := hd23.lo k ht; first | (have h2 : k < w.heap.size := hk; omega) | (have h2 : k = 0 := hk; omega))
  have hKu := hKu.ch hc (fun k hk ht => by have h1 := hd23.lo k ht; first | (have h2 : k < w.heap.size := hk; omega) | (have h2 : k = 0 := hk; omega))
  have hBv := hBv.ch hc (fun k hk ht => by have h1 := hd23.lo k ht; first | (have h2 : k < w.heap.size := hk; omega) | (have h2 : k = 0 := hk; omega))
  have hKv := hKv.ch hc (fun k hk ht => by have h1 := hd23.lo k ht; first | (have h2 : k < w.heap.size := hk; omega) | (have h2 : k = 0 := hk; omega))
  have hnib := hnib.ch hc (fun k hk ht => by have h1 := hd23.lo k ht; first | (have h2 : k < w.heap.size := hk; omega) | (have h2 : k = 0 := hk; omega))
  have hltg4 := hb4.lt
  have hb4 := hb4.ch hc (fun ht => hohb4_hd23 _ ht rfl)
  have hltg5 := hb5.lt
  have hb5 := hb5.ch hc (fun ht => hohb5_hd23 _ ht rfl)
  have hohb4_hd23 : ∀ k, O26 k → k ≠ g4 := fun k h => (hO26 k h).elim (hohb4_hd23 k) (fun h => by omega)
  have hohb5_hd23 : ∀ k, O26 k → k ≠ g5 := fun k h => (hO26 k h).elim (hohb5_hd23 k) (fun h => by omega)
  have hd23 := hdn
  obtain ⟨hohS26_hd23, hS26, gL26, rfl, hgL26, hohL26_hd23, l26, hl26, hL26⟩ := hok26 (by rw [hr26, (log_new 60).open])
  have hSl26 := hS26.len
  have hLl26 := hL26.lt
  have hrz26 := log_open (log_new 60) hr26
  obtain ⟨hg26, hq26⟩ := lg_open (log_new 60) hl26 hSl26
  subst hrz26
  rw [(log_new 60).scan] at hS26
  have hkl26 := KL.new 60 hg26
  refine wl rfl rfl rfl (p_mv rfl) ?_
  refine wl rfl rfl rfl (p_ext rfl rfl) ?_
  refine wl rfl rfl rfl (p_ext rfl rfl) ?_
  refine wl rfl rfl rfl (p_ext rfl rfl) ?_
  refine wl rfl rfl rfl (p_as rfl) ?_
  refine wl rfl rfl rfl (p_as rfl) ?_
  refine wl rfl rfl rfl (p_as rfl) ?_
  refine wl_nil ?_
  refine x_seq ?_
  refine wc_seq ?_
  refine wc_seq ?_
  refine wc_region ?_
  refine wl rfl rfl rfl (p_mv rfl) ?_
  refine wl rfl rfl rfl (p_eqPN rfl rfl Tryd.underlying31) ?_
  refine wl rfl rfl rfl (p_mv rfl) ?_
  refine wl_g (gd_ rfl rfl rfl rfl rfl rfl) rfl rfl (p_mv rfl) ?_
  refine wl_g (gd_ rfl rfl rfl rfl rfl rfl) rfl rfl (p_ne rfl rfl) ?_
  refine wl rfl rfl rfl (p_pickF rfl rfl) ?_
  refine wl rfl rfl rfl (p_mv rfl) ?_
  refine wl_know (d := 36) (b' := false) rfl (rfl) ?_
  refine wl_g (gd_ rfl rfl rfl rfl rfl rfl) rfl rfl (p_mv rfl) ?_
  refine wle_g (gd_ rfl rfl rfl rfl rfl rfl) (e_call ent20 rfl rfl (light6_any hq (by omega)) ?_)
  rintro _ w5 ⟨y38, rfl, hc⟩
  refine ⟨_, rfl, ?_⟩
  have hzw5 := hc.size
  have HC := HC.tr hc
  have hq := hq.no hc
  have hBu := hBu.no hc
  have hKu := hKu.no hc
  have hBv := hBv.no hc
  have hKv := hKv.no hc
  have hnib := hnib.no hc
  have hb4 := hb4.ch hc (fun h => h)
  have hb5 := hb5.ch hc (fun h => h)
  have hphd23 := hd23.hi
  have hd23 := hd23.no hc
  have hS26 := hS26.no hc
  have hL26 := hL26.ch hc (fun h => h)
  refine wl_g (gd_ rfl rfl rfl rfl rfl rfl) rfl rfl (p_not rfl) ?_
  refine wl rfl rfl rfl (p_pickF rfl rfl) ?_
  refine wl rfl rfl rfl (p_mv rfl) ?_
  refine wl_split (d := 41) rfl (fun q41 => ?_) (fun q41 => ?_)
  ·
    refine wl_s (gd_ rfl rfl rfl rfl rfl rfl) rfl rfl ?_
    refine wl_s (gd_ rfl rfl rfl rfl rfl rfl) rfl rfl ?_
    refine wl_s (gd_ rfl rfl rfl rfl rfl rfl) rfl rfl ?_
    refine wl_s (gd_ rfl rfl rfl rfl rfl rfl) rfl rfl ?_
    refine wl_s (gd_ rfl rfl rfl rfl rfl rfl) rfl rfl ?_
    refine wl rfl rfl rfl (p_pickT rfl rfl) ?_
    refine wl_nil ?_
    refine x_seq ?_
    refine wc_yes rfl (rfl) ?_
    refine wc_seq ?_
    refine wc_region ?_
    refine wl rfl rfl rfl (p_mv rfl) ?_
    refine wl rfl rfl rfl (p_nePN rfl rfl Tryd.underlying31) ?_
    refine wl rfl rfl rfl (p_mv rfl) ?_
    refine wl_g (gd_ rfl rfl rfl rfl rfl rfl) rfl rfl (p_mv rfl) ?_
    refine wl_g (gd_ rfl rfl rfl rfl rfl rfl) rfl rfl (p_eq rfl rfl) ?_
    refine wl rfl rfl rfl (p_pickT rfl rfl) ?_
    refine wl rfl rfl rfl (p_mv rfl) ?_
    refine wl_know (d := 54) (b' := true) rfl (rfl) ?_
    refine wle_g (gd_ rfl rfl rfl rfl rfl rfl) (e_call ent9 rfl rfl (lives6_any hnib) ?_)
    rintro _ w6 ⟨rfl, hc⟩
    refine ⟨_, rfl, ?_⟩
    have hzw6 := hc.size
    have HC := HC.tr hc
    have hq := hq.no hc
    have hBu := hBu.no hc
    have hKu := hKu.no hc
    have hBv := hBv.no hc
    have hKv := hKv.no hc
    have hnib := hnib.no hc
    have hb4 := hb4.ch hc (fun h => h)
    have hb5 := hb5.ch hc (fun h => h)
    have hphd23 := hd23.hi
    have hd23 := hd23.no hc
    have hS26 := hS26.no hc
    have hL26 := hL26.ch hc (fun h => h)
    refine wl rfl rfl rfl (p_pickT rfl rfl) ?_
    refine wl rfl rfl rfl (p_as rfl) ?_
    refine wl_nil ?_
    refine x_seq ?_
    refine wc_ret ?_
    refine x_then_ret ?_
    refine fin_run (res1 rfl rfl) ?_
    exact ⟨rfl, HC⟩
  ·
    refine wl_g (gd_ rfl rfl rfl rfl rfl rfl) rfl rfl (p_ldA (cs := [i64 au.kind, i64 au.a, i64 au.n, .slice bAu blu bcu, .slice kAu klu kcu]) Tryd.underlying53 rfl sz53 rfl (fun _ e => e ▸ rngL hb4)) ?_
    refine wl_g (gd_ rfl rfl rfl rfl rfl rfl) rfl rfl (p_ldA (cs := [i64 av.kind, i64 av.a, i64 av.n, .slice bAv blv bcv, .slice kAv klv kcv]) Tryd.underlying53 rfl sz53 rfl (fun _ e => e ▸ rngL hb5)) ?_
    have hltg4 := hb4.lt
    have hltg5 := hb5.lt
    have hltgL26 := hL26.lt
    refine wle_g (gd_ rfl rfl rfl rfl rfl rfl) (e_bslC (E := 53) rfl rfl (fun _ => by kernel_rfl) (fun w7 g44 hg44 hb44 hc hsz44 => ?_))
    have hzw7 := hc.size
    have HC := HC.tr hc
    have hq := hq.no hc
    have hBu := hBu.no hc
    have hKu := hKu.no hc
    have hBv := hBv.no hc
    have hKv := hKv.no hc
    have hnib := hnib.no hc
    have hb4 := hb4.ch hc (fun h => h)
    have hb5 := hb5.ch hc (fun h => h)
    have hphd23 := hd23.hi
    have hd23 := hd23.no hc
    have hS26 := hS26.no hc
    have hL26 := hL26.ch hc (fun h => h)
    have hQ44 := SA.two (r := ⟨au.kind, au.a, au.n, bAu, blu, bcu, kAu, klu, kcu⟩) (s := ⟨av.kind, av.a, av.n, bAv, blv, bcv, kAv, klv, kcv⟩) (a := au) (b := av) hb44 ⟨rfl, rfl, rfl, hBu, hKu, hbzu, hkzu, h1au, h2au, h1nu, h2nu⟩ ⟨rfl, rfl, rfl, hBv, hKv, hbzv, hkzv, h1av, h2av, h1nv, h2nv⟩
    refine wle_g (gd_ rfl rfl rfl rfl rfl rfl) (e_call ent20 rfl rfl (light6_any hQ44 (by omega)) ?_)
    rintro _ w8 ⟨y45, rfl, hc⟩
    refine ⟨_, rfl, ?_⟩
    have hzw8 := hc.size
    have HC := HC.tr hc
    have hq := hq.no hc
    have hBu := hBu.no hc
    have hKu := hKu.no hc
    have hBv := hBv.no hc
    have hKv := hKv.no hc
    have hnib := hnib.no hc
    have hb4 := hb4.ch hc (fun h => h)
    have hb5 := hb5.ch hc (fun h => h)
    have hphd23 := hd23.hi
    have hd23 := hd23.no hc
    have hS26 := hS26.no hc
    have hL26 := hL26.ch hc (fun h => h)
    refine wl_g (gd_ rfl rfl rfl rfl rfl rfl) rfl rfl (p_not rfl) ?_
    refine wl rfl rfl rfl (p_pickF rfl rfl) ?_
    refine wl_nil ?_
    refine x_seq ?_
    refine wc_if rfl (fun c0 => ?_) (fun c0 => ?_)
    ·
      refine wc_seq ?_
      refine wc_region ?_
      refine wl rfl rfl rfl (p_mv rfl) ?_
      refine wl rfl rfl rfl (p_nePN rfl rfl Tryd.underlying31) ?_
      refine wl rfl rfl rfl (p_mv rfl) ?_
      refine wl_g (gd_ rfl rfl rfl rfl rfl rfl) rfl rfl (p_mv rfl) ?_
      refine wl_g (gd_ rfl rfl rfl rfl rfl rfl) rfl rfl (p_eq rfl rfl) ?_
      refine wl rfl rfl rfl (p_pickT rfl rfl) ?_
      refine wl rfl rfl rfl (p_mv rfl) ?_
      refine wl_know (d := 54) (b' := true) rfl (rfl) ?_
      refine wle_g (gd_ rfl rfl rfl rfl rfl rfl) (e_call ent9 rfl rfl (lives6_any hnib) ?_)
      rintro _ w9 ⟨rfl, hc⟩
      refine ⟨_, rfl, ?_⟩
      have hzw9 := hc.size
      have HC := HC.tr hc
      have hq := hq.no hc
      have hBu := hBu.no hc
      have hKu := hKu.no hc
      have hBv := hBv.no hc
      have hKv := hKv.no hc
      have hnib := hnib.no hc
      have hb4 := hb4.ch hc (fun h => h)
      have hb5 := hb5.ch hc (fun h => h)
      have hphd23 := hd23.hi
      have hd23 := hd23.no hc
      have hS26 := hS26.no hc
      have hL26 := hL26.ch hc (fun h => h)
      refine wl rfl rfl rfl (p_pickT rfl rfl) ?_
      refine wl rfl rfl rfl (p_as rfl) ?_
      refine wl_nil ?_
      refine x_seq ?_
      refine wc_ret ?_
      refine x_then_ret ?_
      refine fin_run (res1 rfl rfl) ?_
      exact ⟨rfl, HC⟩
    ·
      refine wc_skip ?_
      refine x_seq ?_
      refine wc_seq ?_
      refine wc_region ?_
      refine wl rfl rfl rfl (p_as rfl) ?_
      refine wl_nil ?_
      refine x_seq ?_
      refine wc_seq ?_
      refine wc_seq ?_
      refine wc_region ?_
      refine wl rfl rfl rfl (p_mv rfl) ?_
      refine wl rfl rfl rfl (p_lenS Tryd.underlying51 rfl) ?_
      refine wl rfl rfl rfl (p_mv rfl) ?_
      refine wl_nil ?_
      refine x_seq ?_
      refine wc_block ?_
      have hw := CR.nil w w8 9
      have aphd23_hw : ∀ k, O26 k → ¬ (fun _ : Nat => False) k := fun k _ h => h
      have hohL26_hw : ∀ k, (fun _ : Nat => False) k → k ≠ gL26 := fun k h => h.elim
      have hohb4_hw : ∀ k, (fun _ : Nat => False) k → k ≠ g4 := fun k h => h.elim
      have hohb5_hw : ∀ k, (fun _ : Nat => False) k → k ≠ g5 := fun k h => h.elim
      refine wc_loop (e' := [(4, .pointer (some ⟨g4, 0, none⟩)), (5, .pointer (some ⟨g5, 0, none⟩)), (6, .bool false), (7, .pointer (some ⟨g23, 0, none⟩)), (8, .pointer (some ⟨gL26, 0, none⟩)), (11, .slice (none) ([]).length (0)), (57, .slice Aq lq cq), (58, i64 (lq : Int)), (59, i64 ((0) : Int))]) (fun mz ez uz => ∃ i : Nat, ∃ dd : DS, ∃ O1 : Nat → Prop, ∃ l1 : LS, ∃ xs : List (List UInt8), ∃ G : Nat → Prop, ∃ Aw : Option Addr, ∃ cw : Nat, mz = lq - i ∧ ez = [(4, .pointer (some ⟨g4, 0, none⟩)), (5, .pointer (some ⟨g5, 0, none⟩)), (6, .bool false), (7, .pointer (some ⟨g23, 0, none⟩)), (8, .pointer (some ⟨gL26, 0, none⟩)), (11, .slice Aw xs.length cw), (57, .slice Aq lq cq), (58, i64 (lq : Int)), (59, i64 (i : Int))] ∧ (i ≤ lq) ∧ (KL 60 dd xs l1) ∧ (CD TD w uz O1 g23 60 dd) ∧ (Blk uz gL26 42 #[.pointer (some ⟨g23, 0, none⟩), i64 (l1.e : Int), i64 (l1.c : Int), i64 (l1.s : Int)]) ∧ (∀ k, O1 k → k ≠ gL26) ∧ (∀ k, G k → k ≠ gL26) ∧ (CR w uz G 9 (.slice Aw xs.length cw) xs.length (xs.map strV)) ∧ (∀ k, O1 k → ¬ G k) ∧ (Blk uz g4 53 #[i64 au.kind, i64 au.a, i64 au.n, .slice bAu blu bcu, .slice kAu klu kcu]) ∧ (Blk uz g5 53 #[i64 av.kind, i64 av.a, i64 av.n, .slice bAv blv bcv, .slice kAv klv kcv]) ∧ (∀ k, O1 k → k ≠ g4) ∧ (∀ k, O1 k → k ≠ g5) ∧ (∀ k, G k → k ≠ g4) ∧ (∀ k, G k → k ≠ g5) ∧ (SA uz (fun k => k < w.heap.size) Aq lq cq q) ∧ (Sl uz (fun k => k < w.heap.size) u8v bAu blu bcu au.b) ∧ (Sl uz (fun k => k < w.heap.size) i64 kAu klu kcu au.keep) ∧ (Sl uz (fun k => k < w.heap.size) u8v bAv blv bcv av.b) ∧ (Sl uz (fun k => k < w.heap.size) i64 kAv klv kcv av.keep) ∧ (Sl uz (fun k => k = 0) u32v (some ⟨0, 0, none⟩) 16 16 nib) ∧ (Ch No w uz))
        ⟨rfl, rfl, rfl, rfl, rfl, rfl, rfl, rfl, rfl, trivial⟩ ⟨0, newD 60, O26, l26, [], _, none, 0, rfl, rfl, by omega, hkl26, hd23, hL26, hohL26_hd23, hohL26_hw, hw, aphd23_hw, hb4, hb5, hohb4_hd23, hohb5_hd23, hohb4_hw, hohb5_hw, hq, hBu, hKu, hBv, hKv, hnib, HC⟩ ?_
      rintro m0 e w10 ⟨i, dd, O1, l1, xs, G, Aw, cw, hm0, rfl, hi, hkl, hd23, hL26, hohL26_hd23, hohL26_hw, hw, aphd23_hw, hb4, hb5, hohb4_hd23, hohb5_hd23, hohb4_hw, hohb5_hw, hq, hBu, hKu, hBv, hKv, hnib, HC⟩
      have hzw10 := HC.size
      refine wc_seq ?_
      refine wc_region ?_
      refine wl rfl rfl rfl (p_lt rfl rfl) ?_
      refine wl_nil ?_
      refine x_seq ?_
      refine wc_seq ?_
      refine wc_if rfl (fun c1 => ?_) (fun c1 => ?_)
      ·
        have c1 := of_decide_eq_true c1
        refine wc_skip ?_
        refine x_seq ?_
        refine wc_seq ?_
        refine wc_block ?_
        refine wc_seq ?_
        refine wc_region ?_
        obtain ⟨a61, ha61, b61, o61, bA61, bl61, bc61, kA61, kl61, kc61, hA61, hr61, hB61, hK61, hbz61, hkz61, h1a61, h2a61, h1n61, h2n61⟩ := hq.opn5 (i := i) (by omega)
        have hBl61 := hB61.len
        have hBc61 := hB61.cap
        have hKl61 := hK61.len
        have hKc61 := hK61.cap
        refine wl rfl rfl rfl (p_ixS (j := i * 5) Tryd.underlying51 sz53 rfl hA61 rfl (by omega) (by omega) (congrArg (· * 5) (Int.toNat_natCast _))) ?_
        refine wl rfl rfl rfl (p_ldA (cs := [i64 a61.kind, i64 a61.a, i64 a61.n, .slice bA61 bl61 bc61, .slice kA61 kl61 kc61]) Tryd.underlying53 rfl sz53 rfl (fun _ e => e ▸ hr61)) ?_
        have hltgL26 := hL26.lt
        have hltg4 := hb4.lt
        have hltg5 := hb5.lt
        refine wle rfl (e_alloc (cs := #[.int .i64 0, .int .i64 0, .int .i64 0, .slice none 0 0, .slice none 0 0]) rfl (by rfl) rfl (fun w12 g13 hg13 hb13 hc hsz13 => ?_))
        have hzw12 := hc.size
        have HC := HC.tr hc
        have hq := hq.no hc
        have hnib := hnib.no hc
        have hphd23 := hd23.hi
        have hd23 := hd23.no hc
        have hL26 := hL26.ch hc (fun h => h)
        have hphw := hw.hi
        have hw := hw.no hc
        have hb4 := hb4.ch hc (fun h => h)
        have hb5 := hb5.ch hc (fun h => h)
        have hBu := hBu.no hc
        have hKu := hKu.no hc
        have hBv := hBv.no hc
        have hKv := hKv.no hc
        have hB61 := hB61.no hc
        have hK61 := hK61.no hc
        have hohb13_hd23 : ∀ k, O1 k → k ≠ g13 := fun k h e => by have := hphd23 k h; omega
        have hohb13_hw : ∀ k, G k → k ≠ g13 := fun k h e => by have := hphw k h; omega
        have hge13 : w.heap.size ≤ g13 := by have := HC.size; omega
        have negL26_13 : gL26 < g13 := by omega
        have neg4_13 : g4 < g13 := by omega
        have neg5_13 : g5 < g13 := by omega
        refine wle rfl (e_stW (vs := [i64 a61.kind, i64 a61.a, i64 a61.n, .slice bA61 bl61 bc61, .slice kA61 kl61 kc61]) sz53 (allOne rfl) rfl rfl hb13 (by rfl) (fun w13 hb13 hc hsz => ?_))
        have hzw13 := hc.size
        have HC := HC.trans hc (fun _ _ h => h) (fun k hk ht => absurd ht (by omega))
        have hq := hq.ch hc (by intro k hk ht; have h2 : k < w.heap.size := hk; first | omega | (dsimp only at *; omega))
        first | have hnib := hnib.ch hc (by intro k hk ht; first | omega | (dsimp only at *; omega)) | have hnib := hnib.chT hc (by intro k hz hk ht; first | omega | (dsimp only at *; omega))
        have hd23 := hd23.other hc (fun k hk ht => by have h1 := hohb13_hd23 k hk; have h2 : k = g13 := ht; omega)
        have hL26 := hL26.ch hc (by omega)
        have hw := hw.other hc (fun k hk ht => by have h1 := hohb13_hw k hk; have h2 : k = g13 := ht; omega)
        have hb4 := hb4.ch hc (by omega)
        have hb5 := hb5.ch hc (by omega)
        first | have hBu := hBu.ch hc (by intro k hk ht; first | omega | (dsimp only at *; omega)) | have hBu := hBu.chT hc (by intro k hz hk ht; first | omega | (dsimp only at *; omega))
        first | have hKu := hKu.ch hc (by intro k hk ht; first | omega | (dsimp only at *; omega)) | have hKu := hKu.chT hc (by intro k hz hk ht; first | omega | (dsimp only at *; omega))
        first | have hBv := hBv.ch hc (by intro k hk ht; first | omega | (dsimp only at *; omega)) | have hBv := hBv.chT hc (by intro k hz hk ht; first | omega | (dsimp only at *; omega))
        first | have hKv := hKv.ch hc (by intro k hk ht; first | omega | (dsimp only at *; omega)) | have hKv := hKv.chT hc (by intro k hz hk ht; first | omega | (dsimp only at *; omega))
        first | have hB61 := hB61.ch hc (by intro k hk ht; first | omega | (dsimp only at *; omega)) | have hB61 := hB61.chT hc (by intro k hz hk ht; first | omega | (dsimp only at *; omega))
        first | have hK61 := hK61.ch hc (by intro k hk ht; first | omega | (dsimp only at *; omega)) | have hK61 := hK61.chT hc (by intro k hz hk ht; first | omega | (dsimp only at *; omega))
        refine wl_nil ?_
        refine x_seq ?_
        refine wc_seq ?_
        refine wc_seq ?_
        refine wc_region ?_
        refine wl rfl rfl rfl (p_fld (j := 3) Tryd.underlying53 rfl ⟨_, by rfl⟩ rfl rfl) ?_
        refine wl rfl rfl rfl (p_ld Tryd.underlying22 rfl rfl (ld (hb13.cell rfl))) ?_
        refine wl rfl rfl rfl (p_lenS Tryd.underlying22 rfl) ?_
        refine wl rfl rfl rfl (p_gt rfl rfl) ?_
        refine wl rfl rfl rfl (p_mv rfl) ?_
        refine wl_split (d := 67) rfl (fun q67 => ?_) (fun q67 => ?_)
        ·
          have q67 := of_decide_eq_true q67
          refine wl_s (gd_ rfl rfl rfl rfl rfl rfl) rfl rfl ?_
          refine wl_s (gd_ rfl rfl rfl rfl rfl rfl) rfl rfl ?_
          refine wl_s (gd_ rfl rfl rfl rfl rfl rfl) rfl rfl ?_
          refine wl rfl rfl rfl (p_pickT rfl rfl) ?_
          refine wl_nil ?_
          refine x_seq ?_
          refine wc_yes rfl (rfl) ?_
          refine wc_exit ?_
          refine x_then_exit ?_
          refine x_in_here ?_
          refine x_seq ?_
          refine wc_region ?_
          refine wl rfl rfl rfl (p_add rfl rfl (w64 (by omega))) ?_
          refine wl rfl rfl rfl (p_mv rfl) ?_
          refine wl_nil ?_
          obtain ⟨xn, hxn⟩ : ∃ x : List (List UInt8), x = xs := ⟨_, rfl⟩
          obtain ⟨ln, hln⟩ : ∃ x : LS, x = l1 := ⟨_, rfl⟩
          obtain ⟨dn, hdn⟩ : ∃ x : DS, x = dd := ⟨_, rfl⟩
          obtain ⟨An, hAn⟩ : ∃ x : Option Addr, x = Aw := ⟨_, rfl⟩
          obtain ⟨cn, hcn⟩ : ∃ x : Nat, x = cw := ⟨_, rfl⟩
          refine x_round (e' := [(4, .pointer (some ⟨g4, 0, none⟩)), (5, .pointer (some ⟨g5, 0, none⟩)), (6, .bool false), (7, .pointer (some ⟨g23, 0, none⟩)), (8, .pointer (some ⟨gL26, 0, none⟩)), (11, .slice (An) (xn).length (cn)), (57, .slice Aq lq cq), (58, i64 (lq : Int)), (59, i64 ((i + 1) : Int))]) ⟨rfl, rfl, rfl, rfl, rfl, (by rw [hxn, hAn, hcn]; first | rfl | (rw [List.length_append, List.length_singleton]; rfl)), rfl, rfl, rfl, trivial⟩ (by rw [hm0]; omega) ⟨i + 1, dn, _, ln, xn, _, An, cn, rfl, rfl, by omega, by rw [hxn, hln, hdn]; exact hkl, by rw [hdn]; exact hd23, by rw [hln]; exact hL26, hohL26_hd23, hohL26_hw, by rw [hxn, hAn, hcn]; first | exact hw | (rw [List.length_append, List.length_singleton]; exact hw), aphd23_hw, hb4, hb5, hohb4_hd23, hohb5_hd23, hohb4_hw, hohb5_hw, hq, hBu, hKu, hBv, hKv, hnib, HC⟩
        ·
          have q67 := of_decide_eq_false q67
          refine wl_g (gd_ rfl rfl rfl rfl rfl rfl) rfl rfl (p_fld (j := 0) Tryd.underlying53 rfl ⟨_, by rfl⟩ rfl rfl) ?_
          refine wl_g (gd_ rfl rfl rfl rfl rfl rfl) rfl rfl (p_ld Tryd.underlying3 rfl rfl (ld (hb13.cell rfl))) ?_
          refine wl_g (gd_ rfl rfl rfl rfl rfl rfl) rfl rfl (p_gt rfl rfl) ?_
          refine wl rfl rfl rfl (p_pickF rfl rfl) ?_
          refine wl_nil ?_
          refine x_seq ?_
          refine wc_if rfl (fun c2 => ?_) (fun c2 => ?_)
          ·
            have c2 := of_decide_eq_true c2
            refine wc_exit ?_
            refine x_then_exit ?_
            refine x_in_here ?_
            refine x_seq ?_
            refine wc_region ?_
            refine wl rfl rfl rfl (p_add rfl rfl (w64 (by omega))) ?_
            refine wl rfl rfl rfl (p_mv rfl) ?_
            refine wl_nil ?_
            obtain ⟨xn, hxn⟩ : ∃ x : List (List UInt8), x = xs := ⟨_, rfl⟩
            obtain ⟨ln, hln⟩ : ∃ x : LS, x = l1 := ⟨_, rfl⟩
            obtain ⟨dn, hdn⟩ : ∃ x : DS, x = dd := ⟨_, rfl⟩
            obtain ⟨An, hAn⟩ : ∃ x : Option Addr, x = Aw := ⟨_, rfl⟩
            obtain ⟨cn, hcn⟩ : ∃ x : Nat, x = cw := ⟨_, rfl⟩
            refine x_round (e' := [(4, .pointer (some ⟨g4, 0, none⟩)), (5, .pointer (some ⟨g5, 0, none⟩)), (6, .bool false), (7, .pointer (some ⟨g23, 0, none⟩)), (8, .pointer (some ⟨gL26, 0, none⟩)), (11, .slice (An) (xn).length (cn)), (57, .slice Aq lq cq), (58, i64 (lq : Int)), (59, i64 ((i + 1) : Int))]) ⟨rfl, rfl, rfl, rfl, rfl, (by rw [hxn, hAn, hcn]; first | rfl | (rw [List.length_append, List.length_singleton]; rfl)), rfl, rfl, rfl, trivial⟩ (by rw [hm0]; omega) ⟨i + 1, dn, _, ln, xn, _, An, cn, rfl, rfl, by omega, by rw [hxn, hln, hdn]; exact hkl, by rw [hdn]; exact hd23, by rw [hln]; exact hL26, hohL26_hd23, hohL26_hw, by rw [hxn, hAn, hcn]; first | exact hw | (rw [List.length_append, List.length_singleton]; exact hw), aphd23_hw, hb4, hb5, hohb4_hd23, hohb5_hd23, hohb4_hw, hohb5_hw, hq, hBu, hKu, hBv, hKv, hnib, HC⟩
          ·
            have c2 := of_decide_eq_false c2
            refine wc_skip ?_
            refine x_seq ?_
            refine wc_seq ?_
            refine wc_seq ?_
            refine wc_region ?_
            refine wl rfl rfl rfl (p_fld (j := 0) Tryd.underlying53 rfl ⟨_, by rfl⟩ rfl rfl) ?_
            refine wl rfl rfl rfl (p_ld Tryd.underlying3 rfl rfl (ld (hb13.cell rfl))) ?_
            refine wl rfl rfl rfl (p_eq rfl rfl) ?_
            refine wl rfl rfl rfl (p_mv rfl) ?_
            refine wl_split (d := 75) rfl (fun q75 => ?_) (fun q75 => ?_)
            ·
              have q75 := of_decide_eq_true q75
              refine wl_g (gd_ rfl rfl rfl rfl rfl rfl) rfl rfl (p_mv rfl) ?_
              refine wl_g (gd_ rfl rfl rfl rfl rfl rfl) rfl rfl (p_fld (j := 3) Tryd.underlying53 rfl ⟨_, by rfl⟩ rfl rfl) ?_
              refine wl_g (gd_ rfl rfl rfl rfl rfl rfl) rfl rfl (p_ld Tryd.underlying22 rfl rfl (ld (hb13.cell rfl))) ?_
              have hcn := hkl.cnt
              have he1 := hkl.lg.e
              have hc1 := hkl.lg.c
              have hle1 := hkl.log.le
              refine wle_g (gd_ rfl rfl rfl rfl rfl rfl) (e_call ent15 rfl rfl (append6_any (l := l1) hd23 hL26 hohL26_hd23 (by omega) (hB61) (by omega) (by omega) (by omega) hnib (by omega)) ?_)
              rintro _ w14 ⟨O79, wm79, r79, l79, hr79, hl79, rfl, hdn, hO79, hc, hc2, hL2⟩
              refine ⟨_, rfl, ?_⟩
              have hzwm79 := hc.size
              have HC := HC.trans hc (fun _ _ h => h) (fun k hk ht => absurd hk (by have := hd23.lo k ht; omega))
              have hq := hq.ch hc (fun k hk ht => by have h1 := hd23.lo k ht; have h2 : k < w.heap.size := hk; omega)
              have hnib := hnib.ch hc (fun k hk ht => by have h1 := hd23.lo k ht; first | (have h2 : k < w.heap.size := hk; omega) | (have h2 : k = 0 := hk; omega))
              have hltgL26 := hL26.lt
              have hL26 := hL26.ch hc (fun ht => hohL26_hd23 _ ht rfl)
              have hphw := hw.hi
              have hw := hw.other hc (fun k hk ht => aphd23_hw k ht hk)
              have hltg4 := hb4.lt
              have hb4 := hb4.ch hc (fun ht => hohb4_hd23 _ ht rfl)
              have hltg5 := hb5.lt
              have hb5 := hb5.ch hc (fun ht => hohb5_hd23 _ ht rfl)
              have hBu := hBu.ch hc (fun k hk ht => by have h1 := hd23.lo k ht; first | (have h2 : k < w.heap.size := hk; omega) | (have h2 : k = 0 := hk; omega))
              have hKu := hKu.ch hc (fun k hk ht => by have h1 := hd23.lo k ht; first | (have h2 : k < w.heap.size := hk; omega) | (have h2 : k = 0 := hk; omega))
              have hBv := hBv.ch hc (fun k hk ht => by have h1 := hd23.lo k ht; first | (have h2 : k < w.heap.size := hk; omega) | (have h2 : k = 0 := hk; omega))
              have hKv := hKv.ch hc (fun k hk ht => by have h1 := hd23.lo k ht; first | (have h2 : k < w.heap.size := hk; omega) | (have h2 : k = 0 := hk; omega))
              have hB61 := hB61.ch hc (fun k hk ht => by have h1 := hd23.lo k ht; first | (have h2 : k < w.heap.size := hk; omega) | (have h2 : k = 0 := hk; omega))
              have hK61 := hK61.ch hc (fun k hk ht => by have h1 := hd23.lo k ht; first | (have h2 : k < w.heap.size := hk; omega) | (have h2 : k = 0 := hk; omega))
              have hltg13 := hb13.lt
              have hb13 := hb13.ch hc (fun ht => hohb13_hd23 _ ht rfl)
              have hohL26_hd23 : ∀ k, O79 k → k ≠ gL26 := fun k h => (hO79 k h).elim (hohL26_hd23 k) (fun h => by omega)
              have aphd23_hw : ∀ k, O79 k → ¬ G k := fun k h1 h2 => (hO79 k h1).elim (fun h => aphd23_hw k h h2) (fun h => by have := hphw k h2; omega)
              have hohb4_hd23 : ∀ k, O79 k → k ≠ g4 := fun k h => (hO79 k h).elim (hohb4_hd23 k) (fun h => by omega)
              have hohb5_hd23 : ∀ k, O79 k → k ≠ g5 := fun k h => (hO79 k h).elim (hohb5_hd23 k) (fun h => by omega)
              have hohb13_hd23 : ∀ k, O79 k → k ≠ g13 := fun k h => (hO79 k h).elim (hohb13_hd23 k) (fun h => by omega)
              have hd23 := hdn
              have hc := hc2
              have hL26 := hL2
              have hzw14 := hc.size
              have HC := HC.trans hc (fun _ _ h => h) (fun k hk ht => absurd ht (by omega))
              have hq := hq.ch hc (by intro k hk ht; have h2 : k < w.heap.size := hk; first | omega | (dsimp only at *; omega))
              first | have hnib := hnib.ch hc (by intro k hk ht; first | omega | (dsimp only at *; omega)) | have hnib := hnib.chT hc (by intro k hz hk ht; first | omega | (dsimp only at *; omega))
              have hd23 := hd23.other hc (fun k hk ht => by have h1 := hohL26_hd23 k hk; have h2 : k = gL26 := ht; omega)
              have hw := hw.other hc (fun k hk ht => by have h1 := hohL26_hw k hk; have h2 : k = gL26 := ht; omega)
              have hb4 := hb4.ch hc (by omega)
              have hb5 := hb5.ch hc (by omega)
              first | have hBu := hBu.ch hc (by intro k hk ht; first | omega | (dsimp only at *; omega)) | have hBu := hBu.chT hc (by intro k hz hk ht; first | omega | (dsimp only at *; omega))
              first | have hKu := hKu.ch hc (by intro k hk ht; first | omega | (dsimp only at *; omega)) | have hKu := hKu.chT hc (by intro k hz hk ht; first | omega | (dsimp only at *; omega))
              first | have hBv := hBv.ch hc (by intro k hk ht; first | omega | (dsimp only at *; omega)) | have hBv := hBv.chT hc (by intro k hz hk ht; first | omega | (dsimp only at *; omega))
              first | have hKv := hKv.ch hc (by intro k hk ht; first | omega | (dsimp only at *; omega)) | have hKv := hKv.chT hc (by intro k hz hk ht; first | omega | (dsimp only at *; omega))
              first | have hB61 := hB61.ch hc (by intro k hk ht; first | omega | (dsimp only at *; omega)) | have hB61 := hB61.chT hc (by intro k hz hk ht; first | omega | (dsimp only at *; omega))
              first | have hK61 := hK61.ch hc (by intro k hk ht; first | omega | (dsimp only at *; omega)) | have hK61 := hK61.chT hc (by intro k hz hk ht; first | omega | (dsimp only at *; omega))
              have hb13 := hb13.ch hc (by omega)
              obtain ⟨ys, hkl, hor⟩ := hkl.app hr79 hl79 (by omega)
              refine wl_g (gd_ rfl rfl rfl rfl rfl rfl) rfl rfl (p_eq rfl rfl) ?_
              refine wl rfl rfl rfl (p_pickT rfl rfl) ?_
              refine wl_nil ?_
              refine x_seq ?_
              refine wc_if rfl (fun c3 => ?_) (fun c3 => ?_)
              ·
                have c3 := of_decide_eq_true c3
                obtain ⟨_, hys⟩ := hor.resolve_right (fun h => h.1 c3)
                rw [hys] at hkl
                have hcn2 := hkl.cnt
                rw [List.length_append, List.length_singleton] at hcn2
                refine wc_region ?_
                refine wl rfl rfl rfl (p_mv rfl) ?_
                refine wl rfl rfl rfl (p_fld (j := 3) Tryd.underlying53 rfl ⟨_, by rfl⟩ rfl rfl) ?_
                refine wl rfl rfl rfl (p_ld Tryd.underlying22 rfl rfl (ld (hb13.cell rfl))) ?_
                refine wl rfl rfl rfl (p_bts Tryd.underlying22 Tryd.underlying5 Tryd.underlying9 rfl (hB61).len (fun _ e => e ▸ (hB61).rd)) ?_
                have hltgL26 := hL26.lt
                have hltg4 := hb4.lt
                have hltg5 := hb5.lt
                have hltg13 := hb13.lt
                refine wle rfl (e_bslV (E := 9) rfl rfl (fun _ => by kernel_rfl) (fun w15 g86 hg86 hb86 hc hsz86 => ?_))
                have hzw15 := hc.size
                have HC := HC.tr hc
                have hq := hq.no hc
                have hnib := hnib.no hc
                have hphd23 := hd23.hi
                have hd23 := hd23.no hc
                have hL26 := hL26.ch hc (fun h => h)
                have hphw := hw.hi
                have hw := hw.no hc
                have hb4 := hb4.ch hc (fun h => h)
                have hb5 := hb5.ch hc (fun h => h)
                have hBu := hBu.no hc
                have hKu := hKu.no hc
                have hBv := hBv.no hc
                have hKv := hKv.no hc
                have hB61 := hB61.no hc
                have hK61 := hK61.no hc
                have hb13 := hb13.ch hc (fun h => h)
                have hX86 : Sl w15 (fun k => k = g86) strV _ 1 1 [a61.b] := Sl.lit1 (f := strV) hb86
                have hltgL26 := hL26.lt
                have hltg4 := hb4.lt
                have hltg5 := hb5.lt
                have hltg13 := hb13.lt
                refine wle rfl (e_appS rfl el29 one_strV rfl rfl hw.at_ hX86 (by omega) (fun _ h => .inr h) (fun w16 A87 c87 hw87 hc => ?_))
                obtain ⟨G87, hdn, hG87, hc⟩ := hw.next hw87 hc (by omega)
                have hzw16 := hc.size
                have HC := HC.trans hc (fun _ _ h => h) (fun k hk ht => absurd hk (by have := hw.lo k ht; omega))
                have hq := hq.ch hc (fun k hk ht => by have h1 := hw.lo k ht; have h2 : k < w.heap.size := hk; omega)
                have hnib := hnib.ch hc (fun k hk ht => by have h1 := hw.lo k ht; first | (have h2 : k < w.heap.size := hk; omega) | (have h2 : k = 0 := hk; omega))
                have hphd23 := hd23.hi
                have hd23 := hd23.other hc (fun k hk ht => (fun k h1 h2 => aphd23_hw k h2 h1) k ht hk)
                have hltgL26 := hL26.lt
                have hL26 := hL26.ch hc (fun ht => hohL26_hw _ ht rfl)
                have hltg4 := hb4.lt
                have hb4 := hb4.ch hc (fun ht => hohb4_hw _ ht rfl)
                have hltg5 := hb5.lt
                have hb5 := hb5.ch hc (fun ht => hohb5_hw _ ht rfl)
                have hBu := hBu.ch hc (fun k hk ht => by have h1 := hw.lo k ht; first | (have h2 : k < w.heap.size := hk; omega) | (have h2 : k = 0 := hk; omega))
                have hKu := hKu.ch hc (fun k hk ht => by have h1 := hw.lo k ht; first | (have h2 : k < w.heap.size := hk; omega) | (have h2 : k = 0 := hk; omega))
                have hBv := hBv.ch hc (fun k hk ht => by have h1 := hw.lo k ht; first | (have h2 : k < w.heap.size := hk; omega) | (have h2 : k = 0 := hk; omega))
                have hKv := hKv.ch hc (fun k hk ht => by have h1 := hw.lo k ht; first | (have h2 : k < w.heap.size := hk; omega) | (have h2 : k = 0 := hk; omega))
                have hB61 := hB61.ch hc (fun k hk ht => by have h1 := hw.lo k ht; first | (have h2 : k < w.heap.size := hk; omega) | (have h2 : k = 0 := hk; omega))
                have hK61 := hK61.ch hc (fun k hk ht => by have h1 := hw.lo k ht; first | (have h2 : k < w.heap.size := hk; omega) | (have h2 : k = 0 := hk; omega))
                have hltg13 := hb13.lt
                have hb13 := hb13.ch hc (fun ht => hohb13_hw _ ht rfl)
                have aphd23_hw : ∀ k, O79 k → ¬ G87 k := fun k h1 h2 => (hG87 k h2).elim (fun h => aphd23_hw k h1 h) (fun h => by have := hphd23 k h1; omega)
                have hohL26_hw : ∀ k, G87 k → k ≠ gL26 := fun k h => (hG87 k h).elim (hohL26_hw k) (fun h => by omega)
                have hohb4_hw : ∀ k, G87 k → k ≠ g4 := fun k h => (hG87 k h).elim (hohb4_hw k) (fun h => by omega)
                have hohb5_hw : ∀ k, G87 k → k ≠ g5 := fun k h => (hG87 k h).elim (hohb5_hw k) (fun h => by omega)
                have hohb13_hw : ∀ k, G87 k → k ≠ g13 := fun k h => (hG87 k h).elim (hohb13_hw k) (fun h => by omega)
                have hw := hdn
                refine wl rfl rfl rfl (p_as rfl) ?_
                refine wl_nil ?_
                refine x_seq ?_
                refine wc_seq ?_
                refine wc_region ?_
                refine wl rfl rfl rfl (p_fld (j := 0) Tryd.underlying53 rfl ⟨_, by rfl⟩ rfl rfl) ?_
                refine wl rfl rfl rfl (p_ld Tryd.underlying3 rfl rfl (ld (hb13.cell rfl))) ?_
                refine wl rfl rfl rfl (p_eq rfl rfl) ?_
                refine wl rfl rfl rfl (p_mv rfl) ?_
                refine wl_split (d := 91) rfl (fun q91 => ?_) (fun q91 => ?_)
                ·
                  have q91 := of_decide_eq_true q91
                  refine wl_g (gd_ rfl rfl rfl rfl rfl rfl) rfl rfl (p_mv rfl) ?_
                  have hok93 := hd23.ok
                  refine wle_g (gd_ rfl rfl rfl rfl rfl rfl) (e_call ent18 rfl rfl (sync6_any (l := l79) hd23 hL26 hohL26_hd23 (by omega)) ?_)
                  rintro _ w17 ⟨O93, wm93, r93, l93, hr93, hl93, rfl, hdn, hO93, hc, hc2, hL2⟩
                  refine ⟨_, rfl, ?_⟩
                  have hzwm93 := hc.size
                  have HC := HC.trans hc (fun _ _ h => h) (fun k hk ht => absurd hk (by have := hd23.lo k ht; omega))
                  have hq := hq.ch hc (fun k hk ht => by have h1 := hd23.lo k ht; have h2 : k < w.heap.size := hk; omega)
                  have hnib := hnib.ch hc (fun k hk ht => by have h1 := hd23.lo k ht; first | (have h2 : k < w.heap.size := hk; omega) | (have h2 : k = 0 := hk; omega))
                  have hltgL26 := hL26.lt
                  have hL26 := hL26.ch hc (fun ht => hohL26_hd23 _ ht rfl)
                  have hphw := hw.hi
                  have hw := hw.other hc (fun k hk ht => aphd23_hw k ht hk)
                  have hltg4 := hb4.lt
                  have hb4 := hb4.ch hc (fun ht => hohb4_hd23 _ ht rfl)
                  have hltg5 := hb5.lt
                  have hb5 := hb5.ch hc (fun ht => hohb5_hd23 _ ht rfl)
                  have hBu := hBu.ch hc (fun k hk ht => by have h1 := hd23.lo k ht; first | (have h2 : k < w.heap.size := hk; omega) | (have h2 : k = 0 := hk; omega))
                  have hKu := hKu.ch hc (fun k hk ht => by have h1 := hd23.lo k ht; first | (have h2 : k < w.heap.size := hk; omega) | (have h2 : k = 0 := hk; omega))
                  have hBv := hBv.ch hc (fun k hk ht => by have h1 := hd23.lo k ht; first | (have h2 : k < w.heap.size := hk; omega) | (have h2 : k = 0 := hk; omega))
                  have hKv := hKv.ch hc (fun k hk ht => by have h1 := hd23.lo k ht; first | (have h2 : k < w.heap.size := hk; omega) | (have h2 : k = 0 := hk; omega))
                  have hB61 := hB61.ch hc (fun k hk ht => by have h1 := hd23.lo k ht; first | (have h2 : k < w.heap.size := hk; omega) | (have h2 : k = 0 := hk; omega))
                  have hK61 := hK61.ch hc (fun k hk ht => by have h1 := hd23.lo k ht; first | (have h2 : k < w.heap.size := hk; omega) | (have h2 : k = 0 := hk; omega))
                  have hltg13 := hb13.lt
                  have hb13 := hb13.ch hc (fun ht => hohb13_hd23 _ ht rfl)
                  have hohL26_hd23 : ∀ k, O93 k → k ≠ gL26 := fun k h => (hO93 k h).elim (hohL26_hd23 k) (fun h => by omega)
                  have aphd23_hw : ∀ k, O93 k → ¬ G87 k := fun k h1 h2 => (hO93 k h1).elim (fun h => aphd23_hw k h h2) (fun h => by have := hphw k h2; omega)
                  have hohb4_hd23 : ∀ k, O93 k → k ≠ g4 := fun k h => (hO93 k h).elim (hohb4_hd23 k) (fun h => by omega)
                  have hohb5_hd23 : ∀ k, O93 k → k ≠ g5 := fun k h => (hO93 k h).elim (hohb5_hd23 k) (fun h => by omega)
                  have hohb13_hd23 : ∀ k, O93 k → k ≠ g13 := fun k h => (hO93 k h).elim (hohb13_hd23 k) (fun h => by omega)
                  have hd23 := hdn
                  have hc := hc2
                  have hL26 := hL2
                  have hzw17 := hc.size
                  have HC := HC.trans hc (fun _ _ h => h) (fun k hk ht => absurd ht (by omega))
                  have hq := hq.ch hc (by intro k hk ht; have h2 : k < w.heap.size := hk; first | omega | (dsimp only at *; omega))
                  first | have hnib := hnib.ch hc (by intro k hk ht; first | omega | (dsimp only at *; omega)) | have hnib := hnib.chT hc (by intro k hz hk ht; first | omega | (dsimp only at *; omega))
                  have hd23 := hd23.other hc (fun k hk ht => by have h1 := hohL26_hd23 k hk; have h2 : k = gL26 := ht; omega)
                  have hw := hw.other hc (fun k hk ht => by have h1 := hohL26_hw k hk; have h2 : k = gL26 := ht; omega)
                  have hb4 := hb4.ch hc (by omega)
                  have hb5 := hb5.ch hc (by omega)
                  first | have hBu := hBu.ch hc (by intro k hk ht; first | omega | (dsimp only at *; omega)) | have hBu := hBu.chT hc (by intro k hz hk ht; first | omega | (dsimp only at *; omega))
                  first | have hKu := hKu.ch hc (by intro k hk ht; first | omega | (dsimp only at *; omega)) | have hKu := hKu.chT hc (by intro k hz hk ht; first | omega | (dsimp only at *; omega))
                  first | have hBv := hBv.ch hc (by intro k hk ht; first | omega | (dsimp only at *; omega)) | have hBv := hBv.chT hc (by intro k hz hk ht; first | omega | (dsimp only at *; omega))
                  first | have hKv := hKv.ch hc (by intro k hk ht; first | omega | (dsimp only at *; omega)) | have hKv := hKv.chT hc (by intro k hz hk ht; first | omega | (dsimp only at *; omega))
                  first | have hB61 := hB61.ch hc (by intro k hk ht; first | omega | (dsimp only at *; omega)) | have hB61 := hB61.chT hc (by intro k hz hk ht; first | omega | (dsimp only at *; omega))
                  first | have hK61 := hK61.ch hc (by intro k hk ht; first | omega | (dsimp only at *; omega)) | have hK61 := hK61.chT hc (by intro k hz hk ht; first | omega | (dsimp only at *; omega))
                  have hb13 := hb13.ch hc (by omega)
                  obtain ⟨hr93z, hkl⟩ := hkl.sync hok93 hr93 hl93
                  refine wl_g (gd_ rfl rfl rfl rfl rfl rfl) rfl rfl (p_ne rfl rfl) ?_
                  refine wl rfl rfl rfl (p_pickT rfl rfl) ?_
                  refine wl_nil ?_
                  refine x_seq ?_
                  refine wc_no rfl (decide_eq_false (fun h => h hr93z)) ?_
                  refine wc_skip ?_
                  refine x_in_normal ?_
                  refine x_seq ?_
                  refine wc_region ?_
                  refine wl rfl rfl rfl (p_add rfl rfl (w64 (by omega))) ?_
                  refine wl rfl rfl rfl (p_mv rfl) ?_
                  refine wl_nil ?_
                  obtain ⟨xn, hxn⟩ : ∃ x : List (List UInt8), x = xs ++ [a61.b] := ⟨_, rfl⟩
                  obtain ⟨ln, hln⟩ : ∃ x : LS, x = l93 := ⟨_, rfl⟩
                  obtain ⟨dn, hdn⟩ : ∃ x : DS, x = r93.2 := ⟨_, rfl⟩
                  obtain ⟨An, hAn⟩ : ∃ x : Option Addr, x = A87 := ⟨_, rfl⟩
                  obtain ⟨cn, hcn⟩ : ∃ x : Nat, x = c87 := ⟨_, rfl⟩
                  refine x_round (e' := [(4, .pointer (some ⟨g4, 0, none⟩)), (5, .pointer (some ⟨g5, 0, none⟩)), (6, .bool false), (7, .pointer (some ⟨g23, 0, none⟩)), (8, .pointer (some ⟨gL26, 0, none⟩)), (11, .slice (An) (xn).length (cn)), (57, .slice Aq lq cq), (58, i64 (lq : Int)), (59, i64 ((i + 1) : Int))]) ⟨rfl, rfl, rfl, rfl, rfl, (by rw [hxn, hAn, hcn]; first | rfl | (rw [List.length_append, List.length_singleton]; rfl)), rfl, rfl, rfl, trivial⟩ (by rw [hm0]; omega) ⟨i + 1, dn, _, ln, xn, _, An, cn, rfl, rfl, by omega, by rw [hxn, hln, hdn]; exact hkl, by rw [hdn]; exact hd23, by rw [hln]; exact hL26, hohL26_hd23, hohL26_hw, by rw [hxn, hAn, hcn]; first | exact hw | (rw [List.length_append, List.length_singleton]; exact hw), aphd23_hw, hb4, hb5, hohb4_hd23, hohb5_hd23, hohb4_hw, hohb5_hw, hq, hBu, hKu, hBv, hKv, hnib, HC⟩
                ·
                  have q91 := of_decide_eq_false q91
                  refine wl_s (gd_ rfl rfl rfl rfl rfl rfl) rfl rfl ?_
                  refine wl_s (gd_ rfl rfl rfl rfl rfl rfl) rfl rfl ?_
                  refine wl_s (gd_ rfl rfl rfl rfl rfl rfl) rfl rfl ?_
                  refine wl rfl rfl rfl (p_pickF rfl rfl) ?_
                  refine wl_nil ?_
                  refine x_seq ?_
                  refine wc_no rfl (rfl) ?_
                  refine wc_skip ?_
                  refine x_in_normal ?_
                  refine x_seq ?_
                  refine wc_region ?_
                  refine wl rfl rfl rfl (p_add rfl rfl (w64 (by omega))) ?_
                  refine wl rfl rfl rfl (p_mv rfl) ?_
                  refine wl_nil ?_
                  obtain ⟨xn, hxn⟩ : ∃ x : List (List UInt8), x = xs ++ [a61.b] := ⟨_, rfl⟩
                  obtain ⟨ln, hln⟩ : ∃ x : LS, x = l79 := ⟨_, rfl⟩
                  obtain ⟨dn, hdn⟩ : ∃ x : DS, x = r79.2 := ⟨_, rfl⟩
                  obtain ⟨An, hAn⟩ : ∃ x : Option Addr, x = A87 := ⟨_, rfl⟩
                  obtain ⟨cn, hcn⟩ : ∃ x : Nat, x = c87 := ⟨_, rfl⟩
                  refine x_round (e' := [(4, .pointer (some ⟨g4, 0, none⟩)), (5, .pointer (some ⟨g5, 0, none⟩)), (6, .bool false), (7, .pointer (some ⟨g23, 0, none⟩)), (8, .pointer (some ⟨gL26, 0, none⟩)), (11, .slice (An) (xn).length (cn)), (57, .slice Aq lq cq), (58, i64 (lq : Int)), (59, i64 ((i + 1) : Int))]) ⟨rfl, rfl, rfl, rfl, rfl, (by rw [hxn, hAn, hcn]; first | rfl | (rw [List.length_append, List.length_singleton]; rfl)), rfl, rfl, rfl, trivial⟩ (by rw [hm0]; omega) ⟨i + 1, dn, _, ln, xn, _, An, cn, rfl, rfl, by omega, by rw [hxn, hln, hdn]; exact hkl, by rw [hdn]; exact hd23, by rw [hln]; exact hL26, hohL26_hd23, hohL26_hw, by rw [hxn, hAn, hcn]; first | exact hw | (rw [List.length_append, List.length_singleton]; exact hw), aphd23_hw, hb4, hb5, hohb4_hd23, hohb5_hd23, hohb4_hw, hohb5_hw, hq, hBu, hKu, hBv, hKv, hnib, HC⟩
              ·
                have c3 := of_decide_eq_false c3
                obtain ⟨_, hys⟩ := hor.resolve_left (fun h => c3 h.1)
                rw [hys] at hkl
                refine wc_skip ?_
                refine x_seq ?_
                refine wc_seq ?_
                refine wc_region ?_
                refine wl rfl rfl rfl (p_fld (j := 0) Tryd.underlying53 rfl ⟨_, by rfl⟩ rfl rfl) ?_
                refine wl rfl rfl rfl (p_ld Tryd.underlying3 rfl rfl (ld (hb13.cell rfl))) ?_
                refine wl rfl rfl rfl (p_eq rfl rfl) ?_
                refine wl rfl rfl rfl (p_mv rfl) ?_
                refine wl_split (d := 91) rfl (fun q91 => ?_) (fun q91 => ?_)
                ·
                  have q91 := of_decide_eq_true q91
                  refine wl_g (gd_ rfl rfl rfl rfl rfl rfl) rfl rfl (p_mv rfl) ?_
                  have hok93 := hd23.ok
                  refine wle_g (gd_ rfl rfl rfl rfl rfl rfl) (e_call ent18 rfl rfl (sync6_any (l := l79) hd23 hL26 hohL26_hd23 (by omega)) ?_)
                  rintro _ w18 ⟨O93, wm93, r93, l93, hr93, hl93, rfl, hdn, hO93, hc, hc2, hL2⟩
                  refine ⟨_, rfl, ?_⟩
                  have hzwm93 := hc.size
                  have HC := HC.trans hc (fun _ _ h => h) (fun k hk ht => absurd hk (by have := hd23.lo k ht; omega))
                  have hq := hq.ch hc (fun k hk ht => by have h1 := hd23.lo k ht; have h2 : k < w.heap.size := hk; omega)
                  have hnib := hnib.ch hc (fun k hk ht => by have h1 := hd23.lo k ht; first | (have h2 : k < w.heap.size := hk; omega) | (have h2 : k = 0 := hk; omega))
                  have hltgL26 := hL26.lt
                  have hL26 := hL26.ch hc (fun ht => hohL26_hd23 _ ht rfl)
                  have hphw := hw.hi
                  have hw := hw.other hc (fun k hk ht => aphd23_hw k ht hk)
                  have hltg4 := hb4.lt
                  have hb4 := hb4.ch hc (fun ht => hohb4_hd23 _ ht rfl)
                  have hltg5 := hb5.lt
                  have hb5 := hb5.ch hc (fun ht => hohb5_hd23 _ ht rfl)
                  have hBu := hBu.ch hc (fun k hk ht => by have h1 := hd23.lo k ht; first | (have h2 : k < w.heap.size := hk; omega) | (have h2 : k = 0 := hk; omega))
                  have hKu := hKu.ch hc (fun k hk ht => by have h1 := hd23.lo k ht; first | (have h2 : k < w.heap.size := hk; omega) | (have h2 : k = 0 := hk; omega))
                  have hBv := hBv.ch hc (fun k hk ht => by have h1 := hd23.lo k ht; first | (have h2 : k < w.heap.size := hk; omega) | (have h2 : k = 0 := hk; omega))
                  have hKv := hKv.ch hc (fun k hk ht => by have h1 := hd23.lo k ht; first | (have h2 : k < w.heap.size := hk; omega) | (have h2 : k = 0 := hk; omega))
                  have hB61 := hB61.ch hc (fun k hk ht => by have h1 := hd23.lo k ht; first | (have h2 : k < w.heap.size := hk; omega) | (have h2 : k = 0 := hk; omega))
                  have hK61 := hK61.ch hc (fun k hk ht => by have h1 := hd23.lo k ht; first | (have h2 : k < w.heap.size := hk; omega) | (have h2 : k = 0 := hk; omega))
                  have hltg13 := hb13.lt
                  have hb13 := hb13.ch hc (fun ht => hohb13_hd23 _ ht rfl)
                  have hohL26_hd23 : ∀ k, O93 k → k ≠ gL26 := fun k h => (hO93 k h).elim (hohL26_hd23 k) (fun h => by omega)
                  have aphd23_hw : ∀ k, O93 k → ¬ G k := fun k h1 h2 => (hO93 k h1).elim (fun h => aphd23_hw k h h2) (fun h => by have := hphw k h2; omega)
                  have hohb4_hd23 : ∀ k, O93 k → k ≠ g4 := fun k h => (hO93 k h).elim (hohb4_hd23 k) (fun h => by omega)
                  have hohb5_hd23 : ∀ k, O93 k → k ≠ g5 := fun k h => (hO93 k h).elim (hohb5_hd23 k) (fun h => by omega)
                  have hohb13_hd23 : ∀ k, O93 k → k ≠ g13 := fun k h => (hO93 k h).elim (hohb13_hd23 k) (fun h => by omega)
                  have hd23 := hdn
                  have hc := hc2
                  have hL26 := hL2
                  have hzw18 := hc.size
                  have HC := HC.trans hc (fun _ _ h => h) (fun k hk ht => absurd ht (by omega))
                  have hq := hq.ch hc (by intro k hk ht; have h2 : k < w.heap.size := hk; first | omega | (dsimp only at *; omega))
                  first | have hnib := hnib.ch hc (by intro k hk ht; first | omega | (dsimp only at *; omega)) | have hnib := hnib.chT hc (by intro k hz hk ht; first | omega | (dsimp only at *; omega))
                  have hd23 := hd23.other hc (fun k hk ht => by have h1 := hohL26_hd23 k hk; have h2 : k = gL26 := ht; omega)
                  have hw := hw.other hc (fun k hk ht => by have h1 := hohL26_hw k hk; have h2 : k = gL26 := ht; omega)
                  have hb4 := hb4.ch hc (by omega)
                  have hb5 := hb5.ch hc (by omega)
                  first | have hBu := hBu.ch hc (by intro k hk ht; first | omega | (dsimp only at *; omega)) | have hBu := hBu.chT hc (by intro k hz hk ht; first | omega | (dsimp only at *; omega))
                  first | have hKu := hKu.ch hc (by intro k hk ht; first | omega | (dsimp only at *; omega)) | have hKu := hKu.chT hc (by intro k hz hk ht; first | omega | (dsimp only at *; omega))
                  first | have hBv := hBv.ch hc (by intro k hk ht; first | omega | (dsimp only at *; omega)) | have hBv := hBv.chT hc (by intro k hz hk ht; first | omega | (dsimp only at *; omega))
                  first | have hKv := hKv.ch hc (by intro k hk ht; first | omega | (dsimp only at *; omega)) | have hKv := hKv.chT hc (by intro k hz hk ht; first | omega | (dsimp only at *; omega))
                  first | have hB61 := hB61.ch hc (by intro k hk ht; first | omega | (dsimp only at *; omega)) | have hB61 := hB61.chT hc (by intro k hz hk ht; first | omega | (dsimp only at *; omega))
                  first | have hK61 := hK61.ch hc (by intro k hk ht; first | omega | (dsimp only at *; omega)) | have hK61 := hK61.chT hc (by intro k hz hk ht; first | omega | (dsimp only at *; omega))
                  have hb13 := hb13.ch hc (by omega)
                  obtain ⟨hr93z, hkl⟩ := hkl.sync hok93 hr93 hl93
                  refine wl_g (gd_ rfl rfl rfl rfl rfl rfl) rfl rfl (p_ne rfl rfl) ?_
                  refine wl rfl rfl rfl (p_pickT rfl rfl) ?_
                  refine wl_nil ?_
                  refine x_seq ?_
                  refine wc_no rfl (decide_eq_false (fun h => h hr93z)) ?_
                  refine wc_skip ?_
                  refine x_in_normal ?_
                  refine x_seq ?_
                  refine wc_region ?_
                  refine wl rfl rfl rfl (p_add rfl rfl (w64 (by omega))) ?_
                  refine wl rfl rfl rfl (p_mv rfl) ?_
                  refine wl_nil ?_
                  obtain ⟨xn, hxn⟩ : ∃ x : List (List UInt8), x = xs := ⟨_, rfl⟩
                  obtain ⟨ln, hln⟩ : ∃ x : LS, x = l93 := ⟨_, rfl⟩
                  obtain ⟨dn, hdn⟩ : ∃ x : DS, x = r93.2 := ⟨_, rfl⟩
                  obtain ⟨An, hAn⟩ : ∃ x : Option Addr, x = Aw := ⟨_, rfl⟩
                  obtain ⟨cn, hcn⟩ : ∃ x : Nat, x = cw := ⟨_, rfl⟩
                  refine x_round (e' := [(4, .pointer (some ⟨g4, 0, none⟩)), (5, .pointer (some ⟨g5, 0, none⟩)), (6, .bool false), (7, .pointer (some ⟨g23, 0, none⟩)), (8, .pointer (some ⟨gL26, 0, none⟩)), (11, .slice (An) (xn).length (cn)), (57, .slice Aq lq cq), (58, i64 (lq : Int)), (59, i64 ((i + 1) : Int))]) ⟨rfl, rfl, rfl, rfl, rfl, (by rw [hxn, hAn, hcn]; first | rfl | (rw [List.length_append, List.length_singleton]; rfl)), rfl, rfl, rfl, trivial⟩ (by rw [hm0]; omega) ⟨i + 1, dn, _, ln, xn, _, An, cn, rfl, rfl, by omega, by rw [hxn, hln, hdn]; exact hkl, by rw [hdn]; exact hd23, by rw [hln]; exact hL26, hohL26_hd23, hohL26_hw, by rw [hxn, hAn, hcn]; first | exact hw | (rw [List.length_append, List.length_singleton]; exact hw), aphd23_hw, hb4, hb5, hohb4_hd23, hohb5_hd23, hohb4_hw, hohb5_hw, hq, hBu, hKu, hBv, hKv, hnib, HC⟩
                ·
                  have q91 := of_decide_eq_false q91
                  refine wl_s (gd_ rfl rfl rfl rfl rfl rfl) rfl rfl ?_
                  refine wl_s (gd_ rfl rfl rfl rfl rfl rfl) rfl rfl ?_
                  refine wl_s (gd_ rfl rfl rfl rfl rfl rfl) rfl rfl ?_
                  refine wl rfl rfl rfl (p_pickF rfl rfl) ?_
                  refine wl_nil ?_
                  refine x_seq ?_
                  refine wc_no rfl (rfl) ?_
                  refine wc_skip ?_
                  refine x_in_normal ?_
                  refine x_seq ?_
                  refine wc_region ?_
                  refine wl rfl rfl rfl (p_add rfl rfl (w64 (by omega))) ?_
                  refine wl rfl rfl rfl (p_mv rfl) ?_
                  refine wl_nil ?_
                  obtain ⟨xn, hxn⟩ : ∃ x : List (List UInt8), x = xs := ⟨_, rfl⟩
                  obtain ⟨ln, hln⟩ : ∃ x : LS, x = l79 := ⟨_, rfl⟩
                  obtain ⟨dn, hdn⟩ : ∃ x : DS, x = r79.2 := ⟨_, rfl⟩
                  obtain ⟨An, hAn⟩ : ∃ x : Option Addr, x = Aw := ⟨_, rfl⟩
                  obtain ⟨cn, hcn⟩ : ∃ x : Nat, x = cw := ⟨_, rfl⟩
                  refine x_round (e' := [(4, .pointer (some ⟨g4, 0, none⟩)), (5, .pointer (some ⟨g5, 0, none⟩)), (6, .bool false), (7, .pointer (some ⟨g23, 0, none⟩)), (8, .pointer (some ⟨gL26, 0, none⟩)), (11, .slice (An) (xn).length (cn)), (57, .slice Aq lq cq), (58, i64 (lq : Int)), (59, i64 ((i + 1) : Int))]) ⟨rfl, rfl, rfl, rfl, rfl, (by rw [hxn, hAn, hcn]; first | rfl | (rw [List.length_append, List.length_singleton]; rfl)), rfl, rfl, rfl, trivial⟩ (by rw [hm0]; omega) ⟨i + 1, dn, _, ln, xn, _, An, cn, rfl, rfl, by omega, by rw [hxn, hln, hdn]; exact hkl, by rw [hdn]; exact hd23, by rw [hln]; exact hL26, hohL26_hd23, hohL26_hw, by rw [hxn, hAn, hcn]; first | exact hw | (rw [List.length_append, List.length_singleton]; exact hw), aphd23_hw, hb4, hb5, hohb4_hd23, hohb5_hd23, hohb4_hw, hohb5_hw, hq, hBu, hKu, hBv, hKv, hnib, HC⟩
            ·
              have q75 := of_decide_eq_false q75
              refine wl_s (gd_ rfl rfl rfl rfl rfl rfl) rfl rfl ?_
              refine wl_s (gd_ rfl rfl rfl rfl rfl rfl) rfl rfl ?_
              refine wl_s (gd_ rfl rfl rfl rfl rfl rfl) rfl rfl ?_
              refine wl_s (gd_ rfl rfl rfl rfl rfl rfl) rfl rfl ?_
              refine wl_s (gd_ rfl rfl rfl rfl rfl rfl) rfl rfl ?_
              refine wl rfl rfl rfl (p_pickF rfl rfl) ?_
              refine wl_nil ?_
              refine x_seq ?_
              refine wc_no rfl (rfl) ?_
              refine wc_skip ?_
              refine x_seq ?_
              refine wc_seq ?_
              refine wc_region ?_
              refine wl rfl rfl rfl (p_fld (j := 0) Tryd.underlying53 rfl ⟨_, by rfl⟩ rfl rfl) ?_
              refine wl rfl rfl rfl (p_ld Tryd.underlying3 rfl rfl (ld (hb13.cell rfl))) ?_
              refine wl rfl rfl rfl (p_eq rfl rfl) ?_
              refine wl rfl rfl rfl (p_mv rfl) ?_
              refine wl_split (d := 91) rfl (fun q91 => ?_) (fun q91 => ?_)
              ·
                have q91 := of_decide_eq_true q91
                refine wl_g (gd_ rfl rfl rfl rfl rfl rfl) rfl rfl (p_mv rfl) ?_
                have hok93 := hd23.ok
                refine wle_g (gd_ rfl rfl rfl rfl rfl rfl) (e_call ent18 rfl rfl (sync6_any (l := l1) hd23 hL26 hohL26_hd23 (by omega)) ?_)
                rintro _ w19 ⟨O93, wm93, r93, l93, hr93, hl93, rfl, hdn, hO93, hc, hc2, hL2⟩
                refine ⟨_, rfl, ?_⟩
                have hzwm93 := hc.size
                have HC := HC.trans hc (fun _ _ h => h) (fun k hk ht => absurd hk (by have := hd23.lo k ht; omega))
                have hq := hq.ch hc (fun k hk ht => by have h1 := hd23.lo k ht; have h2 : k < w.heap.size := hk; omega)
                have hnib := hnib.ch hc (fun k hk ht => by have h1 := hd23.lo k ht; first | (have h2 : k < w.heap.size := hk; omega) | (have h2 : k = 0 := hk; omega))
                have hltgL26 := hL26.lt
                have hL26 := hL26.ch hc (fun ht => hohL26_hd23 _ ht rfl)
                have hphw := hw.hi
                have hw := hw.other hc (fun k hk ht => aphd23_hw k ht hk)
                have hltg4 := hb4.lt
                have hb4 := hb4.ch hc (fun ht => hohb4_hd23 _ ht rfl)
                have hltg5 := hb5.lt
                have hb5 := hb5.ch hc (fun ht => hohb5_hd23 _ ht rfl)
                have hBu := hBu.ch hc (fun k hk ht => by have h1 := hd23.lo k ht; first | (have h2 : k < w.heap.size := hk; omega) | (have h2 : k = 0 := hk; omega))
                have hKu := hKu.ch hc (fun k hk ht => by have h1 := hd23.lo k ht; first | (have h2 : k < w.heap.size := hk; omega) | (have h2 : k = 0 := hk; omega))
                have hBv := hBv.ch hc (fun k hk ht => by have h1 := hd23.lo k ht; first | (have h2 : k < w.heap.size := hk; omega) | (have h2 : k = 0 := hk; omega))
                have hKv := hKv.ch hc (fun k hk ht => by have h1 := hd23.lo k ht; first | (have h2 : k < w.heap.size := hk; omega) | (have h2 : k = 0 := hk; omega))
                have hB61 := hB61.ch hc (fun k hk ht => by have h1 := hd23.lo k ht; first | (have h2 : k < w.heap.size := hk; omega) | (have h2 : k = 0 := hk; omega))
                have hK61 := hK61.ch hc (fun k hk ht => by have h1 := hd23.lo k ht; first | (have h2 : k < w.heap.size := hk; omega) | (have h2 : k = 0 := hk; omega))
                have hltg13 := hb13.lt
                have hb13 := hb13.ch hc (fun ht => hohb13_hd23 _ ht rfl)
                have hohL26_hd23 : ∀ k, O93 k → k ≠ gL26 := fun k h => (hO93 k h).elim (hohL26_hd23 k) (fun h => by omega)
                have aphd23_hw : ∀ k, O93 k → ¬ G k := fun k h1 h2 => (hO93 k h1).elim (fun h => aphd23_hw k h h2) (fun h => by have := hphw k h2; omega)
                have hohb4_hd23 : ∀ k, O93 k → k ≠ g4 := fun k h => (hO93 k h).elim (hohb4_hd23 k) (fun h => by omega)
                have hohb5_hd23 : ∀ k, O93 k → k ≠ g5 := fun k h => (hO93 k h).elim (hohb5_hd23 k) (fun h => by omega)
                have hohb13_hd23 : ∀ k, O93 k → k ≠ g13 := fun k h => (hO93 k h).elim (hohb13_hd23 k) (fun h => by omega)
                have hd23 := hdn
                have hc := hc2
                have hL26 := hL2
                have hzw19 := hc.size
                have HC := HC.trans hc (fun _ _ h => h) (fun k hk ht => absurd ht (by omega))
                have hq := hq.ch hc (by intro k hk ht; have h2 : k < w.heap.size := hk; first | omega | (dsimp only at *; omega))
                first | have hnib := hnib.ch hc (by intro k hk ht; first | omega | (dsimp only at *; omega)) | have hnib := hnib.chT hc (by intro k hz hk ht; first | omega | (dsimp only at *; omega))
                have hd23 := hd23.other hc (fun k hk ht => by have h1 := hohL26_hd23 k hk; have h2 : k = gL26 := ht; omega)
                have hw := hw.other hc (fun k hk ht => by have h1 := hohL26_hw k hk; have h2 : k = gL26 := ht; omega)
                have hb4 := hb4.ch hc (by omega)
                have hb5 := hb5.ch hc (by omega)
                first | have hBu := hBu.ch hc (by intro k hk ht; first | omega | (dsimp only at *; omega)) | have hBu := hBu.chT hc (by intro k hz hk ht; first | omega | (dsimp only at *; omega))
                first | have hKu := hKu.ch hc (by intro k hk ht; first | omega | (dsimp only at *; omega)) | have hKu := hKu.chT hc (by intro k hz hk ht; first | omega | (dsimp only at *; omega))
                first | have hBv := hBv.ch hc (by intro k hk ht; first | omega | (dsimp only at *; omega)) | have hBv := hBv.chT hc (by intro k hz hk ht; first | omega | (dsimp only at *; omega))
                first | have hKv := hKv.ch hc (by intro k hk ht; first | omega | (dsimp only at *; omega)) | have hKv := hKv.chT hc (by intro k hz hk ht; first | omega | (dsimp only at *; omega))
                first | have hB61 := hB61.ch hc (by intro k hk ht; first | omega | (dsimp only at *; omega)) | have hB61 := hB61.chT hc (by intro k hz hk ht; first | omega | (dsimp only at *; omega))
                first | have hK61 := hK61.ch hc (by intro k hk ht; first | omega | (dsimp only at *; omega)) | have hK61 := hK61.chT hc (by intro k hz hk ht; first | omega | (dsimp only at *; omega))
                have hb13 := hb13.ch hc (by omega)
                obtain ⟨hr93z, hkl⟩ := hkl.sync hok93 hr93 hl93
                refine wl_g (gd_ rfl rfl rfl rfl rfl rfl) rfl rfl (p_ne rfl rfl) ?_
                refine wl rfl rfl rfl (p_pickT rfl rfl) ?_
                refine wl_nil ?_
                refine x_seq ?_
                refine wc_no rfl (decide_eq_false (fun h => h hr93z)) ?_
                refine wc_skip ?_
                refine x_in_normal ?_
                refine x_seq ?_
                refine wc_region ?_
                refine wl rfl rfl rfl (p_add rfl rfl (w64 (by omega))) ?_
                refine wl rfl rfl rfl (p_mv rfl) ?_
                refine wl_nil ?_
                obtain ⟨xn, hxn⟩ : ∃ x : List (List UInt8), x = xs := ⟨_, rfl⟩
                obtain ⟨ln, hln⟩ : ∃ x : LS, x = l93 := ⟨_, rfl⟩
                obtain ⟨dn, hdn⟩ : ∃ x : DS, x = r93.2 := ⟨_, rfl⟩
                obtain ⟨An, hAn⟩ : ∃ x : Option Addr, x = Aw := ⟨_, rfl⟩
                obtain ⟨cn, hcn⟩ : ∃ x : Nat, x = cw := ⟨_, rfl⟩
                refine x_round (e' := [(4, .pointer (some ⟨g4, 0, none⟩)), (5, .pointer (some ⟨g5, 0, none⟩)), (6, .bool false), (7, .pointer (some ⟨g23, 0, none⟩)), (8, .pointer (some ⟨gL26, 0, none⟩)), (11, .slice (An) (xn).length (cn)), (57, .slice Aq lq cq), (58, i64 (lq : Int)), (59, i64 ((i + 1) : Int))]) ⟨rfl, rfl, rfl, rfl, rfl, (by rw [hxn, hAn, hcn]; first | rfl | (rw [List.length_append, List.length_singleton]; rfl)), rfl, rfl, rfl, trivial⟩ (by rw [hm0]; omega) ⟨i + 1, dn, _, ln, xn, _, An, cn, rfl, rfl, by omega, by rw [hxn, hln, hdn]; exact hkl, by rw [hdn]; exact hd23, by rw [hln]; exact hL26, hohL26_hd23, hohL26_hw, by rw [hxn, hAn, hcn]; first | exact hw | (rw [List.length_append, List.length_singleton]; exact hw), aphd23_hw, hb4, hb5, hohb4_hd23, hohb5_hd23, hohb4_hw, hohb5_hw, hq, hBu, hKu, hBv, hKv, hnib, HC⟩
              ·
                have q91 := of_decide_eq_false q91
                refine wl_s (gd_ rfl rfl rfl rfl rfl rfl) rfl rfl ?_
                refine wl_s (gd_ rfl rfl rfl rfl rfl rfl) rfl rfl ?_
                refine wl_s (gd_ rfl rfl rfl rfl rfl rfl) rfl rfl ?_
                refine wl rfl rfl rfl (p_pickF rfl rfl) ?_
                refine wl_nil ?_
                refine x_seq ?_
                refine wc_no rfl (rfl) ?_
                refine wc_skip ?_
                refine x_in_normal ?_
                refine x_seq ?_
                refine wc_region ?_
                refine wl rfl rfl rfl (p_add rfl rfl (w64 (by omega))) ?_
                refine wl rfl rfl rfl (p_mv rfl) ?_
                refine wl_nil ?_
                obtain ⟨xn, hxn⟩ : ∃ x : List (List UInt8), x = xs := ⟨_, rfl⟩
                obtain ⟨ln, hln⟩ : ∃ x : LS, x = l1 := ⟨_, rfl⟩
                obtain ⟨dn, hdn⟩ : ∃ x : DS, x = dd := ⟨_, rfl⟩
                obtain ⟨An, hAn⟩ : ∃ x : Option Addr, x = Aw := ⟨_, rfl⟩
                obtain ⟨cn, hcn⟩ : ∃ x : Nat, x = cw := ⟨_, rfl⟩
                refine x_round (e' := [(4, .pointer (some ⟨g4, 0, none⟩)), (5, .pointer (some ⟨g5, 0, none⟩)), (6, .bool false), (7, .pointer (some ⟨g23, 0, none⟩)), (8, .pointer (some ⟨gL26, 0, none⟩)), (11, .slice (An) (xn).length (cn)), (57, .slice Aq lq cq), (58, i64 (lq : Int)), (59, i64 ((i + 1) : Int))]) ⟨rfl, rfl, rfl, rfl, rfl, (by rw [hxn, hAn, hcn]; first | rfl | (rw [List.length_append, List.length_singleton]; rfl)), rfl, rfl, rfl, trivial⟩ (by rw [hm0]; omega) ⟨i + 1, dn, _, ln, xn, _, An, cn, rfl, rfl, by omega, by rw [hxn, hln, hdn]; exact hkl, by rw [hdn]; exact hd23, by rw [hln]; exact hL26, hohL26_hd23, hohL26_hw, by rw [hxn, hAn, hcn]; first | exact hw | (rw [List.length_append, List.length_singleton]; exact hw), aphd23_hw, hb4, hb5, hohb4_hd23, hohb5_hd23, hohb4_hw, hohb5_hw, hq, hBu, hKu, hBv, hKv, hnib, HC⟩
      ·
        have c1 := of_decide_eq_false c1
        refine wc_exit ?_
        refine x_then_exit ?_
        refine x_then_exit ?_
        refine x_in_here ?_
        refine x_seq ?_
        refine wc_seq ?_
        refine wc_region ?_
        refine wl rfl rfl rfl (p_mv rfl) ?_
        refine wle rfl (e_call ent19 rfl rfl (synced6_any (l := l1) hL26) ?_)
        rintro _ w20 ⟨rfl, hc⟩
        refine ⟨_, rfl, ?_⟩
        have hzw20 := hc.size
        have HC := HC.tr hc
        have hq := hq.no hc
        have hnib := hnib.no hc
        have hphd23 := hd23.hi
        have hd23 := hd23.no hc
        have hL26 := hL26.ch hc (fun h => h)
        have hphw := hw.hi
        have hw := hw.no hc
        have hb4 := hb4.ch hc (fun h => h)
        have hb5 := hb5.ch hc (fun h => h)
        have hBu := hBu.no hc
        have hKu := hKu.no hc
        have hBv := hBv.no hc
        have hKv := hKv.no hc
        refine wl rfl rfl rfl (p_as rfl) ?_
        refine wl_nil ?_
        refine x_seq ?_
        refine wc_seq ?_
        refine wc_seq ?_
        refine wc_region ?_
        refine wl rfl rfl rfl (p_mv rfl) ?_
        refine wl rfl rfl rfl (p_fld (j := 4) Tryd.underlying53 rfl ⟨_, by rfl⟩ rfl rfl) ?_
        refine wl rfl rfl rfl (p_ld Tryd.underlying45 rfl rfl (ld (hb4.cell rfl))) ?_
        have hki := hkl.ki hd23.ok
        have hcn := hkl.cnt
        have hsl := hkl.le
        have hsh := hkl.sh
        have hoff := hkl.log.calm.off
        refine wle rfl (e_call ent21 rfl rfl (crash_any (tn := 0) hd23.at_ (hKu) (by have := (hKu).cap; omega) (fun k hk => .inl (fun hf => hf.elim (fun h => by have h1 := hd23.lo k h; have h2 : k < w.heap.size := hk; omega) (fun h => by have h2 : k < w.heap.size := hk; omega))) hd23.ok hd23.hn (fun _ h => .inr h)) ?_)
        rintro _ w21 ⟨rfl, hdk, hc⟩
        refine ⟨_, rfl, ?_⟩
        obtain ⟨O102, hdn, hO102, hc⟩ := hd23.next hdk hc (cr_ok hd23.ok _ _) (Nat.le_trans (cr_arm _ _) hd23.arm) (by rw [cr_keep]; exact hd23.kp) (by omega)
        have hzw21 := hc.size
        have HC := HC.trans hc (fun _ _ h => h) (fun k hk ht => absurd hk (by have := hd23.lo k ht; omega))
        have hq := hq.ch hc (fun k hk ht => by have h1 := hd23.lo k ht; have h2 : k < w.heap.size := hk; omega)
        have hnib := hnib.ch hc (fun k hk ht => by have h1 := hd23.lo k ht; first | (have h2 : k < w.heap.size := hk; omega) | (have h2 : k = 0 := hk; omega))
        have hltgL26 := hL26.lt
        have hL26 := hL26.ch hc (fun ht => hohL26_hd23 _ ht rfl)
        have hphw := hw.hi
        have hw := hw.other hc (fun k hk ht => aphd23_hw k ht hk)
        have hltg4 := hb4.lt
        have hb4 := hb4.ch hc (fun ht => hohb4_hd23 _ ht rfl)
        have hltg5 := hb5.lt
        have hb5 := hb5.ch hc (fun ht => hohb5_hd23 _ ht rfl)
        have hBu := hBu.ch hc (fun k hk ht => by have h1 := hd23.lo k ht; first | (have h2 : k < w.heap.size := hk; omega) | (have h2 : k = 0 := hk; omega))
        have hKu := hKu.ch hc (fun k hk ht => by have h1 := hd23.lo k ht; first | (have h2 : k < w.heap.size := hk; omega) | (have h2 : k = 0 := hk; omega))
        have hBv := hBv.ch hc (fun k hk ht => by have h1 := hd23.lo k ht; first | (have h2 : k < w.heap.size := hk; omega) | (have h2 : k = 0 := hk; omega))
        have hKv := hKv.ch hc (fun k hk ht => by have h1 := hd23.lo k ht; first | (have h2 : k < w.heap.size := hk; omega) | (have h2 : k = 0 := hk; omega))
        have hohL26_hd23 : ∀ k, O102 k → k ≠ gL26 := fun k h => (hO102 k h).elim (hohL26_hd23 k) (fun h => by omega)
        have aphd23_hw : ∀ k, O102 k → ¬ G k := fun k h1 h2 => (hO102 k h1).elim (fun h => aphd23_hw k h h2) (fun h => by have := hphw k h2; omega)
        have hohb4_hd23 : ∀ k, O102 k → k ≠ g4 := fun k h => (hO102 k h).elim (hohb4_hd23 k) (fun h => by omega)
        have hohb5_hd23 : ∀ k, O102 k → k ≠ g5 := fun k h => (hO102 k h).elim (hohb5_hd23 k) (fun h => by omega)
        have hd23 := hdn
        obtain ⟨hki, hof2, hcr1⟩ := hki.crs hoff au.keep
        refine wl rfl rfl rfl (p_not rfl) ?_
        refine wl rfl rfl rfl (p_mv rfl) ?_
        refine wl_know (d := 104) (b' := false) rfl (by rw [hcr1]; rfl) ?_
        refine wl_g (gd_ rfl rfl rfl rfl rfl rfl) rfl rfl (p_mv rfl) ?_
        refine wle_g (gd_ rfl rfl rfl rfl rfl rfl) (e_call ent22 rfl rfl (start_any hd23.at_ ) ?_)
        rintro _ w22 ⟨rfl, hdk, hc⟩
        refine ⟨_, rfl, ?_⟩
        obtain ⟨O106, hdn, hO106, hc⟩ := hd23.next hdk hc (st_ok hd23.ok) (Nat.le_trans st_arm hd23.arm) (by rw [st_keep]; exact hd23.kp) (by omega)
        have hzw22 := hc.size
        have HC := HC.trans hc (fun _ _ h => h) (fun k hk ht => absurd hk (by have := hd23.lo k ht; omega))
        have hq := hq.ch hc (fun k hk ht => by have h1 := hd23.lo k ht; have h2 : k < w.heap.size := hk; omega)
        have hnib := hnib.ch hc (fun k hk ht => by have h1 := hd23.lo k ht; first | (have h2 : k < w.heap.size := hk; omega) | (have h2 : k = 0 := hk; omega))
        have hltgL26 := hL26.lt
        have hL26 := hL26.ch hc (fun ht => hohL26_hd23 _ ht rfl)
        have hphw := hw.hi
        have hw := hw.other hc (fun k hk ht => aphd23_hw k ht hk)
        have hltg4 := hb4.lt
        have hb4 := hb4.ch hc (fun ht => hohb4_hd23 _ ht rfl)
        have hltg5 := hb5.lt
        have hb5 := hb5.ch hc (fun ht => hohb5_hd23 _ ht rfl)
        have hBu := hBu.ch hc (fun k hk ht => by have h1 := hd23.lo k ht; first | (have h2 : k < w.heap.size := hk; omega) | (have h2 : k = 0 := hk; omega))
        have hKu := hKu.ch hc (fun k hk ht => by have h1 := hd23.lo k ht; first | (have h2 : k < w.heap.size := hk; omega) | (have h2 : k = 0 := hk; omega))
        have hBv := hBv.ch hc (fun k hk ht => by have h1 := hd23.lo k ht; first | (have h2 : k < w.heap.size := hk; omega) | (have h2 : k = 0 := hk; omega))
        have hKv := hKv.ch hc (fun k hk ht => by have h1 := hd23.lo k ht; first | (have h2 : k < w.heap.size := hk; omega) | (have h2 : k = 0 := hk; omega))
        have hohL26_hd23 : ∀ k, O106 k → k ≠ gL26 := fun k h => (hO106 k h).elim (hohL26_hd23 k) (fun h => by omega)
        have aphd23_hw : ∀ k, O106 k → ¬ G k := fun k h1 h2 => (hO106 k h1).elim (fun h => aphd23_hw k h h2) (fun h => by have := hphw k h2; omega)
        have hohb4_hd23 : ∀ k, O106 k → k ≠ g4 := fun k h => (hO106 k h).elim (hohb4_hd23 k) (fun h => by omega)
        have hohb5_hd23 : ∀ k, O106 k → k ≠ g5 := fun k h => (hO106 k h).elim (hohb5_hd23 k) (fun h => by omega)
        have hd23 := hdn
        obtain ⟨hki, hcal2, hst1⟩ := hki.start hof2
        refine wl_g (gd_ rfl rfl rfl rfl rfl rfl) rfl rfl (p_not rfl) ?_
        refine wl rfl rfl rfl (p_pickF rfl rfl) ?_
        refine wl_nil ?_
        refine x_seq ?_
        refine wc_no rfl (by rw [hst1]; rfl) ?_
        refine wc_skip ?_
        refine x_seq ?_
        refine wc_seq ?_
        refine wc_region ?_
        refine wl rfl rfl rfl (p_mv rfl) ?_
        refine wl rfl rfl rfl (p_fld (j := 1) Tryd.underlying53 rfl ⟨_, by rfl⟩ rfl rfl) ?_
        refine wl rfl rfl rfl (p_ld Tryd.underlying3 rfl rfl (ld (hb5.cell rfl))) ?_
        refine wl rfl rfl rfl (p_fld (j := 4) Tryd.underlying53 rfl ⟨_, by rfl⟩ rfl rfl) ?_
        refine wl rfl rfl rfl (p_ld Tryd.underlying45 rfl rfl (ld (hb5.cell rfl))) ?_
        refine wle rfl (e_call ent23 rfl rfl (arm_any (tn := 0) hd23.at_ (hKv) (by have := (hKv).cap; omega) (fun _ h => .inr h)) ?_)
        rintro _ w23 ⟨rfl, hdk, hc⟩
        refine ⟨_, rfl, ?_⟩
        obtain ⟨O114, hdn, hO114, hc⟩ := hd23.next hdk hc (arm_ok hd23.ok _ _ _) (arm_arm (by omega) _ _) (Nat.le_trans (Nat.le_of_eq (hKv).len) (by have := (hKv).cap; omega)) (by omega)
        have hzw23 := hc.size
        have HC := HC.trans hc (fun _ _ h => h) (fun k hk ht => absurd hk (by have := hd23.lo k ht; omega))
        have hq := hq.ch hc (fun k hk ht => by have h1 := hd23.lo k ht; have h2 : k < w.heap.size := hk; omega)
        have hnib := hnib.ch hc (fun k hk ht => by have h1 := hd23.lo k ht; first | (have h2 : k < w.heap.size := hk; omega) | (have h2 : k = 0 := hk; omega))
        have hltgL26 := hL26.lt
        have hL26 := hL26.ch hc (fun ht => hohL26_hd23 _ ht rfl)
        have hphw := hw.hi
        have hw := hw.other hc (fun k hk ht => aphd23_hw k ht hk)
        have hltg4 := hb4.lt
        have hb4 := hb4.ch hc (fun ht => hohb4_hd23 _ ht rfl)
        have hltg5 := hb5.lt
        have hb5 := hb5.ch hc (fun ht => hohb5_hd23 _ ht rfl)
        have hBu := hBu.ch hc (fun k hk ht => by have h1 := hd23.lo k ht; first | (have h2 : k < w.heap.size := hk; omega) | (have h2 : k = 0 := hk; omega))
        have hKu := hKu.ch hc (fun k hk ht => by have h1 := hd23.lo k ht; first | (have h2 : k < w.heap.size := hk; omega) | (have h2 : k = 0 := hk; omega))
        have hBv := hBv.ch hc (fun k hk ht => by have h1 := hd23.lo k ht; first | (have h2 : k < w.heap.size := hk; omega) | (have h2 : k = 0 := hk; omega))
        have hKv := hKv.ch hc (fun k hk ht => by have h1 := hd23.lo k ht; first | (have h2 : k < w.heap.size := hk; omega) | (have h2 : k = 0 := hk; omega))
        have hohL26_hd23 : ∀ k, O114 k → k ≠ gL26 := fun k h => (hO114 k h).elim (hohL26_hd23 k) (fun h => by omega)
        have aphd23_hw : ∀ k, O114 k → ¬ G k := fun k h1 h2 => (hO114 k h1).elim (fun h => aphd23_hw k h h2) (fun h => by have := hphw k h2; omega)
        have hohb4_hd23 : ∀ k, O114 k → k ≠ g4 := fun k h => (hO114 k h).elim (hohb4_hd23 k) (fun h => by omega)
        have hohb5_hd23 : ∀ k, O114 k → k ≠ g5 := fun k h => (hO114 k h).elim (hohb5_hd23 k) (fun h => by omega)
        have hd23 := hdn
        have hki := hki.arm hcal2.off av.a av.keep
        refine wl_nil ?_
        refine x_seq ?_
        refine wc_seq ?_
        refine wc_region ?_
        refine wl rfl rfl rfl (p_mv rfl) ?_
        refine wle rfl (e_call ent14 rfl rfl (open6_any hd23 (by omega) hnib (by omega)) ?_)
        rintro _ w24 ⟨O116, V116, A116, q116, c116, wa116, wb116, r116, hr116, rfl, hdn, hO116, hc, hza116, hzb116, hzc116, hok116, hbad116⟩
        refine ⟨_, rfl, ?_⟩
        have hzw24 := hc.size
        have HC := HC.trans hc (fun _ _ h => h) (fun k hk ht => absurd hk (by have := hd23.lo k ht; omega))
        have hq := hq.ch hc (fun k hk ht => by have h1 := hd23.lo k ht; have h2 : k < w.heap.size := hk; omega)
        have hnib := hnib.ch hc (fun k hk ht => by have h1 := hd23.lo k ht; first | (have h2 : k < w.heap.size := hk; omega) | (have h2 : k = 0 := hk; omega))
        have hltgL26 := hL26.lt
        have hL26 := hL26.ch hc (fun ht => hohL26_hd23 _ ht rfl)
        have hphw := hw.hi
        have hw := hw.other hc (fun k hk ht => aphd23_hw k ht hk)
        have hltg4 := hb4.lt
        have hb4 := hb4.ch hc (fun ht => hohb4_hd23 _ ht rfl)
        have hltg5 := hb5.lt
        have hb5 := hb5.ch hc (fun ht => hohb5_hd23 _ ht rfl)
        have hBu := hBu.ch hc (fun k hk ht => by have h1 := hd23.lo k ht; first | (have h2 : k < w.heap.size := hk; omega) | (have h2 : k = 0 := hk; omega))
        have hKu := hKu.ch hc (fun k hk ht => by have h1 := hd23.lo k ht; first | (have h2 : k < w.heap.size := hk; omega) | (have h2 : k = 0 := hk; omega))
        have hBv := hBv.ch hc (fun k hk ht => by have h1 := hd23.lo k ht; first | (have h2 : k < w.heap.size := hk; omega) | (have h2 : k = 0 := hk; omega))
        have hKv := hKv.ch hc (fun k hk ht => by have h1 := hd23.lo k ht; first | (have h2 : k < w.heap.size := hk; omega) | (have h2 : k = 0 := hk; omega))
        have hohL26_hd23 : ∀ k, O116 k → k ≠ gL26 := fun k h => (hO116 k h).elim (hohL26_hd23 k) (fun h => by omega)
        have aphd23_hw : ∀ k, O116 k → ¬ G k := fun k h1 h2 => (hO116 k h1).elim (fun h => aphd23_hw k h h2) (fun h => by have := hphw k h2; omega)
        have hohb4_hd23 : ∀ k, O116 k → k ≠ g4 := fun k h => (hO116 k h).elim (hohb4_hd23 k) (fun h => by omega)
        have hohb5_hd23 : ∀ k, O116 k → k ≠ g5 := fun k h => (hO116 k h).elim (hohb5_hd23 k) (fun h => by omega)
        have hd23 := hdn
        have hki := hki.opn hsh hsl (by omega) hcn
        rw [← hr116] at hki
        refine wl_nil ?_
        refine x_seq ?_
        refine wc_seq ?_
        refine wc_seq ?_
        refine wc_region ?_
        refine wl rfl rfl rfl (p_mv rfl) ?_
        refine wle rfl (e_call ent24 rfl rfl (on_any hd23.at_) ?_)
        rintro _ w25 ⟨rfl, hc⟩
        refine ⟨_, rfl, ?_⟩
        have hzw25 := hc.size
        have HC := HC.tr hc
        have hq := hq.no hc
        have hnib := hnib.no hc
        have hphd23 := hd23.hi
        have hd23 := hd23.no hc
        have hL26 := hL26.ch hc (fun h => h)
        have hphw := hw.hi
        have hw := hw.no hc
        have hb4 := hb4.ch hc (fun h => h)
        have hb5 := hb5.ch hc (fun h => h)
        have hBu := hBu.no hc
        have hKu := hKu.no hc
        have hBv := hBv.no hc
        have hKv := hKv.no hc
        refine wl_nil ?_
        refine x_seq ?_
        refine wc_if rfl (fun c6 => ?_) (fun c6 => ?_)
        ·
          have hon : r116.2.off = false := by simpa using c6
          refine wc_region ?_
          refine wl rfl rfl rfl (p_mv rfl) ?_
          refine wl rfl rfl rfl (p_fld (j := 4) Tryd.underlying53 rfl ⟨_, by rfl⟩ rfl rfl) ?_
          refine wl rfl rfl rfl (p_ld Tryd.underlying45 rfl rfl (ld (hb5.cell rfl))) ?_
          refine wle rfl (e_call ent21 rfl rfl (crash_any (tn := 0) hd23.at_ (hKv) (by have := (hKv).cap; omega) (fun k hk => .inl (fun hf => hf.elim (fun h => by have h1 := hd23.lo k h; have h2 : k < w.heap.size := hk; omega) (fun h => by have h2 : k < w.heap.size := hk; omega))) hd23.ok hd23.hn (fun _ h => .inr h)) ?_)
          rintro _ w26 ⟨rfl, hdk, hc⟩
          refine ⟨_, rfl, ?_⟩
          obtain ⟨O122, hdn, hO122, hc⟩ := hd23.next hdk hc (cr_ok hd23.ok _ _) (Nat.le_trans (cr_arm _ _) hd23.arm) (by rw [cr_keep]; exact hd23.kp) (by omega)
          have hzw26 := hc.size
          have HC := HC.trans hc (fun _ _ h => h) (fun k hk ht => absurd hk (by have := hd23.lo k ht; omega))
          have hq := hq.ch hc (fun k hk ht => by have h1 := hd23.lo k ht; have h2 : k < w.heap.size := hk; omega)
          have hnib := hnib.ch hc (fun k hk ht => by have h1 := hd23.lo k ht; first | (have h2 : k < w.heap.size := hk; omega) | (have h2 : k = 0 := hk; omega))
          have hltgL26 := hL26.lt
          have hL26 := hL26.ch hc (fun ht => hohL26_hd23 _ ht rfl)
          have hphw := hw.hi
          have hw := hw.other hc (fun k hk ht => aphd23_hw k ht hk)
          have hltg4 := hb4.lt
          have hb4 := hb4.ch hc (fun ht => hohb4_hd23 _ ht rfl)
          have hltg5 := hb5.lt
          have hb5 := hb5.ch hc (fun ht => hohb5_hd23 _ ht rfl)
          have hBu := hBu.ch hc (fun k hk ht => by have h1 := hd23.lo k ht; first | (have h2 : k < w.heap.size := hk; omega) | (have h2 : k = 0 := hk; omega))
          have hKu := hKu.ch hc (fun k hk ht => by have h1 := hd23.lo k ht; first | (have h2 : k < w.heap.size := hk; omega) | (have h2 : k = 0 := hk; omega))
          have hBv := hBv.ch hc (fun k hk ht => by have h1 := hd23.lo k ht; first | (have h2 : k < w.heap.size := hk; omega) | (have h2 : k = 0 := hk; omega))
          have hKv := hKv.ch hc (fun k hk ht => by have h1 := hd23.lo k ht; first | (have h2 : k < w.heap.size := hk; omega) | (have h2 : k = 0 := hk; omega))
          have hohL26_hd23 : ∀ k, O122 k → k ≠ gL26 := fun k h => (hO122 k h).elim (hohL26_hd23 k) (fun h => by omega)
          have aphd23_hw : ∀ k, O122 k → ¬ G k := fun k h1 h2 => (hO122 k h1).elim (fun h => aphd23_hw k h h2) (fun h => by have := hphw k h2; omega)
          have hohb4_hd23 : ∀ k, O122 k → k ≠ g4 := fun k h => (hO122 k h).elim (hohb4_hd23 k) (fun h => by omega)
          have hohb5_hd23 : ∀ k, O122 k → k ≠ g5 := fun k h => (hO122 k h).elim (hohb5_hd23 k) (fun h => by omega)
          have hd23 := hdn
          obtain ⟨hki, hof3, hcr2⟩ := hki.crs hon av.keep
          refine wl_nil ?_
          refine x_seq ?_
          refine wc_seq ?_
          refine wc_region ?_
          refine wl rfl rfl rfl (p_mv rfl) ?_
          refine wle rfl (e_call ent22 rfl rfl (start_any hd23.at_ ) ?_)
          rintro _ w27 ⟨rfl, hdk, hc⟩
          refine ⟨_, rfl, ?_⟩
          obtain ⟨O124, hdn, hO124, hc⟩ := hd23.next hdk hc (st_ok hd23.ok) (Nat.le_trans st_arm hd23.arm) (by rw [st_keep]; exact hd23.kp) (by omega)
          have hzw27 := hc.size
          have HC := HC.trans hc (fun _ _ h => h) (fun k hk ht => absurd hk (by have := hd23.lo k ht; omega))
          have hq := hq.ch hc (fun k hk ht => by have h1 := hd23.lo k ht; have h2 : k < w.heap.size := hk; omega)
          have hnib := hnib.ch hc (fun k hk ht => by have h1 := hd23.lo k ht; first | (have h2 : k < w.heap.size := hk; omega) | (have h2 : k = 0 := hk; omega))
          have hltgL26 := hL26.lt
          have hL26 := hL26.ch hc (fun ht => hohL26_hd23 _ ht rfl)
          have hphw := hw.hi
          have hw := hw.other hc (fun k hk ht => aphd23_hw k ht hk)
          have hltg4 := hb4.lt
          have hb4 := hb4.ch hc (fun ht => hohb4_hd23 _ ht rfl)
          have hltg5 := hb5.lt
          have hb5 := hb5.ch hc (fun ht => hohb5_hd23 _ ht rfl)
          have hBu := hBu.ch hc (fun k hk ht => by have h1 := hd23.lo k ht; first | (have h2 : k < w.heap.size := hk; omega) | (have h2 : k = 0 := hk; omega))
          have hKu := hKu.ch hc (fun k hk ht => by have h1 := hd23.lo k ht; first | (have h2 : k < w.heap.size := hk; omega) | (have h2 : k = 0 := hk; omega))
          have hBv := hBv.ch hc (fun k hk ht => by have h1 := hd23.lo k ht; first | (have h2 : k < w.heap.size := hk; omega) | (have h2 : k = 0 := hk; omega))
          have hKv := hKv.ch hc (fun k hk ht => by have h1 := hd23.lo k ht; first | (have h2 : k < w.heap.size := hk; omega) | (have h2 : k = 0 := hk; omega))
          have hohL26_hd23 : ∀ k, O124 k → k ≠ gL26 := fun k h => (hO124 k h).elim (hohL26_hd23 k) (fun h => by omega)
          have aphd23_hw : ∀ k, O124 k → ¬ G k := fun k h1 h2 => (hO124 k h1).elim (fun h => aphd23_hw k h h2) (fun h => by have := hphw k h2; omega)
          have hohb4_hd23 : ∀ k, O124 k → k ≠ g4 := fun k h => (hO124 k h).elim (hohb4_hd23 k) (fun h => by omega)
          have hohb5_hd23 : ∀ k, O124 k → k ≠ g5 := fun k h => (hO124 k h).elim (hohb5_hd23 k) (fun h => by omega)
          have hd23 := hdn
          obtain ⟨hki, hcal, hst2⟩ := hki.start hof3
          obtain ⟨j0, hj1, hj2, hoe, hsc, hlgj⟩ := hki.open_calm hcal hsh hsl (by omega) hcn
          refine wl_nil ?_
          refine x_seq ?_
          refine wc_seq ?_
          refine wc_region ?_
          refine wl rfl rfl rfl (p_mv rfl) ?_
          refine wle rfl (e_call ent14 rfl rfl (open6_any hd23 (by omega) hnib (by omega)) ?_)
          rintro _ w28 ⟨O127, V127, A127, q127, c127, wa127, wb127, r127, hr127, rfl, hdn, hO127, hc, hza127, hzb127, hzc127, hok127, hbad127⟩
          refine ⟨_, rfl, ?_⟩
          have hzw28 := hc.size
          have HC := HC.trans hc (fun _ _ h => h) (fun k hk ht => absurd hk (by have := hd23.lo k ht; omega))
          have hq := hq.ch hc (fun k hk ht => by have h1 := hd23.lo k ht; have h2 : k < w.heap.size := hk; omega)
          have hnib := hnib.ch hc (fun k hk ht => by have h1 := hd23.lo k ht; first | (have h2 : k < w.heap.size := hk; omega) | (have h2 : k = 0 := hk; omega))
          have hltgL26 := hL26.lt
          have hL26 := hL26.ch hc (fun ht => hohL26_hd23 _ ht rfl)
          have hphw := hw.hi
          have hw := hw.other hc (fun k hk ht => aphd23_hw k ht hk)
          have hltg4 := hb4.lt
          have hb4 := hb4.ch hc (fun ht => hohb4_hd23 _ ht rfl)
          have hltg5 := hb5.lt
          have hb5 := hb5.ch hc (fun ht => hohb5_hd23 _ ht rfl)
          have hBu := hBu.ch hc (fun k hk ht => by have h1 := hd23.lo k ht; first | (have h2 : k < w.heap.size := hk; omega) | (have h2 : k = 0 := hk; omega))
          have hKu := hKu.ch hc (fun k hk ht => by have h1 := hd23.lo k ht; first | (have h2 : k < w.heap.size := hk; omega) | (have h2 : k = 0 := hk; omega))
          have hBv := hBv.ch hc (fun k hk ht => by have h1 := hd23.lo k ht; first | (have h2 : k < w.heap.size := hk; omega) | (have h2 : k = 0 := hk; omega))
          have hKv := hKv.ch hc (fun k hk ht => by have h1 := hd23.lo k ht; first | (have h2 : k < w.heap.size := hk; omega) | (have h2 : k = 0 := hk; omega))
          have hohL26_hd23 : ∀ k, O127 k → k ≠ gL26 := fun k h => (hO127 k h).elim (hohL26_hd23 k) (fun h => by omega)
          have aphd23_hw : ∀ k, O127 k → ¬ G k := fun k h1 h2 => (hO127 k h1).elim (fun h => aphd23_hw k h h2) (fun h => by have := hphw k h2; omega)
          have hohb4_hd23 : ∀ k, O127 k → k ≠ g4 := fun k h => (hO127 k h).elim (hohb4_hd23 k) (fun h => by omega)
          have hohb5_hd23 : ∀ k, O127 k → k ≠ g5 := fun k h => (hO127 k h).elim (hohb5_hd23 k) (fun h => by omega)
          have hd23 := hdn
          obtain ⟨hohS127_hd23, hS127, gL127, rfl, hgL127, hohL127_hd23, l127, hl127, hL127⟩ := hok127 (by rw [hr127]; exact hoe)
          have hSl127 := hS127.len
          have hLl127 := hL127.lt
          have he127 : r127.1 = 0 := by rw [hr127]; exact hoe
          rw [← hr127] at hlgj
          rw [hsc] at hS127 hSl127
          simp only [List.length_take] at hSl127
          have hq127 : q127 = j0 := by omega
          clear hSl127
          subst q127
          refine wl rfl rfl rfl (p_mv rfl) ?_
          refine wl rfl rfl rfl (p_ext rfl rfl) ?_
          refine wl rfl rfl rfl (p_ext rfl rfl) ?_
          refine wl rfl rfl rfl (p_ext rfl rfl) ?_
          refine wl rfl rfl rfl (p_as rfl) ?_
          refine wl rfl rfl rfl (p_as rfl) ?_
          refine wl rfl rfl rfl (p_as rfl) ?_
          refine wl_nil ?_
          refine x_seq ?_
          refine wc_seq ?_
          refine wc_region ?_
          refine wl rfl rfl rfl (p_mv rfl) ?_
          refine wle rfl (e_call ent14 rfl rfl (open6_any hd23 (by omega) hnib (by omega)) ?_)
          rintro _ w29 ⟨O133, V133, A133, q133, c133, wa133, wb133, r133, hr133, rfl, hdn, hO133, hc, hza133, hzb133, hzc133, hok133, hbad133⟩
          refine ⟨_, rfl, ?_⟩
          have hzw29 := hc.size
          have HC := HC.trans hc (fun _ _ h => h) (fun k hk ht => absurd hk (by have := hd23.lo k ht; omega))
          have hq := hq.ch hc (fun k hk ht => by have h1 := hd23.lo k ht; have h2 : k < w.heap.size := hk; omega)
          have hnib := hnib.ch hc (fun k hk ht => by have h1 := hd23.lo k ht; first | (have h2 : k < w.heap.size := hk; omega) | (have h2 : k = 0 := hk; omega))
          have hltgL26 := hL26.lt
          have hL26 := hL26.ch hc (fun ht => hohL26_hd23 _ ht rfl)
          have hphw := hw.hi
          have hw := hw.other hc (fun k hk ht => aphd23_hw k ht hk)
          have hltg4 := hb4.lt
          have hb4 := hb4.ch hc (fun ht => hohb4_hd23 _ ht rfl)
          have hltg5 := hb5.lt
          have hb5 := hb5.ch hc (fun ht => hohb5_hd23 _ ht rfl)
          have hBu := hBu.ch hc (fun k hk ht => by have h1 := hd23.lo k ht; first | (have h2 : k < w.heap.size := hk; omega) | (have h2 : k = 0 := hk; omega))
          have hKu := hKu.ch hc (fun k hk ht => by have h1 := hd23.lo k ht; first | (have h2 : k < w.heap.size := hk; omega) | (have h2 : k = 0 := hk; omega))
          have hBv := hBv.ch hc (fun k hk ht => by have h1 := hd23.lo k ht; first | (have h2 : k < w.heap.size := hk; omega) | (have h2 : k = 0 := hk; omega))
          have hKv := hKv.ch hc (fun k hk ht => by have h1 := hd23.lo k ht; first | (have h2 : k < w.heap.size := hk; omega) | (have h2 : k = 0 := hk; omega))
          have hS127 := hS127.ch hc (fun k hk ht => by have h1 := hohS127_hd23 k ht; have h2 : wa127.heap.size ≤ k ∧ k < wb127.heap.size := hk; omega)
          have hltgL127 := hL127.lt
          have hL127 := hL127.ch hc (fun ht => hohL127_hd23 _ ht rfl)
          have hohL26_hd23 : ∀ k, O133 k → k ≠ gL26 := fun k h => (hO133 k h).elim (hohL26_hd23 k) (fun h => by omega)
          have aphd23_hw : ∀ k, O133 k → ¬ G k := fun k h1 h2 => (hO133 k h1).elim (fun h => aphd23_hw k h h2) (fun h => by have := hphw k h2; omega)
          have hohb4_hd23 : ∀ k, O133 k → k ≠ g4 := fun k h => (hO133 k h).elim (hohb4_hd23 k) (fun h => by omega)
          have hohb5_hd23 : ∀ k, O133 k → k ≠ g5 := fun k h => (hO133 k h).elim (hohb5_hd23 k) (fun h => by omega)
          have hohS127_hd23 : ∀ k, O133 k → k < wa127.heap.size ∨ wb127.heap.size ≤ k := fun k h => (hO133 k h).elim (hohS127_hd23 k) (fun h => .inr (by omega))
          have hohL127_hd23 : ∀ k, O133 k → k ≠ gL127 := fun k h => (hO133 k h).elim (hohL127_hd23 k) (fun h => by omega)
          have hd23 := hdn
          obtain ⟨hohS133_hd23, hS133, gL133, rfl, hgL133, hohL133_hd23, l133, hl133, hL133⟩ := hok133 (by rw [hr133, hlgj.open])
          have hSl133 := hS133.len
          have hLl133 := hL133.lt
          have hrz133 := log_open hlgj hr133
          obtain ⟨hg133, hq133⟩ := lg_open hlgj hl133 hSl133
          subst hrz133
          rw [hlgj.scan] at hS133
          have hq133b : q133 = j0 := by rw [hq133, List.length_take]; omega
          clear hq133 hSl133
          subst q133
          refine wl rfl rfl rfl (p_mv rfl) ?_
          refine wl rfl rfl rfl (p_ext rfl rfl) ?_
          refine wl rfl rfl rfl (p_ext rfl rfl) ?_
          refine wl rfl rfl rfl (p_ext rfl rfl) ?_
          refine wl rfl rfl rfl (p_as rfl) ?_
          refine wl rfl rfl rfl (p_as rfl) ?_
          refine wl rfl rfl rfl (p_as rfl) ?_
          refine wl_nil ?_
          refine x_seq ?_
          refine wc_seq ?_
          refine wc_seq ?_
          refine wc_region ?_
          refine wl rfl rfl rfl (p_mv rfl) ?_
          refine wl rfl rfl rfl (p_ne rfl rfl) ?_
          refine wl rfl rfl rfl (p_mv rfl) ?_
          refine wl_know (d := 139) (b' := false) rfl (decide_eq_false (fun h => h he127)) ?_
          refine wl_g (gd_ rfl rfl rfl rfl rfl rfl) rfl rfl (p_mv rfl) ?_
          refine wl_g (gd_ rfl rfl rfl rfl rfl rfl) rfl rfl (p_ne rfl rfl) ?_
          refine wl rfl rfl rfl (p_pickF rfl rfl) ?_
          refine wl rfl rfl rfl (p_mv rfl) ?_
          refine wl_know (d := 143) (b' := false) rfl (rfl) ?_
          refine wl_g (gd_ rfl rfl rfl rfl rfl rfl) rfl rfl (p_mv rfl) ?_
          refine wl_g (gd_ rfl rfl rfl rfl rfl rfl) rfl rfl (p_mv rfl) ?_
          refine wle_g (gd_ rfl rfl rfl rfl rfl rfl) (e_call ent12 rfl rfl (same6_any hS127 hS133 (by omega) (by omega)) ?_)
          rintro _ w30 ⟨rfl, hc⟩
          refine ⟨_, rfl, ?_⟩
          have hzw30 := hc.size
          have HC := HC.tr hc
          have hq := hq.no hc
          have hnib := hnib.no hc
          have hphd23 := hd23.hi
          have hd23 := hd23.no hc
          have hL26 := hL26.ch hc (fun h => h)
          have hphw := hw.hi
          have hw := hw.no hc
          have hb4 := hb4.ch hc (fun h => h)
          have hb5 := hb5.ch hc (fun h => h)
          have hBu := hBu.no hc
          have hKu := hKu.no hc
          have hBv := hBv.no hc
          have hKv := hKv.no hc
          have hS127 := hS127.no hc
          have hL127 := hL127.ch hc (fun h => h)
          have hS133 := hS133.no hc
          have hL133 := hL133.ch hc (fun h => h)
          refine wl_g (gd_ rfl rfl rfl rfl rfl rfl) rfl rfl (p_not rfl) ?_
          refine wl rfl rfl rfl (p_pickF rfl rfl) ?_
          refine wl rfl rfl rfl (p_mv rfl) ?_
          refine wl_know (d := 149) (b' := false) rfl (nd rfl) ?_
          refine wl_g (gd_ rfl rfl rfl rfl rfl rfl) rfl rfl (p_mv rfl) ?_
          refine wl_g (gd_ rfl rfl rfl rfl rfl rfl) rfl rfl (p_lenS Tryd.underlying24 rfl) ?_
          refine wl_g (gd_ rfl rfl rfl rfl rfl rfl) rfl rfl (p_mv rfl) ?_
          refine wl_g (gd_ rfl rfl rfl rfl rfl rfl) rfl rfl (p_lt rfl rfl) ?_
          refine wl rfl rfl rfl (p_pickF rfl rfl) ?_
          refine wl rfl rfl rfl (p_mv rfl) ?_
          refine wl_know (d := 155) (b' := false) rfl (decide_eq_false (by omega)) ?_
          refine wl_g (gd_ rfl rfl rfl rfl rfl rfl) rfl rfl (p_mv rfl) ?_
          refine wl_g (gd_ rfl rfl rfl rfl rfl rfl) rfl rfl (p_lenS Tryd.underlying24 rfl) ?_
          refine wl_g (gd_ rfl rfl rfl rfl rfl rfl) rfl rfl (p_mv rfl) ?_
          refine wl_g (gd_ rfl rfl rfl rfl rfl rfl) rfl rfl (p_lenS Tryd.underlying29 rfl) ?_
          refine wl_g (gd_ rfl rfl rfl rfl rfl rfl) rfl rfl (p_gt rfl rfl) ?_
          refine wl rfl rfl rfl (p_pickF rfl rfl) ?_
          refine wl_nil ?_
          refine x_seq ?_
          refine wc_no rfl (decide_eq_false (by omega)) ?_
          refine wc_skip ?_
          refine x_seq ?_
          refine wc_seq ?_
          refine wc_seq ?_
          refine wc_region ?_
          refine wl rfl rfl rfl (p_mv rfl) ?_
          refine wl rfl rfl rfl (p_lenS Tryd.underlying24 rfl) ?_
          refine wl rfl rfl rfl (p_mv rfl) ?_
          refine wl_nil ?_
          refine x_seq ?_
          refine wc_block ?_
          refine wc_loop (e' := [(6, .bool false), (11, .slice Aw xs.length cw), (162, .slice A127 j0 c127), (163, i64 (j0 : Int)), (164, i64 ((0) : Int))]) (fun mz ez uz => ∃ i : Nat, mz = j0 - i ∧ ez = [(6, .bool false), (11, .slice Aw xs.length cw), (162, .slice A127 j0 c127), (163, i64 (j0 : Int)), (164, i64 (i : Int))] ∧ (i ≤ j0) ∧ (SB uz (fun k => wa127.heap.size ≤ k ∧ k < wb127.heap.size) A127 j0 c127 (xs.take j0)) ∧ (CR w uz G 9 (.slice Aw xs.length cw) xs.length (xs.map strV)) ∧ (Sl uz (fun k => k = 0) u32v (some ⟨0, 0, none⟩) 16 16 nib) ∧ (Ch No w uz))
            ⟨rfl, rfl, rfl, rfl, rfl, trivial⟩ ⟨0, rfl, rfl, by omega, hS127, hw, hnib, HC⟩ ?_
          rintro m1 e w31 ⟨i, hm1, rfl, hi, hS127, hw, hnib, HC⟩
          have hzw31 := HC.size
          refine wc_seq ?_
          refine wc_region ?_
          refine wl rfl rfl rfl (p_lt rfl rfl) ?_
          refine wl_nil ?_
          refine x_seq ?_
          refine wc_seq ?_
          refine wc_if rfl (fun c8 => ?_) (fun c8 => ?_)
          ·
            have c8 := of_decide_eq_true c8
            have htg := take_getD (xs := xs) (j := j0) (i := i) (by omega)
            refine wc_skip ?_
            refine x_seq ?_
            refine wc_seq ?_
            refine wc_block ?_
            refine wc_seq ?_
            refine wc_region ?_
            refine wl rfl rfl rfl (p_mv rfl) ?_
            obtain ⟨b32, o32, hA32, hF32, hc32⟩ := hS127.opn (by omega)
            obtain ⟨SA167, sl167, sc167, hcc32, hS167⟩ := hc32 i (by omega)
            have hSl167 := hS167.len
            refine wl rfl rfl rfl (p_ixS1 (j := i) Tryd.underlying24 sz22 rfl hA32 rfl (by omega) (by omega) (Int.toNat_natCast _)) ?_
            refine wl rfl rfl rfl (p_ld Tryd.underlying22 rfl rfl (ld (hcc32))) ?_
            refine wl rfl rfl rfl (p_as rfl) ?_
            refine wl rfl rfl rfl (p_as rfl) ?_
            refine wl_nil ?_
            refine x_seq ?_
            refine wc_seq ?_
            refine wc_draw (.st 0 0 (.st 1 1 (.st 2 0 (.st 3 0 (.st 4 0 (.st 5 1 (.st 6 0 .nil))))))) 7 (by kernel_rfl) (by kernel_rfl) (by kernel_rfl) (by repeat (first | with_reducible exact pan_body | with_reducible apply pan_then | with_reducible apply pan_in)) (fun x => Ch No w31.drew x) (Ch.refl _ _) ?_
            obtain ⟨w33, ew33⟩ : ∃ x, x = w31.drew := ⟨_, rfl⟩
            rw [← ew33]
            have hc : Ch No w31 w33 := by rw [ew33]; exact Ch.drew _
            have hszw33 : w33.heap.size = w31.heap.size := by rw [ew33]; rfl
            clear ew33
            have hzw33 := hc.size
            have HC := HC.tr hc
            have hS127 := hS127.no hc
            have hphw := hw.hi
            have hw := hw.no hc
            have hnib := hnib.no hc
            have hS167 := hS167.no hc
            have hS : Ch No w33 w33 := Ch.refl _ _
            refine ws_p rfl rfl rfl rfl (p_mv rfl) ?_
            refine ws_h rfl rfl rfl rfl (p_bts Tryd.underlying22 Tryd.underlying5 Tryd.underlying9 rfl (hS167).len (fun _ h => (hS167).rd.no h)) ?_
            refine ws_p rfl rfl rfl rfl (p_mv rfl) ?_
            refine ws_p rfl rfl rfl rfl (p_mv rfl) ?_
            obtain ⟨b34, o34, hA34, hF34, hc34⟩ := (hw.at_.sl).opn (d := ([] : List UInt8)) (by omega)
            refine ws_p rfl rfl rfl rfl (p_ixS1 Tryd.underlying29 sz9 rfl hA34 rfl (by omega) (by omega) (Int.toNat_natCast _)) ?_
            refine ws_h rfl rfl rfl rfl (p_ld Tryd.underlying9 rfl rfl (fun _ h => h.cell (fun h => h) (hc34 _ (by omega)))) ?_
            refine ws_p rfl rfl rfl rfl (p_neT rfl rfl) ?_
            refine ws_n ?_
            refine x_seq ?_
            refine wc_no rfl (strs_not htg) ?_
            refine wc_skip ?_
            refine x_in_normal ?_
            refine x_seq ?_
            refine wc_region ?_
            refine wl rfl rfl rfl (p_add rfl rfl (w64 (by omega))) ?_
            refine wl rfl rfl rfl (p_mv rfl) ?_
            refine wl_nil ?_
            refine x_round (e' := [(6, .bool false), (11, .slice Aw xs.length cw), (162, .slice A127 j0 c127), (163, i64 (j0 : Int)), (164, i64 ((i + 1) : Int))]) ⟨rfl, rfl, rfl, rfl, rfl, trivial⟩ (by rw [hm1]; omega) ⟨i + 1, rfl, rfl, by omega, hS127, hw, hnib, HC⟩
          ·
            have c8 := of_decide_eq_false c8
            refine wc_exit ?_
            refine x_then_exit ?_
            refine x_then_exit ?_
            refine x_in_here ?_
            refine x_seq ?_
            refine wc_seq ?_
            refine wc_region ?_
            refine wle rfl (e_call ent9 rfl rfl (lives6_any hnib) ?_)
            rintro _ w35 ⟨rfl, hc⟩
            refine ⟨_, rfl, ?_⟩
            have hzw35 := hc.size
            have HC := HC.tr hc
            have hS127 := hS127.no hc
            have hphw := hw.hi
            have hw := hw.no hc
            have hnib := hnib.no hc
            refine wl rfl rfl rfl (p_as rfl) ?_
            refine wl_nil ?_
            refine x_seq ?_
            refine wc_ret ?_
            refine fin_run (res1 rfl rfl) ?_
            exact ⟨rfl, HC⟩
        ·
          have hof3 : r116.2.off = true := by simpa using c6
          refine wc_skip ?_
          refine x_seq ?_
          refine wc_seq ?_
          refine wc_region ?_
          refine wl rfl rfl rfl (p_mv rfl) ?_
          refine wle rfl (e_call ent22 rfl rfl (start_any hd23.at_ ) ?_)
          rintro _ w36 ⟨rfl, hdk, hc⟩
          refine ⟨_, rfl, ?_⟩
          obtain ⟨O124, hdn, hO124, hc⟩ := hd23.next hdk hc (st_ok hd23.ok) (Nat.le_trans st_arm hd23.arm) (by rw [st_keep]; exact hd23.kp) (by omega)
          have hzw36 := hc.size
          have HC := HC.trans hc (fun _ _ h => h) (fun k hk ht => absurd hk (by have := hd23.lo k ht; omega))
          have hq := hq.ch hc (fun k hk ht => by have h1 := hd23.lo k ht; have h2 : k < w.heap.size := hk; omega)
          have hnib := hnib.ch hc (fun k hk ht => by have h1 := hd23.lo k ht; first | (have h2 : k < w.heap.size := hk; omega) | (have h2 : k = 0 := hk; omega))
          have hltgL26 := hL26.lt
          have hL26 := hL26.ch hc (fun ht => hohL26_hd23 _ ht rfl)
          have hphw := hw.hi
          have hw := hw.other hc (fun k hk ht => aphd23_hw k ht hk)
          have hltg4 := hb4.lt
          have hb4 := hb4.ch hc (fun ht => hohb4_hd23 _ ht rfl)
          have hltg5 := hb5.lt
          have hb5 := hb5.ch hc (fun ht => hohb5_hd23 _ ht rfl)
          have hBu := hBu.ch hc (fun k hk ht => by have h1 := hd23.lo k ht; first | (have h2 : k < w.heap.size := hk; omega) | (have h2 : k = 0 := hk; omega))
          have hKu := hKu.ch hc (fun k hk ht => by have h1 := hd23.lo k ht; first | (have h2 : k < w.heap.size := hk; omega) | (have h2 : k = 0 := hk; omega))
          have hBv := hBv.ch hc (fun k hk ht => by have h1 := hd23.lo k ht; first | (have h2 : k < w.heap.size := hk; omega) | (have h2 : k = 0 := hk; omega))
          have hKv := hKv.ch hc (fun k hk ht => by have h1 := hd23.lo k ht; first | (have h2 : k < w.heap.size := hk; omega) | (have h2 : k = 0 := hk; omega))
          have hohL26_hd23 : ∀ k, O124 k → k ≠ gL26 := fun k h => (hO124 k h).elim (hohL26_hd23 k) (fun h => by omega)
          have aphd23_hw : ∀ k, O124 k → ¬ G k := fun k h1 h2 => (hO124 k h1).elim (fun h => aphd23_hw k h h2) (fun h => by have := hphw k h2; omega)
          have hohb4_hd23 : ∀ k, O124 k → k ≠ g4 := fun k h => (hO124 k h).elim (hohb4_hd23 k) (fun h => by omega)
          have hohb5_hd23 : ∀ k, O124 k → k ≠ g5 := fun k h => (hO124 k h).elim (hohb5_hd23 k) (fun h => by omega)
          have hd23 := hdn
          obtain ⟨hki, hcal, hst2⟩ := hki.start hof3
          obtain ⟨j0, hj1, hj2, hoe, hsc, hlgj⟩ := hki.open_calm hcal hsh hsl (by omega) hcn
          refine wl_nil ?_
          refine x_seq ?_
          refine wc_seq ?_
          refine wc_region ?_
          refine wl rfl rfl rfl (p_mv rfl) ?_
          refine wle rfl (e_call ent14 rfl rfl (open6_any hd23 (by omega) hnib (by omega)) ?_)
          rintro _ w37 ⟨O127, V127, A127, q127, c127, wa127, wb127, r127, hr127, rfl, hdn, hO127, hc, hza127, hzb127, hzc127, hok127, hbad127⟩
          refine ⟨_, rfl, ?_⟩
          have hzw37 := hc.size
          have HC := HC.trans hc (fun _ _ h => h) (fun k hk ht => absurd hk (by have := hd23.lo k ht; omega))
          have hq := hq.ch hc (fun k hk ht => by have h1 := hd23.lo k ht; have h2 : k < w.heap.size := hk; omega)
          have hnib := hnib.ch hc (fun k hk ht => by have h1 := hd23.lo k ht; first | (have h2 : k < w.heap.size := hk; omega) | (have h2 : k = 0 := hk; omega))
          have hltgL26 := hL26.lt
          have hL26 := hL26.ch hc (fun ht => hohL26_hd23 _ ht rfl)
          have hphw := hw.hi
          have hw := hw.other hc (fun k hk ht => aphd23_hw k ht hk)
          have hltg4 := hb4.lt
          have hb4 := hb4.ch hc (fun ht => hohb4_hd23 _ ht rfl)
          have hltg5 := hb5.lt
          have hb5 := hb5.ch hc (fun ht => hohb5_hd23 _ ht rfl)
          have hBu := hBu.ch hc (fun k hk ht => by have h1 := hd23.lo k ht; first | (have h2 : k < w.heap.size := hk; omega) | (have h2 : k = 0 := hk; omega))
          have hKu := hKu.ch hc (fun k hk ht => by have h1 := hd23.lo k ht; first | (have h2 : k < w.heap.size := hk; omega) | (have h2 : k = 0 := hk; omega))
          have hBv := hBv.ch hc (fun k hk ht => by have h1 := hd23.lo k ht; first | (have h2 : k < w.heap.size := hk; omega) | (have h2 : k = 0 := hk; omega))
          have hKv := hKv.ch hc (fun k hk ht => by have h1 := hd23.lo k ht; first | (have h2 : k < w.heap.size := hk; omega) | (have h2 : k = 0 := hk; omega))
          have hohL26_hd23 : ∀ k, O127 k → k ≠ gL26 := fun k h => (hO127 k h).elim (hohL26_hd23 k) (fun h => by omega)
          have aphd23_hw : ∀ k, O127 k → ¬ G k := fun k h1 h2 => (hO127 k h1).elim (fun h => aphd23_hw k h h2) (fun h => by have := hphw k h2; omega)
          have hohb4_hd23 : ∀ k, O127 k → k ≠ g4 := fun k h => (hO127 k h).elim (hohb4_hd23 k) (fun h => by omega)
          have hohb5_hd23 : ∀ k, O127 k → k ≠ g5 := fun k h => (hO127 k h).elim (hohb5_hd23 k) (fun h => by omega)
          have hd23 := hdn
          obtain ⟨hohS127_hd23, hS127, gL127, rfl, hgL127, hohL127_hd23, l127, hl127, hL127⟩ := hok127 (by rw [hr127]; exact hoe)
          have hSl127 := hS127.len
          have hLl127 := hL127.lt
          have he127 : r127.1 = 0 := by rw [hr127]; exact hoe
          rw [← hr127] at hlgj
          rw [hsc] at hS127 hSl127
          simp only [List.length_take] at hSl127
          have hq127 : q127 = j0 := by omega
          clear hSl127
          subst q127
          refine wl rfl rfl rfl (p_mv rfl) ?_
          refine wl rfl rfl rfl (p_ext rfl rfl) ?_
          refine wl rfl rfl rfl (p_ext rfl rfl) ?_
          refine wl rfl rfl rfl (p_ext rfl rfl) ?_
          refine wl rfl rfl rfl (p_as rfl) ?_
          refine wl rfl rfl rfl (p_as rfl) ?_
          refine wl rfl rfl rfl (p_as rfl) ?_
          refine wl_nil ?_
          refine x_seq ?_
          refine wc_seq ?_
          refine wc_region ?_
          refine wl rfl rfl rfl (p_mv rfl) ?_
          refine wle rfl (e_call ent14 rfl rfl (open6_any hd23 (by omega) hnib (by omega)) ?_)
          rintro _ w38 ⟨O133, V133, A133, q133, c133, wa133, wb133, r133, hr133, rfl, hdn, hO133, hc, hza133, hzb133, hzc133, hok133, hbad133⟩
          refine ⟨_, rfl, ?_⟩
          have hzw38 := hc.size
          have HC := HC.trans hc (fun _ _ h => h) (fun k hk ht => absurd hk (by have := hd23.lo k ht; omega))
          have hq := hq.ch hc (fun k hk ht => by have h1 := hd23.lo k ht; have h2 : k < w.heap.size := hk; omega)
          have hnib := hnib.ch hc (fun k hk ht => by have h1 := hd23.lo k ht; first | (have h2 : k < w.heap.size := hk; omega) | (have h2 : k = 0 := hk; omega))
          have hltgL26 := hL26.lt
          have hL26 := hL26.ch hc (fun ht => hohL26_hd23 _ ht rfl)
          have hphw := hw.hi
          have hw := hw.other hc (fun k hk ht => aphd23_hw k ht hk)
          have hltg4 := hb4.lt
          have hb4 := hb4.ch hc (fun ht => hohb4_hd23 _ ht rfl)
          have hltg5 := hb5.lt
          have hb5 := hb5.ch hc (fun ht => hohb5_hd23 _ ht rfl)
          have hBu := hBu.ch hc (fun k hk ht => by have h1 := hd23.lo k ht; first | (have h2 : k < w.heap.size := hk; omega) | (have h2 : k = 0 := hk; omega))
          have hKu := hKu.ch hc (fun k hk ht => by have h1 := hd23.lo k ht; first | (have h2 : k < w.heap.size := hk; omega) | (have h2 : k = 0 := hk; omega))
          have hBv := hBv.ch hc (fun k hk ht => by have h1 := hd23.lo k ht; first | (have h2 : k < w.heap.size := hk; omega) | (have h2 : k = 0 := hk; omega))
          have hKv := hKv.ch hc (fun k hk ht => by have h1 := hd23.lo k ht; first | (have h2 : k < w.heap.size := hk; omega) | (have h2 : k = 0 := hk; omega))
          have hS127 := hS127.ch hc (fun k hk ht => by have h1 := hohS127_hd23 k ht; have h2 : wa127.heap.size ≤ k ∧ k < wb127.heap.size := hk; omega)
          have hltgL127 := hL127.lt
          have hL127 := hL127.ch hc (fun ht => hohL127_hd23 _ ht rfl)
          have hohL26_hd23 : ∀ k, O133 k → k ≠ gL26 := fun k h => (hO133 k h).elim (hohL26_hd23 k) (fun h => by omega)
          have aphd23_hw : ∀ k, O133 k → ¬ G k := fun k h1 h2 => (hO133 k h1).elim (fun h => aphd23_hw k h h2) (fun h => by have := hphw k h2; omega)
          have hohb4_hd23 : ∀ k, O133 k → k ≠ g4 := fun k h => (hO133 k h).elim (hohb4_hd23 k) (fun h => by omega)
          have hohb5_hd23 : ∀ k, O133 k → k ≠ g5 := fun k h => (hO133 k h).elim (hohb5_hd23 k) (fun h => by omega)
          have hohS127_hd23 : ∀ k, O133 k → k < wa127.heap.size ∨ wb127.heap.size ≤ k := fun k h => (hO133 k h).elim (hohS127_hd23 k) (fun h => .inr (by omega))
          have hohL127_hd23 : ∀ k, O133 k → k ≠ gL127 := fun k h => (hO133 k h).elim (hohL127_hd23 k) (fun h => by omega)
          have hd23 := hdn
          obtain ⟨hohS133_hd23, hS133, gL133, rfl, hgL133, hohL133_hd23, l133, hl133, hL133⟩ := hok133 (by rw [hr133, hlgj.open])
          have hSl133 := hS133.len
          have hLl133 := hL133.lt
          have hrz133 := log_open hlgj hr133
          obtain ⟨hg133, hq133⟩ := lg_open hlgj hl133 hSl133
          subst hrz133
          rw [hlgj.scan] at hS133
          have hq133b : q133 = j0 := by rw [hq133, List.length_take]; omega
          clear hq133 hSl133
          subst q133
          refine wl rfl rfl rfl (p_mv rfl) ?_
          refine wl rfl rfl rfl (p_ext rfl rfl) ?_
          refine wl rfl rfl rfl (p_ext rfl rfl) ?_
          refine wl rfl rfl rfl (p_ext rfl rfl) ?_
          refine wl rfl rfl rfl (p_as rfl) ?_
          refine wl rfl rfl rfl (p_as rfl) ?_
          refine wl rfl rfl rfl (p_as rfl) ?_
          refine wl_nil ?_
          refine x_seq ?_
          refine wc_seq ?_
          refine wc_seq ?_
          refine wc_region ?_
          refine wl rfl rfl rfl (p_mv rfl) ?_
          refine wl rfl rfl rfl (p_ne rfl rfl) ?_
          refine wl rfl rfl rfl (p_mv rfl) ?_
          refine wl_know (d := 139) (b' := false) rfl (decide_eq_false (fun h => h he127)) ?_
          refine wl_g (gd_ rfl rfl rfl rfl rfl rfl) rfl rfl (p_mv rfl) ?_
          refine wl_g (gd_ rfl rfl rfl rfl rfl rfl) rfl rfl (p_ne rfl rfl) ?_
          refine wl rfl rfl rfl (p_pickF rfl rfl) ?_
          refine wl rfl rfl rfl (p_mv rfl) ?_
          refine wl_know (d := 143) (b' := false) rfl (rfl) ?_
          refine wl_g (gd_ rfl rfl rfl rfl rfl rfl) rfl rfl (p_mv rfl) ?_
          refine wl_g (gd_ rfl rfl rfl rfl rfl rfl) rfl rfl (p_mv rfl) ?_
          refine wle_g (gd_ rfl rfl rfl rfl rfl rfl) (e_call ent12 rfl rfl (same6_any hS127 hS133 (by omega) (by omega)) ?_)
          rintro _ w39 ⟨rfl, hc⟩
          refine ⟨_, rfl, ?_⟩
          have hzw39 := hc.size
          have HC := HC.tr hc
          have hq := hq.no hc
          have hnib := hnib.no hc
          have hphd23 := hd23.hi
          have hd23 := hd23.no hc
          have hL26 := hL26.ch hc (fun h => h)
          have hphw := hw.hi
          have hw := hw.no hc
          have hb4 := hb4.ch hc (fun h => h)
          have hb5 := hb5.ch hc (fun h => h)
          have hBu := hBu.no hc
          have hKu := hKu.no hc
          have hBv := hBv.no hc
          have hKv := hKv.no hc
          have hS127 := hS127.no hc
          have hL127 := hL127.ch hc (fun h => h)
          have hS133 := hS133.no hc
          have hL133 := hL133.ch hc (fun h => h)
          refine wl_g (gd_ rfl rfl rfl rfl rfl rfl) rfl rfl (p_not rfl) ?_
          refine wl rfl rfl rfl (p_pickF rfl rfl) ?_
          refine wl rfl rfl rfl (p_mv rfl) ?_
          refine wl_know (d := 149) (b' := false) rfl (nd rfl) ?_
          refine wl_g (gd_ rfl rfl rfl rfl rfl rfl) rfl rfl (p_mv rfl) ?_
          refine wl_g (gd_ rfl rfl rfl rfl rfl rfl) rfl rfl (p_lenS Tryd.underlying24 rfl) ?_
          refine wl_g (gd_ rfl rfl rfl rfl rfl rfl) rfl rfl (p_mv rfl) ?_
          refine wl_g (gd_ rfl rfl rfl rfl rfl rfl) rfl rfl (p_lt rfl rfl) ?_
          refine wl rfl rfl rfl (p_pickF rfl rfl) ?_
          refine wl rfl rfl rfl (p_mv rfl) ?_
          refine wl_know (d := 155) (b' := false) rfl (decide_eq_false (by omega)) ?_
          refine wl_g (gd_ rfl rfl rfl rfl rfl rfl) rfl rfl (p_mv rfl) ?_
          refine wl_g (gd_ rfl rfl rfl rfl rfl rfl) rfl rfl (p_lenS Tryd.underlying24 rfl) ?_
          refine wl_g (gd_ rfl rfl rfl rfl rfl rfl) rfl rfl (p_mv rfl) ?_
          refine wl_g (gd_ rfl rfl rfl rfl rfl rfl) rfl rfl (p_lenS Tryd.underlying29 rfl) ?_
          refine wl_g (gd_ rfl rfl rfl rfl rfl rfl) rfl rfl (p_gt rfl rfl) ?_
          refine wl rfl rfl rfl (p_pickF rfl rfl) ?_
          refine wl_nil ?_
          refine x_seq ?_
          refine wc_no rfl (decide_eq_false (by omega)) ?_
          refine wc_skip ?_
          refine x_seq ?_
          refine wc_seq ?_
          refine wc_seq ?_
          refine wc_region ?_
          refine wl rfl rfl rfl (p_mv rfl) ?_
          refine wl rfl rfl rfl (p_lenS Tryd.underlying24 rfl) ?_
          refine wl rfl rfl rfl (p_mv rfl) ?_
          refine wl_nil ?_
          refine x_seq ?_
          refine wc_block ?_
          refine wc_loop (e' := [(6, .bool false), (11, .slice Aw xs.length cw), (162, .slice A127 j0 c127), (163, i64 (j0 : Int)), (164, i64 ((0) : Int))]) (fun mz ez uz => ∃ i : Nat, mz = j0 - i ∧ ez = [(6, .bool false), (11, .slice Aw xs.length cw), (162, .slice A127 j0 c127), (163, i64 (j0 : Int)), (164, i64 (i : Int))] ∧ (i ≤ j0) ∧ (SB uz (fun k => wa127.heap.size ≤ k ∧ k < wb127.heap.size) A127 j0 c127 (xs.take j0)) ∧ (CR w uz G 9 (.slice Aw xs.length cw) xs.length (xs.map strV)) ∧ (Sl uz (fun k => k = 0) u32v (some ⟨0, 0, none⟩) 16 16 nib) ∧ (Ch No w uz))
            ⟨rfl, rfl, rfl, rfl, rfl, trivial⟩ ⟨0, rfl, rfl, by omega, hS127, hw, hnib, HC⟩ ?_
          rintro m1 e w40 ⟨i, hm1, rfl, hi, hS127, hw, hnib, HC⟩
          have hzw40 := HC.size
          refine wc_seq ?_
          refine wc_region ?_
          refine wl rfl rfl rfl (p_lt rfl rfl) ?_
          refine wl_nil ?_
          refine x_seq ?_
          refine wc_seq ?_
          refine wc_if rfl (fun c8 => ?_) (fun c8 => ?_)
          ·
            have c8 := of_decide_eq_true c8
            have htg := take_getD (xs := xs) (j := j0) (i := i) (by omega)
            refine wc_skip ?_
            refine x_seq ?_
            refine wc_seq ?_
            refine wc_block ?_
            refine wc_seq ?_
            refine wc_region ?_
            refine wl rfl rfl rfl (p_mv rfl) ?_
            obtain ⟨b41, o41, hA41, hF41, hc41⟩ := hS127.opn (by omega)
            obtain ⟨SA167, sl167, sc167, hcc41, hS167⟩ := hc41 i (by omega)
            have hSl167 := hS167.len
            refine wl rfl rfl rfl (p_ixS1 (j := i) Tryd.underlying24 sz22 rfl hA41 rfl (by omega) (by omega) (Int.toNat_natCast _)) ?_
            refine wl rfl rfl rfl (p_ld Tryd.underlying22 rfl rfl (ld (hcc41))) ?_
            refine wl rfl rfl rfl (p_as rfl) ?_
            refine wl rfl rfl rfl (p_as rfl) ?_
            refine wl_nil ?_
            refine x_seq ?_
            refine wc_seq ?_
            refine wc_draw (.st 0 0 (.st 1 1 (.st 2 0 (.st 3 0 (.st 4 0 (.st 5 1 (.st 6 0 .nil))))))) 7 (by kernel_rfl) (by kernel_rfl) (by kernel_rfl) (by repeat (first | with_reducible exact pan_body | with_reducible apply pan_then | with_reducible apply pan_in)) (fun x => Ch No w40.drew x) (Ch.refl _ _) ?_
            obtain ⟨w42, ew42⟩ : ∃ x, x = w40.drew := ⟨_, rfl⟩
            rw [← ew42]
            have hc : Ch No w40 w42 := by rw [ew42]; exact Ch.drew _
            have hszw42 : w42.heap.size = w40.heap.size := by rw [ew42]; rfl
            clear ew42
            have hzw42 := hc.size
            have HC := HC.tr hc
            have hS127 := hS127.no hc
            have hphw := hw.hi
            have hw := hw.no hc
            have hnib := hnib.no hc
            have hS167 := hS167.no hc
            have hS : Ch No w42 w42 := Ch.refl _ _
            refine ws_p rfl rfl rfl rfl (p_mv rfl) ?_
            refine ws_h rfl rfl rfl rfl (p_bts Tryd.underlying22 Tryd.underlying5 Tryd.underlying9 rfl (hS167).len (fun _ h => (hS167).rd.no h)) ?_
            refine ws_p rfl rfl rfl rfl (p_mv rfl) ?_
            refine ws_p rfl rfl rfl rfl (p_mv rfl) ?_
            obtain ⟨b43, o43, hA43, hF43, hc43⟩ := (hw.at_.sl).opn (d := ([] : List UInt8)) (by omega)
            refine ws_p rfl rfl rfl rfl (p_ixS1 Tryd.underlying29 sz9 rfl hA43 rfl (by omega) (by omega) (Int.toNat_natCast _)) ?_
            refine ws_h rfl rfl rfl rfl (p_ld Tryd.underlying9 rfl rfl (fun _ h => h.cell (fun h => h) (hc43 _ (by omega)))) ?_
            refine ws_p rfl rfl rfl rfl (p_neT rfl rfl) ?_
            refine ws_n ?_
            refine x_seq ?_
            refine wc_no rfl (strs_not htg) ?_
            refine wc_skip ?_
            refine x_in_normal ?_
            refine x_seq ?_
            refine wc_region ?_
            refine wl rfl rfl rfl (p_add rfl rfl (w64 (by omega))) ?_
            refine wl rfl rfl rfl (p_mv rfl) ?_
            refine wl_nil ?_
            refine x_round (e' := [(6, .bool false), (11, .slice Aw xs.length cw), (162, .slice A127 j0 c127), (163, i64 (j0 : Int)), (164, i64 ((i + 1) : Int))]) ⟨rfl, rfl, rfl, rfl, rfl, trivial⟩ (by rw [hm1]; omega) ⟨i + 1, rfl, rfl, by omega, hS127, hw, hnib, HC⟩
          ·
            have c8 := of_decide_eq_false c8
            refine wc_exit ?_
            refine x_then_exit ?_
            refine x_then_exit ?_
            refine x_in_here ?_
            refine x_seq ?_
            refine wc_seq ?_
            refine wc_region ?_
            refine wle rfl (e_call ent9 rfl rfl (lives6_any hnib) ?_)
            rintro _ w44 ⟨rfl, hc⟩
            refine ⟨_, rfl, ?_⟩
            have hzw44 := hc.size
            have HC := HC.tr hc
            have hS127 := hS127.no hc
            have hphw := hw.hi
            have hw := hw.no hc
            have hnib := hnib.no hc
            refine wl rfl rfl rfl (p_as rfl) ?_
            refine wl_nil ?_
            refine x_seq ?_
            refine wc_ret ?_
            refine fin_run (res1 rfl rfl) ?_
            exact ⟨rfl, HC⟩
end Go.Proofs.YtcgapjieidmkpaaDoor
