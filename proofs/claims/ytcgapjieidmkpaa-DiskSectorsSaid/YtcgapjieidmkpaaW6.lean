/-
  Own text, printed by a program of mine (wip/gx): what functions of the program do, walked operation by operation.
-/
import Derived.Test.YtcgapjieidmkpaaProg
import Derived.Test.YtcgapjieidmkpaaGxAgg
import Derived.Test.YtcgapjieidmkpaaTab
import Derived.Test.YtcgapjieidmkpaaPlDisk
import Derived.Test.YtcgapjieidmkpaaPlDiskSt
import Derived.Test.YtcgapjieidmkpaaPlDiskOk
import Derived.Test.YtcgapjieidmkpaaPlDiskC
import Derived.Test.YtcgapjieidmkpaaPlActD
import Derived.Test.YtcgapjieidmkpaaPlActs
import Derived.Test.YtcgapjieidmkpaaPlDiskLaw
import Derived.Test.YtcgapjieidmkpaaDTb
import Derived.Test.YtcgapjieidmkpaaDX
import Derived.Test.YtcgapjieidmkpaaW0
import Derived.Test.YtcgapjieidmkpaaW2
set_option linter.unusedVariables false
namespace Go.Proofs.Ytcgapjieidmkpaa
open Go.RowKit Go.Gx
open Go.Plain
set_option maxHeartbeats 16000000 in
set_option maxRecDepth 20000 in
theorem diskSectors_walk {w : World} {Au : Option Addr} {lu cu : Nat} {Fu : Nat → Prop} {u : List UInt8} {Av : Option Addr} {lv cv : Nat} {Fv : Nat → Prop} {v : List UInt8} {a : ActD} {bA kA : Option Addr} {bl bc kl kc : Nat} {FB FK : Nat → Prop} (hu : Sl w Fu u8v Au lu cu u) (hv : Sl w Fv u8v Av lv cv v) (hB : Sl w FB u8v bA bl bc a.b) (hK : Sl w FK i64 kA kl kc a.keep) (hbz : bc ≤ 140737488351232) (hkz : kc ≤ 17592186044416) (h1a : -9223372036854775808 ≤ a.a) (h2a : a.a ≤ 9223372036854775807) (h1n : -9223372036854775808 ≤ a.n) (h2n : a.n ≤ 9223372036854775807) :
    Calls Try.prog 5 #[.slice Au lu cu, .slice Av lv cv, .agg #[i64 a.kind, i64 a.a, i64 a.n, .slice bA bl bc, .slice kA kl kc]] w fun e w' => e = .returned (.bool true) ∧ Ch No w w' := by
  have hul := hu.len
  have hvl := hv.len
  have huc := hu.cap
  have hvc := hv.cap
  have hkl := hK.len
  have hkc := hK.cap
  have hu := hu.old
  have hv := hv.old
  have hB := hB.old
  have hK := hK.old
  have HC : Ch No w w := Ch.refl _ _
  refine enter' (args := [.slice Au lu cu, .slice Av lv cv, .agg #[i64 a.kind, i64 a.a, i64 a.n, .slice bA bl bc, .slice kA kl kc]]) (n := 186) Try.func5 rfl rfl rfl ?_
  refine wc_seq ?_
  refine wc_region ?_
  refine wle rfl (e_box (cs := #[i64 a.kind, i64 a.a, i64 a.n, .slice bA bl bc, .slice kA kl kc]) rfl rfl rfl (fun w1 g5 hg5 hb5 hc hsz5 => ?_))
  have hzw1 := hc.size
  have HC := HC.tr hc
  have hu := hu.no hc
  have hv := hv.no hc
  have hB := hB.no hc
  have hK := hK.no hc
  have hge5 : w.heap.size ≤ g5 := by have := HC.size; omega
  refine wl rfl rfl rfl (p_as rfl) ?_
  refine wl_nil ?_
  refine x_seq ?_
  refine wc_seq ?_
  refine wc_region ?_
  refine wle rfl (e_call ent10 rfl rfl (new_any (n := 8) (by omega) (by omega)) ?_)
  rintro _ w2 ⟨g21, rfl, hg21, hdk, hc⟩
  refine ⟨_, rfl, ?_⟩
  have hzw2 := hc.size
  have HC := HC.tr hc
  have hu := hu.no hc
  have hv := hv.no hc
  have hB := hB.no hc
  have hK := hK.no hc
  have hb5 := hb5.ch hc (fun h => h)
  obtain ⟨O21, hd21, hOl21⟩ := CD.first (w0 := w) hdk (newD_ok _) (by omega) (Nat.zero_le _) (by omega)
  have hohb5_hd21 : ∀ k, O21 k → k ≠ g5 := fun k h e => by have := hOl21 k h; have := hb5.lt; omega
  refine wl rfl rfl rfl (p_as rfl) ?_
  refine wl_nil ?_
  refine x_seq ?_
  refine wc_seq ?_
  refine wc_seq ?_
  refine wc_region ?_
  refine wl rfl rfl rfl (p_mv rfl) ?_
  refine wl rfl rfl rfl (p_eqPN rfl rfl Try.underlying23) ?_
  refine wl rfl rfl rfl (p_mv rfl) ?_
  refine wl_g (gd_ rfl rfl rfl rfl rfl rfl) rfl rfl (p_mv rfl) ?_
  refine wl_g (gd_ rfl rfl rfl rfl rfl rfl) rfl rfl (p_lenS Try.underlying29 rfl) ?_
  refine wl_g (gd_ rfl rfl rfl rfl rfl rfl) rfl rfl (p_gt rfl rfl) ?_
  refine wl rfl rfl rfl (p_pickF rfl rfl) ?_
  refine wl rfl rfl rfl (p_mv rfl) ?_
  refine wl_split (d := 29) rfl (fun q29 => ?_) (fun q29 => ?_)
  ·
    have q29 := of_decide_eq_true q29
    refine wl_s (gd_ rfl rfl rfl rfl rfl rfl) rfl rfl ?_
    refine wl_s (gd_ rfl rfl rfl rfl rfl rfl) rfl rfl ?_
    refine wl_s (gd_ rfl rfl rfl rfl rfl rfl) rfl rfl ?_
    refine wl rfl rfl rfl (p_pickT rfl rfl) ?_
    refine wl rfl rfl rfl (p_mv rfl) ?_
    refine wl_s (gd_ rfl rfl rfl rfl rfl rfl) rfl rfl ?_
    refine wl_s (gd_ rfl rfl rfl rfl rfl rfl) rfl rfl ?_
    refine wl_s (gd_ rfl rfl rfl rfl rfl rfl) rfl rfl ?_
    refine wl_s (gd_ rfl rfl rfl rfl rfl rfl) rfl rfl ?_
    refine wl rfl rfl rfl (p_pickT rfl rfl) ?_
    refine wl_nil ?_
    refine x_seq ?_
    refine wc_yes rfl (rfl) ?_
    refine wc_seq ?_
    refine wc_region ?_
    refine wl rfl rfl rfl (p_mv rfl) ?_
    refine wl rfl rfl rfl (p_nePN rfl rfl Try.underlying23) ?_
    refine wl rfl rfl rfl (p_mv rfl) ?_
    refine wle_g (gd_ rfl rfl rfl rfl rfl rfl) (e_call ent16 rfl rfl (lives5_any) ?_)
    rintro _ w3 ⟨rfl, hc⟩
    refine ⟨_, rfl, ?_⟩
    have hzw3 := hc.size
    have HC := HC.tr hc
    have hu := hu.no hc
    have hv := hv.no hc
    have hB := hB.no hc
    have hK := hK.no hc
    have hb5 := hb5.ch hc (fun h => h)
    have hphd21 := hd21.hi
    have hd21 := hd21.no hc
    refine wl rfl rfl rfl (p_pickT rfl rfl) ?_
    refine wl rfl rfl rfl (p_as rfl) ?_
    refine wl_nil ?_
    refine x_seq ?_
    refine wc_ret ?_
    refine x_then_ret ?_
    refine fin_run (res1 rfl rfl) ?_
    exact ⟨rfl, HC⟩
  ·
    have q29 := of_decide_eq_false q29
    refine wl_g (gd_ rfl rfl rfl rfl rfl rfl) rfl rfl (p_mv rfl) ?_
    refine wl_g (gd_ rfl rfl rfl rfl rfl rfl) rfl rfl (p_lenS Try.underlying29 rfl) ?_
    refine wl_g (gd_ rfl rfl rfl rfl rfl rfl) rfl rfl (p_gt rfl rfl) ?_
    refine wl rfl rfl rfl (p_pickF rfl rfl) ?_
    refine wl rfl rfl rfl (p_mv rfl) ?_
    refine wl_split (d := 34) rfl (fun q34 => ?_) (fun q34 => ?_)
    ·
      have q34 := of_decide_eq_true q34
      refine wl_s (gd_ rfl rfl rfl rfl rfl rfl) rfl rfl ?_
      refine wl_s (gd_ rfl rfl rfl rfl rfl rfl) rfl rfl ?_
      refine wl_s (gd_ rfl rfl rfl rfl rfl rfl) rfl rfl ?_
      refine wl_s (gd_ rfl rfl rfl rfl rfl rfl) rfl rfl ?_
      refine wl rfl rfl rfl (p_pickT rfl rfl) ?_
      refine wl_nil ?_
      refine x_seq ?_
      refine wc_yes rfl (rfl) ?_
      refine wc_seq ?_
      refine wc_region ?_
      refine wl rfl rfl rfl (p_mv rfl) ?_
      refine wl rfl rfl rfl (p_nePN rfl rfl Try.underlying23) ?_
      refine wl rfl rfl rfl (p_mv rfl) ?_
      refine wle_g (gd_ rfl rfl rfl rfl rfl rfl) (e_call ent16 rfl rfl (lives5_any) ?_)
      rintro _ w4 ⟨rfl, hc⟩
      refine ⟨_, rfl, ?_⟩
      have hzw4 := hc.size
      have HC := HC.tr hc
      have hu := hu.no hc
      have hv := hv.no hc
      have hB := hB.no hc
      have hK := hK.no hc
      have hb5 := hb5.ch hc (fun h => h)
      have hphd21 := hd21.hi
      have hd21 := hd21.no hc
      refine wl rfl rfl rfl (p_pickT rfl rfl) ?_
      refine wl rfl rfl rfl (p_as rfl) ?_
      refine wl_nil ?_
      refine x_seq ?_
      refine wc_ret ?_
      refine x_then_ret ?_
      refine fin_run (res1 rfl rfl) ?_
      exact ⟨rfl, HC⟩
    ·
      have q34 := of_decide_eq_false q34
      refine wl_g (gd_ rfl rfl rfl rfl rfl rfl) rfl rfl (p_ldA (cs := [i64 a.kind, i64 a.a, i64 a.n, .slice bA bl bc, .slice kA kl kc]) Try.underlying37 rfl sz37 rfl (fun _ e => e ▸ rngL hb5)) ?_
      have hltg5 := hb5.lt
      refine wle_g (gd_ rfl rfl rfl rfl rfl rfl) (e_bslC (E := 37) rfl rfl (fun _ => by kernel_rfl) (fun w5 g36 hg36 hb36 hc hsz36 => ?_))
      have hzw5 := hc.size
      have HC := HC.tr hc
      have hu := hu.no hc
      have hv := hv.no hc
      have hB := hB.no hc
      have hK := hK.no hc
      have hb5 := hb5.ch hc (fun h => h)
      have hphd21 := hd21.hi
      have hd21 := hd21.no hc
      have hQ36 := SA.one (r := ⟨a.kind, a.a, a.n, bA, bl, bc, kA, kl, kc⟩) (a := a) hb36 ⟨rfl, rfl, rfl, hB, hK, hbz, hkz, h1a, h2a, h1n, h2n⟩
      refine wle_g (gd_ rfl rfl rfl rfl rfl rfl) (e_call ent17 rfl rfl (light_any hQ36 (by omega)) ?_)
      rintro _ w6 ⟨y37, rfl, hc⟩
      refine ⟨_, rfl, ?_⟩
      have hzw6 := hc.size
      have HC := HC.tr hc
      have hu := hu.no hc
      have hv := hv.no hc
      have hB := hB.no hc
      have hK := hK.no hc
      have hb5 := hb5.ch hc (fun h => h)
      have hphd21 := hd21.hi
      have hd21 := hd21.no hc
      refine wl_g (gd_ rfl rfl rfl rfl rfl rfl) rfl rfl (p_not rfl) ?_
      refine wl rfl rfl rfl (p_pickF rfl rfl) ?_
      refine wl_nil ?_
      refine x_seq ?_
      refine wc_if rfl (fun c0 => ?_) (fun c0 => ?_)
      ·
        refine wc_seq ?_
        refine wc_region ?_
        refine wl rfl rfl rfl (p_mv rfl) ?_
        refine wl rfl rfl rfl (p_nePN rfl rfl Try.underlying23) ?_
        refine wl rfl rfl rfl (p_mv rfl) ?_
        refine wle_g (gd_ rfl rfl rfl rfl rfl rfl) (e_call ent16 rfl rfl (lives5_any) ?_)
        rintro _ w7 ⟨rfl, hc⟩
        refine ⟨_, rfl, ?_⟩
        have hzw7 := hc.size
        have HC := HC.tr hc
        have hu := hu.no hc
        have hv := hv.no hc
        have hB := hB.no hc
        have hK := hK.no hc
        have hb5 := hb5.ch hc (fun h => h)
        have hphd21 := hd21.hi
        have hd21 := hd21.no hc
        refine wl rfl rfl rfl (p_pickT rfl rfl) ?_
        refine wl rfl rfl rfl (p_as rfl) ?_
        refine wl_nil ?_
        refine x_seq ?_
        refine wc_ret ?_
        refine x_then_ret ?_
        refine fin_run (res1 rfl rfl) ?_
        exact ⟨rfl, HC⟩
      ·
        refine wc_skip ?_
        refine x_seq ?_
        refine wc_seq ?_
        refine wc_seq ?_
        refine wc_region ?_
        refine wl rfl rfl rfl (p_mv rfl) ?_
        refine wl rfl rfl rfl (p_mv rfl) ?_
        refine wle rfl (e_call ent12 rfl rfl (write_any (a := 0) hd21.at_ hd21.ok hd21.hn (fun _ h => .inr h) hd21.arm (by omega) (by omega) (hu) (fun k hk => (fun hf => hf.elim (fun h => by have h1 := hd21.lo k h; have h2 : k < w.heap.size := hk; omega) (fun h => by have h2 : k < w.heap.size := hk; omega))) (by omega)) ?_)
        rintro _ w8 ⟨rfl, hdk, hc⟩
        refine ⟨_, rfl, ?_⟩
        obtain ⟨O47, hdn, hO47, hc⟩ := hd21.next hdk hc (wr_ok hd21.ok _ _) (Nat.le_trans (wr_arm _ _) hd21.arm) (by omega)
        have hzw8 := hc.size
        have HC := HC.trans hc (fun _ _ h => h) (fun k hk ht => absurd hk (by have := hd21.lo k ht; omega))
        have hu := hu.ch hc (fun k hk ht => by have h1 := hd21.lo k ht; have h2 : k < w.heap.size := hk; omega)
        have hv := hv.ch hc (fun k hk ht => by have h1 := hd21.lo k ht; have h2 : k < w.heap.size := hk; omega)
        have hB := hB.ch hc (fun k hk ht => by have h1 := hd21.lo k ht; have h2 : k < w.heap.size := hk; omega)
        have hK := hK.ch hc (fun k hk ht => by have h1 := hd21.lo k ht; have h2 : k < w.heap.size := hk; omega)
        have hltg5 := hb5.lt
        have hb5 := hb5.ch hc (fun ht => hohb5_hd21 _ ht rfl)
        have hohb5_hd21 : ∀ k, O47 k → k ≠ g5 := fun k h => (hO47 k h).elim (hohb5_hd21 k) (fun h => by omega)
        have hd21 := hdn
        have hw47 := (calm_new 8).wr (a := 0) (b := u) ⟨by omega, by omega, by omega⟩
        obtain ⟨d47, hd47⟩ : ∃ z, z = (wrS 8 (newD 8) 0 u).2 := ⟨_, rfl⟩
        rw [← hd47] at hd21 hw47
        have hcalm := hw47.2.2.2.2
        refine wl rfl rfl rfl (p_ne rfl rfl) ?_
        refine wl rfl rfl rfl (p_mv rfl) ?_
        refine wl_know (d := 49) (b' := false) rfl (decide_eq_false (by rw [hw47.1]; exact fun h => h rfl)) ?_
        refine wl_g (gd_ rfl rfl rfl rfl rfl rfl) rfl rfl (p_mv rfl) ?_
        refine wle_g (gd_ rfl rfl rfl rfl rfl rfl) (e_call ent18 rfl rfl (sync_any hd21.at_ hd21.ok hd21.hn (fun _ h => .inr h) hd21.arm) ?_)
        rintro _ w9 ⟨rfl, hdk, hc⟩
        refine ⟨_, rfl, ?_⟩
        obtain ⟨O51, hdn, hO51, hc⟩ := hd21.next hdk hc (sy_ok hd21.ok) (Nat.le_trans sy_arm hd21.arm) (by omega)
        have hzw9 := hc.size
        have HC := HC.trans hc (fun _ _ h => h) (fun k hk ht => absurd hk (by have := hd21.lo k ht; omega))
        have hu := hu.ch hc (fun k hk ht => by have h1 := hd21.lo k ht; have h2 : k < w.heap.size := hk; omega)
        have hv := hv.ch hc (fun k hk ht => by have h1 := hd21.lo k ht; have h2 : k < w.heap.size := hk; omega)
        have hB := hB.ch hc (fun k hk ht => by have h1 := hd21.lo k ht; have h2 : k < w.heap.size := hk; omega)
        have hK := hK.ch hc (fun k hk ht => by have h1 := hd21.lo k ht; have h2 : k < w.heap.size := hk; omega)
        have hltg5 := hb5.lt
        have hb5 := hb5.ch hc (fun ht => hohb5_hd21 _ ht rfl)
        have hohb5_hd21 : ∀ k, O51 k → k ≠ g5 := fun k h => (hO51 k h).elim (hohb5_hd21 k) (fun h => by omega)
        have hd21 := hdn
        have hcs := hcalm.sy
        obtain ⟨d51, hd51⟩ : ∃ z, z = (syS d47).2 := ⟨_, rfl⟩
        rw [← hd51] at hd21 hcs
        have hcalm := hcs.2.2.2
        have hok51 := hd21.ok
        refine wl_g (gd_ rfl rfl rfl rfl rfl rfl) rfl rfl (p_ne rfl rfl) ?_
        refine wl rfl rfl rfl (p_pickF rfl rfl) ?_
        refine wl rfl rfl rfl (p_mv rfl) ?_
        refine wl_know (d := 54) (b' := false) rfl (decide_eq_false (by rw [hcs.1]; exact fun h => h rfl)) ?_
        refine wl_g (gd_ rfl rfl rfl rfl rfl rfl) rfl rfl (p_mv rfl) ?_
        refine wl_g (gd_ rfl rfl rfl rfl rfl rfl) rfl rfl (p_mv rfl) ?_
        refine wle_g (gd_ rfl rfl rfl rfl rfl rfl) (e_call ent12 rfl rfl (write_any (a := 0) hd21.at_ hd21.ok hd21.hn (fun _ h => .inr h) hd21.arm (by omega) (by omega) (hv) (fun k hk => (fun hf => hf.elim (fun h => by have h1 := hd21.lo k h; have h2 : k < w.heap.size := hk; omega) (fun h => by have h2 : k < w.heap.size := hk; omega))) (by omega)) ?_)
        rintro _ w10 ⟨rfl, hdk, hc⟩
        refine ⟨_, rfl, ?_⟩
        obtain ⟨O57, hdn, hO57, hc⟩ := hd21.next hdk hc (wr_ok hd21.ok _ _) (Nat.le_trans (wr_arm _ _) hd21.arm) (by omega)
        have hzw10 := hc.size
        have HC := HC.trans hc (fun _ _ h => h) (fun k hk ht => absurd hk (by have := hd21.lo k ht; omega))
        have hu := hu.ch hc (fun k hk ht => by have h1 := hd21.lo k ht; have h2 : k < w.heap.size := hk; omega)
        have hv := hv.ch hc (fun k hk ht => by have h1 := hd21.lo k ht; have h2 : k < w.heap.size := hk; omega)
        have hB := hB.ch hc (fun k hk ht => by have h1 := hd21.lo k ht; have h2 : k < w.heap.size := hk; omega)
        have hK := hK.ch hc (fun k hk ht => by have h1 := hd21.lo k ht; have h2 : k < w.heap.size := hk; omega)
        have hltg5 := hb5.lt
        have hb5 := hb5.ch hc (fun ht => hohb5_hd21 _ ht rfl)
        have hohb5_hd21 : ∀ k, O57 k → k ≠ g5 := fun k h => (hO57 k h).elim (hohb5_hd21 k) (fun h => by omega)
        have hd21 := hdn
        have hw57 := hcalm.wr (a := 0) (b := v) ⟨by omega, by omega, by omega⟩
        obtain ⟨d57, hd57⟩ : ∃ z, z = (wrS 8 d51 0 v).2 := ⟨_, rfl⟩
        rw [← hd57] at hd21 hw57
        have hcalm := hw57.2.2.2.2
        have hok57 := hd21.ok
        refine wl_g (gd_ rfl rfl rfl rfl rfl rfl) rfl rfl (p_ne rfl rfl) ?_
        refine wl rfl rfl rfl (p_pickF rfl rfl) ?_
        refine wl_nil ?_
        refine x_seq ?_
        refine wc_no rfl (decide_eq_false (by rw [hw57.1]; exact fun h => h rfl)) ?_
        refine wc_skip ?_
        refine x_seq ?_
        refine wc_cut (fun e w' => ∃ (g60 : Nat) (g61 : Nat), e = [(0, .slice Au lu cu), (1, .slice Av lv cv), (5, .pointer (some ⟨g5, 0, none⟩)), (6, .bool false), (7, .pointer (some ⟨g21, 0, none⟩)), (8, .slice (some ⟨g60, 0, none⟩) 256 256), (9, .slice (some ⟨g61, 0, none⟩) 256 256)] ∧ (Ch No w w') ∧ (CD TD w w' O57 g21 8 d57) ∧ (Blk w' g5 37 #[i64 a.kind, i64 a.a, i64 a.n, .slice bA bl bc, .slice kA kl kc]) ∧ (Sl w' (fun k => k < w.heap.size) u8v Au lu cu u) ∧ (Sl w' (fun k => k < w.heap.size) u8v Av lv cv v) ∧ (Sl w' (fun k => k < w.heap.size) i64 kA kl kc a.keep) ∧ (Blk w' g60 5 ((List.replicate 256 (0 : UInt8)).map u8v).toArray) ∧ (Blk w' g61 5 ((List.replicate 256 (0 : UInt8)).map u8v).toArray) ∧ (g5 < g60) ∧ (g5 < g61) ∧ (g60 ≠ g61) ∧ (w.heap.size ≤ g60) ∧ (w.heap.size ≤ g61) ∧ (∀ k, O57 k → k ≠ g5) ∧ (∀ k, O57 k → k ≠ g60) ∧ (∀ k, O57 k → k ≠ g61)) ?_ ?_
        ·
          refine wc_draw (.alt (.st 0 2 (.st 2 0 (.st 1 2 (.st 3 0 .nil)))) (.st 1 2 (.st 0 2 (.st 2 0 (.st 3 0 .nil))))) 4 (by kernel_rfl) (by kernel_rfl) (by kernel_rfl) (by repeat (first | with_reducible exact pan_body | with_reducible apply pan_then | with_reducible apply pan_in)) (fun x => Ch No w10.drew x) (Ch.refl _ _) ?_
          obtain ⟨w11, ew11⟩ : ∃ x, x = w10.drew := ⟨_, rfl⟩
          rw [← ew11]
          have hc : Ch No w10 w11 := by rw [ew11]; exact Ch.drew _
          have hszw11 : w11.heap.size = w10.heap.size := by rw [ew11]; rfl
          clear ew11
          have hzw11 := hc.size
          have HC := HC.tr hc
          have hu := hu.no hc
          have hv := hv.no hc
          have hB := hB.no hc
          have hK := hK.no hc
          have hb5 := hb5.ch hc (fun h => h)
          have hphd21 := hd21.hi
          have hd21 := hd21.no hc
          have hS : Ch No w11 w11 := Ch.refl _ _
          refine ws_alt ?_ ?_
          ·
            have hltg5 := hb5.lt
            refine ws_e rfl rfl (e_mkZ (c := 256) (v := u8v 0) (sz := 1) (by_ := 1) rfl Try.underlying29 (by rfl) (by rfl) (by omega) rfl rfl (by omega) (by omega) (fun w12 g60 hg60 hb60 hc hsz60 => ⟨hc, ?_⟩))
            have hb60 : Blk w12 g60 5 ((List.replicate 256 (0 : UInt8)).map u8v).toArray := by rw [List.map_replicate]; exact hb60
            have hzw12 := hc.size
            have HC := HC.tr hc
            have hu := hu.no hc
            have hv := hv.no hc
            have hB := hB.no hc
            have hK := hK.no hc
            have hb5 := hb5.ch hc (fun h => h)
            have hphd21 := hd21.hi
            have hd21 := hd21.no hc
            have hge60 : w.heap.size ≤ g60 := by have := HC.size; omega
            have neg5_60 : g5 < g60 := by omega
            have hohb60_hd21 : ∀ k, O57 k → k ≠ g60 := fun k h e => by have := hphd21 k h; omega
            refine ws_narrow (S' := fun x => Ch No w12 x) (Ch.refl _ _) (fun x h => hc.tr h) ?_
            refine ws_p rfl rfl rfl rfl (p_as rfl) ?_
            have hltg5 := hb5.lt
            have hltg60 := hb60.lt
            refine ws_e rfl rfl (e_mkZ (c := 256) (v := u8v 0) (sz := 1) (by_ := 1) rfl Try.underlying29 (by rfl) (by rfl) (by omega) rfl rfl (by omega) (by omega) (fun w13 g61 hg61 hb61 hc hsz61 => ⟨hc, ?_⟩))
            have hb61 : Blk w13 g61 5 ((List.replicate 256 (0 : UInt8)).map u8v).toArray := by rw [List.map_replicate]; exact hb61
            have hzw13 := hc.size
            have HC := HC.tr hc
            have hu := hu.no hc
            have hv := hv.no hc
            have hB := hB.no hc
            have hK := hK.no hc
            have hb5 := hb5.ch hc (fun h => h)
            have hphd21 := hd21.hi
            have hd21 := hd21.no hc
            have hb60 := hb60.ch hc (fun h => h)
            have hge61 : w.heap.size ≤ g61 := by have := HC.size; omega
            have neg5_61 : g5 < g61 := by omega
            have neg60_61 : g60 < g61 := by omega
            have hohb61_hd21 : ∀ k, O57 k → k ≠ g61 := fun k h e => by have := hphd21 k h; omega
            refine ws_narrow (S' := fun x => Ch No w13 x) (Ch.refl _ _) (fun x h => hc.tr h) ?_
            refine ws_p rfl rfl rfl rfl (p_as rfl) ?_
            refine ws_n ?_
            exact x_meet (by repeat (first | exact trivial | refine ⟨rfl, ?_⟩)) ⟨g60, g61, rfl, HC, hd21, hb5, hu, hv, hK, hb60, hb61, by omega, by omega, by omega, hge60, hge61, hohb5_hd21, hohb60_hd21, hohb61_hd21⟩
          ·
            have hltg5 := hb5.lt
            refine ws_e rfl rfl (e_mkZ (c := 256) (v := u8v 0) (sz := 1) (by_ := 1) rfl Try.underlying29 (by rfl) (by rfl) (by omega) rfl rfl (by omega) (by omega) (fun w14 g61 hg61 hb61 hc hsz61 => ⟨hc, ?_⟩))
            have hb61 : Blk w14 g61 5 ((List.replicate 256 (0 : UInt8)).map u8v).toArray := by rw [List.map_replicate]; exact hb61
            have hzw14 := hc.size
            have HC := HC.tr hc
            have hu := hu.no hc
            have hv := hv.no hc
            have hB := hB.no hc
            have hK := hK.no hc
            have hb5 := hb5.ch hc (fun h => h)
            have hphd21 := hd21.hi
            have hd21 := hd21.no hc
            have hge61 : w.heap.size ≤ g61 := by have := HC.size; omega
            have neg5_61 : g5 < g61 := by omega
            have hohb61_hd21 : ∀ k, O57 k → k ≠ g61 := fun k h e => by have := hphd21 k h; omega
            refine ws_narrow (S' := fun x => Ch No w14 x) (Ch.refl _ _) (fun x h => hc.tr h) ?_
            have hltg5 := hb5.lt
            have hltg61 := hb61.lt
            refine ws_e rfl rfl (e_mkZ (c := 256) (v := u8v 0) (sz := 1) (by_ := 1) rfl Try.underlying29 (by rfl) (by rfl) (by omega) rfl rfl (by omega) (by omega) (fun w15 g60 hg60 hb60 hc hsz60 => ⟨hc, ?_⟩))
            have hb60 : Blk w15 g60 5 ((List.replicate 256 (0 : UInt8)).map u8v).toArray := by rw [List.map_replicate]; exact hb60
            have hzw15 := hc.size
            have HC := HC.tr hc
            have hu := hu.no hc
            have hv := hv.no hc
            have hB := hB.no hc
            have hK := hK.no hc
            have hb5 := hb5.ch hc (fun h => h)
            have hphd21 := hd21.hi
            have hd21 := hd21.no hc
            have hb61 := hb61.ch hc (fun h => h)
            have hge60 : w.heap.size ≤ g60 := by have := HC.size; omega
            have neg5_60 : g5 < g60 := by omega
            have neg61_60 : g61 < g60 := by omega
            have hohb60_hd21 : ∀ k, O57 k → k ≠ g60 := fun k h e => by have := hphd21 k h; omega
            refine ws_narrow (S' := fun x => Ch No w15 x) (Ch.refl _ _) (fun x h => hc.tr h) ?_
            refine ws_p rfl rfl rfl rfl (p_as rfl) ?_
            refine ws_p rfl rfl rfl rfl (p_as rfl) ?_
            refine ws_n ?_
            exact x_meet (by repeat (first | exact trivial | refine ⟨rfl, ?_⟩)) ⟨g60, g61, rfl, HC, hd21, hb5, hu, hv, hK, hb60, hb61, by omega, by omega, by omega, hge60, hge61, hohb5_hd21, hohb60_hd21, hohb61_hd21⟩
        ·
          rintro _ w16 ⟨g60, g61, rfl, HC, hd21, hb5, hu, hv, hK, hb60, hb61, hne56, hne57, hne67, hge60, hge61, hohb5_hd21, hohb60_hd21, hohb61_hd21⟩
          have hzw16 := HC.size
          refine wc_seq ?_
          refine wc_region ?_
          refine wl rfl rfl rfl (p_mv rfl) ?_
          refine wl rfl rfl rfl (p_mv rfl) ?_
          refine wle rfl (e_copyP (o := 0) (L := (List.replicate 256 (0 : UInt8))) rfl Try.underlying29 sz5 rfl rfl hb61 hu (by rw [List.length_replicate]; omega) (fun w17 hb61 hc hsz => ?_))
          have hzw17 := hc.size
          have HC := HC.trans hc (fun _ _ h => h) (fun k hk ht => absurd ht (by omega))
          have hd21 := hd21.other hc (fun k hk ht => by have h1 := hohb61_hd21 k hk; have h2 : k = g61 := ht; omega)
          have hb5 := hb5.ch hc (by omega)
          first | have hu := hu.ch hc (by intro k hk ht; first | omega | (dsimp only at *; omega)) | have hu := hu.chT hc (by intro k hz hk ht; first | omega | (dsimp only at *; omega))
          first | have hv := hv.ch hc (by intro k hk ht; first | omega | (dsimp only at *; omega)) | have hv := hv.chT hc (by intro k hz hk ht; first | omega | (dsimp only at *; omega))
          first | have hK := hK.ch hc (by intro k hk ht; first | omega | (dsimp only at *; omega)) | have hK := hK.chT hc (by intro k hz hk ht; first | omega | (dsimp only at *; omega))
          have hb60 := hb60.ch hc (by omega)
          rw [Nat.min_eq_left (by omega), List.take_of_length_le (by omega)] at hb61
          refine wl_nil ?_
          refine x_seq ?_
          refine wc_seq ?_
          refine wc_region ?_
          refine wl rfl rfl rfl (p_mv rfl) ?_
          refine wl rfl rfl rfl (p_mv rfl) ?_
          refine wle rfl (e_copyP (o := 0) (L := (List.replicate 256 (0 : UInt8))) rfl Try.underlying29 sz5 rfl rfl hb60 hu (by rw [List.length_replicate]; omega) (fun w18 hb60 hc hsz => ?_))
          have hzw18 := hc.size
          have HC := HC.trans hc (fun _ _ h => h) (fun k hk ht => absurd ht (by omega))
          have hd21 := hd21.other hc (fun k hk ht => by have h1 := hohb60_hd21 k hk; have h2 : k = g60 := ht; omega)
          have hb5 := hb5.ch hc (by omega)
          first | have hu := hu.ch hc (by intro k hk ht; first | omega | (dsimp only at *; omega)) | have hu := hu.chT hc (by intro k hz hk ht; first | omega | (dsimp only at *; omega))
          first | have hv := hv.ch hc (by intro k hk ht; first | omega | (dsimp only at *; omega)) | have hv := hv.chT hc (by intro k hz hk ht; first | omega | (dsimp only at *; omega))
          first | have hK := hK.ch hc (by intro k hk ht; first | omega | (dsimp only at *; omega)) | have hK := hK.chT hc (by intro k hz hk ht; first | omega | (dsimp only at *; omega))
          have hb61 := hb61.ch hc (by omega)
          rw [Nat.min_eq_left (by omega), List.take_of_length_le (by omega)] at hb60
          refine wl_nil ?_
          refine x_seq ?_
          refine wc_seq ?_
          refine wc_region ?_
          refine wl rfl rfl rfl (p_mv rfl) ?_
          refine wl rfl rfl rfl (p_mv rfl) ?_
          refine wle rfl (e_copyP (o := 0) (L := (spl (List.replicate 256 (0 : UInt8)) 0 u)) rfl Try.underlying29 sz5 rfl rfl hb60 hv (by rw [spl_len0 (by rw [List.length_replicate]; omega), List.length_replicate]; omega) (fun w19 hb60 hc hsz => ?_))
          have hzw19 := hc.size
          have HC := HC.trans hc (fun _ _ h => h) (fun k hk ht => absurd ht (by omega))
          have hd21 := hd21.other hc (fun k hk ht => by have h1 := hohb60_hd21 k hk; have h2 : k = g60 := ht; omega)
          have hb5 := hb5.ch hc (by omega)
          first | have hu := hu.ch hc (by intro k hk ht; first | omega | (dsimp only at *; omega)) | have hu := hu.chT hc (by intro k hz hk ht; first | omega | (dsimp only at *; omega))
          first | have hv := hv.ch hc (by intro k hk ht; first | omega | (dsimp only at *; omega)) | have hv := hv.chT hc (by intro k hz hk ht; first | omega | (dsimp only at *; omega))
          first | have hK := hK.ch hc (by intro k hk ht; first | omega | (dsimp only at *; omega)) | have hK := hK.chT hc (by intro k hz hk ht; first | omega | (dsimp only at *; omega))
          have hb61 := hb61.ch hc (by omega)
          rw [Nat.min_eq_left (by omega), List.take_of_length_le (by omega)] at hb60
          refine wl_nil ?_
          refine x_seq ?_
          refine wc_seq ?_
          refine wc_region ?_
          have hN8 : d57.now.length = 256 := hd21.ok.w
          have hS8 : d57.safe.length = 256 := hd21.ok.s
          have hn57 : d57.now = (spl (spl (List.replicate 256 (0 : UInt8)) 0 u) 0 v) := by rw [hw57.2.1, hcs.2.1, hw47.2.1]; rfl
          have hs57 : d57.safe = (spl (List.replicate 256 (0 : UInt8)) 0 u) := by rw [hw57.2.2.2.1, ok_clean hok51 hcs.2.2.1, hcs.2.1, hw47.2.1]; rfl
          rw [← hn57] at hb60
          rw [← hs57] at hb61
          refine wl rfl rfl rfl (p_mv rfl) ?_
          refine wle rfl (e_call ent19 rfl rfl (dirty_any hd21.at_ (Nat.le_trans (ord_le hd21.ok) hd21.hn)) ?_)
          rintro _ w20 ⟨A72, c72, l72, rfl, hl72, hW72, hc⟩
          refine ⟨_, rfl, ?_⟩
          have hzw20 := hc.size
          have HC := HC.tr hc
          have hphd21 := hd21.hi
          have hd21 := hd21.no hc
          have hb5 := hb5.ch hc (fun h => h)
          have hu := hu.no hc
          have hv := hv.no hc
          have hK := hK.no hc
          have hb60 := hb60.ch hc (fun h => h)
          have hb61 := hb61.ch hc (fun h => h)
          have hS72 := hW72.sl
          have hlb72 : l72 ≤ 4096 := by rw [hl72]; exact Nat.le_trans (ord_le hd21.ok) hd21.hn
          have hS72 := hS72.mono (G := fun k => w19.heap.size ≤ k ∧ k < w20.heap.size) (fun k h1 h2 => ⟨by first | exact h2 | (have h3 : k = _ := h2; omega), h1⟩)
          have hohS72_hd21 : ∀ k, O57 k → k < w19.heap.size ∨ w20.heap.size ≤ k := fun k h => .inl (hphd21 k h)
          refine wl rfl rfl rfl (p_as rfl) ?_
          refine wl_nil ?_
          refine x_seq ?_
          refine wc_seq ?_
          refine wc_seq ?_
          refine wc_region ?_
          refine wl rfl rfl rfl (p_mv rfl) ?_
          refine wl rfl rfl rfl (p_fld (j := 4) Try.underlying37 rfl ⟨_, by rfl⟩ rfl rfl) ?_
          refine wl rfl rfl rfl (p_ld Try.underlying26 rfl rfl (ld (hb5.cell rfl))) ?_
          refine wl rfl rfl rfl (p_fld (j := 2) Try.underlying37 rfl ⟨_, by rfl⟩ rfl rfl) ?_
          refine wl rfl rfl rfl (p_ld Try.underlying3 rfl rfl (ld (hb5.cell rfl))) ?_
          refine wle rfl (e_call ent20 rfl rfl (crash_any hd21.at_ (hK) (by have := (hK).cap; omega) (fun k hk => .inl (fun hf => hf.elim (fun h => by have h1 := hd21.lo k h; have h2 : k < w.heap.size := hk; omega) (fun h => by have h2 : k < w.heap.size := hk; omega))) hd21.ok hd21.hn (fun _ h => .inr h)) ?_)
          rintro _ w21 ⟨rfl, hdk, hc⟩
          refine ⟨_, rfl, ?_⟩
          obtain ⟨O78, hdn, hO78, hc⟩ := hd21.next hdk hc (cr_ok hd21.ok _ _) (Nat.le_trans (cr_arm _ _) hd21.arm) (by omega)
          have hzw21 := hc.size
          have HC := HC.trans hc (fun _ _ h => h) (fun k hk ht => absurd hk (by have := hd21.lo k ht; omega))
          have hltg5 := hb5.lt
          have hb5 := hb5.ch hc (fun ht => hohb5_hd21 _ ht rfl)
          have hu := hu.ch hc (fun k hk ht => by have h1 := hd21.lo k ht; have h2 : k < w.heap.size := hk; omega)
          have hv := hv.ch hc (fun k hk ht => by have h1 := hd21.lo k ht; have h2 : k < w.heap.size := hk; omega)
          have hK := hK.ch hc (fun k hk ht => by have h1 := hd21.lo k ht; have h2 : k < w.heap.size := hk; omega)
          have hltg60 := hb60.lt
          have hb60 := hb60.ch hc (fun ht => hohb60_hd21 _ ht rfl)
          have hltg61 := hb61.lt
          have hb61 := hb61.ch hc (fun ht => hohb61_hd21 _ ht rfl)
          have hS72 := hS72.ch hc (fun k hk ht => by have h1 := hohS72_hd21 k ht; have h2 : w19.heap.size ≤ k ∧ k < w20.heap.size := hk; omega)
          have hohb5_hd21 : ∀ k, O78 k → k ≠ g5 := fun k h => (hO78 k h).elim (hohb5_hd21 k) (fun h => by omega)
          have hohb60_hd21 : ∀ k, O78 k → k ≠ g60 := fun k h => (hO78 k h).elim (hohb60_hd21 k) (fun h => by omega)
          have hohb61_hd21 : ∀ k, O78 k → k ≠ g61 := fun k h => (hO78 k h).elim (hohb61_hd21 k) (fun h => by omega)
          have hohS72_hd21 : ∀ k, O78 k → k < w19.heap.size ∨ w20.heap.size ≤ k := fun k h => (hO78 k h).elim (hohS72_hd21 k) (fun h => .inr (by omega))
          have hd21 := hdn
          have hcr := crS_on (d := d57) (keep := a.keep) (torn := a.n) hcalm.off
          rw [hcr] at hd21
          dsimp only at hd21
          refine wl rfl rfl rfl (p_not rfl) ?_
          refine wl rfl rfl rfl (p_mv rfl) ?_
          refine wl_know (d := 80) (b' := false) rfl (by rw [hcr]; rfl) ?_
          refine wl_g (gd_ rfl rfl rfl rfl rfl rfl) rfl rfl (p_mv rfl) ?_
          refine wle_g (gd_ rfl rfl rfl rfl rfl rfl) (e_call ent15 rfl rfl (start_any hd21.at_ ) ?_)
          rintro _ w22 ⟨rfl, hdk, hc⟩
          refine ⟨_, rfl, ?_⟩
          obtain ⟨O82, hdn, hO82, hc⟩ := hd21.next hdk hc (st_ok hd21.ok) (Nat.le_trans st_arm hd21.arm) (by omega)
          have hzw22 := hc.size
          have HC := HC.trans hc (fun _ _ h => h) (fun k hk ht => absurd hk (by have := hd21.lo k ht; omega))
          have hltg5 := hb5.lt
          have hb5 := hb5.ch hc (fun ht => hohb5_hd21 _ ht rfl)
          have hu := hu.ch hc (fun k hk ht => by have h1 := hd21.lo k ht; have h2 : k < w.heap.size := hk; omega)
          have hv := hv.ch hc (fun k hk ht => by have h1 := hd21.lo k ht; have h2 : k < w.heap.size := hk; omega)
          have hK := hK.ch hc (fun k hk ht => by have h1 := hd21.lo k ht; have h2 : k < w.heap.size := hk; omega)
          have hltg60 := hb60.lt
          have hb60 := hb60.ch hc (fun ht => hohb60_hd21 _ ht rfl)
          have hltg61 := hb61.lt
          have hb61 := hb61.ch hc (fun ht => hohb61_hd21 _ ht rfl)
          have hS72 := hS72.ch hc (fun k hk ht => by have h1 := hohS72_hd21 k ht; have h2 : w19.heap.size ≤ k ∧ k < w20.heap.size := hk; omega)
          have hohb5_hd21 : ∀ k, O82 k → k ≠ g5 := fun k h => (hO82 k h).elim (hohb5_hd21 k) (fun h => by omega)
          have hohb60_hd21 : ∀ k, O82 k → k ≠ g60 := fun k h => (hO82 k h).elim (hohb60_hd21 k) (fun h => by omega)
          have hohb61_hd21 : ∀ k, O82 k → k ≠ g61 := fun k h => (hO82 k h).elim (hohb61_hd21 k) (fun h => by omega)
          have hohS72_hd21 : ∀ k, O82 k → k < w19.heap.size ∨ w20.heap.size ≤ k := fun k h => (hO82 k h).elim (hohS72_hd21 k) (fun h => .inr (by omega))
          have hd21 := hdn
          obtain ⟨d82, hd82⟩ : ∃ z, z = (stS (crash d57 a.keep a.n)).2 := ⟨_, rfl⟩
          have hst82 : d82.now = crashed d57 a.keep a.n ∧ CalmD d82 8 := by rw [hd82]; exact ⟨rfl, rfl, rfl⟩
          rw [← hd82] at hd21
          refine wl_g (gd_ rfl rfl rfl rfl rfl rfl) rfl rfl (p_not rfl) ?_
          refine wl rfl rfl rfl (p_pickF rfl rfl) ?_
          refine wl_nil ?_
          refine x_seq ?_
          refine wc_no rfl (rfl) ?_
          refine wc_skip ?_
          refine x_seq ?_
          refine wc_seq ?_
          refine wc_region ?_
          refine wl rfl rfl rfl (p_mv rfl) ?_
          obtain ⟨t, hct⟩ := crash_cases hok57 a.keep a.n
          obtain ⟨X, hX⟩ : ∃ z, z = crashed d57 a.keep a.n := ⟨_, rfl⟩
          rw [← hX] at hst82 hct
          have hXl : X.length = 256 := by rw [← hst82.1]; exact hd21.ok.w
          refine wle rfl (e_call ent14 rfl rfl (read_any (a := 0) (m := 256) hd21.at_ hd21.ok hd21.hn (by omega) (by omega) (by omega) (by omega)) ?_)
          rintro _ w23 ⟨A87, l87, c87, rfl, hl87, hS87, hc⟩
          refine ⟨_, rfl, ?_⟩
          have hzw23 := hc.size
          have HC := HC.tr hc
          have hphd21 := hd21.hi
          have hd21 := hd21.no hc
          have hb5 := hb5.ch hc (fun h => h)
          have hu := hu.no hc
          have hv := hv.no hc
          have hK := hK.no hc
          have hb60 := hb60.ch hc (fun h => h)
          have hb61 := hb61.ch hc (fun h => h)
          have hS72 := hS72.no hc
          have hS87 := hS87.mono (G := fun k => w22.heap.size ≤ k ∧ k < w23.heap.size) (fun k h1 h2 => ⟨by first | exact h2 | (have h3 : k = _ := h2; omega), h1⟩)
          have hohS87_hd21 : ∀ k, O82 k → k < w22.heap.size ∨ w23.heap.size ≤ k := fun k h => .inl (hphd21 k h)
          have e87 : rdS 8 d82 0 256 = (X, 0) := by rw [← hst82.1]; exact hst82.2.rd hd21.ok.w
          rw [e87] at hl87 hS87
          obtain rfl : l87 = 256 := by rw [hl87]; exact hXl
          have hS87 := hS87.mono (G := fun _ => True) (fun _ _ _ => trivial)
          refine wl rfl rfl rfl (p_mv rfl) ?_
          refine wl rfl rfl rfl (p_ext rfl rfl) ?_
          refine wl rfl rfl rfl (p_ext rfl rfl) ?_
          refine wl rfl rfl rfl (p_as rfl) ?_
          refine wl rfl rfl rfl (p_as rfl) ?_
          refine wl_nil ?_
          refine x_seq ?_
          refine wc_seq ?_
          refine wc_seq ?_
          refine wc_region ?_
          refine wl rfl rfl rfl (p_mv rfl) ?_
          refine wl rfl rfl rfl (p_ne rfl rfl) ?_
          refine wl rfl rfl rfl (p_mv rfl) ?_
          refine wl_know (d := 92) (b' := false) rfl (decide_eq_false (by rw [e87]; exact fun h => h rfl)) ?_
          refine wl_g (gd_ rfl rfl rfl rfl rfl rfl) rfl rfl (p_mv rfl) ?_
          refine wl_g (gd_ rfl rfl rfl rfl rfl rfl) rfl rfl (p_lenS Try.underlying29 rfl) ?_
          refine wl_g (gd_ rfl rfl rfl rfl rfl rfl) rfl rfl (p_ne rfl rfl) ?_
          refine wl rfl rfl rfl (p_pickF rfl rfl) ?_
          refine wl_nil ?_
          refine x_seq ?_
          refine wc_no rfl (rfl) ?_
          refine wc_skip ?_
          refine x_seq ?_
          refine wc_seq ?_
          refine wc_region ?_
          refine wl rfl rfl rfl (p_as rfl) ?_
          refine wl_nil ?_
          refine x_seq ?_
          refine wc_seq ?_
          refine wc_seq ?_
          refine wc_region ?_
          refine wl rfl rfl rfl (p_as rfl) ?_
          refine wl_nil ?_
          refine x_seq ?_
          refine wc_block ?_
          refine wc_loop (e' := [(5, .pointer (some ⟨g5, 0, none⟩)), (6, .bool false), (7, .pointer (some ⟨g21, 0, none⟩)), (8, .slice (some ⟨g60, 0, none⟩) 256 256), (9, .slice (some ⟨g61, 0, none⟩) 256 256), (10, .slice A72 l72 c72), (11, .slice A87 256 c87), (13, i64 ((0) : Int)), (14, i64 ((0) : Int))]) (fun mz ez uz => ∃ s : Nat, ∃ tn : Nat, mz = 8 - s ∧ ez = [(5, .pointer (some ⟨g5, 0, none⟩)), (6, .bool false), (7, .pointer (some ⟨g21, 0, none⟩)), (8, .slice (some ⟨g60, 0, none⟩) 256 256), (9, .slice (some ⟨g61, 0, none⟩) 256 256), (10, .slice A72 l72 c72), (11, .slice A87 256 c87), (13, i64 (tn : Int)), (14, i64 (s : Int))] ∧ (s ≤ 8) ∧ (tn = 0 ∨ (tn = 1 ∧ t < s)) ∧ (Blk uz g5 37 #[i64 a.kind, i64 a.a, i64 a.n, .slice bA bl bc, .slice kA kl kc]) ∧ (Blk uz g60 5 (d57.now.map u8v).toArray) ∧ (Blk uz g61 5 (d57.safe.map u8v).toArray) ∧ (Sl uz (fun k => k < w.heap.size) i64 kA kl kc a.keep) ∧ (Sl uz (fun _ => True) u8v A87 256 c87 X) ∧ (Ch No w uz))
            ⟨rfl, rfl, rfl, rfl, rfl, rfl, rfl, rfl, rfl, trivial⟩ ⟨0, 0, rfl, rfl, by omega, .inl rfl, hb5, hb60, hb61, hK, hS87, HC⟩ ?_
          rintro m0 e w24 ⟨s, tn, hm0, rfl, hs, htn, hb5, hb60, hb61, hK, hS87, HC⟩
          have hzw24 := HC.size
          refine wc_seq ?_
          refine wc_seq ?_
          refine wc_region ?_
          refine wl rfl rfl rfl (p_mv rfl) ?_
          refine wl rfl rfl rfl (p_lt rfl rfl) ?_
          refine wl_nil ?_
          refine x_seq ?_
          refine wc_if rfl (fun c4 => ?_) (fun c4 => ?_)
          ·
            have c4 := of_decide_eq_true c4
            have h87c := hS87.cap
            have hcut := hct s (by omega)
            have hlp : (sec d57.safe s).length = 32 := sec_len (n := 8) hok57.s (by omega)
            have hlq : (sec d57.now s).length = 32 := sec_len (n := 8) hok57.w (by omega)
            refine wc_skip ?_
            refine x_seq ?_
            refine wc_seq ?_
            refine wc_block ?_
            refine wc_seq ?_
            refine wc_draw (.st 0 0 (.st 1 0 (.st 2 0 (.st 3 0 (.st 4 0 (.st 5 0 (.st 6 0 (.st 7 1 (.st 8 0 (.st 9 0 (.st 10 0 (.st 11 0 (.st 12 0 (.st 13 0 (.st 14 0 (.st 15 1 (.st 16 0 (.st 17 0 (.st 18 0 (.st 19 0 (.st 20 0 (.st 21 0 (.st 22 0 (.st 23 1 (.st 24 0 (.st 25 0 (.st 26 0 .nil))))))))))))))))))))))))))) 27 (by kernel_rfl) (by kernel_rfl) (by kernel_rfl) (by repeat (first | with_reducible exact pan_body | with_reducible apply pan_then | with_reducible apply pan_in)) (fun x => Ch No w24.drew x) (Ch.refl _ _) ?_
            obtain ⟨w25, ew25⟩ : ∃ x, x = w24.drew := ⟨_, rfl⟩
            rw [← ew25]
            have hc : Ch No w24 w25 := by rw [ew25]; exact Ch.drew _
            have hszw25 : w25.heap.size = w24.heap.size := by rw [ew25]; rfl
            clear ew25
            have hzw25 := hc.size
            have HC := HC.tr hc
            have hb5 := hb5.ch hc (fun h => h)
            have hb60 := hb60.ch hc (fun h => h)
            have hb61 := hb61.ch hc (fun h => h)
            have hK := hK.no hc
            have hS87 := hS87.no hc
            have hS : Ch No w25 w25 := Ch.refl _ _
            refine ws_p rfl rfl rfl rfl (p_mv rfl) ?_
            refine ws_p rfl rfl rfl rfl (p_mv rfl) ?_
            refine ws_p rfl rfl rfl rfl (p_mul (Z := ((32 * s : Nat) : Int)) rfl rfl (by rw [w64 (by omega)]; omega)) ?_
            refine ws_p rfl rfl rfl rfl (p_mv rfl) ?_
            refine ws_p rfl rfl rfl rfl (p_mul (Z := ((32 * s : Nat) : Int)) rfl rfl (by rw [w64 (by omega)]; omega)) ?_
            refine ws_p rfl rfl rfl rfl (p_add (Z := ((32 * s + 32 : Nat) : Int)) rfl rfl (by rw [w64 (by omega)]; omega)) ?_
            have hS107 : Sl w25 _ u8v _ 32 _ (sec d57.safe s) := (Sl.lit hb61 rfl hS8).cut (lo := 32 * s) (hi := 32 * s + 32) (q := 32) (by omega) (by omega) (by omega)
            refine ws_p rfl rfl rfl rfl (p_slS (l := 32 * s) (h := 32 * s + 32) (q := 32) Try.underlying29 sz5 rfl ⟨_, rfl⟩ ⟨_, rfl⟩ (by omega) (by omega) (by omega) (by omega)) ?_
            refine ws_h rfl rfl rfl rfl (p_bts Try.underlying29 Try.underlying5 Try.underlying9 rfl (hS107).len (fun _ h => (hS107).rd.no h)) ?_
            refine ws_p rfl rfl rfl rfl (p_mv rfl) ?_
            refine ws_p rfl rfl rfl rfl (p_mv rfl) ?_
            refine ws_p rfl rfl rfl rfl (p_mul (Z := ((32 * s : Nat) : Int)) rfl rfl (by rw [w64 (by omega)]; omega)) ?_
            refine ws_p rfl rfl rfl rfl (p_mv rfl) ?_
            refine ws_p rfl rfl rfl rfl (p_mul (Z := ((32 * s : Nat) : Int)) rfl rfl (by rw [w64 (by omega)]; omega)) ?_
            refine ws_p rfl rfl rfl rfl (p_add (Z := ((32 * s + 32 : Nat) : Int)) rfl rfl (by rw [w64 (by omega)]; omega)) ?_
            have hS115 : Sl w25 _ u8v _ 32 _ (sec d57.now s) := (Sl.lit hb60 rfl hN8).cut (lo := 32 * s) (hi := 32 * s + 32) (q := 32) (by omega) (by omega) (by omega)
            refine ws_p rfl rfl rfl rfl (p_slS (l := 32 * s) (h := 32 * s + 32) (q := 32) Try.underlying29 sz5 rfl ⟨_, rfl⟩ ⟨_, rfl⟩ (by omega) (by omega) (by omega) (by omega)) ?_
            refine ws_h rfl rfl rfl rfl (p_bts Try.underlying29 Try.underlying5 Try.underlying9 rfl (hS115).len (fun _ h => (hS115).rd.no h)) ?_
            refine ws_p rfl rfl rfl rfl (p_mv rfl) ?_
            refine ws_p rfl rfl rfl rfl (p_mv rfl) ?_
            refine ws_p rfl rfl rfl rfl (p_mul (Z := ((32 * s : Nat) : Int)) rfl rfl (by rw [w64 (by omega)]; omega)) ?_
            refine ws_p rfl rfl rfl rfl (p_mv rfl) ?_
            refine ws_p rfl rfl rfl rfl (p_mul (Z := ((32 * s : Nat) : Int)) rfl rfl (by rw [w64 (by omega)]; omega)) ?_
            refine ws_p rfl rfl rfl rfl (p_add (Z := ((32 * s + 32 : Nat) : Int)) rfl rfl (by rw [w64 (by omega)]; omega)) ?_
            have hS123 : Sl w25 _ u8v _ 32 _ (sec X s) := (hS87).cut (lo := 32 * s) (hi := 32 * s + 32) (q := 32) (by omega) (by omega) (by omega)
            refine ws_p rfl rfl rfl rfl (p_slS (l := 32 * s) (h := 32 * s + 32) (q := 32) Try.underlying29 sz5 rfl ⟨_, rfl⟩ ⟨_, rfl⟩ (by omega) (by omega) (by omega) (by omega)) ?_
            refine ws_h rfl rfl rfl rfl (p_bts Try.underlying29 Try.underlying5 Try.underlying9 rfl (hS123).len (fun _ h => (hS123).rd.no h)) ?_
            refine ws_p rfl rfl rfl rfl (p_as rfl) ?_
            refine ws_p rfl rfl rfl rfl (p_as rfl) ?_
            refine ws_p rfl rfl rfl rfl (p_as rfl) ?_
            refine ws_n ?_
            refine x_seq ?_
            refine wc_seq ?_
            refine wc_region ?_
            refine wl rfl rfl rfl (p_as rfl) ?_
            refine wl_nil ?_
            refine x_seq ?_
            refine wc_seq ?_
            refine wc_seq ?_
            refine wc_region ?_
            refine wl rfl rfl rfl (p_fld (j := 4) Try.underlying37 rfl ⟨_, by rfl⟩ rfl rfl) ?_
            refine wl rfl rfl rfl (p_ld Try.underlying26 rfl rfl (ld (hb5.cell rfl))) ?_
            refine wl rfl rfl rfl (p_lenS Try.underlying26 rfl) ?_
            refine wl rfl rfl rfl (p_mv rfl) ?_
            refine wl_nil ?_
            refine x_seq ?_
            refine wc_block ?_
            refine wc_loop (e' := [(5, .pointer (some ⟨g5, 0, none⟩)), (6, .bool false), (7, .pointer (some ⟨g21, 0, none⟩)), (8, .slice (some ⟨g60, 0, none⟩) 256 256), (9, .slice (some ⟨g61, 0, none⟩) 256 256), (10, .slice A72 l72 c72), (11, .slice A87 256 c87), (13, i64 (tn : Int)), (14, i64 (s : Int)), (15, .string (str (sec d57.safe s))), (16, .string (str (sec d57.now s))), (17, .string (str (sec X s))), (18, .bool (false)), (126, .slice kA kl kc), (127, i64 (kl : Int)), (128, i64 ((0) : Int))]) (fun mz ez uz => ∃ m : Nat, ∃ kb : Bool, mz = kl - m ∧ ez = [(5, .pointer (some ⟨g5, 0, none⟩)), (6, .bool false), (7, .pointer (some ⟨g21, 0, none⟩)), (8, .slice (some ⟨g60, 0, none⟩) 256 256), (9, .slice (some ⟨g61, 0, none⟩) 256 256), (10, .slice A72 l72 c72), (11, .slice A87 256 c87), (13, i64 (tn : Int)), (14, i64 (s : Int)), (15, .string (str (sec d57.safe s))), (16, .string (str (sec d57.now s))), (17, .string (str (sec X s))), (18, .bool kb), (126, .slice kA kl kc), (127, i64 (kl : Int)), (128, i64 (m : Int))] ∧ (m ≤ kl) ∧ (kb = true ↔ (s : Int) ∈ a.keep.take m) ∧ (Blk uz g5 37 #[i64 a.kind, i64 a.a, i64 a.n, .slice bA bl bc, .slice kA kl kc]) ∧ (Blk uz g60 5 (d57.now.map u8v).toArray) ∧ (Blk uz g61 5 (d57.safe.map u8v).toArray) ∧ (Sl uz (fun k => k < w.heap.size) i64 kA kl kc a.keep) ∧ (Sl uz (fun _ => True) u8v A87 256 c87 X) ∧ (Ch No w uz))
              ⟨rfl, rfl, rfl, rfl, rfl, rfl, rfl, rfl, rfl, rfl, rfl, rfl, rfl, rfl, rfl, rfl, trivial⟩ ⟨0, false, rfl, rfl, by omega, by simp, hb5, hb60, hb61, hK, hS87, HC⟩ ?_
            rintro m1 e w26 ⟨m, kb, hm1, rfl, hm, hkb, hb5, hb60, hb61, hK, hS87, HC⟩
            have hzw26 := HC.size
            refine wc_seq ?_
            refine wc_region ?_
            refine wl rfl rfl rfl (p_lt rfl rfl) ?_
            refine wl_nil ?_
            refine x_seq ?_
            refine wc_seq ?_
            refine wc_if rfl (fun c5 => ?_) (fun c5 => ?_)
            ·
              have c5 := of_decide_eq_true c5
              have hmn := mem_take_nextI (l := a.keep) (m := m) (s := (s : Int)) (by omega)
              refine wc_skip ?_
              refine x_seq ?_
              refine wc_seq ?_
              refine wc_block ?_
              refine wc_seq ?_
              refine wc_region ?_
              obtain ⟨b27, o27, hA27, hF27, hc27⟩ := (hK).opn (d := 0) (by omega)
              refine wl rfl rfl rfl (p_ixS1 Try.underlying26 sz3 rfl hA27 rfl (by omega) (by omega) (Int.toNat_natCast _)) ?_
              refine wl rfl rfl rfl (p_ld Try.underlying3 rfl rfl (ld (hc27 _ (by omega)))) ?_
              refine wl rfl rfl rfl (p_as rfl) ?_
              refine wl_nil ?_
              refine x_seq ?_
              refine wc_region ?_
              refine wl rfl rfl rfl (p_mv rfl) ?_
              refine wl rfl rfl rfl (p_mv rfl) ?_
              refine wl_split (d := 133) rfl (fun q133 => ?_) (fun q133 => ?_)
              ·
                refine wl_s (gd_ rfl rfl rfl rfl rfl rfl) rfl rfl ?_
                refine wl_s (gd_ rfl rfl rfl rfl rfl rfl) rfl rfl ?_
                refine wl_s (gd_ rfl rfl rfl rfl rfl rfl) rfl rfl ?_
                refine wl rfl rfl rfl (p_pickT rfl rfl) ?_
                refine wl rfl rfl rfl (p_as rfl) ?_
                refine wl_nil ?_
                refine x_in_normal ?_
                refine x_seq ?_
                refine wc_region ?_
                refine wl rfl rfl rfl (p_add rfl rfl (w64 (by omega))) ?_
                refine wl rfl rfl rfl (p_mv rfl) ?_
                refine wl_nil ?_
                refine x_round (e' := [(5, .pointer (some ⟨g5, 0, none⟩)), (6, .bool false), (7, .pointer (some ⟨g21, 0, none⟩)), (8, .slice (some ⟨g60, 0, none⟩) 256 256), (9, .slice (some ⟨g61, 0, none⟩) 256 256), (10, .slice A72 l72 c72), (11, .slice A87 256 c87), (13, i64 (tn : Int)), (14, i64 (s : Int)), (15, .string (str (sec d57.safe s))), (16, .string (str (sec d57.now s))), (17, .string (str (sec X s))), (18, .bool (_)), (126, .slice kA kl kc), (127, i64 (kl : Int)), (128, i64 ((m + 1) : Int))]) ⟨rfl, rfl, rfl, rfl, rfl, rfl, rfl, rfl, rfl, rfl, rfl, rfl, rfl, rfl, rfl, rfl, trivial⟩ (by rw [hm1]; omega) ⟨m + 1, _, rfl, rfl, by omega, by rw [hmn]; first | exact ⟨fun _ => .inl (hkb.1 q133), fun _ => rfl⟩ | exact ⟨fun h => .inr (of_decide_eq_true h), fun h => decide_eq_true (h.resolve_left (fun h => by rw [hkb.2 h] at q133; cases q133))⟩, hb5, hb60, hb61, hK, hS87, HC⟩
              ·
                refine wl_g (gd_ rfl rfl rfl rfl rfl rfl) rfl rfl (p_mv rfl) ?_
                refine wl_g (gd_ rfl rfl rfl rfl rfl rfl) rfl rfl (p_mv rfl) ?_
                refine wl_g (gd_ rfl rfl rfl rfl rfl rfl) rfl rfl (p_eq rfl rfl) ?_
                refine wl rfl rfl rfl (p_pickF rfl rfl) ?_
                refine wl rfl rfl rfl (p_as rfl) ?_
                refine wl_nil ?_
                refine x_in_normal ?_
                refine x_seq ?_
                refine wc_region ?_
                refine wl rfl rfl rfl (p_add rfl rfl (w64 (by omega))) ?_
                refine wl rfl rfl rfl (p_mv rfl) ?_
                refine wl_nil ?_
                refine x_round (e' := [(5, .pointer (some ⟨g5, 0, none⟩)), (6, .bool false), (7, .pointer (some ⟨g21, 0, none⟩)), (8, .slice (some ⟨g60, 0, none⟩) 256 256), (9, .slice (some ⟨g61, 0, none⟩) 256 256), (10, .slice A72 l72 c72), (11, .slice A87 256 c87), (13, i64 (tn : Int)), (14, i64 (s : Int)), (15, .string (str (sec d57.safe s))), (16, .string (str (sec d57.now s))), (17, .string (str (sec X s))), (18, .bool (_)), (126, .slice kA kl kc), (127, i64 (kl : Int)), (128, i64 ((m + 1) : Int))]) ⟨rfl, rfl, rfl, rfl, rfl, rfl, rfl, rfl, rfl, rfl, rfl, rfl, rfl, rfl, rfl, rfl, trivial⟩ (by rw [hm1]; omega) ⟨m + 1, _, rfl, rfl, by omega, by rw [hmn]; first | exact ⟨fun _ => .inl (hkb.1 q133), fun _ => rfl⟩ | exact ⟨fun h => .inr (of_decide_eq_true h), fun h => decide_eq_true (h.resolve_left (fun h => by rw [hkb.2 h] at q133; cases q133))⟩, hb5, hb60, hb61, hK, hS87, HC⟩
            ·
              have c5 := of_decide_eq_false c5
              rw [show a.keep.take m = a.keep from List.take_of_length_le (by omega)] at hkb
              refine wc_exit ?_
              refine x_then_exit ?_
              refine x_then_exit ?_
              refine x_in_here ?_
              refine x_seq ?_
              refine wc_seq ?_
              refine wc_seq ?_
              refine wc_region ?_
              refine wl rfl rfl rfl (p_mv rfl) ?_
              refine wl rfl rfl rfl (p_mv rfl) ?_
              refine wl_split (d := 140) rfl (fun q140 => ?_) (fun q140 => ?_)
              ·
                refine wl_g (gd_ rfl rfl rfl rfl rfl rfl) rfl rfl (p_mv rfl) ?_
                refine wl_g (gd_ rfl rfl rfl rfl rfl rfl) rfl rfl (p_mv rfl) ?_
                refine wl_g (gd_ rfl rfl rfl rfl rfl rfl) rfl rfl (p_neT rfl rfl) ?_
                refine wl rfl rfl rfl (p_pickT rfl rfl) ?_
                refine wl_nil ?_
                refine x_seq ?_
                refine wc_no rfl (strs_not (hcut.1 (hkb.1 q140))) ?_
                refine wc_skip ?_
                refine x_seq ?_
                refine wc_seq ?_
                refine wc_seq ?_
                refine wc_region ?_
                refine wl rfl rfl rfl (p_mv rfl) ?_
                refine wl rfl rfl rfl (p_mv rfl) ?_
                refine wl rfl rfl rfl (p_eqT rfl rfl) ?_
                refine wl rfl rfl rfl (p_mv rfl) ?_
                refine wl_split (d := 148) rfl (fun q148 => ?_) (fun q148 => ?_)
                ·
                  refine wl_s (gd_ rfl rfl rfl rfl rfl rfl) rfl rfl ?_
                  refine wl_s (gd_ rfl rfl rfl rfl rfl rfl) rfl rfl ?_
                  refine wl_s (gd_ rfl rfl rfl rfl rfl rfl) rfl rfl ?_
                  refine wl rfl rfl rfl (p_pickT rfl rfl) ?_
                  refine wl_nil ?_
                  refine x_seq ?_
                  refine wc_yes rfl (rfl) ?_
                  refine wc_exit ?_
                  refine x_then_exit ?_
                  refine x_in_here ?_
                  refine x_seq ?_
                  refine wc_region ?_
                  refine wl rfl rfl rfl (p_mv rfl) ?_
                  refine wl rfl rfl rfl (p_add rfl rfl (w64 (by omega))) ?_
                  refine wl rfl rfl rfl (p_as rfl) ?_
                  refine wl_nil ?_
                  refine x_round (e' := [(5, .pointer (some ⟨g5, 0, none⟩)), (6, .bool false), (7, .pointer (some ⟨g21, 0, none⟩)), (8, .slice (some ⟨g60, 0, none⟩) 256 256), (9, .slice (some ⟨g61, 0, none⟩) 256 256), (10, .slice A72 l72 c72), (11, .slice A87 256 c87), (13, i64 ((_) : Int)), (14, i64 ((s + 1) : Int))]) ⟨rfl, rfl, rfl, rfl, rfl, rfl, rfl, rfl, rfl, trivial⟩ (by rw [hm0]; omega) ⟨s + 1, _, rfl, rfl, by omega, by first | omega | exact hnx, hb5, hb60, hb61, hK, hS87, HC⟩
                ·
                  refine wl_g (gd_ rfl rfl rfl rfl rfl rfl) rfl rfl (p_mv rfl) ?_
                  refine wl_g (gd_ rfl rfl rfl rfl rfl rfl) rfl rfl (p_mv rfl) ?_
                  refine wl_g (gd_ rfl rfl rfl rfl rfl rfl) rfl rfl (p_eqT rfl rfl) ?_
                  refine wl rfl rfl rfl (p_pickF rfl rfl) ?_
                  refine wl_nil ?_
                  refine x_seq ?_
                  refine wc_if rfl (fun c7 => ?_) (fun c7 => ?_)
                  ·
                    refine wc_exit ?_
                    refine x_then_exit ?_
                    refine x_in_here ?_
                    refine x_seq ?_
                    refine wc_region ?_
                    refine wl rfl rfl rfl (p_mv rfl) ?_
                    refine wl rfl rfl rfl (p_add rfl rfl (w64 (by omega))) ?_
                    refine wl rfl rfl rfl (p_as rfl) ?_
                    refine wl_nil ?_
                    refine x_round (e' := [(5, .pointer (some ⟨g5, 0, none⟩)), (6, .bool false), (7, .pointer (some ⟨g21, 0, none⟩)), (8, .slice (some ⟨g60, 0, none⟩) 256 256), (9, .slice (some ⟨g61, 0, none⟩) 256 256), (10, .slice A72 l72 c72), (11, .slice A87 256 c87), (13, i64 ((_) : Int)), (14, i64 ((s + 1) : Int))]) ⟨rfl, rfl, rfl, rfl, rfl, rfl, rfl, rfl, rfl, trivial⟩ (by rw [hm0]; omega) ⟨s + 1, _, rfl, rfl, by omega, by first | omega | exact hnx, hb5, hb60, hb61, hK, hS87, HC⟩
                  ·
                    have hn1 := strs_false q148
                    have hn2 := strs_false c7
                    obtain ⟨hst, hN1, hN2, hcat⟩ := (hcut.2.resolve_left hn1).resolve_left hn2
                    have htn0 : tn = 0 := by omega
                    refine wc_skip ?_
                    refine x_seq ?_
                    refine wc_seq ?_
                    refine wc_region ?_
                    refine wl rfl rfl rfl (p_mv rfl) ?_
                    refine wl rfl rfl rfl (p_add (Z := ((tn + 1 : Nat) : Int)) rfl rfl (by rw [w64 (by omega)]; omega)) ?_
                    refine wl rfl rfl rfl (p_as rfl) ?_
                    refine wl_nil ?_
                    refine x_seq ?_
                    refine wc_seq ?_
                    refine wc_draw (.st 0 0 (.st 1 0 (.st 2 0 (.st 3 0 (.st 4 1 (.st 5 0 (.st 6 0 (.st 7 0 (.st 8 0 (.st 9 1 (.st 10 0 (.st 11 0 (.st 12 0 (.st 13 0 (.st 14 0 (.st 15 0 (.st 16 1 (.st 17 0 (.st 18 0 (.st 19 0 (.st 20 1 (.st 21 0 (.st 22 0 (.st 23 0 (.st 24 0 .nil))))))))))))))))))))))))) 25 (by kernel_rfl) (by kernel_rfl) (by kernel_rfl) (by repeat (first | with_reducible exact pan_body | with_reducible apply pan_then | with_reducible apply pan_in)) (fun x => Ch No w26.drew x) (Ch.refl _ _) ?_
                    obtain ⟨w28, ew28⟩ : ∃ x, x = w26.drew := ⟨_, rfl⟩
                    rw [← ew28]
                    have hc : Ch No w26 w28 := by rw [ew28]; exact Ch.drew _
                    have hszw28 : w28.heap.size = w26.heap.size := by rw [ew28]; rfl
                    clear ew28
                    have hzw28 := hc.size
                    have HC := HC.tr hc
                    have hb5 := hb5.ch hc (fun h => h)
                    have hb60 := hb60.ch hc (fun h => h)
                    have hb61 := hb61.ch hc (fun h => h)
                    have hK := hK.no hc
                    have hS87 := hS87.no hc
                    have hS : Ch No w28 w28 := Ch.refl _ _
                    refine ws_p rfl rfl rfl rfl (p_mv rfl) ?_
                    refine ws_p rfl rfl rfl rfl (p_gt rfl rfl) ?_
                    refine ws_p rfl rfl rfl rfl (p_mv rfl) ?_
                    refine ws_know (d := 157) (b' := false) rfl (decide_eq_false (by omega)) ?_
                    refine ws_pg rfl (gd_ rfl rfl rfl rfl rfl rfl) rfl rfl (p_fld (j := 2) Try.underlying37 rfl ⟨_, by rfl⟩ rfl rfl) ?_
                    refine ws_hg rfl (gd_ rfl rfl rfl rfl rfl rfl) rfl rfl (p_ld Try.underlying3 rfl rfl (fun _ h => h.cell (fun h => h) (hb5.cell rfl))) ?_
                    refine ws_pg rfl (gd_ rfl rfl rfl rfl rfl rfl) rfl rfl (p_lt rfl rfl) ?_
                    refine ws_p rfl rfl rfl rfl (p_pickF rfl rfl) ?_
                    refine ws_p rfl rfl rfl rfl (p_mv rfl) ?_
                    refine ws_know (d := 162) (b' := false) rfl (decide_eq_false (by omega)) ?_
                    refine ws_pg rfl (gd_ rfl rfl rfl rfl rfl rfl) rfl rfl (p_fld (j := 2) Try.underlying37 rfl ⟨_, by rfl⟩ rfl rfl) ?_
                    refine ws_hg rfl (gd_ rfl rfl rfl rfl rfl rfl) rfl rfl (p_ld Try.underlying3 rfl rfl (fun _ h => h.cell (fun h => h) (hb5.cell rfl))) ?_
                    refine ws_pg rfl (gd_ rfl rfl rfl rfl rfl rfl) rfl rfl (p_gt rfl rfl) ?_
                    refine ws_p rfl rfl rfl rfl (p_pickF rfl rfl) ?_
                    refine ws_p rfl rfl rfl rfl (p_mv rfl) ?_
                    refine ws_know (d := 167) (b' := false) rfl (decide_eq_false (by omega)) ?_
                    refine ws_pg rfl (gd_ rfl rfl rfl rfl rfl rfl) rfl rfl (p_mv rfl) ?_
                    refine ws_pg rfl (gd_ rfl rfl rfl rfl rfl rfl) rfl rfl (p_mv rfl) ?_
                    refine ws_pg rfl (gd_ rfl rfl rfl rfl rfl rfl) rfl rfl (p_fld (j := 2) Try.underlying37 rfl ⟨_, by rfl⟩ rfl rfl) ?_
                    refine ws_hg rfl (gd_ rfl rfl rfl rfl rfl rfl) rfl rfl ((p_ld Try.underlying3 rfl rfl (fun _ h => h.cell (fun h => h) (hb5.cell rfl))).to (congrArg i64 (Int.toNat_of_nonneg (by omega)).symm)) ?_
                    refine ws_pg rfl (gd_ rfl rfl rfl rfl rfl rfl) rfl rfl (p_slTh (L := sec d57.now s) (h := a.n.toNat) Try.underlying9 rfl rfl (by omega)) ?_
                    refine ws_pg rfl (gd_ rfl rfl rfl rfl rfl rfl) rfl rfl (p_mv rfl) ?_
                    refine ws_pg rfl (gd_ rfl rfl rfl rfl rfl rfl) rfl rfl (p_fld (j := 2) Try.underlying37 rfl ⟨_, by rfl⟩ rfl rfl) ?_
                    refine ws_hg rfl (gd_ rfl rfl rfl rfl rfl rfl) rfl rfl ((p_ld Try.underlying3 rfl rfl (fun _ h => h.cell (fun h => h) (hb5.cell rfl))).to (congrArg i64 (Int.toNat_of_nonneg (by omega)).symm)) ?_
                    refine ws_pg rfl (gd_ rfl rfl rfl rfl rfl rfl) rfl rfl (p_slTl (L := sec d57.safe s) (l := a.n.toNat) Try.underlying9 rfl rfl (by omega)) ?_
                    refine ws_pg rfl (gd_ rfl rfl rfl rfl rfl rfl) rfl rfl ((p_addT rfl rfl (by rw [str_size, str_size, List.length_take, List.length_drop, hlp, hlq]; omega)).to (congrArg Value.string (strs_add _ _))) ?_
                    refine ws_pg rfl (gd_ rfl rfl rfl rfl rfl rfl) rfl rfl (p_neT rfl rfl) ?_
                    refine ws_p rfl rfl rfl rfl (p_pickF rfl rfl) ?_
                    refine ws_n ?_
                    refine x_seq ?_
                    refine wc_no rfl (strs_not hcat) ?_
                    refine wc_skip ?_
                    refine x_in_normal ?_
                    refine x_seq ?_
                    refine wc_region ?_
                    refine wl rfl rfl rfl (p_mv rfl) ?_
                    refine wl rfl rfl rfl (p_add rfl rfl (w64 (by omega))) ?_
                    refine wl rfl rfl rfl (p_as rfl) ?_
                    refine wl_nil ?_
                    refine x_round (e' := [(5, .pointer (some ⟨g5, 0, none⟩)), (6, .bool false), (7, .pointer (some ⟨g21, 0, none⟩)), (8, .slice (some ⟨g60, 0, none⟩) 256 256), (9, .slice (some ⟨g61, 0, none⟩) 256 256), (10, .slice A72 l72 c72), (11, .slice A87 256 c87), (13, i64 ((_) : Int)), (14, i64 ((s + 1) : Int))]) ⟨rfl, rfl, rfl, rfl, rfl, rfl, rfl, rfl, rfl, trivial⟩ (by rw [hm0]; omega) ⟨s + 1, _, rfl, rfl, by omega, by first | omega | exact hnx, hb5, hb60, hb61, hK, hS87, HC⟩
              ·
                refine wl_s (gd_ rfl rfl rfl rfl rfl rfl) rfl rfl ?_
                refine wl_s (gd_ rfl rfl rfl rfl rfl rfl) rfl rfl ?_
                refine wl_s (gd_ rfl rfl rfl rfl rfl rfl) rfl rfl ?_
                refine wl rfl rfl rfl (p_pickF rfl rfl) ?_
                refine wl_nil ?_
                refine x_seq ?_
                refine wc_no rfl (rfl) ?_
                refine wc_skip ?_
                refine x_seq ?_
                refine wc_seq ?_
                refine wc_seq ?_
                refine wc_region ?_
                refine wl rfl rfl rfl (p_mv rfl) ?_
                refine wl rfl rfl rfl (p_mv rfl) ?_
                refine wl rfl rfl rfl (p_eqT rfl rfl) ?_
                refine wl rfl rfl rfl (p_mv rfl) ?_
                refine wl_split (d := 148) rfl (fun q148 => ?_) (fun q148 => ?_)
                ·
                  refine wl_s (gd_ rfl rfl rfl rfl rfl rfl) rfl rfl ?_
                  refine wl_s (gd_ rfl rfl rfl rfl rfl rfl) rfl rfl ?_
                  refine wl_s (gd_ rfl rfl rfl rfl rfl rfl) rfl rfl ?_
                  refine wl rfl rfl rfl (p_pickT rfl rfl) ?_
                  refine wl_nil ?_
                  refine x_seq ?_
                  refine wc_yes rfl (rfl) ?_
                  refine wc_exit ?_
                  refine x_then_exit ?_
                  refine x_in_here ?_
                  refine x_seq ?_
                  refine wc_region ?_
                  refine wl rfl rfl rfl (p_mv rfl) ?_
                  refine wl rfl rfl rfl (p_add rfl rfl (w64 (by omega))) ?_
                  refine wl rfl rfl rfl (p_as rfl) ?_
                  refine wl_nil ?_
                  refine x_round (e' := [(5, .pointer (some ⟨g5, 0, none⟩)), (6, .bool false), (7, .pointer (some ⟨g21, 0, none⟩)), (8, .slice (some ⟨g60, 0, none⟩) 256 256), (9, .slice (some ⟨g61, 0, none⟩) 256 256), (10, .slice A72 l72 c72), (11, .slice A87 256 c87), (13, i64 ((_) : Int)), (14, i64 ((s + 1) : Int))]) ⟨rfl, rfl, rfl, rfl, rfl, rfl, rfl, rfl, rfl, trivial⟩ (by rw [hm0]; omega) ⟨s + 1, _, rfl, rfl, by omega, by first | omega | exact hnx, hb5, hb60, hb61, hK, hS87, HC⟩
                ·
                  refine wl_g (gd_ rfl rfl rfl rfl rfl rfl) rfl rfl (p_mv rfl) ?_
                  refine wl_g (gd_ rfl rfl rfl rfl rfl rfl) rfl rfl (p_mv rfl) ?_
                  refine wl_g (gd_ rfl rfl rfl rfl rfl rfl) rfl rfl (p_eqT rfl rfl) ?_
                  refine wl rfl rfl rfl (p_pickF rfl rfl) ?_
                  refine wl_nil ?_
                  refine x_seq ?_
                  refine wc_if rfl (fun c7 => ?_) (fun c7 => ?_)
                  ·
                    refine wc_exit ?_
                    refine x_then_exit ?_
                    refine x_in_here ?_
                    refine x_seq ?_
                    refine wc_region ?_
                    refine wl rfl rfl rfl (p_mv rfl) ?_
                    refine wl rfl rfl rfl (p_add rfl rfl (w64 (by omega))) ?_
                    refine wl rfl rfl rfl (p_as rfl) ?_
                    refine wl_nil ?_
                    refine x_round (e' := [(5, .pointer (some ⟨g5, 0, none⟩)), (6, .bool false), (7, .pointer (some ⟨g21, 0, none⟩)), (8, .slice (some ⟨g60, 0, none⟩) 256 256), (9, .slice (some ⟨g61, 0, none⟩) 256 256), (10, .slice A72 l72 c72), (11, .slice A87 256 c87), (13, i64 ((_) : Int)), (14, i64 ((s + 1) : Int))]) ⟨rfl, rfl, rfl, rfl, rfl, rfl, rfl, rfl, rfl, trivial⟩ (by rw [hm0]; omega) ⟨s + 1, _, rfl, rfl, by omega, by first | omega | exact hnx, hb5, hb60, hb61, hK, hS87, HC⟩
                  ·
                    have hn1 := strs_false q148
                    have hn2 := strs_false c7
                    obtain ⟨hst, hN1, hN2, hcat⟩ := (hcut.2.resolve_left hn1).resolve_left hn2
                    have htn0 : tn = 0 := by omega
                    refine wc_skip ?_
                    refine x_seq ?_
                    refine wc_seq ?_
                    refine wc_region ?_
                    refine wl rfl rfl rfl (p_mv rfl) ?_
                    refine wl rfl rfl rfl (p_add (Z := ((tn + 1 : Nat) : Int)) rfl rfl (by rw [w64 (by omega)]; omega)) ?_
                    refine wl rfl rfl rfl (p_as rfl) ?_
                    refine wl_nil ?_
                    refine x_seq ?_
                    refine wc_seq ?_
                    refine wc_draw (.st 0 0 (.st 1 0 (.st 2 0 (.st 3 0 (.st 4 1 (.st 5 0 (.st 6 0 (.st 7 0 (.st 8 0 (.st 9 1 (.st 10 0 (.st 11 0 (.st 12 0 (.st 13 0 (.st 14 0 (.st 15 0 (.st 16 1 (.st 17 0 (.st 18 0 (.st 19 0 (.st 20 1 (.st 21 0 (.st 22 0 (.st 23 0 (.st 24 0 .nil))))))))))))))))))))))))) 25 (by kernel_rfl) (by kernel_rfl) (by kernel_rfl) (by repeat (first | with_reducible exact pan_body | with_reducible apply pan_then | with_reducible apply pan_in)) (fun x => Ch No w26.drew x) (Ch.refl _ _) ?_
                    obtain ⟨w29, ew29⟩ : ∃ x, x = w26.drew := ⟨_, rfl⟩
                    rw [← ew29]
                    have hc : Ch No w26 w29 := by rw [ew29]; exact Ch.drew _
                    have hszw29 : w29.heap.size = w26.heap.size := by rw [ew29]; rfl
                    clear ew29
                    have hzw29 := hc.size
                    have HC := HC.tr hc
                    have hb5 := hb5.ch hc (fun h => h)
                    have hb60 := hb60.ch hc (fun h => h)
                    have hb61 := hb61.ch hc (fun h => h)
                    have hK := hK.no hc
                    have hS87 := hS87.no hc
                    have hS : Ch No w29 w29 := Ch.refl _ _
                    refine ws_p rfl rfl rfl rfl (p_mv rfl) ?_
                    refine ws_p rfl rfl rfl rfl (p_gt rfl rfl) ?_
                    refine ws_p rfl rfl rfl rfl (p_mv rfl) ?_
                    refine ws_know (d := 157) (b' := false) rfl (decide_eq_false (by omega)) ?_
                    refine ws_pg rfl (gd_ rfl rfl rfl rfl rfl rfl) rfl rfl (p_fld (j := 2) Try.underlying37 rfl ⟨_, by rfl⟩ rfl rfl) ?_
                    refine ws_hg rfl (gd_ rfl rfl rfl rfl rfl rfl) rfl rfl (p_ld Try.underlying3 rfl rfl (fun _ h => h.cell (fun h => h) (hb5.cell rfl))) ?_
                    refine ws_pg rfl (gd_ rfl rfl rfl rfl rfl rfl) rfl rfl (p_lt rfl rfl) ?_
                    refine ws_p rfl rfl rfl rfl (p_pickF rfl rfl) ?_
                    refine ws_p rfl rfl rfl rfl (p_mv rfl) ?_
                    refine ws_know (d := 162) (b' := false) rfl (decide_eq_false (by omega)) ?_
                    refine ws_pg rfl (gd_ rfl rfl rfl rfl rfl rfl) rfl rfl (p_fld (j := 2) Try.underlying37 rfl ⟨_, by rfl⟩ rfl rfl) ?_
                    refine ws_hg rfl (gd_ rfl rfl rfl rfl rfl rfl) rfl rfl (p_ld Try.underlying3 rfl rfl (fun _ h => h.cell (fun h => h) (hb5.cell rfl))) ?_
                    refine ws_pg rfl (gd_ rfl rfl rfl rfl rfl rfl) rfl rfl (p_gt rfl rfl) ?_
                    refine ws_p rfl rfl rfl rfl (p_pickF rfl rfl) ?_
                    refine ws_p rfl rfl rfl rfl (p_mv rfl) ?_
                    refine ws_know (d := 167) (b' := false) rfl (decide_eq_false (by omega)) ?_
                    refine ws_pg rfl (gd_ rfl rfl rfl rfl rfl rfl) rfl rfl (p_mv rfl) ?_
                    refine ws_pg rfl (gd_ rfl rfl rfl rfl rfl rfl) rfl rfl (p_mv rfl) ?_
                    refine ws_pg rfl (gd_ rfl rfl rfl rfl rfl rfl) rfl rfl (p_fld (j := 2) Try.underlying37 rfl ⟨_, by rfl⟩ rfl rfl) ?_
                    refine ws_hg rfl (gd_ rfl rfl rfl rfl rfl rfl) rfl rfl ((p_ld Try.underlying3 rfl rfl (fun _ h => h.cell (fun h => h) (hb5.cell rfl))).to (congrArg i64 (Int.toNat_of_nonneg (by omega)).symm)) ?_
                    refine ws_pg rfl (gd_ rfl rfl rfl rfl rfl rfl) rfl rfl (p_slTh (L := sec d57.now s) (h := a.n.toNat) Try.underlying9 rfl rfl (by omega)) ?_
                    refine ws_pg rfl (gd_ rfl rfl rfl rfl rfl rfl) rfl rfl (p_mv rfl) ?_
                    refine ws_pg rfl (gd_ rfl rfl rfl rfl rfl rfl) rfl rfl (p_fld (j := 2) Try.underlying37 rfl ⟨_, by rfl⟩ rfl rfl) ?_
                    refine ws_hg rfl (gd_ rfl rfl rfl rfl rfl rfl) rfl rfl ((p_ld Try.underlying3 rfl rfl (fun _ h => h.cell (fun h => h) (hb5.cell rfl))).to (congrArg i64 (Int.toNat_of_nonneg (by omega)).symm)) ?_
                    refine ws_pg rfl (gd_ rfl rfl rfl rfl rfl rfl) rfl rfl (p_slTl (L := sec d57.safe s) (l := a.n.toNat) Try.underlying9 rfl rfl (by omega)) ?_
                    refine ws_pg rfl (gd_ rfl rfl rfl rfl rfl rfl) rfl rfl ((p_addT rfl rfl (by rw [str_size, str_size, List.length_take, List.length_drop, hlp, hlq]; omega)).to (congrArg Value.string (strs_add _ _))) ?_
                    refine ws_pg rfl (gd_ rfl rfl rfl rfl rfl rfl) rfl rfl (p_neT rfl rfl) ?_
                    refine ws_p rfl rfl rfl rfl (p_pickF rfl rfl) ?_
                    refine ws_n ?_
                    refine x_seq ?_
                    refine wc_no rfl (strs_not hcat) ?_
                    refine wc_skip ?_
                    refine x_in_normal ?_
                    refine x_seq ?_
                    refine wc_region ?_
                    refine wl rfl rfl rfl (p_mv rfl) ?_
                    refine wl rfl rfl rfl (p_add rfl rfl (w64 (by omega))) ?_
                    refine wl rfl rfl rfl (p_as rfl) ?_
                    refine wl_nil ?_
                    refine x_round (e' := [(5, .pointer (some ⟨g5, 0, none⟩)), (6, .bool false), (7, .pointer (some ⟨g21, 0, none⟩)), (8, .slice (some ⟨g60, 0, none⟩) 256 256), (9, .slice (some ⟨g61, 0, none⟩) 256 256), (10, .slice A72 l72 c72), (11, .slice A87 256 c87), (13, i64 ((_) : Int)), (14, i64 ((s + 1) : Int))]) ⟨rfl, rfl, rfl, rfl, rfl, rfl, rfl, rfl, rfl, trivial⟩ (by rw [hm0]; omega) ⟨s + 1, _, rfl, rfl, by omega, by first | omega | exact hnx, hb5, hb60, hb61, hK, hS87, HC⟩
          ·
            have c4 := of_decide_eq_false c4
            refine wc_exit ?_
            refine x_then_exit ?_
            refine x_then_exit ?_
            refine x_in_here ?_
            refine x_seq ?_
            refine wc_seq ?_
            refine wc_region ?_
            refine wl rfl rfl rfl (p_mv rfl) ?_
            refine wl rfl rfl rfl (p_lenS Try.underlying26 rfl) ?_
            refine wl rfl rfl rfl (p_le rfl rfl) ?_
            refine wl rfl rfl rfl (p_mv rfl) ?_
            refine wl_know (d := 183) (b' := true) rfl (decide_eq_true (by have := ord_le hok57; omega)) ?_
            refine wle_g (gd_ rfl rfl rfl rfl rfl rfl) (e_call ent16 rfl rfl (lives5_any) ?_)
            rintro _ w30 ⟨rfl, hc⟩
            refine ⟨_, rfl, ?_⟩
            have hzw30 := hc.size
            have HC := HC.tr hc
            have hb5 := hb5.ch hc (fun h => h)
            have hb60 := hb60.ch hc (fun h => h)
            have hb61 := hb61.ch hc (fun h => h)
            have hK := hK.no hc
            have hS87 := hS87.no hc
            refine wl rfl rfl rfl (p_pickT rfl rfl) ?_
            refine wl rfl rfl rfl (p_as rfl) ?_
            refine wl_nil ?_
            refine x_seq ?_
            refine wc_ret ?_
            refine fin_run (res1 rfl rfl) ?_
            exact ⟨rfl, HC⟩
end Go.Proofs.Ytcgapjieidmkpaa
