/-
  Own text, printed by a program of mine (wip/gx): what functions of the program do, walked operation by operation.
-/
import Derived.Test.YtcgapjieidmkpaaProg
import Derived.Test.YtcgapjieidmkpaaGxAgg
import Derived.Test.YtcgapjieidmkpaaTab
import Derived.Test.YtcgapjieidmkpaaPlDisk
import Derived.Test.YtcgapjieidmkpaaPlDiskSt
import Derived.Test.YtcgapjieidmkpaaPlDiskOk
import Derived.Test.YtcgapjieidmkpaaPlDiskC
import Derived.Test.YtcgapjieidmkpaaPlActD
import Derived.Test.YtcgapjieidmkpaaPlActs
import Derived.Test.YtcgapjieidmkpaaPlDiskLaw
import Derived.Test.YtcgapjieidmkpaaDTb
import Derived.Test.YtcgapjieidmkpaaDX
import Derived.Test.YtcgapjieidmkpaaDxC
import Derived.Test.YtcgapjieidmkpaaW0
import Derived.Test.YtcgapjieidmkpaaW2
set_option linter.unusedVariables false
namespace Go.Proofs.Ytcgapjieidmkpaa
open Go.RowKit Go.Gx
open Go.Plain
set_option maxHeartbeats 1000000 in
set_option maxRecDepth 20000 in
theorem one_any {w : World} {w0 : World} {O : Nat → Prop} {g n : Nat} {d : DS} {a : ActD} {bA kA : Option Addr} {bl bc kl kc : Nat} (hd : CD TD w0 w O g n d) (hB : Sl w (fun k => k < w0.heap.size) u8v bA bl bc a.b) (hK : Sl w (fun k => k < w0.heap.size) i64 kA kl kc a.keep) (hbz : bc ≤ 140737488351232) (hkz : kc ≤ 17592186044416) (h1a : -9223372036854775808 ≤ a.a) (h2a : a.a ≤ 9223372036854775807) (h1n : -9223372036854775808 ≤ a.n) (h2n : a.n ≤ 9223372036854775807) (hw0 : w0.heap.size ≤ w.heap.size) :
    Calls Try.prog 24 #[.pointer (some ⟨g, 0, none⟩), .agg #[i64 a.kind, i64 a.a, i64 a.n, .slice bA bl bc, .slice kA kl kc]] w fun e w' => ∃ O' : Nat → Prop, e = .returned (.tuple #[]) ∧ CD TD w0 w' O' g n (oneS n d a.kind a.a a.n a.b a.keep) ∧ (∀ k, O' k → O k ∨ w.heap.size ≤ k) ∧ Ch O w w' := by
  have hbc := hB.cap
  have hkc := hK.cap
  have hd0 := hd
  have hid : ∀ k, O k → O k ∨ w.heap.size ≤ k := fun k h => .inl h
  have hOz := hid
  have HC : Ch O w w := Ch.refl _ _
  refine enter' (args := [.pointer (some ⟨g, 0, none⟩), .agg #[i64 a.kind, i64 a.a, i64 a.n, .slice bA bl bc, .slice kA kl kc]]) (n := 40) Try.func24 rfl rfl rfl ?_
  refine wc_seq ?_
  refine wc_region ?_
  refine wle rfl (e_box (cs := #[i64 a.kind, i64 a.a, i64 a.n, .slice bA bl bc, .slice kA kl kc]) rfl rfl rfl (fun w1 g3 hg3 hb3 hc hsz3 => ?_))
  have hzw1 := hc.size
  have HC := HC.tr hc
  have hphd := hd.hi
  have hd := hd.no hc
  have hB := hB.no hc
  have hK := hK.no hc
  have hohb3_hd : ∀ k, O k → k ≠ g3 := fun k h e => by have := hphd k h; omega
  have hge3 : w.heap.size ≤ g3 := by have := HC.size; omega
  refine wl_nil ?_
  refine x_seq ?_
  refine wc_seq ?_
  refine wc_region ?_
  refine wl rfl rfl rfl (p_fld (j := 0) Try.underlying37 rfl ⟨_, by rfl⟩ rfl rfl) ?_
  refine wl rfl rfl rfl (p_ld Try.underlying3 rfl rfl (ld (hb3.cell rfl))) ?_
  refine wl_nil ?_
  refine x_seq ?_
  refine wc_block ?_
  refine wc_seq ?_
  refine wc_region ?_
  refine wl rfl rfl rfl (p_eq rfl rfl) ?_
  refine wl rfl rfl rfl (p_as rfl) ?_
  refine wl_nil ?_
  refine x_seq ?_
  refine wc_if rfl (fun c0 => ?_) (fun c0 => ?_)
  ·
    have c0 := of_decide_eq_true c0
    have hone := one_0 (n := n) (d := d) (a := a.a) (m := a.n) (b := a.b) (keep := a.keep) c0
    refine wc_region ?_
    refine wl rfl rfl rfl (p_mv rfl) ?_
    refine wl rfl rfl rfl (p_fld (j := 1) Try.underlying37 rfl ⟨_, by rfl⟩ rfl rfl) ?_
    refine wl rfl rfl rfl (p_ld Try.underlying3 rfl rfl (ld (hb3.cell rfl))) ?_
    refine wl rfl rfl rfl (p_fld (j := 3) Try.underlying37 rfl ⟨_, by rfl⟩ rfl rfl) ?_
    refine wl rfl rfl rfl (p_ld Try.underlying29 rfl rfl (ld (hb3.cell rfl))) ?_
    refine wle rfl (e_call ent12 rfl rfl (write_any hd.at_ hd.ok hd.hn (fun _ h => .inr h) hd.arm (by omega) (by omega) (hB) (fun k hk => (fun hf => hf.elim (fun h => by have h1 := hd.lo k h; have h2 : k < w0.heap.size := hk; omega) (fun h => by have h2 : k < w0.heap.size := hk; omega))) (by omega)) ?_)
    rintro _ w2 ⟨rfl, hdk, hc⟩
    refine ⟨_, rfl, ?_⟩
    obtain ⟨O13, hdn, hO13, hc⟩ := hd.next hdk hc (wr_ok hd.ok _ _) (Nat.le_trans (wr_arm _ _) hd.arm) (by rw [wr_keep]; exact hd.kp) (by omega)
    have hzw2 := hc.size
    have HC := HC.trans hc (fun _ _ h => h) (fun _ _ h => h)
    have hB := hB.ch hc (fun k hk ht => by have h1 := hd.lo k ht; have h2 : k < w0.heap.size := hk; omega)
    have hK := hK.ch hc (fun k hk ht => by have h1 := hd.lo k ht; have h2 : k < w0.heap.size := hk; omega)
    have hltg3 := hb3.lt
    have hb3 := hb3.ch hc (fun ht => hohb3_hd _ ht rfl)
    have hohb3_hd : ∀ k, O13 k → k ≠ g3 := fun k h => (hO13 k h).elim (hohb3_hd k) (fun h => by omega)
    have hd := hdn
    have hOz : ∀ k, O13 k → O k ∨ w.heap.size ≤ k := fun k h => (hO13 k h).imp (fun h => h) (fun h => by omega)
    refine wl_nil ?_
    refine x_in_normal ?_
    refine fin_run_n (res0 rfl) ?_
    rw [hone]; exact ⟨_, rfl, hd, hOz, HC⟩
  ·
    have c0 := of_decide_eq_false c0
    refine wc_seq ?_
    refine wc_region ?_
    refine wl rfl rfl rfl (p_eq rfl rfl) ?_
    refine wl rfl rfl rfl (p_as rfl) ?_
    refine wl_nil ?_
    refine x_seq ?_
    refine wc_if rfl (fun c1 => ?_) (fun c1 => ?_)
    ·
      have c1 := of_decide_eq_true c1
      have hone := one_2 (n := n) (d := d) (a := a.a) (m := a.n) (b := a.b) (keep := a.keep) c1
      refine wc_region ?_
      refine wl rfl rfl rfl (p_mv rfl) ?_
      refine wle rfl (e_call ent18 rfl rfl (sync_any hd.at_ hd.ok hd.hn (fun _ h => .inr h) hd.arm) ?_)
      rintro _ w3 ⟨rfl, hdk, hc⟩
      refine ⟨_, rfl, ?_⟩
      obtain ⟨O17, hdn, hO17, hc⟩ := hd.next hdk hc (sy_ok hd.ok) (Nat.le_trans sy_arm hd.arm) (by rw [sy_keep]; exact hd.kp) (by omega)
      have hzw3 := hc.size
      have HC := HC.trans hc (fun _ _ h => h) (fun _ _ h => h)
      have hB := hB.ch hc (fun k hk ht => by have h1 := hd.lo k ht; have h2 : k < w0.heap.size := hk; omega)
      have hK := hK.ch hc (fun k hk ht => by have h1 := hd.lo k ht; have h2 : k < w0.heap.size := hk; omega)
      have hltg3 := hb3.lt
      have hb3 := hb3.ch hc (fun ht => hohb3_hd _ ht rfl)
      have hohb3_hd : ∀ k, O17 k → k ≠ g3 := fun k h => (hO17 k h).elim (hohb3_hd k) (fun h => by omega)
      have hd := hdn
      have hOz : ∀ k, O17 k → O k ∨ w.heap.size ≤ k := fun k h => (hO17 k h).imp (fun h => h) (fun h => by omega)
      refine wl_nil ?_
      refine x_in_normal ?_
      refine fin_run_n (res0 rfl) ?_
      rw [hone]; exact ⟨_, rfl, hd, hOz, HC⟩
    ·
      have c1 := of_decide_eq_false c1
      refine wc_seq ?_
      refine wc_region ?_
      refine wl rfl rfl rfl (p_eq rfl rfl) ?_
      refine wl rfl rfl rfl (p_as rfl) ?_
      refine wl_nil ?_
      refine x_seq ?_
      refine wc_if rfl (fun c2 => ?_) (fun c2 => ?_)
      ·
        have c2 := of_decide_eq_true c2
        have hone := one_3 (n := n) (d := d) (a := a.a) (m := a.n) (b := a.b) (keep := a.keep) c2
        refine wc_region ?_
        refine wl rfl rfl rfl (p_mv rfl) ?_
        refine wl rfl rfl rfl (p_fld (j := 2) Try.underlying37 rfl ⟨_, by rfl⟩ rfl rfl) ?_
        refine wl rfl rfl rfl (p_ld Try.underlying3 rfl rfl (ld (hb3.cell rfl))) ?_
        refine wl rfl rfl rfl (p_fld (j := 4) Try.underlying37 rfl ⟨_, by rfl⟩ rfl rfl) ?_
        refine wl rfl rfl rfl (p_ld Try.underlying26 rfl rfl (ld (hb3.cell rfl))) ?_
        refine wl rfl rfl rfl (p_fld (j := 1) Try.underlying37 rfl ⟨_, by rfl⟩ rfl rfl) ?_
        refine wl rfl rfl rfl (p_ld Try.underlying3 rfl rfl (ld (hb3.cell rfl))) ?_
        refine wle rfl (e_call ent11 rfl rfl (arm_any hd.at_ (hK) (by have := (hK).cap; omega) (fun _ h => .inr h)) ?_)
        rintro _ w4 ⟨rfl, hdk, hc⟩
        refine ⟨_, rfl, ?_⟩
        obtain ⟨O27, hdn, hO27, hc⟩ := hd.next hdk hc (arm_ok hd.ok _ _ _) (arm_arm (by omega) _ _) (Nat.le_trans (Nat.le_of_eq (hK).len) (by have := (hK).cap; omega)) (by omega)
        have hzw4 := hc.size
        have HC := HC.trans hc (fun _ _ h => h) (fun _ _ h => h)
        have hB := hB.ch hc (fun k hk ht => by have h1 := hd.lo k ht; have h2 : k < w0.heap.size := hk; omega)
        have hK := hK.ch hc (fun k hk ht => by have h1 := hd.lo k ht; have h2 : k < w0.heap.size := hk; omega)
        have hltg3 := hb3.lt
        have hb3 := hb3.ch hc (fun ht => hohb3_hd _ ht rfl)
        have hohb3_hd : ∀ k, O27 k → k ≠ g3 := fun k h => (hO27 k h).elim (hohb3_hd k) (fun h => by omega)
        have hd := hdn
        have hOz : ∀ k, O27 k → O k ∨ w.heap.size ≤ k := fun k h => (hO27 k h).imp (fun h => h) (fun h => by omega)
        refine wl_nil ?_
        refine x_in_normal ?_
        refine fin_run_n (res0 rfl) ?_
        rw [hone]; exact ⟨_, rfl, hd, hOz, HC⟩
      ·
        have c2 := of_decide_eq_false c2
        refine wc_seq ?_
        refine wc_region ?_
        refine wl rfl rfl rfl (p_eq rfl rfl) ?_
        refine wl rfl rfl rfl (p_as rfl) ?_
        refine wl_nil ?_
        refine x_seq ?_
        refine wc_if rfl (fun c3 => ?_) (fun c3 => ?_)
        ·
          have c3 := of_decide_eq_true c3
          have hone := one_4 (n := n) (d := d) (a := a.a) (m := a.n) (b := a.b) (keep := a.keep) c3
          refine wc_region ?_
          refine wl rfl rfl rfl (p_mv rfl) ?_
          refine wl rfl rfl rfl (p_fld (j := 4) Try.underlying37 rfl ⟨_, by rfl⟩ rfl rfl) ?_
          refine wl rfl rfl rfl (p_ld Try.underlying26 rfl rfl (ld (hb3.cell rfl))) ?_
          refine wl rfl rfl rfl (p_fld (j := 2) Try.underlying37 rfl ⟨_, by rfl⟩ rfl rfl) ?_
          refine wl rfl rfl rfl (p_ld Try.underlying3 rfl rfl (ld (hb3.cell rfl))) ?_
          refine wle rfl (e_call ent20 rfl rfl (crash_any hd.at_ (hK) (by have := (hK).cap; omega) (fun k hk => .inl (fun hf => hf.elim (fun h => by have h1 := hd.lo k h; have h2 : k < w0.heap.size := hk; omega) (fun h => by have h2 : k < w0.heap.size := hk; omega))) hd.ok hd.hn (fun _ h => .inr h)) ?_)
          rintro _ w5 ⟨rfl, hdk, hc⟩
          refine ⟨_, rfl, ?_⟩
          obtain ⟨O35, hdn, hO35, hc⟩ := hd.next hdk hc (cr_ok hd.ok _ _) (Nat.le_trans (cr_arm _ _) hd.arm) (by rw [cr_keep]; exact hd.kp) (by omega)
          have hzw5 := hc.size
          have HC := HC.trans hc (fun _ _ h => h) (fun _ _ h => h)
          have hB := hB.ch hc (fun k hk ht => by have h1 := hd.lo k ht; have h2 : k < w0.heap.size := hk; omega)
          have hK := hK.ch hc (fun k hk ht => by have h1 := hd.lo k ht; have h2 : k < w0.heap.size := hk; omega)
          have hltg3 := hb3.lt
          have hb3 := hb3.ch hc (fun ht => hohb3_hd _ ht rfl)
          have hohb3_hd : ∀ k, O35 k → k ≠ g3 := fun k h => (hO35 k h).elim (hohb3_hd k) (fun h => by omega)
          have hd := hdn
          have hOz : ∀ k, O35 k → O k ∨ w.heap.size ≤ k := fun k h => (hO35 k h).imp (fun h => h) (fun h => by omega)
          refine wl_nil ?_
          refine x_in_normal ?_
          refine fin_run_n (res0 rfl) ?_
          rw [hone]; exact ⟨_, rfl, hd, hOz, HC⟩
        ·
          have c3 := of_decide_eq_false c3
          refine wc_seq ?_
          refine wc_region ?_
          refine wl rfl rfl rfl (p_eq rfl rfl) ?_
          refine wl rfl rfl rfl (p_as rfl) ?_
          refine wl_nil ?_
          refine x_seq ?_
          refine wc_if rfl (fun c4 => ?_) (fun c4 => ?_)
          ·
            have c4 := of_decide_eq_true c4
            have hone := one_5 (n := n) (d := d) (a := a.a) (m := a.n) (b := a.b) (keep := a.keep) c4
            refine wc_region ?_
            refine wl rfl rfl rfl (p_mv rfl) ?_
            refine wle rfl (e_call ent15 rfl rfl (start_any hd.at_ ) ?_)
            rintro _ w6 ⟨rfl, hdk, hc⟩
            refine ⟨_, rfl, ?_⟩
            obtain ⟨O39, hdn, hO39, hc⟩ := hd.next hdk hc (st_ok hd.ok) (Nat.le_trans st_arm hd.arm) (by rw [st_keep]; exact hd.kp) (by omega)
            have hzw6 := hc.size
            have HC := HC.trans hc (fun _ _ h => h) (fun _ _ h => h)
            have hB := hB.ch hc (fun k hk ht => by have h1 := hd.lo k ht; have h2 : k < w0.heap.size := hk; omega)
            have hK := hK.ch hc (fun k hk ht => by have h1 := hd.lo k ht; have h2 : k < w0.heap.size := hk; omega)
            have hltg3 := hb3.lt
            have hb3 := hb3.ch hc (fun ht => hohb3_hd _ ht rfl)
            have hohb3_hd : ∀ k, O39 k → k ≠ g3 := fun k h => (hO39 k h).elim (hohb3_hd k) (fun h => by omega)
            have hd := hdn
            have hOz : ∀ k, O39 k → O k ∨ w.heap.size ≤ k := fun k h => (hO39 k h).imp (fun h => h) (fun h => by omega)
            refine wl_nil ?_
            refine x_in_normal ?_
            refine fin_run_n (res0 rfl) ?_
            rw [hone]; exact ⟨_, rfl, hd, hOz, HC⟩
          ·
            have c4 := of_decide_eq_false c4
            have hone := one_x (n := n) (d := d) (a := a.a) (m := a.n) (b := a.b) (keep := a.keep) c0 c1 c2 c3 c4
            refine wc_skip ?_
            refine x_in_normal ?_
            refine fin_run_n (res0 rfl) ?_
            rw [hone]; exact ⟨_, rfl, hd, hOz, HC⟩
end Go.Proofs.Ytcgapjieidmkpaa
