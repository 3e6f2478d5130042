/-
  Own text, printed by a program of mine (wip/gx): what functions of the program do, walked operation by operation.
-/
import Derived.Test.YtcgapjieidmkpaaProg
import Derived.Test.YtcgapjieidmkpaaGxAgg
import Derived.Test.YtcgapjieidmkpaaTab
import Derived.Test.YtcgapjieidmkpaaPlDisk
import Derived.Test.YtcgapjieidmkpaaPlDiskSt
import Derived.Test.YtcgapjieidmkpaaDTb
import Derived.Test.YtcgapjieidmkpaaDxstrikesany
set_option linter.unusedVariables false
namespace Go.Proofs.Ytcgapjieidmkpaa
open Go.RowKit Go.Gx
open Go.Plain
set_option maxHeartbeats 2000000 in
set_option maxRecDepth 20000 in
theorem sync_any {w : World} {F : Nat → Prop} {g n : Nat} {d : DS} (hd : DkAt TD w F g n d) (hok : d.Ok n) (hn : n ≤ 4096) (hF : ∀ k, w.heap.size ≤ k → F k) (harm : d.armed ≤ 9223372036854775807) :
    Calls Try.prog 18 #[.pointer (some ⟨g, 0, none⟩)] w fun e w' => e = .returned (i64 (syS d).1) ∧ DkAt TD w' F g n (syS d).2 ∧ Ch F w w' := by
  obtain ⟨gs, cs, gm, Ao, lo, co, Ak, lk, ck, hD, hR⟩ := hd
  have hol0 := hR.hO.sl.len
  have HC : Ch F w w := Ch.refl _ _
  refine enter' (args := [.pointer (some ⟨g, 0, none⟩)]) (n := 35) Try.func18 rfl rfl rfl ?_
  refine wc_seq ?_
  refine wc_region ?_
  refine wl rfl rfl rfl (p_as rfl) ?_
  refine wl_nil ?_
  refine x_seq ?_
  refine wc_seq ?_
  refine wc_seq ?_
  refine wc_region ?_
  refine wl rfl rfl rfl (p_mv rfl) ?_
  refine wle rfl (e_call ent27 rfl rfl (may_any ⟨_, _, _, _, _, _, _, _, _, hD, hR⟩) ?_)
  rintro _ w1 ⟨rfl, hc⟩
  refine ⟨_, rfl, ?_⟩
  have hzw1 := hc.size
  have HC := HC.tr hc
  have hD := hD.ch hc (fun h => h)
  first | have hR := hR.no hc | have hR := hR.ch hc (by intro k hz hk ht; first | omega | (dsimp only at *; omega))
  refine wl rfl rfl rfl (p_as rfl) ?_
  refine wl_nil ?_
  refine x_seq ?_
  refine wc_seq ?_
  refine wc_region ?_
  refine wl rfl rfl rfl (p_mv rfl) ?_
  refine wl rfl rfl rfl (p_ne rfl rfl) ?_
  refine wl_nil ?_
  refine x_seq ?_
  refine wc_if rfl (fun c0 => ?_) (fun c0 => ?_)
  ·
    have c0 := of_decide_eq_true c0
    have hst : syS d = (7, d) := syS_off (off_of c0)
    have hoff := off_of c0
    refine wc_seq ?_
    refine wc_region ?_
    refine wl rfl rfl rfl (p_mv rfl) ?_
    refine wl rfl rfl rfl (p_as rfl) ?_
    refine wl_nil ?_
    refine x_seq ?_
    refine wc_ret ?_
    refine x_then_ret ?_
    refine fin_run (res1 rfl rfl) ?_
    rw [hst]
    first
      | exact ⟨rfl, ⟨_, _, _, _, _, _, _, _, _, hD, hR⟩, HC⟩
      | exact ⟨by rw [hoff]; rfl, ⟨_, _, _, _, _, _, _, _, _, hD, hR⟩, HC⟩
      | exact ⟨rfl, hd, HC⟩
      | exact ⟨rfl, ⟨_, _, _, _, _, _, _, _, _, hD, hR.clean hkn⟩, HC⟩
  ·
    have c0 := of_decide_eq_false c0
    have hoff := on_of c0
    refine wc_skip ?_
    refine x_seq ?_
    refine wc_seq ?_
    refine wc_seq ?_
    refine wc_region ?_
    refine wl rfl rfl rfl (p_mv rfl) ?_
    refine wl rfl rfl rfl (p_nck rfl) ?_
    refine wl rfl rfl rfl (p_fld (j := 2) Try.underlying49 rfl ⟨_, by rfl⟩ rfl rfl) ?_
    refine wl rfl rfl rfl (p_ld Try.underlying26 rfl rfl (ld (hD.cell rfl))) ?_
    refine wl rfl rfl rfl (p_lenS Try.underlying26 rfl) ?_
    refine wl rfl rfl rfl (p_eq rfl rfl) ?_
    refine wl_nil ?_
    refine x_seq ?_
    refine wc_if rfl (fun c1 => ?_) (fun c1 => ?_)
    ·
      have c1 := of_decide_eq_true c1
      have hst : syS d = (0, d) := syS_none hoff (List.eq_nil_of_length_eq_zero (by omega))
      refine wc_seq ?_
      refine wc_region ?_
      refine wl rfl rfl rfl (p_as rfl) ?_
      refine wl_nil ?_
      refine x_seq ?_
      refine wc_ret ?_
      refine x_then_ret ?_
      refine fin_run (res1 rfl rfl) ?_
      rw [hst]
      first
        | exact ⟨rfl, ⟨_, _, _, _, _, _, _, _, _, hD, hR⟩, HC⟩
        | exact ⟨by rw [hoff]; rfl, ⟨_, _, _, _, _, _, _, _, _, hD, hR⟩, HC⟩
        | exact ⟨rfl, hd, HC⟩
        | exact ⟨rfl, ⟨_, _, _, _, _, _, _, _, _, hD, hR.clean hkn⟩, HC⟩
    ·
      have c1 := of_decide_eq_false c1
      have hne0 : d.ord ≠ [] := fun e => c1 (by rw [← hol0, e]; rfl)
      refine wc_skip ?_
      refine x_seq ?_
      refine wc_seq ?_
      refine wc_seq ?_
      refine wc_region ?_
      refine wl rfl rfl rfl (p_mv rfl) ?_
      refine wle rfl (e_call ent28 rfl rfl (strikes_any ⟨_, _, _, _, _, _, _, _, _, hD, hR⟩ hok hn (by intro k hk; exact hF k (by omega)) hoff harm) ?_)
      rintro _ w2 ⟨rfl, hd, hc⟩
      refine ⟨_, rfl, ?_⟩
      have HC := HC.trans hc (fun _ _ h => h) (fun _ _ h => h)
      have hzw2 := hc.size
      refine wl_nil ?_
      refine x_seq ?_
      refine wc_if rfl (fun c2 => ?_) (fun c2 => ?_)
      ·
        have hst := syS_strk hoff hne0 c2
        refine wc_seq ?_
        refine wc_region ?_
        refine wl rfl rfl rfl (p_as rfl) ?_
        refine wl_nil ?_
        refine x_seq ?_
        refine wc_ret ?_
        refine x_then_ret ?_
        refine fin_run (res1 rfl rfl) ?_
        rw [hst]
        first
          | exact ⟨rfl, ⟨_, _, _, _, _, _, _, _, _, hD, hR⟩, HC⟩
          | exact ⟨by rw [hoff]; rfl, ⟨_, _, _, _, _, _, _, _, _, hD, hR⟩, HC⟩
          | exact ⟨rfl, hd, HC⟩
          | exact ⟨rfl, ⟨_, _, _, _, _, _, _, _, _, hD, hR.clean hkn⟩, HC⟩
      ·
        have hst := syS_done hoff hne0 c2
        obtain ⟨d2, hd2⟩ : ∃ x, x = (strk d).2 := ⟨_, rfl⟩
        rw [← hd2] at hd
        have hok2 : d2.Ok n := hd2 ▸ strk_ok hok
        obtain ⟨gs, cs, gm, Ao, lo, co, Ak, lk, ck, hD, hR⟩ := hd
        have hne1 : g ≠ gs := hR.neS hD (by decide)
        have hne2 : g ≠ gm := by obtain ⟨l, clk, h1, _⟩ := hR.ex; exact (h1.ne hD).symm
        have hgl := hD.lt
        have hol := hR.hO.sl.len
        have hom2 := ord_le hok2
        rw [← hd2] at hst
        refine wc_skip ?_
        refine x_seq ?_
        refine wc_seq ?_
        refine wc_seq ?_
        refine wc_region ?_
        refine wl rfl rfl rfl (p_mv rfl) ?_
        refine wl rfl rfl rfl (p_nck rfl) ?_
        refine wl rfl rfl rfl (p_fld (j := 2) Try.underlying49 rfl ⟨_, by rfl⟩ rfl rfl) ?_
        refine wl rfl rfl rfl (p_ld Try.underlying26 rfl rfl (ld (hD.cell rfl))) ?_
        refine wl rfl rfl rfl (p_lenS Try.underlying26 rfl) ?_
        refine wl rfl rfl rfl (p_mv rfl) ?_
        refine wl_nil ?_
        refine x_seq ?_
        refine wc_block ?_
        refine wc_loop (e' := [(0, .pointer (some ⟨g, 0, none⟩)), (22, .slice Ao lo co), (23, i64 (lo : Int)), (24, i64 ((0) : Int))]) (fun mz ez uz => ∃ k : Nat, mz = lo - k ∧ ez = [(0, .pointer (some ⟨g, 0, none⟩)), (22, .slice Ao lo co), (23, i64 (lo : Int)), (24, i64 (k : Int))] ∧ (k ≤ lo) ∧ (∃ ks, Blk uz g 49 (dcell gs n cs gm Ao lo co d2.off d2.armed Ak lk ck d2.torn) ∧ DR TD uz F g n gs gm Ao lo co Ak lk ck (seK d2 k) d2.now d2.ord d2.keep ks ∧ (∀ i ∈ d2.ord.drop k, i ∈ ks) ∧ ∀ i ∈ ks, i ∈ d2.ord.drop k) ∧ (Ch F w uz))
          ⟨rfl, rfl, rfl, rfl, trivial⟩ ⟨0, rfl, rfl, by omega, ⟨d2.ord, hD, hR, fun i hi => List.mem_of_mem_drop hi, fun i hi => by simpa using hi⟩, HC⟩ ?_
        rintro m0 e w3 ⟨k, hm0, rfl, hk, hst2, HC⟩
        have hzw3 := HC.size
        obtain ⟨ks, hD, hR, hks, hks2⟩ := hst2
        refine wc_seq ?_
        refine wc_region ?_
        refine wl rfl rfl rfl (p_lt rfl rfl) ?_
        refine wl_nil ?_
        refine x_seq ?_
        refine wc_seq ?_
        refine wc_if rfl (fun c3 => ?_) (fun c3 => ?_)
        ·
          have c3 := of_decide_eq_true c3
          have hkl : k < d2.ord.length := by omega
          refine wc_skip ?_
          refine x_seq ?_
          refine wc_seq ?_
          refine wc_block ?_
          refine wc_seq ?_
          refine wc_region ?_
          obtain ⟨b4, o4, hA4, hF4, hc4⟩ := (hR.hO.sl).opn (d := 0) (by omega)
          refine wl rfl rfl rfl (p_ixS1 Try.underlying26 sz3 rfl hA4 rfl (by omega) (by omega) (Int.toNat_natCast _)) ?_
          refine wl rfl rfl rfl (p_ld Try.underlying3 rfl rfl (ld (hc4 _ (by omega)))) ?_
          obtain ⟨i, hi⟩ : ∃ i, i = d2.ord.getD k 0 := ⟨_, rfl⟩
          rw [← hi]
          have hid : i ∈ d2.ord.drop k := by rw [hi]; exact drop_head hkl
          have hin : i < n := hok2.lt i (List.mem_of_mem_drop hid)
          have hnx := seK_next (d := d2) hkl
          rw [← hi] at hnx
          have hrest : ∀ j ∈ d2.ord.drop (k + 1), j ∈ d2.ord.drop k ∧ j ≠ i := fun j hj => by rw [hi]; exact drop_rest hkl hok2.nd hj
          have hsplit : ∀ j ∈ d2.ord.drop k, j ≠ i → j ∈ d2.ord.drop (k + 1) := fun j hj hne => by rw [hi] at hne; exact drop_split hkl hj hne
          refine wl rfl rfl rfl (p_as rfl) ?_
          refine wl_nil ?_
          refine x_seq ?_
          refine wc_region ?_
          refine wl rfl rfl rfl (p_mv rfl) ?_
          refine wl rfl rfl rfl (p_mv rfl) ?_
          refine wle rfl (e_call ent30 rfl rfl (settle_any hD hR (hks i hid) hin hn (seK_len hok2 (by omega)) hok2.w) ?_)
          rintro _ w5 ⟨rfl, hc, hD, hR⟩
          refine ⟨_, rfl, ?_⟩
          have HC := HC.trans hc (fun _ _ h => h) (fun k hk ht => by rcases ht with rfl | rfl; exact hR.fs; exact hR.fm)
          have hzw5 := hc.size
          refine wl_nil ?_
          refine x_in_normal ?_
          refine x_seq ?_
          refine wc_region ?_
          refine wl rfl rfl rfl (p_add rfl rfl (w64 (by omega))) ?_
          refine wl rfl rfl rfl (p_mv rfl) ?_
          refine wl_nil ?_
          refine x_round (e' := [(0, .pointer (some ⟨g, 0, none⟩)), (22, .slice Ao lo co), (23, i64 (lo : Int)), (24, i64 ((k + 1) : Int))]) ⟨rfl, rfl, rfl, rfl, trivial⟩ (by rw [hm0]; omega) ⟨k + 1, rfl, rfl, by omega, ⟨_, hD, by rw [hnx]; exact hR, fun j hj => List.mem_filter.2 ⟨hks j (hrest j hj).1, by simpa using (hrest j hj).2⟩, fun j hj => hsplit j (hks2 j (List.mem_filter.1 hj).1) (by simpa using (List.mem_filter.1 hj).2)⟩, HC⟩
        ·
          have c3 := of_decide_eq_false c3
          have hkl : k = d2.ord.length := by omega
          subst hkl
          rw [seK_all hok2] at hR
          have hkn : ∀ j, j ∉ ks := fun j hj => by have := hks2 j hj; simp at this
          refine wc_exit ?_
          refine x_then_exit ?_
          refine x_then_exit ?_
          refine x_in_here ?_
          refine x_seq ?_
          refine wc_seq ?_
          refine wc_region ?_
          refine wl rfl rfl rfl (p_mv rfl) ?_
          refine wl rfl rfl rfl (p_nck rfl) ?_
          refine wl rfl rfl rfl (p_fld (j := 2) Try.underlying49 rfl ⟨_, by rfl⟩ rfl rfl) ?_
          refine wle rfl (e_stD (T := TD) (j := 2) (by rfl) rfl rfl rfl hD hR (show 2 < 7 by decide) (fun w6 hD hR hc hsz => ?_))
          have hzw6 := hc.size
          have HC := HC.trans hc (fun _ _ h => h) (fun k hk ht => (by rw [ht]; exact hR.fg))
          refine wl_nil ?_
          refine x_seq ?_
          refine wc_seq ?_
          refine wc_region ?_
          refine wl rfl rfl rfl (p_as rfl) ?_
          refine wl_nil ?_
          refine x_seq ?_
          refine wc_ret ?_
          refine fin_run (res1 rfl rfl) ?_
          rw [hst]
          first
            | exact ⟨rfl, ⟨_, _, _, _, _, _, _, _, _, hD, hR⟩, HC⟩
            | exact ⟨by rw [hoff]; rfl, ⟨_, _, _, _, _, _, _, _, _, hD, hR⟩, HC⟩
            | exact ⟨rfl, hd, HC⟩
            | exact ⟨rfl, ⟨_, _, _, _, _, _, _, _, _, hD, hR.clean hkn⟩, HC⟩
end Go.Proofs.Ytcgapjieidmkpaa
