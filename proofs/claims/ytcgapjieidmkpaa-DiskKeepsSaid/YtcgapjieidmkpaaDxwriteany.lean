/-
  Own text, printed by a program of mine (wip/gx): what functions of the program do, walked operation by operation.
-/
import Derived.Test.YtcgapjieidmkpaaProg
import Derived.Test.YtcgapjieidmkpaaGxAgg
import Derived.Test.YtcgapjieidmkpaaTab
import Derived.Test.YtcgapjieidmkpaaPlDisk
import Derived.Test.YtcgapjieidmkpaaPlDiskSt
import Derived.Test.YtcgapjieidmkpaaDTb
import Derived.Test.YtcgapjieidmkpaaDxstrikesany
set_option linter.unusedVariables false
namespace Go.Proofs.Ytcgapjieidmkpaa
open Go.RowKit Go.Gx
open Go.Plain
set_option maxHeartbeats 2000000 in
set_option maxRecDepth 20000 in
theorem write_any {w : World} {F : Nat → Prop} {g n : Nat} {d : DS}{Ab : Option Addr} {lb cb : Nat} {Fb : Nat → Prop} {b : List UInt8} {a : Int} (hd : DkAt TD w F g n d) (hok : d.Ok n) (hn : n ≤ 4096) (hF : ∀ k, w.heap.size ≤ k → F k) (harm : d.armed ≤ 9223372036854775807) (ha1 : -9223372036854775808 ≤ a) (ha2 : a ≤ 9223372036854775807) (hb : Sl w Fb u8v Ab lb cb b) (hFb : ∀ k, Fb k → ¬ F k) (hlb : lb ≤ 9223372036854775807) :
    Calls Try.prog 12 #[.pointer (some ⟨g, 0, none⟩), i64 a, .slice Ab lb cb] w fun e w' => e = .returned (i64 (wrS n d a b).1) ∧ DkAt TD w' F g n (wrS n d a b).2 ∧ Ch F w w' := by
  obtain ⟨gs, cs, gm, Ao, lo, co, Ak, lk, ck, hD, hR⟩ := hd
  have hbl := hb.len
  have hb1 : Sl w (fun k => k < w.heap.size ∧ ¬ F k) u8v Ab lb cb b := hb.mono (fun k h1 h2 => ⟨h1, hFb k h2⟩)
  have hgl0 := hD.lt
  have HC : Ch F w w := Ch.refl _ _
  refine enter' (args := [.pointer (some ⟨g, 0, none⟩), i64 a, .slice Ab lb cb]) (n := 92) Try.func12 rfl rfl rfl ?_
  refine wc_seq ?_
  refine wc_region ?_
  refine wl rfl rfl rfl (p_as rfl) ?_
  refine wl_nil ?_
  refine x_seq ?_
  refine wc_seq ?_
  refine wc_seq ?_
  refine wc_region ?_
  refine wl rfl rfl rfl (p_mv rfl) ?_
  refine wle rfl (e_call ent27 rfl rfl (may_any ⟨_, _, _, _, _, _, _, _, _, hD, hR⟩) ?_)
  rintro _ w1 ⟨rfl, hc⟩
  refine ⟨_, rfl, ?_⟩
  have hzw1 := hc.size
  have HC := HC.tr hc
  have hD := hD.ch hc (fun h => h)
  first | have hR := hR.no hc | have hR := hR.ch hc (by intro k hz hk ht; first | omega | (dsimp only at *; omega))
  first | have hb1 := hb1.no hc | have hb1 := hb1.ch hc (by rintro k ⟨h1, h2⟩ ht; first | omega | exact h2 (ht ▸ hR.fg))
  refine wl rfl rfl rfl (p_as rfl) ?_
  refine wl_nil ?_
  refine x_seq ?_
  refine wc_seq ?_
  refine wc_region ?_
  refine wl rfl rfl rfl (p_mv rfl) ?_
  refine wl rfl rfl rfl (p_ne rfl rfl) ?_
  refine wl_nil ?_
  refine x_seq ?_
  refine wc_if rfl (fun c0 => ?_) (fun c0 => ?_)
  ·
    have c0 := of_decide_eq_true c0
    have hoff := off_of c0
    have hst := wrS_off (n := n) (a := a) (b := b) hoff
    refine wc_seq ?_
    refine wc_region ?_
    refine wl rfl rfl rfl (p_mv rfl) ?_
    refine wl rfl rfl rfl (p_as rfl) ?_
    refine wl_nil ?_
    refine x_seq ?_
    refine wc_ret ?_
    refine x_then_ret ?_
    refine fin_run (res1 rfl rfl) ?_
    first | rw [hst] | rw [wrS_full (n := n) (b := b) hoff c1 (by omega)]
    first
      | exact ⟨rfl, ⟨_, _, _, _, _, _, _, _, _, hD, hR⟩, HC⟩
      | exact ⟨by rw [hoff]; rfl, ⟨_, _, _, _, _, _, _, _, _, hD, hR⟩, HC⟩
      | exact ⟨rfl, hd, HC⟩
      | (rw [hjl, List.take_of_length_le (by omega)] at hR; exact ⟨rfl, ⟨_, _, _, _, _, _, _, _, _, hD, by rw [← hbl] at hR; exact hR⟩, HC⟩)
  ·
    have c0 := of_decide_eq_false c0
    have hoff := on_of c0
    refine wc_skip ?_
    refine x_seq ?_
    refine wc_seq ?_
    refine wc_block ?_
    refine wc_seq ?_
    refine wc_region ?_
    refine wl rfl rfl rfl (p_mv rfl) ?_
    refine wl rfl rfl rfl (p_lt rfl rfl) ?_
    refine wl rfl rfl rfl (p_as rfl) ?_
    refine wl_nil ?_
    refine x_seq ?_
    refine wc_if rfl (fun c1 => ?_) (fun c1 => ?_)
    ·
      have c1 := of_decide_eq_true c1
      have hst := wrS_neg (n := n) (b := b) hoff c1
      refine wc_seq ?_
      refine wc_region ?_
      refine wl rfl rfl rfl (p_as rfl) ?_
      refine wl_nil ?_
      refine x_seq ?_
      refine wc_ret ?_
      refine x_in_ret ?_
      refine x_then_ret ?_
      refine fin_run (res1 rfl rfl) ?_
      first | rw [hst] | rw [wrS_full (n := n) (b := b) hoff c1 (by omega)]
      first
        | exact ⟨rfl, ⟨_, _, _, _, _, _, _, _, _, hD, hR⟩, HC⟩
        | exact ⟨by rw [hoff]; rfl, ⟨_, _, _, _, _, _, _, _, _, hD, hR⟩, HC⟩
        | exact ⟨rfl, hd, HC⟩
        | (rw [hjl, List.take_of_length_le (by omega)] at hR; exact ⟨rfl, ⟨_, _, _, _, _, _, _, _, _, hD, by rw [← hbl] at hR; exact hR⟩, HC⟩)
    ·
      have c1 := of_decide_eq_false c1
      refine wc_seq ?_
      refine wc_region ?_
      refine wl rfl rfl rfl (p_mv rfl) ?_
      refine wl rfl rfl rfl (p_mv rfl) ?_
      refine wle rfl (e_call ent22 rfl rfl (size_any ⟨_, _, _, _, _, _, _, _, _, hD, hR⟩ (by omega)) ?_)
      rintro _ w2 ⟨rfl, hc⟩
      refine ⟨_, rfl, ?_⟩
      have hzw2 := hc.size
      have HC := HC.tr hc
      have hD := hD.ch hc (fun h => h)
      first | have hR := hR.no hc | have hR := hR.ch hc (by intro k hz hk ht; first | omega | (dsimp only at *; omega))
      first | have hb1 := hb1.no hc | have hb1 := hb1.ch hc (by rintro k ⟨h1, h2⟩ ht; first | omega | exact h2 (ht ▸ hR.fg))
      refine wl rfl rfl rfl (p_gt rfl rfl) ?_
      refine wl rfl rfl rfl (p_mv rfl) ?_
      refine wl_split (d := 24) rfl (fun q24 => ?_) (fun q24 => ?_)
      ·
        have q24 := of_decide_eq_true q24
        refine wl_s (gd_ rfl rfl rfl rfl rfl rfl) rfl rfl ?_
        refine wl_s (gd_ rfl rfl rfl rfl rfl rfl) rfl rfl ?_
        refine wl_s (gd_ rfl rfl rfl rfl rfl rfl) rfl rfl ?_
        refine wl_s (gd_ rfl rfl rfl rfl rfl rfl) rfl rfl ?_
        refine wl_s (gd_ rfl rfl rfl rfl rfl rfl) rfl rfl ?_
        refine wl_s (gd_ rfl rfl rfl rfl rfl rfl) rfl rfl ?_
        refine wl_s (gd_ rfl rfl rfl rfl rfl rfl) rfl rfl ?_
        refine wl rfl rfl rfl (p_pickT rfl rfl) ?_
        refine wl rfl rfl rfl (p_as rfl) ?_
        refine wl_nil ?_
        refine x_seq ?_
        refine wc_yes rfl (rfl) ?_
        refine wc_seq ?_
        refine wc_region ?_
        refine wl rfl rfl rfl (p_as rfl) ?_
        refine wl_nil ?_
        refine x_seq ?_
        refine wc_ret ?_
        refine x_in_ret ?_
        refine x_then_ret ?_
        refine fin_run (res1 rfl rfl) ?_
        first | rw [hst] | rw [wrS_full (n := n) (b := b) hoff c1 (by omega)]
        first
          | exact ⟨rfl, ⟨_, _, _, _, _, _, _, _, _, hD, hR⟩, HC⟩
          | exact ⟨by rw [hoff]; rfl, ⟨_, _, _, _, _, _, _, _, _, hD, hR⟩, HC⟩
          | exact ⟨rfl, hd, HC⟩
          | (rw [hjl, List.take_of_length_le (by omega)] at hR; exact ⟨rfl, ⟨_, _, _, _, _, _, _, _, _, hD, by rw [← hbl] at hR; exact hR⟩, HC⟩)
      ·
        have q24 := of_decide_eq_false q24
        refine wl_g (gd_ rfl rfl rfl rfl rfl rfl) rfl rfl (p_mv rfl) ?_
        refine wl_g (gd_ rfl rfl rfl rfl rfl rfl) rfl rfl (p_lenS Try.underlying29 rfl) ?_
        refine wl_g (gd_ rfl rfl rfl rfl rfl rfl) rfl rfl (p_mv rfl) ?_
        refine wle_g (gd_ rfl rfl rfl rfl rfl rfl) (e_call ent22 rfl rfl (size_any ⟨_, _, _, _, _, _, _, _, _, hD, hR⟩ (by omega)) ?_)
        rintro _ w3 ⟨rfl, hc⟩
        refine ⟨_, rfl, ?_⟩
        have hzw3 := hc.size
        have HC := HC.tr hc
        have hD := hD.ch hc (fun h => h)
        first | have hR := hR.no hc | have hR := hR.ch hc (by intro k hz hk ht; first | omega | (dsimp only at *; omega))
        first | have hb1 := hb1.no hc | have hb1 := hb1.ch hc (by rintro k ⟨h1, h2⟩ ht; first | omega | exact h2 (ht ▸ hR.fg))
        refine wl_g (gd_ rfl rfl rfl rfl rfl rfl) rfl rfl (p_mv rfl) ?_
        refine wl_g (gd_ rfl rfl rfl rfl rfl rfl) rfl rfl (p_sub rfl rfl (w64 (by omega))) ?_
        refine wl_g (gd_ rfl rfl rfl rfl rfl rfl) rfl rfl (p_gt rfl rfl) ?_
        refine wl rfl rfl rfl (p_pickF rfl rfl) ?_
        refine wl rfl rfl rfl (p_as rfl) ?_
        refine wl_nil ?_
        refine x_seq ?_
        refine wc_if rfl (fun c2 => ?_) (fun c2 => ?_)
        ·
          have c2 := of_decide_eq_true c2
          have hst := wrS_full (n := n) (b := b) hoff c1 (by omega)
          refine wc_seq ?_
          refine wc_region ?_
          refine wl rfl rfl rfl (p_as rfl) ?_
          refine wl_nil ?_
          refine x_seq ?_
          refine wc_ret ?_
          refine x_in_ret ?_
          refine x_then_ret ?_
          refine fin_run (res1 rfl rfl) ?_
          first | rw [hst] | rw [wrS_full (n := n) (b := b) hoff c1 (by omega)]
          first
            | exact ⟨rfl, ⟨_, _, _, _, _, _, _, _, _, hD, hR⟩, HC⟩
            | exact ⟨by rw [hoff]; rfl, ⟨_, _, _, _, _, _, _, _, _, hD, hR⟩, HC⟩
            | exact ⟨rfl, hd, HC⟩
            | (rw [hjl, List.take_of_length_le (by omega)] at hR; exact ⟨rfl, ⟨_, _, _, _, _, _, _, _, _, hD, by rw [← hbl] at hR; exact hR⟩, HC⟩)
        ·
          have c2 := of_decide_eq_false c2
          have hfit : ¬ (a > 32 * n ∨ (b.length : Int) > 32 * n - a) := by omega
          refine wc_seq ?_
          refine wc_region ?_
          refine wl rfl rfl rfl (p_mv rfl) ?_
          refine wl rfl rfl rfl (p_lenS Try.underlying29 rfl) ?_
          refine wl rfl rfl rfl (p_eq rfl rfl) ?_
          refine wl rfl rfl rfl (p_as rfl) ?_
          refine wl_nil ?_
          refine x_seq ?_
          refine wc_if rfl (fun c3 => ?_) (fun c3 => ?_)
          ·
            have c3 := of_decide_eq_true c3
            have hst := wrS_nil (n := n) (b := b) hoff c1 hfit (List.eq_nil_of_length_eq_zero (by omega))
            refine wc_seq ?_
            refine wc_region ?_
            refine wl rfl rfl rfl (p_as rfl) ?_
            refine wl_nil ?_
            refine x_seq ?_
            refine wc_ret ?_
            refine x_in_ret ?_
            refine x_then_ret ?_
            refine fin_run (res1 rfl rfl) ?_
            first | rw [hst] | rw [wrS_full (n := n) (b := b) hoff c1 (by omega)]
            first
              | exact ⟨rfl, ⟨_, _, _, _, _, _, _, _, _, hD, hR⟩, HC⟩
              | exact ⟨by rw [hoff]; rfl, ⟨_, _, _, _, _, _, _, _, _, hD, hR⟩, HC⟩
              | exact ⟨rfl, hd, HC⟩
              | (rw [hjl, List.take_of_length_le (by omega)] at hR; exact ⟨rfl, ⟨_, _, _, _, _, _, _, _, _, hD, by rw [← hbl] at hR; exact hR⟩, HC⟩)
          ·
            have c3 := of_decide_eq_false c3
            have hbne0 : b ≠ [] := fun e => c3 (by rw [← hbl, e]; rfl)
            refine wc_seq ?_
            refine wc_region ?_
            refine wl rfl rfl rfl (p_mv rfl) ?_
            refine wle rfl (e_call ent28 rfl rfl (strikes_any ⟨_, _, _, _, _, _, _, _, _, hD, hR⟩ hok hn (by intro k hk; exact hF k (by omega)) hoff harm) ?_)
            rintro _ w4 ⟨rfl, hd, hc⟩
            refine ⟨_, rfl, ?_⟩
            have hb1 := hb1.ch hc (fun k h1 h2 => h1.2 h2)
            have HC := HC.trans hc (fun _ _ h => h) (fun _ _ h => h)
            have hzw4 := hc.size
            refine wl rfl rfl rfl (p_as rfl) ?_
            refine wl_nil ?_
            refine x_seq ?_
            refine wc_if rfl (fun c4 => ?_) (fun c4 => ?_)
            ·
              have hst := wrS_strk (n := n) (b := b) hoff c1 hfit hbne0 c4
              refine wc_seq ?_
              refine wc_region ?_
              refine wl rfl rfl rfl (p_as rfl) ?_
              refine wl_nil ?_
              refine x_seq ?_
              refine wc_ret ?_
              refine x_in_ret ?_
              refine x_then_ret ?_
              refine fin_run (res1 rfl rfl) ?_
              first | rw [hst] | rw [wrS_full (n := n) (b := b) hoff c1 (by omega)]
              first
                | exact ⟨rfl, ⟨_, _, _, _, _, _, _, _, _, hD, hR⟩, HC⟩
                | exact ⟨by rw [hoff]; rfl, ⟨_, _, _, _, _, _, _, _, _, hD, hR⟩, HC⟩
                | exact ⟨rfl, hd, HC⟩
                | (rw [hjl, List.take_of_length_le (by omega)] at hR; exact ⟨rfl, ⟨_, _, _, _, _, _, _, _, _, hD, by rw [← hbl] at hR; exact hR⟩, HC⟩)
            ·
              have hst := wrS_done (n := n) (b := b) hoff c1 hfit hbne0 c4
              obtain ⟨d2, hd2⟩ : ∃ x, x = (strk d).2 := ⟨_, rfl⟩
              rw [← hd2] at hd
              have hok2 : d2.Ok n := hd2 ▸ strk_ok hok
              obtain ⟨gs, cs, gm, Ao, lo, co, Ak, lk, ck, hD, hR⟩ := hd
              have hne1 : g ≠ gs := hR.neS hD (by decide)
              have hne2 : g ≠ gm := by obtain ⟨l, clk, h1, _⟩ := hR.ex; exact (h1.ne hD).symm
              have hgl := hD.lt
              have hol := hR.hO.sl.len
              have hom2 := ord_le hok2
              rw [← hd2] at hst
              obtain ⟨x, rfl⟩ := Int.eq_ofNat_of_zero_le (show 0 ≤ a by omega)
              have hxl : x + b.length ≤ 32 * n := by omega
              rw [Int.toNat_natCast] at hst
              refine wc_skip ?_
              refine x_in_normal ?_
              refine x_seq ?_
              refine wc_seq ?_
              refine wc_block ?_
              refine wc_loop (e' := [(0, .pointer (some ⟨g, 0, none⟩)), (1, i64 ((x + (0) : Nat) : Int)), (2, .slice (Ab) (lb - (0)) (cb))]) (fun mz ez uz => ∃ j : Nat, ∃ A1 : Option Addr, ∃ kc : Nat, mz = lb - j ∧ ez = [(0, .pointer (some ⟨g, 0, none⟩)), (1, i64 ((x + j : Nat) : Int)), (2, .slice A1 (lb - j) kc)] ∧ (j ≤ lb) ∧ (j = 0 ∨ j = lb ∨ (x + j) % 32 = 0) ∧ (∃ Ao lo co, Blk uz g 49 (dcell gs n cs gm Ao lo co d2.off d2.armed Ak lk ck d2.torn) ∧ DR TD uz F g n gs gm Ao lo co Ak lk ck d2.safe (spl d2.now x (b.take j)) (touch d2.ord (x / 32) (cnt x j)) d2.keep (touch d2.ord (x / 32) (cnt x j))) ∧ (Sl uz (fun k => k < w.heap.size ∧ ¬ F k) u8v A1 (lb - j) kc (b.drop j)) ∧ (Ch F w uz))
                ⟨rfl, rfl, rfl, trivial⟩ ⟨0, Ab, cb, rfl, rfl, by omega, by omega, ⟨_, _, _, hD, by rw [List.take_zero, spl_nil]; exact hR⟩, by simpa using hb1, HC⟩ ?_
              rintro m0 e w5 ⟨j, A1, kc, hm0, rfl, hj, hjm, hst2, hb1, HC⟩
              have hzw5 := HC.size
              obtain ⟨Ao, lo, co, hD, hR⟩ := hst2
              refine wc_seq ?_
              refine wc_seq ?_
              refine wc_region ?_
              refine wl rfl rfl rfl (p_mv rfl) ?_
              refine wl rfl rfl rfl (p_lenS Try.underlying29 rfl) ?_
              refine wl rfl rfl rfl (p_gt rfl rfl) ?_
              refine wl_nil ?_
              refine x_seq ?_
              refine wc_if rfl (fun c5 => ?_) (fun c5 => ?_)
              ·
                have c5 := of_decide_eq_true c5
                have hjm0 : j = 0 ∨ (x + j) % 32 = 0 := by omega
                have hin : ((x + j) / 32) < n := by omega
                obtain ⟨q, hq⟩ : ∃ q, q = min (lb - j) (32 - ((x + j) % 32)) := ⟨_, rfl⟩
                have hnl := wr_len (b := b) (j := j) hok2.w hxl
                have hls := sec_len (i := ((x + j) / 32)) hok2.s hin
                have hcl : ((b.drop j).take q).length = q := by rw [List.length_take, List.length_drop]; omega
                have hws := wr_step (l := d2.now) (b := b) (x := x) (j := j) (q := q) (by rw [hok2.w]; exact hxl) (by omega)
                have hsec : sec (spl d2.now x (b.take (j + q))) ((x + j) / 32) = spl (sec (spl d2.now x (b.take j)) ((x + j) / 32)) ((x + j) % 32) ((b.drop j).take q) := by have h1 := sec_spl_part (l := (spl d2.now x (b.take j))) (c := (b.drop j).take q) (r := ((x + j) % 32)) hnl hin (by rw [hcl]; omega); rw [show 32 * ((x + j) / 32) + ((x + j) % 32) = x + j by omega] at h1; rw [hws]; exact h1
                have hoth : ∀ k, k < n → k ≠ ((x + j) / 32) → sec (spl d2.now x (b.take (j + q))) k = sec (spl d2.now x (b.take j)) k := fun k hk hne => by rw [hws]; exact sec_spl_other hnl hk (by rw [hcl, hnl]; omega) (by rw [hcl]; omega)
                have hltn : ∀ k ∈ (touch d2.ord (x / 32) (cnt x j)), k < n := fun k hk => by rcases mem_touch.1 hk with h | h; exact hok2.lt k h; have := cnt_at hjm0; omega
                have hlo : lo ≤ n := by have h1 := hR.hO.sl.len; have h2 := nodup_le (nodup_touch (i := x / 32) hok2.nd (m := cnt x j)) hltn; omega
                refine wc_skip ?_
                refine x_seq ?_
                refine wc_block ?_
                refine wc_seq ?_
                refine wc_region ?_
                refine wl rfl rfl rfl (p_mv rfl) ?_
                refine wl rfl rfl rfl (p_quo (Z := ((((x + j) / 32) : Nat) : Int)) rfl rfl (by omega) (by rw [show ((x + j : Nat) : Int).tdiv 32 = ((((x + j) / 32) : Nat) : Int) from rfl, w64 (by omega)])) ?_
                refine wl rfl rfl rfl (p_as rfl) ?_
                refine wl_nil ?_
                refine x_seq ?_
                refine wc_seq ?_
                refine wc_seq ?_
                refine wc_region ?_
                refine wl rfl rfl rfl (p_mv rfl) ?_
                refine wl rfl rfl rfl (p_nck rfl) ?_
                refine wl rfl rfl rfl (p_fld (j := 1) Try.underlying49 rfl ⟨_, by rfl⟩ rfl rfl) ?_
                refine wl rfl rfl rfl (p_ld Try.underlying47 rfl rfl (ld (hD.cell rfl))) ?_
                refine wl rfl rfl rfl (p_mv rfl) ?_
                obtain ⟨p, hp, hpc⟩ := hR.find Try.underlying47 Try.underlying3 (by rfl) ((x + j) / 32)
                refine wl rfl rfl rfl (p_lookR rfl rfl (fun x e => by rw [e]; exact hp _ (Ch.refl _ _))) ?_
                refine wl rfl rfl rfl (p_eqPN rfl rfl Try.underlying55) ?_
                refine wl_nil ?_
                refine x_seq ?_
                refine wc_if rfl (fun c6 => ?_) (fun c6 => ?_)
                ·
                  have hni : ((x + j) / 32) ∉ (touch d2.ord (x / 32) (cnt x j)) := by rcases hpc with h | ⟨b0, hb0, _⟩; exact h.2; rw [hb0] at c6; cases c6
                  have hsm := wr_same hok2 hxl (by omega) hin hjm0 hni
                  have htn := touch_out (ord := d2.ord) (q := q) hjm0 (by omega) (by omega) hni
                  have hin2 : ((x + j) / 32) ∈ (touch d2.ord (x / 32) (cnt x j)) ++ [((x + j) / 32)] := by simp
                  have hoth : ∀ k, k ∈ (touch d2.ord (x / 32) (cnt x j)) ++ [((x + j) / 32)] → k ≠ ((x + j) / 32) → sec (spl d2.now x (b.take (j + q))) k = sec (spl d2.now x (b.take j)) k := fun k hk hne => by rcases List.mem_append.1 hk with h | h; exact hoth k (hltn k h) hne; simp at h; exact absurd h hne
                  refine wc_seq ?_
                  refine wc_region ?_
                  refine wl rfl rfl rfl (p_mv rfl) ?_
                  refine wl rfl rfl rfl (p_nck rfl) ?_
                  refine wl rfl rfl rfl (p_fld (j := 0) Try.underlying49 rfl ⟨_, by rfl⟩ rfl rfl) ?_
                  refine wl rfl rfl rfl (p_ld Try.underlying46 rfl rfl (ld (hD.cell rfl))) ?_
                  refine wl rfl rfl rfl (p_mv rfl) ?_
                  refine wl rfl rfl rfl (p_ixS (j := ((x + j) / 32) * 32) Try.underlying46 sz57 rfl rfl rfl (by omega) (by omega) (congrArg (· * 32) (Int.toNat_natCast _))) ?_
                  refine wl rfl rfl rfl (p_ldA (cs := List.map u8v (sec d2.safe ((x + j) / 32))) Try.underlying57 rfl (szL sz57 (by rw [List.length_map]; exact hls)) rfl (fun _ e => e ▸ hR.rng (by rw [hok2.s]; omega))) ?_
                  have hsz0 : ∃ W, W = w5.heap.size := ⟨_, rfl⟩
                  obtain ⟨W, hW0⟩ := hsz0
                  have hR := hR.mono (G := fun k => F k ∧ k < W) (fun k h1 h2 => ⟨h2, by omega⟩) hD.lt
                  have hgW : g < W := by have := hD.lt; omega
                  have hgsW : gs < W := hR.fs.2
                  refine wle rfl (e_alloc (cs := ((List.replicate 32 (0 : UInt8)).map u8v).toArray) rfl (by rfl) (by rfl) (fun w6 g9 hg9 hb9 hc hsz9 => ?_))
                  have hD := hD.ch hc (fun h => h)
                  have hR := hR.no hc
                  have hb1 := hb1.no hc
                  have HC := HC.tr hc
                  have hzw6 := hc.size
                  have hge9 : w.heap.size ≤ g9 := by have := HC.size; omega
                  refine wle rfl (e_stW (vs := List.map u8v (sec d2.safe ((x + j) / 32))) (szL sz57 (by rw [List.length_map]; exact hls)) (oneL one_u8 _) rfl rfl hb9 (by simp only [List.size_toArray, List.length_map, List.length_replicate]; exact hls.symm) (fun w7 hb9 hc hsz => ?_))
                  rw [← hsm] at hb9
                  have hD := hD.ch hc (by omega)
                  have hnew9 := hR.notin (b := g9) (fun h => by omega)
                  have hR := hR.ch hc (by rintro k hz ⟨hk1, hk2⟩ ht; omega)
                  have hnew9 := hR.notin (b := g9) (fun h => by have := h.2; omega)
                  have hR := hR.mono (fun k _ h => h.1) hD.lt
                  have hb1 := hb1.ch hc (by rintro k ⟨h1, h2⟩ ht; omega)
                  have HC := HC.trans hc (fun _ _ h => h) (fun k hk ht => absurd ht (by omega))
                  have hzw7 := hc.size
                  refine wl_nil ?_
                  refine x_seq ?_
                  refine wc_seq ?_
                  refine wc_region ?_
                  refine wl rfl rfl rfl (p_mv rfl) ?_
                  refine wl rfl rfl rfl (p_nck rfl) ?_
                  refine wl rfl rfl rfl (p_fld (j := 1) Try.underlying49 rfl ⟨_, by rfl⟩ rfl rfl) ?_
                  refine wl rfl rfl rfl (p_ld Try.underlying47 rfl rfl (ld (hD.cell rfl))) ?_
                  refine wl rfl rfl rfl (p_mv rfl) ?_
                  refine wle rfl (e_dIns Try.underlying47 Try.underlying3 rfl rfl rfl hR hni hb9 (by omega) (hF g9 hge9) hnew9 (fun w8 hR hc hsz => ?_))
                  have hD := hD.ch hc hne2
                  have hb1 := hb1.ch hc (by rintro k ⟨h1, h2⟩ ht; exact h2 (ht ▸ hR.fm))
                  have HC := HC.trans hc (fun _ _ h => h) (fun k hk ht => by rw [ht]; exact hR.fm)
                  have hzw8 := hc.size
                  refine wl_nil ?_
                  refine x_seq ?_
                  refine wc_region ?_
                  refine wl rfl rfl rfl (p_mv rfl) ?_
                  refine wl rfl rfl rfl (p_mv rfl) ?_
                  refine wl rfl rfl rfl (p_nck rfl) ?_
                  refine wl rfl rfl rfl (p_fld (j := 2) Try.underlying49 rfl ⟨_, by rfl⟩ rfl rfl) ?_
                  refine wl rfl rfl rfl (p_ld Try.underlying26 rfl rfl (ld (hD.cell rfl))) ?_
                  refine wl rfl rfl rfl (p_mv rfl) ?_
                  have hltg := hD.lt
                  refine wle rfl (e_bslV (E := 3) rfl rfl (fun _ => by kernel_rfl) (fun w9 g70 hg70 hb70 hc hsz70 => ?_))
                  have hzw9 := hc.size
                  have HC := HC.tr hc
                  first | have hb1 := hb1.no hc | have hb1 := hb1.ch hc (by rintro k ⟨h1, h2⟩ ht; first | omega | exact h2 (ht ▸ hR.fg))
                  have hD := hD.ch hc (fun h => h)
                  first | have hR := hR.no hc | have hR := hR.ch hc (by intro k hz hk ht; first | omega | (dsimp only at *; omega))
                  have hge70 : w.heap.size ≤ g70 := by have := HC.size; omega
                  have hS70 := Sl.lit1 (f := i64) hb70
                  have hSo := sl_one hS70
                  refine wle rfl (e_appS rfl el26 (fun _ => rfl) rfl rfl hR.oRow hSo (by have := hR.hO.sl.len; omega) (by intro k hk; exact .inr hk) (fun w10 A71 c71 hWo hc => ?_))
                  have hnO := hR.notO hD (by decide)
                  have hD := hD.ch hc hnO
                  have hb1 := hb1.ch hc (by rintro k ⟨h1, h2⟩ ht; rcases ht with ht | ht; exact h2 (hR.hO.at_ k ht); omega)
                  have HC := HC.trans hc (fun _ _ h => h) (fun k hk ht => by rcases ht with ht | ht; exact hR.hO.at_ k ht; exact hF k (by omega))
                  have hR := hR.app (fun k hk => hF k (by omega)) hWo hc
                  have hzw10 := hc.size
                  refine wl rfl rfl rfl (p_nck rfl) ?_
                  refine wl rfl rfl rfl (p_fld (j := 2) Try.underlying49 rfl ⟨_, by rfl⟩ rfl rfl) ?_
                  refine wle rfl (e_stD (T := TD) (j := 2) (by rfl) rfl rfl rfl hD hR (show 2 < 7 by decide) (fun w11 hD hR hc hsz => ?_))
                  have hzw11 := hc.size
                  have HC := HC.trans hc (fun _ _ h => h) (fun k hk ht => (by rw [ht]; exact hR.fg))
                  first | have hb1 := hb1.no hc | have hb1 := hb1.ch hc (by rintro k ⟨h1, h2⟩ ht; first | omega | exact h2 (ht ▸ hR.fg))
                  refine wl_nil ?_
                  refine x_seq ?_
                  refine wc_seq ?_
                  refine wc_region ?_
                  refine wl rfl rfl rfl (p_mv rfl) ?_
                  refine wl rfl rfl rfl (p_nck rfl) ?_
                  refine wl rfl rfl rfl (p_fld (j := 1) Try.underlying49 rfl ⟨_, by rfl⟩ rfl rfl) ?_
                  refine wl rfl rfl rfl (p_ld Try.underlying47 rfl rfl (ld (hD.cell rfl))) ?_
                  refine wl rfl rfl rfl (p_mv rfl) ?_
                  obtain ⟨p2, hp2, hpc2⟩ := hR.find Try.underlying47 Try.underlying3 (by rfl) ((x + j) / 32)
                  obtain ⟨b2, rfl, _, hbE, hbne, hbF, hbin⟩ := hpc2.resolve_left (fun h => h.2 hin2)
                  have hlE := sec_len hnl hin
                  refine wl rfl rfl rfl (p_lookR rfl rfl (fun x e => by rw [e]; exact hp2 _ (Ch.refl _ _))) ?_
                  refine wl rfl rfl rfl (p_nck rfl) ?_
                  refine wl rfl rfl rfl (p_mv rfl) ?_
                  refine wl rfl rfl rfl (p_rem (Z := ((((x + j) % 32) : Nat) : Int)) rfl rfl (by omega) rfl) ?_
                  refine wl rfl rfl rfl (p_slA2 (l := ((x + j) % 32)) Try.underlying57 sz5 rfl ⟨_, rfl⟩ (by omega)) ?_
                  refine wl rfl rfl rfl (p_mv rfl) ?_
                  refine wle rfl (e_copyP (o := 0 + ((x + j) % 32)) (L := sec (spl d2.now x (b.take j)) ((x + j) / 32)) rfl Try.underlying29 sz5 rfl rfl hbE hb1 (by rw [hlE]; omega) (fun w12 hb2 hc hsz => ?_))
                  rw [← hq] at hb2
                  rw [← hq]
                  have hgb := hD.ne_of hbE (by decide)
                  have hD := hD.ch hc hgb
                  have hb1 := hb1.ch hc (by rintro k ⟨h1, h2⟩ ht; exact h2 (ht ▸ hbF))
                  have HC := HC.trans hc (fun _ _ h => h) (fun k hk ht => by rw [ht]; exact hbF)
                  have hR := hR.dirty (nw' := spl d2.now x (b.take (j + q))) (k := ((x + j) / 32)) hbE hbin hbne hc (by rw [hsec]; rw [Nat.zero_add] at hb2; exact hb2) hoth
                  have hzw12 := hc.size
                  refine wl rfl rfl rfl (p_as rfl) ?_
                  refine wl_nil ?_
                  refine x_seq ?_
                  refine wc_draw (.st 0 0 (.st 1 0 (.st 2 0 (.st 3 0 (.st 4 0 (.st 5 0 (.st 6 0 (.st 7 0 .nil)))))))) 8 (by kernel_rfl) (by kernel_rfl) (by kernel_rfl) (by repeat (first | with_reducible exact pan_body | with_reducible apply pan_then | with_reducible apply pan_in)) (fun x => Ch No w12.drew x) (Ch.refl _ _) ?_
                  obtain ⟨w13, ew13⟩ : ∃ x, x = w12.drew := ⟨_, rfl⟩
                  rw [← ew13]
                  have hc : Ch No w12 w13 := by rw [ew13]; exact Ch.drew _
                  have hszw13 : w13.heap.size = w12.heap.size := by rw [ew13]; rfl
                  clear ew13
                  have hzw13 := hc.size
                  have HC := HC.tr hc
                  first | have hb1 := hb1.no hc | have hb1 := hb1.ch hc (by rintro k ⟨h1, h2⟩ ht; first | omega | exact h2 (ht ▸ hR.fg))
                  have hD := hD.ch hc (fun h => h)
                  first | have hR := hR.no hc | have hR := hR.ch hc (by intro k hz hk ht; first | omega | (dsimp only at *; omega))
                  refine ws_p rfl rfl rfl rfl (p_mv rfl) ?_
                  refine ws_p rfl rfl rfl rfl (p_mv rfl) ?_
                  refine ws_p rfl rfl rfl rfl (p_add (Z := ((x + (j + q) : Nat) : Int)) rfl rfl (by rw [w64 (by omega)]; omega)) ?_
                  refine ws_p rfl rfl rfl rfl (p_mv rfl) ?_
                  refine ws_p rfl rfl rfl rfl (p_mv rfl) ?_
                  have hS91 : Sl w13 (fun k => k < w.heap.size ∧ ¬ F k) u8v (cutA A1 kc q 1) (lb - (j + q)) (kc - q) (b.drop (j + q)) := by have := hb1.cutTo (lo := q) (by omega); rw [List.drop_drop, show lb - j - q = lb - (j + q) by omega] at this; exact this
                  refine ws_p rfl rfl rfl rfl (p_slS (l := q) (h := lb - j) Try.underlying29 sz5 rfl ⟨_, rfl⟩ rfl (by omega) (by have := hb1.cap; omega) hb1.cap (q := lb - (j + q)) (by omega)) ?_
                  refine ws_p rfl rfl rfl rfl (p_as rfl) ?_
                  refine ws_p rfl rfl rfl rfl (p_as rfl) ?_
                  refine ws_n ?_
                  refine x_in_normal ?_
                  refine x_round (e' := [(0, .pointer (some ⟨g, 0, none⟩)), (1, i64 ((x + (j + q) : Nat) : Int)), (2, .slice (cutA A1 kc q 1) (lb - (j + q)) (kc - q))]) ⟨rfl, rfl, rfl, trivial⟩ (by rw [hm0]; omega) ⟨j + q, cutA A1 kc q 1, kc - q, rfl, rfl, by omega, by omega, by rw [htn]; exact ⟨_, _, _, hD, hR⟩, hS91, HC⟩
                ·
                  have hin2 : ((x + j) / 32) ∈ (touch d2.ord (x / 32) (cnt x j)) := by rcases hpc with h | ⟨b0, hb0, h, _⟩; rw [h.1] at c6; cases c6; exact h
                  have htn := touch_in (ord := d2.ord) (q := q) hjm0 (by omega) (by omega) hin2
                  have hoth : ∀ k, k ∈ (touch d2.ord (x / 32) (cnt x j)) → k ≠ ((x + j) / 32) → sec (spl d2.now x (b.take (j + q))) k = sec (spl d2.now x (b.take j)) k := fun k hk hne => hoth k (hltn k hk) hne
                  refine wc_skip ?_
                  refine x_seq ?_
                  refine wc_seq ?_
                  refine wc_region ?_
                  refine wl rfl rfl rfl (p_mv rfl) ?_
                  refine wl rfl rfl rfl (p_nck rfl) ?_
                  refine wl rfl rfl rfl (p_fld (j := 1) Try.underlying49 rfl ⟨_, by rfl⟩ rfl rfl) ?_
                  refine wl rfl rfl rfl (p_ld Try.underlying47 rfl rfl (ld (hD.cell rfl))) ?_
                  refine wl rfl rfl rfl (p_mv rfl) ?_
                  obtain ⟨p2, hp2, hpc2⟩ := hR.find Try.underlying47 Try.underlying3 (by rfl) ((x + j) / 32)
                  obtain ⟨b2, rfl, _, hbE, hbne, hbF, hbin⟩ := hpc2.resolve_left (fun h => h.2 hin2)
                  have hlE := sec_len hnl hin
                  refine wl rfl rfl rfl (p_lookR rfl rfl (fun x e => by rw [e]; exact hp2 _ (Ch.refl _ _))) ?_
                  refine wl rfl rfl rfl (p_nck rfl) ?_
                  refine wl rfl rfl rfl (p_mv rfl) ?_
                  refine wl rfl rfl rfl (p_rem (Z := ((((x + j) % 32) : Nat) : Int)) rfl rfl (by omega) rfl) ?_
                  refine wl rfl rfl rfl (p_slA2 (l := ((x + j) % 32)) Try.underlying57 sz5 rfl ⟨_, rfl⟩ (by omega)) ?_
                  refine wl rfl rfl rfl (p_mv rfl) ?_
                  refine wle rfl (e_copyP (o := 0 + ((x + j) % 32)) (L := sec (spl d2.now x (b.take j)) ((x + j) / 32)) rfl Try.underlying29 sz5 rfl rfl hbE hb1 (by rw [hlE]; omega) (fun w14 hb2 hc hsz => ?_))
                  rw [← hq] at hb2
                  rw [← hq]
                  have hgb := hD.ne_of hbE (by decide)
                  have hD := hD.ch hc hgb
                  have hb1 := hb1.ch hc (by rintro k ⟨h1, h2⟩ ht; exact h2 (ht ▸ hbF))
                  have HC := HC.trans hc (fun _ _ h => h) (fun k hk ht => by rw [ht]; exact hbF)
                  have hR := hR.dirty (nw' := spl d2.now x (b.take (j + q))) (k := ((x + j) / 32)) hbE hbin hbne hc (by rw [hsec]; rw [Nat.zero_add] at hb2; exact hb2) hoth
                  have hzw14 := hc.size
                  refine wl rfl rfl rfl (p_as rfl) ?_
                  refine wl_nil ?_
                  refine x_seq ?_
                  refine wc_draw (.st 0 0 (.st 1 0 (.st 2 0 (.st 3 0 (.st 4 0 (.st 5 0 (.st 6 0 (.st 7 0 .nil)))))))) 8 (by kernel_rfl) (by kernel_rfl) (by kernel_rfl) (by repeat (first | with_reducible exact pan_body | with_reducible apply pan_then | with_reducible apply pan_in)) (fun x => Ch No w14.drew x) (Ch.refl _ _) ?_
                  obtain ⟨w15, ew15⟩ : ∃ x, x = w14.drew := ⟨_, rfl⟩
                  rw [← ew15]
                  have hc : Ch No w14 w15 := by rw [ew15]; exact Ch.drew _
                  have hszw15 : w15.heap.size = w14.heap.size := by rw [ew15]; rfl
                  clear ew15
                  have hzw15 := hc.size
                  have HC := HC.tr hc
                  first | have hb1 := hb1.no hc | have hb1 := hb1.ch hc (by rintro k ⟨h1, h2⟩ ht; first | omega | exact h2 (ht ▸ hR.fg))
                  have hD := hD.ch hc (fun h => h)
                  first | have hR := hR.no hc | have hR := hR.ch hc (by intro k hz hk ht; first | omega | (dsimp only at *; omega))
                  refine ws_p rfl rfl rfl rfl (p_mv rfl) ?_
                  refine ws_p rfl rfl rfl rfl (p_mv rfl) ?_
                  refine ws_p rfl rfl rfl rfl (p_add (Z := ((x + (j + q) : Nat) : Int)) rfl rfl (by rw [w64 (by omega)]; omega)) ?_
                  refine ws_p rfl rfl rfl rfl (p_mv rfl) ?_
                  refine ws_p rfl rfl rfl rfl (p_mv rfl) ?_
                  have hS91 : Sl w15 (fun k => k < w.heap.size ∧ ¬ F k) u8v (cutA A1 kc q 1) (lb - (j + q)) (kc - q) (b.drop (j + q)) := by have := hb1.cutTo (lo := q) (by omega); rw [List.drop_drop, show lb - j - q = lb - (j + q) by omega] at this; exact this
                  refine ws_p rfl rfl rfl rfl (p_slS (l := q) (h := lb - j) Try.underlying29 sz5 rfl ⟨_, rfl⟩ rfl (by omega) (by have := hb1.cap; omega) hb1.cap (q := lb - (j + q)) (by omega)) ?_
                  refine ws_p rfl rfl rfl rfl (p_as rfl) ?_
                  refine ws_p rfl rfl rfl rfl (p_as rfl) ?_
                  refine ws_n ?_
                  refine x_in_normal ?_
                  refine x_round (e' := [(0, .pointer (some ⟨g, 0, none⟩)), (1, i64 ((x + (j + q) : Nat) : Int)), (2, .slice (cutA A1 kc q 1) (lb - (j + q)) (kc - q))]) ⟨rfl, rfl, rfl, trivial⟩ (by rw [hm0]; omega) ⟨j + q, cutA A1 kc q 1, kc - q, rfl, rfl, by omega, by omega, by rw [htn]; exact ⟨_, _, _, hD, hR⟩, hS91, HC⟩
              ·
                have c5 := of_decide_eq_false c5
                have hjl : j = lb := by omega
                refine wc_exit ?_
                refine x_then_exit ?_
                refine x_then_exit ?_
                refine x_in_here ?_
                refine x_seq ?_
                refine wc_seq ?_
                refine wc_region ?_
                refine wl rfl rfl rfl (p_as rfl) ?_
                refine wl_nil ?_
                refine x_seq ?_
                refine wc_ret ?_
                refine fin_run (res1 rfl rfl) ?_
                first | rw [hst] | rw [wrS_full (n := n) (b := b) hoff c1 (by omega)]
                first
                  | exact ⟨rfl, ⟨_, _, _, _, _, _, _, _, _, hD, hR⟩, HC⟩
                  | exact ⟨by rw [hoff]; rfl, ⟨_, _, _, _, _, _, _, _, _, hD, hR⟩, HC⟩
                  | exact ⟨rfl, hd, HC⟩
                  | (rw [hjl, List.take_of_length_le (by omega)] at hR; exact ⟨rfl, ⟨_, _, _, _, _, _, _, _, _, hD, by rw [← hbl] at hR; exact hR⟩, HC⟩)
end Go.Proofs.Ytcgapjieidmkpaa
