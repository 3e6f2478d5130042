/-
  Own text, printed by a program of mine (wip/gx): what functions of the program do, walked operation by operation.
-/
import Derived.Test.YtcgapjieidmkpaaProg
import Derived.Test.YtcgapjieidmkpaaGxAgg
import Derived.Test.YtcgapjieidmkpaaTab
import Derived.Test.YtcgapjieidmkpaaPlDisk
import Derived.Test.YtcgapjieidmkpaaPlDiskSt
import Derived.Test.YtcgapjieidmkpaaDTb
import Derived.Test.YtcgapjieidmkpaaDxnowany
set_option linter.unusedVariables false
namespace Go.Proofs.Ytcgapjieidmkpaa
open Go.RowKit Go.Gx
open Go.Plain
set_option maxHeartbeats 1000000 in
set_option maxRecDepth 20000 in
theorem read_any {w : World} {F : Nat → Prop} {g n : Nat} {d : DS} {a m : Int} (hd : DkAt TD w F g n d) (hok : d.Ok n) (hn : n ≤ 4096) (ha1 : -9223372036854775808 ≤ a) (ha2 : a ≤ 9223372036854775807) (hm1 : -9223372036854775808 ≤ m) (hm2 : m ≤ 9223372036854775807) :
    Calls Try.prog 14 #[.pointer (some ⟨g, 0, none⟩), i64 a, i64 m] w fun e w' => ∃ A l c, e = .returned (.tuple #[.slice A l c, i64 (rdS n d a m).2]) ∧ l = (rdS n d a m).1.length ∧ Sl w' (fun k => w.heap.size ≤ k) u8v A l c (rdS n d a m).1 ∧ Ch No w w' := by
  obtain ⟨gs, cs, gm, Ao, lo, co, Ak, lk, ck, hD, hR⟩ := hd
  have hgl := hD.lt
  have hR := hR.mono (G := (fun k => F k ∧ k < w.heap.size)) (fun k h1 h2 => ⟨h2, h1⟩) hD.lt
  have HC : Ch No w w := Ch.refl _ _
  refine enter' (args := [.pointer (some ⟨g, 0, none⟩), i64 a, i64 m]) (n := 69) Try.func14 rfl rfl rfl ?_
  refine wc_seq ?_
  refine wc_region ?_
  refine wl rfl rfl rfl (p_as rfl) ?_
  refine wl rfl rfl rfl (p_as rfl) ?_
  refine wl_nil ?_
  refine x_seq ?_
  refine wc_seq ?_
  refine wc_seq ?_
  refine wc_region ?_
  refine wl rfl rfl rfl (p_mv rfl) ?_
  refine wle rfl (e_call ent27 rfl rfl (may_any ⟨_, _, _, _, _, _, _, _, _, hD, hR⟩) ?_)
  rintro _ w1 ⟨rfl, hc⟩
  refine ⟨_, rfl, ?_⟩
  have hzw1 := hc.size
  have HC := HC.tr hc
  have hD := hD.ch hc (fun h => h)
  first | have hR := hR.no hc | have hR := hR.ch hc (by intro k hz hk ht; first | omega | (dsimp only at *; omega))
  refine wl rfl rfl rfl (p_as rfl) ?_
  refine wl_nil ?_
  refine x_seq ?_
  refine wc_seq ?_
  refine wc_region ?_
  refine wl rfl rfl rfl (p_mv rfl) ?_
  refine wl rfl rfl rfl (p_ne rfl rfl) ?_
  refine wl_nil ?_
  refine x_seq ?_
  refine wc_if rfl (fun c0 => ?_) (fun c0 => ?_)
  ·
    have c0 := of_decide_eq_true c0
    have hoff := off_of c0
    have hst := rdS_off (n := n) (a := a) (m := m) hoff
    refine wc_seq ?_
    refine wc_region ?_
    refine wl rfl rfl rfl (p_mv rfl) ?_
    refine wl rfl rfl rfl (p_as rfl) ?_
    refine wl rfl rfl rfl (p_as rfl) ?_
    refine wl_nil ?_
    refine x_seq ?_
    refine wc_ret ?_
    refine x_then_ret ?_
    refine fin_run (res2 rfl rfl rfl) ?_
    first | rw [hst] | rw [rdS_bad (n := n) (a := a) (m := m) hoff (by omega)]
    first
      | exact ⟨_, _, _, by rw [hoff]; rfl, rfl, Sl.nil, HC⟩
      | exact ⟨_, _, _, rfl, rfl, Sl.nil, HC⟩
      | exact ⟨A, _, c, rfl, by rw [List.length_take, List.length_drop, hok.w]; omega, by rw [← hjy]; exact hW.sl.mono (fun k _ hk => by first | omega | (dsimp only at *; omega)), HC⟩
  ·
    have c0 := of_decide_eq_false c0
    have hoff := on_of c0
    refine wc_skip ?_
    refine x_seq ?_
    refine wc_seq ?_
    refine wc_seq ?_
    refine wc_region ?_
    refine wl rfl rfl rfl (p_mv rfl) ?_
    refine wl rfl rfl rfl (p_lt rfl rfl) ?_
    refine wl rfl rfl rfl (p_mv rfl) ?_
    refine wl_split (d := 19) rfl (fun q19 => ?_) (fun q19 => ?_)
    ·
      have q19 := of_decide_eq_true q19
      refine wl_s (gd_ rfl rfl rfl rfl rfl rfl) rfl rfl ?_
      refine wl_s (gd_ rfl rfl rfl rfl rfl rfl) rfl rfl ?_
      refine wl rfl rfl rfl (p_pickT rfl rfl) ?_
      refine wl rfl rfl rfl (p_mv rfl) ?_
      refine wl_s (gd_ rfl rfl rfl rfl rfl rfl) rfl rfl ?_
      refine wl_s (gd_ rfl rfl rfl rfl rfl rfl) rfl rfl ?_
      refine wl_s (gd_ rfl rfl rfl rfl rfl rfl) rfl rfl ?_
      refine wl_s (gd_ rfl rfl rfl rfl rfl rfl) rfl rfl ?_
      refine wl rfl rfl rfl (p_pickT rfl rfl) ?_
      refine wl rfl rfl rfl (p_mv rfl) ?_
      refine wl_s (gd_ rfl rfl rfl rfl rfl rfl) rfl rfl ?_
      refine wl_s (gd_ rfl rfl rfl rfl rfl rfl) rfl rfl ?_
      refine wl_s (gd_ rfl rfl rfl rfl rfl rfl) rfl rfl ?_
      refine wl_s (gd_ rfl rfl rfl rfl rfl rfl) rfl rfl ?_
      refine wl_s (gd_ rfl rfl rfl rfl rfl rfl) rfl rfl ?_
      refine wl_s (gd_ rfl rfl rfl rfl rfl rfl) rfl rfl ?_
      refine wl rfl rfl rfl (p_pickT rfl rfl) ?_
      refine wl_nil ?_
      refine x_seq ?_
      refine wc_yes rfl (rfl) ?_
      refine wc_seq ?_
      refine wc_region ?_
      refine wl rfl rfl rfl (p_as rfl) ?_
      refine wl rfl rfl rfl (p_as rfl) ?_
      refine wl_nil ?_
      refine x_seq ?_
      refine wc_ret ?_
      refine x_then_ret ?_
      refine fin_run (res2 rfl rfl rfl) ?_
      first | rw [hst] | rw [rdS_bad (n := n) (a := a) (m := m) hoff (by omega)]
      first
        | exact ⟨_, _, _, by rw [hoff]; rfl, rfl, Sl.nil, HC⟩
        | exact ⟨_, _, _, rfl, rfl, Sl.nil, HC⟩
        | exact ⟨A, _, c, rfl, by rw [List.length_take, List.length_drop, hok.w]; omega, by rw [← hjy]; exact hW.sl.mono (fun k _ hk => by first | omega | (dsimp only at *; omega)), HC⟩
    ·
      have q19 := of_decide_eq_false q19
      refine wl_g (gd_ rfl rfl rfl rfl rfl rfl) rfl rfl (p_mv rfl) ?_
      refine wl_g (gd_ rfl rfl rfl rfl rfl rfl) rfl rfl (p_lt rfl rfl) ?_
      refine wl rfl rfl rfl (p_pickF rfl rfl) ?_
      refine wl rfl rfl rfl (p_mv rfl) ?_
      refine wl_split (d := 23) rfl (fun q23 => ?_) (fun q23 => ?_)
      ·
        have q23 := of_decide_eq_true q23
        refine wl_s (gd_ rfl rfl rfl rfl rfl rfl) rfl rfl ?_
        refine wl_s (gd_ rfl rfl rfl rfl rfl rfl) rfl rfl ?_
        refine wl_s (gd_ rfl rfl rfl rfl rfl rfl) rfl rfl ?_
        refine wl_s (gd_ rfl rfl rfl rfl rfl rfl) rfl rfl ?_
        refine wl rfl rfl rfl (p_pickT rfl rfl) ?_
        refine wl rfl rfl rfl (p_mv rfl) ?_
        refine wl_s (gd_ rfl rfl rfl rfl rfl rfl) rfl rfl ?_
        refine wl_s (gd_ rfl rfl rfl rfl rfl rfl) rfl rfl ?_
        refine wl_s (gd_ rfl rfl rfl rfl rfl rfl) rfl rfl ?_
        refine wl_s (gd_ rfl rfl rfl rfl rfl rfl) rfl rfl ?_
        refine wl_s (gd_ rfl rfl rfl rfl rfl rfl) rfl rfl ?_
        refine wl_s (gd_ rfl rfl rfl rfl rfl rfl) rfl rfl ?_
        refine wl rfl rfl rfl (p_pickT rfl rfl) ?_
        refine wl_nil ?_
        refine x_seq ?_
        refine wc_yes rfl (rfl) ?_
        refine wc_seq ?_
        refine wc_region ?_
        refine wl rfl rfl rfl (p_as rfl) ?_
        refine wl rfl rfl rfl (p_as rfl) ?_
        refine wl_nil ?_
        refine x_seq ?_
        refine wc_ret ?_
        refine x_then_ret ?_
        refine fin_run (res2 rfl rfl rfl) ?_
        first | rw [hst] | rw [rdS_bad (n := n) (a := a) (m := m) hoff (by omega)]
        first
          | exact ⟨_, _, _, by rw [hoff]; rfl, rfl, Sl.nil, HC⟩
          | exact ⟨_, _, _, rfl, rfl, Sl.nil, HC⟩
          | exact ⟨A, _, c, rfl, by rw [List.length_take, List.length_drop, hok.w]; omega, by rw [← hjy]; exact hW.sl.mono (fun k _ hk => by first | omega | (dsimp only at *; omega)), HC⟩
      ·
        have q23 := of_decide_eq_false q23
        refine wl_g (gd_ rfl rfl rfl rfl rfl rfl) rfl rfl (p_mv rfl) ?_
        refine wl_g (gd_ rfl rfl rfl rfl rfl rfl) rfl rfl (p_mv rfl) ?_
        refine wle_g (gd_ rfl rfl rfl rfl rfl rfl) (e_call ent22 rfl rfl (size_any ⟨_, _, _, _, _, _, _, _, _, hD, hR⟩ (by omega)) ?_)
        rintro _ w2 ⟨rfl, hc⟩
        refine ⟨_, rfl, ?_⟩
        have hzw2 := hc.size
        have HC := HC.tr hc
        have hD := hD.ch hc (fun h => h)
        first | have hR := hR.no hc | have hR := hR.ch hc (by intro k hz hk ht; first | omega | (dsimp only at *; omega))
        refine wl_g (gd_ rfl rfl rfl rfl rfl rfl) rfl rfl (p_gt rfl rfl) ?_
        refine wl rfl rfl rfl (p_pickF rfl rfl) ?_
        refine wl rfl rfl rfl (p_mv rfl) ?_
        refine wl_split (d := 29) rfl (fun q29 => ?_) (fun q29 => ?_)
        ·
          have q29 := of_decide_eq_true q29
          refine wl_s (gd_ rfl rfl rfl rfl rfl rfl) rfl rfl ?_
          refine wl_s (gd_ rfl rfl rfl rfl rfl rfl) rfl rfl ?_
          refine wl_s (gd_ rfl rfl rfl rfl rfl rfl) rfl rfl ?_
          refine wl_s (gd_ rfl rfl rfl rfl rfl rfl) rfl rfl ?_
          refine wl_s (gd_ rfl rfl rfl rfl rfl rfl) rfl rfl ?_
          refine wl_s (gd_ rfl rfl rfl rfl rfl rfl) rfl rfl ?_
          refine wl rfl rfl rfl (p_pickT rfl rfl) ?_
          refine wl_nil ?_
          refine x_seq ?_
          refine wc_yes rfl (rfl) ?_
          refine wc_seq ?_
          refine wc_region ?_
          refine wl rfl rfl rfl (p_as rfl) ?_
          refine wl rfl rfl rfl (p_as rfl) ?_
          refine wl_nil ?_
          refine x_seq ?_
          refine wc_ret ?_
          refine x_then_ret ?_
          refine fin_run (res2 rfl rfl rfl) ?_
          first | rw [hst] | rw [rdS_bad (n := n) (a := a) (m := m) hoff (by omega)]
          first
            | exact ⟨_, _, _, by rw [hoff]; rfl, rfl, Sl.nil, HC⟩
            | exact ⟨_, _, _, rfl, rfl, Sl.nil, HC⟩
            | exact ⟨A, _, c, rfl, by rw [List.length_take, List.length_drop, hok.w]; omega, by rw [← hjy]; exact hW.sl.mono (fun k _ hk => by first | omega | (dsimp only at *; omega)), HC⟩
        ·
          have q29 := of_decide_eq_false q29
          refine wl_g (gd_ rfl rfl rfl rfl rfl rfl) rfl rfl (p_mv rfl) ?_
          refine wl_g (gd_ rfl rfl rfl rfl rfl rfl) rfl rfl (p_mv rfl) ?_
          refine wle_g (gd_ rfl rfl rfl rfl rfl rfl) (e_call ent22 rfl rfl (size_any ⟨_, _, _, _, _, _, _, _, _, hD, hR⟩ (by omega)) ?_)
          rintro _ w3 ⟨rfl, hc⟩
          refine ⟨_, rfl, ?_⟩
          have hzw3 := hc.size
          have HC := HC.tr hc
          have hD := hD.ch hc (fun h => h)
          first | have hR := hR.no hc | have hR := hR.ch hc (by intro k hz hk ht; first | omega | (dsimp only at *; omega))
          refine wl_g (gd_ rfl rfl rfl rfl rfl rfl) rfl rfl (p_mv rfl) ?_
          refine wl_g (gd_ rfl rfl rfl rfl rfl rfl) rfl rfl (p_sub rfl rfl (w64 (by omega))) ?_
          refine wl_g (gd_ rfl rfl rfl rfl rfl rfl) rfl rfl (p_gt rfl rfl) ?_
          refine wl rfl rfl rfl (p_pickF rfl rfl) ?_
          refine wl_nil ?_
          refine x_seq ?_
          refine wc_if rfl (fun c1 => ?_) (fun c1 => ?_)
          ·
            have c1 := of_decide_eq_true c1
            have hst := rdS_bad (n := n) (a := a) (m := m) hoff (by omega)
            refine wc_seq ?_
            refine wc_region ?_
            refine wl rfl rfl rfl (p_as rfl) ?_
            refine wl rfl rfl rfl (p_as rfl) ?_
            refine wl_nil ?_
            refine x_seq ?_
            refine wc_ret ?_
            refine x_then_ret ?_
            refine fin_run (res2 rfl rfl rfl) ?_
            first | rw [hst] | rw [rdS_bad (n := n) (a := a) (m := m) hoff (by omega)]
            first
              | exact ⟨_, _, _, by rw [hoff]; rfl, rfl, Sl.nil, HC⟩
              | exact ⟨_, _, _, rfl, rfl, Sl.nil, HC⟩
              | exact ⟨A, _, c, rfl, by rw [List.length_take, List.length_drop, hok.w]; omega, by rw [← hjy]; exact hW.sl.mono (fun k _ hk => by first | omega | (dsimp only at *; omega)), HC⟩
          ·
            have c1 := of_decide_eq_false c1
            have hst := rdS_good (n := n) (a := a) (m := m) hoff (by omega)
            obtain ⟨x, rfl⟩ := Int.eq_ofNat_of_zero_le (show 0 ≤ a by omega)
            obtain ⟨y, rfl⟩ := Int.eq_ofNat_of_zero_le (show 0 ≤ m by omega)
            rw [Int.toNat_natCast, Int.toNat_natCast] at hst
            refine wc_skip ?_
            refine x_seq ?_
            refine wc_seq ?_
            refine wc_region ?_
            refine wl rfl rfl rfl (p_mv rfl) ?_
            refine wle rfl (e_mk0 (v := .bool false) rfl Try.underlying29 (by rfl) rfl rfl (by omega) (fun w4 g38 hg38 hW hc hsz38 => ?_))
            have hzw4 := hc.size
            have HC := HC.tr hc
            have hD := hD.ch hc (fun h => h)
            first | have hR := hR.no hc | have hR := hR.ch hc (by intro k hz hk ht; first | omega | (dsimp only at *; omega))
            refine wl rfl rfl rfl (p_as rfl) ?_
            refine wl_nil ?_
            refine x_seq ?_
            refine wc_seq ?_
            refine wc_block ?_
            refine wc_loop (e' := [(0, .pointer (some ⟨g, 0, none⟩)), (1, i64 ((x + (0) : Nat) : Int)), (2, i64 (y : Int)), (9, .slice (_) (0) (_))]) (fun mz ez uz => ∃ j : Nat, ∃ A : Option Addr, ∃ c : Nat, mz = y - j ∧ ez = [(0, .pointer (some ⟨g, 0, none⟩)), (1, i64 ((x + j : Nat) : Int)), (2, i64 (y : Int)), (9, .slice A j c)] ∧ (j ≤ y) ∧ (Row uz (fun k => w.heap.size ≤ k) 5 1 (.slice A j c) j (((d.now.drop x).take j).map u8v)) ∧ (Blk uz g 49 (dcell gs n cs gm Ao lo co d.off d.armed Ak lk ck d.torn)) ∧ (DR TD uz (fun k => F k ∧ k < w.heap.size) g n gs gm Ao lo co Ak lk ck d.safe d.now d.ord d.keep d.ord) ∧ (Ch No w uz))
              ⟨rfl, rfl, rfl, rfl, trivial⟩ ⟨0, _, _, rfl, rfl, by omega, hW.mono (fun k _ hk => by first | omega | (dsimp only at *; omega)), hD, hR, HC⟩ ?_
            rintro m0 e w5 ⟨j, A, c, hm0, rfl, hj, hW, hD, hR, HC⟩
            have hzw5 := HC.size
            refine wc_seq ?_
            refine wc_seq ?_
            refine wc_region ?_
            refine wl rfl rfl rfl (p_mv rfl) ?_
            refine wl rfl rfl rfl (p_lenS Try.underlying29 rfl) ?_
            refine wl rfl rfl rfl (p_mv rfl) ?_
            refine wl rfl rfl rfl (p_lt rfl rfl) ?_
            refine wl_nil ?_
            refine x_seq ?_
            refine wc_if rfl (fun c2 => ?_) (fun c2 => ?_)
            ·
              have c2 := of_decide_eq_true c2
              have hin : (x + j) / 32 < n := by omega
              obtain ⟨q, hq⟩ : ∃ q, q = min (32 - ((x + j) % 32)) (y - j) := ⟨_, rfl⟩
              refine wc_skip ?_
              refine x_seq ?_
              refine wc_block ?_
              refine wc_seq ?_
              refine wc_region ?_
              refine wl rfl rfl rfl (p_mv rfl) ?_
              refine wl rfl rfl rfl (p_mv rfl) ?_
              refine wl rfl rfl rfl (p_quo (Z := (((x + j) / 32 : Nat) : Int)) rfl rfl (by omega) (by rw [show ((x + j : Nat) : Int).tdiv 32 = (((x + j) / 32 : Nat) : Int) from rfl, w64 (by omega)])) ?_
              refine wle rfl (e_call ent29 rfl rfl (now_any (F := (fun k => F k ∧ k < w.heap.size)) (i := (x + j) / 32) ⟨_, _, _, _, _, _, _, _, _, hD, hR⟩ hok hin hn) ?_)
              rintro _ w6 ⟨b46, o46, rfl, hrg, hbF, hc⟩
              refine ⟨_, rfl, ?_⟩
              have hzw6 := hc.size
              have HC := HC.tr hc
              have hD := hD.ch hc (fun h => h)
              first | have hR := hR.no hc | have hR := hR.ch hc (by intro k hz hk ht; first | omega | (dsimp only at *; omega))
              have hW := hW.after hc
              have hrg : w6.rangeAt b46 o46 ((sec d.now ((x + j) / 32)).map u8v) := fun j v hv => hc.cell (fun h => h) (hrg j v hv)
              have hsl := sec_len (i := (x + j) / 32) hok.w hin
              refine wl rfl rfl rfl (p_as rfl) ?_
              refine wl_nil ?_
              refine x_seq ?_
              refine wc_seq ?_
              refine wc_region ?_
              refine wl rfl rfl rfl (p_mv rfl) ?_
              refine wl rfl rfl rfl (p_nck rfl) ?_
              refine wl rfl rfl rfl (p_mv rfl) ?_
              refine wl rfl rfl rfl (p_rem (Z := ((((x + j) % 32) : Nat) : Int)) rfl rfl (by omega) rfl) ?_
              have hS51 := Sl.rng (r := ((x + j) % 32)) hrg hsl (by omega)
              refine wl rfl rfl rfl (p_slA2 (l := ((x + j) % 32)) Try.underlying57 sz5 rfl ⟨_, rfl⟩ (by omega)) ?_
              refine wl rfl rfl rfl (p_as rfl) ?_
              refine wl_nil ?_
              refine x_seq ?_
              refine wc_seq ?_
              refine wc_region ?_
              refine wl rfl rfl rfl (p_mv rfl) ?_
              refine wl rfl rfl rfl (p_mv rfl) ?_
              refine wl rfl rfl rfl (p_lenS Try.underlying29 rfl) ?_
              refine wl rfl rfl rfl (p_mv rfl) ?_
              refine wl rfl rfl rfl (p_mv rfl) ?_
              refine wl rfl rfl rfl (p_lenS Try.underlying29 rfl) ?_
              refine wl rfl rfl rfl (p_sub (Z := ((y - j : Nat) : Int)) rfl rfl (by rw [w64 (by omega)]; omega)) ?_
              refine wl rfl rfl rfl ((p_min rfl rfl).to (congrArg i64 (show (if ((y - j : Nat) : Int) < ((32 - ((x + j) % 32) : Nat) : Int) then ((y - j : Nat) : Int) else ((32 - ((x + j) % 32) : Nat) : Int)) = (q : Int) by rw [hq]; split <;> omega))) ?_
              have hS60 := hS51.cut (lo := 0) (hi := q) (q := q) (by omega) (by omega) rfl
              rw [List.drop_zero] at hS60
              refine wl rfl rfl rfl (p_slS (l := 0) (h := q) Try.underlying29 sz5 rfl rfl ⟨_, rfl⟩ (by omega) (by omega) (by omega) (q := q) rfl) ?_
              refine wl rfl rfl rfl (p_as rfl) ?_
              refine wl_nil ?_
              refine x_seq ?_
              refine wc_seq ?_
              refine wc_region ?_
              refine wl rfl rfl rfl (p_mv rfl) ?_
              refine wl rfl rfl rfl (p_mv rfl) ?_
              have hltg := hD.lt
              refine wle rfl (e_appS rfl el29 one_u8 rfl rfl hW hS60 (by omega) (by intro k hk; first | omega | (dsimp only at *; omega)) (fun w7 A63 c63 hW hc => ?_))
              have hzw7 := hc.size
              have HC := HC.trans hc (fun _ _ h => h) (fun k hk ht => absurd ht (by first | omega | (dsimp only at *; omega)))
              have hD := hD.ch hc (by first | omega | (dsimp only; omega))
              first | have hR := hR.no hc | have hR := hR.ch hc (by intro k hz hk ht; first | omega | (dsimp only at *; omega))
              refine wl rfl rfl rfl (p_as rfl) ?_
              refine wl_nil ?_
              refine x_seq ?_
              refine wc_region ?_
              refine wl rfl rfl rfl (p_mv rfl) ?_
              refine wl rfl rfl rfl (p_mv rfl) ?_
              refine wl rfl rfl rfl (p_lenS Try.underlying29 rfl) ?_
              refine wl rfl rfl rfl (p_add (Z := ((x + (j + q) : Nat) : Int)) rfl rfl (by rw [w64 (by omega)]; omega)) ?_
              refine wl rfl rfl rfl (p_as rfl) ?_
              refine wl_nil ?_
              refine x_in_normal ?_
              have hnx := rd_next (l := d.now) (a := x) (j := j) (q := q) hok.w (by omega) (by omega)
              refine x_round (e' := [(0, .pointer (some ⟨g, 0, none⟩)), (1, i64 ((x + (j + q) : Nat) : Int)), (2, i64 (y : Int)), (9, .slice (A63) (j + q) (c63))]) ⟨rfl, rfl, rfl, rfl, trivial⟩ (by rw [hm0]; omega) ⟨j + q, A63, c63, rfl, rfl, by omega, by rw [← hnx]; exact hW.mono (fun k _ hk => by first | omega | (dsimp only at *; omega)), hD, hR, HC⟩
            ·
              have c2 := of_decide_eq_false c2
              have hjy : j = y := by omega
              refine wc_exit ?_
              refine x_then_exit ?_
              refine x_then_exit ?_
              refine x_in_here ?_
              refine x_seq ?_
              refine wc_seq ?_
              refine wc_region ?_
              refine wl rfl rfl rfl (p_mv rfl) ?_
              refine wl rfl rfl rfl (p_as rfl) ?_
              refine wl rfl rfl rfl (p_as rfl) ?_
              refine wl_nil ?_
              refine x_seq ?_
              refine wc_ret ?_
              refine fin_run (res2 rfl rfl rfl) ?_
              first | rw [hst] | rw [rdS_bad (n := n) (a := a) (m := m) hoff (by omega)]
              first
                | exact ⟨_, _, _, by rw [hoff]; rfl, rfl, Sl.nil, HC⟩
                | exact ⟨_, _, _, rfl, rfl, Sl.nil, HC⟩
                | exact ⟨A, _, c, rfl, by rw [List.length_take, List.length_drop, hok.w]; omega, by rw [← hjy]; exact hW.sl.mono (fun k _ hk => by first | omega | (dsimp only at *; omega)), HC⟩
end Go.Proofs.Ytcgapjieidmkpaa
