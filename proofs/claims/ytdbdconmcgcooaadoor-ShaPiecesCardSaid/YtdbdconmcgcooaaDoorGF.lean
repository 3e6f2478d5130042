/-
  Own text, printed by a program of mine (wip/gx): what functions of the program do, walked operation by operation.
-/
import Derived.Test.YtdbdconmcgcooaaDoorProg
import Derived.Test.YtdbdconmcgcooaaDoorGxAgg
import Derived.Test.YtdbdconmcgcooaaDoorTab
import Derived.Test.YtdbdconmcgcooaaDoorPlPack
import Derived.Test.YtdbdconmcgcooaaDoorPlSum
import Derived.Test.YtdbdconmcgcooaaDoorPlSha
import Derived.Test.YtdbdconmcgcooaaDoorPlShaSt
import Derived.Test.YtdbdconmcgcooaaDoorPlShaB
import Derived.Test.YtdbdconmcgcooaaDoorSX
import Derived.Test.YtdbdconmcgcooaaDoorG0
set_option linter.unusedVariables false
namespace Go.Proofs.YtdbdconmcgcooaaDoor
open Go.RowKit Go.Gx
open Go.Plain
set_option maxHeartbeats 1000000 in
set_option maxRecDepth 20000 in
theorem shaPieces_walk {w : World} {Aq : Option Addr} {lq cq : Nat} {Fq : Nat → Prop} {q : List (List UInt8)}{Amore : Option Addr} {lmore cmore : Nat} {Fmore : Nat → Prop} {more : List UInt8} (hq : SB w Fq Aq lq cq q) (hmore : Sl w Fmore u8v Amore lmore cmore more) (hrnd : Sl w (fun k => k = 1) u32v (some ⟨1, 0, none⟩) 64 64 rk) :
    Calls Tryd.prog 17 #[.slice Aq lq cq, .slice Amore lmore cmore] w fun e w' => e = .returned (.bool true) ∧ Ch No w w' := by
  have hn1 : 1 < w.heap.size := hrnd.size (by omega) rfl
  have hql := hq.len
  have hml := hmore.len
  have hq := hq.old
  have hmore := hmore.old
  have HC : Ch No w w := Ch.refl _ _
  refine enter' (args := [.slice Aq lq cq, .slice Amore lmore cmore]) (n := 75) Tryd.func17 rfl rfl rfl ?_
  refine wc_seq ?_
  refine wc_region ?_
  refine wl rfl rfl rfl (p_as rfl) ?_
  refine wl_nil ?_
  refine x_seq ?_
  refine wc_seq ?_
  refine wc_seq ?_
  refine wc_region ?_
  refine wl rfl rfl rfl (p_mv rfl) ?_
  refine wl rfl rfl rfl (p_lenS Tryd.underlying34 rfl) ?_
  refine wl rfl rfl rfl (p_gt rfl rfl) ?_
  refine wl rfl rfl rfl (p_mv rfl) ?_
  refine wl_split (d := 13) rfl (fun q13 => ?_) (fun q13 => ?_)
  ·
    have q13 := of_decide_eq_true q13
    refine wl_s (gd_ rfl rfl rfl rfl rfl rfl) rfl rfl ?_
    refine wl_s (gd_ rfl rfl rfl rfl rfl rfl) rfl rfl ?_
    refine wl_s (gd_ rfl rfl rfl rfl rfl rfl) rfl rfl ?_
    refine wl rfl rfl rfl (p_pickT rfl rfl) ?_
    refine wl_nil ?_
    refine x_seq ?_
    refine wc_yes rfl (rfl) ?_
    refine wc_seq ?_
    refine wc_region ?_
    refine wle rfl (e_call ent18 rfl rfl (lives3_any hrnd) ?_)
    rintro _ w1 ⟨rfl, hc⟩
    refine ⟨_, rfl, ?_⟩
    have hzw1 := hc.size
    have HC := HC.tr hc
    have hq := hq.no hc
    have hmore := hmore.no hc
    have hrnd := hrnd.no hc
    refine wl rfl rfl rfl (p_as rfl) ?_
    refine wl_nil ?_
    refine x_seq ?_
    refine wc_ret ?_
    refine x_then_ret ?_
    refine fin_run (res1 rfl rfl) ?_
    exact ⟨rfl, HC⟩
  ·
    have q13 := of_decide_eq_false q13
    refine wl_g (gd_ rfl rfl rfl rfl rfl rfl) rfl rfl (p_mv rfl) ?_
    refine wl_g (gd_ rfl rfl rfl rfl rfl rfl) rfl rfl (p_lenS Tryd.underlying22 rfl) ?_
    refine wl_g (gd_ rfl rfl rfl rfl rfl rfl) rfl rfl (p_gt rfl rfl) ?_
    refine wl rfl rfl rfl (p_pickF rfl rfl) ?_
    refine wl_nil ?_
    refine x_seq ?_
    refine wc_if rfl (fun c0 => ?_) (fun c0 => ?_)
    ·
      have c0 := of_decide_eq_true c0
      refine wc_seq ?_
      refine wc_region ?_
      refine wle rfl (e_call ent18 rfl rfl (lives3_any hrnd) ?_)
      rintro _ w2 ⟨rfl, hc⟩
      refine ⟨_, rfl, ?_⟩
      have hzw2 := hc.size
      have HC := HC.tr hc
      have hq := hq.no hc
      have hmore := hmore.no hc
      have hrnd := hrnd.no hc
      refine wl rfl rfl rfl (p_as rfl) ?_
      refine wl_nil ?_
      refine x_seq ?_
      refine wc_ret ?_
      refine x_then_ret ?_
      refine fin_run (res1 rfl rfl) ?_
      exact ⟨rfl, HC⟩
    ·
      have c0 := of_decide_eq_false c0
      refine wc_skip ?_
      refine x_seq ?_
      refine wc_seq ?_
      refine wc_region ?_
      refine wle rfl (e_call ent53 rfl rfl (new_any) ?_)
      rintro _ w3 ⟨g19, rfl, hg19, hs19, hc⟩
      refine ⟨_, rfl, ?_⟩
      have hzw3 := hc.size
      have HC := HC.tr hc
      have hq := hq.no hc
      have hmore := hmore.no hc
      have hrnd := hrnd.no hc
      have hrep19 := rep_nil
      have hge19 : w.heap.size ≤ g19 := by have := HC.size; omega
      refine wl rfl rfl rfl (p_as rfl) ?_
      refine wl_nil ?_
      refine x_seq ?_
      refine wc_seq ?_
      refine wc_region ?_
      refine wl rfl rfl rfl (p_as rfl) ?_
      refine wl_nil ?_
      refine x_seq ?_
      refine wc_seq ?_
      refine wc_seq ?_
      refine wc_region ?_
      refine wl rfl rfl rfl (p_mv rfl) ?_
      refine wl rfl rfl rfl (p_lenS Tryd.underlying34 rfl) ?_
      refine wl rfl rfl rfl (p_mv rfl) ?_
      refine wl_nil ?_
      refine x_seq ?_
      refine wc_block ?_
      refine wc_loop (e' := [(1, .slice Amore lmore cmore), (5, .pointer (some ⟨g19, 0, none⟩)), (6, .slice (none) ((q.take (0)).flatten).length (0)), (20, .slice Aq lq cq), (21, i64 (lq : Int)), (22, i64 ((0) : Int))]) (fun mz ez uz => ∃ i : Nat, ∃ A : Option Addr, ∃ c : Nat, mz = lq - i ∧ ez = [(1, .slice Amore lmore cmore), (5, .pointer (some ⟨g19, 0, none⟩)), (6, .slice A ((q.take i).flatten).length c), (20, .slice Aq lq cq), (21, i64 (lq : Int)), (22, i64 (i : Int))] ∧ (i ≤ lq) ∧ (((q.take i).flatten).length ≤ 300 * i) ∧ (∃ h1 r1, Blk uz g19 69 (stt h1 r1 ((q.take i).flatten).length true) ∧ Rep ((q.take i).flatten) h1 r1) ∧ (Row uz (fun k => g19 < k) 5 1 (.slice A ((q.take i).flatten).length c) ((q.take i).flatten).length (((q.take i).flatten).map u8v)) ∧ (SB uz (fun k => k < w.heap.size) Aq lq cq q) ∧ (Sl uz (fun k => k < w.heap.size) u8v Amore lmore cmore more) ∧ (Sl uz (fun k => k = 1) u32v (some ⟨1, 0, none⟩) 64 64 rk) ∧ (Ch No w uz))
        ⟨rfl, rfl, rfl, rfl, rfl, rfl, trivial⟩ ⟨0, none, 0, rfl, rfl, by omega, by simp, ⟨_, _, hs19, hrep19⟩, Row.nil _ _ _ _, hq, hmore, hrnd, HC⟩ ?_
      rintro m0 e w4 ⟨i, A, c, hm0, rfl, hi, htot, hst, hW, hq, hmore, hrnd, HC⟩
      have hzw4 := HC.size
      obtain ⟨h1, r1, hs19, hrep19⟩ := hst
      have hcl : (q.take i).flatten.length ≤ 12000 := by omega
      refine wc_seq ?_
      refine wc_region ?_
      refine wl rfl rfl rfl (p_lt rfl rfl) ?_
      refine wl_nil ?_
      refine x_seq ?_
      refine wc_seq ?_
      refine wc_if rfl (fun c1 => ?_) (fun c1 => ?_)
      ·
        have c1 := of_decide_eq_true c1
        refine wc_skip ?_
        refine x_seq ?_
        refine wc_seq ?_
        refine wc_block ?_
        refine wc_seq ?_
        refine wc_region ?_
        obtain ⟨b5, o5, hA5, hF5, hc5⟩ := hq.opn (by omega)
        obtain ⟨SA24, sl24, sc24, hcc5, hS24⟩ := hc5 i (by omega)
        have hSl24 := hS24.len
        refine wl rfl rfl rfl (p_ixS1 (j := i) Tryd.underlying34 sz22 rfl hA5 rfl (by omega) (by omega) (Int.toNat_natCast _)) ?_
        refine wl rfl rfl rfl (p_ld Tryd.underlying22 rfl rfl (ld (hcc5))) ?_
        refine wl rfl rfl rfl (p_as rfl) ?_
        refine wl_nil ?_
        refine x_seq ?_
        refine wc_seq ?_
        refine wc_seq ?_
        refine wc_region ?_
        refine wl rfl rfl rfl (p_mv rfl) ?_
        refine wl rfl rfl rfl (p_lenS Tryd.underlying22 rfl) ?_
        refine wl rfl rfl rfl (p_gt rfl rfl) ?_
        refine wl_nil ?_
        refine x_seq ?_
        refine wc_if rfl (fun c2 => ?_) (fun c2 => ?_)
        ·
          have c2 := of_decide_eq_true c2
          refine wc_seq ?_
          refine wc_region ?_
          refine wle rfl (e_call ent18 rfl rfl (lives3_any hrnd) ?_)
          rintro _ w6 ⟨rfl, hc⟩
          refine ⟨_, rfl, ?_⟩
          have hzw6 := hc.size
          have HC := HC.tr hc
          have hq := hq.no hc
          have hmore := hmore.no hc
          have hW := hW.after hc
          have hrnd := hrnd.no hc
          have hs19 := hs19.ch hc (fun h => h)
          have hS24 := hS24.no hc
          refine wl rfl rfl rfl (p_as rfl) ?_
          refine wl_nil ?_
          refine x_seq ?_
          refine wc_ret ?_
          refine x_then_ret ?_
          refine x_in_ret ?_
          refine x_then_ret ?_
          refine x_then_ret ?_
          refine x_in_ret ?_
          refine x_then_ret ?_
          refine fin_run (res1 rfl rfl) ?_
          exact ⟨rfl, HC⟩
        ·
          have c2 := of_decide_eq_false c2
          have hnx := cat_next (q := q) (i := i) (by omega)
          have hnl : (q.take (i + 1)).flatten.length = (q.take i).flatten.length + sl24 := by rw [← hnx, List.length_append, hSl24]
          have hqi : (q.getD i []).length = sl24 := hSl24
          refine wc_skip ?_
          refine x_seq ?_
          refine wc_seq ?_
          refine wc_seq ?_
          refine wc_region ?_
          refine wl rfl rfl rfl (p_mv rfl) ?_
          refine wl rfl rfl rfl (p_mv rfl) ?_
          refine wle rfl (e_call ent54 rfl rfl (write_any hs19 hrep19 (hS24) (by intro k hk; first | omega | (dsimp only at *; omega)) (by omega) (by first | omega | (simp only [List.length_nil, List.length_append]; omega)) hrnd) ?_)
          rintro _ w7 ⟨rfl, hc, h32, r32, hs19, hrep19⟩
          refine ⟨_, rfl, ?_⟩
          have hzw7 := hc.size
          have HC := HC.trans hc (fun _ _ h => h) (fun k hk ht => absurd ht (by omega))
          first | have hq := hq.ch hc (by intro k hk ht; first | omega | (dsimp only at *; omega)) | have hq := hq.chT hc (by intro k hz hk ht; first | omega | (dsimp only at *; omega))
          first | have hmore := hmore.ch hc (by intro k hk ht; first | omega | (dsimp only at *; omega)) | have hmore := hmore.chT hc (by intro k hz hk ht; first | omega | (dsimp only at *; omega))
          have hW := hW.ch hc (by intro k hz hk ht; first | omega | (dsimp only at *; omega))
          first | have hrnd := hrnd.ch hc (by intro k hk ht; first | omega | (dsimp only at *; omega)) | have hrnd := hrnd.chT hc (by intro k hz hk ht; first | omega | (dsimp only at *; omega))
          first | have hS24 := hS24.ch hc (by intro k hk ht; first | omega | (dsimp only at *; omega)) | have hS24 := hS24.chT hc (by intro k hz hk ht; first | omega | (dsimp only at *; omega))
          rw [hnx] at hs19 hrep19
          refine wl rfl rfl rfl (p_not rfl) ?_
          refine wl_nil ?_
          refine x_seq ?_
          refine wc_no rfl (rfl) ?_
          refine wc_skip ?_
          refine x_seq ?_
          refine wc_seq ?_
          refine wc_region ?_
          refine wl rfl rfl rfl (p_mv rfl) ?_
          refine wl rfl rfl rfl (p_mv rfl) ?_
          have hltg19 := hs19.lt
          refine wle rfl (e_appS rfl el22 one_u8 rfl rfl hW hS24 (by omega) (by intro k hk; first | omega | (dsimp only at *; omega)) (fun w8 A36 c36 hW hc => ?_))
          have hzw8 := hc.size
          have HC := HC.trans hc (fun _ _ h => h) (fun k hk ht => absurd ht (by first | omega | (dsimp only at *; omega)))
          first | have hq := hq.ch hc (by intro k hk ht; first | omega | (dsimp only at *; omega)) | have hq := hq.chT hc (by intro k hz hk ht; first | omega | (dsimp only at *; omega))
          first | have hmore := hmore.ch hc (by intro k hk ht; first | omega | (dsimp only at *; omega)) | have hmore := hmore.chT hc (by intro k hz hk ht; first | omega | (dsimp only at *; omega))
          first | have hrnd := hrnd.ch hc (by intro k hk ht; first | omega | (dsimp only at *; omega)) | have hrnd := hrnd.chT hc (by intro k hz hk ht; first | omega | (dsimp only at *; omega))
          have hs19 := hs19.ch hc (by first | omega | (dsimp only; omega))
          first | have hS24 := hS24.ch hc (by intro k hk ht; first | omega | (dsimp only at *; omega)) | have hS24 := hS24.chT hc (by intro k hz hk ht; first | omega | (dsimp only at *; omega))
          rw [hnx] at hW
          refine wl rfl rfl rfl (p_as rfl) ?_
          refine wl_nil ?_
          refine x_seq ?_
          refine wc_seq ?_
          refine wc_region ?_
          refine wl rfl rfl rfl (p_mv rfl) ?_
          refine wle rfl (e_call ent55 rfl rfl (ssum_any hs19 hrep19 (by first | omega | (simp only [List.length_append]; omega)) hrnd) ?_)
          rintro _ w9 ⟨rfl, hc⟩
          refine ⟨_, rfl, ?_⟩
          have hzw9 := hc.size
          have HC := HC.tr hc
          have hq := hq.no hc
          have hmore := hmore.no hc
          have hW := hW.after hc
          have hrnd := hrnd.no hc
          have hs19 := hs19.ch hc (fun h => h)
          have hS24 := hS24.no hc
          refine wl rfl rfl rfl (p_mv rfl) ?_
          refine wle rfl (e_call ent19 rfl rfl (sum_any (hW.sl) (by omega) hrnd) ?_)
          rintro _ w10 ⟨rfl, hc⟩
          refine ⟨_, rfl, ?_⟩
          have hzw10 := hc.size
          have HC := HC.tr hc
          have hq := hq.no hc
          have hmore := hmore.no hc
          have hW := hW.after hc
          have hrnd := hrnd.no hc
          have hs19 := hs19.ch hc (fun h => h)
          have hS24 := hS24.no hc
          refine wl rfl rfl rfl (p_neH (a := (shaF _)) (b := (shaF _)) (by kernel_rfl) Tryd.underlying25 Tryd.underlying5 sz5 rfl rfl (shaF_len _) (shaF_len _)) ?_
          refine wl rfl rfl rfl (p_mv rfl) ?_
          refine wl_know (d := 42) (b' := false) rfl (by rw [beq_self_eq_true]; rfl) ?_
          refine wl_g (gd_ rfl rfl rfl rfl rfl rfl) rfl rfl (p_mv rfl) ?_
          refine wle_g (gd_ rfl rfl rfl rfl rfl rfl) (e_call ent56 rfl rfl (slen_any hs19 hrep19) ?_)
          rintro _ w11 ⟨rfl, hc⟩
          refine ⟨_, rfl, ?_⟩
          have hzw11 := hc.size
          have HC := HC.tr hc
          have hq := hq.no hc
          have hmore := hmore.no hc
          have hW := hW.after hc
          have hrnd := hrnd.no hc
          have hs19 := hs19.ch hc (fun h => h)
          have hS24 := hS24.no hc
          refine wl_g (gd_ rfl rfl rfl rfl rfl rfl) rfl rfl (p_mv rfl) ?_
          refine wl_g (gd_ rfl rfl rfl rfl rfl rfl) rfl rfl (p_lenS Tryd.underlying22 rfl) ?_
          refine wl_g (gd_ rfl rfl rfl rfl rfl rfl) rfl rfl (p_ne rfl rfl) ?_
          refine wl rfl rfl rfl (p_pickF rfl rfl) ?_
          refine wl_nil ?_
          refine x_seq ?_
          refine wc_no rfl (decide_eq_false (by omega)) ?_
          refine wc_skip ?_
          refine x_in_normal ?_
          refine x_seq ?_
          refine wc_region ?_
          refine wl rfl rfl rfl (p_add rfl rfl (w64 (by omega))) ?_
          refine wl rfl rfl rfl (p_mv rfl) ?_
          refine wl_nil ?_
          refine x_round (e' := [(1, .slice Amore lmore cmore), (5, .pointer (some ⟨g19, 0, none⟩)), (6, .slice (A36) ((q.take (i + 1)).flatten).length (c36)), (20, .slice Aq lq cq), (21, i64 (lq : Int)), (22, i64 ((i + 1) : Int))]) ⟨rfl, rfl, (by rw [hnl]; rfl), rfl, rfl, rfl, trivial⟩ (by rw [hm0]; omega) ⟨i + 1, A36, c36, rfl, rfl, by omega, by rw [hnl]; omega, ⟨_, _, hs19, hrep19⟩, by rw [hnl]; exact hW.mono (fun k _ hk => by first | omega | (dsimp only at *; omega)), hq, hmore, hrnd, HC⟩
      ·
        have c1 := of_decide_eq_false c1
        obtain rfl : i = lq := by omega
        refine wc_exit ?_
        refine x_then_exit ?_
        refine x_then_exit ?_
        refine x_in_here ?_
        refine x_seq ?_
        refine wc_seq ?_
        refine wc_region ?_
        refine wl rfl rfl rfl (p_mv rfl) ?_
        have hlt19 := hs19.lt
        refine wle rfl (e_call ent57 rfl rfl (scopy_any hs19 hrep19) ?_)
        rintro _ w12 ⟨g51, rfl, hg51, hs51, hc⟩
        refine ⟨_, rfl, ?_⟩
        have hzw12 := hc.size
        have HC := HC.tr hc
        have hq := hq.no hc
        have hmore := hmore.no hc
        have hW := hW.after hc
        have hrnd := hrnd.no hc
        have hs19 := hs19.ch hc (fun h => h)
        have hrep51 := hrep19
        have hge51 : w.heap.size ≤ g51 := by have := HC.size; omega
        refine wl rfl rfl rfl (p_as rfl) ?_
        refine wl_nil ?_
        refine x_seq ?_
        refine wc_seq ?_
        refine wc_seq ?_
        refine wc_region ?_
        refine wl rfl rfl rfl (p_mv rfl) ?_
        refine wl rfl rfl rfl (p_mv rfl) ?_
        refine wle rfl (e_call ent54 rfl rfl (write_any hs51 hrep51 (hmore) (by intro k hk; first | omega | (dsimp only at *; omega)) (by omega) (by first | omega | (simp only [List.length_nil, List.length_append]; omega)) hrnd) ?_)
        rintro _ w13 ⟨rfl, hc, h54, r54, hs51, hrep51⟩
        refine ⟨_, rfl, ?_⟩
        have hzw13 := hc.size
        have HC := HC.trans hc (fun _ _ h => h) (fun k hk ht => absurd ht (by omega))
        first | have hq := hq.ch hc (by intro k hk ht; first | omega | (dsimp only at *; omega)) | have hq := hq.chT hc (by intro k hz hk ht; first | omega | (dsimp only at *; omega))
        first | have hmore := hmore.ch hc (by intro k hk ht; first | omega | (dsimp only at *; omega)) | have hmore := hmore.chT hc (by intro k hz hk ht; first | omega | (dsimp only at *; omega))
        have hW := hW.ch hc (by intro k hz hk ht; first | omega | (dsimp only at *; omega))
        first | have hrnd := hrnd.ch hc (by intro k hk ht; first | omega | (dsimp only at *; omega)) | have hrnd := hrnd.chT hc (by intro k hz hk ht; first | omega | (dsimp only at *; omega))
        have hs19 := hs19.ch hc (by omega)
        refine wl rfl rfl rfl (p_not rfl) ?_
        refine wl_nil ?_
        refine x_seq ?_
        refine wc_no rfl (rfl) ?_
        refine wc_skip ?_
        refine x_seq ?_
        refine wc_seq ?_
        refine wc_region ?_
        refine wl rfl rfl rfl (p_mv rfl) ?_
        refine wle rfl (e_call ent55 rfl rfl (ssum_any hs19 hrep19 (by first | omega | (simp only [List.length_append]; omega)) hrnd) ?_)
        rintro _ w14 ⟨rfl, hc⟩
        refine ⟨_, rfl, ?_⟩
        have hzw14 := hc.size
        have HC := HC.tr hc
        have hq := hq.no hc
        have hmore := hmore.no hc
        have hW := hW.after hc
        have hrnd := hrnd.no hc
        have hs19 := hs19.ch hc (fun h => h)
        have hs51 := hs51.ch hc (fun h => h)
        refine wl rfl rfl rfl (p_mv rfl) ?_
        refine wle rfl (e_call ent19 rfl rfl (sum_any (hW.sl) (by omega) hrnd) ?_)
        rintro _ w15 ⟨rfl, hc⟩
        refine ⟨_, rfl, ?_⟩
        have hzw15 := hc.size
        have HC := HC.tr hc
        have hq := hq.no hc
        have hmore := hmore.no hc
        have hW := hW.after hc
        have hrnd := hrnd.no hc
        have hs19 := hs19.ch hc (fun h => h)
        have hs51 := hs51.ch hc (fun h => h)
        refine wl rfl rfl rfl (p_eqH (a := (shaF _)) (b := (shaF _)) (by kernel_rfl) Tryd.underlying25 Tryd.underlying5 sz5 rfl rfl (shaF_len _) (shaF_len _)) ?_
        refine wl rfl rfl rfl (p_mv rfl) ?_
        refine wl_know (d := 61) (b' := true) rfl (beq_self_eq_true _) ?_
        refine wl_g (gd_ rfl rfl rfl rfl rfl rfl) rfl rfl (p_mv rfl) ?_
        refine wle_g (gd_ rfl rfl rfl rfl rfl rfl) (e_call ent55 rfl rfl (ssum_any hs51 hrep51 (by first | omega | (simp only [List.length_append]; omega)) hrnd) ?_)
        rintro _ w16 ⟨rfl, hc⟩
        refine ⟨_, rfl, ?_⟩
        have hzw16 := hc.size
        have HC := HC.tr hc
        have hq := hq.no hc
        have hmore := hmore.no hc
        have hW := hW.after hc
        have hrnd := hrnd.no hc
        have hs19 := hs19.ch hc (fun h => h)
        have hs51 := hs51.ch hc (fun h => h)
        have hltg19 := hs19.lt
        have hltg51 := hs51.lt
        refine wle_g (gd_ rfl rfl rfl rfl rfl rfl) (e_bsl (cs := #[]) (E := 5) rfl rfl (fun _ => by kernel_rfl) (fun w17 g64 hg64 hb64 hc hsz64 => ?_))
        have hzw17 := hc.size
        have HC := HC.tr hc
        have hq := hq.no hc
        have hmore := hmore.no hc
        have hW := hW.after hc
        have hrnd := hrnd.no hc
        have hs19 := hs19.ch hc (fun h => h)
        have hs51 := hs51.ch hc (fun h => h)
        have hge64 : w.heap.size ≤ g64 := by have := HC.size; omega
        have hW64 := Row.lit (l := 0) (f := u8v) (xs := []) (F := fun k => g64 ≤ k) hb64 (by first | omega | (dsimp only; omega)) rfl rfl (by simp [maxLen])
        refine wl_g (gd_ rfl rfl rfl rfl rfl rfl) rfl rfl (p_mv rfl) ?_
        have hltg19 := hs19.lt
        have hltg51 := hs51.lt
        refine wle_g (gd_ rfl rfl rfl rfl rfl rfl) (e_appS rfl el22 one_u8 rfl rfl hW64 hW.sl (by omega) (by intro k hk; first | omega | (dsimp only at *; omega)) (fun w18 A66 c66 hW64 hc => ?_))
        have hzw18 := hc.size
        have HC := HC.trans hc (fun _ _ h => h) (fun k hk ht => absurd ht (by first | omega | (dsimp only at *; omega)))
        first | have hq := hq.ch hc (by intro k hk ht; first | omega | (dsimp only at *; omega)) | have hq := hq.chT hc (by intro k hz hk ht; first | omega | (dsimp only at *; omega))
        first | have hmore := hmore.ch hc (by intro k hk ht; first | omega | (dsimp only at *; omega)) | have hmore := hmore.chT hc (by intro k hz hk ht; first | omega | (dsimp only at *; omega))
        have hW := hW.afterT hc (by intro k hz hk ht; first | omega | (dsimp only at *; omega))
        first | have hrnd := hrnd.ch hc (by intro k hk ht; first | omega | (dsimp only at *; omega)) | have hrnd := hrnd.chT hc (by intro k hz hk ht; first | omega | (dsimp only at *; omega))
        have hs19 := hs19.ch hc (by first | omega | (dsimp only; omega))
        have hs51 := hs51.ch hc (by first | omega | (dsimp only; omega))
        refine wl_g (gd_ rfl rfl rfl rfl rfl rfl) rfl rfl (p_mv rfl) ?_
        have hltg19 := hs19.lt
        have hltg51 := hs51.lt
        refine wle_g (gd_ rfl rfl rfl rfl rfl rfl) (e_appS rfl el22 one_u8 rfl rfl hW64 hmore (by omega) (by intro k hk; first | omega | (dsimp only at *; omega)) (fun w19 A68 c68 hW64 hc => ?_))
        have hzw19 := hc.size
        have HC := HC.trans hc (fun _ _ h => h) (fun k hk ht => absurd ht (by first | omega | (dsimp only at *; omega)))
        first | have hq := hq.ch hc (by intro k hk ht; first | omega | (dsimp only at *; omega)) | have hq := hq.chT hc (by intro k hz hk ht; first | omega | (dsimp only at *; omega))
        first | have hmore := hmore.ch hc (by intro k hk ht; first | omega | (dsimp only at *; omega)) | have hmore := hmore.chT hc (by intro k hz hk ht; first | omega | (dsimp only at *; omega))
        have hW := hW.afterT hc (by intro k hz hk ht; first | omega | (dsimp only at *; omega))
        first | have hrnd := hrnd.ch hc (by intro k hk ht; first | omega | (dsimp only at *; omega)) | have hrnd := hrnd.chT hc (by intro k hz hk ht; first | omega | (dsimp only at *; omega))
        have hs19 := hs19.ch hc (by first | omega | (dsimp only; omega))
        have hs51 := hs51.ch hc (by first | omega | (dsimp only; omega))
        refine wle_g (gd_ rfl rfl rfl rfl rfl rfl) (e_call ent19 rfl rfl (sum_any (hW64.sl) (by omega) hrnd) ?_)
        rintro _ w20 ⟨rfl, hc⟩
        refine ⟨_, rfl, ?_⟩
        have hzw20 := hc.size
        have HC := HC.tr hc
        have hq := hq.no hc
        have hmore := hmore.no hc
        have hW := hW.after hc
        have hrnd := hrnd.no hc
        have hs19 := hs19.ch hc (fun h => h)
        have hs51 := hs51.ch hc (fun h => h)
        have hW64 := hW64.after hc
        refine wl_g (gd_ rfl rfl rfl rfl rfl rfl) rfl rfl (p_eqH (a := (shaF _)) (b := (shaF _)) (by kernel_rfl) Tryd.underlying25 Tryd.underlying5 sz5 rfl rfl (shaF_len _) (shaF_len _)) ?_
        refine wl rfl rfl rfl (p_pickT rfl rfl) ?_
        refine wl rfl rfl rfl (p_mv rfl) ?_
        refine wl_know (d := 72) (b' := true) rfl (by rw [List.nil_append]; exact beq_self_eq_true _) ?_
        refine wle_g (gd_ rfl rfl rfl rfl rfl rfl) (e_call ent18 rfl rfl (lives3_any hrnd) ?_)
        rintro _ w21 ⟨rfl, hc⟩
        refine ⟨_, rfl, ?_⟩
        have hzw21 := hc.size
        have HC := HC.tr hc
        have hq := hq.no hc
        have hmore := hmore.no hc
        have hW := hW.after hc
        have hrnd := hrnd.no hc
        have hs19 := hs19.ch hc (fun h => h)
        have hs51 := hs51.ch hc (fun h => h)
        have hW64 := hW64.after hc
        refine wl rfl rfl rfl (p_pickT rfl rfl) ?_
        refine wl rfl rfl rfl (p_as rfl) ?_
        refine wl_nil ?_
        refine x_seq ?_
        refine wc_ret ?_
        refine fin_run (res1 rfl rfl) ?_
        exact ⟨rfl, HC⟩
end Go.Proofs.YtdbdconmcgcooaaDoor
