/-
  Own text, printed by a program of mine (wip/gx): what functions of the program do, walked operation by operation.
-/
import Derived.Test.YtdbdconmcgcooaaDoorProg
import Derived.Test.YtdbdconmcgcooaaDoorGxAgg
import Derived.Test.YtdbdconmcgcooaaDoorTab
import Derived.Test.YtdbdconmcgcooaaDoorPlPack
import Derived.Test.YtdbdconmcgcooaaDoorPlSum
import Derived.Test.YtdbdconmcgcooaaDoorPlSha
import Derived.Test.YtdbdconmcgcooaaDoorPlShaSt
import Derived.Test.YtdbdconmcgcooaaDoorPlShaB
import Derived.Test.YtdbdconmcgcooaaDoorPlTag
import Derived.Test.YtdbdconmcgcooaaDoorGxTwo
import Derived.Test.YtdbdconmcgcooaaDoorTX
import Derived.Test.YtdbdconmcgcooaaDoorH0
set_option linter.unusedVariables false
namespace Go.Proofs.YtdbdconmcgcooaaDoor
open Go.RowKit Go.Gx
open Go.Plain
set_option maxHeartbeats 1000000 in
set_option maxRecDepth 20000 in
theorem tagBytes_walk {w : World} {t : UInt8} {Aq : Option Addr} {lq cq : Nat} {Fq : Nat → Prop} {q : List (List UInt8)} (hq : SB w Fq Aq lq cq q) (hZ : ∀ b ∈ q, b.length ≤ 140737488351232) (hrnd : Sl w (fun k => k = 1) u32v (some ⟨1, 0, none⟩) 64 64 rk) :
    Calls Tryd.prog 5 #[u8v t, .slice Aq lq cq] w fun e w' => e = .returned (.bool true) ∧ Ch No w w' := by
  have hn1 : 1 < w.heap.size := hrnd.size (by omega) rfl
  have hql := hq.len
  have hq := hq.old
  have HC : Ch No w w := Ch.refl _ _
  refine enter' (args := [u8v t, .slice Aq lq cq]) (n := 54) Tryd.func5 rfl rfl rfl ?_
  refine wc_seq ?_
  refine wc_region ?_
  refine wl rfl rfl rfl (p_as rfl) ?_
  refine wl_nil ?_
  refine x_seq ?_
  refine wc_seq ?_
  refine wc_seq ?_
  refine wc_region ?_
  refine wl rfl rfl rfl (p_mv rfl) ?_
  refine wl rfl rfl rfl (p_lenS Tryd.underlying34 rfl) ?_
  refine wl rfl rfl rfl (p_gt rfl rfl) ?_
  refine wl_nil ?_
  refine x_seq ?_
  refine wc_if rfl (fun c0 => ?_) (fun c0 => ?_)
  ·
    have c0 := of_decide_eq_true c0
    refine wc_seq ?_
    refine wc_region ?_
    refine wle rfl (e_call ent25 rfl rfl (lives4_any hrnd) ?_)
    rintro _ w1 ⟨rfl, hc⟩
    refine ⟨_, rfl, ?_⟩
    have hzw1 := hc.size
    have HC := HC.tr hc
    have hq := hq.no hc
    have hrnd := hrnd.no hc
    refine wl rfl rfl rfl (p_as rfl) ?_
    refine wl_nil ?_
    refine x_seq ?_
    refine wc_ret ?_
    refine x_then_ret ?_
    refine fin_run (res1 rfl rfl) ?_
    exact ⟨rfl, HC⟩
  ·
    have c0 := of_decide_eq_false c0
    refine wc_skip ?_
    refine x_seq ?_
    refine wc_seq ?_
    refine wc_region ?_
    refine wl rfl rfl rfl (p_as rfl) ?_
    refine wl_nil ?_
    refine x_seq ?_
    refine wc_seq ?_
    refine wc_seq ?_
    refine wc_region ?_
    refine wl rfl rfl rfl (p_mv rfl) ?_
    refine wl rfl rfl rfl (p_lenS Tryd.underlying34 rfl) ?_
    refine wl rfl rfl rfl (p_mv rfl) ?_
    refine wl_nil ?_
    refine x_seq ?_
    refine wc_block ?_
    refine wc_loop (e' := [(0, u8v t), (1, .slice Aq lq cq), (5, i64 (((q.take (0)).flatten.length : Nat) : Int)), (13, .slice Aq lq cq), (14, i64 (lq : Int)), (15, i64 ((0) : Int))]) (fun mz ez uz => ∃ i : Nat, mz = lq - i ∧ ez = [(0, u8v t), (1, .slice Aq lq cq), (5, i64 (((q.take i).flatten.length : Nat) : Int)), (13, .slice Aq lq cq), (14, i64 (lq : Int)), (15, i64 (i : Int))] ∧ (i ≤ lq) ∧ ((q.take i).flatten.length ≤ 2000) ∧ (SB uz (fun k => k < w.heap.size) Aq lq cq q) ∧ (Sl uz (fun k => k = 1) u32v (some ⟨1, 0, none⟩) 64 64 rk) ∧ (Ch No w uz))
      ⟨rfl, rfl, rfl, rfl, rfl, rfl, trivial⟩ ⟨0, rfl, rfl, by omega, by simp, hq, hrnd, HC⟩ ?_
    rintro m0 e w2 ⟨i, hm0, rfl, hi, hn, hq, hrnd, HC⟩
    have hzw2 := HC.size
    refine wc_seq ?_
    refine wc_region ?_
    refine wl rfl rfl rfl (p_lt rfl rfl) ?_
    refine wl_nil ?_
    refine x_seq ?_
    refine wc_seq ?_
    refine wc_if rfl (fun c1 => ?_) (fun c1 => ?_)
    ·
      have c1 := of_decide_eq_true c1
      refine wc_skip ?_
      refine x_seq ?_
      refine wc_seq ?_
      refine wc_block ?_
      refine wc_seq ?_
      refine wc_region ?_
      obtain ⟨b3, o3, hA3, hF3, hc3⟩ := hq.opn (by omega)
      obtain ⟨SA17, sl17, sc17, hcc3, hS17⟩ := hc3 i (by omega)
      have hSl17 := hS17.len
      refine wl rfl rfl rfl (p_ixS1 (j := i) Tryd.underlying34 sz22 rfl hA3 rfl (by omega) (by omega) (Int.toNat_natCast _)) ?_
      refine wl rfl rfl rfl (p_ld Tryd.underlying22 rfl rfl (ld (hcc3))) ?_
      have hnx := cat_next (q := q) (i := i) (by omega)
      have hqi : (q.getD i []).length = sl17 := hSl17
      have hzi := hZ _ (getD_memL (q := q) (i := i) (by omega))
      have hnl : (q.take i).flatten.length + sl17 = (q.take (i + 1)).flatten.length := by rw [← hnx, List.length_append, hqi]
      refine wl rfl rfl rfl (p_as rfl) ?_
      refine wl_nil ?_
      refine x_seq ?_
      refine wc_seq ?_
      refine wc_region ?_
      refine wl rfl rfl rfl (p_mv rfl) ?_
      refine wl rfl rfl rfl (p_mv rfl) ?_
      refine wl rfl rfl rfl (p_lenS Tryd.underlying22 rfl) ?_
      refine wl rfl rfl rfl (p_add rfl rfl (w64 (by omega))) ?_
      refine wl rfl rfl rfl (p_as rfl) ?_
      refine wl_nil ?_
      refine x_seq ?_
      refine wc_seq ?_
      refine wc_region ?_
      refine wl rfl rfl rfl (p_mv rfl) ?_
      refine wl rfl rfl rfl (p_gt rfl rfl) ?_
      refine wl_nil ?_
      refine x_seq ?_
      refine wc_if rfl (fun c2 => ?_) (fun c2 => ?_)
      ·
        have c2 := of_decide_eq_true c2
        refine wc_seq ?_
        refine wc_region ?_
        refine wle rfl (e_call ent25 rfl rfl (lives4_any hrnd) ?_)
        rintro _ w4 ⟨rfl, hc⟩
        refine ⟨_, rfl, ?_⟩
        have hzw4 := hc.size
        have HC := HC.tr hc
        have hq := hq.no hc
        have hrnd := hrnd.no hc
        have hS17 := hS17.no hc
        refine wl rfl rfl rfl (p_as rfl) ?_
        refine wl_nil ?_
        refine x_seq ?_
        refine wc_ret ?_
        refine x_in_ret ?_
        refine x_then_ret ?_
        refine x_then_ret ?_
        refine x_in_ret ?_
        refine x_then_ret ?_
        refine fin_run (res1 rfl rfl) ?_
        exact ⟨rfl, HC⟩
      ·
        have c2 := of_decide_eq_false c2
        refine wc_skip ?_
        refine x_in_normal ?_
        refine x_seq ?_
        refine wc_region ?_
        refine wl rfl rfl rfl (p_add rfl rfl (w64 (by omega))) ?_
        refine wl rfl rfl rfl (p_mv rfl) ?_
        refine wl_nil ?_
        refine x_round (e' := [(0, u8v t), (1, .slice Aq lq cq), (5, i64 (((q.take (i + 1)).flatten.length : Nat) : Int)), (13, .slice Aq lq cq), (14, i64 (lq : Int)), (15, i64 ((i + 1) : Int))]) ⟨rfl, rfl, (congrArg some (congrArg i64 (by omega))), rfl, rfl, rfl, trivial⟩ (by rw [hm0]; omega) ⟨i + 1, rfl, rfl, by omega, by omega, hq, hrnd, HC⟩
    ·
      have c1 := of_decide_eq_false c1
      have ht : q.take i = q := List.take_of_length_le (by omega)
      have hfl : q.flatten.length ≤ 2000 := by rw [← ht]; exact hn
      refine wc_exit ?_
      refine x_then_exit ?_
      refine x_then_exit ?_
      refine x_in_here ?_
      refine x_seq ?_
      refine wc_seq ?_
      refine wc_region ?_
      refine wl rfl rfl rfl (p_mv rfl) ?_
      refine wl rfl rfl rfl (p_mv rfl) ?_
      refine wle rfl (e_call ent26 rfl rfl (tbytes_any (hq) (by omega) (by first | omega | (simp only [List.flatten_cons, List.flatten_nil, List.length_append, List.length_nil, List.length_cons]; omega))) ?_)
      rintro _ w5 ⟨A29, c29, rfl, hW29, hc⟩
      refine ⟨_, rfl, ?_⟩
      have hzw5 := hc.size
      have HC := HC.tr hc
      have hq := hq.no hc
      have hrnd := hrnd.no hc
      refine wl rfl rfl rfl (p_as rfl) ?_
      refine wl_nil ?_
      refine x_seq ?_
      refine wc_seq ?_
      refine wc_draw (.st 0 0 (.st 1 1 (.st 2 0 (.st 3 0 (.st 4 2 (.st 5 1 (.st 6 0 (.st 7 0 (.st 8 0 (.st 9 0 (.st 10 0 (.st 11 0 (.st 12 0 (.st 13 0 (.st 14 0 (.st 15 0 (.st 16 0 (.st 17 1 (.st 18 0 (.st 19 0 (.st 20 0 (.st 21 0 (.st 22 2 (.st 23 0 (.st 24 0 .nil))))))))))))))))))))))))) 25 (by kernel_rfl) (by kernel_rfl) (by kernel_rfl) (by repeat (first | with_reducible exact pan_body | with_reducible apply pan_then | with_reducible apply pan_in)) (fun x => Ch No w5.drew x) (Ch.refl _ _) ?_
      obtain ⟨w6, ew6⟩ : ∃ x, x = w5.drew := ⟨_, rfl⟩
      rw [← ew6]
      have hc : Ch No w5 w6 := by rw [ew6]; exact Ch.drew _
      have hszw6 : w6.heap.size = w5.heap.size := by rw [ew6]; rfl
      clear ew6
      have hzw6 := hc.size
      have HC := HC.tr hc
      have hq := hq.no hc
      have hrnd := hrnd.no hc
      have hW29 := hW29.no hc
      have hS : Ch No w6 w6 := Ch.refl _ _
      refine ws_p rfl rfl rfl rfl (p_mv rfl) ?_
      refine ws_h rfl rfl rfl rfl (p_bts Tryd.underlying22 Tryd.underlying5 Tryd.underlying9 rfl (hW29.sl).len (fun _ h => (hW29.sl).rd.no h)) ?_
      refine ws_p rfl rfl rfl rfl (p_mv rfl) ?_
      refine ws_p rfl rfl rfl rfl (p_mv rfl) ?_
      refine ws_e rfl rfl (e_call ent27 rfl rfl (rtbytes_any (hq) (by omega) (by first | omega | (simp only [List.flatten_cons, List.flatten_nil, List.length_append, List.length_nil, List.length_cons]; omega))) ?_)
      rintro _ w7 ⟨A34, c34, rfl, hW34, hc⟩
      refine ⟨_, rfl, hc, ?_⟩
      have hzw7 := hc.size
      have HC := HC.tr hc
      have hq := hq.no hc
      have hrnd := hrnd.no hc
      have hW29 := hW29.after hc
      refine ws_narrow (S' := fun x => Ch No w7 x) (Ch.refl _ _) (fun x h => hc.tr h) ?_
      refine ws_h rfl rfl rfl rfl (p_bts Tryd.underlying22 Tryd.underlying5 Tryd.underlying9 rfl (hW34.sl).len (fun _ h => (hW34.sl).rd.no h)) ?_
      refine ws_p rfl rfl rfl rfl (p_eqT rfl rfl) ?_
      refine ws_p rfl rfl rfl rfl (p_mv rfl) ?_
      refine ws_know (d := 37) (b' := true) rfl ((by first | exact beq_self_eq_true _ | exact decide_eq_true rfl | exact eqT_of rfl)) ?_
      refine ws_pg rfl (gd_ rfl rfl rfl rfl rfl rfl) rfl rfl (p_mv rfl) ?_
      refine ws_pg rfl (gd_ rfl rfl rfl rfl rfl rfl) rfl rfl (p_lenS Tryd.underlying22 rfl) ?_
      refine ws_pg rfl (gd_ rfl rfl rfl rfl rfl rfl) rfl rfl (p_mv rfl) ?_
      refine ws_pg rfl (gd_ rfl rfl rfl rfl rfl rfl) rfl rfl (p_add rfl rfl (w64 (by omega))) ?_
      refine ws_pg rfl (gd_ rfl rfl rfl rfl rfl rfl) rfl rfl (p_eq rfl rfl) ?_
      refine ws_p rfl rfl rfl rfl (p_pickT rfl rfl) ?_
      refine ws_p rfl rfl rfl rfl (p_mv rfl) ?_
      refine ws_know (d := 44) (b' := true) rfl (decide_eq_true (by rw [ht]; omega)) ?_
      refine ws_pg rfl (gd_ rfl rfl rfl rfl rfl rfl) rfl rfl (p_mv rfl) ?_
      obtain ⟨b8, o8, hA8, hF8, hc8⟩ := (hW29.sl).opn (d := 0) (by omega)
      refine ws_pg rfl (gd_ rfl rfl rfl rfl rfl rfl) rfl rfl (p_ixS1 (j := 0) Tryd.underlying22 sz5 rfl hA8 rfl (by omega) (by omega) rfl) ?_
      refine ws_hg rfl (gd_ rfl rfl rfl rfl rfl rfl) rfl rfl (p_ld Tryd.underlying5 rfl rfl (fun _ h => h.cell (fun h => h) (hc8 _ (by omega)))) ?_
      refine ws_pg rfl (gd_ rfl rfl rfl rfl rfl rfl) rfl rfl (p_mv rfl) ?_
      refine ws_pg rfl (gd_ rfl rfl rfl rfl rfl rfl) rfl rfl (p_eq rfl rfl) ?_
      refine ws_p rfl rfl rfl rfl (p_pickT rfl rfl) ?_
      refine ws_p rfl rfl rfl rfl (p_mv rfl) ?_
      refine ws_know (d := 51) (b' := true) rfl (decide_eq_true rfl) ?_
      refine ws_eg rfl (gd_ rfl rfl rfl rfl rfl rfl) (e_call ent25 rfl rfl (lives4_any hrnd) ?_)
      rintro _ w9 ⟨rfl, hc⟩
      refine ⟨_, rfl, hc, ?_⟩
      have hzw9 := hc.size
      have HC := HC.tr hc
      have hq := hq.no hc
      have hrnd := hrnd.no hc
      have hW29 := hW29.after hc
      have hW34 := hW34.after hc
      refine ws_narrow (S' := fun x => Ch No w9 x) (Ch.refl _ _) (fun x h => hc.tr h) ?_
      refine ws_p rfl rfl rfl rfl (p_pickT rfl rfl) ?_
      refine ws_p rfl rfl rfl rfl (p_as rfl) ?_
      refine ws_n ?_
      refine x_seq ?_
      refine wc_ret ?_
      refine fin_run (res1 rfl rfl) ?_
      exact ⟨rfl, HC⟩
end Go.Proofs.YtdbdconmcgcooaaDoor
