/-
  Own text, printed by a program of mine (wip/gx): what functions of the program do, walked operation by operation.
-/
import Derived.Test.YtdbdconmcgcooaaDoorProg
import Derived.Test.YtdbdconmcgcooaaDoorGxAgg
import Derived.Test.YtdbdconmcgcooaaDoorTab
import Derived.Test.YtdbdconmcgcooaaDoorPlPack
import Derived.Test.YtdbdconmcgcooaaDoorPlSum
import Derived.Test.YtdbdconmcgcooaaDoorPlSha
import Derived.Test.YtdbdconmcgcooaaDoorPlShaSt
import Derived.Test.YtdbdconmcgcooaaDoorPlShaB
import Derived.Test.YtdbdconmcgcooaaDoorPlTag
import Derived.Test.YtdbdconmcgcooaaDoorGxTwo
import Derived.Test.YtdbdconmcgcooaaDoorPlTagA
import Derived.Test.YtdbdconmcgcooaaDoorTX
import Derived.Test.YtdbdconmcgcooaaDoorH0
set_option linter.unusedVariables false
namespace Go.Proofs.YtdbdconmcgcooaaDoor
open Go.RowKit Go.Gx
open Go.Plain
set_option maxHeartbeats 16000000 in
set_option maxRecDepth 20000 in
theorem tagApart_walk {w : World} {x y : List UInt8} {Aa : Option Addr} {la ca : Nat} {Fa : Nat → Prop} {a : List UInt8} {Ab : Option Addr} {lb cb : Nat} {Fb : Nat → Prop} {b : List UInt8} (hx : x.length = 32) (hy : y.length = 32) (ha : Sl w Fa u8v Aa la ca a) (hb : Sl w Fb u8v Ab lb cb b) (hrnd : Sl w (fun k => k = 1) u32v (some ⟨1, 0, none⟩) 64 64 rk) :
    Calls Tryd.prog 11 #[hv x, hv y, .agg #[.slice Aa la ca, .slice Ab lb cb]] w fun e w' => e = .returned (.bool true) ∧ Ch No w w' := by
  have hn1 : 1 < w.heap.size := hrnd.size (by omega) rfl
  have hal := ha.len
  have hbl := hb.len
  have hac := ha.cap
  have hbc := hb.cap
  have ha := ha.old
  have hb := hb.old
  have HC : Ch No w w := Ch.refl _ _
  refine enter' (args := [hv x, hv y, .agg #[.slice Aa la ca, .slice Ab lb cb]]) (n := 122) Tryd.func11 rfl rfl rfl ?_
  refine wc_seq ?_
  refine wc_region ?_
  refine wle rfl (e_box (cs := (List.map u8v x).toArray) rfl rfl rfl (fun w1 g3 hg3 hb3 hc hsz3 => ?_))
  have hzw1 := hc.size
  have HC := HC.tr hc
  have ha := ha.no hc
  have hb := hb.no hc
  have hrnd := hrnd.no hc
  have hge3 : w.heap.size ≤ g3 := by have := HC.size; omega
  have hltg3 := hb3.lt
  refine wle rfl (e_box (cs := (List.map u8v y).toArray) rfl rfl rfl (fun w2 g4 hg4 hb4 hc hsz4 => ?_))
  have hzw2 := hc.size
  have HC := HC.tr hc
  have ha := ha.no hc
  have hb := hb.no hc
  have hrnd := hrnd.no hc
  have hb3 := hb3.ch hc (fun h => h)
  have hge4 : w.heap.size ≤ g4 := by have := HC.size; omega
  have neg3_4 : g3 < g4 := by omega
  have hltg3 := hb3.lt
  have hltg4 := hb4.lt
  refine wle rfl (e_box rfl rfl rfl (fun w3 g5 hg5 hb5 hc hsz5 => ?_))
  have hzw3 := hc.size
  have HC := HC.tr hc
  have ha := ha.no hc
  have hb := hb.no hc
  have hrnd := hrnd.no hc
  have hb3 := hb3.ch hc (fun h => h)
  have hb4 := hb4.ch hc (fun h => h)
  have hge5 : w.heap.size ≤ g5 := by have := HC.size; omega
  have neg3_5 : g3 < g5 := by omega
  have neg4_5 : g4 < g5 := by omega
  refine wl rfl rfl rfl (p_as rfl) ?_
  refine wl_nil ?_
  refine x_seq ?_
  refine wc_seq ?_
  refine wc_draw (.st 0 0 (.st 1 1 (.st 2 0 (.st 3 1 (.st 4 0 (.st 5 0 .nil)))))) 6 (by kernel_rfl) (by kernel_rfl) (by kernel_rfl) (by repeat (first | with_reducible exact pan_body | with_reducible apply pan_then | with_reducible apply pan_in)) (fun x => Ch No w3.drew x) (Ch.refl _ _) ?_
  obtain ⟨w4, ew4⟩ : ∃ x, x = w3.drew := ⟨_, rfl⟩
  rw [← ew4]
  have hc : Ch No w3 w4 := by rw [ew4]; exact Ch.drew _
  have hszw4 : w4.heap.size = w3.heap.size := by rw [ew4]; rfl
  clear ew4
  have hzw4 := hc.size
  have HC := HC.tr hc
  have ha := ha.no hc
  have hb := hb.no hc
  have hrnd := hrnd.no hc
  have hb3 := hb3.ch hc (fun h => h)
  have hb4 := hb4.ch hc (fun h => h)
  have hb5 := hb5.ch hc (fun h => h)
  have hS : Ch No w4 w4 := Ch.refl _ _
  refine ws_p rfl rfl rfl rfl (p_ixA (j := 0) Tryd.underlying49 sz22 rfl rfl (by omega) (by omega) rfl) ?_
  refine ws_h rfl rfl rfl rfl (p_ld Tryd.underlying22 rfl rfl (fun _ h => h.cell (fun h => h) (hb5.cell rfl))) ?_
  refine ws_p rfl rfl rfl rfl (p_ixA (j := 1) Tryd.underlying49 sz22 rfl rfl (by omega) (by omega) rfl) ?_
  refine ws_h rfl rfl rfl rfl (p_ld Tryd.underlying22 rfl rfl (fun _ h => h.cell (fun h => h) (hb5.cell rfl))) ?_
  refine ws_p rfl rfl rfl rfl (p_as rfl) ?_
  refine ws_p rfl rfl rfl rfl (p_as rfl) ?_
  refine ws_n ?_
  refine x_seq ?_
  refine wc_seq ?_
  refine wc_seq ?_
  refine wc_region ?_
  refine wl rfl rfl rfl (p_mv rfl) ?_
  refine wl rfl rfl rfl (p_lenS Tryd.underlying22 rfl) ?_
  refine wl rfl rfl rfl (p_gt rfl rfl) ?_
  refine wl rfl rfl rfl (p_mv rfl) ?_
  refine wl_split (d := 20) rfl (fun q20 => ?_) (fun q20 => ?_)
  ·
    have q20 := of_decide_eq_true q20
    refine wl_s (gd_ rfl rfl rfl rfl rfl rfl) rfl rfl ?_
    refine wl_s (gd_ rfl rfl rfl rfl rfl rfl) rfl rfl ?_
    refine wl_s (gd_ rfl rfl rfl rfl rfl rfl) rfl rfl ?_
    refine wl rfl rfl rfl (p_pickT rfl rfl) ?_
    refine wl_nil ?_
    refine x_seq ?_
    refine wc_yes rfl (rfl) ?_
    refine wc_seq ?_
    refine wc_region ?_
    refine wle rfl (e_call ent25 rfl rfl (lives4_any hrnd) ?_)
    rintro _ w5 ⟨rfl, hc⟩
    refine ⟨_, rfl, ?_⟩
    have hzw5 := hc.size
    have HC := HC.tr hc
    have ha := ha.no hc
    have hb := hb.no hc
    have hrnd := hrnd.no hc
    have hb3 := hb3.ch hc (fun h => h)
    have hb4 := hb4.ch hc (fun h => h)
    have hb5 := hb5.ch hc (fun h => h)
    refine wl rfl rfl rfl (p_as rfl) ?_
    refine wl_nil ?_
    refine x_seq ?_
    refine wc_ret ?_
    refine x_then_ret ?_
    refine fin_run (res1 rfl rfl) ?_
    exact ⟨rfl, HC⟩
  ·
    have q20 := of_decide_eq_false q20
    refine wl_g (gd_ rfl rfl rfl rfl rfl rfl) rfl rfl (p_mv rfl) ?_
    refine wl_g (gd_ rfl rfl rfl rfl rfl rfl) rfl rfl (p_lenS Tryd.underlying22 rfl) ?_
    refine wl_g (gd_ rfl rfl rfl rfl rfl rfl) rfl rfl (p_gt rfl rfl) ?_
    refine wl rfl rfl rfl (p_pickF rfl rfl) ?_
    refine wl_nil ?_
    refine x_seq ?_
    refine wc_if rfl (fun c0 => ?_) (fun c0 => ?_)
    ·
      have c0 := of_decide_eq_true c0
      refine wc_seq ?_
      refine wc_region ?_
      refine wle rfl (e_call ent25 rfl rfl (lives4_any hrnd) ?_)
      rintro _ w6 ⟨rfl, hc⟩
      refine ⟨_, rfl, ?_⟩
      have hzw6 := hc.size
      have HC := HC.tr hc
      have ha := ha.no hc
      have hb := hb.no hc
      have hrnd := hrnd.no hc
      have hb3 := hb3.ch hc (fun h => h)
      have hb4 := hb4.ch hc (fun h => h)
      have hb5 := hb5.ch hc (fun h => h)
      refine wl rfl rfl rfl (p_as rfl) ?_
      refine wl_nil ?_
      refine x_seq ?_
      refine wc_ret ?_
      refine x_then_ret ?_
      refine fin_run (res1 rfl rfl) ?_
      exact ⟨rfl, HC⟩
    ·
      have c0 := of_decide_eq_false c0
      refine wc_skip ?_
      refine x_seq ?_
      refine wc_seq ?_
      have hla : la ≤ 1000 := by omega
      refine wc_any [26, 27, 28, 29, 30, 31, 32, 33, 34, 35, 36, 37, 38, 39, 40, 41, 42, 43, 44, 45, 46, 47, 48, 49, 9] (fun i => ([[], [0], [1], [], [], [3, 4], [5], [], [7], [8], [], [], [10, 11], [12], [], [], [], [14, 15, 16], [17], [], [], [20], [21], [2, 6, 9, 13, 18, 19, 22], [23]] : List (List Nat)).getD i []) (fun i => (([.val (.slice Aa la ca), .sb [a], .sl ([0] ++ [a].flatten), .val (.slice (some ⟨g3, 0, none⟩) 32 32), .val (.slice (some ⟨g4, 0, none⟩) 32 32), .sb [x, y], .sl ([1] ++ [x, y].flatten), .val (.slice Aa la ca), .sb [a], .sl ([2] ++ [a].flatten), .val (.slice (some ⟨g3, 0, none⟩) 32 32), .val (.slice (some ⟨g4, 0, none⟩) 32 32), .sb [x, y], .sl ([3] ++ [x, y].flatten), .sl [7], .val (.slice (some ⟨g3, 0, none⟩) 32 32), .val (.slice (some ⟨g4, 0, none⟩) 32 32), .sb [[7], x, y], .sl ([4] ++ [[7], x, y].flatten), .sl ([5] ++ ([] : List (List UInt8)).flatten), .val (.slice Aa la ca), .sb [a], .sl ([6] ++ [a].flatten), .sb (tagIn a x y), .sb (tagIn a x y)] : List AS).getD i .no).ok) [24] (by kernel_rfl) (by rfl) (by kernel_rfl) (by rfl) (by kernel_rfl) (fun i v w1 w2 hc h => AS.ch hc h) ?_ ?_
      ·
        refine ⟨?_, ?_, ?_, ?_, ?_, ?_, ?_, ?_, ?_, ?_, ?_, ?_, ?_, ?_, ?_, ?_, ?_, ?_, ?_, ?_, ?_, ?_, ?_, ?_, ?_, trivial⟩
        ·
          intro w1 hc
          refine ⟨fun a F => rfl, ?_⟩
          exact pu_any rfl rfl (p_mv rfl) rfl
        ·
          intro w1 hc
          rintro _ rfl
          refine ⟨fun a F => rfl, ?_⟩
          exact e_bslV (E := 22) rfl rfl (fun _ => by kernel_rfl) (fun w2 g hg hb hc2 hsz => ⟨hc2, _, rfl, _, _, rfl, (SB.lit1 hb (ha.no (hc.tr hc2))).all⟩)
        ·
          intro w1 hc
          rintro _ ⟨A1, c1, rfl, h1⟩
          refine ⟨fun a F => rfl, ?_⟩
          refine e_call ent26 rfl rfl (tbytes_any (t := 0) (h1) (by simp) (by first | omega | (simp only [List.flatten_cons, List.flatten_nil, List.length_append, List.length_nil, List.length_cons, hx, hy, hal]; omega))) ?_
          rintro _ w2 ⟨Az, cz, rfl, hW, hc2⟩
          exact ⟨_, rfl, hc2, _, rfl, _, _, _, rfl, hW.sl.all⟩
        ·
          intro w1 hc
          refine ⟨fun a F => rfl, ?_⟩
          exact pu_any rfl rfl (p_slW (N := 31) Tryd.underlying25 sz5 rfl) rfl
        ·
          intro w1 hc
          refine ⟨fun a F => rfl, ?_⟩
          exact pu_any rfl rfl (p_slW (N := 31) Tryd.underlying25 sz5 rfl) rfl
        ·
          intro w1 hc
          rintro _ rfl
          rintro _ rfl
          refine ⟨fun a F => rfl, ?_⟩
          exact e_bslV (E := 22) rfl rfl (fun _ => by kernel_rfl) (fun w2 g hg hb hc2 hsz => ⟨hc2, _, rfl, _, _, rfl, (SB.lit2 hb ((Sl.whole (L := x) (hb3.ch hc (fun h => h)) hx).no hc2) ((Sl.whole (L := y) (hb4.ch hc (fun h => h)) hy).no hc2)).all⟩)
        ·
          intro w1 hc
          rintro _ ⟨A5, c5, rfl, h5⟩
          refine ⟨fun a F => rfl, ?_⟩
          refine e_call ent26 rfl rfl (tbytes_any (t := 1) (h5) (by simp) (by first | omega | (simp only [List.flatten_cons, List.flatten_nil, List.length_append, List.length_nil, List.length_cons, hx, hy, hal]; omega))) ?_
          rintro _ w2 ⟨Az, cz, rfl, hW, hc2⟩
          exact ⟨_, rfl, hc2, _, rfl, _, _, _, rfl, hW.sl.all⟩
        ·
          intro w1 hc
          refine ⟨fun a F => rfl, ?_⟩
          exact pu_any rfl rfl (p_mv rfl) rfl
        ·
          intro w1 hc
          rintro _ rfl
          refine ⟨fun a F => rfl, ?_⟩
          exact e_bslV (E := 22) rfl rfl (fun _ => by kernel_rfl) (fun w2 g hg hb hc2 hsz => ⟨hc2, _, rfl, _, _, rfl, (SB.lit1 hb (ha.no (hc.tr hc2))).all⟩)
        ·
          intro w1 hc
          rintro _ ⟨A8, c8, rfl, h8⟩
          refine ⟨fun a F => rfl, ?_⟩
          refine e_call ent26 rfl rfl (tbytes_any (t := 2) (h8) (by simp) (by first | omega | (simp only [List.flatten_cons, List.flatten_nil, List.length_append, List.length_nil, List.length_cons, hx, hy, hal]; omega))) ?_
          rintro _ w2 ⟨Az, cz, rfl, hW, hc2⟩
          exact ⟨_, rfl, hc2, _, rfl, _, _, _, rfl, hW.sl.all⟩
        ·
          intro w1 hc
          refine ⟨fun a F => rfl, ?_⟩
          exact pu_any rfl rfl (p_slW (N := 31) Tryd.underlying25 sz5 rfl) rfl
        ·
          intro w1 hc
          refine ⟨fun a F => rfl, ?_⟩
          exact pu_any rfl rfl (p_slW (N := 31) Tryd.underlying25 sz5 rfl) rfl
        ·
          intro w1 hc
          rintro _ rfl
          rintro _ rfl
          refine ⟨fun a F => rfl, ?_⟩
          exact e_bslV (E := 22) rfl rfl (fun _ => by kernel_rfl) (fun w2 g hg hb hc2 hsz => ⟨hc2, _, rfl, _, _, rfl, (SB.lit2 hb ((Sl.whole (L := x) (hb3.ch hc (fun h => h)) hx).no hc2) ((Sl.whole (L := y) (hb4.ch hc (fun h => h)) hy).no hc2)).all⟩)
        ·
          intro w1 hc
          rintro _ ⟨A12, c12, rfl, h12⟩
          refine ⟨fun a F => rfl, ?_⟩
          refine e_call ent26 rfl rfl (tbytes_any (t := 3) (h12) (by simp) (by first | omega | (simp only [List.flatten_cons, List.flatten_nil, List.length_append, List.length_nil, List.length_cons, hx, hy, hal]; omega))) ?_
          rintro _ w2 ⟨Az, cz, rfl, hW, hc2⟩
          exact ⟨_, rfl, hc2, _, rfl, _, _, _, rfl, hW.sl.all⟩
        ·
          intro w1 hc
          refine ⟨fun a F => rfl, ?_⟩
          exact e_bslV (E := 5) rfl rfl (fun _ => by kernel_rfl) (fun w2 g hg hb hc2 hsz => ⟨hc2, _, rfl, _, _, _, rfl, (Sl.lit1 (f := u8v) (x := 7) hb).all⟩)
        ·
          intro w1 hc
          refine ⟨fun a F => rfl, ?_⟩
          exact pu_any rfl rfl (p_slW (N := 31) Tryd.underlying25 sz5 rfl) rfl
        ·
          intro w1 hc
          refine ⟨fun a F => rfl, ?_⟩
          exact pu_any rfl rfl (p_slW (N := 31) Tryd.underlying25 sz5 rfl) rfl
        ·
          intro w1 hc
          rintro _ ⟨A14, l14, c14, rfl, h14⟩
          rintro _ rfl
          rintro _ rfl
          refine ⟨fun a F => rfl, ?_⟩
          exact e_bslV (E := 22) rfl rfl (fun _ => by kernel_rfl) (fun w2 g hg hb hc2 hsz => ⟨hc2, _, rfl, _, _, rfl, (SB.lit3 hb (h14.no hc2) ((Sl.whole (L := x) (hb3.ch hc (fun h => h)) hx).no hc2) ((Sl.whole (L := y) (hb4.ch hc (fun h => h)) hy).no hc2)).all⟩)
        ·
          intro w1 hc
          rintro _ ⟨A17, c17, rfl, h17⟩
          refine ⟨fun a F => rfl, ?_⟩
          refine e_call ent26 rfl rfl (tbytes_any (t := 4) (h17) (by simp) (by first | omega | (simp only [List.flatten_cons, List.flatten_nil, List.length_append, List.length_nil, List.length_cons, hx, hy, hal]; omega))) ?_
          rintro _ w2 ⟨Az, cz, rfl, hW, hc2⟩
          exact ⟨_, rfl, hc2, _, rfl, _, _, _, rfl, hW.sl.all⟩
        ·
          intro w1 hc
          refine ⟨fun a F => rfl, ?_⟩
          refine e_call ent26 rfl rfl (tbytes_any (t := 5) (SB.nil (F := No)) (by simp) (by first | omega | (simp only [List.flatten_cons, List.flatten_nil, List.length_append, List.length_nil, List.length_cons, hx, hy, hal]; omega))) ?_
          rintro _ w2 ⟨Az, cz, rfl, hW, hc2⟩
          exact ⟨_, rfl, hc2, _, rfl, _, _, _, rfl, hW.sl.all⟩
        ·
          intro w1 hc
          refine ⟨fun a F => rfl, ?_⟩
          exact pu_any rfl rfl (p_mv rfl) rfl
        ·
          intro w1 hc
          rintro _ rfl
          refine ⟨fun a F => rfl, ?_⟩
          exact e_bslV (E := 22) rfl rfl (fun _ => by kernel_rfl) (fun w2 g hg hb hc2 hsz => ⟨hc2, _, rfl, _, _, rfl, (SB.lit1 hb (ha.no (hc.tr hc2))).all⟩)
        ·
          intro w1 hc
          rintro _ ⟨A21, c21, rfl, h21⟩
          refine ⟨fun a F => rfl, ?_⟩
          refine e_call ent26 rfl rfl (tbytes_any (t := 6) (h21) (by simp) (by first | omega | (simp only [List.flatten_cons, List.flatten_nil, List.length_append, List.length_nil, List.length_cons, hx, hy, hal]; omega))) ?_
          rintro _ w2 ⟨Az, cz, rfl, hW, hc2⟩
          exact ⟨_, rfl, hc2, _, rfl, _, _, _, rfl, hW.sl.all⟩
        ·
          intro w1 hc
          rintro _ ⟨A2, l2, c2, rfl, h2⟩
          rintro _ ⟨A6, l6, c6, rfl, h6⟩
          rintro _ ⟨A9, l9, c9, rfl, h9⟩
          rintro _ ⟨A13, l13, c13, rfl, h13⟩
          rintro _ ⟨A18, l18, c18, rfl, h18⟩
          rintro _ ⟨A19, l19, c19, rfl, h19⟩
          rintro _ ⟨A22, l22, c22, rfl, h22⟩
          refine ⟨fun a F => rfl, ?_⟩
          exact e_bslV (E := 22) rfl rfl (fun _ => by kernel_rfl) (fun w2 g hg hb hc2 hsz => ⟨hc2, _, rfl, _, _, rfl, (sb7 hb (h2.no hc2) (h6.no hc2) (h9.no hc2) (h13.no hc2) (h18.no hc2) (h19.no hc2) (h22.no hc2)).all⟩)
        ·
          intro w1 hc
          rintro _ ⟨A23, c23, rfl, h23⟩
          refine ⟨fun a F => rfl, ?_⟩
          exact pu_any rfl rfl (p_as rfl) ⟨_, _, rfl, h23⟩
      intro w8 hc
      rintro _ ⟨A9, c9, rfl, hQ9⟩
      have hzw8 := hc.size
      have HC := HC.tr hc
      have ha := ha.no hc
      have hb := hb.no hc
      have hrnd := hrnd.no hc
      have hb3 := hb3.ch hc (fun h => h)
      have hb4 := hb4.ch hc (fun h => h)
      have hb5 := hb5.ch hc (fun h => h)
      refine x_seq ?_
      refine wc_seq ?_
      refine wc_draw (.st 0 0 (.st 2 1 (.st 3 1 (.st 5 0 (.st 6 1 (.st 8 1 (.st 9 1 (.st 11 1 (.st 12 1 (.st 15 0 (.st 16 1 (.st 1 2 (.st 4 2 (.st 7 2 (.st 10 2 (.st 13 2 (.st 14 2 (.st 17 2 (.st 18 2 (.st 19 0 .nil)))))))))))))))))))) 20 (by kernel_rfl) (by kernel_rfl) (by kernel_rfl) (by repeat (first | with_reducible exact pan_body | with_reducible apply pan_then | with_reducible apply pan_in)) (fun x => Ch No w8.drew x) (Ch.refl _ _) ?_
      obtain ⟨w9, ew9⟩ : ∃ x, x = w8.drew := ⟨_, rfl⟩
      rw [← ew9]
      have hc : Ch No w8 w9 := by rw [ew9]; exact Ch.drew _
      have hszw9 : w9.heap.size = w8.heap.size := by rw [ew9]; rfl
      clear ew9
      have hzw9 := hc.size
      have HC := HC.tr hc
      have ha := ha.no hc
      have hb := hb.no hc
      have hrnd := hrnd.no hc
      have hb3 := hb3.ch hc (fun h => h)
      have hb4 := hb4.ch hc (fun h => h)
      have hb5 := hb5.ch hc (fun h => h)
      have hQ9 := hQ9.no hc
      have hS : Ch No w9 w9 := Ch.refl _ _
      refine ws_p rfl rfl rfl rfl (p_mv rfl) ?_
      refine ws_h rfl rfl rfl rfl (p_ldA (cs := List.map u8v x) Tryd.underlying25 rfl (szL sz25 (by rw [List.length_map]; exact hx)) rfl (fun _ h => (rngL (hb3.ch h (fun h => h))))) ?_
      refine ws_h rfl rfl rfl rfl (p_ldA (cs := List.map u8v y) Tryd.underlying25 rfl (szL sz25 (by rw [List.length_map]; exact hy)) rfl (fun _ h => (rngL (hb4.ch h (fun h => h))))) ?_
      refine ws_p rfl rfl rfl rfl (p_mv rfl) ?_
      refine ws_h rfl rfl rfl rfl (p_bts Tryd.underlying22 Tryd.underlying5 Tryd.underlying9 rfl (ha).len (fun _ h => (ha).rd.no h)) ?_
      refine ws_h rfl rfl rfl rfl (p_ldA (cs := List.map u8v x) Tryd.underlying25 rfl (szL sz25 (by rw [List.length_map]; exact hx)) rfl (fun _ h => (rngL (hb3.ch h (fun h => h))))) ?_
      refine ws_h rfl rfl rfl rfl (p_ldA (cs := List.map u8v y) Tryd.underlying25 rfl (szL sz25 (by rw [List.length_map]; exact hy)) rfl (fun _ h => (rngL (hb4.ch h (fun h => h))))) ?_
      refine ws_h rfl rfl rfl rfl (p_ldA (cs := List.map u8v x) Tryd.underlying25 rfl (szL sz25 (by rw [List.length_map]; exact hx)) rfl (fun _ h => (rngL (hb3.ch h (fun h => h))))) ?_
      refine ws_h rfl rfl rfl rfl (p_ldA (cs := List.map u8v y) Tryd.underlying25 rfl (szL sz25 (by rw [List.length_map]; exact hy)) rfl (fun _ h => (rngL (hb4.ch h (fun h => h))))) ?_
      refine ws_p rfl rfl rfl rfl (p_mv rfl) ?_
      refine ws_h rfl rfl rfl rfl (p_bts Tryd.underlying22 Tryd.underlying5 Tryd.underlying9 rfl (ha).len (fun _ h => (ha).rd.no h)) ?_
      refine ws_e rfl rfl (e_call ent36 rfl rfl (tleaf_any (ha) (by omega) hrnd) ?_)
      rintro _ w10 ⟨rfl, hc⟩
      refine ⟨_, rfl, hc, ?_⟩
      have hzw10 := hc.size
      have HC := HC.tr hc
      have ha := ha.no hc
      have hb := hb.no hc
      have hrnd := hrnd.no hc
      have hb3 := hb3.ch hc (fun h => h)
      have hb4 := hb4.ch hc (fun h => h)
      have hb5 := hb5.ch hc (fun h => h)
      have hQ9 := hQ9.no hc
      refine ws_narrow (S' := fun x => Ch No w10 x) (Ch.refl _ _) (fun x h => hc.tr h) ?_
      refine ws_e rfl rfl (e_call ent28 rfl rfl (tnode_any (hx) (hy) hrnd) ?_)
      rintro _ w11 ⟨rfl, hc⟩
      refine ⟨_, rfl, hc, ?_⟩
      have hzw11 := hc.size
      have HC := HC.tr hc
      have ha := ha.no hc
      have hb := hb.no hc
      have hrnd := hrnd.no hc
      have hb3 := hb3.ch hc (fun h => h)
      have hb4 := hb4.ch hc (fun h => h)
      have hb5 := hb5.ch hc (fun h => h)
      have hQ9 := hQ9.no hc
      refine ws_narrow (S' := fun x => Ch No w11 x) (Ch.refl _ _) (fun x h => hc.tr h) ?_
      refine ws_e rfl rfl (e_call ent37 rfl rfl (tkey_any (by first | omega | (simp only [str_size]; omega)) hrnd) ?_)
      rintro _ w12 ⟨rfl, hc⟩
      refine ⟨_, rfl, hc, ?_⟩
      have hzw12 := hc.size
      have HC := HC.tr hc
      have ha := ha.no hc
      have hb := hb.no hc
      have hrnd := hrnd.no hc
      have hb3 := hb3.ch hc (fun h => h)
      have hb4 := hb4.ch hc (fun h => h)
      have hb5 := hb5.ch hc (fun h => h)
      have hQ9 := hQ9.no hc
      refine ws_narrow (S' := fun x => Ch No w12 x) (Ch.refl _ _) (fun x h => hc.tr h) ?_
      refine ws_e rfl rfl (e_call ent38 rfl rfl (titem_any (hx) (hy) hrnd) ?_)
      rintro _ w13 ⟨rfl, hc⟩
      refine ⟨_, rfl, hc, ?_⟩
      have hzw13 := hc.size
      have HC := HC.tr hc
      have ha := ha.no hc
      have hb := hb.no hc
      have hrnd := hrnd.no hc
      have hb3 := hb3.ch hc (fun h => h)
      have hb4 := hb4.ch hc (fun h => h)
      have hb5 := hb5.ch hc (fun h => h)
      have hQ9 := hQ9.no hc
      refine ws_narrow (S' := fun x => Ch No w13 x) (Ch.refl _ _) (fun x h => hc.tr h) ?_
      refine ws_e rfl rfl (e_call ent29 rfl rfl (tfork_any (x := 7) (hx) (hy) hrnd) ?_)
      rintro _ w14 ⟨rfl, hc⟩
      refine ⟨_, rfl, hc, ?_⟩
      have hzw14 := hc.size
      have HC := HC.tr hc
      have ha := ha.no hc
      have hb := hb.no hc
      have hrnd := hrnd.no hc
      have hb3 := hb3.ch hc (fun h => h)
      have hb4 := hb4.ch hc (fun h => h)
      have hb5 := hb5.ch hc (fun h => h)
      have hQ9 := hQ9.no hc
      refine ws_narrow (S' := fun x => Ch No w14 x) (Ch.refl _ _) (fun x h => hc.tr h) ?_
      refine ws_e rfl rfl (e_call ent30 rfl rfl (tnone_any  hrnd) ?_)
      rintro _ w15 ⟨rfl, hc⟩
      refine ⟨_, rfl, hc, ?_⟩
      have hzw15 := hc.size
      have HC := HC.tr hc
      have ha := ha.no hc
      have hb := hb.no hc
      have hrnd := hrnd.no hc
      have hb3 := hb3.ch hc (fun h => h)
      have hb4 := hb4.ch hc (fun h => h)
      have hb5 := hb5.ch hc (fun h => h)
      have hQ9 := hQ9.no hc
      refine ws_narrow (S' := fun x => Ch No w15 x) (Ch.refl _ _) (fun x h => hc.tr h) ?_
      refine ws_e rfl rfl (e_call ent39 rfl rfl (tval_any (by first | omega | (simp only [str_size]; omega)) hrnd) ?_)
      rintro _ w16 ⟨rfl, hc⟩
      refine ⟨_, rfl, hc, ?_⟩
      have hzw16 := hc.size
      have HC := HC.tr hc
      have ha := ha.no hc
      have hb := hb.no hc
      have hrnd := hrnd.no hc
      have hb3 := hb3.ch hc (fun h => h)
      have hb4 := hb4.ch hc (fun h => h)
      have hb5 := hb5.ch hc (fun h => h)
      have hQ9 := hQ9.no hc
      refine ws_narrow (S' := fun x => Ch No w16 x) (Ch.refl _ _) (fun x h => hc.tr h) ?_
      have hltg3 := hb3.lt
      have hltg4 := hb4.lt
      have hltg5 := hb5.lt
      refine ws_e rfl rfl (e_bslC (E := 25) rfl rfl (fun w => run_bslH (sz := 32) Tryd.underlying51 sz25 (by kernel_rfl) (by decide) (hv_sizes (tagHs_len a x y)) (show 0 < 7 by decide) (show 7 * 32 ≤ 2 ^ 24 by decide) w) (fun w17 g68 hg68 hb68 hc hsz68 => ⟨hc, ?_⟩))
      have hzw17 := hc.size
      have HC := HC.tr hc
      have ha := ha.no hc
      have hb := hb.no hc
      have hrnd := hrnd.no hc
      have hb3 := hb3.ch hc (fun h => h)
      have hb4 := hb4.ch hc (fun h => h)
      have hb5 := hb5.ch hc (fun h => h)
      have hQ9 := hQ9.no hc
      have hge68 : w.heap.size ≤ g68 := by have := HC.size; omega
      have hH : Blk w17 g68 25 ((tagHs a x y).flatten.map u8v).toArray := by rw [← blk_hashes]; exact hb68
      refine ws_narrow (S' := fun x => Ch No w17 x) (Ch.refl _ _) (fun x h => hc.tr h) ?_
      refine ws_p rfl rfl rfl rfl (p_as rfl) ?_
      refine ws_n ?_
      refine x_seq ?_
      refine wc_seq ?_
      refine wc_seq ?_
      refine wc_region ?_
      refine wl rfl rfl rfl (p_mv rfl) ?_
      refine wl rfl rfl rfl (p_lenS Tryd.underlying34 rfl) ?_
      refine wl rfl rfl rfl (p_mv rfl) ?_
      refine wl_nil ?_
      refine x_seq ?_
      refine wc_block ?_
      refine wc_loop (e' := [(6, .bool false), (7, .slice Aa la ca), (8, .slice Ab lb cb), (9, .slice A9 7 c9), (10, .slice (some ⟨g68, 0, none⟩) 7 7), (70, i64 ((7 : Nat) : Int)), (71, i64 ((0) : Int))]) (fun mz ez uz => ∃ i : Nat, mz = 7 - i ∧ ez = [(6, .bool false), (7, .slice Aa la ca), (8, .slice Ab lb cb), (9, .slice A9 7 c9), (10, .slice (some ⟨g68, 0, none⟩) 7 7), (70, i64 ((7 : Nat) : Int)), (71, i64 (i : Int))] ∧ (i ≤ 7) ∧ (Sl uz (fun k => k < w.heap.size) u8v Aa la ca a) ∧ (Sl uz (fun k => k < w.heap.size) u8v Ab lb cb b) ∧ (Sl uz (fun k => k = 1) u32v (some ⟨1, 0, none⟩) 64 64 rk) ∧ (Blk uz g68 25 ((tagHs a x y).flatten.map u8v).toArray) ∧ (SB uz (fun _ => True) A9 7 c9 (tagIn a x y)) ∧ (Ch No w uz))
        ⟨rfl, rfl, rfl, rfl, rfl, rfl, rfl, trivial⟩ ⟨0, rfl, rfl, by omega, ha, hb, hrnd, hH, hQ9, HC⟩ ?_
      rintro m0 e w18 ⟨i, hm0, rfl, hi, ha, hb, hrnd, hH, hQ9, HC⟩
      have hzw18 := HC.size
      refine wc_seq ?_
      refine wc_region ?_
      refine wl rfl rfl rfl (p_lt rfl rfl) ?_
      refine wl_nil ?_
      refine x_seq ?_
      refine wc_seq ?_
      refine wc_if rfl (fun c1 => ?_) (fun c1 => ?_)
      ·
        have c1 := of_decide_eq_true c1
        have hi7 : i < 7 := by omega
        refine wc_skip ?_
        refine x_seq ?_
        refine wc_seq ?_
        refine wc_block ?_
        refine wc_seq ?_
        refine wc_region ?_
        refine wl rfl rfl rfl (p_mv rfl) ?_
        refine wl rfl rfl rfl (p_as rfl) ?_
        refine wl_nil ?_
        refine x_seq ?_
        refine wc_seq ?_
        refine wc_seq ?_
        refine wc_draw (.st 0 0 (.st 1 0 (.st 2 0 (.st 3 1 (.st 4 0 (.st 5 0 (.st 6 0 (.st 7 1 (.st 8 2 (.st 9 0 .nil)))))))))) 10 (by kernel_rfl) (by kernel_rfl) (by kernel_rfl) (by repeat (first | with_reducible exact pan_body | with_reducible apply pan_then | with_reducible apply pan_in)) (fun x => Ch No w18.drew x) (Ch.refl _ _) ?_
        obtain ⟨w19, ew19⟩ : ∃ x, x = w18.drew := ⟨_, rfl⟩
        rw [← ew19]
        have hc : Ch No w18 w19 := by rw [ew19]; exact Ch.drew _
        have hszw19 : w19.heap.size = w18.heap.size := by rw [ew19]; rfl
        clear ew19
        have hzw19 := hc.size
        have HC := HC.tr hc
        have ha := ha.no hc
        have hb := hb.no hc
        have hrnd := hrnd.no hc
        have hH := hH.ch hc (fun h => h)
        have hQ9 := hQ9.no hc
        have hS : Ch No w19 w19 := Ch.refl _ _
        refine ws_p rfl rfl rfl rfl (p_mv rfl) ?_
        refine ws_p rfl rfl rfl rfl (p_mv rfl) ?_
        refine ws_p rfl rfl rfl rfl (p_ixS (j := i * 32) Tryd.underlying51 sz25 rfl rfl rfl (by omega) (by omega) (congrArg (· * 32) (Int.toNat_natCast _))) ?_
        refine ws_h rfl rfl rfl rfl (p_ldA (cs := List.map u8v ((tagHs a x y).getD i [])) Tryd.underlying25 rfl (szL sz25 (by rw [List.length_map]; exact tagHs_len a x y _ (getD_memL (by exact hi7)))) rfl (fun _ h => fun j v hv => h.cell (fun h => h) (rng_hash hH (tagHs_len a x y) (by exact hi7) j v hv))) ?_
        refine ws_p rfl rfl rfl rfl (p_mv rfl) ?_
        refine ws_p rfl rfl rfl rfl (p_mv rfl) ?_
        obtain ⟨b20, o20, hA20, hF20, hc20⟩ := hQ9.opn (by omega)
        obtain ⟨SA80, sl80, sc80, hcc20, hS80⟩ := hc20 i (by omega)
        have hSl80 := hS80.len
        refine ws_p rfl rfl rfl rfl (p_ixS1 (j := i) Tryd.underlying34 sz22 rfl hA20 rfl (by omega) (by omega) (Int.toNat_natCast _)) ?_
        refine ws_h rfl rfl rfl rfl (p_ld Tryd.underlying22 rfl rfl (fun _ h => h.cell (fun h => h) (hcc20))) ?_
        have hil := tagIn_len a x y hx hy (by omega) hi7
        refine ws_e rfl rfl (e_call ent20 rfl rfl (rsum_any (hS80) (by first | omega | (simp only [List.flatten_cons, List.flatten_nil, List.length_append, List.length_nil, List.length_cons]; omega))) ?_)
        rintro _ w21 ⟨rfl, hc⟩
        refine ⟨_, rfl, hc, ?_⟩
        have hzw21 := hc.size
        have HC := HC.tr hc
        have ha := ha.no hc
        have hb := hb.no hc
        have hrnd := hrnd.no hc
        have hH := hH.ch hc (fun h => h)
        have hQ9 := hQ9.no hc
        have hS80 := hS80.no hc
        refine ws_narrow (S' := fun x => Ch No w21 x) (Ch.refl _ _) (fun x h => hc.tr h) ?_
        refine ws_p rfl rfl rfl rfl (p_neH (a := ((tagHs a x y).getD i [])) (b := (shaF _)) (by kernel_rfl) Tryd.underlying25 Tryd.underlying5 sz5 rfl rfl ((tagHs_len a x y _ (getD_memL (by exact hi7)))) (shaF_len _)) ?_
        refine ws_n ?_
        refine x_seq ?_
        refine wc_no rfl (by rw [tagHs_at a x y hi7]; simp) ?_
        refine wc_skip ?_
        refine x_seq ?_
        refine wc_seq ?_
        refine wc_region ?_
        refine wl rfl rfl rfl (p_mv rfl) ?_
        refine wl rfl rfl rfl (p_mv rfl) ?_
        refine wl rfl rfl rfl (p_slS (l := 0) (h := i) Tryd.underlying34 sz22 rfl rfl ⟨_, rfl⟩ (by omega) (by have := hQ9.cap; omega) (by have := hQ9.cap; omega) (q := i) (by omega)) ?_
        refine wl rfl rfl rfl (p_lenS Tryd.underlying34 rfl) ?_
        refine wl rfl rfl rfl (p_mv rfl) ?_
        refine wl_nil ?_
        refine x_seq ?_
        refine wc_block ?_
        refine wc_loop (e' := [(6, .bool false), (7, .slice Aa la ca), (8, .slice Ab lb cb), (9, .slice A9 7 c9), (10, .slice (some ⟨g68, 0, none⟩) 7 7), (11, i64 (i : Int)), (70, i64 ((7 : Nat) : Int)), (71, i64 (i : Int)), (87, i64 (i : Int)), (88, i64 ((0) : Int))]) (fun mz ez uz => ∃ k : Nat, mz = i - k ∧ ez = [(6, .bool false), (7, .slice Aa la ca), (8, .slice Ab lb cb), (9, .slice A9 7 c9), (10, .slice (some ⟨g68, 0, none⟩) 7 7), (11, i64 (i : Int)), (70, i64 ((7 : Nat) : Int)), (71, i64 (i : Int)), (87, i64 (i : Int)), (88, i64 (k : Int))] ∧ (k ≤ i) ∧ (Sl uz (fun k => k < w.heap.size) u8v Aa la ca a) ∧ (Sl uz (fun k => k < w.heap.size) u8v Ab lb cb b) ∧ (Sl uz (fun k => k = 1) u32v (some ⟨1, 0, none⟩) 64 64 rk) ∧ (Blk uz g68 25 ((tagHs a x y).flatten.map u8v).toArray) ∧ (SB uz (fun _ => True) A9 7 c9 (tagIn a x y)) ∧ (Ch No w uz))
          ⟨rfl, rfl, rfl, rfl, rfl, rfl, rfl, rfl, rfl, rfl, trivial⟩ ⟨0, rfl, rfl, by omega, ha, hb, hrnd, hH, hQ9, HC⟩ ?_
        rintro m1 e w22 ⟨k, hm1, rfl, hk, ha, hb, hrnd, hH, hQ9, HC⟩
        have hzw22 := HC.size
        refine wc_seq ?_
        refine wc_region ?_
        refine wl rfl rfl rfl (p_lt rfl rfl) ?_
        refine wl_nil ?_
        refine x_seq ?_
        refine wc_seq ?_
        refine wc_if rfl (fun c3 => ?_) (fun c3 => ?_)
        ·
          have c3 := of_decide_eq_true c3
          refine wc_skip ?_
          refine x_seq ?_
          refine wc_seq ?_
          refine wc_block ?_
          refine wc_seq ?_
          refine wc_region ?_
          refine wl rfl rfl rfl (p_mv rfl) ?_
          refine wl rfl rfl rfl (p_as rfl) ?_
          refine wl_nil ?_
          refine x_seq ?_
          refine wc_seq ?_
          refine wc_draw (.st 0 0 (.st 1 0 (.st 2 0 (.st 3 1 (.st 4 1 (.st 5 0 (.st 6 0 (.st 7 0 (.st 8 1 (.st 9 1 (.st 10 0 .nil))))))))))) 11 (by kernel_rfl) (by kernel_rfl) (by kernel_rfl) (by repeat (first | with_reducible exact pan_body | with_reducible apply pan_then | with_reducible apply pan_in)) (fun x => Ch No w22.drew x) (Ch.refl _ _) ?_
          obtain ⟨w23, ew23⟩ : ∃ x, x = w22.drew := ⟨_, rfl⟩
          rw [← ew23]
          have hc : Ch No w22 w23 := by rw [ew23]; exact Ch.drew _
          have hszw23 : w23.heap.size = w22.heap.size := by rw [ew23]; rfl
          clear ew23
          have hzw23 := hc.size
          have HC := HC.tr hc
          have ha := ha.no hc
          have hb := hb.no hc
          have hrnd := hrnd.no hc
          have hH := hH.ch hc (fun h => h)
          have hQ9 := hQ9.no hc
          have hS : Ch No w23 w23 := Ch.refl _ _
          refine ws_p rfl rfl rfl rfl (p_mv rfl) ?_
          refine ws_p rfl rfl rfl rfl (p_mv rfl) ?_
          obtain ⟨b24, o24, hA24, hF24, hc24⟩ := hQ9.opn (by omega)
          obtain ⟨SA93, sl93, sc93, hcc24, hS93⟩ := hc24 i (by omega)
          have hSl93 := hS93.len
          refine ws_p rfl rfl rfl rfl (p_ixS1 (j := i) Tryd.underlying34 sz22 rfl hA24 rfl (by omega) (by omega) (Int.toNat_natCast _)) ?_
          refine ws_h rfl rfl rfl rfl (p_ld Tryd.underlying22 rfl rfl (fun _ h => h.cell (fun h => h) (hcc24))) ?_
          refine ws_h rfl rfl rfl rfl (p_bts Tryd.underlying22 Tryd.underlying5 Tryd.underlying9 rfl (hS93).len (fun _ h => (hS93).rd.no h)) ?_
          refine ws_p rfl rfl rfl rfl (p_mv rfl) ?_
          refine ws_p rfl rfl rfl rfl (p_mv rfl) ?_
          obtain ⟨b25, o25, hA25, hF25, hc25⟩ := hQ9.opn (by omega)
          obtain ⟨SA98, sl98, sc98, hcc25, hS98⟩ := hc25 k (by omega)
          have hSl98 := hS98.len
          refine ws_p rfl rfl rfl rfl (p_ixS1 (j := k) Tryd.underlying34 sz22 rfl hA25 rfl (by omega) (by omega) (Int.toNat_natCast _)) ?_
          refine ws_h rfl rfl rfl rfl (p_ld Tryd.underlying22 rfl rfl (fun _ h => h.cell (fun h => h) (hcc25))) ?_
          refine ws_h rfl rfl rfl rfl (p_bts Tryd.underlying22 Tryd.underlying5 Tryd.underlying9 rfl (hS98).len (fun _ h => (hS98).rd.no h)) ?_
          refine ws_p rfl rfl rfl rfl (p_eqT rfl rfl) ?_
          refine ws_n ?_
          refine x_seq ?_
          refine wc_no rfl (tagIn_ne a x y hi7 (by omega)) ?_
          refine wc_skip ?_
          refine x_in_normal ?_
          refine x_seq ?_
          refine wc_region ?_
          refine wl rfl rfl rfl (p_add rfl rfl (w64 (by omega))) ?_
          refine wl rfl rfl rfl (p_mv rfl) ?_
          refine wl_nil ?_
          refine x_round (e' := [(6, .bool false), (7, .slice Aa la ca), (8, .slice Ab lb cb), (9, .slice A9 7 c9), (10, .slice (some ⟨g68, 0, none⟩) 7 7), (11, i64 (i : Int)), (70, i64 ((7 : Nat) : Int)), (71, i64 (i : Int)), (87, i64 (i : Int)), (88, i64 ((k + 1) : Int))]) ⟨rfl, rfl, rfl, rfl, rfl, rfl, rfl, rfl, rfl, rfl, trivial⟩ (by rw [hm1]; omega) ⟨k + 1, rfl, rfl, by omega, ha, hb, hrnd, hH, hQ9, HC⟩
        ·
          have c3 := of_decide_eq_false c3
          refine wc_exit ?_
          refine x_then_exit ?_
          refine x_then_exit ?_
          refine x_in_here ?_
          refine x_in_normal ?_
          refine x_seq ?_
          refine wc_region ?_
          refine wl rfl rfl rfl (p_add rfl rfl (w64 (by omega))) ?_
          refine wl rfl rfl rfl (p_mv rfl) ?_
          refine wl_nil ?_
          refine x_round (e' := [(6, .bool false), (7, .slice Aa la ca), (8, .slice Ab lb cb), (9, .slice A9 7 c9), (10, .slice (some ⟨g68, 0, none⟩) 7 7), (70, i64 ((7 : Nat) : Int)), (71, i64 ((i + 1) : Int))]) ⟨rfl, rfl, rfl, rfl, rfl, rfl, rfl, trivial⟩ (by rw [hm0]; omega) ⟨i + 1, rfl, rfl, by omega, ha, hb, hrnd, hH, hQ9, HC⟩
      ·
        have c1 := of_decide_eq_false c1
        refine wc_exit ?_
        refine x_then_exit ?_
        refine x_then_exit ?_
        refine x_in_here ?_
        refine x_seq ?_
        refine wc_seq ?_
        refine wc_draw (.st 0 0 (.st 4 0 (.st 9 0 (.st 10 1 (.st 11 0 (.st 12 1 (.st 13 0 (.alt (.st 1 2 (.alt (.st 2 2 (.st 3 1 (.st 5 2 (.st 6 2 (.st 7 1 (.st 8 0 (.st 14 0 (.st 15 0 (.st 16 2 (.st 17 0 (.st 18 0 .nil))))))))))) (.st 5 2 (.st 2 2 (.st 3 1 (.st 6 2 (.st 7 1 (.st 8 0 (.st 14 0 (.st 15 0 (.st 16 2 (.st 17 0 (.st 18 0 .nil))))))))))))) (.st 5 2 (.st 1 2 (.st 2 2 (.st 3 1 (.st 6 2 (.st 7 1 (.st 8 0 (.st 14 0 (.st 15 0 (.st 16 2 (.st 17 0 (.st 18 0 .nil)))))))))))))))))))) 19 (by kernel_rfl) (by kernel_rfl) (by kernel_rfl) (by repeat (first | with_reducible exact pan_body | with_reducible apply pan_then | with_reducible apply pan_in)) (fun x => Ch No w18.drew x) (Ch.refl _ _) ?_
        obtain ⟨w26, ew26⟩ : ∃ x, x = w18.drew := ⟨_, rfl⟩
        rw [← ew26]
        have hc : Ch No w18 w26 := by rw [ew26]; exact Ch.drew _
        have hszw26 : w26.heap.size = w18.heap.size := by rw [ew26]; rfl
        clear ew26
        have hzw26 := hc.size
        have HC := HC.tr hc
        have ha := ha.no hc
        have hb := hb.no hc
        have hrnd := hrnd.no hc
        have hH := hH.ch hc (fun h => h)
        have hQ9 := hQ9.no hc
        have hS : Ch No w26 w26 := Ch.refl _ _
        refine ws_p rfl rfl rfl rfl (p_mv rfl) ?_
        refine ws_p rfl rfl rfl rfl (p_mv rfl) ?_
        refine ws_p rfl rfl rfl rfl (p_mv rfl) ?_
        refine ws_h rfl rfl rfl rfl (p_bts Tryd.underlying22 Tryd.underlying5 Tryd.underlying9 rfl (ha).len (fun _ h => (ha).rd.no h)) ?_
        refine ws_p rfl rfl rfl rfl (p_mv rfl) ?_
        refine ws_h rfl rfl rfl rfl (p_bts Tryd.underlying22 Tryd.underlying5 Tryd.underlying9 rfl (hb).len (fun _ h => (hb).rd.no h)) ?_
        refine ws_p rfl rfl rfl rfl (p_eqT rfl rfl) ?_
        refine ws_alt ?_ ?_
        ·
          have hltg68 := hH.lt
          refine ws_e rfl rfl (e_bslV (E := 22) rfl rfl (fun _ => by kernel_rfl) (fun w27 g105 hg105 hb105 hc hsz105 => ⟨hc, ?_⟩))
          have hzw27 := hc.size
          have HC := HC.tr hc
          have ha := ha.no hc
          have hb := hb.no hc
          have hrnd := hrnd.no hc
          have hH := hH.ch hc (fun h => h)
          have hQ9 := hQ9.no hc
          have hge105 : w.heap.size ≤ g105 := by have := HC.size; omega
          have hQ105 := SB.lit1 hb105 (ha)
          refine ws_narrow (S' := fun x => Ch No w27 x) (Ch.refl _ _) (fun x h => hc.tr h) ?_
          refine ws_alt ?_ ?_
          ·
            refine ws_e rfl rfl (e_call ent26 rfl rfl (tbytes_any (t := 0) (hQ105) (by omega) (by first | omega | (simp only [List.flatten_cons, List.flatten_nil, List.length_append, List.length_nil, List.length_cons]; omega))) ?_)
            rintro _ w28 ⟨A106, c106, rfl, hW106, hc⟩
            refine ⟨_, rfl, hc, ?_⟩
            have hzw28 := hc.size
            have HC := HC.tr hc
            have ha := ha.no hc
            have hb := hb.no hc
            have hrnd := hrnd.no hc
            have hH := hH.ch hc (fun h => h)
            have hQ9 := hQ9.no hc
            have hQ105 := hQ105.no hc
            refine ws_narrow (S' := fun x => Ch No w28 x) (Ch.refl _ _) (fun x h => hc.tr h) ?_
            refine ws_h rfl rfl rfl rfl (p_bts Tryd.underlying22 Tryd.underlying5 Tryd.underlying9 rfl (hW106.sl).len (fun _ h => (hW106.sl).rd.no h)) ?_
            have hltg68 := hH.lt
            refine ws_e rfl rfl (e_bslV (E := 22) rfl rfl (fun _ => by kernel_rfl) (fun w29 g109 hg109 hb109 hc hsz109 => ⟨hc, ?_⟩))
            have hzw29 := hc.size
            have HC := HC.tr hc
            have ha := ha.no hc
            have hb := hb.no hc
            have hrnd := hrnd.no hc
            have hH := hH.ch hc (fun h => h)
            have hQ9 := hQ9.no hc
            have hQ105 := hQ105.no hc
            have hW106 := hW106.after hc
            have hge109 : w.heap.size ≤ g109 := by have := HC.size; omega
            have hQ109 := SB.lit1 hb109 (hb)
            refine ws_narrow (S' := fun x => Ch No w29 x) (Ch.refl _ _) (fun x h => hc.tr h) ?_
            refine ws_e rfl rfl (e_call ent26 rfl rfl (tbytes_any (t := 0) (hQ109) (by omega) (by first | omega | (simp only [List.flatten_cons, List.flatten_nil, List.length_append, List.length_nil, List.length_cons]; omega))) ?_)
            rintro _ w30 ⟨A110, c110, rfl, hW110, hc⟩
            refine ⟨_, rfl, hc, ?_⟩
            have hzw30 := hc.size
            have HC := HC.tr hc
            have ha := ha.no hc
            have hb := hb.no hc
            have hrnd := hrnd.no hc
            have hH := hH.ch hc (fun h => h)
            have hQ9 := hQ9.no hc
            have hQ105 := hQ105.no hc
            have hW106 := hW106.after hc
            have hQ109 := hQ109.no hc
            refine ws_narrow (S' := fun x => Ch No w30 x) (Ch.refl _ _) (fun x h => hc.tr h) ?_
            refine ws_h rfl rfl rfl rfl (p_bts Tryd.underlying22 Tryd.underlying5 Tryd.underlying9 rfl (hW110.sl).len (fun _ h => (hW110.sl).rd.no h)) ?_
            refine ws_p rfl rfl rfl rfl (p_eqT rfl rfl) ?_
            refine ws_p rfl rfl rfl rfl (p_eqB rfl rfl Tryd.underlying4) ?_
            refine ws_p rfl rfl rfl rfl (p_mv rfl) ?_
            refine ws_know (d := 119) (b' := true) rfl (apart_end) ?_
            refine ws_eg rfl (gd_ rfl rfl rfl rfl rfl rfl) (e_call ent25 rfl rfl (lives4_any hrnd) ?_)
            rintro _ w31 ⟨rfl, hc⟩
            refine ⟨_, rfl, hc, ?_⟩
            have hzw31 := hc.size
            have HC := HC.tr hc
            have ha := ha.no hc
            have hb := hb.no hc
            have hrnd := hrnd.no hc
            have hH := hH.ch hc (fun h => h)
            have hQ9 := hQ9.no hc
            have hQ105 := hQ105.no hc
            have hW106 := hW106.after hc
            have hQ109 := hQ109.no hc
            have hW110 := hW110.after hc
            refine ws_narrow (S' := fun x => Ch No w31 x) (Ch.refl _ _) (fun x h => hc.tr h) ?_
            refine ws_p rfl rfl rfl rfl (p_pickT rfl rfl) ?_
            refine ws_p rfl rfl rfl rfl (p_as rfl) ?_
            refine ws_n ?_
            refine x_seq ?_
            refine wc_ret ?_
            refine fin_run (res1 rfl rfl) ?_
            exact ⟨rfl, HC⟩
          ·
            have hltg68 := hH.lt
            refine ws_e rfl rfl (e_bslV (E := 22) rfl rfl (fun _ => by kernel_rfl) (fun w32 g109 hg109 hb109 hc hsz109 => ⟨hc, ?_⟩))
            have hzw32 := hc.size
            have HC := HC.tr hc
            have ha := ha.no hc
            have hb := hb.no hc
            have hrnd := hrnd.no hc
            have hH := hH.ch hc (fun h => h)
            have hQ9 := hQ9.no hc
            have hQ105 := hQ105.no hc
            have hge109 : w.heap.size ≤ g109 := by have := HC.size; omega
            have hQ109 := SB.lit1 hb109 (hb)
            refine ws_narrow (S' := fun x => Ch No w32 x) (Ch.refl _ _) (fun x h => hc.tr h) ?_
            refine ws_e rfl rfl (e_call ent26 rfl rfl (tbytes_any (t := 0) (hQ105) (by omega) (by first | omega | (simp only [List.flatten_cons, List.flatten_nil, List.length_append, List.length_nil, List.length_cons]; omega))) ?_)
            rintro _ w33 ⟨A106, c106, rfl, hW106, hc⟩
            refine ⟨_, rfl, hc, ?_⟩
            have hzw33 := hc.size
            have HC := HC.tr hc
            have ha := ha.no hc
            have hb := hb.no hc
            have hrnd := hrnd.no hc
            have hH := hH.ch hc (fun h => h)
            have hQ9 := hQ9.no hc
            have hQ105 := hQ105.no hc
            have hQ109 := hQ109.no hc
            refine ws_narrow (S' := fun x => Ch No w33 x) (Ch.refl _ _) (fun x h => hc.tr h) ?_
            refine ws_h rfl rfl rfl rfl (p_bts Tryd.underlying22 Tryd.underlying5 Tryd.underlying9 rfl (hW106.sl).len (fun _ h => (hW106.sl).rd.no h)) ?_
            refine ws_e rfl rfl (e_call ent26 rfl rfl (tbytes_any (t := 0) (hQ109) (by omega) (by first | omega | (simp only [List.flatten_cons, List.flatten_nil, List.length_append, List.length_nil, List.length_cons]; omega))) ?_)
            rintro _ w34 ⟨A110, c110, rfl, hW110, hc⟩
            refine ⟨_, rfl, hc, ?_⟩
            have hzw34 := hc.size
            have HC := HC.tr hc
            have ha := ha.no hc
            have hb := hb.no hc
            have hrnd := hrnd.no hc
            have hH := hH.ch hc (fun h => h)
            have hQ9 := hQ9.no hc
            have hQ105 := hQ105.no hc
            have hQ109 := hQ109.no hc
            have hW106 := hW106.after hc
            refine ws_narrow (S' := fun x => Ch No w34 x) (Ch.refl _ _) (fun x h => hc.tr h) ?_
            refine ws_h rfl rfl rfl rfl (p_bts Tryd.underlying22 Tryd.underlying5 Tryd.underlying9 rfl (hW110.sl).len (fun _ h => (hW110.sl).rd.no h)) ?_
            refine ws_p rfl rfl rfl rfl (p_eqT rfl rfl) ?_
            refine ws_p rfl rfl rfl rfl (p_eqB rfl rfl Tryd.underlying4) ?_
            refine ws_p rfl rfl rfl rfl (p_mv rfl) ?_
            refine ws_know (d := 119) (b' := true) rfl (apart_end) ?_
            refine ws_eg rfl (gd_ rfl rfl rfl rfl rfl rfl) (e_call ent25 rfl rfl (lives4_any hrnd) ?_)
            rintro _ w35 ⟨rfl, hc⟩
            refine ⟨_, rfl, hc, ?_⟩
            have hzw35 := hc.size
            have HC := HC.tr hc
            have ha := ha.no hc
            have hb := hb.no hc
            have hrnd := hrnd.no hc
            have hH := hH.ch hc (fun h => h)
            have hQ9 := hQ9.no hc
            have hQ105 := hQ105.no hc
            have hQ109 := hQ109.no hc
            have hW106 := hW106.after hc
            have hW110 := hW110.after hc
            refine ws_narrow (S' := fun x => Ch No w35 x) (Ch.refl _ _) (fun x h => hc.tr h) ?_
            refine ws_p rfl rfl rfl rfl (p_pickT rfl rfl) ?_
            refine ws_p rfl rfl rfl rfl (p_as rfl) ?_
            refine ws_n ?_
            refine x_seq ?_
            refine wc_ret ?_
            refine fin_run (res1 rfl rfl) ?_
            exact ⟨rfl, HC⟩
        ·
          have hltg68 := hH.lt
          refine ws_e rfl rfl (e_bslV (E := 22) rfl rfl (fun _ => by kernel_rfl) (fun w36 g109 hg109 hb109 hc hsz109 => ⟨hc, ?_⟩))
          have hzw36 := hc.size
          have HC := HC.tr hc
          have ha := ha.no hc
          have hb := hb.no hc
          have hrnd := hrnd.no hc
          have hH := hH.ch hc (fun h => h)
          have hQ9 := hQ9.no hc
          have hge109 : w.heap.size ≤ g109 := by have := HC.size; omega
          have hQ109 := SB.lit1 hb109 (hb)
          refine ws_narrow (S' := fun x => Ch No w36 x) (Ch.refl _ _) (fun x h => hc.tr h) ?_
          have hltg68 := hH.lt
          refine ws_e rfl rfl (e_bslV (E := 22) rfl rfl (fun _ => by kernel_rfl) (fun w37 g105 hg105 hb105 hc hsz105 => ⟨hc, ?_⟩))
          have hzw37 := hc.size
          have HC := HC.tr hc
          have ha := ha.no hc
          have hb := hb.no hc
          have hrnd := hrnd.no hc
          have hH := hH.ch hc (fun h => h)
          have hQ9 := hQ9.no hc
          have hQ109 := hQ109.no hc
          have hge105 : w.heap.size ≤ g105 := by have := HC.size; omega
          have hQ105 := SB.lit1 hb105 (ha)
          refine ws_narrow (S' := fun x => Ch No w37 x) (Ch.refl _ _) (fun x h => hc.tr h) ?_
          refine ws_e rfl rfl (e_call ent26 rfl rfl (tbytes_any (t := 0) (hQ105) (by omega) (by first | omega | (simp only [List.flatten_cons, List.flatten_nil, List.length_append, List.length_nil, List.length_cons]; omega))) ?_)
          rintro _ w38 ⟨A106, c106, rfl, hW106, hc⟩
          refine ⟨_, rfl, hc, ?_⟩
          have hzw38 := hc.size
          have HC := HC.tr hc
          have ha := ha.no hc
          have hb := hb.no hc
          have hrnd := hrnd.no hc
          have hH := hH.ch hc (fun h => h)
          have hQ9 := hQ9.no hc
          have hQ109 := hQ109.no hc
          have hQ105 := hQ105.no hc
          refine ws_narrow (S' := fun x => Ch No w38 x) (Ch.refl _ _) (fun x h => hc.tr h) ?_
          refine ws_h rfl rfl rfl rfl (p_bts Tryd.underlying22 Tryd.underlying5 Tryd.underlying9 rfl (hW106.sl).len (fun _ h => (hW106.sl).rd.no h)) ?_
          refine ws_e rfl rfl (e_call ent26 rfl rfl (tbytes_any (t := 0) (hQ109) (by omega) (by first | omega | (simp only [List.flatten_cons, List.flatten_nil, List.length_append, List.length_nil, List.length_cons]; omega))) ?_)
          rintro _ w39 ⟨A110, c110, rfl, hW110, hc⟩
          refine ⟨_, rfl, hc, ?_⟩
          have hzw39 := hc.size
          have HC := HC.tr hc
          have ha := ha.no hc
          have hb := hb.no hc
          have hrnd := hrnd.no hc
          have hH := hH.ch hc (fun h => h)
          have hQ9 := hQ9.no hc
          have hQ109 := hQ109.no hc
          have hQ105 := hQ105.no hc
          have hW106 := hW106.after hc
          refine ws_narrow (S' := fun x => Ch No w39 x) (Ch.refl _ _) (fun x h => hc.tr h) ?_
          refine ws_h rfl rfl rfl rfl (p_bts Tryd.underlying22 Tryd.underlying5 Tryd.underlying9 rfl (hW110.sl).len (fun _ h => (hW110.sl).rd.no h)) ?_
          refine ws_p rfl rfl rfl rfl (p_eqT rfl rfl) ?_
          refine ws_p rfl rfl rfl rfl (p_eqB rfl rfl Tryd.underlying4) ?_
          refine ws_p rfl rfl rfl rfl (p_mv rfl) ?_
          refine ws_know (d := 119) (b' := true) rfl (apart_end) ?_
          refine ws_eg rfl (gd_ rfl rfl rfl rfl rfl rfl) (e_call ent25 rfl rfl (lives4_any hrnd) ?_)
          rintro _ w40 ⟨rfl, hc⟩
          refine ⟨_, rfl, hc, ?_⟩
          have hzw40 := hc.size
          have HC := HC.tr hc
          have ha := ha.no hc
          have hb := hb.no hc
          have hrnd := hrnd.no hc
          have hH := hH.ch hc (fun h => h)
          have hQ9 := hQ9.no hc
          have hQ109 := hQ109.no hc
          have hQ105 := hQ105.no hc
          have hW106 := hW106.after hc
          have hW110 := hW110.after hc
          refine ws_narrow (S' := fun x => Ch No w40 x) (Ch.refl _ _) (fun x h => hc.tr h) ?_
          refine ws_p rfl rfl rfl rfl (p_pickT rfl rfl) ?_
          refine ws_p rfl rfl rfl rfl (p_as rfl) ?_
          refine ws_n ?_
          refine x_seq ?_
          refine wc_ret ?_
          refine fin_run (res1 rfl rfl) ?_
          exact ⟨rfl, HC⟩
end Go.Proofs.YtdbdconmcgcooaaDoor
