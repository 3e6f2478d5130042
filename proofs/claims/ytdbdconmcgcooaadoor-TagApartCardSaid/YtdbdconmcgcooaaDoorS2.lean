/-
  Own text, printed by a program of mine (wip/gx): what functions of the program do, walked operation by operation.
-/
import Derived.Test.YtdbdconmcgcooaaDoorProg
import Derived.Test.YtdbdconmcgcooaaDoorGxAgg
import Derived.Test.YtdbdconmcgcooaaDoorTab
import Derived.Test.YtdbdconmcgcooaaDoorPlPack
import Derived.Test.YtdbdconmcgcooaaDoorPlSum
import Derived.Test.YtdbdconmcgcooaaDoorPlSha
import Derived.Test.YtdbdconmcgcooaaDoorPlShaSt
import Derived.Test.YtdbdconmcgcooaaDoorPlShaB
import Derived.Test.YtdbdconmcgcooaaDoorS1
set_option linter.unusedVariables false
namespace Go.Proofs.YtdbdconmcgcooaaDoor
open Go.RowKit Go.Gx
open Go.Plain
set_option maxHeartbeats 4000000 in
set_option maxRecDepth 20000 in
theorem block_any {w : World} {g n : Nat} {h : List W32} {rest : List UInt8} {made : Bool} (hs : Blk w g 69 (stt h rest n made)) (hh : h.length = 8) (hr : rest.length = 64) (hrnd : Sl w (fun k => k = 1) u32v (some ⟨1, 0, none⟩) 64 64 rk) :
    Calls Tryd.prog 75 #[.pointer (some ⟨g, 0, none⟩)] w fun e w' => e = .returned (.tuple #[]) ∧ Ch (fun k => k = g) w w' ∧ Blk w' g 69 (stt (cmp h rest) rest n made) := by
  have hn1 : 1 < w.heap.size := hrnd.size (by omega) rfl
  have hgl := hs.lt
  have hsl := sch_len rest 64
  have HC : Ch (fun k => k = g) w w := Ch.refl _ _
  refine enter' (args := [.pointer (some ⟨g, 0, none⟩)]) (n := 123) Tryd.func75 rfl rfl rfl ?_
  refine wc_seq ?_
  refine wc_region ?_
  refine wl rfl rfl rfl (p_mv rfl) ?_
  refine wl rfl rfl rfl (p_nck rfl) ?_
  refine wl rfl rfl rfl (p_fld Tryd.underlying69 rfl ⟨_, by rfl⟩ rfl rfl) ?_
  refine wle rfl (e_call ent79 rfl rfl (schedule_any (stt_sl hs hh hr)) ?_)
  rintro _ w1 ⟨rfl, hc⟩
  refine ⟨_, rfl, ?_⟩
  have hzw1 := hc.size
  have HC := HC.tr hc
  have hs := hs.ch hc (fun h => h)
  have hrnd := hrnd.no hc
  have hltg := hs.lt
  refine wle rfl (e_alloc (cs := ((List.replicate 64 0#32).map u32v).toArray) rfl (by rfl) rfl (fun w2 g2 hg2 hb2 hc hsz2 => ?_))
  have hzw2 := hc.size
  have HC := HC.tr hc
  have hs := hs.ch hc (fun h => h)
  have hrnd := hrnd.no hc
  have hge2 : w.heap.size ≤ g2 := by have := HC.size; omega
  have neg_2 : g < g2 := by omega
  refine wle rfl (e_stW (vs := _) (szL sz85 (by rw [List.length_map]; exact hsl)) (oneL one_u32 _) rfl rfl hb2 (by simp [hsl]) (fun w3 hb2 hc hsz => ?_))
  have hzw3 := hc.size
  have HC := HC.trans hc (fun _ _ h => h) (fun k hk ht => absurd ht (by omega))
  have hs := hs.ch hc (by omega)
  first | have hrnd := hrnd.ch hc (by intro k hk ht; first | omega | (dsimp only at *; omega)) | have hrnd := hrnd.chT hc (by intro k hz hk ht; first | omega | (dsimp only at *; omega))
  refine wl_nil ?_
  refine x_seq ?_
  refine wc_seq ?_
  refine wc_region ?_
  refine wl rfl rfl rfl (p_mv rfl) ?_
  refine wl rfl rfl rfl (p_nck rfl) ?_
  refine wl rfl rfl rfl (p_fld Tryd.underlying69 rfl ⟨_, by rfl⟩ rfl rfl) ?_
  refine wl rfl rfl rfl (p_ldA (cs := h.map u32v) Tryd.underlying66 rfl (szL sz66 (by rw [List.length_map]; exact hh)) rfl (fun _ e => e ▸ stt_rng hs hh)) ?_
  have hltg := hs.lt
  have hltg2 := hb2.lt
  refine wle rfl (e_alloc (cs := ((List.replicate 8 0#32).map u32v).toArray) rfl (by rfl) rfl (fun w4 g3 hg3 hb3 hc hsz3 => ?_))
  have hzw4 := hc.size
  have HC := HC.tr hc
  have hs := hs.ch hc (fun h => h)
  have hrnd := hrnd.no hc
  have hb2 := hb2.ch hc (fun h => h)
  have hge3 : w.heap.size ≤ g3 := by have := HC.size; omega
  have neg_3 : g < g3 := by omega
  have neg2_3 : g2 < g3 := by omega
  refine wle rfl (e_stW (vs := _) (by first | rfl | exact szL sz66 (by rw [List.length_map]; exact hh)) (by first | exact allOne rfl | exact oneL one_u32 _) rfl rfl hb3 (by first | (simp [hh]; done) | (simp [hvl]; done)) (fun w5 hb3 hc hsz => ?_))
  have hzw5 := hc.size
  have HC := HC.trans hc (fun _ _ h => h) (fun k hk ht => absurd ht (by omega))
  have hs := hs.ch hc (by omega)
  first | have hrnd := hrnd.ch hc (by intro k hk ht; first | omega | (dsimp only at *; omega)) | have hrnd := hrnd.chT hc (by intro k hz hk ht; first | omega | (dsimp only at *; omega))
  have hb2 := hb2.ch hc (by omega)
  refine wl_nil ?_
  refine x_seq ?_
  refine wc_seq ?_
  refine wc_seq ?_
  refine wc_region ?_
  refine wl rfl rfl rfl (p_mv rfl) ?_
  refine wl_nil ?_
  refine x_seq ?_
  refine wc_block ?_
  refine wc_loop (e' := [(0, .pointer (some ⟨g, 0, none⟩)), (2, .pointer (some ⟨g2, 0, none⟩)), (3, .pointer (some ⟨g3, 0, none⟩)), (19, i64 ((0) : Int))]) (fun mz ez uz => ∃ t : Nat, mz = 64 - t ∧ ez = [(0, .pointer (some ⟨g, 0, none⟩)), (2, .pointer (some ⟨g2, 0, none⟩)), (3, .pointer (some ⟨g3, 0, none⟩)), (19, i64 (t : Int))] ∧ (t ≤ 64) ∧ (Blk uz g 69 (stt h rest n made)) ∧ (Blk uz g2 85 ((sch rest 64).map u32v).toArray) ∧ (Blk uz g3 66 ((rnds (sch rest 64) h t).map u32v).toArray) ∧ (Sl uz (fun k => k = 1) u32v (some ⟨1, 0, none⟩) 64 64 rk) ∧ (Ch (fun k => k = g) w uz))
    ⟨rfl, rfl, rfl, rfl, trivial⟩ ⟨0, rfl, rfl, by omega, hs, hb2, hb3, hrnd, HC⟩ ?_
  rintro m0 e w6 ⟨t, hm0, rfl, ht, hs, hb2, hb3, hrnd, HC⟩
  have hzw6 := HC.size
  have hvl := rnds_len (sch rest 64) hh t
  refine wc_seq ?_
  refine wc_region ?_
  refine wl rfl rfl rfl (p_lt rfl rfl) ?_
  refine wl_nil ?_
  refine x_seq ?_
  refine wc_seq ?_
  refine wc_if rfl (fun c0 => ?_) (fun c0 => ?_)
  ·
    have c0 := of_decide_eq_true c0
    refine wc_skip ?_
    refine x_seq ?_
    refine wc_seq ?_
    refine wc_block ?_
    refine wc_seq ?_
    refine wc_region ?_
    refine wl rfl rfl rfl (p_mv rfl) ?_
    refine wl rfl rfl rfl (p_as rfl) ?_
    refine wl_nil ?_
    refine x_seq ?_
    refine wc_seq ?_
    refine wc_draw (.st 0 0 (.st 1 1 (.st 3 0 (.st 4 1 (.st 7 0 (.st 8 1 (.st 2 2 (.st 5 2 (.st 6 0 (.st 9 2 (.st 10 0 (.st 11 0 .nil)))))))))))) 12 (by kernel_rfl) (by kernel_rfl) (by kernel_rfl) (by repeat (first | with_reducible exact pan_body | with_reducible apply pan_then | with_reducible apply pan_in)) (fun x => Ch No w6.drew x) (Ch.refl _ _) ?_
    obtain ⟨w7, ew7⟩ : ∃ x, x = w6.drew := ⟨_, rfl⟩
    rw [← ew7]
    have hc : Ch No w6 w7 := by rw [ew7]; exact Ch.drew _
    have hszw7 : w7.heap.size = w6.heap.size := by rw [ew7]; rfl
    clear ew7
    have hzw7 := hc.size
    have HC := HC.tr hc
    have hs := hs.ch hc (fun h => h)
    have hb2 := hb2.ch hc (fun h => h)
    have hb3 := hb3.ch hc (fun h => h)
    have hrnd := hrnd.no hc
    have hS : Ch No w7 w7 := Ch.refl _ _
    refine ws_p rfl rfl rfl rfl (p_ixA1 (j := 4) Tryd.underlying66 sz29 rfl rfl (by omega) (by omega) rfl) ?_
    refine ws_h rfl rfl rfl rfl (p_ld Tryd.underlying29 rfl rfl (fun _ h => h.cell (fun h => h) (cellL hb3 (d := 0#32) (by first | (simp; done) | (simp; omega) | omega)))) ?_
    refine ws_p rfl rfl rfl rfl (p_ixA1 (j := 4) Tryd.underlying66 sz29 rfl rfl (by omega) (by omega) rfl) ?_
    refine ws_h rfl rfl rfl rfl (p_ld Tryd.underlying29 rfl rfl (fun _ h => h.cell (fun h => h) (cellL hb3 (d := 0#32) (by first | (simp; done) | (simp; omega) | omega)))) ?_
    refine ws_p rfl rfl rfl rfl (p_ixA1 (j := 4) Tryd.underlying66 sz29 rfl rfl (by omega) (by omega) rfl) ?_
    refine ws_h rfl rfl rfl rfl (p_ld Tryd.underlying29 rfl rfl (fun _ h => h.cell (fun h => h) (cellL hb3 (d := 0#32) (by first | (simp; done) | (simp; omega) | omega)))) ?_
    refine ws_e rfl rfl (e_call ent80 rfl rfl (rotl_any (r := 6) (by omega) (by omega)) ?_)
    rintro _ w11 ⟨rfl, hc⟩
    refine ⟨_, rfl, hc, ?_⟩
    have hzw11 := hc.size
    have HC := HC.tr hc
    have hs := hs.ch hc (fun h => h)
    have hb2 := hb2.ch hc (fun h => h)
    have hb3 := hb3.ch hc (fun h => h)
    have hrnd := hrnd.no hc
    refine ws_narrow (S' := fun x => Ch No w11 x) (Ch.refl _ _) (fun x h => hc.tr h) ?_
    refine ws_e rfl rfl (e_call ent80 rfl rfl (rotl_any (r := 11) (by omega) (by omega)) ?_)
    rintro _ w12 ⟨rfl, hc⟩
    refine ⟨_, rfl, hc, ?_⟩
    have hzw12 := hc.size
    have HC := HC.tr hc
    have hs := hs.ch hc (fun h => h)
    have hb2 := hb2.ch hc (fun h => h)
    have hb3 := hb3.ch hc (fun h => h)
    have hrnd := hrnd.no hc
    refine ws_narrow (S' := fun x => Ch No w12 x) (Ch.refl _ _) (fun x h => hc.tr h) ?_
    refine ws_p rfl rfl rfl rfl (p_xor32 rfl rfl) ?_
    refine ws_e rfl rfl (e_call ent80 rfl rfl (rotl_any (r := 25) (by omega) (by omega)) ?_)
    rintro _ w13 ⟨rfl, hc⟩
    refine ⟨_, rfl, hc, ?_⟩
    have hzw13 := hc.size
    have HC := HC.tr hc
    have hs := hs.ch hc (fun h => h)
    have hb2 := hb2.ch hc (fun h => h)
    have hb3 := hb3.ch hc (fun h => h)
    have hrnd := hrnd.no hc
    refine ws_narrow (S' := fun x => Ch No w13 x) (Ch.refl _ _) (fun x h => hc.tr h) ?_
    refine ws_p rfl rfl rfl rfl (p_xor32 rfl rfl) ?_
    refine ws_p rfl rfl rfl rfl (p_as rfl) ?_
    refine ws_n ?_
    refine x_seq ?_
    refine wc_seq ?_
    refine wc_draw (.st 0 0 (.st 1 1 (.st 3 0 (.st 4 1 (.st 7 0 (.st 8 1 (.st 2 2 (.st 5 2 (.st 6 0 (.st 9 2 (.st 10 0 (.st 11 0 .nil)))))))))))) 12 (by kernel_rfl) (by kernel_rfl) (by kernel_rfl) (by repeat (first | with_reducible exact pan_body | with_reducible apply pan_then | with_reducible apply pan_in)) (fun x => Ch No w13.drew x) (Ch.refl _ _) ?_
    obtain ⟨w14, ew14⟩ : ∃ x, x = w13.drew := ⟨_, rfl⟩
    rw [← ew14]
    have hc : Ch No w13 w14 := by rw [ew14]; exact Ch.drew _
    have hszw14 : w14.heap.size = w13.heap.size := by rw [ew14]; rfl
    clear ew14
    have hzw14 := hc.size
    have HC := HC.tr hc
    have hs := hs.ch hc (fun h => h)
    have hb2 := hb2.ch hc (fun h => h)
    have hb3 := hb3.ch hc (fun h => h)
    have hrnd := hrnd.no hc
    have hS : Ch No w14 w14 := Ch.refl _ _
    refine ws_p rfl rfl rfl rfl (p_ixA1 (j := 0) Tryd.underlying66 sz29 rfl rfl (by omega) (by omega) rfl) ?_
    refine ws_h rfl rfl rfl rfl (p_ld Tryd.underlying29 rfl rfl (fun _ h => h.cell (fun h => h) (cellL hb3 (d := 0#32) (by first | (simp; done) | (simp; omega) | omega)))) ?_
    refine ws_p rfl rfl rfl rfl (p_ixA1 (j := 0) Tryd.underlying66 sz29 rfl rfl (by omega) (by omega) rfl) ?_
    refine ws_h rfl rfl rfl rfl (p_ld Tryd.underlying29 rfl rfl (fun _ h => h.cell (fun h => h) (cellL hb3 (d := 0#32) (by first | (simp; done) | (simp; omega) | omega)))) ?_
    refine ws_p rfl rfl rfl rfl (p_ixA1 (j := 0) Tryd.underlying66 sz29 rfl rfl (by omega) (by omega) rfl) ?_
    refine ws_h rfl rfl rfl rfl (p_ld Tryd.underlying29 rfl rfl (fun _ h => h.cell (fun h => h) (cellL hb3 (d := 0#32) (by first | (simp; done) | (simp; omega) | omega)))) ?_
    refine ws_e rfl rfl (e_call ent80 rfl rfl (rotl_any (r := 2) (by omega) (by omega)) ?_)
    rintro _ w18 ⟨rfl, hc⟩
    refine ⟨_, rfl, hc, ?_⟩
    have hzw18 := hc.size
    have HC := HC.tr hc
    have hs := hs.ch hc (fun h => h)
    have hb2 := hb2.ch hc (fun h => h)
    have hb3 := hb3.ch hc (fun h => h)
    have hrnd := hrnd.no hc
    refine ws_narrow (S' := fun x => Ch No w18 x) (Ch.refl _ _) (fun x h => hc.tr h) ?_
    refine ws_e rfl rfl (e_call ent80 rfl rfl (rotl_any (r := 13) (by omega) (by omega)) ?_)
    rintro _ w19 ⟨rfl, hc⟩
    refine ⟨_, rfl, hc, ?_⟩
    have hzw19 := hc.size
    have HC := HC.tr hc
    have hs := hs.ch hc (fun h => h)
    have hb2 := hb2.ch hc (fun h => h)
    have hb3 := hb3.ch hc (fun h => h)
    have hrnd := hrnd.no hc
    refine ws_narrow (S' := fun x => Ch No w19 x) (Ch.refl _ _) (fun x h => hc.tr h) ?_
    refine ws_p rfl rfl rfl rfl (p_xor32 rfl rfl) ?_
    refine ws_e rfl rfl (e_call ent80 rfl rfl (rotl_any (r := 22) (by omega) (by omega)) ?_)
    rintro _ w20 ⟨rfl, hc⟩
    refine ⟨_, rfl, hc, ?_⟩
    have hzw20 := hc.size
    have HC := HC.tr hc
    have hs := hs.ch hc (fun h => h)
    have hb2 := hb2.ch hc (fun h => h)
    have hb3 := hb3.ch hc (fun h => h)
    have hrnd := hrnd.no hc
    refine ws_narrow (S' := fun x => Ch No w20 x) (Ch.refl _ _) (fun x h => hc.tr h) ?_
    refine ws_p rfl rfl rfl rfl (p_xor32 rfl rfl) ?_
    refine ws_p rfl rfl rfl rfl (p_as rfl) ?_
    refine ws_n ?_
    refine x_seq ?_
    refine wc_seq ?_
    refine wc_region ?_
    refine wl rfl rfl rfl (p_ixA1 (j := 6) Tryd.underlying66 sz29 rfl rfl (by omega) (by omega) rfl) ?_
    refine wl rfl rfl rfl (p_ld Tryd.underlying29 rfl rfl (ld (cellL hb3 (d := 0#32) (by first | (simp; done) | (simp; omega) | omega)))) ?_
    refine wl rfl rfl rfl (p_ixA1 (j := 4) Tryd.underlying66 sz29 rfl rfl (by omega) (by omega) rfl) ?_
    refine wl rfl rfl rfl (p_ld Tryd.underlying29 rfl rfl (ld (cellL hb3 (d := 0#32) (by first | (simp; done) | (simp; omega) | omega)))) ?_
    refine wl rfl rfl rfl (p_ixA1 (j := 5) Tryd.underlying66 sz29 rfl rfl (by omega) (by omega) rfl) ?_
    refine wl rfl rfl rfl (p_ld Tryd.underlying29 rfl rfl (ld (cellL hb3 (d := 0#32) (by first | (simp; done) | (simp; omega) | omega)))) ?_
    refine wl rfl rfl rfl (p_ixA1 (j := 6) Tryd.underlying66 sz29 rfl rfl (by omega) (by omega) rfl) ?_
    refine wl rfl rfl rfl (p_ld Tryd.underlying29 rfl rfl (ld (cellL hb3 (d := 0#32) (by first | (simp; done) | (simp; omega) | omega)))) ?_
    refine wl rfl rfl rfl (p_xor32 rfl rfl) ?_
    refine wl rfl rfl rfl (p_and32 rfl rfl) ?_
    refine wl rfl rfl rfl (p_xor32 rfl rfl) ?_
    refine wl rfl rfl rfl (p_as rfl) ?_
    refine wl_nil ?_
    refine x_seq ?_
    refine wc_seq ?_
    refine wc_region ?_
    refine wl rfl rfl rfl (p_ixA1 (j := 0) Tryd.underlying66 sz29 rfl rfl (by omega) (by omega) rfl) ?_
    refine wl rfl rfl rfl (p_ld Tryd.underlying29 rfl rfl (ld (cellL hb3 (d := 0#32) (by first | (simp; done) | (simp; omega) | omega)))) ?_
    refine wl rfl rfl rfl (p_ixA1 (j := 1) Tryd.underlying66 sz29 rfl rfl (by omega) (by omega) rfl) ?_
    refine wl rfl rfl rfl (p_ld Tryd.underlying29 rfl rfl (ld (cellL hb3 (d := 0#32) (by first | (simp; done) | (simp; omega) | omega)))) ?_
    refine wl rfl rfl rfl (p_and32 rfl rfl) ?_
    refine wl rfl rfl rfl (p_ixA1 (j := 2) Tryd.underlying66 sz29 rfl rfl (by omega) (by omega) rfl) ?_
    refine wl rfl rfl rfl (p_ld Tryd.underlying29 rfl rfl (ld (cellL hb3 (d := 0#32) (by first | (simp; done) | (simp; omega) | omega)))) ?_
    refine wl rfl rfl rfl (p_ixA1 (j := 0) Tryd.underlying66 sz29 rfl rfl (by omega) (by omega) rfl) ?_
    refine wl rfl rfl rfl (p_ld Tryd.underlying29 rfl rfl (ld (cellL hb3 (d := 0#32) (by first | (simp; done) | (simp; omega) | omega)))) ?_
    refine wl rfl rfl rfl (p_ixA1 (j := 1) Tryd.underlying66 sz29 rfl rfl (by omega) (by omega) rfl) ?_
    refine wl rfl rfl rfl (p_ld Tryd.underlying29 rfl rfl (ld (cellL hb3 (d := 0#32) (by first | (simp; done) | (simp; omega) | omega)))) ?_
    refine wl rfl rfl rfl (p_or32 rfl rfl) ?_
    refine wl rfl rfl rfl (p_and32 rfl rfl) ?_
    refine wl rfl rfl rfl (p_or32 rfl rfl) ?_
    refine wl rfl rfl rfl (p_as rfl) ?_
    refine wl_nil ?_
    refine x_seq ?_
    refine wc_seq ?_
    refine wc_draw (.st 0 0 (.st 1 1 (.st 2 0 (.st 3 0 (.st 4 0 (.st 5 0 (.st 6 0 (.st 7 0 (.st 8 1 (.st 9 0 (.st 10 0 (.st 11 0 (.st 12 1 (.st 13 0 (.st 14 0 .nil))))))))))))))) 15 (by kernel_rfl) (by kernel_rfl) (by kernel_rfl) (by repeat (first | with_reducible exact pan_body | with_reducible apply pan_then | with_reducible apply pan_in)) (fun x => Ch No w20.drew x) (Ch.refl _ _) ?_
    obtain ⟨w30, ew30⟩ : ∃ x, x = w20.drew := ⟨_, rfl⟩
    rw [← ew30]
    have hc : Ch No w20 w30 := by rw [ew30]; exact Ch.drew _
    have hszw30 : w30.heap.size = w20.heap.size := by rw [ew30]; rfl
    clear ew30
    have hzw30 := hc.size
    have HC := HC.tr hc
    have hs := hs.ch hc (fun h => h)
    have hb2 := hb2.ch hc (fun h => h)
    have hb3 := hb3.ch hc (fun h => h)
    have hrnd := hrnd.no hc
    have hS : Ch No w30 w30 := Ch.refl _ _
    refine ws_p rfl rfl rfl rfl (p_ixA1 (j := 7) Tryd.underlying66 sz29 rfl rfl (by omega) (by omega) rfl) ?_
    refine ws_h rfl rfl rfl rfl (p_ld Tryd.underlying29 rfl rfl (fun _ h => h.cell (fun h => h) (cellL hb3 (d := 0#32) (by first | (simp; done) | (simp; omega) | omega)))) ?_
    refine ws_p rfl rfl rfl rfl (p_mv rfl) ?_
    refine ws_p rfl rfl rfl rfl (p_add32 rfl rfl) ?_
    refine ws_p rfl rfl rfl rfl (p_mv rfl) ?_
    refine ws_p rfl rfl rfl rfl (p_add32 rfl rfl) ?_
    refine ws_p rfl rfl rfl rfl (p_mv rfl) ?_
    obtain ⟨b32, o32, hA32, hF32, hc32⟩ := (hrnd).opn (d := 0#32) (by omega)
    cases hA32
    refine ws_p rfl rfl rfl rfl (p_ixAo Tryd.underlying85 sz29 rfl rfl (by omega) (by omega) (Int.toNat_natCast _)) ?_
    refine ws_h rfl rfl rfl rfl (p_ld Tryd.underlying29 rfl rfl (fun _ h => h.cell (fun h => h) (hc32 _ (by omega)))) ?_
    refine ws_p rfl rfl rfl rfl (p_add32 rfl rfl) ?_
    refine ws_p rfl rfl rfl rfl (p_mv rfl) ?_
    refine ws_p rfl rfl rfl rfl (p_ixA1 Tryd.underlying85 sz29 rfl rfl (by omega) (by omega) (Int.toNat_natCast _)) ?_
    refine ws_h rfl rfl rfl rfl (p_ld Tryd.underlying29 rfl rfl (fun _ h => h.cell (fun h => h) (cellL hb2 (d := 0#32) (by first | (simp; done) | (simp; omega) | omega)))) ?_
    refine ws_p rfl rfl rfl rfl (p_add32 rfl rfl) ?_
    refine ws_p rfl rfl rfl rfl (p_as rfl) ?_
    refine ws_n ?_
    refine x_seq ?_
    refine wc_region ?_
    refine wl rfl rfl rfl (p_mv rfl) ?_
    refine wl rfl rfl rfl (p_mv rfl) ?_
    refine wl rfl rfl rfl (p_add32 rfl rfl) ?_
    refine wl rfl rfl rfl (p_mv rfl) ?_
    refine wl rfl rfl rfl (p_add32 rfl rfl) ?_
    refine wl rfl rfl rfl (p_ixA1 (j := 0) Tryd.underlying66 sz29 rfl rfl (by omega) (by omega) rfl) ?_
    refine wl rfl rfl rfl (p_ld Tryd.underlying29 rfl rfl (ld (cellL hb3 (d := 0#32) (by first | (simp; done) | (simp; omega) | omega)))) ?_
    refine wl rfl rfl rfl (p_ixA1 (j := 1) Tryd.underlying66 sz29 rfl rfl (by omega) (by omega) rfl) ?_
    refine wl rfl rfl rfl (p_ld Tryd.underlying29 rfl rfl (ld (cellL hb3 (d := 0#32) (by first | (simp; done) | (simp; omega) | omega)))) ?_
    refine wl rfl rfl rfl (p_ixA1 (j := 2) Tryd.underlying66 sz29 rfl rfl (by omega) (by omega) rfl) ?_
    refine wl rfl rfl rfl (p_ld Tryd.underlying29 rfl rfl (ld (cellL hb3 (d := 0#32) (by first | (simp; done) | (simp; omega) | omega)))) ?_
    refine wl rfl rfl rfl (p_ixA1 (j := 3) Tryd.underlying66 sz29 rfl rfl (by omega) (by omega) rfl) ?_
    refine wl rfl rfl rfl (p_ld Tryd.underlying29 rfl rfl (ld (cellL hb3 (d := 0#32) (by first | (simp; done) | (simp; omega) | omega)))) ?_
    refine wl rfl rfl rfl (p_mv rfl) ?_
    refine wl rfl rfl rfl (p_add32 rfl rfl) ?_
    refine wl rfl rfl rfl (p_ixA1 (j := 4) Tryd.underlying66 sz29 rfl rfl (by omega) (by omega) rfl) ?_
    refine wl rfl rfl rfl (p_ld Tryd.underlying29 rfl rfl (ld (cellL hb3 (d := 0#32) (by first | (simp; done) | (simp; omega) | omega)))) ?_
    refine wl rfl rfl rfl (p_ixA1 (j := 5) Tryd.underlying66 sz29 rfl rfl (by omega) (by omega) rfl) ?_
    refine wl rfl rfl rfl (p_ld Tryd.underlying29 rfl rfl (ld (cellL hb3 (d := 0#32) (by first | (simp; done) | (simp; omega) | omega)))) ?_
    refine wl rfl rfl rfl (p_ixA1 (j := 6) Tryd.underlying66 sz29 rfl rfl (by omega) (by omega) rfl) ?_
    refine wl rfl rfl rfl (p_ld Tryd.underlying29 rfl rfl (ld (cellL hb3 (d := 0#32) (by first | (simp; done) | (simp; omega) | omega)))) ?_
    refine wl rfl rfl rfl (p_bldV rfl (fun _ => by kernel_rfl)) ?_
    refine wle rfl (e_stW (vs := _) (by first | rfl | exact szL sz66 (by rw [List.length_map]; exact hh)) (by first | exact allOne rfl | exact oneL one_u32 _) rfl rfl hb3 (by first | (simp [hh]; done) | (simp [hvl]; done)) (fun w41 hb3 hc hsz => ?_))
    have hzw41 := hc.size
    have HC := HC.trans hc (fun _ _ h => h) (fun k hk ht => absurd ht (by omega))
    have hs := hs.ch hc (by omega)
    have hb2 := hb2.ch hc (by omega)
    first | have hrnd := hrnd.ch hc (by intro k hk ht; first | omega | (dsimp only at *; omega)) | have hrnd := hrnd.chT hc (by intro k hz hk ht; first | omega | (dsimp only at *; omega))
    refine wl_nil ?_
    refine x_in_normal ?_
    refine x_seq ?_
    refine wc_region ?_
    refine wl rfl rfl rfl (p_add rfl rfl (w64 (by omega))) ?_
    refine wl rfl rfl rfl (p_mv rfl) ?_
    refine wl_nil ?_
    refine x_round (e' := [(0, .pointer (some ⟨g, 0, none⟩)), (2, .pointer (some ⟨g2, 0, none⟩)), (3, .pointer (some ⟨g3, 0, none⟩)), (19, i64 ((t + 1) : Int))]) ⟨rfl, rfl, rfl, rfl, trivial⟩ (by rw [hm0]; omega) ⟨t + 1, rfl, rfl, by omega, hs, hb2, hb3, hrnd, HC⟩
  ·
    have c0 := of_decide_eq_false c0
    obtain rfl : t = 64 := by omega
    have hvl := rnds_len (sch rest 64) hh 64
    refine wc_exit ?_
    refine x_then_exit ?_
    refine x_then_exit ?_
    refine x_in_here ?_
    refine x_seq ?_
    refine wc_seq ?_
    refine wc_region ?_
    refine wl rfl rfl rfl (p_mv rfl) ?_
    refine wl_nil ?_
    refine x_seq ?_
    refine wc_block ?_
    refine wc_loop (e' := [(0, .pointer (some ⟨g, 0, none⟩)), (3, .pointer (some ⟨g3, 0, none⟩)), (106, i64 ((0) : Int))]) (fun mz ez uz => ∃ i : Nat, mz = 8 - i ∧ ez = [(0, .pointer (some ⟨g, 0, none⟩)), (3, .pointer (some ⟨g3, 0, none⟩)), (106, i64 (i : Int))] ∧ (i ≤ 8) ∧ (Blk uz g 69 (stt (addN h (rnds (sch rest 64) h 64) i) rest n made)) ∧ (Blk uz g3 66 ((rnds (sch rest 64) h 64).map u32v).toArray) ∧ (Ch (fun k => k = g) w uz))
      ⟨rfl, rfl, rfl, trivial⟩ ⟨0, rfl, rfl, by omega, hs, hb3, HC⟩ ?_
    rintro m1 e w42 ⟨i, hm1, rfl, hi, hs, hb3, HC⟩
    have hzw42 := HC.size
    have hal : (addN h (rnds (sch rest 64) h 64) i).length = 8 := by rw [addN_len]; exact hh
    refine wc_seq ?_
    refine wc_region ?_
    refine wl rfl rfl rfl (p_lt rfl rfl) ?_
    refine wl_nil ?_
    refine x_seq ?_
    refine wc_seq ?_
    refine wc_if rfl (fun c1 => ?_) (fun c1 => ?_)
    ·
      have c1 := of_decide_eq_true c1
      refine wc_skip ?_
      refine x_seq ?_
      refine wc_seq ?_
      refine wc_block ?_
      refine wc_seq ?_
      refine wc_region ?_
      refine wl rfl rfl rfl (p_mv rfl) ?_
      refine wl rfl rfl rfl (p_as rfl) ?_
      refine wl_nil ?_
      refine x_seq ?_
      refine wc_draw (.st 0 0 (.st 1 0 (.st 2 0 (.st 3 0 (.st 4 0 (.st 5 1 (.st 6 0 (.st 7 0 (.st 8 1 (.st 9 0 (.st 10 0 (.st 11 0 (.st 12 0 (.st 13 3 .nil)))))))))))))) 13 (by kernel_rfl) (by kernel_rfl) (by kernel_rfl) (by repeat (first | with_reducible exact pan_body | with_reducible apply pan_then | with_reducible apply pan_in)) (fun x => Ch No w42.drew x) (Ch.refl _ _) ?_
      obtain ⟨w43, ew43⟩ : ∃ x, x = w42.drew := ⟨_, rfl⟩
      rw [← ew43]
      have hc : Ch No w42 w43 := by rw [ew43]; exact Ch.drew _
      have hszw43 : w43.heap.size = w42.heap.size := by rw [ew43]; rfl
      clear ew43
      have hzw43 := hc.size
      have HC := HC.tr hc
      have hs := hs.ch hc (fun h => h)
      have hb3 := hb3.ch hc (fun h => h)
      have hS : Ch No w43 w43 := Ch.refl _ _
      refine ws_p rfl rfl rfl rfl (p_mv rfl) ?_
      refine ws_p rfl rfl rfl rfl (p_mv rfl) ?_
      refine ws_p rfl rfl rfl rfl (p_nck rfl) ?_
      refine ws_p rfl rfl rfl rfl (p_fld Tryd.underlying69 rfl ⟨_, by rfl⟩ rfl rfl) ?_
      refine ws_p rfl rfl rfl rfl (p_ixAo (o := 0) Tryd.underlying66 sz29 rfl rfl (by omega) (by omega) (Int.toNat_natCast _)) ?_
      refine ws_h rfl rfl rfl rfl (p_ld Tryd.underlying29 rfl rfl (fun _ hx => hx.cell (fun h => h) (by rw [Nat.zero_add]; exact hs.cell (stt_h hal (by omega))))) ?_
      refine ws_p rfl rfl rfl rfl (p_mv rfl) ?_
      refine ws_p rfl rfl rfl rfl (p_ixA1 Tryd.underlying66 sz29 rfl rfl (by omega) (by omega) (Int.toNat_natCast _)) ?_
      refine ws_h rfl rfl rfl rfl (p_ld Tryd.underlying29 rfl rfl (fun _ h => h.cell (fun h => h) (cellL hb3 (d := 0#32) (by first | (simp; done) | (simp; omega) | omega)))) ?_
      refine ws_p rfl rfl rfl rfl (p_add32 rfl rfl) ?_
      refine ws_p rfl rfl rfl rfl (p_nck rfl) ?_
      refine ws_p rfl rfl rfl rfl (p_fld Tryd.underlying69 rfl ⟨_, by rfl⟩ rfl rfl) ?_
      refine ws_p rfl rfl rfl rfl (p_ixAo (o := 0) Tryd.underlying66 sz29 rfl rfl (by omega) (by omega) (Int.toNat_natCast _)) ?_
      refine ws_l rfl rfl (e_stSh (by rfl) rfl rfl hs hal hr (by omega) (fun w45 hs hc hsz => ?_))
      have hzw45 := hc.size
      have HC := HC.trans hc (fun _ _ h => h) (fun k hk ht => ht)
      have hb3 := hb3.ch hc (by omega)
      refine ws_n ?_
      refine x_in_normal ?_
      refine x_seq ?_
      refine wc_region ?_
      refine wl rfl rfl rfl (p_add rfl rfl (w64 (by omega))) ?_
      refine wl rfl rfl rfl (p_mv rfl) ?_
      refine wl_nil ?_
      refine x_round (e' := [(0, .pointer (some ⟨g, 0, none⟩)), (3, .pointer (some ⟨g3, 0, none⟩)), (106, i64 ((i + 1) : Int))]) ⟨rfl, rfl, rfl, trivial⟩ (by rw [hm1]; omega) ⟨i + 1, rfl, rfl, by omega, hs, hb3, HC⟩
    ·
      have c1 := of_decide_eq_false c1
      obtain rfl : i = 8 := by omega
      refine wc_exit ?_
      refine x_then_exit ?_
      refine x_then_exit ?_
      refine x_in_here ?_
      refine fin_run_n (res0 rfl) ?_
      exact ⟨rfl, HC, hs⟩
end Go.Proofs.YtdbdconmcgcooaaDoor
