/-
  Own text, printed by a program of mine (wip/gx): what functions of the program do, walked operation by operation.
-/
import Derived.Test.YtdbdconmcgcooaaDoorProg
import Derived.Test.YtdbdconmcgcooaaDoorGxAgg
import Derived.Test.YtdbdconmcgcooaaDoorTab
import Derived.Test.YtdbdconmcgcooaaDoorPlPack
import Derived.Test.YtdbdconmcgcooaaDoorPlSum
import Derived.Test.YtdbdconmcgcooaaDoorPlSha
import Derived.Test.YtdbdconmcgcooaaDoorPlShaSt
import Derived.Test.YtdbdconmcgcooaaDoorPlShaB
import Derived.Test.YtdbdconmcgcooaaDoorSX
import Derived.Test.YtdbdconmcgcooaaDoorG0
set_option linter.unusedVariables false
namespace Go.Proofs.YtdbdconmcgcooaaDoor
open Go.RowKit Go.Gx
open Go.Plain
set_option maxHeartbeats 1000000 in
set_option maxRecDepth 20000 in
theorem shaCuts_walk {w : World} {Ab : Option Addr} {lb cb : Nat} {Fb : Nat → Prop} {b : List UInt8} {x : Nat} {ask : Bool} (hb : Sl w Fb u8v Ab lb cb b) (hx : x < 18446744073709551616) (hrnd : Sl w (fun k => k = 1) u32v (some ⟨1, 0, none⟩) 64 64 rk) :
    Calls Tryd.prog 15 #[.slice Ab lb cb, u64v x, .bool ask] w fun e w' => e = .returned (.bool true) ∧ Ch No w w' := by
  have hn1 : 1 < w.heap.size := hrnd.size (by omega) rfl
  have hbl := hb.len
  have hb := hb.old
  have HC : Ch No w w := Ch.refl _ _
  refine enter' (args := [.slice Ab lb cb, u64v x, .bool ask]) (n := 64) Tryd.func15 rfl rfl rfl ?_
  refine wc_seq ?_
  refine wc_region ?_
  refine wl rfl rfl rfl (p_as rfl) ?_
  refine wl_nil ?_
  refine x_seq ?_
  refine wc_seq ?_
  refine wc_seq ?_
  refine wc_region ?_
  refine wl rfl rfl rfl (p_mv rfl) ?_
  refine wl rfl rfl rfl (p_lenS Tryd.underlying22 rfl) ?_
  refine wl rfl rfl rfl (p_gt rfl rfl) ?_
  refine wl_nil ?_
  refine x_seq ?_
  refine wc_if rfl (fun c0 => ?_) (fun c0 => ?_)
  ·
    have c0 := of_decide_eq_true c0
    refine wc_seq ?_
    refine wc_region ?_
    refine wle rfl (e_call ent18 rfl rfl (lives3_any hrnd) ?_)
    rintro _ w1 ⟨rfl, hc⟩
    refine ⟨_, rfl, ?_⟩
    have hzw1 := hc.size
    have HC := HC.tr hc
    have hb := hb.no hc
    have hrnd := hrnd.no hc
    refine wl rfl rfl rfl (p_as rfl) ?_
    refine wl_nil ?_
    refine x_seq ?_
    refine wc_ret ?_
    refine x_then_ret ?_
    refine fin_run (res1 rfl rfl) ?_
    exact ⟨rfl, HC⟩
  ·
    have c0 := of_decide_eq_false c0
    obtain ⟨k, hk⟩ : ∃ k, k = x % (lb + 1) := ⟨_, rfl⟩
    have hkl : k ≤ lb := by have := Nat.mod_lt x (show 0 < lb + 1 by omega); omega
    have htk : (b.take k).length = k := by rw [List.length_take]; omega
    refine wc_skip ?_
    refine x_seq ?_
    refine wc_seq ?_
    refine wc_region ?_
    refine wl rfl rfl rfl (p_mv rfl) ?_
    refine wl rfl rfl rfl (p_mv rfl) ?_
    refine wl rfl rfl rfl (p_lenS Tryd.underlying22 rfl) ?_
    refine wl rfl rfl rfl (p_add (Z := ((lb + 1 : Nat) : Int)) rfl rfl (by rw [w64 (by omega)]; omega)) ?_
    refine wl rfl rfl rfl (p_conv Tryd.underlying3 Tryd.underlying46 rfl (wu64 (by omega))) ?_
    refine wl rfl rfl rfl (p_rem (Z := (k : Int)) rfl rfl (by omega) (by rw [hk]; rfl)) ?_
    refine wl rfl rfl rfl (p_conv Tryd.underlying46 Tryd.underlying3 rfl (w64 (by omega))) ?_
    refine wl rfl rfl rfl (p_as rfl) ?_
    refine wl_nil ?_
    refine x_seq ?_
    refine wc_seq ?_
    refine wc_region ?_
    refine wle rfl (e_call ent53 rfl rfl (new_any) ?_)
    rintro _ w2 ⟨g22, rfl, hg22, hs22, hc⟩
    refine ⟨_, rfl, ?_⟩
    have hzw2 := hc.size
    have HC := HC.tr hc
    have hb := hb.no hc
    have hrnd := hrnd.no hc
    have hrep22 := rep_nil
    have hge22 : w.heap.size ≤ g22 := by have := HC.size; omega
    refine wl rfl rfl rfl (p_as rfl) ?_
    refine wl_nil ?_
    refine x_seq ?_
    refine wc_seq ?_
    refine wc_region ?_
    refine wl rfl rfl rfl (p_mv rfl) ?_
    refine wl rfl rfl rfl (p_mv rfl) ?_
    refine wl rfl rfl rfl (p_mv rfl) ?_
    have hS26 := hb.cut (lo := 0) (hi := k) (q := k) (by omega) hkl rfl
    rw [List.drop_zero] at hS26
    refine wl rfl rfl rfl (p_slS (l := 0) (h := k) Tryd.underlying22 sz5 rfl rfl ⟨_, rfl⟩ (by omega) (by have := hb.cap; omega) hb.cap (q := k) rfl) ?_
    refine wle rfl (e_call ent54 rfl rfl (write_any hs22 hrep22 (hS26) (by intro k hk; first | omega | (dsimp only at *; omega)) (by omega) (by first | omega | (simp only [List.length_nil, List.length_append]; omega)) hrnd) ?_)
    rintro _ w3 ⟨rfl, hc, h27, r27, hs22, hrep22⟩
    refine ⟨_, rfl, ?_⟩
    have hzw3 := hc.size
    have HC := HC.trans hc (fun _ _ h => h) (fun k hk ht => absurd ht (by omega))
    first | have hb := hb.ch hc (by intro k hk ht; first | omega | (dsimp only at *; omega)) | have hb := hb.chT hc (by intro k hz hk ht; first | omega | (dsimp only at *; omega))
    first | have hrnd := hrnd.ch hc (by intro k hk ht; first | omega | (dsimp only at *; omega)) | have hrnd := hrnd.chT hc (by intro k hz hk ht; first | omega | (dsimp only at *; omega))
    first | have hS26 := hS26.ch hc (by intro k hk ht; first | omega | (dsimp only at *; omega)) | have hS26 := hS26.chT hc (by intro k hz hk ht; first | omega | (dsimp only at *; omega))
    rw [List.nil_append] at hs22 hrep22
    refine wl rfl rfl rfl (p_as rfl) ?_
    refine wl_nil ?_
    refine x_seq ?_
    refine wc_seq ?_
    refine wc_seq ?_
    refine wc_draw (.st 0 0 (.st 1 0 (.st 2 0 (.st 4 0 (.st 5 0 (.st 6 0 (.st 3 2 (.st 7 2 (.st 8 0 (.st 9 0 .nil)))))))))) 10 (by kernel_rfl) (by kernel_rfl) (by kernel_rfl) (by repeat (first | with_reducible exact pan_body | with_reducible apply pan_then | with_reducible apply pan_in)) (fun x => Ch No w3.drew x) (Ch.refl _ _) ?_
    obtain ⟨w4, ew4⟩ : ∃ x, x = w3.drew := ⟨_, rfl⟩
    rw [← ew4]
    have hc : Ch No w3 w4 := by rw [ew4]; exact Ch.drew _
    have hszw4 : w4.heap.size = w3.heap.size := by rw [ew4]; rfl
    clear ew4
    have hzw4 := hc.size
    have HC := HC.tr hc
    have hb := hb.no hc
    have hrnd := hrnd.no hc
    have hs22 := hs22.ch hc (fun h => h)
    have hS26 := hS26.no hc
    have hS : Ch No w4 w4 := Ch.refl _ _
    refine ws_p rfl rfl rfl rfl (p_mv rfl) ?_
    refine ws_p rfl rfl rfl rfl (p_mv rfl) ?_
    refine ws_split (d := 29) rfl (fun q29 => ?_) (fun q29 => ?_)
    ·
      refine ws_pg rfl (gd_ rfl rfl rfl rfl rfl rfl) rfl rfl (p_mv rfl) ?_
      refine ws_pg rfl (gd_ rfl rfl rfl rfl rfl rfl) rfl rfl (p_mv rfl) ?_
      refine ws_pg rfl (gd_ rfl rfl rfl rfl rfl rfl) rfl rfl (p_mv rfl) ?_
      have hS34 := hb.cut (lo := 0) (hi := k) (q := k) (by omega) hkl rfl
      rw [List.drop_zero] at hS34
      refine ws_pg rfl (gd_ rfl rfl rfl rfl rfl rfl) rfl rfl (p_slS (l := 0) (h := k) Tryd.underlying22 sz5 rfl rfl ⟨_, rfl⟩ (by omega) (by have := hb.cap; omega) hb.cap (q := k) rfl) ?_
      refine ws_eg rfl (gd_ rfl rfl rfl rfl rfl rfl) (e_call ent55 rfl rfl (ssum_any hs22 hrep22 (by first | omega | (simp only [List.length_append]; omega)) hrnd) ?_)
      rintro _ w5 ⟨rfl, hc⟩
      refine ⟨_, rfl, hc, ?_⟩
      have hzw5 := hc.size
      have HC := HC.tr hc
      have hb := hb.no hc
      have hrnd := hrnd.no hc
      have hs22 := hs22.ch hc (fun h => h)
      have hS26 := hS26.no hc
      have hS34 := hS34.no hc
      refine ws_narrow (S' := fun x => Ch No w5 x) (Ch.refl _ _) (fun x h => hc.tr h) ?_
      refine ws_eg rfl (gd_ rfl rfl rfl rfl rfl rfl) (e_call ent19 rfl rfl (sum_any (hS34) (by omega) hrnd) ?_)
      rintro _ w6 ⟨rfl, hc⟩
      refine ⟨_, rfl, hc, ?_⟩
      have hzw6 := hc.size
      have HC := HC.tr hc
      have hb := hb.no hc
      have hrnd := hrnd.no hc
      have hs22 := hs22.ch hc (fun h => h)
      have hS26 := hS26.no hc
      have hS34 := hS34.no hc
      refine ws_narrow (S' := fun x => Ch No w6 x) (Ch.refl _ _) (fun x h => hc.tr h) ?_
      refine ws_pg rfl (gd_ rfl rfl rfl rfl rfl rfl) rfl rfl (p_neH (a := (shaF _)) (b := (shaF _)) (by kernel_rfl) Tryd.underlying25 Tryd.underlying5 sz5 rfl rfl (shaF_len _) (shaF_len _)) ?_
      refine ws_p rfl rfl rfl rfl (p_pickT rfl rfl) ?_
      refine ws_n ?_
      refine x_seq ?_
      refine wc_no rfl (by rw [beq_self_eq_true]; rfl) ?_
      refine wc_skip ?_
      refine x_seq ?_
      refine wc_seq ?_
      refine wc_region ?_
      refine wl rfl rfl rfl (p_mv rfl) ?_
      refine wl rfl rfl rfl (p_mv rfl) ?_
      refine wl rfl rfl rfl (p_mv rfl) ?_
      have hS41 := hb.cutTo (lo := k) hkl
      refine wl rfl rfl rfl (p_slS (l := k) (h := lb) Tryd.underlying22 sz5 rfl ⟨_, rfl⟩ rfl hkl (by have := hb.cap; omega) hb.cap (q := lb - k) rfl) ?_
      refine wle rfl (e_call ent54 rfl rfl (write_any hs22 hrep22 (hS41) (by intro k hk; first | omega | (dsimp only at *; omega)) (by omega) (by first | omega | (simp only [List.length_nil, List.length_append]; omega)) hrnd) ?_)
      rintro _ w7 ⟨rfl, hc, h42, r42, hs22, hrep22⟩
      refine ⟨_, rfl, ?_⟩
      have hzw7 := hc.size
      have HC := HC.trans hc (fun _ _ h => h) (fun k hk ht => absurd ht (by omega))
      first | have hb := hb.ch hc (by intro k hk ht; first | omega | (dsimp only at *; omega)) | have hb := hb.chT hc (by intro k hz hk ht; first | omega | (dsimp only at *; omega))
      first | have hrnd := hrnd.ch hc (by intro k hk ht; first | omega | (dsimp only at *; omega)) | have hrnd := hrnd.chT hc (by intro k hz hk ht; first | omega | (dsimp only at *; omega))
      first | have hS26 := hS26.ch hc (by intro k hk ht; first | omega | (dsimp only at *; omega)) | have hS26 := hS26.chT hc (by intro k hz hk ht; first | omega | (dsimp only at *; omega))
      first | have hS34 := hS34.ch hc (by intro k hk ht; first | omega | (dsimp only at *; omega)) | have hS34 := hS34.chT hc (by intro k hz hk ht; first | omega | (dsimp only at *; omega))
      first | have hS41 := hS41.ch hc (by intro k hk ht; first | omega | (dsimp only at *; omega)) | have hS41 := hS41.chT hc (by intro k hz hk ht; first | omega | (dsimp only at *; omega))
      rw [List.take_append_drop] at hs22 hrep22
      refine wl rfl rfl rfl (p_as rfl) ?_
      refine wl_nil ?_
      refine x_seq ?_
      refine wc_seq ?_
      refine wc_region ?_
      refine wl rfl rfl rfl (p_mv rfl) ?_
      refine wl rfl rfl rfl (p_mv rfl) ?_
      refine wl_g (gd_ rfl rfl rfl rfl rfl rfl) rfl rfl (p_mv rfl) ?_
      refine wl rfl rfl rfl (p_pickT rfl rfl) ?_
      refine wl rfl rfl rfl (p_mv rfl) ?_
      refine wl_g (gd_ rfl rfl rfl rfl rfl rfl) rfl rfl (p_mv rfl) ?_
      refine wle_g (gd_ rfl rfl rfl rfl rfl rfl) (e_call ent55 rfl rfl (ssum_any hs22 hrep22 (by first | omega | (simp only [List.length_append]; omega)) hrnd) ?_)
      rintro _ w8 ⟨rfl, hc⟩
      refine ⟨_, rfl, ?_⟩
      have hzw8 := hc.size
      have HC := HC.tr hc
      have hb := hb.no hc
      have hrnd := hrnd.no hc
      have hs22 := hs22.ch hc (fun h => h)
      have hS26 := hS26.no hc
      have hS34 := hS34.no hc
      have hS41 := hS41.no hc
      refine wl_g (gd_ rfl rfl rfl rfl rfl rfl) rfl rfl (p_mv rfl) ?_
      refine wle_g (gd_ rfl rfl rfl rfl rfl rfl) (e_call ent19 rfl rfl (sum_any (hb) (by omega) hrnd) ?_)
      rintro _ w9 ⟨rfl, hc⟩
      refine ⟨_, rfl, ?_⟩
      have hzw9 := hc.size
      have HC := HC.tr hc
      have hb := hb.no hc
      have hrnd := hrnd.no hc
      have hs22 := hs22.ch hc (fun h => h)
      have hS26 := hS26.no hc
      have hS34 := hS34.no hc
      have hS41 := hS41.no hc
      refine wl_g (gd_ rfl rfl rfl rfl rfl rfl) rfl rfl (p_eqH (a := (shaF _)) (b := (shaF _)) (by kernel_rfl) Tryd.underlying25 Tryd.underlying5 sz5 rfl rfl (shaF_len _) (shaF_len _)) ?_
      refine wl rfl rfl rfl (p_pickT rfl rfl) ?_
      refine wl rfl rfl rfl (p_mv rfl) ?_
      refine wl_know (d := 54) (b' := true) rfl (beq_self_eq_true _) ?_
      refine wl_g (gd_ rfl rfl rfl rfl rfl rfl) rfl rfl (p_mv rfl) ?_
      refine wle_g (gd_ rfl rfl rfl rfl rfl rfl) (e_call ent56 rfl rfl (slen_any hs22 hrep22) ?_)
      rintro _ w10 ⟨rfl, hc⟩
      refine ⟨_, rfl, ?_⟩
      have hzw10 := hc.size
      have HC := HC.tr hc
      have hb := hb.no hc
      have hrnd := hrnd.no hc
      have hs22 := hs22.ch hc (fun h => h)
      have hS26 := hS26.no hc
      have hS34 := hS34.no hc
      have hS41 := hS41.no hc
      refine wl_g (gd_ rfl rfl rfl rfl rfl rfl) rfl rfl (p_mv rfl) ?_
      refine wl_g (gd_ rfl rfl rfl rfl rfl rfl) rfl rfl (p_lenS Tryd.underlying22 rfl) ?_
      refine wl_g (gd_ rfl rfl rfl rfl rfl rfl) rfl rfl (p_eq rfl rfl) ?_
      refine wl rfl rfl rfl (p_pickT rfl rfl) ?_
      refine wl rfl rfl rfl (p_mv rfl) ?_
      refine wl_know (d := 61) (b' := true) rfl (decide_eq_true (by omega)) ?_
      refine wle_g (gd_ rfl rfl rfl rfl rfl rfl) (e_call ent18 rfl rfl (lives3_any hrnd) ?_)
      rintro _ w11 ⟨rfl, hc⟩
      refine ⟨_, rfl, ?_⟩
      have hzw11 := hc.size
      have HC := HC.tr hc
      have hb := hb.no hc
      have hrnd := hrnd.no hc
      have hs22 := hs22.ch hc (fun h => h)
      have hS26 := hS26.no hc
      have hS34 := hS34.no hc
      have hS41 := hS41.no hc
      refine wl rfl rfl rfl (p_pickT rfl rfl) ?_
      refine wl rfl rfl rfl (p_as rfl) ?_
      refine wl_nil ?_
      refine x_seq ?_
      refine wc_ret ?_
      refine fin_run (res1 rfl rfl) ?_
      exact ⟨rfl, HC⟩
    ·
      refine ws_s rfl (gd_ rfl rfl rfl rfl rfl rfl) rfl rfl ?_
      refine ws_s rfl (gd_ rfl rfl rfl rfl rfl rfl) rfl rfl ?_
      refine ws_s rfl (gd_ rfl rfl rfl rfl rfl rfl) rfl rfl ?_
      refine ws_s rfl (gd_ rfl rfl rfl rfl rfl rfl) rfl rfl ?_
      refine ws_s rfl (gd_ rfl rfl rfl rfl rfl rfl) rfl rfl ?_
      refine ws_s rfl (gd_ rfl rfl rfl rfl rfl rfl) rfl rfl ?_
      refine ws_s rfl (gd_ rfl rfl rfl rfl rfl rfl) rfl rfl ?_
      refine ws_p rfl rfl rfl rfl (p_pickF rfl rfl) ?_
      refine ws_n ?_
      refine x_seq ?_
      refine wc_no rfl (rfl) ?_
      refine wc_skip ?_
      refine x_seq ?_
      refine wc_seq ?_
      refine wc_region ?_
      refine wl rfl rfl rfl (p_mv rfl) ?_
      refine wl rfl rfl rfl (p_mv rfl) ?_
      refine wl rfl rfl rfl (p_mv rfl) ?_
      have hS41 := hb.cutTo (lo := k) hkl
      refine wl rfl rfl rfl (p_slS (l := k) (h := lb) Tryd.underlying22 sz5 rfl ⟨_, rfl⟩ rfl hkl (by have := hb.cap; omega) hb.cap (q := lb - k) rfl) ?_
      refine wle rfl (e_call ent54 rfl rfl (write_any hs22 hrep22 (hS41) (by intro k hk; first | omega | (dsimp only at *; omega)) (by omega) (by first | omega | (simp only [List.length_nil, List.length_append]; omega)) hrnd) ?_)
      rintro _ w12 ⟨rfl, hc, h42, r42, hs22, hrep22⟩
      refine ⟨_, rfl, ?_⟩
      have hzw12 := hc.size
      have HC := HC.trans hc (fun _ _ h => h) (fun k hk ht => absurd ht (by omega))
      first | have hb := hb.ch hc (by intro k hk ht; first | omega | (dsimp only at *; omega)) | have hb := hb.chT hc (by intro k hz hk ht; first | omega | (dsimp only at *; omega))
      first | have hrnd := hrnd.ch hc (by intro k hk ht; first | omega | (dsimp only at *; omega)) | have hrnd := hrnd.chT hc (by intro k hz hk ht; first | omega | (dsimp only at *; omega))
      first | have hS26 := hS26.ch hc (by intro k hk ht; first | omega | (dsimp only at *; omega)) | have hS26 := hS26.chT hc (by intro k hz hk ht; first | omega | (dsimp only at *; omega))
      first | have hS41 := hS41.ch hc (by intro k hk ht; first | omega | (dsimp only at *; omega)) | have hS41 := hS41.chT hc (by intro k hz hk ht; first | omega | (dsimp only at *; omega))
      rw [List.take_append_drop] at hs22 hrep22
      refine wl rfl rfl rfl (p_as rfl) ?_
      refine wl_nil ?_
      refine x_seq ?_
      refine wc_seq ?_
      refine wc_region ?_
      refine wl rfl rfl rfl (p_mv rfl) ?_
      refine wl rfl rfl rfl (p_mv rfl) ?_
      refine wl_g (gd_ rfl rfl rfl rfl rfl rfl) rfl rfl (p_mv rfl) ?_
      refine wl rfl rfl rfl (p_pickT rfl rfl) ?_
      refine wl rfl rfl rfl (p_mv rfl) ?_
      refine wl_g (gd_ rfl rfl rfl rfl rfl rfl) rfl rfl (p_mv rfl) ?_
      refine wle_g (gd_ rfl rfl rfl rfl rfl rfl) (e_call ent55 rfl rfl (ssum_any hs22 hrep22 (by first | omega | (simp only [List.length_append]; omega)) hrnd) ?_)
      rintro _ w13 ⟨rfl, hc⟩
      refine ⟨_, rfl, ?_⟩
      have hzw13 := hc.size
      have HC := HC.tr hc
      have hb := hb.no hc
      have hrnd := hrnd.no hc
      have hs22 := hs22.ch hc (fun h => h)
      have hS26 := hS26.no hc
      have hS41 := hS41.no hc
      refine wl_g (gd_ rfl rfl rfl rfl rfl rfl) rfl rfl (p_mv rfl) ?_
      refine wle_g (gd_ rfl rfl rfl rfl rfl rfl) (e_call ent19 rfl rfl (sum_any (hb) (by omega) hrnd) ?_)
      rintro _ w14 ⟨rfl, hc⟩
      refine ⟨_, rfl, ?_⟩
      have hzw14 := hc.size
      have HC := HC.tr hc
      have hb := hb.no hc
      have hrnd := hrnd.no hc
      have hs22 := hs22.ch hc (fun h => h)
      have hS26 := hS26.no hc
      have hS41 := hS41.no hc
      refine wl_g (gd_ rfl rfl rfl rfl rfl rfl) rfl rfl (p_eqH (a := (shaF _)) (b := (shaF _)) (by kernel_rfl) Tryd.underlying25 Tryd.underlying5 sz5 rfl rfl (shaF_len _) (shaF_len _)) ?_
      refine wl rfl rfl rfl (p_pickT rfl rfl) ?_
      refine wl rfl rfl rfl (p_mv rfl) ?_
      refine wl_know (d := 54) (b' := true) rfl (beq_self_eq_true _) ?_
      refine wl_g (gd_ rfl rfl rfl rfl rfl rfl) rfl rfl (p_mv rfl) ?_
      refine wle_g (gd_ rfl rfl rfl rfl rfl rfl) (e_call ent56 rfl rfl (slen_any hs22 hrep22) ?_)
      rintro _ w15 ⟨rfl, hc⟩
      refine ⟨_, rfl, ?_⟩
      have hzw15 := hc.size
      have HC := HC.tr hc
      have hb := hb.no hc
      have hrnd := hrnd.no hc
      have hs22 := hs22.ch hc (fun h => h)
      have hS26 := hS26.no hc
      have hS41 := hS41.no hc
      refine wl_g (gd_ rfl rfl rfl rfl rfl rfl) rfl rfl (p_mv rfl) ?_
      refine wl_g (gd_ rfl rfl rfl rfl rfl rfl) rfl rfl (p_lenS Tryd.underlying22 rfl) ?_
      refine wl_g (gd_ rfl rfl rfl rfl rfl rfl) rfl rfl (p_eq rfl rfl) ?_
      refine wl rfl rfl rfl (p_pickT rfl rfl) ?_
      refine wl rfl rfl rfl (p_mv rfl) ?_
      refine wl_know (d := 61) (b' := true) rfl (decide_eq_true (by omega)) ?_
      refine wle_g (gd_ rfl rfl rfl rfl rfl rfl) (e_call ent18 rfl rfl (lives3_any hrnd) ?_)
      rintro _ w16 ⟨rfl, hc⟩
      refine ⟨_, rfl, ?_⟩
      have hzw16 := hc.size
      have HC := HC.tr hc
      have hb := hb.no hc
      have hrnd := hrnd.no hc
      have hs22 := hs22.ch hc (fun h => h)
      have hS26 := hS26.no hc
      have hS41 := hS41.no hc
      refine wl rfl rfl rfl (p_pickT rfl rfl) ?_
      refine wl rfl rfl rfl (p_as rfl) ?_
      refine wl_nil ?_
      refine x_seq ?_
      refine wc_ret ?_
      refine fin_run (res1 rfl rfl) ?_
      exact ⟨rfl, HC⟩
end Go.Proofs.YtdbdconmcgcooaaDoor
