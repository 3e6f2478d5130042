/-
  Own text, printed by a program of mine (wip/gx): what functions of the program do, walked operation by operation.
-/
import Derived.Test.YtdbdconmcgcooaaDoorProg
import Derived.Test.YtdbdconmcgcooaaDoorGxAux
import Derived.Test.YtdbdconmcgcooaaDoorTab
import Derived.Test.YtdbdconmcgcooaaDoorPlPack
import Derived.Test.YtdbdconmcgcooaaDoorPlPackB
import Derived.Test.YtdbdconmcgcooaaDoorPlSum
import Derived.Test.YtdbdconmcgcooaaDoorD4
import Derived.Test.YtdbdconmcgcooaaDoorD2
set_option linter.unusedVariables false
namespace Go.Proofs.YtdbdconmcgcooaaDoor
open Go.RowKit Go.Gx
open Go.Plain
set_option maxHeartbeats 1000000 in
set_option maxRecDepth 20000 in
theorem sumJoins_walk {w : World} {Aa : Option Addr} {la ca : Nat} {Fa : Nat → Prop} {a : List UInt8}{Ab : Option Addr} {lb cb : Nat} {Fb : Nat → Prop} {b : List UInt8} (ha : Sl w Fa u8v Aa la ca a) (hb : Sl w Fb u8v Ab lb cb b) (hnib : Sl w (fun k => k = 0) u32v (some ⟨0, 0, none⟩) 16 16 nib) :
    Calls Tryd.prog 4 #[.slice Aa la ca, .slice Ab lb cb] w fun e w' => e = .returned (.bool true) ∧ Ch No w w' := by
  have hn0 : 0 < w.heap.size := hnib.size (by omega) rfl
  have hal := ha.len
  have hbl := hb.len
  have ha := ha.old
  have hb := hb.old
  have HC : Ch No w w := Ch.refl _ _
  refine enter' (args := [.slice Aa la ca, .slice Ab lb cb]) (n := 49) Tryd.func4 rfl rfl rfl ?_
  refine wc_seq ?_
  refine wc_region ?_
  refine wl rfl rfl rfl (p_as rfl) ?_
  refine wl_nil ?_
  refine x_seq ?_
  refine wc_seq ?_
  refine wc_seq ?_
  refine wc_region ?_
  refine wl rfl rfl rfl (p_mv rfl) ?_
  refine wl rfl rfl rfl (p_lenS Tryd.underlying22 rfl) ?_
  refine wl rfl rfl rfl (p_gt rfl rfl) ?_
  refine wl rfl rfl rfl (p_mv rfl) ?_
  refine wl_split (d := 9) rfl (fun q9 => ?_) (fun q9 => ?_)
  ·
    have q9 := of_decide_eq_true q9
    refine wl_s (gd_ rfl rfl rfl rfl rfl rfl) rfl rfl ?_
    refine wl_s (gd_ rfl rfl rfl rfl rfl rfl) rfl rfl ?_
    refine wl_s (gd_ rfl rfl rfl rfl rfl rfl) rfl rfl ?_
    refine wl rfl rfl rfl (p_pickT rfl rfl) ?_
    refine wl_nil ?_
    refine x_seq ?_
    refine wc_yes rfl (rfl) ?_
    refine wc_seq ?_
    refine wc_region ?_
    refine wle rfl (e_call ent21 rfl rfl (lives2_any hnib) ?_)
    rintro _ w1 ⟨rfl, hc⟩
    refine ⟨_, rfl, ?_⟩
    have hzw1 := hc.size
    have HC := HC.tr hc
    have ha := ha.no hc
    have hb := hb.no hc
    have hnib := hnib.no hc
    refine wl rfl rfl rfl (p_as rfl) ?_
    refine wl_nil ?_
    refine x_seq ?_
    refine wc_ret ?_
    refine x_then_ret ?_
    refine fin_run (res1 rfl rfl) ?_
    exact ⟨rfl, HC⟩
  ·
    have q9 := of_decide_eq_false q9
    refine wl_g (gd_ rfl rfl rfl rfl rfl rfl) rfl rfl (p_mv rfl) ?_
    refine wl_g (gd_ rfl rfl rfl rfl rfl rfl) rfl rfl (p_lenS Tryd.underlying22 rfl) ?_
    refine wl_g (gd_ rfl rfl rfl rfl rfl rfl) rfl rfl (p_gt rfl rfl) ?_
    refine wl rfl rfl rfl (p_pickF rfl rfl) ?_
    refine wl_nil ?_
    refine x_seq ?_
    refine wc_if rfl (fun c0 => ?_) (fun c0 => ?_)
    ·
      have c0 := of_decide_eq_true c0
      refine wc_seq ?_
      refine wc_region ?_
      refine wle rfl (e_call ent21 rfl rfl (lives2_any hnib) ?_)
      rintro _ w2 ⟨rfl, hc⟩
      refine ⟨_, rfl, ?_⟩
      have hzw2 := hc.size
      have HC := HC.tr hc
      have ha := ha.no hc
      have hb := hb.no hc
      have hnib := hnib.no hc
      refine wl rfl rfl rfl (p_as rfl) ?_
      refine wl_nil ?_
      refine x_seq ?_
      refine wc_ret ?_
      refine x_then_ret ?_
      refine fin_run (res1 rfl rfl) ?_
      exact ⟨rfl, HC⟩
    ·
      have c0 := of_decide_eq_false c0
      refine wc_skip ?_
      refine x_seq ?_
      refine wc_seq ?_
      refine wc_region ?_
      refine wle rfl (e_bsl (cs := #[]) (E := 5) rfl rfl (fun _ => by kernel_rfl) (fun w3 g15 hg15 hb15 hc hsz15 => ?_))
      have hzw3 := hc.size
      have HC := HC.tr hc
      have ha := ha.no hc
      have hb := hb.no hc
      have hnib := hnib.no hc
      have hge15 : w.heap.size ≤ g15 := by have := HC.size; omega
      have hW15 := Row.lit (l := 0) (f := u8v) (xs := []) (F := fun k => g15 ≤ k) hb15 (by first | omega | (dsimp only; omega)) rfl rfl (by simp [maxLen])
      refine wl rfl rfl rfl (p_mv rfl) ?_
      refine wle rfl (e_appS rfl el22 one_u8 rfl rfl hW15 ha (by omega) (by intro k hk; first | omega | (dsimp only at *; omega)) (fun w4 A17 c17 hW15 hc => ?_))
      have hzw4 := hc.size
      have HC := HC.trans hc (fun _ _ h => h) (fun k hk ht => absurd ht (by first | omega | (dsimp only at *; omega)))
      first | have ha := ha.ch hc (by intro k hk ht; first | omega | (dsimp only at *; omega)) | have ha := ha.chT hc (by intro k hz hk ht; first | omega | (dsimp only at *; omega))
      first | have hb := hb.ch hc (by intro k hk ht; first | omega | (dsimp only at *; omega)) | have hb := hb.chT hc (by intro k hz hk ht; first | omega | (dsimp only at *; omega))
      first | have hnib := hnib.ch hc (by intro k hk ht; first | omega | (dsimp only at *; omega)) | have hnib := hnib.chT hc (by intro k hz hk ht; first | omega | (dsimp only at *; omega))
      refine wl rfl rfl rfl (p_mv rfl) ?_
      refine wle rfl (e_appS rfl el22 one_u8 rfl rfl hW15 hb (by omega) (by intro k hk; first | omega | (dsimp only at *; omega)) (fun w5 A19 c19 hW15 hc => ?_))
      have hzw5 := hc.size
      have HC := HC.trans hc (fun _ _ h => h) (fun k hk ht => absurd ht (by first | omega | (dsimp only at *; omega)))
      first | have ha := ha.ch hc (by intro k hk ht; first | omega | (dsimp only at *; omega)) | have ha := ha.chT hc (by intro k hz hk ht; first | omega | (dsimp only at *; omega))
      first | have hb := hb.ch hc (by intro k hk ht; first | omega | (dsimp only at *; omega)) | have hb := hb.chT hc (by intro k hz hk ht; first | omega | (dsimp only at *; omega))
      first | have hnib := hnib.ch hc (by intro k hk ht; first | omega | (dsimp only at *; omega)) | have hnib := hnib.chT hc (by intro k hz hk ht; first | omega | (dsimp only at *; omega))
      refine wle rfl (e_call ent22 rfl rfl (of_any (hW15.sl) (by omega) hnib) ?_)
      rintro _ w6 ⟨rfl, hc⟩
      refine ⟨_, rfl, ?_⟩
      have hzw6 := hc.size
      have HC := HC.tr hc
      have ha := ha.no hc
      have hb := hb.no hc
      have hnib := hnib.no hc
      have hW15 := hW15.after hc
      refine wl rfl rfl rfl (p_as rfl) ?_
      refine wl_nil ?_
      refine x_seq ?_
      refine wc_seq ?_
      refine wc_region ?_
      refine wl rfl rfl rfl (p_mv rfl) ?_
      refine wle rfl (e_call ent22 rfl rfl (of_any (ha) (by omega) hnib) ?_)
      rintro _ w7 ⟨rfl, hc⟩
      refine ⟨_, rfl, ?_⟩
      have hzw7 := hc.size
      have HC := HC.tr hc
      have ha := ha.no hc
      have hb := hb.no hc
      have hnib := hnib.no hc
      have hW15 := hW15.after hc
      refine wl rfl rfl rfl (p_mv rfl) ?_
      refine wle rfl (e_call ent23 rfl rfl (add_any (hb) (by omega) hnib) ?_)
      rintro _ w8 ⟨rfl, hc⟩
      refine ⟨_, rfl, ?_⟩
      have hzw8 := hc.size
      have HC := HC.tr hc
      have ha := ha.no hc
      have hb := hb.no hc
      have hnib := hnib.no hc
      have hW15 := hW15.after hc
      refine wl rfl rfl rfl (p_mv rfl) ?_
      refine wl rfl rfl rfl (p_eq rfl rfl) ?_
      refine wl rfl rfl rfl (p_mv rfl) ?_
      refine wl_know (d := 27) (b' := true) rfl (by rw [crc_append]; exact decide_eq_true rfl) ?_
      refine wl_g (gd_ rfl rfl rfl rfl rfl rfl) rfl rfl (p_mv rfl) ?_
      refine wle_g (gd_ rfl rfl rfl rfl rfl rfl) (e_call ent22 rfl rfl (of_any (ha) (by omega) hnib) ?_)
      rintro _ w9 ⟨rfl, hc⟩
      refine ⟨_, rfl, ?_⟩
      have hzw9 := hc.size
      have HC := HC.tr hc
      have ha := ha.no hc
      have hb := hb.no hc
      have hnib := hnib.no hc
      have hW15 := hW15.after hc
      refine wl_g (gd_ rfl rfl rfl rfl rfl rfl) rfl rfl (p_mv rfl) ?_
      refine wle_g (gd_ rfl rfl rfl rfl rfl rfl) (e_call ent22 rfl rfl (of_any (hb) (by omega) hnib) ?_)
      rintro _ w10 ⟨rfl, hc⟩
      refine ⟨_, rfl, ?_⟩
      have hzw10 := hc.size
      have HC := HC.tr hc
      have ha := ha.no hc
      have hb := hb.no hc
      have hnib := hnib.no hc
      have hW15 := hW15.after hc
      refine wl_g (gd_ rfl rfl rfl rfl rfl rfl) rfl rfl (p_mv rfl) ?_
      refine wl_g (gd_ rfl rfl rfl rfl rfl rfl) rfl rfl (p_lenS Tryd.underlying22 rfl) ?_
      refine wle_g (gd_ rfl rfl rfl rfl rfl rfl) (e_call ent24 rfl rfl (join_any (n := _) (by omega)) ?_)
      rintro _ w11 ⟨rfl, hc⟩
      refine ⟨_, rfl, ?_⟩
      have hzw11 := hc.size
      have HC := HC.tr hc
      have ha := ha.no hc
      have hb := hb.no hc
      have hnib := hnib.no hc
      have hW15 := hW15.after hc
      refine wl_g (gd_ rfl rfl rfl rfl rfl rfl) rfl rfl (p_mv rfl) ?_
      refine wl_g (gd_ rfl rfl rfl rfl rfl rfl) rfl rfl (p_eq rfl rfl) ?_
      refine wl rfl rfl rfl (p_pickT rfl rfl) ?_
      refine wl rfl rfl rfl (p_mv rfl) ?_
      refine wl_know (d := 38) (b' := true) rfl (by rw [← hbl, crc_join]; exact decide_eq_true rfl) ?_
      refine wl_g (gd_ rfl rfl rfl rfl rfl rfl) rfl rfl (p_mv rfl) ?_
      refine wle_g (gd_ rfl rfl rfl rfl rfl rfl) (e_call ent22 rfl rfl (of_any (ha) (by omega) hnib) ?_)
      rintro _ w12 ⟨rfl, hc⟩
      refine ⟨_, rfl, ?_⟩
      have hzw12 := hc.size
      have HC := HC.tr hc
      have ha := ha.no hc
      have hb := hb.no hc
      have hnib := hnib.no hc
      have hW15 := hW15.after hc
      refine wle_g (gd_ rfl rfl rfl rfl rfl rfl) (e_call ent24 rfl rfl (join_any (b := 0#32) (n := 0) (by omega)) ?_)
      rintro _ w13 ⟨rfl, hc⟩
      refine ⟨_, rfl, ?_⟩
      have hzw13 := hc.size
      have HC := HC.tr hc
      have ha := ha.no hc
      have hb := hb.no hc
      have hnib := hnib.no hc
      have hW15 := hW15.after hc
      refine wl_g (gd_ rfl rfl rfl rfl rfl rfl) rfl rfl (p_mv rfl) ?_
      refine wle_g (gd_ rfl rfl rfl rfl rfl rfl) (e_call ent22 rfl rfl (of_any (ha) (by omega) hnib) ?_)
      rintro _ w14 ⟨rfl, hc⟩
      refine ⟨_, rfl, ?_⟩
      have hzw14 := hc.size
      have HC := HC.tr hc
      have ha := ha.no hc
      have hb := hb.no hc
      have hnib := hnib.no hc
      have hW15 := hW15.after hc
      refine wl_g (gd_ rfl rfl rfl rfl rfl rfl) rfl rfl (p_eq rfl rfl) ?_
      refine wl rfl rfl rfl (p_pickT rfl rfl) ?_
      refine wl rfl rfl rfl (p_mv rfl) ?_
      refine wl_know (d := 46) (b' := true) rfl (by rw [BitVec.xor_zero]; exact decide_eq_true rfl) ?_
      refine wle_g (gd_ rfl rfl rfl rfl rfl rfl) (e_call ent21 rfl rfl (lives2_any hnib) ?_)
      rintro _ w15 ⟨rfl, hc⟩
      refine ⟨_, rfl, ?_⟩
      have hzw15 := hc.size
      have HC := HC.tr hc
      have ha := ha.no hc
      have hb := hb.no hc
      have hnib := hnib.no hc
      have hW15 := hW15.after hc
      refine wl rfl rfl rfl (p_pickT rfl rfl) ?_
      refine wl rfl rfl rfl (p_as rfl) ?_
      refine wl_nil ?_
      refine x_seq ?_
      refine wc_ret ?_
      refine fin_run (res1 rfl rfl) ?_
      exact ⟨rfl, HC⟩
end Go.Proofs.YtdbdconmcgcooaaDoor
