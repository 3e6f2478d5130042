/-
  Own text, printed by a program of mine (wip/gx): what functions of the program do, walked operation by operation.
-/
import Derived.Test.YtdbdconmcgcooaaDoorProg
import Derived.Test.YtdbdconmcgcooaaDoorGxAux
import Derived.Test.YtdbdconmcgcooaaDoorTab
import Derived.Test.YtdbdconmcgcooaaDoorPlPack
import Derived.Test.YtdbdconmcgcooaaDoorPlPackB
import Derived.Test.YtdbdconmcgcooaaDoorPlSum
import Derived.Test.YtdbdconmcgcooaaDoorPlSumB
import Derived.Test.YtdbdconmcgcooaaDoorD2
import Derived.Test.YtdbdconmcgcooaaDoorD4
import Derived.Test.YtdbdconmcgcooaaDoorD5
import Derived.Test.YtdbdconmcgcooaaDoorD7
import Derived.Test.YtdbdconmcgcooaaDoorD8
set_option linter.unusedVariables false
namespace Go.Proofs.YtdbdconmcgcooaaDoor
open Go.RowKit Go.Gx
open Go.Plain
set_option maxHeartbeats 1000000 in
set_option maxRecDepth 20000 in
theorem sumBack_walk {w : World} {Ab : Option Addr} {lb cb : Nat} {Fb : Nat → Prop} {b : List UInt8}{Ar : Option Addr} {lr cr : Nat} {Fr : Nat → Prop} {r : List UInt8} {x : Nat} (hb : Sl w Fb u8v Ab lb cb b) (hr : Sl w Fr u8v Ar lr cr r) (hx : x < 18446744073709551616) (hnib : Sl w (fun k => k = 0) u32v (some ⟨0, 0, none⟩) 16 16 nib) :
    Calls Tryd.prog 9 #[.slice Ab lb cb, .slice Ar lr cr, u64v x] w fun e w' => e = .returned (.bool true) ∧ Ch No w w' := by
  have hn0 : 0 < w.heap.size := hnib.size (by omega) rfl
  have hbl := hb.len
  have hrl := hr.len
  have hb := hb.old
  have hr := hr.old
  have HC : Ch No w w := Ch.refl _ _
  refine enter' (args := [.slice Ab lb cb, .slice Ar lr cr, u64v x]) (n := 72) Tryd.func9 rfl rfl rfl ?_
  refine wc_seq ?_
  refine wc_region ?_
  refine wl rfl rfl rfl (p_as rfl) ?_
  refine wl_nil ?_
  refine x_seq ?_
  refine wc_seq ?_
  refine wc_seq ?_
  refine wc_region ?_
  refine wl rfl rfl rfl (p_mv rfl) ?_
  refine wl rfl rfl rfl (p_lenS Tryd.underlying22 rfl) ?_
  refine wl rfl rfl rfl (p_gt rfl rfl) ?_
  refine wl rfl rfl rfl (p_mv rfl) ?_
  refine wl_split (d := 17) rfl (fun q17 => ?_) (fun q17 => ?_)
  ·
    have q17 := of_decide_eq_true q17
    refine wl_s (gd_ rfl rfl rfl rfl rfl rfl) rfl rfl ?_
    refine wl_s (gd_ rfl rfl rfl rfl rfl rfl) rfl rfl ?_
    refine wl_s (gd_ rfl rfl rfl rfl rfl rfl) rfl rfl ?_
    refine wl rfl rfl rfl (p_pickT rfl rfl) ?_
    refine wl_nil ?_
    refine x_seq ?_
    refine wc_yes rfl (rfl) ?_
    refine wc_seq ?_
    refine wc_region ?_
    refine wle rfl (e_call ent21 rfl rfl (lives2_any hnib) ?_)
    rintro _ w1 ⟨rfl, hc⟩
    refine ⟨_, rfl, ?_⟩
    have hzw1 := hc.size
    have HC := HC.tr hc
    have hb := hb.no hc
    have hr := hr.no hc
    have hnib := hnib.no hc
    refine wl rfl rfl rfl (p_as rfl) ?_
    refine wl_nil ?_
    refine x_seq ?_
    refine wc_ret ?_
    refine x_then_ret ?_
    refine fin_run (res1 rfl rfl) ?_
    exact ⟨rfl, HC⟩
  ·
    have q17 := of_decide_eq_false q17
    refine wl_g (gd_ rfl rfl rfl rfl rfl rfl) rfl rfl (p_mv rfl) ?_
    refine wl_g (gd_ rfl rfl rfl rfl rfl rfl) rfl rfl (p_lenS Tryd.underlying22 rfl) ?_
    refine wl_g (gd_ rfl rfl rfl rfl rfl rfl) rfl rfl (p_gt rfl rfl) ?_
    refine wl rfl rfl rfl (p_pickF rfl rfl) ?_
    refine wl_nil ?_
    refine x_seq ?_
    refine wc_if rfl (fun c0 => ?_) (fun c0 => ?_)
    ·
      have c0 := of_decide_eq_true c0
      refine wc_seq ?_
      refine wc_region ?_
      refine wle rfl (e_call ent21 rfl rfl (lives2_any hnib) ?_)
      rintro _ w2 ⟨rfl, hc⟩
      refine ⟨_, rfl, ?_⟩
      have hzw2 := hc.size
      have HC := HC.tr hc
      have hb := hb.no hc
      have hr := hr.no hc
      have hnib := hnib.no hc
      refine wl rfl rfl rfl (p_as rfl) ?_
      refine wl_nil ?_
      refine x_seq ?_
      refine wc_ret ?_
      refine x_then_ret ?_
      refine fin_run (res1 rfl rfl) ?_
      exact ⟨rfl, HC⟩
    ·
      have c0 := of_decide_eq_false c0
      have hfl := frame_len (b := b) hbl (by omega)
      have hle := encN_len (x := lb) (by omega)
      have hle2 := encN_pos lb
      have hop := op_some (opn_frame (b := b) (by omega) r)
      obtain ⟨j, hj⟩ : ∃ j, j = x % (frame b).length := ⟨_, rfl⟩
      have hjl : j < (frame b).length := by rw [hj]; exact Nat.mod_lt _ (by omega)
      have hcut := op_none (opn_cut (b := b) (by omega) hjl)
      refine wc_skip ?_
      refine x_seq ?_
      refine wc_seq ?_
      refine wc_region ?_
      refine wl rfl rfl rfl (p_mv rfl) ?_
      refine wle rfl (e_call ent32 rfl rfl (frame_any (hb) (by omega) hnib) ?_)
      rintro _ w3 ⟨A24, c24, rfl, hW24, hc⟩
      refine ⟨_, rfl, ?_⟩
      have hzw3 := hc.size
      have HC := HC.tr hc
      have hb := hb.no hc
      have hr := hr.no hc
      have hnib := hnib.no hc
      refine wl rfl rfl rfl (p_as rfl) ?_
      refine wl_nil ?_
      refine x_seq ?_
      refine wc_seq ?_
      refine wc_region ?_
      refine wle rfl (e_bsl (cs := #[]) (E := 5) rfl rfl (fun _ => by kernel_rfl) (fun w4 g26 hg26 hb26 hc hsz26 => ?_))
      have hzw4 := hc.size
      have HC := HC.tr hc
      have hb := hb.no hc
      have hr := hr.no hc
      have hnib := hnib.no hc
      have hW24 := hW24.after hc
      have hge26 : w.heap.size ≤ g26 := by have := HC.size; omega
      have hW26 := Row.lit (l := 0) (f := u8v) (xs := []) (F := fun k => g26 ≤ k) hb26 (by first | omega | (dsimp only; omega)) rfl rfl (by simp [maxLen])
      refine wl rfl rfl rfl (p_mv rfl) ?_
      refine wle rfl (e_appS rfl el22 one_u8 rfl rfl hW26 hW24.sl (by omega) (by intro k hk; first | omega | (dsimp only at *; omega)) (fun w5 A28 c28 hW26 hc => ?_))
      have hzw5 := hc.size
      have HC := HC.trans hc (fun _ _ h => h) (fun k hk ht => absurd ht (by first | omega | (dsimp only at *; omega)))
      first | have hb := hb.ch hc (by intro k hk ht; first | omega | (dsimp only at *; omega)) | have hb := hb.chT hc (by intro k hz hk ht; first | omega | (dsimp only at *; omega))
      first | have hr := hr.ch hc (by intro k hk ht; first | omega | (dsimp only at *; omega)) | have hr := hr.chT hc (by intro k hz hk ht; first | omega | (dsimp only at *; omega))
      first | have hnib := hnib.ch hc (by intro k hk ht; first | omega | (dsimp only at *; omega)) | have hnib := hnib.chT hc (by intro k hz hk ht; first | omega | (dsimp only at *; omega))
      have hW24 := hW24.afterT hc (by intro k hz hk ht; first | omega | (dsimp only at *; omega))
      refine wl rfl rfl rfl (p_mv rfl) ?_
      refine wle rfl (e_appS rfl el22 one_u8 rfl rfl hW26 hr (by omega) (by intro k hk; first | omega | (dsimp only at *; omega)) (fun w6 A30 c30 hW26 hc => ?_))
      have hzw6 := hc.size
      have HC := HC.trans hc (fun _ _ h => h) (fun k hk ht => absurd ht (by first | omega | (dsimp only at *; omega)))
      first | have hb := hb.ch hc (by intro k hk ht; first | omega | (dsimp only at *; omega)) | have hb := hb.chT hc (by intro k hz hk ht; first | omega | (dsimp only at *; omega))
      first | have hr := hr.ch hc (by intro k hk ht; first | omega | (dsimp only at *; omega)) | have hr := hr.chT hc (by intro k hz hk ht; first | omega | (dsimp only at *; omega))
      first | have hnib := hnib.ch hc (by intro k hk ht; first | omega | (dsimp only at *; omega)) | have hnib := hnib.chT hc (by intro k hz hk ht; first | omega | (dsimp only at *; omega))
      have hW24 := hW24.afterT hc (by intro k hz hk ht; first | omega | (dsimp only at *; omega))
      refine wle rfl (e_call ent33 rfl rfl (open_any (hW26.sl) (by omega) hnib) ?_)
      rintro _ w7 ⟨A31, c31, rfl, hW31, hc⟩
      refine ⟨_, rfl, ?_⟩
      have hzw7 := hc.size
      have HC := HC.tr hc
      have hb := hb.no hc
      have hr := hr.no hc
      have hnib := hnib.no hc
      have hW24 := hW24.after hc
      have hW26 := hW26.after hc
      refine wl rfl rfl rfl (p_mv rfl) ?_
      refine wl rfl rfl rfl (p_ext rfl rfl) ?_
      refine wl rfl rfl rfl (p_ext rfl rfl) ?_
      refine wl rfl rfl rfl (p_ext rfl rfl) ?_
      refine wl rfl rfl rfl (p_as rfl) ?_
      refine wl rfl rfl rfl (p_as rfl) ?_
      refine wl rfl rfl rfl (p_as rfl) ?_
      refine wl_nil ?_
      refine x_seq ?_
      refine wc_seq ?_
      refine wc_seq ?_
      refine wc_region ?_
      refine wl rfl rfl rfl (p_mv rfl) ?_
      refine wl rfl rfl rfl (p_not rfl) ?_
      refine wl rfl rfl rfl (p_mv rfl) ?_
      refine wl_know (d := 37) (b' := false) rfl ((congrArg (fun z => !z) hop.2.2)) ?_
      refine wl_g (gd_ rfl rfl rfl rfl rfl rfl) rfl rfl (p_mv rfl) ?_
      refine wl_g (gd_ rfl rfl rfl rfl rfl rfl) rfl rfl (p_mv rfl) ?_
      refine wl_g (gd_ rfl rfl rfl rfl rfl rfl) rfl rfl (p_lenS Tryd.underlying22 rfl) ?_
      refine wl_g (gd_ rfl rfl rfl rfl rfl rfl) rfl rfl (p_ne rfl rfl) ?_
      refine wl rfl rfl rfl (p_pickF rfl rfl) ?_
      refine wl rfl rfl rfl (p_mv rfl) ?_
      refine wl_know (d := 43) (b' := false) rfl ((decide_eq_false (fun h => h (congrArg (fun z : Nat => (z : Int)) hop.2.1)))) ?_
      refine wl_g (gd_ rfl rfl rfl rfl rfl rfl) rfl rfl (p_mv rfl) ?_
      refine wl_g (gd_ rfl rfl rfl rfl rfl rfl) rfl rfl (p_bts Tryd.underlying22 Tryd.underlying5 Tryd.underlying9 rfl (hW31.sl).len (fun _ e => e ▸ (hW31.sl).rd)) ?_
      refine wl_g (gd_ rfl rfl rfl rfl rfl rfl) rfl rfl (p_mv rfl) ?_
      refine wl_g (gd_ rfl rfl rfl rfl rfl rfl) rfl rfl (p_bts Tryd.underlying22 Tryd.underlying5 Tryd.underlying9 rfl (hb).len (fun _ e => e ▸ (hb).rd)) ?_
      refine wl_g (gd_ rfl rfl rfl rfl rfl rfl) rfl rfl (p_neT rfl rfl) ?_
      refine wl rfl rfl rfl (p_pickF rfl rfl) ?_
      refine wl_nil ?_
      refine x_seq ?_
      refine wc_no rfl ((by rw [show opx (([] ++ frame b) ++ r) = b from hop.1, beq_self_eq_true]; rfl)) ?_
      refine wc_skip ?_
      refine x_seq ?_
      refine wc_seq ?_
      refine wc_region ?_
      refine wl rfl rfl rfl (p_mv rfl) ?_
      refine wl rfl rfl rfl (p_mv rfl) ?_
      refine wl rfl rfl rfl (p_mv rfl) ?_
      refine wl rfl rfl rfl (p_lenS Tryd.underlying22 rfl) ?_
      refine wl rfl rfl rfl (p_conv Tryd.underlying3 Tryd.underlying46 rfl (wu64 (by omega))) ?_
      refine wl rfl rfl rfl (p_rem (Z := (j : Int)) rfl rfl (by omega) (by rw [hj]; rfl)) ?_
      refine wl rfl rfl rfl (p_conv Tryd.underlying46 Tryd.underlying3 rfl (w64 (by omega))) ?_
      have hcp := hW24.cap_
      have hS58 := hW24.sl.cut (lo := 0) (hi := j) (q := j) (by omega) (by omega) rfl
      refine wl rfl rfl rfl (p_slS (l := 0) (h := j) Tryd.underlying22 sz5 rfl rfl ⟨_, rfl⟩ (by omega) (by omega) hcp (q := j) rfl) ?_
      refine wle rfl (e_call ent33 rfl rfl (open_any (hS58) (by omega) hnib) ?_)
      rintro _ w8 ⟨A59, c59, rfl, hW59, hc⟩
      refine ⟨_, rfl, ?_⟩
      have hzw8 := hc.size
      have HC := HC.tr hc
      have hb := hb.no hc
      have hr := hr.no hc
      have hnib := hnib.no hc
      have hW24 := hW24.after hc
      have hW26 := hW26.after hc
      have hW31 := hW31.after hc
      have hS58 := hS58.no hc
      refine wl rfl rfl rfl (p_mv rfl) ?_
      refine wl rfl rfl rfl (p_ext rfl rfl) ?_
      refine wl rfl rfl rfl (p_ext rfl rfl) ?_
      refine wl rfl rfl rfl (p_ext rfl rfl) ?_
      refine wl rfl rfl rfl (p_as rfl) ?_
      refine wl rfl rfl rfl (p_as rfl) ?_
      refine wl rfl rfl rfl (p_as rfl) ?_
      refine wl_nil ?_
      refine x_seq ?_
      refine wc_seq ?_
      refine wc_region ?_
      refine wl rfl rfl rfl (p_mv rfl) ?_
      refine wl rfl rfl rfl (p_not rfl) ?_
      refine wl rfl rfl rfl (p_mv rfl) ?_
      refine wl_know (d := 65) (b' := true) rfl ((congrArg (fun z => !z) hcut.2.2)) ?_
      refine wl_g (gd_ rfl rfl rfl rfl rfl rfl) rfl rfl (p_mv rfl) ?_
      refine wl_g (gd_ rfl rfl rfl rfl rfl rfl) rfl rfl (p_eq rfl rfl) ?_
      refine wl rfl rfl rfl (p_pickT rfl rfl) ?_
      refine wl rfl rfl rfl (p_mv rfl) ?_
      refine wl_know (d := 69) (b' := true) rfl ((decide_eq_true (congrArg (fun z : Nat => (z : Int)) hcut.2.1))) ?_
      refine wle_g (gd_ rfl rfl rfl rfl rfl rfl) (e_call ent21 rfl rfl (lives2_any hnib) ?_)
      rintro _ w9 ⟨rfl, hc⟩
      refine ⟨_, rfl, ?_⟩
      have hzw9 := hc.size
      have HC := HC.tr hc
      have hb := hb.no hc
      have hr := hr.no hc
      have hnib := hnib.no hc
      have hW24 := hW24.after hc
      have hW26 := hW26.after hc
      have hW31 := hW31.after hc
      have hS58 := hS58.no hc
      have hW59 := hW59.after hc
      refine wl rfl rfl rfl (p_pickT rfl rfl) ?_
      refine wl rfl rfl rfl (p_as rfl) ?_
      refine wl_nil ?_
      refine x_seq ?_
      refine wc_ret ?_
      refine fin_run (res1 rfl rfl) ?_
      exact ⟨rfl, HC⟩
end Go.Proofs.YtdbdconmcgcooaaDoor
