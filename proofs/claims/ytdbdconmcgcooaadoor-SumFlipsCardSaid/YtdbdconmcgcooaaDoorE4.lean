/-
  Own text, printed by a program of mine (wip/gx): what functions of the program do, walked operation by operation.
-/
import Derived.Test.YtdbdconmcgcooaaDoorProg
import Derived.Test.YtdbdconmcgcooaaDoorGxAux
import Derived.Test.YtdbdconmcgcooaaDoorTab
import Derived.Test.YtdbdconmcgcooaaDoorPlPack
import Derived.Test.YtdbdconmcgcooaaDoorPlPackB
import Derived.Test.YtdbdconmcgcooaaDoorPlSum
import Derived.Test.YtdbdconmcgcooaaDoorPlSumB
import Derived.Test.YtdbdconmcgcooaaDoorD2
import Derived.Test.YtdbdconmcgcooaaDoorD4
import Derived.Test.YtdbdconmcgcooaaDoorD5
import Derived.Test.YtdbdconmcgcooaaDoorD7
import Derived.Test.YtdbdconmcgcooaaDoorD8
set_option linter.unusedVariables false
namespace Go.Proofs.YtdbdconmcgcooaaDoor
open Go.RowKit Go.Gx
open Go.Plain
set_option maxHeartbeats 1000000 in
set_option maxRecDepth 20000 in
theorem sumFlips_walk {w : World} {Ab : Option Addr} {lb cb : Nat} {Fb : Nat → Prop} {b : List UInt8} {x : Nat} (hb : Sl w Fb u8v Ab lb cb b) (hx : x < 18446744073709551616) (hnib : Sl w (fun k => k = 0) u32v (some ⟨0, 0, none⟩) 16 16 nib) :
    Calls Tryd.prog 10 #[.slice Ab lb cb, u64v x] w fun e w' => e = .returned (.bool true) ∧ Ch No w w' := by
  have hn0 : 0 < w.heap.size := hnib.size (by omega) rfl
  have hbl := hb.len
  have hb := hb.old
  have HC : Ch No w w := Ch.refl _ _
  refine enter' (args := [.slice Ab lb cb, u64v x]) (n := 65) Tryd.func10 rfl rfl rfl ?_
  refine wc_seq ?_
  refine wc_region ?_
  refine wl rfl rfl rfl (p_as rfl) ?_
  refine wl_nil ?_
  refine x_seq ?_
  refine wc_seq ?_
  refine wc_seq ?_
  refine wc_region ?_
  refine wl rfl rfl rfl (p_mv rfl) ?_
  refine wl rfl rfl rfl (p_lenS Tryd.underlying22 rfl) ?_
  refine wl rfl rfl rfl (p_gt rfl rfl) ?_
  refine wl_nil ?_
  refine x_seq ?_
  refine wc_if rfl (fun c0 => ?_) (fun c0 => ?_)
  ·
    have c0 := of_decide_eq_true c0
    refine wc_seq ?_
    refine wc_region ?_
    refine wle rfl (e_call ent21 rfl rfl (lives2_any hnib) ?_)
    rintro _ w1 ⟨rfl, hc⟩
    refine ⟨_, rfl, ?_⟩
    have hzw1 := hc.size
    have HC := HC.tr hc
    have hb := hb.no hc
    have hnib := hnib.no hc
    refine wl rfl rfl rfl (p_as rfl) ?_
    refine wl_nil ?_
    refine x_seq ?_
    refine wc_ret ?_
    refine x_then_ret ?_
    refine fin_run (res1 rfl rfl) ?_
    exact ⟨rfl, HC⟩
  ·
    have c0 := of_decide_eq_false c0
    have hfl := frame_len (b := b) hbl (by omega)
    have hle := encN_len (x := lb) (by omega)
    have hle2 := encN_pos lb
    obtain ⟨j, hj⟩ : ∃ j, j = x % (8 * (frame b).length) := ⟨_, rfl⟩
    have hjl : j < 8 * (frame b).length := by rw [hj]; exact Nat.mod_lt _ (by omega)
    have hi : j / 8 < (frame b).length := by omega
    have hxx : (([] ++ frame b).getD (j / 8) 0 ^^^ UInt8.ofNat (2 ^ (j % 8))) ≠ (frame b).getD (j / 8) 0 := bit8 (Nat.mod_lt _ (by omega)) _
    have hflip : opk (([] ++ frame b).set (j / 8) (([] ++ frame b).getD (j / 8) 0 ^^^ UInt8.ofNat (2 ^ (j % 8)))) ≠ (frame b).length ∨ opo (([] ++ frame b).set (j / 8) (([] ++ frame b).getD (j / 8) 0 ^^^ UInt8.ofNat (2 ^ (j % 8)))) = false := flip_none (by omega) hi hxx
    have hcs : crc (([] ++ frame b).set (j / 8) (([] ++ frame b).getD (j / 8) 0 ^^^ UInt8.ofNat (2 ^ (j % 8)))) ≠ crc ([] ++ frame b) := crc_set hi hxx
    refine wc_skip ?_
    refine x_seq ?_
    refine wc_seq ?_
    refine wc_region ?_
    refine wle rfl (e_bsl (cs := #[]) (E := 5) rfl rfl (fun _ => by kernel_rfl) (fun w2 g15 hg15 hb15 hc hsz15 => ?_))
    have hzw2 := hc.size
    have HC := HC.tr hc
    have hb := hb.no hc
    have hnib := hnib.no hc
    have hge15 : w.heap.size ≤ g15 := by have := HC.size; omega
    have hW15 := Row.lit (l := 0) (f := u8v) (xs := []) (F := fun k => g15 ≤ k) hb15 (by first | omega | (dsimp only; omega)) rfl rfl (by simp [maxLen])
    refine wl rfl rfl rfl (p_mv rfl) ?_
    refine wle rfl (e_call ent32 rfl rfl (frame_any (hb) (by omega) hnib) ?_)
    rintro _ w3 ⟨A17, c17, rfl, hW17, hc⟩
    refine ⟨_, rfl, ?_⟩
    have hzw3 := hc.size
    have HC := HC.tr hc
    have hb := hb.no hc
    have hnib := hnib.no hc
    have hW15 := hW15.after hc
    refine wle rfl (e_appS rfl el22 one_u8 rfl rfl hW15 hW17.sl (by omega) (by intro k hk; first | omega | (dsimp only at *; omega)) (fun w4 A18 c18 hW15 hc => ?_))
    have hzw4 := hc.size
    have HC := HC.trans hc (fun _ _ h => h) (fun k hk ht => absurd ht (by first | omega | (dsimp only at *; omega)))
    first | have hb := hb.ch hc (by intro k hk ht; first | omega | (dsimp only at *; omega)) | have hb := hb.chT hc (by intro k hz hk ht; first | omega | (dsimp only at *; omega))
    first | have hnib := hnib.ch hc (by intro k hk ht; first | omega | (dsimp only at *; omega)) | have hnib := hnib.chT hc (by intro k hz hk ht; first | omega | (dsimp only at *; omega))
    have hW17 := hW17.afterT hc (by intro k hz hk ht; first | omega | (dsimp only at *; omega))
    refine wl rfl rfl rfl (p_as rfl) ?_
    refine wl_nil ?_
    refine x_seq ?_
    refine wc_seq ?_
    refine wc_seq ?_
    refine wc_region ?_
    refine wl rfl rfl rfl (p_mv rfl) ?_
    refine wl rfl rfl rfl (p_lenS Tryd.underlying22 rfl) ?_
    refine wl rfl rfl rfl (p_lt rfl rfl) ?_
    refine wl_nil ?_
    refine x_seq ?_
    refine wc_no rfl ((decide_eq_false (by omega))) ?_
    refine wc_skip ?_
    refine x_seq ?_
    refine wc_seq ?_
    refine wc_region ?_
    refine wl rfl rfl rfl (p_mv rfl) ?_
    refine wle rfl (e_call ent22 rfl rfl (of_any (hW15.sl) (by omega) hnib) ?_)
    rintro _ w5 ⟨rfl, hc⟩
    refine ⟨_, rfl, ?_⟩
    have hzw5 := hc.size
    have HC := HC.tr hc
    have hb := hb.no hc
    have hnib := hnib.no hc
    have hW15 := hW15.after hc
    have hW17 := hW17.after hc
    refine wl rfl rfl rfl (p_as rfl) ?_
    refine wl_nil ?_
    refine x_seq ?_
    refine wc_seq ?_
    refine wc_region ?_
    refine wl rfl rfl rfl (p_mv rfl) ?_
    refine wl rfl rfl rfl (p_mv rfl) ?_
    refine wl rfl rfl rfl (p_lenS Tryd.underlying22 rfl) ?_
    refine wl rfl rfl rfl (p_mul (Z := ((8 * (frame b).length : Nat) : Int)) rfl rfl (by rw [w64 (by omega)]; omega)) ?_
    refine wl rfl rfl rfl (p_conv Tryd.underlying3 Tryd.underlying46 rfl (wu64 (by omega))) ?_
    refine wl rfl rfl rfl (p_rem (Z := (j : Int)) rfl rfl (by omega) (by rw [hj]; rfl)) ?_
    refine wl rfl rfl rfl (p_conv Tryd.underlying46 Tryd.underlying3 rfl (w64 (by omega))) ?_
    refine wl rfl rfl rfl (p_as rfl) ?_
    refine wl_nil ?_
    refine x_seq ?_
    refine wc_seq ?_
    refine wc_region ?_
    refine wl rfl rfl rfl (p_mv rfl) ?_
    refine wl rfl rfl rfl (p_mv rfl) ?_
    refine wl rfl rfl rfl (p_quo (Z := ((j / 8 : Nat) : Int)) rfl rfl (by omega) (by rw [show ((j : Int)).tdiv 8 = ((j / 8 : Nat) : Int) from rfl, w64 (by omega)])) ?_
    obtain ⟨b6, o6, hA6, hF6, hc6⟩ := (hW15.sl).opn (d := 0) (by omega)
    refine wl rfl rfl rfl (p_ixS1 Tryd.underlying22 sz5 rfl hA6 rfl (by omega) (by omega) (Int.toNat_natCast _)) ?_
    refine wl rfl rfl rfl (p_ld Tryd.underlying5 rfl rfl (ld (hc6 _ (by omega)))) ?_
    refine wl rfl rfl rfl (p_mv rfl) ?_
    refine wl rfl rfl rfl (p_rem (Z := ((j % 8 : Nat) : Int)) rfl rfl (by omega) rfl) ?_
    refine wl rfl rfl rfl (p_conv Tryd.underlying3 Tryd.underlying46 rfl (wu64 (by omega))) ?_
    refine wl rfl rfl rfl (p_shl rfl rfl (by omega) (shl8 (k := j % 8) (by omega))) ?_
    refine wl rfl rfl rfl (p_xor8 rfl rfl) ?_
    obtain ⟨b7, o7, hA7, hF7, hc7⟩ := (hW15.sl).opn (d := 0) (by omega)
    refine wl rfl rfl rfl (p_ixS1 Tryd.underlying22 sz5 rfl hA7 rfl (by omega) (by omega) (Int.toNat_natCast _)) ?_
    refine wle rfl (e_stR one_u8 (by rfl) rfl rfl hW15 hA7 (by omega) (fun w8 hW15 hc hsz => ?_))
    have hzw8 := hc.size
    have HC := HC.trans hc (fun _ _ h => h) (fun k hk ht => absurd ht (by first | omega | (dsimp only at *; omega)))
    first | have hb := hb.ch hc (by intro k hk ht; first | omega | (dsimp only at *; omega)) | have hb := hb.chT hc (by intro k hz hk ht; first | omega | (dsimp only at *; omega))
    first | have hnib := hnib.ch hc (by intro k hk ht; first | omega | (dsimp only at *; omega)) | have hnib := hnib.chT hc (by intro k hz hk ht; first | omega | (dsimp only at *; omega))
    have hW17 := hW17.ch hc (by intro k hz hk ht; first | omega | (dsimp only at *; omega))
    refine wl_nil ?_
    refine x_seq ?_
    refine wc_seq ?_
    refine wc_region ?_
    refine wl rfl rfl rfl (p_mv rfl) ?_
    refine wle rfl (e_call ent33 rfl rfl (open_any (hW15.sl) (by omega) hnib) ?_)
    rintro _ w9 ⟨A44, c44, rfl, hW44, hc⟩
    refine ⟨_, rfl, ?_⟩
    have hzw9 := hc.size
    have HC := HC.tr hc
    have hb := hb.no hc
    have hnib := hnib.no hc
    have hW15 := hW15.after hc
    have hW17 := hW17.after hc
    refine wl rfl rfl rfl (p_mv rfl) ?_
    refine wl rfl rfl rfl (p_ext rfl rfl) ?_
    refine wl rfl rfl rfl (p_ext rfl rfl) ?_
    refine wl rfl rfl rfl (p_ext rfl rfl) ?_
    refine wl rfl rfl rfl (p_as rfl) ?_
    refine wl rfl rfl rfl (p_as rfl) ?_
    refine wl rfl rfl rfl (p_as rfl) ?_
    refine wl_nil ?_
    refine x_seq ?_
    refine wc_seq ?_
    refine wc_region ?_
    refine wl rfl rfl rfl (p_mv rfl) ?_
    refine wl rfl rfl rfl (p_not rfl) ?_
    refine wl rfl rfl rfl (p_mv rfl) ?_
    refine wl_split (d := 50) rfl (fun q50 => ?_) (fun q50 => ?_)
    ·
      refine wl_s (gd_ rfl rfl rfl rfl rfl rfl) rfl rfl ?_
      refine wl_s (gd_ rfl rfl rfl rfl rfl rfl) rfl rfl ?_
      refine wl_s (gd_ rfl rfl rfl rfl rfl rfl) rfl rfl ?_
      refine wl_s (gd_ rfl rfl rfl rfl rfl rfl) rfl rfl ?_
      refine wl rfl rfl rfl (p_pickT rfl rfl) ?_
      refine wl rfl rfl rfl (p_mv rfl) ?_
      refine wl_g (gd_ rfl rfl rfl rfl rfl rfl) rfl rfl (p_mv rfl) ?_
      refine wle_g (gd_ rfl rfl rfl rfl rfl rfl) (e_call ent22 rfl rfl (of_any (hW15.sl) (by omega) hnib) ?_)
      rintro _ w10 ⟨rfl, hc⟩
      refine ⟨_, rfl, ?_⟩
      have hzw10 := hc.size
      have HC := HC.tr hc
      have hb := hb.no hc
      have hnib := hnib.no hc
      have hW15 := hW15.after hc
      have hW17 := hW17.after hc
      have hW44 := hW44.after hc
      refine wl_g (gd_ rfl rfl rfl rfl rfl rfl) rfl rfl (p_mv rfl) ?_
      refine wl_g (gd_ rfl rfl rfl rfl rfl rfl) rfl rfl (p_ne rfl rfl) ?_
      refine wl rfl rfl rfl (p_pickT rfl rfl) ?_
      refine wl rfl rfl rfl (p_mv rfl) ?_
      refine wl_know (d := 62) (b' := true) rfl ((decide_eq_true (fun h => hcs (BitVec.eq_of_toNat_eq (by omega))))) ?_
      refine wle_g (gd_ rfl rfl rfl rfl rfl rfl) (e_call ent21 rfl rfl (lives2_any hnib) ?_)
      rintro _ w11 ⟨rfl, hc⟩
      refine ⟨_, rfl, ?_⟩
      have hzw11 := hc.size
      have HC := HC.tr hc
      have hb := hb.no hc
      have hnib := hnib.no hc
      have hW15 := hW15.after hc
      have hW17 := hW17.after hc
      have hW44 := hW44.after hc
      refine wl rfl rfl rfl (p_pickT rfl rfl) ?_
      refine wl rfl rfl rfl (p_as rfl) ?_
      refine wl_nil ?_
      refine x_seq ?_
      refine wc_ret ?_
      refine fin_run (res1 rfl rfl) ?_
      exact ⟨rfl, HC⟩
    ·
      refine wl_g (gd_ rfl rfl rfl rfl rfl rfl) rfl rfl (p_mv rfl) ?_
      refine wl_g (gd_ rfl rfl rfl rfl rfl rfl) rfl rfl (p_mv rfl) ?_
      refine wl_g (gd_ rfl rfl rfl rfl rfl rfl) rfl rfl (p_lenS Tryd.underlying22 rfl) ?_
      refine wl_g (gd_ rfl rfl rfl rfl rfl rfl) rfl rfl (p_ne rfl rfl) ?_
      refine wl rfl rfl rfl (p_pickF rfl rfl) ?_
      refine wl rfl rfl rfl (p_mv rfl) ?_
      refine wl_know (d := 56) (b' := true) rfl ((decide_eq_true (hflip.elim (fun h => by rw [Nat.zero_add]; exact fun e => h (by omega)) (fun h => by rw [h] at q50; cases q50)))) ?_
      refine wl_g (gd_ rfl rfl rfl rfl rfl rfl) rfl rfl (p_mv rfl) ?_
      refine wle_g (gd_ rfl rfl rfl rfl rfl rfl) (e_call ent22 rfl rfl (of_any (hW15.sl) (by omega) hnib) ?_)
      rintro _ w12 ⟨rfl, hc⟩
      refine ⟨_, rfl, ?_⟩
      have hzw12 := hc.size
      have HC := HC.tr hc
      have hb := hb.no hc
      have hnib := hnib.no hc
      have hW15 := hW15.after hc
      have hW17 := hW17.after hc
      have hW44 := hW44.after hc
      refine wl_g (gd_ rfl rfl rfl rfl rfl rfl) rfl rfl (p_mv rfl) ?_
      refine wl_g (gd_ rfl rfl rfl rfl rfl rfl) rfl rfl (p_ne rfl rfl) ?_
      refine wl rfl rfl rfl (p_pickT rfl rfl) ?_
      refine wl rfl rfl rfl (p_mv rfl) ?_
      refine wl_know (d := 62) (b' := true) rfl ((decide_eq_true (fun h => hcs (BitVec.eq_of_toNat_eq (by omega))))) ?_
      refine wle_g (gd_ rfl rfl rfl rfl rfl rfl) (e_call ent21 rfl rfl (lives2_any hnib) ?_)
      rintro _ w13 ⟨rfl, hc⟩
      refine ⟨_, rfl, ?_⟩
      have hzw13 := hc.size
      have HC := HC.tr hc
      have hb := hb.no hc
      have hnib := hnib.no hc
      have hW15 := hW15.after hc
      have hW17 := hW17.after hc
      have hW44 := hW44.after hc
      refine wl rfl rfl rfl (p_pickT rfl rfl) ?_
      refine wl rfl rfl rfl (p_as rfl) ?_
      refine wl_nil ?_
      refine x_seq ?_
      refine wc_ret ?_
      refine fin_run (res1 rfl rfl) ?_
      exact ⟨rfl, HC⟩
end Go.Proofs.YtdbdconmcgcooaaDoor
