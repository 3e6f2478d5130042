/-
  Own text, printed by a program of mine (wip/gx): what functions of the program do, walked operation by operation.
-/
import Derived.Test.YtdbdconmcgcooaaDoorProg
import Derived.Test.YtdbdconmcgcooaaDoorGxAux
import Derived.Test.YtdbdconmcgcooaaDoorTab
import Derived.Test.YtdbdconmcgcooaaDoorPlPack
import Derived.Test.YtdbdconmcgcooaaDoorPlPackB
import Derived.Test.YtdbdconmcgcooaaDoorPlSum
import Derived.Test.YtdbdconmcgcooaaDoorPlSumB
import Derived.Test.YtdbdconmcgcooaaDoorD0b
import Derived.Test.YtdbdconmcgcooaaDoorD0
import Derived.Test.YtdbdconmcgcooaaDoorD3
set_option linter.unusedVariables false
namespace Go.Proofs.YtdbdconmcgcooaaDoor
open Go.RowKit Go.Gx
open Go.Plain
set_option maxHeartbeats 1000000 in
set_option maxRecDepth 20000 in
theorem open_any {w : World} {Ab : Option Addr} {lb cb : Nat} {Fb : Nat → Prop} {b : List UInt8} (hb : Sl w Fb u8v Ab lb cb b) (hl : lb ≤ 140737488355328) (hnib : Sl w (fun k => k = 0) u32v (some ⟨0, 0, none⟩) 16 16 nib) :
    Calls Tryd.prog 33 #[.slice Ab lb cb] w fun e w' => ∃ A c, e = .returned (.tuple #[.slice A (opx b).length c, i64 (opk b : Int), .bool (opo b)]) ∧ Row w' (fun k => w.heap.size ≤ k) 5 1 (.slice A (opx b).length c) (opx b).length ((opx b).map u8v) ∧ Ch No w w' := by
  have hbl := hb.len
  have hn0 : 0 < w.heap.size := hnib.size (by omega) rfl
  have hgk := gnk_le b
  have hgv := gnv_lt b
  have hb := hb.old
  have HC : Ch No w w := Ch.refl _ _
  refine enter' (args := [.slice Ab lb cb]) (n := 67) Tryd.func33 rfl rfl rfl ?_
  refine wc_seq ?_
  refine wc_region ?_
  refine wl rfl rfl rfl (p_as rfl) ?_
  refine wl rfl rfl rfl (p_as rfl) ?_
  refine wl rfl rfl rfl (p_as rfl) ?_
  refine wl_nil ?_
  refine x_seq ?_
  refine wc_seq ?_
  refine wc_region ?_
  refine wl rfl rfl rfl (p_mv rfl) ?_
  refine wle rfl (e_call ent66 rfl rfl (getnum_any (hb) (by omega)) ?_)
  rintro _ w1 ⟨rfl, hc⟩
  refine ⟨_, rfl, ?_⟩
  have hzw1 := hc.size
  have HC := HC.tr hc
  have hb := hb.no hc
  have hnib := hnib.no hc
  refine wl rfl rfl rfl (p_mv rfl) ?_
  refine wl rfl rfl rfl (p_ext rfl rfl) ?_
  refine wl rfl rfl rfl (p_ext rfl rfl) ?_
  refine wl rfl rfl rfl (p_ext rfl rfl) ?_
  refine wl rfl rfl rfl (p_as rfl) ?_
  refine wl rfl rfl rfl (p_as rfl) ?_
  refine wl rfl rfl rfl (p_as rfl) ?_
  refine wl_nil ?_
  refine x_seq ?_
  refine wc_seq ?_
  refine wc_seq ?_
  refine wc_region ?_
  refine wl rfl rfl rfl (p_mv rfl) ?_
  refine wl rfl rfl rfl (p_not rfl) ?_
  refine wl rfl rfl rfl (p_mv rfl) ?_
  refine wl_split (d := 20) rfl (fun q20 => ?_) (fun q20 => ?_)
  ·
    have eg := opn_0 q20
    refine wl_s (gd_ rfl rfl rfl rfl rfl rfl) rfl rfl ?_
    refine wl_s (gd_ rfl rfl rfl rfl rfl rfl) rfl rfl ?_
    refine wl rfl rfl rfl (p_pickT rfl rfl) ?_
    refine wl rfl rfl rfl (p_mv rfl) ?_
    refine wl_s (gd_ rfl rfl rfl rfl rfl rfl) rfl rfl ?_
    refine wl_s (gd_ rfl rfl rfl rfl rfl rfl) rfl rfl ?_
    refine wl_s (gd_ rfl rfl rfl rfl rfl rfl) rfl rfl ?_
    refine wl_s (gd_ rfl rfl rfl rfl rfl rfl) rfl rfl ?_
    refine wl_s (gd_ rfl rfl rfl rfl rfl rfl) rfl rfl ?_
    refine wl_s (gd_ rfl rfl rfl rfl rfl rfl) rfl rfl ?_
    refine wl_s (gd_ rfl rfl rfl rfl rfl rfl) rfl rfl ?_
    refine wl_s (gd_ rfl rfl rfl rfl rfl rfl) rfl rfl ?_
    refine wl rfl rfl rfl (p_pickT rfl rfl) ?_
    refine wl_nil ?_
    refine x_seq ?_
    refine wc_yes rfl (rfl) ?_
    refine wc_seq ?_
    refine wc_region ?_
    refine wl rfl rfl rfl (p_as rfl) ?_
    refine wl rfl rfl rfl (p_as rfl) ?_
    refine wl rfl rfl rfl (p_as rfl) ?_
    refine wl_nil ?_
    refine x_seq ?_
    refine wc_ret ?_
    refine x_then_ret ?_
    refine fin_run (res3 rfl rfl rfl rfl) ?_
    first
      | (obtain ⟨e1, e2, e3⟩ := op_none eg; rw [e1, e2, e3]; exact ⟨_, _, rfl, Row.nil _ _ _ _, HC⟩)
      | (obtain ⟨e1, e2, e3⟩ := op_some eg; rw [e1, e2, e3, hxl]; exact ⟨_, _, rfl, hW64.mono (fun k _ hk => by first | omega | (dsimp only at *; omega)), HC⟩)
  ·
    have hgo : gno b = true := by simpa using q20
    refine wl_g (gd_ rfl rfl rfl rfl rfl rfl) rfl rfl (p_mv rfl) ?_
    refine wl_g (gd_ rfl rfl rfl rfl rfl rfl) rfl rfl (p_gt rfl rfl) ?_
    refine wl rfl rfl rfl (p_pickF rfl rfl) ?_
    refine wl rfl rfl rfl (p_mv rfl) ?_
    refine wl_split (d := 24) rfl (fun q24 => ?_) (fun q24 => ?_)
    ·
      have q24 := of_decide_eq_true q24
      have eg := opn_1 hgo (.inl (by omega))
      refine wl_s (gd_ rfl rfl rfl rfl rfl rfl) rfl rfl ?_
      refine wl_s (gd_ rfl rfl rfl rfl rfl rfl) rfl rfl ?_
      refine wl_s (gd_ rfl rfl rfl rfl rfl rfl) rfl rfl ?_
      refine wl_s (gd_ rfl rfl rfl rfl rfl rfl) rfl rfl ?_
      refine wl_s (gd_ rfl rfl rfl rfl rfl rfl) rfl rfl ?_
      refine wl_s (gd_ rfl rfl rfl rfl rfl rfl) rfl rfl ?_
      refine wl_s (gd_ rfl rfl rfl rfl rfl rfl) rfl rfl ?_
      refine wl_s (gd_ rfl rfl rfl rfl rfl rfl) rfl rfl ?_
      refine wl rfl rfl rfl (p_pickT rfl rfl) ?_
      refine wl_nil ?_
      refine x_seq ?_
      refine wc_yes rfl (rfl) ?_
      refine wc_seq ?_
      refine wc_region ?_
      refine wl rfl rfl rfl (p_as rfl) ?_
      refine wl rfl rfl rfl (p_as rfl) ?_
      refine wl rfl rfl rfl (p_as rfl) ?_
      refine wl_nil ?_
      refine x_seq ?_
      refine wc_ret ?_
      refine x_then_ret ?_
      refine fin_run (res3 rfl rfl rfl rfl) ?_
      first
        | (obtain ⟨e1, e2, e3⟩ := op_none eg; rw [e1, e2, e3]; exact ⟨_, _, rfl, Row.nil _ _ _ _, HC⟩)
        | (obtain ⟨e1, e2, e3⟩ := op_some eg; rw [e1, e2, e3, hxl]; exact ⟨_, _, rfl, hW64.mono (fun k _ hk => by first | omega | (dsimp only at *; omega)), HC⟩)
    ·
      have q24 := of_decide_eq_false q24
      refine wl_g (gd_ rfl rfl rfl rfl rfl rfl) rfl rfl (p_mv rfl) ?_
      refine wl_g (gd_ rfl rfl rfl rfl rfl rfl) rfl rfl (p_add rfl rfl (wu64 (by omega))) ?_
      refine wl_g (gd_ rfl rfl rfl rfl rfl rfl) rfl rfl (p_mv rfl) ?_
      refine wl_g (gd_ rfl rfl rfl rfl rfl rfl) rfl rfl (p_lenS Tryd.underlying22 rfl) ?_
      refine wl_g (gd_ rfl rfl rfl rfl rfl rfl) rfl rfl (p_mv rfl) ?_
      refine wl_g (gd_ rfl rfl rfl rfl rfl rfl) rfl rfl (p_sub rfl rfl (w64 (by omega))) ?_
      refine wl_g (gd_ rfl rfl rfl rfl rfl rfl) rfl rfl (p_conv Tryd.underlying3 Tryd.underlying79 rfl (wu64 (by omega))) ?_
      refine wl_g (gd_ rfl rfl rfl rfl rfl rfl) rfl rfl (p_gt rfl rfl) ?_
      refine wl rfl rfl rfl (p_pickF rfl rfl) ?_
      refine wl_nil ?_
      refine x_seq ?_
      refine wc_if rfl (fun c0 => ?_) (fun c0 => ?_)
      ·
        have c0 := of_decide_eq_true c0
        have eg := opn_1 hgo (.inr (by omega))
        refine wc_seq ?_
        refine wc_region ?_
        refine wl rfl rfl rfl (p_as rfl) ?_
        refine wl rfl rfl rfl (p_as rfl) ?_
        refine wl rfl rfl rfl (p_as rfl) ?_
        refine wl_nil ?_
        refine x_seq ?_
        refine wc_ret ?_
        refine x_then_ret ?_
        refine fin_run (res3 rfl rfl rfl rfl) ?_
        first
          | (obtain ⟨e1, e2, e3⟩ := op_none eg; rw [e1, e2, e3]; exact ⟨_, _, rfl, Row.nil _ _ _ _, HC⟩)
          | (obtain ⟨e1, e2, e3⟩ := op_some eg; rw [e1, e2, e3, hxl]; exact ⟨_, _, rfl, hW64.mono (fun k _ hk => by first | omega | (dsimp only at *; omega)), HC⟩)
      ·
        have c0 := of_decide_eq_false c0
        have hnn : ¬ (8192 < gnv b ∨ b.length - gnk b < gnv b + 4) := by omega
        have hl4 : ((b.drop (gnk b + gnv b)).take 4).length = 4 := by rw [List.length_take, List.length_drop]; omega
        have hxl : ((b.drop (gnk b)).take (gnv b)).length = gnv b := by rw [List.length_take, List.length_drop]; omega
        refine wc_skip ?_
        refine x_seq ?_
        refine wc_seq ?_
        refine wc_region ?_
        refine wl rfl rfl rfl (p_mv rfl) ?_
        refine wl rfl rfl rfl (p_mv rfl) ?_
        refine wl rfl rfl rfl (p_conv Tryd.underlying79 Tryd.underlying3 rfl (w64 (by omega))) ?_
        refine wl rfl rfl rfl (p_add rfl rfl (w64 (by omega))) ?_
        refine wl rfl rfl rfl (p_as rfl) ?_
        refine wl_nil ?_
        refine x_seq ?_
        refine wc_seq ?_
        refine wc_region ?_
        refine wl rfl rfl rfl (p_as rfl) ?_
        refine wl_nil ?_
        refine x_seq ?_
        refine wc_seq ?_
        refine wc_seq ?_
        refine wc_region ?_
        refine wl rfl rfl rfl (p_mv rfl) ?_
        refine wl rfl rfl rfl (p_mv rfl) ?_
        refine wl rfl rfl rfl (p_mv rfl) ?_
        refine wl rfl rfl rfl (p_add rfl rfl (w64 (by omega))) ?_
        have hS42 := hb.cut (lo := (gnk b + gnv b)) (hi := (gnk b + gnv b) + 4) (q := 4) (by omega) (by omega) (by omega)
        refine wl rfl rfl rfl (p_slS (l := (gnk b + gnv b)) (h := (gnk b + gnv b) + 4) Tryd.underlying22 sz5 rfl ⟨_, rfl⟩ ⟨_, rfl⟩ (by omega) (by have := hb.cap; omega) hb.cap (q := 4) (by omega)) ?_
        refine wl rfl rfl rfl (p_lenS Tryd.underlying22 rfl) ?_
        refine wl rfl rfl rfl (p_mv rfl) ?_
        refine wl_nil ?_
        refine x_seq ?_
        refine wc_block ?_
        refine wc_loop (e' := [(0, .slice Ab lb cb), (6, i64 (gnk b : Int)), (8, i64 ((gnk b : Int) + (gnv b : Int))), (9, u32v (BitVec.ofNat 32 (val (((b.drop (gnk b + gnv b)).take 4).take (0))))), (42, .slice (cutA Ab cb (gnk b + gnv b) 1) 4 (cb - (gnk b + gnv b))), (43, i64 ((4 : Nat) : Int)), (44, i64 ((0) : Int))]) (fun m e u => ∃ k : Nat, m = 4 - k ∧ e = [(0, .slice Ab lb cb), (6, i64 (gnk b : Int)), (8, i64 ((gnk b : Int) + (gnv b : Int))), (9, u32v (BitVec.ofNat 32 (val (((b.drop (gnk b + gnv b)).take 4).take k)))), (42, .slice (cutA Ab cb (gnk b + gnv b) 1) 4 (cb - (gnk b + gnv b))), (43, i64 ((4 : Nat) : Int)), (44, i64 (k : Int))] ∧ k ≤ 4 ∧ Sl u (fun k => k < w.heap.size) u8v Ab lb cb b ∧ Sl u (fun k => k = 0) u32v (some ⟨0, 0, none⟩) 16 16 nib ∧ Sl u (fun k => k < w.heap.size) u8v (cutA Ab cb (gnk b + gnv b) 1) 4 (cb - (gnk b + gnv b)) ((b.drop (gnk b + gnv b)).take 4) ∧ Ch No w u)
          ⟨rfl, rfl, rfl, rfl, rfl, rfl, rfl, trivial⟩ ⟨0, rfl, rfl, by omega, hb, hnib, hS42, HC⟩ ?_
        rintro m0 e w2 ⟨k, hm0, rfl, hk, hb, hnib, hS42, HC⟩
        have hzw2 := HC.size
        refine wc_seq ?_
        refine wc_region ?_
        refine wl rfl rfl rfl (p_lt rfl rfl) ?_
        refine wl_nil ?_
        refine x_seq ?_
        refine wc_seq ?_
        refine wc_if rfl (fun c1 => ?_) (fun c1 => ?_)
        ·
          have c1 := of_decide_eq_true c1
          have hst := val32_step (k := k) (by omega) hl4
          refine wc_skip ?_
          refine x_seq ?_
          refine wc_seq ?_
          refine wc_block ?_
          refine wc_seq ?_
          refine wc_region ?_
          obtain ⟨b3, o3, hA3, hF3, hc3⟩ := (hS42).opn (d := 0) (by omega)
          refine wl rfl rfl rfl (p_ixS1 Tryd.underlying22 sz5 rfl hA3 rfl (by omega) (by omega) (Int.toNat_natCast _)) ?_
          refine wl rfl rfl rfl (p_ld Tryd.underlying5 rfl rfl (ld (hc3 _ (by omega)))) ?_
          refine wl rfl rfl rfl (p_as rfl) ?_
          refine wl_nil ?_
          refine x_seq ?_
          refine wc_region ?_
          refine wl rfl rfl rfl (p_mv rfl) ?_
          refine wl rfl rfl rfl (p_shl32 (Y := 8) rfl rfl) ?_
          refine wl rfl rfl rfl (p_mv rfl) ?_
          refine wl rfl rfl rfl (p_convB32 Tryd.underlying5 Tryd.underlying29 rfl) ?_
          refine wl rfl rfl rfl (p_or32 rfl rfl) ?_
          refine wl rfl rfl rfl (p_as rfl) ?_
          refine wl_nil ?_
          refine x_in_normal ?_
          refine x_seq ?_
          refine wc_region ?_
          refine wl rfl rfl rfl (p_add rfl rfl (w64 (by omega))) ?_
          refine wl rfl rfl rfl (p_mv rfl) ?_
          refine wl_nil ?_
          refine x_round (e' := [(0, .slice Ab lb cb), (6, i64 (gnk b : Int)), (8, i64 ((gnk b : Int) + (gnv b : Int))), (9, u32v (BitVec.ofNat 32 (val (((b.drop (gnk b + gnv b)).take 4).take (k + 1))))), (42, .slice (cutA Ab cb (gnk b + gnv b) 1) 4 (cb - (gnk b + gnv b))), (43, i64 ((4 : Nat) : Int)), (44, i64 ((k + 1) : Int))]) ⟨rfl, rfl, rfl, (by rw [← hst]; rfl), rfl, rfl, rfl, trivial⟩ (by rw [hm0]; omega) ⟨k + 1, rfl, rfl, by omega, hb, hnib, hS42, HC⟩
        ·
          have c1 := of_decide_eq_false c1
          have hk4 : k = 4 := by omega
          have hv : val (((b.drop (gnk b + gnv b)).take 4).take k) = val ((b.drop (gnk b + gnv b)).take 4) := by rw [List.take_of_length_le (by omega)]
          have hiff := be4_iff hl4 (crc (b.take (gnk b + gnv b)))
          refine wc_exit ?_
          refine x_then_exit ?_
          refine x_then_exit ?_
          refine x_in_here ?_
          refine x_seq ?_
          refine wc_seq ?_
          refine wc_seq ?_
          refine wc_region ?_
          refine wl rfl rfl rfl (p_mv rfl) ?_
          refine wl rfl rfl rfl (p_mv rfl) ?_
          refine wl rfl rfl rfl (p_mv rfl) ?_
          have hS57 := hb.cut (lo := 0) (hi := (gnk b + gnv b)) (q := (gnk b + gnv b)) (by omega) (by omega) (by omega)
          refine wl rfl rfl rfl (p_slS (l := 0) (h := (gnk b + gnv b)) Tryd.underlying22 sz5 rfl rfl ⟨_, rfl⟩ (by omega) (by have := hb.cap; omega) hb.cap (q := (gnk b + gnv b)) (by omega)) ?_
          refine wle rfl (e_call ent22 rfl rfl (of_any (hS57) (by omega) hnib) ?_)
          rintro _ w4 ⟨rfl, hc⟩
          refine ⟨_, rfl, ?_⟩
          have hzw4 := hc.size
          have HC := HC.tr hc
          have hb := hb.no hc
          have hnib := hnib.no hc
          have hS42 := hS42.no hc
          have hS57 := hS57.no hc
          refine wl rfl rfl rfl (p_ne rfl rfl) ?_
          refine wl_nil ?_
          refine x_seq ?_
          refine wc_if rfl (fun c2 => ?_) (fun c2 => ?_)
          ·
            have c2 := of_decide_eq_true c2
            have eg := opn_2 hgo hnn (fun h => c2 (by rw [hv, hiff.2 h]; rfl))
            refine wc_seq ?_
            refine wc_region ?_
            refine wl rfl rfl rfl (p_as rfl) ?_
            refine wl rfl rfl rfl (p_as rfl) ?_
            refine wl rfl rfl rfl (p_as rfl) ?_
            refine wl_nil ?_
            refine x_seq ?_
            refine wc_ret ?_
            refine x_then_ret ?_
            refine fin_run (res3 rfl rfl rfl rfl) ?_
            first
              | (obtain ⟨e1, e2, e3⟩ := op_none eg; rw [e1, e2, e3]; exact ⟨_, _, rfl, Row.nil _ _ _ _, HC⟩)
              | (obtain ⟨e1, e2, e3⟩ := op_some eg; rw [e1, e2, e3, hxl]; exact ⟨_, _, rfl, hW64.mono (fun k _ hk => by first | omega | (dsimp only at *; omega)), HC⟩)
          ·
            have c2 := of_decide_eq_false c2
            have h3 : be4 (crc (b.take (gnk b + gnv b))) = (b.drop (gnk b + gnv b)).take 4 := hiff.1 (by rw [hv] at c2; exact BitVec.eq_of_toNat_eq (by simp only [List.drop_zero] at c2; omega))
            have eg := opn_3 hgo hnn h3
            refine wc_skip ?_
            refine x_seq ?_
            refine wc_seq ?_
            refine wc_region ?_
            refine wl rfl rfl rfl (p_mv rfl) ?_
            refine wl rfl rfl rfl (p_mv rfl) ?_
            refine wl rfl rfl rfl (p_mv rfl) ?_
            have hS63 := hb.cut (lo := gnk b) (hi := (gnk b + gnv b)) (q := gnv b) (by omega) (by omega) (by omega)
            refine wl rfl rfl rfl (p_slS (l := gnk b) (h := (gnk b + gnv b)) Tryd.underlying22 sz5 rfl ⟨_, rfl⟩ ⟨_, rfl⟩ (by omega) (by have := hb.cap; omega) hb.cap (q := gnv b) (by omega)) ?_
            refine wle rfl (e_call ent67 rfl rfl (clone_any (hS63) (by omega)) ?_)
            rintro _ w5 ⟨A64, c64, rfl, hW64, hc⟩
            refine ⟨_, rfl, ?_⟩
            have hzw5 := hc.size
            have HC := HC.tr hc
            have hb := hb.no hc
            have hnib := hnib.no hc
            have hS42 := hS42.no hc
            have hS57 := hS57.no hc
            have hS63 := hS63.no hc
            refine wl rfl rfl rfl (p_mv rfl) ?_
            refine wl rfl rfl rfl (p_add rfl rfl (w64 (by omega))) ?_
            refine wl rfl rfl rfl (p_as rfl) ?_
            refine wl rfl rfl rfl (p_as rfl) ?_
            refine wl rfl rfl rfl (p_as rfl) ?_
            refine wl_nil ?_
            refine x_seq ?_
            refine wc_ret ?_
            refine fin_run (res3 rfl rfl rfl rfl) ?_
            first
              | (obtain ⟨e1, e2, e3⟩ := op_none eg; rw [e1, e2, e3]; exact ⟨_, _, rfl, Row.nil _ _ _ _, HC⟩)
              | (obtain ⟨e1, e2, e3⟩ := op_some eg; rw [e1, e2, e3, hxl]; exact ⟨_, _, rfl, hW64.mono (fun k _ hk => by first | omega | (dsimp only at *; omega)), HC⟩)
end Go.Proofs.YtdbdconmcgcooaaDoor
