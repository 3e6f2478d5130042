/-
  Own text, printed by a program of mine (wip/gx): what functions of the program do, walked operation by operation.
-/
import Derived.Test.YtdbdconmcgcooaaDoorProg
import Derived.Test.YtdbdconmcgcooaaDoorGxAux
import Derived.Test.YtdbdconmcgcooaaDoorTab
import Derived.Test.YtdbdconmcgcooaaDoorPlPack
import Derived.Test.YtdbdconmcgcooaaDoorPlPackB
import Derived.Test.YtdbdconmcgcooaaDoorPlSum
import Derived.Test.YtdbdconmcgcooaaDoorPlSumB
import Derived.Test.YtdbdconmcgcooaaDoorD6
import Derived.Test.YtdbdconmcgcooaaDoorD0c
set_option linter.unusedVariables false
namespace Go.Proofs.YtdbdconmcgcooaaDoor
open Go.RowKit Go.Gx
open Go.Plain
set_option maxHeartbeats 1000000 in
set_option maxRecDepth 20000 in
theorem rframe_any {w : World} {Ab : Option Addr} {lb cb : Nat} {Fb : Nat → Prop} {b : List UInt8} (hb : Sl w Fb u8v Ab lb cb b) (hl : lb ≤ 140737488355328) :
    Calls Tryd.prog 35 #[.slice Ab lb cb] w fun e w' => ∃ A c, e = .returned (.slice A ((frame b).length) c) ∧ Row w' (fun k => w.heap.size ≤ k) 5 1 (.slice A ((frame b).length) c) ((frame b).length) ((frame b).map u8v) ∧ Ch No w w' := by
  have hbl := hb.len
  have hb := hb.old
  have HC : Ch No w w := Ch.refl _ _
  refine enter' (args := [.slice Ab lb cb]) (n := 30) Tryd.func35 rfl rfl rfl ?_
  refine wc_seq ?_
  refine wc_region ?_
  refine wl rfl rfl rfl (p_as rfl) ?_
  refine wl_nil ?_
  refine x_seq ?_
  refine wc_seq ?_
  refine wc_seq ?_
  refine wc_region ?_
  refine wl rfl rfl rfl (p_mv rfl) ?_
  refine wl rfl rfl rfl (p_lenS Tryd.underlying22 rfl) ?_
  refine wl rfl rfl rfl (p_gt rfl rfl) ?_
  refine wl_nil ?_
  refine x_seq ?_
  refine wc_if rfl (fun c0 => ?_) (fun c0 => ?_)
  ·
    have c0 := of_decide_eq_true c0
    refine wc_seq ?_
    refine wc_region ?_
    refine wl rfl rfl rfl (p_as rfl) ?_
    refine wl_nil ?_
    refine x_seq ?_
    refine wc_ret ?_
    refine x_then_ret ?_
    refine fin_run (res1 rfl rfl) ?_
    first
      | (rw [frame_long (by omega)]; exact ⟨_, _, rfl, Row.nil _ _ _ _, HC⟩)
      | (rw [frame_len hbl (by omega), frame_at hbl (by omega)]; rw [Nat.zero_add] at hW11; rw [Nat.zero_add]; exact ⟨_, _, rfl, (show _ = _ from frame_cells4 _ _) ▸ hW11.mono (fun k _ hk => by first | omega | (dsimp only at *; omega)), HC⟩)
  ·
    have c0 := of_decide_eq_false c0
    have hle := encN_len (x := lb) (by omega)
    refine wc_skip ?_
    refine x_seq ?_
    refine wc_seq ?_
    refine wc_region ?_
    refine wl rfl rfl rfl (p_mv rfl) ?_
    refine wl rfl rfl rfl (p_lenS Tryd.underlying22 rfl) ?_
    refine wl rfl rfl rfl (p_conv Tryd.underlying3 Tryd.underlying79 rfl (wu64 (by omega))) ?_
    refine wle rfl (e_call ent70 rfl rfl (rnum_any (Sl.nil (F := No)) (by omega) (by omega)) ?_)
    rintro _ w1 ⟨A11, c11, rfl, hW11, hc⟩
    refine ⟨_, rfl, ?_⟩
    have hzw1 := hc.size
    have HC := HC.tr hc
    have hb := hb.no hc
    refine wl rfl rfl rfl (p_mv rfl) ?_
    refine wle rfl (e_appS rfl el22 one_u8 rfl rfl hW11 hb (by omega) (by intro k hk; first | omega | (dsimp only at *; omega)) (fun w2 A13 c13 hW11 hc => ?_))
    have hzw2 := hc.size
    have HC := HC.trans hc (fun _ _ h => h) (fun k hk ht => absurd ht (by first | omega | (dsimp only at *; omega)))
    first | have hb := hb.ch hc (by intro k hk ht; first | omega | (dsimp only at *; omega)) | have hb := hb.chT hc (by intro k hz hk ht; first | omega | (dsimp only at *; omega))
    refine wl rfl rfl rfl (p_as rfl) ?_
    refine wl_nil ?_
    refine x_seq ?_
    refine wc_seq ?_
    refine wc_region ?_
    refine wl rfl rfl rfl (p_mv rfl) ?_
    refine wle rfl (e_call ent69 rfl rfl (rof_any (hW11.sl) (by omega)) ?_)
    rintro _ w3 ⟨rfl, hc⟩
    refine ⟨_, rfl, ?_⟩
    have hzw3 := hc.size
    have HC := HC.tr hc
    have hb := hb.no hc
    have hW11 := hW11.after hc
    refine wl rfl rfl rfl (p_as rfl) ?_
    refine wl_nil ?_
    refine x_seq ?_
    refine wc_seq ?_
    refine wc_region ?_
    refine wl rfl rfl rfl (p_mv rfl) ?_
    refine wl rfl rfl rfl (p_mv rfl) ?_
    refine wl rfl rfl rfl (p_shr32 (Y := 24) rfl rfl) ?_
    refine wl rfl rfl rfl (p_conv32B Tryd.underlying29 Tryd.underlying5 rfl) ?_
    refine wl rfl rfl rfl (p_mv rfl) ?_
    refine wl rfl rfl rfl (p_shr32 (Y := 16) rfl rfl) ?_
    refine wl rfl rfl rfl (p_conv32B Tryd.underlying29 Tryd.underlying5 rfl) ?_
    refine wl rfl rfl rfl (p_mv rfl) ?_
    refine wl rfl rfl rfl (p_shr32 (Y := 8) rfl rfl) ?_
    refine wl rfl rfl rfl (p_conv32B Tryd.underlying29 Tryd.underlying5 rfl) ?_
    refine wl rfl rfl rfl (p_mv rfl) ?_
    refine wl rfl rfl rfl (p_conv32B Tryd.underlying29 Tryd.underlying5 rfl) ?_
    refine wle rfl (e_bslV (E := 5) rfl rfl (fun _ => by kernel_rfl) (fun w4 g28 hg28 hb28 hc hsz28 => ?_))
    have hzw4 := hc.size
    have HC := HC.tr hc
    have hb := hb.no hc
    have hW11 := hW11.after hc
    have hge28 : w.heap.size ≤ g28 := by have := HC.size; omega
    have hS28 := Sl.lit4 (f := u8v) hb28
    refine wle rfl (e_appS rfl el22 one_u8 rfl rfl hW11 hS28 (by omega) (by intro k hk; first | omega | (dsimp only at *; omega)) (fun w5 A29 c29 hW11 hc => ?_))
    have hzw5 := hc.size
    have HC := HC.trans hc (fun _ _ h => h) (fun k hk ht => absurd ht (by first | omega | (dsimp only at *; omega)))
    first | have hb := hb.ch hc (by intro k hk ht; first | omega | (dsimp only at *; omega)) | have hb := hb.chT hc (by intro k hz hk ht; first | omega | (dsimp only at *; omega))
    first | have hS28 := hS28.ch hc (by intro k hk ht; first | omega | (dsimp only at *; omega)) | have hS28 := hS28.chT hc (by intro k hz hk ht; first | omega | (dsimp only at *; omega))
    refine wl rfl rfl rfl (p_as rfl) ?_
    refine wl_nil ?_
    refine x_seq ?_
    refine wc_ret ?_
    refine fin_run (res1 rfl rfl) ?_
    first
      | (rw [frame_long (by omega)]; exact ⟨_, _, rfl, Row.nil _ _ _ _, HC⟩)
      | (rw [frame_len hbl (by omega), frame_at hbl (by omega)]; rw [Nat.zero_add] at hW11; rw [Nat.zero_add]; exact ⟨_, _, rfl, (show _ = _ from frame_cells4 _ _) ▸ hW11.mono (fun k _ hk => by first | omega | (dsimp only at *; omega)), HC⟩)
end Go.Proofs.YtdbdconmcgcooaaDoor
