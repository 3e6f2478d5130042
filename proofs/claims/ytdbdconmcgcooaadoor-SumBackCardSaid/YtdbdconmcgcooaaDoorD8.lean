/-
  Own text, printed by a program of mine (wip/gx): what functions of the program do, walked operation by operation.
-/
import Derived.Test.YtdbdconmcgcooaaDoorProg
import Derived.Test.YtdbdconmcgcooaaDoorGxAux
import Derived.Test.YtdbdconmcgcooaaDoorTab
import Derived.Test.YtdbdconmcgcooaaDoorPlPack
import Derived.Test.YtdbdconmcgcooaaDoorPlPackB
import Derived.Test.YtdbdconmcgcooaaDoorPlSum
import Derived.Test.YtdbdconmcgcooaaDoorPlSumB
import Derived.Test.YtdbdconmcgcooaaDoorD6
import Derived.Test.YtdbdconmcgcooaaDoorD0b
set_option linter.unusedVariables false
namespace Go.Proofs.YtdbdconmcgcooaaDoor
open Go.RowKit Go.Gx
open Go.Plain
set_option maxHeartbeats 1000000 in
set_option maxRecDepth 20000 in
theorem ropen_any {w : World} {Ab : Option Addr} {lb cb : Nat} {Fb : Nat → Prop} {b : List UInt8} (hb : Sl w Fb u8v Ab lb cb b) (hl : lb ≤ 140737488355328) :
    Calls Tryd.prog 34 #[.slice Ab lb cb] w fun e w' => ∃ A c, e = .returned (.tuple #[.slice A (opx b).length c, i64 (opk b : Int), .bool (opo b)]) ∧ Row w' (fun k => w.heap.size ≤ k) 5 1 (.slice A (opx b).length c) (opx b).length ((opx b).map u8v) ∧ Ch No w w' := by
  have hbl := hb.len
  have hgk := gnk_le b
  have hgv := gnv_lt b
  have hb := hb.old
  have HC : Ch No w w := Ch.refl _ _
  refine enter' (args := [.slice Ab lb cb]) (n := 67) Tryd.func34 rfl rfl rfl ?_
  refine wc_seq ?_
  refine wc_region ?_
  refine wl rfl rfl rfl (p_as rfl) ?_
  refine wl rfl rfl rfl (p_as rfl) ?_
  refine wl rfl rfl rfl (p_as rfl) ?_
  refine wl_nil ?_
  refine x_seq ?_
  refine wc_seq ?_
  refine wc_region ?_
  refine wl rfl rfl rfl (p_mv rfl) ?_
  refine wle rfl (e_call ent68 rfl rfl (rgetnum_any (hb) (by omega)) ?_)
  rintro _ w1 ⟨rfl, hc⟩
  refine ⟨_, rfl, ?_⟩
  have hzw1 := hc.size
  have HC := HC.tr hc
  have hb := hb.no hc
  refine wl rfl rfl rfl (p_mv rfl) ?_
  refine wl rfl rfl rfl (p_ext rfl rfl) ?_
  refine wl rfl rfl rfl (p_ext rfl rfl) ?_
  refine wl rfl rfl rfl (p_ext rfl rfl) ?_
  refine wl rfl rfl rfl (p_as rfl) ?_
  refine wl rfl rfl rfl (p_as rfl) ?_
  refine wl rfl rfl rfl (p_as rfl) ?_
  refine wl_nil ?_
  refine x_seq ?_
  refine wc_seq ?_
  refine wc_seq ?_
  refine wc_region ?_
  refine wl rfl rfl rfl (p_mv rfl) ?_
  refine wl rfl rfl rfl (p_not rfl) ?_
  refine wl rfl rfl rfl (p_mv rfl) ?_
  refine wl_split (d := 19) rfl (fun q19 => ?_) (fun q19 => ?_)
  ·
    have eg := opn_0 q19
    refine wl_s (gd_ rfl rfl rfl rfl rfl rfl) rfl rfl ?_
    refine wl_s (gd_ rfl rfl rfl rfl rfl rfl) rfl rfl ?_
    refine wl rfl rfl rfl (p_pickT rfl rfl) ?_
    refine wl rfl rfl rfl (p_mv rfl) ?_
    refine wl_s (gd_ rfl rfl rfl rfl rfl rfl) rfl rfl ?_
    refine wl_s (gd_ rfl rfl rfl rfl rfl rfl) rfl rfl ?_
    refine wl_s (gd_ rfl rfl rfl rfl rfl rfl) rfl rfl ?_
    refine wl_s (gd_ rfl rfl rfl rfl rfl rfl) rfl rfl ?_
    refine wl_s (gd_ rfl rfl rfl rfl rfl rfl) rfl rfl ?_
    refine wl_s (gd_ rfl rfl rfl rfl rfl rfl) rfl rfl ?_
    refine wl_s (gd_ rfl rfl rfl rfl rfl rfl) rfl rfl ?_
    refine wl_s (gd_ rfl rfl rfl rfl rfl rfl) rfl rfl ?_
    refine wl rfl rfl rfl (p_pickT rfl rfl) ?_
    refine wl_nil ?_
    refine x_seq ?_
    refine wc_yes rfl (rfl) ?_
    refine wc_seq ?_
    refine wc_region ?_
    refine wl rfl rfl rfl (p_as rfl) ?_
    refine wl rfl rfl rfl (p_as rfl) ?_
    refine wl rfl rfl rfl (p_as rfl) ?_
    refine wl_nil ?_
    refine x_seq ?_
    refine wc_ret ?_
    refine x_then_ret ?_
    refine fin_run (res3 rfl rfl rfl rfl) ?_
    first
      | (obtain ⟨e1, e2, e3⟩ := op_none eg; rw [e1, e2, e3]; exact ⟨_, _, rfl, Row.nil _ _ _ _, HC⟩)
      | (obtain ⟨e1, e2, e3⟩ := op_some eg; rw [e1, e2, e3, hxl]; rw [Nat.zero_add] at hW59; rw [Nat.zero_add]; exact ⟨_, _, rfl, hW59.mono (fun k _ hk => by first | omega | (dsimp only at *; omega)), HC⟩)
  ·
    have hgo : gno b = true := by simpa using q19
    refine wl_g (gd_ rfl rfl rfl rfl rfl rfl) rfl rfl (p_mv rfl) ?_
    refine wl_g (gd_ rfl rfl rfl rfl rfl rfl) rfl rfl (p_gt rfl rfl) ?_
    refine wl rfl rfl rfl (p_pickF rfl rfl) ?_
    refine wl rfl rfl rfl (p_mv rfl) ?_
    refine wl_split (d := 23) rfl (fun q23 => ?_) (fun q23 => ?_)
    ·
      have q23 := of_decide_eq_true q23
      have eg := opn_1 hgo (.inl (by omega))
      refine wl_s (gd_ rfl rfl rfl rfl rfl rfl) rfl rfl ?_
      refine wl_s (gd_ rfl rfl rfl rfl rfl rfl) rfl rfl ?_
      refine wl_s (gd_ rfl rfl rfl rfl rfl rfl) rfl rfl ?_
      refine wl_s (gd_ rfl rfl rfl rfl rfl rfl) rfl rfl ?_
      refine wl_s (gd_ rfl rfl rfl rfl rfl rfl) rfl rfl ?_
      refine wl_s (gd_ rfl rfl rfl rfl rfl rfl) rfl rfl ?_
      refine wl_s (gd_ rfl rfl rfl rfl rfl rfl) rfl rfl ?_
      refine wl_s (gd_ rfl rfl rfl rfl rfl rfl) rfl rfl ?_
      refine wl rfl rfl rfl (p_pickT rfl rfl) ?_
      refine wl_nil ?_
      refine x_seq ?_
      refine wc_yes rfl (rfl) ?_
      refine wc_seq ?_
      refine wc_region ?_
      refine wl rfl rfl rfl (p_as rfl) ?_
      refine wl rfl rfl rfl (p_as rfl) ?_
      refine wl rfl rfl rfl (p_as rfl) ?_
      refine wl_nil ?_
      refine x_seq ?_
      refine wc_ret ?_
      refine x_then_ret ?_
      refine fin_run (res3 rfl rfl rfl rfl) ?_
      first
        | (obtain ⟨e1, e2, e3⟩ := op_none eg; rw [e1, e2, e3]; exact ⟨_, _, rfl, Row.nil _ _ _ _, HC⟩)
        | (obtain ⟨e1, e2, e3⟩ := op_some eg; rw [e1, e2, e3, hxl]; rw [Nat.zero_add] at hW59; rw [Nat.zero_add]; exact ⟨_, _, rfl, hW59.mono (fun k _ hk => by first | omega | (dsimp only at *; omega)), HC⟩)
    ·
      have q23 := of_decide_eq_false q23
      refine wl_g (gd_ rfl rfl rfl rfl rfl rfl) rfl rfl (p_mv rfl) ?_
      refine wl_g (gd_ rfl rfl rfl rfl rfl rfl) rfl rfl (p_add rfl rfl (wu64 (by omega))) ?_
      refine wl_g (gd_ rfl rfl rfl rfl rfl rfl) rfl rfl (p_mv rfl) ?_
      refine wl_g (gd_ rfl rfl rfl rfl rfl rfl) rfl rfl (p_lenS Tryd.underlying22 rfl) ?_
      refine wl_g (gd_ rfl rfl rfl rfl rfl rfl) rfl rfl (p_mv rfl) ?_
      refine wl_g (gd_ rfl rfl rfl rfl rfl rfl) rfl rfl (p_sub rfl rfl (w64 (by omega))) ?_
      refine wl_g (gd_ rfl rfl rfl rfl rfl rfl) rfl rfl (p_conv Tryd.underlying3 Tryd.underlying79 rfl (wu64 (by omega))) ?_
      refine wl_g (gd_ rfl rfl rfl rfl rfl rfl) rfl rfl (p_gt rfl rfl) ?_
      refine wl rfl rfl rfl (p_pickF rfl rfl) ?_
      refine wl_nil ?_
      refine x_seq ?_
      refine wc_if rfl (fun c0 => ?_) (fun c0 => ?_)
      ·
        have c0 := of_decide_eq_true c0
        have eg := opn_1 hgo (.inr (by omega))
        refine wc_seq ?_
        refine wc_region ?_
        refine wl rfl rfl rfl (p_as rfl) ?_
        refine wl rfl rfl rfl (p_as rfl) ?_
        refine wl rfl rfl rfl (p_as rfl) ?_
        refine wl_nil ?_
        refine x_seq ?_
        refine wc_ret ?_
        refine x_then_ret ?_
        refine fin_run (res3 rfl rfl rfl rfl) ?_
        first
          | (obtain ⟨e1, e2, e3⟩ := op_none eg; rw [e1, e2, e3]; exact ⟨_, _, rfl, Row.nil _ _ _ _, HC⟩)
          | (obtain ⟨e1, e2, e3⟩ := op_some eg; rw [e1, e2, e3, hxl]; rw [Nat.zero_add] at hW59; rw [Nat.zero_add]; exact ⟨_, _, rfl, hW59.mono (fun k _ hk => by first | omega | (dsimp only at *; omega)), HC⟩)
      ·
        have c0 := of_decide_eq_false c0
        have hnn : ¬ (8192 < gnv b ∨ b.length - gnk b < gnv b + 4) := by omega
        have hl4 : ((b.drop (gnk b + gnv b)).take 4).length = 4 := by rw [List.length_take, List.length_drop]; omega
        have hxl : ((b.drop (gnk b)).take (gnv b)).length = gnv b := by rw [List.length_take, List.length_drop]; omega
        refine wc_skip ?_
        refine x_seq ?_
        refine wc_seq ?_
        refine wc_region ?_
        refine wl rfl rfl rfl (p_mv rfl) ?_
        refine wl rfl rfl rfl (p_mv rfl) ?_
        refine wl rfl rfl rfl (p_conv Tryd.underlying79 Tryd.underlying3 rfl (w64 (by omega))) ?_
        refine wl rfl rfl rfl (p_add rfl rfl (w64 (by omega))) ?_
        refine wl rfl rfl rfl (p_as rfl) ?_
        refine wl_nil ?_
        refine x_seq ?_
        refine wc_seq ?_
        refine wc_region ?_
        refine wl rfl rfl rfl (p_mv rfl) ?_
        refine wl rfl rfl rfl (p_mv rfl) ?_
        have hS39 := hb.cut (lo := 0) (hi := (gnk b + gnv b)) (q := (gnk b + gnv b)) (by omega) (by omega) (by omega)
        refine wl rfl rfl rfl (p_slS (l := 0) (h := (gnk b + gnv b)) Tryd.underlying22 sz5 rfl rfl ⟨_, rfl⟩ (by omega) (by have := hb.cap; omega) hb.cap (q := (gnk b + gnv b)) (by omega)) ?_
        refine wle rfl (e_call ent69 rfl rfl (rof_any (hS39) (by omega)) ?_)
        rintro _ w2 ⟨rfl, hc⟩
        refine ⟨_, rfl, ?_⟩
        have hzw2 := hc.size
        have HC := HC.tr hc
        have hb := hb.no hc
        have hS39 := hS39.no hc
        refine wl rfl rfl rfl (p_as rfl) ?_
        refine wl_nil ?_
        refine x_seq ?_
        refine wc_seq ?_
        refine wc_seq ?_
        refine wc_region ?_
        refine wl rfl rfl rfl (p_as rfl) ?_
        refine wl_nil ?_
        refine x_seq ?_
        refine wc_block ?_
        refine wc_loop (e' := [(0, .slice Ab lb cb), (6, i64 (gnk b : Int)), (8, i64 ((gnk b : Int) + (gnv b : Int))), (9, u32v (crc (b.take (gnk b + gnv b)))), (10, i64 ((0) : Int))]) (fun m e u => ∃ i : Nat, m = 4 - i ∧ e = [(0, .slice Ab lb cb), (6, i64 (gnk b : Int)), (8, i64 ((gnk b : Int) + (gnv b : Int))), (9, u32v (crc (b.take (gnk b + gnv b)))), (10, i64 (i : Int))] ∧ i ≤ 4 ∧ ((b.drop (gnk b + gnv b)).take 4).take i = (be4 (crc (b.take (gnk b + gnv b)))).take i ∧ Sl u (fun k => k < w.heap.size) u8v Ab lb cb b ∧ Ch No w u)
          ⟨rfl, rfl, rfl, rfl, rfl, trivial⟩ ⟨0, rfl, rfl, by omega, rfl, hb, HC⟩ ?_
        rintro m0 e w3 ⟨i, hm0, rfl, hi, hi4, hb, HC⟩
        have hzw3 := HC.size
        refine wc_seq ?_
        refine wc_seq ?_
        refine wc_region ?_
        refine wl rfl rfl rfl (p_mv rfl) ?_
        refine wl rfl rfl rfl (p_lt rfl rfl) ?_
        refine wl_nil ?_
        refine x_seq ?_
        refine wc_if rfl (fun c1 => ?_) (fun c1 => ?_)
        ·
          have c1 := of_decide_eq_true c1
          refine wc_skip ?_
          refine x_seq ?_
          refine wc_seq ?_
          refine wc_block ?_
          refine wc_seq ?_
          refine wc_region ?_
          refine wl rfl rfl rfl (p_mv rfl) ?_
          refine wl rfl rfl rfl (p_mv rfl) ?_
          refine wl rfl rfl rfl (p_mv rfl) ?_
          refine wl rfl rfl rfl (p_add (Z := ((gnk b + gnv b + i : Nat) : Int)) rfl rfl (by rw [w64 (by omega)]; omega)) ?_
          obtain ⟨b4, o4, hA4, hF4, hc4⟩ := (hb).opn (d := 0) (by omega)
          refine wl rfl rfl rfl (p_ixS1 Tryd.underlying22 sz5 rfl hA4 rfl (by omega) (by omega) (Int.toNat_natCast _)) ?_
          refine wl rfl rfl rfl (p_ld Tryd.underlying5 rfl rfl (ld (hc4 _ (by omega)))) ?_
          refine wl rfl rfl rfl (p_mv rfl) ?_
          refine wl rfl rfl rfl (p_mv rfl) ?_
          refine wl rfl rfl rfl (p_mul rfl rfl (w64 (by omega))) ?_
          refine wl rfl rfl rfl (p_sub (Z := ((24 - 8 * i : Nat) : Int)) rfl rfl (by rw [w64 (by omega)]; omega)) ?_
          refine wl rfl rfl rfl (p_conv Tryd.underlying3 Tryd.underlying46 rfl (wu64 (by omega))) ?_
          refine wl rfl rfl rfl (p_shr32 (Y := 24 - 8 * i) rfl rfl) ?_
          refine wl rfl rfl rfl (p_conv32B Tryd.underlying29 Tryd.underlying5 rfl) ?_
          refine wl rfl rfl rfl (p_ne rfl rfl) ?_
          refine wl_nil ?_
          refine x_seq ?_
          refine wc_if rfl (fun c2 => ?_) (fun c2 => ?_)
          ·
            have c2 := of_decide_eq_true c2
            have eg := opn_2 hgo hnn (fun h => c2 (by have hh := get_drop (b := b) (a := (gnk b + gnv b)) (i := i) (by omega); rw [← h, be4_get (by omega)] at hh; rw [← hh]; rfl))
            refine wc_seq ?_
            refine wc_region ?_
            refine wl rfl rfl rfl (p_as rfl) ?_
            refine wl rfl rfl rfl (p_as rfl) ?_
            refine wl rfl rfl rfl (p_as rfl) ?_
            refine wl_nil ?_
            refine x_seq ?_
            refine wc_ret ?_
            refine x_in_ret ?_
            refine x_then_ret ?_
            refine x_then_ret ?_
            refine x_in_ret ?_
            refine x_then_ret ?_
            refine fin_run (res3 rfl rfl rfl rfl) ?_
            first
              | (obtain ⟨e1, e2, e3⟩ := op_none eg; rw [e1, e2, e3]; exact ⟨_, _, rfl, Row.nil _ _ _ _, HC⟩)
              | (obtain ⟨e1, e2, e3⟩ := op_some eg; rw [e1, e2, e3, hxl]; rw [Nat.zero_add] at hW59; rw [Nat.zero_add]; exact ⟨_, _, rfl, hW59.mono (fun k _ hk => by first | omega | (dsimp only at *; omega)), HC⟩)
          ·
            have c2 := of_decide_eq_false c2
            have hi5 := take_next (p := (b.drop (gnk b + gnv b)).take 4) (q := be4 (crc (b.take (gnk b + gnv b)))) (k := i) (by omega) (by rw [be4_len]; omega) hi4 (by rw [get_drop (by omega), be4_get (by omega)]; exact UInt8.toNat_inj.1 (by simp only [List.drop_zero, b8] at c2 ⊢; omega))
            refine wc_skip ?_
            refine x_in_normal ?_
            refine x_seq ?_
            refine wc_region ?_
            refine wl rfl rfl rfl (p_mv rfl) ?_
            refine wl rfl rfl rfl (p_add rfl rfl (w64 (by omega))) ?_
            refine wl rfl rfl rfl (p_as rfl) ?_
            refine wl_nil ?_
            refine x_round (e' := [(0, .slice Ab lb cb), (6, i64 (gnk b : Int)), (8, i64 ((gnk b : Int) + (gnv b : Int))), (9, u32v (crc (b.take (gnk b + gnv b)))), (10, i64 ((i + 1) : Int))]) ⟨rfl, rfl, rfl, rfl, rfl, trivial⟩ (by rw [hm0]; omega) ⟨i + 1, rfl, rfl, by omega, hi5, hb, HC⟩
        ·
          have c1 := of_decide_eq_false c1
          have hk4 : i = 4 := by omega
          have h3 : be4 (crc (b.take (gnk b + gnv b))) = (b.drop (gnk b + gnv b)).take 4 := by have e1 : ((b.drop (gnk b + gnv b)).take 4).take i = (b.drop (gnk b + gnv b)).take 4 := List.take_of_length_le (by omega); have e2 : (be4 (crc (b.take (gnk b + gnv b)))).take i = be4 (crc (b.take (gnk b + gnv b))) := List.take_of_length_le (by rw [be4_len]; omega); rw [e1, e2] at hi4; exact hi4.symm
          have eg := opn_3 hgo hnn h3
          refine wc_exit ?_
          refine x_then_exit ?_
          refine x_then_exit ?_
          refine x_in_here ?_
          refine x_seq ?_
          refine wc_seq ?_
          refine wc_region ?_
          refine wle rfl (e_bsl (cs := #[]) (E := 5) rfl rfl (fun _ => by kernel_rfl) (fun w5 g59 hg59 hb59 hc hsz59 => ?_))
          have hzw5 := hc.size
          have HC := HC.tr hc
          have hb := hb.no hc
          have hge59 : w.heap.size ≤ g59 := by have := HC.size; omega
          have hW59 := Row.lit (l := 0) (f := u8v) (xs := []) (F := fun k => g59 ≤ k) hb59 (by first | omega | (dsimp only; omega)) rfl rfl (by simp [maxLen])
          refine wl rfl rfl rfl (p_mv rfl) ?_
          refine wl rfl rfl rfl (p_mv rfl) ?_
          refine wl rfl rfl rfl (p_mv rfl) ?_
          have hS63 := hb.cut (lo := gnk b) (hi := (gnk b + gnv b)) (q := gnv b) (by omega) (by omega) (by omega)
          refine wl rfl rfl rfl (p_slS (l := gnk b) (h := (gnk b + gnv b)) Tryd.underlying22 sz5 rfl ⟨_, rfl⟩ ⟨_, rfl⟩ (by omega) (by have := hb.cap; omega) hb.cap (q := gnv b) (by omega)) ?_
          refine wle rfl (e_appS rfl el22 one_u8 rfl rfl hW59 hS63 (by omega) (by intro k hk; first | omega | (dsimp only at *; omega)) (fun w6 A64 c64 hW59 hc => ?_))
          have hzw6 := hc.size
          have HC := HC.trans hc (fun _ _ h => h) (fun k hk ht => absurd ht (by first | omega | (dsimp only at *; omega)))
          first | have hb := hb.ch hc (by intro k hk ht; first | omega | (dsimp only at *; omega)) | have hb := hb.chT hc (by intro k hz hk ht; first | omega | (dsimp only at *; omega))
          first | have hS63 := hS63.ch hc (by intro k hk ht; first | omega | (dsimp only at *; omega)) | have hS63 := hS63.chT hc (by intro k hz hk ht; first | omega | (dsimp only at *; omega))
          refine wl rfl rfl rfl (p_mv rfl) ?_
          refine wl rfl rfl rfl (p_add rfl rfl (w64 (by omega))) ?_
          refine wl rfl rfl rfl (p_as rfl) ?_
          refine wl rfl rfl rfl (p_as rfl) ?_
          refine wl rfl rfl rfl (p_as rfl) ?_
          refine wl_nil ?_
          refine x_seq ?_
          refine wc_ret ?_
          refine fin_run (res3 rfl rfl rfl rfl) ?_
          first
            | (obtain ⟨e1, e2, e3⟩ := op_none eg; rw [e1, e2, e3]; exact ⟨_, _, rfl, Row.nil _ _ _ _, HC⟩)
            | (obtain ⟨e1, e2, e3⟩ := op_some eg; rw [e1, e2, e3, hxl]; rw [Nat.zero_add] at hW59; rw [Nat.zero_add]; exact ⟨_, _, rfl, hW59.mono (fun k _ hk => by first | omega | (dsimp only at *; omega)), HC⟩)
end Go.Proofs.YtdbdconmcgcooaaDoor
