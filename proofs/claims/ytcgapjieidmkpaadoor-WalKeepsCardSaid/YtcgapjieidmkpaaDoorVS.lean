/-
  Own text, printed by a program of mine (wip/gx): what functions of the program do, walked operation by operation.
-/
import Derived.Test.YtcgapjieidmkpaaDoorProg
import Derived.Test.YtcgapjieidmkpaaDoorGxAgg
import Derived.Test.YtcgapjieidmkpaaDoorTab
import Derived.Test.YtcgapjieidmkpaaDoorPlPack
import Derived.Test.YtcgapjieidmkpaaDoorPlPackB
import Derived.Test.YtcgapjieidmkpaaDoorPlSum
import Derived.Test.YtcgapjieidmkpaaDoorPlSumB
import Derived.Test.YtcgapjieidmkpaaDoorVP
set_option linter.unusedVariables false
namespace Go.Proofs.YtcgapjieidmkpaaDoor
open Go.RowKit Go.Gx
open Go.Plain
set_option maxHeartbeats 1000000 in
set_option maxRecDepth 20000 in
theorem add_any {w : World} {s : BitVec 32}{Ab : Option Addr} {lb cb : Nat} {Fb : Nat → Prop} {b : List UInt8} (hb : Sl w Fb u8v Ab lb cb b) (hl : lb ≤ 140737488355328) (hnib : Sl w (fun k => k = 0) u32v (some ⟨0, 0, none⟩) 16 16 nib) :
    Calls Tryd.prog 53 #[u32v s, .slice Ab lb cb] w fun e w' => e = .returned (u32v (crcAdd s b)) ∧ Ch No w w' := by
  have hbl := hb.len
  have hb := hb.old
  have HC : Ch No w w := Ch.refl _ _
  refine enter' (args := [u32v s, .slice Ab lb cb]) (n := 36) Tryd.func53 rfl rfl rfl ?_
  refine wc_seq ?_
  refine wc_region ?_
  refine wl rfl rfl rfl (p_as rfl) ?_
  refine wl_nil ?_
  refine x_seq ?_
  refine wc_seq ?_
  refine wc_region ?_
  refine wl rfl rfl rfl (p_mv rfl) ?_
  refine wl rfl rfl rfl (p_not32 rfl) ?_
  refine wl rfl rfl rfl (p_as rfl) ?_
  refine wl_nil ?_
  refine x_seq ?_
  refine wc_seq ?_
  refine wc_seq ?_
  refine wc_region ?_
  refine wl rfl rfl rfl (p_mv rfl) ?_
  refine wl rfl rfl rfl (p_lenS Tryd.underlying22 rfl) ?_
  refine wl rfl rfl rfl (p_mv rfl) ?_
  refine wl_nil ?_
  refine x_seq ?_
  refine wc_block ?_
  refine wc_loop (e' := [(0, u32v (crcF (~~~ s) (b.take (0)))), (9, .slice Ab lb cb), (10, i64 (lb : Int)), (11, i64 ((0) : Int))]) (fun mz ez uz => ∃ k : Nat, mz = lb - k ∧ ez = [(0, u32v (crcF (~~~ s) (b.take k))), (9, .slice Ab lb cb), (10, i64 (lb : Int)), (11, i64 (k : Int))] ∧ (k ≤ lb) ∧ (Sl uz (fun k => k < w.heap.size) u8v Ab lb cb b) ∧ (Sl uz (fun k => k = 0) u32v (some ⟨0, 0, none⟩) 16 16 nib) ∧ (Ch No w uz))
    ⟨rfl, rfl, rfl, rfl, trivial⟩ ⟨0, rfl, rfl, by omega, hb, hnib, HC⟩ ?_
  rintro m0 e w1 ⟨k, hm0, rfl, hk, hb, hnib, HC⟩
  have hzw1 := HC.size
  refine wc_seq ?_
  refine wc_region ?_
  refine wl rfl rfl rfl (p_lt rfl rfl) ?_
  refine wl_nil ?_
  refine x_seq ?_
  refine wc_seq ?_
  refine wc_if rfl (fun c0 => ?_) (fun c0 => ?_)
  ·
    have c0 := of_decide_eq_true c0
    have hkb : k < b.length := by omega
    have hst := crcF_take (s := ~~~ s) hkb
    refine wc_skip ?_
    refine x_seq ?_
    refine wc_seq ?_
    refine wc_block ?_
    refine wc_seq ?_
    refine wc_region ?_
    obtain ⟨b2, o2, hA2, hF2, hc2⟩ := (hb).opn (d := 0) (by omega)
    refine wl rfl rfl rfl (p_ixS1 Tryd.underlying22 sz5 rfl hA2 rfl (by omega) (by omega) (Int.toNat_natCast _)) ?_
    refine wl rfl rfl rfl (p_ld Tryd.underlying5 rfl rfl (ld (hc2 _ (by omega)))) ?_
    refine wl rfl rfl rfl (p_as rfl) ?_
    refine wl_nil ?_
    refine x_seq ?_
    refine wc_seq ?_
    refine wc_region ?_
    refine wl rfl rfl rfl (p_mv rfl) ?_
    refine wl rfl rfl rfl (p_mv rfl) ?_
    refine wl rfl rfl rfl (p_convB32 Tryd.underlying5 Tryd.underlying79 rfl) ?_
    refine wl rfl rfl rfl (p_xor32 rfl rfl) ?_
    refine wl rfl rfl rfl (p_as rfl) ?_
    refine wl_nil ?_
    refine x_seq ?_
    refine wc_seq ?_
    refine wc_region ?_
    refine wl rfl rfl rfl (p_mv rfl) ?_
    refine wl rfl rfl rfl (p_shr32 (Y := 4) rfl rfl) ?_
    refine wl rfl rfl rfl (p_mv rfl) ?_
    have hlow := low_lt (crcF (~~~ s) (b.take k) ^^^ BitVec.ofNat 32 (b.getD k 0).toNat)
    refine wl rfl rfl rfl (p_and32 (Y := 15#32) rfl rfl) ?_
    obtain ⟨b3, o3, hA3, hF3, hc3⟩ := (hnib).opn (d := 0#32) (by omega)
    cases hA3
    refine wl rfl rfl rfl (p_ixAo Tryd.underlying86 sz79 rfl rfl (by omega) (by omega) (Int.toNat_natCast _)) ?_
    refine wl rfl rfl rfl (p_ld Tryd.underlying79 rfl rfl (ld (hc3 _ (by omega)))) ?_
    refine wl rfl rfl rfl (p_xor32 rfl rfl) ?_
    refine wl rfl rfl rfl (p_as rfl) ?_
    refine wl_nil ?_
    refine x_seq ?_
    refine wc_region ?_
    refine wl rfl rfl rfl (p_mv rfl) ?_
    refine wl rfl rfl rfl (p_shr32 (Y := 4) rfl rfl) ?_
    refine wl rfl rfl rfl (p_mv rfl) ?_
    have hlow2 := low_lt ((crcF (~~~ s) (b.take k) ^^^ BitVec.ofNat 32 (b.getD k 0).toNat) >>> 4 ^^^ nib.getD ((crcF (~~~ s) (b.take k) ^^^ BitVec.ofNat 32 (b.getD k 0).toNat) &&& 15#32).toNat 0#32)
    refine wl rfl rfl rfl (p_and32 (Y := 15#32) rfl rfl) ?_
    obtain ⟨b4, o4, hA4, hF4, hc4⟩ := (hnib).opn (d := 0#32) (by omega)
    cases hA4
    refine wl rfl rfl rfl (p_ixAo Tryd.underlying86 sz79 rfl rfl (by omega) (by omega) (Int.toNat_natCast _)) ?_
    refine wl rfl rfl rfl (p_ld Tryd.underlying79 rfl rfl (ld (hc4 _ (by omega)))) ?_
    refine wl rfl rfl rfl (p_xor32 rfl rfl) ?_
    refine wl rfl rfl rfl (p_as rfl) ?_
    refine wl_nil ?_
    refine x_in_normal ?_
    refine x_seq ?_
    refine wc_region ?_
    refine wl rfl rfl rfl (p_add rfl rfl (w64 (by omega))) ?_
    refine wl rfl rfl rfl (p_mv rfl) ?_
    refine wl_nil ?_
    refine x_round (e' := [(0, u32v (crcF (~~~ s) (b.take (k + 1)))), (9, .slice Ab lb cb), (10, i64 (lb : Int)), (11, i64 ((k + 1) : Int))]) ⟨(by rw [hst, eight]; rfl), rfl, rfl, rfl, trivial⟩ (by rw [hm0]; omega) ⟨k + 1, rfl, rfl, by omega, hb, hnib, HC⟩
  ·
    have c0 := of_decide_eq_false c0
    have hk2 : k = b.length := by omega
    refine wc_exit ?_
    refine x_then_exit ?_
    refine x_then_exit ?_
    refine x_in_here ?_
    refine x_seq ?_
    refine wc_seq ?_
    refine wc_region ?_
    refine wl rfl rfl rfl (p_mv rfl) ?_
    refine wl rfl rfl rfl (p_not32 rfl) ?_
    refine wl rfl rfl rfl (p_as rfl) ?_
    refine wl_nil ?_
    refine x_seq ?_
    refine wc_ret ?_
    refine fin_run (res1 rfl rfl) ?_
    subst hk2; rw [List.take_length]; exact ⟨rfl, HC⟩

set_option maxHeartbeats 1000000 in
set_option maxRecDepth 20000 in
theorem of_any {w : World} {Ab : Option Addr} {lb cb : Nat} {Fb : Nat → Prop} {b : List UInt8} (hb : Sl w Fb u8v Ab lb cb b) (hl : lb ≤ 140737488355328) (hnib : Sl w (fun k => k = 0) u32v (some ⟨0, 0, none⟩) 16 16 nib) :
    Calls Tryd.prog 47 #[.slice Ab lb cb] w fun e w' => e = .returned (u32v (crc b)) ∧ Ch No w w' := by
  have hb := hb.old
  have HC : Ch No w w := Ch.refl _ _
  refine enter' (args := [.slice Ab lb cb]) (n := 5) Tryd.func47 rfl rfl rfl ?_
  refine wc_seq ?_
  refine wc_region ?_
  refine wl rfl rfl rfl (p_as rfl) ?_
  refine wl_nil ?_
  refine x_seq ?_
  refine wc_seq ?_
  refine wc_region ?_
  refine wl rfl rfl rfl (p_mv rfl) ?_
  refine wle rfl (e_call ent53 rfl rfl (add_any (s := 0#32) (hb) (by omega) hnib) ?_)
  rintro _ w1 ⟨rfl, hc⟩
  refine ⟨_, rfl, ?_⟩
  have hzw1 := hc.size
  have HC := HC.tr hc
  have hb := hb.no hc
  have hnib := hnib.no hc
  refine wl rfl rfl rfl (p_as rfl) ?_
  refine wl_nil ?_
  refine x_seq ?_
  refine wc_ret ?_
  refine fin_run (res1 rfl rfl) ?_
  exact ⟨rfl, HC⟩

set_option maxHeartbeats 1000000 in
set_option maxRecDepth 20000 in
theorem frame_any {w : World} {Ab : Option Addr} {lb cb : Nat} {Fb : Nat → Prop} {b : List UInt8} (hb : Sl w Fb u8v Ab lb cb b) (hl : lb ≤ 140737488355328) (hnib : Sl w (fun k => k = 0) u32v (some ⟨0, 0, none⟩) 16 16 nib) :
    Calls Tryd.prog 31 #[.slice Ab lb cb] w fun e w' => ∃ A c, e = .returned (.slice A ((frame b).length) c) ∧ Row w' (fun k => w.heap.size ≤ k) 5 1 (.slice A ((frame b).length) c) ((frame b).length) ((frame b).map u8v) ∧ Ch No w w' := by
  have hbl := hb.len
  have hn0 : 0 < w.heap.size := hnib.size (by omega) rfl
  have hb := hb.old
  have HC : Ch No w w := Ch.refl _ _
  refine enter' (args := [.slice Ab lb cb]) (n := 29) Tryd.func31 rfl rfl rfl ?_
  refine wc_seq ?_
  refine wc_region ?_
  refine wl rfl rfl rfl (p_as rfl) ?_
  refine wl_nil ?_
  refine x_seq ?_
  refine wc_seq ?_
  refine wc_seq ?_
  refine wc_region ?_
  refine wl rfl rfl rfl (p_mv rfl) ?_
  refine wl rfl rfl rfl (p_lenS Tryd.underlying22 rfl) ?_
  refine wl rfl rfl rfl (p_gt rfl rfl) ?_
  refine wl_nil ?_
  refine x_seq ?_
  refine wc_if rfl (fun c0 => ?_) (fun c0 => ?_)
  ·
    have c0 := of_decide_eq_true c0
    refine wc_seq ?_
    refine wc_region ?_
    refine wl rfl rfl rfl (p_as rfl) ?_
    refine wl_nil ?_
    refine x_seq ?_
    refine wc_ret ?_
    refine x_then_ret ?_
    refine fin_run (res1 rfl rfl) ?_
    first
      | (rw [frame_long (by omega)]; exact ⟨_, _, rfl, Row.nil _ _ _ _, HC⟩)
      | (rw [frame_len hbl (by omega), frame_at hbl (by omega)]; rw [Nat.zero_add] at hW12; rw [Nat.zero_add]; exact ⟨_, _, rfl, (show _ = _ from frame_cells _ _) ▸ hW12.mono (fun k _ hk => by first | omega | (dsimp only at *; omega)), HC⟩)
  ·
    have c0 := of_decide_eq_false c0
    have hle := encN_len (x := lb) (by omega)
    refine wc_skip ?_
    refine x_seq ?_
    refine wc_seq ?_
    refine wc_region ?_
    refine wl rfl rfl rfl (p_mv rfl) ?_
    refine wl rfl rfl rfl (p_lenS Tryd.underlying22 rfl) ?_
    refine wl rfl rfl rfl (p_conv Tryd.underlying3 Tryd.underlying76 rfl (wu64 (by omega))) ?_
    refine wle rfl (e_call ent46 rfl rfl (num_any (Sl.nil (F := No)) (by omega) (by omega)) ?_)
    rintro _ w1 ⟨A12, c12, rfl, hW12, hc⟩
    refine ⟨_, rfl, ?_⟩
    have hzw1 := hc.size
    have HC := HC.tr hc
    have hb := hb.no hc
    have hnib := hnib.no hc
    refine wl rfl rfl rfl (p_mv rfl) ?_
    refine wle rfl (e_appS rfl el22 one_u8 rfl rfl hW12 hb (by omega) (by intro k hk; first | omega | (dsimp only at *; omega)) (fun w2 A14 c14 hW12 hc => ?_))
    have hzw2 := hc.size
    have HC := HC.trans hc (fun _ _ h => h) (fun k hk ht => absurd ht (by first | omega | (dsimp only at *; omega)))
    first | have hb := hb.ch hc (by intro k hk ht; first | omega | (dsimp only at *; omega)) | have hb := hb.chT hc (by intro k hz hk ht; first | omega | (dsimp only at *; omega))
    first | have hnib := hnib.ch hc (by intro k hk ht; first | omega | (dsimp only at *; omega)) | have hnib := hnib.chT hc (by intro k hz hk ht; first | omega | (dsimp only at *; omega))
    refine wl rfl rfl rfl (p_as rfl) ?_
    refine wl_nil ?_
    refine x_seq ?_
    refine wc_seq ?_
    refine wc_region ?_
    refine wl rfl rfl rfl (p_mv rfl) ?_
    refine wle rfl (e_call ent47 rfl rfl (of_any (hW12.sl) (by omega) hnib) ?_)
    rintro _ w3 ⟨rfl, hc⟩
    refine ⟨_, rfl, ?_⟩
    have hzw3 := hc.size
    have HC := HC.tr hc
    have hb := hb.no hc
    have hnib := hnib.no hc
    have hW12 := hW12.after hc
    refine wl rfl rfl rfl (p_as rfl) ?_
    refine wl_nil ?_
    refine x_seq ?_
    refine wc_seq ?_
    refine wc_seq ?_
    refine wc_region ?_
    refine wl rfl rfl rfl (p_as rfl) ?_
    refine wl_nil ?_
    refine x_seq ?_
    refine wc_block ?_
    refine wc_rounds 5 ?_
    refine wr_succ ?_
    refine wc_seq ?_
    refine wc_seq ?_
    refine wc_region ?_
    refine wl rfl rfl rfl (p_mv rfl) ?_
    refine wl rfl rfl rfl (p_ge rfl rfl) ?_
    refine wl_nil ?_
    refine x_seq ?_
    refine wc_yes rfl (by decide) ?_
    refine wc_skip ?_
    refine x_seq ?_
    refine wc_seq ?_
    refine wc_block ?_
    refine wc_region ?_
    refine wl rfl rfl rfl (p_mv rfl) ?_
    refine wl rfl rfl rfl (p_mv rfl) ?_
    refine wl rfl rfl rfl (p_mv rfl) ?_
    refine wl rfl rfl rfl (p_shr32 (Y := 24) rfl rfl) ?_
    refine wl rfl rfl rfl (p_conv32B Tryd.underlying79 Tryd.underlying5 rfl) ?_
    refine wle rfl (e_bslV (E := 5) rfl rfl (fun _ => by kernel_rfl) (fun w4 g26 hg26 hb26 hc hsz26 => ?_))
    have hzw4 := hc.size
    have HC := HC.tr hc
    have hb := hb.no hc
    have hnib := hnib.no hc
    have hW12 := hW12.after hc
    have hge26 : w.heap.size ≤ g26 := by have := HC.size; omega
    have hS26 := Sl.lit1 (f := u8v) hb26
    refine wle rfl (e_appS rfl el22 one_u8 rfl rfl hW12 hS26 (by omega) (by intro k hk; first | omega | (dsimp only at *; omega)) (fun w5 A27 c27 hW12 hc => ?_))
    have hzw5 := hc.size
    have HC := HC.trans hc (fun _ _ h => h) (fun k hk ht => absurd ht (by first | omega | (dsimp only at *; omega)))
    first | have hb := hb.ch hc (by intro k hk ht; first | omega | (dsimp only at *; omega)) | have hb := hb.chT hc (by intro k hz hk ht; first | omega | (dsimp only at *; omega))
    first | have hnib := hnib.ch hc (by intro k hk ht; first | omega | (dsimp only at *; omega)) | have hnib := hnib.chT hc (by intro k hz hk ht; first | omega | (dsimp only at *; omega))
    first | have hS26 := hS26.ch hc (by intro k hk ht; first | omega | (dsimp only at *; omega)) | have hS26 := hS26.chT hc (by intro k hz hk ht; first | omega | (dsimp only at *; omega))
    refine wl rfl rfl rfl (p_as rfl) ?_
    refine wl_nil ?_
    refine x_in_normal ?_
    refine x_seq ?_
    refine wc_region ?_
    refine wl rfl rfl rfl (p_mv rfl) ?_
    refine wl rfl rfl rfl (p_sub (Z := 16) rfl rfl (w64 (by omega))) ?_
    refine wl rfl rfl rfl (p_as rfl) ?_
    refine wl_nil ?_
    refine x_rounds ?_
    refine wr_succ ?_
    refine wc_seq ?_
    refine wc_seq ?_
    refine wc_region ?_
    refine wl rfl rfl rfl (p_mv rfl) ?_
    refine wl rfl rfl rfl (p_ge rfl rfl) ?_
    refine wl_nil ?_
    refine x_seq ?_
    refine wc_yes rfl (by decide) ?_
    refine wc_skip ?_
    refine x_seq ?_
    refine wc_seq ?_
    refine wc_block ?_
    refine wc_region ?_
    refine wl rfl rfl rfl (p_mv rfl) ?_
    refine wl rfl rfl rfl (p_mv rfl) ?_
    refine wl rfl rfl rfl (p_mv rfl) ?_
    refine wl rfl rfl rfl (p_shr32 (Y := 16) rfl rfl) ?_
    refine wl rfl rfl rfl (p_conv32B Tryd.underlying79 Tryd.underlying5 rfl) ?_
    refine wle rfl (e_bslV (E := 5) rfl rfl (fun _ => by kernel_rfl) (fun w6 g26 hg26 hb26 hc hsz26 => ?_))
    have hzw6 := hc.size
    have HC := HC.tr hc
    have hb := hb.no hc
    have hnib := hnib.no hc
    have hW12 := hW12.after hc
    have hS26 := hS26.no hc
    have hge26 : w.heap.size ≤ g26 := by have := HC.size; omega
    have hS26 := Sl.lit1 (f := u8v) hb26
    refine wle rfl (e_appS rfl el22 one_u8 rfl rfl hW12 hS26 (by omega) (by intro k hk; first | omega | (dsimp only at *; omega)) (fun w7 A27 c27 hW12 hc => ?_))
    have hzw7 := hc.size
    have HC := HC.trans hc (fun _ _ h => h) (fun k hk ht => absurd ht (by first | omega | (dsimp only at *; omega)))
    first | have hb := hb.ch hc (by intro k hk ht; first | omega | (dsimp only at *; omega)) | have hb := hb.chT hc (by intro k hz hk ht; first | omega | (dsimp only at *; omega))
    first | have hnib := hnib.ch hc (by intro k hk ht; first | omega | (dsimp only at *; omega)) | have hnib := hnib.chT hc (by intro k hz hk ht; first | omega | (dsimp only at *; omega))
    first | have hS26 := hS26.ch hc (by intro k hk ht; first | omega | (dsimp only at *; omega)) | have hS26 := hS26.chT hc (by intro k hz hk ht; first | omega | (dsimp only at *; omega))
    refine wl rfl rfl rfl (p_as rfl) ?_
    refine wl_nil ?_
    refine x_in_normal ?_
    refine x_seq ?_
    refine wc_region ?_
    refine wl rfl rfl rfl (p_mv rfl) ?_
    refine wl rfl rfl rfl (p_sub (Z := 8) rfl rfl (w64 (by omega))) ?_
    refine wl rfl rfl rfl (p_as rfl) ?_
    refine wl_nil ?_
    refine x_rounds ?_
    refine wr_succ ?_
    refine wc_seq ?_
    refine wc_seq ?_
    refine wc_region ?_
    refine wl rfl rfl rfl (p_mv rfl) ?_
    refine wl rfl rfl rfl (p_ge rfl rfl) ?_
    refine wl_nil ?_
    refine x_seq ?_
    refine wc_yes rfl (by decide) ?_
    refine wc_skip ?_
    refine x_seq ?_
    refine wc_seq ?_
    refine wc_block ?_
    refine wc_region ?_
    refine wl rfl rfl rfl (p_mv rfl) ?_
    refine wl rfl rfl rfl (p_mv rfl) ?_
    refine wl rfl rfl rfl (p_mv rfl) ?_
    refine wl rfl rfl rfl (p_shr32 (Y := 8) rfl rfl) ?_
    refine wl rfl rfl rfl (p_conv32B Tryd.underlying79 Tryd.underlying5 rfl) ?_
    refine wle rfl (e_bslV (E := 5) rfl rfl (fun _ => by kernel_rfl) (fun w8 g26 hg26 hb26 hc hsz26 => ?_))
    have hzw8 := hc.size
    have HC := HC.tr hc
    have hb := hb.no hc
    have hnib := hnib.no hc
    have hW12 := hW12.after hc
    have hS26 := hS26.no hc
    have hge26 : w.heap.size ≤ g26 := by have := HC.size; omega
    have hS26 := Sl.lit1 (f := u8v) hb26
    refine wle rfl (e_appS rfl el22 one_u8 rfl rfl hW12 hS26 (by omega) (by intro k hk; first | omega | (dsimp only at *; omega)) (fun w9 A27 c27 hW12 hc => ?_))
    have hzw9 := hc.size
    have HC := HC.trans hc (fun _ _ h => h) (fun k hk ht => absurd ht (by first | omega | (dsimp only at *; omega)))
    first | have hb := hb.ch hc (by intro k hk ht; first | omega | (dsimp only at *; omega)) | have hb := hb.chT hc (by intro k hz hk ht; first | omega | (dsimp only at *; omega))
    first | have hnib := hnib.ch hc (by intro k hk ht; first | omega | (dsimp only at *; omega)) | have hnib := hnib.chT hc (by intro k hz hk ht; first | omega | (dsimp only at *; omega))
    first | have hS26 := hS26.ch hc (by intro k hk ht; first | omega | (dsimp only at *; omega)) | have hS26 := hS26.chT hc (by intro k hz hk ht; first | omega | (dsimp only at *; omega))
    refine wl rfl rfl rfl (p_as rfl) ?_
    refine wl_nil ?_
    refine x_in_normal ?_
    refine x_seq ?_
    refine wc_region ?_
    refine wl rfl rfl rfl (p_mv rfl) ?_
    refine wl rfl rfl rfl (p_sub (Z := 0) rfl rfl (w64 (by omega))) ?_
    refine wl rfl rfl rfl (p_as rfl) ?_
    refine wl_nil ?_
    refine x_rounds ?_
    refine wr_succ ?_
    refine wc_seq ?_
    refine wc_seq ?_
    refine wc_region ?_
    refine wl rfl rfl rfl (p_mv rfl) ?_
    refine wl rfl rfl rfl (p_ge rfl rfl) ?_
    refine wl_nil ?_
    refine x_seq ?_
    refine wc_yes rfl (by decide) ?_
    refine wc_skip ?_
    refine x_seq ?_
    refine wc_seq ?_
    refine wc_block ?_
    refine wc_region ?_
    refine wl rfl rfl rfl (p_mv rfl) ?_
    refine wl rfl rfl rfl (p_mv rfl) ?_
    refine wl rfl rfl rfl (p_mv rfl) ?_
    refine wl rfl rfl rfl (p_shr32 (Y := 0) rfl rfl) ?_
    refine wl rfl rfl rfl (p_conv32B Tryd.underlying79 Tryd.underlying5 rfl) ?_
    refine wle rfl (e_bslV (E := 5) rfl rfl (fun _ => by kernel_rfl) (fun w10 g26 hg26 hb26 hc hsz26 => ?_))
    have hzw10 := hc.size
    have HC := HC.tr hc
    have hb := hb.no hc
    have hnib := hnib.no hc
    have hW12 := hW12.after hc
    have hS26 := hS26.no hc
    have hge26 : w.heap.size ≤ g26 := by have := HC.size; omega
    have hS26 := Sl.lit1 (f := u8v) hb26
    refine wle rfl (e_appS rfl el22 one_u8 rfl rfl hW12 hS26 (by omega) (by intro k hk; first | omega | (dsimp only at *; omega)) (fun w11 A27 c27 hW12 hc => ?_))
    have hzw11 := hc.size
    have HC := HC.trans hc (fun _ _ h => h) (fun k hk ht => absurd ht (by first | omega | (dsimp only at *; omega)))
    first | have hb := hb.ch hc (by intro k hk ht; first | omega | (dsimp only at *; omega)) | have hb := hb.chT hc (by intro k hz hk ht; first | omega | (dsimp only at *; omega))
    first | have hnib := hnib.ch hc (by intro k hk ht; first | omega | (dsimp only at *; omega)) | have hnib := hnib.chT hc (by intro k hz hk ht; first | omega | (dsimp only at *; omega))
    first | have hS26 := hS26.ch hc (by intro k hk ht; first | omega | (dsimp only at *; omega)) | have hS26 := hS26.chT hc (by intro k hz hk ht; first | omega | (dsimp only at *; omega))
    refine wl rfl rfl rfl (p_as rfl) ?_
    refine wl_nil ?_
    refine x_in_normal ?_
    refine x_seq ?_
    refine wc_region ?_
    refine wl rfl rfl rfl (p_mv rfl) ?_
    refine wl rfl rfl rfl (p_sub (Z := -8) rfl rfl (w64 (by omega))) ?_
    refine wl rfl rfl rfl (p_as rfl) ?_
    refine wl_nil ?_
    refine x_rounds ?_
    refine wr_succ ?_
    refine wc_seq ?_
    refine wc_seq ?_
    refine wc_region ?_
    refine wl rfl rfl rfl (p_mv rfl) ?_
    refine wl rfl rfl rfl (p_ge rfl rfl) ?_
    refine wl_nil ?_
    refine x_seq ?_
    refine wc_no rfl (by decide) ?_
    refine wc_exit ?_
    refine x_then_exit ?_
    refine x_then_exit ?_
    refine x_in_here ?_
    refine x_seq ?_
    refine wc_seq ?_
    refine wc_region ?_
    refine wl rfl rfl rfl (p_mv rfl) ?_
    refine wl rfl rfl rfl (p_as rfl) ?_
    refine wl_nil ?_
    refine x_seq ?_
    refine wc_ret ?_
    refine fin_run (res1 rfl rfl) ?_
    first
      | (rw [frame_long (by omega)]; exact ⟨_, _, rfl, Row.nil _ _ _ _, HC⟩)
      | (rw [frame_len hbl (by omega), frame_at hbl (by omega)]; rw [Nat.zero_add] at hW12; rw [Nat.zero_add]; exact ⟨_, _, rfl, (show _ = _ from frame_cells _ _) ▸ hW12.mono (fun k _ hk => by first | omega | (dsimp only at *; omega)), HC⟩)

set_option maxHeartbeats 1000000 in
set_option maxRecDepth 20000 in
theorem open_any {w : World} {Ab : Option Addr} {lb cb : Nat} {Fb : Nat → Prop} {b : List UInt8} (hb : Sl w Fb u8v Ab lb cb b) (hl : lb ≤ 140737488355328) (hnib : Sl w (fun k => k = 0) u32v (some ⟨0, 0, none⟩) 16 16 nib) :
    Calls Tryd.prog 42 #[.slice Ab lb cb] w fun e w' => ∃ A c, e = .returned (.tuple #[.slice A (opx b).length c, i64 (opk b : Int), .bool (opo b)]) ∧ Row w' (fun k => w.heap.size ≤ k) 5 1 (.slice A (opx b).length c) (opx b).length ((opx b).map u8v) ∧ Ch No w w' := by
  have hbl := hb.len
  have hn0 : 0 < w.heap.size := hnib.size (by omega) rfl
  have hgk := gnk_le b
  have hgv := gnv_lt b
  have hb := hb.old
  have HC : Ch No w w := Ch.refl _ _
  refine enter' (args := [.slice Ab lb cb]) (n := 67) Tryd.func42 rfl rfl rfl ?_
  refine wc_seq ?_
  refine wc_region ?_
  refine wl rfl rfl rfl (p_as rfl) ?_
  refine wl rfl rfl rfl (p_as rfl) ?_
  refine wl rfl rfl rfl (p_as rfl) ?_
  refine wl_nil ?_
  refine x_seq ?_
  refine wc_seq ?_
  refine wc_region ?_
  refine wl rfl rfl rfl (p_mv rfl) ?_
  refine wle rfl (e_call ent50 rfl rfl (getnum_any (hb) (by omega)) ?_)
  rintro _ w1 ⟨rfl, hc⟩
  refine ⟨_, rfl, ?_⟩
  have hzw1 := hc.size
  have HC := HC.tr hc
  have hb := hb.no hc
  have hnib := hnib.no hc
  refine wl rfl rfl rfl (p_mv rfl) ?_
  refine wl rfl rfl rfl (p_ext rfl rfl) ?_
  refine wl rfl rfl rfl (p_ext rfl rfl) ?_
  refine wl rfl rfl rfl (p_ext rfl rfl) ?_
  refine wl rfl rfl rfl (p_as rfl) ?_
  refine wl rfl rfl rfl (p_as rfl) ?_
  refine wl rfl rfl rfl (p_as rfl) ?_
  refine wl_nil ?_
  refine x_seq ?_
  refine wc_seq ?_
  refine wc_seq ?_
  refine wc_region ?_
  refine wl rfl rfl rfl (p_mv rfl) ?_
  refine wl rfl rfl rfl (p_not rfl) ?_
  refine wl rfl rfl rfl (p_mv rfl) ?_
  refine wl_split (d := 20) rfl (fun q20 => ?_) (fun q20 => ?_)
  ·
    have eg := opn_0 q20
    refine wl_s (gd_ rfl rfl rfl rfl rfl rfl) rfl rfl ?_
    refine wl_s (gd_ rfl rfl rfl rfl rfl rfl) rfl rfl ?_
    refine wl rfl rfl rfl (p_pickT rfl rfl) ?_
    refine wl rfl rfl rfl (p_mv rfl) ?_
    refine wl_s (gd_ rfl rfl rfl rfl rfl rfl) rfl rfl ?_
    refine wl_s (gd_ rfl rfl rfl rfl rfl rfl) rfl rfl ?_
    refine wl_s (gd_ rfl rfl rfl rfl rfl rfl) rfl rfl ?_
    refine wl_s (gd_ rfl rfl rfl rfl rfl rfl) rfl rfl ?_
    refine wl_s (gd_ rfl rfl rfl rfl rfl rfl) rfl rfl ?_
    refine wl_s (gd_ rfl rfl rfl rfl rfl rfl) rfl rfl ?_
    refine wl_s (gd_ rfl rfl rfl rfl rfl rfl) rfl rfl ?_
    refine wl_s (gd_ rfl rfl rfl rfl rfl rfl) rfl rfl ?_
    refine wl rfl rfl rfl (p_pickT rfl rfl) ?_
    refine wl_nil ?_
    refine x_seq ?_
    refine wc_yes rfl (rfl) ?_
    refine wc_seq ?_
    refine wc_region ?_
    refine wl rfl rfl rfl (p_as rfl) ?_
    refine wl rfl rfl rfl (p_as rfl) ?_
    refine wl rfl rfl rfl (p_as rfl) ?_
    refine wl_nil ?_
    refine x_seq ?_
    refine wc_ret ?_
    refine x_then_ret ?_
    refine fin_run (res3 rfl rfl rfl rfl) ?_
    first
      | (obtain ⟨e1, e2, e3⟩ := op_none eg; rw [e1, e2, e3]; exact ⟨_, _, rfl, Row.nil _ _ _ _, HC⟩)
      | (obtain ⟨e1, e2, e3⟩ := op_some eg; rw [e1, e2, e3, hxl]; exact ⟨_, _, rfl, hW64.mono (fun k _ hk => by first | omega | (dsimp only at *; omega)), HC⟩)
  ·
    have hgo : gno b = true := by simpa using q20
    refine wl_g (gd_ rfl rfl rfl rfl rfl rfl) rfl rfl (p_mv rfl) ?_
    refine wl_g (gd_ rfl rfl rfl rfl rfl rfl) rfl rfl (p_gt rfl rfl) ?_
    refine wl rfl rfl rfl (p_pickF rfl rfl) ?_
    refine wl rfl rfl rfl (p_mv rfl) ?_
    refine wl_split (d := 24) rfl (fun q24 => ?_) (fun q24 => ?_)
    ·
      have q24 := of_decide_eq_true q24
      have eg := opn_1 hgo (.inl (by omega))
      refine wl_s (gd_ rfl rfl rfl rfl rfl rfl) rfl rfl ?_
      refine wl_s (gd_ rfl rfl rfl rfl rfl rfl) rfl rfl ?_
      refine wl_s (gd_ rfl rfl rfl rfl rfl rfl) rfl rfl ?_
      refine wl_s (gd_ rfl rfl rfl rfl rfl rfl) rfl rfl ?_
      refine wl_s (gd_ rfl rfl rfl rfl rfl rfl) rfl rfl ?_
      refine wl_s (gd_ rfl rfl rfl rfl rfl rfl) rfl rfl ?_
      refine wl_s (gd_ rfl rfl rfl rfl rfl rfl) rfl rfl ?_
      refine wl_s (gd_ rfl rfl rfl rfl rfl rfl) rfl rfl ?_
      refine wl rfl rfl rfl (p_pickT rfl rfl) ?_
      refine wl_nil ?_
      refine x_seq ?_
      refine wc_yes rfl (rfl) ?_
      refine wc_seq ?_
      refine wc_region ?_
      refine wl rfl rfl rfl (p_as rfl) ?_
      refine wl rfl rfl rfl (p_as rfl) ?_
      refine wl rfl rfl rfl (p_as rfl) ?_
      refine wl_nil ?_
      refine x_seq ?_
      refine wc_ret ?_
      refine x_then_ret ?_
      refine fin_run (res3 rfl rfl rfl rfl) ?_
      first
        | (obtain ⟨e1, e2, e3⟩ := op_none eg; rw [e1, e2, e3]; exact ⟨_, _, rfl, Row.nil _ _ _ _, HC⟩)
        | (obtain ⟨e1, e2, e3⟩ := op_some eg; rw [e1, e2, e3, hxl]; exact ⟨_, _, rfl, hW64.mono (fun k _ hk => by first | omega | (dsimp only at *; omega)), HC⟩)
    ·
      have q24 := of_decide_eq_false q24
      refine wl_g (gd_ rfl rfl rfl rfl rfl rfl) rfl rfl (p_mv rfl) ?_
      refine wl_g (gd_ rfl rfl rfl rfl rfl rfl) rfl rfl (p_add rfl rfl (wu64 (by omega))) ?_
      refine wl_g (gd_ rfl rfl rfl rfl rfl rfl) rfl rfl (p_mv rfl) ?_
      refine wl_g (gd_ rfl rfl rfl rfl rfl rfl) rfl rfl (p_lenS Tryd.underlying22 rfl) ?_
      refine wl_g (gd_ rfl rfl rfl rfl rfl rfl) rfl rfl (p_mv rfl) ?_
      refine wl_g (gd_ rfl rfl rfl rfl rfl rfl) rfl rfl (p_sub rfl rfl (w64 (by omega))) ?_
      refine wl_g (gd_ rfl rfl rfl rfl rfl rfl) rfl rfl (p_conv Tryd.underlying3 Tryd.underlying76 rfl (wu64 (by omega))) ?_
      refine wl_g (gd_ rfl rfl rfl rfl rfl rfl) rfl rfl (p_gt rfl rfl) ?_
      refine wl rfl rfl rfl (p_pickF rfl rfl) ?_
      refine wl_nil ?_
      refine x_seq ?_
      refine wc_if rfl (fun c0 => ?_) (fun c0 => ?_)
      ·
        have c0 := of_decide_eq_true c0
        have eg := opn_1 hgo (.inr (by omega))
        refine wc_seq ?_
        refine wc_region ?_
        refine wl rfl rfl rfl (p_as rfl) ?_
        refine wl rfl rfl rfl (p_as rfl) ?_
        refine wl rfl rfl rfl (p_as rfl) ?_
        refine wl_nil ?_
        refine x_seq ?_
        refine wc_ret ?_
        refine x_then_ret ?_
        refine fin_run (res3 rfl rfl rfl rfl) ?_
        first
          | (obtain ⟨e1, e2, e3⟩ := op_none eg; rw [e1, e2, e3]; exact ⟨_, _, rfl, Row.nil _ _ _ _, HC⟩)
          | (obtain ⟨e1, e2, e3⟩ := op_some eg; rw [e1, e2, e3, hxl]; exact ⟨_, _, rfl, hW64.mono (fun k _ hk => by first | omega | (dsimp only at *; omega)), HC⟩)
      ·
        have c0 := of_decide_eq_false c0
        have hnn : ¬ (8192 < gnv b ∨ b.length - gnk b < gnv b + 4) := by omega
        have hl4 : ((b.drop (gnk b + gnv b)).take 4).length = 4 := by rw [List.length_take, List.length_drop]; omega
        have hxl : ((b.drop (gnk b)).take (gnv b)).length = gnv b := by rw [List.length_take, List.length_drop]; omega
        refine wc_skip ?_
        refine x_seq ?_
        refine wc_seq ?_
        refine wc_region ?_
        refine wl rfl rfl rfl (p_mv rfl) ?_
        refine wl rfl rfl rfl (p_mv rfl) ?_
        refine wl rfl rfl rfl (p_conv Tryd.underlying76 Tryd.underlying3 rfl (w64 (by omega))) ?_
        refine wl rfl rfl rfl (p_add rfl rfl (w64 (by omega))) ?_
        refine wl rfl rfl rfl (p_as rfl) ?_
        refine wl_nil ?_
        refine x_seq ?_
        refine wc_seq ?_
        refine wc_region ?_
        refine wl rfl rfl rfl (p_as rfl) ?_
        refine wl_nil ?_
        refine x_seq ?_
        refine wc_seq ?_
        refine wc_seq ?_
        refine wc_region ?_
        refine wl rfl rfl rfl (p_mv rfl) ?_
        refine wl rfl rfl rfl (p_mv rfl) ?_
        refine wl rfl rfl rfl (p_mv rfl) ?_
        refine wl rfl rfl rfl (p_add rfl rfl (w64 (by omega))) ?_
        have hS42 := hb.cut (lo := (gnk b + gnv b)) (hi := (gnk b + gnv b) + 4) (q := 4) (by omega) (by omega) (by omega)
        refine wl rfl rfl rfl (p_slS (l := (gnk b + gnv b)) (h := (gnk b + gnv b) + 4) Tryd.underlying22 sz5 rfl ⟨_, rfl⟩ ⟨_, rfl⟩ (by omega) (by have := hb.cap; omega) hb.cap (q := 4) (by omega)) ?_
        refine wl rfl rfl rfl (p_lenS Tryd.underlying22 rfl) ?_
        refine wl rfl rfl rfl (p_mv rfl) ?_
        refine wl_nil ?_
        refine x_seq ?_
        refine wc_block ?_
        refine wc_loop (e' := [(0, .slice Ab lb cb), (6, i64 (gnk b : Int)), (8, i64 ((gnk b : Int) + (gnv b : Int))), (9, u32v (BitVec.ofNat 32 (val (((b.drop (gnk b + gnv b)).take 4).take (0))))), (42, .slice (cutA Ab cb (gnk b + gnv b) 1) 4 (cb - (gnk b + gnv b))), (43, i64 ((4 : Nat) : Int)), (44, i64 ((0) : Int))]) (fun mz ez uz => ∃ k : Nat, mz = 4 - k ∧ ez = [(0, .slice Ab lb cb), (6, i64 (gnk b : Int)), (8, i64 ((gnk b : Int) + (gnv b : Int))), (9, u32v (BitVec.ofNat 32 (val (((b.drop (gnk b + gnv b)).take 4).take k)))), (42, .slice (cutA Ab cb (gnk b + gnv b) 1) 4 (cb - (gnk b + gnv b))), (43, i64 ((4 : Nat) : Int)), (44, i64 (k : Int))] ∧ (k ≤ 4) ∧ (Sl uz (fun k => k < w.heap.size) u8v Ab lb cb b) ∧ (Sl uz (fun k => k = 0) u32v (some ⟨0, 0, none⟩) 16 16 nib) ∧ (Sl uz (fun k => k < w.heap.size) u8v (cutA Ab cb (gnk b + gnv b) 1) 4 (cb - (gnk b + gnv b)) ((b.drop (gnk b + gnv b)).take 4)) ∧ (Ch No w uz))
          ⟨rfl, rfl, rfl, rfl, rfl, rfl, rfl, trivial⟩ ⟨0, rfl, rfl, by omega, hb, hnib, hS42, HC⟩ ?_
        rintro m0 e w2 ⟨k, hm0, rfl, hk, hb, hnib, hS42, HC⟩
        have hzw2 := HC.size
        refine wc_seq ?_
        refine wc_region ?_
        refine wl rfl rfl rfl (p_lt rfl rfl) ?_
        refine wl_nil ?_
        refine x_seq ?_
        refine wc_seq ?_
        refine wc_if rfl (fun c1 => ?_) (fun c1 => ?_)
        ·
          have c1 := of_decide_eq_true c1
          have hst := val32_step (k := k) (by omega) hl4
          refine wc_skip ?_
          refine x_seq ?_
          refine wc_seq ?_
          refine wc_block ?_
          refine wc_seq ?_
          refine wc_region ?_
          obtain ⟨b3, o3, hA3, hF3, hc3⟩ := (hS42).opn (d := 0) (by omega)
          refine wl rfl rfl rfl (p_ixS1 Tryd.underlying22 sz5 rfl hA3 rfl (by omega) (by omega) (Int.toNat_natCast _)) ?_
          refine wl rfl rfl rfl (p_ld Tryd.underlying5 rfl rfl (ld (hc3 _ (by omega)))) ?_
          refine wl rfl rfl rfl (p_as rfl) ?_
          refine wl_nil ?_
          refine x_seq ?_
          refine wc_region ?_
          refine wl rfl rfl rfl (p_mv rfl) ?_
          refine wl rfl rfl rfl (p_shl32 (Y := 8) rfl rfl) ?_
          refine wl rfl rfl rfl (p_mv rfl) ?_
          refine wl rfl rfl rfl (p_convB32 Tryd.underlying5 Tryd.underlying79 rfl) ?_
          refine wl rfl rfl rfl (p_or32 rfl rfl) ?_
          refine wl rfl rfl rfl (p_as rfl) ?_
          refine wl_nil ?_
          refine x_in_normal ?_
          refine x_seq ?_
          refine wc_region ?_
          refine wl rfl rfl rfl (p_add rfl rfl (w64 (by omega))) ?_
          refine wl rfl rfl rfl (p_mv rfl) ?_
          refine wl_nil ?_
          refine x_round (e' := [(0, .slice Ab lb cb), (6, i64 (gnk b : Int)), (8, i64 ((gnk b : Int) + (gnv b : Int))), (9, u32v (BitVec.ofNat 32 (val (((b.drop (gnk b + gnv b)).take 4).take (k + 1))))), (42, .slice (cutA Ab cb (gnk b + gnv b) 1) 4 (cb - (gnk b + gnv b))), (43, i64 ((4 : Nat) : Int)), (44, i64 ((k + 1) : Int))]) ⟨rfl, rfl, rfl, (by rw [← hst]; rfl), rfl, rfl, rfl, trivial⟩ (by rw [hm0]; omega) ⟨k + 1, rfl, rfl, by omega, hb, hnib, hS42, HC⟩
        ·
          have c1 := of_decide_eq_false c1
          have hk4 : k = 4 := by omega
          have hv : val (((b.drop (gnk b + gnv b)).take 4).take k) = val ((b.drop (gnk b + gnv b)).take 4) := by rw [List.take_of_length_le (by omega)]
          have hiff := be4_iff hl4 (crc (b.take (gnk b + gnv b)))
          refine wc_exit ?_
          refine x_then_exit ?_
          refine x_then_exit ?_
          refine x_in_here ?_
          refine x_seq ?_
          refine wc_seq ?_
          refine wc_seq ?_
          refine wc_region ?_
          refine wl rfl rfl rfl (p_mv rfl) ?_
          refine wl rfl rfl rfl (p_mv rfl) ?_
          refine wl rfl rfl rfl (p_mv rfl) ?_
          have hS57 := hb.cut (lo := 0) (hi := (gnk b + gnv b)) (q := (gnk b + gnv b)) (by omega) (by omega) (by omega)
          refine wl rfl rfl rfl (p_slS (l := 0) (h := (gnk b + gnv b)) Tryd.underlying22 sz5 rfl rfl ⟨_, rfl⟩ (by omega) (by have := hb.cap; omega) hb.cap (q := (gnk b + gnv b)) (by omega)) ?_
          refine wle rfl (e_call ent47 rfl rfl (of_any (hS57) (by omega) hnib) ?_)
          rintro _ w4 ⟨rfl, hc⟩
          refine ⟨_, rfl, ?_⟩
          have hzw4 := hc.size
          have HC := HC.tr hc
          have hb := hb.no hc
          have hnib := hnib.no hc
          have hS42 := hS42.no hc
          have hS57 := hS57.no hc
          refine wl rfl rfl rfl (p_ne rfl rfl) ?_
          refine wl_nil ?_
          refine x_seq ?_
          refine wc_if rfl (fun c2 => ?_) (fun c2 => ?_)
          ·
            have c2 := of_decide_eq_true c2
            have eg := opn_2 hgo hnn (fun h => c2 (by rw [hv, hiff.2 h]; rfl))
            refine wc_seq ?_
            refine wc_region ?_
            refine wl rfl rfl rfl (p_as rfl) ?_
            refine wl rfl rfl rfl (p_as rfl) ?_
            refine wl rfl rfl rfl (p_as rfl) ?_
            refine wl_nil ?_
            refine x_seq ?_
            refine wc_ret ?_
            refine x_then_ret ?_
            refine fin_run (res3 rfl rfl rfl rfl) ?_
            first
              | (obtain ⟨e1, e2, e3⟩ := op_none eg; rw [e1, e2, e3]; exact ⟨_, _, rfl, Row.nil _ _ _ _, HC⟩)
              | (obtain ⟨e1, e2, e3⟩ := op_some eg; rw [e1, e2, e3, hxl]; exact ⟨_, _, rfl, hW64.mono (fun k _ hk => by first | omega | (dsimp only at *; omega)), HC⟩)
          ·
            have c2 := of_decide_eq_false c2
            have h3 : be4 (crc (b.take (gnk b + gnv b))) = (b.drop (gnk b + gnv b)).take 4 := hiff.1 (by rw [hv] at c2; exact BitVec.eq_of_toNat_eq (by simp only [List.drop_zero] at c2; omega))
            have eg := opn_3 hgo hnn h3
            refine wc_skip ?_
            refine x_seq ?_
            refine wc_seq ?_
            refine wc_region ?_
            refine wl rfl rfl rfl (p_mv rfl) ?_
            refine wl rfl rfl rfl (p_mv rfl) ?_
            refine wl rfl rfl rfl (p_mv rfl) ?_
            have hS63 := hb.cut (lo := gnk b) (hi := (gnk b + gnv b)) (q := gnv b) (by omega) (by omega) (by omega)
            refine wl rfl rfl rfl (p_slS (l := gnk b) (h := (gnk b + gnv b)) Tryd.underlying22 sz5 rfl ⟨_, rfl⟩ ⟨_, rfl⟩ (by omega) (by have := hb.cap; omega) hb.cap (q := gnv b) (by omega)) ?_
            refine wle rfl (e_call ent51 rfl rfl (clone_any (hS63) (by omega)) ?_)
            rintro _ w5 ⟨A64, c64, rfl, hW64, hc⟩
            refine ⟨_, rfl, ?_⟩
            have hzw5 := hc.size
            have HC := HC.tr hc
            have hb := hb.no hc
            have hnib := hnib.no hc
            have hS42 := hS42.no hc
            have hS57 := hS57.no hc
            have hS63 := hS63.no hc
            refine wl rfl rfl rfl (p_mv rfl) ?_
            refine wl rfl rfl rfl (p_add rfl rfl (w64 (by omega))) ?_
            refine wl rfl rfl rfl (p_as rfl) ?_
            refine wl rfl rfl rfl (p_as rfl) ?_
            refine wl rfl rfl rfl (p_as rfl) ?_
            refine wl_nil ?_
            refine x_seq ?_
            refine wc_ret ?_
            refine fin_run (res3 rfl rfl rfl rfl) ?_
            first
              | (obtain ⟨e1, e2, e3⟩ := op_none eg; rw [e1, e2, e3]; exact ⟨_, _, rfl, Row.nil _ _ _ _, HC⟩)
              | (obtain ⟨e1, e2, e3⟩ := op_some eg; rw [e1, e2, e3, hxl]; exact ⟨_, _, rfl, hW64.mono (fun k _ hk => by first | omega | (dsimp only at *; omega)), HC⟩)

set_option maxHeartbeats 1000000 in
set_option maxRecDepth 20000 in
theorem step_any {w : World} {s : BitVec 32}  :
    Calls Tryd.prog 54 #[u32v s] w fun e w' => e = .returned (u32v (stp s)) ∧ Ch No w w' := by
  have HC : Ch No w w := Ch.refl _ _
  refine enter' (args := [u32v s]) (n := 11) Tryd.func54 rfl rfl rfl ?_
  refine wc_seq ?_
  refine wc_region ?_
  refine wl rfl rfl rfl (p_as rfl) ?_
  refine wl_nil ?_
  refine x_seq ?_
  refine wc_seq ?_
  refine wc_seq ?_
  refine wc_region ?_
  refine wl rfl rfl rfl (p_mv rfl) ?_
  refine wl rfl rfl rfl (p_and32 (Y := 1#32) rfl rfl) ?_
  refine wl rfl rfl rfl (p_eq rfl rfl) ?_
  refine wl_nil ?_
  refine x_seq ?_
  refine wc_if rfl (fun c0 => ?_) (fun c0 => ?_)
  ·
    have c0 := of_decide_eq_true c0
    have hS := stp_odd c0
    refine wc_seq ?_
    refine wc_region ?_
    refine wl rfl rfl rfl (p_mv rfl) ?_
    refine wl rfl rfl rfl (p_shr32 (Y := 1) rfl rfl) ?_
    refine wl rfl rfl rfl (p_xor32 (Y := 2197175160#32) rfl rfl) ?_
    refine wl rfl rfl rfl (p_as rfl) ?_
    refine wl_nil ?_
    refine x_seq ?_
    refine wc_ret ?_
    refine x_then_ret ?_
    refine fin_run (res1 rfl rfl) ?_
    exact ⟨by rw [hS], HC⟩
  ·
    have c0 := of_decide_eq_false c0
    have hS := stp_ev c0
    refine wc_skip ?_
    refine x_seq ?_
    refine wc_seq ?_
    refine wc_region ?_
    refine wl rfl rfl rfl (p_mv rfl) ?_
    refine wl rfl rfl rfl (p_shr32 (Y := 1) rfl rfl) ?_
    refine wl rfl rfl rfl (p_as rfl) ?_
    refine wl_nil ?_
    refine x_seq ?_
    refine wc_ret ?_
    refine fin_run (res1 rfl rfl) ?_
    exact ⟨by rw [hS], HC⟩

set_option maxHeartbeats 1000000 in
set_option maxRecDepth 20000 in
theorem radd_any {w : World} {s : BitVec 32}{Ab : Option Addr} {lb cb : Nat} {Fb : Nat → Prop} {b : List UInt8} (hb : Sl w Fb u8v Ab lb cb b) (hl : lb ≤ 140737488355328) :
    Calls Tryd.prog 52 #[u32v s, .slice Ab lb cb] w fun e w' => e = .returned (u32v (crcAdd s b)) ∧ Ch No w w' := by
  have hbl := hb.len
  have hb := hb.old
  have HC : Ch No w w := Ch.refl _ _
  refine enter' (args := [u32v s, .slice Ab lb cb]) (n := 29) Tryd.func52 rfl rfl rfl ?_
  refine wc_seq ?_
  refine wc_region ?_
  refine wl rfl rfl rfl (p_as rfl) ?_
  refine wl_nil ?_
  refine x_seq ?_
  refine wc_seq ?_
  refine wc_region ?_
  refine wl rfl rfl rfl (p_mv rfl) ?_
  refine wl rfl rfl rfl (p_not32 rfl) ?_
  refine wl rfl rfl rfl (p_as rfl) ?_
  refine wl_nil ?_
  refine x_seq ?_
  refine wc_seq ?_
  refine wc_seq ?_
  refine wc_region ?_
  refine wl rfl rfl rfl (p_mv rfl) ?_
  refine wl rfl rfl rfl (p_lenS Tryd.underlying22 rfl) ?_
  refine wl rfl rfl rfl (p_mv rfl) ?_
  refine wl_nil ?_
  refine x_seq ?_
  refine wc_block ?_
  refine wc_loop (e' := [(0, u32v (crcF (~~~ s) (b.take (0)))), (10, .slice Ab lb cb), (11, i64 (lb : Int)), (12, i64 ((0) : Int))]) (fun mz ez uz => ∃ k : Nat, mz = lb - k ∧ ez = [(0, u32v (crcF (~~~ s) (b.take k))), (10, .slice Ab lb cb), (11, i64 (lb : Int)), (12, i64 (k : Int))] ∧ (k ≤ lb) ∧ (Sl uz (fun k => k < w.heap.size) u8v Ab lb cb b) ∧ (Ch No w uz))
    ⟨rfl, rfl, rfl, rfl, trivial⟩ ⟨0, rfl, rfl, by omega, hb, HC⟩ ?_
  rintro m0 e w1 ⟨k, hm0, rfl, hk, hb, HC⟩
  have hzw1 := HC.size
  refine wc_seq ?_
  refine wc_region ?_
  refine wl rfl rfl rfl (p_lt rfl rfl) ?_
  refine wl_nil ?_
  refine x_seq ?_
  refine wc_seq ?_
  refine wc_if rfl (fun c0 => ?_) (fun c0 => ?_)
  ·
    have c0 := of_decide_eq_true c0
    have hkb : k < b.length := by omega
    have hst := crcF_take (s := ~~~ s) hkb
    refine wc_skip ?_
    refine x_seq ?_
    refine wc_seq ?_
    refine wc_block ?_
    refine wc_seq ?_
    refine wc_region ?_
    obtain ⟨b2, o2, hA2, hF2, hc2⟩ := (hb).opn (d := 0) (by omega)
    refine wl rfl rfl rfl (p_ixS1 Tryd.underlying22 sz5 rfl hA2 rfl (by omega) (by omega) (Int.toNat_natCast _)) ?_
    refine wl rfl rfl rfl (p_ld Tryd.underlying5 rfl rfl (ld (hc2 _ (by omega)))) ?_
    refine wl rfl rfl rfl (p_as rfl) ?_
    refine wl_nil ?_
    refine x_seq ?_
    refine wc_seq ?_
    refine wc_region ?_
    refine wl rfl rfl rfl (p_mv rfl) ?_
    refine wl rfl rfl rfl (p_mv rfl) ?_
    refine wl rfl rfl rfl (p_convB32 Tryd.underlying5 Tryd.underlying79 rfl) ?_
    refine wl rfl rfl rfl (p_xor32 rfl rfl) ?_
    refine wl rfl rfl rfl (p_as rfl) ?_
    refine wl_nil ?_
    refine x_seq ?_
    refine wc_seq ?_
    refine wc_region ?_
    refine wl rfl rfl rfl (p_as rfl) ?_
    refine wl_nil ?_
    refine x_seq ?_
    refine wc_block ?_
    refine wc_loop (e' := [(0, u32v (pw (0) (crcF (~~~ s) (b.take k) ^^^ BitVec.ofNat 32 (b.getD k 0).toNat))), (7, i64 ((0) : Int)), (10, .slice Ab lb cb), (11, i64 (lb : Int)), (12, i64 (k : Int))]) (fun mz ez uz => ∃ i : Nat, mz = 8 - i ∧ ez = [(0, u32v (pw i (crcF (~~~ s) (b.take k) ^^^ BitVec.ofNat 32 (b.getD k 0).toNat))), (7, i64 (i : Int)), (10, .slice Ab lb cb), (11, i64 (lb : Int)), (12, i64 (k : Int))] ∧ (i ≤ 8) ∧ (Sl uz (fun k => k < w.heap.size) u8v Ab lb cb b) ∧ (Ch No w uz))
      ⟨rfl, rfl, rfl, rfl, rfl, trivial⟩ ⟨0, rfl, rfl, by omega, hb, HC⟩ ?_
    rintro m1 e w3 ⟨i, hm1, rfl, hi, hb, HC⟩
    have hzw3 := HC.size
    refine wc_seq ?_
    refine wc_seq ?_
    refine wc_region ?_
    refine wl rfl rfl rfl (p_mv rfl) ?_
    refine wl rfl rfl rfl (p_lt rfl rfl) ?_
    refine wl_nil ?_
    refine x_seq ?_
    refine wc_if rfl (fun c1 => ?_) (fun c1 => ?_)
    ·
      have c1 := of_decide_eq_true c1
      refine wc_skip ?_
      refine x_seq ?_
      refine wc_seq ?_
      refine wc_block ?_
      refine wc_region ?_
      refine wl rfl rfl rfl (p_mv rfl) ?_
      refine wle rfl (e_call ent54 rfl rfl (step_any ) ?_)
      rintro _ w4 ⟨rfl, hc⟩
      refine ⟨_, rfl, ?_⟩
      have hzw4 := hc.size
      have HC := HC.tr hc
      have hb := hb.no hc
      refine wl rfl rfl rfl (p_as rfl) ?_
      refine wl_nil ?_
      refine x_in_normal ?_
      refine x_seq ?_
      refine wc_region ?_
      refine wl rfl rfl rfl (p_mv rfl) ?_
      refine wl rfl rfl rfl (p_add rfl rfl (w64 (by omega))) ?_
      refine wl rfl rfl rfl (p_as rfl) ?_
      refine wl_nil ?_
      refine x_round (e' := [(0, u32v (pw (i + 1) (crcF (~~~ s) (b.take k) ^^^ BitVec.ofNat 32 (b.getD k 0).toNat))), (7, i64 ((i + 1) : Int)), (10, .slice Ab lb cb), (11, i64 (lb : Int)), (12, i64 (k : Int))]) ⟨rfl, rfl, rfl, rfl, rfl, trivial⟩ (by rw [hm1]; omega) ⟨i + 1, rfl, rfl, by omega, hb, HC⟩
    ·
      have c1 := of_decide_eq_false c1
      have hi8 : i = 8 := by omega
      subst hi8
      refine wc_exit ?_
      refine x_then_exit ?_
      refine x_then_exit ?_
      refine x_in_here ?_
      refine x_in_normal ?_
      refine x_seq ?_
      refine wc_region ?_
      refine wl rfl rfl rfl (p_add rfl rfl (w64 (by omega))) ?_
      refine wl rfl rfl rfl (p_mv rfl) ?_
      refine wl_nil ?_
      refine x_round (e' := [(0, u32v (crcF (~~~ s) (b.take (k + 1)))), (10, .slice Ab lb cb), (11, i64 (lb : Int)), (12, i64 ((k + 1) : Int))]) ⟨(by rw [hst]; rfl), rfl, rfl, rfl, trivial⟩ (by rw [hm0]; omega) ⟨k + 1, rfl, rfl, by omega, hb, HC⟩
  ·
    have c0 := of_decide_eq_false c0
    have hk2 : k = b.length := by omega
    refine wc_exit ?_
    refine x_then_exit ?_
    refine x_then_exit ?_
    refine x_in_here ?_
    refine x_seq ?_
    refine wc_seq ?_
    refine wc_region ?_
    refine wl rfl rfl rfl (p_mv rfl) ?_
    refine wl rfl rfl rfl (p_not32 rfl) ?_
    refine wl rfl rfl rfl (p_as rfl) ?_
    refine wl_nil ?_
    refine x_seq ?_
    refine wc_ret ?_
    refine fin_run (res1 rfl rfl) ?_
    subst hk2; rw [List.take_length]; exact ⟨rfl, HC⟩

set_option maxHeartbeats 1000000 in
set_option maxRecDepth 20000 in
theorem rof_any {w : World} {Ab : Option Addr} {lb cb : Nat} {Fb : Nat → Prop} {b : List UInt8} (hb : Sl w Fb u8v Ab lb cb b) (hl : lb ≤ 140737488355328) :
    Calls Tryd.prog 45 #[.slice Ab lb cb] w fun e w' => e = .returned (u32v (crc b)) ∧ Ch No w w' := by
  have hb := hb.old
  have HC : Ch No w w := Ch.refl _ _
  refine enter' (args := [.slice Ab lb cb]) (n := 5) Tryd.func45 rfl rfl rfl ?_
  refine wc_seq ?_
  refine wc_region ?_
  refine wl rfl rfl rfl (p_as rfl) ?_
  refine wl_nil ?_
  refine x_seq ?_
  refine wc_seq ?_
  refine wc_region ?_
  refine wl rfl rfl rfl (p_mv rfl) ?_
  refine wle rfl (e_call ent52 rfl rfl (radd_any (s := 0#32) (hb) (by omega)) ?_)
  rintro _ w1 ⟨rfl, hc⟩
  refine ⟨_, rfl, ?_⟩
  have hzw1 := hc.size
  have HC := HC.tr hc
  have hb := hb.no hc
  refine wl rfl rfl rfl (p_as rfl) ?_
  refine wl_nil ?_
  refine x_seq ?_
  refine wc_ret ?_
  refine fin_run (res1 rfl rfl) ?_
  exact ⟨rfl, HC⟩

set_option maxHeartbeats 1000000 in
set_option maxRecDepth 20000 in
theorem ropen_any {w : World} {Ab : Option Addr} {lb cb : Nat} {Fb : Nat → Prop} {b : List UInt8} (hb : Sl w Fb u8v Ab lb cb b) (hl : lb ≤ 140737488355328) :
    Calls Tryd.prog 27 #[.slice Ab lb cb] w fun e w' => ∃ A c, e = .returned (.tuple #[.slice A (opx b).length c, i64 (opk b : Int), .bool (opo b)]) ∧ Row w' (fun k => w.heap.size ≤ k) 5 1 (.slice A (opx b).length c) (opx b).length ((opx b).map u8v) ∧ Ch No w w' := by
  have hbl := hb.len
  have hgk := gnk_le b
  have hgv := gnv_lt b
  have hb := hb.old
  have HC : Ch No w w := Ch.refl _ _
  refine enter' (args := [.slice Ab lb cb]) (n := 67) Tryd.func27 rfl rfl rfl ?_
  refine wc_seq ?_
  refine wc_region ?_
  refine wl rfl rfl rfl (p_as rfl) ?_
  refine wl rfl rfl rfl (p_as rfl) ?_
  refine wl rfl rfl rfl (p_as rfl) ?_
  refine wl_nil ?_
  refine x_seq ?_
  refine wc_seq ?_
  refine wc_region ?_
  refine wl rfl rfl rfl (p_mv rfl) ?_
  refine wle rfl (e_call ent44 rfl rfl (rgetnum_any (hb) (by omega)) ?_)
  rintro _ w1 ⟨rfl, hc⟩
  refine ⟨_, rfl, ?_⟩
  have hzw1 := hc.size
  have HC := HC.tr hc
  have hb := hb.no hc
  refine wl rfl rfl rfl (p_mv rfl) ?_
  refine wl rfl rfl rfl (p_ext rfl rfl) ?_
  refine wl rfl rfl rfl (p_ext rfl rfl) ?_
  refine wl rfl rfl rfl (p_ext rfl rfl) ?_
  refine wl rfl rfl rfl (p_as rfl) ?_
  refine wl rfl rfl rfl (p_as rfl) ?_
  refine wl rfl rfl rfl (p_as rfl) ?_
  refine wl_nil ?_
  refine x_seq ?_
  refine wc_seq ?_
  refine wc_seq ?_
  refine wc_region ?_
  refine wl rfl rfl rfl (p_mv rfl) ?_
  refine wl rfl rfl rfl (p_not rfl) ?_
  refine wl rfl rfl rfl (p_mv rfl) ?_
  refine wl_split (d := 19) rfl (fun q19 => ?_) (fun q19 => ?_)
  ·
    have eg := opn_0 q19
    refine wl_s (gd_ rfl rfl rfl rfl rfl rfl) rfl rfl ?_
    refine wl_s (gd_ rfl rfl rfl rfl rfl rfl) rfl rfl ?_
    refine wl rfl rfl rfl (p_pickT rfl rfl) ?_
    refine wl rfl rfl rfl (p_mv rfl) ?_
    refine wl_s (gd_ rfl rfl rfl rfl rfl rfl) rfl rfl ?_
    refine wl_s (gd_ rfl rfl rfl rfl rfl rfl) rfl rfl ?_
    refine wl_s (gd_ rfl rfl rfl rfl rfl rfl) rfl rfl ?_
    refine wl_s (gd_ rfl rfl rfl rfl rfl rfl) rfl rfl ?_
    refine wl_s (gd_ rfl rfl rfl rfl rfl rfl) rfl rfl ?_
    refine wl_s (gd_ rfl rfl rfl rfl rfl rfl) rfl rfl ?_
    refine wl_s (gd_ rfl rfl rfl rfl rfl rfl) rfl rfl ?_
    refine wl_s (gd_ rfl rfl rfl rfl rfl rfl) rfl rfl ?_
    refine wl rfl rfl rfl (p_pickT rfl rfl) ?_
    refine wl_nil ?_
    refine x_seq ?_
    refine wc_yes rfl (rfl) ?_
    refine wc_seq ?_
    refine wc_region ?_
    refine wl rfl rfl rfl (p_as rfl) ?_
    refine wl rfl rfl rfl (p_as rfl) ?_
    refine wl rfl rfl rfl (p_as rfl) ?_
    refine wl_nil ?_
    refine x_seq ?_
    refine wc_ret ?_
    refine x_then_ret ?_
    refine fin_run (res3 rfl rfl rfl rfl) ?_
    first
      | (obtain ⟨e1, e2, e3⟩ := op_none eg; rw [e1, e2, e3]; exact ⟨_, _, rfl, Row.nil _ _ _ _, HC⟩)
      | (obtain ⟨e1, e2, e3⟩ := op_some eg; rw [e1, e2, e3, hxl]; rw [Nat.zero_add] at hW59; rw [Nat.zero_add]; exact ⟨_, _, rfl, hW59.mono (fun k _ hk => by first | omega | (dsimp only at *; omega)), HC⟩)
  ·
    have hgo : gno b = true := by simpa using q19
    refine wl_g (gd_ rfl rfl rfl rfl rfl rfl) rfl rfl (p_mv rfl) ?_
    refine wl_g (gd_ rfl rfl rfl rfl rfl rfl) rfl rfl (p_gt rfl rfl) ?_
    refine wl rfl rfl rfl (p_pickF rfl rfl) ?_
    refine wl rfl rfl rfl (p_mv rfl) ?_
    refine wl_split (d := 23) rfl (fun q23 => ?_) (fun q23 => ?_)
    ·
      have q23 := of_decide_eq_true q23
      have eg := opn_1 hgo (.inl (by omega))
      refine wl_s (gd_ rfl rfl rfl rfl rfl rfl) rfl rfl ?_
      refine wl_s (gd_ rfl rfl rfl rfl rfl rfl) rfl rfl ?_
      refine wl_s (gd_ rfl rfl rfl rfl rfl rfl) rfl rfl ?_
      refine wl_s (gd_ rfl rfl rfl rfl rfl rfl) rfl rfl ?_
      refine wl_s (gd_ rfl rfl rfl rfl rfl rfl) rfl rfl ?_
      refine wl_s (gd_ rfl rfl rfl rfl rfl rfl) rfl rfl ?_
      refine wl_s (gd_ rfl rfl rfl rfl rfl rfl) rfl rfl ?_
      refine wl_s (gd_ rfl rfl rfl rfl rfl rfl) rfl rfl ?_
      refine wl rfl rfl rfl (p_pickT rfl rfl) ?_
      refine wl_nil ?_
      refine x_seq ?_
      refine wc_yes rfl (rfl) ?_
      refine wc_seq ?_
      refine wc_region ?_
      refine wl rfl rfl rfl (p_as rfl) ?_
      refine wl rfl rfl rfl (p_as rfl) ?_
      refine wl rfl rfl rfl (p_as rfl) ?_
      refine wl_nil ?_
      refine x_seq ?_
      refine wc_ret ?_
      refine x_then_ret ?_
      refine fin_run (res3 rfl rfl rfl rfl) ?_
      first
        | (obtain ⟨e1, e2, e3⟩ := op_none eg; rw [e1, e2, e3]; exact ⟨_, _, rfl, Row.nil _ _ _ _, HC⟩)
        | (obtain ⟨e1, e2, e3⟩ := op_some eg; rw [e1, e2, e3, hxl]; rw [Nat.zero_add] at hW59; rw [Nat.zero_add]; exact ⟨_, _, rfl, hW59.mono (fun k _ hk => by first | omega | (dsimp only at *; omega)), HC⟩)
    ·
      have q23 := of_decide_eq_false q23
      refine wl_g (gd_ rfl rfl rfl rfl rfl rfl) rfl rfl (p_mv rfl) ?_
      refine wl_g (gd_ rfl rfl rfl rfl rfl rfl) rfl rfl (p_add rfl rfl (wu64 (by omega))) ?_
      refine wl_g (gd_ rfl rfl rfl rfl rfl rfl) rfl rfl (p_mv rfl) ?_
      refine wl_g (gd_ rfl rfl rfl rfl rfl rfl) rfl rfl (p_lenS Tryd.underlying22 rfl) ?_
      refine wl_g (gd_ rfl rfl rfl rfl rfl rfl) rfl rfl (p_mv rfl) ?_
      refine wl_g (gd_ rfl rfl rfl rfl rfl rfl) rfl rfl (p_sub rfl rfl (w64 (by omega))) ?_
      refine wl_g (gd_ rfl rfl rfl rfl rfl rfl) rfl rfl (p_conv Tryd.underlying3 Tryd.underlying76 rfl (wu64 (by omega))) ?_
      refine wl_g (gd_ rfl rfl rfl rfl rfl rfl) rfl rfl (p_gt rfl rfl) ?_
      refine wl rfl rfl rfl (p_pickF rfl rfl) ?_
      refine wl_nil ?_
      refine x_seq ?_
      refine wc_if rfl (fun c0 => ?_) (fun c0 => ?_)
      ·
        have c0 := of_decide_eq_true c0
        have eg := opn_1 hgo (.inr (by omega))
        refine wc_seq ?_
        refine wc_region ?_
        refine wl rfl rfl rfl (p_as rfl) ?_
        refine wl rfl rfl rfl (p_as rfl) ?_
        refine wl rfl rfl rfl (p_as rfl) ?_
        refine wl_nil ?_
        refine x_seq ?_
        refine wc_ret ?_
        refine x_then_ret ?_
        refine fin_run (res3 rfl rfl rfl rfl) ?_
        first
          | (obtain ⟨e1, e2, e3⟩ := op_none eg; rw [e1, e2, e3]; exact ⟨_, _, rfl, Row.nil _ _ _ _, HC⟩)
          | (obtain ⟨e1, e2, e3⟩ := op_some eg; rw [e1, e2, e3, hxl]; rw [Nat.zero_add] at hW59; rw [Nat.zero_add]; exact ⟨_, _, rfl, hW59.mono (fun k _ hk => by first | omega | (dsimp only at *; omega)), HC⟩)
      ·
        have c0 := of_decide_eq_false c0
        have hnn : ¬ (8192 < gnv b ∨ b.length - gnk b < gnv b + 4) := by omega
        have hl4 : ((b.drop (gnk b + gnv b)).take 4).length = 4 := by rw [List.length_take, List.length_drop]; omega
        have hxl : ((b.drop (gnk b)).take (gnv b)).length = gnv b := by rw [List.length_take, List.length_drop]; omega
        refine wc_skip ?_
        refine x_seq ?_
        refine wc_seq ?_
        refine wc_region ?_
        refine wl rfl rfl rfl (p_mv rfl) ?_
        refine wl rfl rfl rfl (p_mv rfl) ?_
        refine wl rfl rfl rfl (p_conv Tryd.underlying76 Tryd.underlying3 rfl (w64 (by omega))) ?_
        refine wl rfl rfl rfl (p_add rfl rfl (w64 (by omega))) ?_
        refine wl rfl rfl rfl (p_as rfl) ?_
        refine wl_nil ?_
        refine x_seq ?_
        refine wc_seq ?_
        refine wc_region ?_
        refine wl rfl rfl rfl (p_mv rfl) ?_
        refine wl rfl rfl rfl (p_mv rfl) ?_
        have hS39 := hb.cut (lo := 0) (hi := (gnk b + gnv b)) (q := (gnk b + gnv b)) (by omega) (by omega) (by omega)
        refine wl rfl rfl rfl (p_slS (l := 0) (h := (gnk b + gnv b)) Tryd.underlying22 sz5 rfl rfl ⟨_, rfl⟩ (by omega) (by have := hb.cap; omega) hb.cap (q := (gnk b + gnv b)) (by omega)) ?_
        refine wle rfl (e_call ent45 rfl rfl (rof_any (hS39) (by omega)) ?_)
        rintro _ w2 ⟨rfl, hc⟩
        refine ⟨_, rfl, ?_⟩
        have hzw2 := hc.size
        have HC := HC.tr hc
        have hb := hb.no hc
        have hS39 := hS39.no hc
        refine wl rfl rfl rfl (p_as rfl) ?_
        refine wl_nil ?_
        refine x_seq ?_
        refine wc_seq ?_
        refine wc_seq ?_
        refine wc_region ?_
        refine wl rfl rfl rfl (p_as rfl) ?_
        refine wl_nil ?_
        refine x_seq ?_
        refine wc_block ?_
        refine wc_loop (e' := [(0, .slice Ab lb cb), (6, i64 (gnk b : Int)), (8, i64 ((gnk b : Int) + (gnv b : Int))), (9, u32v (crc (b.take (gnk b + gnv b)))), (10, i64 ((0) : Int))]) (fun mz ez uz => ∃ i : Nat, mz = 4 - i ∧ ez = [(0, .slice Ab lb cb), (6, i64 (gnk b : Int)), (8, i64 ((gnk b : Int) + (gnv b : Int))), (9, u32v (crc (b.take (gnk b + gnv b)))), (10, i64 (i : Int))] ∧ (i ≤ 4) ∧ (((b.drop (gnk b + gnv b)).take 4).take i = (be4 (crc (b.take (gnk b + gnv b)))).take i) ∧ (Sl uz (fun k => k < w.heap.size) u8v Ab lb cb b) ∧ (Ch No w uz))
          ⟨rfl, rfl, rfl, rfl, rfl, trivial⟩ ⟨0, rfl, rfl, by omega, rfl, hb, HC⟩ ?_
        rintro m0 e w3 ⟨i, hm0, rfl, hi, hi4, hb, HC⟩
        have hzw3 := HC.size
        refine wc_seq ?_
        refine wc_seq ?_
        refine wc_region ?_
        refine wl rfl rfl rfl (p_mv rfl) ?_
        refine wl rfl rfl rfl (p_lt rfl rfl) ?_
        refine wl_nil ?_
        refine x_seq ?_
        refine wc_if rfl (fun c1 => ?_) (fun c1 => ?_)
        ·
          have c1 := of_decide_eq_true c1
          refine wc_skip ?_
          refine x_seq ?_
          refine wc_seq ?_
          refine wc_block ?_
          refine wc_seq ?_
          refine wc_region ?_
          refine wl rfl rfl rfl (p_mv rfl) ?_
          refine wl rfl rfl rfl (p_mv rfl) ?_
          refine wl rfl rfl rfl (p_mv rfl) ?_
          refine wl rfl rfl rfl (p_add (Z := ((gnk b + gnv b + i : Nat) : Int)) rfl rfl (by rw [w64 (by omega)]; omega)) ?_
          obtain ⟨b4, o4, hA4, hF4, hc4⟩ := (hb).opn (d := 0) (by omega)
          refine wl rfl rfl rfl (p_ixS1 Tryd.underlying22 sz5 rfl hA4 rfl (by omega) (by omega) (Int.toNat_natCast _)) ?_
          refine wl rfl rfl rfl (p_ld Tryd.underlying5 rfl rfl (ld (hc4 _ (by omega)))) ?_
          refine wl rfl rfl rfl (p_mv rfl) ?_
          refine wl rfl rfl rfl (p_mv rfl) ?_
          refine wl rfl rfl rfl (p_mul rfl rfl (w64 (by omega))) ?_
          refine wl rfl rfl rfl (p_sub (Z := ((24 - 8 * i : Nat) : Int)) rfl rfl (by rw [w64 (by omega)]; omega)) ?_
          refine wl rfl rfl rfl (p_conv Tryd.underlying3 Tryd.underlying30 rfl (wu64 (by omega))) ?_
          refine wl rfl rfl rfl (p_shr32 (Y := 24 - 8 * i) rfl rfl) ?_
          refine wl rfl rfl rfl (p_conv32B Tryd.underlying79 Tryd.underlying5 rfl) ?_
          refine wl rfl rfl rfl (p_ne rfl rfl) ?_
          refine wl_nil ?_
          refine x_seq ?_
          refine wc_if rfl (fun c2 => ?_) (fun c2 => ?_)
          ·
            have c2 := of_decide_eq_true c2
            have eg := opn_2 hgo hnn (fun h => c2 (by have hh := get_drop (b := b) (a := (gnk b + gnv b)) (i := i) (by omega); rw [← h, be4_get (by omega)] at hh; rw [← hh]; rfl))
            refine wc_seq ?_
            refine wc_region ?_
            refine wl rfl rfl rfl (p_as rfl) ?_
            refine wl rfl rfl rfl (p_as rfl) ?_
            refine wl rfl rfl rfl (p_as rfl) ?_
            refine wl_nil ?_
            refine x_seq ?_
            refine wc_ret ?_
            refine x_in_ret ?_
            refine x_then_ret ?_
            refine x_then_ret ?_
            refine x_in_ret ?_
            refine x_then_ret ?_
            refine fin_run (res3 rfl rfl rfl rfl) ?_
            first
              | (obtain ⟨e1, e2, e3⟩ := op_none eg; rw [e1, e2, e3]; exact ⟨_, _, rfl, Row.nil _ _ _ _, HC⟩)
              | (obtain ⟨e1, e2, e3⟩ := op_some eg; rw [e1, e2, e3, hxl]; rw [Nat.zero_add] at hW59; rw [Nat.zero_add]; exact ⟨_, _, rfl, hW59.mono (fun k _ hk => by first | omega | (dsimp only at *; omega)), HC⟩)
          ·
            have c2 := of_decide_eq_false c2
            have hi5 := take_next (p := (b.drop (gnk b + gnv b)).take 4) (q := be4 (crc (b.take (gnk b + gnv b)))) (k := i) (by omega) (by rw [be4_len]; omega) hi4 (by rw [get_drop (by omega), be4_get (by omega)]; exact UInt8.toNat_inj.1 (by simp only [List.drop_zero, b8] at c2 ⊢; omega))
            refine wc_skip ?_
            refine x_in_normal ?_
            refine x_seq ?_
            refine wc_region ?_
            refine wl rfl rfl rfl (p_mv rfl) ?_
            refine wl rfl rfl rfl (p_add rfl rfl (w64 (by omega))) ?_
            refine wl rfl rfl rfl (p_as rfl) ?_
            refine wl_nil ?_
            refine x_round (e' := [(0, .slice Ab lb cb), (6, i64 (gnk b : Int)), (8, i64 ((gnk b : Int) + (gnv b : Int))), (9, u32v (crc (b.take (gnk b + gnv b)))), (10, i64 ((i + 1) : Int))]) ⟨rfl, rfl, rfl, rfl, rfl, trivial⟩ (by rw [hm0]; omega) ⟨i + 1, rfl, rfl, by omega, hi5, hb, HC⟩
        ·
          have c1 := of_decide_eq_false c1
          have hk4 : i = 4 := by omega
          have h3 : be4 (crc (b.take (gnk b + gnv b))) = (b.drop (gnk b + gnv b)).take 4 := by have e1 : ((b.drop (gnk b + gnv b)).take 4).take i = (b.drop (gnk b + gnv b)).take 4 := List.take_of_length_le (by omega); have e2 : (be4 (crc (b.take (gnk b + gnv b)))).take i = be4 (crc (b.take (gnk b + gnv b))) := List.take_of_length_le (by rw [be4_len]; omega); rw [e1, e2] at hi4; exact hi4.symm
          have eg := opn_3 hgo hnn h3
          refine wc_exit ?_
          refine x_then_exit ?_
          refine x_then_exit ?_
          refine x_in_here ?_
          refine x_seq ?_
          refine wc_seq ?_
          refine wc_region ?_
          refine wle rfl (e_bsl (cs := #[]) (E := 5) rfl rfl (fun _ => by kernel_rfl) (fun w5 g59 hg59 hb59 hc hsz59 => ?_))
          have hzw5 := hc.size
          have HC := HC.tr hc
          have hb := hb.no hc
          have hge59 : w.heap.size ≤ g59 := by have := HC.size; omega
          have hW59 := Row.lit (l := 0) (f := u8v) (xs := []) (F := fun k => g59 ≤ k) hb59 (by first | omega | (dsimp only; omega)) rfl rfl (by simp [maxLen])
          refine wl rfl rfl rfl (p_mv rfl) ?_
          refine wl rfl rfl rfl (p_mv rfl) ?_
          refine wl rfl rfl rfl (p_mv rfl) ?_
          have hS63 := hb.cut (lo := gnk b) (hi := (gnk b + gnv b)) (q := gnv b) (by omega) (by omega) (by omega)
          refine wl rfl rfl rfl (p_slS (l := gnk b) (h := (gnk b + gnv b)) Tryd.underlying22 sz5 rfl ⟨_, rfl⟩ ⟨_, rfl⟩ (by omega) (by have := hb.cap; omega) hb.cap (q := gnv b) (by omega)) ?_
          refine wle rfl (e_appS rfl el22 one_u8 rfl rfl hW59 hS63 (by omega) (by intro k hk; first | omega | (dsimp only at *; omega)) (fun w6 A64 c64 hW59 hc => ?_))
          have hzw6 := hc.size
          have HC := HC.trans hc (fun _ _ h => h) (fun k hk ht => absurd ht (by first | omega | (dsimp only at *; omega)))
          first | have hb := hb.ch hc (by intro k hk ht; first | omega | (dsimp only at *; omega)) | have hb := hb.chT hc (by intro k hz hk ht; first | omega | (dsimp only at *; omega))
          first | have hS63 := hS63.ch hc (by intro k hk ht; first | omega | (dsimp only at *; omega)) | have hS63 := hS63.chT hc (by intro k hz hk ht; first | omega | (dsimp only at *; omega))
          refine wl rfl rfl rfl (p_mv rfl) ?_
          refine wl rfl rfl rfl (p_add rfl rfl (w64 (by omega))) ?_
          refine wl rfl rfl rfl (p_as rfl) ?_
          refine wl rfl rfl rfl (p_as rfl) ?_
          refine wl rfl rfl rfl (p_as rfl) ?_
          refine wl_nil ?_
          refine x_seq ?_
          refine wc_ret ?_
          refine fin_run (res3 rfl rfl rfl rfl) ?_
          first
            | (obtain ⟨e1, e2, e3⟩ := op_none eg; rw [e1, e2, e3]; exact ⟨_, _, rfl, Row.nil _ _ _ _, HC⟩)
            | (obtain ⟨e1, e2, e3⟩ := op_some eg; rw [e1, e2, e3, hxl]; rw [Nat.zero_add] at hW59; rw [Nat.zero_add]; exact ⟨_, _, rfl, hW59.mono (fun k _ hk => by first | omega | (dsimp only at *; omega)), HC⟩)
end Go.Proofs.YtcgapjieidmkpaaDoor
