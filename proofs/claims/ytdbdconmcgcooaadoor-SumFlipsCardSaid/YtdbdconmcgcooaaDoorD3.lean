/-
  Own text, printed by a program of mine (wip/gx): what functions of the program do, walked operation by operation.
-/
import Derived.Test.YtdbdconmcgcooaaDoorProg
import Derived.Test.YtdbdconmcgcooaaDoorGxAux
import Derived.Test.YtdbdconmcgcooaaDoorTab
import Derived.Test.YtdbdconmcgcooaaDoorPlPack
import Derived.Test.YtdbdconmcgcooaaDoorPlPackB
import Derived.Test.YtdbdconmcgcooaaDoorPlSum
import Derived.Test.YtdbdconmcgcooaaDoorPlSumB
set_option linter.unusedVariables false
namespace Go.Proofs.YtdbdconmcgcooaaDoor
open Go.RowKit Go.Gx
open Go.Plain
set_option maxHeartbeats 1000000 in
set_option maxRecDepth 20000 in
theorem add_any {w : World} {s : BitVec 32}{Ab : Option Addr} {lb cb : Nat} {Fb : Nat → Prop} {b : List UInt8} (hb : Sl w Fb u8v Ab lb cb b) (hl : lb ≤ 140737488355328) (hnib : Sl w (fun k => k = 0) u32v (some ⟨0, 0, none⟩) 16 16 nib) :
    Calls Tryd.prog 23 #[u32v s, .slice Ab lb cb] w fun e w' => e = .returned (u32v (crcAdd s b)) ∧ Ch No w w' := by
  have hbl := hb.len
  have hb := hb.old
  have HC : Ch No w w := Ch.refl _ _
  refine enter' (args := [u32v s, .slice Ab lb cb]) (n := 36) Tryd.func23 rfl rfl rfl ?_
  refine wc_seq ?_
  refine wc_region ?_
  refine wl rfl rfl rfl (p_as rfl) ?_
  refine wl_nil ?_
  refine x_seq ?_
  refine wc_seq ?_
  refine wc_region ?_
  refine wl rfl rfl rfl (p_mv rfl) ?_
  refine wl rfl rfl rfl (p_not32 rfl) ?_
  refine wl rfl rfl rfl (p_as rfl) ?_
  refine wl_nil ?_
  refine x_seq ?_
  refine wc_seq ?_
  refine wc_seq ?_
  refine wc_region ?_
  refine wl rfl rfl rfl (p_mv rfl) ?_
  refine wl rfl rfl rfl (p_lenS Tryd.underlying22 rfl) ?_
  refine wl rfl rfl rfl (p_mv rfl) ?_
  refine wl_nil ?_
  refine x_seq ?_
  refine wc_block ?_
  refine wc_loop (e' := [(0, u32v (crcF (~~~ s) (b.take (0)))), (9, .slice Ab lb cb), (10, i64 (lb : Int)), (11, i64 ((0) : Int))]) (fun m e u => ∃ k : Nat, m = lb - k ∧ e = [(0, u32v (crcF (~~~ s) (b.take k))), (9, .slice Ab lb cb), (10, i64 (lb : Int)), (11, i64 (k : Int))] ∧ k ≤ lb ∧ Sl u (fun k => k < w.heap.size) u8v Ab lb cb b ∧ Sl u (fun k => k = 0) u32v (some ⟨0, 0, none⟩) 16 16 nib ∧ Ch No w u)
    ⟨rfl, rfl, rfl, rfl, trivial⟩ ⟨0, rfl, rfl, by omega, hb, hnib, HC⟩ ?_
  rintro m0 e w1 ⟨k, hm0, rfl, hk, hb, hnib, HC⟩
  have hzw1 := HC.size
  refine wc_seq ?_
  refine wc_region ?_
  refine wl rfl rfl rfl (p_lt rfl rfl) ?_
  refine wl_nil ?_
  refine x_seq ?_
  refine wc_seq ?_
  refine wc_if rfl (fun c0 => ?_) (fun c0 => ?_)
  ·
    have c0 := of_decide_eq_true c0
    have hkb : k < b.length := by omega
    have hst := crcF_take (s := ~~~ s) hkb
    refine wc_skip ?_
    refine x_seq ?_
    refine wc_seq ?_
    refine wc_block ?_
    refine wc_seq ?_
    refine wc_region ?_
    obtain ⟨b2, o2, hA2, hF2, hc2⟩ := (hb).opn (d := 0) (by omega)
    refine wl rfl rfl rfl (p_ixS1 Tryd.underlying22 sz5 rfl hA2 rfl (by omega) (by omega) (Int.toNat_natCast _)) ?_
    refine wl rfl rfl rfl (p_ld Tryd.underlying5 rfl rfl (ld (hc2 _ (by omega)))) ?_
    refine wl rfl rfl rfl (p_as rfl) ?_
    refine wl_nil ?_
    refine x_seq ?_
    refine wc_seq ?_
    refine wc_region ?_
    refine wl rfl rfl rfl (p_mv rfl) ?_
    refine wl rfl rfl rfl (p_mv rfl) ?_
    refine wl rfl rfl rfl (p_convB32 Tryd.underlying5 Tryd.underlying29 rfl) ?_
    refine wl rfl rfl rfl (p_xor32 rfl rfl) ?_
    refine wl rfl rfl rfl (p_as rfl) ?_
    refine wl_nil ?_
    refine x_seq ?_
    refine wc_seq ?_
    refine wc_region ?_
    refine wl rfl rfl rfl (p_mv rfl) ?_
    refine wl rfl rfl rfl (p_shr32 (Y := 4) rfl rfl) ?_
    refine wl rfl rfl rfl (p_mv rfl) ?_
    have hlow := low_lt (crcF (~~~ s) (b.take k) ^^^ BitVec.ofNat 32 (b.getD k 0).toNat)
    refine wl rfl rfl rfl (p_and32 (Y := 15#32) rfl rfl) ?_
    obtain ⟨b3, o3, hA3, hF3, hc3⟩ := (hnib).opn (d := 0#32) (by omega)
    cases hA3
    refine wl rfl rfl rfl (p_ixA0 Tryd.underlying75 sz29 rfl rfl (by omega) (by omega) (Int.toNat_natCast _)) ?_
    refine wl rfl rfl rfl (p_ld Tryd.underlying29 rfl rfl (ld (hc3 _ (by omega)))) ?_
    refine wl rfl rfl rfl (p_xor32 rfl rfl) ?_
    refine wl rfl rfl rfl (p_as rfl) ?_
    refine wl_nil ?_
    refine x_seq ?_
    refine wc_region ?_
    refine wl rfl rfl rfl (p_mv rfl) ?_
    refine wl rfl rfl rfl (p_shr32 (Y := 4) rfl rfl) ?_
    refine wl rfl rfl rfl (p_mv rfl) ?_
    have hlow2 := low_lt ((crcF (~~~ s) (b.take k) ^^^ BitVec.ofNat 32 (b.getD k 0).toNat) >>> 4 ^^^ nib.getD ((crcF (~~~ s) (b.take k) ^^^ BitVec.ofNat 32 (b.getD k 0).toNat) &&& 15#32).toNat 0#32)
    refine wl rfl rfl rfl (p_and32 (Y := 15#32) rfl rfl) ?_
    obtain ⟨b4, o4, hA4, hF4, hc4⟩ := (hnib).opn (d := 0#32) (by omega)
    cases hA4
    refine wl rfl rfl rfl (p_ixA0 Tryd.underlying75 sz29 rfl rfl (by omega) (by omega) (Int.toNat_natCast _)) ?_
    refine wl rfl rfl rfl (p_ld Tryd.underlying29 rfl rfl (ld (hc4 _ (by omega)))) ?_
    refine wl rfl rfl rfl (p_xor32 rfl rfl) ?_
    refine wl rfl rfl rfl (p_as rfl) ?_
    refine wl_nil ?_
    refine x_in_normal ?_
    refine x_seq ?_
    refine wc_region ?_
    refine wl rfl rfl rfl (p_add rfl rfl (w64 (by omega))) ?_
    refine wl rfl rfl rfl (p_mv rfl) ?_
    refine wl_nil ?_
    refine x_round (e' := [(0, u32v (crcF (~~~ s) (b.take (k + 1)))), (9, .slice Ab lb cb), (10, i64 (lb : Int)), (11, i64 ((k + 1) : Int))]) ⟨(by rw [hst, eight]; rfl), rfl, rfl, rfl, trivial⟩ (by rw [hm0]; omega) ⟨k + 1, rfl, rfl, by omega, hb, hnib, HC⟩
  ·
    have c0 := of_decide_eq_false c0
    have hk2 : k = b.length := by omega
    refine wc_exit ?_
    refine x_then_exit ?_
    refine x_then_exit ?_
    refine x_in_here ?_
    refine x_seq ?_
    refine wc_seq ?_
    refine wc_region ?_
    refine wl rfl rfl rfl (p_mv rfl) ?_
    refine wl rfl rfl rfl (p_not32 rfl) ?_
    refine wl rfl rfl rfl (p_as rfl) ?_
    refine wl_nil ?_
    refine x_seq ?_
    refine wc_ret ?_
    refine fin_run (res1 rfl rfl) ?_
    subst hk2; rw [List.take_length]; exact ⟨rfl, HC⟩

set_option maxHeartbeats 1000000 in
set_option maxRecDepth 20000 in
theorem of_any {w : World} {Ab : Option Addr} {lb cb : Nat} {Fb : Nat → Prop} {b : List UInt8} (hb : Sl w Fb u8v Ab lb cb b) (hl : lb ≤ 140737488355328) (hnib : Sl w (fun k => k = 0) u32v (some ⟨0, 0, none⟩) 16 16 nib) :
    Calls Tryd.prog 22 #[.slice Ab lb cb] w fun e w' => e = .returned (u32v (crc b)) ∧ Ch No w w' := by
  have hb := hb.old
  have HC : Ch No w w := Ch.refl _ _
  refine enter' (args := [.slice Ab lb cb]) (n := 5) Tryd.func22 rfl rfl rfl ?_
  refine wc_seq ?_
  refine wc_region ?_
  refine wl rfl rfl rfl (p_as rfl) ?_
  refine wl_nil ?_
  refine x_seq ?_
  refine wc_seq ?_
  refine wc_region ?_
  refine wl rfl rfl rfl (p_mv rfl) ?_
  refine wle rfl (e_call ent23 rfl rfl (add_any (s := 0#32) (hb) (by omega) hnib) ?_)
  rintro _ w1 ⟨rfl, hc⟩
  refine ⟨_, rfl, ?_⟩
  have hzw1 := hc.size
  have HC := HC.tr hc
  have hb := hb.no hc
  have hnib := hnib.no hc
  refine wl rfl rfl rfl (p_as rfl) ?_
  refine wl_nil ?_
  refine x_seq ?_
  refine wc_ret ?_
  refine fin_run (res1 rfl rfl) ?_
  exact ⟨rfl, HC⟩
end Go.Proofs.YtdbdconmcgcooaaDoor
