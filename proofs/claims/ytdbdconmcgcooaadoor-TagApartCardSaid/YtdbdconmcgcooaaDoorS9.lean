/-
  Own text, printed by a program of mine (wip/gx): what functions of the program do, walked operation by operation.
-/
import Derived.Test.YtdbdconmcgcooaaDoorProg
import Derived.Test.YtdbdconmcgcooaaDoorGxAgg
import Derived.Test.YtdbdconmcgcooaaDoorTab
import Derived.Test.YtdbdconmcgcooaaDoorPlPack
import Derived.Test.YtdbdconmcgcooaaDoorPlSum
import Derived.Test.YtdbdconmcgcooaaDoorPlSha
import Derived.Test.YtdbdconmcgcooaaDoorPlShaSt
import Derived.Test.YtdbdconmcgcooaaDoorPlShaB
import Derived.Test.YtdbdconmcgcooaaDoorS8
set_option linter.unusedVariables false
namespace Go.Proofs.YtdbdconmcgcooaaDoor
open Go.RowKit Go.Gx
open Go.Plain
set_option maxHeartbeats 1000000 in
set_option maxRecDepth 20000 in
theorem rsum_any {w : World} {Ab : Option Addr} {lb cb : Nat} {Fb : Nat → Prop} {b : List UInt8} (hb : Sl w Fb u8v Ab lb cb b) (hl : lb ≤ 1099511627776) :
    Calls Tryd.prog 20 #[.slice Ab lb cb] w fun e w' => e = .returned (.agg ((shaF b).map u8v).toArray) ∧ Ch No w w' := by
  have hbl := hb.len
  have hpl := pad_len b
  have hpm := pad_mod b
  have hnz : nz b.length < 64 := by unfold nz; omega
  have hb := hb.old
  have HC : Ch No w w := Ch.refl _ _
  refine enter' (args := [.slice Ab lb cb]) (n := 58) Tryd.func20 rfl rfl rfl ?_
  refine wc_seq ?_
  refine wc_region ?_
  refine wle rfl (e_alloc (cs := ((List.replicate 32 (0 : UInt8)).map u8v).toArray) rfl (by rfl) rfl (fun w1 g2 hg2 hb2 hc hsz2 => ?_))
  have hzw1 := hc.size
  have HC := HC.tr hc
  have hb := hb.no hc
  have hge2 : w.heap.size ≤ g2 := by have := HC.size; omega
  refine wl_nil ?_
  refine x_seq ?_
  refine wc_seq ?_
  refine wc_region ?_
  refine wl rfl rfl rfl (p_bldV rfl (fun _ => by kernel_rfl)) ?_
  have hltg2 := hb2.lt
  refine wle rfl (e_alloc (cs := ((List.replicate 8 0#32).map u32v).toArray) rfl (by rfl) rfl (fun w2 g3 hg3 hb3 hc hsz3 => ?_))
  have hzw2 := hc.size
  have HC := HC.tr hc
  have hb := hb.no hc
  have hb2 := hb2.ch hc (fun h => h)
  have hge3 : w.heap.size ≤ g3 := by have := HC.size; omega
  have neg2_3 : g2 < g3 := by omega
  refine wle rfl (e_stW (vs := _) (by first | rfl | exact szL sz66 (by rw [List.length_map]; exact hsh_len _ (k + 1))) (by first | exact allOne rfl | exact oneL one_u32 _) rfl rfl hb3 (by first | rfl | simp [hhl, hsh_len, cmp_len hhl]) (fun w3 hb3 hc hsz => ?_))
  have hzw3 := hc.size
  have HC := HC.trans hc (fun _ _ h => h) (fun k hk ht => absurd ht (by omega))
  first | have hb := hb.ch hc (by intro k hk ht; first | omega | (dsimp only at *; omega)) | have hb := hb.chT hc (by intro k hz hk ht; first | omega | (dsimp only at *; omega))
  have hb2 := hb2.ch hc (by omega)
  refine wl_nil ?_
  refine x_seq ?_
  refine wc_seq ?_
  refine wc_region ?_
  refine wl rfl rfl rfl (p_mv rfl) ?_
  refine wle rfl (e_call ent61 rfl rfl (padded_any (hb) (by omega)) ?_)
  rintro _ w4 ⟨A11, c11, rfl, hW11, hc⟩
  refine ⟨_, rfl, ?_⟩
  have hzw4 := hc.size
  have HC := HC.tr hc
  have hb := hb.no hc
  have hb2 := hb2.ch hc (fun h => h)
  have hb3 := hb3.ch hc (fun h => h)
  have hp : Sl w4 (fun k => g3 < k) u8v A11 (pad b).length c11 (pad b) := by have := hW11.sl; rw [show lb + 1 + nz b.length + 8 = (pad b).length by omega] at this; exact this.mono (fun k h1 h2 => by omega)
  refine wl rfl rfl rfl (p_as rfl) ?_
  refine wl_nil ?_
  refine x_seq ?_
  refine wc_seq ?_
  refine wc_seq ?_
  refine wc_region ?_
  refine wl rfl rfl rfl (p_as rfl) ?_
  refine wl_nil ?_
  refine x_seq ?_
  refine wc_block ?_
  refine wc_loop (e' := [(2, .pointer (some ⟨g2, 0, none⟩)), (3, .pointer (some ⟨g3, 0, none⟩)), (4, .slice A11 (pad b).length c11), (5, i64 ((64 * (0) : Nat) : Int))]) (fun mz ez uz => ∃ k : Nat, mz = (pad b).length / 64 - k ∧ ez = [(2, .pointer (some ⟨g2, 0, none⟩)), (3, .pointer (some ⟨g3, 0, none⟩)), (4, .slice A11 (pad b).length c11), (5, i64 ((64 * k : Nat) : Int))] ∧ (64 * k ≤ (pad b).length) ∧ (Sl uz (fun k => k ≠ g2 ∧ k ≠ g3) u8v A11 (pad b).length c11 (pad b)) ∧ (Blk uz g2 24 ((List.replicate 32 (0 : UInt8)).map u8v).toArray) ∧ (Blk uz g3 66 ((hsh (pad b) k).map u32v).toArray) ∧ (Ch No w uz))
    ⟨rfl, rfl, (congrArg (fun z => some (Value.slice A11 z c11)) (show lb + 1 + nz b.length + 8 = (pad b).length by omega)), rfl, trivial⟩ ⟨0, rfl, rfl, by omega, hp.mono (fun k h1 h2 => by omega), hb2, hb3, HC⟩ ?_
  rintro m0 e w5 ⟨k, hm0, rfl, hk, hp, hb2, hb3, HC⟩
  have hzw5 := HC.size
  have hhl := hsh_len (pad b) k
  have hpc := hp.cap
  refine wc_seq ?_
  refine wc_seq ?_
  refine wc_region ?_
  refine wl rfl rfl rfl (p_mv rfl) ?_
  refine wl rfl rfl rfl (p_mv rfl) ?_
  refine wl rfl rfl rfl (p_lenS Tryd.underlying22 rfl) ?_
  refine wl rfl rfl rfl (p_lt rfl rfl) ?_
  refine wl_nil ?_
  refine x_seq ?_
  refine wc_if rfl (fun c0 => ?_) (fun c0 => ?_)
  ·
    have c0 := of_decide_eq_true c0
    have hkp : 64 * k + 64 ≤ (pad b).length := by omega
    refine wc_skip ?_
    refine x_seq ?_
    refine wc_seq ?_
    refine wc_block ?_
    refine wc_draw (.st 0 1 (.st 1 0 (.st 2 0 (.st 3 0 (.st 4 0 (.st 5 0 (.st 6 2 (.st 7 3 .nil)))))))) 7 (by kernel_rfl) (by kernel_rfl) (by kernel_rfl) (by repeat (first | with_reducible exact pan_body | with_reducible apply pan_then | with_reducible apply pan_in)) (fun x => Ch No w5.drew x) (Ch.refl _ _) ?_
    obtain ⟨w6, ew6⟩ : ∃ x, x = w5.drew := ⟨_, rfl⟩
    rw [← ew6]
    have hc : Ch No w5 w6 := by rw [ew6]; exact Ch.drew _
    have hszw6 : w6.heap.size = w5.heap.size := by rw [ew6]; rfl
    clear ew6
    have hzw6 := hc.size
    have HC := HC.tr hc
    have hp := hp.no hc
    have hb2 := hb2.ch hc (fun h => h)
    have hb3 := hb3.ch hc (fun h => h)
    have hS : Ch No w6 w6 := Ch.refl _ _
    refine ws_h rfl rfl rfl rfl (p_ldA (cs := (hsh (pad b) k).map u32v) Tryd.underlying66 rfl (szL sz66 (by rw [List.length_map]; exact hsh_len _ _)) rfl (fun _ h => (rngL (hb3.ch h (fun h => h))))) ?_
    refine ws_p rfl rfl rfl rfl (p_mv rfl) ?_
    refine ws_p rfl rfl rfl rfl (p_mv rfl) ?_
    refine ws_p rfl rfl rfl rfl (p_mv rfl) ?_
    refine ws_p rfl rfl rfl rfl (p_add (Z := ((64 * k + 64 : Nat) : Int)) rfl rfl (by rw [w64 (by omega)]; omega)) ?_
    have hS23 := hp.cut (lo := 64 * k) (hi := 64 * k + 64) (q := 64) (by omega) (by omega) (by omega)
    refine ws_p rfl rfl rfl rfl (p_slS (l := 64 * k) (h := 64 * k + 64) Tryd.underlying22 sz5 rfl ⟨_, rfl⟩ ⟨_, rfl⟩ (by omega) (by omega) hp.cap (q := 64) (by omega)) ?_
    refine ws_e rfl rfl (e_call ent62 rfl rfl (rblock_any (h := (hsh (pad b) k)) (hS23) (by first | assumption | exact hsh_len _ _) rfl) ?_)
    rintro _ w7 ⟨rfl, hc⟩
    refine ⟨_, rfl, hc, ?_⟩
    have hzw7 := hc.size
    have HC := HC.tr hc
    have hp := hp.no hc
    have hb2 := hb2.ch hc (fun h => h)
    have hb3 := hb3.ch hc (fun h => h)
    have hS23 := hS23.no hc
    refine ws_narrow (S' := fun x => Ch No w7 x) (Ch.refl _ _) (fun x h => hc.tr h) ?_
    refine ws_l rfl rfl (e_stW (vs := _) (by first | rfl | exact szL sz66 (by rw [List.length_map]; exact hsh_len _ (k + 1))) (oneL one_u32 _) rfl rfl hb3 (by first | rfl | simp [hhl, hsh_len, cmp_len hhl]) (fun w8 hb3 hc hsz => ?_))
    have hzw8 := hc.size
    have HC := HC.trans hc (fun _ _ h => h) (fun k hk ht => absurd ht (by omega))
    first | have hp := hp.ch hc (by intro k hk ht; first | omega | (dsimp only at *; omega)) | have hp := hp.chT hc (by intro k hz hk ht; first | omega | (dsimp only at *; omega))
    have hb2 := hb2.ch hc (by omega)
    first | have hS23 := hS23.ch hc (by intro k hk ht; first | omega | (dsimp only at *; omega)) | have hS23 := hS23.chT hc (by intro k hz hk ht; first | omega | (dsimp only at *; omega))
    refine ws_n ?_
    refine x_in_normal ?_
    refine x_seq ?_
    refine wc_region ?_
    refine wl rfl rfl rfl (p_mv rfl) ?_
    refine wl rfl rfl rfl (p_add (Z := ((64 * (k + 1) : Nat) : Int)) rfl rfl (by rw [w64 (by omega)]; omega)) ?_
    refine wl rfl rfl rfl (p_as rfl) ?_
    refine wl_nil ?_
    refine x_round (e' := [(2, .pointer (some ⟨g2, 0, none⟩)), (3, .pointer (some ⟨g3, 0, none⟩)), (4, .slice A11 (pad b).length c11), (5, i64 ((64 * (k + 1) : Nat) : Int))]) ⟨rfl, rfl, rfl, rfl, trivial⟩ (by rw [hm0]; omega) ⟨k + 1, rfl, rfl, by omega, hp, hb2, hb3, HC⟩
  ·
    have c0 := of_decide_eq_false c0
    obtain rfl : k = (pad b).length / 64 := by omega
    refine wc_exit ?_
    refine x_then_exit ?_
    refine x_then_exit ?_
    refine x_in_here ?_
    refine x_seq ?_
    refine wc_seq ?_
    refine wc_region ?_
    have hltg2 := hb2.lt
    have hltg3 := hb3.lt
    refine wle rfl (e_alloc (cs := ((List.replicate 32 (0 : UInt8)).map u8v).toArray) rfl (by rfl) rfl (fun w9 g6 hg6 hb6 hc hsz6 => ?_))
    have hzw9 := hc.size
    have HC := HC.tr hc
    have hp := hp.no hc
    have hb2 := hb2.ch hc (fun h => h)
    have hb3 := hb3.ch hc (fun h => h)
    have hge6 : w.heap.size ≤ g6 := by have := HC.size; omega
    have neg2_6 : g2 < g6 := by omega
    have neg3_6 : g3 < g6 := by omega
    refine wl_nil ?_
    refine x_seq ?_
    refine wc_seq ?_
    refine wc_seq ?_
    refine wc_region ?_
    refine wl rfl rfl rfl (p_ldA (cs := (hsh (pad b) ((pad b).length / 64)).map u32v) Tryd.underlying66 rfl (szL sz66 (by rw [List.length_map]; exact hsh_len _ _)) rfl (fun _ e => e ▸ rngL hb3)) ?_
    refine wl rfl rfl rfl (p_mv rfl) ?_
    refine wl_nil ?_
    refine x_seq ?_
    refine wc_block ?_
    refine wc_loop (e' := [(2, .pointer (some ⟨g2, 0, none⟩)), (6, .pointer (some ⟨g6, 0, none⟩)), (25, .agg ((hsh (pad b) ((pad b).length / 64)).map u32v).toArray), (26, i64 ((0) : Int))]) (fun mz ez uz => ∃ i : Nat, mz = 8 - i ∧ ez = [(2, .pointer (some ⟨g2, 0, none⟩)), (6, .pointer (some ⟨g6, 0, none⟩)), (25, .agg ((hsh (pad b) ((pad b).length / 64)).map u32v).toArray), (26, i64 (i : Int))] ∧ (i ≤ 8) ∧ ((hsh (pad b) ((pad b).length / 64)).length = 8) ∧ (Blk uz g6 24 ((outN (hsh (pad b) ((pad b).length / 64)) i).map u8v).toArray) ∧ (Blk uz g2 24 ((List.replicate 32 (0 : UInt8)).map u8v).toArray) ∧ (Ch No w uz))
      ⟨rfl, rfl, rfl, rfl, trivial⟩ ⟨0, rfl, rfl, by omega, hsh_len _ _, by rw [outN_zero]; exact hb6, hb2, HC⟩ ?_
    rintro m1 e w10 ⟨i, hm1, rfl, hi, hh, hb6, hb2, HC⟩
    have hzw10 := HC.size
    have hol2 := outN_len hh hi
    refine wc_seq ?_
    refine wc_region ?_
    refine wl rfl rfl rfl (p_lt rfl rfl) ?_
    refine wl_nil ?_
    refine x_seq ?_
    refine wc_seq ?_
    refine wc_if rfl (fun c1 => ?_) (fun c1 => ?_)
    ·
      have c1 := of_decide_eq_true c1
      refine wc_skip ?_
      refine x_seq ?_
      refine wc_seq ?_
      refine wc_block ?_
      refine wc_seq ?_
      refine wc_region ?_
      refine wl rfl rfl rfl (p_mv rfl) ?_
      refine wl rfl rfl rfl (p_ixG (f := u32v) (d0 := 0#32) Tryd.underlying66 Tryd.underlying29 rfl sz29 rfl rfl (by omega) (by omega) (by first | (simp; done) | (simp; omega) | omega) (Int.toNat_natCast _)) ?_
      refine wl rfl rfl rfl (p_as rfl) ?_
      refine wl rfl rfl rfl (p_as rfl) ?_
      refine wl_nil ?_
      refine x_seq ?_
      refine wc_region ?_
      refine wl rfl rfl rfl (p_mv rfl) ?_
      refine wl rfl rfl rfl (p_mul (Z := ((4 * i : Nat) : Int)) rfl rfl (by rw [w64 (by omega)]; omega)) ?_
      refine wl rfl rfl rfl (p_mv rfl) ?_
      refine wl rfl rfl rfl (p_mul (Z := ((4 * i : Nat) : Int)) rfl rfl (by rw [w64 (by omega)]; omega)) ?_
      refine wl rfl rfl rfl (p_add (Z := ((4 * i + 1 : Nat) : Int)) rfl rfl (by rw [w64 (by omega)]; omega)) ?_
      refine wl rfl rfl rfl (p_mv rfl) ?_
      refine wl rfl rfl rfl (p_mul (Z := ((4 * i : Nat) : Int)) rfl rfl (by rw [w64 (by omega)]; omega)) ?_
      refine wl rfl rfl rfl (p_add (Z := ((4 * i + 2 : Nat) : Int)) rfl rfl (by rw [w64 (by omega)]; omega)) ?_
      refine wl rfl rfl rfl (p_mv rfl) ?_
      refine wl rfl rfl rfl (p_mul (Z := ((4 * i : Nat) : Int)) rfl rfl (by rw [w64 (by omega)]; omega)) ?_
      refine wl rfl rfl rfl (p_add (Z := ((4 * i + 3 : Nat) : Int)) rfl rfl (by rw [w64 (by omega)]; omega)) ?_
      refine wl rfl rfl rfl (p_mv rfl) ?_
      refine wl rfl rfl rfl (p_shr32 (Y := 24) rfl rfl) ?_
      refine wl rfl rfl rfl (p_conv32B Tryd.underlying29 Tryd.underlying5 rfl) ?_
      refine wl rfl rfl rfl (p_mv rfl) ?_
      refine wl rfl rfl rfl (p_shr32 (Y := 16) rfl rfl) ?_
      refine wl rfl rfl rfl (p_conv32B Tryd.underlying29 Tryd.underlying5 rfl) ?_
      refine wl rfl rfl rfl (p_mv rfl) ?_
      refine wl rfl rfl rfl (p_shr32 (Y := 8) rfl rfl) ?_
      refine wl rfl rfl rfl (p_conv32B Tryd.underlying29 Tryd.underlying5 rfl) ?_
      refine wl rfl rfl rfl (p_mv rfl) ?_
      refine wl rfl rfl rfl (p_conv32B Tryd.underlying29 Tryd.underlying5 rfl) ?_
      refine wl rfl rfl rfl (p_ixA1 Tryd.underlying24 sz5 rfl rfl (by omega) (by omega) (Int.toNat_natCast _)) ?_
      refine wle rfl (e_stL one_u8 (by rfl) rfl rfl hb6 (by first | (simp; done) | (simp; omega) | omega) (fun w12 hb6 hc hsz => ?_))
      have hzw12 := hc.size
      have HC := HC.trans hc (fun _ _ h => h) (fun k hk ht => absurd ht (by omega))
      have hb2 := hb2.ch hc (by omega)
      refine wl rfl rfl rfl (p_ixA1 Tryd.underlying24 sz5 rfl rfl (by omega) (by omega) (Int.toNat_natCast _)) ?_
      refine wle rfl (e_stL one_u8 (by rfl) rfl rfl hb6 (by first | (simp; done) | (simp; omega) | omega) (fun w14 hb6 hc hsz => ?_))
      have hzw14 := hc.size
      have HC := HC.trans hc (fun _ _ h => h) (fun k hk ht => absurd ht (by omega))
      have hb2 := hb2.ch hc (by omega)
      refine wl rfl rfl rfl (p_ixA1 Tryd.underlying24 sz5 rfl rfl (by omega) (by omega) (Int.toNat_natCast _)) ?_
      refine wle rfl (e_stL one_u8 (by rfl) rfl rfl hb6 (by first | (simp; done) | (simp; omega) | omega) (fun w16 hb6 hc hsz => ?_))
      have hzw16 := hc.size
      have HC := HC.trans hc (fun _ _ h => h) (fun k hk ht => absurd ht (by omega))
      have hb2 := hb2.ch hc (by omega)
      refine wl rfl rfl rfl (p_ixA1 Tryd.underlying24 sz5 rfl rfl (by omega) (by omega) (Int.toNat_natCast _)) ?_
      refine wle rfl (e_stL one_u8 (by rfl) rfl rfl hb6 (by first | (simp; done) | (simp; omega) | omega) (fun w18 hb6 hc hsz => ?_))
      have hzw18 := hc.size
      have HC := HC.trans hc (fun _ _ h => h) (fun k hk ht => absurd ht (by omega))
      have hb2 := hb2.ch hc (by omega)
      refine wl_nil ?_
      refine x_in_normal ?_
      refine x_seq ?_
      refine wc_region ?_
      refine wl rfl rfl rfl (p_add rfl rfl (w64 (by omega))) ?_
      refine wl rfl rfl rfl (p_mv rfl) ?_
      refine wl_nil ?_
      refine x_round (e' := [(2, .pointer (some ⟨g2, 0, none⟩)), (6, .pointer (some ⟨g6, 0, none⟩)), (25, .agg ((hsh (pad b) ((pad b).length / 64)).map u32v).toArray), (26, i64 ((i + 1) : Int))]) ⟨rfl, rfl, rfl, rfl, trivial⟩ (by rw [hm1]; omega) ⟨i + 1, rfl, rfl, by omega, hh, by rw [← outN_next hh (by omega)]; exact hb6, hb2, HC⟩
    ·
      have c1 := of_decide_eq_false c1
      obtain rfl : i = 8 := by omega
      rw [outN_all hh] at hb6
      have hol : (outB (hsh (pad b) ((pad b).length / 64))).length = 32 := shaF_len b
      rw [← shaF] at hb6 hol
      refine wc_exit ?_
      refine x_then_exit ?_
      refine x_then_exit ?_
      refine x_in_here ?_
      refine x_seq ?_
      refine wc_seq ?_
      refine wc_region ?_
      refine wl rfl rfl rfl (p_ldA (cs := ((shaF b).map u8v)) Tryd.underlying24 rfl (szL sz24 (by rw [List.length_map]; first | assumption | (simp; done) | (simp; omega) | omega)) rfl (fun _ e => e ▸ rngL hb6)) ?_
      refine wle rfl (e_stW (vs := _) (szL sz24 (by rw [List.length_map]; exact hol)) (oneL one_u8 _) rfl rfl hb2 (by simp [hol]) (fun w19 hb2 hc hsz => ?_))
      have hzw19 := hc.size
      have HC := HC.trans hc (fun _ _ h => h) (fun k hk ht => absurd ht (by omega))
      have hb6 := hb6.ch hc (by omega)
      refine wl_nil ?_
      refine x_seq ?_
      refine wc_ret ?_
      refine fin_run (resC rfl rfl Tryd.underlying24 rfl (szL sz24 (by rw [List.length_map]; exact shaF_len b)) (rngL hb2)) ?_
      exact ⟨rfl, HC⟩
end Go.Proofs.YtdbdconmcgcooaaDoor
