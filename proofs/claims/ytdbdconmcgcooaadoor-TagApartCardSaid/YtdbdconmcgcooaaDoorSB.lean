/-
  Own text, printed by a program of mine (wip/gx): what functions of the program do, walked operation by operation.
-/
import Derived.Test.YtdbdconmcgcooaaDoorProg
import Derived.Test.YtdbdconmcgcooaaDoorGxAgg
import Derived.Test.YtdbdconmcgcooaaDoorTab
import Derived.Test.YtdbdconmcgcooaaDoorPlPack
import Derived.Test.YtdbdconmcgcooaaDoorPlSum
import Derived.Test.YtdbdconmcgcooaaDoorPlSha
import Derived.Test.YtdbdconmcgcooaaDoorPlShaSt
import Derived.Test.YtdbdconmcgcooaaDoorPlShaB
import Derived.Test.YtdbdconmcgcooaaDoorSA
set_option linter.unusedVariables false
namespace Go.Proofs.YtdbdconmcgcooaaDoor
open Go.RowKit Go.Gx
open Go.Plain
set_option maxHeartbeats 1000000 in
set_option maxRecDepth 20000 in
theorem parse_any {w : World} {s : ByteArray}  :
    Calls Tryd.prog 48 #[.string s] w fun e w' => e = .returned (.tuple #[hv (parD s.data.toList), .bool (parO s.data.toList)]) ∧ Ch No w w' := by
  have hsz : s.size = s.data.toList.length := Array.length_toList.symm
  have HC : Ch No w w := Ch.refl _ _
  refine enter' (args := [.string s]) (n := 49) Tryd.func48 rfl rfl rfl ?_
  refine wc_seq ?_
  refine wc_region ?_
  refine wle rfl (e_alloc (cs := ((List.replicate 32 (0 : UInt8)).map u8v).toArray) rfl (by rfl) rfl (fun w1 g2 hg2 hb2 hc hsz2 => ?_))
  have hzw1 := hc.size
  have HC := HC.tr hc
  have hge2 : w.heap.size ≤ g2 := by have := HC.size; omega
  refine wl rfl rfl rfl (p_as rfl) ?_
  refine wl_nil ?_
  refine x_seq ?_
  refine wc_seq ?_
  refine wc_region ?_
  have hltg2 := hb2.lt
  refine wle rfl (e_alloc (cs := ((List.replicate 32 (0 : UInt8)).map u8v).toArray) rfl (by rfl) rfl (fun w2 g4 hg4 hb4 hc hsz4 => ?_))
  have hzw2 := hc.size
  have HC := HC.tr hc
  have hb2 := hb2.ch hc (fun h => h)
  have hge4 : w.heap.size ≤ g4 := by have := HC.size; omega
  have neg2_4 : g2 < g4 := by omega
  refine wl_nil ?_
  refine x_seq ?_
  refine wc_seq ?_
  refine wc_seq ?_
  refine wc_region ?_
  refine wl rfl rfl rfl (p_mv rfl) ?_
  refine wl rfl rfl rfl (p_lenT Tryd.underlying9 rfl) ?_
  refine wl rfl rfl rfl (p_ne rfl rfl) ?_
  refine wl_nil ?_
  refine x_seq ?_
  refine wc_if rfl (fun c0 => ?_) (fun c0 => ?_)
  ·
    have c0 := of_decide_eq_true c0
    have eP := par_none (par_long (s := s.data.toList) (by omega))
    refine wc_seq ?_
    refine wc_region ?_
    refine wl rfl rfl rfl (p_ldA (cs := List.map u8v (List.replicate 32 (0 : UInt8))) Tryd.underlying25 rfl (szL sz25 (by rw [List.length_map]; exact (List.length_replicate ..))) rfl (fun _ e => e ▸ rngL hb4)) ?_
    refine wle rfl (e_stW (vs := List.map u8v (List.replicate 32 (0 : UInt8))) (szL sz25 (by rw [List.length_map]; exact (List.length_replicate ..))) (oneL one_u8 _) rfl rfl hb2 (by simp only [List.size_toArray, List.length_map]; first | done | exact ((List.length_replicate ..)).trans ((List.length_replicate ..)).symm) (fun w3 hb2 hc hsz => ?_))
    have hzw3 := hc.size
    have HC := HC.trans hc (fun _ _ h => h) (fun k hk ht => absurd ht (by omega))
    have hb4 := hb4.ch hc (by omega)
    refine wl rfl rfl rfl (p_as rfl) ?_
    refine wl_nil ?_
    refine x_seq ?_
    refine wc_ret ?_
    refine x_then_ret ?_
    refine fin_run (resMany (rs := [.cell 2 25, .tmp 3]) rfl (.cellA (cs := List.map u8v (List.replicate 32 (0 : UInt8))) rfl Tryd.underlying25 rfl (szL sz25 (by rw [List.length_map]; exact (List.length_replicate ..))) (rngL hb2) (.tmp rfl (.nil))) rfl) ?_
    rw [eP.1, eP.2]; exact ⟨rfl, HC⟩
  ·
    have c0 := of_decide_eq_false c0
    have hs64 : s.data.toList.length = 64 := by omega
    refine wc_skip ?_
    refine x_seq ?_
    refine wc_seq ?_
    refine wc_seq ?_
    refine wc_region ?_
    refine wl rfl rfl rfl (p_mv rfl) ?_
    refine wl_nil ?_
    refine x_seq ?_
    refine wc_block ?_
    refine wc_loop (e' := [(0, .string s), (2, .pointer (some ⟨g2, 0, none⟩)), (4, .pointer (some ⟨g4, 0, none⟩)), (14, i64 ((0) : Int))]) (fun mz ez uz => ∃ i : Nat, ∃ l : List UInt8, mz = 32 - i ∧ ez = [(0, .string s), (2, .pointer (some ⟨g2, 0, none⟩)), (4, .pointer (some ⟨g4, 0, none⟩)), (14, i64 (i : Int))] ∧ (i ≤ 32) ∧ (l.length = i) ∧ (unhex (s.data.toList.take (2 * i)) = some l) ∧ (Blk uz g2 25 ((List.replicate 32 (0 : UInt8)).map u8v).toArray) ∧ (Blk uz g4 25 ((l ++ List.replicate (32 - i) 0).map u8v).toArray) ∧ (Ch No w uz))
      ⟨rfl, rfl, rfl, rfl, trivial⟩ ⟨0, [], rfl, rfl, by omega, rfl, rfl, hb2, hb4, HC⟩ ?_
    rintro m0 e w4 ⟨i, l, hm0, rfl, hi, hll, hun, hb2, hb4, HC⟩
    have hzw4 := HC.size
    refine wc_seq ?_
    refine wc_region ?_
    refine wl rfl rfl rfl (p_lt rfl rfl) ?_
    refine wl_nil ?_
    refine x_seq ?_
    refine wc_seq ?_
    refine wc_if rfl (fun c1 => ?_) (fun c1 => ?_)
    ·
      have c1 := of_decide_eq_true c1
      refine wc_skip ?_
      refine x_seq ?_
      refine wc_seq ?_
      refine wc_block ?_
      refine wc_seq ?_
      refine wc_region ?_
      refine wl rfl rfl rfl (p_mv rfl) ?_
      refine wl rfl rfl rfl (p_as rfl) ?_
      refine wl_nil ?_
      refine x_seq ?_
      refine wc_seq ?_
      refine wc_region ?_
      refine wl rfl rfl rfl (p_mv rfl) ?_
      refine wl rfl rfl rfl (p_mv rfl) ?_
      refine wl rfl rfl rfl (p_mul (Z := ((2 * i : Nat) : Int)) rfl rfl (by rw [w64 (by omega)]; omega)) ?_
      refine wl rfl rfl rfl (p_ixT (s := s) Tryd.underlying9 rfl rfl (by omega) (by rw [Int.toNat_natCast]; exact getDT (by omega))) ?_
      refine wle rfl (e_call ent72 rfl rfl (digit_any) ?_)
      rintro _ w5 ⟨rfl, hc⟩
      refine ⟨_, rfl, ?_⟩
      have hzw5 := hc.size
      have HC := HC.tr hc
      have hb2 := hb2.ch hc (fun h => h)
      have hb4 := hb4.ch hc (fun h => h)
      refine wl rfl rfl rfl (p_mv rfl) ?_
      refine wl rfl rfl rfl (p_ext rfl rfl) ?_
      refine wl rfl rfl rfl (p_ext rfl rfl) ?_
      refine wl rfl rfl rfl (p_as rfl) ?_
      refine wl rfl rfl rfl (p_as rfl) ?_
      refine wl_nil ?_
      refine x_seq ?_
      refine wc_seq ?_
      refine wc_region ?_
      refine wl rfl rfl rfl (p_mv rfl) ?_
      refine wl rfl rfl rfl (p_mv rfl) ?_
      refine wl rfl rfl rfl (p_mul (Z := ((2 * i : Nat) : Int)) rfl rfl (by rw [w64 (by omega)]; omega)) ?_
      refine wl rfl rfl rfl (p_add (Z := ((2 * i + 1 : Nat) : Int)) rfl rfl (by rw [w64 (by omega)]; omega)) ?_
      refine wl rfl rfl rfl (p_ixT (s := s) Tryd.underlying9 rfl rfl (by omega) (by rw [Int.toNat_natCast]; exact getDT (by omega))) ?_
      refine wle rfl (e_call ent72 rfl rfl (digit_any) ?_)
      rintro _ w6 ⟨rfl, hc⟩
      refine ⟨_, rfl, ?_⟩
      have hzw6 := hc.size
      have HC := HC.tr hc
      have hb2 := hb2.ch hc (fun h => h)
      have hb4 := hb4.ch hc (fun h => h)
      refine wl rfl rfl rfl (p_mv rfl) ?_
      refine wl rfl rfl rfl (p_ext rfl rfl) ?_
      refine wl rfl rfl rfl (p_ext rfl rfl) ?_
      refine wl rfl rfl rfl (p_as rfl) ?_
      refine wl rfl rfl rfl (p_as rfl) ?_
      refine wl_nil ?_
      refine x_seq ?_
      refine wc_seq ?_
      refine wc_seq ?_
      refine wc_region ?_
      refine wl rfl rfl rfl (p_mv rfl) ?_
      refine wl rfl rfl rfl (p_not rfl) ?_
      refine wl rfl rfl rfl (p_mv rfl) ?_
      refine wl_split (d := 36) rfl (fun q36 => ?_) (fun q36 => ?_)
      ·
        have eP := par_none (par_bad (unhex_bad (by omega) hun (.inl (none_of q36))))
        refine wl_s (gd_ rfl rfl rfl rfl rfl rfl) rfl rfl ?_
        refine wl_s (gd_ rfl rfl rfl rfl rfl rfl) rfl rfl ?_
        refine wl rfl rfl rfl (p_pickT rfl rfl) ?_
        refine wl_nil ?_
        refine x_seq ?_
        refine wc_yes rfl (rfl) ?_
        refine wc_seq ?_
        refine wc_region ?_
        refine wl rfl rfl rfl (p_bldP (cs := ((List.replicate 32 (0 : UInt8)).map u8v).toArray) rfl (fun _ => by kernel_rfl)) ?_
        refine wle rfl (e_stW (vs := List.map u8v (List.replicate 32 (0 : UInt8))) (szL sz25 (by rw [List.length_map]; exact (List.length_replicate ..))) (oneL one_u8 _) rfl rfl hb2 (by simp only [List.size_toArray, List.length_map]; first | done | exact ((List.length_replicate ..)).trans ((List.length_replicate ..)).symm) (fun w7 hb2 hc hsz => ?_))
        have hzw7 := hc.size
        have HC := HC.trans hc (fun _ _ h => h) (fun k hk ht => absurd ht (by omega))
        have hb4 := hb4.ch hc (by omega)
        refine wl rfl rfl rfl (p_as rfl) ?_
        refine wl_nil ?_
        refine x_seq ?_
        refine wc_ret ?_
        refine x_then_ret ?_
        refine x_in_ret ?_
        refine x_then_ret ?_
        refine x_then_ret ?_
        refine x_in_ret ?_
        refine x_then_ret ?_
        refine fin_run (resMany (rs := [.cell 2 25, .tmp 3]) rfl (.cellA (cs := List.map u8v (List.replicate 32 (0 : UInt8))) rfl Tryd.underlying25 rfl (szL sz25 (by rw [List.length_map]; exact (List.length_replicate ..))) (rngL hb2) (.tmp rfl (.nil))) rfl) ?_
        rw [eP.1, eP.2]; exact ⟨rfl, HC⟩
      ·
        refine wl_g (gd_ rfl rfl rfl rfl rfl rfl) rfl rfl (p_mv rfl) ?_
        refine wl_g (gd_ rfl rfl rfl rfl rfl rfl) rfl rfl (p_not rfl) ?_
        refine wl rfl rfl rfl (p_pickF rfl rfl) ?_
        refine wl_nil ?_
        refine x_seq ?_
        refine wc_if rfl (fun c2 => ?_) (fun c2 => ?_)
        ·
          have eP := par_none (par_bad (unhex_bad (by omega) hun (.inr (none_of c2))))
          refine wc_seq ?_
          refine wc_region ?_
          refine wl rfl rfl rfl (p_bldP (cs := ((List.replicate 32 (0 : UInt8)).map u8v).toArray) rfl (fun _ => by kernel_rfl)) ?_
          refine wle rfl (e_stW (vs := List.map u8v (List.replicate 32 (0 : UInt8))) (szL sz25 (by rw [List.length_map]; exact (List.length_replicate ..))) (oneL one_u8 _) rfl rfl hb2 (by simp only [List.size_toArray, List.length_map]; first | done | exact ((List.length_replicate ..)).trans ((List.length_replicate ..)).symm) (fun w8 hb2 hc hsz => ?_))
          have hzw8 := hc.size
          have HC := HC.trans hc (fun _ _ h => h) (fun k hk ht => absurd ht (by omega))
          have hb4 := hb4.ch hc (by omega)
          refine wl rfl rfl rfl (p_as rfl) ?_
          refine wl_nil ?_
          refine x_seq ?_
          refine wc_ret ?_
          refine x_then_ret ?_
          refine x_in_ret ?_
          refine x_then_ret ?_
          refine x_then_ret ?_
          refine x_in_ret ?_
          refine x_then_ret ?_
          refine fin_run (resMany (rs := [.cell 2 25, .tmp 3]) rfl (.cellA (cs := List.map u8v (List.replicate 32 (0 : UInt8))) rfl Tryd.underlying25 rfl (szL sz25 (by rw [List.length_map]; exact (List.length_replicate ..))) (rngL hb2) (.tmp rfl (.nil))) rfl) ?_
          rw [eP.1, eP.2]; exact ⟨rfl, HC⟩
        ·
          obtain ⟨x, hx⟩ := some_of q36
          obtain ⟨y, hy⟩ := some_of c2
          have hx16 := ung_lt hx
          have hy16 := ung_lt hy
          refine wc_skip ?_
          refine x_seq ?_
          refine wc_region ?_
          refine wl rfl rfl rfl (p_mv rfl) ?_
          refine wl rfl rfl rfl (p_mv rfl) ?_
          refine wl rfl rfl rfl (p_shl (X := (((UInt8.ofNat x).toNat : Nat) : Int)) (Z := (((UInt8.ofNat x).toNat * 2 ^ 4 % 256 : Nat) : Int)) (by rw [hx]; rfl) rfl (by omega) (shl4 hx16)) ?_
          refine wl rfl rfl rfl (p_mv rfl) ?_
          refine wl rfl rfl rfl (p_bits (X := (((UInt8.ofNat x).toNat * 2 ^ 4 % 256 : Nat) : Int)) (Y := (((UInt8.ofNat y).toNat : Nat) : Int)) (Z := (((UInt8.ofNat (16 * x + y)).toNat : Nat) : Int)) (by simp) rfl (by rw [hy]; rfl) (fun w => by simp only [Op.intBits]; exact congrArg (fun z => Result.ok (Value.int .u8 z) w) (shl4or hx16 hy16))) ?_
          refine wl rfl rfl rfl (p_ixA1 Tryd.underlying25 sz5 rfl rfl (by omega) (by omega) (Int.toNat_natCast _)) ?_
          refine wle rfl (e_stL one_u8 (by rfl) rfl rfl hb4 (by first | (simp; done) | (simp; omega) | omega) (fun w10 hb4 hc hsz => ?_))
          have hzw10 := hc.size
          have HC := HC.trans hc (fun _ _ h => h) (fun k hk ht => absurd ht (by omega))
          have hb2 := hb2.ch hc (by omega)
          refine wl_nil ?_
          refine x_in_normal ?_
          refine x_seq ?_
          refine wc_region ?_
          refine wl rfl rfl rfl (p_add rfl rfl (w64 (by omega))) ?_
          refine wl rfl rfl rfl (p_mv rfl) ?_
          refine wl_nil ?_
          have hnx := unhex_next (by omega) hun hx hy
          rw [parZ_set _ hll (by omega)] at hb4
          refine x_round (e' := [(0, .string s), (2, .pointer (some ⟨g2, 0, none⟩)), (4, .pointer (some ⟨g4, 0, none⟩)), (14, i64 ((i + 1) : Int))]) ⟨rfl, rfl, rfl, rfl, trivial⟩ (by rw [hm0]; omega) ⟨i + 1, l ++ [UInt8.ofNat (16 * x + y)], rfl, rfl, by omega, by rw [List.length_append, hll]; rfl, hnx, hb2, hb4, HC⟩
    ·
      have c1 := of_decide_eq_false c1
      obtain rfl : i = 32 := by omega
      rw [List.take_of_length_le (by omega)] at hun
      have eP := par_some (par_good hs64 hun)
      simp only [Nat.sub_self, List.replicate_zero, List.append_nil] at hb4
      refine wc_exit ?_
      refine x_then_exit ?_
      refine x_then_exit ?_
      refine x_in_here ?_
      refine x_seq ?_
      refine wc_seq ?_
      refine wc_region ?_
      refine wl rfl rfl rfl (p_ldA (cs := List.map u8v l) Tryd.underlying25 rfl (szL sz25 (by rw [List.length_map]; exact hll)) rfl (fun _ e => e ▸ rngL hb4)) ?_
      refine wle rfl (e_stW (vs := List.map u8v l) (szL sz25 (by rw [List.length_map]; exact hll)) (oneL one_u8 _) rfl rfl hb2 (by simp only [List.size_toArray, List.length_map]; first | done | exact ((List.length_replicate ..)).trans (hll).symm) (fun w11 hb2 hc hsz => ?_))
      have hzw11 := hc.size
      have HC := HC.trans hc (fun _ _ h => h) (fun k hk ht => absurd ht (by omega))
      have hb4 := hb4.ch hc (by omega)
      refine wl rfl rfl rfl (p_as rfl) ?_
      refine wl_nil ?_
      refine x_seq ?_
      refine wc_ret ?_
      refine fin_run (resMany (rs := [.cell 2 25, .tmp 3]) rfl (.cellA (cs := List.map u8v l) rfl Tryd.underlying25 rfl (szL sz25 (by rw [List.length_map]; exact hll)) (rngL hb2) (.tmp rfl (.nil))) rfl) ?_
      rw [eP.1, eP.2]; exact ⟨rfl, HC⟩

set_option maxHeartbeats 1000000 in
set_option maxRecDepth 20000 in
theorem rparse_any {w : World} {s : ByteArray}  :
    Calls Tryd.prog 49 #[.string s] w fun e w' => e = .returned (.tuple #[hv (parD s.data.toList), .bool (parO s.data.toList)]) ∧ Ch No w w' := by
  have hsz : s.size = s.data.toList.length := Array.length_toList.symm
  have HC : Ch No w w := Ch.refl _ _
  refine enter' (args := [.string s]) (n := 42) Tryd.func49 rfl rfl rfl ?_
  refine wc_seq ?_
  refine wc_region ?_
  refine wle rfl (e_alloc (cs := ((List.replicate 32 (0 : UInt8)).map u8v).toArray) rfl (by rfl) rfl (fun w1 g2 hg2 hb2 hc hsz2 => ?_))
  have hzw1 := hc.size
  have HC := HC.tr hc
  have hge2 : w.heap.size ≤ g2 := by have := HC.size; omega
  refine wl rfl rfl rfl (p_as rfl) ?_
  refine wl_nil ?_
  refine x_seq ?_
  refine wc_seq ?_
  refine wc_region ?_
  have hltg2 := hb2.lt
  refine wle rfl (e_alloc (cs := ((List.replicate 32 (0 : UInt8)).map u8v).toArray) rfl (by rfl) rfl (fun w2 g4 hg4 hb4 hc hsz4 => ?_))
  have hzw2 := hc.size
  have HC := HC.tr hc
  have hb2 := hb2.ch hc (fun h => h)
  have hge4 : w.heap.size ≤ g4 := by have := HC.size; omega
  have neg2_4 : g2 < g4 := by omega
  refine wl_nil ?_
  refine x_seq ?_
  refine wc_seq ?_
  refine wc_seq ?_
  refine wc_region ?_
  refine wl rfl rfl rfl (p_mv rfl) ?_
  refine wl rfl rfl rfl (p_lenT Tryd.underlying9 rfl) ?_
  refine wl rfl rfl rfl (p_ne rfl rfl) ?_
  refine wl_nil ?_
  refine x_seq ?_
  refine wc_if rfl (fun c0 => ?_) (fun c0 => ?_)
  ·
    have c0 := of_decide_eq_true c0
    have eP := par_none (par_long (s := s.data.toList) (by omega))
    refine wc_seq ?_
    refine wc_region ?_
    refine wl rfl rfl rfl (p_ldA (cs := List.map u8v (List.replicate 32 (0 : UInt8))) Tryd.underlying24 rfl (szL sz24 (by rw [List.length_map]; exact (List.length_replicate ..))) rfl (fun _ e => e ▸ rngL hb4)) ?_
    refine wle rfl (e_stW (vs := List.map u8v (List.replicate 32 (0 : UInt8))) (szL sz24 (by rw [List.length_map]; exact (List.length_replicate ..))) (oneL one_u8 _) rfl rfl hb2 (by simp only [List.size_toArray, List.length_map]; first | done | exact ((List.length_replicate ..)).trans ((List.length_replicate ..)).symm) (fun w3 hb2 hc hsz => ?_))
    have hzw3 := hc.size
    have HC := HC.trans hc (fun _ _ h => h) (fun k hk ht => absurd ht (by omega))
    have hb4 := hb4.ch hc (by omega)
    refine wl rfl rfl rfl (p_as rfl) ?_
    refine wl_nil ?_
    refine x_seq ?_
    refine wc_ret ?_
    refine x_then_ret ?_
    refine fin_run (resMany (rs := [.cell 2 24, .tmp 3]) rfl (.cellA (cs := List.map u8v (List.replicate 32 (0 : UInt8))) rfl Tryd.underlying24 rfl (szL sz24 (by rw [List.length_map]; exact (List.length_replicate ..))) (rngL hb2) (.tmp rfl (.nil))) rfl) ?_
    rw [eP.1, eP.2]; exact ⟨rfl, HC⟩
  ·
    have c0 := of_decide_eq_false c0
    have hs64 : s.data.toList.length = 64 := by omega
    refine wc_skip ?_
    refine x_seq ?_
    refine wc_seq ?_
    refine wc_seq ?_
    refine wc_region ?_
    refine wl rfl rfl rfl (p_as rfl) ?_
    refine wl_nil ?_
    refine x_seq ?_
    refine wc_block ?_
    refine wc_loop (e' := [(0, .string s), (2, .pointer (some ⟨g2, 0, none⟩)), (4, .pointer (some ⟨g4, 0, none⟩)), (5, i64 ((0) : Int))]) (fun mz ez uz => ∃ i : Nat, ∃ l : List UInt8, mz = 32 - i ∧ ez = [(0, .string s), (2, .pointer (some ⟨g2, 0, none⟩)), (4, .pointer (some ⟨g4, 0, none⟩)), (5, i64 (i : Int))] ∧ (i ≤ 32) ∧ (l.length = i) ∧ (unhex (s.data.toList.take (2 * i)) = some l) ∧ (Blk uz g2 24 ((List.replicate 32 (0 : UInt8)).map u8v).toArray) ∧ (Blk uz g4 24 ((l ++ List.replicate (32 - i) 0).map u8v).toArray) ∧ (Ch No w uz))
      ⟨rfl, rfl, rfl, rfl, trivial⟩ ⟨0, [], rfl, rfl, by omega, rfl, rfl, hb2, hb4, HC⟩ ?_
    rintro m0 e w4 ⟨i, l, hm0, rfl, hi, hll, hun, hb2, hb4, HC⟩
    have hzw4 := HC.size
    refine wc_seq ?_
    refine wc_seq ?_
    refine wc_region ?_
    refine wl rfl rfl rfl (p_mv rfl) ?_
    refine wl rfl rfl rfl (p_lt rfl rfl) ?_
    refine wl_nil ?_
    refine x_seq ?_
    refine wc_if rfl (fun c1 => ?_) (fun c1 => ?_)
    ·
      have c1 := of_decide_eq_true c1
      refine wc_skip ?_
      refine x_seq ?_
      refine wc_seq ?_
      refine wc_block ?_
      refine wc_seq ?_
      refine wc_draw (.st 0 0 (.st 1 0 (.st 2 0 (.st 3 0 (.st 5 0 (.st 6 0 (.st 7 0 (.st 8 0 (.st 9 0 (.st 4 2 (.st 10 2 (.st 11 0 (.st 12 0 .nil))))))))))))) 13 (by kernel_rfl) (by kernel_rfl) (by kernel_rfl) (by repeat (first | with_reducible exact pan_body | with_reducible apply pan_then | with_reducible apply pan_in)) (fun x => Ch No w4.drew x) (Ch.refl _ _) ?_
      obtain ⟨w5, ew5⟩ : ∃ x, x = w4.drew := ⟨_, rfl⟩
      rw [← ew5]
      have hc : Ch No w4 w5 := by rw [ew5]; exact Ch.drew _
      have hszw5 : w5.heap.size = w4.heap.size := by rw [ew5]; rfl
      clear ew5
      have hzw5 := hc.size
      have HC := HC.tr hc
      have hb2 := hb2.ch hc (fun h => h)
      have hb4 := hb4.ch hc (fun h => h)
      have hS : Ch No w5 w5 := Ch.refl _ _
      refine ws_p rfl rfl rfl rfl (p_mv rfl) ?_
      refine ws_p rfl rfl rfl rfl (p_mv rfl) ?_
      refine ws_p rfl rfl rfl rfl (p_mul (Z := ((2 * i : Nat) : Int)) rfl rfl (by rw [w64 (by omega)]; omega)) ?_
      refine ws_p rfl rfl rfl rfl (p_ixT (s := s) Tryd.underlying9 rfl rfl (by omega) (by rw [Int.toNat_natCast]; exact getDT (by omega))) ?_
      refine ws_p rfl rfl rfl rfl (p_mv rfl) ?_
      refine ws_p rfl rfl rfl rfl (p_mv rfl) ?_
      refine ws_p rfl rfl rfl rfl (p_mul (Z := ((2 * i : Nat) : Int)) rfl rfl (by rw [w64 (by omega)]; omega)) ?_
      refine ws_p rfl rfl rfl rfl (p_add (Z := ((2 * i + 1 : Nat) : Int)) rfl rfl (by rw [w64 (by omega)]; omega)) ?_
      refine ws_p rfl rfl rfl rfl (p_ixT (s := s) Tryd.underlying9 rfl rfl (by omega) (by rw [Int.toNat_natCast]; exact getDT (by omega))) ?_
      refine ws_e rfl rfl (e_call ent73 rfl rfl (rdigit_any) ?_)
      rintro _ w6 ⟨rfl, hc⟩
      refine ⟨_, rfl, hc, ?_⟩
      have hzw6 := hc.size
      have HC := HC.tr hc
      have hb2 := hb2.ch hc (fun h => h)
      have hb4 := hb4.ch hc (fun h => h)
      refine ws_narrow (S' := fun x => Ch No w6 x) (Ch.refl _ _) (fun x h => hc.tr h) ?_
      refine ws_e rfl rfl (e_call ent73 rfl rfl (rdigit_any) ?_)
      rintro _ w7 ⟨rfl, hc⟩
      refine ⟨_, rfl, hc, ?_⟩
      have hzw7 := hc.size
      have HC := HC.tr hc
      have hb2 := hb2.ch hc (fun h => h)
      have hb4 := hb4.ch hc (fun h => h)
      refine ws_narrow (S' := fun x => Ch No w7 x) (Ch.refl _ _) (fun x h => hc.tr h) ?_
      refine ws_p rfl rfl rfl rfl (p_as rfl) ?_
      refine ws_p rfl rfl rfl rfl (p_as rfl) ?_
      refine ws_n ?_
      refine x_seq ?_
      refine wc_seq ?_
      refine wc_seq ?_
      refine wc_region ?_
      refine wl rfl rfl rfl (p_mv rfl) ?_
      refine wl rfl rfl rfl (p_lt rfl rfl) ?_
      refine wl rfl rfl rfl (p_mv rfl) ?_
      refine wl_split (d := 29) rfl (fun q29 => ?_) (fun q29 => ?_)
      ·
        have q29 := of_decide_eq_true q29
        have eP := par_none (par_bad (unhex_bad (by omega) hun (.inl (ungI_neg.1 q29))))
        refine wl_s (gd_ rfl rfl rfl rfl rfl rfl) rfl rfl ?_
        refine wl_s (gd_ rfl rfl rfl rfl rfl rfl) rfl rfl ?_
        refine wl rfl rfl rfl (p_pickT rfl rfl) ?_
        refine wl_nil ?_
        refine x_seq ?_
        refine wc_yes rfl (rfl) ?_
        refine wc_seq ?_
        refine wc_region ?_
        refine wl rfl rfl rfl (p_bldP (cs := ((List.replicate 32 (0 : UInt8)).map u8v).toArray) rfl (fun _ => by kernel_rfl)) ?_
        refine wle rfl (e_stW (vs := List.map u8v (List.replicate 32 (0 : UInt8))) (szL sz24 (by rw [List.length_map]; exact (List.length_replicate ..))) (oneL one_u8 _) rfl rfl hb2 (by simp only [List.size_toArray, List.length_map]; first | done | exact ((List.length_replicate ..)).trans ((List.length_replicate ..)).symm) (fun w8 hb2 hc hsz => ?_))
        have hzw8 := hc.size
        have HC := HC.trans hc (fun _ _ h => h) (fun k hk ht => absurd ht (by omega))
        have hb4 := hb4.ch hc (by omega)
        refine wl rfl rfl rfl (p_as rfl) ?_
        refine wl_nil ?_
        refine x_seq ?_
        refine wc_ret ?_
        refine x_then_ret ?_
        refine x_in_ret ?_
        refine x_then_ret ?_
        refine x_then_ret ?_
        refine x_in_ret ?_
        refine x_then_ret ?_
        refine fin_run (resMany (rs := [.cell 2 24, .tmp 3]) rfl (.cellA (cs := List.map u8v (List.replicate 32 (0 : UInt8))) rfl Tryd.underlying24 rfl (szL sz24 (by rw [List.length_map]; exact (List.length_replicate ..))) (rngL hb2) (.tmp rfl (.nil))) rfl) ?_
        rw [eP.1, eP.2]; exact ⟨rfl, HC⟩
      ·
        have q29 := of_decide_eq_false q29
        refine wl_g (gd_ rfl rfl rfl rfl rfl rfl) rfl rfl (p_mv rfl) ?_
        refine wl_g (gd_ rfl rfl rfl rfl rfl rfl) rfl rfl (p_lt rfl rfl) ?_
        refine wl rfl rfl rfl (p_pickF rfl rfl) ?_
        refine wl_nil ?_
        refine x_seq ?_
        refine wc_if rfl (fun c2 => ?_) (fun c2 => ?_)
        ·
          have c2 := of_decide_eq_true c2
          have eP := par_none (par_bad (unhex_bad (by omega) hun (.inr (ungI_neg.1 c2))))
          refine wc_seq ?_
          refine wc_region ?_
          refine wl rfl rfl rfl (p_bldP (cs := ((List.replicate 32 (0 : UInt8)).map u8v).toArray) rfl (fun _ => by kernel_rfl)) ?_
          refine wle rfl (e_stW (vs := List.map u8v (List.replicate 32 (0 : UInt8))) (szL sz24 (by rw [List.length_map]; exact (List.length_replicate ..))) (oneL one_u8 _) rfl rfl hb2 (by simp only [List.size_toArray, List.length_map]; first | done | exact ((List.length_replicate ..)).trans ((List.length_replicate ..)).symm) (fun w9 hb2 hc hsz => ?_))
          have hzw9 := hc.size
          have HC := HC.trans hc (fun _ _ h => h) (fun k hk ht => absurd ht (by omega))
          have hb4 := hb4.ch hc (by omega)
          refine wl rfl rfl rfl (p_as rfl) ?_
          refine wl_nil ?_
          refine x_seq ?_
          refine wc_ret ?_
          refine x_then_ret ?_
          refine x_in_ret ?_
          refine x_then_ret ?_
          refine x_then_ret ?_
          refine x_in_ret ?_
          refine x_then_ret ?_
          refine fin_run (resMany (rs := [.cell 2 24, .tmp 3]) rfl (.cellA (cs := List.map u8v (List.replicate 32 (0 : UInt8))) rfl Tryd.underlying24 rfl (szL sz24 (by rw [List.length_map]; exact (List.length_replicate ..))) (rngL hb2) (.tmp rfl (.nil))) rfl) ?_
          rw [eP.1, eP.2]; exact ⟨rfl, HC⟩
        ·
          have c2 := of_decide_eq_false c2
          obtain ⟨x, hx⟩ : ∃ x, ung (s.data.toList.getD (2 * i) 0) = some x := Option.ne_none_iff_exists'.1 (fun h => q29 (ungI_neg.2 h))
          obtain ⟨y, hy⟩ : ∃ y, ung (s.data.toList.getD (2 * i + 1) 0) = some y := Option.ne_none_iff_exists'.1 (fun h => c2 (ungI_neg.2 h))
          have hx16 := ung_lt hx
          have hy16 := ung_lt hy
          refine wc_skip ?_
          refine x_seq ?_
          refine wc_region ?_
          refine wl rfl rfl rfl (p_mv rfl) ?_
          refine wl rfl rfl rfl (p_mv rfl) ?_
          refine wl rfl rfl rfl (p_mul (X := 16) (Y := (x : Int)) (Z := ((16 * x : Nat) : Int)) rfl (by rw [ungI_some hx]; rfl) (by rw [w64 (by omega)]; omega)) ?_
          refine wl rfl rfl rfl (p_mv rfl) ?_
          refine wl rfl rfl rfl (p_add (X := ((16 * x : Nat) : Int)) (Y := (y : Int)) (Z := ((16 * x + y : Nat) : Int)) rfl (by rw [ungI_some hy]; rfl) (by rw [w64 (by omega)]; omega)) ?_
          refine wl rfl rfl rfl (p_convN8 Tryd.underlying3 Tryd.underlying5 rfl) ?_
          refine wl rfl rfl rfl (p_ixA1 Tryd.underlying24 sz5 rfl rfl (by omega) (by omega) (Int.toNat_natCast _)) ?_
          refine wle rfl (e_stL one_u8 (by rfl) rfl rfl hb4 (by first | (simp; done) | (simp; omega) | omega) (fun w11 hb4 hc hsz => ?_))
          have hzw11 := hc.size
          have HC := HC.trans hc (fun _ _ h => h) (fun k hk ht => absurd ht (by omega))
          have hb2 := hb2.ch hc (by omega)
          refine wl_nil ?_
          refine x_in_normal ?_
          refine x_seq ?_
          refine wc_region ?_
          refine wl rfl rfl rfl (p_mv rfl) ?_
          refine wl rfl rfl rfl (p_add rfl rfl (w64 (by omega))) ?_
          refine wl rfl rfl rfl (p_as rfl) ?_
          refine wl_nil ?_
          have hnx := unhex_next (by omega) hun hx hy
          rw [parZ_set _ hll (by omega)] at hb4
          refine x_round (e' := [(0, .string s), (2, .pointer (some ⟨g2, 0, none⟩)), (4, .pointer (some ⟨g4, 0, none⟩)), (5, i64 ((i + 1) : Int))]) ⟨rfl, rfl, rfl, rfl, trivial⟩ (by rw [hm0]; omega) ⟨i + 1, l ++ [UInt8.ofNat (16 * x + y)], rfl, rfl, by omega, by rw [List.length_append, hll]; rfl, hnx, hb2, hb4, HC⟩
    ·
      have c1 := of_decide_eq_false c1
      obtain rfl : i = 32 := by omega
      rw [List.take_of_length_le (by omega)] at hun
      have eP := par_some (par_good hs64 hun)
      simp only [Nat.sub_self, List.replicate_zero, List.append_nil] at hb4
      refine wc_exit ?_
      refine x_then_exit ?_
      refine x_then_exit ?_
      refine x_in_here ?_
      refine x_seq ?_
      refine wc_seq ?_
      refine wc_region ?_
      refine wl rfl rfl rfl (p_ldA (cs := List.map u8v l) Tryd.underlying24 rfl (szL sz24 (by rw [List.length_map]; exact hll)) rfl (fun _ e => e ▸ rngL hb4)) ?_
      refine wle rfl (e_stW (vs := List.map u8v l) (szL sz24 (by rw [List.length_map]; exact hll)) (oneL one_u8 _) rfl rfl hb2 (by simp only [List.size_toArray, List.length_map]; first | done | exact ((List.length_replicate ..)).trans (hll).symm) (fun w12 hb2 hc hsz => ?_))
      have hzw12 := hc.size
      have HC := HC.trans hc (fun _ _ h => h) (fun k hk ht => absurd ht (by omega))
      have hb4 := hb4.ch hc (by omega)
      refine wl rfl rfl rfl (p_as rfl) ?_
      refine wl_nil ?_
      refine x_seq ?_
      refine wc_ret ?_
      refine fin_run (resMany (rs := [.cell 2 24, .tmp 3]) rfl (.cellA (cs := List.map u8v l) rfl Tryd.underlying24 rfl (szL sz24 (by rw [List.length_map]; exact hll)) (rngL hb2) (.tmp rfl (.nil))) rfl) ?_
      rw [eP.1, eP.2]; exact ⟨rfl, HC⟩
end Go.Proofs.YtdbdconmcgcooaaDoor
