/-
  Own text, printed by a program of mine (wip/gx): what functions of the program do, walked operation by operation.
-/
import Derived.Test.YtdbdconmcgcooaaDoorProg
import Derived.Test.YtdbdconmcgcooaaDoorGxAgg
import Derived.Test.YtdbdconmcgcooaaDoorTab
import Derived.Test.YtdbdconmcgcooaaDoorPlPack
import Derived.Test.YtdbdconmcgcooaaDoorPlSum
import Derived.Test.YtdbdconmcgcooaaDoorPlSha
import Derived.Test.YtdbdconmcgcooaaDoorPlShaSt
import Derived.Test.YtdbdconmcgcooaaDoorPlShaB
import Derived.Test.YtdbdconmcgcooaaDoorS3
set_option linter.unusedVariables false
namespace Go.Proofs.YtdbdconmcgcooaaDoor
open Go.RowKit Go.Gx
open Go.Plain
set_option maxHeartbeats 4000000 in
set_option maxRecDepth 20000 in
theorem done_any {w : World} {m : List UInt8} {h : List W32} {rest : List UInt8} {made : Bool} (hrep : Rep m h rest) (hl : m.length ≤ 1099511627776) (hrnd : Sl w (fun k => k = 1) u32v (some ⟨1, 0, none⟩) 64 64 rk) :
    Calls Tryd.prog 60 #[.agg (stt h rest m.length made)] w fun e w' => e = .returned (.agg ((shaF m).map u8v).toArray) ∧ Ch No w w' := by
  have hn1 : 1 < w.heap.size := hrnd.size (by omega) rfl
  have hh := hrep.hlen
  have hr := hrep.len
  have hnz : nz m.length < 64 := by unfold nz; omega
  have HC : Ch No w w := Ch.refl _ _
  refine enter' (args := [.agg (stt h rest m.length made)]) (n := 64) Tryd.func60 rfl rfl rfl ?_
  refine wc_seq ?_
  refine wc_region ?_
  refine wle rfl (e_box rfl rfl rfl (fun w1 g1 hg1 hb1 hc hsz1 => ?_))
  have hzw1 := hc.size
  have HC := HC.tr hc
  have hrnd := hrnd.no hc
  have hge1 : w.heap.size ≤ g1 := by have := HC.size; omega
  have hs := hb1
  have hltg1 := hs.lt
  refine wle rfl (e_alloc (cs := ((List.replicate 32 (0 : UInt8)).map u8v).toArray) rfl (by rfl) rfl (fun w2 g2 hg2 hb2 hc hsz2 => ?_))
  have hzw2 := hc.size
  have HC := HC.tr hc
  have hrnd := hrnd.no hc
  have hs := hs.ch hc (fun h => h)
  have hge2 : w.heap.size ≤ g2 := by have := HC.size; omega
  have neg1_2 : g1 < g2 := by omega
  refine wl_nil ?_
  refine x_seq ?_
  refine wc_seq ?_
  refine wc_region ?_
  refine wl rfl rfl rfl (p_fld Tryd.underlying69 rfl ⟨_, by rfl⟩ rfl rfl) ?_
  refine wl rfl rfl rfl (p_ld Tryd.underlying3 rfl rfl (ld (hs.cell (stt_n hh hr)))) ?_
  refine wl rfl rfl rfl (p_conv Tryd.underlying3 Tryd.underlying79 rfl (wu64 (by omega))) ?_
  refine wl rfl rfl rfl (p_shl (Z := ((8 * m.length : Nat) : Int)) rfl rfl (by omega) (shl3 (by omega))) ?_
  refine wl rfl rfl rfl (p_as rfl) ?_
  refine wl_nil ?_
  refine x_seq ?_
  refine wc_seq ?_
  refine wc_region ?_
  have hltg1 := hs.lt
  have hltg2 := hb2.lt
  refine wle rfl (e_bslV (E := 5) rfl rfl (fun _ => by kernel_rfl) (fun w3 g12 hg12 hb12 hc hsz12 => ?_))
  have hzw3 := hc.size
  have HC := HC.tr hc
  have hrnd := hrnd.no hc
  have hs := hs.ch hc (fun h => h)
  have hb2 := hb2.ch hc (fun h => h)
  have hge12 : w.heap.size ≤ g12 := by have := HC.size; omega
  have hS12 := Sl.lit1 (f := u8v) (x := 128) hb12
  refine wle rfl (e_call ent59 rfl rfl (take_any hs hrep (hS12) (by intro k hk; first | omega | (dsimp only at *; omega)) (by omega) (by first | omega | (simp only [List.length_nil]; omega)) hrnd) ?_)
  rintro _ w4 ⟨rfl, hc, h13, r13, hs, hrep⟩
  refine ⟨_, rfl, ?_⟩
  have hzw4 := hc.size
  have HC := HC.trans hc (fun _ _ h => h) (fun k hk ht => absurd ht (by omega))
  first | have hrnd := hrnd.ch hc (by intro k hk ht; first | omega | (dsimp only at *; omega)) | have hrnd := hrnd.chT hc (by intro k hz hk ht; first | omega | (dsimp only at *; omega))
  have hb2 := hb2.ch hc (by omega)
  first | have hS12 := hS12.ch hc (by intro k hk ht; first | omega | (dsimp only at *; omega)) | have hS12 := hS12.chT hc (by intro k hz hk ht; first | omega | (dsimp only at *; omega))
  rw [pz_zero] at hs hrep
  refine wl_nil ?_
  refine x_seq ?_
  refine wc_seq ?_
  refine wc_block ?_
  refine wc_loop (e' := [(1, .pointer (some ⟨g1, 0, none⟩)), (2, .pointer (some ⟨g2, 0, none⟩)), (3, u64v (8 * m.length))]) (fun mz ez uz => ∃ j : Nat, mz = nz m.length - j ∧ ez = [(1, .pointer (some ⟨g1, 0, none⟩)), (2, .pointer (some ⟨g2, 0, none⟩)), (3, u64v (8 * m.length))] ∧ (j ≤ nz m.length) ∧ (∃ h1 r1, Blk uz g1 69 (stt h1 r1 (pz m j).length made) ∧ Rep (pz m j) h1 r1) ∧ (Blk uz g2 25 ((List.replicate 32 (0 : UInt8)).map u8v).toArray) ∧ (Sl uz (fun k => k = 1) u32v (some ⟨1, 0, none⟩) 64 64 rk) ∧ (Ch No w uz))
    ⟨rfl, rfl, rfl, trivial⟩ ⟨0, rfl, rfl, by omega, ⟨_, _, hs, hrep⟩, hb2, hrnd, HC⟩ ?_
  rintro m0 e w5 ⟨j, hm0, rfl, hj, hst, hb2, hrnd, HC⟩
  have hzw5 := HC.size
  obtain ⟨h1, r1, hs, hrep⟩ := hst
  have hh := hrep.hlen
  have hr := hrep.len
  have hpl := pz_len (m := m) (j := j)
  refine wc_seq ?_
  refine wc_seq ?_
  refine wc_region ?_
  refine wl rfl rfl rfl (p_fld Tryd.underlying69 rfl ⟨_, by rfl⟩ rfl rfl) ?_
  refine wl rfl rfl rfl (p_ld Tryd.underlying3 rfl rfl (ld (hs.cell (stt_n hh hr)))) ?_
  refine wl rfl rfl rfl (p_rem (Z := (((pz m j).length % 64 : Nat) : Int)) rfl rfl (by omega) rfl) ?_
  refine wl rfl rfl rfl (p_ne rfl rfl) ?_
  refine wl_nil ?_
  refine x_seq ?_
  refine wc_if rfl (fun c0 => ?_) (fun c0 => ?_)
  ·
    have c0 := of_decide_eq_true c0
    have hjn : j < nz m.length := nz_on hj (fun e => c0 (by rw [hpl, e]; rfl))
    refine wc_skip ?_
    refine x_seq ?_
    refine wc_block ?_
    refine wc_region ?_
    have hltg2 := hb2.lt
    have hltg1 := hs.lt
    refine wle rfl (e_bslV (E := 5) rfl rfl (fun _ => by kernel_rfl) (fun w6 g18 hg18 hb18 hc hsz18 => ?_))
    have hzw6 := hc.size
    have HC := HC.tr hc
    have hb2 := hb2.ch hc (fun h => h)
    have hrnd := hrnd.no hc
    have hs := hs.ch hc (fun h => h)
    have hge18 : w.heap.size ≤ g18 := by have := HC.size; omega
    have hS18 := Sl.lit1 (f := u8v) (x := 0) hb18
    refine wle rfl (e_call ent59 rfl rfl (take_any hs hrep (hS18) (by intro k hk; first | omega | (dsimp only at *; omega)) (by omega) (by first | omega | (simp only [List.length_nil]; omega)) hrnd) ?_)
    rintro _ w7 ⟨rfl, hc, h19, r19, hs, hrep⟩
    refine ⟨_, rfl, ?_⟩
    have hzw7 := hc.size
    have HC := HC.trans hc (fun _ _ h => h) (fun k hk ht => absurd ht (by omega))
    have hb2 := hb2.ch hc (by omega)
    first | have hrnd := hrnd.ch hc (by intro k hk ht; first | omega | (dsimp only at *; omega)) | have hrnd := hrnd.chT hc (by intro k hz hk ht; first | omega | (dsimp only at *; omega))
    first | have hS18 := hS18.ch hc (by intro k hk ht; first | omega | (dsimp only at *; omega)) | have hS18 := hS18.chT hc (by intro k hz hk ht; first | omega | (dsimp only at *; omega))
    rw [pz_next] at hs hrep
    refine wl_nil ?_
    refine x_in_normal ?_
    refine x_round (e' := [(1, .pointer (some ⟨g1, 0, none⟩)), (2, .pointer (some ⟨g2, 0, none⟩)), (3, u64v (8 * m.length))]) ⟨rfl, rfl, rfl, trivial⟩ (by rw [hm0]; omega) ⟨j + 1, rfl, rfl, by omega, ⟨_, _, hs, hrep⟩, hb2, hrnd, HC⟩
  ·
    have c0 := of_decide_eq_false c0
    have hjn : j = nz m.length := nz_stop hj (by rw [hpl] at c0; omega)
    subst hjn
    rw [pq_zero] at hs hrep
    refine wc_exit ?_
    refine x_then_exit ?_
    refine x_then_exit ?_
    refine x_in_here ?_
    refine x_seq ?_
    refine wc_seq ?_
    refine wc_seq ?_
    refine wc_region ?_
    refine wl rfl rfl rfl (p_as rfl) ?_
    refine wl_nil ?_
    refine x_seq ?_
    refine wc_block ?_
    refine wc_loop (e' := [(1, .pointer (some ⟨g1, 0, none⟩)), (2, .pointer (some ⟨g2, 0, none⟩)), (3, u64v (8 * m.length)), (4, i64 (56 - 8 * ((0) : Int)))]) (fun mz ez uz => ∃ k : Nat, mz = 8 - k ∧ ez = [(1, .pointer (some ⟨g1, 0, none⟩)), (2, .pointer (some ⟨g2, 0, none⟩)), (3, u64v (8 * m.length)), (4, i64 (56 - 8 * (k : Int)))] ∧ (k ≤ 8) ∧ (∃ h1 r1, Blk uz g1 69 (stt h1 r1 (pq m k).length made) ∧ Rep (pq m k) h1 r1) ∧ (Blk uz g2 25 ((List.replicate 32 (0 : UInt8)).map u8v).toArray) ∧ (Sl uz (fun k => k = 1) u32v (some ⟨1, 0, none⟩) 64 64 rk) ∧ (Ch No w uz))
      ⟨rfl, rfl, rfl, rfl, trivial⟩ ⟨0, rfl, rfl, by omega, ⟨_, _, hs, hrep⟩, hb2, hrnd, HC⟩ ?_
    rintro m1 e w8 ⟨k, hm1, rfl, hk, hst, hb2, hrnd, HC⟩
    have hzw8 := HC.size
    obtain ⟨h1, r1, hs, hrep⟩ := hst
    have hh := hrep.hlen
    have hr := hrep.len
    have hpl := pq_len (m := m) (k := k) hk
    refine wc_seq ?_
    refine wc_seq ?_
    refine wc_region ?_
    refine wl rfl rfl rfl (p_mv rfl) ?_
    refine wl rfl rfl rfl (p_ge rfl rfl) ?_
    refine wl_nil ?_
    refine x_seq ?_
    refine wc_if rfl (fun c1 => ?_) (fun c1 => ?_)
    ·
      have c1 := of_decide_eq_true c1
      refine wc_skip ?_
      refine x_seq ?_
      refine wc_seq ?_
      refine wc_block ?_
      refine wc_region ?_
      refine wl rfl rfl rfl (p_mv rfl) ?_
      refine wl rfl rfl rfl (p_mv (v := i64 ((56 - 8 * k : Nat) : Int)) (show some (i64 (56 - 8 * (k : Int))) = some (i64 ((56 - 8 * k : Nat) : Int)) from congrArg some (congrArg i64 (by omega)))) ?_
      refine wl rfl rfl rfl (p_shrN (Y := 56 - 8 * k) rfl rfl (Nat.ble_eq_true_of_le (show 56 - 8 * k ≤ 64 by omega))) ?_
      refine wl rfl rfl rfl (p_convN8 Tryd.underlying79 Tryd.underlying5 rfl) ?_
      have hltg2 := hb2.lt
      have hltg1 := hs.lt
      refine wle rfl (e_bslV (E := 5) rfl rfl (fun _ => by kernel_rfl) (fun w9 g28 hg28 hb28 hc hsz28 => ?_))
      have hzw9 := hc.size
      have HC := HC.tr hc
      have hb2 := hb2.ch hc (fun h => h)
      have hrnd := hrnd.no hc
      have hs := hs.ch hc (fun h => h)
      have hge28 : w.heap.size ≤ g28 := by have := HC.size; omega
      have hS28 := Sl.lit1 (f := u8v) hb28
      refine wle rfl (e_call ent59 rfl rfl (take_any hs hrep (hS28) (by intro k hk; first | omega | (dsimp only at *; omega)) (by omega) (by first | omega | (simp only [List.length_nil]; omega)) hrnd) ?_)
      rintro _ w10 ⟨rfl, hc, h29, r29, hs, hrep⟩
      refine ⟨_, rfl, ?_⟩
      have hzw10 := hc.size
      have HC := HC.trans hc (fun _ _ h => h) (fun k hk ht => absurd ht (by omega))
      have hb2 := hb2.ch hc (by omega)
      first | have hrnd := hrnd.ch hc (by intro k hk ht; first | omega | (dsimp only at *; omega)) | have hrnd := hrnd.chT hc (by intro k hz hk ht; first | omega | (dsimp only at *; omega))
      first | have hS28 := hS28.ch hc (by intro k hk ht; first | omega | (dsimp only at *; omega)) | have hS28 := hS28.chT hc (by intro k hz hk ht; first | omega | (dsimp only at *; omega))
      rw [pq_next (by omega)] at hs hrep
      refine wl_nil ?_
      refine x_in_normal ?_
      refine x_seq ?_
      refine wc_region ?_
      refine wl rfl rfl rfl (p_mv rfl) ?_
      refine wl rfl rfl rfl (p_sub rfl rfl (w64 (by omega))) ?_
      refine wl rfl rfl rfl (p_as rfl) ?_
      refine wl_nil ?_
      refine x_round (e' := [(1, .pointer (some ⟨g1, 0, none⟩)), (2, .pointer (some ⟨g2, 0, none⟩)), (3, u64v (8 * m.length)), (4, i64 (56 - 8 * ((k + 1) : Int)))]) ⟨rfl, rfl, rfl, (congrArg some (congrArg i64 (by omega))), trivial⟩ (by rw [hm1]; omega) ⟨k + 1, rfl, rfl, by omega, ⟨_, _, hs, hrep⟩, hb2, hrnd, HC⟩
    ·
      have c1 := of_decide_eq_false c1
      obtain rfl : k = 8 := by omega
      rw [pq_all] at hs hrep
      refine wc_exit ?_
      refine x_then_exit ?_
      refine x_then_exit ?_
      refine x_in_here ?_
      refine x_seq ?_
      refine wc_seq ?_
      refine wc_region ?_
      have hltg2 := hb2.lt
      have hltg1 := hs.lt
      refine wle rfl (e_alloc (cs := ((List.replicate 32 (0 : UInt8)).map u8v).toArray) rfl (by rfl) rfl (fun w11 g5 hg5 hb5 hc hsz5 => ?_))
      have hzw11 := hc.size
      have HC := HC.tr hc
      have hb2 := hb2.ch hc (fun h => h)
      have hrnd := hrnd.no hc
      have hs := hs.ch hc (fun h => h)
      have hge5 : w.heap.size ≤ g5 := by have := HC.size; omega
      have neg2_5 : g2 < g5 := by omega
      have neg1_5 : g1 < g5 := by omega
      refine wl_nil ?_
      refine x_seq ?_
      refine wc_seq ?_
      refine wc_seq ?_
      refine wc_region ?_
      refine wl rfl rfl rfl (p_fld Tryd.underlying69 rfl ⟨_, by rfl⟩ rfl rfl) ?_
      refine wl rfl rfl rfl (p_ldA (cs := h1.map u32v) Tryd.underlying66 rfl (szL sz66 (by rw [List.length_map]; exact hh)) rfl (fun _ e => e ▸ stt_rng hs hh)) ?_
      refine wl rfl rfl rfl (p_mv rfl) ?_
      refine wl_nil ?_
      refine x_seq ?_
      refine wc_block ?_
      refine wc_loop (e' := [(2, .pointer (some ⟨g2, 0, none⟩)), (5, .pointer (some ⟨g5, 0, none⟩)), (31, .agg (h1.map u32v).toArray), (32, i64 ((0) : Int))]) (fun mz ez uz => ∃ i : Nat, mz = 8 - i ∧ ez = [(2, .pointer (some ⟨g2, 0, none⟩)), (5, .pointer (some ⟨g5, 0, none⟩)), (31, .agg (h1.map u32v).toArray), (32, i64 (i : Int))] ∧ (i ≤ 8) ∧ (h1.length = 8) ∧ (Blk uz g5 25 ((outN h1 i).map u8v).toArray) ∧ (Blk uz g2 25 ((List.replicate 32 (0 : UInt8)).map u8v).toArray) ∧ (Ch No w uz))
        ⟨rfl, rfl, rfl, rfl, trivial⟩ ⟨0, rfl, rfl, by omega, hh, by rw [outN_zero]; exact hb5, hb2, HC⟩ ?_
      rintro m2 e w12 ⟨i, hm2, rfl, hi, hh, hb5, hb2, HC⟩
      have hzw12 := HC.size
      have hol2 := outN_len hh hi
      refine wc_seq ?_
      refine wc_region ?_
      refine wl rfl rfl rfl (p_lt rfl rfl) ?_
      refine wl_nil ?_
      refine x_seq ?_
      refine wc_seq ?_
      refine wc_if rfl (fun c2 => ?_) (fun c2 => ?_)
      ·
        have c2 := of_decide_eq_true c2
        refine wc_skip ?_
        refine x_seq ?_
        refine wc_seq ?_
        refine wc_block ?_
        refine wc_seq ?_
        refine wc_region ?_
        refine wl rfl rfl rfl (p_mv rfl) ?_
        refine wl rfl rfl rfl (p_ixG (f := u32v) (d0 := 0#32) Tryd.underlying66 Tryd.underlying29 rfl sz29 rfl rfl (by omega) (by omega) (by first | (simp; done) | (simp; omega) | omega) (Int.toNat_natCast _)) ?_
        refine wl rfl rfl rfl (p_as rfl) ?_
        refine wl rfl rfl rfl (p_as rfl) ?_
        refine wl_nil ?_
        refine x_seq ?_
        refine wc_region ?_
        refine wl rfl rfl rfl (p_mv rfl) ?_
        refine wl rfl rfl rfl (p_mul (Z := ((4 * i : Nat) : Int)) rfl rfl (by rw [w64 (by omega)]; omega)) ?_
        refine wl rfl rfl rfl (p_mv rfl) ?_
        refine wl rfl rfl rfl (p_mul (Z := ((4 * i : Nat) : Int)) rfl rfl (by rw [w64 (by omega)]; omega)) ?_
        refine wl rfl rfl rfl (p_add (Z := ((4 * i + 1 : Nat) : Int)) rfl rfl (by rw [w64 (by omega)]; omega)) ?_
        refine wl rfl rfl rfl (p_mv rfl) ?_
        refine wl rfl rfl rfl (p_mul (Z := ((4 * i : Nat) : Int)) rfl rfl (by rw [w64 (by omega)]; omega)) ?_
        refine wl rfl rfl rfl (p_add (Z := ((4 * i + 2 : Nat) : Int)) rfl rfl (by rw [w64 (by omega)]; omega)) ?_
        refine wl rfl rfl rfl (p_mv rfl) ?_
        refine wl rfl rfl rfl (p_mul (Z := ((4 * i : Nat) : Int)) rfl rfl (by rw [w64 (by omega)]; omega)) ?_
        refine wl rfl rfl rfl (p_add (Z := ((4 * i + 3 : Nat) : Int)) rfl rfl (by rw [w64 (by omega)]; omega)) ?_
        refine wl rfl rfl rfl (p_mv rfl) ?_
        refine wl rfl rfl rfl (p_shr32 (Y := 24) rfl rfl) ?_
        refine wl rfl rfl rfl (p_conv32B Tryd.underlying29 Tryd.underlying5 rfl) ?_
        refine wl rfl rfl rfl (p_mv rfl) ?_
        refine wl rfl rfl rfl (p_shr32 (Y := 16) rfl rfl) ?_
        refine wl rfl rfl rfl (p_conv32B Tryd.underlying29 Tryd.underlying5 rfl) ?_
        refine wl rfl rfl rfl (p_mv rfl) ?_
        refine wl rfl rfl rfl (p_shr32 (Y := 8) rfl rfl) ?_
        refine wl rfl rfl rfl (p_conv32B Tryd.underlying29 Tryd.underlying5 rfl) ?_
        refine wl rfl rfl rfl (p_mv rfl) ?_
        refine wl rfl rfl rfl (p_conv32B Tryd.underlying29 Tryd.underlying5 rfl) ?_
        refine wl rfl rfl rfl (p_ixA1 Tryd.underlying25 sz5 rfl rfl (by omega) (by omega) (Int.toNat_natCast _)) ?_
        refine wle rfl (e_stL one_u8 (by rfl) rfl rfl hb5 (by first | (simp; done) | (simp; omega) | omega) (fun w14 hb5 hc hsz => ?_))
        have hzw14 := hc.size
        have HC := HC.trans hc (fun _ _ h => h) (fun k hk ht => absurd ht (by omega))
        have hb2 := hb2.ch hc (by omega)
        refine wl rfl rfl rfl (p_ixA1 Tryd.underlying25 sz5 rfl rfl (by omega) (by omega) (Int.toNat_natCast _)) ?_
        refine wle rfl (e_stL one_u8 (by rfl) rfl rfl hb5 (by first | (simp; done) | (simp; omega) | omega) (fun w16 hb5 hc hsz => ?_))
        have hzw16 := hc.size
        have HC := HC.trans hc (fun _ _ h => h) (fun k hk ht => absurd ht (by omega))
        have hb2 := hb2.ch hc (by omega)
        refine wl rfl rfl rfl (p_ixA1 Tryd.underlying25 sz5 rfl rfl (by omega) (by omega) (Int.toNat_natCast _)) ?_
        refine wle rfl (e_stL one_u8 (by rfl) rfl rfl hb5 (by first | (simp; done) | (simp; omega) | omega) (fun w18 hb5 hc hsz => ?_))
        have hzw18 := hc.size
        have HC := HC.trans hc (fun _ _ h => h) (fun k hk ht => absurd ht (by omega))
        have hb2 := hb2.ch hc (by omega)
        refine wl rfl rfl rfl (p_ixA1 Tryd.underlying25 sz5 rfl rfl (by omega) (by omega) (Int.toNat_natCast _)) ?_
        refine wle rfl (e_stL one_u8 (by rfl) rfl rfl hb5 (by first | (simp; done) | (simp; omega) | omega) (fun w20 hb5 hc hsz => ?_))
        have hzw20 := hc.size
        have HC := HC.trans hc (fun _ _ h => h) (fun k hk ht => absurd ht (by omega))
        have hb2 := hb2.ch hc (by omega)
        refine wl_nil ?_
        refine x_in_normal ?_
        refine x_seq ?_
        refine wc_region ?_
        refine wl rfl rfl rfl (p_add rfl rfl (w64 (by omega))) ?_
        refine wl rfl rfl rfl (p_mv rfl) ?_
        refine wl_nil ?_
        refine x_round (e' := [(2, .pointer (some ⟨g2, 0, none⟩)), (5, .pointer (some ⟨g5, 0, none⟩)), (31, .agg (h1.map u32v).toArray), (32, i64 ((i + 1) : Int))]) ⟨rfl, rfl, rfl, rfl, trivial⟩ (by rw [hm2]; omega) ⟨i + 1, rfl, rfl, by omega, hh, by rw [← outN_next hh (by omega)]; exact hb5, hb2, HC⟩
      ·
        have c2 := of_decide_eq_false c2
        obtain rfl : i = 8 := by omega
        rw [outN_all hh] at hb5
        have hol : (outB h1).length = 32 := by rw [outB_len, hh]
        have hfin : outB h1 = shaF m := by rw [shaF, hrep.words]
        rw [hfin] at hb5 hol
        refine wc_exit ?_
        refine x_then_exit ?_
        refine x_then_exit ?_
        refine x_in_here ?_
        refine x_seq ?_
        refine wc_seq ?_
        refine wc_region ?_
        refine wl rfl rfl rfl (p_ldA (cs := _) Tryd.underlying25 rfl (szL sz25 (by rw [List.length_map]; first | assumption | (simp; done) | (simp; omega) | omega)) rfl (fun _ e => e ▸ rngL hb5)) ?_
        refine wle rfl (e_stW (vs := _) (szL sz25 (by rw [List.length_map]; exact hol)) (oneL one_u8 _) rfl rfl hb2 (by simp [hol]) (fun w21 hb2 hc hsz => ?_))
        have hzw21 := hc.size
        have HC := HC.trans hc (fun _ _ h => h) (fun k hk ht => absurd ht (by omega))
        have hb5 := hb5.ch hc (by omega)
        refine wl_nil ?_
        refine x_seq ?_
        refine wc_ret ?_
        refine fin_run (resC rfl rfl Tryd.underlying25 rfl (szL sz25 (by rw [List.length_map]; exact shaF_len m)) (rngL hb2)) ?_
        exact ⟨rfl, HC⟩
end Go.Proofs.YtdbdconmcgcooaaDoor
