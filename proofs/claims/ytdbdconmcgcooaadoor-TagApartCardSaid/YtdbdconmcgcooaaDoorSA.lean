/-
  Own text, printed by a program of mine (wip/gx): what functions of the program do, walked operation by operation.
-/
import Derived.Test.YtdbdconmcgcooaaDoorProg
import Derived.Test.YtdbdconmcgcooaaDoorGxAgg
import Derived.Test.YtdbdconmcgcooaaDoorTab
import Derived.Test.YtdbdconmcgcooaaDoorPlPack
import Derived.Test.YtdbdconmcgcooaaDoorPlSum
import Derived.Test.YtdbdconmcgcooaaDoorPlSha
import Derived.Test.YtdbdconmcgcooaaDoorPlShaSt
import Derived.Test.YtdbdconmcgcooaaDoorPlShaB
set_option linter.unusedVariables false
namespace Go.Proofs.YtdbdconmcgcooaaDoor
open Go.RowKit Go.Gx
open Go.Plain
set_option maxHeartbeats 1000000 in
set_option maxRecDepth 20000 in
theorem hex_any {w : World}  {h : List UInt8} (hh : h.length = 32) :
    Calls Tryd.prog 50 #[hv h] w fun e w' => e = .returned (.string (str (hexF h))) ∧ Ch No w w' := by
  have HC : Ch No w w := Ch.refl _ _
  refine enter' (args := [hv h]) (n := 22) Tryd.func50 rfl rfl rfl ?_
  refine wc_seq ?_
  refine wc_region ?_
  refine wle rfl (e_box (cs := (List.map u8v h).toArray) rfl rfl rfl (fun w1 g1 hg1 hb1 hc hsz1 => ?_))
  have hzw1 := hc.size
  have HC := HC.tr hc
  have hge1 : w.heap.size ≤ g1 := by have := HC.size; omega
  refine wl rfl rfl rfl (p_as rfl) ?_
  refine wl_nil ?_
  refine x_seq ?_
  refine wc_seq ?_
  refine wc_region ?_
  refine wl rfl rfl rfl (p_as rfl) ?_
  refine wl_nil ?_
  refine x_seq ?_
  refine wc_seq ?_
  refine wc_seq ?_
  refine wc_region ?_
  refine wl rfl rfl rfl (p_ldA (cs := List.map u8v h) Tryd.underlying25 rfl (szL sz25 (by rw [List.length_map]; exact hh)) rfl (fun _ e => e ▸ rngL hb1)) ?_
  refine wl rfl rfl rfl (p_mv rfl) ?_
  refine wl_nil ?_
  refine x_seq ?_
  refine wc_block ?_
  refine wc_loop (e' := [(3, .slice (none) (2 * (0)) (0)), (6, hv h), (7, i64 ((0) : Int))]) (fun mz ez uz => ∃ i : Nat, ∃ A : Option Addr, ∃ c : Nat, mz = 32 - i ∧ ez = [(3, .slice A (2 * i) c), (6, hv h), (7, i64 (i : Int))] ∧ (i ≤ 32) ∧ (Row uz (fun k => w.heap.size ≤ k) 5 1 (.slice A (2 * i) c) (2 * i) ((hexF (h.take i)).map u8v)) ∧ (Ch No w uz))
    ⟨rfl, rfl, rfl, trivial⟩ ⟨0, none, 0, rfl, rfl, by omega, Row.nil _ _ _ _, HC⟩ ?_
  rintro m0 e w2 ⟨i, A, c, hm0, rfl, hi, hW, HC⟩
  have hzw2 := HC.size
  refine wc_seq ?_
  refine wc_region ?_
  refine wl rfl rfl rfl (p_lt rfl rfl) ?_
  refine wl_nil ?_
  refine x_seq ?_
  refine wc_seq ?_
  refine wc_if rfl (fun c0 => ?_) (fun c0 => ?_)
  ·
    have c0 := of_decide_eq_true c0
    refine wc_skip ?_
    refine x_seq ?_
    refine wc_seq ?_
    refine wc_block ?_
    refine wc_seq ?_
    refine wc_region ?_
    refine wl rfl rfl rfl (p_ixG (f := u8v) (L := h) (d0 := 0) Tryd.underlying25 Tryd.underlying5 rfl sz5 rfl rfl (by omega) (by omega) (hh) (Int.toNat_natCast _)) ?_
    refine wl rfl rfl rfl (p_as rfl) ?_
    refine wl_nil ?_
    refine x_seq ?_
    refine wc_draw (.st 0 0 (.st 1 0 (.st 2 0 (.st 3 0 (.st 4 0 (.st 5 0 (.st 6 0 (.st 7 2 (.st 8 3 (.st 9 0 .nil)))))))))) 8 (by kernel_rfl) (by kernel_rfl) (by kernel_rfl) (by repeat (first | with_reducible exact pan_body | with_reducible apply pan_then | with_reducible apply pan_in)) (fun x => Ch No w2.drew x) (Ch.refl _ _) ?_
    obtain ⟨w3, ew3⟩ : ∃ x, x = w2.drew := ⟨_, rfl⟩
    rw [← ew3]
    have hc : Ch No w2 w3 := by rw [ew3]; exact Ch.drew _
    have hszw3 : w3.heap.size = w2.heap.size := by rw [ew3]; rfl
    clear ew3
    have hzw3 := hc.size
    have HC := HC.tr hc
    have hW := hW.no hc
    have hS : Ch No w3 w3 := Ch.refl _ _
    refine ws_p rfl rfl rfl rfl (p_mv rfl) ?_
    refine ws_p rfl rfl rfl rfl (p_mv rfl) ?_
    refine ws_p rfl rfl rfl rfl (p_shrN (X := (h.getD i 0).toNat) (Y := 4) rfl rfl rfl) ?_
    refine ws_p rfl rfl rfl rfl (p_ixT (s := digs) Tryd.underlying9 rfl rfl (Int.natCast_nonneg _) (by rw [Int.toNat_natCast]; exact dig_get (by have := (h.getD i 0).toNat_lt; omega))) ?_
    refine ws_p rfl rfl rfl rfl (p_mv rfl) ?_
    refine ws_p rfl rfl rfl rfl (p_and64 rfl rfl (and15 (h.getD i 0))) ?_
    refine ws_p rfl rfl rfl rfl (p_ixT (s := digs) Tryd.underlying9 rfl rfl (Int.natCast_nonneg _) (by rw [Int.toNat_natCast]; exact dig_get (Nat.mod_lt _ (by omega)))) ?_
    refine ws_e rfl rfl (e_bslV (E := 5) rfl rfl (fun _ => by kernel_rfl) (fun w4 g17 hg17 hb17 hc hsz17 => ⟨hc, ?_⟩))
    have hzw4 := hc.size
    have HC := HC.tr hc
    have hW := hW.after hc
    have hge17 : w.heap.size ≤ g17 := by have := HC.size; omega
    have hS17 := Sl.lit2 (f := u8v) hb17
    refine ws_narrow (S' := fun x => Ch No w4 x) (Ch.refl _ _) (fun x h => hc.tr h) ?_
    refine ws_l rfl rfl (e_appS rfl el22 one_u8 rfl rfl hW hS17 (by omega) (by intro k hk; first | omega | (dsimp only at *; omega)) (fun w5 A18 c18 hW hc => ?_))
    have hzw5 := hc.size
    have HC := HC.trans hc (fun _ _ h => h) (fun k hk ht => absurd ht (by first | omega | (dsimp only at *; omega)))
    first | have hS17 := hS17.ch hc (by intro k hk ht; first | omega | (dsimp only at *; omega)) | have hS17 := hS17.chT hc (by intro k hz hk ht; first | omega | (dsimp only at *; omega))
    refine ws_p rfl rfl rfl rfl (p_as rfl) ?_
    refine ws_n ?_
    refine x_in_normal ?_
    refine x_seq ?_
    refine wc_region ?_
    refine wl rfl rfl rfl (p_add rfl rfl (w64 (by omega))) ?_
    refine wl rfl rfl rfl (p_mv rfl) ?_
    refine wl_nil ?_
    refine x_round (e' := [(3, .slice (A18) (2 * (i + 1)) (c18)), (6, hv h), (7, i64 ((i + 1) : Int))]) ⟨rfl, rfl, rfl, trivial⟩ (by rw [hm0]; omega) ⟨i + 1, A18, c18, rfl, rfl, by omega, by rw [← hexF_next (by omega)]; exact hW.mono (fun k _ hk => by first | omega | (dsimp only at *; omega)), HC⟩
  ·
    have c0 := of_decide_eq_false c0
    obtain rfl : i = 32 := by omega
    rw [List.take_of_length_le (by omega)] at hW
    refine wc_exit ?_
    refine x_then_exit ?_
    refine x_then_exit ?_
    refine x_in_here ?_
    refine x_seq ?_
    refine wc_seq ?_
    refine wc_region ?_
    refine wl rfl rfl rfl (p_mv rfl) ?_
    refine wl rfl rfl rfl (p_bts Tryd.underlying22 Tryd.underlying5 Tryd.underlying9 rfl (hW.sl).len (fun _ e => e ▸ (hW.sl).rd)) ?_
    refine wl rfl rfl rfl (p_as rfl) ?_
    refine wl_nil ?_
    refine x_seq ?_
    refine wc_ret ?_
    refine fin_run (res1 rfl rfl) ?_
    exact ⟨rfl, HC⟩

set_option maxHeartbeats 1000000 in
set_option maxRecDepth 20000 in
theorem rhex_any {w : World}  {h : List UInt8} (hh : h.length = 32) :
    Calls Tryd.prog 51 #[hv h] w fun e w' => e = .returned (.string (str (hexF h))) ∧ Ch No w w' := by
  have HC : Ch No w w := Ch.refl _ _
  refine enter' (args := [hv h]) (n := 30) Tryd.func51 rfl rfl rfl ?_
  refine wc_seq ?_
  refine wc_region ?_
  refine wle rfl (e_box (cs := (List.map u8v h).toArray) rfl rfl rfl (fun w1 g1 hg1 hb1 hc hsz1 => ?_))
  have hzw1 := hc.size
  have HC := HC.tr hc
  have hge1 : w.heap.size ≤ g1 := by have := HC.size; omega
  refine wl rfl rfl rfl (p_as rfl) ?_
  refine wl_nil ?_
  refine x_seq ?_
  refine wc_seq ?_
  refine wc_region ?_
  refine wl rfl rfl rfl (p_as rfl) ?_
  refine wl_nil ?_
  refine x_seq ?_
  refine wc_seq ?_
  refine wc_region ?_
  refine wl rfl rfl rfl (p_as rfl) ?_
  refine wl_nil ?_
  refine x_seq ?_
  refine wc_seq ?_
  refine wc_seq ?_
  refine wc_region ?_
  refine wl rfl rfl rfl (p_ldA (cs := List.map u8v h) Tryd.underlying24 rfl (szL sz24 (by rw [List.length_map]; exact hh)) rfl (fun _ e => e ▸ rngL hb1)) ?_
  refine wl rfl rfl rfl (p_mv rfl) ?_
  refine wl_nil ?_
  refine x_seq ?_
  refine wc_block ?_
  refine wc_loop (e' := [(3, .string digs), (4, .string (str (hexF (h.take (0))))), (7, hv h), (8, i64 ((0) : Int))]) (fun mz ez uz => ∃ i : Nat, mz = 32 - i ∧ ez = [(3, .string digs), (4, .string (str (hexF (h.take i)))), (7, hv h), (8, i64 (i : Int))] ∧ (i ≤ 32) ∧ (Ch No w uz))
    ⟨rfl, rfl, rfl, rfl, trivial⟩ ⟨0, rfl, rfl, by omega, HC⟩ ?_
  rintro m0 e w2 ⟨i, hm0, rfl, hi, HC⟩
  have hzw2 := HC.size
  refine wc_seq ?_
  refine wc_region ?_
  refine wl rfl rfl rfl (p_lt rfl rfl) ?_
  refine wl_nil ?_
  refine x_seq ?_
  refine wc_seq ?_
  refine wc_if rfl (fun c0 => ?_) (fun c0 => ?_)
  ·
    have c0 := of_decide_eq_true c0
    refine wc_skip ?_
    refine x_seq ?_
    refine wc_seq ?_
    refine wc_block ?_
    refine wc_seq ?_
    refine wc_region ?_
    refine wl rfl rfl rfl (p_ixG (f := u8v) (L := h) (d0 := 0) Tryd.underlying24 Tryd.underlying5 rfl sz5 rfl rfl (by omega) (by omega) (hh) (Int.toNat_natCast _)) ?_
    refine wl rfl rfl rfl (p_as rfl) ?_
    refine wl_nil ?_
    refine x_seq ?_
    refine wc_draw (.st 0 0 (.st 1 0 (.st 2 0 (.st 3 0 (.st 4 0 (.st 5 0 (.st 6 0 (.st 7 0 (.st 8 0 (.st 9 0 (.st 10 0 (.st 11 0 (.st 12 0 (.st 13 0 (.st 14 0 (.st 15 0 (.st 16 0 (.st 17 0 .nil)))))))))))))))))) 18 (by kernel_rfl) (by kernel_rfl) (by kernel_rfl) (by repeat (first | with_reducible exact pan_body | with_reducible apply pan_then | with_reducible apply pan_in)) (fun x => Ch No w2.drew x) (Ch.refl _ _) ?_
    obtain ⟨w3, ew3⟩ : ∃ x, x = w2.drew := ⟨_, rfl⟩
    rw [← ew3]
    have hc : Ch No w2 w3 := by rw [ew3]; exact Ch.drew _
    have hszw3 : w3.heap.size = w2.heap.size := by rw [ew3]; rfl
    clear ew3
    have hzw3 := hc.size
    have HC := HC.tr hc
    refine ws_p rfl rfl rfl rfl (p_mv rfl) ?_
    refine ws_p rfl rfl rfl rfl (p_mv rfl) ?_
    refine ws_p rfl rfl rfl rfl (p_mv rfl) ?_
    refine ws_p rfl rfl rfl rfl (p_quo (Z := (((h.getD i 0).toNat / 16 : Nat) : Int)) rfl rfl (by omega) (by have := (h.getD i 0).toNat_lt; rw [show (((h.getD i 0).toNat : Int)).tdiv 16 = (((h.getD i 0).toNat / 16 : Nat) : Int) from rfl, wu8 (by omega)])) ?_
    refine ws_p rfl rfl rfl rfl (p_mv rfl) ?_
    refine ws_p rfl rfl rfl rfl (p_quo (Z := (((h.getD i 0).toNat / 16 : Nat) : Int)) rfl rfl (by omega) (by have := (h.getD i 0).toNat_lt; rw [show (((h.getD i 0).toNat : Int)).tdiv 16 = (((h.getD i 0).toNat / 16 : Nat) : Int) from rfl, wu8 (by omega)])) ?_
    refine ws_p rfl rfl rfl rfl (p_add (Z := (((h.getD i 0).toNat / 16 + 1 : Nat) : Int)) rfl rfl (by have := (h.getD i 0).toNat_lt; rw [wu8 (by omega)]; omega)) ?_
    refine ws_p rfl rfl rfl rfl (p_slT (s := digs) (l := ((h.getD i 0).toNat / 16)) (h := ((h.getD i 0).toNat / 16) + 1) Tryd.underlying9 rfl rfl rfl (by omega) (by have := (h.getD i 0).toNat_lt; show _ ≤ 16; omega)) ?_
    refine ws_p rfl rfl rfl rfl (p_mv rfl) ?_
    refine ws_p rfl rfl rfl rfl (p_mv rfl) ?_
    refine ws_p rfl rfl rfl rfl (p_rem (Z := (((h.getD i 0).toNat % 16 : Nat) : Int)) rfl rfl (by omega) rfl) ?_
    refine ws_p rfl rfl rfl rfl (p_mv rfl) ?_
    refine ws_p rfl rfl rfl rfl (p_rem (Z := (((h.getD i 0).toNat % 16 : Nat) : Int)) rfl rfl (by omega) rfl) ?_
    refine ws_p rfl rfl rfl rfl (p_add (Z := (((h.getD i 0).toNat % 16 + 1 : Nat) : Int)) rfl rfl (by have := (h.getD i 0).toNat_lt; rw [wu8 (by omega)]; omega)) ?_
    refine ws_p rfl rfl rfl rfl (p_slT (s := digs) (l := ((h.getD i 0).toNat % 16)) (h := ((h.getD i 0).toNat % 16) + 1) Tryd.underlying9 rfl rfl rfl (by omega) (by have := (h.getD i 0).toNat_lt; show _ ≤ 16; omega)) ?_
    refine ws_p rfl rfl rfl rfl ((p_addT rfl rfl (by simp only [str_size, List.length_take]; omega)).to (congrArg Value.string (str_add _ _))) ?_
    refine ws_p rfl rfl rfl rfl ((p_addT rfl rfl (by simp only [str_size, List.length_append, List.length_take, hexF_len]; omega)).to (congrArg Value.string (str_add _ _))) ?_
    refine ws_p rfl rfl rfl rfl (p_as rfl) ?_
    refine ws_n ?_
    refine x_in_normal ?_
    refine x_seq ?_
    refine wc_region ?_
    refine wl rfl rfl rfl (p_add rfl rfl (w64 (by omega))) ?_
    refine wl rfl rfl rfl (p_mv rfl) ?_
    refine wl_nil ?_
    have hnx := hexF_next (h := h) (i := i) (by omega)
    have hd1 := dig_cut (x := (h.getD i 0).toNat / 16) (by have := (h.getD i 0).toNat_lt; omega)
    have hd2 := dig_cut (x := (h.getD i 0).toNat % 16) (by omega)
    rw [show (2 : Nat) ^ 4 = 16 from rfl] at hnx
    refine x_round (e' := [(3, .string digs), (4, .string (str (hexF (h.take (i + 1))))), (7, hv h), (8, i64 ((i + 1) : Int))]) ⟨rfl, (congrArg (fun z => some (Value.string (str z))) (by rw [hd1, hd2]; exact hnx)), rfl, rfl, trivial⟩ (by rw [hm0]; omega) ⟨i + 1, rfl, rfl, by omega, HC⟩
  ·
    have c0 := of_decide_eq_false c0
    obtain rfl : i = 32 := by omega
    have hfin : hexF (h.take 32) = hexF h := by rw [List.take_of_length_le (by omega)]
    refine wc_exit ?_
    refine x_then_exit ?_
    refine x_then_exit ?_
    refine x_in_here ?_
    refine x_seq ?_
    refine wc_seq ?_
    refine wc_region ?_
    refine wl rfl rfl rfl (p_mv rfl) ?_
    refine wl rfl rfl rfl (p_as rfl) ?_
    refine wl_nil ?_
    refine x_seq ?_
    refine wc_ret ?_
    refine fin_run (res1 rfl rfl) ?_
    rw [hfin]; exact ⟨rfl, HC⟩

set_option maxHeartbeats 1000000 in
set_option maxRecDepth 20000 in
theorem digit_any {w : World} {c : UInt8}  :
    Calls Tryd.prog 72 #[u8v c] w fun e w' => e = .returned (.tuple #[u8v (UInt8.ofNat ((ung c).getD 0)), .bool (ung c).isSome]) ∧ Ch No w w' := by
  have HC : Ch No w w := Ch.refl _ _
  refine enter' (args := [u8v c]) (n := 15) Tryd.func72 rfl rfl rfl ?_
  refine wc_seq ?_
  refine wc_region ?_
  refine wl rfl rfl rfl (p_as rfl) ?_
  refine wl rfl rfl rfl (p_as rfl) ?_
  refine wl_nil ?_
  refine x_seq ?_
  refine wc_seq ?_
  refine wc_seq ?_
  refine wc_region ?_
  refine wl rfl rfl rfl (p_mv rfl) ?_
  refine wl_nil ?_
  refine x_seq ?_
  refine wc_block ?_
  refine wc_loop (e' := [(0, u8v c), (5, i64 ((0) : Int))]) (fun mz ez uz => ∃ k : Nat, mz = 16 - k ∧ ez = [(0, u8v c), (5, i64 (k : Int))] ∧ (k ≤ 16) ∧ (∀ j, j < k → dgt j ≠ c) ∧ (Ch No w uz))
    ⟨rfl, rfl, trivial⟩ ⟨0, rfl, rfl, by omega, (fun j hj => by omega), HC⟩ ?_
  rintro m0 e w1 ⟨k, hm0, rfl, hk, hno, HC⟩
  have hzw1 := HC.size
  refine wc_seq ?_
  refine wc_region ?_
  refine wl rfl rfl rfl (p_lt rfl rfl) ?_
  refine wl_nil ?_
  refine x_seq ?_
  refine wc_seq ?_
  refine wc_if rfl (fun c0 => ?_) (fun c0 => ?_)
  ·
    have c0 := of_decide_eq_true c0
    refine wc_skip ?_
    refine x_seq ?_
    refine wc_seq ?_
    refine wc_block ?_
    refine wc_seq ?_
    refine wc_region ?_
    refine wl rfl rfl rfl (p_mv rfl) ?_
    refine wl rfl rfl rfl (p_as rfl) ?_
    refine wl_nil ?_
    refine x_seq ?_
    refine wc_seq ?_
    refine wc_region ?_
    refine wl rfl rfl rfl (p_mv rfl) ?_
    refine wl rfl rfl rfl (p_ixT (s := digs) Tryd.underlying9 rfl rfl (by omega) (by rw [Int.toNat_natCast]; exact dig_get (by omega))) ?_
    refine wl rfl rfl rfl (p_mv rfl) ?_
    refine wl rfl rfl rfl (p_eq rfl rfl) ?_
    refine wl_nil ?_
    refine x_seq ?_
    refine wc_if rfl (fun c1 => ?_) (fun c1 => ?_)
    ·
      have c1 := of_decide_eq_true c1
      have hu : ung c = some k := by rw [← UInt8.toNat_inj.1 (show (dgt k).toNat = c.toNat by omega)]; exact ung_dgt (by omega)
      rw [hu]
      refine wc_seq ?_
      refine wc_region ?_
      refine wl rfl rfl rfl (p_mv rfl) ?_
      refine wl rfl rfl rfl (p_convN8 Tryd.underlying3 Tryd.underlying5 rfl) ?_
      refine wl rfl rfl rfl (p_as rfl) ?_
      refine wl rfl rfl rfl (p_as rfl) ?_
      refine wl_nil ?_
      refine x_seq ?_
      refine wc_ret ?_
      refine x_in_ret ?_
      refine x_then_ret ?_
      refine x_then_ret ?_
      refine x_in_ret ?_
      refine x_then_ret ?_
      refine fin_run (res2 rfl rfl rfl) ?_
      exact ⟨rfl, HC⟩
    ·
      have c1 := of_decide_eq_false c1
      have hne : dgt k ≠ c := fun h => c1 (by rw [h])
      have hno : ∀ j, j < k + 1 → dgt j ≠ c := fun j hj => by rcases Nat.lt_or_ge j k with h | h; exact hno j h; (obtain rfl : j = k := (by omega)); exact hne
      refine wc_skip ?_
      refine x_in_normal ?_
      refine x_seq ?_
      refine wc_region ?_
      refine wl rfl rfl rfl (p_add rfl rfl (w64 (by omega))) ?_
      refine wl rfl rfl rfl (p_mv rfl) ?_
      refine wl_nil ?_
      refine x_round (e' := [(0, u8v c), (5, i64 ((k + 1) : Int))]) ⟨rfl, rfl, trivial⟩ (by rw [hm0]; omega) ⟨k + 1, rfl, rfl, by omega, hno, HC⟩
  ·
    have c0 := of_decide_eq_false c0
    obtain rfl : k = 16 := by omega
    rw [ung_none hno]
    refine wc_exit ?_
    refine x_then_exit ?_
    refine x_then_exit ?_
    refine x_in_here ?_
    refine x_seq ?_
    refine wc_seq ?_
    refine wc_region ?_
    refine wl rfl rfl rfl (p_as rfl) ?_
    refine wl rfl rfl rfl (p_as rfl) ?_
    refine wl_nil ?_
    refine x_seq ?_
    refine wc_ret ?_
    refine fin_run (res2 rfl rfl rfl) ?_
    exact ⟨rfl, HC⟩

set_option maxHeartbeats 1000000 in
set_option maxRecDepth 20000 in
theorem rdigit_any {w : World} {c : UInt8}  :
    Calls Tryd.prog 73 #[u8v c] w fun e w' => e = .returned (i64 (ungI c)) ∧ Ch No w w' := by
  have hcl := c.toNat_lt
  have HC : Ch No w w := Ch.refl _ _
  refine enter' (args := [u8v c]) (n := 24) Tryd.func73 rfl rfl rfl ?_
  refine wc_seq ?_
  refine wc_region ?_
  refine wl rfl rfl rfl (p_as rfl) ?_
  refine wl_nil ?_
  refine x_seq ?_
  refine wc_seq ?_
  refine wc_block ?_
  refine wc_seq ?_
  refine wc_region ?_
  refine wl rfl rfl rfl (p_mv rfl) ?_
  refine wl rfl rfl rfl (p_ge rfl rfl) ?_
  refine wl rfl rfl rfl (p_mv rfl) ?_
  refine wl_split (d := 6) rfl (fun q6 => ?_) (fun q6 => ?_)
  ·
    have q6 := of_decide_eq_true q6
    refine wl_g (gd_ rfl rfl rfl rfl rfl rfl) rfl rfl (p_mv rfl) ?_
    refine wl_g (gd_ rfl rfl rfl rfl rfl rfl) rfl rfl (p_le rfl rfl) ?_
    refine wl rfl rfl rfl (p_pickT rfl rfl) ?_
    refine wl rfl rfl rfl (p_as rfl) ?_
    refine wl_nil ?_
    refine x_seq ?_
    refine wc_if rfl (fun c0 => ?_) (fun c0 => ?_)
    ·
      have c0 := of_decide_eq_true c0
      refine wc_seq ?_
      refine wc_region ?_
      refine wl rfl rfl rfl (p_mv rfl) ?_
      refine wl rfl rfl rfl (p_sub (Z := ((c.toNat - 48 : Nat) : Int)) rfl rfl (by rw [wu8 (by omega)]; omega)) ?_
      refine wl rfl rfl rfl (p_conv Tryd.underlying5 Tryd.underlying3 rfl (w64 (by omega))) ?_
      refine wl rfl rfl rfl (p_as rfl) ?_
      refine wl_nil ?_
      refine x_seq ?_
      refine wc_ret ?_
      refine x_in_ret ?_
      refine x_then_ret ?_
      refine fin_run (res1 rfl rfl) ?_
      first
        | (rw [ungI_some (ung_low (c := c) (by omega) (by omega))]; exact ⟨rfl, HC⟩)
        | (rw [ungI_some (ung_high (c := c) (by omega) (by omega))]; exact ⟨rfl, HC⟩)
        | (rw [ungI_none (ung_out (c := c) (by omega) (by omega))]; exact ⟨rfl, HC⟩)
    ·
      have c0 := of_decide_eq_false c0
      refine wc_seq ?_
      refine wc_region ?_
      refine wl rfl rfl rfl (p_mv rfl) ?_
      refine wl rfl rfl rfl (p_ge rfl rfl) ?_
      refine wl rfl rfl rfl (p_mv rfl) ?_
      refine wl_split (d := 16) rfl (fun q16 => ?_) (fun q16 => ?_)
      ·
        have q16 := of_decide_eq_true q16
        refine wl_g (gd_ rfl rfl rfl rfl rfl rfl) rfl rfl (p_mv rfl) ?_
        refine wl_g (gd_ rfl rfl rfl rfl rfl rfl) rfl rfl (p_le rfl rfl) ?_
        refine wl rfl rfl rfl (p_pickT rfl rfl) ?_
        refine wl rfl rfl rfl (p_as rfl) ?_
        refine wl_nil ?_
        refine x_seq ?_
        refine wc_if rfl (fun c1 => ?_) (fun c1 => ?_)
        ·
          have c1 := of_decide_eq_true c1
          refine wc_seq ?_
          refine wc_region ?_
          refine wl rfl rfl rfl (p_mv rfl) ?_
          refine wl rfl rfl rfl (p_sub (Z := ((c.toNat - 97 : Nat) : Int)) rfl rfl (by rw [wu8 (by omega)]; omega)) ?_
          refine wl rfl rfl rfl (p_conv Tryd.underlying5 Tryd.underlying3 rfl (w64 (by omega))) ?_
          refine wl rfl rfl rfl (p_add (Z := ((c.toNat - 87 : Nat) : Int)) rfl rfl (by rw [w64 (by omega)]; omega)) ?_
          refine wl rfl rfl rfl (p_as rfl) ?_
          refine wl_nil ?_
          refine x_seq ?_
          refine wc_ret ?_
          refine x_in_ret ?_
          refine x_then_ret ?_
          refine fin_run (res1 rfl rfl) ?_
          first
            | (rw [ungI_some (ung_low (c := c) (by omega) (by omega))]; exact ⟨rfl, HC⟩)
            | (rw [ungI_some (ung_high (c := c) (by omega) (by omega))]; exact ⟨rfl, HC⟩)
            | (rw [ungI_none (ung_out (c := c) (by omega) (by omega))]; exact ⟨rfl, HC⟩)
        ·
          have c1 := of_decide_eq_false c1
          refine wc_skip ?_
          refine x_in_normal ?_
          refine x_seq ?_
          refine wc_seq ?_
          refine wc_region ?_
          refine wl rfl rfl rfl (p_as rfl) ?_
          refine wl_nil ?_
          refine x_seq ?_
          refine wc_ret ?_
          refine fin_run (res1 rfl rfl) ?_
          first
            | (rw [ungI_some (ung_low (c := c) (by omega) (by omega))]; exact ⟨rfl, HC⟩)
            | (rw [ungI_some (ung_high (c := c) (by omega) (by omega))]; exact ⟨rfl, HC⟩)
            | (rw [ungI_none (ung_out (c := c) (by omega) (by omega))]; exact ⟨rfl, HC⟩)
      ·
        have q16 := of_decide_eq_false q16
        refine wl_s (gd_ rfl rfl rfl rfl rfl rfl) rfl rfl ?_
        refine wl_s (gd_ rfl rfl rfl rfl rfl rfl) rfl rfl ?_
        refine wl rfl rfl rfl (p_pickF rfl rfl) ?_
        refine wl rfl rfl rfl (p_as rfl) ?_
        refine wl_nil ?_
        refine x_seq ?_
        refine wc_no rfl (rfl) ?_
        refine wc_skip ?_
        refine x_in_normal ?_
        refine x_seq ?_
        refine wc_seq ?_
        refine wc_region ?_
        refine wl rfl rfl rfl (p_as rfl) ?_
        refine wl_nil ?_
        refine x_seq ?_
        refine wc_ret ?_
        refine fin_run (res1 rfl rfl) ?_
        first
          | (rw [ungI_some (ung_low (c := c) (by omega) (by omega))]; exact ⟨rfl, HC⟩)
          | (rw [ungI_some (ung_high (c := c) (by omega) (by omega))]; exact ⟨rfl, HC⟩)
          | (rw [ungI_none (ung_out (c := c) (by omega) (by omega))]; exact ⟨rfl, HC⟩)
  ·
    have q6 := of_decide_eq_false q6
    refine wl_s (gd_ rfl rfl rfl rfl rfl rfl) rfl rfl ?_
    refine wl_s (gd_ rfl rfl rfl rfl rfl rfl) rfl rfl ?_
    refine wl rfl rfl rfl (p_pickF rfl rfl) ?_
    refine wl rfl rfl rfl (p_as rfl) ?_
    refine wl_nil ?_
    refine x_seq ?_
    refine wc_no rfl (rfl) ?_
    refine wc_seq ?_
    refine wc_region ?_
    refine wl rfl rfl rfl (p_mv rfl) ?_
    refine wl rfl rfl rfl (p_ge rfl rfl) ?_
    refine wl rfl rfl rfl (p_mv rfl) ?_
    refine wl_split (d := 16) rfl (fun q16 => ?_) (fun q16 => ?_)
    ·
      have q16 := of_decide_eq_true q16
      refine wl_g (gd_ rfl rfl rfl rfl rfl rfl) rfl rfl (p_mv rfl) ?_
      refine wl_g (gd_ rfl rfl rfl rfl rfl rfl) rfl rfl (p_le rfl rfl) ?_
      refine wl rfl rfl rfl (p_pickT rfl rfl) ?_
      refine wl rfl rfl rfl (p_as rfl) ?_
      refine wl_nil ?_
      refine x_seq ?_
      refine wc_if rfl (fun c1 => ?_) (fun c1 => ?_)
      ·
        have c1 := of_decide_eq_true c1
        refine wc_seq ?_
        refine wc_region ?_
        refine wl rfl rfl rfl (p_mv rfl) ?_
        refine wl rfl rfl rfl (p_sub (Z := ((c.toNat - 97 : Nat) : Int)) rfl rfl (by rw [wu8 (by omega)]; omega)) ?_
        refine wl rfl rfl rfl (p_conv Tryd.underlying5 Tryd.underlying3 rfl (w64 (by omega))) ?_
        refine wl rfl rfl rfl (p_add (Z := ((c.toNat - 87 : Nat) : Int)) rfl rfl (by rw [w64 (by omega)]; omega)) ?_
        refine wl rfl rfl rfl (p_as rfl) ?_
        refine wl_nil ?_
        refine x_seq ?_
        refine wc_ret ?_
        refine x_in_ret ?_
        refine x_then_ret ?_
        refine fin_run (res1 rfl rfl) ?_
        first
          | (rw [ungI_some (ung_low (c := c) (by omega) (by omega))]; exact ⟨rfl, HC⟩)
          | (rw [ungI_some (ung_high (c := c) (by omega) (by omega))]; exact ⟨rfl, HC⟩)
          | (rw [ungI_none (ung_out (c := c) (by omega) (by omega))]; exact ⟨rfl, HC⟩)
      ·
        have c1 := of_decide_eq_false c1
        refine wc_skip ?_
        refine x_in_normal ?_
        refine x_seq ?_
        refine wc_seq ?_
        refine wc_region ?_
        refine wl rfl rfl rfl (p_as rfl) ?_
        refine wl_nil ?_
        refine x_seq ?_
        refine wc_ret ?_
        refine fin_run (res1 rfl rfl) ?_
        first
          | (rw [ungI_some (ung_low (c := c) (by omega) (by omega))]; exact ⟨rfl, HC⟩)
          | (rw [ungI_some (ung_high (c := c) (by omega) (by omega))]; exact ⟨rfl, HC⟩)
          | (rw [ungI_none (ung_out (c := c) (by omega) (by omega))]; exact ⟨rfl, HC⟩)
    ·
      have q16 := of_decide_eq_false q16
      refine wl_s (gd_ rfl rfl rfl rfl rfl rfl) rfl rfl ?_
      refine wl_s (gd_ rfl rfl rfl rfl rfl rfl) rfl rfl ?_
      refine wl rfl rfl rfl (p_pickF rfl rfl) ?_
      refine wl rfl rfl rfl (p_as rfl) ?_
      refine wl_nil ?_
      refine x_seq ?_
      refine wc_no rfl (rfl) ?_
      refine wc_skip ?_
      refine x_in_normal ?_
      refine x_seq ?_
      refine wc_seq ?_
      refine wc_region ?_
      refine wl rfl rfl rfl (p_as rfl) ?_
      refine wl_nil ?_
      refine x_seq ?_
      refine wc_ret ?_
      refine fin_run (res1 rfl rfl) ?_
      first
        | (rw [ungI_some (ung_low (c := c) (by omega) (by omega))]; exact ⟨rfl, HC⟩)
        | (rw [ungI_some (ung_high (c := c) (by omega) (by omega))]; exact ⟨rfl, HC⟩)
        | (rw [ungI_none (ung_out (c := c) (by omega) (by omega))]; exact ⟨rfl, HC⟩)
end Go.Proofs.YtdbdconmcgcooaaDoor
