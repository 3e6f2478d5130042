/-
  Own text, printed by a program of mine (wip/gx): what functions of the program do, walked operation by operation.
-/
import Derived.Test.YtdbdconmcgcooaaDoorProg
import Derived.Test.YtdbdconmcgcooaaDoorGxAux
import Derived.Test.YtdbdconmcgcooaaDoorTab
import Derived.Test.YtdbdconmcgcooaaDoorPlPack
set_option linter.unusedVariables false
namespace Go.Proofs.YtdbdconmcgcooaaDoor
open Go.RowKit Go.Gx
open Go.Plain
set_option maxHeartbeats 1000000 in
set_option maxRecDepth 20000 in
theorem getnum_any {w : World} {Ab : Option Addr} {lb cb : Nat} {Fb : Nat → Prop} {b : List UInt8} (hb : Sl w Fb u8v Ab lb cb b) (hl : lb ≤ 140737488355328) :
    Calls Tryd.prog 66 #[.slice Ab lb cb] w fun e w' => e = .returned (.tuple #[u64v (gnv b), i64 (gnk b : Int), .bool (gno b)]) ∧ Ch No w w' := by
  have hbl := hb.len
  have hx0 := (b.getD 0 0).toNat_lt
  have hx1 := (b.getD 1 0).toNat_lt
  have hb := hb.old
  have HC : Ch No w w := Ch.refl _ _
  refine enter' (args := [.slice Ab lb cb]) (n := 59) Tryd.func66 rfl rfl rfl ?_
  refine wc_seq ?_
  refine wc_region ?_
  refine wl rfl rfl rfl (p_as rfl) ?_
  refine wl rfl rfl rfl (p_as rfl) ?_
  refine wl rfl rfl rfl (p_as rfl) ?_
  refine wl_nil ?_
  refine x_seq ?_
  refine wc_seq ?_
  refine wc_seq ?_
  refine wc_region ?_
  refine wl rfl rfl rfl (p_mv rfl) ?_
  refine wl rfl rfl rfl (p_lenS Tryd.underlying22 rfl) ?_
  refine wl rfl rfl rfl (p_eq rfl rfl) ?_
  refine wl_nil ?_
  refine x_seq ?_
  refine wc_if rfl (fun c0 => ?_) (fun c0 => ?_)
  ·
    have c0 := of_decide_eq_true c0
    have eg : gn b = none := by unfold gn; rw [if_pos (by omega)]
    refine wc_seq ?_
    refine wc_region ?_
    refine wl rfl rfl rfl (p_as rfl) ?_
    refine wl rfl rfl rfl (p_as rfl) ?_
    refine wl rfl rfl rfl (p_as rfl) ?_
    refine wl_nil ?_
    refine x_seq ?_
    refine wc_ret ?_
    refine x_then_ret ?_
    refine fin_run (res3 rfl rfl rfl rfl) ?_
    first
      | (obtain ⟨e1, e2, e3⟩ := gn_none eg; rw [e1, e2, e3]; exact ⟨rfl, HC⟩)
      | (obtain ⟨e1, e2, e3⟩ := gn_some eg; rw [e1, e2, e3]; exact ⟨rfl, HC⟩)
  ·
    have c0 := of_decide_eq_false c0
    refine wc_skip ?_
    refine x_seq ?_
    refine wc_seq ?_
    refine wc_seq ?_
    refine wc_region ?_
    refine wl rfl rfl rfl (p_mv rfl) ?_
    obtain ⟨b1, o1, hA1, hF1, hc1⟩ := (hb).opn (d := 0) (by omega)
    refine wl rfl rfl rfl (p_ixS1 (j := 0) Tryd.underlying22 sz5 rfl hA1 rfl (by omega) (by omega) rfl) ?_
    refine wl rfl rfl rfl (p_ld Tryd.underlying5 rfl rfl (ld (hc1 _ (by omega)))) ?_
    refine wl rfl rfl rfl (p_lt rfl rfl) ?_
    refine wl_nil ?_
    refine x_seq ?_
    refine wc_if rfl (fun c1 => ?_) (fun c1 => ?_)
    ·
      have c1 := of_decide_eq_true c1
      have eg : gn b = some ((b.getD 0 0).toNat, 1) := by unfold gn; rw [if_neg (by omega), if_pos (by omega)]
      refine wc_seq ?_
      refine wc_region ?_
      refine wl rfl rfl rfl (p_mv rfl) ?_
      obtain ⟨b2, o2, hA2, hF2, hc2⟩ := (hb).opn (d := 0) (by omega)
      refine wl rfl rfl rfl (p_ixS1 (j := 0) Tryd.underlying22 sz5 rfl hA2 rfl (by omega) (by omega) rfl) ?_
      refine wl rfl rfl rfl (p_ld Tryd.underlying5 rfl rfl (ld (hc2 _ (by omega)))) ?_
      refine wl rfl rfl rfl (p_conv Tryd.underlying5 Tryd.underlying79 rfl (wB_u64 _)) ?_
      refine wl rfl rfl rfl (p_as rfl) ?_
      refine wl rfl rfl rfl (p_as rfl) ?_
      refine wl rfl rfl rfl (p_as rfl) ?_
      refine wl_nil ?_
      refine x_seq ?_
      refine wc_ret ?_
      refine x_then_ret ?_
      refine fin_run (res3 rfl rfl rfl rfl) ?_
      first
        | (obtain ⟨e1, e2, e3⟩ := gn_none eg; rw [e1, e2, e3]; exact ⟨rfl, HC⟩)
        | (obtain ⟨e1, e2, e3⟩ := gn_some eg; rw [e1, e2, e3]; exact ⟨rfl, HC⟩)
    ·
      have c1 := of_decide_eq_false c1
      obtain ⟨k, hk⟩ : ∃ k, k = (b.getD 0 0).toNat - 247 := ⟨_, rfl⟩
      have hk9 : k ≤ 8 := by omega
      have hk1 : 1 ≤ k := by omega
      refine wc_skip ?_
      refine x_seq ?_
      refine wc_seq ?_
      refine wc_region ?_
      refine wle rfl (e_alloc (cs := ((List.replicate 8 (0 : UInt8)).map u8v).toArray) rfl (by rfl) rfl (fun w3 g5 hg5 hb5 hc hsz5 => ?_))
      have hzw3 := hc.size
      have HC := HC.tr hc
      have hb := hb.no hc
      have hge5 : w.heap.size ≤ g5 := by have := HC.size; omega
      refine wl_nil ?_
      refine x_seq ?_
      refine wc_seq ?_
      refine wc_region ?_
      refine wl rfl rfl rfl (p_mv rfl) ?_
      obtain ⟨b4, o4, hA4, hF4, hc4⟩ := (hb).opn (d := 0) (by omega)
      refine wl rfl rfl rfl (p_ixS1 (j := 0) Tryd.underlying22 sz5 rfl hA4 rfl (by omega) (by omega) rfl) ?_
      refine wl rfl rfl rfl (p_ld Tryd.underlying5 rfl rfl (ld (hc4 _ (by omega)))) ?_
      refine wl rfl rfl rfl (p_sub rfl rfl (wu8 (by omega))) ?_
      refine wl rfl rfl rfl (p_conv Tryd.underlying5 Tryd.underlying3 rfl (show IntKind.i64.wrap (((b.getD 0 0).toNat : Int) - 247) = ((k : Nat) : Int) from by rw [w64 (by omega)]; omega)) ?_
      refine wl rfl rfl rfl (p_as rfl) ?_
      refine wl_nil ?_
      refine x_seq ?_
      refine wc_seq ?_
      refine wc_seq ?_
      refine wc_region ?_
      refine wl rfl rfl rfl (p_mv rfl) ?_
      refine wl rfl rfl rfl (p_lenS Tryd.underlying22 rfl) ?_
      refine wl rfl rfl rfl (p_mv rfl) ?_
      refine wl rfl rfl rfl (p_le rfl rfl) ?_
      refine wl rfl rfl rfl (p_mv rfl) ?_
      refine wl_split (d := 30) rfl (fun q30 => ?_) (fun q30 => ?_)
      ·
        have q30 := of_decide_eq_true q30
        have eg : gn b = none := by unfold gn; rw [if_neg (by omega), if_neg (by omega), if_pos (.inl (by omega))]
        refine wl_s (gd_ rfl rfl rfl rfl rfl rfl) rfl rfl ?_
        refine wl_s (gd_ rfl rfl rfl rfl rfl rfl) rfl rfl ?_
        refine wl_s (gd_ rfl rfl rfl rfl rfl rfl) rfl rfl ?_
        refine wl_s (gd_ rfl rfl rfl rfl rfl rfl) rfl rfl ?_
        refine wl rfl rfl rfl (p_pickT rfl rfl) ?_
        refine wl_nil ?_
        refine x_seq ?_
        refine wc_yes rfl (rfl) ?_
        refine wc_seq ?_
        refine wc_region ?_
        refine wl rfl rfl rfl (p_as rfl) ?_
        refine wl rfl rfl rfl (p_as rfl) ?_
        refine wl rfl rfl rfl (p_as rfl) ?_
        refine wl_nil ?_
        refine x_seq ?_
        refine wc_ret ?_
        refine x_then_ret ?_
        refine fin_run (res3 rfl rfl rfl rfl) ?_
        first
          | (obtain ⟨e1, e2, e3⟩ := gn_none eg; rw [e1, e2, e3]; exact ⟨rfl, HC⟩)
          | (obtain ⟨e1, e2, e3⟩ := gn_some eg; rw [e1, e2, e3]; exact ⟨rfl, HC⟩)
      ·
        have q30 := of_decide_eq_false q30
        refine wl_g (gd_ rfl rfl rfl rfl rfl rfl) rfl rfl (p_mv rfl) ?_
        obtain ⟨b5, o5, hA5, hF5, hc5⟩ := (hb).opn (d := 0) (by omega)
        refine wl_g (gd_ rfl rfl rfl rfl rfl rfl) rfl rfl (p_ixS1 (j := 1) Tryd.underlying22 sz5 rfl hA5 rfl (by omega) (by omega) rfl) ?_
        refine wl_g (gd_ rfl rfl rfl rfl rfl rfl) rfl rfl (p_ld Tryd.underlying5 rfl rfl (ld (hc5 _ (by omega)))) ?_
        refine wl_g (gd_ rfl rfl rfl rfl rfl rfl) rfl rfl (p_eq rfl rfl) ?_
        refine wl rfl rfl rfl (p_pickF rfl rfl) ?_
        refine wl_nil ?_
        refine x_seq ?_
        refine wc_if rfl (fun c2 => ?_) (fun c2 => ?_)
        ·
          have c2 := of_decide_eq_true c2
          have eg : gn b = none := by unfold gn; rw [if_neg (by omega), if_neg (by omega), if_pos (.inr (by omega))]
          refine wc_seq ?_
          refine wc_region ?_
          refine wl rfl rfl rfl (p_as rfl) ?_
          refine wl rfl rfl rfl (p_as rfl) ?_
          refine wl rfl rfl rfl (p_as rfl) ?_
          refine wl_nil ?_
          refine x_seq ?_
          refine wc_ret ?_
          refine x_then_ret ?_
          refine fin_run (res3 rfl rfl rfl rfl) ?_
          first
            | (obtain ⟨e1, e2, e3⟩ := gn_none eg; rw [e1, e2, e3]; exact ⟨rfl, HC⟩)
            | (obtain ⟨e1, e2, e3⟩ := gn_some eg; rw [e1, e2, e3]; exact ⟨rfl, HC⟩)
        ·
          have c2 := of_decide_eq_false c2
          have hnn : ¬ (b.length ≤ (b.getD 0 0).toNat - 247 ∨ (b.getD 1 0).toNat = 0) := by omega
          have hyl : ((b.drop 1).take k).length = k := by rw [List.length_take, List.length_drop]; omega
          refine wc_skip ?_
          refine x_seq ?_
          refine wc_seq ?_
          refine wc_draw [(0, 0), (1, 0), (2, 0), (3, 0), (4, 0), (5, 0), (6, 0), (7, 3)] 7 (by kernel_rfl) (by kernel_rfl) (by kernel_rfl) (by repeat (first | with_reducible exact pan_body | with_reducible apply pan_then | with_reducible apply pan_in)) (fun x => Ch No w3.drew x) (Ch.refl _ _) ?_
          obtain ⟨w6, ew6⟩ : ∃ x, x = w3.drew := ⟨_, rfl⟩
          rw [← ew6]
          have hc : Ch No w3 w6 := by rw [ew6]; exact Ch.drew _
          have hszw6 : w6.heap.size = w3.heap.size := by rw [ew6]; rfl
          clear ew6
          have hzw6 := hc.size
          have HC := HC.tr hc
          have hb := hb.no hc
          have hb5 := hb5.ch hc (fun h => h)
          refine ws_p rfl rfl rfl rfl (p_mv rfl) ?_
          refine ws_p rfl rfl rfl rfl (p_sub rfl rfl (show IntKind.i64.wrap (8 - (k : Int)) = ((8 - k : Nat) : Int) from by rw [w64 (by omega)]; omega)) ?_
          refine ws_p rfl rfl rfl rfl (p_slA1 (l := 8 - k) (h := 8) Tryd.underlying88 sz5 rfl ⟨_, rfl⟩ rfl (by omega) (by omega) (by omega)) ?_
          refine ws_p rfl rfl rfl rfl (p_mv rfl) ?_
          refine ws_p rfl rfl rfl rfl (p_mv rfl) ?_
          refine ws_p rfl rfl rfl rfl (p_add rfl rfl (show IntKind.i64.wrap (1 + (k : Int)) = ((1 + k : Nat) : Int) from by rw [w64 (by omega)]; omega)) ?_
          have hS42 := hb.cut (lo := 1) (hi := 1 + k) (q := k) (by omega) (by omega) (by omega)
          refine ws_p rfl rfl rfl rfl (p_slS (l := 1) (h := 1 + k) Tryd.underlying22 sz5 rfl ⟨_, rfl⟩ ⟨_, rfl⟩ (by omega) (by have := hb.cap; omega) hb.cap (q := k) (by omega)) ?_
          refine ws_l rfl rfl (e_copy rfl Tryd.underlying22 sz5 one_u8 rfl rfl hb5 hS42 (by first | (simp; done) | (simp; omega) | omega) (fun w7 hb5 hc hsz => ?_))
          have hzw7 := hc.size
          have HC := HC.trans hc (fun _ _ h => h) (fun k hk ht => absurd ht (by omega))
          first | have hb := hb.ch hc (by intro k hk ht; first | omega | (dsimp only at *; omega)) | have hb := hb.chT hc (by intro k hz hk ht; first | omega | (dsimp only at *; omega))
          first | have hS42 := hS42.ch hc (by intro k hk ht; first | omega | (dsimp only at *; omega)) | have hS42 := hS42.chT hc (by intro k hz hk ht; first | omega | (dsimp only at *; omega))
          rw [splice8 hk9 hyl _ (by omega)] at hb5
          have hZ : (List.replicate (8 - k) (0 : UInt8) ++ ((b.drop 1).take k)).length = 8 := by rw [List.length_append, List.length_replicate, hyl]; omega
          refine ws_n ?_
          refine x_seq ?_
          refine wc_seq ?_
          refine wc_region ?_
          refine wl rfl rfl rfl (p_as rfl) ?_
          refine wl_nil ?_
          refine x_seq ?_
          refine wc_seq ?_
          refine wc_seq ?_
          refine wc_region ?_
          refine wl rfl rfl rfl (p_ldA (cs := _) Tryd.underlying88 rfl (szL sz88 (by rw [List.length_map]; first | assumption | (simp; done) | (simp; omega) | omega)) rfl (fun _ e => e ▸ rngL hb5)) ?_
          refine wl rfl rfl rfl (p_mv rfl) ?_
          refine wl_nil ?_
          refine x_seq ?_
          refine wc_block ?_
          refine wc_loop (e' := [(0, .slice Ab lb cb), (6, i64 (k : Int)), (7, u64v (val ((List.replicate (8 - k) (0 : UInt8) ++ ((b.drop 1).take k)).take (0)))), (44, .agg ((List.replicate (8 - k) (0 : UInt8) ++ ((b.drop 1).take k)).map u8v).toArray), (45, i64 ((0) : Int))]) (fun m e u => ∃ j : Nat, m = 8 - j ∧ e = [(0, .slice Ab lb cb), (6, i64 (k : Int)), (7, u64v (val ((List.replicate (8 - k) (0 : UInt8) ++ ((b.drop 1).take k)).take j))), (44, .agg ((List.replicate (8 - k) (0 : UInt8) ++ ((b.drop 1).take k)).map u8v).toArray), (45, i64 (j : Int))] ∧ j ≤ 8 ∧ Ch No w u)
            ⟨rfl, rfl, rfl, rfl, rfl, trivial⟩ ⟨0, rfl, rfl, by omega, HC⟩ ?_
          rintro m0 e w8 ⟨j, hm0, rfl, hj, HC⟩
          have hzw8 := HC.size
          refine wc_seq ?_
          refine wc_region ?_
          refine wl rfl rfl rfl (p_lt rfl rfl) ?_
          refine wl_nil ?_
          refine x_seq ?_
          refine wc_seq ?_
          refine wc_if rfl (fun c3 => ?_) (fun c3 => ?_)
          ·
            have c3 := of_decide_eq_true c3
            refine wc_skip ?_
            refine x_seq ?_
            refine wc_seq ?_
            refine wc_block ?_
            refine wc_seq ?_
            refine wc_region ?_
            refine wl rfl rfl rfl (p_ixG (f := u8v) (d0 := 0) Tryd.underlying88 Tryd.underlying5 rfl sz5 rfl rfl (by omega) (by omega) (by first | (simp; done) | (simp; omega) | omega) (Int.toNat_natCast _)) ?_
            refine wl rfl rfl rfl (p_as rfl) ?_
            refine wl_nil ?_
            refine x_seq ?_
            refine wc_region ?_
            refine wl rfl rfl rfl (p_mv rfl) ?_
            refine wl rfl rfl rfl (p_shl64 (Y := 8) rfl rfl rfl) ?_
            refine wl rfl rfl rfl (p_mv rfl) ?_
            refine wl rfl rfl rfl (p_conv Tryd.underlying5 Tryd.underlying79 rfl (wB_u64 _)) ?_
            refine wl rfl rfl rfl (p_or64 rfl rfl (Nat.mod_lt _ (by omega)) (by have := UInt8.toNat_lt ((List.replicate (8 - k) (0 : UInt8) ++ ((b.drop 1).take k)).getD j 0); omega)) ?_
            refine wl rfl rfl rfl (p_as rfl) ?_
            refine wl_nil ?_
            refine x_in_normal ?_
            refine x_seq ?_
            refine wc_region ?_
            refine wl rfl rfl rfl (p_add rfl rfl (w64 (by omega))) ?_
            refine wl rfl rfl rfl (p_mv rfl) ?_
            refine wl_nil ?_
            have hst := val_take_succ (Z := List.replicate (8 - k) (0 : UInt8) ++ ((b.drop 1).take k)) (j := j) (by omega)
            refine x_round (e' := [(0, .slice Ab lb cb), (6, i64 (k : Int)), (7, u64v (val ((List.replicate (8 - k) (0 : UInt8) ++ ((b.drop 1).take k)).take (j + 1)))), (44, .agg ((List.replicate (8 - k) (0 : UInt8) ++ ((b.drop 1).take k)).map u8v).toArray), (45, i64 ((j + 1) : Int))]) ⟨rfl, rfl, (by rw [val_or (val_take_lt (by omega)), ← hst]; rfl), rfl, rfl, trivial⟩ (by rw [hm0]; omega) ⟨j + 1, rfl, rfl, by omega, HC⟩
          ·
            have c3 := of_decide_eq_false c3
            obtain rfl : j = 8 := by omega
            have hv : val ((List.replicate (8 - k) (0 : UInt8) ++ ((b.drop 1).take k)).take 8) = val ((b.drop 1).take k) := by rw [List.take_of_length_le (by omega), val_zeros]
            rw [hv]
            refine wc_exit ?_
            refine x_then_exit ?_
            refine x_then_exit ?_
            refine x_in_here ?_
            refine x_seq ?_
            refine wc_seq ?_
            refine wc_seq ?_
            refine wc_region ?_
            refine wl rfl rfl rfl (p_mv rfl) ?_
            refine wl rfl rfl rfl (p_lt rfl rfl) ?_
            refine wl_nil ?_
            refine x_seq ?_
            refine wc_if rfl (fun c4 => ?_) (fun c4 => ?_)
            ·
              have c4 := of_decide_eq_true c4
              have eg : gn b = none := by unfold gn; rw [if_neg (by omega), if_neg (by omega), if_neg hnn, ← hk, if_pos (by omega)]
              refine wc_seq ?_
              refine wc_region ?_
              refine wl rfl rfl rfl (p_as rfl) ?_
              refine wl rfl rfl rfl (p_as rfl) ?_
              refine wl rfl rfl rfl (p_as rfl) ?_
              refine wl_nil ?_
              refine x_seq ?_
              refine wc_ret ?_
              refine x_then_ret ?_
              refine fin_run (res3 rfl rfl rfl rfl) ?_
              first
                | (obtain ⟨e1, e2, e3⟩ := gn_none eg; rw [e1, e2, e3]; exact ⟨rfl, HC⟩)
                | (obtain ⟨e1, e2, e3⟩ := gn_some eg; rw [e1, e2, e3]; exact ⟨rfl, HC⟩)
            ·
              have c4 := of_decide_eq_false c4
              have eg : gn b = some (val ((b.drop 1).take k), 1 + k) := by unfold gn; rw [if_neg (by omega), if_neg (by omega), if_neg hnn, ← hk, if_neg (by omega)]
              refine wc_skip ?_
              refine x_seq ?_
              refine wc_seq ?_
              refine wc_region ?_
              refine wl rfl rfl rfl (p_mv rfl) ?_
              refine wl rfl rfl rfl (p_mv rfl) ?_
              refine wl rfl rfl rfl (p_add rfl rfl (show IntKind.i64.wrap (1 + (k : Int)) = ((1 + k : Nat) : Int) from by rw [w64 (by omega)]; omega)) ?_
              refine wl rfl rfl rfl (p_as rfl) ?_
              refine wl rfl rfl rfl (p_as rfl) ?_
              refine wl rfl rfl rfl (p_as rfl) ?_
              refine wl_nil ?_
              refine x_seq ?_
              refine wc_ret ?_
              refine fin_run (res3 rfl rfl rfl rfl) ?_
              first
                | (obtain ⟨e1, e2, e3⟩ := gn_none eg; rw [e1, e2, e3]; exact ⟨rfl, HC⟩)
                | (obtain ⟨e1, e2, e3⟩ := gn_some eg; rw [e1, e2, e3]; exact ⟨rfl, HC⟩)

set_option maxHeartbeats 1000000 in
set_option maxRecDepth 20000 in
theorem rgetnum_any {w : World} {Ab : Option Addr} {lb cb : Nat} {Fb : Nat → Prop} {b : List UInt8} (hb : Sl w Fb u8v Ab lb cb b) (hl : lb ≤ 140737488355328) :
    Calls Tryd.prog 68 #[.slice Ab lb cb] w fun e w' => e = .returned (.tuple #[u64v (gnv b), i64 (gnk b : Int), .bool (gno b)]) ∧ Ch No w w' := by
  have hbl := hb.len
  have hx0 := (b.getD 0 0).toNat_lt
  have hx1 := (b.getD 1 0).toNat_lt
  have hb := hb.old
  have HC : Ch No w w := Ch.refl _ _
  refine enter' (args := [.slice Ab lb cb]) (n := 56) Tryd.func68 rfl rfl rfl ?_
  refine wc_seq ?_
  refine wc_region ?_
  refine wl rfl rfl rfl (p_as rfl) ?_
  refine wl rfl rfl rfl (p_as rfl) ?_
  refine wl rfl rfl rfl (p_as rfl) ?_
  refine wl_nil ?_
  refine x_seq ?_
  refine wc_seq ?_
  refine wc_seq ?_
  refine wc_region ?_
  refine wl rfl rfl rfl (p_mv rfl) ?_
  refine wl rfl rfl rfl (p_lenS Tryd.underlying22 rfl) ?_
  refine wl rfl rfl rfl (p_eq rfl rfl) ?_
  refine wl_nil ?_
  refine x_seq ?_
  refine wc_if rfl (fun c0 => ?_) (fun c0 => ?_)
  ·
    have c0 := of_decide_eq_true c0
    have eg : gn b = none := by unfold gn; rw [if_pos (by omega)]
    refine wc_seq ?_
    refine wc_region ?_
    refine wl rfl rfl rfl (p_as rfl) ?_
    refine wl rfl rfl rfl (p_as rfl) ?_
    refine wl rfl rfl rfl (p_as rfl) ?_
    refine wl_nil ?_
    refine x_seq ?_
    refine wc_ret ?_
    refine x_then_ret ?_
    refine fin_run (res3 rfl rfl rfl rfl) ?_
    first
      | (obtain ⟨e1, e2, e3⟩ := gn_none eg; rw [e1, e2, e3]; exact ⟨rfl, HC⟩)
      | (obtain ⟨e1, e2, e3⟩ := gn_some eg; rw [e1, e2, e3]; exact ⟨rfl, HC⟩)
  ·
    have c0 := of_decide_eq_false c0
    refine wc_skip ?_
    refine x_seq ?_
    refine wc_seq ?_
    refine wc_seq ?_
    refine wc_region ?_
    refine wl rfl rfl rfl (p_mv rfl) ?_
    obtain ⟨b1, o1, hA1, hF1, hc1⟩ := (hb).opn (d := 0) (by omega)
    refine wl rfl rfl rfl (p_ixS1 (j := 0) Tryd.underlying22 sz5 rfl hA1 rfl (by omega) (by omega) rfl) ?_
    refine wl rfl rfl rfl (p_ld Tryd.underlying5 rfl rfl (ld (hc1 _ (by omega)))) ?_
    refine wl rfl rfl rfl (p_lt rfl rfl) ?_
    refine wl_nil ?_
    refine x_seq ?_
    refine wc_if rfl (fun c1 => ?_) (fun c1 => ?_)
    ·
      have c1 := of_decide_eq_true c1
      have eg : gn b = some ((b.getD 0 0).toNat, 1) := by unfold gn; rw [if_neg (by omega), if_pos (by omega)]
      refine wc_seq ?_
      refine wc_region ?_
      refine wl rfl rfl rfl (p_mv rfl) ?_
      obtain ⟨b2, o2, hA2, hF2, hc2⟩ := (hb).opn (d := 0) (by omega)
      refine wl rfl rfl rfl (p_ixS1 (j := 0) Tryd.underlying22 sz5 rfl hA2 rfl (by omega) (by omega) rfl) ?_
      refine wl rfl rfl rfl (p_ld Tryd.underlying5 rfl rfl (ld (hc2 _ (by omega)))) ?_
      refine wl rfl rfl rfl (p_conv Tryd.underlying5 Tryd.underlying79 rfl (wB_u64 _)) ?_
      refine wl rfl rfl rfl (p_as rfl) ?_
      refine wl rfl rfl rfl (p_as rfl) ?_
      refine wl rfl rfl rfl (p_as rfl) ?_
      refine wl_nil ?_
      refine x_seq ?_
      refine wc_ret ?_
      refine x_then_ret ?_
      refine fin_run (res3 rfl rfl rfl rfl) ?_
      first
        | (obtain ⟨e1, e2, e3⟩ := gn_none eg; rw [e1, e2, e3]; exact ⟨rfl, HC⟩)
        | (obtain ⟨e1, e2, e3⟩ := gn_some eg; rw [e1, e2, e3]; exact ⟨rfl, HC⟩)
    ·
      have c1 := of_decide_eq_false c1
      obtain ⟨k, hk⟩ : ∃ k, k = (b.getD 0 0).toNat - 247 := ⟨_, rfl⟩
      have hk9 : k ≤ 8 := by omega
      have hk1 : 1 ≤ k := by omega
      refine wc_skip ?_
      refine x_seq ?_
      refine wc_seq ?_
      refine wc_region ?_
      refine wl rfl rfl rfl (p_mv rfl) ?_
      obtain ⟨b3, o3, hA3, hF3, hc3⟩ := (hb).opn (d := 0) (by omega)
      refine wl rfl rfl rfl (p_ixS1 (j := 0) Tryd.underlying22 sz5 rfl hA3 rfl (by omega) (by omega) rfl) ?_
      refine wl rfl rfl rfl (p_ld Tryd.underlying5 rfl rfl (ld (hc3 _ (by omega)))) ?_
      refine wl rfl rfl rfl (p_conv Tryd.underlying5 Tryd.underlying3 rfl (wB_i64 _)) ?_
      refine wl rfl rfl rfl (p_sub rfl rfl (show IntKind.i64.wrap (((b.getD 0 0).toNat : Int) - 247) = ((k : Nat) : Int) from by rw [w64 (by omega)]; omega)) ?_
      refine wl rfl rfl rfl (p_as rfl) ?_
      refine wl_nil ?_
      refine x_seq ?_
      refine wc_seq ?_
      refine wc_seq ?_
      refine wc_region ?_
      refine wl rfl rfl rfl (p_mv rfl) ?_
      refine wl rfl rfl rfl (p_lenS Tryd.underlying22 rfl) ?_
      refine wl rfl rfl rfl (p_mv rfl) ?_
      refine wl rfl rfl rfl (p_add rfl rfl (w64 (by omega))) ?_
      refine wl rfl rfl rfl (p_lt rfl rfl) ?_
      refine wl rfl rfl rfl (p_mv rfl) ?_
      refine wl_split (d := 30) rfl (fun q30 => ?_) (fun q30 => ?_)
      ·
        have q30 := of_decide_eq_true q30
        have eg : gn b = none := by unfold gn; rw [if_neg (by omega), if_neg (by omega), if_pos (.inl (by omega))]
        refine wl_s (gd_ rfl rfl rfl rfl rfl rfl) rfl rfl ?_
        refine wl_s (gd_ rfl rfl rfl rfl rfl rfl) rfl rfl ?_
        refine wl_s (gd_ rfl rfl rfl rfl rfl rfl) rfl rfl ?_
        refine wl_s (gd_ rfl rfl rfl rfl rfl rfl) rfl rfl ?_
        refine wl rfl rfl rfl (p_pickT rfl rfl) ?_
        refine wl_nil ?_
        refine x_seq ?_
        refine wc_yes rfl (rfl) ?_
        refine wc_seq ?_
        refine wc_region ?_
        refine wl rfl rfl rfl (p_as rfl) ?_
        refine wl rfl rfl rfl (p_as rfl) ?_
        refine wl rfl rfl rfl (p_as rfl) ?_
        refine wl_nil ?_
        refine x_seq ?_
        refine wc_ret ?_
        refine x_then_ret ?_
        refine fin_run (res3 rfl rfl rfl rfl) ?_
        first
          | (obtain ⟨e1, e2, e3⟩ := gn_none eg; rw [e1, e2, e3]; exact ⟨rfl, HC⟩)
          | (obtain ⟨e1, e2, e3⟩ := gn_some eg; rw [e1, e2, e3]; exact ⟨rfl, HC⟩)
      ·
        have q30 := of_decide_eq_false q30
        refine wl_g (gd_ rfl rfl rfl rfl rfl rfl) rfl rfl (p_mv rfl) ?_
        obtain ⟨b4, o4, hA4, hF4, hc4⟩ := (hb).opn (d := 0) (by omega)
        refine wl_g (gd_ rfl rfl rfl rfl rfl rfl) rfl rfl (p_ixS1 (j := 1) Tryd.underlying22 sz5 rfl hA4 rfl (by omega) (by omega) rfl) ?_
        refine wl_g (gd_ rfl rfl rfl rfl rfl rfl) rfl rfl (p_ld Tryd.underlying5 rfl rfl (ld (hc4 _ (by omega)))) ?_
        refine wl_g (gd_ rfl rfl rfl rfl rfl rfl) rfl rfl (p_eq rfl rfl) ?_
        refine wl rfl rfl rfl (p_pickF rfl rfl) ?_
        refine wl_nil ?_
        refine x_seq ?_
        refine wc_if rfl (fun c2 => ?_) (fun c2 => ?_)
        ·
          have c2 := of_decide_eq_true c2
          have eg : gn b = none := by unfold gn; rw [if_neg (by omega), if_neg (by omega), if_pos (.inr (by omega))]
          refine wc_seq ?_
          refine wc_region ?_
          refine wl rfl rfl rfl (p_as rfl) ?_
          refine wl rfl rfl rfl (p_as rfl) ?_
          refine wl rfl rfl rfl (p_as rfl) ?_
          refine wl_nil ?_
          refine x_seq ?_
          refine wc_ret ?_
          refine x_then_ret ?_
          refine fin_run (res3 rfl rfl rfl rfl) ?_
          first
            | (obtain ⟨e1, e2, e3⟩ := gn_none eg; rw [e1, e2, e3]; exact ⟨rfl, HC⟩)
            | (obtain ⟨e1, e2, e3⟩ := gn_some eg; rw [e1, e2, e3]; exact ⟨rfl, HC⟩)
        ·
          have c2 := of_decide_eq_false c2
          have hnn : ¬ (b.length ≤ (b.getD 0 0).toNat - 247 ∨ (b.getD 1 0).toNat = 0) := by omega
          have hyl : ((b.drop 1).take k).length = k := by rw [List.length_take, List.length_drop]; omega
          refine wc_skip ?_
          refine x_seq ?_
          refine wc_seq ?_
          refine wc_region ?_
          refine wl rfl rfl rfl (p_as rfl) ?_
          refine wl_nil ?_
          refine x_seq ?_
          refine wc_seq ?_
          refine wc_seq ?_
          refine wc_region ?_
          refine wl rfl rfl rfl (p_mv rfl) ?_
          refine wl rfl rfl rfl (p_mv rfl) ?_
          refine wl rfl rfl rfl (p_add rfl rfl (show IntKind.i64.wrap (1 + (k : Int)) = ((1 + k : Nat) : Int) from by rw [w64 (by omega)]; omega)) ?_
          have hS39 := hb.cut (lo := 1) (hi := 1 + k) (q := k) (by omega) (by omega) (by omega)
          refine wl rfl rfl rfl (p_slS (l := 1) (h := 1 + k) Tryd.underlying22 sz5 rfl ⟨_, rfl⟩ ⟨_, rfl⟩ (by omega) (by have := hb.cap; omega) hb.cap (q := k) (by omega)) ?_
          refine wl rfl rfl rfl (p_lenS Tryd.underlying22 rfl) ?_
          refine wl rfl rfl rfl (p_mv rfl) ?_
          refine wl_nil ?_
          refine x_seq ?_
          refine wc_block ?_
          refine wc_loop (e' := [(0, .slice Ab lb cb), (5, i64 (k : Int)), (6, u64v (val (((b.drop 1).take k).take (0)))), (39, .slice (cutA Ab cb 1 1) k (cb - 1)), (40, i64 (k : Int)), (41, i64 ((0) : Int))]) (fun m e u => ∃ j : Nat, m = k - j ∧ e = [(0, .slice Ab lb cb), (5, i64 (k : Int)), (6, u64v (val (((b.drop 1).take k).take j))), (39, .slice (cutA Ab cb 1 1) k (cb - 1)), (40, i64 (k : Int)), (41, i64 (j : Int))] ∧ Sl u (fun k => k < w.heap.size) u8v (cutA Ab cb 1 1) k (cb - 1) ((b.drop 1).take k) ∧ j ≤ k ∧ Ch No w u)
            ⟨rfl, rfl, rfl, rfl, rfl, rfl, trivial⟩ ⟨0, rfl, rfl, hS39, by omega, HC⟩ ?_
          rintro m0 e w5 ⟨j, hm0, rfl, hS39, hj, HC⟩
          have hzw5 := HC.size
          refine wc_seq ?_
          refine wc_region ?_
          refine wl rfl rfl rfl (p_lt rfl rfl) ?_
          refine wl_nil ?_
          refine x_seq ?_
          refine wc_seq ?_
          refine wc_if rfl (fun c3 => ?_) (fun c3 => ?_)
          ·
            have c3 := of_decide_eq_true c3
            refine wc_skip ?_
            refine x_seq ?_
            refine wc_seq ?_
            refine wc_block ?_
            refine wc_seq ?_
            refine wc_region ?_
            obtain ⟨b6, o6, hA6, hF6, hc6⟩ := (hS39).opn (d := 0) (by omega)
            refine wl rfl rfl rfl (p_ixS1 Tryd.underlying22 sz5 rfl hA6 rfl (by omega) (by omega) (Int.toNat_natCast _)) ?_
            refine wl rfl rfl rfl (p_ld Tryd.underlying5 rfl rfl (ld (hc6 _ (by omega)))) ?_
            refine wl rfl rfl rfl (p_as rfl) ?_
            refine wl_nil ?_
            refine x_seq ?_
            refine wc_region ?_
            refine wl rfl rfl rfl (p_mv rfl) ?_
            refine wl rfl rfl rfl (p_shl64 (Y := 8) rfl rfl rfl) ?_
            refine wl rfl rfl rfl (p_mv rfl) ?_
            refine wl rfl rfl rfl (p_conv Tryd.underlying5 Tryd.underlying79 rfl (wB_u64 _)) ?_
            refine wl rfl rfl rfl (p_add (Z := ((val (((b.drop 1).take k).take (j + 1)) : Nat) : Int)) rfl rfl (by have hst := val_take_succ (Z := ((b.drop 1).take k)) (j := j) (by omega); have hvl := val_take_lt (Z := ((b.drop 1).take k)) (j := j) (by omega); have hxx := UInt8.toNat_lt (((b.drop 1).take k).getD j 0); rw [wu64 (by omega)]; omega)) ?_
            refine wl rfl rfl rfl (p_as rfl) ?_
            refine wl_nil ?_
            refine x_in_normal ?_
            refine x_seq ?_
            refine wc_region ?_
            refine wl rfl rfl rfl (p_add rfl rfl (w64 (by omega))) ?_
            refine wl rfl rfl rfl (p_mv rfl) ?_
            refine wl_nil ?_
            have hst := val_take_succ (Z := ((b.drop 1).take k)) (j := j) (by omega)
            have hvl := val_take_lt (Z := ((b.drop 1).take k)) (j := j) (by omega)
            refine x_round (e' := [(0, .slice Ab lb cb), (5, i64 (k : Int)), (6, u64v (val (((b.drop 1).take k).take (j + 1)))), (39, .slice (cutA Ab cb 1 1) k (cb - 1)), (40, i64 (k : Int)), (41, i64 ((j + 1) : Int))]) ⟨rfl, rfl, rfl, rfl, rfl, rfl, trivial⟩ (by rw [hm0]; omega) ⟨j + 1, rfl, rfl, hS39, by omega, HC⟩
          ·
            have c3 := of_decide_eq_false c3
            obtain rfl : j = k := by omega
            have hv : val (((b.drop 1).take j).take j) = val ((b.drop 1).take j) := by rw [List.take_of_length_le (by omega)]
            rw [hv]
            refine wc_exit ?_
            refine x_then_exit ?_
            refine x_then_exit ?_
            refine x_in_here ?_
            refine x_seq ?_
            refine wc_seq ?_
            refine wc_seq ?_
            refine wc_region ?_
            refine wl rfl rfl rfl (p_mv rfl) ?_
            refine wl rfl rfl rfl (p_lt rfl rfl) ?_
            refine wl_nil ?_
            refine x_seq ?_
            refine wc_if rfl (fun c4 => ?_) (fun c4 => ?_)
            ·
              have c4 := of_decide_eq_true c4
              have eg : gn b = none := by unfold gn; rw [if_neg (by omega), if_neg (by omega), if_neg hnn, ← hk, if_pos (by omega)]
              refine wc_seq ?_
              refine wc_region ?_
              refine wl rfl rfl rfl (p_as rfl) ?_
              refine wl rfl rfl rfl (p_as rfl) ?_
              refine wl rfl rfl rfl (p_as rfl) ?_
              refine wl_nil ?_
              refine x_seq ?_
              refine wc_ret ?_
              refine x_then_ret ?_
              refine fin_run (res3 rfl rfl rfl rfl) ?_
              first
                | (obtain ⟨e1, e2, e3⟩ := gn_none eg; rw [e1, e2, e3]; exact ⟨rfl, HC⟩)
                | (obtain ⟨e1, e2, e3⟩ := gn_some eg; rw [e1, e2, e3]; exact ⟨rfl, HC⟩)
            ·
              have c4 := of_decide_eq_false c4
              have eg : gn b = some (val ((b.drop 1).take j), 1 + j) := by unfold gn; rw [if_neg (by omega), if_neg (by omega), if_neg hnn, ← hk, if_neg (by omega)]
              refine wc_skip ?_
              refine x_seq ?_
              refine wc_seq ?_
              refine wc_region ?_
              refine wl rfl rfl rfl (p_mv rfl) ?_
              refine wl rfl rfl rfl (p_mv rfl) ?_
              refine wl rfl rfl rfl (p_add rfl rfl (show IntKind.i64.wrap (1 + (j : Int)) = ((1 + j : Nat) : Int) from by rw [w64 (by omega)]; omega)) ?_
              refine wl rfl rfl rfl (p_as rfl) ?_
              refine wl rfl rfl rfl (p_as rfl) ?_
              refine wl rfl rfl rfl (p_as rfl) ?_
              refine wl_nil ?_
              refine x_seq ?_
              refine wc_ret ?_
              refine fin_run (res3 rfl rfl rfl rfl) ?_
              first
                | (obtain ⟨e1, e2, e3⟩ := gn_none eg; rw [e1, e2, e3]; exact ⟨rfl, HC⟩)
                | (obtain ⟨e1, e2, e3⟩ := gn_some eg; rw [e1, e2, e3]; exact ⟨rfl, HC⟩)
end Go.Proofs.YtdbdconmcgcooaaDoor
