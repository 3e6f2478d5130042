/-
  Own text, printed by a program of mine (wip/gx): what functions of the program do, walked operation by operation.
-/
import Derived.Test.YtdbdconmcgcooaaProg
import Derived.Test.YtdbdconmcgcooaaGxAux
import Derived.Test.YtdbdconmcgcooaaTab
import Derived.Test.YtdbdconmcgcooaaPlPack
import Derived.Test.YtdbdconmcgcooaaWp2
import Derived.Test.YtdbdconmcgcooaaWp4
set_option linter.unusedVariables false
namespace Go.Proofs.Ytdbdconmcgcooaa
open Go.RowKit Go.Gx
open Go.Plain
set_option maxHeartbeats 1000000 in
set_option maxRecDepth 20000 in
theorem lives_any {w : World}   :
    Calls Try.prog 11 #[] w fun e w' => e = .returned (.bool true) ∧ Ch No w w' := by
  have HC : Ch No w w := Ch.refl _ _
  refine enter' (args := []) (n := 19) Try.func11 rfl rfl rfl ?_
  refine wc_seq ?_
  refine wc_region ?_
  refine wl rfl rfl rfl (p_as rfl) ?_
  refine wl_nil ?_
  refine x_seq ?_
  refine wc_seq ?_
  refine wc_region ?_
  refine wle rfl (e_call ent12 rfl rfl (num_any (x := 5) (Sl.nil (F := No)) (by omega) (by omega)) ?_)
  rintro _ w1 ⟨A1, c1, rfl, hW1, hc⟩
  refine ⟨_, rfl, ?_⟩
  have hzw1 := hc.size
  have HC := HC.tr hc
  refine wl rfl rfl rfl (p_bts Try.underlying27 Try.underlying5 Try.underlying9 rfl (hW1.sl).len (fun _ e => e ▸ (hW1.sl).rd)) ?_
  refine wl rfl rfl rfl (p_eqT rfl rfl) ?_
  refine wl rfl rfl rfl (p_mv rfl) ?_
  refine wl_know (d := 4) (b' := true) rfl (eqT_of ((congrArg str (show [] ++ encN 5 = [5] from encN_5)).trans rfl)) ?_
  refine wle_g (gd_ rfl rfl rfl rfl rfl rfl) (e_call ent12 rfl rfl (num_any (x := 248) (Sl.nil (F := No)) (by omega) (by omega)) ?_)
  rintro _ w2 ⟨A5, c5, rfl, hW5, hc⟩
  refine ⟨_, rfl, ?_⟩
  have hzw2 := hc.size
  have HC := HC.tr hc
  have hW1 := hW1.after hc
  refine wl_g (gd_ rfl rfl rfl rfl rfl rfl) rfl rfl (p_bts Try.underlying27 Try.underlying5 Try.underlying9 rfl (hW5.sl).len (fun _ e => e ▸ (hW5.sl).rd)) ?_
  refine wl_g (gd_ rfl rfl rfl rfl rfl rfl) rfl rfl (p_eqT rfl rfl) ?_
  refine wl rfl rfl rfl (p_pickT rfl rfl) ?_
  refine wl rfl rfl rfl (p_mv rfl) ?_
  refine wl_know (d := 9) (b' := true) rfl (eqT_of ((congrArg str (show [] ++ encN 248 = [248, 248] from encN_248)).trans rfl)) ?_
  refine wle_g (gd_ rfl rfl rfl rfl rfl rfl) (e_call ent12 rfl rfl (num_any (x := 256) (Sl.nil (F := No)) (by omega) (by omega)) ?_)
  rintro _ w3 ⟨A10, c10, rfl, hW10, hc⟩
  refine ⟨_, rfl, ?_⟩
  have hzw3 := hc.size
  have HC := HC.tr hc
  have hW1 := hW1.after hc
  have hW5 := hW5.after hc
  refine wl_g (gd_ rfl rfl rfl rfl rfl rfl) rfl rfl (p_bts Try.underlying27 Try.underlying5 Try.underlying9 rfl (hW10.sl).len (fun _ e => e ▸ (hW10.sl).rd)) ?_
  refine wl_g (gd_ rfl rfl rfl rfl rfl rfl) rfl rfl (p_eqT rfl rfl) ?_
  refine wl rfl rfl rfl (p_pickT rfl rfl) ?_
  refine wl rfl rfl rfl (p_mv rfl) ?_
  refine wl_know (d := 14) (b' := true) rfl (eqT_of ((congrArg str (show [] ++ encN 256 = [249, 1, 0] from encN_256)).trans rfl)) ?_
  refine wle_g (gd_ rfl rfl rfl rfl rfl rfl) (e_call ent15 rfl rfl (str_any (Sl.nil (F := No)) (by first | omega | decide)) ?_)
  rintro _ w4 ⟨A15, c15, rfl, hW15, hc⟩
  refine ⟨_, rfl, ?_⟩
  have hzw4 := hc.size
  have HC := HC.tr hc
  have hW1 := hW1.after hc
  have hW5 := hW5.after hc
  have hW10 := hW10.after hc
  refine wl_g (gd_ rfl rfl rfl rfl rfl rfl) rfl rfl (p_bts Try.underlying27 Try.underlying5 Try.underlying9 rfl (hW15.sl).len (fun _ e => e ▸ (hW15.sl).rd)) ?_
  refine wl_g (gd_ rfl rfl rfl rfl rfl rfl) rfl rfl (p_eqT rfl rfl) ?_
  refine wl rfl rfl rfl (p_pickT rfl rfl) ?_
  refine wl rfl rfl rfl (p_as rfl) ?_
  refine wl_nil ?_
  refine x_seq ?_
  refine wc_ret ?_
  refine fin_run (res1 rfl rfl) ?_
  rw [show ((str ([] ++ encS (ByteArray.mk #[97, 98]))).toList == (ByteArray.mk #[2, 97, 98]).toList) = true from eqT_of ((congrArg str (show [] ++ encS (ByteArray.mk #[97, 98]) = [2, 97, 98] from encS_ab)).trans rfl)]
  exact ⟨rfl, HC⟩

set_option maxHeartbeats 1000000 in
set_option maxRecDepth 20000 in
theorem getlist1_any {w : World} {Ab : Option Addr} {lb cb : Nat} {Fb : Nat → Prop} {b : List UInt8} {g0 g1 g2 i : Nat} {most : Int} (h0 : Blk w g0 27 #[.slice Ab lb cb]) (h1 : Blk w g1 3 #[i64 (i : Int)]) (h2 : Blk w g2 3 #[i64 most]) (hb : Sl w Fb u8v Ab lb cb b) (h01 : g0 ≠ g1) (h21 : g2 ≠ g1) (hl : lb ≤ 140737488355328) (hi : i ≤ lb) (hm1 : -9223372036854775808 ≤ most) (hm2 : most ≤ 9223372036854775807) (hFb : ∀ k, Fb k → k ≠ g1) (hbw : lb ≤ 140737488355328) :
    Calls Try.prog 30 #[.pointer (some ⟨g0, 0, none⟩), .pointer (some ⟨g1, 0, none⟩), .pointer (some ⟨g2, 0, none⟩)] w fun e w' => e = .returned (.tuple #[.string (gss (b.drop i) most), .bool (gso (b.drop i) most)]) ∧ Ch (fun k => k = g1) w w' ∧ Blk w' g1 3 #[i64 ((i + gsk (b.drop i) most : Nat) : Int)] := by
  have hbl := hb.len
  have hgk := gsk_le (b.drop i) most
  rw [List.length_drop] at hgk
  have HC : Ch (fun k => k = g1) w w := Ch.refl _ _
  refine enter' (args := [.pointer (some ⟨g0, 0, none⟩), .pointer (some ⟨g1, 0, none⟩), .pointer (some ⟨g2, 0, none⟩)]) (n := 22) Try.func30 rfl rfl rfl ?_
  refine wc_seq ?_
  refine wc_region ?_
  refine wl rfl rfl rfl (p_as rfl) ?_
  refine wl rfl rfl rfl (p_as rfl) ?_
  refine wl_nil ?_
  refine x_seq ?_
  refine wc_seq ?_
  refine wc_draw [(0, 1), (1, 1), (2, 0), (3, 1), (4, 2), (5, 0), (6, 0), (7, 0), (8, 0), (9, 0), (10, 0), (11, 0)] 12 (by kernel_rfl) (by kernel_rfl) (by kernel_rfl) (by repeat (first | with_reducible exact pan_body | with_reducible apply pan_then | with_reducible apply pan_in)) (fun x => Ch No w.drew x) (Ch.refl _ _) ?_
  obtain ⟨w1, ew1⟩ : ∃ x, x = w.drew := ⟨_, rfl⟩
  rw [← ew1]
  have hc : Ch No w w1 := by rw [ew1]; exact Ch.drew _
  have hszw1 : w1.heap.size = w.heap.size := by rw [ew1]; rfl
  clear ew1
  have hzw1 := hc.size
  have HC := HC.tr hc
  have hb := hb.no hc
  have h0 := h0.ch hc (fun h => h)
  have h1 := h1.ch hc (fun h => h)
  have h2 := h2.ch hc (fun h => h)
  have hS : Ch No w1 w1 := Ch.refl _ _
  refine ws_h rfl rfl rfl rfl (p_ld Try.underlying27 rfl rfl (fun _ h => h.cell (fun h => h) (h0.cell rfl))) ?_
  refine ws_h rfl rfl rfl rfl (p_ld Try.underlying3 rfl rfl (fun _ h => h.cell (fun h => h) (h1.cell rfl))) ?_
  have hS11 := hb.cutTo (lo := i) (by omega)
  refine ws_p rfl rfl rfl rfl (p_slS (l := i) (h := lb) Try.underlying27 sz5 rfl ⟨_, rfl⟩ rfl (by omega) (by have := hb.cap; omega) hb.cap (q := lb - i) rfl) ?_
  refine ws_h rfl rfl rfl rfl (p_ld Try.underlying3 rfl rfl (fun _ h => h.cell (fun h => h) (h2.cell rfl))) ?_
  refine ws_e rfl rfl (e_call ent20 rfl rfl (getstr_any (hS11) (by omega) (by omega) (by omega)) ?_)
  rintro _ w2 ⟨rfl, hc⟩
  refine ⟨_, rfl, hc, ?_⟩
  have hzw2 := hc.size
  have HC := HC.tr hc
  have hb := hb.no hc
  have h0 := h0.ch hc (fun h => h)
  have h1 := h1.ch hc (fun h => h)
  have h2 := h2.ch hc (fun h => h)
  have hS11 := hS11.no hc
  refine ws_narrow (S' := fun x => Ch No w2 x) (Ch.refl _ _) (fun x h => hc.tr h) ?_
  refine ws_p rfl rfl rfl rfl (p_mv rfl) ?_
  refine ws_p rfl rfl rfl rfl (p_ext rfl rfl) ?_
  refine ws_p rfl rfl rfl rfl (p_ext rfl rfl) ?_
  refine ws_p rfl rfl rfl rfl (p_ext rfl rfl) ?_
  refine ws_p rfl rfl rfl rfl (p_as rfl) ?_
  refine ws_p rfl rfl rfl rfl (p_as rfl) ?_
  refine ws_p rfl rfl rfl rfl (p_as rfl) ?_
  refine ws_n ?_
  refine x_seq ?_
  refine wc_seq ?_
  refine wc_region ?_
  refine wl rfl rfl rfl (p_ld Try.underlying3 rfl rfl (ld (h1.cell rfl))) ?_
  refine wl rfl rfl rfl (p_mv rfl) ?_
  refine wl rfl rfl rfl (p_add (Z := ((i + gsk (b.drop i) most : Nat) : Int)) rfl rfl (by rw [w64 (by omega)]; omega)) ?_
  refine wle rfl (e_st1 (by rfl) rfl rfl rfl h1 (fun w3 h1 hc hsz => ?_))
  have hzw3 := hc.size
  have HC := HC.trans hc (fun _ _ h => h) (fun k hk ht => ht)
  have hb := hb.ch hc (fun k h => hFb k (by first | exact h | exact h.1))
  have h0 := h0.ch hc (by omega)
  have h2 := h2.ch hc (by omega)
  have hS11 := hS11.ch hc (fun k h => hFb k (by first | exact h | exact h.1))
  refine wl_nil ?_
  refine x_seq ?_
  refine wc_seq ?_
  refine wc_region ?_
  refine wl rfl rfl rfl (p_mv rfl) ?_
  refine wl rfl rfl rfl (p_mv rfl) ?_
  refine wl rfl rfl rfl (p_as rfl) ?_
  refine wl rfl rfl rfl (p_as rfl) ?_
  refine wl_nil ?_
  refine x_seq ?_
  refine wc_ret ?_
  refine fin_run (res2 rfl rfl rfl) ?_
  exact ⟨rfl, HC, h1⟩
end Go.Proofs.Ytdbdconmcgcooaa
