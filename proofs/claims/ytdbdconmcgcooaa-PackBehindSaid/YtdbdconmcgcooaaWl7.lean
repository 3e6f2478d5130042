/-
  Own text, printed by a program of mine (wip/gx): what functions of the program do, walked operation by operation.
-/
import Derived.Test.YtdbdconmcgcooaaProg
import Derived.Test.YtdbdconmcgcooaaGxAux
import Derived.Test.YtdbdconmcgcooaaTab
import Derived.Test.YtdbdconmcgcooaaPlPack
import Derived.Test.YtdbdconmcgcooaaPlPackB
import Derived.Test.YtdbdconmcgcooaaWp7
import Derived.Test.YtdbdconmcgcooaaWp8
import Derived.Test.YtdbdconmcgcooaaWp9
import Derived.Test.YtdbdconmcgcooaaWp6
import Derived.Test.YtdbdconmcgcooaaWp5
set_option linter.unusedVariables false
namespace Go.Proofs.Ytdbdconmcgcooaa
open Go.RowKit Go.Gx
open Go.Plain
set_option maxHeartbeats 4000000 in
set_option maxRecDepth 20000 in
theorem packBehind_walk {w : World} {Ab : Option Addr} {lb cb : Nat} {Fb : Nat → Prop} {b : List UInt8} {x : Nat} {s : ByteArray} (hb : Sl w Fb u8v Ab lb cb b) (hx : x < 18446744073709551616) :
    Calls Try.prog 4 #[.slice Ab lb cb, u64v x, .string s] w fun e w' => e = .returned (.bool true) ∧ Ch No w w' := by
  have hb := hb.old
  have HC : Ch No w w := Ch.refl _ _
  refine enter' (args := [.slice Ab lb cb, u64v x, .string s]) (n := 86) Try.func4 rfl rfl rfl ?_
  refine wc_seq ?_
  refine wc_region ?_
  refine wl rfl rfl rfl (p_as rfl) ?_
  refine wl_nil ?_
  refine x_seq ?_
  refine wc_seq ?_
  refine wc_seq ?_
  refine wc_region ?_
  refine wl rfl rfl rfl (p_mv rfl) ?_
  refine wl rfl rfl rfl (p_lenS Try.underlying27 rfl) ?_
  refine wl rfl rfl rfl (p_gt rfl rfl) ?_
  refine wl rfl rfl rfl (p_mv rfl) ?_
  refine wl_split (d := 14) rfl (fun q14 => ?_) (fun q14 => ?_)
  ·
    have q14 := of_decide_eq_true q14
    refine wl_s (gd_ rfl rfl rfl rfl rfl rfl) rfl rfl ?_
    refine wl_s (gd_ rfl rfl rfl rfl rfl rfl) rfl rfl ?_
    refine wl_s (gd_ rfl rfl rfl rfl rfl rfl) rfl rfl ?_
    refine wl rfl rfl rfl (p_pickT rfl rfl) ?_
    refine wl_nil ?_
    refine x_seq ?_
    refine wc_yes rfl (rfl) ?_
    refine wc_seq ?_
    refine wc_region ?_
    refine wle rfl (e_call ent11 rfl rfl (lives_any) ?_)
    rintro _ w1 ⟨rfl, hc⟩
    refine ⟨_, rfl, ?_⟩
    have hzw1 := hc.size
    have HC := HC.tr hc
    have hb := hb.no hc
    refine wl rfl rfl rfl (p_as rfl) ?_
    refine wl_nil ?_
    refine x_seq ?_
    refine wc_ret ?_
    refine x_then_ret ?_
    refine fin_run (res1 rfl rfl) ?_
    exact ⟨rfl, HC⟩
  ·
    have q14 := of_decide_eq_false q14
    refine wl_g (gd_ rfl rfl rfl rfl rfl rfl) rfl rfl (p_mv rfl) ?_
    refine wl_g (gd_ rfl rfl rfl rfl rfl rfl) rfl rfl (p_lenT Try.underlying9 rfl) ?_
    refine wl_g (gd_ rfl rfl rfl rfl rfl rfl) rfl rfl (p_gt rfl rfl) ?_
    refine wl rfl rfl rfl (p_pickF rfl rfl) ?_
    refine wl_nil ?_
    refine x_seq ?_
    refine wc_if rfl (fun c0 => ?_) (fun c0 => ?_)
    ·
      have c0 := of_decide_eq_true c0
      refine wc_seq ?_
      refine wc_region ?_
      refine wle rfl (e_call ent11 rfl rfl (lives_any) ?_)
      rintro _ w2 ⟨rfl, hc⟩
      refine ⟨_, rfl, ?_⟩
      have hzw2 := hc.size
      have HC := HC.tr hc
      have hb := hb.no hc
      refine wl rfl rfl rfl (p_as rfl) ?_
      refine wl_nil ?_
      refine x_seq ?_
      refine wc_ret ?_
      refine x_then_ret ?_
      refine fin_run (res1 rfl rfl) ?_
      exact ⟨rfl, HC⟩
    ·
      have c0 := of_decide_eq_false c0
      have hz1 := lstSz_eq [s]
      have ht1 : tot [s] = s.size := by simp [tot]
      have hl1 : [s].length = 1 := rfl
      have he1 := encN_len hx
      have hes := encS_len (s := s) (by omega)
      have hel := encL_le [s] (by omega)
      refine wc_skip ?_
      refine x_seq ?_
      refine wc_seq ?_
      refine wc_region ?_
      obtain ⟨m20, hm20⟩ : ∃ m, m = w.heap.size := ⟨_, rfl⟩
      refine wle rfl (e_bsl (cs := #[]) (E := 5) rfl rfl (fun _ => by kernel_rfl) (fun w3 g20 hg20 hb20 hc hsz20 => ?_))
      have hzw3 := hc.size
      have HC := HC.tr hc
      have hb := hb.no hc
      have hge20 : w.heap.size ≤ g20 := by have := HC.size; omega
      have hW20 := Row.lit (l := 0) (f := u8v) (xs := []) (F := fun k => g20 ≤ k) hb20 (by first | omega | (dsimp only; omega)) rfl rfl (by simp [maxLen])
      refine wl rfl rfl rfl (p_mv rfl) ?_
      refine wle rfl (e_appS rfl el27 one_u8 rfl rfl hW20 hb (by omega) (by intro k hk; first | omega | (dsimp only at *; omega)) (fun w4 A22 c22 hW20 hc => ?_))
      have hzw4 := hc.size
      have HC := HC.trans hc (fun _ _ h => h) (fun k hk ht => absurd ht (by first | omega | (dsimp only at *; omega)))
      first | have hb := hb.ch hc (by intro k hk ht; first | omega | (dsimp only at *; omega)) | have hb := hb.chT hc (by intro k hz hk ht; first | omega | (dsimp only at *; omega))
      obtain ⟨m22, hm22⟩ : ∃ m, m = w4.heap.size := ⟨_, rfl⟩
      refine wl rfl rfl rfl (p_as rfl) ?_
      refine wl_nil ?_
      refine x_seq ?_
      refine wc_seq ?_
      refine wc_seq ?_
      refine wc_region ?_
      refine wl rfl rfl rfl (p_mv rfl) ?_
      refine wl rfl rfl rfl (p_mv rfl) ?_
      refine wle rfl (e_call ent12 rfl rfl (num_any (hW20.sl) (by omega) (by omega)) ?_)
      rintro _ w5 ⟨A25, c25, rfl, hW25, hc⟩
      refine ⟨_, rfl, ?_⟩
      have hzw5 := hc.size
      have HC := HC.tr hc
      have hb := hb.no hc
      have hW20 := hW20.after hc
      obtain ⟨m25, hm25⟩ : ∃ m, m = w5.heap.size := ⟨_, rfl⟩
      refine wl rfl rfl rfl (p_mv rfl) ?_
      refine wle rfl (e_call ent12 rfl rfl (num_any (Sl.nil (F := No)) (by omega) (by omega)) ?_)
      rintro _ w6 ⟨A27, c27, rfl, hW27, hc⟩
      refine ⟨_, rfl, ?_⟩
      have hzw6 := hc.size
      have HC := HC.tr hc
      have hb := hb.no hc
      have hW20 := hW20.after hc
      have hW25 := hW25.after hc
      obtain ⟨m27, hm27⟩ : ∃ m, m = w6.heap.size := ⟨_, rfl⟩
      refine wl rfl rfl rfl (p_bldV rfl (fun _ => by kernel_rfl)) ?_
      refine wl rfl rfl rfl (p_mv rfl) ?_
      refine wl rfl rfl rfl (p_mv rfl) ?_
      refine wle rfl (e_call ent15 rfl rfl (str_any (hW20.sl) (by first | omega | decide)) ?_)
      rintro _ w7 ⟨A31, c31, rfl, hW31, hc⟩
      refine ⟨_, rfl, ?_⟩
      have hzw7 := hc.size
      have HC := HC.tr hc
      have hb := hb.no hc
      have hW20 := hW20.after hc
      have hW25 := hW25.after hc
      have hW27 := hW27.after hc
      obtain ⟨m31, hm31⟩ : ∃ m, m = w7.heap.size := ⟨_, rfl⟩
      refine wl rfl rfl rfl (p_mv rfl) ?_
      refine wle rfl (e_call ent15 rfl rfl (str_any (Sl.nil (F := No)) (by first | omega | decide)) ?_)
      rintro _ w8 ⟨A33, c33, rfl, hW33, hc⟩
      refine ⟨_, rfl, ?_⟩
      have hzw8 := hc.size
      have HC := HC.tr hc
      have hb := hb.no hc
      have hW20 := hW20.after hc
      have hW25 := hW25.after hc
      have hW27 := hW27.after hc
      have hW31 := hW31.after hc
      obtain ⟨m33, hm33⟩ : ∃ m, m = w8.heap.size := ⟨_, rfl⟩
      refine wl rfl rfl rfl (p_bldV rfl (fun _ => by kernel_rfl)) ?_
      refine wl rfl rfl rfl (p_mv rfl) ?_
      refine wle rfl (e_call ent16 rfl rfl (flag_any (hW20.sl) (by omega)) ?_)
      rintro _ w9 ⟨A36, c36, rfl, hW36, hc⟩
      refine ⟨_, rfl, ?_⟩
      have hzw9 := hc.size
      have HC := HC.tr hc
      have hb := hb.no hc
      have hW20 := hW20.after hc
      have hW25 := hW25.after hc
      have hW27 := hW27.after hc
      have hW31 := hW31.after hc
      have hW33 := hW33.after hc
      obtain ⟨m36, hm36⟩ : ∃ m, m = w9.heap.size := ⟨_, rfl⟩
      refine wle rfl (e_call ent16 rfl rfl (flag_any (Sl.nil (F := No)) (by omega)) ?_)
      rintro _ w10 ⟨A37, c37, rfl, hW37, hc⟩
      refine ⟨_, rfl, ?_⟩
      have hzw10 := hc.size
      have HC := HC.tr hc
      have hb := hb.no hc
      have hW20 := hW20.after hc
      have hW25 := hW25.after hc
      have hW27 := hW27.after hc
      have hW31 := hW31.after hc
      have hW33 := hW33.after hc
      have hW36 := hW36.after hc
      obtain ⟨m37, hm37⟩ : ∃ m, m = w10.heap.size := ⟨_, rfl⟩
      refine wl rfl rfl rfl (p_bldV rfl (fun _ => by kernel_rfl)) ?_
      refine wl rfl rfl rfl (p_mv rfl) ?_
      refine wl rfl rfl rfl (p_mv rfl) ?_
      refine wle rfl (e_bslV (E := 9) rfl rfl (fun _ => by kernel_rfl) (fun w11 g41 hg41 hb41 hc hsz41 => ?_))
      have hzw11 := hc.size
      have HC := HC.tr hc
      have hb := hb.no hc
      have hW20 := hW20.after hc
      have hW25 := hW25.after hc
      have hW27 := hW27.after hc
      have hW31 := hW31.after hc
      have hW33 := hW33.after hc
      have hW36 := hW36.after hc
      have hW37 := hW37.after hc
      have hge41 : w.heap.size ≤ g41 := by have := HC.size; omega
      have hS41 := Sl.lit1 (f := Value.string) hb41
      refine wle rfl (e_call ent13 rfl rfl (list_any (hW20.sl) (hS41) (by omega)) ?_)
      rintro _ w12 ⟨A42, c42, rfl, hW42, hc⟩
      refine ⟨_, rfl, ?_⟩
      have hzw12 := hc.size
      have HC := HC.tr hc
      have hb := hb.no hc
      have hW20 := hW20.after hc
      have hW25 := hW25.after hc
      have hW27 := hW27.after hc
      have hW31 := hW31.after hc
      have hW33 := hW33.after hc
      have hW36 := hW36.after hc
      have hW37 := hW37.after hc
      have hS41 := hS41.no hc
      obtain ⟨m42, hm42⟩ : ∃ m, m = w12.heap.size := ⟨_, rfl⟩
      refine wl rfl rfl rfl (p_mv rfl) ?_
      refine wle rfl (e_bslV (E := 9) rfl rfl (fun _ => by kernel_rfl) (fun w13 g44 hg44 hb44 hc hsz44 => ?_))
      have hzw13 := hc.size
      have HC := HC.tr hc
      have hb := hb.no hc
      have hW20 := hW20.after hc
      have hW25 := hW25.after hc
      have hW27 := hW27.after hc
      have hW31 := hW31.after hc
      have hW33 := hW33.after hc
      have hW36 := hW36.after hc
      have hW37 := hW37.after hc
      have hS41 := hS41.no hc
      have hW42 := hW42.after hc
      have hge44 : w.heap.size ≤ g44 := by have := HC.size; omega
      have hS44 := Sl.lit1 (f := Value.string) hb44
      refine wle rfl (e_call ent13 rfl rfl (list_any (Sl.nil (F := No)) (hS44) (by omega)) ?_)
      rintro _ w14 ⟨A45, c45, rfl, hW45, hc⟩
      refine ⟨_, rfl, ?_⟩
      have hzw14 := hc.size
      have HC := HC.tr hc
      have hb := hb.no hc
      have hW20 := hW20.after hc
      have hW25 := hW25.after hc
      have hW27 := hW27.after hc
      have hW31 := hW31.after hc
      have hW33 := hW33.after hc
      have hW36 := hW36.after hc
      have hW37 := hW37.after hc
      have hS41 := hS41.no hc
      have hW42 := hW42.after hc
      have hS44 := hS44.no hc
      obtain ⟨m45, hm45⟩ : ∃ m, m = w14.heap.size := ⟨_, rfl⟩
      refine wl rfl rfl rfl (p_bldV rfl (fun _ => by kernel_rfl)) ?_
      refine wle rfl (e_bslC (E := 32) rfl rfl (fun _ => by kernel_rfl) (fun w15 g47 hg47 hb47 hc hsz47 => ?_))
      have hzw15 := hc.size
      have HC := HC.tr hc
      have hb := hb.no hc
      have hW20 := hW20.after hc
      have hW25 := hW25.after hc
      have hW27 := hW27.after hc
      have hW31 := hW31.after hc
      have hW33 := hW33.after hc
      have hW36 := hW36.after hc
      have hW37 := hW37.after hc
      have hS41 := hS41.no hc
      have hW42 := hW42.after hc
      have hS44 := hS44.no hc
      have hW45 := hW45.after hc
      have hge47 : w.heap.size ≤ g47 := by have := HC.size; omega
      refine wl rfl rfl rfl (p_lenS Try.underlying35 rfl) ?_
      refine wl rfl rfl rfl (p_mv rfl) ?_
      refine wl_nil ?_
      refine x_seq ?_
      refine wc_block ?_
      have hW20 := hW20.mono (G := fun i => m20 ≤ i ∧ i < m22) (fun i hi hF => by first | omega | (dsimp only at *; omega))
      have hW25 := hW25.mono (G := fun i => m22 ≤ i ∧ i < m25) (fun i hi hF => by first | omega | (dsimp only at *; omega))
      have hW27 := hW27.mono (G := fun i => m25 ≤ i ∧ i < m27) (fun i hi hF => by first | omega | (dsimp only at *; omega))
      have hW31 := hW31.mono (G := fun i => m27 ≤ i ∧ i < m31) (fun i hi hF => by first | omega | (dsimp only at *; omega))
      have hW33 := hW33.mono (G := fun i => m31 ≤ i ∧ i < m33) (fun i hi hF => by first | omega | (dsimp only at *; omega))
      have hW36 := hW36.mono (G := fun i => m33 ≤ i ∧ i < m36) (fun i hi hF => by first | omega | (dsimp only at *; omega))
      have hW37 := hW37.mono (G := fun i => m36 ≤ i ∧ i < m37) (fun i hi hF => by first | omega | (dsimp only at *; omega))
      have hW42 := hW42.mono (G := fun i => m37 ≤ i ∧ i < m42) (fun i hi hF => by first | omega | (dsimp only at *; omega))
      have hW45 := hW45.mono (G := fun i => m42 ≤ i ∧ i < m45) (fun i hi hF => by first | omega | (dsimp only at *; omega))
      refine wc_rounds 5 ?_
      refine wr_succ ?_
      refine wc_seq ?_
      refine wc_region ?_
      refine wl rfl rfl rfl (p_lt rfl rfl) ?_
      refine wl_nil ?_
      refine x_seq ?_
      refine wc_seq ?_
      refine wc_yes rfl (by decide) ?_
      refine wc_skip ?_
      refine x_seq ?_
      refine wc_seq ?_
      refine wc_block ?_
      refine wc_seq ?_
      refine wc_region ?_
      refine wl rfl rfl rfl (p_ixS (j := 0) Try.underlying35 sz32 rfl rfl rfl (by decide) (by decide) rfl) ?_
      refine wl rfl rfl rfl (p_ldA Try.underlying32 rfl (szL sz32 rfl) rfl (fun _ e => e ▸ rng2 hb47 2)) ?_
      have hltg47 := hb47.lt
      refine wle rfl (e_alloc (cs := #[.slice none 0 0, .slice none 0 0]) rfl (by rfl) rfl (fun w16 g9 hg9 hb9 hc hsz9 => ?_))
      have hzw16 := hc.size
      have HC := HC.tr hc
      have hb := hb.no hc
      have hb47 := hb47.ch hc (fun h => h)
      have hW20 := hW20.after hc
      have hW25 := hW25.after hc
      have hW27 := hW27.after hc
      have hW31 := hW31.after hc
      have hW33 := hW33.after hc
      have hW36 := hW36.after hc
      have hW37 := hW37.after hc
      have hW42 := hW42.after hc
      have hW45 := hW45.after hc
      have hge9 : w.heap.size ≤ g9 := by have := HC.size; omega
      have neg47_9 : g47 < g9 := by omega
      refine wle rfl (e_stW (vs := _) (by rfl) (allOne rfl) rfl rfl hb9 (by rfl) (fun w17 hb9 hc hsz => ?_))
      have hzw17 := hc.size
      have HC := HC.trans hc (fun _ _ h => h) (fun k hk ht => absurd ht (by omega))
      first | have hb := hb.ch hc (by intro k hk ht; first | omega | (dsimp only at *; omega)) | have hb := hb.chT hc (by intro k hz hk ht; first | omega | (dsimp only at *; omega))
      have hb47 := hb47.ch hc (by omega)
      have hW20 := hW20.ch hc (by intro k hz hk ht; first | omega | (dsimp only at *; omega))
      have hW25 := hW25.ch hc (by intro k hz hk ht; first | omega | (dsimp only at *; omega))
      have hW27 := hW27.ch hc (by intro k hz hk ht; first | omega | (dsimp only at *; omega))
      have hW31 := hW31.ch hc (by intro k hz hk ht; first | omega | (dsimp only at *; omega))
      have hW33 := hW33.ch hc (by intro k hz hk ht; first | omega | (dsimp only at *; omega))
      have hW36 := hW36.ch hc (by intro k hz hk ht; first | omega | (dsimp only at *; omega))
      have hW37 := hW37.ch hc (by intro k hz hk ht; first | omega | (dsimp only at *; omega))
      have hW42 := hW42.ch hc (by intro k hz hk ht; first | omega | (dsimp only at *; omega))
      have hW45 := hW45.ch hc (by intro k hz hk ht; first | omega | (dsimp only at *; omega))
      have hb9 : Blk w17 g9 32 #[.slice A25 (0 + lb + (encN x).length) c25, .slice A27 (0 + (encN x).length) c27] := hb9
      refine wl_nil ?_
      refine x_seq ?_
      refine wc_seq ?_
      refine wc_seq ?_
      refine wc_region ?_
      refine wl rfl rfl rfl (p_ixA1 (j := 0) Try.underlying32 sz27 rfl rfl (by omega) (by omega) rfl) ?_
      refine wl rfl rfl rfl (p_ld Try.underlying27 rfl rfl (ld (hb9.cell rfl))) ?_
      refine wl rfl rfl rfl (p_bts Try.underlying27 Try.underlying5 Try.underlying9 rfl (hW25.sl).len (fun _ e => e ▸ (hW25.sl).rd)) ?_
      refine wl rfl rfl rfl (p_mv rfl) ?_
      refine wl rfl rfl rfl (p_bts Try.underlying27 Try.underlying5 Try.underlying9 rfl (hb).len (fun _ e => e ▸ (hb).rd)) ?_
      refine wl rfl rfl rfl (p_ixA1 (j := 1) Try.underlying32 sz27 rfl rfl (by omega) (by omega) rfl) ?_
      refine wl rfl rfl rfl (p_ld Try.underlying27 rfl rfl (ld (hb9.cell rfl))) ?_
      refine wl rfl rfl rfl (p_bts Try.underlying27 Try.underlying5 Try.underlying9 rfl (hW27.sl).len (fun _ e => e ▸ (hW27.sl).rd)) ?_
      refine wl rfl rfl rfl (p_addT rfl rfl (by rw [str_size, str_size, hb.len, hW27.sl.len]; omega)) ?_
      refine wl rfl rfl rfl (p_neT rfl rfl) ?_
      refine wl_nil ?_
      refine x_seq ?_
      refine wc_no rfl (behind_ne _ _) ?_
      refine wc_skip ?_
      refine x_seq ?_
      refine wc_seq ?_
      refine wc_region ?_
      refine wl rfl rfl rfl (p_ixA1 (j := 0) Try.underlying32 sz27 rfl rfl (by omega) (by omega) rfl) ?_
      refine wl rfl rfl rfl (p_ld Try.underlying27 rfl rfl (ld (hb9.cell rfl))) ?_
      refine wl rfl rfl rfl (p_lenS Try.underlying27 rfl) ?_
      refine wl rfl rfl rfl (p_mv rfl) ?_
      refine wl_nil ?_
      refine x_seq ?_
      refine wc_block ?_
      refine wc_loop (e' := [(0, .slice Ab lb cb), (7, .slice A22 (0 + lb) c22), (9, .pointer (some ⟨g9, 0, none⟩)), (47, .slice (some ⟨g47, 0, none⟩) 4 4), (48, i64 ((4 : Nat) : Int)), (49, i64 (0)), (65, i64 ((0 + lb + (encN x).length : Nat) : Int)), (66, i64 ((0) : Int))]) (fun m e u => ∃ j : Nat, ∃ xs : List UInt8, m = (0 + lb + (encN x).length) - j ∧ e = [(0, .slice Ab lb cb), (7, .slice A22 (0 + lb) c22), (9, .pointer (some ⟨g9, 0, none⟩)), (47, .slice (some ⟨g47, 0, none⟩) 4 4), (48, i64 ((4 : Nat) : Int)), (49, i64 (0)), (65, i64 ((0 + lb + (encN x).length : Nat) : Int)), (66, i64 (j : Int))] ∧ Row u (fun i => m22 ≤ i ∧ i < m25) 5 1 (.slice A25 (0 + lb + (encN x).length) c25) (0 + lb + (encN x).length) (xs.map u8v) ∧ Blk u g9 32 #[.slice A25 (0 + lb + (encN x).length) c25, .slice A27 (0 + (encN x).length) c27] ∧ Ch (fun i => m22 ≤ i ∧ i < m25) w17 u ∧ j ≤ 0 + lb + (encN x).length ∧ Ch No w u)
        ⟨rfl, rfl, rfl, rfl, rfl, rfl, rfl, rfl, trivial⟩ ⟨0, ([] ++ b) ++ encN x, rfl, rfl, hW25.mono (fun i _ hF => by first | omega | (dsimp only at *; omega)), hb9, Ch.refl _ _, by omega, HC⟩ ?_
      rintro m e w21 ⟨j, xs, hm, rfl, hW25, hb9, hCi, hj, HC⟩
      have hzw21 := HC.size
      refine wc_seq ?_
      refine wc_region ?_
      refine wl rfl rfl rfl (p_lt rfl rfl) ?_
      refine wl_nil ?_
      refine x_seq ?_
      refine wc_seq ?_
      refine wc_if rfl (fun c3 => ?_) (fun c3 => ?_)
      ·
        have c3 := of_decide_eq_true c3
        refine wc_skip ?_
        refine x_seq ?_
        refine wc_seq ?_
        refine wc_block ?_
        refine wc_seq ?_
        refine wc_region ?_
        refine wl rfl rfl rfl (p_mv rfl) ?_
        refine wl rfl rfl rfl (p_as rfl) ?_
        refine wl_nil ?_
        refine x_seq ?_
        refine wc_region ?_
        refine wl rfl rfl rfl (p_ixA1 (j := 0) Try.underlying32 sz27 rfl rfl (by omega) (by omega) rfl) ?_
        refine wl rfl rfl rfl (p_ld Try.underlying27 rfl rfl (ld (hb9.cell rfl))) ?_
        refine wl rfl rfl rfl (p_mv rfl) ?_
        obtain ⟨b23, o23, hA23, hF23, hc23⟩ := (hW25.sl).opn (d := 0) (by omega)
        refine wl rfl rfl rfl (p_ixS1 Try.underlying27 sz5 rfl hA23 rfl (by omega) (by omega) (Int.toNat_natCast _)) ?_
        refine wl rfl rfl rfl (p_ld Try.underlying5 rfl rfl (ld (hc23 _ (by omega)))) ?_
        refine wl rfl rfl rfl (p_add (Z := ((xs.getD j 0 + 1 : UInt8).toNat : Int)) rfl rfl (wu8_succ _)) ?_
        obtain ⟨b24, o24, hA24, hF24, hc24⟩ := (hW25.sl).opn (d := 0) (by omega)
        refine wl rfl rfl rfl (p_ixS1 Try.underlying27 sz5 rfl hA24 rfl (by omega) (by omega) (Int.toNat_natCast _)) ?_
        refine wle rfl (e_stR one_u8 (by rfl) rfl rfl hW25 hA24 (by omega) (fun w25 hW25 hc hsz => ?_))
        have hzw25 := hc.size
        have HC := HC.trans hc (fun _ _ h => h) (fun k hk ht => absurd ht (by first | omega | (dsimp only at *; omega)))
        have hb9 := hb9.ch hc (by first | omega | (dsimp only; omega))
        refine wl_nil ?_
        refine x_in_normal ?_
        refine x_seq ?_
        refine wc_region ?_
        refine wl rfl rfl rfl (p_add rfl rfl (w64 (by omega))) ?_
        refine wl rfl rfl rfl (p_mv rfl) ?_
        refine wl_nil ?_
        refine x_round (e' := [(0, .slice Ab lb cb), (7, .slice A22 (0 + lb) c22), (9, .pointer (some ⟨g9, 0, none⟩)), (47, .slice (some ⟨g47, 0, none⟩) 4 4), (48, i64 ((4 : Nat) : Int)), (49, i64 (0)), (65, i64 ((0 + lb + (encN x).length : Nat) : Int)), (66, i64 ((j + 1) : Int))]) ⟨rfl, rfl, rfl, rfl, rfl, rfl, rfl, rfl, trivial⟩ (by rw [hm]; omega) ⟨j + 1, xs.set j (xs.getD j 0 + 1), rfl, rfl, hW25, hb9, hCi.trans hc (fun _ _ h => h) (fun _ _ h => h), by omega, HC⟩
      ·
        have c3 := of_decide_eq_false c3
        have hb := hb.ch hCi (by intro k hk ht; first | omega | (dsimp only at *; omega))
        have hb47 := hb47.ch hCi (by first | omega | (dsimp only; omega))
        have hW20 := hW20.ch hCi (by intro k hz hk ht; first | omega | (dsimp only at *; omega))
        have hW27 := hW27.ch hCi (by intro k hz hk ht; first | omega | (dsimp only at *; omega))
        have hW31 := hW31.ch hCi (by intro k hz hk ht; first | omega | (dsimp only at *; omega))
        have hW33 := hW33.ch hCi (by intro k hz hk ht; first | omega | (dsimp only at *; omega))
        have hW36 := hW36.ch hCi (by intro k hz hk ht; first | omega | (dsimp only at *; omega))
        have hW37 := hW37.ch hCi (by intro k hz hk ht; first | omega | (dsimp only at *; omega))
        have hW42 := hW42.ch hCi (by intro k hz hk ht; first | omega | (dsimp only at *; omega))
        have hW45 := hW45.ch hCi (by intro k hz hk ht; first | omega | (dsimp only at *; omega))
        refine wc_exit ?_
        refine x_then_exit ?_
        refine x_then_exit ?_
        refine x_in_here ?_
        refine x_in_normal ?_
        refine x_seq ?_
        refine wc_region ?_
        refine wl rfl rfl rfl (p_add rfl rfl (w64 (by omega))) ?_
        refine wl rfl rfl rfl (p_mv rfl) ?_
        refine wl_nil ?_
        refine x_rounds ?_
        refine wr_succ ?_
        refine wc_seq ?_
        refine wc_region ?_
        refine wl rfl rfl rfl (p_lt rfl rfl) ?_
        refine wl_nil ?_
        refine x_seq ?_
        refine wc_seq ?_
        refine wc_yes rfl (by decide) ?_
        refine wc_skip ?_
        refine x_seq ?_
        refine wc_seq ?_
        refine wc_block ?_
        refine wc_seq ?_
        refine wc_region ?_
        refine wl rfl rfl rfl (p_ixS (j := 2) Try.underlying35 sz32 rfl rfl rfl (by decide) (by decide) rfl) ?_
        refine wl rfl rfl rfl (p_ldA Try.underlying32 rfl (szL sz32 rfl) rfl (fun _ e => e ▸ rng2 hb47 2)) ?_
        have hltg47 := hb47.lt
        refine wle rfl (e_alloc (cs := #[.slice none 0 0, .slice none 0 0]) rfl (by rfl) rfl (fun w26 g9 hg9 hb9 hc hsz9 => ?_))
        have hzw26 := hc.size
        have HC := HC.tr hc
        have hb := hb.no hc
        have hb47 := hb47.ch hc (fun h => h)
        have hW20 := hW20.after hc
        have hW27 := hW27.after hc
        have hW31 := hW31.after hc
        have hW33 := hW33.after hc
        have hW36 := hW36.after hc
        have hW37 := hW37.after hc
        have hW42 := hW42.after hc
        have hW45 := hW45.after hc
        have hge9 : w.heap.size ≤ g9 := by have := HC.size; omega
        have neg47_9 : g47 < g9 := by omega
        refine wle rfl (e_stW (vs := _) (by rfl) (allOne rfl) rfl rfl hb9 (by rfl) (fun w27 hb9 hc hsz => ?_))
        have hzw27 := hc.size
        have HC := HC.trans hc (fun _ _ h => h) (fun k hk ht => absurd ht (by omega))
        first | have hb := hb.ch hc (by intro k hk ht; first | omega | (dsimp only at *; omega)) | have hb := hb.chT hc (by intro k hz hk ht; first | omega | (dsimp only at *; omega))
        have hb47 := hb47.ch hc (by omega)
        have hW20 := hW20.ch hc (by intro k hz hk ht; first | omega | (dsimp only at *; omega))
        have hW27 := hW27.ch hc (by intro k hz hk ht; first | omega | (dsimp only at *; omega))
        have hW31 := hW31.ch hc (by intro k hz hk ht; first | omega | (dsimp only at *; omega))
        have hW33 := hW33.ch hc (by intro k hz hk ht; first | omega | (dsimp only at *; omega))
        have hW36 := hW36.ch hc (by intro k hz hk ht; first | omega | (dsimp only at *; omega))
        have hW37 := hW37.ch hc (by intro k hz hk ht; first | omega | (dsimp only at *; omega))
        have hW42 := hW42.ch hc (by intro k hz hk ht; first | omega | (dsimp only at *; omega))
        have hW45 := hW45.ch hc (by intro k hz hk ht; first | omega | (dsimp only at *; omega))
        have hb9 : Blk w27 g9 32 #[.slice A31 (0 + lb + (encS s).length) c31, .slice A33 (0 + (encS s).length) c33] := hb9
        refine wl_nil ?_
        refine x_seq ?_
        refine wc_seq ?_
        refine wc_seq ?_
        refine wc_region ?_
        refine wl rfl rfl rfl (p_ixA1 (j := 0) Try.underlying32 sz27 rfl rfl (by omega) (by omega) rfl) ?_
        refine wl rfl rfl rfl (p_ld Try.underlying27 rfl rfl (ld (hb9.cell rfl))) ?_
        refine wl rfl rfl rfl (p_bts Try.underlying27 Try.underlying5 Try.underlying9 rfl (hW31.sl).len (fun _ e => e ▸ (hW31.sl).rd)) ?_
        refine wl rfl rfl rfl (p_mv rfl) ?_
        refine wl rfl rfl rfl (p_bts Try.underlying27 Try.underlying5 Try.underlying9 rfl (hb).len (fun _ e => e ▸ (hb).rd)) ?_
        refine wl rfl rfl rfl (p_ixA1 (j := 1) Try.underlying32 sz27 rfl rfl (by omega) (by omega) rfl) ?_
        refine wl rfl rfl rfl (p_ld Try.underlying27 rfl rfl (ld (hb9.cell rfl))) ?_
        refine wl rfl rfl rfl (p_bts Try.underlying27 Try.underlying5 Try.underlying9 rfl (hW33.sl).len (fun _ e => e ▸ (hW33.sl).rd)) ?_
        refine wl rfl rfl rfl (p_addT rfl rfl (by rw [str_size, str_size, hb.len, hW33.sl.len]; omega)) ?_
        refine wl rfl rfl rfl (p_neT rfl rfl) ?_
        refine wl_nil ?_
        refine x_seq ?_
        refine wc_no rfl (behind_ne _ _) ?_
        refine wc_skip ?_
        refine x_seq ?_
        refine wc_seq ?_
        refine wc_region ?_
        refine wl rfl rfl rfl (p_ixA1 (j := 0) Try.underlying32 sz27 rfl rfl (by omega) (by omega) rfl) ?_
        refine wl rfl rfl rfl (p_ld Try.underlying27 rfl rfl (ld (hb9.cell rfl))) ?_
        refine wl rfl rfl rfl (p_lenS Try.underlying27 rfl) ?_
        refine wl rfl rfl rfl (p_mv rfl) ?_
        refine wl_nil ?_
        refine x_seq ?_
        refine wc_block ?_
        refine wc_loop (e' := [(0, .slice Ab lb cb), (7, .slice A22 (0 + lb) c22), (9, .pointer (some ⟨g9, 0, none⟩)), (47, .slice (some ⟨g47, 0, none⟩) 4 4), (48, i64 ((4 : Nat) : Int)), (49, i64 (0 + 1)), (65, i64 ((0 + lb + (encS s).length : Nat) : Int)), (66, i64 ((0) : Int))]) (fun m e u => ∃ j : Nat, ∃ xs : List UInt8, m = (0 + lb + (encS s).length) - j ∧ e = [(0, .slice Ab lb cb), (7, .slice A22 (0 + lb) c22), (9, .pointer (some ⟨g9, 0, none⟩)), (47, .slice (some ⟨g47, 0, none⟩) 4 4), (48, i64 ((4 : Nat) : Int)), (49, i64 (0 + 1)), (65, i64 ((0 + lb + (encS s).length : Nat) : Int)), (66, i64 (j : Int))] ∧ Row u (fun i => m27 ≤ i ∧ i < m31) 5 1 (.slice A31 (0 + lb + (encS s).length) c31) (0 + lb + (encS s).length) (xs.map u8v) ∧ Blk u g9 32 #[.slice A31 (0 + lb + (encS s).length) c31, .slice A33 (0 + (encS s).length) c33] ∧ Ch (fun i => m27 ≤ i ∧ i < m31) w27 u ∧ j ≤ 0 + lb + (encS s).length ∧ Ch No w u)
          ⟨rfl, rfl, rfl, rfl, rfl, rfl, rfl, rfl, trivial⟩ ⟨0, ([] ++ b) ++ encS s, rfl, rfl, hW31.mono (fun i _ hF => by first | omega | (dsimp only at *; omega)), hb9, Ch.refl _ _, by omega, HC⟩ ?_
        rintro m e w31 ⟨j, xs, hm, rfl, hW31, hb9, hCi, hj, HC⟩
        have hzw31 := HC.size
        refine wc_seq ?_
        refine wc_region ?_
        refine wl rfl rfl rfl (p_lt rfl rfl) ?_
        refine wl_nil ?_
        refine x_seq ?_
        refine wc_seq ?_
        refine wc_if rfl (fun c3 => ?_) (fun c3 => ?_)
        ·
          have c3 := of_decide_eq_true c3
          refine wc_skip ?_
          refine x_seq ?_
          refine wc_seq ?_
          refine wc_block ?_
          refine wc_seq ?_
          refine wc_region ?_
          refine wl rfl rfl rfl (p_mv rfl) ?_
          refine wl rfl rfl rfl (p_as rfl) ?_
          refine wl_nil ?_
          refine x_seq ?_
          refine wc_region ?_
          refine wl rfl rfl rfl (p_ixA1 (j := 0) Try.underlying32 sz27 rfl rfl (by omega) (by omega) rfl) ?_
          refine wl rfl rfl rfl (p_ld Try.underlying27 rfl rfl (ld (hb9.cell rfl))) ?_
          refine wl rfl rfl rfl (p_mv rfl) ?_
          obtain ⟨b33, o33, hA33, hF33, hc33⟩ := (hW31.sl).opn (d := 0) (by omega)
          refine wl rfl rfl rfl (p_ixS1 Try.underlying27 sz5 rfl hA33 rfl (by omega) (by omega) (Int.toNat_natCast _)) ?_
          refine wl rfl rfl rfl (p_ld Try.underlying5 rfl rfl (ld (hc33 _ (by omega)))) ?_
          refine wl rfl rfl rfl (p_add (Z := ((xs.getD j 0 + 1 : UInt8).toNat : Int)) rfl rfl (wu8_succ _)) ?_
          obtain ⟨b34, o34, hA34, hF34, hc34⟩ := (hW31.sl).opn (d := 0) (by omega)
          refine wl rfl rfl rfl (p_ixS1 Try.underlying27 sz5 rfl hA34 rfl (by omega) (by omega) (Int.toNat_natCast _)) ?_
          refine wle rfl (e_stR one_u8 (by rfl) rfl rfl hW31 hA34 (by omega) (fun w35 hW31 hc hsz => ?_))
          have hzw35 := hc.size
          have HC := HC.trans hc (fun _ _ h => h) (fun k hk ht => absurd ht (by first | omega | (dsimp only at *; omega)))
          have hb9 := hb9.ch hc (by first | omega | (dsimp only; omega))
          refine wl_nil ?_
          refine x_in_normal ?_
          refine x_seq ?_
          refine wc_region ?_
          refine wl rfl rfl rfl (p_add rfl rfl (w64 (by omega))) ?_
          refine wl rfl rfl rfl (p_mv rfl) ?_
          refine wl_nil ?_
          refine x_round (e' := [(0, .slice Ab lb cb), (7, .slice A22 (0 + lb) c22), (9, .pointer (some ⟨g9, 0, none⟩)), (47, .slice (some ⟨g47, 0, none⟩) 4 4), (48, i64 ((4 : Nat) : Int)), (49, i64 (0 + 1)), (65, i64 ((0 + lb + (encS s).length : Nat) : Int)), (66, i64 ((j + 1) : Int))]) ⟨rfl, rfl, rfl, rfl, rfl, rfl, rfl, rfl, trivial⟩ (by rw [hm]; omega) ⟨j + 1, xs.set j (xs.getD j 0 + 1), rfl, rfl, hW31, hb9, hCi.trans hc (fun _ _ h => h) (fun _ _ h => h), by omega, HC⟩
        ·
          have c3 := of_decide_eq_false c3
          have hb := hb.ch hCi (by intro k hk ht; first | omega | (dsimp only at *; omega))
          have hb47 := hb47.ch hCi (by first | omega | (dsimp only; omega))
          have hW20 := hW20.ch hCi (by intro k hz hk ht; first | omega | (dsimp only at *; omega))
          have hW27 := hW27.ch hCi (by intro k hz hk ht; first | omega | (dsimp only at *; omega))
          have hW33 := hW33.ch hCi (by intro k hz hk ht; first | omega | (dsimp only at *; omega))
          have hW36 := hW36.ch hCi (by intro k hz hk ht; first | omega | (dsimp only at *; omega))
          have hW37 := hW37.ch hCi (by intro k hz hk ht; first | omega | (dsimp only at *; omega))
          have hW42 := hW42.ch hCi (by intro k hz hk ht; first | omega | (dsimp only at *; omega))
          have hW45 := hW45.ch hCi (by intro k hz hk ht; first | omega | (dsimp only at *; omega))
          refine wc_exit ?_
          refine x_then_exit ?_
          refine x_then_exit ?_
          refine x_in_here ?_
          refine x_in_normal ?_
          refine x_seq ?_
          refine wc_region ?_
          refine wl rfl rfl rfl (p_add rfl rfl (w64 (by omega))) ?_
          refine wl rfl rfl rfl (p_mv rfl) ?_
          refine wl_nil ?_
          refine x_rounds ?_
          refine wr_succ ?_
          refine wc_seq ?_
          refine wc_region ?_
          refine wl rfl rfl rfl (p_lt rfl rfl) ?_
          refine wl_nil ?_
          refine x_seq ?_
          refine wc_seq ?_
          refine wc_yes rfl (by decide) ?_
          refine wc_skip ?_
          refine x_seq ?_
          refine wc_seq ?_
          refine wc_block ?_
          refine wc_seq ?_
          refine wc_region ?_
          refine wl rfl rfl rfl (p_ixS (j := 4) Try.underlying35 sz32 rfl rfl rfl (by decide) (by decide) rfl) ?_
          refine wl rfl rfl rfl (p_ldA Try.underlying32 rfl (szL sz32 rfl) rfl (fun _ e => e ▸ rng2 hb47 2)) ?_
          have hltg47 := hb47.lt
          refine wle rfl (e_alloc (cs := #[.slice none 0 0, .slice none 0 0]) rfl (by rfl) rfl (fun w36 g9 hg9 hb9 hc hsz9 => ?_))
          have hzw36 := hc.size
          have HC := HC.tr hc
          have hb := hb.no hc
          have hb47 := hb47.ch hc (fun h => h)
          have hW20 := hW20.after hc
          have hW27 := hW27.after hc
          have hW33 := hW33.after hc
          have hW36 := hW36.after hc
          have hW37 := hW37.after hc
          have hW42 := hW42.after hc
          have hW45 := hW45.after hc
          have hge9 : w.heap.size ≤ g9 := by have := HC.size; omega
          have neg47_9 : g47 < g9 := by omega
          refine wle rfl (e_stW (vs := _) (by rfl) (allOne rfl) rfl rfl hb9 (by rfl) (fun w37 hb9 hc hsz => ?_))
          have hzw37 := hc.size
          have HC := HC.trans hc (fun _ _ h => h) (fun k hk ht => absurd ht (by omega))
          first | have hb := hb.ch hc (by intro k hk ht; first | omega | (dsimp only at *; omega)) | have hb := hb.chT hc (by intro k hz hk ht; first | omega | (dsimp only at *; omega))
          have hb47 := hb47.ch hc (by omega)
          have hW20 := hW20.ch hc (by intro k hz hk ht; first | omega | (dsimp only at *; omega))
          have hW27 := hW27.ch hc (by intro k hz hk ht; first | omega | (dsimp only at *; omega))
          have hW33 := hW33.ch hc (by intro k hz hk ht; first | omega | (dsimp only at *; omega))
          have hW36 := hW36.ch hc (by intro k hz hk ht; first | omega | (dsimp only at *; omega))
          have hW37 := hW37.ch hc (by intro k hz hk ht; first | omega | (dsimp only at *; omega))
          have hW42 := hW42.ch hc (by intro k hz hk ht; first | omega | (dsimp only at *; omega))
          have hW45 := hW45.ch hc (by intro k hz hk ht; first | omega | (dsimp only at *; omega))
          have hb9 : Blk w37 g9 32 #[.slice A36 (0 + lb + 1) c36, .slice A37 (0 + 1) c37] := hb9
          refine wl_nil ?_
          refine x_seq ?_
          refine wc_seq ?_
          refine wc_seq ?_
          refine wc_region ?_
          refine wl rfl rfl rfl (p_ixA1 (j := 0) Try.underlying32 sz27 rfl rfl (by omega) (by omega) rfl) ?_
          refine wl rfl rfl rfl (p_ld Try.underlying27 rfl rfl (ld (hb9.cell rfl))) ?_
          refine wl rfl rfl rfl (p_bts Try.underlying27 Try.underlying5 Try.underlying9 rfl (hW36.sl).len (fun _ e => e ▸ (hW36.sl).rd)) ?_
          refine wl rfl rfl rfl (p_mv rfl) ?_
          refine wl rfl rfl rfl (p_bts Try.underlying27 Try.underlying5 Try.underlying9 rfl (hb).len (fun _ e => e ▸ (hb).rd)) ?_
          refine wl rfl rfl rfl (p_ixA1 (j := 1) Try.underlying32 sz27 rfl rfl (by omega) (by omega) rfl) ?_
          refine wl rfl rfl rfl (p_ld Try.underlying27 rfl rfl (ld (hb9.cell rfl))) ?_
          refine wl rfl rfl rfl (p_bts Try.underlying27 Try.underlying5 Try.underlying9 rfl (hW37.sl).len (fun _ e => e ▸ (hW37.sl).rd)) ?_
          refine wl rfl rfl rfl (p_addT rfl rfl (by rw [str_size, str_size, hb.len, hW37.sl.len]; omega)) ?_
          refine wl rfl rfl rfl (p_neT rfl rfl) ?_
          refine wl_nil ?_
          refine x_seq ?_
          refine wc_no rfl (behind_ne _ _) ?_
          refine wc_skip ?_
          refine x_seq ?_
          refine wc_seq ?_
          refine wc_region ?_
          refine wl rfl rfl rfl (p_ixA1 (j := 0) Try.underlying32 sz27 rfl rfl (by omega) (by omega) rfl) ?_
          refine wl rfl rfl rfl (p_ld Try.underlying27 rfl rfl (ld (hb9.cell rfl))) ?_
          refine wl rfl rfl rfl (p_lenS Try.underlying27 rfl) ?_
          refine wl rfl rfl rfl (p_mv rfl) ?_
          refine wl_nil ?_
          refine x_seq ?_
          refine wc_block ?_
          refine wc_loop (e' := [(0, .slice Ab lb cb), (7, .slice A22 (0 + lb) c22), (9, .pointer (some ⟨g9, 0, none⟩)), (47, .slice (some ⟨g47, 0, none⟩) 4 4), (48, i64 ((4 : Nat) : Int)), (49, i64 (0 + 1 + 1)), (65, i64 ((0 + lb + 1 : Nat) : Int)), (66, i64 ((0) : Int))]) (fun m e u => ∃ j : Nat, ∃ xs : List UInt8, m = (0 + lb + 1) - j ∧ e = [(0, .slice Ab lb cb), (7, .slice A22 (0 + lb) c22), (9, .pointer (some ⟨g9, 0, none⟩)), (47, .slice (some ⟨g47, 0, none⟩) 4 4), (48, i64 ((4 : Nat) : Int)), (49, i64 (0 + 1 + 1)), (65, i64 ((0 + lb + 1 : Nat) : Int)), (66, i64 (j : Int))] ∧ Row u (fun i => m33 ≤ i ∧ i < m36) 5 1 (.slice A36 (0 + lb + 1) c36) (0 + lb + 1) (xs.map u8v) ∧ Blk u g9 32 #[.slice A36 (0 + lb + 1) c36, .slice A37 (0 + 1) c37] ∧ Ch (fun i => m33 ≤ i ∧ i < m36) w37 u ∧ j ≤ 0 + lb + 1 ∧ Ch No w u)
            ⟨rfl, rfl, rfl, rfl, rfl, rfl, rfl, rfl, trivial⟩ ⟨0, ([] ++ b) ++ [if true = true then 1 else 0], rfl, rfl, hW36.mono (fun i _ hF => by first | omega | (dsimp only at *; omega)), hb9, Ch.refl _ _, by omega, HC⟩ ?_
          rintro m e w41 ⟨j, xs, hm, rfl, hW36, hb9, hCi, hj, HC⟩
          have hzw41 := HC.size
          refine wc_seq ?_
          refine wc_region ?_
          refine wl rfl rfl rfl (p_lt rfl rfl) ?_
          refine wl_nil ?_
          refine x_seq ?_
          refine wc_seq ?_
          refine wc_if rfl (fun c3 => ?_) (fun c3 => ?_)
          ·
            have c3 := of_decide_eq_true c3
            refine wc_skip ?_
            refine x_seq ?_
            refine wc_seq ?_
            refine wc_block ?_
            refine wc_seq ?_
            refine wc_region ?_
            refine wl rfl rfl rfl (p_mv rfl) ?_
            refine wl rfl rfl rfl (p_as rfl) ?_
            refine wl_nil ?_
            refine x_seq ?_
            refine wc_region ?_
            refine wl rfl rfl rfl (p_ixA1 (j := 0) Try.underlying32 sz27 rfl rfl (by omega) (by omega) rfl) ?_
            refine wl rfl rfl rfl (p_ld Try.underlying27 rfl rfl (ld (hb9.cell rfl))) ?_
            refine wl rfl rfl rfl (p_mv rfl) ?_
            obtain ⟨b43, o43, hA43, hF43, hc43⟩ := (hW36.sl).opn (d := 0) (by omega)
            refine wl rfl rfl rfl (p_ixS1 Try.underlying27 sz5 rfl hA43 rfl (by omega) (by omega) (Int.toNat_natCast _)) ?_
            refine wl rfl rfl rfl (p_ld Try.underlying5 rfl rfl (ld (hc43 _ (by omega)))) ?_
            refine wl rfl rfl rfl (p_add (Z := ((xs.getD j 0 + 1 : UInt8).toNat : Int)) rfl rfl (wu8_succ _)) ?_
            obtain ⟨b44, o44, hA44, hF44, hc44⟩ := (hW36.sl).opn (d := 0) (by omega)
            refine wl rfl rfl rfl (p_ixS1 Try.underlying27 sz5 rfl hA44 rfl (by omega) (by omega) (Int.toNat_natCast _)) ?_
            refine wle rfl (e_stR one_u8 (by rfl) rfl rfl hW36 hA44 (by omega) (fun w45 hW36 hc hsz => ?_))
            have hzw45 := hc.size
            have HC := HC.trans hc (fun _ _ h => h) (fun k hk ht => absurd ht (by first | omega | (dsimp only at *; omega)))
            have hb9 := hb9.ch hc (by first | omega | (dsimp only; omega))
            refine wl_nil ?_
            refine x_in_normal ?_
            refine x_seq ?_
            refine wc_region ?_
            refine wl rfl rfl rfl (p_add rfl rfl (w64 (by omega))) ?_
            refine wl rfl rfl rfl (p_mv rfl) ?_
            refine wl_nil ?_
            refine x_round (e' := [(0, .slice Ab lb cb), (7, .slice A22 (0 + lb) c22), (9, .pointer (some ⟨g9, 0, none⟩)), (47, .slice (some ⟨g47, 0, none⟩) 4 4), (48, i64 ((4 : Nat) : Int)), (49, i64 (0 + 1 + 1)), (65, i64 ((0 + lb + 1 : Nat) : Int)), (66, i64 ((j + 1) : Int))]) ⟨rfl, rfl, rfl, rfl, rfl, rfl, rfl, rfl, trivial⟩ (by rw [hm]; omega) ⟨j + 1, xs.set j (xs.getD j 0 + 1), rfl, rfl, hW36, hb9, hCi.trans hc (fun _ _ h => h) (fun _ _ h => h), by omega, HC⟩
          ·
            have c3 := of_decide_eq_false c3
            have hb := hb.ch hCi (by intro k hk ht; first | omega | (dsimp only at *; omega))
            have hb47 := hb47.ch hCi (by first | omega | (dsimp only; omega))
            have hW20 := hW20.ch hCi (by intro k hz hk ht; first | omega | (dsimp only at *; omega))
            have hW27 := hW27.ch hCi (by intro k hz hk ht; first | omega | (dsimp only at *; omega))
            have hW33 := hW33.ch hCi (by intro k hz hk ht; first | omega | (dsimp only at *; omega))
            have hW37 := hW37.ch hCi (by intro k hz hk ht; first | omega | (dsimp only at *; omega))
            have hW42 := hW42.ch hCi (by intro k hz hk ht; first | omega | (dsimp only at *; omega))
            have hW45 := hW45.ch hCi (by intro k hz hk ht; first | omega | (dsimp only at *; omega))
            refine wc_exit ?_
            refine x_then_exit ?_
            refine x_then_exit ?_
            refine x_in_here ?_
            refine x_in_normal ?_
            refine x_seq ?_
            refine wc_region ?_
            refine wl rfl rfl rfl (p_add rfl rfl (w64 (by omega))) ?_
            refine wl rfl rfl rfl (p_mv rfl) ?_
            refine wl_nil ?_
            refine x_rounds ?_
            refine wr_succ ?_
            refine wc_seq ?_
            refine wc_region ?_
            refine wl rfl rfl rfl (p_lt rfl rfl) ?_
            refine wl_nil ?_
            refine x_seq ?_
            refine wc_seq ?_
            refine wc_yes rfl (by decide) ?_
            refine wc_skip ?_
            refine x_seq ?_
            refine wc_seq ?_
            refine wc_block ?_
            refine wc_seq ?_
            refine wc_region ?_
            refine wl rfl rfl rfl (p_ixS (j := 6) Try.underlying35 sz32 rfl rfl rfl (by decide) (by decide) rfl) ?_
            refine wl rfl rfl rfl (p_ldA Try.underlying32 rfl (szL sz32 rfl) rfl (fun _ e => e ▸ rng2 hb47 2)) ?_
            have hltg47 := hb47.lt
            refine wle rfl (e_alloc (cs := #[.slice none 0 0, .slice none 0 0]) rfl (by rfl) rfl (fun w46 g9 hg9 hb9 hc hsz9 => ?_))
            have hzw46 := hc.size
            have HC := HC.tr hc
            have hb := hb.no hc
            have hb47 := hb47.ch hc (fun h => h)
            have hW20 := hW20.after hc
            have hW27 := hW27.after hc
            have hW33 := hW33.after hc
            have hW37 := hW37.after hc
            have hW42 := hW42.after hc
            have hW45 := hW45.after hc
            have hge9 : w.heap.size ≤ g9 := by have := HC.size; omega
            have neg47_9 : g47 < g9 := by omega
            refine wle rfl (e_stW (vs := _) (by rfl) (allOne rfl) rfl rfl hb9 (by rfl) (fun w47 hb9 hc hsz => ?_))
            have hzw47 := hc.size
            have HC := HC.trans hc (fun _ _ h => h) (fun k hk ht => absurd ht (by omega))
            first | have hb := hb.ch hc (by intro k hk ht; first | omega | (dsimp only at *; omega)) | have hb := hb.chT hc (by intro k hz hk ht; first | omega | (dsimp only at *; omega))
            have hb47 := hb47.ch hc (by omega)
            have hW20 := hW20.ch hc (by intro k hz hk ht; first | omega | (dsimp only at *; omega))
            have hW27 := hW27.ch hc (by intro k hz hk ht; first | omega | (dsimp only at *; omega))
            have hW33 := hW33.ch hc (by intro k hz hk ht; first | omega | (dsimp only at *; omega))
            have hW37 := hW37.ch hc (by intro k hz hk ht; first | omega | (dsimp only at *; omega))
            have hW42 := hW42.ch hc (by intro k hz hk ht; first | omega | (dsimp only at *; omega))
            have hW45 := hW45.ch hc (by intro k hz hk ht; first | omega | (dsimp only at *; omega))
            have hb9 : Blk w47 g9 32 #[.slice A42 (0 + lb + (encL [s]).length) c42, .slice A45 (0 + (encL [s]).length) c45] := hb9
            refine wl_nil ?_
            refine x_seq ?_
            refine wc_seq ?_
            refine wc_seq ?_
            refine wc_region ?_
            refine wl rfl rfl rfl (p_ixA1 (j := 0) Try.underlying32 sz27 rfl rfl (by omega) (by omega) rfl) ?_
            refine wl rfl rfl rfl (p_ld Try.underlying27 rfl rfl (ld (hb9.cell rfl))) ?_
            refine wl rfl rfl rfl (p_bts Try.underlying27 Try.underlying5 Try.underlying9 rfl (hW42.sl).len (fun _ e => e ▸ (hW42.sl).rd)) ?_
            refine wl rfl rfl rfl (p_mv rfl) ?_
            refine wl rfl rfl rfl (p_bts Try.underlying27 Try.underlying5 Try.underlying9 rfl (hb).len (fun _ e => e ▸ (hb).rd)) ?_
            refine wl rfl rfl rfl (p_ixA1 (j := 1) Try.underlying32 sz27 rfl rfl (by omega) (by omega) rfl) ?_
            refine wl rfl rfl rfl (p_ld Try.underlying27 rfl rfl (ld (hb9.cell rfl))) ?_
            refine wl rfl rfl rfl (p_bts Try.underlying27 Try.underlying5 Try.underlying9 rfl (hW45.sl).len (fun _ e => e ▸ (hW45.sl).rd)) ?_
            refine wl rfl rfl rfl (p_addT rfl rfl (by rw [str_size, str_size, hb.len, hW45.sl.len]; omega)) ?_
            refine wl rfl rfl rfl (p_neT rfl rfl) ?_
            refine wl_nil ?_
            refine x_seq ?_
            refine wc_no rfl (behind_ne _ _) ?_
            refine wc_skip ?_
            refine x_seq ?_
            refine wc_seq ?_
            refine wc_region ?_
            refine wl rfl rfl rfl (p_ixA1 (j := 0) Try.underlying32 sz27 rfl rfl (by omega) (by omega) rfl) ?_
            refine wl rfl rfl rfl (p_ld Try.underlying27 rfl rfl (ld (hb9.cell rfl))) ?_
            refine wl rfl rfl rfl (p_lenS Try.underlying27 rfl) ?_
            refine wl rfl rfl rfl (p_mv rfl) ?_
            refine wl_nil ?_
            refine x_seq ?_
            refine wc_block ?_
            refine wc_loop (e' := [(0, .slice Ab lb cb), (7, .slice A22 (0 + lb) c22), (9, .pointer (some ⟨g9, 0, none⟩)), (47, .slice (some ⟨g47, 0, none⟩) 4 4), (48, i64 ((4 : Nat) : Int)), (49, i64 (0 + 1 + 1 + 1)), (65, i64 ((0 + lb + (encL [s]).length : Nat) : Int)), (66, i64 ((0) : Int))]) (fun m e u => ∃ j : Nat, ∃ xs : List UInt8, m = (0 + lb + (encL [s]).length) - j ∧ e = [(0, .slice Ab lb cb), (7, .slice A22 (0 + lb) c22), (9, .pointer (some ⟨g9, 0, none⟩)), (47, .slice (some ⟨g47, 0, none⟩) 4 4), (48, i64 ((4 : Nat) : Int)), (49, i64 (0 + 1 + 1 + 1)), (65, i64 ((0 + lb + (encL [s]).length : Nat) : Int)), (66, i64 (j : Int))] ∧ Row u (fun i => m37 ≤ i ∧ i < m42) 5 1 (.slice A42 (0 + lb + (encL [s]).length) c42) (0 + lb + (encL [s]).length) (xs.map u8v) ∧ Blk u g9 32 #[.slice A42 (0 + lb + (encL [s]).length) c42, .slice A45 (0 + (encL [s]).length) c45] ∧ Ch (fun i => m37 ≤ i ∧ i < m42) w47 u ∧ j ≤ 0 + lb + (encL [s]).length ∧ Ch No w u)
              ⟨rfl, rfl, rfl, rfl, rfl, rfl, rfl, rfl, trivial⟩ ⟨0, ([] ++ b) ++ encL [s], rfl, rfl, hW42.mono (fun i _ hF => by first | omega | (dsimp only at *; omega)), hb9, Ch.refl _ _, by omega, HC⟩ ?_
            rintro m e w51 ⟨j, xs, hm, rfl, hW42, hb9, hCi, hj, HC⟩
            have hzw51 := HC.size
            refine wc_seq ?_
            refine wc_region ?_
            refine wl rfl rfl rfl (p_lt rfl rfl) ?_
            refine wl_nil ?_
            refine x_seq ?_
            refine wc_seq ?_
            refine wc_if rfl (fun c3 => ?_) (fun c3 => ?_)
            ·
              have c3 := of_decide_eq_true c3
              refine wc_skip ?_
              refine x_seq ?_
              refine wc_seq ?_
              refine wc_block ?_
              refine wc_seq ?_
              refine wc_region ?_
              refine wl rfl rfl rfl (p_mv rfl) ?_
              refine wl rfl rfl rfl (p_as rfl) ?_
              refine wl_nil ?_
              refine x_seq ?_
              refine wc_region ?_
              refine wl rfl rfl rfl (p_ixA1 (j := 0) Try.underlying32 sz27 rfl rfl (by omega) (by omega) rfl) ?_
              refine wl rfl rfl rfl (p_ld Try.underlying27 rfl rfl (ld (hb9.cell rfl))) ?_
              refine wl rfl rfl rfl (p_mv rfl) ?_
              obtain ⟨b53, o53, hA53, hF53, hc53⟩ := (hW42.sl).opn (d := 0) (by omega)
              refine wl rfl rfl rfl (p_ixS1 Try.underlying27 sz5 rfl hA53 rfl (by omega) (by omega) (Int.toNat_natCast _)) ?_
              refine wl rfl rfl rfl (p_ld Try.underlying5 rfl rfl (ld (hc53 _ (by omega)))) ?_
              refine wl rfl rfl rfl (p_add (Z := ((xs.getD j 0 + 1 : UInt8).toNat : Int)) rfl rfl (wu8_succ _)) ?_
              obtain ⟨b54, o54, hA54, hF54, hc54⟩ := (hW42.sl).opn (d := 0) (by omega)
              refine wl rfl rfl rfl (p_ixS1 Try.underlying27 sz5 rfl hA54 rfl (by omega) (by omega) (Int.toNat_natCast _)) ?_
              refine wle rfl (e_stR one_u8 (by rfl) rfl rfl hW42 hA54 (by omega) (fun w55 hW42 hc hsz => ?_))
              have hzw55 := hc.size
              have HC := HC.trans hc (fun _ _ h => h) (fun k hk ht => absurd ht (by first | omega | (dsimp only at *; omega)))
              have hb9 := hb9.ch hc (by first | omega | (dsimp only; omega))
              refine wl_nil ?_
              refine x_in_normal ?_
              refine x_seq ?_
              refine wc_region ?_
              refine wl rfl rfl rfl (p_add rfl rfl (w64 (by omega))) ?_
              refine wl rfl rfl rfl (p_mv rfl) ?_
              refine wl_nil ?_
              refine x_round (e' := [(0, .slice Ab lb cb), (7, .slice A22 (0 + lb) c22), (9, .pointer (some ⟨g9, 0, none⟩)), (47, .slice (some ⟨g47, 0, none⟩) 4 4), (48, i64 ((4 : Nat) : Int)), (49, i64 (0 + 1 + 1 + 1)), (65, i64 ((0 + lb + (encL [s]).length : Nat) : Int)), (66, i64 ((j + 1) : Int))]) ⟨rfl, rfl, rfl, rfl, rfl, rfl, rfl, rfl, trivial⟩ (by rw [hm]; omega) ⟨j + 1, xs.set j (xs.getD j 0 + 1), rfl, rfl, hW42, hb9, hCi.trans hc (fun _ _ h => h) (fun _ _ h => h), by omega, HC⟩
            ·
              have c3 := of_decide_eq_false c3
              have hb := hb.ch hCi (by intro k hk ht; first | omega | (dsimp only at *; omega))
              have hb47 := hb47.ch hCi (by first | omega | (dsimp only; omega))
              have hW20 := hW20.ch hCi (by intro k hz hk ht; first | omega | (dsimp only at *; omega))
              have hW27 := hW27.ch hCi (by intro k hz hk ht; first | omega | (dsimp only at *; omega))
              have hW33 := hW33.ch hCi (by intro k hz hk ht; first | omega | (dsimp only at *; omega))
              have hW37 := hW37.ch hCi (by intro k hz hk ht; first | omega | (dsimp only at *; omega))
              have hW45 := hW45.ch hCi (by intro k hz hk ht; first | omega | (dsimp only at *; omega))
              refine wc_exit ?_
              refine x_then_exit ?_
              refine x_then_exit ?_
              refine x_in_here ?_
              refine x_in_normal ?_
              refine x_seq ?_
              refine wc_region ?_
              refine wl rfl rfl rfl (p_add rfl rfl (w64 (by omega))) ?_
              refine wl rfl rfl rfl (p_mv rfl) ?_
              refine wl_nil ?_
              refine x_rounds ?_
              refine wr_succ ?_
              refine wc_seq ?_
              refine wc_region ?_
              refine wl rfl rfl rfl (p_lt rfl rfl) ?_
              refine wl_nil ?_
              refine x_seq ?_
              refine wc_seq ?_
              refine wc_no rfl (by decide) ?_
              refine wc_exit ?_
              refine x_then_exit ?_
              refine x_then_exit ?_
              refine x_in_here ?_
              refine x_seq ?_
              refine wc_seq ?_
              refine wc_region ?_
              refine wl rfl rfl rfl (p_mv rfl) ?_
              refine wl rfl rfl rfl (p_bts Try.underlying27 Try.underlying5 Try.underlying9 rfl (hW20.sl).len (fun _ e => e ▸ (hW20.sl).rd)) ?_
              refine wl rfl rfl rfl (p_mv rfl) ?_
              refine wl rfl rfl rfl (p_bts Try.underlying27 Try.underlying5 Try.underlying9 rfl (hb).len (fun _ e => e ▸ (hb).rd)) ?_
              refine wl rfl rfl rfl (p_eqT rfl rfl) ?_
              refine wl rfl rfl rfl (p_mv rfl) ?_
              refine wl_know (d := 83) (b' := true) rfl ((by first | exact beq_self_eq_true _ | exact decide_eq_true rfl)) ?_
              refine wle_g (gd_ rfl rfl rfl rfl rfl rfl) (e_call ent11 rfl rfl (lives_any) ?_)
              rintro _ w56 ⟨rfl, hc⟩
              refine ⟨_, rfl, ?_⟩
              have hzw56 := hc.size
              have HC := HC.tr hc
              have hb := hb.no hc
              have hb47 := hb47.ch hc (fun h => h)
              have hW20 := hW20.after hc
              have hW27 := hW27.after hc
              have hW33 := hW33.after hc
              have hW37 := hW37.after hc
              have hW45 := hW45.after hc
              refine wl rfl rfl rfl (p_pickT rfl rfl) ?_
              refine wl rfl rfl rfl (p_as rfl) ?_
              refine wl_nil ?_
              refine x_seq ?_
              refine wc_ret ?_
              refine fin_run (res1 rfl rfl) ?_
              exact ⟨rfl, HC⟩
end Go.Proofs.Ytdbdconmcgcooaa
