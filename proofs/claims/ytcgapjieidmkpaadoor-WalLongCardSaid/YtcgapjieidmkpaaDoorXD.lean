/-
  Own text, printed by a program of mine (wip/gx): what functions of the program do, walked operation by operation.
-/
import Derived.Test.YtcgapjieidmkpaaDoorProg
import Derived.Test.YtcgapjieidmkpaaDoorGxAgg
import Derived.Test.YtcgapjieidmkpaaDoorTab
import Derived.Test.YtcgapjieidmkpaaDoorGxZer
import Derived.Test.YtcgapjieidmkpaaDoorPlDisk
import Derived.Test.YtcgapjieidmkpaaDoorPlDiskSt
import Derived.Test.YtcgapjieidmkpaaDoorPlDiskOk
import Derived.Test.YtcgapjieidmkpaaDoorPlDiskC
import Derived.Test.YtcgapjieidmkpaaDoorPlDiskLaw
import Derived.Test.YtcgapjieidmkpaaDoorPlActD
import Derived.Test.YtcgapjieidmkpaaDoorPlActs
import Derived.Test.YtcgapjieidmkpaaDoorPlWal
import Derived.Test.YtcgapjieidmkpaaDoorPlWalSt
import Derived.Test.YtcgapjieidmkpaaDoorPlWalLaw
import Derived.Test.YtcgapjieidmkpaaDoorDTd
import Derived.Test.YtcgapjieidmkpaaDoorVD
import Derived.Test.YtcgapjieidmkpaaDoorXW
set_option linter.unusedVariables false
namespace Go.Proofs.YtcgapjieidmkpaaDoor
open Go.RowKit Go.Gx
open Go.Plain
set_option maxHeartbeats 8000000 in
set_option maxRecDepth 20000 in
theorem walLong_walk {w : World} {n k : Nat} (hn : n < 18446744073709551616) (hk : k < 18446744073709551616) (hnib : Sl w (fun k => k = 0) u32v (some ⟨0, 0, none⟩) 16 16 nib) :
    Calls Tryd.prog 7 #[.int .u64 (n : Int), .int .u64 (k : Int)] w fun e w' => e = .returned (.bool true) ∧ Ch No w w' := by
  have hbz : 0 < w.heap.size := hnib.size (by omega) rfl
  have HC : Ch No w w := Ch.refl _ _
  refine enter' (args := [.int .u64 (n : Int), .int .u64 (k : Int)]) (n := 86) Tryd.func7 rfl rfl rfl ?_
  refine wc_seq ?_
  refine wc_region ?_
  refine wl rfl rfl rfl (p_as rfl) ?_
  refine wl_nil ?_
  refine x_seq ?_
  refine wc_seq ?_
  refine wc_region ?_
  refine wl rfl rfl rfl (p_mv rfl) ?_
  refine wl rfl rfl rfl (p_rem (Z := ((n % 9 : Nat) : Int)) rfl rfl (by omega) rfl) ?_
  refine wl rfl rfl rfl (p_conv Tryd.underlying30 Tryd.underlying3 rfl (w64 (by omega))) ?_
  obtain ⟨sz0, hm0⟩ : ∃ x, x = 8188 + n % 9 := ⟨_, rfl⟩
  refine wl rfl rfl rfl (p_add (Z := (sz0 : Int)) rfl rfl (by rw [w64 (by omega)]; omega)) ?_
  refine wl rfl rfl rfl (p_as rfl) ?_
  refine wl_nil ?_
  refine x_seq ?_
  refine wc_seq ?_
  refine wc_region ?_
  refine wle rfl (e_call ent13 rfl rfl (new_any (n := 800) (by omega) (by omega)) ?_)
  rintro _ w1 ⟨g17, rfl, hg17, hdk, hc⟩
  refine ⟨_, rfl, ?_⟩
  have hzw1 := hc.size
  have HC := HC.tr hc
  have hnib := hnib.no hc
  obtain ⟨O17, hd17, hOl17⟩ := CD.first (w0 := w) hdk (newD_ok _) (by omega) (Nat.zero_le _) (Nat.zero_le _) (by omega)
  refine wl rfl rfl rfl (p_as rfl) ?_
  refine wl_nil ?_
  refine x_seq ?_
  refine wc_seq ?_
  refine wc_region ?_
  refine wl rfl rfl rfl (p_mv rfl) ?_
  refine wle rfl (e_call ent14 rfl rfl (open6_any hd17 (by omega) hnib (by omega)) ?_)
  rintro _ w2 ⟨O20, V20, A20, q20, c20, wa20, wb20, r20, hr20, rfl, hdn, hO20, hc, hza20, hzb20, hzc20, hok20, hbad20⟩
  refine ⟨_, rfl, ?_⟩
  have hzw2 := hc.size
  have HC := HC.trans hc (fun _ _ h => h) (fun k hk ht => absurd hk (by have := hd17.lo k ht; omega))
  have hnib := hnib.ch hc (fun k hk ht => by have h1 := hd17.lo k ht; first | (have h2 : k < w.heap.size := hk; omega) | (have h2 : k = 0 := hk; omega))
  have hd17 := hdn
  obtain ⟨hohS20_hd17, hS20, gL20, rfl, hgL20, hohL20_hd17, l20, hl20, hL20⟩ := hok20 (by rw [hr20, (log_new 800).open])
  have hSl20 := hS20.len
  have hLl20 := hL20.lt
  have hrz20 := log_open (log_new 800) hr20
  obtain ⟨hg20, hq20⟩ := lg_open (log_new 800) hl20 hSl20
  subst hrz20
  rw [(log_new 800).scan] at hS20
  have he20 := hg20.e
  have hc20 := hg20.c
  have hz20 : (flatW []).length = 0 := rfl
  rw [hz20] at he20
  simp only [List.length_nil] at hc20
  refine wl rfl rfl rfl (p_mv rfl) ?_
  refine wl rfl rfl rfl (p_ext rfl rfl) ?_
  refine wl rfl rfl rfl (p_ext rfl rfl) ?_
  refine wl rfl rfl rfl (p_ext rfl rfl) ?_
  refine wl rfl rfl rfl (p_as rfl) ?_
  refine wl rfl rfl rfl (p_as rfl) ?_
  refine wl rfl rfl rfl (p_as rfl) ?_
  refine wl_nil ?_
  refine x_seq ?_
  refine wc_seq ?_
  refine wc_region ?_
  refine wl rfl rfl rfl (p_mv rfl) ?_
  refine wl rfl rfl rfl (p_mv rfl) ?_
  have hltgL20 := hL20.lt
  refine wle rfl (e_mkZ (c := sz0) (v := u8v 0) (sz := 1) (by_ := 1) rfl Tryd.underlying22 (by rfl) (by rfl) (by omega) rfl rfl (by omega) (by omega) (fun w3 g26 hg26 hb26 hc hsz26 => ?_))
  have hzw3 := hc.size
  have HC := HC.tr hc
  have hnib := hnib.no hc
  have hphd17 := hd17.hi
  have hd17 := hd17.no hc
  have hS20 := hS20.no hc
  have hL20 := hL20.ch hc (fun h => h)
  have hS26 := Sl.lit (f := u8v) (xs := List.replicate sz0 0) (l := sz0) hb26 (by rw [Nat.mul_one, List.toList_toArray, List.map_replicate]) (List.length_replicate ..)
  have hS26 := hS26.mono (G := fun k => w2.heap.size ≤ k ∧ k < w3.heap.size) (fun k h1 h2 => ⟨by first | exact h2 | (have h3 : k = _ := h2; omega), h1⟩)
  have hohS26_hd17 : ∀ k, O20 k → k < w2.heap.size ∨ w3.heap.size ≤ k := fun k h => .inl (hphd17 k h)
  refine wle rfl (e_call ent15 rfl rfl (append6_any (l := l20) hd17 hL20 hohL20_hd17 (by omega) (hS26) (by omega) (by omega) (by omega) hnib (by omega)) ?_)
  rintro _ w4 ⟨O27, wm27, r27, l27, hr27, hl27, rfl, hdn, hO27, hc, hc2, hL2⟩
  refine ⟨_, rfl, ?_⟩
  have hzwm27 := hc.size
  have HC := HC.trans hc (fun _ _ h => h) (fun k hk ht => absurd hk (by have := hd17.lo k ht; omega))
  have hnib := hnib.ch hc (fun k hk ht => by have h1 := hd17.lo k ht; first | (have h2 : k < w.heap.size := hk; omega) | (have h2 : k = 0 := hk; omega))
  have hS20 := hS20.ch hc (fun k hk ht => by have h1 := hohS20_hd17 k ht; have h2 : wa20.heap.size ≤ k ∧ k < wb20.heap.size := hk; omega)
  have hltgL20 := hL20.lt
  have hL20 := hL20.ch hc (fun ht => hohL20_hd17 _ ht rfl)
  have hS26 := hS26.ch hc (fun k hk ht => by have h1 := hohS26_hd17 k ht; have h2 : w2.heap.size ≤ k ∧ k < w3.heap.size := hk; omega)
  have hohS20_hd17 : ∀ k, O27 k → k < wa20.heap.size ∨ wb20.heap.size ≤ k := fun k h => (hO27 k h).elim (hohS20_hd17 k) (fun h => .inr (by omega))
  have hohL20_hd17 : ∀ k, O27 k → k ≠ gL20 := fun k h => (hO27 k h).elim (hohL20_hd17 k) (fun h => by omega)
  have hohS26_hd17 : ∀ k, O27 k → k < w2.heap.size ∨ w3.heap.size ≤ k := fun k h => (hO27 k h).elim (hohS26_hd17 k) (fun h => .inr (by omega))
  have hd17 := hdn
  have hc := hc2
  have hL20 := hL2
  have hzw4 := hc.size
  have HC := HC.trans hc (fun _ _ h => h) (fun k hk ht => absurd ht (by omega))
  first | have hnib := hnib.ch hc (by intro k hk ht; first | omega | (dsimp only at *; omega)) | have hnib := hnib.chT hc (by intro k hz hk ht; first | omega | (dsimp only at *; omega))
  have hd17 := hd17.other hc (fun k hk ht => by have h1 := hohL20_hd17 k hk; have h2 : k = gL20 := ht; omega)
  first | have hS20 := hS20.ch hc (by intro k hk ht; first | omega | (dsimp only at *; omega)) | have hS20 := hS20.chT hc (by intro k hz hk ht; first | omega | (dsimp only at *; omega))
  first | have hS26 := hS26.ch hc (by intro k hk ht; first | omega | (dsimp only at *; omega)) | have hS26 := hS26.chT hc (by intro k hz hk ht; first | omega | (dsimp only at *; omega))
  obtain ⟨ys, hys, hgy, hyl, hyf, hye⟩ := long_first (by omega) hg20 hr27 hl27
  obtain ⟨m1, hm1⟩ : ∃ x, x = k % 4 := ⟨_, rfl⟩
  refine wl rfl rfl rfl (p_as rfl) ?_
  refine wl_nil ?_
  refine x_seq ?_
  refine wc_seq ?_
  refine wc_region ?_
  refine wl rfl rfl rfl (p_mv rfl) ?_
  refine wl rfl rfl rfl (p_rem (Z := ((m1 : Nat) : Int)) rfl rfl (by omega) (by rw [hm1]; rfl)) ?_
  refine wl rfl rfl rfl (p_conv Tryd.underlying30 Tryd.underlying3 rfl (w64 (by omega))) ?_
  refine wl rfl rfl rfl (p_as rfl) ?_
  refine wl_nil ?_
  refine x_seq ?_
  refine wc_seq ?_
  refine wc_seq ?_
  refine wc_region ?_
  refine wl rfl rfl rfl (p_as rfl) ?_
  refine wl_nil ?_
  refine x_seq ?_
  refine wc_block ?_
  refine wc_loop (e' := [(4, .bool false), (5, i64 (sz0 : Int)), (7, .pointer (some ⟨gL20, 0, none⟩)), (9, i64 0), (10, i64 r27.1), (11, i64 (m1 : Int)), (12, i64 ((0) : Int))]) (fun mz ez uz => ∃ i : Nat, ∃ dd : DS, ∃ O1 : Nat → Prop, ∃ l1 : LS, ∃ xs : List (List UInt8), mz = m1 - i ∧ ez = [(4, .bool false), (5, i64 (sz0 : Int)), (7, .pointer (some ⟨gL20, 0, none⟩)), (9, i64 0), (10, i64 r27.1), (11, i64 (m1 : Int)), (12, i64 (i : Int))] ∧ (i ≤ m1) ∧ (LogOK 800 dd xs) ∧ (LgOf l1 xs 0) ∧ (xs.length = ys.length + i) ∧ ((flatW xs).length ≤ 8224 + 32 * i) ∧ (CD TD w uz O1 g17 800 dd) ∧ (Blk uz gL20 42 #[.pointer (some ⟨g17, 0, none⟩), i64 (l1.e : Int), i64 (l1.c : Int), i64 (l1.s : Int)]) ∧ (∀ k, O1 k → k ≠ gL20) ∧ (Sl uz (fun k => k = 0) u32v (some ⟨0, 0, none⟩) 16 16 nib) ∧ (Ch No w uz))
    ⟨rfl, rfl, rfl, rfl, rfl, rfl, rfl, trivial⟩ ⟨0, r27.2, O27, l27, ys, rfl, rfl, by omega, hys, hgy, by omega, by omega, hd17, hL20, hohL20_hd17, hnib, HC⟩ ?_
  rintro m0 e w5 ⟨i, dd, O1, l1, xs, hm0, rfl, hi, hlg, hg1, hxl, hxf, hd17, hL20, hohL20_hd17, hnib, HC⟩
  have hzw5 := HC.size
  refine wc_seq ?_
  refine wc_seq ?_
  refine wc_region ?_
  refine wl rfl rfl rfl (p_mv rfl) ?_
  refine wl rfl rfl rfl (p_mv rfl) ?_
  refine wl rfl rfl rfl (p_lt rfl rfl) ?_
  refine wl_nil ?_
  refine x_seq ?_
  refine wc_if rfl (fun c0 => ?_) (fun c0 => ?_)
  ·
    have c0 := of_decide_eq_true c0
    refine wc_skip ?_
    refine x_seq ?_
    refine wc_seq ?_
    refine wc_block ?_
    refine wc_seq ?_
    refine wc_region ?_
    refine wl rfl rfl rfl (p_mv rfl) ?_
    refine wl rfl rfl rfl (p_mv rfl) ?_
    refine wl rfl rfl rfl ((p_convU8 Tryd.underlying3 Tryd.underlying5 rfl (by omega)).to (show u8v _ = u8v (UInt8.ofNat i) from rfl)) ?_
    have hltgL20 := hL20.lt
    refine wle rfl (e_bslV (E := 5) rfl rfl (fun _ => by kernel_rfl) (fun w6 g39 hg39 hb39 hc hsz39 => ?_))
    have hzw6 := hc.size
    have HC := HC.tr hc
    have hnib := hnib.no hc
    have hphd17 := hd17.hi
    have hd17 := hd17.no hc
    have hL20 := hL20.ch hc (fun h => h)
    have hge39 : w.heap.size ≤ g39 := by have := HC.size; omega
    have hS39 := Sl.lit1 (f := u8v) hb39
    have hS39 := hS39.mono (G := fun k => w5.heap.size ≤ k ∧ k < w6.heap.size) (fun k h1 h2 => ⟨by first | exact h2 | (have h3 : k = _ := h2; omega), h1⟩)
    have hohS39_hd17 : ∀ k, O1 k → k < w5.heap.size ∨ w6.heap.size ≤ k := fun k h => .inl (hphd17 k h)
    have he1 := hg1.e
    have hc1 := hg1.c
    have hyl1 : ys.length ≤ 1 := by rw [hyl]; split <;> omega
    refine wle rfl (e_call ent15 rfl rfl (append6_any (l := l1) hd17 hL20 hohL20_hd17 (by omega) (hS39) (by omega) (by omega) (by omega) hnib (by omega)) ?_)
    rintro _ w7 ⟨O40, wm40, r40, l40, hr40, hl40, rfl, hdn, hO40, hc, hc2, hL2⟩
    refine ⟨_, rfl, ?_⟩
    have hzwm40 := hc.size
    have HC := HC.trans hc (fun _ _ h => h) (fun k hk ht => absurd hk (by have := hd17.lo k ht; omega))
    have hnib := hnib.ch hc (fun k hk ht => by have h1 := hd17.lo k ht; first | (have h2 : k < w.heap.size := hk; omega) | (have h2 : k = 0 := hk; omega))
    have hltgL20 := hL20.lt
    have hL20 := hL20.ch hc (fun ht => hohL20_hd17 _ ht rfl)
    have hS39 := hS39.ch hc (fun k hk ht => by have h1 := hohS39_hd17 k ht; have h2 : w5.heap.size ≤ k ∧ k < w6.heap.size := hk; omega)
    have hohL20_hd17 : ∀ k, O40 k → k ≠ gL20 := fun k h => (hO40 k h).elim (hohL20_hd17 k) (fun h => by omega)
    have hohS39_hd17 : ∀ k, O40 k → k < w5.heap.size ∨ w6.heap.size ≤ k := fun k h => (hO40 k h).elim (hohS39_hd17 k) (fun h => .inr (by omega))
    have hd17 := hdn
    have hc := hc2
    have hL20 := hL2
    have hzw7 := hc.size
    have HC := HC.trans hc (fun _ _ h => h) (fun k hk ht => absurd ht (by omega))
    first | have hnib := hnib.ch hc (by intro k hk ht; first | omega | (dsimp only at *; omega)) | have hnib := hnib.chT hc (by intro k hz hk ht; first | omega | (dsimp only at *; omega))
    have hd17 := hd17.other hc (fun k hk ht => by have h1 := hohL20_hd17 k hk; have h2 : k = gL20 := ht; omega)
    first | have hS39 := hS39.ch hc (by intro k hk ht; first | omega | (dsimp only at *; omega)) | have hS39 := hS39.chT hc (by intro k hz hk ht; first | omega | (dsimp only at *; omega))
    have hpad := pad_small (x := [UInt8.ofNat i]) (by simp)
    simp only [List.length_cons, List.length_nil] at hpad
    obtain ⟨hr40z, hlg40, hg40⟩ := log_app hlg hg1 hr40 hl40 (by simp) (by omega)
    refine wl rfl rfl rfl (p_ne rfl rfl) ?_
    refine wl_nil ?_
    refine x_seq ?_
    refine wc_no rfl (decide_eq_false (fun h => h hr40z)) ?_
    refine wc_skip ?_
    refine x_in_normal ?_
    refine x_seq ?_
    refine wc_region ?_
    refine wl rfl rfl rfl (p_mv rfl) ?_
    refine wl rfl rfl rfl (p_add (Z := ((i + 1 : Nat) : Int)) rfl rfl (by rw [w64 (by omega)]; omega)) ?_
    refine wl rfl rfl rfl (p_as rfl) ?_
    refine wl_nil ?_
    refine x_round (e' := [(4, .bool false), (5, i64 (sz0 : Int)), (7, .pointer (some ⟨gL20, 0, none⟩)), (9, i64 0), (10, i64 r27.1), (11, i64 (m1 : Int)), (12, i64 ((i + 1) : Int))]) ⟨rfl, rfl, rfl, rfl, rfl, rfl, rfl, trivial⟩ (by rw [hm0]; omega) ⟨i + 1, r40.2, O40, l40, xs ++ [[UInt8.ofNat i]], rfl, rfl, by omega, hlg40, hg40, by rw [List.length_append, List.length_singleton]; omega, by rw [flatW_snoc, List.length_append]; omega, hd17, hL20, hohL20_hd17, hnib, HC⟩
  ·
    have c0 := of_decide_eq_false c0
    have hi1 : i = m1 := by omega
    refine wc_exit ?_
    refine x_then_exit ?_
    refine x_then_exit ?_
    refine x_in_here ?_
    refine x_seq ?_
    refine wc_seq ?_
    refine wc_seq ?_
    refine wc_region ?_
    refine wl rfl rfl rfl (p_mv rfl) ?_
    refine wl rfl rfl rfl (p_ne rfl rfl) ?_
    refine wl rfl rfl rfl (p_mv rfl) ?_
    refine wl_know (d := 44) (b' := false) rfl (rfl) ?_
    refine wl_g (gd_ rfl rfl rfl rfl rfl rfl) rfl rfl (p_mv rfl) ?_
    refine wl_g (gd_ rfl rfl rfl rfl rfl rfl) rfl rfl (p_eq rfl rfl) ?_
    refine wl_g (gd_ rfl rfl rfl rfl rfl rfl) rfl rfl (p_mv rfl) ?_
    refine wl_g (gd_ rfl rfl rfl rfl rfl rfl) rfl rfl (p_le rfl rfl) ?_
    refine wl_g (gd_ rfl rfl rfl rfl rfl rfl) rfl rfl (p_neB rfl rfl Tryd.underlying4) ?_
    refine wl rfl rfl rfl (p_pickF rfl rfl) ?_
    refine wl rfl rfl rfl (p_mv rfl) ?_
    refine wl_know (d := 51) (b' := false) rfl (by rw [hye]; exact bne_dec (by split <;> omega)) ?_
    refine wl_g (gd_ rfl rfl rfl rfl rfl rfl) rfl rfl (p_mv rfl) ?_
    refine wl_g (gd_ rfl rfl rfl rfl rfl rfl) rfl rfl (p_gt rfl rfl) ?_
    refine wl_g (gd_ rfl rfl rfl rfl rfl rfl) rfl rfl (p_mv rfl) ?_
    refine wl_split (d := 54) rfl (fun q54 => ?_) (fun q54 => ?_)
    ·
      have q54 := of_decide_eq_true q54
      refine wl_g (gd_ rfl rfl rfl rfl rfl rfl) rfl rfl (p_mv rfl) ?_
      refine wl_g (gd_ rfl rfl rfl rfl rfl rfl) rfl rfl (p_ne rfl rfl) ?_
      refine wl_g (gd_ rfl rfl rfl rfl rfl rfl) rfl rfl (p_pickT rfl rfl) ?_
      refine wl rfl rfl rfl (p_pickF rfl rfl) ?_
      refine wl rfl rfl rfl (p_mv rfl) ?_
      refine wl_know (d := 59) (b' := false) rfl (decide_eq_false (fun h => h (by rw [hye, if_neg (by omega)]))) ?_
      refine wl_g (gd_ rfl rfl rfl rfl rfl rfl) rfl rfl (p_mv rfl) ?_
      refine wle_g (gd_ rfl rfl rfl rfl rfl rfl) (e_call ent19 rfl rfl (synced6_any (l := l1) hL20) ?_)
      rintro _ w8 ⟨rfl, hc⟩
      refine ⟨_, rfl, ?_⟩
      have hzw8 := hc.size
      have HC := HC.tr hc
      have hnib := hnib.no hc
      have hphd17 := hd17.hi
      have hd17 := hd17.no hc
      have hL20 := hL20.ch hc (fun h => h)
      refine wl_g (gd_ rfl rfl rfl rfl rfl rfl) rfl rfl (p_ne rfl rfl) ?_
      refine wl rfl rfl rfl (p_pickF rfl rfl) ?_
      refine wl_nil ?_
      refine x_seq ?_
      refine wc_no rfl (decide_eq_false (fun h => h (by rw [hg1.s]; rfl))) ?_
      refine wc_skip ?_
      refine x_seq ?_
      refine wc_seq ?_
      refine wc_seq ?_
      refine wc_region ?_
      refine wl rfl rfl rfl (p_mv rfl) ?_
      refine wl rfl rfl rfl (p_le rfl rfl) ?_
      refine wl_nil ?_
      refine x_seq ?_
      refine wc_if rfl (fun c3 => ?_) (fun c3 => ?_)
      ·
        have c3 := of_decide_eq_true c3
        rw [if_pos (by omega)] at hyl
        refine wc_region ?_
        refine wl rfl rfl rfl (p_mv rfl) ?_
        refine wl rfl rfl rfl (p_add (Z := ((m1 + 1 : Nat) : Int)) rfl rfl (by rw [w64 (by omega)]; omega)) ?_
        refine wl rfl rfl rfl (p_as rfl) ?_
        refine wl_nil ?_
        refine x_seq ?_
        refine wc_seq ?_
        refine wc_region ?_
        refine wl rfl rfl rfl (p_mv rfl) ?_
        refine wle rfl (e_call ent18 rfl rfl (sync6_any (l := l1) hd17 hL20 hohL20_hd17 (by omega)) ?_)
        rintro _ w9 ⟨O69, wm69, r69, l69, hr69, hl69, rfl, hdn, hO69, hc, hc2, hL2⟩
        refine ⟨_, rfl, ?_⟩
        have hzwm69 := hc.size
        have HC := HC.trans hc (fun _ _ h => h) (fun k hk ht => absurd hk (by have := hd17.lo k ht; omega))
        have hnib := hnib.ch hc (fun k hk ht => by have h1 := hd17.lo k ht; first | (have h2 : k < w.heap.size := hk; omega) | (have h2 : k = 0 := hk; omega))
        have hltgL20 := hL20.lt
        have hL20 := hL20.ch hc (fun ht => hohL20_hd17 _ ht rfl)
        have hohL20_hd17 : ∀ k, O69 k → k ≠ gL20 := fun k h => (hO69 k h).elim (hohL20_hd17 k) (fun h => by omega)
        have hd17 := hdn
        have hc := hc2
        have hL20 := hL2
        have hzw9 := hc.size
        have HC := HC.trans hc (fun _ _ h => h) (fun k hk ht => absurd ht (by omega))
        first | have hnib := hnib.ch hc (by intro k hk ht; first | omega | (dsimp only at *; omega)) | have hnib := hnib.chT hc (by intro k hz hk ht; first | omega | (dsimp only at *; omega))
        have hd17 := hd17.other hc (fun k hk ht => by have h1 := hohL20_hd17 k hk; have h2 : k = gL20 := ht; omega)
        obtain ⟨hr69z, hlg69, hg69⟩ := log_sync hlg hg1 hr69 hl69
        have hs69 := hg69.s
        have hc69 := hg69.c
        refine wl rfl rfl rfl (p_eq rfl rfl) ?_
        refine wl rfl rfl rfl (p_mv rfl) ?_
        refine wl_know (d := 71) (b' := true) rfl (decide_eq_true hr69z) ?_
        refine wl_g (gd_ rfl rfl rfl rfl rfl rfl) rfl rfl (p_mv rfl) ?_
        refine wle_g (gd_ rfl rfl rfl rfl rfl rfl) (e_call ent19 rfl rfl (synced6_any (l := l69) hL20) ?_)
        rintro _ w10 ⟨rfl, hc⟩
        refine ⟨_, rfl, ?_⟩
        have hzw10 := hc.size
        have HC := HC.tr hc
        have hnib := hnib.no hc
        have hphd17 := hd17.hi
        have hd17 := hd17.no hc
        have hL20 := hL20.ch hc (fun h => h)
        refine wl_g (gd_ rfl rfl rfl rfl rfl rfl) rfl rfl (p_mv rfl) ?_
        refine wl_g (gd_ rfl rfl rfl rfl rfl rfl) rfl rfl (p_eq rfl rfl) ?_
        refine wl rfl rfl rfl (p_pickT rfl rfl) ?_
        refine wl rfl rfl rfl (p_mv rfl) ?_
        refine wl_know (d := 77) (b' := true) rfl (decide_eq_true (by omega)) ?_
        refine wl_g (gd_ rfl rfl rfl rfl rfl rfl) rfl rfl (p_mv rfl) ?_
        refine wle_g (gd_ rfl rfl rfl rfl rfl rfl) (e_call ent17 rfl rfl (count6_any (l := l69) hL20) ?_)
        rintro _ w11 ⟨rfl, hc⟩
        refine ⟨_, rfl, ?_⟩
        have hzw11 := hc.size
        have HC := HC.tr hc
        have hnib := hnib.no hc
        have hphd17 := hd17.hi
        have hd17 := hd17.no hc
        have hL20 := hL20.ch hc (fun h => h)
        refine wl_g (gd_ rfl rfl rfl rfl rfl rfl) rfl rfl (p_mv rfl) ?_
        refine wl_g (gd_ rfl rfl rfl rfl rfl rfl) rfl rfl (p_eq rfl rfl) ?_
        refine wl rfl rfl rfl (p_pickT rfl rfl) ?_
        refine wl rfl rfl rfl (p_mv rfl) ?_
        refine wl_know (d := 83) (b' := true) rfl (decide_eq_true (by omega)) ?_
        refine wle_g (gd_ rfl rfl rfl rfl rfl rfl) (e_call ent9 rfl rfl (lives6_any hnib) ?_)
        rintro _ w12 ⟨rfl, hc⟩
        refine ⟨_, rfl, ?_⟩
        have hzw12 := hc.size
        have HC := HC.tr hc
        have hnib := hnib.no hc
        have hphd17 := hd17.hi
        have hd17 := hd17.no hc
        have hL20 := hL20.ch hc (fun h => h)
        refine wl rfl rfl rfl (p_pickT rfl rfl) ?_
        refine wl rfl rfl rfl (p_as rfl) ?_
        refine wl_nil ?_
        refine x_seq ?_
        refine wc_ret ?_
        refine fin_run (res1 rfl rfl) ?_
        exact ⟨rfl, HC⟩
      ·
        have c3 := of_decide_eq_false c3
        rw [if_neg (by omega)] at hyl
        refine wc_skip ?_
        refine x_seq ?_
        refine wc_seq ?_
        refine wc_region ?_
        refine wl rfl rfl rfl (p_mv rfl) ?_
        refine wle rfl (e_call ent18 rfl rfl (sync6_any (l := l1) hd17 hL20 hohL20_hd17 (by omega)) ?_)
        rintro _ w13 ⟨O69, wm69, r69, l69, hr69, hl69, rfl, hdn, hO69, hc, hc2, hL2⟩
        refine ⟨_, rfl, ?_⟩
        have hzwm69 := hc.size
        have HC := HC.trans hc (fun _ _ h => h) (fun k hk ht => absurd hk (by have := hd17.lo k ht; omega))
        have hnib := hnib.ch hc (fun k hk ht => by have h1 := hd17.lo k ht; first | (have h2 : k < w.heap.size := hk; omega) | (have h2 : k = 0 := hk; omega))
        have hltgL20 := hL20.lt
        have hL20 := hL20.ch hc (fun ht => hohL20_hd17 _ ht rfl)
        have hohL20_hd17 : ∀ k, O69 k → k ≠ gL20 := fun k h => (hO69 k h).elim (hohL20_hd17 k) (fun h => by omega)
        have hd17 := hdn
        have hc := hc2
        have hL20 := hL2
        have hzw13 := hc.size
        have HC := HC.trans hc (fun _ _ h => h) (fun k hk ht => absurd ht (by omega))
        first | have hnib := hnib.ch hc (by intro k hk ht; first | omega | (dsimp only at *; omega)) | have hnib := hnib.chT hc (by intro k hz hk ht; first | omega | (dsimp only at *; omega))
        have hd17 := hd17.other hc (fun k hk ht => by have h1 := hohL20_hd17 k hk; have h2 : k = gL20 := ht; omega)
        obtain ⟨hr69z, hlg69, hg69⟩ := log_sync hlg hg1 hr69 hl69
        have hs69 := hg69.s
        have hc69 := hg69.c
        refine wl rfl rfl rfl (p_eq rfl rfl) ?_
        refine wl rfl rfl rfl (p_mv rfl) ?_
        refine wl_know (d := 71) (b' := true) rfl (decide_eq_true hr69z) ?_
        refine wl_g (gd_ rfl rfl rfl rfl rfl rfl) rfl rfl (p_mv rfl) ?_
        refine wle_g (gd_ rfl rfl rfl rfl rfl rfl) (e_call ent19 rfl rfl (synced6_any (l := l69) hL20) ?_)
        rintro _ w14 ⟨rfl, hc⟩
        refine ⟨_, rfl, ?_⟩
        have hzw14 := hc.size
        have HC := HC.tr hc
        have hnib := hnib.no hc
        have hphd17 := hd17.hi
        have hd17 := hd17.no hc
        have hL20 := hL20.ch hc (fun h => h)
        refine wl_g (gd_ rfl rfl rfl rfl rfl rfl) rfl rfl (p_mv rfl) ?_
        refine wl_g (gd_ rfl rfl rfl rfl rfl rfl) rfl rfl (p_eq rfl rfl) ?_
        refine wl rfl rfl rfl (p_pickT rfl rfl) ?_
        refine wl rfl rfl rfl (p_mv rfl) ?_
        refine wl_know (d := 77) (b' := true) rfl (decide_eq_true (by omega)) ?_
        refine wl_g (gd_ rfl rfl rfl rfl rfl rfl) rfl rfl (p_mv rfl) ?_
        refine wle_g (gd_ rfl rfl rfl rfl rfl rfl) (e_call ent17 rfl rfl (count6_any (l := l69) hL20) ?_)
        rintro _ w15 ⟨rfl, hc⟩
        refine ⟨_, rfl, ?_⟩
        have hzw15 := hc.size
        have HC := HC.tr hc
        have hnib := hnib.no hc
        have hphd17 := hd17.hi
        have hd17 := hd17.no hc
        have hL20 := hL20.ch hc (fun h => h)
        refine wl_g (gd_ rfl rfl rfl rfl rfl rfl) rfl rfl (p_mv rfl) ?_
        refine wl_g (gd_ rfl rfl rfl rfl rfl rfl) rfl rfl (p_eq rfl rfl) ?_
        refine wl rfl rfl rfl (p_pickT rfl rfl) ?_
        refine wl rfl rfl rfl (p_mv rfl) ?_
        refine wl_know (d := 83) (b' := true) rfl (decide_eq_true (by omega)) ?_
        refine wle_g (gd_ rfl rfl rfl rfl rfl rfl) (e_call ent9 rfl rfl (lives6_any hnib) ?_)
        rintro _ w16 ⟨rfl, hc⟩
        refine ⟨_, rfl, ?_⟩
        have hzw16 := hc.size
        have HC := HC.tr hc
        have hnib := hnib.no hc
        have hphd17 := hd17.hi
        have hd17 := hd17.no hc
        have hL20 := hL20.ch hc (fun h => h)
        refine wl rfl rfl rfl (p_pickT rfl rfl) ?_
        refine wl rfl rfl rfl (p_as rfl) ?_
        refine wl_nil ?_
        refine x_seq ?_
        refine wc_ret ?_
        refine fin_run (res1 rfl rfl) ?_
        exact ⟨rfl, HC⟩
    ·
      have q54 := of_decide_eq_false q54
      refine wl_s (gd_ rfl rfl rfl rfl rfl rfl) rfl rfl ?_
      refine wl_s (gd_ rfl rfl rfl rfl rfl rfl) rfl rfl ?_
      refine wl_g (gd_ rfl rfl rfl rfl rfl rfl) rfl rfl (p_pickF rfl rfl) ?_
      refine wl rfl rfl rfl (p_pickF rfl rfl) ?_
      refine wl rfl rfl rfl (p_mv rfl) ?_
      refine wl_g (gd_ rfl rfl rfl rfl rfl rfl) rfl rfl (p_mv rfl) ?_
      refine wle_g (gd_ rfl rfl rfl rfl rfl rfl) (e_call ent19 rfl rfl (synced6_any (l := l1) hL20) ?_)
      rintro _ w17 ⟨rfl, hc⟩
      refine ⟨_, rfl, ?_⟩
      have hzw17 := hc.size
      have HC := HC.tr hc
      have hnib := hnib.no hc
      have hphd17 := hd17.hi
      have hd17 := hd17.no hc
      have hL20 := hL20.ch hc (fun h => h)
      refine wl_g (gd_ rfl rfl rfl rfl rfl rfl) rfl rfl (p_ne rfl rfl) ?_
      refine wl rfl rfl rfl (p_pickF rfl rfl) ?_
      refine wl_nil ?_
      refine x_seq ?_
      refine wc_no rfl (decide_eq_false (fun h => h (by rw [hg1.s]; rfl))) ?_
      refine wc_skip ?_
      refine x_seq ?_
      refine wc_seq ?_
      refine wc_seq ?_
      refine wc_region ?_
      refine wl rfl rfl rfl (p_mv rfl) ?_
      refine wl rfl rfl rfl (p_le rfl rfl) ?_
      refine wl_nil ?_
      refine x_seq ?_
      refine wc_if rfl (fun c3 => ?_) (fun c3 => ?_)
      ·
        have c3 := of_decide_eq_true c3
        rw [if_pos (by omega)] at hyl
        refine wc_region ?_
        refine wl rfl rfl rfl (p_mv rfl) ?_
        refine wl rfl rfl rfl (p_add (Z := ((m1 + 1 : Nat) : Int)) rfl rfl (by rw [w64 (by omega)]; omega)) ?_
        refine wl rfl rfl rfl (p_as rfl) ?_
        refine wl_nil ?_
        refine x_seq ?_
        refine wc_seq ?_
        refine wc_region ?_
        refine wl rfl rfl rfl (p_mv rfl) ?_
        refine wle rfl (e_call ent18 rfl rfl (sync6_any (l := l1) hd17 hL20 hohL20_hd17 (by omega)) ?_)
        rintro _ w18 ⟨O69, wm69, r69, l69, hr69, hl69, rfl, hdn, hO69, hc, hc2, hL2⟩
        refine ⟨_, rfl, ?_⟩
        have hzwm69 := hc.size
        have HC := HC.trans hc (fun _ _ h => h) (fun k hk ht => absurd hk (by have := hd17.lo k ht; omega))
        have hnib := hnib.ch hc (fun k hk ht => by have h1 := hd17.lo k ht; first | (have h2 : k < w.heap.size := hk; omega) | (have h2 : k = 0 := hk; omega))
        have hltgL20 := hL20.lt
        have hL20 := hL20.ch hc (fun ht => hohL20_hd17 _ ht rfl)
        have hohL20_hd17 : ∀ k, O69 k → k ≠ gL20 := fun k h => (hO69 k h).elim (hohL20_hd17 k) (fun h => by omega)
        have hd17 := hdn
        have hc := hc2
        have hL20 := hL2
        have hzw18 := hc.size
        have HC := HC.trans hc (fun _ _ h => h) (fun k hk ht => absurd ht (by omega))
        first | have hnib := hnib.ch hc (by intro k hk ht; first | omega | (dsimp only at *; omega)) | have hnib := hnib.chT hc (by intro k hz hk ht; first | omega | (dsimp only at *; omega))
        have hd17 := hd17.other hc (fun k hk ht => by have h1 := hohL20_hd17 k hk; have h2 : k = gL20 := ht; omega)
        obtain ⟨hr69z, hlg69, hg69⟩ := log_sync hlg hg1 hr69 hl69
        have hs69 := hg69.s
        have hc69 := hg69.c
        refine wl rfl rfl rfl (p_eq rfl rfl) ?_
        refine wl rfl rfl rfl (p_mv rfl) ?_
        refine wl_know (d := 71) (b' := true) rfl (decide_eq_true hr69z) ?_
        refine wl_g (gd_ rfl rfl rfl rfl rfl rfl) rfl rfl (p_mv rfl) ?_
        refine wle_g (gd_ rfl rfl rfl rfl rfl rfl) (e_call ent19 rfl rfl (synced6_any (l := l69) hL20) ?_)
        rintro _ w19 ⟨rfl, hc⟩
        refine ⟨_, rfl, ?_⟩
        have hzw19 := hc.size
        have HC := HC.tr hc
        have hnib := hnib.no hc
        have hphd17 := hd17.hi
        have hd17 := hd17.no hc
        have hL20 := hL20.ch hc (fun h => h)
        refine wl_g (gd_ rfl rfl rfl rfl rfl rfl) rfl rfl (p_mv rfl) ?_
        refine wl_g (gd_ rfl rfl rfl rfl rfl rfl) rfl rfl (p_eq rfl rfl) ?_
        refine wl rfl rfl rfl (p_pickT rfl rfl) ?_
        refine wl rfl rfl rfl (p_mv rfl) ?_
        refine wl_know (d := 77) (b' := true) rfl (decide_eq_true (by omega)) ?_
        refine wl_g (gd_ rfl rfl rfl rfl rfl rfl) rfl rfl (p_mv rfl) ?_
        refine wle_g (gd_ rfl rfl rfl rfl rfl rfl) (e_call ent17 rfl rfl (count6_any (l := l69) hL20) ?_)
        rintro _ w20 ⟨rfl, hc⟩
        refine ⟨_, rfl, ?_⟩
        have hzw20 := hc.size
        have HC := HC.tr hc
        have hnib := hnib.no hc
        have hphd17 := hd17.hi
        have hd17 := hd17.no hc
        have hL20 := hL20.ch hc (fun h => h)
        refine wl_g (gd_ rfl rfl rfl rfl rfl rfl) rfl rfl (p_mv rfl) ?_
        refine wl_g (gd_ rfl rfl rfl rfl rfl rfl) rfl rfl (p_eq rfl rfl) ?_
        refine wl rfl rfl rfl (p_pickT rfl rfl) ?_
        refine wl rfl rfl rfl (p_mv rfl) ?_
        refine wl_know (d := 83) (b' := true) rfl (decide_eq_true (by omega)) ?_
        refine wle_g (gd_ rfl rfl rfl rfl rfl rfl) (e_call ent9 rfl rfl (lives6_any hnib) ?_)
        rintro _ w21 ⟨rfl, hc⟩
        refine ⟨_, rfl, ?_⟩
        have hzw21 := hc.size
        have HC := HC.tr hc
        have hnib := hnib.no hc
        have hphd17 := hd17.hi
        have hd17 := hd17.no hc
        have hL20 := hL20.ch hc (fun h => h)
        refine wl rfl rfl rfl (p_pickT rfl rfl) ?_
        refine wl rfl rfl rfl (p_as rfl) ?_
        refine wl_nil ?_
        refine x_seq ?_
        refine wc_ret ?_
        refine fin_run (res1 rfl rfl) ?_
        exact ⟨rfl, HC⟩
      ·
        have c3 := of_decide_eq_false c3
        rw [if_neg (by omega)] at hyl
        refine wc_skip ?_
        refine x_seq ?_
        refine wc_seq ?_
        refine wc_region ?_
        refine wl rfl rfl rfl (p_mv rfl) ?_
        refine wle rfl (e_call ent18 rfl rfl (sync6_any (l := l1) hd17 hL20 hohL20_hd17 (by omega)) ?_)
        rintro _ w22 ⟨O69, wm69, r69, l69, hr69, hl69, rfl, hdn, hO69, hc, hc2, hL2⟩
        refine ⟨_, rfl, ?_⟩
        have hzwm69 := hc.size
        have HC := HC.trans hc (fun _ _ h => h) (fun k hk ht => absurd hk (by have := hd17.lo k ht; omega))
        have hnib := hnib.ch hc (fun k hk ht => by have h1 := hd17.lo k ht; first | (have h2 : k < w.heap.size := hk; omega) | (have h2 : k = 0 := hk; omega))
        have hltgL20 := hL20.lt
        have hL20 := hL20.ch hc (fun ht => hohL20_hd17 _ ht rfl)
        have hohL20_hd17 : ∀ k, O69 k → k ≠ gL20 := fun k h => (hO69 k h).elim (hohL20_hd17 k) (fun h => by omega)
        have hd17 := hdn
        have hc := hc2
        have hL20 := hL2
        have hzw22 := hc.size
        have HC := HC.trans hc (fun _ _ h => h) (fun k hk ht => absurd ht (by omega))
        first | have hnib := hnib.ch hc (by intro k hk ht; first | omega | (dsimp only at *; omega)) | have hnib := hnib.chT hc (by intro k hz hk ht; first | omega | (dsimp only at *; omega))
        have hd17 := hd17.other hc (fun k hk ht => by have h1 := hohL20_hd17 k hk; have h2 : k = gL20 := ht; omega)
        obtain ⟨hr69z, hlg69, hg69⟩ := log_sync hlg hg1 hr69 hl69
        have hs69 := hg69.s
        have hc69 := hg69.c
        refine wl rfl rfl rfl (p_eq rfl rfl) ?_
        refine wl rfl rfl rfl (p_mv rfl) ?_
        refine wl_know (d := 71) (b' := true) rfl (decide_eq_true hr69z) ?_
        refine wl_g (gd_ rfl rfl rfl rfl rfl rfl) rfl rfl (p_mv rfl) ?_
        refine wle_g (gd_ rfl rfl rfl rfl rfl rfl) (e_call ent19 rfl rfl (synced6_any (l := l69) hL20) ?_)
        rintro _ w23 ⟨rfl, hc⟩
        refine ⟨_, rfl, ?_⟩
        have hzw23 := hc.size
        have HC := HC.tr hc
        have hnib := hnib.no hc
        have hphd17 := hd17.hi
        have hd17 := hd17.no hc
        have hL20 := hL20.ch hc (fun h => h)
        refine wl_g (gd_ rfl rfl rfl rfl rfl rfl) rfl rfl (p_mv rfl) ?_
        refine wl_g (gd_ rfl rfl rfl rfl rfl rfl) rfl rfl (p_eq rfl rfl) ?_
        refine wl rfl rfl rfl (p_pickT rfl rfl) ?_
        refine wl rfl rfl rfl (p_mv rfl) ?_
        refine wl_know (d := 77) (b' := true) rfl (decide_eq_true (by omega)) ?_
        refine wl_g (gd_ rfl rfl rfl rfl rfl rfl) rfl rfl (p_mv rfl) ?_
        refine wle_g (gd_ rfl rfl rfl rfl rfl rfl) (e_call ent17 rfl rfl (count6_any (l := l69) hL20) ?_)
        rintro _ w24 ⟨rfl, hc⟩
        refine ⟨_, rfl, ?_⟩
        have hzw24 := hc.size
        have HC := HC.tr hc
        have hnib := hnib.no hc
        have hphd17 := hd17.hi
        have hd17 := hd17.no hc
        have hL20 := hL20.ch hc (fun h => h)
        refine wl_g (gd_ rfl rfl rfl rfl rfl rfl) rfl rfl (p_mv rfl) ?_
        refine wl_g (gd_ rfl rfl rfl rfl rfl rfl) rfl rfl (p_eq rfl rfl) ?_
        refine wl rfl rfl rfl (p_pickT rfl rfl) ?_
        refine wl rfl rfl rfl (p_mv rfl) ?_
        refine wl_know (d := 83) (b' := true) rfl (decide_eq_true (by omega)) ?_
        refine wle_g (gd_ rfl rfl rfl rfl rfl rfl) (e_call ent9 rfl rfl (lives6_any hnib) ?_)
        rintro _ w25 ⟨rfl, hc⟩
        refine ⟨_, rfl, ?_⟩
        have hzw25 := hc.size
        have HC := HC.tr hc
        have hnib := hnib.no hc
        have hphd17 := hd17.hi
        have hd17 := hd17.no hc
        have hL20 := hL20.ch hc (fun h => h)
        refine wl rfl rfl rfl (p_pickT rfl rfl) ?_
        refine wl rfl rfl rfl (p_as rfl) ?_
        refine wl_nil ?_
        refine x_seq ?_
        refine wc_ret ?_
        refine fin_run (res1 rfl rfl) ?_
        exact ⟨rfl, HC⟩
end Go.Proofs.YtcgapjieidmkpaaDoor
