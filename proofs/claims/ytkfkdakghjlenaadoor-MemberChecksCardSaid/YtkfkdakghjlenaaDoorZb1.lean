/-
  Own text, printed by a program of mine (wip/gx): what functions of the program do, walked operation by operation.
-/
import Derived.Test.YtkfkdakghjlenaaDoorProg
import Derived.Test.YtkfkdakghjlenaaDoorGxAgg
import Derived.Test.YtkfkdakghjlenaaDoorTab
import Derived.Test.YtkfkdakghjlenaaDoorGxZer
import Derived.Test.YtkfkdakghjlenaaDoorGxLay
import Derived.Test.YtkfkdakghjlenaaDoorPlPack
import Derived.Test.YtkfkdakghjlenaaDoorPlSum
import Derived.Test.YtkfkdakghjlenaaDoorPlSha
import Derived.Test.YtkfkdakghjlenaaDoorPlTag
import Derived.Test.YtkfkdakghjlenaaDoorPlBits
import Derived.Test.YtkfkdakghjlenaaDoorPlShaSt
import Derived.Test.YtkfkdakghjlenaaDoorPlShaB
import Derived.Test.YtkfkdakghjlenaaDoorPlTrie
import Derived.Test.YtkfkdakghjlenaaDoorPlTrieSt
import Derived.Test.YtkfkdakghjlenaaDoorGxRec
import Derived.Test.YtkfkdakghjlenaaDoorGxYld
import Derived.Test.YtkfkdakghjlenaaDoorPlTrieFil
import Derived.Test.YtkfkdakghjlenaaDoorOnceC
import Derived.Test.YtkfkdakghjlenaaDoorPlTrieW
import Derived.Test.YtkfkdakghjlenaaDoorPlMulti
import Derived.Test.YtkfkdakghjlenaaDoorPlEncs
import Derived.Test.YtkfkdakghjlenaaDoorGxMark
import Derived.Test.YtkfkdakghjlenaaDoorZb0
set_option linter.unusedVariables false
set_option linter.unusedSimpArgs false
namespace Go.Proofs.YtkfkdakghjlenaaDoor
open Go.RowKit Go.Gx
open Go.Plain
set_option maxHeartbeats 1000000 in
set_option maxRecDepth 20000 in
theorem tdown_some {w : World} {g : Nat} {t : LT} {k : List UInt8} (hbg : Blk w g 41 [ndp t.adr, .bool true].toArray) (hXt : LAt 156 w t) (hk : k.length = 32) (hrnd : Sl w (fun k => k = 0) u32v (some ⟨0, 0, none⟩) 64 64 rk) (htn : t.size ≤ 1000000) :
    Calls Tryd.prog 72 #[ndp g, hv k] w fun e w' => ∃ A l c, e = .returned (.tuple #[.slice A l c, hv (t.er.find k).1, hv (t.er.find k).2, .bool true]) ∧ RI w' (fun k => w.heap.size ≤ k) 130 eST A l c (t.er.way k) ∧ LAt 156 w' t ∧ Ch (fun k => k ∈ t.ads) w w' := by
  have hltg := hbg.lt
  have htl := hXt.lt
  have hn0 : 0 < w.heap.size := hrnd.size (by omega) rfl
  have hn1 := hn0
  have HC : Ch (fun k => k ∈ t.ads) w w := Ch.refl _ _
  refine enter' (args := [ndp g, hv k]) (n := 69) Tryd.func72 rfl rfl rfl ?_
  refine wc_seq ?_
  refine wc_region ?_
  have hltg := hbg.lt
  refine wle rfl (e_box (cs := (List.map u8v k).toArray) rfl rfl rfl (fun w1 g3 hg3 hb3 hc hsz3 => ?_))
  have hzw1 := hc.size
  have HC := HC.tr hc
  have hbg := hbg.ch hc (fun h => h)
  have hXt := hXt.ch hc (by first | exact fun _ _ h => h | (intro a ha ht; have h2 := htl a (by first | exact hsx a ha | exact hsy a ha | exact hzt a ha | exact ha); first | omega | exact absurd ht (by omega)))
  have hrnd := hrnd.no hc
  have hge3 : w.heap.size ≤ g3 := by have := HC.size; omega
  have neg_3 : g < g3 := by omega
  refine wl rfl rfl rfl (p_as rfl) ?_
  have hltg := hbg.lt
  have hltg3 := hb3.lt
  refine wle rfl (e_alloc (cs := ((List.replicate 32 (0 : UInt8)).map u8v).toArray) rfl (by rfl) rfl (fun w2 g5 hg5 hb5 hc hsz5 => ?_))
  have hzw2 := hc.size
  have HC := HC.tr hc
  have hbg := hbg.ch hc (fun h => h)
  have hXt := hXt.ch hc (by first | exact fun _ _ h => h | (intro a ha ht; have h2 := htl a (by first | exact hsx a ha | exact hsy a ha | exact hzt a ha | exact ha); first | omega | exact absurd ht (by omega)))
  have hrnd := hrnd.no hc
  have hb3 := hb3.ch hc (fun h => h)
  have hge5 : w.heap.size ≤ g5 := by have := HC.size; omega
  have neg_5 : g < g5 := by omega
  have neg3_5 : g3 < g5 := by omega
  have hltg := hbg.lt
  have hltg3 := hb3.lt
  have hltg5 := hb5.lt
  refine wle rfl (e_alloc (cs := ((List.replicate 32 (0 : UInt8)).map u8v).toArray) rfl (by rfl) rfl (fun w3 g6 hg6 hb6 hc hsz6 => ?_))
  have hzw3 := hc.size
  have HC := HC.tr hc
  have hbg := hbg.ch hc (fun h => h)
  have hXt := hXt.ch hc (by first | exact fun _ _ h => h | (intro a ha ht; have h2 := htl a (by first | exact hsx a ha | exact hsy a ha | exact hzt a ha | exact ha); first | omega | exact absurd ht (by omega)))
  have hrnd := hrnd.no hc
  have hb3 := hb3.ch hc (fun h => h)
  have hb5 := hb5.ch hc (fun h => h)
  have hge6 : w.heap.size ≤ g6 := by have := HC.size; omega
  have neg_6 : g < g6 := by omega
  have neg3_6 : g3 < g6 := by omega
  have neg5_6 : g5 < g6 := by omega
  refine wl rfl rfl rfl (p_as rfl) ?_
  refine wl_nil ?_
  refine x_seq ?_
  refine wc_seq ?_
  refine wc_seq ?_
  refine wc_region ?_
  refine wl rfl rfl rfl (p_mv rfl) ?_
  refine wle rfl (e_call ent81 rfl rfl (is_made (o := some t) hbg) ?_)
  rintro _ w4 ⟨rfl, hc⟩
  refine ⟨_, rfl, ?_⟩
  have hzw4 := hc.size
  have HC := HC.tr hc
  have hbg := hbg.ch hc (fun h => h)
  have hXt := hXt.ch hc (by first | exact fun _ _ h => h | (intro a ha ht; have h2 := htl a (by first | exact hsx a ha | exact hsy a ha | exact hzt a ha | exact ha); first | omega | exact absurd ht (by omega)))
  have hrnd := hrnd.no hc
  have hb3 := hb3.ch hc (fun h => h)
  have hb5 := hb5.ch hc (fun h => h)
  have hb6 := hb6.ch hc (fun h => h)
  refine wl rfl rfl rfl (p_not rfl) ?_
  refine wl rfl rfl rfl (p_mv rfl) ?_
  refine wl_g (gd_ rfl rfl rfl rfl rfl rfl) rfl rfl (p_mv rfl) ?_
  refine wl_g (gd_ rfl rfl rfl rfl rfl rfl) rfl rfl (p_nck rfl) ?_
  refine wl_g (gd_ rfl rfl rfl rfl rfl rfl) rfl rfl (p_fld (j := 0) Tryd.underlying41 rfl ⟨_, by rfl⟩ rfl rfl) ?_
  refine wl_g (gd_ rfl rfl rfl rfl rfl rfl) rfl rfl (p_ld Tryd.underlying39 rfl rfl (ld (cell_at (p := []) (v := (ndp t.adr : Value)) (r := ([.bool true] : List Value)) hbg (by simp only [List.append_assoc, List.cons_append, List.nil_append, List.append_nil]) (by first | rfl | (simp only [List.length_append, List.length_map, List.length_cons, List.length_nil]; done) | (simp only [List.length_append, List.length_map, List.length_cons, List.length_nil, List.size_toArray]; done))))) ?_
  refine wl_g (gd_ rfl rfl rfl rfl rfl rfl) rfl rfl (p_eqPN rfl rfl Tryd.underlying39) ?_
  refine wl rfl rfl rfl (p_pickF rfl rfl) ?_
  refine wl_nil ?_
  refine x_seq ?_
  refine wc_no rfl (rfl) ?_
  refine wc_skip ?_
  refine x_seq ?_
  refine wc_seq ?_
  refine wc_region ?_
  refine wl rfl rfl rfl (p_as rfl) ?_
  refine wl_nil ?_
  refine x_seq ?_
  refine wc_seq ?_
  refine wc_region ?_
  refine wl rfl rfl rfl (p_mv rfl) ?_
  refine wl rfl rfl rfl (p_nck rfl) ?_
  refine wl rfl rfl rfl (p_fld (j := 0) Tryd.underlying41 rfl ⟨_, by rfl⟩ rfl rfl) ?_
  refine wl rfl rfl rfl (p_ld Tryd.underlying39 rfl rfl (ld (cell_at (p := []) (v := (ndp t.adr : Value)) (r := ([.bool true] : List Value)) hbg (by simp only [List.append_assoc, List.cons_append, List.nil_append, List.append_nil]) (by first | rfl | (simp only [List.length_append, List.length_map, List.length_cons, List.length_nil]; done) | (simp only [List.length_append, List.length_map, List.length_cons, List.length_nil, List.size_toArray]; done))))) ?_
  refine wl rfl rfl rfl (p_as rfl) ?_
  refine wl_nil ?_
  refine x_seq ?_
  refine wc_seq ?_
  refine wc_block ?_
  refine wc_loop (e' := [(3, .pointer (some ⟨g3, 0, none⟩)), (5, .pointer (some ⟨g5, 0, none⟩)), (6, .pointer (some ⟨g6, 0, none⟩)), (8, .slice (none) (0) (0)), (9, ndp (t).adr)]) (fun mz ez uz => ∃ z : LT, ∃ ys : List Stp, ∃ A : Option Addr, ∃ l : Nat, ∃ c : Nat, mz = z.size ∧ ez = [(3, .pointer (some ⟨g3, 0, none⟩)), (5, .pointer (some ⟨g5, 0, none⟩)), (6, .pointer (some ⟨g6, 0, none⟩)), (8, .slice A l c), (9, ndp z.adr)] ∧ (LAt 156 uz z) ∧ (∀ a, a ∈ z.ads → a ∈ t.ads) ∧ (t.er.find k = z.er.find k) ∧ (t.er.way k = ys ++ z.er.way k) ∧ (l + z.size ≤ t.size) ∧ (RI uz (fun k => w.heap.size ≤ k ∧ k ≠ g3 ∧ k ≠ g5 ∧ k ≠ g6) 130 eST A l c ys) ∧ (LAt 156 uz t) ∧ (Sl uz (fun k => k = 0) u32v (some ⟨0, 0, none⟩) 64 64 rk) ∧ (Blk uz g3 38 (List.map u8v k).toArray) ∧ (Blk uz g5 38 (List.map u8v (List.replicate 32 (0 : UInt8))).toArray) ∧ (Blk uz g6 38 (List.map u8v (List.replicate 32 (0 : UInt8))).toArray) ∧ (w.heap.size ≤ g5 ∧ w.heap.size ≤ g6 ∧ w.heap.size ≤ g3) ∧ (g3 < g5 ∧ g5 < g6) ∧ (Ch (fun k => k ∈ t.ads) w uz))
    ⟨rfl, rfl, rfl, rfl, rfl, trivial⟩ ⟨t, [], none, 0, 0, rfl, rfl, hXt, (fun _ h => h), rfl, rfl, by omega, RI.nil _ _ _ _, hXt, hrnd, hb3, hb5, hb6, by omega, by omega, HC⟩ ?_
  rintro m0 e w5 ⟨z, ys, A, l, c, hm0, rfl, hX, hzt, hfd, hwy, hls, hW, hXt, hrnd, hb3, hb5, hb6, hg5n, hg56, HC⟩
  have hzw5 := HC.size
  refine wc_seq ?_
  refine wc_seq ?_
  rcases z with ⟨g0, k0, v0⟩ | ⟨g0, b, x, y⟩
  ·
    obtain ⟨hk0, hv0, d0, h0, ⟨hh0, hO0⟩, hb0⟩ := id hX
    have hb0 : Blk w5 g0 156 (([i64 ((256 : Nat) : Int), .pointer none, .pointer none] ++ ((List.map u8v k0) ++ ((List.map u8v v0) ++ ([i64 ((1 : Nat) : Int), .int .u32 (d0 : Int), .int .i32 ((0 : Nat) : Int), .int .u32 0] ++ (List.map u8v h0))))) : List Value).toArray := hb0
    have hg0l := htl g0 (hzt _ (by simp [LT.ads]))
    have hlt3 := hb3.lt
    have hne03 : g0 ≠ g3 := hb0.ne hb3
    have hne05 : g0 ≠ g5 := hb0.ne hb5
    have hne06 : g0 ≠ g6 := hb0.ne hb6
    refine wc_region ?_
    refine wl rfl rfl rfl (p_mv rfl) ?_
    refine wl rfl rfl rfl (p_nck rfl) ?_
    refine wl rfl rfl rfl (p_fld (j := 0) Tryd.underlying156 rfl ⟨_, by rfl⟩ rfl rfl) ?_
    refine wl rfl rfl rfl (p_ld Tryd.underlying3 rfl rfl (ld (cell_at (p := []) (v := (i64 ((256 : Nat) : Int) : Value)) (r := (([.pointer none, .pointer none] ++ ((List.map u8v k0) ++ ((List.map u8v v0) ++ ([i64 ((1 : Nat) : Int), .int .u32 (d0 : Int), .int .i32 ((0 : Nat) : Int), .int .u32 0] ++ (List.map u8v h0))))) : List Value)) hb0 (by simp only [List.append_assoc, List.cons_append, List.nil_append, List.append_nil]) (by first | rfl | (simp only [List.length_append, List.length_map, List.length_cons, List.length_nil]; done) | (simp only [List.length_append, List.length_map, List.length_cons, List.length_nil, List.size_toArray]; done))))) ?_
    refine wl rfl rfl rfl (p_lt rfl rfl) ?_
    refine wl_nil ?_
    refine x_seq ?_
    refine wc_no rfl (decide_eq_false (by omega)) ?_
    refine wc_exit ?_
    refine x_then_exit ?_
    refine x_then_exit ?_
    refine x_in_here ?_
    refine x_seq ?_
    refine wc_seq ?_
    refine wc_draw (.st 0 0 (.st 1 0 (.st 2 0 (.st 3 0 (.st 4 1 (.st 5 0 (.st 6 0 (.st 7 0 (.st 8 1 (.st 9 0 (.st 10 2 (.st 11 3 (.st 12 0 .nil))))))))))))) 11 (by kernel_rfl) (by kernel_rfl) (by kernel_rfl) (by repeat (first | with_reducible exact pan_body | with_reducible apply pan_then | with_reducible apply pan_in)) (fun z => Ch (fun k => k = g5) w5.drew z) (Ch.refl _ _) ?_
    obtain ⟨w6, ew6⟩ : ∃ x, x = w5.drew := ⟨_, rfl⟩
    rw [← ew6]
    have hc : Ch No w5 w6 := by rw [ew6]; exact Ch.drew _
    have hszw6 : w6.heap.size = w5.heap.size := by rw [ew6]; rfl
    clear ew6
    have hzw6 := hc.size
    have HC := HC.tr hc
    have hW := hW.no hc
    have hXt := hXt.ch hc (by first | exact fun _ _ h => h | (intro a ha ht; have h2 := htl a (by first | exact hsx a ha | exact hsy a ha | exact hzt a ha | exact ha); first | omega | exact absurd ht (by omega)))
    have hrnd := hrnd.no hc
    have hb3 := hb3.ch hc (fun h => h)
    have hb5 := hb5.ch hc (fun h => h)
    have hb6 := hb6.ch hc (fun h => h)
    have hb0 := hb0.ch hc (fun h => h)
    have hX := hX.ch hc (by first | exact fun _ _ h => h | (intro a ha ht; have h2 := htl a (by first | exact hsx a ha | exact hsy a ha | exact hzt a ha | exact ha); first | omega | exact absurd ht (by omega)))
    have hS : Ch (fun k => k = g5) w6 w6 := Ch.refl _ _
    refine ws_p rfl rfl rfl rfl (p_mv rfl) ?_
    refine ws_p rfl rfl rfl rfl (p_mv rfl) ?_
    refine ws_p rfl rfl rfl rfl (p_nck rfl) ?_
    refine ws_p rfl rfl rfl rfl (p_fld (j := 3) Tryd.underlying156 rfl ⟨_, by rfl⟩ rfl rfl) ?_
    refine ws_h rfl rfl rfl rfl (p_ldA (cs := (List.map u8v k0)) Tryd.underlying38 rfl (szL sz38 (by first | rfl | (simp only [List.length_append, List.length_map, List.length_cons, List.length_nil, (show List.length k0 = 32 from hk0)]; done) | (simp only [List.length_append, List.length_map, List.length_cons, List.length_nil, List.size_toArray, (show List.length k0 = 32 from hk0)]; done))) rfl (fun _ h => rng_at (p := ([i64 ((256 : Nat) : Int), .pointer none, .pointer none] : List Value)) (q := ((List.map u8v k0) : List Value)) (r := (((List.map u8v v0) ++ ([i64 ((1 : Nat) : Int), .int .u32 (d0 : Int), .int .i32 ((0 : Nat) : Int), .int .u32 0] ++ (List.map u8v h0))) : List Value)) (hb0.ch h (fun ht => absurd ht (by omega))) (by simp only [List.append_assoc, List.cons_append, List.nil_append, List.append_nil]) (by first | rfl | (simp only [List.length_append, List.length_map, List.length_cons, List.length_nil]; done) | (simp only [List.length_append, List.length_map, List.length_cons, List.length_nil, List.size_toArray]; done)))) ?_
    refine ws_p rfl rfl rfl rfl (p_mv rfl) ?_
    refine ws_p rfl rfl rfl rfl (p_nck rfl) ?_
    refine ws_p rfl rfl rfl rfl (p_fld (j := 35) Tryd.underlying156 rfl ⟨_, by rfl⟩ rfl rfl) ?_
    refine ws_h rfl rfl rfl rfl (p_ldA (cs := (List.map u8v v0)) Tryd.underlying38 rfl (szL sz38 (by first | rfl | (simp only [List.length_append, List.length_map, List.length_cons, List.length_nil, (show List.length v0 = 32 from hv0)]; done) | (simp only [List.length_append, List.length_map, List.length_cons, List.length_nil, List.size_toArray, (show List.length v0 = 32 from hv0)]; done))) rfl (fun _ h => rng_at (p := (([i64 ((256 : Nat) : Int), .pointer none, .pointer none] ++ (List.map u8v k0)) : List Value)) (q := ((List.map u8v v0) : List Value)) (r := (([i64 ((1 : Nat) : Int), .int .u32 (d0 : Int), .int .i32 ((0 : Nat) : Int), .int .u32 0] ++ (List.map u8v h0)) : List Value)) (hb0.ch h (fun ht => absurd ht (by omega))) (by simp only [List.append_assoc, List.cons_append, List.nil_append, List.append_nil]) (by first | rfl | (simp only [List.length_append, List.length_map, List.length_cons, List.length_nil, (show List.length k0 = 32 from hk0)]; done) | (simp only [List.length_append, List.length_map, List.length_cons, List.length_nil, List.size_toArray, (show List.length k0 = 32 from hk0)]; done)))) ?_
    refine ws_p rfl rfl rfl rfl (p_as rfl) ?_
    refine ws_e rfl rfl (e_stW (vs := List.map u8v k0) (szL sz38 (by rw [List.length_map]; exact hk0)) (oneL one_u8 _) rfl rfl hb5 (by simp only [List.size_toArray, List.length_map]; first | done | exact ((List.length_replicate ..)).trans (hk0).symm) (fun w7 hb5 hc hsz => ⟨(hS.trans hc (fun _ _ h => h) (fun _ _ h => h)), ?_⟩))
    have hzw7 := hc.size
    have HC := HC.trans hc (fun _ _ h => h) (fun k hk ht => absurd ht (by omega))
    have hW := hW.ch hc (by intro k hz hk ht; first | omega | (dsimp only at *; omega))
    have hXt := hXt.ch hc (by first | exact fun _ _ h => h | (intro a ha ht; have h2 := htl a (by first | exact hsx a ha | exact hsy a ha | exact hzt a ha | exact ha); first | omega | exact absurd ht (by omega)))
    first | have hrnd := hrnd.ch hc (by intro k hk ht; first | omega | (dsimp only at *; omega)) | have hrnd := hrnd.chT hc (by intro k hz hk ht; first | omega | (dsimp only at *; omega))
    have hb3 := hb3.ch hc (by omega)
    have hb6 := hb6.ch hc (by omega)
    have hb0 := hb0.ch hc (by omega)
    have hX := hX.ch hc (by first | exact fun _ _ h => h | (intro a ha ht; have h2 := htl a (by first | exact hsx a ha | exact hsy a ha | exact hzt a ha | exact ha); first | omega | exact absurd ht (by omega)))
    have hS := (hS.trans hc (fun _ _ h => h) (fun _ _ h => h))
    refine ws_l rfl rfl (e_stW (vs := List.map u8v v0) (szL sz38 (by rw [List.length_map]; exact hv0)) (oneL one_u8 _) rfl rfl hb6 (by simp only [List.size_toArray, List.length_map]; first | done | exact ((List.length_replicate ..)).trans (hv0).symm) (fun w8 hb6 hc hsz => ?_))
    have hzw8 := hc.size
    have HC := HC.trans hc (fun _ _ h => h) (fun k hk ht => absurd ht (by omega))
    have hW := hW.ch hc (by intro k hz hk ht; first | omega | (dsimp only at *; omega))
    have hXt := hXt.ch hc (by first | exact fun _ _ h => h | (intro a ha ht; have h2 := htl a (by first | exact hsx a ha | exact hsy a ha | exact hzt a ha | exact ha); first | omega | exact absurd ht (by omega)))
    first | have hrnd := hrnd.ch hc (by intro k hk ht; first | omega | (dsimp only at *; omega)) | have hrnd := hrnd.chT hc (by intro k hz hk ht; first | omega | (dsimp only at *; omega))
    have hb3 := hb3.ch hc (by omega)
    have hb5 := hb5.ch hc (by omega)
    have hb0 := hb0.ch hc (by omega)
    have hX := hX.ch hc (by first | exact fun _ _ h => h | (intro a ha ht; have h2 := htl a (by first | exact hsx a ha | exact hsy a ha | exact hzt a ha | exact ha); first | omega | exact absurd ht (by omega)))
    refine ws_p rfl rfl rfl rfl (p_as rfl) ?_
    refine ws_n ?_
    refine x_seq ?_
    refine wc_ret ?_
    refine fin_run (resMany (rs := [.tmp 4, .cell 5 38, .cell 6 38, .tmp 7]) rfl (.tmp rfl (.cellA (cs := List.map u8v k0) rfl Tryd.underlying38 rfl (szL sz38 (by rw [List.length_map]; exact hk0)) (rngL hb5) (.cellA (cs := List.map u8v v0) rfl Tryd.underlying38 rfl (szL sz38 (by rw [List.length_map]; exact hv0)) (rngL hb6) (.tmp rfl (.nil))))) rfl) ?_
    have hwy2 : t.er.way k = ys := by rw [hwy]; show _ ++ Tr.way (.leaf k0 v0) k = _; rw [Tr.way, List.append_nil]
    rw [hwy2, hfd]
    exact ⟨A, l, c, rfl, hW.mono (fun k _ hk => by first | omega | (dsimp only at *; omega)), hXt, HC⟩
  ·
    obtain ⟨houtx, houty⟩ := hX.out
    obtain ⟨⟨hb256, hcn0, hk0, d0, h0, ⟨hh0, hO0⟩, hb0⟩, hXx, hXy⟩ := id hX
    have hb0 : Blk w5 g0 156 (([i64 (b : Int), ndp x.adr, ndp y.adr] ++ ((List.map u8v x.er.key) ++ ((List.map u8v zeroH) ++ ([i64 ((x.er.cnt + y.er.cnt : Nat) : Int), .int .u32 (d0 : Int), .int .i32 ((0 : Nat) : Int), .int .u32 0] ++ (List.map u8v h0))))) : List Value).toArray := hb0
    have hsx : ∀ a, a ∈ x.ads → a ∈ t.ads := fun a ha => hzt a (by simp [LT.ads, ha])
    have hsy : ∀ a, a ∈ y.ads → a ∈ t.ads := fun a ha => hzt a (by simp [LT.ads, ha])
    have hg0l := htl g0 (hzt _ (by simp [LT.ads]))
    have hlt3 := hb3.lt
    have hne03 : g0 ≠ g3 := hb0.ne hb3
    have hne05 : g0 ≠ g5 := hb0.ne hb5
    have hne06 : g0 ≠ g6 := hb0.ne hb6
    refine wc_region ?_
    refine wl rfl rfl rfl (p_mv rfl) ?_
    refine wl rfl rfl rfl (p_nck rfl) ?_
    refine wl rfl rfl rfl (p_fld (j := 0) Tryd.underlying156 rfl ⟨_, by rfl⟩ rfl rfl) ?_
    refine wl rfl rfl rfl (p_ld Tryd.underlying3 rfl rfl (ld (cell_at (p := []) (v := (i64 (b : Int) : Value)) (r := (([ndp x.adr, ndp y.adr] ++ ((List.map u8v x.er.key) ++ ((List.map u8v zeroH) ++ ([i64 ((x.er.cnt + y.er.cnt : Nat) : Int), .int .u32 (d0 : Int), .int .i32 ((0 : Nat) : Int), .int .u32 0] ++ (List.map u8v h0))))) : List Value)) hb0 (by simp only [List.append_assoc, List.cons_append, List.nil_append, List.append_nil]) (by first | rfl | (simp only [List.length_append, List.length_map, List.length_cons, List.length_nil]; done) | (simp only [List.length_append, List.length_map, List.length_cons, List.length_nil, List.size_toArray]; done))))) ?_
    refine wl rfl rfl rfl (p_lt rfl rfl) ?_
    refine wl_nil ?_
    refine x_seq ?_
    refine wc_yes rfl (decide_eq_true (by omega)) ?_
    refine wc_skip ?_
    refine x_seq ?_
    refine wc_block ?_
    refine wc_seq ?_
    refine wc_draw (.st 0 1 (.st 1 0 (.st 2 0 (.st 3 0 (.st 4 1 (.st 5 2 (.st 6 0 .nil))))))) 7 (by kernel_rfl) (by kernel_rfl) (by kernel_rfl) (by repeat (first | with_reducible exact pan_body | with_reducible apply pan_then | with_reducible apply pan_in)) (fun x => Ch No w5.drew x) (Ch.refl _ _) ?_
    obtain ⟨w9, ew9⟩ : ∃ x, x = w5.drew := ⟨_, rfl⟩
    rw [← ew9]
    have hc : Ch No w5 w9 := by rw [ew9]; exact Ch.drew _
    have hszw9 : w9.heap.size = w5.heap.size := by rw [ew9]; rfl
    clear ew9
    have hzw9 := hc.size
    have HC := HC.tr hc
    have hW := hW.no hc
    have hXt := hXt.ch hc (by first | exact fun _ _ h => h | (intro a ha ht; have h2 := htl a (by first | exact hsx a ha | exact hsy a ha | exact hzt a ha | exact ha); first | omega | exact absurd ht (by omega)))
    have hrnd := hrnd.no hc
    have hb3 := hb3.ch hc (fun h => h)
    have hb5 := hb5.ch hc (fun h => h)
    have hb6 := hb6.ch hc (fun h => h)
    have hb0 := hb0.ch hc (fun h => h)
    have hX := hX.ch hc (by first | exact fun _ _ h => h | (intro a ha ht; have h2 := htl a (by first | exact hsx a ha | exact hsy a ha | exact hzt a ha | exact ha); first | omega | exact absurd ht (by omega)))
    have hXx := hXx.ch hc (by first | exact fun _ _ h => h | (intro a ha ht; have h2 := htl a (by first | exact hsx a ha | exact hsy a ha | exact hzt a ha | exact ha); first | omega | exact absurd ht (by omega)))
    have hXy := hXy.ch hc (by first | exact fun _ _ h => h | (intro a ha ht; have h2 := htl a (by first | exact hsx a ha | exact hsy a ha | exact hzt a ha | exact ha); first | omega | exact absurd ht (by omega)))
    have hS : Ch No w9 w9 := Ch.refl _ _
    refine ws_h rfl rfl rfl rfl (p_ldA (cs := List.map u8v k) Tryd.underlying38 rfl (szL sz38 (by rw [List.length_map]; exact hk)) rfl (fun _ h => (rngL (hb3.ch h (fun h => h))))) ?_
    refine ws_p rfl rfl rfl rfl (p_mv rfl) ?_
    refine ws_p rfl rfl rfl rfl (p_nck rfl) ?_
    refine ws_p rfl rfl rfl rfl (p_fld (j := 0) Tryd.underlying156 rfl ⟨_, by rfl⟩ rfl rfl) ?_
    refine ws_h rfl rfl rfl rfl (p_ld Tryd.underlying3 rfl rfl (fun _ h => h.cell (fun h => h) (cell_at (p := []) (v := (i64 (b : Int) : Value)) (r := (([ndp x.adr, ndp y.adr] ++ ((List.map u8v x.er.key) ++ ((List.map u8v zeroH) ++ ([i64 ((x.er.cnt + y.er.cnt : Nat) : Int), .int .u32 (d0 : Int), .int .i32 ((0 : Nat) : Int), .int .u32 0] ++ (List.map u8v h0))))) : List Value)) hb0 (by simp only [List.append_assoc, List.cons_append, List.nil_append, List.append_nil]) (by first | rfl | (simp only [List.length_append, List.length_map, List.length_cons, List.length_nil]; done) | (simp only [List.length_append, List.length_map, List.length_cons, List.length_nil, List.size_toArray]; done))))) ?_
    refine ws_e rfl rfl (e_call ent38 rfl rfl (bitS (n := b) (hk)) ?_)
    rintro _ w10 ⟨s37, rfl, hs37, hsl37, hc⟩
    refine ⟨_, rfl, hc, ?_⟩
    have hzw10 := hc.size
    have HC := HC.tr hc
    have hW := hW.after hc
    have hXt := hXt.ch hc (by first | exact fun _ _ h => h | (intro a ha ht; have h2 := htl a (by first | exact hsx a ha | exact hsy a ha | exact hzt a ha | exact ha); first | omega | exact absurd ht (by omega)))
    have hrnd := hrnd.no hc
    have hb3 := hb3.ch hc (fun h => h)
    have hb5 := hb5.ch hc (fun h => h)
    have hb6 := hb6.ch hc (fun h => h)
    have hb0 := hb0.ch hc (fun h => h)
    have hX := hX.ch hc (by first | exact fun _ _ h => h | (intro a ha ht; have h2 := htl a (by first | exact hsx a ha | exact hsy a ha | exact hzt a ha | exact ha); first | omega | exact absurd ht (by omega)))
    have hXx := hXx.ch hc (by first | exact fun _ _ h => h | (intro a ha ht; have h2 := htl a (by first | exact hsx a ha | exact hsy a ha | exact hzt a ha | exact ha); first | omega | exact absurd ht (by omega)))
    have hXy := hXy.ch hc (by first | exact fun _ _ h => h | (intro a ha ht; have h2 := htl a (by first | exact hsx a ha | exact hsy a ha | exact hzt a ha | exact ha); first | omega | exact absurd ht (by omega)))
    refine ws_narrow (S' := fun x => Ch No w10 x) (Ch.refl _ _) (fun x h => hc.tr h) ?_
    refine ws_p rfl rfl rfl rfl (p_as rfl) ?_
    refine ws_n ?_
    refine x_seq ?_
    refine wc_seq ?_
    obtain rfl | rfl : s37 = 0 ∨ s37 = 1 := by omega
    ·
      refine wc_draw (.st 0 0 (.st 1 0 (.st 2 0 (.st 3 0 (.st 4 1 (.st 5 0 (.st 6 0 (.st 7 0 (.st 8 0 (.st 9 0 (.st 10 0 (.st 11 1 (.st 12 2 (.st 13 0 (.st 14 2 (.st 15 3 (.st 16 0 .nil))))))))))))))))) 15 (by kernel_rfl) (by kernel_rfl) (by kernel_rfl) (by repeat (first | with_reducible exact pan_body | with_reducible apply pan_then | with_reducible apply pan_in)) (fun z => Ch (fun k => k ∈ y.ads) w10.drew z) (Ch.refl _ _) ?_
      obtain ⟨w11, ew11⟩ : ∃ x, x = w10.drew := ⟨_, rfl⟩
      rw [← ew11]
      have hc : Ch No w10 w11 := by rw [ew11]; exact Ch.drew _
      have hszw11 : w11.heap.size = w10.heap.size := by rw [ew11]; rfl
      clear ew11
      have hzw11 := hc.size
      have HC := HC.tr hc
      have hW := hW.no hc
      have hXt := hXt.ch hc (by first | exact fun _ _ h => h | (intro a ha ht; have h2 := htl a (by first | exact hsx a ha | exact hsy a ha | exact hzt a ha | exact ha); first | omega | exact absurd ht (by omega)))
      have hrnd := hrnd.no hc
      have hb3 := hb3.ch hc (fun h => h)
      have hb5 := hb5.ch hc (fun h => h)
      have hb6 := hb6.ch hc (fun h => h)
      have hb0 := hb0.ch hc (fun h => h)
      have hX := hX.ch hc (by first | exact fun _ _ h => h | (intro a ha ht; have h2 := htl a (by first | exact hsx a ha | exact hsy a ha | exact hzt a ha | exact ha); first | omega | exact absurd ht (by omega)))
      have hXx := hXx.ch hc (by first | exact fun _ _ h => h | (intro a ha ht; have h2 := htl a (by first | exact hsx a ha | exact hsy a ha | exact hzt a ha | exact ha); first | omega | exact absurd ht (by omega)))
      have hXy := hXy.ch hc (by first | exact fun _ _ h => h | (intro a ha ht; have h2 := htl a (by first | exact hsx a ha | exact hsy a ha | exact hzt a ha | exact ha); first | omega | exact absurd ht (by omega)))
      have hS : Ch (fun k => k ∈ y.ads) w11 w11 := Ch.refl _ _
      refine ws_p rfl rfl rfl rfl (p_mv rfl) ?_
      refine ws_p rfl rfl rfl rfl (p_mv rfl) ?_
      refine ws_p rfl rfl rfl rfl (p_nck rfl) ?_
      refine ws_p rfl rfl rfl rfl (p_fld (j := 0) Tryd.underlying156 rfl ⟨_, by rfl⟩ rfl rfl) ?_
      refine ws_h rfl rfl rfl rfl (p_ld Tryd.underlying3 rfl rfl (fun _ h => h.cell (fun ht => absurd ht (by assumption)) (cell_at (p := []) (v := (i64 (b : Int) : Value)) (r := (([ndp x.adr, ndp y.adr] ++ ((List.map u8v x.er.key) ++ ((List.map u8v zeroH) ++ ([i64 ((x.er.cnt + y.er.cnt : Nat) : Int), .int .u32 (d0 : Int), .int .i32 ((0 : Nat) : Int), .int .u32 0] ++ (List.map u8v h0))))) : List Value)) hb0 (by simp only [List.append_assoc, List.cons_append, List.nil_append, List.append_nil]) (by first | rfl | (simp only [List.length_append, List.length_map, List.length_cons, List.length_nil]; done) | (simp only [List.length_append, List.length_map, List.length_cons, List.length_nil, List.size_toArray]; done))))) ?_
      refine ws_p rfl rfl rfl rfl (p_mv rfl) ?_
      refine ws_p rfl rfl rfl rfl (p_mv rfl) ?_
      refine ws_p rfl rfl rfl rfl (p_sub (Z := 1) rfl rfl (by rw [w64 (by omega)]; rfl)) ?_
      refine ws_p rfl rfl rfl rfl (p_nck rfl) ?_
      refine ws_p rfl rfl rfl rfl (p_fld (j := 1) Tryd.underlying156 rfl ⟨_, by rfl⟩ rfl rfl) ?_
      refine ws_p rfl rfl rfl rfl (p_ixA (j := 1) Tryd.underlying142 sz39 rfl rfl (by omega) (by omega) rfl) ?_
      refine ws_h rfl rfl rfl rfl (p_ld Tryd.underlying39 rfl rfl (fun _ h => h.cell (fun ht => absurd ht (by assumption)) (cell_at (p := ([i64 (b : Int), ndp x.adr] : List Value)) (v := (ndp y.adr : Value)) (r := (((List.map u8v x.er.key) ++ ((List.map u8v zeroH) ++ ([i64 ((x.er.cnt + y.er.cnt : Nat) : Int), .int .u32 (d0 : Int), .int .i32 ((0 : Nat) : Int), .int .u32 0] ++ (List.map u8v h0)))) : List Value)) hb0 (by simp only [List.append_assoc, List.cons_append, List.nil_append, List.append_nil]) (by first | rfl | (simp only [List.length_append, List.length_map, List.length_cons, List.length_nil]; done) | (simp only [List.length_append, List.length_map, List.length_cons, List.length_nil, List.size_toArray]; done))))) ?_
      refine ws_e rfl rfl (e_call ent85 rfl rfl (root_any y hXy hrnd) ?_)
      rintro _ w13 ⟨rfl, hLn, hc⟩
      refine ⟨_, rfl, (by first | exact hS.tr hc | exact hS.trans hc (fun _ _ h => h) (fun _ _ h => h)), ?_⟩
      have hRB := hXy.mem_blk
      have hR0 := sl_out hrnd (by omega) hXy
      have hFil := Fil.of hXy hc hLn
      have hR1 := houty
      have hzw13 := hc.size
      have HC := HC.trans hc (fun _ _ h => h) (fun k hk ht => hsy k ht)
      have hW := hW.ty hc (by decide) hRB
      have hXt := hXt.fil hFil
      have hrnd := hrnd.ch hc (fun k hk ht => hR0 (hk ▸ ht))
      first | have hb3 := hb3.ch hc (hb3.not_nd hRB) | have hb3 := hb3.ch hc (by assumption)
      first | have hb5 := hb5.ch hc (hb5.not_nd hRB) | have hb5 := hb5.ch hc (by assumption)
      first | have hb6 := hb6.ch hc (hb6.not_nd hRB) | have hb6 := hb6.ch hc (by assumption)
      have hb0 := hb0.ch hc hR1
      have hX := hX.fil hFil
      have hXx := hXx.fil hFil
      have hXy := hXy.fil hFil
      have hS := (by first | exact hS.tr hc | exact hS.trans hc (fun _ _ h => h) (fun _ _ h => h))
      refine ws_p rfl rfl rfl rfl (p_bldX (vs' := [i64 (b : Int), (.agg ((hx y.er.root) : List Value).toArray)]) (cs := (([i64 (b : Int)] ++ (List.map u8v y.er.root)) : List Value)) (cs' := (([i64 (b : Int)] ++ (hx y.er.root)) : List Value)) rfl (by simp only [hv, map_hx Tr.root_len]) (by simp only [hv, map_hx Tr.root_len]) (fun _ => by kernel_rfl)) ?_
      have hltg3 := hb3.lt
      have hltg5 := hb5.lt
      have hltg6 := hb6.lt
      have hltg0 := hb0.lt
      refine ws_e rfl rfl (e_bslX (E := 130) (cs := (([i64 (b : Int)] ++ (List.map u8v y.er.root)) : List Value)) (cs' := (([i64 (b : Int)] ++ (hx y.er.root)) : List Value)) rfl rfl (by simp only [hv, map_hx Tr.root_len]) (fun _ => by kernel_rfl) (fun w14 g52 hg52 hb52 hc hsz52 => ⟨(by first | exact hS.tr hc | exact hS.trans hc (fun _ _ h => h) (fun _ _ h => h)), ?_⟩))
      have hzw14 := hc.size
      have HC := HC.tr hc
      have hW := hW.after hc
      have hXt := hXt.ch hc (by first | exact fun _ _ h => h | (intro a ha ht; have h2 := htl a (by first | exact hsx a ha | exact hsy a ha | exact hzt a ha | exact ha); first | omega | exact absurd ht (by omega)))
      have hrnd := hrnd.no hc
      have hb3 := hb3.ch hc (fun h => h)
      have hb5 := hb5.ch hc (fun h => h)
      have hb6 := hb6.ch hc (fun h => h)
      have hb0 := hb0.ch hc (fun h => h)
      have hX := hX.ch hc (by first | exact fun _ _ h => h | (intro a ha ht; have h2 := htl a (by first | exact hsx a ha | exact hsy a ha | exact hzt a ha | exact ha); first | omega | exact absurd ht (by omega)))
      have hXx := hXx.ch hc (by first | exact fun _ _ h => h | (intro a ha ht; have h2 := htl a (by first | exact hsx a ha | exact hsy a ha | exact hzt a ha | exact ha); first | omega | exact absurd ht (by omega)))
      have hXy := hXy.ch hc (by first | exact fun _ _ h => h | (intro a ha ht; have h2 := htl a (by first | exact hsx a ha | exact hsy a ha | exact hzt a ha | exact ha); first | omega | exact absurd ht (by omega)))
      have hge52 : w.heap.size ≤ g52 := by have := HC.size; omega
      have hS52 := SI.oneA (E := eST) (x := ⟨(b : Int), y.er.root⟩) hb52 rfl Tr.root_len
      have hS := (by first | exact hS.tr hc | exact hS.trans hc (fun _ _ h => h) (fun _ _ h => h))
      have hltg3 := hb3.lt
      have hltg5 := hb5.lt
      have hltg6 := hb6.lt
      have hltg0 := hb0.lt
      refine ws_l rfl rfl (e_appI rfl el127 rfl rfl hW (hS52) (by omega) (by intro k hk; first | omega | (dsimp only at *; omega)) (fun w15 A53 c53 hW hc => ?_))
      have hzw15 := hc.size
      have HC := HC.trans hc (fun _ _ h => h) (fun k hk ht => absurd ht (by first | omega | (dsimp only at *; omega)))
      have hXt := hXt.ch hc (by first | exact fun _ _ h => h | (intro a ha ht; have h2 := htl a (by first | exact hsx a ha | exact hsy a ha | exact hzt a ha | exact ha); first | omega | exact absurd ht (by omega)))
      first | have hrnd := hrnd.ch hc (by intro k hk ht; first | omega | (dsimp only at *; omega)) | have hrnd := hrnd.chT hc (by intro k hz hk ht; first | omega | (dsimp only at *; omega))
      have hb3 := hb3.ch hc (by first | omega | (dsimp only; omega))
      have hb5 := hb5.ch hc (by first | omega | (dsimp only; omega))
      have hb6 := hb6.ch hc (by first | omega | (dsimp only; omega))
      have hb0 := hb0.ch hc (by first | omega | (dsimp only; omega))
      have hX := hX.ch hc (by first | exact fun _ _ h => h | (intro a ha ht; have h2 := htl a (by first | exact hsx a ha | exact hsy a ha | exact hzt a ha | exact ha); first | omega | exact absurd ht (by omega)))
      have hXx := hXx.ch hc (by first | exact fun _ _ h => h | (intro a ha ht; have h2 := htl a (by first | exact hsx a ha | exact hsy a ha | exact hzt a ha | exact ha); first | omega | exact absurd ht (by omega)))
      have hXy := hXy.ch hc (by first | exact fun _ _ h => h | (intro a ha ht; have h2 := htl a (by first | exact hsx a ha | exact hsy a ha | exact hzt a ha | exact ha); first | omega | exact absurd ht (by omega)))
      first | have hS52 := hS52.ch hc (by intro k hk ht; first | omega | (dsimp only at *; omega)) | have hS52 := hS52.chT hc (by intro k hz hk ht; first | omega | (dsimp only at *; omega))
      refine ws_p rfl rfl rfl rfl (p_as rfl) ?_
      refine ws_n ?_
      refine x_seq ?_
      refine wc_region ?_
      refine wl rfl rfl rfl (p_mv rfl) ?_
      refine wl rfl rfl rfl (p_mv rfl) ?_
      refine wl rfl rfl rfl (p_nck rfl) ?_
      refine wl rfl rfl rfl (p_fld (j := 1) Tryd.underlying156 rfl ⟨_, by rfl⟩ rfl rfl) ?_
      refine wl rfl rfl rfl (p_ixA (j := 0) Tryd.underlying142 sz39 rfl rfl (by omega) (by omega) rfl) ?_
      refine wl rfl rfl rfl (p_ld Tryd.underlying39 rfl rfl (ld (cell_at (p := ([i64 (b : Int)] : List Value)) (v := (ndp x.adr : Value)) (r := (([ndp y.adr] ++ ((List.map u8v x.er.key) ++ ((List.map u8v zeroH) ++ ([i64 ((x.er.cnt + y.er.cnt : Nat) : Int), .int .u32 (d0 : Int), .int .i32 ((0 : Nat) : Int), .int .u32 0] ++ (List.map u8v h0))))) : List Value)) hb0 (by simp only [List.append_assoc, List.cons_append, List.nil_append, List.append_nil]) (by first | rfl | (simp only [List.length_append, List.length_map, List.length_cons, List.length_nil]; done) | (simp only [List.length_append, List.length_map, List.length_cons, List.length_nil, List.size_toArray]; done))))) ?_
      refine wl rfl rfl rfl (p_as rfl) ?_
      refine wl_nil ?_
      refine x_in_normal ?_
      refine x_round (e' := [(3, .pointer (some ⟨g3, 0, none⟩)), (5, .pointer (some ⟨g5, 0, none⟩)), (6, .pointer (some ⟨g6, 0, none⟩)), (8, .slice (_) (_) (_)), (9, ndp (x).adr)]) ⟨rfl, rfl, rfl, rfl, rfl, trivial⟩ (by rw [hm0]; (show _ < LT.size _; simp only [LT.size]; omega)) ⟨x, _, _, _, _, rfl, rfl, hXx, hsx, (by rw [hfd]; show Tr.find (.fork b x.er y.er) k = _; rw [Tr.find]; first | rw [if_pos (by assumption)] | rw [if_neg (by omega)]), (by rw [hwy]; show _ ++ Tr.way (.fork b x.er y.er) k = _; rw [Tr.way]; first | rw [if_pos (by assumption), List.append_assoc]; rfl | rw [if_neg (by omega), List.append_assoc]; rfl), (by simp only [LT.size] at hls; omega), hW.mono (fun k _ hk => by first | omega | (dsimp only at *; omega)), hXt, hrnd, hb3, hb5, hb6, hg5n, hg56, HC⟩
    ·
      refine wc_draw (.st 0 0 (.st 1 0 (.st 2 0 (.st 3 0 (.st 4 1 (.st 5 0 (.st 6 0 (.st 7 0 (.st 8 0 (.st 9 0 (.st 10 0 (.st 11 1 (.st 12 2 (.st 13 0 (.st 14 2 (.st 15 3 (.st 16 0 .nil))))))))))))))))) 15 (by kernel_rfl) (by kernel_rfl) (by kernel_rfl) (by repeat (first | with_reducible exact pan_body | with_reducible apply pan_then | with_reducible apply pan_in)) (fun z => Ch (fun k => k ∈ x.ads) w10.drew z) (Ch.refl _ _) ?_
      obtain ⟨w17, ew17⟩ : ∃ x, x = w10.drew := ⟨_, rfl⟩
      rw [← ew17]
      have hc : Ch No w10 w17 := by rw [ew17]; exact Ch.drew _
      have hszw17 : w17.heap.size = w10.heap.size := by rw [ew17]; rfl
      clear ew17
      have hzw17 := hc.size
      have HC := HC.tr hc
      have hW := hW.no hc
      have hXt := hXt.ch hc (by first | exact fun _ _ h => h | (intro a ha ht; have h2 := htl a (by first | exact hsx a ha | exact hsy a ha | exact hzt a ha | exact ha); first | omega | exact absurd ht (by omega)))
      have hrnd := hrnd.no hc
      have hb3 := hb3.ch hc (fun h => h)
      have hb5 := hb5.ch hc (fun h => h)
      have hb6 := hb6.ch hc (fun h => h)
      have hb0 := hb0.ch hc (fun h => h)
      have hX := hX.ch hc (by first | exact fun _ _ h => h | (intro a ha ht; have h2 := htl a (by first | exact hsx a ha | exact hsy a ha | exact hzt a ha | exact ha); first | omega | exact absurd ht (by omega)))
      have hXx := hXx.ch hc (by first | exact fun _ _ h => h | (intro a ha ht; have h2 := htl a (by first | exact hsx a ha | exact hsy a ha | exact hzt a ha | exact ha); first | omega | exact absurd ht (by omega)))
      have hXy := hXy.ch hc (by first | exact fun _ _ h => h | (intro a ha ht; have h2 := htl a (by first | exact hsx a ha | exact hsy a ha | exact hzt a ha | exact ha); first | omega | exact absurd ht (by omega)))
      have hS : Ch (fun k => k ∈ x.ads) w17 w17 := Ch.refl _ _
      refine ws_p rfl rfl rfl rfl (p_mv rfl) ?_
      refine ws_p rfl rfl rfl rfl (p_mv rfl) ?_
      refine ws_p rfl rfl rfl rfl (p_nck rfl) ?_
      refine ws_p rfl rfl rfl rfl (p_fld (j := 0) Tryd.underlying156 rfl ⟨_, by rfl⟩ rfl rfl) ?_
      refine ws_h rfl rfl rfl rfl (p_ld Tryd.underlying3 rfl rfl (fun _ h => h.cell (fun ht => absurd ht (by assumption)) (cell_at (p := []) (v := (i64 (b : Int) : Value)) (r := (([ndp x.adr, ndp y.adr] ++ ((List.map u8v x.er.key) ++ ((List.map u8v zeroH) ++ ([i64 ((x.er.cnt + y.er.cnt : Nat) : Int), .int .u32 (d0 : Int), .int .i32 ((0 : Nat) : Int), .int .u32 0] ++ (List.map u8v h0))))) : List Value)) hb0 (by simp only [List.append_assoc, List.cons_append, List.nil_append, List.append_nil]) (by first | rfl | (simp only [List.length_append, List.length_map, List.length_cons, List.length_nil]; done) | (simp only [List.length_append, List.length_map, List.length_cons, List.length_nil, List.size_toArray]; done))))) ?_
      refine ws_p rfl rfl rfl rfl (p_mv rfl) ?_
      refine ws_p rfl rfl rfl rfl (p_mv rfl) ?_
      refine ws_p rfl rfl rfl rfl (p_sub (Z := 0) rfl rfl (by rw [w64 (by omega)]; rfl)) ?_
      refine ws_p rfl rfl rfl rfl (p_nck rfl) ?_
      refine ws_p rfl rfl rfl rfl (p_fld (j := 1) Tryd.underlying156 rfl ⟨_, by rfl⟩ rfl rfl) ?_
      refine ws_p rfl rfl rfl rfl (p_ixA (j := 0) Tryd.underlying142 sz39 rfl rfl (by omega) (by omega) rfl) ?_
      refine ws_h rfl rfl rfl rfl (p_ld Tryd.underlying39 rfl rfl (fun _ h => h.cell (fun ht => absurd ht (by assumption)) (cell_at (p := ([i64 (b : Int)] : List Value)) (v := (ndp x.adr : Value)) (r := (([ndp y.adr] ++ ((List.map u8v x.er.key) ++ ((List.map u8v zeroH) ++ ([i64 ((x.er.cnt + y.er.cnt : Nat) : Int), .int .u32 (d0 : Int), .int .i32 ((0 : Nat) : Int), .int .u32 0] ++ (List.map u8v h0))))) : List Value)) hb0 (by simp only [List.append_assoc, List.cons_append, List.nil_append, List.append_nil]) (by first | rfl | (simp only [List.length_append, List.length_map, List.length_cons, List.length_nil]; done) | (simp only [List.length_append, List.length_map, List.length_cons, List.length_nil, List.size_toArray]; done))))) ?_
      refine ws_e rfl rfl (e_call ent85 rfl rfl (root_any x hXx hrnd) ?_)
      rintro _ w19 ⟨rfl, hLn, hc⟩
      refine ⟨_, rfl, (by first | exact hS.tr hc | exact hS.trans hc (fun _ _ h => h) (fun _ _ h => h)), ?_⟩
      have hRB := hXx.mem_blk
      have hR0 := sl_out hrnd (by omega) hXx
      have hFil := Fil.of hXx hc hLn
      have hR1 := houtx
      have hzw19 := hc.size
      have HC := HC.trans hc (fun _ _ h => h) (fun k hk ht => hsx k ht)
      have hW := hW.ty hc (by decide) hRB
      have hXt := hXt.fil hFil
      have hrnd := hrnd.ch hc (fun k hk ht => hR0 (hk ▸ ht))
      first | have hb3 := hb3.ch hc (hb3.not_nd hRB) | have hb3 := hb3.ch hc (by assumption)
      first | have hb5 := hb5.ch hc (hb5.not_nd hRB) | have hb5 := hb5.ch hc (by assumption)
      first | have hb6 := hb6.ch hc (hb6.not_nd hRB) | have hb6 := hb6.ch hc (by assumption)
      have hb0 := hb0.ch hc hR1
      have hX := hX.fil hFil
      have hXx := hXx.fil hFil
      have hXy := hXy.fil hFil
      have hS := (by first | exact hS.tr hc | exact hS.trans hc (fun _ _ h => h) (fun _ _ h => h))
      refine ws_p rfl rfl rfl rfl (p_bldX (vs' := [i64 (b : Int), (.agg ((hx x.er.root) : List Value).toArray)]) (cs := (([i64 (b : Int)] ++ (List.map u8v x.er.root)) : List Value)) (cs' := (([i64 (b : Int)] ++ (hx x.er.root)) : List Value)) rfl (by simp only [hv, map_hx Tr.root_len]) (by simp only [hv, map_hx Tr.root_len]) (fun _ => by kernel_rfl)) ?_
      have hltg3 := hb3.lt
      have hltg5 := hb5.lt
      have hltg6 := hb6.lt
      have hltg0 := hb0.lt
      refine ws_e rfl rfl (e_bslX (E := 130) (cs := (([i64 (b : Int)] ++ (List.map u8v x.er.root)) : List Value)) (cs' := (([i64 (b : Int)] ++ (hx x.er.root)) : List Value)) rfl rfl (by simp only [hv, map_hx Tr.root_len]) (fun _ => by kernel_rfl) (fun w20 g52 hg52 hb52 hc hsz52 => ⟨(by first | exact hS.tr hc | exact hS.trans hc (fun _ _ h => h) (fun _ _ h => h)), ?_⟩))
      have hzw20 := hc.size
      have HC := HC.tr hc
      have hW := hW.after hc
      have hXt := hXt.ch hc (by first | exact fun _ _ h => h | (intro a ha ht; have h2 := htl a (by first | exact hsx a ha | exact hsy a ha | exact hzt a ha | exact ha); first | omega | exact absurd ht (by omega)))
      have hrnd := hrnd.no hc
      have hb3 := hb3.ch hc (fun h => h)
      have hb5 := hb5.ch hc (fun h => h)
      have hb6 := hb6.ch hc (fun h => h)
      have hb0 := hb0.ch hc (fun h => h)
      have hX := hX.ch hc (by first | exact fun _ _ h => h | (intro a ha ht; have h2 := htl a (by first | exact hsx a ha | exact hsy a ha | exact hzt a ha | exact ha); first | omega | exact absurd ht (by omega)))
      have hXx := hXx.ch hc (by first | exact fun _ _ h => h | (intro a ha ht; have h2 := htl a (by first | exact hsx a ha | exact hsy a ha | exact hzt a ha | exact ha); first | omega | exact absurd ht (by omega)))
      have hXy := hXy.ch hc (by first | exact fun _ _ h => h | (intro a ha ht; have h2 := htl a (by first | exact hsx a ha | exact hsy a ha | exact hzt a ha | exact ha); first | omega | exact absurd ht (by omega)))
      have hge52 : w.heap.size ≤ g52 := by have := HC.size; omega
      have hS52 := SI.oneA (E := eST) (x := ⟨(b : Int), x.er.root⟩) hb52 rfl Tr.root_len
      have hS := (by first | exact hS.tr hc | exact hS.trans hc (fun _ _ h => h) (fun _ _ h => h))
      have hltg3 := hb3.lt
      have hltg5 := hb5.lt
      have hltg6 := hb6.lt
      have hltg0 := hb0.lt
      refine ws_l rfl rfl (e_appI rfl el127 rfl rfl hW (hS52) (by omega) (by intro k hk; first | omega | (dsimp only at *; omega)) (fun w21 A53 c53 hW hc => ?_))
      have hzw21 := hc.size
      have HC := HC.trans hc (fun _ _ h => h) (fun k hk ht => absurd ht (by first | omega | (dsimp only at *; omega)))
      have hXt := hXt.ch hc (by first | exact fun _ _ h => h | (intro a ha ht; have h2 := htl a (by first | exact hsx a ha | exact hsy a ha | exact hzt a ha | exact ha); first | omega | exact absurd ht (by omega)))
      first | have hrnd := hrnd.ch hc (by intro k hk ht; first | omega | (dsimp only at *; omega)) | have hrnd := hrnd.chT hc (by intro k hz hk ht; first | omega | (dsimp only at *; omega))
      have hb3 := hb3.ch hc (by first | omega | (dsimp only; omega))
      have hb5 := hb5.ch hc (by first | omega | (dsimp only; omega))
      have hb6 := hb6.ch hc (by first | omega | (dsimp only; omega))
      have hb0 := hb0.ch hc (by first | omega | (dsimp only; omega))
      have hX := hX.ch hc (by first | exact fun _ _ h => h | (intro a ha ht; have h2 := htl a (by first | exact hsx a ha | exact hsy a ha | exact hzt a ha | exact ha); first | omega | exact absurd ht (by omega)))
      have hXx := hXx.ch hc (by first | exact fun _ _ h => h | (intro a ha ht; have h2 := htl a (by first | exact hsx a ha | exact hsy a ha | exact hzt a ha | exact ha); first | omega | exact absurd ht (by omega)))
      have hXy := hXy.ch hc (by first | exact fun _ _ h => h | (intro a ha ht; have h2 := htl a (by first | exact hsx a ha | exact hsy a ha | exact hzt a ha | exact ha); first | omega | exact absurd ht (by omega)))
      first | have hS52 := hS52.ch hc (by intro k hk ht; first | omega | (dsimp only at *; omega)) | have hS52 := hS52.chT hc (by intro k hz hk ht; first | omega | (dsimp only at *; omega))
      refine ws_p rfl rfl rfl rfl (p_as rfl) ?_
      refine ws_n ?_
      refine x_seq ?_
      refine wc_region ?_
      refine wl rfl rfl rfl (p_mv rfl) ?_
      refine wl rfl rfl rfl (p_mv rfl) ?_
      refine wl rfl rfl rfl (p_nck rfl) ?_
      refine wl rfl rfl rfl (p_fld (j := 1) Tryd.underlying156 rfl ⟨_, by rfl⟩ rfl rfl) ?_
      refine wl rfl rfl rfl (p_ixA (j := 1) Tryd.underlying142 sz39 rfl rfl (by omega) (by omega) rfl) ?_
      refine wl rfl rfl rfl (p_ld Tryd.underlying39 rfl rfl (ld (cell_at (p := ([i64 (b : Int), ndp x.adr] : List Value)) (v := (ndp y.adr : Value)) (r := (((List.map u8v x.er.key) ++ ((List.map u8v zeroH) ++ ([i64 ((x.er.cnt + y.er.cnt : Nat) : Int), .int .u32 (d0 : Int), .int .i32 ((0 : Nat) : Int), .int .u32 0] ++ (List.map u8v h0)))) : List Value)) hb0 (by simp only [List.append_assoc, List.cons_append, List.nil_append, List.append_nil]) (by first | rfl | (simp only [List.length_append, List.length_map, List.length_cons, List.length_nil]; done) | (simp only [List.length_append, List.length_map, List.length_cons, List.length_nil, List.size_toArray]; done))))) ?_
      refine wl rfl rfl rfl (p_as rfl) ?_
      refine wl_nil ?_
      refine x_in_normal ?_
      refine x_round (e' := [(3, .pointer (some ⟨g3, 0, none⟩)), (5, .pointer (some ⟨g5, 0, none⟩)), (6, .pointer (some ⟨g6, 0, none⟩)), (8, .slice (_) (_) (_)), (9, ndp (y).adr)]) ⟨rfl, rfl, rfl, rfl, rfl, trivial⟩ (by rw [hm0]; (show _ < LT.size _; simp only [LT.size]; omega)) ⟨y, _, _, _, _, rfl, rfl, hXy, hsy, (by rw [hfd]; show Tr.find (.fork b x.er y.er) k = _; rw [Tr.find]; first | rw [if_pos (by assumption)] | rw [if_neg (by omega)]), (by rw [hwy]; show _ ++ Tr.way (.fork b x.er y.er) k = _; rw [Tr.way]; first | rw [if_pos (by assumption), List.append_assoc]; rfl | rw [if_neg (by omega), List.append_assoc]; rfl), (by simp only [LT.size] at hls; omega), hW.mono (fun k _ hk => by first | omega | (dsimp only at *; omega)), hXt, hrnd, hb3, hb5, hb6, hg5n, hg56, HC⟩

set_option maxHeartbeats 1000000 in
set_option maxRecDepth 20000 in
theorem tdown_none {w : World} {g : Nat} {k : List UInt8} (hbg : Blk w g 41 [.pointer none, .bool true].toArray) (hk : k.length = 32) :
    Calls Tryd.prog 72 #[ndp g, hv k] w fun e w' => e = .returned (.tuple #[.slice none 0 0, hv zeroH, hv zeroH, .bool false]) ∧ Ch No w w' := by
  have hltg := hbg.lt
  have HC : Ch No w w := Ch.refl _ _
  refine enter' (args := [ndp g, hv k]) (n := 69) Tryd.func72 rfl rfl rfl ?_
  refine wc_seq ?_
  refine wc_region ?_
  have hltg := hbg.lt
  refine wle rfl (e_box (cs := (List.map u8v k).toArray) rfl rfl rfl (fun w1 g3 hg3 hb3 hc hsz3 => ?_))
  have hzw1 := hc.size
  have HC := HC.tr hc
  have hbg := hbg.ch hc (fun h => h)
  have hge3 : w.heap.size ≤ g3 := by have := HC.size; omega
  have neg_3 : g < g3 := by omega
  refine wl rfl rfl rfl (p_as rfl) ?_
  have hltg := hbg.lt
  have hltg3 := hb3.lt
  refine wle rfl (e_alloc (cs := ((List.replicate 32 (0 : UInt8)).map u8v).toArray) rfl (by rfl) rfl (fun w2 g5 hg5 hb5 hc hsz5 => ?_))
  have hzw2 := hc.size
  have HC := HC.tr hc
  have hbg := hbg.ch hc (fun h => h)
  have hb3 := hb3.ch hc (fun h => h)
  have hge5 : w.heap.size ≤ g5 := by have := HC.size; omega
  have neg_5 : g < g5 := by omega
  have neg3_5 : g3 < g5 := by omega
  have hltg := hbg.lt
  have hltg3 := hb3.lt
  have hltg5 := hb5.lt
  refine wle rfl (e_alloc (cs := ((List.replicate 32 (0 : UInt8)).map u8v).toArray) rfl (by rfl) rfl (fun w3 g6 hg6 hb6 hc hsz6 => ?_))
  have hzw3 := hc.size
  have HC := HC.tr hc
  have hbg := hbg.ch hc (fun h => h)
  have hb3 := hb3.ch hc (fun h => h)
  have hb5 := hb5.ch hc (fun h => h)
  have hge6 : w.heap.size ≤ g6 := by have := HC.size; omega
  have neg_6 : g < g6 := by omega
  have neg3_6 : g3 < g6 := by omega
  have neg5_6 : g5 < g6 := by omega
  refine wl rfl rfl rfl (p_as rfl) ?_
  refine wl_nil ?_
  refine x_seq ?_
  refine wc_seq ?_
  refine wc_seq ?_
  refine wc_region ?_
  refine wl rfl rfl rfl (p_mv rfl) ?_
  refine wle rfl (e_call ent81 rfl rfl (is_made (o := none) hbg) ?_)
  rintro _ w4 ⟨rfl, hc⟩
  refine ⟨_, rfl, ?_⟩
  have hzw4 := hc.size
  have HC := HC.tr hc
  have hbg := hbg.ch hc (fun h => h)
  have hb3 := hb3.ch hc (fun h => h)
  have hb5 := hb5.ch hc (fun h => h)
  have hb6 := hb6.ch hc (fun h => h)
  refine wl rfl rfl rfl (p_not rfl) ?_
  refine wl rfl rfl rfl (p_mv rfl) ?_
  refine wl_g (gd_ rfl rfl rfl rfl rfl rfl) rfl rfl (p_mv rfl) ?_
  refine wl_g (gd_ rfl rfl rfl rfl rfl rfl) rfl rfl (p_nck rfl) ?_
  refine wl_g (gd_ rfl rfl rfl rfl rfl rfl) rfl rfl (p_fld (j := 0) Tryd.underlying41 rfl ⟨_, by rfl⟩ rfl rfl) ?_
  refine wl_g (gd_ rfl rfl rfl rfl rfl rfl) rfl rfl (p_ld Tryd.underlying39 rfl rfl (ld (cell_at (p := []) (v := (.pointer none : Value)) (r := ([.bool true] : List Value)) hbg (by simp only [List.append_assoc, List.cons_append, List.nil_append, List.append_nil]) (by first | rfl | (simp only [List.length_append, List.length_map, List.length_cons, List.length_nil]; done) | (simp only [List.length_append, List.length_map, List.length_cons, List.length_nil, List.size_toArray]; done))))) ?_
  refine wl_g (gd_ rfl rfl rfl rfl rfl rfl) rfl rfl (p_eqPN rfl rfl Tryd.underlying39) ?_
  refine wl rfl rfl rfl (p_pickF rfl rfl) ?_
  refine wl_nil ?_
  refine x_seq ?_
  refine wc_yes rfl (rfl) ?_
  refine wc_seq ?_
  refine wc_region ?_
  refine wl rfl rfl rfl (p_bldP (cs := ((List.replicate 32 (0 : UInt8)).map u8v).toArray) rfl (fun _ => by kernel_rfl)) ?_
  refine wl rfl rfl rfl (p_bldP (cs := ((List.replicate 32 (0 : UInt8)).map u8v).toArray) rfl (fun _ => by kernel_rfl)) ?_
  refine wl rfl rfl rfl (p_as rfl) ?_
  refine wle rfl (e_stW (vs := List.map u8v (List.replicate 32 (0 : UInt8))) (szL sz38 (by rw [List.length_map]; exact (List.length_replicate ..))) (oneL one_u8 _) rfl rfl hb5 (by simp only [List.size_toArray, List.length_map]; first | done | exact ((List.length_replicate ..)).trans ((List.length_replicate ..)).symm) (fun w5 hb5 hc hsz => ?_))
  have hzw5 := hc.size
  have HC := HC.trans hc (fun _ _ h => h) (fun k hk ht => absurd ht (by omega))
  have hbg := hbg.ch hc (by omega)
  have hb3 := hb3.ch hc (by omega)
  have hb6 := hb6.ch hc (by omega)
  refine wle rfl (e_stW (vs := List.map u8v (List.replicate 32 (0 : UInt8))) (szL sz38 (by rw [List.length_map]; exact (List.length_replicate ..))) (oneL one_u8 _) rfl rfl hb6 (by simp only [List.size_toArray, List.length_map]; first | done | exact ((List.length_replicate ..)).trans ((List.length_replicate ..)).symm) (fun w6 hb6 hc hsz => ?_))
  have hzw6 := hc.size
  have HC := HC.trans hc (fun _ _ h => h) (fun k hk ht => absurd ht (by omega))
  have hbg := hbg.ch hc (by omega)
  have hb3 := hb3.ch hc (by omega)
  have hb5 := hb5.ch hc (by omega)
  refine wl rfl rfl rfl (p_as rfl) ?_
  refine wl_nil ?_
  refine x_seq ?_
  refine wc_ret ?_
  refine x_then_ret ?_
  refine fin_run (resMany (rs := [.tmp 4, .cell 5 38, .cell 6 38, .tmp 7]) rfl (.tmp rfl (.cellA (cs := List.map u8v (List.replicate 32 (0 : UInt8))) rfl Tryd.underlying38 rfl (szL sz38 (by rw [List.length_map]; exact (List.length_replicate ..))) (rngL hb5) (.cellA (cs := List.map u8v (List.replicate 32 (0 : UInt8))) rfl Tryd.underlying38 rfl (szL sz38 (by rw [List.length_map]; exact (List.length_replicate ..))) (rngL hb6) (.tmp rfl (.nil))))) rfl) ?_
  exact ⟨rfl, HC⟩

theorem tdown_made {w : World} {v : Value} {o : Option LT} {F : Nat → Prop} {k : List UInt8} (hV : TR 41 156 F w v o) (hk : k.length = 32) (hrnd : Sl w (fun k => k = 0) u32v (some ⟨0, 0, none⟩) 64 64 rk) (hsz : szO o ≤ 1000000) : Calls Tryd.prog 72 #[v, hv k] w fun e w' =>
    ∃ A l c u x ok, e = .returned (.tuple #[.slice A l c, hv u, hv x, .bool ok]) ∧ u.length = 32 ∧ x.length = 32 ∧ RI w' (fun k => w.heap.size ≤ k) 130 eST A l c (wayT (eo o) k) ∧ (u, x, ok) = endT (eo o) k ∧ Ch (fun k => k ∈ adsO o) w w' ∧ Fil 156 w w' ∧ (∀ k, k ∈ adsO o → ∃ cs, Blk w k 156 cs) ∧ ∀ k, k ∈ adsO o → F k := by
  obtain ⟨g, rfl, hFg, hbg, hT⟩ := hV.opn
  cases o with
  | none => exact (tdown_none hbg hk).mono fun e w' ⟨h1, h2⟩ => ⟨none, 0, 0, _, _, _, h1, zeroH_len, zeroH_len, RI.nil _ _ _ _, rfl, h2.mono (fun _ _ h => h.elim), Fil.no h2, fun k hk => by simp [adsO] at hk, fun k hk => by simp [adsO] at hk⟩
  | some t =>
    have ht := (hT t rfl).1
    refine (tdown_some hbg ht hk hrnd hsz).mono fun e w' ⟨A, l, c, h1, h2, h3, h4⟩ => ⟨A, l, c, _, _, _, h1, (Tr.find_len ht.ok).1, (Tr.find_len ht.ok).2, h2, rfl, h4, Fil.of ht h4 h3, ht.mem_blk, (hT t rfl).2⟩

set_option maxHeartbeats 1000000 in
set_option maxRecDepth 20000 in
theorem mgood_any {w : World}  {As : Option Addr} {ls cs : Nat} {Fs : Nat → Prop} {st : List Stp} {lf : Bool} {pk pv : List UInt8} (hst : SI w Fs eST As ls cs st) (hpk : pk.length = 32) (hpv : pv.length = 32) (hls : ls ≤ 1000000) :
    Calls Tryd.prog 34 #[.agg (([.slice As ls cs, .bool lf] ++ ((List.map u8v pk) ++ (List.map u8v pv))) : List Value).toArray] w fun e w' => e = .returned (.bool (Prf.goodE st lf pk pv)) ∧ Ch No w w' := by
  have hstl := hst.len
  have hst := hst.old
  have HC : Ch No w w := Ch.refl _ _
  refine enter' (args := [_]) (n := 39) Tryd.func34 rfl rfl rfl ?_
  refine wc_seq ?_
  refine wc_region ?_
  refine wle rfl (e_box (cs := (([.slice As ls cs, .bool lf] ++ ((List.map u8v pk) ++ (List.map u8v pv))) : List Value).toArray) rfl rfl rfl (fun w1 g1 hg1 hb1 hc hsz1 => ?_))
  have hzw1 := hc.size
  have HC := HC.tr hc
  have hst := hst.no hc
  have hge1 : w.heap.size ≤ g1 := by have := HC.size; omega
  refine wl rfl rfl rfl (p_as rfl) ?_
  refine wl_nil ?_
  refine x_seq ?_
  refine wc_seq ?_
  refine wc_region ?_
  refine wl rfl rfl rfl (p_as rfl) ?_
  refine wl_nil ?_
  refine x_seq ?_
  refine wc_seq ?_
  refine wc_seq ?_
  refine wc_region ?_
  refine wl rfl rfl rfl (p_fld (j := 0) Tryd.underlying49 rfl ⟨_, by rfl⟩ rfl rfl) ?_
  refine wl rfl rfl rfl (p_ld Tryd.underlying47 rfl rfl (ld (cell_at (p := []) (v := (.slice As ls cs : Value)) (r := (([.bool lf] ++ ((List.map u8v pk) ++ (List.map u8v pv))) : List Value)) hb1 (by simp only [List.append_assoc, List.cons_append, List.nil_append, List.append_nil]) (by first | rfl | (simp only [List.length_append, List.length_map, List.length_cons, List.length_nil]; done) | (simp only [List.length_append, List.length_map, List.length_cons, List.length_nil, List.size_toArray]; done))))) ?_
  refine wl rfl rfl rfl (p_lenS Tryd.underlying47 rfl) ?_
  refine wl rfl rfl rfl (p_mv rfl) ?_
  refine wl_nil ?_
  refine x_seq ?_
  refine wc_block ?_
  refine wc_loop (e' := [(1, .pointer (some ⟨g1, 0, none⟩)), (3, i64 ((-1))), (7, .slice As ls cs), (8, i64 (ls : Int)), (9, i64 ((0) : Int))]) (fun mz ez uz => ∃ i : Nat, ∃ last : Int, mz = ls - i ∧ ez = [(1, .pointer (some ⟨g1, 0, none⟩)), (3, i64 last), (7, .slice As ls cs), (8, i64 (ls : Int)), (9, i64 (i : Int))] ∧ (i ≤ ls) ∧ (goodS (-1) st = goodS last (st.drop i)) ∧ (SI uz (fun k => k < w.heap.size) eST As ls cs st) ∧ (Blk uz g1 49 (([.slice As ls cs, .bool lf] ++ ((List.map u8v pk) ++ (List.map u8v pv))) : List Value).toArray) ∧ (Ch No w uz))
    ⟨rfl, rfl, rfl, rfl, rfl, trivial⟩ ⟨0, (-1), rfl, rfl, by omega, rfl, hst, hb1, HC⟩ ?_
  rintro m0 e w2 ⟨i, last, hm0, rfl, hi, hgd, hst, hb1, HC⟩
  have hzw2 := HC.size
  refine wc_seq ?_
  refine wc_region ?_
  refine wl rfl rfl rfl (p_lt rfl rfl) ?_
  refine wl_nil ?_
  refine x_seq ?_
  refine wc_seq ?_
  refine wc_if rfl (fun c0 => ?_) (fun c0 => ?_)
  ·
    have c0 := of_decide_eq_true c0
    refine wc_skip ?_
    refine x_seq ?_
    refine wc_seq ?_
    refine wc_block ?_
    refine wc_seq ?_
    refine wc_region ?_
    obtain ⟨b3, o3, hA3, hF3, hr3⟩ := (hst).opn (i := i) (d := ⟨0, zeroH⟩) (by omega)
    have hok3 := (hst).okAt (i := i) (d := ⟨0, zeroH⟩) (by omega)
    obtain ⟨x3, ex3⟩ : ∃ x, x = List.getD st (i) ⟨0, zeroH⟩ := ⟨_, rfl⟩
    rw [← ex3] at hr3 hok3
    have hx3k : List.length x3.side = 32 := hok3
    have hr3 : w2.rangeAt b3 (o3 + i * 33) (([i64 x3.bit] ++ (List.map u8v x3.side)) : List Value) := hr3
    refine wl rfl rfl rfl (p_ixS (j := i * 33) Tryd.underlying47 sz126 rfl hA3 rfl (by omega) (by omega) (congrArg (· * 33) (Int.toNat_natCast _))) ?_
    have hdr : st.drop i = x3 :: st.drop (i + 1) := by rw [ex3]; exact getD_drop (by omega)
    refine wl rfl rfl rfl (p_ldA (cs := (([i64 x3.bit] ++ (List.map u8v x3.side)) : List Value)) Tryd.underlying126 rfl (szL sz126 (by first | rfl | (simp only [List.length_append, List.length_map, List.length_cons, List.length_nil, (show List.length x3.side = 32 from hx3k)]; done) | (simp only [List.length_append, List.length_map, List.length_cons, List.length_nil, List.size_toArray, (show List.length x3.side = 32 from hx3k)]; done))) rfl (fun _ e => e ▸ hr3)) ?_
    have hltg1 := hb1.lt
    refine wle rfl (e_alloc (cs := (([Value.int .i64 0] ++ (List.map u8v (List.replicate 32 (0 : UInt8)))) : List Value).toArray) rfl (by rfl) rfl (fun w4 g5 hg5 hb5 hc hsz5 => ?_))
    have hzw4 := hc.size
    have HC := HC.tr hc
    have hst := hst.no hc
    have hb1 := hb1.ch hc (fun h => h)
    have hge5 : w.heap.size ≤ g5 := by have := HC.size; omega
    have neg1_5 : g1 < g5 := by omega
    refine wle rfl (e_stW (vs := (([i64 x3.bit] ++ (List.map u8v x3.side)) : List Value)) (szL sz126 (by first | rfl | (simp only [List.length_append, List.length_map, List.length_cons, List.length_nil, (show List.length x3.side = 32 from hx3k)]; done) | (simp only [List.length_append, List.length_map, List.length_cons, List.length_nil, List.size_toArray, (show List.length x3.side = 32 from hx3k)]; done))) (oneA (allOne rfl) (oneL one_u8 _)) rfl rfl hb5 (by first | rfl | (simp only [List.length_append, List.length_map, List.length_cons, List.length_nil, (show List.length (List.replicate 32 (0 : UInt8)) = 32 from (List.length_replicate ..)), (show List.length x3.side = 32 from hx3k)]; done) | (simp only [List.length_append, List.length_map, List.length_cons, List.length_nil, List.size_toArray, (show List.length (List.replicate 32 (0 : UInt8)) = 32 from (List.length_replicate ..)), (show List.length x3.side = 32 from hx3k)]; done)) (fun w5 hb5 hc hsz => ?_))
    have hzw5 := hc.size
    have HC := HC.trans hc (fun _ _ h => h) (fun k hk ht => absurd ht (by omega))
    first | have hst := hst.ch hc (by intro k hk ht; first | omega | (dsimp only at *; omega)) | have hst := hst.chT hc (by intro k hz hk ht; first | omega | (dsimp only at *; omega))
    have hb1 := hb1.ch hc (by omega)
    refine wl_nil ?_
    refine x_seq ?_
    refine wc_seq ?_
    refine wc_seq ?_
    refine wc_region ?_
    refine wl rfl rfl rfl (p_fld (j := 0) Tryd.underlying126 rfl ⟨_, by rfl⟩ rfl rfl) ?_
    refine wl rfl rfl rfl (p_ld Tryd.underlying3 rfl rfl (ld (cell_at (p := []) (v := (i64 x3.bit : Value)) (r := ((List.map u8v x3.side) : List Value)) hb5 (by simp only [List.append_assoc, List.cons_append, List.nil_append, List.append_nil]) (by first | rfl | (simp only [List.length_append, List.length_map, List.length_cons, List.length_nil]; done) | (simp only [List.length_append, List.length_map, List.length_cons, List.length_nil, List.size_toArray]; done))))) ?_
    refine wl rfl rfl rfl (p_mv rfl) ?_
    refine wl rfl rfl rfl (p_le rfl rfl) ?_
    refine wl rfl rfl rfl (p_mv rfl) ?_
    refine wl_split (d := 17) rfl (fun q17 => ?_) (fun q17 => ?_)
    ·
      have q17 := of_decide_eq_true q17
      refine wl_s (gd_ rfl rfl rfl rfl rfl rfl) rfl rfl ?_
      refine wl_s (gd_ rfl rfl rfl rfl rfl rfl) rfl rfl ?_
      refine wl_s (gd_ rfl rfl rfl rfl rfl rfl) rfl rfl ?_
      refine wl rfl rfl rfl (p_pickT rfl rfl) ?_
      refine wl_nil ?_
      refine x_seq ?_
      refine wc_yes rfl (rfl) ?_
      refine wc_seq ?_
      refine wc_region ?_
      refine wl rfl rfl rfl (p_as rfl) ?_
      refine wl_nil ?_
      refine x_seq ?_
      refine wc_ret ?_
      refine x_then_ret ?_
      refine x_in_ret ?_
      refine x_then_ret ?_
      refine x_then_ret ?_
      refine x_in_ret ?_
      refine x_then_ret ?_
      refine fin_run ((res1 rfl rfl)) ?_
      have hf : goodS (-1) st = false := by rw [hgd, hdr, goodS]; simp [q17]
      rw [good_no hf]
      exact ⟨rfl, HC⟩
    ·
      have q17 := of_decide_eq_false q17
      refine wl_g (gd_ rfl rfl rfl rfl rfl rfl) rfl rfl (p_fld (j := 0) Tryd.underlying126 rfl ⟨_, by rfl⟩ rfl rfl) ?_
      refine wl_g (gd_ rfl rfl rfl rfl rfl rfl) rfl rfl (p_ld Tryd.underlying3 rfl rfl (ld (cell_at (p := []) (v := (i64 x3.bit : Value)) (r := ((List.map u8v x3.side) : List Value)) hb5 (by simp only [List.append_assoc, List.cons_append, List.nil_append, List.append_nil]) (by first | rfl | (simp only [List.length_append, List.length_map, List.length_cons, List.length_nil]; done) | (simp only [List.length_append, List.length_map, List.length_cons, List.length_nil, List.size_toArray]; done))))) ?_
      refine wl_g (gd_ rfl rfl rfl rfl rfl rfl) rfl rfl (p_gt rfl rfl) ?_
      refine wl rfl rfl rfl (p_pickF rfl rfl) ?_
      refine wl_nil ?_
      refine x_seq ?_
      refine wc_if rfl (fun c1 => ?_) (fun c1 => ?_)
      ·
        have c1 := of_decide_eq_true c1
        refine wc_seq ?_
        refine wc_region ?_
        refine wl rfl rfl rfl (p_as rfl) ?_
        refine wl_nil ?_
        refine x_seq ?_
        refine wc_ret ?_
        refine x_then_ret ?_
        refine x_in_ret ?_
        refine x_then_ret ?_
        refine x_then_ret ?_
        refine x_in_ret ?_
        refine x_then_ret ?_
        refine fin_run ((res1 rfl rfl)) ?_
        have hf : goodS (-1) st = false := by rw [hgd, hdr, goodS]; simp [c1]
        rw [good_no hf]
        exact ⟨rfl, HC⟩
      ·
        have c1 := of_decide_eq_false c1
        refine wc_skip ?_
        refine x_seq ?_
        refine wc_region ?_
        refine wl rfl rfl rfl (p_fld (j := 0) Tryd.underlying126 rfl ⟨_, by rfl⟩ rfl rfl) ?_
        refine wl rfl rfl rfl (p_ld Tryd.underlying3 rfl rfl (ld (cell_at (p := []) (v := (i64 x3.bit : Value)) (r := ((List.map u8v x3.side) : List Value)) hb5 (by simp only [List.append_assoc, List.cons_append, List.nil_append, List.append_nil]) (by first | rfl | (simp only [List.length_append, List.length_map, List.length_cons, List.length_nil]; done) | (simp only [List.length_append, List.length_map, List.length_cons, List.length_nil, List.size_toArray]; done))))) ?_
        refine wl rfl rfl rfl (p_as rfl) ?_
        refine wl_nil ?_
        refine x_in_normal ?_
        refine x_seq ?_
        refine wc_region ?_
        refine wl rfl rfl rfl (p_add rfl rfl (w64 (by omega))) ?_
        refine wl rfl rfl rfl (p_mv rfl) ?_
        refine wl_nil ?_
        refine x_round (e' := [(1, .pointer (some ⟨g1, 0, none⟩)), (3, i64 (x3.bit)), (7, .slice As ls cs), (8, i64 (ls : Int)), (9, i64 ((i + 1) : Int))]) ⟨rfl, rfl, rfl, rfl, rfl, trivial⟩ (by rw [hm0]; omega) ⟨i + 1, x3.bit, rfl, rfl, by omega, (by rw [hgd, hdr, goodS]; have h1 := q17; have h2 := c1; simp; omega), hst, hb1, HC⟩
  ·
    have c0 := of_decide_eq_false c0
    refine wc_exit ?_
    refine x_then_exit ?_
    refine x_then_exit ?_
    refine x_in_here ?_
    refine x_seq ?_
    refine wc_seq ?_
    refine wc_region ?_
    refine wl rfl rfl rfl (p_fld (j := 1) Tryd.underlying49 rfl ⟨_, by rfl⟩ rfl rfl) ?_
    refine wl rfl rfl rfl (p_ld Tryd.underlying4 rfl rfl (ld (cell_at (p := ([.slice As ls cs] : List Value)) (v := (.bool lf : Value)) (r := (((List.map u8v pk) ++ (List.map u8v pv)) : List Value)) hb1 (by simp only [List.append_assoc, List.cons_append, List.nil_append, List.append_nil]) (by first | rfl | (simp only [List.length_append, List.length_map, List.length_cons, List.length_nil]; done) | (simp only [List.length_append, List.length_map, List.length_cons, List.length_nil, List.size_toArray]; done))))) ?_
    refine wl rfl rfl rfl (p_mv rfl) ?_
    refine wl_split (d := 27) rfl (fun q27 => ?_) (fun q27 => ?_)
    ·
      refine wl_s (gd_ rfl rfl rfl rfl rfl rfl) rfl rfl ?_
      refine wl_s (gd_ rfl rfl rfl rfl rfl rfl) rfl rfl ?_
      refine wl_s (gd_ rfl rfl rfl rfl rfl rfl) rfl rfl ?_
      refine wl_s (gd_ rfl rfl rfl rfl rfl rfl) rfl rfl ?_
      refine wl_s (gd_ rfl rfl rfl rfl rfl rfl) rfl rfl ?_
      refine wl_s (gd_ rfl rfl rfl rfl rfl rfl) rfl rfl ?_
      refine wl_s (gd_ rfl rfl rfl rfl rfl rfl) rfl rfl ?_
      refine wl_s (gd_ rfl rfl rfl rfl rfl rfl) rfl rfl ?_
      refine wl_s (gd_ rfl rfl rfl rfl rfl rfl) rfl rfl ?_
      refine wl_s (gd_ rfl rfl rfl rfl rfl rfl) rfl rfl ?_
      refine wl rfl rfl rfl (p_pickT rfl rfl) ?_
      refine wl rfl rfl rfl (p_as rfl) ?_
      refine wl_nil ?_
      refine x_seq ?_
      refine wc_ret ?_
      refine fin_run ((res1 rfl rfl)) ?_
      rw [List.drop_of_length_le (by omega), goodS] at hgd
      rw [show lf = true from q27, good_lf hgd]
      exact ⟨rfl, HC⟩
    ·
      refine wl_g (gd_ rfl rfl rfl rfl rfl rfl) rfl rfl (p_fld (j := 0) Tryd.underlying49 rfl ⟨_, by rfl⟩ rfl rfl) ?_
      refine wl_g (gd_ rfl rfl rfl rfl rfl rfl) rfl rfl (p_ld Tryd.underlying47 rfl rfl (ld (cell_at (p := []) (v := (.slice As ls cs : Value)) (r := (([.bool lf] ++ ((List.map u8v pk) ++ (List.map u8v pv))) : List Value)) hb1 (by simp only [List.append_assoc, List.cons_append, List.nil_append, List.append_nil]) (by first | rfl | (simp only [List.length_append, List.length_map, List.length_cons, List.length_nil]; done) | (simp only [List.length_append, List.length_map, List.length_cons, List.length_nil, List.size_toArray]; done))))) ?_
      refine wl_g (gd_ rfl rfl rfl rfl rfl rfl) rfl rfl (p_lenS Tryd.underlying47 rfl) ?_
      refine wl_g (gd_ rfl rfl rfl rfl rfl rfl) rfl rfl (p_fld (j := 2) Tryd.underlying49 rfl ⟨_, by rfl⟩ rfl rfl) ?_
      refine wl_g (gd_ rfl rfl rfl rfl rfl rfl) rfl rfl (p_ldA (cs := (List.map u8v pk)) Tryd.underlying38 rfl (szL sz38 (by first | rfl | (simp only [List.length_append, List.length_map, List.length_cons, List.length_nil, (show List.length pk = 32 from hpk)]; done) | (simp only [List.length_append, List.length_map, List.length_cons, List.length_nil, List.size_toArray, (show List.length pk = 32 from hpk)]; done))) rfl (fun _ e => e ▸ rng_at (p := ([.slice As ls cs, .bool lf] : List Value)) (q := ((List.map u8v pk) : List Value)) (r := ((List.map u8v pv) : List Value)) hb1 (by simp only [List.append_assoc, List.cons_append, List.nil_append, List.append_nil]) (by first | rfl | (simp only [List.length_append, List.length_map, List.length_cons, List.length_nil]; done) | (simp only [List.length_append, List.length_map, List.length_cons, List.length_nil, List.size_toArray]; done)))) ?_
      refine wl_g (gd_ rfl rfl rfl rfl rfl rfl) rfl rfl (p_fld (j := 34) Tryd.underlying49 rfl ⟨_, by rfl⟩ rfl rfl) ?_
      refine wl_g (gd_ rfl rfl rfl rfl rfl rfl) rfl rfl (p_ldA (cs := (List.map u8v pv)) Tryd.underlying38 rfl (szL sz38 (by first | rfl | (simp only [List.length_append, List.length_map, List.length_cons, List.length_nil, (show List.length pv = 32 from hpv)]; done) | (simp only [List.length_append, List.length_map, List.length_cons, List.length_nil, List.size_toArray, (show List.length pv = 32 from hpv)]; done))) rfl (fun _ e => e ▸ rng_at (p := (([.slice As ls cs, .bool lf] ++ (List.map u8v pk)) : List Value)) (q := ((List.map u8v pv) : List Value)) (r := []) hb1 (by simp only [List.append_assoc, List.cons_append, List.nil_append, List.append_nil]) (by first | rfl | (simp only [List.length_append, List.length_map, List.length_cons, List.length_nil, (show List.length pk = 32 from hpk)]; done) | (simp only [List.length_append, List.length_map, List.length_cons, List.length_nil, List.size_toArray, (show List.length pk = 32 from hpk)]; done)))) ?_
      refine wl_g (gd_ rfl rfl rfl rfl rfl rfl) rfl rfl (p_bldX (vs' := [i64 (ls : Int), (.agg ((hx pk) : List Value).toArray), (.agg ((hx pv) : List Value).toArray)]) (cs := (([i64 (ls : Int)] ++ ((List.map u8v pk) ++ (List.map u8v pv))) : List Value)) (cs' := (([i64 (ls : Int)] ++ ((hx pk) ++ (hx pv))) : List Value)) rfl (by simp only [hv, map_hx hpk, map_hx hpv] <;> rfl) (by simp only [hv, map_hx hpk, map_hx hpv] <;> rfl) (fun _ => by kernel_rfl)) ?_
      refine wl_g (gd_ rfl rfl rfl rfl rfl rfl) rfl rfl (p_bldX (vs' := []) (cs := (([Value.int .i64 0] ++ ((List.map u8v (List.replicate 32 (0 : UInt8))) ++ (List.map u8v (List.replicate 32 (0 : UInt8))))) : List Value)) (cs' := (([Value.int .i64 0] ++ ((hx (List.replicate 32 (0 : UInt8))) ++ (hx (List.replicate 32 (0 : UInt8))))) : List Value)) rfl rfl (by simp only [hv, map_hx (List.length_replicate ..)] <;> rfl) (fun _ => by kernel_rfl)) ?_
      refine wl_g (gd_ rfl rfl rfl rfl rfl rfl) rfl rfl (p_eqV (by kernel_rfl) rfl rfl (eqv_struct Tryd.underlying138 (by kernel_rfl) (eqf_cons rfl (part_c (cs := (([i64 (ls : Int)] ++ ((List.map u8v pk) ++ (List.map u8v pv))) : List Value)) (p := []) (v := i64 (ls : Int)) (r := (((List.map u8v pk) ++ (List.map u8v pv)) : List Value)) Tryd.underlying3 rfl (by first | rfl | simp only [List.append_assoc, List.cons_append, List.nil_append, List.append_nil]) rfl) (part_c (cs := (([Value.int .i64 0] ++ ((List.map u8v (List.replicate 32 (0 : UInt8))) ++ (List.map u8v (List.replicate 32 (0 : UInt8))))) : List Value)) (p := []) (v := Value.int .i64 0) (r := (((List.map u8v (List.replicate 32 (0 : UInt8))) ++ (List.map u8v (List.replicate 32 (0 : UInt8)))) : List Value)) Tryd.underlying3 rfl (by first | rfl | simp only [List.append_assoc, List.cons_append, List.nil_append, List.append_nil]) rfl) (eqv_int Tryd.underlying3) (eqf_cons rfl (part_h (cs := (([i64 (ls : Int)] ++ ((List.map u8v pk) ++ (List.map u8v pv))) : List Value)) (p := ([i64 (ls : Int)] : List Value)) (L := pk) (r := ((List.map u8v pv) : List Value)) Tryd.underlying38 rfl sz38 (hpk) (by first | rfl | simp only [List.append_assoc, List.cons_append, List.nil_append, List.append_nil]) (by first | rfl | (simp only [List.length_append, List.length_map, List.length_cons, List.length_nil]; done) | (simp only [List.length_append, List.length_map, List.length_cons, List.length_nil, List.size_toArray]; done))) (part_h (cs := (([Value.int .i64 0] ++ ((List.map u8v (List.replicate 32 (0 : UInt8))) ++ (List.map u8v (List.replicate 32 (0 : UInt8))))) : List Value)) (p := ([Value.int .i64 0] : List Value)) (L := (List.replicate 32 (0 : UInt8))) (r := ((List.map u8v (List.replicate 32 (0 : UInt8))) : List Value)) Tryd.underlying38 rfl sz38 ((List.length_replicate ..)) (by first | rfl | simp only [List.append_assoc, List.cons_append, List.nil_append, List.append_nil]) (by first | rfl | (simp only [List.length_append, List.length_map, List.length_cons, List.length_nil]; done) | (simp only [List.length_append, List.length_map, List.length_cons, List.length_nil, List.size_toArray]; done))) (eqv_hash Tryd.underlying38 Tryd.underlying5 sz5 (hpk) ((List.length_replicate ..))) (eqf_cons rfl (part_h (cs := (([i64 (ls : Int)] ++ ((List.map u8v pk) ++ (List.map u8v pv))) : List Value)) (p := (([i64 (ls : Int)] ++ (List.map u8v pk)) : List Value)) (L := pv) (r := []) Tryd.underlying38 rfl sz38 (hpv) (by first | rfl | simp only [List.append_assoc, List.cons_append, List.nil_append, List.append_nil]) (by first | rfl | (simp only [List.length_append, List.length_map, List.length_cons, List.length_nil, (show List.length pk = 32 from hpk)]; done) | (simp only [List.length_append, List.length_map, List.length_cons, List.length_nil, List.size_toArray, (show List.length pk = 32 from hpk)]; done))) (part_h (cs := (([Value.int .i64 0] ++ ((List.map u8v (List.replicate 32 (0 : UInt8))) ++ (List.map u8v (List.replicate 32 (0 : UInt8))))) : List Value)) (p := (([Value.int .i64 0] ++ (List.map u8v (List.replicate 32 (0 : UInt8)))) : List Value)) (L := (List.replicate 32 (0 : UInt8))) (r := []) Tryd.underlying38 rfl sz38 ((List.length_replicate ..)) (by first | rfl | simp only [List.append_assoc, List.cons_append, List.nil_append, List.append_nil]) (by first | rfl | (simp only [List.length_append, List.length_map, List.length_cons, List.length_nil, (show List.length (List.replicate 32 (0 : UInt8)) = 32 from (List.length_replicate ..))]; done) | (simp only [List.length_append, List.length_map, List.length_cons, List.length_nil, List.size_toArray, (show List.length (List.replicate 32 (0 : UInt8)) = 32 from (List.length_replicate ..))]; done))) (eqv_hash Tryd.underlying38 Tryd.underlying5 sz5 (hpv) ((List.length_replicate ..))) (eqf_nil)))))) ?_
      refine wl rfl rfl rfl (p_pickF rfl rfl) ?_
      refine wl rfl rfl rfl (p_as rfl) ?_
      refine wl_nil ?_
      refine x_seq ?_
      refine wc_ret ?_
      refine fin_run ((res1 rfl rfl)) ?_
      rw [List.drop_of_length_le (by omega), goodS] at hgd
      rw [show lf = false from q27, good_end hgd, ← prf_end (ls := ls) (by omega)]
      exact ⟨rfl, HC⟩

set_option maxHeartbeats 1000000 in
set_option maxRecDepth 20000 in
theorem rgood_any {w : World}  {As : Option Addr} {ls cs : Nat} {Fs : Nat → Prop} {st : List Stp} {lf : Bool} {pk pv : List UInt8} (hst : SI w Fs eST As ls cs st) (hpk : pk.length = 32) (hpv : pv.length = 32) (hls : ls ≤ 1000000) :
    Calls Tryd.prog 35 #[.agg (([.slice As ls cs, .bool lf] ++ ((List.map u8v pk) ++ (List.map u8v pv))) : List Value).toArray] w fun e w' => e = .returned (.bool (Prf.goodE st lf pk pv)) ∧ Ch No w w' := by
  have hstl := hst.len
  have hst := hst.old
  have HC : Ch No w w := Ch.refl _ _
  refine enter' (args := [_]) (n := 47) Tryd.func35 rfl rfl rfl ?_
  refine wc_seq ?_
  refine wc_region ?_
  refine wle rfl (e_box (cs := (([.slice As ls cs, .bool lf] ++ ((List.map u8v pk) ++ (List.map u8v pv))) : List Value).toArray) rfl rfl rfl (fun w1 g1 hg1 hb1 hc hsz1 => ?_))
  have hzw1 := hc.size
  have HC := HC.tr hc
  have hst := hst.no hc
  have hge1 : w.heap.size ≤ g1 := by have := HC.size; omega
  refine wl rfl rfl rfl (p_as rfl) ?_
  refine wl_nil ?_
  refine x_seq ?_
  refine wc_seq ?_
  refine wc_region ?_
  refine wl rfl rfl rfl (p_as rfl) ?_
  refine wl_nil ?_
  refine x_seq ?_
  refine wc_seq ?_
  refine wc_seq ?_
  refine wc_region ?_
  refine wl rfl rfl rfl (p_fld (j := 0) Tryd.underlying45 rfl ⟨_, by rfl⟩ rfl rfl) ?_
  refine wl rfl rfl rfl (p_ld Tryd.underlying43 rfl rfl (ld (cell_at (p := []) (v := (.slice As ls cs : Value)) (r := (([.bool lf] ++ ((List.map u8v pk) ++ (List.map u8v pv))) : List Value)) hb1 (by simp only [List.append_assoc, List.cons_append, List.nil_append, List.append_nil]) (by first | rfl | (simp only [List.length_append, List.length_map, List.length_cons, List.length_nil]; done) | (simp only [List.length_append, List.length_map, List.length_cons, List.length_nil, List.size_toArray]; done))))) ?_
  refine wl rfl rfl rfl (p_lenS Tryd.underlying43 rfl) ?_
  refine wl rfl rfl rfl (p_mv rfl) ?_
  refine wl_nil ?_
  refine x_seq ?_
  refine wc_block ?_
  refine wc_loop (e' := [(1, .pointer (some ⟨g1, 0, none⟩)), (3, i64 ((-1))), (8, .slice As ls cs), (9, i64 (ls : Int)), (10, i64 ((0) : Int))]) (fun mz ez uz => ∃ i : Nat, ∃ last : Int, mz = ls - i ∧ ez = [(1, .pointer (some ⟨g1, 0, none⟩)), (3, i64 last), (8, .slice As ls cs), (9, i64 (ls : Int)), (10, i64 (i : Int))] ∧ (i ≤ ls) ∧ (goodS (-1) st = goodS last (st.drop i)) ∧ (SI uz (fun k => k < w.heap.size) eST As ls cs st) ∧ (Blk uz g1 45 (([.slice As ls cs, .bool lf] ++ ((List.map u8v pk) ++ (List.map u8v pv))) : List Value).toArray) ∧ (Ch No w uz))
    ⟨rfl, rfl, rfl, rfl, rfl, trivial⟩ ⟨0, (-1), rfl, rfl, by omega, rfl, hst, hb1, HC⟩ ?_
  rintro m0 e w2 ⟨i, last, hm0, rfl, hi, hgd, hst, hb1, HC⟩
  have hzw2 := HC.size
  refine wc_seq ?_
  refine wc_region ?_
  refine wl rfl rfl rfl (p_lt rfl rfl) ?_
  refine wl_nil ?_
  refine x_seq ?_
  refine wc_seq ?_
  refine wc_if rfl (fun c0 => ?_) (fun c0 => ?_)
  ·
    have c0 := of_decide_eq_true c0
    refine wc_skip ?_
    refine x_seq ?_
    refine wc_seq ?_
    refine wc_block ?_
    refine wc_seq ?_
    refine wc_region ?_
    obtain ⟨b3, o3, hA3, hF3, hr3⟩ := (hst).opn (i := i) (d := ⟨0, zeroH⟩) (by omega)
    have hok3 := (hst).okAt (i := i) (d := ⟨0, zeroH⟩) (by omega)
    obtain ⟨x3, ex3⟩ : ∃ x, x = List.getD st (i) ⟨0, zeroH⟩ := ⟨_, rfl⟩
    rw [← ex3] at hr3 hok3
    have hx3k : List.length x3.side = 32 := hok3
    have hr3 : w2.rangeAt b3 (o3 + i * 33) (([i64 x3.bit] ++ (List.map u8v x3.side)) : List Value) := hr3
    refine wl rfl rfl rfl (p_ixS (j := i * 33) Tryd.underlying43 sz125 rfl hA3 rfl (by omega) (by omega) (congrArg (· * 33) (Int.toNat_natCast _))) ?_
    have hdr : st.drop i = x3 :: st.drop (i + 1) := by rw [ex3]; exact getD_drop (by omega)
    refine wl rfl rfl rfl (p_ldA (cs := (([i64 x3.bit] ++ (List.map u8v x3.side)) : List Value)) Tryd.underlying125 rfl (szL sz125 (by first | rfl | (simp only [List.length_append, List.length_map, List.length_cons, List.length_nil, (show List.length x3.side = 32 from hx3k)]; done) | (simp only [List.length_append, List.length_map, List.length_cons, List.length_nil, List.size_toArray, (show List.length x3.side = 32 from hx3k)]; done))) rfl (fun _ e => e ▸ hr3)) ?_
    have hltg1 := hb1.lt
    refine wle rfl (e_alloc (cs := (([Value.int .i64 0] ++ (List.map u8v (List.replicate 32 (0 : UInt8)))) : List Value).toArray) rfl (by rfl) rfl (fun w4 g5 hg5 hb5 hc hsz5 => ?_))
    have hzw4 := hc.size
    have HC := HC.tr hc
    have hst := hst.no hc
    have hb1 := hb1.ch hc (fun h => h)
    have hge5 : w.heap.size ≤ g5 := by have := HC.size; omega
    have neg1_5 : g1 < g5 := by omega
    refine wle rfl (e_stW (vs := (([i64 x3.bit] ++ (List.map u8v x3.side)) : List Value)) (szL sz125 (by first | rfl | (simp only [List.length_append, List.length_map, List.length_cons, List.length_nil, (show List.length x3.side = 32 from hx3k)]; done) | (simp only [List.length_append, List.length_map, List.length_cons, List.length_nil, List.size_toArray, (show List.length x3.side = 32 from hx3k)]; done))) (oneA (allOne rfl) (oneL one_u8 _)) rfl rfl hb5 (by first | rfl | (simp only [List.length_append, List.length_map, List.length_cons, List.length_nil, (show List.length (List.replicate 32 (0 : UInt8)) = 32 from (List.length_replicate ..)), (show List.length x3.side = 32 from hx3k)]; done) | (simp only [List.length_append, List.length_map, List.length_cons, List.length_nil, List.size_toArray, (show List.length (List.replicate 32 (0 : UInt8)) = 32 from (List.length_replicate ..)), (show List.length x3.side = 32 from hx3k)]; done)) (fun w5 hb5 hc hsz => ?_))
    have hzw5 := hc.size
    have HC := HC.trans hc (fun _ _ h => h) (fun k hk ht => absurd ht (by omega))
    first | have hst := hst.ch hc (by intro k hk ht; first | omega | (dsimp only at *; omega)) | have hst := hst.chT hc (by intro k hz hk ht; first | omega | (dsimp only at *; omega))
    have hb1 := hb1.ch hc (by omega)
    refine wl_nil ?_
    refine x_seq ?_
    refine wc_seq ?_
    refine wc_seq ?_
    refine wc_region ?_
    refine wl rfl rfl rfl (p_fld (j := 0) Tryd.underlying125 rfl ⟨_, by rfl⟩ rfl rfl) ?_
    refine wl rfl rfl rfl (p_ld Tryd.underlying3 rfl rfl (ld (cell_at (p := []) (v := (i64 x3.bit : Value)) (r := ((List.map u8v x3.side) : List Value)) hb5 (by simp only [List.append_assoc, List.cons_append, List.nil_append, List.append_nil]) (by first | rfl | (simp only [List.length_append, List.length_map, List.length_cons, List.length_nil]; done) | (simp only [List.length_append, List.length_map, List.length_cons, List.length_nil, List.size_toArray]; done))))) ?_
    refine wl rfl rfl rfl (p_mv rfl) ?_
    refine wl rfl rfl rfl (p_le rfl rfl) ?_
    refine wl rfl rfl rfl (p_mv rfl) ?_
    refine wl_split (d := 18) rfl (fun q18 => ?_) (fun q18 => ?_)
    ·
      have q18 := of_decide_eq_true q18
      refine wl_s (gd_ rfl rfl rfl rfl rfl rfl) rfl rfl ?_
      refine wl_s (gd_ rfl rfl rfl rfl rfl rfl) rfl rfl ?_
      refine wl_s (gd_ rfl rfl rfl rfl rfl rfl) rfl rfl ?_
      refine wl rfl rfl rfl (p_pickT rfl rfl) ?_
      refine wl_nil ?_
      refine x_seq ?_
      refine wc_yes rfl (rfl) ?_
      refine wc_seq ?_
      refine wc_region ?_
      refine wl rfl rfl rfl (p_as rfl) ?_
      refine wl_nil ?_
      refine x_seq ?_
      refine wc_ret ?_
      refine x_then_ret ?_
      refine x_in_ret ?_
      refine x_then_ret ?_
      refine x_then_ret ?_
      refine x_in_ret ?_
      refine x_then_ret ?_
      refine fin_run (res1 rfl rfl) ?_
      have hf : goodS (-1) st = false := by rw [hgd, hdr, goodS]; simp [q18]
      rw [good_no hf]
      exact ⟨rfl, HC⟩
    ·
      have q18 := of_decide_eq_false q18
      refine wl_g (gd_ rfl rfl rfl rfl rfl rfl) rfl rfl (p_fld (j := 0) Tryd.underlying125 rfl ⟨_, by rfl⟩ rfl rfl) ?_
      refine wl_g (gd_ rfl rfl rfl rfl rfl rfl) rfl rfl (p_ld Tryd.underlying3 rfl rfl (ld (cell_at (p := []) (v := (i64 x3.bit : Value)) (r := ((List.map u8v x3.side) : List Value)) hb5 (by simp only [List.append_assoc, List.cons_append, List.nil_append, List.append_nil]) (by first | rfl | (simp only [List.length_append, List.length_map, List.length_cons, List.length_nil]; done) | (simp only [List.length_append, List.length_map, List.length_cons, List.length_nil, List.size_toArray]; done))))) ?_
      refine wl_g (gd_ rfl rfl rfl rfl rfl rfl) rfl rfl (p_gt rfl rfl) ?_
      refine wl rfl rfl rfl (p_pickF rfl rfl) ?_
      refine wl_nil ?_
      refine x_seq ?_
      refine wc_if rfl (fun c1 => ?_) (fun c1 => ?_)
      ·
        have c1 := of_decide_eq_true c1
        refine wc_seq ?_
        refine wc_region ?_
        refine wl rfl rfl rfl (p_as rfl) ?_
        refine wl_nil ?_
        refine x_seq ?_
        refine wc_ret ?_
        refine x_then_ret ?_
        refine x_in_ret ?_
        refine x_then_ret ?_
        refine x_then_ret ?_
        refine x_in_ret ?_
        refine x_then_ret ?_
        refine fin_run (res1 rfl rfl) ?_
        have hf : goodS (-1) st = false := by rw [hgd, hdr, goodS]; simp [c1]
        rw [good_no hf]
        exact ⟨rfl, HC⟩
      ·
        have c1 := of_decide_eq_false c1
        refine wc_skip ?_
        refine x_seq ?_
        refine wc_region ?_
        refine wl rfl rfl rfl (p_fld (j := 0) Tryd.underlying125 rfl ⟨_, by rfl⟩ rfl rfl) ?_
        refine wl rfl rfl rfl (p_ld Tryd.underlying3 rfl rfl (ld (cell_at (p := []) (v := (i64 x3.bit : Value)) (r := ((List.map u8v x3.side) : List Value)) hb5 (by simp only [List.append_assoc, List.cons_append, List.nil_append, List.append_nil]) (by first | rfl | (simp only [List.length_append, List.length_map, List.length_cons, List.length_nil]; done) | (simp only [List.length_append, List.length_map, List.length_cons, List.length_nil, List.size_toArray]; done))))) ?_
        refine wl rfl rfl rfl (p_as rfl) ?_
        refine wl_nil ?_
        refine x_in_normal ?_
        refine x_seq ?_
        refine wc_region ?_
        refine wl rfl rfl rfl (p_add rfl rfl (w64 (by omega))) ?_
        refine wl rfl rfl rfl (p_mv rfl) ?_
        refine wl_nil ?_
        refine x_round (e' := [(1, .pointer (some ⟨g1, 0, none⟩)), (3, i64 (x3.bit)), (8, .slice As ls cs), (9, i64 (ls : Int)), (10, i64 ((i + 1) : Int))]) ⟨rfl, rfl, rfl, rfl, rfl, trivial⟩ (by rw [hm0]; omega) ⟨i + 1, x3.bit, rfl, rfl, by omega, (by rw [hgd, hdr, goodS]; have h1 := q18; have h2 := c1; simp; omega), hst, hb1, HC⟩
  ·
    have c0 := of_decide_eq_false c0
    refine wc_exit ?_
    refine x_then_exit ?_
    refine x_then_exit ?_
    refine x_in_here ?_
    refine x_seq ?_
    refine wc_seq ?_
    refine wc_region ?_
    refine wl rfl rfl rfl (p_bldP (cs := ((List.replicate 32 (0 : UInt8)).map u8v).toArray) rfl (fun _ => by kernel_rfl)) ?_
    have hltg1 := hb1.lt
    refine wle rfl (e_alloc (cs := ((List.replicate 32 (0 : UInt8)).map u8v).toArray) rfl (by rfl) rfl (fun w6 g6 hg6 hb6 hc hsz6 => ?_))
    have hzw6 := hc.size
    have HC := HC.tr hc
    have hst := hst.no hc
    have hb1 := hb1.ch hc (fun h => h)
    have hge6 : w.heap.size ≤ g6 := by have := HC.size; omega
    have neg1_6 : g1 < g6 := by omega
    refine wle rfl (e_stW (vs := List.map u8v (List.replicate 32 (0 : UInt8))) (szL sz38 (by rw [List.length_map]; exact (List.length_replicate ..))) (oneL one_u8 _) rfl rfl hb6 (by simp only [List.size_toArray, List.length_map]; first | done | exact ((List.length_replicate ..)).trans ((List.length_replicate ..)).symm) (fun w7 hb6 hc hsz => ?_))
    have hzw7 := hc.size
    have HC := HC.trans hc (fun _ _ h => h) (fun k hk ht => absurd ht (by omega))
    first | have hst := hst.ch hc (by intro k hk ht; first | omega | (dsimp only at *; omega)) | have hst := hst.chT hc (by intro k hz hk ht; first | omega | (dsimp only at *; omega))
    have hb1 := hb1.ch hc (by omega)
    refine wl_nil ?_
    refine x_seq ?_
    refine wc_seq ?_
    refine wc_region ?_
    refine wl rfl rfl rfl (p_fld (j := 1) Tryd.underlying45 rfl ⟨_, by rfl⟩ rfl rfl) ?_
    refine wl rfl rfl rfl (p_ld Tryd.underlying4 rfl rfl (ld (cell_at (p := ([.slice As ls cs] : List Value)) (v := (.bool lf : Value)) (r := (((List.map u8v pk) ++ (List.map u8v pv)) : List Value)) hb1 (by simp only [List.append_assoc, List.cons_append, List.nil_append, List.append_nil]) (by first | rfl | (simp only [List.length_append, List.length_map, List.length_cons, List.length_nil]; done) | (simp only [List.length_append, List.length_map, List.length_cons, List.length_nil, List.size_toArray]; done))))) ?_
    refine wl rfl rfl rfl (p_mv rfl) ?_
    refine wl_split (d := 29) rfl (fun q29 => ?_) (fun q29 => ?_)
    ·
      refine wl_s (gd_ rfl rfl rfl rfl rfl rfl) rfl rfl ?_
      refine wl_s (gd_ rfl rfl rfl rfl rfl rfl) rfl rfl ?_
      refine wl_s (gd_ rfl rfl rfl rfl rfl rfl) rfl rfl ?_
      refine wl_s (gd_ rfl rfl rfl rfl rfl rfl) rfl rfl ?_
      refine wl_s (gd_ rfl rfl rfl rfl rfl rfl) rfl rfl ?_
      refine wl_s (gd_ rfl rfl rfl rfl rfl rfl) rfl rfl ?_
      refine wl_s (gd_ rfl rfl rfl rfl rfl rfl) rfl rfl ?_
      refine wl_s (gd_ rfl rfl rfl rfl rfl rfl) rfl rfl ?_
      refine wl_s (gd_ rfl rfl rfl rfl rfl rfl) rfl rfl ?_
      refine wl_s (gd_ rfl rfl rfl rfl rfl rfl) rfl rfl ?_
      refine wl_s (gd_ rfl rfl rfl rfl rfl rfl) rfl rfl ?_
      refine wl_s (gd_ rfl rfl rfl rfl rfl rfl) rfl rfl ?_
      refine wl_s (gd_ rfl rfl rfl rfl rfl rfl) rfl rfl ?_
      refine wl_s (gd_ rfl rfl rfl rfl rfl rfl) rfl rfl ?_
      refine wl_s (gd_ rfl rfl rfl rfl rfl rfl) rfl rfl ?_
      refine wl_s (gd_ rfl rfl rfl rfl rfl rfl) rfl rfl ?_
      refine wl rfl rfl rfl (p_pickT rfl rfl) ?_
      refine wl rfl rfl rfl (p_as rfl) ?_
      refine wl_nil ?_
      refine x_seq ?_
      refine wc_ret ?_
      refine fin_run (res1 rfl rfl) ?_
      rw [List.drop_of_length_le (by omega), goodS] at hgd
      rw [show lf = true from q29, good_lf hgd]
      exact ⟨rfl, HC⟩
    ·
      refine wl_g (gd_ rfl rfl rfl rfl rfl rfl) rfl rfl (p_fld (j := 0) Tryd.underlying45 rfl ⟨_, by rfl⟩ rfl rfl) ?_
      refine wl_g (gd_ rfl rfl rfl rfl rfl rfl) rfl rfl (p_ld Tryd.underlying43 rfl rfl (ld (cell_at (p := []) (v := (.slice As ls cs : Value)) (r := (([.bool lf] ++ ((List.map u8v pk) ++ (List.map u8v pv))) : List Value)) hb1 (by simp only [List.append_assoc, List.cons_append, List.nil_append, List.append_nil]) (by first | rfl | (simp only [List.length_append, List.length_map, List.length_cons, List.length_nil]; done) | (simp only [List.length_append, List.length_map, List.length_cons, List.length_nil, List.size_toArray]; done))))) ?_
      refine wl_g (gd_ rfl rfl rfl rfl rfl rfl) rfl rfl (p_lenS Tryd.underlying43 rfl) ?_
      refine wl_g (gd_ rfl rfl rfl rfl rfl rfl) rfl rfl (p_eq rfl rfl) ?_
      refine wl_g (gd_ rfl rfl rfl rfl rfl rfl) rfl rfl (p_mv rfl) ?_
      refine wl_split (d := 34) rfl (fun q34 => ?_) (fun q34 => ?_)
      ·
        have q34 := of_decide_eq_true q34
        refine wl_g (gd_ rfl rfl rfl rfl rfl rfl) rfl rfl (p_fld (j := 2) Tryd.underlying45 rfl ⟨_, by rfl⟩ rfl rfl) ?_
        refine wl_g (gd_ rfl rfl rfl rfl rfl rfl) rfl rfl (p_ldA (cs := (List.map u8v pk)) Tryd.underlying38 rfl (szL sz38 (by first | rfl | (simp only [List.length_append, List.length_map, List.length_cons, List.length_nil, (show List.length pk = 32 from hpk)]; done) | (simp only [List.length_append, List.length_map, List.length_cons, List.length_nil, List.size_toArray, (show List.length pk = 32 from hpk)]; done))) rfl (fun _ e => e ▸ rng_at (p := ([.slice As ls cs, .bool lf] : List Value)) (q := ((List.map u8v pk) : List Value)) (r := ((List.map u8v pv) : List Value)) hb1 (by simp only [List.append_assoc, List.cons_append, List.nil_append, List.append_nil]) (by first | rfl | (simp only [List.length_append, List.length_map, List.length_cons, List.length_nil]; done) | (simp only [List.length_append, List.length_map, List.length_cons, List.length_nil, List.size_toArray]; done)))) ?_
        refine wl_g (gd_ rfl rfl rfl rfl rfl rfl) rfl rfl (p_ldA (cs := List.map u8v (List.replicate 32 (0 : UInt8))) Tryd.underlying38 rfl (szL sz38 (by rw [List.length_map]; exact (List.length_replicate ..))) rfl (fun _ e => e ▸ rngL hb6)) ?_
        refine wl_g (gd_ rfl rfl rfl rfl rfl rfl) rfl rfl (p_eqH (a := pk) (b := (List.replicate 32 (0 : UInt8))) (by kernel_rfl) Tryd.underlying38 Tryd.underlying5 sz5 rfl rfl (hpk) ((List.length_replicate ..))) ?_
        refine wl_g (gd_ rfl rfl rfl rfl rfl rfl) rfl rfl (p_pickT rfl rfl) ?_
        refine wl_g (gd_ rfl rfl rfl rfl rfl rfl) rfl rfl (p_mv rfl) ?_
        refine wl_split (d := 40) rfl (fun q40 => ?_) (fun q40 => ?_)
        ·
          refine wl_g (gd_ rfl rfl rfl rfl rfl rfl) rfl rfl (p_fld (j := 34) Tryd.underlying45 rfl ⟨_, by rfl⟩ rfl rfl) ?_
          refine wl_g (gd_ rfl rfl rfl rfl rfl rfl) rfl rfl (p_ldA (cs := (List.map u8v pv)) Tryd.underlying38 rfl (szL sz38 (by first | rfl | (simp only [List.length_append, List.length_map, List.length_cons, List.length_nil, (show List.length pv = 32 from hpv)]; done) | (simp only [List.length_append, List.length_map, List.length_cons, List.length_nil, List.size_toArray, (show List.length pv = 32 from hpv)]; done))) rfl (fun _ e => e ▸ rng_at (p := (([.slice As ls cs, .bool lf] ++ (List.map u8v pk)) : List Value)) (q := ((List.map u8v pv) : List Value)) (r := []) hb1 (by simp only [List.append_assoc, List.cons_append, List.nil_append, List.append_nil]) (by first | rfl | (simp only [List.length_append, List.length_map, List.length_cons, List.length_nil, (show List.length pk = 32 from hpk)]; done) | (simp only [List.length_append, List.length_map, List.length_cons, List.length_nil, List.size_toArray, (show List.length pk = 32 from hpk)]; done)))) ?_
          refine wl_g (gd_ rfl rfl rfl rfl rfl rfl) rfl rfl (p_ldA (cs := List.map u8v (List.replicate 32 (0 : UInt8))) Tryd.underlying38 rfl (szL sz38 (by rw [List.length_map]; exact (List.length_replicate ..))) rfl (fun _ e => e ▸ rngL hb6)) ?_
          refine wl_g (gd_ rfl rfl rfl rfl rfl rfl) rfl rfl (p_eqH (a := pv) (b := (List.replicate 32 (0 : UInt8))) (by kernel_rfl) Tryd.underlying38 Tryd.underlying5 sz5 rfl rfl (hpv) ((List.length_replicate ..))) ?_
          refine wl_g (gd_ rfl rfl rfl rfl rfl rfl) rfl rfl (p_pickT rfl rfl) ?_
          refine wl rfl rfl rfl (p_pickF rfl rfl) ?_
          refine wl rfl rfl rfl (p_as rfl) ?_
          refine wl_nil ?_
          refine x_seq ?_
          refine wc_ret ?_
          refine fin_run (res1 rfl rfl) ?_
          rw [List.drop_of_length_le (by omega), goodS] at hgd
          rw [show lf = false from q29, good_end hgd, ← prf_end (ls := ls) (by omega)]
          refine ⟨?_, HC⟩
          congr 2
          simp only [zeroH] at *
          have hq34 := q34
          have hq40 := q40
          simp_all
        ·
          refine wl_s (gd_ rfl rfl rfl rfl rfl rfl) rfl rfl ?_
          refine wl_s (gd_ rfl rfl rfl rfl rfl rfl) rfl rfl ?_
          refine wl_s (gd_ rfl rfl rfl rfl rfl rfl) rfl rfl ?_
          refine wl_s (gd_ rfl rfl rfl rfl rfl rfl) rfl rfl ?_
          refine wl_g (gd_ rfl rfl rfl rfl rfl rfl) rfl rfl (p_pickF rfl rfl) ?_
          refine wl rfl rfl rfl (p_pickF rfl rfl) ?_
          refine wl rfl rfl rfl (p_as rfl) ?_
          refine wl_nil ?_
          refine x_seq ?_
          refine wc_ret ?_
          refine fin_run (res1 rfl rfl) ?_
          rw [List.drop_of_length_le (by omega), goodS] at hgd
          rw [show lf = false from q29, good_end hgd, ← prf_end (ls := ls) (by omega)]
          refine ⟨?_, HC⟩
          congr 2
          simp only [zeroH] at *
          have hq34 := q34
          have hq40 := q40
          simp_all
      ·
        have q34 := of_decide_eq_false q34
        refine wl_s (gd_ rfl rfl rfl rfl rfl rfl) rfl rfl ?_
        refine wl_s (gd_ rfl rfl rfl rfl rfl rfl) rfl rfl ?_
        refine wl_s (gd_ rfl rfl rfl rfl rfl rfl) rfl rfl ?_
        refine wl_s (gd_ rfl rfl rfl rfl rfl rfl) rfl rfl ?_
        refine wl_g (gd_ rfl rfl rfl rfl rfl rfl) rfl rfl (p_pickF rfl rfl) ?_
        refine wl_g (gd_ rfl rfl rfl rfl rfl rfl) rfl rfl (p_mv rfl) ?_
        refine wl_s (gd_ rfl rfl rfl rfl rfl rfl) rfl rfl ?_
        refine wl_s (gd_ rfl rfl rfl rfl rfl rfl) rfl rfl ?_
        refine wl_s (gd_ rfl rfl rfl rfl rfl rfl) rfl rfl ?_
        refine wl_s (gd_ rfl rfl rfl rfl rfl rfl) rfl rfl ?_
        refine wl_g (gd_ rfl rfl rfl rfl rfl rfl) rfl rfl (p_pickF rfl rfl) ?_
        refine wl rfl rfl rfl (p_pickF rfl rfl) ?_
        refine wl rfl rfl rfl (p_as rfl) ?_
        refine wl_nil ?_
        refine x_seq ?_
        refine wc_ret ?_
        refine fin_run (res1 rfl rfl) ?_
        rw [List.drop_of_length_le (by omega), goodS] at hgd
        rw [show lf = false from q29, good_end hgd, ← prf_end (ls := ls) (by omega)]
        refine ⟨?_, HC⟩
        congr 2
        simp only [zeroH] at *
        have hq34 := q34
        simp_all

set_option maxHeartbeats 1000000 in
set_option maxRecDepth 20000 in
theorem mplain_any {w : World}  {As : Option Addr} {ls cs : Nat} {Fs : Nat → Prop} {st : List Stp} {lf : Bool} {pk pv : List UInt8} (hst : SI w Fs eST As ls cs st) (hpk : pk.length = 32) (hpv : pv.length = 32) (hls : ls ≤ 1000000) :
    Calls Tryd.prog 27 #[.agg (([.slice As ls cs, .bool lf] ++ ((List.map u8v pk) ++ (List.map u8v pv))) : List Value).toArray] w fun e w' => ∃ A l c, e = .returned (.agg (([.slice A l c, .bool lf] ++ (List.map u8v pk ++ List.map u8v pv)) : List Value).toArray) ∧ RI w' (fun k => w.heap.size ≤ k) 125 eST A l c st ∧ Ch No w w' := by
  have hstl := hst.len
  have hst := hst.old
  have HC : Ch No w w := Ch.refl _ _
  refine enter' (args := [_]) (n := 28) Tryd.func27 rfl rfl rfl ?_
  refine wc_seq ?_
  refine wc_region ?_
  refine wle rfl (e_box (cs := (([.slice As ls cs, .bool lf] ++ ((List.map u8v pk) ++ (List.map u8v pv))) : List Value).toArray) rfl rfl rfl (fun w1 g1 hg1 hb1 hc hsz1 => ?_))
  have hzw1 := hc.size
  have HC := HC.tr hc
  have hst := hst.no hc
  have hge1 : w.heap.size ≤ g1 := by have := HC.size; omega
  have hltg1 := hb1.lt
  refine wle rfl (e_alloc (cs := (([Value.slice none 0 0, Value.bool false] ++ ((List.map u8v (List.replicate 32 (0 : UInt8))) ++ (List.map u8v (List.replicate 32 (0 : UInt8))))) : List Value).toArray) rfl (by rfl) (by rfl) (fun w2 g2 hg2 hb2 hc hsz2 => ?_))
  have hzw2 := hc.size
  have HC := HC.tr hc
  have hst := hst.no hc
  have hb1 := hb1.ch hc (fun h => h)
  have hge2 : w.heap.size ≤ g2 := by have := HC.size; omega
  have neg1_2 : g1 < g2 := by omega
  refine wl_nil ?_
  refine x_seq ?_
  refine wc_seq ?_
  refine wc_region ?_
  refine wl rfl rfl rfl (p_fld (j := 1) Tryd.underlying49 rfl ⟨_, by rfl⟩ rfl rfl) ?_
  refine wl rfl rfl rfl (p_ld Tryd.underlying4 rfl rfl (ld (cell_at (p := ([.slice As ls cs] : List Value)) (v := (.bool lf : Value)) (r := (((List.map u8v pk) ++ (List.map u8v pv)) : List Value)) hb1 (by simp only [List.append_assoc, List.cons_append, List.nil_append, List.append_nil]) (by first | rfl | (simp only [List.length_append, List.length_map, List.length_cons, List.length_nil]; done) | (simp only [List.length_append, List.length_map, List.length_cons, List.length_nil, List.size_toArray]; done))))) ?_
  refine wl rfl rfl rfl (p_fld (j := 2) Tryd.underlying49 rfl ⟨_, by rfl⟩ rfl rfl) ?_
  refine wl rfl rfl rfl (p_ldA (cs := (List.map u8v pk)) Tryd.underlying38 rfl (szL sz38 (by first | rfl | (simp only [List.length_append, List.length_map, List.length_cons, List.length_nil, (show List.length pk = 32 from hpk)]; done) | (simp only [List.length_append, List.length_map, List.length_cons, List.length_nil, List.size_toArray, (show List.length pk = 32 from hpk)]; done))) rfl (fun _ e => e ▸ rng_at (p := ([.slice As ls cs, .bool lf] : List Value)) (q := ((List.map u8v pk) : List Value)) (r := ((List.map u8v pv) : List Value)) hb1 (by simp only [List.append_assoc, List.cons_append, List.nil_append, List.append_nil]) (by first | rfl | (simp only [List.length_append, List.length_map, List.length_cons, List.length_nil]; done) | (simp only [List.length_append, List.length_map, List.length_cons, List.length_nil, List.size_toArray]; done)))) ?_
  refine wl rfl rfl rfl (p_fld (j := 34) Tryd.underlying49 rfl ⟨_, by rfl⟩ rfl rfl) ?_
  refine wl rfl rfl rfl (p_ldA (cs := (List.map u8v pv)) Tryd.underlying38 rfl (szL sz38 (by first | rfl | (simp only [List.length_append, List.length_map, List.length_cons, List.length_nil, (show List.length pv = 32 from hpv)]; done) | (simp only [List.length_append, List.length_map, List.length_cons, List.length_nil, List.size_toArray, (show List.length pv = 32 from hpv)]; done))) rfl (fun _ e => e ▸ rng_at (p := (([.slice As ls cs, .bool lf] ++ (List.map u8v pk)) : List Value)) (q := ((List.map u8v pv) : List Value)) (r := []) hb1 (by simp only [List.append_assoc, List.cons_append, List.nil_append, List.append_nil]) (by first | rfl | (simp only [List.length_append, List.length_map, List.length_cons, List.length_nil, (show List.length pk = 32 from hpk)]; done) | (simp only [List.length_append, List.length_map, List.length_cons, List.length_nil, List.size_toArray, (show List.length pk = 32 from hpk)]; done)))) ?_
  refine wl rfl rfl rfl (p_bldX (vs' := [.bool lf, (.agg ((hx pk) : List Value).toArray), (.agg ((hx pv) : List Value).toArray)]) (cs := (([Value.slice none 0 0, .bool lf] ++ ((List.map u8v pk) ++ (List.map u8v pv))) : List Value)) (cs' := (([Value.slice none 0 0, .bool lf] ++ ((hx pk) ++ (hx pv))) : List Value)) rfl (by simp only [hv, map_hx hpk, map_hx hpv]) (by simp only [hv, map_hx hpk, map_hx hpv]) (fun _ => by kernel_rfl)) ?_
  have hltg1 := hb1.lt
  have hltg2 := hb2.lt
  refine wle rfl (e_alloc (cs := (([Value.slice none 0 0, Value.bool false] ++ ((List.map u8v (List.replicate 32 (0 : UInt8))) ++ (List.map u8v (List.replicate 32 (0 : UInt8))))) : List Value).toArray) rfl (by rfl) (by rfl) (fun w3 g3 hg3 hb3 hc hsz3 => ?_))
  have hzw3 := hc.size
  have HC := HC.tr hc
  have hst := hst.no hc
  have hb1 := hb1.ch hc (fun h => h)
  have hb2 := hb2.ch hc (fun h => h)
  have hge3 : w.heap.size ≤ g3 := by have := HC.size; omega
  have neg1_3 : g1 < g3 := by omega
  have neg2_3 : g2 < g3 := by omega
  refine wle rfl (e_stW (vs := (([Value.slice none 0 0, .bool lf] ++ ((List.map u8v pk) ++ (List.map u8v pv))) : List Value)) (szL sz45 (by first | rfl | (simp only [List.length_append, List.length_map, List.length_cons, List.length_nil, (show List.length pk = 32 from hpk), (show List.length pv = 32 from hpv)]; done) | (simp only [List.length_append, List.length_map, List.length_cons, List.length_nil, List.size_toArray, (show List.length pk = 32 from hpk), (show List.length pv = 32 from hpv)]; done))) (oneA (allOne rfl) (oneA (oneL one_u8 _) (oneL one_u8 _))) rfl rfl hb3 (by first | rfl | (simp only [List.length_append, List.length_map, List.length_cons, List.length_nil, (show List.length (List.replicate 32 (0 : UInt8)) = 32 from (List.length_replicate ..)), (show List.length (List.replicate 32 (0 : UInt8)) = 32 from (List.length_replicate ..)), (show List.length pk = 32 from hpk), (show List.length pv = 32 from hpv)]; done) | (simp only [List.length_append, List.length_map, List.length_cons, List.length_nil, List.size_toArray, (show List.length (List.replicate 32 (0 : UInt8)) = 32 from (List.length_replicate ..)), (show List.length (List.replicate 32 (0 : UInt8)) = 32 from (List.length_replicate ..)), (show List.length pk = 32 from hpk), (show List.length pv = 32 from hpv)]; done)) (fun w4 hb3 hc hsz => ?_))
  have hzw4 := hc.size
  have HC := HC.trans hc (fun _ _ h => h) (fun k hk ht => absurd ht (by omega))
  first | have hst := hst.ch hc (by intro k hk ht; first | omega | (dsimp only at *; omega)) | have hst := hst.chT hc (by intro k hz hk ht; first | omega | (dsimp only at *; omega))
  have hb1 := hb1.ch hc (by omega)
  have hb2 := hb2.ch hc (by omega)
  refine wl_nil ?_
  refine x_seq ?_
  refine wc_seq ?_
  refine wc_seq ?_
  refine wc_region ?_
  refine wl rfl rfl rfl (p_fld (j := 0) Tryd.underlying49 rfl ⟨_, by rfl⟩ rfl rfl) ?_
  refine wl rfl rfl rfl (p_ld Tryd.underlying47 rfl rfl (ld (cell_at (p := []) (v := (.slice As ls cs : Value)) (r := (([.bool lf] ++ ((List.map u8v pk) ++ (List.map u8v pv))) : List Value)) hb1 (by simp only [List.append_assoc, List.cons_append, List.nil_append, List.append_nil]) (by first | rfl | (simp only [List.length_append, List.length_map, List.length_cons, List.length_nil]; done) | (simp only [List.length_append, List.length_map, List.length_cons, List.length_nil, List.size_toArray]; done))))) ?_
  refine wl rfl rfl rfl (p_lenS Tryd.underlying47 rfl) ?_
  refine wl rfl rfl rfl (p_mv rfl) ?_
  refine wl_nil ?_
  refine x_seq ?_
  refine wc_block ?_
  obtain ⟨n9, hn9⟩ : ∃ x, x = w4.heap.size := ⟨_, rfl⟩
  refine wc_loop (e' := [(2, .pointer (some ⟨g2, 0, none⟩)), (3, .pointer (some ⟨g3, 0, none⟩)), (14, .slice As ls cs), (15, i64 (ls : Int)), (16, i64 ((0) : Int))]) (fun mz ez uz => ∃ i : Nat, ∃ A : Option Addr, ∃ l : Nat, ∃ c : Nat, mz = ls - i ∧ ez = [(2, .pointer (some ⟨g2, 0, none⟩)), (3, .pointer (some ⟨g3, 0, none⟩)), (14, .slice As ls cs), (15, i64 (ls : Int)), (16, i64 (i : Int))] ∧ (i ≤ ls) ∧ (l = i) ∧ (RI uz (fun k => n9 ≤ k) 125 eST A l c (st.take i)) ∧ (SI uz (fun k => k < w.heap.size) eST As ls cs st) ∧ (Blk uz g3 45 (([.slice A l c, .bool lf] ++ ((List.map u8v pk) ++ (List.map u8v pv))) : List Value).toArray) ∧ (Blk uz g2 45 (([Value.slice none 0 0, Value.bool false] ++ ((List.map u8v (List.replicate 32 (0 : UInt8))) ++ (List.map u8v (List.replicate 32 (0 : UInt8))))) : List Value).toArray) ∧ (w.heap.size ≤ g3 ∧ w.heap.size ≤ g2 ∧ g2 < g3 ∧ g3 < n9 ∧ w.heap.size ≤ n9 ∧ n9 ≤ uz.heap.size) ∧ (Ch No w uz))
    ⟨rfl, rfl, rfl, rfl, rfl, trivial⟩ ⟨0, none, 0, 0, rfl, rfl, by omega, rfl, (by rw [List.take_zero]; exact RI.nil _ _ _ _), hst, hb3, hb2, (by omega), HC⟩ ?_
  rintro m0 e w5 ⟨i, A, l, c, hm0, rfl, hi, hl, hW, hst, hb3, hb2, hg3, HC⟩
  have hzw5 := HC.size
  have hlt3 := hb3.lt
  refine wc_seq ?_
  refine wc_region ?_
  refine wl rfl rfl rfl (p_lt rfl rfl) ?_
  refine wl_nil ?_
  refine x_seq ?_
  refine wc_seq ?_
  refine wc_if rfl (fun c0 => ?_) (fun c0 => ?_)
  ·
    have c0 := of_decide_eq_true c0
    refine wc_skip ?_
    refine x_seq ?_
    refine wc_seq ?_
    refine wc_block ?_
    refine wc_seq ?_
    refine wc_region ?_
    obtain ⟨b6, o6, hA6, hF6, hr6⟩ := (hst).opn (i := i) (d := ⟨0, zeroH⟩) (by omega)
    have hok6 := (hst).okAt (i := i) (d := ⟨0, zeroH⟩) (by omega)
    obtain ⟨x6, ex6⟩ : ∃ x, x = List.getD st (i) ⟨0, zeroH⟩ := ⟨_, rfl⟩
    rw [← ex6] at hr6 hok6
    have hx6k : List.length x6.side = 32 := hok6
    have hr6 : w5.rangeAt b6 (o6 + i * 33) (([i64 x6.bit] ++ (List.map u8v x6.side)) : List Value) := hr6
    refine wl rfl rfl rfl (p_ixS (j := i * 33) Tryd.underlying47 sz126 rfl hA6 rfl (by omega) (by omega) (congrArg (· * 33) (Int.toNat_natCast _))) ?_
    have hdr : st.drop i = x6 :: st.drop (i + 1) := by rw [ex6]; exact getD_drop (by omega)
    refine wl rfl rfl rfl (p_ldA (cs := (([i64 x6.bit] ++ (List.map u8v x6.side)) : List Value)) Tryd.underlying126 rfl (szL sz126 (by first | rfl | (simp only [List.length_append, List.length_map, List.length_cons, List.length_nil, (show List.length x6.side = 32 from hx6k)]; done) | (simp only [List.length_append, List.length_map, List.length_cons, List.length_nil, List.size_toArray, (show List.length x6.side = 32 from hx6k)]; done))) rfl (fun _ e => e ▸ hr6)) ?_
    have hltg3 := hb3.lt
    have hltg2 := hb2.lt
    refine wle rfl (e_alloc (cs := (([Value.int .i64 0] ++ (List.map u8v (List.replicate 32 (0 : UInt8)))) : List Value).toArray) rfl (by rfl) rfl (fun w7 g5 hg5 hb5 hc hsz5 => ?_))
    have hzw7 := hc.size
    have HC := HC.tr hc
    have hW := hW.after hc
    have hst := hst.no hc
    have hb3 := hb3.ch hc (fun h => h)
    have hb2 := hb2.ch hc (fun h => h)
    have hge5 : w.heap.size ≤ g5 := by have := HC.size; omega
    have neg3_5 : g3 < g5 := by omega
    have neg2_5 : g2 < g5 := by omega
    refine wle rfl (e_stW (vs := (([i64 x6.bit] ++ (List.map u8v x6.side)) : List Value)) (szL sz126 (by first | rfl | (simp only [List.length_append, List.length_map, List.length_cons, List.length_nil, (show List.length x6.side = 32 from hx6k)]; done) | (simp only [List.length_append, List.length_map, List.length_cons, List.length_nil, List.size_toArray, (show List.length x6.side = 32 from hx6k)]; done))) (oneA (allOne rfl) (oneL one_u8 _)) rfl rfl hb5 (by first | rfl | (simp only [List.length_append, List.length_map, List.length_cons, List.length_nil, (show List.length (List.replicate 32 (0 : UInt8)) = 32 from (List.length_replicate ..)), (show List.length x6.side = 32 from hx6k)]; done) | (simp only [List.length_append, List.length_map, List.length_cons, List.length_nil, List.size_toArray, (show List.length (List.replicate 32 (0 : UInt8)) = 32 from (List.length_replicate ..)), (show List.length x6.side = 32 from hx6k)]; done)) (fun w8 hb5 hc hsz => ?_))
    have hzw8 := hc.size
    have HC := HC.trans hc (fun _ _ h => h) (fun k hk ht => absurd ht (by omega))
    have hW := hW.ch hc (by intro k hz hk ht; first | omega | (dsimp only at *; omega))
    first | have hst := hst.ch hc (by intro k hk ht; first | omega | (dsimp only at *; omega)) | have hst := hst.chT hc (by intro k hz hk ht; first | omega | (dsimp only at *; omega))
    have hb3 := hb3.ch hc (by omega)
    have hb2 := hb2.ch hc (by omega)
    refine wl_nil ?_
    refine x_seq ?_
    refine wc_region ?_
    refine wl rfl rfl rfl (p_fld (j := 0) Tryd.underlying45 rfl ⟨_, by rfl⟩ rfl rfl) ?_
    refine wl rfl rfl rfl (p_ld Tryd.underlying43 rfl rfl (ld (cell_at (p := []) (v := (.slice A l c : Value)) (r := (([.bool lf] ++ ((List.map u8v pk) ++ (List.map u8v pv))) : List Value)) hb3 (by simp only [List.append_assoc, List.cons_append, List.nil_append, List.append_nil]) (by first | rfl | (simp only [List.length_append, List.length_map, List.length_cons, List.length_nil]; done) | (simp only [List.length_append, List.length_map, List.length_cons, List.length_nil, List.size_toArray]; done))))) ?_
    refine wl rfl rfl rfl (p_ldA (cs := (([i64 x6.bit] ++ (List.map u8v x6.side)) : List Value)) Tryd.underlying126 rfl (szL sz126 (by first | rfl | (simp only [List.length_append, List.length_map, List.length_cons, List.length_nil, (show List.length x6.side = 32 from hx6k)]; done) | (simp only [List.length_append, List.length_map, List.length_cons, List.length_nil, List.size_toArray, (show List.length x6.side = 32 from hx6k)]; done))) rfl (fun _ e => e ▸ rngL hb5)) ?_
    have hltg3 := hb3.lt
    have hltg2 := hb2.lt
    have hltg5 := hb5.lt
    refine wle rfl (e_bslX (E := 125) (cs := (([i64 x6.bit] ++ (List.map u8v x6.side)) : List Value)) (cs' := (([i64 x6.bit] ++ (hx x6.side)) : List Value)) rfl rfl (by simp only [hv, map_hx hx6k]) (fun _ => by kernel_rfl) (fun w9 g23 hg23 hb23 hc hsz23 => ?_))
    have hzw9 := hc.size
    have HC := HC.tr hc
    have hW := hW.after hc
    have hst := hst.no hc
    have hb3 := hb3.ch hc (fun h => h)
    have hb2 := hb2.ch hc (fun h => h)
    have hb5 := hb5.ch hc (fun h => h)
    have hge23 : w.heap.size ≤ g23 := by have := HC.size; omega
    have hS23 := SI.oneA (E := eST) (x := ⟨x6.bit, x6.side⟩) hb23 rfl hx6k
    have hltg3 := hb3.lt
    have hltg2 := hb2.lt
    have hltg5 := hb5.lt
    refine wle rfl (e_appI rfl el43 rfl rfl hW (hS23) (by omega) (by intro k hk; first | omega | (dsimp only at *; omega)) (fun w10 A24 c24 hW hc => ?_))
    have hzw10 := hc.size
    have HC := HC.trans hc (fun _ _ h => h) (fun k hk ht => absurd ht (by first | omega | (dsimp only at *; omega)))
    first | have hst := hst.ch hc (by intro k hk ht; first | omega | (dsimp only at *; omega)) | have hst := hst.chT hc (by intro k hz hk ht; first | omega | (dsimp only at *; omega))
    have hb3 := hb3.ch hc (by first | omega | (dsimp only; omega))
    have hb2 := hb2.ch hc (by first | omega | (dsimp only; omega))
    have hb5 := hb5.ch hc (by first | omega | (dsimp only; omega))
    first | have hS23 := hS23.ch hc (by intro k hk ht; first | omega | (dsimp only at *; omega)) | have hS23 := hS23.chT hc (by intro k hz hk ht; first | omega | (dsimp only at *; omega))
    refine wl rfl rfl rfl (p_fld (j := 0) Tryd.underlying45 rfl ⟨_, by rfl⟩ rfl rfl) ?_
    refine wle rfl (e_stC (p := []) (u := (.slice A l c : Value)) (r := (([.bool lf] ++ ((List.map u8v pk) ++ (List.map u8v pv))) : List Value)) (v := .slice A24 (l + 1) c24) (by rfl) rfl rfl rfl hb3 (by simp only [List.append_assoc, List.cons_append, List.nil_append, List.append_nil]) (by first | rfl | (simp only [List.length_append, List.length_map, List.length_cons, List.length_nil]; done) | (simp only [List.length_append, List.length_map, List.length_cons, List.length_nil, List.size_toArray]; done)) (fun w11 hb3 hc hsz => ?_))
    have hb3 : Blk w11 g3 45 (([.slice A24 (l + 1) c24, .bool lf] ++ ((List.map u8v pk) ++ (List.map u8v pv))) : List Value).toArray := by have h := hb3; simp only [List.append_assoc, List.cons_append, List.nil_append, List.append_nil] at h ⊢; exact h
    have hzw11 := hc.size
    have HC := HC.trans hc (fun _ _ h => h) (fun k hk ht => absurd ht (by omega))
    have hW := hW.ch hc (by intro k hz hk ht; first | omega | (dsimp only at *; omega))
    first | have hst := hst.ch hc (by intro k hk ht; first | omega | (dsimp only at *; omega)) | have hst := hst.chT hc (by intro k hz hk ht; first | omega | (dsimp only at *; omega))
    have hb2 := hb2.ch hc (by omega)
    have hb5 := hb5.ch hc (by omega)
    first | have hS23 := hS23.ch hc (by intro k hk ht; first | omega | (dsimp only at *; omega)) | have hS23 := hS23.chT hc (by intro k hz hk ht; first | omega | (dsimp only at *; omega))
    refine wl_nil ?_
    refine x_in_normal ?_
    refine x_seq ?_
    refine wc_region ?_
    refine wl rfl rfl rfl (p_add rfl rfl (w64 (by omega))) ?_
    refine wl rfl rfl rfl (p_mv rfl) ?_
    refine wl_nil ?_
    refine x_round (e' := [(2, .pointer (some ⟨g2, 0, none⟩)), (3, .pointer (some ⟨g3, 0, none⟩)), (14, .slice As ls cs), (15, i64 (ls : Int)), (16, i64 ((i + 1) : Int))]) ⟨rfl, rfl, rfl, rfl, rfl, trivial⟩ (by rw [hm0]; omega) ⟨i + 1, _, _, _, rfl, rfl, by omega, by omega, (by rw [getD_take (d := ⟨0, zeroH⟩) (by omega), ← ex6]; exact hW.mono (fun k _ hk => by first | omega | (dsimp only at *; omega))), hst, hb3, hb2, (by omega), HC⟩
  ·
    have c0 := of_decide_eq_false c0
    refine wc_exit ?_
    refine x_then_exit ?_
    refine x_then_exit ?_
    refine x_in_here ?_
    refine x_seq ?_
    refine wc_seq ?_
    refine wc_region ?_
    refine wl rfl rfl rfl (p_ldA (cs := (([.slice A l c, .bool lf] ++ ((List.map u8v pk) ++ (List.map u8v pv))) : List Value)) Tryd.underlying45 rfl (szL sz45 (by first | rfl | (simp only [List.length_append, List.length_map, List.length_cons, List.length_nil, (show List.length pk = 32 from hpk), (show List.length pv = 32 from hpv)]; done) | (simp only [List.length_append, List.length_map, List.length_cons, List.length_nil, List.size_toArray, (show List.length pk = 32 from hpk), (show List.length pv = 32 from hpv)]; done))) rfl (fun _ e => e ▸ rngL hb3)) ?_
    refine wle rfl (e_stW (vs := (([.slice A l c, .bool lf] ++ ((List.map u8v pk) ++ (List.map u8v pv))) : List Value)) (szL sz45 (by first | rfl | (simp only [List.length_append, List.length_map, List.length_cons, List.length_nil, (show List.length pk = 32 from hpk), (show List.length pv = 32 from hpv)]; done) | (simp only [List.length_append, List.length_map, List.length_cons, List.length_nil, List.size_toArray, (show List.length pk = 32 from hpk), (show List.length pv = 32 from hpv)]; done))) (oneA (allOne rfl) (oneA (oneL one_u8 _) (oneL one_u8 _))) rfl rfl hb2 (by first | rfl | (simp only [List.length_append, List.length_map, List.length_cons, List.length_nil, (show List.length (List.replicate 32 (0 : UInt8)) = 32 from (List.length_replicate ..)), (show List.length (List.replicate 32 (0 : UInt8)) = 32 from (List.length_replicate ..)), (show List.length pk = 32 from hpk), (show List.length pv = 32 from hpv)]; done) | (simp only [List.length_append, List.length_map, List.length_cons, List.length_nil, List.size_toArray, (show List.length (List.replicate 32 (0 : UInt8)) = 32 from (List.length_replicate ..)), (show List.length (List.replicate 32 (0 : UInt8)) = 32 from (List.length_replicate ..)), (show List.length pk = 32 from hpk), (show List.length pv = 32 from hpv)]; done)) (fun w12 hb2 hc hsz => ?_))
    have hzw12 := hc.size
    have HC := HC.trans hc (fun _ _ h => h) (fun k hk ht => absurd ht (by omega))
    have hW := hW.ch hc (by intro k hz hk ht; first | omega | (dsimp only at *; omega))
    first | have hst := hst.ch hc (by intro k hk ht; first | omega | (dsimp only at *; omega)) | have hst := hst.chT hc (by intro k hz hk ht; first | omega | (dsimp only at *; omega))
    have hb3 := hb3.ch hc (by omega)
    refine wl_nil ?_
    refine x_seq ?_
    refine wc_ret ?_
    refine fin_run (resC (cs := (([.slice A l c, .bool lf] ++ ((List.map u8v pk) ++ (List.map u8v pv))) : List Value)) rfl rfl Tryd.underlying45 rfl (szL sz45 (by first | rfl | (simp only [List.length_append, List.length_map, List.length_cons, List.length_nil, (show List.length pk = 32 from hpk), (show List.length pv = 32 from hpv)]; done) | (simp only [List.length_append, List.length_map, List.length_cons, List.length_nil, List.size_toArray, (show List.length pk = 32 from hpk), (show List.length pv = 32 from hpv)]; done))) (rngL hb2)) ?_
    rw [List.take_of_length_le (by omega)] at hW
    exact ⟨A, l, c, rfl, hW.mono (fun k _ hk => by first | omega | (dsimp only at *; omega)), HC⟩

set_option maxHeartbeats 1000000 in
set_option maxRecDepth 20000 in
theorem mprove_any {w : World} {v : Value} {o : Option LT} {F : Nat → Prop} {k : List UInt8} (hV : TR 41 156 F w v o) (hk : k.length = 32) (hrnd : Sl w (fun k => k = 0) u32v (some ⟨0, 0, none⟩) 64 64 rk) (hsz : szO o ≤ 1000000) :
    Calls Tryd.prog 28 #[v, hv k] w fun e w' => ∃ A l c lf u x, e = .returned (.agg (([.slice A l c, .bool lf] ++ (List.map u8v u ++ List.map u8v x)) : List Value).toArray) ∧ u.length = 32 ∧ x.length = 32 ∧ RI w' (fun k => w.heap.size ≤ k) 126 eST A l c (wayT (eo o) k) ∧ (u, x, lf) = endT (eo o) k ∧ Ch (fun k => k ∈ adsO o) w w' ∧ Fil 156 w w' ∧ (∀ k, k ∈ adsO o → ∃ cs, Blk w k 156 cs) ∧ ∀ k, k ∈ adsO o → F k := by
  have hV0 := hV
  have hV := hV.mono (G := fun k => F k ∧ k < w.heap.size) (fun k h1 h2 => ⟨h2, h1⟩)
  have hVl : ∀ k, k ∈ adsO o → k < w.heap.size := fun k hk => (hV.adsF k hk).2
  have hn0 : 0 < w.heap.size := hrnd.size (by omega) rfl
  have hn1 := hn0
  have HC : Ch (fun k => k ∈ adsO o) w w := Ch.refl _ _
  refine enter' (args := [v, hv k]) (n := 40) Tryd.func28 rfl rfl rfl ?_
  refine wc_seq ?_
  refine wc_region ?_
  refine wle rfl (e_box (cs := (List.map u8v k).toArray) rfl rfl rfl (fun w1 g3 hg3 hb3 hc hsz3 => ?_))
  have hzw1 := hc.size
  have HC := HC.tr hc
  have hV := hV.ch hc (by first | exact fun _ _ _ h => h | (intro k hk hF ht; have h2 : k < w.heap.size := hF.2; first | omega | (dsimp only at *; omega)))
  have hrnd := hrnd.no hc
  have hge3 : w.heap.size ≤ g3 := by have := HC.size; omega
  have hltg3 := hb3.lt
  refine wle rfl (e_alloc (cs := (([Value.slice none 0 0, Value.bool false] ++ ((List.map u8v (List.replicate 32 (0 : UInt8))) ++ (List.map u8v (List.replicate 32 (0 : UInt8))))) : List Value).toArray) rfl (by rfl) (by rfl) (fun w2 g4 hg4 hb4 hc hsz4 => ?_))
  have hzw2 := hc.size
  have HC := HC.tr hc
  have hV := hV.ch hc (by first | exact fun _ _ _ h => h | (intro k hk hF ht; have h2 : k < w.heap.size := hF.2; first | omega | (dsimp only at *; omega)))
  have hrnd := hrnd.no hc
  have hb3 := hb3.ch hc (fun h => h)
  have hge4 : w.heap.size ≤ g4 := by have := HC.size; omega
  have neg3_4 : g3 < g4 := by omega
  refine wl_nil ?_
  refine x_seq ?_
  refine wc_seq ?_
  refine wc_region ?_
  refine wl rfl rfl rfl (p_mv rfl) ?_
  refine wl rfl rfl rfl (p_ldA (cs := List.map u8v k) Tryd.underlying38 rfl (szL sz38 (by rw [List.length_map]; exact hk)) rfl (fun _ e => e ▸ rngL hb3)) ?_
  refine wle rfl (e_call ent72 rfl rfl (tdown_made hV (hk) hrnd hsz) ?_)
  rintro _ w3 ⟨A15, l15, c15, u15, v15, ok15, rfl, hu15, hv15, hW15, hen15, hc, hFil, hRB, hRF⟩
  refine ⟨_, rfl, ?_⟩
  have hR0 := hV.ot.out hrnd (by omega)
  have hzw3 := hc.size
  have HC := HC.trans hc (fun _ _ h => h) (fun k hk ht => ht)
  have hV := hV.fil hc hRB hFil
  have hrnd := hrnd.ch hc (fun k hk ht => hR0 (hk ▸ ht))
  first | have hb3 := hb3.ch hc (hb3.not_nd hRB) | have hb3 := hb3.ch hc (by assumption)
  first | have hb4 := hb4.ch hc (hb4.not_nd hRB) | have hb4 := hb4.ch hc (by assumption)
  have hWl15 := hW15.len
  refine wl rfl rfl rfl (p_mv rfl) ?_
  refine wl rfl rfl rfl (p_ext rfl rfl) ?_
  refine wl rfl rfl rfl (p_ext rfl rfl) ?_
  refine wl rfl rfl rfl (p_ext rfl rfl) ?_
  refine wl rfl rfl rfl (p_ext rfl rfl) ?_
  have hltg3 := hb3.lt
  have hltg4 := hb4.lt
  refine wle rfl (e_alloc (cs := ((List.replicate 32 (0 : UInt8)).map u8v).toArray) rfl (by rfl) rfl (fun w4 g6 hg6 hb6 hc hsz6 => ?_))
  have hzw4 := hc.size
  have HC := HC.tr hc
  have hV := hV.ch hc (by first | exact fun _ _ _ h => h | (intro k hk hF ht; have h2 : k < w.heap.size := hF.2; first | omega | (dsimp only at *; omega)))
  have hrnd := hrnd.no hc
  have hb3 := hb3.ch hc (fun h => h)
  have hb4 := hb4.ch hc (fun h => h)
  have hW15 := hW15.after hc
  have hge6 : w.heap.size ≤ g6 := by have := HC.size; omega
  have neg3_6 : g3 < g6 := by omega
  have neg4_6 : g4 < g6 := by omega
  have hltg3 := hb3.lt
  have hltg4 := hb4.lt
  have hltg6 := hb6.lt
  refine wle rfl (e_alloc (cs := ((List.replicate 32 (0 : UInt8)).map u8v).toArray) rfl (by rfl) rfl (fun w5 g7 hg7 hb7 hc hsz7 => ?_))
  have hzw5 := hc.size
  have HC := HC.tr hc
  have hV := hV.ch hc (by first | exact fun _ _ _ h => h | (intro k hk hF ht; have h2 : k < w.heap.size := hF.2; first | omega | (dsimp only at *; omega)))
  have hrnd := hrnd.no hc
  have hb3 := hb3.ch hc (fun h => h)
  have hb4 := hb4.ch hc (fun h => h)
  have hW15 := hW15.after hc
  have hb6 := hb6.ch hc (fun h => h)
  have hge7 : w.heap.size ≤ g7 := by have := HC.size; omega
  have neg3_7 : g3 < g7 := by omega
  have neg4_7 : g4 < g7 := by omega
  have neg6_7 : g6 < g7 := by omega
  refine wl rfl rfl rfl (p_as rfl) ?_
  refine wle rfl (e_stW (vs := List.map u8v u15) (szL sz38 (by rw [List.length_map]; exact hu15)) (oneL one_u8 _) rfl rfl hb6 (by simp only [List.size_toArray, List.length_map]; first | done | exact ((List.length_replicate ..)).trans (hu15).symm) (fun w6 hb6 hc hsz => ?_))
  have hzw6 := hc.size
  have HC := HC.trans hc (fun _ _ h => h) (fun k hk ht => absurd ht (by omega))
  have hV := hV.ch hc (by first | exact fun _ _ _ h => h | (intro k hk hF ht; have h2 : k < w.heap.size := hF.2; first | omega | (dsimp only at *; omega)))
  first | have hrnd := hrnd.ch hc (by intro k hk ht; first | omega | (dsimp only at *; omega)) | have hrnd := hrnd.chT hc (by intro k hz hk ht; first | omega | (dsimp only at *; omega))
  have hb3 := hb3.ch hc (by omega)
  have hb4 := hb4.ch hc (by omega)
  have hW15 := hW15.ch hc (by intro k hz hk ht; first | omega | (dsimp only at *; omega))
  have hb7 := hb7.ch hc (by omega)
  refine wle rfl (e_stW (vs := List.map u8v v15) (szL sz38 (by rw [List.length_map]; exact hv15)) (oneL one_u8 _) rfl rfl hb7 (by simp only [List.size_toArray, List.length_map]; first | done | exact ((List.length_replicate ..)).trans (hv15).symm) (fun w7 hb7 hc hsz => ?_))
  have hzw7 := hc.size
  have HC := HC.trans hc (fun _ _ h => h) (fun k hk ht => absurd ht (by omega))
  have hV := hV.ch hc (by first | exact fun _ _ _ h => h | (intro k hk hF ht; have h2 : k < w.heap.size := hF.2; first | omega | (dsimp only at *; omega)))
  first | have hrnd := hrnd.ch hc (by intro k hk ht; first | omega | (dsimp only at *; omega)) | have hrnd := hrnd.chT hc (by intro k hz hk ht; first | omega | (dsimp only at *; omega))
  have hb3 := hb3.ch hc (by omega)
  have hb4 := hb4.ch hc (by omega)
  have hW15 := hW15.ch hc (by intro k hz hk ht; first | omega | (dsimp only at *; omega))
  have hb6 := hb6.ch hc (by omega)
  refine wl rfl rfl rfl (p_as rfl) ?_
  refine wl_nil ?_
  refine x_seq ?_
  refine wc_seq ?_
  refine wc_seq ?_
  refine wc_region ?_
  refine wl rfl rfl rfl (p_mv rfl) ?_
  refine wl rfl rfl rfl (p_not rfl) ?_
  refine wl_nil ?_
  refine x_seq ?_
  refine wc_if rfl (fun c0 => ?_) (fun c0 => ?_)
  ·
    refine wc_seq ?_
    refine wc_region ?_
    refine wl rfl rfl rfl (p_bldX (vs' := []) (cs := (([Value.slice none 0 0, Value.bool false] ++ ((List.map u8v (List.replicate 32 (0 : UInt8))) ++ (List.map u8v (List.replicate 32 (0 : UInt8))))) : List Value)) (cs' := (([Value.slice none 0 0, Value.bool false] ++ ((hx (List.replicate 32 (0 : UInt8))) ++ (hx (List.replicate 32 (0 : UInt8))))) : List Value)) rfl rfl (by simp only [hv, map_hx (List.length_replicate ..)] <;> rfl) (fun _ => by kernel_rfl)) ?_
    refine wle rfl (e_stW (vs := (([Value.slice none 0 0, Value.bool false] ++ ((List.map u8v (List.replicate 32 (0 : UInt8))) ++ (List.map u8v (List.replicate 32 (0 : UInt8))))) : List Value)) (szL sz49 (by first | rfl | (simp only [List.length_append, List.length_map, List.length_cons, List.length_nil, (show List.length (List.replicate 32 (0 : UInt8)) = 32 from (List.length_replicate ..)), (show List.length (List.replicate 32 (0 : UInt8)) = 32 from (List.length_replicate ..))]; done) | (simp only [List.length_append, List.length_map, List.length_cons, List.length_nil, List.size_toArray, (show List.length (List.replicate 32 (0 : UInt8)) = 32 from (List.length_replicate ..)), (show List.length (List.replicate 32 (0 : UInt8)) = 32 from (List.length_replicate ..))]; done))) (oneA (allOne rfl) (oneA (oneL one_u8 _) (oneL one_u8 _))) rfl rfl hb4 (by first | rfl | (simp only [List.length_append, List.length_map, List.length_cons, List.length_nil, (show List.length (List.replicate 32 (0 : UInt8)) = 32 from (List.length_replicate ..)), (show List.length (List.replicate 32 (0 : UInt8)) = 32 from (List.length_replicate ..)), (show List.length (List.replicate 32 (0 : UInt8)) = 32 from (List.length_replicate ..)), (show List.length (List.replicate 32 (0 : UInt8)) = 32 from (List.length_replicate ..))]; done) | (simp only [List.length_append, List.length_map, List.length_cons, List.length_nil, List.size_toArray, (show List.length (List.replicate 32 (0 : UInt8)) = 32 from (List.length_replicate ..)), (show List.length (List.replicate 32 (0 : UInt8)) = 32 from (List.length_replicate ..)), (show List.length (List.replicate 32 (0 : UInt8)) = 32 from (List.length_replicate ..)), (show List.length (List.replicate 32 (0 : UInt8)) = 32 from (List.length_replicate ..))]; done)) (fun w8 hb4 hc hsz => ?_))
    have hzw8 := hc.size
    have HC := HC.trans hc (fun _ _ h => h) (fun k hk ht => absurd ht (by omega))
    have hV := hV.ch hc (by first | exact fun _ _ _ h => h | (intro k hk hF ht; have h2 : k < w.heap.size := hF.2; first | omega | (dsimp only at *; omega)))
    first | have hrnd := hrnd.ch hc (by intro k hk ht; first | omega | (dsimp only at *; omega)) | have hrnd := hrnd.chT hc (by intro k hz hk ht; first | omega | (dsimp only at *; omega))
    have hb3 := hb3.ch hc (by omega)
    have hW15 := hW15.ch hc (by intro k hz hk ht; first | omega | (dsimp only at *; omega))
    have hb6 := hb6.ch hc (by omega)
    have hb7 := hb7.ch hc (by omega)
    refine wl_nil ?_
    refine x_seq ?_
    refine wc_ret ?_
    refine x_then_ret ?_
    refine fin_run (resC (cs := (([Value.slice none 0 0, Value.bool false] ++ ((List.map u8v (List.replicate 32 (0 : UInt8))) ++ (List.map u8v (List.replicate 32 (0 : UInt8))))) : List Value)) rfl rfl Tryd.underlying49 rfl (szL sz49 (by first | rfl | (simp only [List.length_append, List.length_map, List.length_cons, List.length_nil, (show List.length (List.replicate 32 (0 : UInt8)) = 32 from (List.length_replicate ..)), (show List.length (List.replicate 32 (0 : UInt8)) = 32 from (List.length_replicate ..))]; done) | (simp only [List.length_append, List.length_map, List.length_cons, List.length_nil, List.size_toArray, (show List.length (List.replicate 32 (0 : UInt8)) = 32 from (List.length_replicate ..)), (show List.length (List.replicate 32 (0 : UInt8)) = 32 from (List.length_replicate ..))]; done))) (rngL hb4)) ?_
    obtain ⟨e1, e2⟩ := end_no hen15 (by simpa using c0)
    exact ⟨none, 0, 0, false, _, _, rfl, zeroH_len, zeroH_len, by rw [e1]; exact RI.nil _ _ _ _, e2, HC, Fil.ofO hV0.ot HC (fun t e => hV.lat t e), hV0.adsB, hV0.adsF⟩
  ·
    have hokt : ok15 = true := by simpa using c0
    obtain ⟨n8, hn8⟩ : ∃ x, x = w7.heap.size := ⟨_, rfl⟩
    have hSw : SI w7 (fun k => k < n8 ∧ k ≠ g4) eST A15 l15 c15 (wayT (eo o) k) := hW15.si.mono (fun k hk h2 => by first | omega | (dsimp only at *; omega))
    refine wc_skip ?_
    refine x_seq ?_
    refine wc_seq ?_
    refine wc_region ?_
    refine wl rfl rfl rfl (p_ldA (cs := List.map u8v u15) Tryd.underlying38 rfl (szL sz38 (by rw [List.length_map]; exact hu15)) rfl (fun _ e => e ▸ rngL hb6)) ?_
    refine wl rfl rfl rfl (p_ldA (cs := List.map u8v v15) Tryd.underlying38 rfl (szL sz38 (by rw [List.length_map]; exact hv15)) rfl (fun _ e => e ▸ rngL hb7)) ?_
    refine wl rfl rfl rfl (p_bldX (vs' := [.bool true, (.agg ((hx u15) : List Value).toArray), (.agg ((hx v15) : List Value).toArray)]) (cs := (([Value.slice none 0 0, .bool true] ++ ((List.map u8v u15) ++ (List.map u8v v15))) : List Value)) (cs' := (([Value.slice none 0 0, .bool true] ++ ((hx u15) ++ (hx v15))) : List Value)) rfl (by simp only [hv, map_hx hu15, map_hx hv15] <;> rfl) (by simp only [hv, map_hx hu15, map_hx hv15] <;> rfl) (fun _ => by kernel_rfl)) ?_
    have hltg3 := hb3.lt
    have hltg4 := hb4.lt
    have hltg6 := hb6.lt
    have hltg7 := hb7.lt
    refine wle rfl (e_alloc (cs := (([Value.slice none 0 0, Value.bool false] ++ ((List.map u8v (List.replicate 32 (0 : UInt8))) ++ (List.map u8v (List.replicate 32 (0 : UInt8))))) : List Value).toArray) rfl (by rfl) (by rfl) (fun w9 g9 hg9 hb9 hc hsz9 => ?_))
    have hzw9 := hc.size
    have HC := HC.tr hc
    have hV := hV.ch hc (by first | exact fun _ _ _ h => h | (intro k hk hF ht; have h2 : k < w.heap.size := hF.2; first | omega | (dsimp only at *; omega)))
    have hrnd := hrnd.no hc
    have hb3 := hb3.ch hc (fun h => h)
    have hb4 := hb4.ch hc (fun h => h)
    have hSw := hSw.no hc
    have hb6 := hb6.ch hc (fun h => h)
    have hb7 := hb7.ch hc (fun h => h)
    have hge9 : w.heap.size ≤ g9 := by have := HC.size; omega
    have neg3_9 : g3 < g9 := by omega
    have neg4_9 : g4 < g9 := by omega
    have neg6_9 : g6 < g9 := by omega
    have neg7_9 : g7 < g9 := by omega
    refine wle rfl (e_stW (vs := (([Value.slice none 0 0, .bool true] ++ ((List.map u8v u15) ++ (List.map u8v v15))) : List Value)) (szL sz49 (by first | rfl | (simp only [List.length_append, List.length_map, List.length_cons, List.length_nil, (show List.length u15 = 32 from hu15), (show List.length v15 = 32 from hv15)]; done) | (simp only [List.length_append, List.length_map, List.length_cons, List.length_nil, List.size_toArray, (show List.length u15 = 32 from hu15), (show List.length v15 = 32 from hv15)]; done))) (oneA (allOne rfl) (oneA (oneL one_u8 _) (oneL one_u8 _))) rfl rfl hb9 (by first | rfl | (simp only [List.length_append, List.length_map, List.length_cons, List.length_nil, (show List.length (List.replicate 32 (0 : UInt8)) = 32 from (List.length_replicate ..)), (show List.length (List.replicate 32 (0 : UInt8)) = 32 from (List.length_replicate ..)), (show List.length u15 = 32 from hu15), (show List.length v15 = 32 from hv15)]; done) | (simp only [List.length_append, List.length_map, List.length_cons, List.length_nil, List.size_toArray, (show List.length (List.replicate 32 (0 : UInt8)) = 32 from (List.length_replicate ..)), (show List.length (List.replicate 32 (0 : UInt8)) = 32 from (List.length_replicate ..)), (show List.length u15 = 32 from hu15), (show List.length v15 = 32 from hv15)]; done)) (fun w10 hb9 hc hsz => ?_))
    have hzw10 := hc.size
    have HC := HC.trans hc (fun _ _ h => h) (fun k hk ht => absurd ht (by omega))
    have hV := hV.ch hc (by first | exact fun _ _ _ h => h | (intro k hk hF ht; have h2 : k < w.heap.size := hF.2; first | omega | (dsimp only at *; omega)))
    first | have hrnd := hrnd.ch hc (by intro k hk ht; first | omega | (dsimp only at *; omega)) | have hrnd := hrnd.chT hc (by intro k hz hk ht; first | omega | (dsimp only at *; omega))
    have hb3 := hb3.ch hc (by omega)
    have hb4 := hb4.ch hc (by omega)
    first | have hSw := hSw.ch hc (by intro k hk ht; first | omega | (dsimp only at *; omega)) | have hSw := hSw.chT hc (by intro k hz hk ht; first | omega | (dsimp only at *; omega))
    have hb6 := hb6.ch hc (by omega)
    have hb7 := hb7.ch hc (by omega)
    refine wl_nil ?_
    refine x_seq ?_
    refine wc_seq ?_
    refine wc_seq ?_
    refine wc_region ?_
    refine wl rfl rfl rfl (p_mv rfl) ?_
    refine wl rfl rfl rfl (p_lenS Tryd.underlying127 rfl) ?_
    refine wl rfl rfl rfl (p_mv rfl) ?_
    refine wl_nil ?_
    refine x_seq ?_
    refine wc_block ?_
    obtain ⟨n9, hn9⟩ : ∃ x, x = w10.heap.size := ⟨_, rfl⟩
    refine wc_loop (e' := [(4, .pointer (some ⟨g4, 0, none⟩)), (9, .pointer (some ⟨g9, 0, none⟩)), (26, .slice A15 l15 c15), (27, i64 (l15 : Int)), (28, i64 ((0) : Int))]) (fun mz ez uz => ∃ i : Nat, ∃ A : Option Addr, ∃ l : Nat, ∃ c : Nat, mz = l15 - i ∧ ez = [(4, .pointer (some ⟨g4, 0, none⟩)), (9, .pointer (some ⟨g9, 0, none⟩)), (26, .slice A15 l15 c15), (27, i64 (l15 : Int)), (28, i64 (i : Int))] ∧ (i ≤ l15) ∧ (l = i) ∧ (RI uz (fun k => n9 ≤ k) 126 eST A l c ((wayT (eo o) k).take i)) ∧ (SI uz (fun k => k < n8 ∧ k ≠ g4) eST A15 l15 c15 (wayT (eo o) k)) ∧ (Blk uz g9 49 (([.slice A l c, .bool true] ++ ((List.map u8v u15) ++ (List.map u8v v15))) : List Value).toArray) ∧ (Blk uz g4 49 (([Value.slice none 0 0, Value.bool false] ++ ((List.map u8v (List.replicate 32 (0 : UInt8))) ++ (List.map u8v (List.replicate 32 (0 : UInt8))))) : List Value).toArray) ∧ (w.heap.size ≤ g9 ∧ w.heap.size ≤ g4 ∧ g4 < g9 ∧ n8 ≤ g9 ∧ g9 < n9 ∧ w.heap.size ≤ n9 ∧ n9 ≤ uz.heap.size ∧ l15 ≤ 1000000) ∧ (TR 41 156 (fun k => F k ∧ k < w.heap.size) uz v o) ∧ (Ch (fun k => k ∈ adsO o) w uz))
      ⟨rfl, rfl, rfl, rfl, rfl, trivial⟩ ⟨0, none, 0, 0, rfl, rfl, by omega, rfl, (by rw [List.take_zero]; exact RI.nil _ _ _ _), hSw, hb9, hb4, (by have := way_lenO (o := o) (k := k); omega), hV, HC⟩ ?_
    rintro m0 e w11 ⟨i, A, l, c, hm0, rfl, hi, hl, hW, hSw, hb9, hb4, hg9, hV, HC⟩
    have hzw11 := HC.size
    have hlt9 := hb9.lt
    refine wc_seq ?_
    refine wc_region ?_
    refine wl rfl rfl rfl (p_lt rfl rfl) ?_
    refine wl_nil ?_
    refine x_seq ?_
    refine wc_seq ?_
    refine wc_if rfl (fun c1 => ?_) (fun c1 => ?_)
    ·
      have c1 := of_decide_eq_true c1
      refine wc_skip ?_
      refine x_seq ?_
      refine wc_seq ?_
      refine wc_block ?_
      refine wc_seq ?_
      refine wc_region ?_
      obtain ⟨b12, o12, hA12, hF12, hr12⟩ := (hSw).opn (i := i) (d := ⟨0, zeroH⟩) (by omega)
      have hok12 := (hSw).okAt (i := i) (d := ⟨0, zeroH⟩) (by omega)
      obtain ⟨x12, ex12⟩ : ∃ x, x = List.getD (wayT (eo o) k) (i) ⟨0, zeroH⟩ := ⟨_, rfl⟩
      rw [← ex12] at hr12 hok12
      have hx12k : List.length x12.side = 32 := hok12
      have hr12 : w11.rangeAt b12 (o12 + i * 33) (([i64 x12.bit] ++ (List.map u8v x12.side)) : List Value) := hr12
      refine wl rfl rfl rfl (p_ixS (j := i * 33) Tryd.underlying127 sz130 rfl hA12 rfl (by omega) (by omega) (congrArg (· * 33) (Int.toNat_natCast _))) ?_
      have hdr : True := trivial
      refine wl rfl rfl rfl (p_ldA (cs := (([i64 x12.bit] ++ (List.map u8v x12.side)) : List Value)) Tryd.underlying130 rfl (szL sz130 (by first | rfl | (simp only [List.length_append, List.length_map, List.length_cons, List.length_nil, (show List.length x12.side = 32 from hx12k)]; done) | (simp only [List.length_append, List.length_map, List.length_cons, List.length_nil, List.size_toArray, (show List.length x12.side = 32 from hx12k)]; done))) rfl (fun _ e => e ▸ hr12)) ?_
      have hltg9 := hb9.lt
      have hltg4 := hb4.lt
      refine wle rfl (e_alloc (cs := (([Value.int .i64 0] ++ (List.map u8v (List.replicate 32 (0 : UInt8)))) : List Value).toArray) rfl (by rfl) rfl (fun w13 g11 hg11 hb11 hc hsz11 => ?_))
      have hzw13 := hc.size
      have HC := HC.tr hc
      have hW := hW.after hc
      have hSw := hSw.no hc
      have hb9 := hb9.ch hc (fun h => h)
      have hb4 := hb4.ch hc (fun h => h)
      have hV := hV.ch hc (by first | exact fun _ _ _ h => h | (intro k hk hF ht; have h2 : k < w.heap.size := hF.2; first | omega | (dsimp only at *; omega)))
      have hge11 : w.heap.size ≤ g11 := by have := HC.size; omega
      have neg9_11 : g9 < g11 := by omega
      have neg4_11 : g4 < g11 := by omega
      refine wle rfl (e_stW (vs := (([i64 x12.bit] ++ (List.map u8v x12.side)) : List Value)) (szL sz130 (by first | rfl | (simp only [List.length_append, List.length_map, List.length_cons, List.length_nil, (show List.length x12.side = 32 from hx12k)]; done) | (simp only [List.length_append, List.length_map, List.length_cons, List.length_nil, List.size_toArray, (show List.length x12.side = 32 from hx12k)]; done))) (oneA (allOne rfl) (oneL one_u8 _)) rfl rfl hb11 (by first | rfl | (simp only [List.length_append, List.length_map, List.length_cons, List.length_nil, (show List.length (List.replicate 32 (0 : UInt8)) = 32 from (List.length_replicate ..)), (show List.length x12.side = 32 from hx12k)]; done) | (simp only [List.length_append, List.length_map, List.length_cons, List.length_nil, List.size_toArray, (show List.length (List.replicate 32 (0 : UInt8)) = 32 from (List.length_replicate ..)), (show List.length x12.side = 32 from hx12k)]; done)) (fun w14 hb11 hc hsz => ?_))
      have hzw14 := hc.size
      have HC := HC.trans hc (fun _ _ h => h) (fun k hk ht => absurd ht (by omega))
      have hW := hW.ch hc (by intro k hz hk ht; first | omega | (dsimp only at *; omega))
      first | have hSw := hSw.ch hc (by intro k hk ht; first | omega | (dsimp only at *; omega)) | have hSw := hSw.chT hc (by intro k hz hk ht; first | omega | (dsimp only at *; omega))
      have hb9 := hb9.ch hc (by omega)
      have hb4 := hb4.ch hc (by omega)
      have hV := hV.ch hc (by first | exact fun _ _ _ h => h | (intro k hk hF ht; have h2 : k < w.heap.size := hF.2; first | omega | (dsimp only at *; omega)))
      refine wl_nil ?_
      refine x_seq ?_
      refine wc_region ?_
      refine wl rfl rfl rfl (p_fld (j := 0) Tryd.underlying49 rfl ⟨_, by rfl⟩ rfl rfl) ?_
      refine wl rfl rfl rfl (p_ld Tryd.underlying47 rfl rfl (ld (cell_at (p := []) (v := (.slice A l c : Value)) (r := (([.bool true] ++ ((List.map u8v u15) ++ (List.map u8v v15))) : List Value)) hb9 (by simp only [List.append_assoc, List.cons_append, List.nil_append, List.append_nil]) (by first | rfl | (simp only [List.length_append, List.length_map, List.length_cons, List.length_nil]; done) | (simp only [List.length_append, List.length_map, List.length_cons, List.length_nil, List.size_toArray]; done))))) ?_
      refine wl rfl rfl rfl (p_ldA (cs := (([i64 x12.bit] ++ (List.map u8v x12.side)) : List Value)) Tryd.underlying130 rfl (szL sz130 (by first | rfl | (simp only [List.length_append, List.length_map, List.length_cons, List.length_nil, (show List.length x12.side = 32 from hx12k)]; done) | (simp only [List.length_append, List.length_map, List.length_cons, List.length_nil, List.size_toArray, (show List.length x12.side = 32 from hx12k)]; done))) rfl (fun _ e => e ▸ rngL hb11)) ?_
      have hltg9 := hb9.lt
      have hltg4 := hb4.lt
      have hltg11 := hb11.lt
      refine wle rfl (e_bslX (E := 126) (cs := (([i64 x12.bit] ++ (List.map u8v x12.side)) : List Value)) (cs' := (([i64 x12.bit] ++ (hx x12.side)) : List Value)) rfl rfl (by simp only [hv, map_hx hx12k] <;> rfl) (fun _ => by kernel_rfl) (fun w15 g35 hg35 hb35 hc hsz35 => ?_))
      have hzw15 := hc.size
      have HC := HC.tr hc
      have hW := hW.after hc
      have hSw := hSw.no hc
      have hb9 := hb9.ch hc (fun h => h)
      have hb4 := hb4.ch hc (fun h => h)
      have hV := hV.ch hc (by first | exact fun _ _ _ h => h | (intro k hk hF ht; have h2 : k < w.heap.size := hF.2; first | omega | (dsimp only at *; omega)))
      have hb11 := hb11.ch hc (fun h => h)
      have hge35 : w.heap.size ≤ g35 := by have := HC.size; omega
      have hS35 := SI.oneA (E := eST) (x := ⟨x12.bit, x12.side⟩) hb35 rfl hx12k
      have hltg9 := hb9.lt
      have hltg4 := hb4.lt
      have hltg11 := hb11.lt
      refine wle rfl (e_appI rfl el47 rfl rfl hW (hS35) (by omega) (by intro k hk; first | omega | (dsimp only at *; omega)) (fun w16 A36 c36 hW hc => ?_))
      have hzw16 := hc.size
      have HC := HC.trans hc (fun _ _ h => h) (fun k hk ht => absurd ht (by first | omega | (dsimp only at *; omega)))
      first | have hSw := hSw.ch hc (by intro k hk ht; first | omega | (dsimp only at *; omega)) | have hSw := hSw.chT hc (by intro k hz hk ht; first | omega | (dsimp only at *; omega))
      have hb9 := hb9.ch hc (by first | omega | (dsimp only; omega))
      have hb4 := hb4.ch hc (by first | omega | (dsimp only; omega))
      have hV := hV.ch hc (by first | exact fun _ _ _ h => h | (intro k hk hF ht; have h2 : k < w.heap.size := hF.2; first | omega | (dsimp only at *; omega)))
      have hb11 := hb11.ch hc (by first | omega | (dsimp only; omega))
      first | have hS35 := hS35.ch hc (by intro k hk ht; first | omega | (dsimp only at *; omega)) | have hS35 := hS35.chT hc (by intro k hz hk ht; first | omega | (dsimp only at *; omega))
      refine wl rfl rfl rfl (p_fld (j := 0) Tryd.underlying49 rfl ⟨_, by rfl⟩ rfl rfl) ?_
      refine wle rfl (e_stC (p := []) (u := (.slice A l c : Value)) (r := (([.bool true] ++ ((List.map u8v u15) ++ (List.map u8v v15))) : List Value)) (v := .slice A36 (l + 1) c36) (by rfl) rfl rfl rfl hb9 (by simp only [List.append_assoc, List.cons_append, List.nil_append, List.append_nil]) (by first | rfl | (simp only [List.length_append, List.length_map, List.length_cons, List.length_nil]; done) | (simp only [List.length_append, List.length_map, List.length_cons, List.length_nil, List.size_toArray]; done)) (fun w17 hb9 hc hsz => ?_))
      have hb9 : Blk w17 g9 49 (([.slice A36 (l + 1) c36, .bool true] ++ ((List.map u8v u15) ++ (List.map u8v v15))) : List Value).toArray := by have h := hb9; simp only [List.append_assoc, List.cons_append, List.nil_append, List.append_nil] at h ⊢; exact h
      have hzw17 := hc.size
      have HC := HC.trans hc (fun _ _ h => h) (fun k hk ht => absurd ht (by omega))
      have hW := hW.ch hc (by intro k hz hk ht; first | omega | (dsimp only at *; omega))
      first | have hSw := hSw.ch hc (by intro k hk ht; first | omega | (dsimp only at *; omega)) | have hSw := hSw.chT hc (by intro k hz hk ht; first | omega | (dsimp only at *; omega))
      have hb4 := hb4.ch hc (by omega)
      have hV := hV.ch hc (by first | exact fun _ _ _ h => h | (intro k hk hF ht; have h2 : k < w.heap.size := hF.2; first | omega | (dsimp only at *; omega)))
      have hb11 := hb11.ch hc (by omega)
      first | have hS35 := hS35.ch hc (by intro k hk ht; first | omega | (dsimp only at *; omega)) | have hS35 := hS35.chT hc (by intro k hz hk ht; first | omega | (dsimp only at *; omega))
      refine wl_nil ?_
      refine x_in_normal ?_
      refine x_seq ?_
      refine wc_region ?_
      refine wl rfl rfl rfl (p_add rfl rfl (w64 (by omega))) ?_
      refine wl rfl rfl rfl (p_mv rfl) ?_
      refine wl_nil ?_
      refine x_round (e' := [(4, .pointer (some ⟨g4, 0, none⟩)), (9, .pointer (some ⟨g9, 0, none⟩)), (26, .slice A15 l15 c15), (27, i64 (l15 : Int)), (28, i64 ((i + 1) : Int))]) ⟨rfl, rfl, rfl, rfl, rfl, trivial⟩ (by rw [hm0]; omega) ⟨i + 1, _, _, _, rfl, rfl, by omega, by omega, (by rw [getD_take (d := ⟨0, zeroH⟩) (by omega), ← ex12]; exact hW.mono (fun k _ hk => by first | omega | (dsimp only at *; omega))), hSw.mono (fun k _ hk => by first | exact hk | exact hk.1 | exact hk.1.1 | exact hk.1.1.1), hb9, hb4, (by omega), hV, HC⟩
    ·
      have c1 := of_decide_eq_false c1
      refine wc_exit ?_
      refine x_then_exit ?_
      refine x_then_exit ?_
      refine x_in_here ?_
      refine x_seq ?_
      refine wc_seq ?_
      refine wc_region ?_
      refine wl rfl rfl rfl (p_ldA (cs := (([.slice A l c, .bool true] ++ ((List.map u8v u15) ++ (List.map u8v v15))) : List Value)) Tryd.underlying49 rfl (szL sz49 (by first | rfl | (simp only [List.length_append, List.length_map, List.length_cons, List.length_nil, (show List.length u15 = 32 from hu15), (show List.length v15 = 32 from hv15)]; done) | (simp only [List.length_append, List.length_map, List.length_cons, List.length_nil, List.size_toArray, (show List.length u15 = 32 from hu15), (show List.length v15 = 32 from hv15)]; done))) rfl (fun _ e => e ▸ rngL hb9)) ?_
      refine wle rfl (e_stW (vs := (([.slice A l c, .bool true] ++ ((List.map u8v u15) ++ (List.map u8v v15))) : List Value)) (szL sz49 (by first | rfl | (simp only [List.length_append, List.length_map, List.length_cons, List.length_nil, (show List.length u15 = 32 from hu15), (show List.length v15 = 32 from hv15)]; done) | (simp only [List.length_append, List.length_map, List.length_cons, List.length_nil, List.size_toArray, (show List.length u15 = 32 from hu15), (show List.length v15 = 32 from hv15)]; done))) (oneA (allOne rfl) (oneA (oneL one_u8 _) (oneL one_u8 _))) rfl rfl hb4 (by first | rfl | (simp only [List.length_append, List.length_map, List.length_cons, List.length_nil, (show List.length (List.replicate 32 (0 : UInt8)) = 32 from (List.length_replicate ..)), (show List.length (List.replicate 32 (0 : UInt8)) = 32 from (List.length_replicate ..)), (show List.length u15 = 32 from hu15), (show List.length v15 = 32 from hv15)]; done) | (simp only [List.length_append, List.length_map, List.length_cons, List.length_nil, List.size_toArray, (show List.length (List.replicate 32 (0 : UInt8)) = 32 from (List.length_replicate ..)), (show List.length (List.replicate 32 (0 : UInt8)) = 32 from (List.length_replicate ..)), (show List.length u15 = 32 from hu15), (show List.length v15 = 32 from hv15)]; done)) (fun w18 hb4 hc hsz => ?_))
      have hzw18 := hc.size
      have HC := HC.trans hc (fun _ _ h => h) (fun k hk ht => absurd ht (by omega))
      have hW := hW.ch hc (by intro k hz hk ht; first | omega | (dsimp only at *; omega))
      first | have hSw := hSw.ch hc (by intro k hk ht; first | omega | (dsimp only at *; omega)) | have hSw := hSw.chT hc (by intro k hz hk ht; first | omega | (dsimp only at *; omega))
      have hb9 := hb9.ch hc (by omega)
      have hV := hV.ch hc (by first | exact fun _ _ _ h => h | (intro k hk hF ht; have h2 : k < w.heap.size := hF.2; first | omega | (dsimp only at *; omega)))
      refine wl_nil ?_
      refine x_seq ?_
      refine wc_ret ?_
      refine fin_run (resC (cs := (([.slice A l c, .bool true] ++ ((List.map u8v u15) ++ (List.map u8v v15))) : List Value)) rfl rfl Tryd.underlying49 rfl (szL sz49 (by first | rfl | (simp only [List.length_append, List.length_map, List.length_cons, List.length_nil, (show List.length u15 = 32 from hu15), (show List.length v15 = 32 from hv15)]; done) | (simp only [List.length_append, List.length_map, List.length_cons, List.length_nil, List.size_toArray, (show List.length u15 = 32 from hu15), (show List.length v15 = 32 from hv15)]; done))) (rngL hb4)) ?_
      rw [List.take_of_length_le (by omega)] at hW
      exact ⟨A, l, c, _, _, _, rfl, hu15, hv15, hW.mono (fun k _ hk => by first | omega | (dsimp only at *; omega)), by rw [← hen15, show ok15 = true from by simpa using hokt], HC, Fil.ofO hV0.ot HC (fun t e => hV.lat t e), hV0.adsB, hV0.adsF⟩

set_option maxHeartbeats 1000000 in
set_option maxRecDepth 20000 in
theorem backs_any {w : World} {m yl gB : Nat} {J Jx : List Nat → World → Prop} {As : Option Addr} {ls cs : Nat} {Fs : Nat → Prop} {st : List Stp} (hX : ∀ xs A, J xs A → Blk A gB 47 #[.slice As ls cs] ∧ SI A Fs eST As ls cs st) (hls : ls ≤ 1000000) (hJ : ∀ xs A B, J xs A → Ch No A B → J xs B) (hJx : ∀ xs A B, Jx xs A → Ch No A B → Jx xs B) (hY : ∀ pre x Wq, (fun (pre : List Nat) (i : Nat) => pre.length + i + 1 = ls) pre x → J pre Wq → YieldAt Fence.wide m Tryd.prog yl ((fun i : Nat => #[i64 (i : Int), .agg (eST.f (st.getD i ⟨0, zeroH⟩)).toArray]) x) Wq fun ed W' => (ed = .returned (.bool true) ∧ J (pre ++ [x]) W') ∨ (ed = .returned (.bool false) ∧ Jx (pre ++ [x]) W')) (hJ0 : J [] w) :
    Calls Tryd.prog 103 #[.func (.yield yl) #[] #[], .pointer (some ⟨gB, 0, none⟩)] w fun e w' => e = .returned (.tuple #[]) ∧ ((∃ xs, xs.length = ls ∧ J xs w') ∨ ∃ xs, True ∧ Jx xs w') := by
  have hJp := hJ0
  obtain ⟨hBn, hst⟩ := hX _ _ hJ0
  have HC : Ch No w w := Ch.refl _ _
  refine enter' (args := [.func (.yield yl) #[] #[], .pointer (some ⟨gB, 0, none⟩)]) (n := 19) Tryd.func103 rfl rfl rfl ?_
  refine wc_seq ?_
  refine wc_region ?_
  refine wl rfl rfl rfl (p_ld Tryd.underlying47 rfl rfl (ld (hBn.cell rfl))) ?_
  refine wl rfl rfl rfl (p_lenS Tryd.underlying47 rfl) ?_
  refine wl rfl rfl rfl (p_sub rfl rfl (w64 (by omega))) ?_
  refine wl rfl rfl rfl (p_as rfl) ?_
  refine wl_nil ?_
  refine x_seq ?_
  refine wc_block ?_
  refine wc_loop (e' := [(0, .func (.yield yl) #[] #[]), (1, .pointer (some ⟨gB, 0, none⟩)), (3, i64 (((ls) : Int) - 1))]) (fun mz ez uz => ∃ j : Nat, ∃ pre : List Nat, mz = j ∧ ez = [(0, .func (.yield yl) #[] #[]), (1, .pointer (some ⟨gB, 0, none⟩)), (3, i64 ((j : Int) - 1))] ∧ (pre.length + j = ls) ∧ (J pre uz))
    ⟨rfl, rfl, rfl, trivial⟩ ⟨ls, [], rfl, rfl, by simp, hJp⟩ ?_
  rintro m0 e w1 ⟨j, pre, hm0, rfl, hj, hJp⟩
  obtain ⟨hBn, hst⟩ := hX _ _ hJp
  have hstl := hst.len
  refine wc_seq ?_
  refine wc_seq ?_
  refine wc_region ?_
  refine wl rfl rfl rfl (p_mv rfl) ?_
  refine wl rfl rfl rfl (p_ge rfl rfl) ?_
  refine wl_nil ?_
  refine x_seq ?_
  refine wc_if rfl (fun c0 => ?_) (fun c0 => ?_)
  ·
    have c0 := of_decide_eq_true c0
    obtain ⟨q, rfl⟩ : ∃ q, j = q + 1 := ⟨j - 1, by omega⟩
    refine wc_skip ?_
    refine x_seq ?_
    refine wc_seq ?_
    refine wc_block ?_
    refine wc_seq ?_
    refine wc_regionI (m + 1) ?_
    refine wli rfl rfl rfl (p_mv rfl) ?_
    refine wli rfl rfl rfl ((p_mv rfl).to (show Value.int .i64 _ = Value.int .i64 (q : Int) from by congr 1; omega)) ?_
    refine wli rfl rfl rfl (p_ld Tryd.underlying47 rfl rfl (ld (hBn.cell rfl))) ?_
    refine wli rfl rfl rfl ((p_mv rfl).to (show Value.int .i64 _ = Value.int .i64 (q : Int) from by congr 1; omega)) ?_
    obtain ⟨b2, o2, hA2, hF2, hr2⟩ := (hst).opn (i := q) (d := ⟨0, zeroH⟩) (by omega)
    have hok2 := (hst).okAt (i := q) (d := ⟨0, zeroH⟩) (by omega)
    obtain ⟨x2, ex2⟩ : ∃ x, x = List.getD st (q) ⟨0, zeroH⟩ := ⟨_, rfl⟩
    rw [← ex2] at hr2 hok2
    have hx2k : List.length x2.side = 32 := hok2
    have hr2 : w1.rangeAt b2 (o2 + q * 33) (([i64 x2.bit] ++ (List.map u8v x2.side)) : List Value) := hr2
    refine wli rfl rfl rfl (p_ixS (j := q * 33) Tryd.underlying47 sz126 rfl hA2 rfl (by omega) (by omega) (congrArg (· * 33) (Int.toNat_natCast _))) ?_
    refine wli rfl rfl rfl (p_ldA (cs := (([i64 x2.bit] ++ (List.map u8v x2.side)) : List Value)) Tryd.underlying126 rfl (szL sz126 (by first | rfl | (simp only [List.length_append, List.length_map, List.length_cons, List.length_nil, (show List.length x2.side = 32 from hx2k)]; done) | (simp only [List.length_append, List.length_map, List.length_cons, List.length_nil, List.size_toArray, (show List.length x2.side = 32 from hx2k)]; done))) rfl (fun _ e => e ▸ hr2)) ?_
    subst ex2
    have hD : pre.length + q + 1 = ls := by omega
    refine wli_yield (fun _ _ => rfl) rfl rfl rfl (hY pre q w1 hD hJp) (by repeat (first | exact no_body (fun _ h => by cases h.1) | with_reducible apply no_then | with_reducible apply no_in)) ?_
    rintro _ w3 (⟨rfl, hJp⟩ | ⟨rfl, hJq⟩)
    ·
      refine ⟨_, rfl, ?_⟩
      obtain ⟨hBn, hst⟩ := hX _ _ hJp
      refine wli rfl rfl rfl (p_not rfl) ?_
      refine wli_nil ?_
      refine x_seq ?_
      refine wc_no rfl (rfl) ?_
      refine wc_skip ?_
      refine x_in_normal ?_
      refine x_seq ?_
      refine wc_region ?_
      refine wl rfl rfl rfl (p_mv rfl) ?_
      refine wl rfl rfl rfl (p_sub (Z := (q : Int) - 1) rfl rfl (by rw [w64 (by omega)]; omega)) ?_
      refine wl rfl rfl rfl (p_as rfl) ?_
      refine wl_nil ?_
      refine x_round (e' := [(0, .func (.yield yl) #[] #[]), (1, .pointer (some ⟨gB, 0, none⟩)), (3, i64 (((q) : Int) - 1))]) ⟨rfl, rfl, rfl, trivial⟩ (by rw [hm0]; omega) ⟨q, (pre ++ [q]), rfl, rfl, (by simp; omega), hJp⟩
    ·
      refine ⟨_, rfl, ?_⟩
      refine wli rfl rfl rfl (p_not rfl) ?_
      refine wli_nil ?_
      refine x_seq ?_
      refine wc_yes rfl (rfl) ?_
      refine wc_ret ?_
      refine x_in_ret ?_
      refine x_then_ret ?_
      refine x_then_ret ?_
      refine x_in_ret ?_
      refine fin_run ((res0 rfl)) ?_
      exact ⟨rfl, .inr ⟨_, trivial, hJq⟩⟩
  ·
    have c0 := of_decide_eq_false c0
    refine wc_exit ?_
    refine x_then_exit ?_
    refine x_then_exit ?_
    refine x_in_here ?_
    refine fin_run_n ((res0 rfl)) ?_
    exact ⟨rfl, .inl ⟨pre, by omega, hJp⟩⟩

set_option maxHeartbeats 1000000 in
set_option maxRecDepth 20000 in
theorem back_any {w : World} {As : Option Addr} {ls cs : Nat}  :
    Calls Tryd.prog 75 #[.slice As ls cs] w fun e w' => ∃ g, e = .returned (.func (.func 103) #[] #[.pointer (some ⟨g, 0, none⟩)]) ∧ w.heap.size ≤ g ∧ Blk w' g 47 #[.slice As ls cs] ∧ Ch No w w' := by
  have HC : Ch No w w := Ch.refl _ _
  refine enter' (args := [.slice As ls cs]) (n := 4) Tryd.func75 rfl rfl rfl ?_
  refine wc_seq ?_
  refine wc_region ?_
  refine wle rfl (e_box (cs := #[_]) rfl rfl rfl (fun w1 g1 hg1 hb1 hc hsz1 => ?_))
  have hzw1 := hc.size
  have HC := HC.tr hc
  have hge1 : w.heap.size ≤ g1 := by have := HC.size; omega
  refine wl rfl rfl rfl (p_as rfl) ?_
  refine wl_nil ?_
  refine x_seq ?_
  refine wc_seq ?_
  refine wc_region ?_
  refine wl rfl rfl rfl (p_mkf rfl) ?_
  refine wl rfl rfl rfl (p_as rfl) ?_
  refine wl_nil ?_
  refine x_seq ?_
  refine wc_ret ?_
  refine fin_run ((res1 rfl rfl)) ?_
  exact ⟨g1, rfl, hge1, hb1, HC⟩

theorem bitIS {w : World} {k : List UInt8} {i : Int} (hk : k.length = 32) : Calls Tryd.prog 38 #[hv k, i64 i] w fun e w' => ∃ s : Nat, e = .returned (i64 (s : Int)) ∧ bitI k i = s ∧ s < 2 ∧ Ch No w w' :=
  (bit_any hk).mono fun e w' ⟨h1, h2⟩ => ⟨bitI k i, h1, rfl, bitI_lt _ _, h2⟩

set_option maxHeartbeats 1000000 in
set_option maxRecDepth 20000 in
theorem mclimb_any {w : World}  {k : List UInt8} {As : Option Addr} {ls cs : Nat} {Fs : Nat → Prop} {st : List Stp} {lf : Bool} {pk pv : List UInt8} (hk : k.length = 32) (hst : SI w Fs eST As ls cs st) (hpk : pk.length = 32) (hpv : pv.length = 32) (hls : ls ≤ 1000000) (hrnd : Sl w (fun k => k = 0) u32v (some ⟨0, 0, none⟩) 64 64 rk) :
    Calls Tryd.prog 30 #[hv k, .agg (([.slice As ls cs, .bool lf] ++ ((List.map u8v pk) ++ (List.map u8v pv))) : List Value).toArray] w fun e w' => ∃ (u : List UInt8) (ok : Bool), e = .returned (.tuple #[hv u, .bool ok]) ∧ u.length = 32 ∧ (u, ok) = ((climbP k st lf pk pv).getD zeroH, (climbP k st lf pk pv).isSome) ∧ Ch No w w' := by
  have hstl := hst.len
  have hn0 : 0 < w.heap.size := hrnd.size (by omega) rfl
  have hn1 := hn0
  have hst := hst.old
  have HC : Ch No w w := Ch.refl _ _
  refine enterM (args := [hv k, _]) (n := 59) Tryd.func30 rfl rfl rfl ?_
  refine wc_seq ?_
  refine wc_region ?_
  refine wle rfl (e_box (cs := (List.map u8v k).toArray) rfl rfl rfl (fun w1 g2 hg2 hb2 hc hsz2 => ?_))
  have hzw1 := hc.size
  have HC := HC.tr hc
  have hst := hst.no hc
  have hrnd := hrnd.no hc
  have hge2 : w.heap.size ≤ g2 := by have := HC.size; omega
  have hltg2 := hb2.lt
  refine wle rfl (e_box (cs := (([.slice As ls cs, .bool lf] ++ ((List.map u8v pk) ++ (List.map u8v pv))) : List Value).toArray) rfl rfl rfl (fun w2 g3 hg3 hb3 hc hsz3 => ?_))
  have hzw2 := hc.size
  have HC := HC.tr hc
  have hst := hst.no hc
  have hrnd := hrnd.no hc
  have hb2 := hb2.ch hc (fun h => h)
  have hge3 : w.heap.size ≤ g3 := by have := HC.size; omega
  have neg2_3 : g2 < g3 := by omega
  have hltg2 := hb2.lt
  have hltg3 := hb3.lt
  refine wle rfl (e_alloc (cs := ((List.replicate 32 (0 : UInt8)).map u8v).toArray) rfl (by rfl) rfl (fun w3 g4 hg4 hb4 hc hsz4 => ?_))
  have hzw3 := hc.size
  have HC := HC.tr hc
  have hst := hst.no hc
  have hrnd := hrnd.no hc
  have hb2 := hb2.ch hc (fun h => h)
  have hb3 := hb3.ch hc (fun h => h)
  have hge4 : w.heap.size ≤ g4 := by have := HC.size; omega
  have neg2_4 : g2 < g4 := by omega
  have neg3_4 : g3 < g4 := by omega
  have hltg2 := hb2.lt
  have hltg3 := hb3.lt
  have hltg4 := hb4.lt
  refine wle rfl (e_alloc (cs := #[.bool false]) rfl (by rfl) rfl (fun w4 g5 hg5 hb5 hc hsz5 => ?_))
  have hzw4 := hc.size
  have HC := HC.tr hc
  have hst := hst.no hc
  have hrnd := hrnd.no hc
  have hb2 := hb2.ch hc (fun h => h)
  have hb3 := hb3.ch hc (fun h => h)
  have hb4 := hb4.ch hc (fun h => h)
  have hge5 : w.heap.size ≤ g5 := by have := HC.size; omega
  have neg2_5 : g2 < g5 := by omega
  have neg3_5 : g3 < g5 := by omega
  have neg4_5 : g4 < g5 := by omega
  refine wl_nil ?_
  refine x_seq ?_
  refine wc_seq ?_
  refine wc_block ?_
  refine wc_seq ?_
  refine wc_region ?_
  refine wl rfl rfl rfl (p_ldA (cs := (([.slice As ls cs, .bool lf] ++ ((List.map u8v pk) ++ (List.map u8v pv))) : List Value)) Tryd.underlying49 rfl (szL sz49 (by first | rfl | (simp only [List.length_append, List.length_map, List.length_cons, List.length_nil, (show List.length pk = 32 from hpk), (show List.length pv = 32 from hpv)]; done) | (simp only [List.length_append, List.length_map, List.length_cons, List.length_nil, List.size_toArray, (show List.length pk = 32 from hpk), (show List.length pv = 32 from hpv)]; done))) rfl (fun _ e => e ▸ rngL hb3)) ?_
  refine wle rfl (e_call ent34 rfl rfl (mgood_any (hst) (hpk) (hpv) (by omega)) ?_)
  rintro _ w5 ⟨rfl, hc⟩
  refine ⟨_, rfl, ?_⟩
  have hzw5 := hc.size
  have HC := HC.tr hc
  have hst := hst.no hc
  have hrnd := hrnd.no hc
  have hb2 := hb2.ch hc (fun h => h)
  have hb3 := hb3.ch hc (fun h => h)
  have hb4 := hb4.ch hc (fun h => h)
  have hb5 := hb5.ch hc (fun h => h)
  refine wl rfl rfl rfl (p_not rfl) ?_
  refine wl rfl rfl rfl (p_as rfl) ?_
  refine wl_nil ?_
  refine x_seq ?_
  refine wc_if rfl (fun c0 => ?_) (fun c0 => ?_)
  ·
    refine wc_seq ?_
    refine wc_region ?_
    refine wl rfl rfl rfl (p_bldP (cs := ((List.replicate 32 (0 : UInt8)).map u8v).toArray) rfl (fun _ => by kernel_rfl)) ?_
    refine wle rfl (e_stW (vs := List.map u8v (List.replicate 32 (0 : UInt8))) (szL sz38 (by rw [List.length_map]; exact (List.length_replicate ..))) (oneL one_u8 _) rfl rfl hb4 (by simp only [List.size_toArray, List.length_map]; first | done | exact ((List.length_replicate ..)).trans ((List.length_replicate ..)).symm) (fun w6 hb4 hc hsz => ?_))
    have hzw6 := hc.size
    have HC := HC.trans hc (fun _ _ h => h) (fun k hk ht => absurd ht (by omega))
    first | have hst := hst.ch hc (by intro k hk ht; first | omega | (dsimp only at *; omega)) | have hst := hst.chT hc (by intro k hz hk ht; first | omega | (dsimp only at *; omega))
    first | have hrnd := hrnd.ch hc (by intro k hk ht; first | omega | (dsimp only at *; omega)) | have hrnd := hrnd.chT hc (by intro k hz hk ht; first | omega | (dsimp only at *; omega))
    have hb2 := hb2.ch hc (by omega)
    have hb3 := hb3.ch hc (by omega)
    have hb5 := hb5.ch hc (by omega)
    refine wle rfl (e_st1 (by rfl) rfl rfl rfl hb5 (fun w7 hb5 hc hsz => ?_))
    have hzw7 := hc.size
    have HC := HC.trans hc (fun _ _ h => h) (fun k hk ht => absurd ht (by omega))
    first | have hst := hst.ch hc (by intro k hk ht; first | omega | (dsimp only at *; omega)) | have hst := hst.chT hc (by intro k hz hk ht; first | omega | (dsimp only at *; omega))
    first | have hrnd := hrnd.ch hc (by intro k hk ht; first | omega | (dsimp only at *; omega)) | have hrnd := hrnd.chT hc (by intro k hz hk ht; first | omega | (dsimp only at *; omega))
    have hb2 := hb2.ch hc (by omega)
    have hb3 := hb3.ch hc (by omega)
    have hb4 := hb4.ch hc (by omega)
    refine wl_nil ?_
    refine x_seq ?_
    refine wc_ret ?_
    refine x_in_ret ?_
    refine x_then_ret ?_
    refine fin_runM0 (resMany (rs := [.cell 4 38, .cell 5 4]) rfl (.cellA (cs := List.map u8v (List.replicate 32 (0 : UInt8))) rfl Tryd.underlying38 rfl (szL sz38 (by rw [List.length_map]; exact (List.length_replicate ..))) (rngL hb4) (.cell1 rfl Tryd.underlying4 rfl (hb5.cell rfl) (.nil))) rfl) ?_
    exact ⟨_, _, rfl, List.length_replicate .., by rw [climbP, if_pos (by simpa using c0)]; rfl, HC⟩
  ·
    refine wc_seq ?_
    refine wc_region ?_
    refine wl rfl rfl rfl (p_fld (j := 1) Tryd.underlying49 rfl ⟨_, by rfl⟩ rfl rfl) ?_
    refine wl rfl rfl rfl (p_ld Tryd.underlying4 rfl rfl (ld (cell_at (p := ([.slice As ls cs] : List Value)) (v := (.bool lf : Value)) (r := (((List.map u8v pk) ++ (List.map u8v pv)) : List Value)) hb3 (by simp only [List.append_assoc, List.cons_append, List.nil_append, List.append_nil]) (by first | rfl | (simp only [List.length_append, List.length_map, List.length_cons, List.length_nil]; done) | (simp only [List.length_append, List.length_map, List.length_cons, List.length_nil, List.size_toArray]; done))))) ?_
    refine wl rfl rfl rfl (p_not rfl) ?_
    refine wl rfl rfl rfl (p_as rfl) ?_
    refine wl_nil ?_
    refine x_seq ?_
    refine wc_if rfl (fun c1 => ?_) (fun c1 => ?_)
    ·
      refine wc_seq ?_
      refine wc_region ?_
      refine wle rfl (e_call ent73 rfl rfl (tnone_any hrnd) ?_)
      rintro _ w8 ⟨rfl, hc⟩
      refine ⟨_, rfl, ?_⟩
      have hzw8 := hc.size
      have HC := HC.tr hc
      have hst := hst.no hc
      have hrnd := hrnd.no hc
      have hb2 := hb2.ch hc (fun h => h)
      have hb3 := hb3.ch hc (fun h => h)
      have hb4 := hb4.ch hc (fun h => h)
      have hb5 := hb5.ch hc (fun h => h)
      refine wle rfl (e_stW (vs := List.map u8v noneH) (szL sz38 (by rw [List.length_map]; exact noneH_len)) (oneL one_u8 _) rfl rfl hb4 (by simp only [List.size_toArray, List.length_map]; first | done | exact ((List.length_replicate ..)).trans (noneH_len).symm) (fun w9 hb4 hc hsz => ?_))
      have hzw9 := hc.size
      have HC := HC.trans hc (fun _ _ h => h) (fun k hk ht => absurd ht (by omega))
      first | have hst := hst.ch hc (by intro k hk ht; first | omega | (dsimp only at *; omega)) | have hst := hst.chT hc (by intro k hz hk ht; first | omega | (dsimp only at *; omega))
      first | have hrnd := hrnd.ch hc (by intro k hk ht; first | omega | (dsimp only at *; omega)) | have hrnd := hrnd.chT hc (by intro k hz hk ht; first | omega | (dsimp only at *; omega))
      have hb2 := hb2.ch hc (by omega)
      have hb3 := hb3.ch hc (by omega)
      have hb5 := hb5.ch hc (by omega)
      refine wle rfl (e_st1 (by rfl) rfl rfl rfl hb5 (fun w10 hb5 hc hsz => ?_))
      have hzw10 := hc.size
      have HC := HC.trans hc (fun _ _ h => h) (fun k hk ht => absurd ht (by omega))
      first | have hst := hst.ch hc (by intro k hk ht; first | omega | (dsimp only at *; omega)) | have hst := hst.chT hc (by intro k hz hk ht; first | omega | (dsimp only at *; omega))
      first | have hrnd := hrnd.ch hc (by intro k hk ht; first | omega | (dsimp only at *; omega)) | have hrnd := hrnd.chT hc (by intro k hz hk ht; first | omega | (dsimp only at *; omega))
      have hb2 := hb2.ch hc (by omega)
      have hb3 := hb3.ch hc (by omega)
      have hb4 := hb4.ch hc (by omega)
      refine wl_nil ?_
      refine x_seq ?_
      refine wc_ret ?_
      refine x_in_ret ?_
      refine x_then_ret ?_
      refine fin_runM0 (resMany (rs := [.cell 4 38, .cell 5 4]) rfl (.cellA (cs := List.map u8v noneH) rfl Tryd.underlying38 rfl (szL sz38 (by rw [List.length_map]; exact noneH_len)) (rngL hb4) (.cell1 rfl Tryd.underlying4 rfl (hb5.cell rfl) (.nil))) rfl) ?_
      exact ⟨_, _, rfl, noneH_len, by rw [climbP, if_neg (by simpa using c0), if_pos (by simpa using c1)]; rfl, HC⟩
    ·
      refine wc_skip ?_
      refine x_in_normal ?_
      refine x_seq ?_
      refine wc_seq ?_
      refine wc_region ?_
      refine wl rfl rfl rfl (p_fld (j := 2) Tryd.underlying49 rfl ⟨_, by rfl⟩ rfl rfl) ?_
      refine wl rfl rfl rfl (p_ldA (cs := (List.map u8v pk)) Tryd.underlying38 rfl (szL sz38 (by first | rfl | (simp only [List.length_append, List.length_map, List.length_cons, List.length_nil, (show List.length pk = 32 from hpk)]; done) | (simp only [List.length_append, List.length_map, List.length_cons, List.length_nil, List.size_toArray, (show List.length pk = 32 from hpk)]; done))) rfl (fun _ e => e ▸ rng_at (p := ([.slice As ls cs, .bool lf] : List Value)) (q := ((List.map u8v pk) : List Value)) (r := ((List.map u8v pv) : List Value)) hb3 (by simp only [List.append_assoc, List.cons_append, List.nil_append, List.append_nil]) (by first | rfl | (simp only [List.length_append, List.length_map, List.length_cons, List.length_nil]; done) | (simp only [List.length_append, List.length_map, List.length_cons, List.length_nil, List.size_toArray]; done)))) ?_
      refine wl rfl rfl rfl (p_fld (j := 34) Tryd.underlying49 rfl ⟨_, by rfl⟩ rfl rfl) ?_
      refine wl rfl rfl rfl (p_ldA (cs := (List.map u8v pv)) Tryd.underlying38 rfl (szL sz38 (by first | rfl | (simp only [List.length_append, List.length_map, List.length_cons, List.length_nil, (show List.length pv = 32 from hpv)]; done) | (simp only [List.length_append, List.length_map, List.length_cons, List.length_nil, List.size_toArray, (show List.length pv = 32 from hpv)]; done))) rfl (fun _ e => e ▸ rng_at (p := (([.slice As ls cs, .bool lf] ++ (List.map u8v pk)) : List Value)) (q := ((List.map u8v pv) : List Value)) (r := []) hb3 (by simp only [List.append_assoc, List.cons_append, List.nil_append, List.append_nil]) (by first | rfl | (simp only [List.length_append, List.length_map, List.length_cons, List.length_nil, (show List.length pk = 32 from hpk)]; done) | (simp only [List.length_append, List.length_map, List.length_cons, List.length_nil, List.size_toArray, (show List.length pk = 32 from hpk)]; done)))) ?_
      refine wle rfl (e_call ent74 rfl rfl (titem_any (hpk) (hpv) hrnd) ?_)
      rintro _ w11 ⟨rfl, hc⟩
      refine ⟨_, rfl, ?_⟩
      have hzw11 := hc.size
      have HC := HC.tr hc
      have hst := hst.no hc
      have hrnd := hrnd.no hc
      have hb2 := hb2.ch hc (fun h => h)
      have hb3 := hb3.ch hc (fun h => h)
      have hb4 := hb4.ch hc (fun h => h)
      have hb5 := hb5.ch hc (fun h => h)
      have hltg2 := hb2.lt
      have hltg3 := hb3.lt
      have hltg4 := hb4.lt
      have hltg5 := hb5.lt
      refine wle rfl (e_alloc (cs := ((List.replicate 32 (0 : UInt8)).map u8v).toArray) rfl (by rfl) rfl (fun w12 g6 hg6 hb6 hc hsz6 => ?_))
      have hzw12 := hc.size
      have HC := HC.tr hc
      have hst := hst.no hc
      have hrnd := hrnd.no hc
      have hb2 := hb2.ch hc (fun h => h)
      have hb3 := hb3.ch hc (fun h => h)
      have hb4 := hb4.ch hc (fun h => h)
      have hb5 := hb5.ch hc (fun h => h)
      have hge6 : w.heap.size ≤ g6 := by have := HC.size; omega
      have neg2_6 : g2 < g6 := by omega
      have neg3_6 : g3 < g6 := by omega
      have neg4_6 : g4 < g6 := by omega
      have neg5_6 : g5 < g6 := by omega
      refine wle rfl (e_stW (vs := List.map u8v (itemH pk pv)) (szL sz38 (by rw [List.length_map]; exact (itemH_len _ _ ))) (oneL one_u8 _) rfl rfl hb6 (by simp only [List.size_toArray, List.length_map]; first | done | exact ((List.length_replicate ..)).trans ((itemH_len _ _ )).symm) (fun w13 hb6 hc hsz => ?_))
      have hzw13 := hc.size
      have HC := HC.trans hc (fun _ _ h => h) (fun k hk ht => absurd ht (by omega))
      first | have hst := hst.ch hc (by intro k hk ht; first | omega | (dsimp only at *; omega)) | have hst := hst.chT hc (by intro k hz hk ht; first | omega | (dsimp only at *; omega))
      first | have hrnd := hrnd.ch hc (by intro k hk ht; first | omega | (dsimp only at *; omega)) | have hrnd := hrnd.chT hc (by intro k hz hk ht; first | omega | (dsimp only at *; omega))
      have hb2 := hb2.ch hc (by omega)
      have hb3 := hb3.ch hc (by omega)
      have hb4 := hb4.ch hc (by omega)
      have hb5 := hb5.ch hc (by omega)
      refine wl_nil ?_
      refine x_seq ?_
      refine wc_seq ?_
      refine wc_seq ?_
      refine wc_region ?_
      refine wl rfl rfl rfl (p_fld (j := 0) Tryd.underlying49 rfl ⟨_, by rfl⟩ rfl rfl) ?_
      refine wl rfl rfl rfl (p_ld Tryd.underlying47 rfl rfl (ld (cell_at (p := []) (v := (.slice As ls cs : Value)) (r := (([.bool lf] ++ ((List.map u8v pk) ++ (List.map u8v pv))) : List Value)) hb3 (by simp only [List.append_assoc, List.cons_append, List.nil_append, List.append_nil]) (by first | rfl | (simp only [List.length_append, List.length_map, List.length_cons, List.length_nil]; done) | (simp only [List.length_append, List.length_map, List.length_cons, List.length_nil, List.size_toArray]; done))))) ?_
      refine wle rfl (e_call ent75 rfl rfl (back_any) ?_)
      rintro _ w14 ⟨g28, rfl, hgB28, hBn, hc⟩
      refine ⟨_, rfl, ?_⟩
      have hzw14 := hc.size
      have HC := HC.tr hc
      have hst := hst.no hc
      have hrnd := hrnd.no hc
      have hb2 := hb2.ch hc (fun h => h)
      have hb3 := hb3.ch hc (fun h => h)
      have hb4 := hb4.ch hc (fun h => h)
      have hb5 := hb5.ch hc (fun h => h)
      have hb6 := hb6.ch hc (fun h => h)
      refine wl_nil ?_
      refine x_seq ?_
      refine wc_block ?_
      have hltg2 := hb2.lt
      have hltg3 := hb3.lt
      have hltg4 := hb4.lt
      have hltg5 := hb5.lt
      have hltg6 := hb6.lt
      have hltg28 := hBn.lt
      have hz0 := HC.size
      refine wc_rangeS (m := 0) rfl (enters_of Tryd.func103 (by kernel_rfl) rfl) (fun i : Nat => #[i64 (i : Int), .agg (eST.f (st.getD i ⟨0, zeroH⟩)).toArray]) (fun _ => rfl) (fun (pre : List Nat) (i : Nat) => pre.length + i + 1 = ls) (fun xs => xs.length = ls) (fun _ => True) (fun W => Blk W g28 47 #[.slice As ls cs] ∧ SI W (fun k => k < w.heap.size) eST As ls cs st) ?hseq (fun xs W => ∃ h : List UInt8, (h.length = 32) ∧ (climbS k pk (itemH pk pv) (st.drop (ls - xs.length)) = some h) ∧ (xs.length ≤ ls) ∧ (Blk W g2 38 (List.map u8v k).toArray) ∧ (Blk W g3 49 (([.slice As ls cs, .bool lf] ++ ((List.map u8v pk) ++ (List.map u8v pv))) : List Value).toArray) ∧ (Blk W g4 38 (List.map u8v (List.replicate 32 (0 : UInt8))).toArray) ∧ (Blk W g5 4 #[.bool false]) ∧ (Blk W g6 38 (List.map u8v h).toArray) ∧ (Blk W g28 47 #[.slice As ls cs]) ∧ (SI W (fun k => k < w.heap.size) eST As ls cs st) ∧ (Sl W (fun k => k = 0) u32v (some ⟨0, 0, none⟩) 64 64 rk) ∧ (Ch No w W)) (fun c xs W => c = Code.ret ∧ (climbS k pk (itemH pk pv) st = none) ∧ (Blk W g4 38 (List.map u8v (List.replicate 32 (0 : UInt8))).toArray) ∧ (Blk W g5 4 #[.bool false]) ∧ (Ch No w W)) ?hI ?hIx ?hIl ?hIxl ?hXI ?h0 ?hround ?hdone ?hstop
      case hseq =>
        intro l J Jx W hcW hsW hJ hJx hXJ hY hJ0
        exact (backs_any (fun xs A h => hXJ xs A h) hls hJ hJx hY hJ0).mono (fun e w' h => ⟨⟨_, h.1⟩, h.2⟩)
      case hI =>
        rintro xs A B ⟨h, hh, hcl, hxl, hb2, hb3, hb4, hb5, hb6, hBn, hst, hrnd, HC⟩ hc
        have hzB := hc.size
        have HC := HC.tr hc
        have hb2 := hb2.ch hc (fun h => h)
        have hb3 := hb3.ch hc (fun h => h)
        have hb4 := hb4.ch hc (fun h => h)
        have hb5 := hb5.ch hc (fun h => h)
        have hb6 := hb6.ch hc (fun h => h)
        have hBn := hBn.ch hc (fun h => h)
        have hst := hst.no hc
        have hrnd := hrnd.no hc
        exact ⟨h, hh, hcl, hxl, hb2, hb3, hb4, hb5, hb6, hBn, hst, hrnd, HC⟩
      case hIx =>
        rintro c xs A B ⟨hcx, hno, hb4, hb5, HC⟩ hc
        have hzB := hc.size
        have HC := HC.tr hc
        have hb4 := hb4.ch hc (fun h => h)
        have hb5 := hb5.ch hc (fun h => h)
        exact ⟨hcx, hno, hb4, hb5, HC⟩
      case hIl =>
        rintro xs A B ⟨h, hh, hcl, hxl, hb2, hb3, hb4, hb5, hb6, hBn, hst, hrnd, HC⟩ hc
        have hzB := hc.size
        have HC := HC.trans hc (fun _ _ h => h) (fun k hk ht => absurd ht (by omega))
        have hb2 := hb2.ch hc (by omega)
        have hb3 := hb3.ch hc (by omega)
        have hb4 := hb4.ch hc (by omega)
        have hb5 := hb5.ch hc (by omega)
        have hb6 := hb6.ch hc (by omega)
        have hBn := hBn.ch hc (by omega)
        first | have hst := hst.ch hc (by intro k hk ht; first | omega | (dsimp only at *; omega)) | have hst := hst.chT hc (by intro k hz hk ht; first | omega | (dsimp only at *; omega))
        first | have hrnd := hrnd.ch hc (by intro k hk ht; first | omega | (dsimp only at *; omega)) | have hrnd := hrnd.chT hc (by intro k hz hk ht; first | omega | (dsimp only at *; omega))
        exact ⟨h, hh, hcl, hxl, hb2, hb3, hb4, hb5, hb6, hBn, hst, hrnd, HC⟩
      case hIxl =>
        rintro c xs A B ⟨hcx, hno, hb4, hb5, HC⟩ hc
        have hzB := hc.size
        have HC := HC.trans hc (fun _ _ h => h) (fun k hk ht => absurd ht (by omega))
        have hb4 := hb4.ch hc (by omega)
        have hb5 := hb5.ch hc (by omega)
        exact ⟨hcx, hno, hb4, hb5, HC⟩
      case hXI =>
        rintro xs W ⟨h, hh, hcl, hxl, hb2, hb3, hb4, hb5, hb6, hBn, hst, hrnd, HC⟩
        exact ⟨hBn, hst⟩
      case h0 =>
        intro W hc hs
        have hzW := hc.size
        have HC := HC.tr hc
        have hb2 := hb2.ch hc (fun h => h)
        have hb3 := hb3.ch hc (fun h => h)
        have hb4 := hb4.ch hc (fun h => h)
        have hb5 := hb5.ch hc (fun h => h)
        have hb6 := hb6.ch hc (fun h => h)
        have hBn := hBn.ch hc (fun h => h)
        have hst := hst.no hc
        have hrnd := hrnd.no hc
        exact ⟨_, (itemH_len _ _), (by rw [List.length_nil, Nat.sub_zero, List.drop_of_length_le (by omega)]; rfl), (by simp), hb2, hb3, hb4, hb5, hb6, hBn, hst, hrnd, HC⟩
      case hround =>
        intro l pre x W hl hD hsz hI a F
        subst hl
        obtain ⟨h, hh, hcl, hxl, hb2, hb3, hb4, hb5, hb6, hBn, hst, hrnd, HC⟩ := hI
        have hzW := HC.size
        have hD : pre.length + x + 1 = ls := hD
        obtain ⟨y, hy⟩ : ∃ y, y = st.getD x ⟨0, zeroH⟩ := ⟨_, rfl⟩
        rw [← hy]
        have hyk : y.side.length = 32 := by rw [hy]; exact hst.okAt (by omega)
        have hdr : st.drop x = y :: st.drop (x + 1) := by rw [hy]; exact getD_drop (by omega)
        refine (?_ : WCi _ _ _ _ _ _ _ _) _ (F.hand2 rfl rfl)
        have hB : Ch (fun k => k ≠ w14.heap.size + 1 ∧ k ≠ w14.heap.size) W W := Ch.refl _ _
        refine wci_region ?_
        have hltg2 := hb2.lt
        have hltg3 := hb3.lt
        have hltg4 := hb4.lt
        have hltg5 := hb5.lt
        have hltg6 := hb6.lt
        have hltg28 := hBn.lt
        refine wlie rfl (by repeat (first | with_reducible exact no_stop | with_reducible exact no_false | with_reducible apply no_then | with_reducible apply no_in)) (e_alloc (cs := (([Value.int .i64 0] ++ (List.map u8v (List.replicate 32 (0 : UInt8)))) : List Value).toArray) rfl (by rfl) rfl (fun w15 g8 hg8 hb8 hc hsz8 => ?_))
        have hzw15 := hc.size
        have HC := HC.tr hc
        have hB := hB.tr hc
        have hb2 := hb2.ch hc (fun h => h)
        have hb3 := hb3.ch hc (fun h => h)
        have hb4 := hb4.ch hc (fun h => h)
        have hb5 := hb5.ch hc (fun h => h)
        have hb6 := hb6.ch hc (fun h => h)
        have hBn := hBn.ch hc (fun h => h)
        have hst := hst.no hc
        have hrnd := hrnd.no hc
        have hge8 : w.heap.size ≤ g8 := by have := HC.size; omega
        have neg2_8 : g2 < g8 := by omega
        have neg3_8 : g3 < g8 := by omega
        have neg4_8 : g4 < g8 := by omega
        have neg5_8 : g5 < g8 := by omega
        have neg6_8 : g6 < g8 := by omega
        have neg28_8 : g28 < g8 := by omega
        refine wlie rfl (by repeat (first | with_reducible exact no_stop | with_reducible exact no_false | with_reducible apply no_then | with_reducible apply no_in)) (e_stW (vs := (([i64 y.bit] ++ (List.map u8v y.side)) : List Value)) (szL sz126 (by first | rfl | (simp only [List.length_append, List.length_map, List.length_cons, List.length_nil, (show List.length y.side = 32 from hyk)]; done) | (simp only [List.length_append, List.length_map, List.length_cons, List.length_nil, List.size_toArray, (show List.length y.side = 32 from hyk)]; done))) (oneA (allOne rfl) (oneL one_u8 _)) rfl rfl hb8 (by first | rfl | (simp only [List.length_append, List.length_map, List.length_cons, List.length_nil, (show List.length (List.replicate 32 (0 : UInt8)) = 32 from (List.length_replicate ..)), (show List.length y.side = 32 from hyk)]; done) | (simp only [List.length_append, List.length_map, List.length_cons, List.length_nil, List.size_toArray, (show List.length (List.replicate 32 (0 : UInt8)) = 32 from (List.length_replicate ..)), (show List.length y.side = 32 from hyk)]; done)) (fun w16 hb8 hc hsz => ?_))
        have hzw16 := hc.size
        have HC := HC.trans hc (fun _ _ h => h) (fun k hk ht => absurd ht (by omega))
        have hB := hB.trans hc (fun _ _ h => h) (fun k hk ht => by first | omega | (dsimp only at *; omega))
        have hb2 := hb2.ch hc (by omega)
        have hb3 := hb3.ch hc (by omega)
        have hb4 := hb4.ch hc (by omega)
        have hb5 := hb5.ch hc (by omega)
        have hb6 := hb6.ch hc (by omega)
        have hBn := hBn.ch hc (by omega)
        first | have hst := hst.ch hc (by intro k hk ht; first | omega | (dsimp only at *; omega)) | have hst := hst.chT hc (by intro k hz hk ht; first | omega | (dsimp only at *; omega))
        first | have hrnd := hrnd.ch hc (by intro k hk ht; first | omega | (dsimp only at *; omega)) | have hrnd := hrnd.chT hc (by intro k hz hk ht; first | omega | (dsimp only at *; omega))
        refine wli_nil ?_
        refine xi_asg hB (fun W2 hc hsW => ?_)
        have hzW2 := hc.size
        have HC := HC.trans hc (fun _ _ h => h) (fun k hk ht => absurd ht (by omega))
        have hb2 := hb2.ch hc (by omega)
        have hb3 := hb3.ch hc (by omega)
        have hb4 := hb4.ch hc (by omega)
        have hb5 := hb5.ch hc (by omega)
        have hb6 := hb6.ch hc (by omega)
        have hBn := hBn.ch hc (by omega)
        first | have hst := hst.ch hc (by intro k hk ht; first | omega | (dsimp only at *; omega)) | have hst := hst.chT hc (by intro k hz hk ht; first | omega | (dsimp only at *; omega))
        first | have hrnd := hrnd.ch hc (by intro k hk ht; first | omega | (dsimp only at *; omega)) | have hrnd := hrnd.chT hc (by intro k hz hk ht; first | omega | (dsimp only at *; omega))
        have hb8 := hb8.ch hc (by omega)
        have hB : Ch (fun k => k ≠ w14.heap.size + 1 ∧ k ≠ w14.heap.size) W2 W2 := Ch.refl _ _
        refine wci_block ?_
        refine wci_seq ?_
        refine wci_region ?_
        refine wli rfl rfl rfl (p_ldA (cs := List.map u8v k) Tryd.underlying38 rfl (szL sz38 (by rw [List.length_map]; exact hk)) rfl (fun _ e => e ▸ rngL hb2)) ?_
        refine wli rfl rfl rfl (p_fld (j := 0) Tryd.underlying126 rfl ⟨_, by rfl⟩ rfl rfl) ?_
        refine wli rfl rfl rfl (p_ld Tryd.underlying3 rfl rfl (ld (cell_at (p := []) (v := (i64 y.bit : Value)) (r := ((List.map u8v y.side) : List Value)) hb8 (by simp only [List.append_assoc, List.cons_append, List.nil_append, List.append_nil]) (by first | rfl | (simp only [List.length_append, List.length_map, List.length_cons, List.length_nil]; done) | (simp only [List.length_append, List.length_map, List.length_cons, List.length_nil, List.size_toArray]; done))))) ?_
        refine wlie rfl (by repeat (first | with_reducible exact no_stop | with_reducible exact no_false | with_reducible apply no_then | with_reducible apply no_in)) (e_call ent38 rfl rfl (bitIS (i := y.bit) (hk)) ?_)
        rintro _ w17 ⟨s34, rfl, hs34, hsl34, hc⟩
        refine ⟨_, rfl, ?_⟩
        have hzw17 := hc.size
        have HC := HC.tr hc
        have hB := hB.tr hc
        have hb2 := hb2.ch hc (fun h => h)
        have hb3 := hb3.ch hc (fun h => h)
        have hb4 := hb4.ch hc (fun h => h)
        have hb5 := hb5.ch hc (fun h => h)
        have hb6 := hb6.ch hc (fun h => h)
        have hBn := hBn.ch hc (fun h => h)
        have hst := hst.no hc
        have hrnd := hrnd.no hc
        have hb8 := hb8.ch hc (fun h => h)
        refine wli rfl rfl rfl (p_as rfl) ?_
        refine wli_nil ?_
        refine xi_seq ?_
        refine wci_seq ?_
        refine wci_seq ?_
        refine wci_region ?_
        refine wli rfl rfl rfl (p_fld (j := 2) Tryd.underlying49 rfl ⟨_, by rfl⟩ rfl rfl) ?_
        refine wli rfl rfl rfl (p_ldA (cs := (List.map u8v pk)) Tryd.underlying38 rfl (szL sz38 (by first | rfl | (simp only [List.length_append, List.length_map, List.length_cons, List.length_nil, (show List.length pk = 32 from hpk)]; done) | (simp only [List.length_append, List.length_map, List.length_cons, List.length_nil, List.size_toArray, (show List.length pk = 32 from hpk)]; done))) rfl (fun _ e => e ▸ rng_at (p := ([.slice As ls cs, .bool lf] : List Value)) (q := ((List.map u8v pk) : List Value)) (r := ((List.map u8v pv) : List Value)) hb3 (by simp only [List.append_assoc, List.cons_append, List.nil_append, List.append_nil]) (by first | rfl | (simp only [List.length_append, List.length_map, List.length_cons, List.length_nil]; done) | (simp only [List.length_append, List.length_map, List.length_cons, List.length_nil, List.size_toArray]; done)))) ?_
        refine wli rfl rfl rfl (p_fld (j := 0) Tryd.underlying126 rfl ⟨_, by rfl⟩ rfl rfl) ?_
        refine wli rfl rfl rfl (p_ld Tryd.underlying3 rfl rfl (ld (cell_at (p := []) (v := (i64 y.bit : Value)) (r := ((List.map u8v y.side) : List Value)) hb8 (by simp only [List.append_assoc, List.cons_append, List.nil_append, List.append_nil]) (by first | rfl | (simp only [List.length_append, List.length_map, List.length_cons, List.length_nil]; done) | (simp only [List.length_append, List.length_map, List.length_cons, List.length_nil, List.size_toArray]; done))))) ?_
        refine wlie rfl (by repeat (first | with_reducible exact no_stop | with_reducible exact no_false | with_reducible apply no_then | with_reducible apply no_in)) (e_call ent38 rfl rfl (bitIS (i := y.bit) (hpk)) ?_)
        rintro _ w18 ⟨s39, rfl, hs39, hsl39, hc⟩
        refine ⟨_, rfl, ?_⟩
        have hzw18 := hc.size
        have HC := HC.tr hc
        have hB := hB.tr hc
        have hb2 := hb2.ch hc (fun h => h)
        have hb3 := hb3.ch hc (fun h => h)
        have hb4 := hb4.ch hc (fun h => h)
        have hb5 := hb5.ch hc (fun h => h)
        have hb6 := hb6.ch hc (fun h => h)
        have hBn := hBn.ch hc (fun h => h)
        have hst := hst.no hc
        have hrnd := hrnd.no hc
        have hb8 := hb8.ch hc (fun h => h)
        refine wli rfl rfl rfl (p_mv rfl) ?_
        refine wli rfl rfl rfl (p_ne rfl rfl) ?_
        refine wli_nil ?_
        refine xi_seq ?_
        refine wci_if rfl (fun c2 => ?_) (fun c2 => ?_)
        ·
          have c2 := of_decide_eq_true c2
          refine wci_seq ?_
          refine wci_region ?_
          refine wli rfl rfl rfl (p_bldP (cs := ((List.replicate 32 (0 : UInt8)).map u8v).toArray) rfl (fun _ => by kernel_rfl)) ?_
          refine wlie rfl (by repeat (first | with_reducible exact no_stop | with_reducible exact no_false | with_reducible apply no_then | with_reducible apply no_in)) (e_stW (vs := List.map u8v (List.replicate 32 (0 : UInt8))) (szL sz38 (by rw [List.length_map]; exact (List.length_replicate ..))) (oneL one_u8 _) rfl rfl hb4 (by simp only [List.size_toArray, List.length_map]; first | done | exact ((List.length_replicate ..)).trans ((List.length_replicate ..)).symm) (fun w19 hb4 hc hsz => ?_))
          have hzw19 := hc.size
          have HC := HC.trans hc (fun _ _ h => h) (fun k hk ht => absurd ht (by omega))
          have hB := hB.trans hc (fun _ _ h => h) (fun k hk ht => by first | omega | (dsimp only at *; omega))
          have hb2 := hb2.ch hc (by omega)
          have hb3 := hb3.ch hc (by omega)
          have hb5 := hb5.ch hc (by omega)
          have hb6 := hb6.ch hc (by omega)
          have hBn := hBn.ch hc (by omega)
          first | have hst := hst.ch hc (by intro k hk ht; first | omega | (dsimp only at *; omega)) | have hst := hst.chT hc (by intro k hz hk ht; first | omega | (dsimp only at *; omega))
          first | have hrnd := hrnd.ch hc (by intro k hk ht; first | omega | (dsimp only at *; omega)) | have hrnd := hrnd.chT hc (by intro k hz hk ht; first | omega | (dsimp only at *; omega))
          have hb8 := hb8.ch hc (by omega)
          refine wlie rfl (by repeat (first | with_reducible exact no_stop | with_reducible exact no_false | with_reducible apply no_then | with_reducible apply no_in)) (e_st1 (by rfl) rfl rfl rfl hb5 (fun w20 hb5 hc hsz => ?_))
          have hzw20 := hc.size
          have HC := HC.trans hc (fun _ _ h => h) (fun k hk ht => absurd ht (by omega))
          have hB := hB.trans hc (fun _ _ h => h) (fun k hk ht => by first | omega | (dsimp only at *; omega))
          have hb2 := hb2.ch hc (by omega)
          have hb3 := hb3.ch hc (by omega)
          have hb4 := hb4.ch hc (by omega)
          have hb6 := hb6.ch hc (by omega)
          have hBn := hBn.ch hc (by omega)
          first | have hst := hst.ch hc (by intro k hk ht; first | omega | (dsimp only at *; omega)) | have hst := hst.chT hc (by intro k hz hk ht; first | omega | (dsimp only at *; omega))
          first | have hrnd := hrnd.ch hc (by intro k hk ht; first | omega | (dsimp only at *; omega)) | have hrnd := hrnd.chT hc (by intro k hz hk ht; first | omega | (dsimp only at *; omega))
          have hb8 := hb8.ch hc (by omega)
          refine wli_nil ?_
          refine xi_seq ?_
          refine wci_ret ?_
          refine x_then_ret ?_
          refine x_in_ret ?_
          exact wq_stop_ret ⟨rfl, (climb_no hdr (by omega) hcl (by omega)), hb4, hb5, HC⟩ hB
        ·
          have c2 := of_decide_eq_false c2
          refine wci_skip ?_
          refine xi_seq ?_
          refine wci_seq ?_
          refine wci_region ?_
          refine wli rfl rfl rfl (p_fld (j := 1) Tryd.underlying126 rfl ⟨_, by rfl⟩ rfl rfl) ?_
          refine wli rfl rfl rfl (p_ldA (cs := (List.map u8v y.side)) Tryd.underlying38 rfl (szL sz38 (by first | rfl | (simp only [List.length_append, List.length_map, List.length_cons, List.length_nil, (show List.length y.side = 32 from hyk)]; done) | (simp only [List.length_append, List.length_map, List.length_cons, List.length_nil, List.size_toArray, (show List.length y.side = 32 from hyk)]; done))) rfl (fun _ e => e ▸ rng_at (p := ([i64 y.bit] : List Value)) (q := ((List.map u8v y.side) : List Value)) (r := []) hb8 (by simp only [List.append_assoc, List.cons_append, List.nil_append, List.append_nil]) (by first | rfl | (simp only [List.length_append, List.length_map, List.length_cons, List.length_nil]; done) | (simp only [List.length_append, List.length_map, List.length_cons, List.length_nil, List.size_toArray]; done)))) ?_
          refine wli rfl rfl rfl (p_fld (j := 1) Tryd.underlying126 rfl ⟨_, by rfl⟩ rfl rfl) ?_
          refine wli rfl rfl rfl (p_ldA (cs := (List.map u8v y.side)) Tryd.underlying38 rfl (szL sz38 (by first | rfl | (simp only [List.length_append, List.length_map, List.length_cons, List.length_nil, (show List.length y.side = 32 from hyk)]; done) | (simp only [List.length_append, List.length_map, List.length_cons, List.length_nil, List.size_toArray, (show List.length y.side = 32 from hyk)]; done))) rfl (fun _ e => e ▸ rng_at (p := ([i64 y.bit] : List Value)) (q := ((List.map u8v y.side) : List Value)) (r := []) hb8 (by simp only [List.append_assoc, List.cons_append, List.nil_append, List.append_nil]) (by first | rfl | (simp only [List.length_append, List.length_map, List.length_cons, List.length_nil]; done) | (simp only [List.length_append, List.length_map, List.length_cons, List.length_nil, List.size_toArray]; done)))) ?_
          refine wli rfl rfl rfl (p_bldX (vs' := [(.agg ((hx y.side) : List Value).toArray), (.agg ((hx y.side) : List Value).toArray)]) (cs := (((List.map u8v y.side) ++ (List.map u8v y.side)) : List Value)) (cs' := (((hx y.side) ++ (hx y.side)) : List Value)) rfl (by simp only [hv, map_hx hyk] <;> rfl) (by simp only [hv, map_hx hyk] <;> rfl) (fun _ => by kernel_rfl)) ?_
          have hltg2 := hb2.lt
          have hltg3 := hb3.lt
          have hltg4 := hb4.lt
          have hltg5 := hb5.lt
          have hltg6 := hb6.lt
          have hltg28 := hBn.lt
          have hltg8 := hb8.lt
          refine wlie rfl (by repeat (first | with_reducible exact no_stop | with_reducible exact no_false | with_reducible apply no_then | with_reducible apply no_in)) (e_alloc (cs := (((List.map u8v (List.replicate 32 (0 : UInt8))) ++ (List.map u8v (List.replicate 32 (0 : UInt8)))) : List Value).toArray) rfl (by rfl) rfl (fun w21 g10 hg10 hb10 hc hsz10 => ?_))
          have hzw21 := hc.size
          have HC := HC.tr hc
          have hB := hB.tr hc
          have hb2 := hb2.ch hc (fun h => h)
          have hb3 := hb3.ch hc (fun h => h)
          have hb4 := hb4.ch hc (fun h => h)
          have hb5 := hb5.ch hc (fun h => h)
          have hb6 := hb6.ch hc (fun h => h)
          have hBn := hBn.ch hc (fun h => h)
          have hst := hst.no hc
          have hrnd := hrnd.no hc
          have hb8 := hb8.ch hc (fun h => h)
          have hge10 : w.heap.size ≤ g10 := by have := HC.size; omega
          have neg2_10 : g2 < g10 := by omega
          have neg3_10 : g3 < g10 := by omega
          have neg4_10 : g4 < g10 := by omega
          have neg5_10 : g5 < g10 := by omega
          have neg6_10 : g6 < g10 := by omega
          have neg28_10 : g28 < g10 := by omega
          have neg8_10 : g8 < g10 := by omega
          refine wlie rfl (by repeat (first | with_reducible exact no_stop | with_reducible exact no_false | with_reducible apply no_then | with_reducible apply no_in)) (e_stW (vs := (((List.map u8v y.side) ++ (List.map u8v y.side)) : List Value)) (szL sz135 (by first | rfl | (simp only [List.length_append, List.length_map, List.length_cons, List.length_nil, (show List.length y.side = 32 from hyk), (show List.length y.side = 32 from hyk)]; done) | (simp only [List.length_append, List.length_map, List.length_cons, List.length_nil, List.size_toArray, (show List.length y.side = 32 from hyk), (show List.length y.side = 32 from hyk)]; done))) (oneA (oneL one_u8 _) (oneL one_u8 _)) rfl rfl hb10 (by first | rfl | (simp only [List.length_append, List.length_map, List.length_cons, List.length_nil, (show List.length (List.replicate 32 (0 : UInt8)) = 32 from (List.length_replicate ..)), (show List.length (List.replicate 32 (0 : UInt8)) = 32 from (List.length_replicate ..)), (show List.length y.side = 32 from hyk), (show List.length y.side = 32 from hyk)]; done) | (simp only [List.length_append, List.length_map, List.length_cons, List.length_nil, List.size_toArray, (show List.length (List.replicate 32 (0 : UInt8)) = 32 from (List.length_replicate ..)), (show List.length (List.replicate 32 (0 : UInt8)) = 32 from (List.length_replicate ..)), (show List.length y.side = 32 from hyk), (show List.length y.side = 32 from hyk)]; done)) (fun w22 hb10 hc hsz => ?_))
          have hzw22 := hc.size
          have HC := HC.trans hc (fun _ _ h => h) (fun k hk ht => absurd ht (by omega))
          have hB := hB.trans hc (fun _ _ h => h) (fun k hk ht => by first | omega | (dsimp only at *; omega))
          have hb2 := hb2.ch hc (by omega)
          have hb3 := hb3.ch hc (by omega)
          have hb4 := hb4.ch hc (by omega)
          have hb5 := hb5.ch hc (by omega)
          have hb6 := hb6.ch hc (by omega)
          have hBn := hBn.ch hc (by omega)
          first | have hst := hst.ch hc (by intro k hk ht; first | omega | (dsimp only at *; omega)) | have hst := hst.chT hc (by intro k hz hk ht; first | omega | (dsimp only at *; omega))
          first | have hrnd := hrnd.ch hc (by intro k hk ht; first | omega | (dsimp only at *; omega)) | have hrnd := hrnd.chT hc (by intro k hz hk ht; first | omega | (dsimp only at *; omega))
          have hb8 := hb8.ch hc (by omega)
          refine wli_nil ?_
          refine xi_seq ?_
          refine wci_seq ?_
          obtain rfl | rfl : s34 = 0 ∨ s34 = 1 := by omega
          ·
            refine wci_region ?_
            refine wli rfl rfl rfl (p_mv rfl) ?_
            refine wli rfl rfl rfl (p_ldA (cs := List.map u8v h) Tryd.underlying38 rfl (szL sz38 (by rw [List.length_map]; exact hh)) rfl (fun _ e => e ▸ rngL hb6)) ?_
            refine wli rfl rfl rfl (p_ixA (j := 0) Tryd.underlying135 sz38 rfl rfl (by omega) (by omega) rfl) ?_
            refine wlie rfl (by repeat (first | with_reducible exact no_stop | with_reducible exact no_false | with_reducible apply no_then | with_reducible apply no_in)) (e_stR2 (p := []) (q := ((List.map u8v y.side) : List Value)) (r := ((List.map u8v y.side) : List Value)) (vs := ((List.map u8v h) : List Value)) (szL sz38 (by first | rfl | (simp only [List.length_append, List.length_map, List.length_cons, List.length_nil, (show List.length h = 32 from hh)]; done) | (simp only [List.length_append, List.length_map, List.length_cons, List.length_nil, List.size_toArray, (show List.length h = 32 from hh)]; done))) (oneL one_u8 _) rfl rfl hb10 (by simp only [List.append_assoc, List.cons_append, List.nil_append, List.append_nil]) (by first | rfl | (simp only [List.length_append, List.length_map, List.length_cons, List.length_nil]; done) | (simp only [List.length_append, List.length_map, List.length_cons, List.length_nil, List.size_toArray]; done)) (by first | rfl | (simp only [List.length_append, List.length_map, List.length_cons, List.length_nil, (show List.length h = 32 from hh), (show List.length y.side = 32 from hyk)]; done) | (simp only [List.length_append, List.length_map, List.length_cons, List.length_nil, List.size_toArray, (show List.length h = 32 from hh), (show List.length y.side = 32 from hyk)]; done)) (fun w24 hb10 hc hsz => ?_))
            have hb10 : Blk w24 g10 135 (((List.map u8v h) ++ (List.map u8v y.side)) : List Value).toArray := by have h := hb10; simp only [List.append_assoc, List.cons_append, List.nil_append, List.append_nil] at h ⊢; exact h
            have hzw24 := hc.size
            have HC := HC.trans hc (fun _ _ h => h) (fun k hk ht => absurd ht (by omega))
            have hB := hB.trans hc (fun _ _ h => h) (fun k hk ht => by first | omega | (dsimp only at *; omega))
            have hb2 := hb2.ch hc (by omega)
            have hb3 := hb3.ch hc (by omega)
            have hb4 := hb4.ch hc (by omega)
            have hb5 := hb5.ch hc (by omega)
            have hb6 := hb6.ch hc (by omega)
            have hBn := hBn.ch hc (by omega)
            first | have hst := hst.ch hc (by intro k hk ht; first | omega | (dsimp only at *; omega)) | have hst := hst.chT hc (by intro k hz hk ht; first | omega | (dsimp only at *; omega))
            first | have hrnd := hrnd.ch hc (by intro k hk ht; first | omega | (dsimp only at *; omega)) | have hrnd := hrnd.chT hc (by intro k hz hk ht; first | omega | (dsimp only at *; omega))
            have hb8 := hb8.ch hc (by omega)
            refine wli_nil ?_
            refine xi_seq ?_
            refine wci_region ?_
            refine wli rfl rfl rfl (p_fld (j := 0) Tryd.underlying126 rfl ⟨_, by rfl⟩ rfl rfl) ?_
            refine wli rfl rfl rfl (p_ld Tryd.underlying3 rfl rfl (ld (cell_at (p := []) (v := (i64 y.bit : Value)) (r := ((List.map u8v y.side) : List Value)) hb8 (by simp only [List.append_assoc, List.cons_append, List.nil_append, List.append_nil]) (by first | rfl | (simp only [List.length_append, List.length_map, List.length_cons, List.length_nil]; done) | (simp only [List.length_append, List.length_map, List.length_cons, List.length_nil, List.size_toArray]; done))))) ?_
            refine wli rfl rfl rfl (p_ixA (j := 0) Tryd.underlying135 sz38 rfl rfl (by omega) (by omega) rfl) ?_
            refine wli rfl rfl rfl (p_ldA (cs := (List.map u8v h)) Tryd.underlying38 rfl (szL sz38 (by first | rfl | (simp only [List.length_append, List.length_map, List.length_cons, List.length_nil, (show List.length h = 32 from hh)]; done) | (simp only [List.length_append, List.length_map, List.length_cons, List.length_nil, List.size_toArray, (show List.length h = 32 from hh)]; done))) rfl (fun _ e => e ▸ rng_at (p := []) (q := ((List.map u8v h) : List Value)) (r := ((List.map u8v y.side) : List Value)) hb10 (by simp only [List.append_assoc, List.cons_append, List.nil_append, List.append_nil]) (by first | rfl | (simp only [List.length_append, List.length_map, List.length_cons, List.length_nil]; done) | (simp only [List.length_append, List.length_map, List.length_cons, List.length_nil, List.size_toArray]; done)))) ?_
            refine wli rfl rfl rfl (p_ixA (j := 32) Tryd.underlying135 sz38 rfl rfl (by omega) (by omega) rfl) ?_
            refine wli rfl rfl rfl (p_ldA (cs := (List.map u8v y.side)) Tryd.underlying38 rfl (szL sz38 (by first | rfl | (simp only [List.length_append, List.length_map, List.length_cons, List.length_nil, (show List.length y.side = 32 from hyk)]; done) | (simp only [List.length_append, List.length_map, List.length_cons, List.length_nil, List.size_toArray, (show List.length y.side = 32 from hyk)]; done))) rfl (fun _ e => e ▸ rng_at (p := ((List.map u8v h) : List Value)) (q := ((List.map u8v y.side) : List Value)) (r := []) hb10 (by simp only [List.append_assoc, List.cons_append, List.nil_append, List.append_nil]) (by first | rfl | (simp only [List.length_append, List.length_map, List.length_cons, List.length_nil, (show List.length h = 32 from hh)]; done) | (simp only [List.length_append, List.length_map, List.length_cons, List.length_nil, List.size_toArray, (show List.length h = 32 from hh)]; done)))) ?_
            refine wlie rfl (by repeat (first | with_reducible exact no_stop | with_reducible exact no_false | with_reducible apply no_then | with_reducible apply no_in)) (e_call ent76 rfl rfl (tfork_any (hh) (hyk) hrnd) ?_)
            rintro _ w27 ⟨rfl, hc⟩
            refine ⟨_, rfl, ?_⟩
            have hzw27 := hc.size
            have HC := HC.tr hc
            have hB := hB.tr hc
            have hb2 := hb2.ch hc (fun h => h)
            have hb3 := hb3.ch hc (fun h => h)
            have hb4 := hb4.ch hc (fun h => h)
            have hb5 := hb5.ch hc (fun h => h)
            have hb6 := hb6.ch hc (fun h => h)
            have hBn := hBn.ch hc (fun h => h)
            have hst := hst.no hc
            have hrnd := hrnd.no hc
            have hb8 := hb8.ch hc (fun h => h)
            have hb10 := hb10.ch hc (fun h => h)
            refine wlie rfl (by repeat (first | with_reducible exact no_stop | with_reducible exact no_false | with_reducible apply no_then | with_reducible apply no_in)) (e_stW (vs := List.map u8v (forkH (b8i (y.bit)) h y.side)) (szL sz38 (by rw [List.length_map]; exact (forkH_len _ _ _ ))) (oneL one_u8 _) rfl rfl hb6 (by simp only [List.size_toArray, List.length_map]; first | done | exact (hh).trans ((forkH_len _ _ _ )).symm) (fun w28 hb6 hc hsz => ?_))
            have hzw28 := hc.size
            have HC := HC.trans hc (fun _ _ h => h) (fun k hk ht => absurd ht (by omega))
            have hB := hB.trans hc (fun _ _ h => h) (fun k hk ht => by first | omega | (dsimp only at *; omega))
            have hb2 := hb2.ch hc (by omega)
            have hb3 := hb3.ch hc (by omega)
            have hb4 := hb4.ch hc (by omega)
            have hb5 := hb5.ch hc (by omega)
            have hBn := hBn.ch hc (by omega)
            first | have hst := hst.ch hc (by intro k hk ht; first | omega | (dsimp only at *; omega)) | have hst := hst.chT hc (by intro k hz hk ht; first | omega | (dsimp only at *; omega))
            first | have hrnd := hrnd.ch hc (by intro k hk ht; first | omega | (dsimp only at *; omega)) | have hrnd := hrnd.chT hc (by intro k hz hk ht; first | omega | (dsimp only at *; omega))
            have hb8 := hb8.ch hc (by omega)
            have hb10 := hb10.ch hc (by omega)
            refine wli_nil ?_
            refine x_in_normal ?_
            exact wq_stop ⟨(forkH (b8i y.bit) h y.side), (forkH_len _ _ _), (by rw [List.length_append]; exact climb_ok hdr (by omega) hcl hs34 (by omega) (by rfl)), (by rw [List.length_append]; simp; omega), hb2, hb3, hb4, hb5, hb6, hBn, hst, hrnd, HC⟩ hB
          ·
            refine wci_region ?_
            refine wli rfl rfl rfl (p_mv rfl) ?_
            refine wli rfl rfl rfl (p_ldA (cs := List.map u8v h) Tryd.underlying38 rfl (szL sz38 (by rw [List.length_map]; exact hh)) rfl (fun _ e => e ▸ rngL hb6)) ?_
            refine wli rfl rfl rfl (p_ixA (j := 32) Tryd.underlying135 sz38 rfl rfl (by omega) (by omega) rfl) ?_
            refine wlie rfl (by repeat (first | with_reducible exact no_stop | with_reducible exact no_false | with_reducible apply no_then | with_reducible apply no_in)) (e_stR2 (p := ((List.map u8v y.side) : List Value)) (q := ((List.map u8v y.side) : List Value)) (r := []) (vs := ((List.map u8v h) : List Value)) (szL sz38 (by first | rfl | (simp only [List.length_append, List.length_map, List.length_cons, List.length_nil, (show List.length h = 32 from hh)]; done) | (simp only [List.length_append, List.length_map, List.length_cons, List.length_nil, List.size_toArray, (show List.length h = 32 from hh)]; done))) (oneL one_u8 _) rfl rfl hb10 (by simp only [List.append_assoc, List.cons_append, List.nil_append, List.append_nil]) (by first | rfl | (simp only [List.length_append, List.length_map, List.length_cons, List.length_nil, (show List.length y.side = 32 from hyk)]; done) | (simp only [List.length_append, List.length_map, List.length_cons, List.length_nil, List.size_toArray, (show List.length y.side = 32 from hyk)]; done)) (by first | rfl | (simp only [List.length_append, List.length_map, List.length_cons, List.length_nil, (show List.length h = 32 from hh), (show List.length y.side = 32 from hyk)]; done) | (simp only [List.length_append, List.length_map, List.length_cons, List.length_nil, List.size_toArray, (show List.length h = 32 from hh), (show List.length y.side = 32 from hyk)]; done)) (fun w30 hb10 hc hsz => ?_))
            have hb10 : Blk w30 g10 135 (((List.map u8v y.side) ++ (List.map u8v h)) : List Value).toArray := by have h := hb10; simp only [List.append_assoc, List.cons_append, List.nil_append, List.append_nil] at h ⊢; exact h
            have hzw30 := hc.size
            have HC := HC.trans hc (fun _ _ h => h) (fun k hk ht => absurd ht (by omega))
            have hB := hB.trans hc (fun _ _ h => h) (fun k hk ht => by first | omega | (dsimp only at *; omega))
            have hb2 := hb2.ch hc (by omega)
            have hb3 := hb3.ch hc (by omega)
            have hb4 := hb4.ch hc (by omega)
            have hb5 := hb5.ch hc (by omega)
            have hb6 := hb6.ch hc (by omega)
            have hBn := hBn.ch hc (by omega)
            first | have hst := hst.ch hc (by intro k hk ht; first | omega | (dsimp only at *; omega)) | have hst := hst.chT hc (by intro k hz hk ht; first | omega | (dsimp only at *; omega))
            first | have hrnd := hrnd.ch hc (by intro k hk ht; first | omega | (dsimp only at *; omega)) | have hrnd := hrnd.chT hc (by intro k hz hk ht; first | omega | (dsimp only at *; omega))
            have hb8 := hb8.ch hc (by omega)
            refine wli_nil ?_
            refine xi_seq ?_
            refine wci_region ?_
            refine wli rfl rfl rfl (p_fld (j := 0) Tryd.underlying126 rfl ⟨_, by rfl⟩ rfl rfl) ?_
            refine wli rfl rfl rfl (p_ld Tryd.underlying3 rfl rfl (ld (cell_at (p := []) (v := (i64 y.bit : Value)) (r := ((List.map u8v y.side) : List Value)) hb8 (by simp only [List.append_assoc, List.cons_append, List.nil_append, List.append_nil]) (by first | rfl | (simp only [List.length_append, List.length_map, List.length_cons, List.length_nil]; done) | (simp only [List.length_append, List.length_map, List.length_cons, List.length_nil, List.size_toArray]; done))))) ?_
            refine wli rfl rfl rfl (p_ixA (j := 0) Tryd.underlying135 sz38 rfl rfl (by omega) (by omega) rfl) ?_
            refine wli rfl rfl rfl (p_ldA (cs := (List.map u8v y.side)) Tryd.underlying38 rfl (szL sz38 (by first | rfl | (simp only [List.length_append, List.length_map, List.length_cons, List.length_nil, (show List.length y.side = 32 from hyk)]; done) | (simp only [List.length_append, List.length_map, List.length_cons, List.length_nil, List.size_toArray, (show List.length y.side = 32 from hyk)]; done))) rfl (fun _ e => e ▸ rng_at (p := []) (q := ((List.map u8v y.side) : List Value)) (r := ((List.map u8v h) : List Value)) hb10 (by simp only [List.append_assoc, List.cons_append, List.nil_append, List.append_nil]) (by first | rfl | (simp only [List.length_append, List.length_map, List.length_cons, List.length_nil]; done) | (simp only [List.length_append, List.length_map, List.length_cons, List.length_nil, List.size_toArray]; done)))) ?_
            refine wli rfl rfl rfl (p_ixA (j := 32) Tryd.underlying135 sz38 rfl rfl (by omega) (by omega) rfl) ?_
            refine wli rfl rfl rfl (p_ldA (cs := (List.map u8v h)) Tryd.underlying38 rfl (szL sz38 (by first | rfl | (simp only [List.length_append, List.length_map, List.length_cons, List.length_nil, (show List.length h = 32 from hh)]; done) | (simp only [List.length_append, List.length_map, List.length_cons, List.length_nil, List.size_toArray, (show List.length h = 32 from hh)]; done))) rfl (fun _ e => e ▸ rng_at (p := ((List.map u8v y.side) : List Value)) (q := ((List.map u8v h) : List Value)) (r := []) hb10 (by simp only [List.append_assoc, List.cons_append, List.nil_append, List.append_nil]) (by first | rfl | (simp only [List.length_append, List.length_map, List.length_cons, List.length_nil, (show List.length y.side = 32 from hyk)]; done) | (simp only [List.length_append, List.length_map, List.length_cons, List.length_nil, List.size_toArray, (show List.length y.side = 32 from hyk)]; done)))) ?_
            refine wlie rfl (by repeat (first | with_reducible exact no_stop | with_reducible exact no_false | with_reducible apply no_then | with_reducible apply no_in)) (e_call ent76 rfl rfl (tfork_any (hyk) (hh) hrnd) ?_)
            rintro _ w33 ⟨rfl, hc⟩
            refine ⟨_, rfl, ?_⟩
            have hzw33 := hc.size
            have HC := HC.tr hc
            have hB := hB.tr hc
            have hb2 := hb2.ch hc (fun h => h)
            have hb3 := hb3.ch hc (fun h => h)
            have hb4 := hb4.ch hc (fun h => h)
            have hb5 := hb5.ch hc (fun h => h)
            have hb6 := hb6.ch hc (fun h => h)
            have hBn := hBn.ch hc (fun h => h)
            have hst := hst.no hc
            have hrnd := hrnd.no hc
            have hb8 := hb8.ch hc (fun h => h)
            have hb10 := hb10.ch hc (fun h => h)
            refine wlie rfl (by repeat (first | with_reducible exact no_stop | with_reducible exact no_false | with_reducible apply no_then | with_reducible apply no_in)) (e_stW (vs := List.map u8v (forkH (b8i (y.bit)) y.side h)) (szL sz38 (by rw [List.length_map]; exact (forkH_len _ _ _ ))) (oneL one_u8 _) rfl rfl hb6 (by simp only [List.size_toArray, List.length_map]; first | done | exact (hh).trans ((forkH_len _ _ _ )).symm) (fun w34 hb6 hc hsz => ?_))
            have hzw34 := hc.size
            have HC := HC.trans hc (fun _ _ h => h) (fun k hk ht => absurd ht (by omega))
            have hB := hB.trans hc (fun _ _ h => h) (fun k hk ht => by first | omega | (dsimp only at *; omega))
            have hb2 := hb2.ch hc (by omega)
            have hb3 := hb3.ch hc (by omega)
            have hb4 := hb4.ch hc (by omega)
            have hb5 := hb5.ch hc (by omega)
            have hBn := hBn.ch hc (by omega)
            first | have hst := hst.ch hc (by intro k hk ht; first | omega | (dsimp only at *; omega)) | have hst := hst.chT hc (by intro k hz hk ht; first | omega | (dsimp only at *; omega))
            first | have hrnd := hrnd.ch hc (by intro k hk ht; first | omega | (dsimp only at *; omega)) | have hrnd := hrnd.chT hc (by intro k hz hk ht; first | omega | (dsimp only at *; omega))
            have hb8 := hb8.ch hc (by omega)
            have hb10 := hb10.ch hc (by omega)
            refine wli_nil ?_
            refine x_in_normal ?_
            exact wq_stop ⟨(forkH (b8i y.bit) y.side h), (forkH_len _ _ _), (by rw [List.length_append]; exact climb_ok hdr (by omega) hcl hs34 (by omega) (by rfl)), (by rw [List.length_append]; simp; omega), hb2, hb3, hb4, hb5, hb6, hBn, hst, hrnd, HC⟩ hB
      case hdone =>
        rintro xs W a' hS ⟨h, hh, hcl, hxl, hb2, hb3, hb4, hb5, hb6, hBn, hst, hrnd, HC⟩ hK F'
        refine wqd_ap ?_ F'
        have hzW := HC.size
        have hSl : xs.length = ls := hS
        rw [hSl, Nat.sub_self, List.drop_zero] at hcl
        refine xd_in_normal ?_
        refine xd_seq ?_
        refine wcd_seq ?_
        refine wcd_region ?_
        refine wld rfl rfl rfl (p_ldA (cs := List.map u8v h) Tryd.underlying38 rfl (szL sz38 (by rw [List.length_map]; exact hh)) rfl (fun _ e => e ▸ rngL hb6)) ?_
        refine wlde rfl (e_stW (vs := List.map u8v h) (szL sz38 (by rw [List.length_map]; exact hh)) (oneL one_u8 _) rfl rfl hb4 (by simp only [List.size_toArray, List.length_map]; first | done | exact ((List.length_replicate ..)).trans (hh).symm) (fun w35 hb4 hc hsz => ?_))
        have hzw35 := hc.size
        have HC := HC.trans hc (fun _ _ h => h) (fun k hk ht => absurd ht (by omega))
        have hb2 := hb2.ch hc (by omega)
        have hb3 := hb3.ch hc (by omega)
        have hb5 := hb5.ch hc (by omega)
        have hb6 := hb6.ch hc (by omega)
        have hBn := hBn.ch hc (by omega)
        first | have hst := hst.ch hc (by intro k hk ht; first | omega | (dsimp only at *; omega)) | have hst := hst.chT hc (by intro k hz hk ht; first | omega | (dsimp only at *; omega))
        first | have hrnd := hrnd.ch hc (by intro k hk ht; first | omega | (dsimp only at *; omega)) | have hrnd := hrnd.chT hc (by intro k hz hk ht; first | omega | (dsimp only at *; omega))
        have hK := hc.heap hK (by first | exact fun h => h | omega | (dsimp only; omega))
        refine wlde rfl (e_st1 (by rfl) rfl rfl rfl hb5 (fun w36 hb5 hc hsz => ?_))
        have hzw36 := hc.size
        have HC := HC.trans hc (fun _ _ h => h) (fun k hk ht => absurd ht (by omega))
        have hb2 := hb2.ch hc (by omega)
        have hb3 := hb3.ch hc (by omega)
        have hb4 := hb4.ch hc (by omega)
        have hb6 := hb6.ch hc (by omega)
        have hBn := hBn.ch hc (by omega)
        first | have hst := hst.ch hc (by intro k hk ht; first | omega | (dsimp only at *; omega)) | have hst := hst.chT hc (by intro k hz hk ht; first | omega | (dsimp only at *; omega))
        first | have hrnd := hrnd.ch hc (by intro k hk ht; first | omega | (dsimp only at *; omega)) | have hrnd := hrnd.chT hc (by intro k hz hk ht; first | omega | (dsimp only at *; omega))
        have hK := hc.heap hK (by first | exact fun h => h | omega | (dsimp only; omega))
        refine wld_nil ?_
        refine xd_seq ?_
        refine wcd_ret ?_
        refine fin_runM hK (fun w37 hc hsz => ?_)
        have hzw37 := hc.size
        have HC := HC.trans hc (fun _ _ h => h) (fun k hk ht => absurd ht (by omega))
        have hb2 := hb2.ch hc (by omega)
        have hb3 := hb3.ch hc (by omega)
        have hb4 := hb4.ch hc (by omega)
        have hb5 := hb5.ch hc (by omega)
        have hb6 := hb6.ch hc (by omega)
        have hBn := hBn.ch hc (by omega)
        first | have hst := hst.ch hc (by intro k hk ht; first | omega | (dsimp only at *; omega)) | have hst := hst.chT hc (by intro k hz hk ht; first | omega | (dsimp only at *; omega))
        first | have hrnd := hrnd.ch hc (by intro k hk ht; first | omega | (dsimp only at *; omega)) | have hrnd := hrnd.chT hc (by intro k hz hk ht; first | omega | (dsimp only at *; omega))
        refine ⟨_, resMany (rs := [.cell 4 38, .cell 5 4]) rfl (.cellA (cs := List.map u8v h) rfl Tryd.underlying38 rfl (szL sz38 (by rw [List.length_map]; exact hh)) (rngL hb4) (.cell1 rfl Tryd.underlying4 rfl (hb5.cell rfl) (.nil))) rfl, ?_⟩
        exact ⟨_, _, rfl, hh, by rw [climbP, if_neg (by simpa using c0), if_neg (by simpa using c1), hcl]; rfl, HC⟩
      case hstop =>
        rintro c xs W a' hS ⟨rfl, hno, hb4, hb5, HC⟩ hK F'
        refine wp_ret (wqd_ap ?_ F')
        have hzW := HC.size
        refine xd_in_ret ?_
        refine xd_then_ret ?_
        refine fin_runM hK (fun w38 hc hsz => ?_)
        have hzw38 := hc.size
        have HC := HC.trans hc (fun _ _ h => h) (fun k hk ht => absurd ht (by omega))
        have hb4 := hb4.ch hc (by omega)
        have hb5 := hb5.ch hc (by omega)
        refine ⟨_, resMany (rs := [.cell 4 38, .cell 5 4]) rfl (.cellA (cs := List.map u8v (List.replicate 32 (0 : UInt8))) rfl Tryd.underlying38 rfl (szL sz38 (by rw [List.length_map]; exact (List.length_replicate ..))) (rngL hb4) (.cell1 rfl Tryd.underlying4 rfl (hb5.cell rfl) (.nil))) rfl, ?_⟩
        exact ⟨_, _, rfl, List.length_replicate .., by rw [climbP, if_neg (by simpa using c0), if_neg (by simpa using c1), hno]; rfl, HC⟩

set_option maxHeartbeats 1000000 in
set_option maxRecDepth 20000 in
theorem rclimb_any {w : World}  {k : List UInt8} {As : Option Addr} {ls cs : Nat} {Fs : Nat → Prop} {st : List Stp} {lf : Bool} {pk pv : List UInt8} (hk : k.length = 32) (hst : SI w Fs eST As ls cs st) (hpk : pk.length = 32) (hpv : pv.length = 32) (hls : ls ≤ 1000000) :
    Calls Tryd.prog 31 #[hv k, .agg (([.slice As ls cs, .bool lf] ++ ((List.map u8v pk) ++ (List.map u8v pv))) : List Value).toArray] w fun e w' => ∃ (u : List UInt8) (ok : Bool), e = .returned (.tuple #[hv u, .bool ok]) ∧ u.length = 32 ∧ (u, ok) = ((climbP k st lf pk pv).getD zeroH, (climbP k st lf pk pv).isSome) ∧ Ch No w w' := by
  have hstl := hst.len
  have hst := hst.old
  have HC : Ch No w w := Ch.refl _ _
  refine enter' (args := [hv k, _]) (n := 64) Tryd.func31 rfl rfl rfl ?_
  refine wc_seq ?_
  refine wc_region ?_
  refine wle rfl (e_box (cs := (List.map u8v k).toArray) rfl rfl rfl (fun w1 g2 hg2 hb2 hc hsz2 => ?_))
  have hzw1 := hc.size
  have HC := HC.tr hc
  have hst := hst.no hc
  have hge2 : w.heap.size ≤ g2 := by have := HC.size; omega
  have hltg2 := hb2.lt
  refine wle rfl (e_box (cs := (([.slice As ls cs, .bool lf] ++ ((List.map u8v pk) ++ (List.map u8v pv))) : List Value).toArray) rfl rfl rfl (fun w2 g3 hg3 hb3 hc hsz3 => ?_))
  have hzw2 := hc.size
  have HC := HC.tr hc
  have hst := hst.no hc
  have hb2 := hb2.ch hc (fun h => h)
  have hge3 : w.heap.size ≤ g3 := by have := HC.size; omega
  have neg2_3 : g2 < g3 := by omega
  have hltg2 := hb2.lt
  have hltg3 := hb3.lt
  refine wle rfl (e_alloc (cs := ((List.replicate 32 (0 : UInt8)).map u8v).toArray) rfl (by rfl) rfl (fun w3 g4 hg4 hb4 hc hsz4 => ?_))
  have hzw3 := hc.size
  have HC := HC.tr hc
  have hst := hst.no hc
  have hb2 := hb2.ch hc (fun h => h)
  have hb3 := hb3.ch hc (fun h => h)
  have hge4 : w.heap.size ≤ g4 := by have := HC.size; omega
  have neg2_4 : g2 < g4 := by omega
  have neg3_4 : g3 < g4 := by omega
  refine wl rfl rfl rfl (p_as rfl) ?_
  refine wl_nil ?_
  refine x_seq ?_
  refine wc_seq ?_
  refine wc_seq ?_
  refine wc_region ?_
  refine wl rfl rfl rfl (p_ldA (cs := (([.slice As ls cs, .bool lf] ++ ((List.map u8v pk) ++ (List.map u8v pv))) : List Value)) Tryd.underlying45 rfl (szL sz45 (by first | rfl | (simp only [List.length_append, List.length_map, List.length_cons, List.length_nil, (show List.length pk = 32 from hpk), (show List.length pv = 32 from hpv)]; done) | (simp only [List.length_append, List.length_map, List.length_cons, List.length_nil, List.size_toArray, (show List.length pk = 32 from hpk), (show List.length pv = 32 from hpv)]; done))) rfl (fun _ e => e ▸ rngL hb3)) ?_
  refine wle rfl (e_call ent35 rfl rfl (rgood_any (hst) (hpk) (hpv) (by omega)) ?_)
  rintro _ w4 ⟨rfl, hc⟩
  refine ⟨_, rfl, ?_⟩
  have hzw4 := hc.size
  have HC := HC.tr hc
  have hst := hst.no hc
  have hb2 := hb2.ch hc (fun h => h)
  have hb3 := hb3.ch hc (fun h => h)
  have hb4 := hb4.ch hc (fun h => h)
  refine wl rfl rfl rfl (p_not rfl) ?_
  refine wl_nil ?_
  refine x_seq ?_
  refine wc_if rfl (fun c0 => ?_) (fun c0 => ?_)
  ·
    refine wc_seq ?_
    refine wc_region ?_
    refine wl rfl rfl rfl (p_bldP (cs := ((List.replicate 32 (0 : UInt8)).map u8v).toArray) rfl (fun _ => by kernel_rfl)) ?_
    refine wle rfl (e_stW (vs := List.map u8v (List.replicate 32 (0 : UInt8))) (szL sz38 (by rw [List.length_map]; exact (List.length_replicate ..))) (oneL one_u8 _) rfl rfl hb4 (by simp only [List.size_toArray, List.length_map]; first | done | exact ((List.length_replicate ..)).trans ((List.length_replicate ..)).symm) (fun w5 hb4 hc hsz => ?_))
    have hzw5 := hc.size
    have HC := HC.trans hc (fun _ _ h => h) (fun k hk ht => absurd ht (by omega))
    first | have hst := hst.ch hc (by intro k hk ht; first | omega | (dsimp only at *; omega)) | have hst := hst.chT hc (by intro k hz hk ht; first | omega | (dsimp only at *; omega))
    have hb2 := hb2.ch hc (by omega)
    have hb3 := hb3.ch hc (by omega)
    refine wl rfl rfl rfl (p_as rfl) ?_
    refine wl_nil ?_
    refine x_seq ?_
    refine wc_ret ?_
    refine x_then_ret ?_
    refine fin_run (resMany (rs := [.cell 4 38, .tmp 5]) rfl (.cellA (cs := List.map u8v (List.replicate 32 (0 : UInt8))) rfl Tryd.underlying38 rfl (szL sz38 (by rw [List.length_map]; exact (List.length_replicate ..))) (rngL hb4) (.tmp rfl (.nil))) rfl) ?_
    exact ⟨_, _, rfl, List.length_replicate .., by rw [climbP, if_pos (by simpa using c0)]; rfl, HC⟩
  ·
    refine wc_skip ?_
    refine x_seq ?_
    refine wc_seq ?_
    refine wc_seq ?_
    refine wc_region ?_
    refine wl rfl rfl rfl (p_fld (j := 1) Tryd.underlying45 rfl ⟨_, by rfl⟩ rfl rfl) ?_
    refine wl rfl rfl rfl (p_ld Tryd.underlying4 rfl rfl (ld (cell_at (p := ([.slice As ls cs] : List Value)) (v := (.bool lf : Value)) (r := (((List.map u8v pk) ++ (List.map u8v pv)) : List Value)) hb3 (by simp only [List.append_assoc, List.cons_append, List.nil_append, List.append_nil]) (by first | rfl | (simp only [List.length_append, List.length_map, List.length_cons, List.length_nil]; done) | (simp only [List.length_append, List.length_map, List.length_cons, List.length_nil, List.size_toArray]; done))))) ?_
    refine wl rfl rfl rfl (p_not rfl) ?_
    refine wl_nil ?_
    refine x_seq ?_
    refine wc_if rfl (fun c1 => ?_) (fun c1 => ?_)
    ·
      refine wc_seq ?_
      refine wc_region ?_
      refine wle rfl (e_call ent67 rfl rfl (rtnone_any) ?_)
      rintro _ w6 ⟨rfl, hc⟩
      refine ⟨_, rfl, ?_⟩
      have hzw6 := hc.size
      have HC := HC.tr hc
      have hst := hst.no hc
      have hb2 := hb2.ch hc (fun h => h)
      have hb3 := hb3.ch hc (fun h => h)
      have hb4 := hb4.ch hc (fun h => h)
      refine wle rfl (e_stW (vs := List.map u8v noneH) (szL sz38 (by rw [List.length_map]; exact noneH_len)) (oneL one_u8 _) rfl rfl hb4 (by simp only [List.size_toArray, List.length_map]; first | done | exact ((List.length_replicate ..)).trans (noneH_len).symm) (fun w7 hb4 hc hsz => ?_))
      have hzw7 := hc.size
      have HC := HC.trans hc (fun _ _ h => h) (fun k hk ht => absurd ht (by omega))
      first | have hst := hst.ch hc (by intro k hk ht; first | omega | (dsimp only at *; omega)) | have hst := hst.chT hc (by intro k hz hk ht; first | omega | (dsimp only at *; omega))
      have hb2 := hb2.ch hc (by omega)
      have hb3 := hb3.ch hc (by omega)
      refine wl rfl rfl rfl (p_as rfl) ?_
      refine wl_nil ?_
      refine x_seq ?_
      refine wc_ret ?_
      refine x_then_ret ?_
      refine fin_run (resMany (rs := [.cell 4 38, .tmp 5]) rfl (.cellA (cs := List.map u8v noneH) rfl Tryd.underlying38 rfl (szL sz38 (by rw [List.length_map]; exact noneH_len)) (rngL hb4) (.tmp rfl (.nil))) rfl) ?_
      exact ⟨_, _, rfl, noneH_len, by rw [climbP, if_neg (by simpa using c0), if_pos (by simpa using c1)]; rfl, HC⟩
    ·
      refine wc_skip ?_
      refine x_seq ?_
      refine wc_seq ?_
      refine wc_region ?_
      refine wl rfl rfl rfl (p_fld (j := 2) Tryd.underlying45 rfl ⟨_, by rfl⟩ rfl rfl) ?_
      refine wl rfl rfl rfl (p_ldA (cs := (List.map u8v pk)) Tryd.underlying38 rfl (szL sz38 (by first | rfl | (simp only [List.length_append, List.length_map, List.length_cons, List.length_nil, (show List.length pk = 32 from hpk)]; done) | (simp only [List.length_append, List.length_map, List.length_cons, List.length_nil, List.size_toArray, (show List.length pk = 32 from hpk)]; done))) rfl (fun _ e => e ▸ rng_at (p := ([.slice As ls cs, .bool lf] : List Value)) (q := ((List.map u8v pk) : List Value)) (r := ((List.map u8v pv) : List Value)) hb3 (by simp only [List.append_assoc, List.cons_append, List.nil_append, List.append_nil]) (by first | rfl | (simp only [List.length_append, List.length_map, List.length_cons, List.length_nil]; done) | (simp only [List.length_append, List.length_map, List.length_cons, List.length_nil, List.size_toArray]; done)))) ?_
      refine wl rfl rfl rfl (p_fld (j := 34) Tryd.underlying45 rfl ⟨_, by rfl⟩ rfl rfl) ?_
      refine wl rfl rfl rfl (p_ldA (cs := (List.map u8v pv)) Tryd.underlying38 rfl (szL sz38 (by first | rfl | (simp only [List.length_append, List.length_map, List.length_cons, List.length_nil, (show List.length pv = 32 from hpv)]; done) | (simp only [List.length_append, List.length_map, List.length_cons, List.length_nil, List.size_toArray, (show List.length pv = 32 from hpv)]; done))) rfl (fun _ e => e ▸ rng_at (p := (([.slice As ls cs, .bool lf] ++ (List.map u8v pk)) : List Value)) (q := ((List.map u8v pv) : List Value)) (r := []) hb3 (by simp only [List.append_assoc, List.cons_append, List.nil_append, List.append_nil]) (by first | rfl | (simp only [List.length_append, List.length_map, List.length_cons, List.length_nil, (show List.length pk = 32 from hpk)]; done) | (simp only [List.length_append, List.length_map, List.length_cons, List.length_nil, List.size_toArray, (show List.length pk = 32 from hpk)]; done)))) ?_
      refine wle rfl (e_call ent77 rfl rfl (rtitem_any (hpk) (hpv)) ?_)
      rintro _ w8 ⟨rfl, hc⟩
      refine ⟨_, rfl, ?_⟩
      have hzw8 := hc.size
      have HC := HC.tr hc
      have hst := hst.no hc
      have hb2 := hb2.ch hc (fun h => h)
      have hb3 := hb3.ch hc (fun h => h)
      have hb4 := hb4.ch hc (fun h => h)
      have hltg2 := hb2.lt
      have hltg3 := hb3.lt
      have hltg4 := hb4.lt
      refine wle rfl (e_alloc (cs := ((List.replicate 32 (0 : UInt8)).map u8v).toArray) rfl (by rfl) rfl (fun w9 g6 hg6 hb6 hc hsz6 => ?_))
      have hzw9 := hc.size
      have HC := HC.tr hc
      have hst := hst.no hc
      have hb2 := hb2.ch hc (fun h => h)
      have hb3 := hb3.ch hc (fun h => h)
      have hb4 := hb4.ch hc (fun h => h)
      have hge6 : w.heap.size ≤ g6 := by have := HC.size; omega
      have neg2_6 : g2 < g6 := by omega
      have neg3_6 : g3 < g6 := by omega
      have neg4_6 : g4 < g6 := by omega
      refine wle rfl (e_stW (vs := List.map u8v (itemH pk pv)) (szL sz38 (by rw [List.length_map]; exact (itemH_len _ _ ))) (oneL one_u8 _) rfl rfl hb6 (by simp only [List.size_toArray, List.length_map]; first | done | exact ((List.length_replicate ..)).trans ((itemH_len _ _ )).symm) (fun w10 hb6 hc hsz => ?_))
      have hzw10 := hc.size
      have HC := HC.trans hc (fun _ _ h => h) (fun k hk ht => absurd ht (by omega))
      first | have hst := hst.ch hc (by intro k hk ht; first | omega | (dsimp only at *; omega)) | have hst := hst.chT hc (by intro k hz hk ht; first | omega | (dsimp only at *; omega))
      have hb2 := hb2.ch hc (by omega)
      have hb3 := hb3.ch hc (by omega)
      have hb4 := hb4.ch hc (by omega)
      refine wl_nil ?_
      refine x_seq ?_
      refine wc_seq ?_
      refine wc_seq ?_
      refine wc_region ?_
      refine wl rfl rfl rfl (p_fld (j := 0) Tryd.underlying45 rfl ⟨_, by rfl⟩ rfl rfl) ?_
      refine wl rfl rfl rfl (p_ld Tryd.underlying43 rfl rfl (ld (cell_at (p := []) (v := (.slice As ls cs : Value)) (r := (([.bool lf] ++ ((List.map u8v pk) ++ (List.map u8v pv))) : List Value)) hb3 (by simp only [List.append_assoc, List.cons_append, List.nil_append, List.append_nil]) (by first | rfl | (simp only [List.length_append, List.length_map, List.length_cons, List.length_nil]; done) | (simp only [List.length_append, List.length_map, List.length_cons, List.length_nil, List.size_toArray]; done))))) ?_
      refine wl rfl rfl rfl (p_lenS Tryd.underlying43 rfl) ?_
      refine wl rfl rfl rfl (p_sub rfl rfl (w64 (by omega))) ?_
      refine wl rfl rfl rfl (p_as rfl) ?_
      refine wl_nil ?_
      refine x_seq ?_
      refine wc_block ?_
      refine wc_loop (e' := [(2, .pointer (some ⟨g2, 0, none⟩)), (3, .pointer (some ⟨g3, 0, none⟩)), (4, .pointer (some ⟨g4, 0, none⟩)), (6, .pointer (some ⟨g6, 0, none⟩)), (7, i64 (((ls) : Int) - 1))]) (fun mz ez uz => ∃ j : Nat, ∃ h : List UInt8, mz = j ∧ ez = [(2, .pointer (some ⟨g2, 0, none⟩)), (3, .pointer (some ⟨g3, 0, none⟩)), (4, .pointer (some ⟨g4, 0, none⟩)), (6, .pointer (some ⟨g6, 0, none⟩)), (7, i64 ((j : Int) - 1))] ∧ (j ≤ ls) ∧ (h.length = 32) ∧ (climbS k pk (itemH pk pv) (st.drop j) = some h) ∧ (SI uz (fun k => k < w.heap.size) eST As ls cs st) ∧ (Blk uz g2 38 (List.map u8v k).toArray) ∧ (Blk uz g3 45 (([.slice As ls cs, .bool lf] ++ ((List.map u8v pk) ++ (List.map u8v pv))) : List Value).toArray) ∧ (Blk uz g4 38 (List.map u8v (List.replicate 32 (0 : UInt8))).toArray) ∧ (Blk uz g6 38 (List.map u8v h).toArray) ∧ (w.heap.size ≤ g2 ∧ g2 < g3 ∧ g3 < g4 ∧ g4 < g6) ∧ (Ch No w uz))
        ⟨rfl, rfl, rfl, rfl, rfl, trivial⟩ ⟨ls, _, rfl, rfl, (by omega), (itemH_len _ _), (by rw [List.drop_of_length_le (by omega)]; rfl), hst, hb2, hb3, hb4, hb6, (by omega), HC⟩ ?_
      rintro m0 e w11 ⟨j, h, hm0, rfl, hj, hh, hcl, hst, hb2, hb3, hb4, hb6, hg6, HC⟩
      have hzw11 := HC.size
      refine wc_seq ?_
      refine wc_seq ?_
      refine wc_region ?_
      refine wl rfl rfl rfl (p_mv rfl) ?_
      refine wl rfl rfl rfl (p_ge rfl rfl) ?_
      refine wl_nil ?_
      refine x_seq ?_
      refine wc_if rfl (fun c2 => ?_) (fun c2 => ?_)
      ·
        have c2 := of_decide_eq_true c2
        refine wc_skip ?_
        refine x_seq ?_
        refine wc_seq ?_
        refine wc_block ?_
        refine wc_seq ?_
        refine wc_region ?_
        refine wl rfl rfl rfl (p_fld (j := 0) Tryd.underlying45 rfl ⟨_, by rfl⟩ rfl rfl) ?_
        refine wl rfl rfl rfl (p_ld Tryd.underlying43 rfl rfl (ld (cell_at (p := []) (v := (.slice As ls cs : Value)) (r := (([.bool lf] ++ ((List.map u8v pk) ++ (List.map u8v pv))) : List Value)) hb3 (by simp only [List.append_assoc, List.cons_append, List.nil_append, List.append_nil]) (by first | rfl | (simp only [List.length_append, List.length_map, List.length_cons, List.length_nil]; done) | (simp only [List.length_append, List.length_map, List.length_cons, List.length_nil, List.size_toArray]; done))))) ?_
        refine wl rfl rfl rfl (p_mv rfl) ?_
        obtain ⟨b12, o12, hA12, hF12, hr12⟩ := (hst).opn (i := (j - 1)) (d := ⟨0, zeroH⟩) (by omega)
        have hok12 := (hst).okAt (i := (j - 1)) (d := ⟨0, zeroH⟩) (by omega)
        obtain ⟨x12, ex12⟩ : ∃ x, x = List.getD st ((j - 1)) ⟨0, zeroH⟩ := ⟨_, rfl⟩
        rw [← ex12] at hr12 hok12
        have hx12k : List.length x12.side = 32 := hok12
        have hr12 : w11.rangeAt b12 (o12 + ((j - 1)) * 33) (([i64 x12.bit] ++ (List.map u8v x12.side)) : List Value) := hr12
        refine wl rfl rfl rfl (p_ixS (j := ((j - 1)) * 33) Tryd.underlying43 sz125 rfl hA12 rfl (by omega) (by omega) (by omega)) ?_
        have hdr : st.drop (j - 1) = x12 :: st.drop (j - 1 + 1) := by rw [ex12]; exact getD_drop (by omega)
        refine wl rfl rfl rfl (p_ldA (cs := (([i64 x12.bit] ++ (List.map u8v x12.side)) : List Value)) Tryd.underlying125 rfl (szL sz125 (by first | rfl | (simp only [List.length_append, List.length_map, List.length_cons, List.length_nil, (show List.length x12.side = 32 from hx12k)]; done) | (simp only [List.length_append, List.length_map, List.length_cons, List.length_nil, List.size_toArray, (show List.length x12.side = 32 from hx12k)]; done))) rfl (fun _ e => e ▸ hr12)) ?_
        have hltg2 := hb2.lt
        have hltg3 := hb3.lt
        have hltg4 := hb4.lt
        have hltg6 := hb6.lt
        refine wle rfl (e_alloc (cs := (([Value.int .i64 0] ++ (List.map u8v (List.replicate 32 (0 : UInt8)))) : List Value).toArray) rfl (by rfl) rfl (fun w13 g8 hg8 hb8 hc hsz8 => ?_))
        have hzw13 := hc.size
        have HC := HC.tr hc
        have hst := hst.no hc
        have hb2 := hb2.ch hc (fun h => h)
        have hb3 := hb3.ch hc (fun h => h)
        have hb4 := hb4.ch hc (fun h => h)
        have hb6 := hb6.ch hc (fun h => h)
        have hge8 : w.heap.size ≤ g8 := by have := HC.size; omega
        have neg2_8 : g2 < g8 := by omega
        have neg3_8 : g3 < g8 := by omega
        have neg4_8 : g4 < g8 := by omega
        have neg6_8 : g6 < g8 := by omega
        refine wle rfl (e_stW (vs := (([i64 x12.bit] ++ (List.map u8v x12.side)) : List Value)) (szL sz125 (by first | rfl | (simp only [List.length_append, List.length_map, List.length_cons, List.length_nil, (show List.length x12.side = 32 from hx12k)]; done) | (simp only [List.length_append, List.length_map, List.length_cons, List.length_nil, List.size_toArray, (show List.length x12.side = 32 from hx12k)]; done))) (oneA (allOne rfl) (oneL one_u8 _)) rfl rfl hb8 (by first | rfl | (simp only [List.length_append, List.length_map, List.length_cons, List.length_nil, (show List.length (List.replicate 32 (0 : UInt8)) = 32 from (List.length_replicate ..)), (show List.length x12.side = 32 from hx12k)]; done) | (simp only [List.length_append, List.length_map, List.length_cons, List.length_nil, List.size_toArray, (show List.length (List.replicate 32 (0 : UInt8)) = 32 from (List.length_replicate ..)), (show List.length x12.side = 32 from hx12k)]; done)) (fun w14 hb8 hc hsz => ?_))
        have hzw14 := hc.size
        have HC := HC.trans hc (fun _ _ h => h) (fun k hk ht => absurd ht (by omega))
        first | have hst := hst.ch hc (by intro k hk ht; first | omega | (dsimp only at *; omega)) | have hst := hst.chT hc (by intro k hz hk ht; first | omega | (dsimp only at *; omega))
        have hb2 := hb2.ch hc (by omega)
        have hb3 := hb3.ch hc (by omega)
        have hb4 := hb4.ch hc (by omega)
        have hb6 := hb6.ch hc (by omega)
        refine wl_nil ?_
        refine x_seq ?_
        refine wc_seq ?_
        refine wc_seq ?_
        refine wc_draw (.st 0 1 (.st 1 0 (.st 2 1 (.st 4 0 (.st 5 1 (.st 6 0 (.st 7 1 (.st 3 2 (.st 8 2 (.st 9 0 .nil)))))))))) 10 (by kernel_rfl) (by kernel_rfl) (by kernel_rfl) (by repeat (first | with_reducible exact pan_body | with_reducible apply pan_then | with_reducible apply pan_in)) (fun x => Ch No w14.drew x) (Ch.refl _ _) ?_
        obtain ⟨w15, ew15⟩ : ∃ x, x = w14.drew := ⟨_, rfl⟩
        rw [← ew15]
        have hc : Ch No w14 w15 := by rw [ew15]; exact Ch.drew _
        have hszw15 : w15.heap.size = w14.heap.size := by rw [ew15]; rfl
        clear ew15
        have hzw15 := hc.size
        have HC := HC.tr hc
        have hst := hst.no hc
        have hb2 := hb2.ch hc (fun h => h)
        have hb3 := hb3.ch hc (fun h => h)
        have hb4 := hb4.ch hc (fun h => h)
        have hb6 := hb6.ch hc (fun h => h)
        have hb8 := hb8.ch hc (fun h => h)
        have hS : Ch No w15 w15 := Ch.refl _ _
        refine ws_h rfl rfl rfl rfl (p_ldA (cs := List.map u8v k) Tryd.underlying38 rfl (szL sz38 (by rw [List.length_map]; exact hk)) rfl (fun _ h => (rngL (hb2.ch h (fun h => h))))) ?_
        refine ws_p rfl rfl rfl rfl (p_fld (j := 0) Tryd.underlying125 rfl ⟨_, by rfl⟩ rfl rfl) ?_
        refine ws_h rfl rfl rfl rfl (p_ld Tryd.underlying3 rfl rfl (fun _ h => h.cell (fun h => h) (cell_at (p := []) (v := (i64 x12.bit : Value)) (r := ((List.map u8v x12.side) : List Value)) hb8 (by simp only [List.append_assoc, List.cons_append, List.nil_append, List.append_nil]) (by first | rfl | (simp only [List.length_append, List.length_map, List.length_cons, List.length_nil]; done) | (simp only [List.length_append, List.length_map, List.length_cons, List.length_nil, List.size_toArray]; done))))) ?_
        refine ws_p rfl rfl rfl rfl (p_fld (j := 2) Tryd.underlying45 rfl ⟨_, by rfl⟩ rfl rfl) ?_
        refine ws_h rfl rfl rfl rfl (p_ldA (cs := (List.map u8v pk)) Tryd.underlying38 rfl (szL sz38 (by first | rfl | (simp only [List.length_append, List.length_map, List.length_cons, List.length_nil, (show List.length pk = 32 from hpk)]; done) | (simp only [List.length_append, List.length_map, List.length_cons, List.length_nil, List.size_toArray, (show List.length pk = 32 from hpk)]; done))) rfl (fun _ h => rng_at (p := ([.slice As ls cs, .bool lf] : List Value)) (q := ((List.map u8v pk) : List Value)) (r := ((List.map u8v pv) : List Value)) (hb3.ch h (fun h => h)) (by simp only [List.append_assoc, List.cons_append, List.nil_append, List.append_nil]) (by first | rfl | (simp only [List.length_append, List.length_map, List.length_cons, List.length_nil]; done) | (simp only [List.length_append, List.length_map, List.length_cons, List.length_nil, List.size_toArray]; done)))) ?_
        refine ws_p rfl rfl rfl rfl (p_fld (j := 0) Tryd.underlying125 rfl ⟨_, by rfl⟩ rfl rfl) ?_
        refine ws_h rfl rfl rfl rfl (p_ld Tryd.underlying3 rfl rfl (fun _ h => h.cell (fun h => h) (cell_at (p := []) (v := (i64 x12.bit : Value)) (r := ((List.map u8v x12.side) : List Value)) hb8 (by simp only [List.append_assoc, List.cons_append, List.nil_append, List.append_nil]) (by first | rfl | (simp only [List.length_append, List.length_map, List.length_cons, List.length_nil]; done) | (simp only [List.length_append, List.length_map, List.length_cons, List.length_nil, List.size_toArray]; done))))) ?_
        refine ws_e rfl rfl (e_call ent39 rfl rfl (rbit_any (hk)) ?_)
        rintro _ w16 ⟨rfl, hc⟩
        refine ⟨_, rfl, hc, ?_⟩
        have hzw16 := hc.size
        have HC := HC.tr hc
        have hst := hst.no hc
        have hb2 := hb2.ch hc (fun h => h)
        have hb3 := hb3.ch hc (fun h => h)
        have hb4 := hb4.ch hc (fun h => h)
        have hb6 := hb6.ch hc (fun h => h)
        have hb8 := hb8.ch hc (fun h => h)
        refine ws_narrow (S' := fun x => Ch No w16 x) (Ch.refl _ _) (fun x h => hc.tr h) ?_
        refine ws_e rfl rfl (e_call ent39 rfl rfl (rbit_any (hpk)) ?_)
        rintro _ w17 ⟨rfl, hc⟩
        refine ⟨_, rfl, hc, ?_⟩
        have hzw17 := hc.size
        have HC := HC.tr hc
        have hst := hst.no hc
        have hb2 := hb2.ch hc (fun h => h)
        have hb3 := hb3.ch hc (fun h => h)
        have hb4 := hb4.ch hc (fun h => h)
        have hb6 := hb6.ch hc (fun h => h)
        have hb8 := hb8.ch hc (fun h => h)
        refine ws_narrow (S' := fun x => Ch No w17 x) (Ch.refl _ _) (fun x h => hc.tr h) ?_
        refine ws_p rfl rfl rfl rfl (p_ne rfl rfl) ?_
        refine ws_n ?_
        refine x_seq ?_
        refine wc_if rfl (fun c3 => ?_) (fun c3 => ?_)
        ·
          have c3 := of_decide_eq_true c3
          refine wc_seq ?_
          refine wc_region ?_
          refine wl rfl rfl rfl (p_bldP (cs := ((List.replicate 32 (0 : UInt8)).map u8v).toArray) rfl (fun _ => by kernel_rfl)) ?_
          refine wle rfl (e_stW (vs := List.map u8v (List.replicate 32 (0 : UInt8))) (szL sz38 (by rw [List.length_map]; exact (List.length_replicate ..))) (oneL one_u8 _) rfl rfl hb4 (by simp only [List.size_toArray, List.length_map]; first | done | exact ((List.length_replicate ..)).trans ((List.length_replicate ..)).symm) (fun w18 hb4 hc hsz => ?_))
          have hzw18 := hc.size
          have HC := HC.trans hc (fun _ _ h => h) (fun k hk ht => absurd ht (by omega))
          first | have hst := hst.ch hc (by intro k hk ht; first | omega | (dsimp only at *; omega)) | have hst := hst.chT hc (by intro k hz hk ht; first | omega | (dsimp only at *; omega))
          have hb2 := hb2.ch hc (by omega)
          have hb3 := hb3.ch hc (by omega)
          have hb6 := hb6.ch hc (by omega)
          have hb8 := hb8.ch hc (by omega)
          refine wl rfl rfl rfl (p_as rfl) ?_
          refine wl_nil ?_
          refine x_seq ?_
          refine wc_ret ?_
          refine x_then_ret ?_
          refine x_in_ret ?_
          refine x_then_ret ?_
          refine x_then_ret ?_
          refine x_in_ret ?_
          refine x_then_ret ?_
          refine fin_run (resMany (rs := [.cell 4 38, .tmp 5]) rfl (.cellA (cs := List.map u8v (List.replicate 32 (0 : UInt8))) rfl Tryd.underlying38 rfl (szL sz38 (by rw [List.length_map]; exact (List.length_replicate ..))) (rngL hb4) (.tmp rfl (.nil))) rfl) ?_
          have hno := climb_no hdr (ls := ls) (p := ls - j) (by omega) (by rw [show ls - (ls - j) = j by omega]; exact hcl) (show bitI k x12.bit ≠ bitI pk x12.bit by omega)
          exact ⟨_, _, rfl, List.length_replicate .., by rw [climbP, if_neg (by simpa using c0), if_neg (by simpa using c1), hno]; rfl, HC⟩
        ·
          have c3 := of_decide_eq_false c3
          refine wc_skip ?_
          refine x_seq ?_
          refine wc_seq ?_
          refine wc_region ?_
          refine wl rfl rfl rfl (p_ldA (cs := List.map u8v k) Tryd.underlying38 rfl (szL sz38 (by rw [List.length_map]; exact hk)) rfl (fun _ e => e ▸ rngL hb2)) ?_
          refine wl rfl rfl rfl (p_fld (j := 0) Tryd.underlying125 rfl ⟨_, by rfl⟩ rfl rfl) ?_
          refine wl rfl rfl rfl (p_ld Tryd.underlying3 rfl rfl (ld (cell_at (p := []) (v := (i64 x12.bit : Value)) (r := ((List.map u8v x12.side) : List Value)) hb8 (by simp only [List.append_assoc, List.cons_append, List.nil_append, List.append_nil]) (by first | rfl | (simp only [List.length_append, List.length_map, List.length_cons, List.length_nil]; done) | (simp only [List.length_append, List.length_map, List.length_cons, List.length_nil, List.size_toArray]; done))))) ?_
          refine wle rfl (e_call ent39 rfl rfl (rbit_any (hk)) ?_)
          rintro _ w19 ⟨rfl, hc⟩
          refine ⟨_, rfl, ?_⟩
          have hzw19 := hc.size
          have HC := HC.tr hc
          have hst := hst.no hc
          have hb2 := hb2.ch hc (fun h => h)
          have hb3 := hb3.ch hc (fun h => h)
          have hb4 := hb4.ch hc (fun h => h)
          have hb6 := hb6.ch hc (fun h => h)
          have hb8 := hb8.ch hc (fun h => h)
          refine wl rfl rfl rfl (p_eq rfl rfl) ?_
          refine wl_nil ?_
          refine x_seq ?_
          refine wc_if rfl (fun c4 => ?_) (fun c4 => ?_)
          ·
            have c4 := of_decide_eq_true c4
            refine wc_region ?_
            refine wl rfl rfl rfl (p_fld (j := 0) Tryd.underlying125 rfl ⟨_, by rfl⟩ rfl rfl) ?_
            refine wl rfl rfl rfl (p_ld Tryd.underlying3 rfl rfl (ld (cell_at (p := []) (v := (i64 x12.bit : Value)) (r := ((List.map u8v x12.side) : List Value)) hb8 (by simp only [List.append_assoc, List.cons_append, List.nil_append, List.append_nil]) (by first | rfl | (simp only [List.length_append, List.length_map, List.length_cons, List.length_nil]; done) | (simp only [List.length_append, List.length_map, List.length_cons, List.length_nil, List.size_toArray]; done))))) ?_
            refine wl rfl rfl rfl (p_ldA (cs := List.map u8v h) Tryd.underlying38 rfl (szL sz38 (by rw [List.length_map]; exact hh)) rfl (fun _ e => e ▸ rngL hb6)) ?_
            refine wl rfl rfl rfl (p_fld (j := 1) Tryd.underlying125 rfl ⟨_, by rfl⟩ rfl rfl) ?_
            refine wl rfl rfl rfl (p_ldA (cs := (List.map u8v x12.side)) Tryd.underlying38 rfl (szL sz38 (by first | rfl | (simp only [List.length_append, List.length_map, List.length_cons, List.length_nil, (show List.length x12.side = 32 from hx12k)]; done) | (simp only [List.length_append, List.length_map, List.length_cons, List.length_nil, List.size_toArray, (show List.length x12.side = 32 from hx12k)]; done))) rfl (fun _ e => e ▸ rng_at (p := ([i64 x12.bit] : List Value)) (q := ((List.map u8v x12.side) : List Value)) (r := []) hb8 (by simp only [List.append_assoc, List.cons_append, List.nil_append, List.append_nil]) (by first | rfl | (simp only [List.length_append, List.length_map, List.length_cons, List.length_nil]; done) | (simp only [List.length_append, List.length_map, List.length_cons, List.length_nil, List.size_toArray]; done)))) ?_
            refine wle rfl (e_call ent78 rfl rfl (rtfork_any (hh) (hx12k)) ?_)
            rintro _ w20 ⟨rfl, hc⟩
            refine ⟨_, rfl, ?_⟩
            have hzw20 := hc.size
            have HC := HC.tr hc
            have hst := hst.no hc
            have hb2 := hb2.ch hc (fun h => h)
            have hb3 := hb3.ch hc (fun h => h)
            have hb4 := hb4.ch hc (fun h => h)
            have hb6 := hb6.ch hc (fun h => h)
            have hb8 := hb8.ch hc (fun h => h)
            refine wle rfl (e_stW (vs := List.map u8v (forkH (b8i x12.bit) h x12.side)) (szL sz38 (by rw [List.length_map]; exact (forkH_len _ _ _ ))) (oneL one_u8 _) rfl rfl hb6 (by simp only [List.size_toArray, List.length_map]; first | done | exact (hh).trans ((forkH_len _ _ _ )).symm) (fun w21 hb6 hc hsz => ?_))
            have hzw21 := hc.size
            have HC := HC.trans hc (fun _ _ h => h) (fun k hk ht => absurd ht (by omega))
            first | have hst := hst.ch hc (by intro k hk ht; first | omega | (dsimp only at *; omega)) | have hst := hst.chT hc (by intro k hz hk ht; first | omega | (dsimp only at *; omega))
            have hb2 := hb2.ch hc (by omega)
            have hb3 := hb3.ch hc (by omega)
            have hb4 := hb4.ch hc (by omega)
            have hb8 := hb8.ch hc (by omega)
            refine wl_nil ?_
            refine x_in_normal ?_
            refine x_seq ?_
            refine wc_region ?_
            refine wl rfl rfl rfl (p_mv rfl) ?_
            refine wl rfl rfl rfl (p_sub (Z := ((j - 1 : Nat) : Int) - 1) rfl rfl (by rw [w64 (by omega)]; omega)) ?_
            refine wl rfl rfl rfl (p_as rfl) ?_
            refine wl_nil ?_
            refine x_round (e' := [(2, .pointer (some ⟨g2, 0, none⟩)), (3, .pointer (some ⟨g3, 0, none⟩)), (4, .pointer (some ⟨g4, 0, none⟩)), (6, .pointer (some ⟨g6, 0, none⟩)), (7, i64 ((((j - 1 : Nat)) : Int) - 1))]) ⟨rfl, rfl, rfl, rfl, rfl, trivial⟩ (by rw [hm0]; omega) ⟨(j - 1 : Nat), (forkH (b8i x12.bit) h x12.side), rfl, rfl, (by omega), (forkH_len _ _ _), (by have h1 := climb_ok (s := bitI k x12.bit) (u := (forkH (b8i x12.bit) h x12.side)) hdr (ls := ls) (p := ls - j) (by omega) (by rw [show ls - (ls - j) = j by omega]; exact hcl) rfl (by omega) (by rw [if_pos (by omega)]); rw [show ls - (ls - j + 1) = j - 1 by omega] at h1; exact h1), hst, hb2, hb3, hb4, hb6, (by omega), HC⟩
          ·
            have c4 := of_decide_eq_false c4
            refine wc_region ?_
            refine wl rfl rfl rfl (p_fld (j := 0) Tryd.underlying125 rfl ⟨_, by rfl⟩ rfl rfl) ?_
            refine wl rfl rfl rfl (p_ld Tryd.underlying3 rfl rfl (ld (cell_at (p := []) (v := (i64 x12.bit : Value)) (r := ((List.map u8v x12.side) : List Value)) hb8 (by simp only [List.append_assoc, List.cons_append, List.nil_append, List.append_nil]) (by first | rfl | (simp only [List.length_append, List.length_map, List.length_cons, List.length_nil]; done) | (simp only [List.length_append, List.length_map, List.length_cons, List.length_nil, List.size_toArray]; done))))) ?_
            refine wl rfl rfl rfl (p_fld (j := 1) Tryd.underlying125 rfl ⟨_, by rfl⟩ rfl rfl) ?_
            refine wl rfl rfl rfl (p_ldA (cs := (List.map u8v x12.side)) Tryd.underlying38 rfl (szL sz38 (by first | rfl | (simp only [List.length_append, List.length_map, List.length_cons, List.length_nil, (show List.length x12.side = 32 from hx12k)]; done) | (simp only [List.length_append, List.length_map, List.length_cons, List.length_nil, List.size_toArray, (show List.length x12.side = 32 from hx12k)]; done))) rfl (fun _ e => e ▸ rng_at (p := ([i64 x12.bit] : List Value)) (q := ((List.map u8v x12.side) : List Value)) (r := []) hb8 (by simp only [List.append_assoc, List.cons_append, List.nil_append, List.append_nil]) (by first | rfl | (simp only [List.length_append, List.length_map, List.length_cons, List.length_nil]; done) | (simp only [List.length_append, List.length_map, List.length_cons, List.length_nil, List.size_toArray]; done)))) ?_
            refine wl rfl rfl rfl (p_ldA (cs := List.map u8v h) Tryd.underlying38 rfl (szL sz38 (by rw [List.length_map]; exact hh)) rfl (fun _ e => e ▸ rngL hb6)) ?_
            refine wle rfl (e_call ent78 rfl rfl (rtfork_any (hx12k) (hh)) ?_)
            rintro _ w22 ⟨rfl, hc⟩
            refine ⟨_, rfl, ?_⟩
            have hzw22 := hc.size
            have HC := HC.tr hc
            have hst := hst.no hc
            have hb2 := hb2.ch hc (fun h => h)
            have hb3 := hb3.ch hc (fun h => h)
            have hb4 := hb4.ch hc (fun h => h)
            have hb6 := hb6.ch hc (fun h => h)
            have hb8 := hb8.ch hc (fun h => h)
            refine wle rfl (e_stW (vs := List.map u8v (forkH (b8i x12.bit) x12.side h)) (szL sz38 (by rw [List.length_map]; exact (forkH_len _ _ _ ))) (oneL one_u8 _) rfl rfl hb6 (by simp only [List.size_toArray, List.length_map]; first | done | exact (hh).trans ((forkH_len _ _ _ )).symm) (fun w23 hb6 hc hsz => ?_))
            have hzw23 := hc.size
            have HC := HC.trans hc (fun _ _ h => h) (fun k hk ht => absurd ht (by omega))
            first | have hst := hst.ch hc (by intro k hk ht; first | omega | (dsimp only at *; omega)) | have hst := hst.chT hc (by intro k hz hk ht; first | omega | (dsimp only at *; omega))
            have hb2 := hb2.ch hc (by omega)
            have hb3 := hb3.ch hc (by omega)
            have hb4 := hb4.ch hc (by omega)
            have hb8 := hb8.ch hc (by omega)
            refine wl_nil ?_
            refine x_in_normal ?_
            refine x_seq ?_
            refine wc_region ?_
            refine wl rfl rfl rfl (p_mv rfl) ?_
            refine wl rfl rfl rfl (p_sub (Z := ((j - 1 : Nat) : Int) - 1) rfl rfl (by rw [w64 (by omega)]; omega)) ?_
            refine wl rfl rfl rfl (p_as rfl) ?_
            refine wl_nil ?_
            refine x_round (e' := [(2, .pointer (some ⟨g2, 0, none⟩)), (3, .pointer (some ⟨g3, 0, none⟩)), (4, .pointer (some ⟨g4, 0, none⟩)), (6, .pointer (some ⟨g6, 0, none⟩)), (7, i64 ((((j - 1 : Nat)) : Int) - 1))]) ⟨rfl, rfl, rfl, rfl, rfl, trivial⟩ (by rw [hm0]; omega) ⟨(j - 1 : Nat), (forkH (b8i x12.bit) x12.side h), rfl, rfl, (by omega), (forkH_len _ _ _), (by have h1 := climb_ok (s := bitI k x12.bit) (u := (forkH (b8i x12.bit) x12.side h)) hdr (ls := ls) (p := ls - j) (by omega) (by rw [show ls - (ls - j) = j by omega]; exact hcl) rfl (by omega) (by rw [if_neg (by omega)]); rw [show ls - (ls - j + 1) = j - 1 by omega] at h1; exact h1), hst, hb2, hb3, hb4, hb6, (by omega), HC⟩
      ·
        have c2 := of_decide_eq_false c2
        refine wc_exit ?_
        refine x_then_exit ?_
        refine x_then_exit ?_
        refine x_in_here ?_
        refine x_seq ?_
        refine wc_seq ?_
        refine wc_region ?_
        refine wl rfl rfl rfl (p_ldA (cs := List.map u8v h) Tryd.underlying38 rfl (szL sz38 (by rw [List.length_map]; exact hh)) rfl (fun _ e => e ▸ rngL hb6)) ?_
        refine wle rfl (e_stW (vs := List.map u8v h) (szL sz38 (by rw [List.length_map]; exact hh)) (oneL one_u8 _) rfl rfl hb4 (by simp only [List.size_toArray, List.length_map]; first | done | exact ((List.length_replicate ..)).trans (hh).symm) (fun w24 hb4 hc hsz => ?_))
        have hzw24 := hc.size
        have HC := HC.trans hc (fun _ _ h => h) (fun k hk ht => absurd ht (by omega))
        first | have hst := hst.ch hc (by intro k hk ht; first | omega | (dsimp only at *; omega)) | have hst := hst.chT hc (by intro k hz hk ht; first | omega | (dsimp only at *; omega))
        have hb2 := hb2.ch hc (by omega)
        have hb3 := hb3.ch hc (by omega)
        have hb6 := hb6.ch hc (by omega)
        refine wl rfl rfl rfl (p_as rfl) ?_
        refine wl_nil ?_
        refine x_seq ?_
        refine wc_ret ?_
        refine fin_run (resMany (rs := [.cell 4 38, .tmp 5]) rfl (.cellA (cs := List.map u8v h) rfl Tryd.underlying38 rfl (szL sz38 (by rw [List.length_map]; exact hh)) (rngL hb4) (.tmp rfl (.nil))) rfl) ?_
        rw [show j = 0 by omega, List.drop_zero] at hcl
        exact ⟨_, _, rfl, hh, by rw [climbP, if_neg (by simpa using c0), if_neg (by simpa using c1), hcl]; rfl, HC⟩

set_option maxHeartbeats 1000000 in
set_option maxRecDepth 20000 in
theorem mcheck_any {w : World}  {r : List UInt8} {k : List UInt8} {As : Option Addr} {ls cs : Nat} {Fs : Nat → Prop} {st : List Stp} {lf : Bool} {pk pv : List UInt8} (hr : r.length = 32) (hk : k.length = 32) (hst : SI w Fs eST As ls cs st) (hpk : pk.length = 32) (hpv : pv.length = 32) (hls : ls ≤ 1000000) (hrnd : Sl w (fun k => k = 0) u32v (some ⟨0, 0, none⟩) 64 64 rk) :
    Calls Tryd.prog 32 #[hv r, hv k, .agg (([.slice As ls cs, .bool lf] ++ ((List.map u8v pk) ++ (List.map u8v pv))) : List Value).toArray] w fun e w' => ∃ (u : List UInt8) (a b : Bool), e = .returned (.tuple #[hv u, .bool a, .bool b]) ∧ u.length = 32 ∧ (u, a, b) = checkP r k st lf pk pv ∧ Ch No w w' := by
  have hstl := hst.len
  have hn0 : 0 < w.heap.size := hrnd.size (by omega) rfl
  have hn1 := hn0
  have hst := hst.old
  have HC : Ch No w w := Ch.refl _ _
  refine enter' (args := [hv r, hv k, _]) (n := 38) Tryd.func32 rfl rfl rfl ?_
  refine wc_seq ?_
  refine wc_region ?_
  refine wle rfl (e_box (cs := (List.map u8v r).toArray) rfl rfl rfl (fun w1 g3 hg3 hb3 hc hsz3 => ?_))
  have hzw1 := hc.size
  have HC := HC.tr hc
  have hst := hst.no hc
  have hrnd := hrnd.no hc
  have hge3 : w.heap.size ≤ g3 := by have := HC.size; omega
  have hltg3 := hb3.lt
  refine wle rfl (e_box (cs := (List.map u8v k).toArray) rfl rfl rfl (fun w2 g4 hg4 hb4 hc hsz4 => ?_))
  have hzw2 := hc.size
  have HC := HC.tr hc
  have hst := hst.no hc
  have hrnd := hrnd.no hc
  have hb3 := hb3.ch hc (fun h => h)
  have hge4 : w.heap.size ≤ g4 := by have := HC.size; omega
  have neg3_4 : g3 < g4 := by omega
  have hltg3 := hb3.lt
  have hltg4 := hb4.lt
  refine wle rfl (e_box (cs := (([.slice As ls cs, .bool lf] ++ ((List.map u8v pk) ++ (List.map u8v pv))) : List Value).toArray) rfl rfl rfl (fun w3 g5 hg5 hb5 hc hsz5 => ?_))
  have hzw3 := hc.size
  have HC := HC.tr hc
  have hst := hst.no hc
  have hrnd := hrnd.no hc
  have hb3 := hb3.ch hc (fun h => h)
  have hb4 := hb4.ch hc (fun h => h)
  have hge5 : w.heap.size ≤ g5 := by have := HC.size; omega
  have neg3_5 : g3 < g5 := by omega
  have neg4_5 : g4 < g5 := by omega
  have hltg3 := hb3.lt
  have hltg4 := hb4.lt
  have hltg5 := hb5.lt
  refine wle rfl (e_alloc (cs := ((List.replicate 32 (0 : UInt8)).map u8v).toArray) rfl (by rfl) rfl (fun w4 g6 hg6 hb6 hc hsz6 => ?_))
  have hzw4 := hc.size
  have HC := HC.tr hc
  have hst := hst.no hc
  have hrnd := hrnd.no hc
  have hb3 := hb3.ch hc (fun h => h)
  have hb4 := hb4.ch hc (fun h => h)
  have hb5 := hb5.ch hc (fun h => h)
  have hge6 : w.heap.size ≤ g6 := by have := HC.size; omega
  have neg3_6 : g3 < g6 := by omega
  have neg4_6 : g4 < g6 := by omega
  have neg5_6 : g5 < g6 := by omega
  refine wl rfl rfl rfl (p_as rfl) ?_
  refine wl rfl rfl rfl (p_as rfl) ?_
  refine wl_nil ?_
  refine x_seq ?_
  refine wc_seq ?_
  refine wc_region ?_
  refine wl rfl rfl rfl (p_ldA (cs := List.map u8v k) Tryd.underlying38 rfl (szL sz38 (by rw [List.length_map]; exact hk)) rfl (fun _ e => e ▸ rngL hb4)) ?_
  refine wl rfl rfl rfl (p_ldA (cs := (([.slice As ls cs, .bool lf] ++ ((List.map u8v pk) ++ (List.map u8v pv))) : List Value)) Tryd.underlying49 rfl (szL sz49 (by first | rfl | (simp only [List.length_append, List.length_map, List.length_cons, List.length_nil, (show List.length pk = 32 from hpk), (show List.length pv = 32 from hpv)]; done) | (simp only [List.length_append, List.length_map, List.length_cons, List.length_nil, List.size_toArray, (show List.length pk = 32 from hpk), (show List.length pv = 32 from hpv)]; done))) rfl (fun _ e => e ▸ rngL hb5)) ?_
  refine wle rfl (e_call ent30 rfl rfl (mclimb_any (hk) (hst) (hpk) (hpv) (by omega) hrnd) ?_)
  rintro _ w5 ⟨cu, cok, rfl, hcu, hcr, hc⟩
  refine ⟨_, rfl, ?_⟩
  have hzw5 := hc.size
  have HC := HC.tr hc
  have hst := hst.no hc
  have hrnd := hrnd.no hc
  have hb3 := hb3.ch hc (fun h => h)
  have hb4 := hb4.ch hc (fun h => h)
  have hb5 := hb5.ch hc (fun h => h)
  have hb6 := hb6.ch hc (fun h => h)
  refine wl rfl rfl rfl (p_mv rfl) ?_
  refine wl rfl rfl rfl (p_ext rfl rfl) ?_
  refine wl rfl rfl rfl (p_ext rfl rfl) ?_
  have hltg3 := hb3.lt
  have hltg4 := hb4.lt
  have hltg5 := hb5.lt
  have hltg6 := hb6.lt
  refine wle rfl (e_alloc (cs := ((List.replicate 32 (0 : UInt8)).map u8v).toArray) rfl (by rfl) rfl (fun w6 g9 hg9 hb9 hc hsz9 => ?_))
  have hzw6 := hc.size
  have HC := HC.tr hc
  have hst := hst.no hc
  have hrnd := hrnd.no hc
  have hb3 := hb3.ch hc (fun h => h)
  have hb4 := hb4.ch hc (fun h => h)
  have hb5 := hb5.ch hc (fun h => h)
  have hb6 := hb6.ch hc (fun h => h)
  have hge9 : w.heap.size ≤ g9 := by have := HC.size; omega
  have neg3_9 : g3 < g9 := by omega
  have neg4_9 : g4 < g9 := by omega
  have neg5_9 : g5 < g9 := by omega
  have neg6_9 : g6 < g9 := by omega
  refine wle rfl (e_stW (vs := List.map u8v cu) (szL sz38 (by rw [List.length_map]; exact hcu)) (oneL one_u8 _) rfl rfl hb9 (by simp only [List.size_toArray, List.length_map]; first | done | exact ((List.length_replicate ..)).trans (hcu).symm) (fun w7 hb9 hc hsz => ?_))
  have hzw7 := hc.size
  have HC := HC.trans hc (fun _ _ h => h) (fun k hk ht => absurd ht (by omega))
  first | have hst := hst.ch hc (by intro k hk ht; first | omega | (dsimp only at *; omega)) | have hst := hst.chT hc (by intro k hz hk ht; first | omega | (dsimp only at *; omega))
  first | have hrnd := hrnd.ch hc (by intro k hk ht; first | omega | (dsimp only at *; omega)) | have hrnd := hrnd.chT hc (by intro k hz hk ht; first | omega | (dsimp only at *; omega))
  have hb3 := hb3.ch hc (by omega)
  have hb4 := hb4.ch hc (by omega)
  have hb5 := hb5.ch hc (by omega)
  have hb6 := hb6.ch hc (by omega)
  refine wl rfl rfl rfl (p_as rfl) ?_
  refine wl_nil ?_
  refine x_seq ?_
  refine wc_seq ?_
  refine wc_block ?_
  refine wc_seq ?_
  refine wc_region ?_
  refine wl rfl rfl rfl (p_mv rfl) ?_
  refine wl rfl rfl rfl (p_not rfl) ?_
  refine wl rfl rfl rfl (p_mv rfl) ?_
  refine wl_split (d := 20) rfl (fun q20 => ?_) (fun q20 => ?_)
  ·
    refine wl_s (gd_ rfl rfl rfl rfl rfl rfl) rfl rfl ?_
    refine wl_s (gd_ rfl rfl rfl rfl rfl rfl) rfl rfl ?_
    refine wl_s (gd_ rfl rfl rfl rfl rfl rfl) rfl rfl ?_
    refine wl rfl rfl rfl (p_pickT rfl rfl) ?_
    refine wl rfl rfl rfl (p_as rfl) ?_
    refine wl_nil ?_
    refine x_seq ?_
    refine wc_yes rfl (rfl) ?_
    refine wc_seq ?_
    refine wc_region ?_
    refine wl rfl rfl rfl (p_bldP (cs := ((List.replicate 32 (0 : UInt8)).map u8v).toArray) rfl (fun _ => by kernel_rfl)) ?_
    refine wle rfl (e_stW (vs := List.map u8v (List.replicate 32 (0 : UInt8))) (szL sz38 (by rw [List.length_map]; exact (List.length_replicate ..))) (oneL one_u8 _) rfl rfl hb6 (by simp only [List.size_toArray, List.length_map]; first | done | exact ((List.length_replicate ..)).trans ((List.length_replicate ..)).symm) (fun w8 hb6 hc hsz => ?_))
    have hzw8 := hc.size
    have HC := HC.trans hc (fun _ _ h => h) (fun k hk ht => absurd ht (by omega))
    first | have hst := hst.ch hc (by intro k hk ht; first | omega | (dsimp only at *; omega)) | have hst := hst.chT hc (by intro k hz hk ht; first | omega | (dsimp only at *; omega))
    first | have hrnd := hrnd.ch hc (by intro k hk ht; first | omega | (dsimp only at *; omega)) | have hrnd := hrnd.chT hc (by intro k hz hk ht; first | omega | (dsimp only at *; omega))
    have hb3 := hb3.ch hc (by omega)
    have hb4 := hb4.ch hc (by omega)
    have hb5 := hb5.ch hc (by omega)
    have hb9 := hb9.ch hc (by omega)
    refine wl rfl rfl rfl (p_as rfl) ?_
    refine wl rfl rfl rfl (p_as rfl) ?_
    refine wl_nil ?_
    refine x_seq ?_
    refine wc_ret ?_
    refine x_in_ret ?_
    refine x_then_ret ?_
    refine fin_run (resMany (rs := [.cell 6 38, .tmp 7, .tmp 8]) rfl (.cellA (cs := List.map u8v (List.replicate 32 (0 : UInt8))) rfl Tryd.underlying38 rfl (szL sz38 (by rw [List.length_map]; exact (List.length_replicate ..))) (rngL hb6) (.tmp rfl (.tmp rfl (.nil)))) rfl) ?_
    exact ⟨_, _, _, rfl, by first | exact hpv | exact List.length_replicate .., ck_a hcr q20, HC⟩
  ·
    refine wl_g (gd_ rfl rfl rfl rfl rfl rfl) rfl rfl (p_ldA (cs := List.map u8v cu) Tryd.underlying38 rfl (szL sz38 (by rw [List.length_map]; exact hcu)) rfl (fun _ e => e ▸ rngL hb9)) ?_
    refine wl_g (gd_ rfl rfl rfl rfl rfl rfl) rfl rfl (p_ldA (cs := List.map u8v r) Tryd.underlying38 rfl (szL sz38 (by rw [List.length_map]; exact hr)) rfl (fun _ e => e ▸ rngL hb3)) ?_
    refine wl_g (gd_ rfl rfl rfl rfl rfl rfl) rfl rfl (p_neH (a := cu) (b := r) (by kernel_rfl) Tryd.underlying38 Tryd.underlying5 sz5 rfl rfl (hcu) (hr)) ?_
    refine wl rfl rfl rfl (p_pickF rfl rfl) ?_
    refine wl rfl rfl rfl (p_as rfl) ?_
    refine wl_nil ?_
    refine x_seq ?_
    refine wc_if rfl (fun c0 => ?_) (fun c0 => ?_)
    ·
      refine wc_seq ?_
      refine wc_region ?_
      refine wl rfl rfl rfl (p_bldP (cs := ((List.replicate 32 (0 : UInt8)).map u8v).toArray) rfl (fun _ => by kernel_rfl)) ?_
      refine wle rfl (e_stW (vs := List.map u8v (List.replicate 32 (0 : UInt8))) (szL sz38 (by rw [List.length_map]; exact (List.length_replicate ..))) (oneL one_u8 _) rfl rfl hb6 (by simp only [List.size_toArray, List.length_map]; first | done | exact ((List.length_replicate ..)).trans ((List.length_replicate ..)).symm) (fun w9 hb6 hc hsz => ?_))
      have hzw9 := hc.size
      have HC := HC.trans hc (fun _ _ h => h) (fun k hk ht => absurd ht (by omega))
      first | have hst := hst.ch hc (by intro k hk ht; first | omega | (dsimp only at *; omega)) | have hst := hst.chT hc (by intro k hz hk ht; first | omega | (dsimp only at *; omega))
      first | have hrnd := hrnd.ch hc (by intro k hk ht; first | omega | (dsimp only at *; omega)) | have hrnd := hrnd.chT hc (by intro k hz hk ht; first | omega | (dsimp only at *; omega))
      have hb3 := hb3.ch hc (by omega)
      have hb4 := hb4.ch hc (by omega)
      have hb5 := hb5.ch hc (by omega)
      have hb9 := hb9.ch hc (by omega)
      refine wl rfl rfl rfl (p_as rfl) ?_
      refine wl rfl rfl rfl (p_as rfl) ?_
      refine wl_nil ?_
      refine x_seq ?_
      refine wc_ret ?_
      refine x_in_ret ?_
      refine x_then_ret ?_
      refine fin_run (resMany (rs := [.cell 6 38, .tmp 7, .tmp 8]) rfl (.cellA (cs := List.map u8v (List.replicate 32 (0 : UInt8))) rfl Tryd.underlying38 rfl (szL sz38 (by rw [List.length_map]; exact (List.length_replicate ..))) (rngL hb6) (.tmp rfl (.tmp rfl (.nil)))) rfl) ?_
      exact ⟨_, _, _, rfl, by first | exact hpv | exact List.length_replicate .., ck_b hcr c0, HC⟩
    ·
      refine wc_seq ?_
      refine wc_region ?_
      refine wl rfl rfl rfl (p_fld (j := 1) Tryd.underlying49 rfl ⟨_, by rfl⟩ rfl rfl) ?_
      refine wl rfl rfl rfl (p_ld Tryd.underlying4 rfl rfl (ld (cell_at (p := ([.slice As ls cs] : List Value)) (v := (.bool lf : Value)) (r := (((List.map u8v pk) ++ (List.map u8v pv)) : List Value)) hb5 (by simp only [List.append_assoc, List.cons_append, List.nil_append, List.append_nil]) (by first | rfl | (simp only [List.length_append, List.length_map, List.length_cons, List.length_nil]; done) | (simp only [List.length_append, List.length_map, List.length_cons, List.length_nil, List.size_toArray]; done))))) ?_
      refine wl rfl rfl rfl (p_mv rfl) ?_
      refine wl_split (d := 29) rfl (fun q29 => ?_) (fun q29 => ?_)
      ·
        refine wl_g (gd_ rfl rfl rfl rfl rfl rfl) rfl rfl (p_fld (j := 2) Tryd.underlying49 rfl ⟨_, by rfl⟩ rfl rfl) ?_
        refine wl_g (gd_ rfl rfl rfl rfl rfl rfl) rfl rfl (p_ldA (cs := (List.map u8v pk)) Tryd.underlying38 rfl (szL sz38 (by first | rfl | (simp only [List.length_append, List.length_map, List.length_cons, List.length_nil, (show List.length pk = 32 from hpk)]; done) | (simp only [List.length_append, List.length_map, List.length_cons, List.length_nil, List.size_toArray, (show List.length pk = 32 from hpk)]; done))) rfl (fun _ e => e ▸ rng_at (p := ([.slice As ls cs, .bool lf] : List Value)) (q := ((List.map u8v pk) : List Value)) (r := ((List.map u8v pv) : List Value)) hb5 (by simp only [List.append_assoc, List.cons_append, List.nil_append, List.append_nil]) (by first | rfl | (simp only [List.length_append, List.length_map, List.length_cons, List.length_nil]; done) | (simp only [List.length_append, List.length_map, List.length_cons, List.length_nil, List.size_toArray]; done)))) ?_
        refine wl_g (gd_ rfl rfl rfl rfl rfl rfl) rfl rfl (p_ldA (cs := List.map u8v k) Tryd.underlying38 rfl (szL sz38 (by rw [List.length_map]; exact hk)) rfl (fun _ e => e ▸ rngL hb4)) ?_
        refine wl_g (gd_ rfl rfl rfl rfl rfl rfl) rfl rfl (p_eqH (a := pk) (b := k) (by kernel_rfl) Tryd.underlying38 Tryd.underlying5 sz5 rfl rfl (hpk) (hk)) ?_
        refine wl rfl rfl rfl (p_pickT rfl rfl) ?_
        refine wl rfl rfl rfl (p_as rfl) ?_
        refine wl_nil ?_
        refine x_seq ?_
        refine wc_if rfl (fun c1 => ?_) (fun c1 => ?_)
        ·
          refine wc_seq ?_
          refine wc_region ?_
          refine wl rfl rfl rfl (p_fld (j := 34) Tryd.underlying49 rfl ⟨_, by rfl⟩ rfl rfl) ?_
          refine wl rfl rfl rfl (p_ldA (cs := (List.map u8v pv)) Tryd.underlying38 rfl (szL sz38 (by first | rfl | (simp only [List.length_append, List.length_map, List.length_cons, List.length_nil, (show List.length pv = 32 from hpv)]; done) | (simp only [List.length_append, List.length_map, List.length_cons, List.length_nil, List.size_toArray, (show List.length pv = 32 from hpv)]; done))) rfl (fun _ e => e ▸ rng_at (p := (([.slice As ls cs, .bool lf] ++ (List.map u8v pk)) : List Value)) (q := ((List.map u8v pv) : List Value)) (r := []) hb5 (by simp only [List.append_assoc, List.cons_append, List.nil_append, List.append_nil]) (by first | rfl | (simp only [List.length_append, List.length_map, List.length_cons, List.length_nil, (show List.length pk = 32 from hpk)]; done) | (simp only [List.length_append, List.length_map, List.length_cons, List.length_nil, List.size_toArray, (show List.length pk = 32 from hpk)]; done)))) ?_
          refine wle rfl (e_stW (vs := List.map u8v pv) (szL sz38 (by rw [List.length_map]; exact hpv)) (oneL one_u8 _) rfl rfl hb6 (by simp only [List.size_toArray, List.length_map]; first | done | exact ((List.length_replicate ..)).trans (hpv).symm) (fun w10 hb6 hc hsz => ?_))
          have hzw10 := hc.size
          have HC := HC.trans hc (fun _ _ h => h) (fun k hk ht => absurd ht (by omega))
          first | have hst := hst.ch hc (by intro k hk ht; first | omega | (dsimp only at *; omega)) | have hst := hst.chT hc (by intro k hz hk ht; first | omega | (dsimp only at *; omega))
          first | have hrnd := hrnd.ch hc (by intro k hk ht; first | omega | (dsimp only at *; omega)) | have hrnd := hrnd.chT hc (by intro k hz hk ht; first | omega | (dsimp only at *; omega))
          have hb3 := hb3.ch hc (by omega)
          have hb4 := hb4.ch hc (by omega)
          have hb5 := hb5.ch hc (by omega)
          have hb9 := hb9.ch hc (by omega)
          refine wl rfl rfl rfl (p_as rfl) ?_
          refine wl rfl rfl rfl (p_as rfl) ?_
          refine wl_nil ?_
          refine x_seq ?_
          refine wc_ret ?_
          refine x_in_ret ?_
          refine x_then_ret ?_
          refine fin_run (resMany (rs := [.cell 6 38, .tmp 7, .tmp 8]) rfl (.cellA (cs := List.map u8v pv) rfl Tryd.underlying38 rfl (szL sz38 (by rw [List.length_map]; exact hpv)) (rngL hb6) (.tmp rfl (.tmp rfl (.nil)))) rfl) ?_
          exact ⟨_, _, _, rfl, by first | exact hpv | exact List.length_replicate .., ck_c hcr q20 c0 q29 c1, HC⟩
        ·
          refine wc_skip ?_
          refine x_in_normal ?_
          refine x_seq ?_
          refine wc_seq ?_
          refine wc_region ?_
          refine wl rfl rfl rfl (p_bldP (cs := ((List.replicate 32 (0 : UInt8)).map u8v).toArray) rfl (fun _ => by kernel_rfl)) ?_
          refine wle rfl (e_stW (vs := List.map u8v (List.replicate 32 (0 : UInt8))) (szL sz38 (by rw [List.length_map]; exact (List.length_replicate ..))) (oneL one_u8 _) rfl rfl hb6 (by simp only [List.size_toArray, List.length_map]; first | done | exact ((List.length_replicate ..)).trans ((List.length_replicate ..)).symm) (fun w11 hb6 hc hsz => ?_))
          have hzw11 := hc.size
          have HC := HC.trans hc (fun _ _ h => h) (fun k hk ht => absurd ht (by omega))
          first | have hst := hst.ch hc (by intro k hk ht; first | omega | (dsimp only at *; omega)) | have hst := hst.chT hc (by intro k hz hk ht; first | omega | (dsimp only at *; omega))
          first | have hrnd := hrnd.ch hc (by intro k hk ht; first | omega | (dsimp only at *; omega)) | have hrnd := hrnd.chT hc (by intro k hz hk ht; first | omega | (dsimp only at *; omega))
          have hb3 := hb3.ch hc (by omega)
          have hb4 := hb4.ch hc (by omega)
          have hb5 := hb5.ch hc (by omega)
          have hb9 := hb9.ch hc (by omega)
          refine wl rfl rfl rfl (p_as rfl) ?_
          refine wl rfl rfl rfl (p_as rfl) ?_
          refine wl_nil ?_
          refine x_seq ?_
          refine wc_ret ?_
          refine fin_run (resMany (rs := [.cell 6 38, .tmp 7, .tmp 8]) rfl (.cellA (cs := List.map u8v (List.replicate 32 (0 : UInt8))) rfl Tryd.underlying38 rfl (szL sz38 (by rw [List.length_map]; exact (List.length_replicate ..))) (rngL hb6) (.tmp rfl (.tmp rfl (.nil)))) rfl) ?_
          exact ⟨_, _, _, rfl, by first | exact hpv | exact List.length_replicate .., ck_f hcr q20 c0 c1, HC⟩
      ·
        refine wl_s (gd_ rfl rfl rfl rfl rfl rfl) rfl rfl ?_
        refine wl_s (gd_ rfl rfl rfl rfl rfl rfl) rfl rfl ?_
        refine wl_s (gd_ rfl rfl rfl rfl rfl rfl) rfl rfl ?_
        refine wl_s (gd_ rfl rfl rfl rfl rfl rfl) rfl rfl ?_
        refine wl rfl rfl rfl (p_pickF rfl rfl) ?_
        refine wl rfl rfl rfl (p_as rfl) ?_
        refine wl_nil ?_
        refine x_seq ?_
        refine wc_no rfl (rfl) ?_
        refine wc_skip ?_
        refine x_in_normal ?_
        refine x_seq ?_
        refine wc_seq ?_
        refine wc_region ?_
        refine wl rfl rfl rfl (p_bldP (cs := ((List.replicate 32 (0 : UInt8)).map u8v).toArray) rfl (fun _ => by kernel_rfl)) ?_
        refine wle rfl (e_stW (vs := List.map u8v (List.replicate 32 (0 : UInt8))) (szL sz38 (by rw [List.length_map]; exact (List.length_replicate ..))) (oneL one_u8 _) rfl rfl hb6 (by simp only [List.size_toArray, List.length_map]; first | done | exact ((List.length_replicate ..)).trans ((List.length_replicate ..)).symm) (fun w12 hb6 hc hsz => ?_))
        have hzw12 := hc.size
        have HC := HC.trans hc (fun _ _ h => h) (fun k hk ht => absurd ht (by omega))
        first | have hst := hst.ch hc (by intro k hk ht; first | omega | (dsimp only at *; omega)) | have hst := hst.chT hc (by intro k hz hk ht; first | omega | (dsimp only at *; omega))
        first | have hrnd := hrnd.ch hc (by intro k hk ht; first | omega | (dsimp only at *; omega)) | have hrnd := hrnd.chT hc (by intro k hz hk ht; first | omega | (dsimp only at *; omega))
        have hb3 := hb3.ch hc (by omega)
        have hb4 := hb4.ch hc (by omega)
        have hb5 := hb5.ch hc (by omega)
        have hb9 := hb9.ch hc (by omega)
        refine wl rfl rfl rfl (p_as rfl) ?_
        refine wl rfl rfl rfl (p_as rfl) ?_
        refine wl_nil ?_
        refine x_seq ?_
        refine wc_ret ?_
        refine fin_run (resMany (rs := [.cell 6 38, .tmp 7, .tmp 8]) rfl (.cellA (cs := List.map u8v (List.replicate 32 (0 : UInt8))) rfl Tryd.underlying38 rfl (szL sz38 (by rw [List.length_map]; exact (List.length_replicate ..))) (rngL hb6) (.tmp rfl (.tmp rfl (.nil)))) rfl) ?_
        exact ⟨_, _, _, rfl, by first | exact hpv | exact List.length_replicate .., ck_d hcr q20 c0 q29, HC⟩
end Go.Proofs.YtkfkdakghjlenaaDoor
