/-
  Own text, printed by a program of mine (wip/gx): what functions of the program do, walked operation by operation.
-/
import Derived.Test.YtkfkdakghjlenaaDoorProg
import Derived.Test.YtkfkdakghjlenaaDoorGxAgg
import Derived.Test.YtkfkdakghjlenaaDoorTab
import Derived.Test.YtkfkdakghjlenaaDoorGxZer
import Derived.Test.YtkfkdakghjlenaaDoorGxLay
import Derived.Test.YtkfkdakghjlenaaDoorPlPack
import Derived.Test.YtkfkdakghjlenaaDoorPlSum
import Derived.Test.YtkfkdakghjlenaaDoorPlSha
import Derived.Test.YtkfkdakghjlenaaDoorPlTag
import Derived.Test.YtkfkdakghjlenaaDoorPlBits
import Derived.Test.YtkfkdakghjlenaaDoorPlShaSt
import Derived.Test.YtkfkdakghjlenaaDoorPlShaB
import Derived.Test.YtkfkdakghjlenaaDoorPlTrie
import Derived.Test.YtkfkdakghjlenaaDoorPlTrieSt
import Derived.Test.YtkfkdakghjlenaaDoorGxRec
import Derived.Test.YtkfkdakghjlenaaDoorGxYld
import Derived.Test.YtkfkdakghjlenaaDoorPlTrieFil
import Derived.Test.YtkfkdakghjlenaaDoorOnceC
import Derived.Test.YtkfkdakghjlenaaDoorPlTrieW
import Derived.Test.YtkfkdakghjlenaaDoorPlMulti
import Derived.Test.YtkfkdakghjlenaaDoorPlEncs
import Derived.Test.YtkfkdakghjlenaaDoorGxMark
import Derived.Test.YtkfkdakghjlenaaDoorPlTrieLaw
import Derived.Test.YtkfkdakghjlenaaDoorPlTrieAct
import Derived.Test.YtkfkdakghjlenaaDoorGxFun
import Derived.Test.YtkfkdakghjlenaaDoorGxPair
import Derived.Test.YtkfkdakghjlenaaDoorPlMany
import Derived.Test.YtkfkdakghjlenaaDoorGxCon
import Derived.Test.YtkfkdakghjlenaaDoorZr0
set_option linter.unusedVariables false
set_option linter.unusedSimpArgs false
namespace Go.Proofs.YtkfkdakghjlenaaDoor
open Go.RowKit Go.Gx
open Go.Plain
set_option maxHeartbeats 1000000 in
set_option maxRecDepth 20000 in
theorem put_leaf {w : World}  {k : List UInt8} {u : List UInt8} {g0 : Nat} {k0 v0 : List UInt8} (hX : LAt 156 w (.leaf g0 k0 v0)) (hk : k.length = 32) (hu : u.length = 32) :
    Calls Tryd.prog 83 #[ndp g0, hv k, hv u] w fun e w' => ∃ t : LT, e = .returned (ndp t.adr) ∧ t.er = (Tr.leaf k0 v0).put k u ∧ LF 156 (fun j => j ∈ (LT.leaf g0 k0 v0).ads ∨ w.heap.size ≤ j) w' t ∧ Ch No w w' := by
  have hXl := hX.lt
  obtain ⟨hk0, hv0, d0, h0, hO0, hb0⟩ := id hX
  have hh0 := hO0.1
  have hb0 : Blk w g0 156 (([i64 (256 : Int), .pointer none, .pointer none] ++ ((List.map u8v k0) ++ ((List.map u8v v0) ++ ([i64 (1 : Int), .int .u32 (d0 : Int), .int .i32 0, .int .u32 0] ++ (List.map u8v h0))))) : List Value).toArray := hb0
  have hltg0 := hb0.lt
  have hX := hX.lfm
  have hXl0 : ∀ a, a = g0 → a < w.heap.size := fun a h => by omega
  have hal := apartK_le (a := k0) (b := k)
  have HC : Ch No w w := Ch.refl _ _
  refine enter' (args := [ndp g0, hv k, hv u]) (n := 76) Tryd.func83 rfl rfl rfl ?_
  refine wc_seq ?_
  refine wc_region ?_
  have hltg0 := hb0.lt
  refine wle rfl (e_box (cs := (List.map u8v k).toArray) rfl rfl rfl (fun w1 g4 hg4 hb4 hc hsz4 => ?_))
  have hzw1 := hc.size
  have HC := HC.tr hc
  have hb0 := hb0.ch hc (fun h => h)
  first | have hX := hX.no hc | have hX := hX.ch hc (by intro k1 hk1 hF1 ht1; first | omega | (have hq1 := hXl _ hF1; omega) | (rcases hF1 with hF1 | hF1 <;> first | omega | (have hq1 := hXl _ hF1; omega)))
  have hge4 : w.heap.size ≤ g4 := by have := HC.size; omega
  have neg0_4 : g0 < g4 := by omega
  have hltg0 := hb0.lt
  have hltg4 := hb4.lt
  refine wle rfl (e_box (cs := (List.map u8v u).toArray) rfl rfl rfl (fun w2 g5 hg5 hb5 hc hsz5 => ?_))
  have hzw2 := hc.size
  have HC := HC.tr hc
  have hb0 := hb0.ch hc (fun h => h)
  first | have hX := hX.no hc | have hX := hX.ch hc (by intro k1 hk1 hF1 ht1; first | omega | (have hq1 := hXl _ hF1; omega) | (rcases hF1 with hF1 | hF1 <;> first | omega | (have hq1 := hXl _ hF1; omega)))
  have hb4 := hb4.ch hc (fun h => h)
  have hge5 : w.heap.size ≤ g5 := by have := HC.size; omega
  have neg0_5 : g0 < g5 := by omega
  have neg4_5 : g4 < g5 := by omega
  refine wl rfl rfl rfl (p_as rfl) ?_
  refine wl_nil ?_
  refine x_seq ?_
  refine wc_seq ?_
  refine wc_seq ?_
  refine wc_region ?_
  refine wl rfl rfl rfl (p_mv rfl) ?_
  refine wl rfl rfl rfl (p_eqPN rfl rfl Tryd.underlying39) ?_
  refine wl_nil ?_
  refine x_seq ?_
  refine wc_no rfl (rfl) ?_
  refine wc_skip ?_
  refine x_seq ?_
  refine wc_seq ?_
  refine wc_draw (.st 0 0 (.st 1 0 (.st 2 0 (.st 3 1 (.st 4 1 (.st 5 2 (.st 6 0 .nil))))))) 7 (by kernel_rfl) (by kernel_rfl) (by kernel_rfl) (by repeat (first | with_reducible exact pan_body | with_reducible apply pan_then | with_reducible apply pan_in)) (fun x => Ch No w2.drew x) (Ch.refl _ _) ?_
  obtain ⟨w3, ew3⟩ : ∃ x, x = w2.drew := ⟨_, rfl⟩
  rw [← ew3]
  have hc : Ch No w2 w3 := by rw [ew3]; exact Ch.drew _
  have hszw3 : w3.heap.size = w2.heap.size := by rw [ew3]; rfl
  clear ew3
  have hzw3 := hc.size
  have HC := HC.tr hc
  have hb0 := hb0.ch hc (fun h => h)
  first | have hX := hX.no hc | have hX := hX.ch hc (by intro k1 hk1 hF1 ht1; first | omega | (have hq1 := hXl _ hF1; omega) | (rcases hF1 with hF1 | hF1 <;> first | omega | (have hq1 := hXl _ hF1; omega)))
  have hb4 := hb4.ch hc (fun h => h)
  have hb5 := hb5.ch hc (fun h => h)
  have hS : Ch No w3 w3 := Ch.refl _ _
  refine ws_p rfl rfl rfl rfl (p_mv rfl) ?_
  refine ws_p rfl rfl rfl rfl (p_nck rfl) ?_
  refine ws_p rfl rfl rfl rfl (p_fld (j := 3) Tryd.underlying156 rfl ⟨_, by rfl⟩ rfl rfl) ?_
  refine ws_h rfl rfl rfl rfl (p_ldA (cs := (List.map u8v k0)) Tryd.underlying38 rfl (szL sz38 (by first | rfl | (simp only [List.length_append, List.length_map, List.length_cons, List.length_nil, (show List.length k0 = 32 from hk0)]; done) | (simp only [List.length_append, List.length_map, List.length_cons, List.length_nil, List.size_toArray, (show List.length k0 = 32 from hk0)]; done))) rfl (fun _ h => rng_at (p := ([i64 (256 : Int), .pointer none, .pointer none] : List Value)) (q := ((List.map u8v k0) : List Value)) (r := (((List.map u8v v0) ++ ([i64 (1 : Int), .int .u32 (d0 : Int), .int .i32 0, .int .u32 0] ++ (List.map u8v h0))) : List Value)) (hb0.ch h (fun h => h)) (by simp only [List.append_assoc, List.cons_append, List.nil_append, List.append_nil]) (by first | rfl | (simp only [List.length_append, List.length_map, List.length_cons, List.length_nil]; done) | (simp only [List.length_append, List.length_map, List.length_cons, List.length_nil, List.size_toArray]; done)))) ?_
  refine ws_h rfl rfl rfl rfl (p_ldA (cs := List.map u8v k) Tryd.underlying38 rfl (szL sz38 (by rw [List.length_map]; exact hk)) rfl (fun _ h => (rngL (hb4.ch h (fun h => h))))) ?_
  refine ws_e rfl rfl (e_call ent36 rfl rfl (apart_any (hk0) (hk)) ?_)
  rintro _ w4 ⟨rfl, hc⟩
  refine ⟨_, rfl, hc, ?_⟩
  have hzw4 := hc.size
  have HC := HC.tr hc
  have hb0 := hb0.ch hc (fun h => h)
  first | have hX := hX.no hc | have hX := hX.ch hc (by intro k1 hk1 hF1 ht1; first | omega | (have hq1 := hXl _ hF1; omega) | (rcases hF1 with hF1 | hF1 <;> first | omega | (have hq1 := hXl _ hF1; omega)))
  have hb4 := hb4.ch hc (fun h => h)
  have hb5 := hb5.ch hc (fun h => h)
  refine ws_narrow (S' := fun x => Ch No w4 x) (Ch.refl _ _) (fun x h => hc.tr h) ?_
  refine ws_p rfl rfl rfl rfl (p_as rfl) ?_
  refine ws_n ?_
  refine x_seq ?_
  refine wc_seq ?_
  refine wc_seq ?_
  refine wc_region ?_
  refine wl rfl rfl rfl (p_mv rfl) ?_
  refine wl rfl rfl rfl (p_mv rfl) ?_
  refine wl rfl rfl rfl (p_nck rfl) ?_
  refine wl rfl rfl rfl (p_fld (j := 0) Tryd.underlying156 rfl ⟨_, by rfl⟩ rfl rfl) ?_
  refine wl rfl rfl rfl (p_ld Tryd.underlying3 rfl rfl (ld (cell_at (p := []) (v := (i64 (256 : Int) : Value)) (r := (([.pointer none, .pointer none] ++ ((List.map u8v k0) ++ ((List.map u8v v0) ++ ([i64 (1 : Int), .int .u32 (d0 : Int), .int .i32 0, .int .u32 0] ++ (List.map u8v h0))))) : List Value)) hb0 (by simp only [List.append_assoc, List.cons_append, List.nil_append, List.append_nil]) (by first | rfl | (simp only [List.length_append, List.length_map, List.length_cons, List.length_nil]; done) | (simp only [List.length_append, List.length_map, List.length_cons, List.length_nil, List.size_toArray]; done))))) ?_
  refine wl rfl rfl rfl (p_ge rfl rfl) ?_
  refine wl_nil ?_
  refine x_seq ?_
  refine wc_if rfl (fun c1 => ?_) (fun c1 => ?_)
  ·
    have c1 := of_decide_eq_true c1
    refine wc_seq ?_
    refine wc_seq ?_
    refine wc_region ?_
    refine wl rfl rfl rfl (p_mv rfl) ?_
    refine wl rfl rfl rfl (p_nck rfl) ?_
    refine wl rfl rfl rfl (p_fld (j := 0) Tryd.underlying156 rfl ⟨_, by rfl⟩ rfl rfl) ?_
    refine wl rfl rfl rfl (p_ld Tryd.underlying3 rfl rfl (ld (cell_at (p := []) (v := (i64 (256 : Int) : Value)) (r := (([.pointer none, .pointer none] ++ ((List.map u8v k0) ++ ((List.map u8v v0) ++ ([i64 (1 : Int), .int .u32 (d0 : Int), .int .i32 0, .int .u32 0] ++ (List.map u8v h0))))) : List Value)) hb0 (by simp only [List.append_assoc, List.cons_append, List.nil_append, List.append_nil]) (by first | rfl | (simp only [List.length_append, List.length_map, List.length_cons, List.length_nil]; done) | (simp only [List.length_append, List.length_map, List.length_cons, List.length_nil, List.size_toArray]; done))))) ?_
    refine wl rfl rfl rfl (p_eq rfl rfl) ?_
    refine wl_nil ?_
    refine x_seq ?_
    refine wc_yes rfl (rfl) ?_
    refine wc_seq ?_
    refine wc_region ?_
    refine wl rfl rfl rfl (p_ldA (cs := List.map u8v k) Tryd.underlying38 rfl (szL sz38 (by rw [List.length_map]; exact hk)) rfl (fun _ e => e ▸ rngL hb4)) ?_
    refine wl rfl rfl rfl (p_ldA (cs := List.map u8v u) Tryd.underlying38 rfl (szL sz38 (by rw [List.length_map]; exact hu)) rfl (fun _ e => e ▸ rngL hb5)) ?_
    refine wle rfl (e_call ent105 rfl rfl (item_any (hk) (hu)) ?_)
    rintro _ w5 ⟨g36, rfl, hL36, hc⟩
    refine ⟨_, rfl, ?_⟩
    have hzw5 := hc.size
    have HC := HC.tr hc
    have hb0 := hb0.ch hc (fun h => h)
    first | have hX := hX.no hc | have hX := hX.ch hc (by intro k1 hk1 hF1 ht1; first | omega | (have hq1 := hXl _ hF1; omega) | (rcases hF1 with hF1 | hF1 <;> first | omega | (have hq1 := hXl _ hF1; omega)))
    have hb4 := hb4.ch hc (fun h => h)
    have hb5 := hb5.ch hc (fun h => h)
    have hgl36 := hL36.1.lt _ (LT.adr_mem _)
    refine wl rfl rfl rfl (p_as rfl) ?_
    refine wl_nil ?_
    refine x_seq ?_
    refine wc_ret ?_
    refine x_then_ret ?_
    refine x_then_ret ?_
    refine fin_run ((res1 rfl rfl)) ?_
    first | (exact ⟨.leaf g36 k u, rfl, by rw [Tr.put, if_pos (by omega)]; rfl, hL36.mono (fun j _ h => .inr (by omega)), HC⟩) | (exact ⟨.fork g75 (apartK k0 k) (.leaf g69 k u) (.leaf g0 k0 v0), rfl, by rw [Tr.put, if_neg (by omega), hs63]; rfl, hL75.mono (fun j _ h => by rcases h with h | h | h <;> first | exact .inl h | (left; simp [LT.ads, h]; done) | (right; omega) | (right; have := hL69.2 j h; omega) | (rcases hL69.2 j h with h | h <;> first | (left; simp [LT.ads, h]; done) | (right; omega))), HC⟩) | (exact ⟨.fork g75 (apartK k0 k) (.leaf g0 k0 v0) (.leaf g69 k u), rfl, by rw [Tr.put, if_neg (by omega), hs63]; rfl, hL75.mono (fun j _ h => by rcases h with h | h | h <;> first | exact .inl h | (left; simp [LT.ads, h]; done) | (right; omega) | (right; have := hL69.2 j h; omega) | (rcases hL69.2 j h with h | h <;> first | (left; simp [LT.ads, h]; done) | (right; omega))), HC⟩)
  ·
    have c1 := of_decide_eq_false c1
    refine wc_skip ?_
    refine x_seq ?_
    refine wc_seq ?_
    refine wc_region ?_
    have hltg0 := hb0.lt
    have hltg4 := hb4.lt
    have hltg5 := hb5.lt
    refine wle rfl (e_alloc (cs := ([Value.pointer none, Value.pointer none] : List Value).toArray) rfl (by rfl) rfl (fun w6 g10 hg10 hb10 hc hsz10 => ?_))
    have hzw6 := hc.size
    have HC := HC.tr hc
    have hb0 := hb0.ch hc (fun h => h)
    first | have hX := hX.no hc | have hX := hX.ch hc (by intro k1 hk1 hF1 ht1; first | omega | (have hq1 := hXl _ hF1; omega) | (rcases hF1 with hF1 | hF1 <;> first | omega | (have hq1 := hXl _ hF1; omega)))
    have hb4 := hb4.ch hc (fun h => h)
    have hb5 := hb5.ch hc (fun h => h)
    have hge10 : w.heap.size ≤ g10 := by have := HC.size; omega
    have neg0_10 : g0 < g10 := by omega
    have neg4_10 : g4 < g10 := by omega
    have neg5_10 : g5 < g10 := by omega
    refine wl_nil ?_
    refine x_seq ?_
    refine wc_seq ?_
    refine wc_region ?_
    refine wl rfl rfl rfl (p_ldA (cs := List.map u8v k) Tryd.underlying38 rfl (szL sz38 (by rw [List.length_map]; exact hk)) rfl (fun _ e => e ▸ rngL hb4)) ?_
    refine wl rfl rfl rfl (p_mv rfl) ?_
    refine wle rfl (e_call ent38 rfl rfl (bitS (hk)) ?_)
    rintro _ w7 ⟨s63, rfl, hs63, hsl63, hc⟩
    refine ⟨_, rfl, ?_⟩
    have hzw7 := hc.size
    have HC := HC.tr hc
    have hb0 := hb0.ch hc (fun h => h)
    first | have hX := hX.no hc | have hX := hX.ch hc (by intro k1 hk1 hF1 ht1; first | omega | (have hq1 := hXl _ hF1; omega) | (rcases hF1 with hF1 | hF1 <;> first | omega | (have hq1 := hXl _ hF1; omega)))
    have hb4 := hb4.ch hc (fun h => h)
    have hb5 := hb5.ch hc (fun h => h)
    have hb10 := hb10.ch hc (fun h => h)
    refine wl rfl rfl rfl (p_as rfl) ?_
    refine wl_nil ?_
    refine x_seq ?_
    refine wc_seq ?_
    obtain rfl | rfl : s63 = 0 ∨ s63 = 1 := by omega
    ·
      refine wc_region ?_
      refine wl rfl rfl rfl (p_mv rfl) ?_
      refine wl rfl rfl rfl (p_mv rfl) ?_
      refine wl rfl rfl rfl (p_sub (Z := 1) rfl rfl (by rw [w64 (by omega)]; rfl)) ?_
      refine wl rfl rfl rfl (p_ldA (cs := List.map u8v k) Tryd.underlying38 rfl (szL sz38 (by rw [List.length_map]; exact hk)) rfl (fun _ e => e ▸ rngL hb4)) ?_
      refine wl rfl rfl rfl (p_ldA (cs := List.map u8v u) Tryd.underlying38 rfl (szL sz38 (by rw [List.length_map]; exact hu)) rfl (fun _ e => e ▸ rngL hb5)) ?_
      refine wle rfl (e_call ent105 rfl rfl (item_any (hk) (hu)) ?_)
      rintro _ w8 ⟨g69, rfl, hL69, hc⟩
      refine ⟨_, rfl, ?_⟩
      have hzw8 := hc.size
      have HC := HC.tr hc
      have hb0 := hb0.ch hc (fun h => h)
      first | have hX := hX.no hc | have hX := hX.ch hc (by intro k1 hk1 hF1 ht1; first | omega | (have hq1 := hXl _ hF1; omega) | (rcases hF1 with hF1 | hF1 <;> first | omega | (have hq1 := hXl _ hF1; omega)))
      have hb4 := hb4.ch hc (fun h => h)
      have hb5 := hb5.ch hc (fun h => h)
      have hb10 := hb10.ch hc (fun h => h)
      have hgl69 := hL69.1.lt _ (LT.adr_mem _)
      refine wl rfl rfl rfl (p_mv rfl) ?_
      refine wl rfl rfl rfl (p_ixA (j := 0) Tryd.underlying142 sz39 rfl rfl (by omega) (by omega) rfl) ?_
      refine wle rfl (e_stC (p := []) (u := (Value.pointer none : Value)) (r := ([Value.pointer none] : List Value)) (v := ndp g69) (by rfl) rfl rfl rfl hb10 (by simp only [List.append_assoc, List.cons_append, List.nil_append, List.append_nil]) (by first | rfl | (simp only [List.length_append, List.length_map, List.length_cons, List.length_nil]; done) | (simp only [List.length_append, List.length_map, List.length_cons, List.length_nil, List.size_toArray]; done)) (fun w10 hb10 hc hsz => ?_))
      have hb10 : Blk w10 g10 142 ([ndp g69, Value.pointer none] : List Value).toArray := by have h := hb10; simp only [List.append_assoc, List.cons_append, List.nil_append, List.append_nil] at h ⊢; exact h
      have hzw10 := hc.size
      have HC := HC.trans hc (fun _ _ h => h) (fun k hk ht => absurd ht (by omega))
      have hb0 := hb0.ch hc (by omega)
      first | have hX := hX.no hc | have hX := hX.ch hc (by intro k1 hk1 hF1 ht1; first | omega | (have hq1 := hXl _ hF1; omega) | (rcases hF1 with hF1 | hF1 <;> first | omega | (have hq1 := hXl _ hF1; omega)))
      have hb4 := hb4.ch hc (by omega)
      have hb5 := hb5.ch hc (by omega)
      first | have hL69 := hL69.no hc | have hL69 := hL69.ch hc (by intro k1 hk1 hF1 ht1; first | omega | (have hq1 := hXl _ hF1; omega) | (rcases hF1 with hF1 | hF1 <;> first | omega | (have hq1 := hXl _ hF1; omega)))
      refine wl rfl rfl rfl (p_ixA (j := 1) Tryd.underlying142 sz39 rfl rfl (by omega) (by omega) rfl) ?_
      refine wle rfl (e_stC (p := ([ndp g69] : List Value)) (u := (Value.pointer none : Value)) (r := []) (v := ndp g0) (by rfl) rfl rfl rfl hb10 (by simp only [List.append_assoc, List.cons_append, List.nil_append, List.append_nil]) (by first | rfl | (simp only [List.length_append, List.length_map, List.length_cons, List.length_nil]; done) | (simp only [List.length_append, List.length_map, List.length_cons, List.length_nil, List.size_toArray]; done)) (fun w12 hb10 hc hsz => ?_))
      have hb10 : Blk w12 g10 142 ([ndp g69, ndp g0] : List Value).toArray := by have h := hb10; simp only [List.append_assoc, List.cons_append, List.nil_append, List.append_nil] at h ⊢; exact h
      have hzw12 := hc.size
      have HC := HC.trans hc (fun _ _ h => h) (fun k hk ht => absurd ht (by omega))
      have hb0 := hb0.ch hc (by omega)
      first | have hX := hX.no hc | have hX := hX.ch hc (by intro k1 hk1 hF1 ht1; first | omega | (have hq1 := hXl _ hF1; omega) | (rcases hF1 with hF1 | hF1 <;> first | omega | (have hq1 := hXl _ hF1; omega)))
      have hb4 := hb4.ch hc (by omega)
      have hb5 := hb5.ch hc (by omega)
      first | have hL69 := hL69.no hc | have hL69 := hL69.ch hc (by intro k1 hk1 hF1 ht1; first | omega | (have hq1 := hXl _ hF1; omega) | (rcases hF1 with hF1 | hF1 <;> first | omega | (have hq1 := hXl _ hF1; omega)))
      refine wl_nil ?_
      refine x_seq ?_
      refine wc_seq ?_
      refine wc_region ?_
      refine wl rfl rfl rfl (p_mv rfl) ?_
      refine wl rfl rfl rfl (p_ldA (cs := ([ndp g69, ndp g0] : List Value)) Tryd.underlying142 rfl (szL sz142 (by first | rfl | (simp only [List.length_append, List.length_map, List.length_cons, List.length_nil]; done) | (simp only [List.length_append, List.length_map, List.length_cons, List.length_nil, List.size_toArray]; done))) rfl (fun _ e => e ▸ rngL hb10)) ?_
      refine wle rfl (e_call ent106 rfl rfl (fork_at (b := apartK k0 k) hL69.at_ hX.at_ rfl rfl (by omega) (by show 1 + 1 ≤ _; omega)) ?_)
      rintro _ w13 ⟨g75, rfl, hL75, hc⟩
      refine ⟨_, rfl, ?_⟩
      have hzw13 := hc.size
      have HC := HC.tr hc
      have hb0 := hb0.ch hc (fun h => h)
      first | have hX := hX.no hc | have hX := hX.ch hc (by intro k1 hk1 hF1 ht1; first | omega | (have hq1 := hXl _ hF1; omega) | (rcases hF1 with hF1 | hF1 <;> first | omega | (have hq1 := hXl _ hF1; omega)))
      have hb4 := hb4.ch hc (fun h => h)
      have hb5 := hb5.ch hc (fun h => h)
      have hb10 := hb10.ch hc (fun h => h)
      first | have hL69 := hL69.no hc | have hL69 := hL69.ch hc (by intro k1 hk1 hF1 ht1; first | omega | (have hq1 := hXl _ hF1; omega) | (rcases hF1 with hF1 | hF1 <;> first | omega | (have hq1 := hXl _ hF1; omega)))
      refine wl rfl rfl rfl (p_as rfl) ?_
      refine wl_nil ?_
      refine x_seq ?_
      refine wc_ret ?_
      refine fin_run ((res1 rfl rfl)) ?_
      first | (exact ⟨.leaf g36 k u, rfl, by rw [Tr.put, if_pos (by omega)]; rfl, hL36.mono (fun j _ h => .inr (by omega)), HC⟩) | (exact ⟨.fork g75 (apartK k0 k) (.leaf g69 k u) (.leaf g0 k0 v0), rfl, by rw [Tr.put, if_neg (by omega), hs63]; rfl, hL75.mono (fun j _ h => by rcases h with h | h | h <;> first | exact .inl h | (left; simp [LT.ads, h]; done) | (right; omega) | (right; have := hL69.2 j h; omega) | (rcases hL69.2 j h with h | h <;> first | (left; simp [LT.ads, h]; done) | (right; omega))), HC⟩) | (exact ⟨.fork g75 (apartK k0 k) (.leaf g0 k0 v0) (.leaf g69 k u), rfl, by rw [Tr.put, if_neg (by omega), hs63]; rfl, hL75.mono (fun j _ h => by rcases h with h | h | h <;> first | exact .inl h | (left; simp [LT.ads, h]; done) | (right; omega) | (right; have := hL69.2 j h; omega) | (rcases hL69.2 j h with h | h <;> first | (left; simp [LT.ads, h]; done) | (right; omega))), HC⟩)
    ·
      refine wc_region ?_
      refine wl rfl rfl rfl (p_mv rfl) ?_
      refine wl rfl rfl rfl (p_mv rfl) ?_
      refine wl rfl rfl rfl (p_sub (Z := 0) rfl rfl (by rw [w64 (by omega)]; rfl)) ?_
      refine wl rfl rfl rfl (p_ldA (cs := List.map u8v k) Tryd.underlying38 rfl (szL sz38 (by rw [List.length_map]; exact hk)) rfl (fun _ e => e ▸ rngL hb4)) ?_
      refine wl rfl rfl rfl (p_ldA (cs := List.map u8v u) Tryd.underlying38 rfl (szL sz38 (by rw [List.length_map]; exact hu)) rfl (fun _ e => e ▸ rngL hb5)) ?_
      refine wle rfl (e_call ent105 rfl rfl (item_any (hk) (hu)) ?_)
      rintro _ w14 ⟨g69, rfl, hL69, hc⟩
      refine ⟨_, rfl, ?_⟩
      have hzw14 := hc.size
      have HC := HC.tr hc
      have hb0 := hb0.ch hc (fun h => h)
      first | have hX := hX.no hc | have hX := hX.ch hc (by intro k1 hk1 hF1 ht1; first | omega | (have hq1 := hXl _ hF1; omega) | (rcases hF1 with hF1 | hF1 <;> first | omega | (have hq1 := hXl _ hF1; omega)))
      have hb4 := hb4.ch hc (fun h => h)
      have hb5 := hb5.ch hc (fun h => h)
      have hb10 := hb10.ch hc (fun h => h)
      have hgl69 := hL69.1.lt _ (LT.adr_mem _)
      refine wl rfl rfl rfl (p_mv rfl) ?_
      refine wl rfl rfl rfl (p_ixA (j := 1) Tryd.underlying142 sz39 rfl rfl (by omega) (by omega) rfl) ?_
      refine wle rfl (e_stC (p := ([Value.pointer none] : List Value)) (u := (Value.pointer none : Value)) (r := []) (v := ndp g69) (by rfl) rfl rfl rfl hb10 (by simp only [List.append_assoc, List.cons_append, List.nil_append, List.append_nil]) (by first | rfl | (simp only [List.length_append, List.length_map, List.length_cons, List.length_nil]; done) | (simp only [List.length_append, List.length_map, List.length_cons, List.length_nil, List.size_toArray]; done)) (fun w16 hb10 hc hsz => ?_))
      have hb10 : Blk w16 g10 142 ([Value.pointer none, ndp g69] : List Value).toArray := by have h := hb10; simp only [List.append_assoc, List.cons_append, List.nil_append, List.append_nil] at h ⊢; exact h
      have hzw16 := hc.size
      have HC := HC.trans hc (fun _ _ h => h) (fun k hk ht => absurd ht (by omega))
      have hb0 := hb0.ch hc (by omega)
      first | have hX := hX.no hc | have hX := hX.ch hc (by intro k1 hk1 hF1 ht1; first | omega | (have hq1 := hXl _ hF1; omega) | (rcases hF1 with hF1 | hF1 <;> first | omega | (have hq1 := hXl _ hF1; omega)))
      have hb4 := hb4.ch hc (by omega)
      have hb5 := hb5.ch hc (by omega)
      first | have hL69 := hL69.no hc | have hL69 := hL69.ch hc (by intro k1 hk1 hF1 ht1; first | omega | (have hq1 := hXl _ hF1; omega) | (rcases hF1 with hF1 | hF1 <;> first | omega | (have hq1 := hXl _ hF1; omega)))
      refine wl rfl rfl rfl (p_ixA (j := 0) Tryd.underlying142 sz39 rfl rfl (by omega) (by omega) rfl) ?_
      refine wle rfl (e_stC (p := []) (u := (Value.pointer none : Value)) (r := ([ndp g69] : List Value)) (v := ndp g0) (by rfl) rfl rfl rfl hb10 (by simp only [List.append_assoc, List.cons_append, List.nil_append, List.append_nil]) (by first | rfl | (simp only [List.length_append, List.length_map, List.length_cons, List.length_nil]; done) | (simp only [List.length_append, List.length_map, List.length_cons, List.length_nil, List.size_toArray]; done)) (fun w18 hb10 hc hsz => ?_))
      have hb10 : Blk w18 g10 142 ([ndp g0, ndp g69] : List Value).toArray := by have h := hb10; simp only [List.append_assoc, List.cons_append, List.nil_append, List.append_nil] at h ⊢; exact h
      have hzw18 := hc.size
      have HC := HC.trans hc (fun _ _ h => h) (fun k hk ht => absurd ht (by omega))
      have hb0 := hb0.ch hc (by omega)
      first | have hX := hX.no hc | have hX := hX.ch hc (by intro k1 hk1 hF1 ht1; first | omega | (have hq1 := hXl _ hF1; omega) | (rcases hF1 with hF1 | hF1 <;> first | omega | (have hq1 := hXl _ hF1; omega)))
      have hb4 := hb4.ch hc (by omega)
      have hb5 := hb5.ch hc (by omega)
      first | have hL69 := hL69.no hc | have hL69 := hL69.ch hc (by intro k1 hk1 hF1 ht1; first | omega | (have hq1 := hXl _ hF1; omega) | (rcases hF1 with hF1 | hF1 <;> first | omega | (have hq1 := hXl _ hF1; omega)))
      refine wl_nil ?_
      refine x_seq ?_
      refine wc_seq ?_
      refine wc_region ?_
      refine wl rfl rfl rfl (p_mv rfl) ?_
      refine wl rfl rfl rfl (p_ldA (cs := ([ndp g0, ndp g69] : List Value)) Tryd.underlying142 rfl (szL sz142 (by first | rfl | (simp only [List.length_append, List.length_map, List.length_cons, List.length_nil]; done) | (simp only [List.length_append, List.length_map, List.length_cons, List.length_nil, List.size_toArray]; done))) rfl (fun _ e => e ▸ rngL hb10)) ?_
      refine wle rfl (e_call ent106 rfl rfl (fork_at (b := apartK k0 k) hX.at_ hL69.at_ rfl rfl (by omega) (by show 1 + 1 ≤ _; omega)) ?_)
      rintro _ w19 ⟨g75, rfl, hL75, hc⟩
      refine ⟨_, rfl, ?_⟩
      have hzw19 := hc.size
      have HC := HC.tr hc
      have hb0 := hb0.ch hc (fun h => h)
      first | have hX := hX.no hc | have hX := hX.ch hc (by intro k1 hk1 hF1 ht1; first | omega | (have hq1 := hXl _ hF1; omega) | (rcases hF1 with hF1 | hF1 <;> first | omega | (have hq1 := hXl _ hF1; omega)))
      have hb4 := hb4.ch hc (fun h => h)
      have hb5 := hb5.ch hc (fun h => h)
      have hb10 := hb10.ch hc (fun h => h)
      first | have hL69 := hL69.no hc | have hL69 := hL69.ch hc (by intro k1 hk1 hF1 ht1; first | omega | (have hq1 := hXl _ hF1; omega) | (rcases hF1 with hF1 | hF1 <;> first | omega | (have hq1 := hXl _ hF1; omega)))
      refine wl rfl rfl rfl (p_as rfl) ?_
      refine wl_nil ?_
      refine x_seq ?_
      refine wc_ret ?_
      refine fin_run ((res1 rfl rfl)) ?_
      first | (exact ⟨.leaf g36 k u, rfl, by rw [Tr.put, if_pos (by omega)]; rfl, hL36.mono (fun j _ h => .inr (by omega)), HC⟩) | (exact ⟨.fork g75 (apartK k0 k) (.leaf g69 k u) (.leaf g0 k0 v0), rfl, by rw [Tr.put, if_neg (by omega), hs63]; rfl, hL75.mono (fun j _ h => by rcases h with h | h | h <;> first | exact .inl h | (left; simp [LT.ads, h]; done) | (right; omega) | (right; have := hL69.2 j h; omega) | (rcases hL69.2 j h with h | h <;> first | (left; simp [LT.ads, h]; done) | (right; omega))), HC⟩) | (exact ⟨.fork g75 (apartK k0 k) (.leaf g0 k0 v0) (.leaf g69 k u), rfl, by rw [Tr.put, if_neg (by omega), hs63]; rfl, hL75.mono (fun j _ h => by rcases h with h | h | h <;> first | exact .inl h | (left; simp [LT.ads, h]; done) | (right; omega) | (right; have := hL69.2 j h; omega) | (rcases hL69.2 j h with h | h <;> first | (left; simp [LT.ads, h]; done) | (right; omega))), HC⟩)

set_option maxHeartbeats 1000000 in
set_option maxRecDepth 20000 in
theorem put_fork {w : World}  {k : List UInt8} {u : List UInt8} {g0 b : Nat} {x y : LT} (IHx : PutOK x) (IHy : PutOK y) (hX : LAt 156 w (.fork g0 b x y)) (hk : k.length = 32) (hu : u.length = 32) (hcn : x.er.cnt + y.er.cnt + 1 ≤ 4611686018427387904) :
    Calls Tryd.prog 83 #[ndp g0, hv k, hv u] w fun e w' => ∃ t : LT, e = .returned (ndp t.adr) ∧ t.er = (Tr.fork b x.er y.er).put k u ∧ LF 156 (fun j => j ∈ (LT.fork g0 b x y).ads ∨ w.heap.size ≤ j) w' t ∧ Ch No w w' := by
  have hXl := hX.lt
  have hok := hX.ok
  have hout := hX.out
  obtain ⟨⟨hb256, hcn0, hk0, d0, h0, hO0, hb0⟩, hXx, hXy⟩ := id hX
  have hh0 := hO0.1
  have hb0 : Blk w g0 156 (([i64 (b : Int), ndp x.adr, ndp y.adr] ++ ((List.map u8v x.er.key) ++ ((List.map u8v zeroH) ++ ([i64 ((x.er.cnt + y.er.cnt : Nat) : Int), .int .u32 (d0 : Int), .int .i32 0, .int .u32 0] ++ (List.map u8v h0))))) : List Value).toArray := hb0
  have hltg0 := hb0.lt
  have hXlx := hXx.lt
  have hXly := hXy.lt
  have hXx := hXx.lfm
  have hXy := hXy.lfm
  have hX := hX.lfm
  have hal := apartK_le (a := x.er.key) (b := k)
  have hcpx := Tr.cnt_pos x.er
  have hcpy := Tr.cnt_pos y.er
  have HC : Ch No w w := Ch.refl _ _
  refine enter' (args := [ndp g0, hv k, hv u]) (n := 76) Tryd.func83 rfl rfl rfl ?_
  refine wc_seq ?_
  refine wc_region ?_
  have hltg0 := hb0.lt
  refine wle rfl (e_box (cs := (List.map u8v k).toArray) rfl rfl rfl (fun w1 g4 hg4 hb4 hc hsz4 => ?_))
  have hzw1 := hc.size
  have HC := HC.tr hc
  have hb0 := hb0.ch hc (fun h => h)
  first | have hX := hX.no hc | have hX := hX.ch hc (by intro k1 hk1 hF1 ht1; first | omega | (have hq1 := hXl _ hF1; omega) | (rcases hF1 with hF1 | hF1 <;> first | omega | (have hq1 := hXl _ hF1; omega)))
  first | have hXx := hXx.no hc | have hXx := hXx.ch hc (by intro k1 hk1 hF1 ht1; first | omega | (have hq1 := hXlx _ hF1; omega) | (rcases hF1 with hF1 | hF1 <;> first | omega | (have hq1 := hXlx _ hF1; omega)))
  first | have hXy := hXy.no hc | have hXy := hXy.ch hc (by intro k1 hk1 hF1 ht1; first | omega | (have hq1 := hXly _ hF1; omega) | (rcases hF1 with hF1 | hF1 <;> first | omega | (have hq1 := hXly _ hF1; omega)))
  have hge4 : w.heap.size ≤ g4 := by have := HC.size; omega
  have neg0_4 : g0 < g4 := by omega
  have hltg0 := hb0.lt
  have hltg4 := hb4.lt
  refine wle rfl (e_box (cs := (List.map u8v u).toArray) rfl rfl rfl (fun w2 g5 hg5 hb5 hc hsz5 => ?_))
  have hzw2 := hc.size
  have HC := HC.tr hc
  have hb0 := hb0.ch hc (fun h => h)
  first | have hX := hX.no hc | have hX := hX.ch hc (by intro k1 hk1 hF1 ht1; first | omega | (have hq1 := hXl _ hF1; omega) | (rcases hF1 with hF1 | hF1 <;> first | omega | (have hq1 := hXl _ hF1; omega)))
  first | have hXx := hXx.no hc | have hXx := hXx.ch hc (by intro k1 hk1 hF1 ht1; first | omega | (have hq1 := hXlx _ hF1; omega) | (rcases hF1 with hF1 | hF1 <;> first | omega | (have hq1 := hXlx _ hF1; omega)))
  first | have hXy := hXy.no hc | have hXy := hXy.ch hc (by intro k1 hk1 hF1 ht1; first | omega | (have hq1 := hXly _ hF1; omega) | (rcases hF1 with hF1 | hF1 <;> first | omega | (have hq1 := hXly _ hF1; omega)))
  have hb4 := hb4.ch hc (fun h => h)
  have hge5 : w.heap.size ≤ g5 := by have := HC.size; omega
  have neg0_5 : g0 < g5 := by omega
  have neg4_5 : g4 < g5 := by omega
  refine wl rfl rfl rfl (p_as rfl) ?_
  refine wl_nil ?_
  refine x_seq ?_
  refine wc_seq ?_
  refine wc_seq ?_
  refine wc_region ?_
  refine wl rfl rfl rfl (p_mv rfl) ?_
  refine wl rfl rfl rfl (p_eqPN rfl rfl Tryd.underlying39) ?_
  refine wl_nil ?_
  refine x_seq ?_
  refine wc_no rfl (rfl) ?_
  refine wc_skip ?_
  refine x_seq ?_
  refine wc_seq ?_
  refine wc_draw (.st 0 0 (.st 1 0 (.st 2 0 (.st 3 1 (.st 4 1 (.st 5 2 (.st 6 0 .nil))))))) 7 (by kernel_rfl) (by kernel_rfl) (by kernel_rfl) (by repeat (first | with_reducible exact pan_body | with_reducible apply pan_then | with_reducible apply pan_in)) (fun x => Ch No w2.drew x) (Ch.refl _ _) ?_
  obtain ⟨w3, ew3⟩ : ∃ x, x = w2.drew := ⟨_, rfl⟩
  rw [← ew3]
  have hc : Ch No w2 w3 := by rw [ew3]; exact Ch.drew _
  have hszw3 : w3.heap.size = w2.heap.size := by rw [ew3]; rfl
  clear ew3
  have hzw3 := hc.size
  have HC := HC.tr hc
  have hb0 := hb0.ch hc (fun h => h)
  first | have hX := hX.no hc | have hX := hX.ch hc (by intro k1 hk1 hF1 ht1; first | omega | (have hq1 := hXl _ hF1; omega) | (rcases hF1 with hF1 | hF1 <;> first | omega | (have hq1 := hXl _ hF1; omega)))
  first | have hXx := hXx.no hc | have hXx := hXx.ch hc (by intro k1 hk1 hF1 ht1; first | omega | (have hq1 := hXlx _ hF1; omega) | (rcases hF1 with hF1 | hF1 <;> first | omega | (have hq1 := hXlx _ hF1; omega)))
  first | have hXy := hXy.no hc | have hXy := hXy.ch hc (by intro k1 hk1 hF1 ht1; first | omega | (have hq1 := hXly _ hF1; omega) | (rcases hF1 with hF1 | hF1 <;> first | omega | (have hq1 := hXly _ hF1; omega)))
  have hb4 := hb4.ch hc (fun h => h)
  have hb5 := hb5.ch hc (fun h => h)
  have hS : Ch No w3 w3 := Ch.refl _ _
  refine ws_p rfl rfl rfl rfl (p_mv rfl) ?_
  refine ws_p rfl rfl rfl rfl (p_nck rfl) ?_
  refine ws_p rfl rfl rfl rfl (p_fld (j := 3) Tryd.underlying156 rfl ⟨_, by rfl⟩ rfl rfl) ?_
  refine ws_h rfl rfl rfl rfl (p_ldA (cs := (List.map u8v x.er.key)) Tryd.underlying38 rfl (szL sz38 (by first | rfl | (simp only [List.length_append, List.length_map, List.length_cons, List.length_nil, (show List.length x.er.key = 32 from hk0)]; done) | (simp only [List.length_append, List.length_map, List.length_cons, List.length_nil, List.size_toArray, (show List.length x.er.key = 32 from hk0)]; done))) rfl (fun _ h => rng_at (p := ([i64 (b : Int), ndp x.adr, ndp y.adr] : List Value)) (q := ((List.map u8v x.er.key) : List Value)) (r := (((List.map u8v zeroH) ++ ([i64 ((x.er.cnt + y.er.cnt : Nat) : Int), .int .u32 (d0 : Int), .int .i32 0, .int .u32 0] ++ (List.map u8v h0))) : List Value)) (hb0.ch h (fun h => h)) (by simp only [List.append_assoc, List.cons_append, List.nil_append, List.append_nil]) (by first | rfl | (simp only [List.length_append, List.length_map, List.length_cons, List.length_nil]; done) | (simp only [List.length_append, List.length_map, List.length_cons, List.length_nil, List.size_toArray]; done)))) ?_
  refine ws_h rfl rfl rfl rfl (p_ldA (cs := List.map u8v k) Tryd.underlying38 rfl (szL sz38 (by rw [List.length_map]; exact hk)) rfl (fun _ h => (rngL (hb4.ch h (fun h => h))))) ?_
  refine ws_e rfl rfl (e_call ent36 rfl rfl (apart_any (hk0) (hk)) ?_)
  rintro _ w4 ⟨rfl, hc⟩
  refine ⟨_, rfl, hc, ?_⟩
  have hzw4 := hc.size
  have HC := HC.tr hc
  have hb0 := hb0.ch hc (fun h => h)
  first | have hX := hX.no hc | have hX := hX.ch hc (by intro k1 hk1 hF1 ht1; first | omega | (have hq1 := hXl _ hF1; omega) | (rcases hF1 with hF1 | hF1 <;> first | omega | (have hq1 := hXl _ hF1; omega)))
  first | have hXx := hXx.no hc | have hXx := hXx.ch hc (by intro k1 hk1 hF1 ht1; first | omega | (have hq1 := hXlx _ hF1; omega) | (rcases hF1 with hF1 | hF1 <;> first | omega | (have hq1 := hXlx _ hF1; omega)))
  first | have hXy := hXy.no hc | have hXy := hXy.ch hc (by intro k1 hk1 hF1 ht1; first | omega | (have hq1 := hXly _ hF1; omega) | (rcases hF1 with hF1 | hF1 <;> first | omega | (have hq1 := hXly _ hF1; omega)))
  have hb4 := hb4.ch hc (fun h => h)
  have hb5 := hb5.ch hc (fun h => h)
  refine ws_narrow (S' := fun x => Ch No w4 x) (Ch.refl _ _) (fun x h => hc.tr h) ?_
  refine ws_p rfl rfl rfl rfl (p_as rfl) ?_
  refine ws_n ?_
  refine x_seq ?_
  refine wc_seq ?_
  refine wc_seq ?_
  refine wc_region ?_
  refine wl rfl rfl rfl (p_mv rfl) ?_
  refine wl rfl rfl rfl (p_mv rfl) ?_
  refine wl rfl rfl rfl (p_nck rfl) ?_
  refine wl rfl rfl rfl (p_fld (j := 0) Tryd.underlying156 rfl ⟨_, by rfl⟩ rfl rfl) ?_
  refine wl rfl rfl rfl (p_ld Tryd.underlying3 rfl rfl (ld (cell_at (p := []) (v := (i64 (b : Int) : Value)) (r := (([ndp x.adr, ndp y.adr] ++ ((List.map u8v x.er.key) ++ ((List.map u8v zeroH) ++ ([i64 ((x.er.cnt + y.er.cnt : Nat) : Int), .int .u32 (d0 : Int), .int .i32 0, .int .u32 0] ++ (List.map u8v h0))))) : List Value)) hb0 (by simp only [List.append_assoc, List.cons_append, List.nil_append, List.append_nil]) (by first | rfl | (simp only [List.length_append, List.length_map, List.length_cons, List.length_nil]; done) | (simp only [List.length_append, List.length_map, List.length_cons, List.length_nil, List.size_toArray]; done))))) ?_
  refine wl rfl rfl rfl (p_ge rfl rfl) ?_
  refine wl_nil ?_
  refine x_seq ?_
  refine wc_if rfl (fun c1 => ?_) (fun c1 => ?_)
  ·
    have c1 := of_decide_eq_true c1
    refine wc_seq ?_
    refine wc_seq ?_
    refine wc_region ?_
    refine wl rfl rfl rfl (p_mv rfl) ?_
    refine wl rfl rfl rfl (p_nck rfl) ?_
    refine wl rfl rfl rfl (p_fld (j := 0) Tryd.underlying156 rfl ⟨_, by rfl⟩ rfl rfl) ?_
    refine wl rfl rfl rfl (p_ld Tryd.underlying3 rfl rfl (ld (cell_at (p := []) (v := (i64 (b : Int) : Value)) (r := (([ndp x.adr, ndp y.adr] ++ ((List.map u8v x.er.key) ++ ((List.map u8v zeroH) ++ ([i64 ((x.er.cnt + y.er.cnt : Nat) : Int), .int .u32 (d0 : Int), .int .i32 0, .int .u32 0] ++ (List.map u8v h0))))) : List Value)) hb0 (by simp only [List.append_assoc, List.cons_append, List.nil_append, List.append_nil]) (by first | rfl | (simp only [List.length_append, List.length_map, List.length_cons, List.length_nil]; done) | (simp only [List.length_append, List.length_map, List.length_cons, List.length_nil, List.size_toArray]; done))))) ?_
    refine wl rfl rfl rfl (p_eq rfl rfl) ?_
    refine wl_nil ?_
    refine x_seq ?_
    refine wc_no rfl (decide_eq_false (by omega)) ?_
    refine wc_skip ?_
    refine x_seq ?_
    refine wc_seq ?_
    refine wc_region ?_
    refine wl rfl rfl rfl (p_mv rfl) ?_
    refine wl rfl rfl rfl (p_nck rfl) ?_
    refine wl rfl rfl rfl (p_fld (j := 1) Tryd.underlying156 rfl ⟨_, by rfl⟩ rfl rfl) ?_
    refine wl rfl rfl rfl (p_ldA (cs := [ndp x.adr, ndp y.adr]) Tryd.underlying142 rfl (szL sz142 (by first | rfl | (simp only [List.length_append, List.length_map, List.length_cons, List.length_nil]; done) | (simp only [List.length_append, List.length_map, List.length_cons, List.length_nil, List.size_toArray]; done))) rfl (fun _ e => e ▸ rng_at (p := ([i64 (b : Int)] : List Value)) (q := ([ndp x.adr, ndp y.adr] : List Value)) (r := (((List.map u8v x.er.key) ++ ((List.map u8v zeroH) ++ ([i64 ((x.er.cnt + y.er.cnt : Nat) : Int), .int .u32 (d0 : Int), .int .i32 0, .int .u32 0] ++ (List.map u8v h0)))) : List Value)) hb0 (by simp only [List.append_assoc, List.cons_append, List.nil_append, List.append_nil]) (by first | rfl | (simp only [List.length_append, List.length_map, List.length_cons, List.length_nil]; done) | (simp only [List.length_append, List.length_map, List.length_cons, List.length_nil, List.size_toArray]; done)))) ?_
    have hltg0 := hb0.lt
    have hltg4 := hb4.lt
    have hltg5 := hb5.lt
    refine wle rfl (e_alloc (cs := ([Value.pointer none, Value.pointer none] : List Value).toArray) rfl (by rfl) rfl (fun w5 g8 hg8 hb8 hc hsz8 => ?_))
    have hzw5 := hc.size
    have HC := HC.tr hc
    have hb0 := hb0.ch hc (fun h => h)
    first | have hX := hX.no hc | have hX := hX.ch hc (by intro k1 hk1 hF1 ht1; first | omega | (have hq1 := hXl _ hF1; omega) | (rcases hF1 with hF1 | hF1 <;> first | omega | (have hq1 := hXl _ hF1; omega)))
    first | have hXx := hXx.no hc | have hXx := hXx.ch hc (by intro k1 hk1 hF1 ht1; first | omega | (have hq1 := hXlx _ hF1; omega) | (rcases hF1 with hF1 | hF1 <;> first | omega | (have hq1 := hXlx _ hF1; omega)))
    first | have hXy := hXy.no hc | have hXy := hXy.ch hc (by intro k1 hk1 hF1 ht1; first | omega | (have hq1 := hXly _ hF1; omega) | (rcases hF1 with hF1 | hF1 <;> first | omega | (have hq1 := hXly _ hF1; omega)))
    have hb4 := hb4.ch hc (fun h => h)
    have hb5 := hb5.ch hc (fun h => h)
    have hge8 : w.heap.size ≤ g8 := by have := HC.size; omega
    have neg0_8 : g0 < g8 := by omega
    have neg4_8 : g4 < g8 := by omega
    have neg5_8 : g5 < g8 := by omega
    refine wle rfl (e_stW (vs := ([ndp x.adr, ndp y.adr] : List Value)) (szL sz142 (by first | rfl | (simp only [List.length_append, List.length_map, List.length_cons, List.length_nil]; done) | (simp only [List.length_append, List.length_map, List.length_cons, List.length_nil, List.size_toArray]; done))) (allOne rfl) rfl rfl hb8 (by first | rfl | (simp only [List.length_append, List.length_map, List.length_cons, List.length_nil]; done) | (simp only [List.length_append, List.length_map, List.length_cons, List.length_nil, List.size_toArray]; done)) (fun w6 hb8 hc hsz => ?_))
    have hzw6 := hc.size
    have HC := HC.trans hc (fun _ _ h => h) (fun k hk ht => absurd ht (by omega))
    have hb0 := hb0.ch hc (by omega)
    first | have hX := hX.no hc | have hX := hX.ch hc (by intro k1 hk1 hF1 ht1; first | omega | (have hq1 := hXl _ hF1; omega) | (rcases hF1 with hF1 | hF1 <;> first | omega | (have hq1 := hXl _ hF1; omega)))
    first | have hXx := hXx.no hc | have hXx := hXx.ch hc (by intro k1 hk1 hF1 ht1; first | omega | (have hq1 := hXlx _ hF1; omega) | (rcases hF1 with hF1 | hF1 <;> first | omega | (have hq1 := hXlx _ hF1; omega)))
    first | have hXy := hXy.no hc | have hXy := hXy.ch hc (by intro k1 hk1 hF1 ht1; first | omega | (have hq1 := hXly _ hF1; omega) | (rcases hF1 with hF1 | hF1 <;> first | omega | (have hq1 := hXly _ hF1; omega)))
    have hb4 := hb4.ch hc (by omega)
    have hb5 := hb5.ch hc (by omega)
    refine wl_nil ?_
    refine x_seq ?_
    refine wc_seq ?_
    refine wc_draw (.st 0 1 (.st 1 0 (.st 2 0 (.st 3 0 (.st 4 1 (.st 5 2 (.st 6 0 .nil))))))) 7 (by kernel_rfl) (by kernel_rfl) (by kernel_rfl) (by repeat (first | with_reducible exact pan_body | with_reducible apply pan_then | with_reducible apply pan_in)) (fun x => Ch No w6.drew x) (Ch.refl _ _) ?_
    obtain ⟨w7, ew7⟩ : ∃ x, x = w6.drew := ⟨_, rfl⟩
    rw [← ew7]
    have hc : Ch No w6 w7 := by rw [ew7]; exact Ch.drew _
    have hszw7 : w7.heap.size = w6.heap.size := by rw [ew7]; rfl
    clear ew7
    have hzw7 := hc.size
    have HC := HC.tr hc
    have hb0 := hb0.ch hc (fun h => h)
    first | have hX := hX.no hc | have hX := hX.ch hc (by intro k1 hk1 hF1 ht1; first | omega | (have hq1 := hXl _ hF1; omega) | (rcases hF1 with hF1 | hF1 <;> first | omega | (have hq1 := hXl _ hF1; omega)))
    first | have hXx := hXx.no hc | have hXx := hXx.ch hc (by intro k1 hk1 hF1 ht1; first | omega | (have hq1 := hXlx _ hF1; omega) | (rcases hF1 with hF1 | hF1 <;> first | omega | (have hq1 := hXlx _ hF1; omega)))
    first | have hXy := hXy.no hc | have hXy := hXy.ch hc (by intro k1 hk1 hF1 ht1; first | omega | (have hq1 := hXly _ hF1; omega) | (rcases hF1 with hF1 | hF1 <;> first | omega | (have hq1 := hXly _ hF1; omega)))
    have hb4 := hb4.ch hc (fun h => h)
    have hb5 := hb5.ch hc (fun h => h)
    have hb8 := hb8.ch hc (fun h => h)
    have hS : Ch No w7 w7 := Ch.refl _ _
    refine ws_h rfl rfl rfl rfl (p_ldA (cs := List.map u8v k) Tryd.underlying38 rfl (szL sz38 (by rw [List.length_map]; exact hk)) rfl (fun _ h => (rngL (hb4.ch h (fun h => h))))) ?_
    refine ws_p rfl rfl rfl rfl (p_mv rfl) ?_
    refine ws_p rfl rfl rfl rfl (p_nck rfl) ?_
    refine ws_p rfl rfl rfl rfl (p_fld (j := 0) Tryd.underlying156 rfl ⟨_, by rfl⟩ rfl rfl) ?_
    refine ws_h rfl rfl rfl rfl (p_ld Tryd.underlying3 rfl rfl (fun _ h => h.cell (fun h => h) (cell_at (p := []) (v := (i64 (b : Int) : Value)) (r := (([ndp x.adr, ndp y.adr] ++ ((List.map u8v x.er.key) ++ ((List.map u8v zeroH) ++ ([i64 ((x.er.cnt + y.er.cnt : Nat) : Int), .int .u32 (d0 : Int), .int .i32 0, .int .u32 0] ++ (List.map u8v h0))))) : List Value)) hb0 (by simp only [List.append_assoc, List.cons_append, List.nil_append, List.append_nil]) (by first | rfl | (simp only [List.length_append, List.length_map, List.length_cons, List.length_nil]; done) | (simp only [List.length_append, List.length_map, List.length_cons, List.length_nil, List.size_toArray]; done))))) ?_
    refine ws_e rfl rfl (e_call ent38 rfl rfl (bitS (hk)) ?_)
    rintro _ w8 ⟨s46, rfl, hs46, hsl46, hc⟩
    refine ⟨_, rfl, hc, ?_⟩
    have hzw8 := hc.size
    have HC := HC.tr hc
    have hb0 := hb0.ch hc (fun h => h)
    first | have hX := hX.no hc | have hX := hX.ch hc (by intro k1 hk1 hF1 ht1; first | omega | (have hq1 := hXl _ hF1; omega) | (rcases hF1 with hF1 | hF1 <;> first | omega | (have hq1 := hXl _ hF1; omega)))
    first | have hXx := hXx.no hc | have hXx := hXx.ch hc (by intro k1 hk1 hF1 ht1; first | omega | (have hq1 := hXlx _ hF1; omega) | (rcases hF1 with hF1 | hF1 <;> first | omega | (have hq1 := hXlx _ hF1; omega)))
    first | have hXy := hXy.no hc | have hXy := hXy.ch hc (by intro k1 hk1 hF1 ht1; first | omega | (have hq1 := hXly _ hF1; omega) | (rcases hF1 with hF1 | hF1 <;> first | omega | (have hq1 := hXly _ hF1; omega)))
    have hb4 := hb4.ch hc (fun h => h)
    have hb5 := hb5.ch hc (fun h => h)
    have hb8 := hb8.ch hc (fun h => h)
    refine ws_narrow (S' := fun x => Ch No w8 x) (Ch.refl _ _) (fun x h => hc.tr h) ?_
    refine ws_p rfl rfl rfl rfl (p_as rfl) ?_
    refine ws_n ?_
    refine x_seq ?_
    refine wc_seq ?_
    obtain rfl | rfl : s46 = 0 ∨ s46 = 1 := by omega
    ·
      refine wc_draw (.st 0 0 (.st 1 0 (.st 2 0 (.st 3 1 (.st 4 1 (.st 5 1 (.st 6 2 (.st 7 0 (.st 8 3 .nil))))))))) 8 (by kernel_rfl) (by kernel_rfl) (by kernel_rfl) (by repeat (first | with_reducible exact pan_body | with_reducible apply pan_then | with_reducible apply pan_in)) (fun x => Ch No w8.drew x) (Ch.refl _ _) ?_
      obtain ⟨w9, ew9⟩ : ∃ x, x = w8.drew := ⟨_, rfl⟩
      rw [← ew9]
      have hc : Ch No w8 w9 := by rw [ew9]; exact Ch.drew _
      have hszw9 : w9.heap.size = w8.heap.size := by rw [ew9]; rfl
      clear ew9
      have hzw9 := hc.size
      have HC := HC.tr hc
      have hb0 := hb0.ch hc (fun h => h)
      first | have hX := hX.no hc | have hX := hX.ch hc (by intro k1 hk1 hF1 ht1; first | omega | (have hq1 := hXl _ hF1; omega) | (rcases hF1 with hF1 | hF1 <;> first | omega | (have hq1 := hXl _ hF1; omega)))
      first | have hXx := hXx.no hc | have hXx := hXx.ch hc (by intro k1 hk1 hF1 ht1; first | omega | (have hq1 := hXlx _ hF1; omega) | (rcases hF1 with hF1 | hF1 <;> first | omega | (have hq1 := hXlx _ hF1; omega)))
      first | have hXy := hXy.no hc | have hXy := hXy.ch hc (by intro k1 hk1 hF1 ht1; first | omega | (have hq1 := hXly _ hF1; omega) | (rcases hF1 with hF1 | hF1 <;> first | omega | (have hq1 := hXly _ hF1; omega)))
      have hb4 := hb4.ch hc (fun h => h)
      have hb5 := hb5.ch hc (fun h => h)
      have hb8 := hb8.ch hc (fun h => h)
      have hS : Ch No w9 w9 := Ch.refl _ _
      refine ws_p rfl rfl rfl rfl (p_mv rfl) ?_
      refine ws_p rfl rfl rfl rfl (p_mv rfl) ?_
      refine ws_p rfl rfl rfl rfl (p_ixA (j := 0) Tryd.underlying142 sz39 rfl rfl (by omega) (by omega) rfl) ?_
      refine ws_h rfl rfl rfl rfl (p_ld Tryd.underlying39 rfl rfl (fun _ h => h.cell (fun h => h) (cell_at (p := []) (v := (ndp x.adr : Value)) (r := ([ndp y.adr] : List Value)) hb8 (by simp only [List.append_assoc, List.cons_append, List.nil_append, List.append_nil]) (by first | rfl | (simp only [List.length_append, List.length_map, List.length_cons, List.length_nil]; done) | (simp only [List.length_append, List.length_map, List.length_cons, List.length_nil, List.size_toArray]; done))))) ?_
      refine ws_h rfl rfl rfl rfl (p_ldA (cs := List.map u8v k) Tryd.underlying38 rfl (szL sz38 (by rw [List.length_map]; exact hk)) rfl (fun _ h => (rngL (hb4.ch h (fun h => h))))) ?_
      refine ws_h rfl rfl rfl rfl (p_ldA (cs := List.map u8v u) Tryd.underlying38 rfl (szL sz38 (by rw [List.length_map]; exact hu)) rfl (fun _ h => (rngL (hb5.ch h (fun h => h))))) ?_
      refine ws_e rfl rfl (e_call ent83 rfl rfl (IHx hXx.at_ (hk) (hu) (by omega)) ?_)
      rintro _ w11 ⟨t53, rfl, het53, hL53, hc⟩
      refine ⟨_, rfl, hc, ?_⟩
      have hzw11 := hc.size
      have HC := HC.tr hc
      have hb0 := hb0.ch hc (fun h => h)
      first | have hX := hX.no hc | have hX := hX.ch hc (by intro k1 hk1 hF1 ht1; first | omega | (have hq1 := hXl _ hF1; omega) | (rcases hF1 with hF1 | hF1 <;> first | omega | (have hq1 := hXl _ hF1; omega)))
      first | have hXx := hXx.no hc | have hXx := hXx.ch hc (by intro k1 hk1 hF1 ht1; first | omega | (have hq1 := hXlx _ hF1; omega) | (rcases hF1 with hF1 | hF1 <;> first | omega | (have hq1 := hXlx _ hF1; omega)))
      first | have hXy := hXy.no hc | have hXy := hXy.ch hc (by intro k1 hk1 hF1 ht1; first | omega | (have hq1 := hXly _ hF1; omega) | (rcases hF1 with hF1 | hF1 <;> first | omega | (have hq1 := hXly _ hF1; omega)))
      have hb4 := hb4.ch hc (fun h => h)
      have hb5 := hb5.ch hc (fun h => h)
      have hb8 := hb8.ch hc (fun h => h)
      have hcl53 : t53.er.cnt ≤ x.er.cnt + 1 := by rw [het53]; exact Tr.put_cnt
      refine ws_narrow (S' := fun x => Ch No w11 x) (Ch.refl _ _) (fun x h => hc.tr h) ?_
      refine ws_p rfl rfl rfl rfl (p_ixA (j := 0) Tryd.underlying142 sz39 rfl rfl (by omega) (by omega) rfl) ?_
      refine ws_l rfl rfl (e_stC (p := []) (u := (ndp x.adr : Value)) (r := ([ndp y.adr] : List Value)) (v := ndp t53.adr) (by rfl) rfl rfl rfl hb8 (by simp only [List.append_assoc, List.cons_append, List.nil_append, List.append_nil]) (by first | rfl | (simp only [List.length_append, List.length_map, List.length_cons, List.length_nil]; done) | (simp only [List.length_append, List.length_map, List.length_cons, List.length_nil, List.size_toArray]; done)) (fun w13 hb8 hc hsz => ?_))
      have hb8 : Blk w13 g8 142 ([ndp t53.adr, ndp y.adr] : List Value).toArray := by have h := hb8; simp only [List.append_assoc, List.cons_append, List.nil_append, List.append_nil] at h ⊢; exact h
      have hzw13 := hc.size
      have HC := HC.trans hc (fun _ _ h => h) (fun k hk ht => absurd ht (by omega))
      have hb0 := hb0.ch hc (by omega)
      first | have hX := hX.no hc | have hX := hX.ch hc (by intro k1 hk1 hF1 ht1; first | omega | (have hq1 := hXl _ hF1; omega) | (rcases hF1 with hF1 | hF1 <;> first | omega | (have hq1 := hXl _ hF1; omega)))
      first | have hXx := hXx.no hc | have hXx := hXx.ch hc (by intro k1 hk1 hF1 ht1; first | omega | (have hq1 := hXlx _ hF1; omega) | (rcases hF1 with hF1 | hF1 <;> first | omega | (have hq1 := hXlx _ hF1; omega)))
      first | have hXy := hXy.no hc | have hXy := hXy.ch hc (by intro k1 hk1 hF1 ht1; first | omega | (have hq1 := hXly _ hF1; omega) | (rcases hF1 with hF1 | hF1 <;> first | omega | (have hq1 := hXly _ hF1; omega)))
      have hb4 := hb4.ch hc (by omega)
      have hb5 := hb5.ch hc (by omega)
      first | have hL53 := hL53.no hc | have hL53 := hL53.ch hc (by intro k1 hk1 hF1 ht1; first | omega | (have hq1 := hXlx _ hF1; omega) | (rcases hF1 with hF1 | hF1 <;> first | omega | (have hq1 := hXlx _ hF1; omega)))
      refine ws_n ?_
      refine x_seq ?_
      refine wc_seq ?_
      refine wc_draw (.st 0 0 (.st 1 0 (.st 2 0 (.st 3 1 (.st 4 1 (.st 5 2 (.st 6 0 .nil))))))) 7 (by kernel_rfl) (by kernel_rfl) (by kernel_rfl) (by repeat (first | with_reducible exact pan_body | with_reducible apply pan_then | with_reducible apply pan_in)) (fun x => Ch No w13.drew x) (Ch.refl _ _) ?_
      obtain ⟨w14, ew14⟩ : ∃ x, x = w13.drew := ⟨_, rfl⟩
      rw [← ew14]
      have hc : Ch No w13 w14 := by rw [ew14]; exact Ch.drew _
      have hszw14 : w14.heap.size = w13.heap.size := by rw [ew14]; rfl
      clear ew14
      have hzw14 := hc.size
      have HC := HC.tr hc
      have hb0 := hb0.ch hc (fun h => h)
      first | have hX := hX.no hc | have hX := hX.ch hc (by intro k1 hk1 hF1 ht1; first | omega | (have hq1 := hXl _ hF1; omega) | (rcases hF1 with hF1 | hF1 <;> first | omega | (have hq1 := hXl _ hF1; omega)))
      first | have hXx := hXx.no hc | have hXx := hXx.ch hc (by intro k1 hk1 hF1 ht1; first | omega | (have hq1 := hXlx _ hF1; omega) | (rcases hF1 with hF1 | hF1 <;> first | omega | (have hq1 := hXlx _ hF1; omega)))
      first | have hXy := hXy.no hc | have hXy := hXy.ch hc (by intro k1 hk1 hF1 ht1; first | omega | (have hq1 := hXly _ hF1; omega) | (rcases hF1 with hF1 | hF1 <;> first | omega | (have hq1 := hXly _ hF1; omega)))
      have hb4 := hb4.ch hc (fun h => h)
      have hb5 := hb5.ch hc (fun h => h)
      have hb8 := hb8.ch hc (fun h => h)
      first | have hL53 := hL53.no hc | have hL53 := hL53.ch hc (by intro k1 hk1 hF1 ht1; first | omega | (have hq1 := hXlx _ hF1; omega) | (rcases hF1 with hF1 | hF1 <;> first | omega | (have hq1 := hXlx _ hF1; omega)))
      have hS : Ch No w14 w14 := Ch.refl _ _
      refine ws_p rfl rfl rfl rfl (p_mv rfl) ?_
      refine ws_p rfl rfl rfl rfl (p_nck rfl) ?_
      refine ws_p rfl rfl rfl rfl (p_fld (j := 0) Tryd.underlying156 rfl ⟨_, by rfl⟩ rfl rfl) ?_
      refine ws_h rfl rfl rfl rfl (p_ld Tryd.underlying3 rfl rfl (fun _ h => h.cell (fun h => h) (cell_at (p := []) (v := (i64 (b : Int) : Value)) (r := (([ndp x.adr, ndp y.adr] ++ ((List.map u8v x.er.key) ++ ((List.map u8v zeroH) ++ ([i64 ((x.er.cnt + y.er.cnt : Nat) : Int), .int .u32 (d0 : Int), .int .i32 0, .int .u32 0] ++ (List.map u8v h0))))) : List Value)) hb0 (by simp only [List.append_assoc, List.cons_append, List.nil_append, List.append_nil]) (by first | rfl | (simp only [List.length_append, List.length_map, List.length_cons, List.length_nil]; done) | (simp only [List.length_append, List.length_map, List.length_cons, List.length_nil, List.size_toArray]; done))))) ?_
      refine ws_h rfl rfl rfl rfl (p_ldA (cs := ([ndp t53.adr, ndp y.adr] : List Value)) Tryd.underlying142 rfl (szL sz142 (by first | rfl | (simp only [List.length_append, List.length_map, List.length_cons, List.length_nil]; done) | (simp only [List.length_append, List.length_map, List.length_cons, List.length_nil, List.size_toArray]; done))) rfl (fun _ h => (rngL (hb8.ch h (fun h => h))))) ?_
      refine ws_e rfl rfl (e_call ent106 rfl rfl (fork_at (b := _) hL53.at_ hXy.at_ rfl rfl (by omega) (by omega)) ?_)
      rintro _ w15 ⟨g60, rfl, hL60, hc⟩
      refine ⟨_, rfl, hc, ?_⟩
      have hzw15 := hc.size
      have HC := HC.tr hc
      have hb0 := hb0.ch hc (fun h => h)
      first | have hX := hX.no hc | have hX := hX.ch hc (by intro k1 hk1 hF1 ht1; first | omega | (have hq1 := hXl _ hF1; omega) | (rcases hF1 with hF1 | hF1 <;> first | omega | (have hq1 := hXl _ hF1; omega)))
      first | have hXx := hXx.no hc | have hXx := hXx.ch hc (by intro k1 hk1 hF1 ht1; first | omega | (have hq1 := hXlx _ hF1; omega) | (rcases hF1 with hF1 | hF1 <;> first | omega | (have hq1 := hXlx _ hF1; omega)))
      first | have hXy := hXy.no hc | have hXy := hXy.ch hc (by intro k1 hk1 hF1 ht1; first | omega | (have hq1 := hXly _ hF1; omega) | (rcases hF1 with hF1 | hF1 <;> first | omega | (have hq1 := hXly _ hF1; omega)))
      have hb4 := hb4.ch hc (fun h => h)
      have hb5 := hb5.ch hc (fun h => h)
      have hb8 := hb8.ch hc (fun h => h)
      first | have hL53 := hL53.no hc | have hL53 := hL53.ch hc (by intro k1 hk1 hF1 ht1; first | omega | (have hq1 := hXlx _ hF1; omega) | (rcases hF1 with hF1 | hF1 <;> first | omega | (have hq1 := hXlx _ hF1; omega)))
      refine ws_narrow (S' := fun x => Ch No w15 x) (Ch.refl _ _) (fun x h => hc.tr h) ?_
      refine ws_p rfl rfl rfl rfl (p_as rfl) ?_
      refine ws_n ?_
      refine x_seq ?_
      refine wc_ret ?_
      refine x_then_ret ?_
      refine fin_run ((res1 rfl rfl)) ?_
      first | (exact ⟨.fork g60 b t53 y, rfl, by show Tr.fork b t53.er y.er = _; rw [Tr.put, if_pos (by omega), if_pos hs46, het53], hL60.mono (fun j _ h => by rcases h with h | h | h <;> first | exact .inl h | (left; simp [LT.ads, h]; done) | (right; omega) | (right; have := hL53.2 j h; omega) | (rcases hL53.2 j h with h | h <;> first | (left; simp [LT.ads, h]; done) | (right; omega))), HC⟩) | (exact ⟨.fork g60 b x t53, rfl, by show Tr.fork b x.er t53.er = _; rw [Tr.put, if_pos (by omega), if_neg (by omega), het53], hL60.mono (fun j _ h => by rcases h with h | h | h <;> first | exact .inl h | (left; simp [LT.ads, h]; done) | (right; omega) | (right; have := hL53.2 j h; omega) | (rcases hL53.2 j h with h | h <;> first | (left; simp [LT.ads, h]; done) | (right; omega))), HC⟩) | (exact ⟨.fork g75 (apartK x.er.key k) (.leaf g69 k u) (.fork g0 b x y), rfl, by rw [Tr.put, if_neg (by omega), hs63]; rfl, hL75.mono (fun j _ h => by rcases h with h | h | h <;> first | exact .inl h | (left; simp [LT.ads, h]; done) | (right; omega) | (right; have := hL69.2 j h; omega) | (rcases hL69.2 j h with h | h <;> first | (left; simp [LT.ads, h]; done) | (right; omega))), HC⟩) | (exact ⟨.fork g75 (apartK x.er.key k) (.fork g0 b x y) (.leaf g69 k u), rfl, by rw [Tr.put, if_neg (by omega), hs63]; rfl, hL75.mono (fun j _ h => by rcases h with h | h | h <;> first | exact .inl h | (left; simp [LT.ads, h]; done) | (right; omega) | (right; have := hL69.2 j h; omega) | (rcases hL69.2 j h with h | h <;> first | (left; simp [LT.ads, h]; done) | (right; omega))), HC⟩)
    ·
      refine wc_draw (.st 0 0 (.st 1 0 (.st 2 0 (.st 3 1 (.st 4 1 (.st 5 1 (.st 6 2 (.st 7 0 (.st 8 3 .nil))))))))) 8 (by kernel_rfl) (by kernel_rfl) (by kernel_rfl) (by repeat (first | with_reducible exact pan_body | with_reducible apply pan_then | with_reducible apply pan_in)) (fun x => Ch No w8.drew x) (Ch.refl _ _) ?_
      obtain ⟨w16, ew16⟩ : ∃ x, x = w8.drew := ⟨_, rfl⟩
      rw [← ew16]
      have hc : Ch No w8 w16 := by rw [ew16]; exact Ch.drew _
      have hszw16 : w16.heap.size = w8.heap.size := by rw [ew16]; rfl
      clear ew16
      have hzw16 := hc.size
      have HC := HC.tr hc
      have hb0 := hb0.ch hc (fun h => h)
      first | have hX := hX.no hc | have hX := hX.ch hc (by intro k1 hk1 hF1 ht1; first | omega | (have hq1 := hXl _ hF1; omega) | (rcases hF1 with hF1 | hF1 <;> first | omega | (have hq1 := hXl _ hF1; omega)))
      first | have hXx := hXx.no hc | have hXx := hXx.ch hc (by intro k1 hk1 hF1 ht1; first | omega | (have hq1 := hXlx _ hF1; omega) | (rcases hF1 with hF1 | hF1 <;> first | omega | (have hq1 := hXlx _ hF1; omega)))
      first | have hXy := hXy.no hc | have hXy := hXy.ch hc (by intro k1 hk1 hF1 ht1; first | omega | (have hq1 := hXly _ hF1; omega) | (rcases hF1 with hF1 | hF1 <;> first | omega | (have hq1 := hXly _ hF1; omega)))
      have hb4 := hb4.ch hc (fun h => h)
      have hb5 := hb5.ch hc (fun h => h)
      have hb8 := hb8.ch hc (fun h => h)
      have hS : Ch No w16 w16 := Ch.refl _ _
      refine ws_p rfl rfl rfl rfl (p_mv rfl) ?_
      refine ws_p rfl rfl rfl rfl (p_mv rfl) ?_
      refine ws_p rfl rfl rfl rfl (p_ixA (j := 1) Tryd.underlying142 sz39 rfl rfl (by omega) (by omega) rfl) ?_
      refine ws_h rfl rfl rfl rfl (p_ld Tryd.underlying39 rfl rfl (fun _ h => h.cell (fun h => h) (cell_at (p := ([ndp x.adr] : List Value)) (v := (ndp y.adr : Value)) (r := []) hb8 (by simp only [List.append_assoc, List.cons_append, List.nil_append, List.append_nil]) (by first | rfl | (simp only [List.length_append, List.length_map, List.length_cons, List.length_nil]; done) | (simp only [List.length_append, List.length_map, List.length_cons, List.length_nil, List.size_toArray]; done))))) ?_
      refine ws_h rfl rfl rfl rfl (p_ldA (cs := List.map u8v k) Tryd.underlying38 rfl (szL sz38 (by rw [List.length_map]; exact hk)) rfl (fun _ h => (rngL (hb4.ch h (fun h => h))))) ?_
      refine ws_h rfl rfl rfl rfl (p_ldA (cs := List.map u8v u) Tryd.underlying38 rfl (szL sz38 (by rw [List.length_map]; exact hu)) rfl (fun _ h => (rngL (hb5.ch h (fun h => h))))) ?_
      refine ws_e rfl rfl (e_call ent83 rfl rfl (IHy hXy.at_ (hk) (hu) (by omega)) ?_)
      rintro _ w18 ⟨t53, rfl, het53, hL53, hc⟩
      refine ⟨_, rfl, hc, ?_⟩
      have hzw18 := hc.size
      have HC := HC.tr hc
      have hb0 := hb0.ch hc (fun h => h)
      first | have hX := hX.no hc | have hX := hX.ch hc (by intro k1 hk1 hF1 ht1; first | omega | (have hq1 := hXl _ hF1; omega) | (rcases hF1 with hF1 | hF1 <;> first | omega | (have hq1 := hXl _ hF1; omega)))
      first | have hXx := hXx.no hc | have hXx := hXx.ch hc (by intro k1 hk1 hF1 ht1; first | omega | (have hq1 := hXlx _ hF1; omega) | (rcases hF1 with hF1 | hF1 <;> first | omega | (have hq1 := hXlx _ hF1; omega)))
      first | have hXy := hXy.no hc | have hXy := hXy.ch hc (by intro k1 hk1 hF1 ht1; first | omega | (have hq1 := hXly _ hF1; omega) | (rcases hF1 with hF1 | hF1 <;> first | omega | (have hq1 := hXly _ hF1; omega)))
      have hb4 := hb4.ch hc (fun h => h)
      have hb5 := hb5.ch hc (fun h => h)
      have hb8 := hb8.ch hc (fun h => h)
      have hcl53 : t53.er.cnt ≤ y.er.cnt + 1 := by rw [het53]; exact Tr.put_cnt
      refine ws_narrow (S' := fun x => Ch No w18 x) (Ch.refl _ _) (fun x h => hc.tr h) ?_
      refine ws_p rfl rfl rfl rfl (p_ixA (j := 1) Tryd.underlying142 sz39 rfl rfl (by omega) (by omega) rfl) ?_
      refine ws_l rfl rfl (e_stC (p := ([ndp x.adr] : List Value)) (u := (ndp y.adr : Value)) (r := []) (v := ndp t53.adr) (by rfl) rfl rfl rfl hb8 (by simp only [List.append_assoc, List.cons_append, List.nil_append, List.append_nil]) (by first | rfl | (simp only [List.length_append, List.length_map, List.length_cons, List.length_nil]; done) | (simp only [List.length_append, List.length_map, List.length_cons, List.length_nil, List.size_toArray]; done)) (fun w20 hb8 hc hsz => ?_))
      have hb8 : Blk w20 g8 142 ([ndp x.adr, ndp t53.adr] : List Value).toArray := by have h := hb8; simp only [List.append_assoc, List.cons_append, List.nil_append, List.append_nil] at h ⊢; exact h
      have hzw20 := hc.size
      have HC := HC.trans hc (fun _ _ h => h) (fun k hk ht => absurd ht (by omega))
      have hb0 := hb0.ch hc (by omega)
      first | have hX := hX.no hc | have hX := hX.ch hc (by intro k1 hk1 hF1 ht1; first | omega | (have hq1 := hXl _ hF1; omega) | (rcases hF1 with hF1 | hF1 <;> first | omega | (have hq1 := hXl _ hF1; omega)))
      first | have hXx := hXx.no hc | have hXx := hXx.ch hc (by intro k1 hk1 hF1 ht1; first | omega | (have hq1 := hXlx _ hF1; omega) | (rcases hF1 with hF1 | hF1 <;> first | omega | (have hq1 := hXlx _ hF1; omega)))
      first | have hXy := hXy.no hc | have hXy := hXy.ch hc (by intro k1 hk1 hF1 ht1; first | omega | (have hq1 := hXly _ hF1; omega) | (rcases hF1 with hF1 | hF1 <;> first | omega | (have hq1 := hXly _ hF1; omega)))
      have hb4 := hb4.ch hc (by omega)
      have hb5 := hb5.ch hc (by omega)
      first | have hL53 := hL53.no hc | have hL53 := hL53.ch hc (by intro k1 hk1 hF1 ht1; first | omega | (have hq1 := hXly _ hF1; omega) | (rcases hF1 with hF1 | hF1 <;> first | omega | (have hq1 := hXly _ hF1; omega)))
      refine ws_n ?_
      refine x_seq ?_
      refine wc_seq ?_
      refine wc_draw (.st 0 0 (.st 1 0 (.st 2 0 (.st 3 1 (.st 4 1 (.st 5 2 (.st 6 0 .nil))))))) 7 (by kernel_rfl) (by kernel_rfl) (by kernel_rfl) (by repeat (first | with_reducible exact pan_body | with_reducible apply pan_then | with_reducible apply pan_in)) (fun x => Ch No w20.drew x) (Ch.refl _ _) ?_
      obtain ⟨w21, ew21⟩ : ∃ x, x = w20.drew := ⟨_, rfl⟩
      rw [← ew21]
      have hc : Ch No w20 w21 := by rw [ew21]; exact Ch.drew _
      have hszw21 : w21.heap.size = w20.heap.size := by rw [ew21]; rfl
      clear ew21
      have hzw21 := hc.size
      have HC := HC.tr hc
      have hb0 := hb0.ch hc (fun h => h)
      first | have hX := hX.no hc | have hX := hX.ch hc (by intro k1 hk1 hF1 ht1; first | omega | (have hq1 := hXl _ hF1; omega) | (rcases hF1 with hF1 | hF1 <;> first | omega | (have hq1 := hXl _ hF1; omega)))
      first | have hXx := hXx.no hc | have hXx := hXx.ch hc (by intro k1 hk1 hF1 ht1; first | omega | (have hq1 := hXlx _ hF1; omega) | (rcases hF1 with hF1 | hF1 <;> first | omega | (have hq1 := hXlx _ hF1; omega)))
      first | have hXy := hXy.no hc | have hXy := hXy.ch hc (by intro k1 hk1 hF1 ht1; first | omega | (have hq1 := hXly _ hF1; omega) | (rcases hF1 with hF1 | hF1 <;> first | omega | (have hq1 := hXly _ hF1; omega)))
      have hb4 := hb4.ch hc (fun h => h)
      have hb5 := hb5.ch hc (fun h => h)
      have hb8 := hb8.ch hc (fun h => h)
      first | have hL53 := hL53.no hc | have hL53 := hL53.ch hc (by intro k1 hk1 hF1 ht1; first | omega | (have hq1 := hXly _ hF1; omega) | (rcases hF1 with hF1 | hF1 <;> first | omega | (have hq1 := hXly _ hF1; omega)))
      have hS : Ch No w21 w21 := Ch.refl _ _
      refine ws_p rfl rfl rfl rfl (p_mv rfl) ?_
      refine ws_p rfl rfl rfl rfl (p_nck rfl) ?_
      refine ws_p rfl rfl rfl rfl (p_fld (j := 0) Tryd.underlying156 rfl ⟨_, by rfl⟩ rfl rfl) ?_
      refine ws_h rfl rfl rfl rfl (p_ld Tryd.underlying3 rfl rfl (fun _ h => h.cell (fun h => h) (cell_at (p := []) (v := (i64 (b : Int) : Value)) (r := (([ndp x.adr, ndp y.adr] ++ ((List.map u8v x.er.key) ++ ((List.map u8v zeroH) ++ ([i64 ((x.er.cnt + y.er.cnt : Nat) : Int), .int .u32 (d0 : Int), .int .i32 0, .int .u32 0] ++ (List.map u8v h0))))) : List Value)) hb0 (by simp only [List.append_assoc, List.cons_append, List.nil_append, List.append_nil]) (by first | rfl | (simp only [List.length_append, List.length_map, List.length_cons, List.length_nil]; done) | (simp only [List.length_append, List.length_map, List.length_cons, List.length_nil, List.size_toArray]; done))))) ?_
      refine ws_h rfl rfl rfl rfl (p_ldA (cs := ([ndp x.adr, ndp t53.adr] : List Value)) Tryd.underlying142 rfl (szL sz142 (by first | rfl | (simp only [List.length_append, List.length_map, List.length_cons, List.length_nil]; done) | (simp only [List.length_append, List.length_map, List.length_cons, List.length_nil, List.size_toArray]; done))) rfl (fun _ h => (rngL (hb8.ch h (fun h => h))))) ?_
      refine ws_e rfl rfl (e_call ent106 rfl rfl (fork_at (b := _) hXx.at_ hL53.at_ rfl rfl (by omega) (by omega)) ?_)
      rintro _ w22 ⟨g60, rfl, hL60, hc⟩
      refine ⟨_, rfl, hc, ?_⟩
      have hzw22 := hc.size
      have HC := HC.tr hc
      have hb0 := hb0.ch hc (fun h => h)
      first | have hX := hX.no hc | have hX := hX.ch hc (by intro k1 hk1 hF1 ht1; first | omega | (have hq1 := hXl _ hF1; omega) | (rcases hF1 with hF1 | hF1 <;> first | omega | (have hq1 := hXl _ hF1; omega)))
      first | have hXx := hXx.no hc | have hXx := hXx.ch hc (by intro k1 hk1 hF1 ht1; first | omega | (have hq1 := hXlx _ hF1; omega) | (rcases hF1 with hF1 | hF1 <;> first | omega | (have hq1 := hXlx _ hF1; omega)))
      first | have hXy := hXy.no hc | have hXy := hXy.ch hc (by intro k1 hk1 hF1 ht1; first | omega | (have hq1 := hXly _ hF1; omega) | (rcases hF1 with hF1 | hF1 <;> first | omega | (have hq1 := hXly _ hF1; omega)))
      have hb4 := hb4.ch hc (fun h => h)
      have hb5 := hb5.ch hc (fun h => h)
      have hb8 := hb8.ch hc (fun h => h)
      first | have hL53 := hL53.no hc | have hL53 := hL53.ch hc (by intro k1 hk1 hF1 ht1; first | omega | (have hq1 := hXly _ hF1; omega) | (rcases hF1 with hF1 | hF1 <;> first | omega | (have hq1 := hXly _ hF1; omega)))
      refine ws_narrow (S' := fun x => Ch No w22 x) (Ch.refl _ _) (fun x h => hc.tr h) ?_
      refine ws_p rfl rfl rfl rfl (p_as rfl) ?_
      refine ws_n ?_
      refine x_seq ?_
      refine wc_ret ?_
      refine x_then_ret ?_
      refine fin_run ((res1 rfl rfl)) ?_
      first | (exact ⟨.fork g60 b t53 y, rfl, by show Tr.fork b t53.er y.er = _; rw [Tr.put, if_pos (by omega), if_pos hs46, het53], hL60.mono (fun j _ h => by rcases h with h | h | h <;> first | exact .inl h | (left; simp [LT.ads, h]; done) | (right; omega) | (right; have := hL53.2 j h; omega) | (rcases hL53.2 j h with h | h <;> first | (left; simp [LT.ads, h]; done) | (right; omega))), HC⟩) | (exact ⟨.fork g60 b x t53, rfl, by show Tr.fork b x.er t53.er = _; rw [Tr.put, if_pos (by omega), if_neg (by omega), het53], hL60.mono (fun j _ h => by rcases h with h | h | h <;> first | exact .inl h | (left; simp [LT.ads, h]; done) | (right; omega) | (right; have := hL53.2 j h; omega) | (rcases hL53.2 j h with h | h <;> first | (left; simp [LT.ads, h]; done) | (right; omega))), HC⟩) | (exact ⟨.fork g75 (apartK x.er.key k) (.leaf g69 k u) (.fork g0 b x y), rfl, by rw [Tr.put, if_neg (by omega), hs63]; rfl, hL75.mono (fun j _ h => by rcases h with h | h | h <;> first | exact .inl h | (left; simp [LT.ads, h]; done) | (right; omega) | (right; have := hL69.2 j h; omega) | (rcases hL69.2 j h with h | h <;> first | (left; simp [LT.ads, h]; done) | (right; omega))), HC⟩) | (exact ⟨.fork g75 (apartK x.er.key k) (.fork g0 b x y) (.leaf g69 k u), rfl, by rw [Tr.put, if_neg (by omega), hs63]; rfl, hL75.mono (fun j _ h => by rcases h with h | h | h <;> first | exact .inl h | (left; simp [LT.ads, h]; done) | (right; omega) | (right; have := hL69.2 j h; omega) | (rcases hL69.2 j h with h | h <;> first | (left; simp [LT.ads, h]; done) | (right; omega))), HC⟩)
  ·
    have c1 := of_decide_eq_false c1
    refine wc_skip ?_
    refine x_seq ?_
    refine wc_seq ?_
    refine wc_region ?_
    have hltg0 := hb0.lt
    have hltg4 := hb4.lt
    have hltg5 := hb5.lt
    refine wle rfl (e_alloc (cs := ([Value.pointer none, Value.pointer none] : List Value).toArray) rfl (by rfl) rfl (fun w23 g10 hg10 hb10 hc hsz10 => ?_))
    have hzw23 := hc.size
    have HC := HC.tr hc
    have hb0 := hb0.ch hc (fun h => h)
    first | have hX := hX.no hc | have hX := hX.ch hc (by intro k1 hk1 hF1 ht1; first | omega | (have hq1 := hXl _ hF1; omega) | (rcases hF1 with hF1 | hF1 <;> first | omega | (have hq1 := hXl _ hF1; omega)))
    first | have hXx := hXx.no hc | have hXx := hXx.ch hc (by intro k1 hk1 hF1 ht1; first | omega | (have hq1 := hXlx _ hF1; omega) | (rcases hF1 with hF1 | hF1 <;> first | omega | (have hq1 := hXlx _ hF1; omega)))
    first | have hXy := hXy.no hc | have hXy := hXy.ch hc (by intro k1 hk1 hF1 ht1; first | omega | (have hq1 := hXly _ hF1; omega) | (rcases hF1 with hF1 | hF1 <;> first | omega | (have hq1 := hXly _ hF1; omega)))
    have hb4 := hb4.ch hc (fun h => h)
    have hb5 := hb5.ch hc (fun h => h)
    have hge10 : w.heap.size ≤ g10 := by have := HC.size; omega
    have neg0_10 : g0 < g10 := by omega
    have neg4_10 : g4 < g10 := by omega
    have neg5_10 : g5 < g10 := by omega
    refine wl_nil ?_
    refine x_seq ?_
    refine wc_seq ?_
    refine wc_region ?_
    refine wl rfl rfl rfl (p_ldA (cs := List.map u8v k) Tryd.underlying38 rfl (szL sz38 (by rw [List.length_map]; exact hk)) rfl (fun _ e => e ▸ rngL hb4)) ?_
    refine wl rfl rfl rfl (p_mv rfl) ?_
    refine wle rfl (e_call ent38 rfl rfl (bitS (hk)) ?_)
    rintro _ w24 ⟨s63, rfl, hs63, hsl63, hc⟩
    refine ⟨_, rfl, ?_⟩
    have hzw24 := hc.size
    have HC := HC.tr hc
    have hb0 := hb0.ch hc (fun h => h)
    first | have hX := hX.no hc | have hX := hX.ch hc (by intro k1 hk1 hF1 ht1; first | omega | (have hq1 := hXl _ hF1; omega) | (rcases hF1 with hF1 | hF1 <;> first | omega | (have hq1 := hXl _ hF1; omega)))
    first | have hXx := hXx.no hc | have hXx := hXx.ch hc (by intro k1 hk1 hF1 ht1; first | omega | (have hq1 := hXlx _ hF1; omega) | (rcases hF1 with hF1 | hF1 <;> first | omega | (have hq1 := hXlx _ hF1; omega)))
    first | have hXy := hXy.no hc | have hXy := hXy.ch hc (by intro k1 hk1 hF1 ht1; first | omega | (have hq1 := hXly _ hF1; omega) | (rcases hF1 with hF1 | hF1 <;> first | omega | (have hq1 := hXly _ hF1; omega)))
    have hb4 := hb4.ch hc (fun h => h)
    have hb5 := hb5.ch hc (fun h => h)
    have hb10 := hb10.ch hc (fun h => h)
    refine wl rfl rfl rfl (p_as rfl) ?_
    refine wl_nil ?_
    refine x_seq ?_
    refine wc_seq ?_
    obtain rfl | rfl : s63 = 0 ∨ s63 = 1 := by omega
    ·
      refine wc_region ?_
      refine wl rfl rfl rfl (p_mv rfl) ?_
      refine wl rfl rfl rfl (p_mv rfl) ?_
      refine wl rfl rfl rfl (p_sub (Z := 1) rfl rfl (by rw [w64 (by omega)]; rfl)) ?_
      refine wl rfl rfl rfl (p_ldA (cs := List.map u8v k) Tryd.underlying38 rfl (szL sz38 (by rw [List.length_map]; exact hk)) rfl (fun _ e => e ▸ rngL hb4)) ?_
      refine wl rfl rfl rfl (p_ldA (cs := List.map u8v u) Tryd.underlying38 rfl (szL sz38 (by rw [List.length_map]; exact hu)) rfl (fun _ e => e ▸ rngL hb5)) ?_
      refine wle rfl (e_call ent105 rfl rfl (item_any (hk) (hu)) ?_)
      rintro _ w25 ⟨g69, rfl, hL69, hc⟩
      refine ⟨_, rfl, ?_⟩
      have hzw25 := hc.size
      have HC := HC.tr hc
      have hb0 := hb0.ch hc (fun h => h)
      first | have hX := hX.no hc | have hX := hX.ch hc (by intro k1 hk1 hF1 ht1; first | omega | (have hq1 := hXl _ hF1; omega) | (rcases hF1 with hF1 | hF1 <;> first | omega | (have hq1 := hXl _ hF1; omega)))
      first | have hXx := hXx.no hc | have hXx := hXx.ch hc (by intro k1 hk1 hF1 ht1; first | omega | (have hq1 := hXlx _ hF1; omega) | (rcases hF1 with hF1 | hF1 <;> first | omega | (have hq1 := hXlx _ hF1; omega)))
      first | have hXy := hXy.no hc | have hXy := hXy.ch hc (by intro k1 hk1 hF1 ht1; first | omega | (have hq1 := hXly _ hF1; omega) | (rcases hF1 with hF1 | hF1 <;> first | omega | (have hq1 := hXly _ hF1; omega)))
      have hb4 := hb4.ch hc (fun h => h)
      have hb5 := hb5.ch hc (fun h => h)
      have hb10 := hb10.ch hc (fun h => h)
      have hgl69 := hL69.1.lt _ (LT.adr_mem _)
      refine wl rfl rfl rfl (p_mv rfl) ?_
      refine wl rfl rfl rfl (p_ixA (j := 0) Tryd.underlying142 sz39 rfl rfl (by omega) (by omega) rfl) ?_
      refine wle rfl (e_stC (p := []) (u := (Value.pointer none : Value)) (r := ([Value.pointer none] : List Value)) (v := ndp g69) (by rfl) rfl rfl rfl hb10 (by simp only [List.append_assoc, List.cons_append, List.nil_append, List.append_nil]) (by first | rfl | (simp only [List.length_append, List.length_map, List.length_cons, List.length_nil]; done) | (simp only [List.length_append, List.length_map, List.length_cons, List.length_nil, List.size_toArray]; done)) (fun w27 hb10 hc hsz => ?_))
      have hb10 : Blk w27 g10 142 ([ndp g69, Value.pointer none] : List Value).toArray := by have h := hb10; simp only [List.append_assoc, List.cons_append, List.nil_append, List.append_nil] at h ⊢; exact h
      have hzw27 := hc.size
      have HC := HC.trans hc (fun _ _ h => h) (fun k hk ht => absurd ht (by omega))
      have hb0 := hb0.ch hc (by omega)
      first | have hX := hX.no hc | have hX := hX.ch hc (by intro k1 hk1 hF1 ht1; first | omega | (have hq1 := hXl _ hF1; omega) | (rcases hF1 with hF1 | hF1 <;> first | omega | (have hq1 := hXl _ hF1; omega)))
      first | have hXx := hXx.no hc | have hXx := hXx.ch hc (by intro k1 hk1 hF1 ht1; first | omega | (have hq1 := hXlx _ hF1; omega) | (rcases hF1 with hF1 | hF1 <;> first | omega | (have hq1 := hXlx _ hF1; omega)))
      first | have hXy := hXy.no hc | have hXy := hXy.ch hc (by intro k1 hk1 hF1 ht1; first | omega | (have hq1 := hXly _ hF1; omega) | (rcases hF1 with hF1 | hF1 <;> first | omega | (have hq1 := hXly _ hF1; omega)))
      have hb4 := hb4.ch hc (by omega)
      have hb5 := hb5.ch hc (by omega)
      first | have hL69 := hL69.no hc | have hL69 := hL69.ch hc (by intro k1 hk1 hF1 ht1; first | omega | (have hq1 := hXl _ hF1; omega) | (rcases hF1 with hF1 | hF1 <;> first | omega | (have hq1 := hXl _ hF1; omega)))
      refine wl rfl rfl rfl (p_ixA (j := 1) Tryd.underlying142 sz39 rfl rfl (by omega) (by omega) rfl) ?_
      refine wle rfl (e_stC (p := ([ndp g69] : List Value)) (u := (Value.pointer none : Value)) (r := []) (v := ndp g0) (by rfl) rfl rfl rfl hb10 (by simp only [List.append_assoc, List.cons_append, List.nil_append, List.append_nil]) (by first | rfl | (simp only [List.length_append, List.length_map, List.length_cons, List.length_nil]; done) | (simp only [List.length_append, List.length_map, List.length_cons, List.length_nil, List.size_toArray]; done)) (fun w29 hb10 hc hsz => ?_))
      have hb10 : Blk w29 g10 142 ([ndp g69, ndp g0] : List Value).toArray := by have h := hb10; simp only [List.append_assoc, List.cons_append, List.nil_append, List.append_nil] at h ⊢; exact h
      have hzw29 := hc.size
      have HC := HC.trans hc (fun _ _ h => h) (fun k hk ht => absurd ht (by omega))
      have hb0 := hb0.ch hc (by omega)
      first | have hX := hX.no hc | have hX := hX.ch hc (by intro k1 hk1 hF1 ht1; first | omega | (have hq1 := hXl _ hF1; omega) | (rcases hF1 with hF1 | hF1 <;> first | omega | (have hq1 := hXl _ hF1; omega)))
      first | have hXx := hXx.no hc | have hXx := hXx.ch hc (by intro k1 hk1 hF1 ht1; first | omega | (have hq1 := hXlx _ hF1; omega) | (rcases hF1 with hF1 | hF1 <;> first | omega | (have hq1 := hXlx _ hF1; omega)))
      first | have hXy := hXy.no hc | have hXy := hXy.ch hc (by intro k1 hk1 hF1 ht1; first | omega | (have hq1 := hXly _ hF1; omega) | (rcases hF1 with hF1 | hF1 <;> first | omega | (have hq1 := hXly _ hF1; omega)))
      have hb4 := hb4.ch hc (by omega)
      have hb5 := hb5.ch hc (by omega)
      first | have hL69 := hL69.no hc | have hL69 := hL69.ch hc (by intro k1 hk1 hF1 ht1; first | omega | (have hq1 := hXl _ hF1; omega) | (rcases hF1 with hF1 | hF1 <;> first | omega | (have hq1 := hXl _ hF1; omega)))
      refine wl_nil ?_
      refine x_seq ?_
      refine wc_seq ?_
      refine wc_region ?_
      refine wl rfl rfl rfl (p_mv rfl) ?_
      refine wl rfl rfl rfl (p_ldA (cs := ([ndp g69, ndp g0] : List Value)) Tryd.underlying142 rfl (szL sz142 (by first | rfl | (simp only [List.length_append, List.length_map, List.length_cons, List.length_nil]; done) | (simp only [List.length_append, List.length_map, List.length_cons, List.length_nil, List.size_toArray]; done))) rfl (fun _ e => e ▸ rngL hb10)) ?_
      refine wle rfl (e_call ent106 rfl rfl (fork_at (b := apartK x.er.key k) hL69.at_ hX.at_ rfl rfl (by omega) (by simp only [LT.er, Tr.cnt]; omega)) ?_)
      rintro _ w30 ⟨g75, rfl, hL75, hc⟩
      refine ⟨_, rfl, ?_⟩
      have hzw30 := hc.size
      have HC := HC.tr hc
      have hb0 := hb0.ch hc (fun h => h)
      first | have hX := hX.no hc | have hX := hX.ch hc (by intro k1 hk1 hF1 ht1; first | omega | (have hq1 := hXl _ hF1; omega) | (rcases hF1 with hF1 | hF1 <;> first | omega | (have hq1 := hXl _ hF1; omega)))
      first | have hXx := hXx.no hc | have hXx := hXx.ch hc (by intro k1 hk1 hF1 ht1; first | omega | (have hq1 := hXlx _ hF1; omega) | (rcases hF1 with hF1 | hF1 <;> first | omega | (have hq1 := hXlx _ hF1; omega)))
      first | have hXy := hXy.no hc | have hXy := hXy.ch hc (by intro k1 hk1 hF1 ht1; first | omega | (have hq1 := hXly _ hF1; omega) | (rcases hF1 with hF1 | hF1 <;> first | omega | (have hq1 := hXly _ hF1; omega)))
      have hb4 := hb4.ch hc (fun h => h)
      have hb5 := hb5.ch hc (fun h => h)
      have hb10 := hb10.ch hc (fun h => h)
      first | have hL69 := hL69.no hc | have hL69 := hL69.ch hc (by intro k1 hk1 hF1 ht1; first | omega | (have hq1 := hXl _ hF1; omega) | (rcases hF1 with hF1 | hF1 <;> first | omega | (have hq1 := hXl _ hF1; omega)))
      refine wl rfl rfl rfl (p_as rfl) ?_
      refine wl_nil ?_
      refine x_seq ?_
      refine wc_ret ?_
      refine fin_run ((res1 rfl rfl)) ?_
      first | (exact ⟨.fork g60 b t53 y, rfl, by show Tr.fork b t53.er y.er = _; rw [Tr.put, if_pos (by omega), if_pos hs46, het53], hL60.mono (fun j _ h => by rcases h with h | h | h <;> first | exact .inl h | (left; simp [LT.ads, h]; done) | (right; omega) | (right; have := hL53.2 j h; omega) | (rcases hL53.2 j h with h | h <;> first | (left; simp [LT.ads, h]; done) | (right; omega))), HC⟩) | (exact ⟨.fork g60 b x t53, rfl, by show Tr.fork b x.er t53.er = _; rw [Tr.put, if_pos (by omega), if_neg (by omega), het53], hL60.mono (fun j _ h => by rcases h with h | h | h <;> first | exact .inl h | (left; simp [LT.ads, h]; done) | (right; omega) | (right; have := hL53.2 j h; omega) | (rcases hL53.2 j h with h | h <;> first | (left; simp [LT.ads, h]; done) | (right; omega))), HC⟩) | (exact ⟨.fork g75 (apartK x.er.key k) (.leaf g69 k u) (.fork g0 b x y), rfl, by rw [Tr.put, if_neg (by omega), hs63]; rfl, hL75.mono (fun j _ h => by rcases h with h | h | h <;> first | exact .inl h | (left; simp [LT.ads, h]; done) | (right; omega) | (right; have := hL69.2 j h; omega) | (rcases hL69.2 j h with h | h <;> first | (left; simp [LT.ads, h]; done) | (right; omega))), HC⟩) | (exact ⟨.fork g75 (apartK x.er.key k) (.fork g0 b x y) (.leaf g69 k u), rfl, by rw [Tr.put, if_neg (by omega), hs63]; rfl, hL75.mono (fun j _ h => by rcases h with h | h | h <;> first | exact .inl h | (left; simp [LT.ads, h]; done) | (right; omega) | (right; have := hL69.2 j h; omega) | (rcases hL69.2 j h with h | h <;> first | (left; simp [LT.ads, h]; done) | (right; omega))), HC⟩)
    ·
      refine wc_region ?_
      refine wl rfl rfl rfl (p_mv rfl) ?_
      refine wl rfl rfl rfl (p_mv rfl) ?_
      refine wl rfl rfl rfl (p_sub (Z := 0) rfl rfl (by rw [w64 (by omega)]; rfl)) ?_
      refine wl rfl rfl rfl (p_ldA (cs := List.map u8v k) Tryd.underlying38 rfl (szL sz38 (by rw [List.length_map]; exact hk)) rfl (fun _ e => e ▸ rngL hb4)) ?_
      refine wl rfl rfl rfl (p_ldA (cs := List.map u8v u) Tryd.underlying38 rfl (szL sz38 (by rw [List.length_map]; exact hu)) rfl (fun _ e => e ▸ rngL hb5)) ?_
      refine wle rfl (e_call ent105 rfl rfl (item_any (hk) (hu)) ?_)
      rintro _ w31 ⟨g69, rfl, hL69, hc⟩
      refine ⟨_, rfl, ?_⟩
      have hzw31 := hc.size
      have HC := HC.tr hc
      have hb0 := hb0.ch hc (fun h => h)
      first | have hX := hX.no hc | have hX := hX.ch hc (by intro k1 hk1 hF1 ht1; first | omega | (have hq1 := hXl _ hF1; omega) | (rcases hF1 with hF1 | hF1 <;> first | omega | (have hq1 := hXl _ hF1; omega)))
      first | have hXx := hXx.no hc | have hXx := hXx.ch hc (by intro k1 hk1 hF1 ht1; first | omega | (have hq1 := hXlx _ hF1; omega) | (rcases hF1 with hF1 | hF1 <;> first | omega | (have hq1 := hXlx _ hF1; omega)))
      first | have hXy := hXy.no hc | have hXy := hXy.ch hc (by intro k1 hk1 hF1 ht1; first | omega | (have hq1 := hXly _ hF1; omega) | (rcases hF1 with hF1 | hF1 <;> first | omega | (have hq1 := hXly _ hF1; omega)))
      have hb4 := hb4.ch hc (fun h => h)
      have hb5 := hb5.ch hc (fun h => h)
      have hb10 := hb10.ch hc (fun h => h)
      have hgl69 := hL69.1.lt _ (LT.adr_mem _)
      refine wl rfl rfl rfl (p_mv rfl) ?_
      refine wl rfl rfl rfl (p_ixA (j := 1) Tryd.underlying142 sz39 rfl rfl (by omega) (by omega) rfl) ?_
      refine wle rfl (e_stC (p := ([Value.pointer none] : List Value)) (u := (Value.pointer none : Value)) (r := []) (v := ndp g69) (by rfl) rfl rfl rfl hb10 (by simp only [List.append_assoc, List.cons_append, List.nil_append, List.append_nil]) (by first | rfl | (simp only [List.length_append, List.length_map, List.length_cons, List.length_nil]; done) | (simp only [List.length_append, List.length_map, List.length_cons, List.length_nil, List.size_toArray]; done)) (fun w33 hb10 hc hsz => ?_))
      have hb10 : Blk w33 g10 142 ([Value.pointer none, ndp g69] : List Value).toArray := by have h := hb10; simp only [List.append_assoc, List.cons_append, List.nil_append, List.append_nil] at h ⊢; exact h
      have hzw33 := hc.size
      have HC := HC.trans hc (fun _ _ h => h) (fun k hk ht => absurd ht (by omega))
      have hb0 := hb0.ch hc (by omega)
      first | have hX := hX.no hc | have hX := hX.ch hc (by intro k1 hk1 hF1 ht1; first | omega | (have hq1 := hXl _ hF1; omega) | (rcases hF1 with hF1 | hF1 <;> first | omega | (have hq1 := hXl _ hF1; omega)))
      first | have hXx := hXx.no hc | have hXx := hXx.ch hc (by intro k1 hk1 hF1 ht1; first | omega | (have hq1 := hXlx _ hF1; omega) | (rcases hF1 with hF1 | hF1 <;> first | omega | (have hq1 := hXlx _ hF1; omega)))
      first | have hXy := hXy.no hc | have hXy := hXy.ch hc (by intro k1 hk1 hF1 ht1; first | omega | (have hq1 := hXly _ hF1; omega) | (rcases hF1 with hF1 | hF1 <;> first | omega | (have hq1 := hXly _ hF1; omega)))
      have hb4 := hb4.ch hc (by omega)
      have hb5 := hb5.ch hc (by omega)
      first | have hL69 := hL69.no hc | have hL69 := hL69.ch hc (by intro k1 hk1 hF1 ht1; first | omega | (have hq1 := hXl _ hF1; omega) | (rcases hF1 with hF1 | hF1 <;> first | omega | (have hq1 := hXl _ hF1; omega)))
      refine wl rfl rfl rfl (p_ixA (j := 0) Tryd.underlying142 sz39 rfl rfl (by omega) (by omega) rfl) ?_
      refine wle rfl (e_stC (p := []) (u := (Value.pointer none : Value)) (r := ([ndp g69] : List Value)) (v := ndp g0) (by rfl) rfl rfl rfl hb10 (by simp only [List.append_assoc, List.cons_append, List.nil_append, List.append_nil]) (by first | rfl | (simp only [List.length_append, List.length_map, List.length_cons, List.length_nil]; done) | (simp only [List.length_append, List.length_map, List.length_cons, List.length_nil, List.size_toArray]; done)) (fun w35 hb10 hc hsz => ?_))
      have hb10 : Blk w35 g10 142 ([ndp g0, ndp g69] : List Value).toArray := by have h := hb10; simp only [List.append_assoc, List.cons_append, List.nil_append, List.append_nil] at h ⊢; exact h
      have hzw35 := hc.size
      have HC := HC.trans hc (fun _ _ h => h) (fun k hk ht => absurd ht (by omega))
      have hb0 := hb0.ch hc (by omega)
      first | have hX := hX.no hc | have hX := hX.ch hc (by intro k1 hk1 hF1 ht1; first | omega | (have hq1 := hXl _ hF1; omega) | (rcases hF1 with hF1 | hF1 <;> first | omega | (have hq1 := hXl _ hF1; omega)))
      first | have hXx := hXx.no hc | have hXx := hXx.ch hc (by intro k1 hk1 hF1 ht1; first | omega | (have hq1 := hXlx _ hF1; omega) | (rcases hF1 with hF1 | hF1 <;> first | omega | (have hq1 := hXlx _ hF1; omega)))
      first | have hXy := hXy.no hc | have hXy := hXy.ch hc (by intro k1 hk1 hF1 ht1; first | omega | (have hq1 := hXly _ hF1; omega) | (rcases hF1 with hF1 | hF1 <;> first | omega | (have hq1 := hXly _ hF1; omega)))
      have hb4 := hb4.ch hc (by omega)
      have hb5 := hb5.ch hc (by omega)
      first | have hL69 := hL69.no hc | have hL69 := hL69.ch hc (by intro k1 hk1 hF1 ht1; first | omega | (have hq1 := hXl _ hF1; omega) | (rcases hF1 with hF1 | hF1 <;> first | omega | (have hq1 := hXl _ hF1; omega)))
      refine wl_nil ?_
      refine x_seq ?_
      refine wc_seq ?_
      refine wc_region ?_
      refine wl rfl rfl rfl (p_mv rfl) ?_
      refine wl rfl rfl rfl (p_ldA (cs := ([ndp g0, ndp g69] : List Value)) Tryd.underlying142 rfl (szL sz142 (by first | rfl | (simp only [List.length_append, List.length_map, List.length_cons, List.length_nil]; done) | (simp only [List.length_append, List.length_map, List.length_cons, List.length_nil, List.size_toArray]; done))) rfl (fun _ e => e ▸ rngL hb10)) ?_
      refine wle rfl (e_call ent106 rfl rfl (fork_at (b := apartK x.er.key k) hX.at_ hL69.at_ rfl rfl (by omega) (by simp only [LT.er, Tr.cnt]; omega)) ?_)
      rintro _ w36 ⟨g75, rfl, hL75, hc⟩
      refine ⟨_, rfl, ?_⟩
      have hzw36 := hc.size
      have HC := HC.tr hc
      have hb0 := hb0.ch hc (fun h => h)
      first | have hX := hX.no hc | have hX := hX.ch hc (by intro k1 hk1 hF1 ht1; first | omega | (have hq1 := hXl _ hF1; omega) | (rcases hF1 with hF1 | hF1 <;> first | omega | (have hq1 := hXl _ hF1; omega)))
      first | have hXx := hXx.no hc | have hXx := hXx.ch hc (by intro k1 hk1 hF1 ht1; first | omega | (have hq1 := hXlx _ hF1; omega) | (rcases hF1 with hF1 | hF1 <;> first | omega | (have hq1 := hXlx _ hF1; omega)))
      first | have hXy := hXy.no hc | have hXy := hXy.ch hc (by intro k1 hk1 hF1 ht1; first | omega | (have hq1 := hXly _ hF1; omega) | (rcases hF1 with hF1 | hF1 <;> first | omega | (have hq1 := hXly _ hF1; omega)))
      have hb4 := hb4.ch hc (fun h => h)
      have hb5 := hb5.ch hc (fun h => h)
      have hb10 := hb10.ch hc (fun h => h)
      first | have hL69 := hL69.no hc | have hL69 := hL69.ch hc (by intro k1 hk1 hF1 ht1; first | omega | (have hq1 := hXl _ hF1; omega) | (rcases hF1 with hF1 | hF1 <;> first | omega | (have hq1 := hXl _ hF1; omega)))
      refine wl rfl rfl rfl (p_as rfl) ?_
      refine wl_nil ?_
      refine x_seq ?_
      refine wc_ret ?_
      refine fin_run ((res1 rfl rfl)) ?_
      first | (exact ⟨.fork g60 b t53 y, rfl, by show Tr.fork b t53.er y.er = _; rw [Tr.put, if_pos (by omega), if_pos hs46, het53], hL60.mono (fun j _ h => by rcases h with h | h | h <;> first | exact .inl h | (left; simp [LT.ads, h]; done) | (right; omega) | (right; have := hL53.2 j h; omega) | (rcases hL53.2 j h with h | h <;> first | (left; simp [LT.ads, h]; done) | (right; omega))), HC⟩) | (exact ⟨.fork g60 b x t53, rfl, by show Tr.fork b x.er t53.er = _; rw [Tr.put, if_pos (by omega), if_neg (by omega), het53], hL60.mono (fun j _ h => by rcases h with h | h | h <;> first | exact .inl h | (left; simp [LT.ads, h]; done) | (right; omega) | (right; have := hL53.2 j h; omega) | (rcases hL53.2 j h with h | h <;> first | (left; simp [LT.ads, h]; done) | (right; omega))), HC⟩) | (exact ⟨.fork g75 (apartK x.er.key k) (.leaf g69 k u) (.fork g0 b x y), rfl, by rw [Tr.put, if_neg (by omega), hs63]; rfl, hL75.mono (fun j _ h => by rcases h with h | h | h <;> first | exact .inl h | (left; simp [LT.ads, h]; done) | (right; omega) | (right; have := hL69.2 j h; omega) | (rcases hL69.2 j h with h | h <;> first | (left; simp [LT.ads, h]; done) | (right; omega))), HC⟩) | (exact ⟨.fork g75 (apartK x.er.key k) (.fork g0 b x y) (.leaf g69 k u), rfl, by rw [Tr.put, if_neg (by omega), hs63]; rfl, hL75.mono (fun j _ h => by rcases h with h | h | h <;> first | exact .inl h | (left; simp [LT.ads, h]; done) | (right; omega) | (right; have := hL69.2 j h; omega) | (rcases hL69.2 j h with h | h <;> first | (left; simp [LT.ads, h]; done) | (right; omega))), HC⟩)

theorem rbitN_any {w : World} {k : List UInt8} {n : Nat} (hk : k.length = 32) : Calls Tryd.prog 39 #[hv k, i64 (n : Int)] w fun e w' => e = .returned (i64 (bitN k n : Int)) ∧ Ch No w w' := (rbit_any hk).mono fun e w' ⟨h1, h2⟩ => ⟨by rw [h1, bitI_nat], h2⟩

set_option maxHeartbeats 1000000 in
set_option maxRecDepth 20000 in
theorem less_any {w : World}  {k : List UInt8} {u : List UInt8} (hk : k.length = 32) (hu : u.length = 32) :
    Calls Tryd.prog 87 #[hv k, hv u] w fun e w' => e = .returned (.bool (decide (ltK k u))) ∧ Ch No w w' := by
  have HC : Ch No w w := Ch.refl _ _
  refine enter' (args := [hv k, hv u]) (n := 17) Tryd.func87 rfl rfl rfl ?_
  refine wc_seq ?_
  refine wc_region ?_
  refine wle rfl (e_box (cs := (List.map u8v k).toArray) rfl rfl rfl (fun w1 g2 hg2 hb2 hc hsz2 => ?_))
  have hzw1 := hc.size
  have HC := HC.tr hc
  have hge2 : w.heap.size ≤ g2 := by have := HC.size; omega
  have hltg2 := hb2.lt
  refine wle rfl (e_box (cs := (List.map u8v u).toArray) rfl rfl rfl (fun w2 g3 hg3 hb3 hc hsz3 => ?_))
  have hzw2 := hc.size
  have HC := HC.tr hc
  have hb2 := hb2.ch hc (fun h => h)
  have hge3 : w.heap.size ≤ g3 := by have := HC.size; omega
  have neg2_3 : g2 < g3 := by omega
  refine wl rfl rfl rfl (p_as rfl) ?_
  refine wl_nil ?_
  refine x_seq ?_
  refine wc_seq ?_
  refine wc_region ?_
  refine wl rfl rfl rfl (p_ldA (cs := List.map u8v k) Tryd.underlying38 rfl (szL sz38 (by rw [List.length_map]; exact hk)) rfl (fun _ e => e ▸ rngL hb2)) ?_
  refine wl rfl rfl rfl (p_ldA (cs := List.map u8v u) Tryd.underlying38 rfl (szL sz38 (by rw [List.length_map]; exact hu)) rfl (fun _ e => e ▸ rngL hb3)) ?_
  refine wle rfl (e_call ent37 rfl rfl (rapart_any (hk) (hu)) ?_)
  rintro _ w3 ⟨rfl, hc⟩
  refine ⟨_, rfl, ?_⟩
  have hzw3 := hc.size
  have HC := HC.tr hc
  have hb2 := hb2.ch hc (fun h => h)
  have hb3 := hb3.ch hc (fun h => h)
  refine wl rfl rfl rfl (p_as rfl) ?_
  refine wl_nil ?_
  refine x_seq ?_
  refine wc_seq ?_
  refine wc_region ?_
  refine wl rfl rfl rfl (p_mv rfl) ?_
  refine wl rfl rfl rfl (p_lt rfl rfl) ?_
  refine wl rfl rfl rfl (p_mv rfl) ?_
  refine wl_split (d := 11) rfl (fun q11 => ?_) (fun q11 => ?_)
  ·
    have q11 := of_decide_eq_true q11
    refine wl_g (gd_ rfl rfl rfl rfl rfl rfl) rfl rfl (p_ldA (cs := List.map u8v k) Tryd.underlying38 rfl (szL sz38 (by rw [List.length_map]; exact hk)) rfl (fun _ e => e ▸ rngL hb2)) ?_
    refine wl_g (gd_ rfl rfl rfl rfl rfl rfl) rfl rfl (p_mv rfl) ?_
    refine wle_g (gd_ rfl rfl rfl rfl rfl rfl) (e_call ent39 rfl rfl (rbitN_any (n := (apartK k u)) (hk)) ?_)
    rintro _ w4 ⟨rfl, hc⟩
    refine ⟨_, rfl, ?_⟩
    have hzw4 := hc.size
    have HC := HC.tr hc
    have hb2 := hb2.ch hc (fun h => h)
    have hb3 := hb3.ch hc (fun h => h)
    refine wl_g (gd_ rfl rfl rfl rfl rfl rfl) rfl rfl (p_eq rfl rfl) ?_
    refine wl rfl rfl rfl (p_pickT rfl rfl) ?_
    refine wl rfl rfl rfl (p_as rfl) ?_
    refine wl_nil ?_
    refine x_seq ?_
    refine wc_ret ?_
    refine fin_run ((res1 rfl rfl)) ?_
    first
      | (have e1 : ltK k u ↔ ((bitN k (apartK k u) : Nat) : Int) = 0 := ⟨fun h => by have := h.2; omega, fun h => ⟨by omega, by omega⟩⟩; rw [show decide (ltK k u) = decide (((bitN k (apartK k u) : Nat) : Int) = 0) from decide_eq_decide.2 e1]; exact ⟨rfl, HC⟩)
      | (rw [show decide (ltK k u) = false from decide_eq_false (fun h => by have h1 := h.1; omega)]; exact ⟨rfl, HC⟩)
  ·
    have q11 := of_decide_eq_false q11
    refine wl_s (gd_ rfl rfl rfl rfl rfl rfl) rfl rfl ?_
    refine wl_s (gd_ rfl rfl rfl rfl rfl rfl) rfl rfl ?_
    refine wl_s (gd_ rfl rfl rfl rfl rfl rfl) rfl rfl ?_
    refine wl_s (gd_ rfl rfl rfl rfl rfl rfl) rfl rfl ?_
    refine wl rfl rfl rfl (p_pickF rfl rfl) ?_
    refine wl rfl rfl rfl (p_as rfl) ?_
    refine wl_nil ?_
    refine x_seq ?_
    refine wc_ret ?_
    refine fin_run ((res1 rfl rfl)) ?_
    first
      | (have e1 : ltK k u ↔ ((bitN k (apartK k u) : Nat) : Int) = 0 := ⟨fun h => by have := h.2; omega, fun h => ⟨by omega, by omega⟩⟩; rw [show decide (ltK k u) = decide (((bitN k (apartK k u) : Nat) : Int) = 0) from decide_eq_decide.2 e1]; exact ⟨rfl, HC⟩)
      | (rw [show decide (ltK k u) = false from decide_eq_false (fun h => by have h1 := h.1; omega)]; exact ⟨rfl, HC⟩)

set_option maxHeartbeats 1000000 in
set_option maxRecDepth 20000 in
theorem rput_any {w : World}  {k : List UInt8} {u : List UInt8} {Am : Option Addr} {lm cm : Nat} {Fm : Nat → Prop} {m : List (H8 × H8)} (hm : SI w Fm eIT Am lm cm m) (hk : k.length = 32) (hu : u.length = 32) (hl : lm ≤ 1000000) :
    Calls Tryd.prog 52 #[.slice Am lm cm, hv k, hv u] w fun e w' => ∃ A l c, e = .returned (.slice A l c) ∧ RI w' (fun k => w.heap.size ≤ k) 81 eIT A l c (mput m k u) ∧ Ch No w w' := by
  have hml := hm.len
  have hm := hm.old
  have HC : Ch No w w := Ch.refl _ _
  refine enter' (args := [.slice Am lm cm, hv k, hv u]) (n := 50) Tryd.func52 rfl rfl rfl ?_
  refine wc_seq ?_
  refine wc_region ?_
  refine wle rfl (e_box (cs := (List.map u8v k).toArray) rfl rfl rfl (fun w1 g4 hg4 hb4 hc hsz4 => ?_))
  have hzw1 := hc.size
  have HC := HC.tr hc
  have hm := hm.no hc
  have hge4 : w.heap.size ≤ g4 := by have := HC.size; omega
  have hltg4 := hb4.lt
  refine wle rfl (e_box (cs := (List.map u8v u).toArray) rfl rfl rfl (fun w2 g5 hg5 hb5 hc hsz5 => ?_))
  have hzw2 := hc.size
  have HC := HC.tr hc
  have hm := hm.no hc
  have hb4 := hb4.ch hc (fun h => h)
  have hge5 : w.heap.size ≤ g5 := by have := HC.size; omega
  have neg4_5 : g4 < g5 := by omega
  refine wl rfl rfl rfl (p_as rfl) ?_
  refine wl_nil ?_
  refine x_seq ?_
  refine wc_seq ?_
  refine wc_region ?_
  refine wl rfl rfl rfl (p_as rfl) ?_
  refine wl_nil ?_
  refine x_seq ?_
  refine wc_seq ?_
  refine wc_region ?_
  refine wl rfl rfl rfl (p_as rfl) ?_
  refine wl_nil ?_
  refine x_seq ?_
  refine wc_seq ?_
  refine wc_seq ?_
  refine wc_region ?_
  refine wl rfl rfl rfl (p_mv rfl) ?_
  refine wl rfl rfl rfl (p_lenS Tryd.underlying27 rfl) ?_
  refine wl rfl rfl rfl (p_mv rfl) ?_
  refine wl_nil ?_
  refine x_seq ?_
  refine wc_block ?_
  refine wc_loop (e' := [(4, .pointer (some ⟨g4, 0, none⟩)), (5, .pointer (some ⟨g5, 0, none⟩)), (7, .slice (none) (0) (0)), (8, .bool (false)), (11, .slice Am lm cm), (12, i64 (lm : Int)), (13, i64 ((0) : Int))]) (fun mz ez uz => ∃ i : Nat, ∃ dn : Bool, ∃ ys : List (H8 × H8), ∃ A : Option Addr, ∃ l : Nat, ∃ c : Nat, mz = lm - i ∧ ez = [(4, .pointer (some ⟨g4, 0, none⟩)), (5, .pointer (some ⟨g5, 0, none⟩)), (7, .slice A l c), (8, .bool dn), (11, .slice Am lm cm), (12, i64 (lm : Int)), (13, i64 (i : Int))] ∧ (i ≤ lm) ∧ (l ≤ i + dn.toNat) ∧ (mputA k u m false = ys ++ mputA k u (m.drop i) dn) ∧ (RI uz (fun k => w.heap.size ≤ k ∧ k ≠ g4 ∧ k ≠ g5) 81 eIT A l c ys) ∧ (SI uz (fun k => k < w.heap.size) eIT Am lm cm m) ∧ (Blk uz g4 38 (List.map u8v k).toArray) ∧ (Blk uz g5 38 (List.map u8v u).toArray) ∧ (Ch No w uz))
    ⟨rfl, rfl, rfl, rfl, rfl, rfl, rfl, trivial⟩ ⟨0, false, [], none, 0, 0, rfl, rfl, by omega, by simp, rfl, RI.nil _ _ _ _, hm, hb4, hb5, HC⟩ ?_
  rintro m0 e w3 ⟨i, dn, ys, A, l, c, hm0, rfl, hi, hyl, hdm, hW, hm, hb4, hb5, HC⟩
  have hzw3 := HC.size
  refine wc_seq ?_
  refine wc_region ?_
  refine wl rfl rfl rfl (p_lt rfl rfl) ?_
  refine wl_nil ?_
  refine x_seq ?_
  refine wc_seq ?_
  refine wc_if rfl (fun c0 => ?_) (fun c0 => ?_)
  ·
    have c0 := of_decide_eq_true c0
    refine wc_skip ?_
    refine x_seq ?_
    refine wc_seq ?_
    refine wc_block ?_
    refine wc_seq ?_
    refine wc_region ?_
    obtain ⟨b4, o4, hA4, hF4, hr4⟩ := (hm).opn (i := i) (d := (zeroH, zeroH)) (by omega)
    have hok4 := (hm).okAt (i := i) (d := (zeroH, zeroH)) (by omega)
    obtain ⟨x4, ex4⟩ : ∃ x, x = List.getD m (i) (zeroH, zeroH) := ⟨_, rfl⟩
    rw [← ex4] at hr4 hok4
    obtain ⟨hx4k, hx4v⟩ := hok4
    have hr4 : w3.rangeAt b4 (o4 + i * 64) (((List.map u8v x4.1) ++ (List.map u8v x4.2)) : List Value) := hr4
    refine wl rfl rfl rfl (p_ixS (j := i * 64) Tryd.underlying27 sz81 rfl hA4 rfl (by omega) (by omega) (congrArg (· * 64) (Int.toNat_natCast _))) ?_
    have hdr : m.drop i = x4 :: m.drop (i + 1) := by rw [ex4]; exact getD_drop (by omega)
    refine wl rfl rfl rfl (p_ldA (cs := (((List.map u8v x4.1) ++ (List.map u8v x4.2)) : List Value)) Tryd.underlying81 rfl (szL sz81 (by first | rfl | (simp only [List.length_append, List.length_map, List.length_cons, List.length_nil, (show List.length x4.1 = 32 from hx4k), (show List.length x4.2 = 32 from hx4v)]; done) | (simp only [List.length_append, List.length_map, List.length_cons, List.length_nil, List.size_toArray, (show List.length x4.1 = 32 from hx4k), (show List.length x4.2 = 32 from hx4v)]; done))) rfl (fun _ e => e ▸ hr4)) ?_
    have hltg4 := hb4.lt
    have hltg5 := hb5.lt
    refine wle rfl (e_alloc (cs := (((List.map u8v (List.replicate 32 (0 : UInt8))) ++ (List.map u8v (List.replicate 32 (0 : UInt8)))) : List Value).toArray) rfl (by rfl) rfl (fun w5 g10 hg10 hb10 hc hsz10 => ?_))
    have hzw5 := hc.size
    have HC := HC.tr hc
    have hW := hW.after hc
    have hm := hm.no hc
    have hb4 := hb4.ch hc (fun h => h)
    have hb5 := hb5.ch hc (fun h => h)
    have hge10 : w.heap.size ≤ g10 := by have := HC.size; omega
    have neg4_10 : g4 < g10 := by omega
    have neg5_10 : g5 < g10 := by omega
    refine wle rfl (e_stW (vs := (((List.map u8v x4.1) ++ (List.map u8v x4.2)) : List Value)) (szL sz81 (by first | rfl | (simp only [List.length_append, List.length_map, List.length_cons, List.length_nil, (show List.length x4.1 = 32 from hx4k), (show List.length x4.2 = 32 from hx4v)]; done) | (simp only [List.length_append, List.length_map, List.length_cons, List.length_nil, List.size_toArray, (show List.length x4.1 = 32 from hx4k), (show List.length x4.2 = 32 from hx4v)]; done))) (oneA (oneL one_u8 _) (oneL one_u8 _)) rfl rfl hb10 (by first | rfl | (simp only [List.length_append, List.length_map, List.length_cons, List.length_nil, (show List.length (List.replicate 32 (0 : UInt8)) = 32 from (List.length_replicate ..)), (show List.length (List.replicate 32 (0 : UInt8)) = 32 from (List.length_replicate ..)), (show List.length x4.1 = 32 from hx4k), (show List.length x4.2 = 32 from hx4v)]; done) | (simp only [List.length_append, List.length_map, List.length_cons, List.length_nil, List.size_toArray, (show List.length (List.replicate 32 (0 : UInt8)) = 32 from (List.length_replicate ..)), (show List.length (List.replicate 32 (0 : UInt8)) = 32 from (List.length_replicate ..)), (show List.length x4.1 = 32 from hx4k), (show List.length x4.2 = 32 from hx4v)]; done)) (fun w6 hb10 hc hsz => ?_))
    have hzw6 := hc.size
    have HC := HC.trans hc (fun _ _ h => h) (fun k hk ht => absurd ht (by omega))
    have hW := hW.ch hc (by intro k hz hk ht; first | omega | (dsimp only at *; omega))
    first | have hm := hm.ch hc (by intro k hk ht; first | omega | (dsimp only at *; omega)) | have hm := hm.chT hc (by intro k hz hk ht; first | omega | (dsimp only at *; omega))
    have hb4 := hb4.ch hc (by omega)
    have hb5 := hb5.ch hc (by omega)
    refine wl_nil ?_
    refine x_seq ?_
    refine wc_seq ?_
    refine wc_seq ?_
    rcases dn with _ | _
    ·
      have hyl : l ≤ i + 0 := by simpa using hyl
      refine wc_region ?_
      refine wl rfl rfl rfl (p_mv rfl) ?_
      refine wl rfl rfl rfl (p_not rfl) ?_
      refine wl rfl rfl rfl (p_mv rfl) ?_
      refine wl_g (gd_ rfl rfl rfl rfl rfl rfl) rfl rfl (p_fld (j := 0) Tryd.underlying81 rfl ⟨_, by rfl⟩ rfl rfl) ?_
      refine wl_g (gd_ rfl rfl rfl rfl rfl rfl) rfl rfl (p_ldA (cs := (List.map u8v x4.1)) Tryd.underlying38 rfl (szL sz38 (by first | rfl | (simp only [List.length_append, List.length_map, List.length_cons, List.length_nil, (show List.length x4.1 = 32 from hx4k)]; done) | (simp only [List.length_append, List.length_map, List.length_cons, List.length_nil, List.size_toArray, (show List.length x4.1 = 32 from hx4k)]; done))) rfl (fun _ e => e ▸ rng_at (p := []) (q := ((List.map u8v x4.1) : List Value)) (r := ((List.map u8v x4.2) : List Value)) hb10 (by simp only [List.append_assoc, List.cons_append, List.nil_append, List.append_nil]) (by first | rfl | (simp only [List.length_append, List.length_map, List.length_cons, List.length_nil]; done) | (simp only [List.length_append, List.length_map, List.length_cons, List.length_nil, List.size_toArray]; done)))) ?_
      refine wl_g (gd_ rfl rfl rfl rfl rfl rfl) rfl rfl (p_ldA (cs := List.map u8v k) Tryd.underlying38 rfl (szL sz38 (by rw [List.length_map]; exact hk)) rfl (fun _ e => e ▸ rngL hb4)) ?_
      refine wle_g (gd_ rfl rfl rfl rfl rfl rfl) (e_call ent87 rfl rfl (less_any (hx4k) (hk)) ?_)
      rintro _ w7 ⟨rfl, hc⟩
      refine ⟨_, rfl, ?_⟩
      have hzw7 := hc.size
      have HC := HC.tr hc
      have hW := hW.after hc
      have hm := hm.no hc
      have hb4 := hb4.ch hc (fun h => h)
      have hb5 := hb5.ch hc (fun h => h)
      have hb10 := hb10.ch hc (fun h => h)
      refine wl_g (gd_ rfl rfl rfl rfl rfl rfl) rfl rfl (p_not rfl) ?_
      refine wl rfl rfl rfl (p_pickT rfl rfl) ?_
      refine wl_nil ?_
      refine x_seq ?_
      refine wc_if rfl (fun c1 => ?_) (fun c1 => ?_)
      ·
        have c1 := of_not_dec_true c1
        refine wc_seq ?_
        refine wc_region ?_
        refine wl rfl rfl rfl (p_mv rfl) ?_
        refine wl rfl rfl rfl (p_ldA (cs := List.map u8v k) Tryd.underlying38 rfl (szL sz38 (by rw [List.length_map]; exact hk)) rfl (fun _ e => e ▸ rngL hb4)) ?_
        refine wl rfl rfl rfl (p_ldA (cs := List.map u8v u) Tryd.underlying38 rfl (szL sz38 (by rw [List.length_map]; exact hu)) rfl (fun _ e => e ▸ rngL hb5)) ?_
        refine wl rfl rfl rfl (p_bldX (vs' := [(.agg ((hx k) : List Value).toArray), (.agg ((hx u) : List Value).toArray)]) (cs := (((List.map u8v k) ++ (List.map u8v u)) : List Value)) (cs' := (((hx k) ++ (hx u)) : List Value)) rfl (by simp only [hv, map_hx hk, map_hx hu] <;> rfl) (by simp only [hv, map_hx hk, map_hx hu] <;> rfl) (fun _ => by kernel_rfl)) ?_
        have hltg4 := hb4.lt
        have hltg5 := hb5.lt
        have hltg10 := hb10.lt
        refine wle rfl (e_bslX (E := 81) (cs := (((List.map u8v k) ++ (List.map u8v u)) : List Value)) (cs' := (((hx k) ++ (hx u)) : List Value)) rfl rfl (by simp only [hv, map_hx hk, map_hx hu] <;> rfl) (fun _ => by kernel_rfl) (fun w8 g30 hg30 hb30 hc hsz30 => ?_))
        have hzw8 := hc.size
        have HC := HC.tr hc
        have hW := hW.after hc
        have hm := hm.no hc
        have hb4 := hb4.ch hc (fun h => h)
        have hb5 := hb5.ch hc (fun h => h)
        have hb10 := hb10.ch hc (fun h => h)
        have hge30 : w.heap.size ≤ g30 := by have := HC.size; omega
        have hS30 := SI.oneA (E := eIT) (x := (k, u)) hb30 rfl ⟨hk, hu⟩
        have hltg4 := hb4.lt
        have hltg5 := hb5.lt
        have hltg10 := hb10.lt
        refine wle rfl (e_appI rfl el27 rfl rfl hW (hS30) (by omega) (by intro k hk; first | omega | (dsimp only at *; omega)) (fun w9 A31 c31 hW hc => ?_))
        have hzw9 := hc.size
        have HC := HC.trans hc (fun _ _ h => h) (fun k hk ht => absurd ht (by first | omega | (dsimp only at *; omega)))
        first | have hm := hm.ch hc (by intro k hk ht; first | omega | (dsimp only at *; omega)) | have hm := hm.chT hc (by intro k hz hk ht; first | omega | (dsimp only at *; omega))
        have hb4 := hb4.ch hc (by first | omega | (dsimp only; omega))
        have hb5 := hb5.ch hc (by first | omega | (dsimp only; omega))
        have hb10 := hb10.ch hc (by first | omega | (dsimp only; omega))
        first | have hS30 := hS30.ch hc (by intro k hk ht; first | omega | (dsimp only at *; omega)) | have hS30 := hS30.chT hc (by intro k hz hk ht; first | omega | (dsimp only at *; omega))
        refine wl rfl rfl rfl (p_as rfl) ?_
        refine wl_nil ?_
        refine x_seq ?_
        refine wc_region ?_
        refine wl rfl rfl rfl (p_as rfl) ?_
        refine wl_nil ?_
        refine x_seq ?_
        refine wc_seq ?_
        refine wc_region ?_
        refine wl rfl rfl rfl (p_fld (j := 0) Tryd.underlying81 rfl ⟨_, by rfl⟩ rfl rfl) ?_
        refine wl rfl rfl rfl (p_ldA (cs := (List.map u8v x4.1)) Tryd.underlying38 rfl (szL sz38 (by first | rfl | (simp only [List.length_append, List.length_map, List.length_cons, List.length_nil, (show List.length x4.1 = 32 from hx4k)]; done) | (simp only [List.length_append, List.length_map, List.length_cons, List.length_nil, List.size_toArray, (show List.length x4.1 = 32 from hx4k)]; done))) rfl (fun _ e => e ▸ rng_at (p := []) (q := ((List.map u8v x4.1) : List Value)) (r := ((List.map u8v x4.2) : List Value)) hb10 (by simp only [List.append_assoc, List.cons_append, List.nil_append, List.append_nil]) (by first | rfl | (simp only [List.length_append, List.length_map, List.length_cons, List.length_nil]; done) | (simp only [List.length_append, List.length_map, List.length_cons, List.length_nil, List.size_toArray]; done)))) ?_
        refine wl rfl rfl rfl (p_ldA (cs := List.map u8v k) Tryd.underlying38 rfl (szL sz38 (by rw [List.length_map]; exact hk)) rfl (fun _ e => e ▸ rngL hb4)) ?_
        refine wl rfl rfl rfl (p_neH (a := x4.1) (b := k) (by kernel_rfl) Tryd.underlying38 Tryd.underlying5 sz5 rfl rfl (hx4k) (hk)) ?_
        refine wl_nil ?_
        refine x_seq ?_
        refine wc_if rfl (fun c2 => ?_) (fun c2 => ?_)
        ·
          refine wc_region ?_
          refine wl rfl rfl rfl (p_mv rfl) ?_
          refine wl rfl rfl rfl (p_ldA (cs := (((List.map u8v x4.1) ++ (List.map u8v x4.2)) : List Value)) Tryd.underlying81 rfl (szL sz81 (by first | rfl | (simp only [List.length_append, List.length_map, List.length_cons, List.length_nil, (show List.length x4.1 = 32 from hx4k), (show List.length x4.2 = 32 from hx4v)]; done) | (simp only [List.length_append, List.length_map, List.length_cons, List.length_nil, List.size_toArray, (show List.length x4.1 = 32 from hx4k), (show List.length x4.2 = 32 from hx4v)]; done))) rfl (fun _ e => e ▸ rngL hb10)) ?_
          have hltg4 := hb4.lt
          have hltg5 := hb5.lt
          have hltg10 := hb10.lt
          refine wle rfl (e_bslX (E := 81) (cs := (((List.map u8v x4.1) ++ (List.map u8v x4.2)) : List Value)) (cs' := (((hx x4.1) ++ (hx x4.2)) : List Value)) rfl rfl (by simp only [hv, map_hx hx4k, map_hx hx4v] <;> rfl) (fun _ => by kernel_rfl) (fun w10 g38 hg38 hb38 hc hsz38 => ?_))
          have hzw10 := hc.size
          have HC := HC.tr hc
          have hW := hW.after hc
          have hm := hm.no hc
          have hb4 := hb4.ch hc (fun h => h)
          have hb5 := hb5.ch hc (fun h => h)
          have hb10 := hb10.ch hc (fun h => h)
          have hS30 := hS30.no hc
          have hge38 : w.heap.size ≤ g38 := by have := HC.size; omega
          have hS38 := SI.oneA (E := eIT) (x := (x4.1, x4.2)) hb38 rfl ⟨hx4k, hx4v⟩
          have hltg4 := hb4.lt
          have hltg5 := hb5.lt
          have hltg10 := hb10.lt
          refine wle rfl (e_appI rfl el27 rfl rfl hW (hS38) (by omega) (by intro k hk; first | omega | (dsimp only at *; omega)) (fun w11 A39 c39 hW hc => ?_))
          have hzw11 := hc.size
          have HC := HC.trans hc (fun _ _ h => h) (fun k hk ht => absurd ht (by first | omega | (dsimp only at *; omega)))
          first | have hm := hm.ch hc (by intro k hk ht; first | omega | (dsimp only at *; omega)) | have hm := hm.chT hc (by intro k hz hk ht; first | omega | (dsimp only at *; omega))
          have hb4 := hb4.ch hc (by first | omega | (dsimp only; omega))
          have hb5 := hb5.ch hc (by first | omega | (dsimp only; omega))
          have hb10 := hb10.ch hc (by first | omega | (dsimp only; omega))
          first | have hS30 := hS30.ch hc (by intro k hk ht; first | omega | (dsimp only at *; omega)) | have hS30 := hS30.chT hc (by intro k hz hk ht; first | omega | (dsimp only at *; omega))
          first | have hS38 := hS38.ch hc (by intro k hk ht; first | omega | (dsimp only at *; omega)) | have hS38 := hS38.chT hc (by intro k hz hk ht; first | omega | (dsimp only at *; omega))
          refine wl rfl rfl rfl (p_as rfl) ?_
          refine wl_nil ?_
          refine x_in_normal ?_
          refine x_seq ?_
          refine wc_region ?_
          refine wl rfl rfl rfl (p_add rfl rfl (w64 (by omega))) ?_
          refine wl rfl rfl rfl (p_mv rfl) ?_
          refine wl_nil ?_
          refine x_round (e' := [(4, .pointer (some ⟨g4, 0, none⟩)), (5, .pointer (some ⟨g5, 0, none⟩)), (7, .slice (_) (_) (_)), (8, .bool (true)), (11, .slice Am lm cm), (12, i64 (lm : Int)), (13, i64 ((i + 1) : Int))]) ⟨rfl, rfl, rfl, rfl, rfl, rfl, rfl, trivial⟩ (by rw [hm0]; omega) ⟨i + 1, true, _, _, _, _, rfl, rfl, by omega, (by show _ ≤ _ + 1 + (_ : Nat); simp only [Bool.toNat_true, Bool.toNat_false]; omega), (by have hf0 : ¬ ltK x4.1 k := (by simpa using c1); have hf1 : ¬ (x4.1 = k) := (by simpa using c2); rw [hdm, hdr, mputA]; (try simp only [hf0]); simp [hf0, hf1]), hW.mono (fun k _ hk => by first | omega | (dsimp only at *; omega)), hm, hb4, hb5, HC⟩
        ·
          refine wc_skip ?_
          refine x_in_normal ?_
          refine x_seq ?_
          refine wc_region ?_
          refine wl rfl rfl rfl (p_add rfl rfl (w64 (by omega))) ?_
          refine wl rfl rfl rfl (p_mv rfl) ?_
          refine wl_nil ?_
          refine x_round (e' := [(4, .pointer (some ⟨g4, 0, none⟩)), (5, .pointer (some ⟨g5, 0, none⟩)), (7, .slice (_) (_) (_)), (8, .bool (true)), (11, .slice Am lm cm), (12, i64 (lm : Int)), (13, i64 ((i + 1) : Int))]) ⟨rfl, rfl, rfl, rfl, rfl, rfl, rfl, trivial⟩ (by rw [hm0]; omega) ⟨i + 1, true, _, _, _, _, rfl, rfl, by omega, (by show _ ≤ _ + 1 + (_ : Nat); simp only [Bool.toNat_true, Bool.toNat_false]; omega), (by have hf0 : ¬ ltK x4.1 k := (by simpa using c1); have hf1 : (x4.1 = k) := (by simpa using c2); rw [hdm, hdr, mputA]; (try simp only [hf0]); simp [hf0, hf1]), hW.mono (fun k _ hk => by first | omega | (dsimp only at *; omega)), hm, hb4, hb5, HC⟩
      ·
        have c1 := of_not_dec_false c1
        refine wc_skip ?_
        refine x_seq ?_
        refine wc_seq ?_
        refine wc_region ?_
        refine wl rfl rfl rfl (p_fld (j := 0) Tryd.underlying81 rfl ⟨_, by rfl⟩ rfl rfl) ?_
        refine wl rfl rfl rfl (p_ldA (cs := (List.map u8v x4.1)) Tryd.underlying38 rfl (szL sz38 (by first | rfl | (simp only [List.length_append, List.length_map, List.length_cons, List.length_nil, (show List.length x4.1 = 32 from hx4k)]; done) | (simp only [List.length_append, List.length_map, List.length_cons, List.length_nil, List.size_toArray, (show List.length x4.1 = 32 from hx4k)]; done))) rfl (fun _ e => e ▸ rng_at (p := []) (q := ((List.map u8v x4.1) : List Value)) (r := ((List.map u8v x4.2) : List Value)) hb10 (by simp only [List.append_assoc, List.cons_append, List.nil_append, List.append_nil]) (by first | rfl | (simp only [List.length_append, List.length_map, List.length_cons, List.length_nil]; done) | (simp only [List.length_append, List.length_map, List.length_cons, List.length_nil, List.size_toArray]; done)))) ?_
        refine wl rfl rfl rfl (p_ldA (cs := List.map u8v k) Tryd.underlying38 rfl (szL sz38 (by rw [List.length_map]; exact hk)) rfl (fun _ e => e ▸ rngL hb4)) ?_
        refine wl rfl rfl rfl (p_neH (a := x4.1) (b := k) (by kernel_rfl) Tryd.underlying38 Tryd.underlying5 sz5 rfl rfl (hx4k) (hk)) ?_
        refine wl_nil ?_
        refine x_seq ?_
        refine wc_if rfl (fun c2 => ?_) (fun c2 => ?_)
        ·
          refine wc_region ?_
          refine wl rfl rfl rfl (p_mv rfl) ?_
          refine wl rfl rfl rfl (p_ldA (cs := (((List.map u8v x4.1) ++ (List.map u8v x4.2)) : List Value)) Tryd.underlying81 rfl (szL sz81 (by first | rfl | (simp only [List.length_append, List.length_map, List.length_cons, List.length_nil, (show List.length x4.1 = 32 from hx4k), (show List.length x4.2 = 32 from hx4v)]; done) | (simp only [List.length_append, List.length_map, List.length_cons, List.length_nil, List.size_toArray, (show List.length x4.1 = 32 from hx4k), (show List.length x4.2 = 32 from hx4v)]; done))) rfl (fun _ e => e ▸ rngL hb10)) ?_
          have hltg4 := hb4.lt
          have hltg5 := hb5.lt
          have hltg10 := hb10.lt
          refine wle rfl (e_bslX (E := 81) (cs := (((List.map u8v x4.1) ++ (List.map u8v x4.2)) : List Value)) (cs' := (((hx x4.1) ++ (hx x4.2)) : List Value)) rfl rfl (by simp only [hv, map_hx hx4k, map_hx hx4v] <;> rfl) (fun _ => by kernel_rfl) (fun w12 g38 hg38 hb38 hc hsz38 => ?_))
          have hzw12 := hc.size
          have HC := HC.tr hc
          have hW := hW.after hc
          have hm := hm.no hc
          have hb4 := hb4.ch hc (fun h => h)
          have hb5 := hb5.ch hc (fun h => h)
          have hb10 := hb10.ch hc (fun h => h)
          have hge38 : w.heap.size ≤ g38 := by have := HC.size; omega
          have hS38 := SI.oneA (E := eIT) (x := (x4.1, x4.2)) hb38 rfl ⟨hx4k, hx4v⟩
          have hltg4 := hb4.lt
          have hltg5 := hb5.lt
          have hltg10 := hb10.lt
          refine wle rfl (e_appI rfl el27 rfl rfl hW (hS38) (by omega) (by intro k hk; first | omega | (dsimp only at *; omega)) (fun w13 A39 c39 hW hc => ?_))
          have hzw13 := hc.size
          have HC := HC.trans hc (fun _ _ h => h) (fun k hk ht => absurd ht (by first | omega | (dsimp only at *; omega)))
          first | have hm := hm.ch hc (by intro k hk ht; first | omega | (dsimp only at *; omega)) | have hm := hm.chT hc (by intro k hz hk ht; first | omega | (dsimp only at *; omega))
          have hb4 := hb4.ch hc (by first | omega | (dsimp only; omega))
          have hb5 := hb5.ch hc (by first | omega | (dsimp only; omega))
          have hb10 := hb10.ch hc (by first | omega | (dsimp only; omega))
          first | have hS38 := hS38.ch hc (by intro k hk ht; first | omega | (dsimp only at *; omega)) | have hS38 := hS38.chT hc (by intro k hz hk ht; first | omega | (dsimp only at *; omega))
          refine wl rfl rfl rfl (p_as rfl) ?_
          refine wl_nil ?_
          refine x_in_normal ?_
          refine x_seq ?_
          refine wc_region ?_
          refine wl rfl rfl rfl (p_add rfl rfl (w64 (by omega))) ?_
          refine wl rfl rfl rfl (p_mv rfl) ?_
          refine wl_nil ?_
          refine x_round (e' := [(4, .pointer (some ⟨g4, 0, none⟩)), (5, .pointer (some ⟨g5, 0, none⟩)), (7, .slice (_) (_) (_)), (8, .bool (false)), (11, .slice Am lm cm), (12, i64 (lm : Int)), (13, i64 ((i + 1) : Int))]) ⟨rfl, rfl, rfl, rfl, rfl, rfl, rfl, trivial⟩ (by rw [hm0]; omega) ⟨i + 1, false, _, _, _, _, rfl, rfl, by omega, (by show _ ≤ _ + 1 + (_ : Nat); simp only [Bool.toNat_true, Bool.toNat_false]; omega), (by have hf0 : ltK x4.1 k := (by simpa using c1); have hf1 : ¬ (x4.1 = k) := (by simpa using c2); rw [hdm, hdr, mputA]; (try simp only [hf0]); simp [hf0, hf1]), hW.mono (fun k _ hk => by first | omega | (dsimp only at *; omega)), hm, hb4, hb5, HC⟩
        ·
          refine wc_skip ?_
          refine x_in_normal ?_
          refine x_seq ?_
          refine wc_region ?_
          refine wl rfl rfl rfl (p_add rfl rfl (w64 (by omega))) ?_
          refine wl rfl rfl rfl (p_mv rfl) ?_
          refine wl_nil ?_
          refine x_round (e' := [(4, .pointer (some ⟨g4, 0, none⟩)), (5, .pointer (some ⟨g5, 0, none⟩)), (7, .slice (_) (_) (_)), (8, .bool (false)), (11, .slice Am lm cm), (12, i64 (lm : Int)), (13, i64 ((i + 1) : Int))]) ⟨rfl, rfl, rfl, rfl, rfl, rfl, rfl, trivial⟩ (by rw [hm0]; omega) ⟨i + 1, false, _, _, _, _, rfl, rfl, by omega, (by show _ ≤ _ + 1 + (_ : Nat); simp only [Bool.toNat_true, Bool.toNat_false]; omega), (by have hf0 : ltK x4.1 k := (by simpa using c1); have hf1 : (x4.1 = k) := (by simpa using c2); rw [hdm, hdr, mputA]; (try simp only [hf0]); simp [hf0, hf1]), hW.mono (fun k _ hk => by first | omega | (dsimp only at *; omega)), hm, hb4, hb5, HC⟩
    ·
      have hyl : l ≤ i + 1 := by simpa using hyl
      refine wc_region ?_
      refine wl rfl rfl rfl (p_mv rfl) ?_
      refine wl rfl rfl rfl (p_not rfl) ?_
      refine wl rfl rfl rfl (p_mv rfl) ?_
      refine wl_s (gd_ rfl rfl rfl rfl rfl rfl) rfl rfl ?_
      refine wl_s (gd_ rfl rfl rfl rfl rfl rfl) rfl rfl ?_
      refine wl_s (gd_ rfl rfl rfl rfl rfl rfl) rfl rfl ?_
      refine wl_s (gd_ rfl rfl rfl rfl rfl rfl) rfl rfl ?_
      refine wl_s (gd_ rfl rfl rfl rfl rfl rfl) rfl rfl ?_
      refine wl rfl rfl rfl (p_pickF rfl rfl) ?_
      refine wl_nil ?_
      refine x_seq ?_
      refine wc_no rfl (rfl) ?_
      refine wc_skip ?_
      refine x_seq ?_
      refine wc_seq ?_
      refine wc_region ?_
      refine wl rfl rfl rfl (p_fld (j := 0) Tryd.underlying81 rfl ⟨_, by rfl⟩ rfl rfl) ?_
      refine wl rfl rfl rfl (p_ldA (cs := (List.map u8v x4.1)) Tryd.underlying38 rfl (szL sz38 (by first | rfl | (simp only [List.length_append, List.length_map, List.length_cons, List.length_nil, (show List.length x4.1 = 32 from hx4k)]; done) | (simp only [List.length_append, List.length_map, List.length_cons, List.length_nil, List.size_toArray, (show List.length x4.1 = 32 from hx4k)]; done))) rfl (fun _ e => e ▸ rng_at (p := []) (q := ((List.map u8v x4.1) : List Value)) (r := ((List.map u8v x4.2) : List Value)) hb10 (by simp only [List.append_assoc, List.cons_append, List.nil_append, List.append_nil]) (by first | rfl | (simp only [List.length_append, List.length_map, List.length_cons, List.length_nil]; done) | (simp only [List.length_append, List.length_map, List.length_cons, List.length_nil, List.size_toArray]; done)))) ?_
      refine wl rfl rfl rfl (p_ldA (cs := List.map u8v k) Tryd.underlying38 rfl (szL sz38 (by rw [List.length_map]; exact hk)) rfl (fun _ e => e ▸ rngL hb4)) ?_
      refine wl rfl rfl rfl (p_neH (a := x4.1) (b := k) (by kernel_rfl) Tryd.underlying38 Tryd.underlying5 sz5 rfl rfl (hx4k) (hk)) ?_
      refine wl_nil ?_
      refine x_seq ?_
      refine wc_if rfl (fun c2 => ?_) (fun c2 => ?_)
      ·
        refine wc_region ?_
        refine wl rfl rfl rfl (p_mv rfl) ?_
        refine wl rfl rfl rfl (p_ldA (cs := (((List.map u8v x4.1) ++ (List.map u8v x4.2)) : List Value)) Tryd.underlying81 rfl (szL sz81 (by first | rfl | (simp only [List.length_append, List.length_map, List.length_cons, List.length_nil, (show List.length x4.1 = 32 from hx4k), (show List.length x4.2 = 32 from hx4v)]; done) | (simp only [List.length_append, List.length_map, List.length_cons, List.length_nil, List.size_toArray, (show List.length x4.1 = 32 from hx4k), (show List.length x4.2 = 32 from hx4v)]; done))) rfl (fun _ e => e ▸ rngL hb10)) ?_
        have hltg4 := hb4.lt
        have hltg5 := hb5.lt
        have hltg10 := hb10.lt
        refine wle rfl (e_bslX (E := 81) (cs := (((List.map u8v x4.1) ++ (List.map u8v x4.2)) : List Value)) (cs' := (((hx x4.1) ++ (hx x4.2)) : List Value)) rfl rfl (by simp only [hv, map_hx hx4k, map_hx hx4v] <;> rfl) (fun _ => by kernel_rfl) (fun w14 g38 hg38 hb38 hc hsz38 => ?_))
        have hzw14 := hc.size
        have HC := HC.tr hc
        have hW := hW.after hc
        have hm := hm.no hc
        have hb4 := hb4.ch hc (fun h => h)
        have hb5 := hb5.ch hc (fun h => h)
        have hb10 := hb10.ch hc (fun h => h)
        have hge38 : w.heap.size ≤ g38 := by have := HC.size; omega
        have hS38 := SI.oneA (E := eIT) (x := (x4.1, x4.2)) hb38 rfl ⟨hx4k, hx4v⟩
        have hltg4 := hb4.lt
        have hltg5 := hb5.lt
        have hltg10 := hb10.lt
        refine wle rfl (e_appI rfl el27 rfl rfl hW (hS38) (by omega) (by intro k hk; first | omega | (dsimp only at *; omega)) (fun w15 A39 c39 hW hc => ?_))
        have hzw15 := hc.size
        have HC := HC.trans hc (fun _ _ h => h) (fun k hk ht => absurd ht (by first | omega | (dsimp only at *; omega)))
        first | have hm := hm.ch hc (by intro k hk ht; first | omega | (dsimp only at *; omega)) | have hm := hm.chT hc (by intro k hz hk ht; first | omega | (dsimp only at *; omega))
        have hb4 := hb4.ch hc (by first | omega | (dsimp only; omega))
        have hb5 := hb5.ch hc (by first | omega | (dsimp only; omega))
        have hb10 := hb10.ch hc (by first | omega | (dsimp only; omega))
        first | have hS38 := hS38.ch hc (by intro k hk ht; first | omega | (dsimp only at *; omega)) | have hS38 := hS38.chT hc (by intro k hz hk ht; first | omega | (dsimp only at *; omega))
        refine wl rfl rfl rfl (p_as rfl) ?_
        refine wl_nil ?_
        refine x_in_normal ?_
        refine x_seq ?_
        refine wc_region ?_
        refine wl rfl rfl rfl (p_add rfl rfl (w64 (by omega))) ?_
        refine wl rfl rfl rfl (p_mv rfl) ?_
        refine wl_nil ?_
        refine x_round (e' := [(4, .pointer (some ⟨g4, 0, none⟩)), (5, .pointer (some ⟨g5, 0, none⟩)), (7, .slice (_) (_) (_)), (8, .bool (true)), (11, .slice Am lm cm), (12, i64 (lm : Int)), (13, i64 ((i + 1) : Int))]) ⟨rfl, rfl, rfl, rfl, rfl, rfl, rfl, trivial⟩ (by rw [hm0]; omega) ⟨i + 1, true, _, _, _, _, rfl, rfl, by omega, (by show _ ≤ _ + 1 + (_ : Nat); simp only [Bool.toNat_true, Bool.toNat_false]; omega), (by have hf0 : ¬ (x4.1 = k) := (by simpa using c2); rw [hdm, hdr, mputA]; (try simp only [hf0]); simp [hf0]), hW.mono (fun k _ hk => by first | omega | (dsimp only at *; omega)), hm, hb4, hb5, HC⟩
      ·
        refine wc_skip ?_
        refine x_in_normal ?_
        refine x_seq ?_
        refine wc_region ?_
        refine wl rfl rfl rfl (p_add rfl rfl (w64 (by omega))) ?_
        refine wl rfl rfl rfl (p_mv rfl) ?_
        refine wl_nil ?_
        refine x_round (e' := [(4, .pointer (some ⟨g4, 0, none⟩)), (5, .pointer (some ⟨g5, 0, none⟩)), (7, .slice (_) (_) (_)), (8, .bool (true)), (11, .slice Am lm cm), (12, i64 (lm : Int)), (13, i64 ((i + 1) : Int))]) ⟨rfl, rfl, rfl, rfl, rfl, rfl, rfl, trivial⟩ (by rw [hm0]; omega) ⟨i + 1, true, _, _, _, _, rfl, rfl, by omega, (by show _ ≤ _ + 1 + (_ : Nat); simp only [Bool.toNat_true, Bool.toNat_false]; omega), (by have hf0 : (x4.1 = k) := (by simpa using c2); rw [hdm, hdr, mputA]; (try simp only [hf0]); simp [hf0]), hW.mono (fun k _ hk => by first | omega | (dsimp only at *; omega)), hm, hb4, hb5, HC⟩
  ·
    have c0 := of_decide_eq_false c0
    refine wc_exit ?_
    refine x_then_exit ?_
    refine x_then_exit ?_
    refine x_in_here ?_
    refine x_seq ?_
    refine wc_seq ?_
    refine wc_seq ?_
    rcases dn with _ | _
    ·
      have hyl : l ≤ i + 0 := by simpa using hyl
      refine wc_region ?_
      refine wl rfl rfl rfl (p_mv rfl) ?_
      refine wl rfl rfl rfl (p_not rfl) ?_
      refine wl_nil ?_
      refine x_seq ?_
      refine wc_yes rfl (rfl) ?_
      refine wc_region ?_
      refine wl rfl rfl rfl (p_mv rfl) ?_
      refine wl rfl rfl rfl (p_ldA (cs := List.map u8v k) Tryd.underlying38 rfl (szL sz38 (by rw [List.length_map]; exact hk)) rfl (fun _ e => e ▸ rngL hb4)) ?_
      refine wl rfl rfl rfl (p_ldA (cs := List.map u8v u) Tryd.underlying38 rfl (szL sz38 (by rw [List.length_map]; exact hu)) rfl (fun _ e => e ▸ rngL hb5)) ?_
      refine wl rfl rfl rfl (p_bldX (vs' := [(.agg ((hx k) : List Value).toArray), (.agg ((hx u) : List Value).toArray)]) (cs := (((List.map u8v k) ++ (List.map u8v u)) : List Value)) (cs' := (((hx k) ++ (hx u)) : List Value)) rfl (by simp only [hv, map_hx hk, map_hx hu] <;> rfl) (by simp only [hv, map_hx hk, map_hx hu] <;> rfl) (fun _ => by kernel_rfl)) ?_
      have hltg4 := hb4.lt
      have hltg5 := hb5.lt
      refine wle rfl (e_bslX (E := 81) (cs := (((List.map u8v k) ++ (List.map u8v u)) : List Value)) (cs' := (((hx k) ++ (hx u)) : List Value)) rfl rfl (by simp only [hv, map_hx hk, map_hx hu] <;> rfl) (fun _ => by kernel_rfl) (fun w16 g47 hg47 hb47 hc hsz47 => ?_))
      have hzw16 := hc.size
      have HC := HC.tr hc
      have hW := hW.after hc
      have hm := hm.no hc
      have hb4 := hb4.ch hc (fun h => h)
      have hb5 := hb5.ch hc (fun h => h)
      have hge47 : w.heap.size ≤ g47 := by have := HC.size; omega
      have hS47 := SI.oneA (E := eIT) (x := (k, u)) hb47 rfl ⟨hk, hu⟩
      have hltg4 := hb4.lt
      have hltg5 := hb5.lt
      refine wle rfl (e_appI rfl el27 rfl rfl hW (hS47) (by omega) (by intro k hk; first | omega | (dsimp only at *; omega)) (fun w17 A48 c48 hW hc => ?_))
      have hzw17 := hc.size
      have HC := HC.trans hc (fun _ _ h => h) (fun k hk ht => absurd ht (by first | omega | (dsimp only at *; omega)))
      first | have hm := hm.ch hc (by intro k hk ht; first | omega | (dsimp only at *; omega)) | have hm := hm.chT hc (by intro k hz hk ht; first | omega | (dsimp only at *; omega))
      have hb4 := hb4.ch hc (by first | omega | (dsimp only; omega))
      have hb5 := hb5.ch hc (by first | omega | (dsimp only; omega))
      first | have hS47 := hS47.ch hc (by intro k hk ht; first | omega | (dsimp only at *; omega)) | have hS47 := hS47.chT hc (by intro k hz hk ht; first | omega | (dsimp only at *; omega))
      refine wl rfl rfl rfl (p_as rfl) ?_
      refine wl_nil ?_
      refine x_seq ?_
      refine wc_seq ?_
      refine wc_region ?_
      refine wl rfl rfl rfl (p_mv rfl) ?_
      refine wl rfl rfl rfl (p_as rfl) ?_
      refine wl_nil ?_
      refine x_seq ?_
      refine wc_ret ?_
      refine fin_run ((res1 rfl rfl)) ?_
      rw [List.drop_of_length_le (by omega), mputA] at hdm
      first | (rw [show mput m k u = _ from hdm]; simp only [if_true, List.append_nil]; exact ⟨_, _, _, rfl, hW.mono (fun k _ hk => by first | exact hk.1 | exact hk.1.1), HC⟩) | (rw [show mput m k u = _ from hdm]; exact ⟨_, _, _, rfl, hW.mono (fun k _ hk => by first | exact hk.1 | exact hk.1.1 | exact hk.1.1.1 | exact hk.1.1.1.1 | exact hk.1.1.1.1.1), HC⟩)
    ·
      have hyl : l ≤ i + 1 := by simpa using hyl
      refine wc_region ?_
      refine wl rfl rfl rfl (p_mv rfl) ?_
      refine wl rfl rfl rfl (p_not rfl) ?_
      refine wl_nil ?_
      refine x_seq ?_
      refine wc_no rfl (rfl) ?_
      refine wc_skip ?_
      refine x_seq ?_
      refine wc_seq ?_
      refine wc_region ?_
      refine wl rfl rfl rfl (p_mv rfl) ?_
      refine wl rfl rfl rfl (p_as rfl) ?_
      refine wl_nil ?_
      refine x_seq ?_
      refine wc_ret ?_
      refine fin_run ((res1 rfl rfl)) ?_
      rw [List.drop_of_length_le (by omega), mputA] at hdm
      first | (rw [show mput m k u = _ from hdm]; simp only [if_true, List.append_nil]; exact ⟨_, _, _, rfl, hW.mono (fun k _ hk => by first | exact hk.1 | exact hk.1.1), HC⟩) | (rw [show mput m k u = _ from hdm]; exact ⟨_, _, _, rfl, hW.mono (fun k _ hk => by first | exact hk.1 | exact hk.1.1 | exact hk.1.1.1 | exact hk.1.1.1.1 | exact hk.1.1.1.1.1), HC⟩)

theorem put_any : ∀ x : LT, PutOK x
  | .leaf g k v => fun hX hk hu hc => put_leaf hX hk hu
  | .fork g b x y => fun hX hk hu hc => put_fork (put_any x) (put_any y) hX hk hu hc

theorem putO_any {w : World} {k u : List UInt8} {o : Option LT} {F : Nat → Prop} (ht : OTr 156 F w o) (hF : ∀ j, w.heap.size ≤ j → F j) (hk : k.length = 32) (hu : u.length = 32) (hc : cntT (eo o) + 1 ≤ 4611686018427387904) :
    Calls Tryd.prog 83 #[.pointer (topa o), hv k, hv u] w fun e w' => ∃ t : LT, e = .returned (ndp t.adr) ∧ some t.er = putT (eo o) k u ∧ LF 156 F w' t ∧ Ch No w w' := by
  cases o with
  | none => exact (put_nil hk hu).mono fun e w' ⟨g, h1, h2, h3⟩ => ⟨.leaf g k u, h1, rfl, ⟨h2.1, fun a ha => hF a (h2.2 a ha)⟩, h3⟩
  | some x => exact (put_any x (ht x rfl).1 hk hu hc).mono fun e w' ⟨t, h1, h2, h3, h4⟩ => ⟨t, h1, by rw [h2]; rfl, ⟨h3.1, fun a ha => (h3.2 a ha).elim (fun h => (ht x rfl).2 a h) (hF a)⟩, h4⟩

theorem rootO_any {w : World} {o : Option LT} {F : Nat → Prop} (ht : OTr 156 F w o) (hrnd : Sl w (fun k => k = 0) u32v (some ⟨0, 0, none⟩) 64 64 rk) :
    Calls Tryd.prog 85 #[.pointer (topa o)] w fun e w' => e = .returned (hv (rootT (eo o))) ∧ (∀ t, o = some t → LAt 156 w' t) ∧ Ch (fun k => k ∈ adsO o) w w' := by
  cases o with
  | none => exact (root_nil hrnd).mono fun e w' ⟨h1, h2⟩ => ⟨h1, fun t e => by (cases e), h2.mono (fun _ _ h => h.elim)⟩
  | some x => exact (root_any x (ht x rfl).1 hrnd).mono fun e w' ⟨h1, h2, h3⟩ => ⟨h1, fun t e => by (cases e; exact h2), h3⟩

set_option maxHeartbeats 1000000 in
set_option maxRecDepth 20000 in
theorem is_made {w : World} {g : Nat} {o : Option LT} (hbg : Blk w g 41 [.pointer (topa o), .bool true].toArray) :
    Calls Tryd.prog 81 #[ndp g] w fun e w' => e = .returned (.bool true) ∧ Ch No w w' := by
  have HC : Ch No w w := Ch.refl _ _
  refine enter' (args := [ndp g]) (n := 11) Tryd.func81 rfl rfl rfl ?_
  refine wc_seq ?_
  refine wc_region ?_
  refine wl rfl rfl rfl (p_as rfl) ?_
  refine wl_nil ?_
  refine x_seq ?_
  refine wc_seq ?_
  refine wc_region ?_
  refine wl rfl rfl rfl (p_mv rfl) ?_
  refine wl rfl rfl rfl (p_nePN rfl rfl Tryd.underlying25) ?_
  refine wl rfl rfl rfl (p_mv rfl) ?_
  refine wl_g (gd_ rfl rfl rfl rfl rfl rfl) rfl rfl (p_mv rfl) ?_
  refine wl_g (gd_ rfl rfl rfl rfl rfl rfl) rfl rfl (p_nck rfl) ?_
  refine wl_g (gd_ rfl rfl rfl rfl rfl rfl) rfl rfl (p_fld (j := 1) Tryd.underlying41 rfl ⟨_, by rfl⟩ rfl rfl) ?_
  refine wl_g (gd_ rfl rfl rfl rfl rfl rfl) rfl rfl (p_ld Tryd.underlying4 rfl rfl (ld (cell_at (p := ([.pointer (topa o)] : List Value)) (v := (.bool true : Value)) (r := []) hbg (by simp only [List.append_assoc, List.cons_append, List.nil_append, List.append_nil]) (by first | rfl | (simp only [List.length_append, List.length_map, List.length_cons, List.length_nil]; done) | (simp only [List.length_append, List.length_map, List.length_cons, List.length_nil, List.size_toArray]; done))))) ?_
  refine wl rfl rfl rfl (p_pickT rfl rfl) ?_
  refine wl rfl rfl rfl (p_as rfl) ?_
  refine wl_nil ?_
  refine x_seq ?_
  refine wc_ret ?_
  refine fin_run ((res1 rfl rfl)) ?_
  exact ⟨rfl, HC⟩

set_option maxHeartbeats 1000000 in
set_option maxRecDepth 20000 in
theorem new_any {w : World}   :
    Calls Tryd.prog 51 #[] w fun e w' => ∃ v, e = .returned v ∧ TR 41 156 (fun k => w.heap.size ≤ k) w' v none ∧ Ch No w w' := by
  have HC : Ch No w w := Ch.refl _ _
  refine enter' (args := []) (n := 3) Tryd.func51 rfl rfl rfl ?_
  refine wc_seq ?_
  refine wc_region ?_
  refine wl rfl rfl rfl (p_as rfl) ?_
  refine wl_nil ?_
  refine x_seq ?_
  refine wc_seq ?_
  refine wc_region ?_
  refine wl rfl rfl rfl (p_bldX (vs' := [.bool true]) (cs := ([Value.pointer none, .bool true] : List Value)) (cs' := ([Value.pointer none, .bool true] : List Value)) rfl rfl rfl (fun _ => by kernel_rfl)) ?_
  refine wle rfl (e_box (cs := ([Value.pointer none, .bool true] : List Value).toArray) rfl rfl rfl (fun w1 g2 hg2 hb2 hc hsz2 => ?_))
  have hzw1 := hc.size
  have HC := HC.tr hc
  have hge2 : w.heap.size ≤ g2 := by have := HC.size; omega
  refine wl rfl rfl rfl (p_as rfl) ?_
  refine wl_nil ?_
  refine x_seq ?_
  refine wc_ret ?_
  refine fin_run ((res1 rfl rfl)) ?_
  exact ⟨_, rfl, TR.mk' hge2 hb2 (fun t e => by (cases e)), HC⟩

set_option maxHeartbeats 1000000 in
set_option maxRecDepth 20000 in
theorem tput_made {w : World} {v : Value} {o : Option LT} {F : Nat → Prop} {k : List UInt8} {u : List UInt8} (hV : TR 41 156 F w v o) (hF : ∀ j, w.heap.size ≤ j → F j) (hk : k.length = 32) (hu : u.length = 32) (hcn : cntT (eo o) + 1 ≤ 4611686018427387904) :
    Calls Tryd.prog 44 #[v, hv k, hv u] w fun e w' => ∃ v' t, e = .returned v' ∧ TR 41 156 F w' v' (some t) ∧ eo (some t) = putT (eo o) k u ∧ Ch No w w' := by
  obtain ⟨g, rfl, hFg, hbg, hT⟩ := hV.opn
  have hbg : Blk w g 41 ([.pointer (topa o), .bool true] : List Value).toArray := hbg
  have hT : OTr 156 F w o := hT
  have hTl := hT.lt
  have hltg := hbg.lt
  have HC : Ch No w w := Ch.refl _ _
  refine enter' (args := [ndp g, hv k, hv u]) (n := 19) Tryd.func44 rfl rfl rfl ?_
  refine wc_seq ?_
  refine wc_region ?_
  have hltg := hbg.lt
  refine wle rfl (e_box (cs := (List.map u8v k).toArray) rfl rfl rfl (fun w1 g4 hg4 hb4 hc hsz4 => ?_))
  have hzw1 := hc.size
  have HC := HC.tr hc
  have hbg := hbg.ch hc (fun h => h)
  have hT := hT.chA hc (by first | exact fun _ _ h => h | exact (fun k hk ht => by have h2 := hTl k hk; omega))
  have hge4 : w.heap.size ≤ g4 := by have := HC.size; omega
  have neg_4 : g < g4 := by omega
  have hltg := hbg.lt
  have hltg4 := hb4.lt
  refine wle rfl (e_box (cs := (List.map u8v u).toArray) rfl rfl rfl (fun w2 g5 hg5 hb5 hc hsz5 => ?_))
  have hzw2 := hc.size
  have HC := HC.tr hc
  have hbg := hbg.ch hc (fun h => h)
  have hT := hT.chA hc (by first | exact fun _ _ h => h | exact (fun k hk ht => by have h2 := hTl k hk; omega))
  have hb4 := hb4.ch hc (fun h => h)
  have hge5 : w.heap.size ≤ g5 := by have := HC.size; omega
  have neg_5 : g < g5 := by omega
  have neg4_5 : g4 < g5 := by omega
  refine wl rfl rfl rfl (p_as rfl) ?_
  refine wl_nil ?_
  refine x_seq ?_
  refine wc_seq ?_
  refine wc_seq ?_
  refine wc_region ?_
  refine wl rfl rfl rfl (p_mv rfl) ?_
  refine wle rfl (e_call ent81 rfl rfl (is_made hbg) ?_)
  rintro _ w3 ⟨rfl, hc⟩
  refine ⟨_, rfl, ?_⟩
  have hzw3 := hc.size
  have HC := HC.tr hc
  have hbg := hbg.ch hc (fun h => h)
  have hT := hT.chA hc (by first | exact fun _ _ h => h | exact (fun k hk ht => by have h2 := hTl k hk; omega))
  have hb4 := hb4.ch hc (fun h => h)
  have hb5 := hb5.ch hc (fun h => h)
  refine wl rfl rfl rfl (p_not rfl) ?_
  refine wl_nil ?_
  refine x_seq ?_
  refine wc_no rfl (rfl) ?_
  refine wc_skip ?_
  refine x_seq ?_
  refine wc_seq ?_
  refine wc_draw (.st 0 0 (.st 1 0 (.st 2 0 (.st 3 1 (.st 4 1 (.st 5 1 (.st 6 2 (.st 7 0 (.st 8 2 (.st 9 0 .nil)))))))))) 10 (by kernel_rfl) (by kernel_rfl) (by kernel_rfl) (by repeat (first | with_reducible exact pan_body | with_reducible apply pan_then | with_reducible apply pan_in)) (fun x => Ch No w3.drew x) (Ch.refl _ _) ?_
  obtain ⟨w4, ew4⟩ : ∃ x, x = w3.drew := ⟨_, rfl⟩
  rw [← ew4]
  have hc : Ch No w3 w4 := by rw [ew4]; exact Ch.drew _
  have hszw4 : w4.heap.size = w3.heap.size := by rw [ew4]; rfl
  clear ew4
  have hzw4 := hc.size
  have HC := HC.tr hc
  have hbg := hbg.ch hc (fun h => h)
  have hT := hT.chA hc (by first | exact fun _ _ h => h | exact (fun k hk ht => by have h2 := hTl k hk; omega))
  have hb4 := hb4.ch hc (fun h => h)
  have hb5 := hb5.ch hc (fun h => h)
  have hS : Ch No w4 w4 := Ch.refl _ _
  refine ws_p rfl rfl rfl rfl (p_mv rfl) ?_
  refine ws_p rfl rfl rfl rfl (p_nck rfl) ?_
  refine ws_p rfl rfl rfl rfl (p_fld (j := 0) Tryd.underlying41 rfl ⟨_, by rfl⟩ rfl rfl) ?_
  refine ws_h rfl rfl rfl rfl (p_ld Tryd.underlying39 rfl rfl (fun _ h => h.cell (fun h => h) (cell_at (p := []) (v := (.pointer (topa o) : Value)) (r := ([.bool true] : List Value)) hbg (by simp only [List.append_assoc, List.cons_append, List.nil_append, List.append_nil]) (by first | rfl | (simp only [List.length_append, List.length_map, List.length_cons, List.length_nil]; done) | (simp only [List.length_append, List.length_map, List.length_cons, List.length_nil, List.size_toArray]; done))))) ?_
  refine ws_h rfl rfl rfl rfl (p_ldA (cs := List.map u8v k) Tryd.underlying38 rfl (szL sz38 (by rw [List.length_map]; exact hk)) rfl (fun _ h => (rngL (hb4.ch h (fun h => h))))) ?_
  refine ws_h rfl rfl rfl rfl (p_ldA (cs := List.map u8v u) Tryd.underlying38 rfl (szL sz38 (by rw [List.length_map]; exact hu)) rfl (fun _ h => (rngL (hb5.ch h (fun h => h))))) ?_
  refine ws_e rfl rfl (e_call ent83 rfl rfl (putO_any hT (fun j hj => hF j (by omega)) (hk) (hu) hcn) ?_)
  rintro _ w5 ⟨t16, rfl, het16, hL16, hc⟩
  refine ⟨_, rfl, hc, ?_⟩
  have hzw5 := hc.size
  have HC := HC.tr hc
  have hbg := hbg.ch hc (fun h => h)
  have hT := hT.chA hc (by first | exact fun _ _ h => h | exact (fun k hk ht => by have h2 := hTl k hk; omega))
  have hb4 := hb4.ch hc (fun h => h)
  have hb5 := hb5.ch hc (fun h => h)
  refine ws_narrow (S' := fun x => Ch No w5 x) (Ch.refl _ _) (fun x h => hc.tr h) ?_
  refine ws_p rfl rfl rfl rfl (p_bldX (vs' := [ndp t16.adr, .bool true]) (cs := ([ndp t16.adr, .bool true] : List Value)) (cs' := ([ndp t16.adr, .bool true] : List Value)) rfl rfl rfl (fun _ => by kernel_rfl)) ?_
  have hltg := hbg.lt
  have hltg4 := hb4.lt
  have hltg5 := hb5.lt
  refine ws_e rfl rfl (e_box (cs := ([ndp t16.adr, .bool true] : List Value).toArray) rfl rfl rfl (fun w6 g18 hg18 hb18 hc hsz18 => ⟨hc, ?_⟩))
  have hzw6 := hc.size
  have HC := HC.tr hc
  have hbg := hbg.ch hc (fun h => h)
  have hT := hT.chA hc (by first | exact fun _ _ h => h | exact (fun k hk ht => by have h2 := hTl k hk; omega))
  have hb4 := hb4.ch hc (fun h => h)
  have hb5 := hb5.ch hc (fun h => h)
  have hL16 := hL16.no hc
  have hge18 : w.heap.size ≤ g18 := by have := HC.size; omega
  have neg_18 : g < g18 := by omega
  have neg4_18 : g4 < g18 := by omega
  have neg5_18 : g5 < g18 := by omega
  refine ws_narrow (S' := fun x => Ch No w6 x) (Ch.refl _ _) (fun x h => hc.tr h) ?_
  refine ws_p rfl rfl rfl rfl (p_as rfl) ?_
  refine ws_n ?_
  refine x_seq ?_
  refine wc_ret ?_
  refine fin_run ((res1 rfl rfl)) ?_
  exact ⟨_, t16, rfl, TR.mk' (hF _ (by omega)) hb18 (fun t e => by cases e; exact hL16), het16, HC⟩

set_option maxHeartbeats 1000000 in
set_option maxRecDepth 20000 in
theorem troot_made {w : World} {v : Value} {o : Option LT} {F : Nat → Prop} (hV : TR 41 156 F w v o) (hrnd : Sl w (fun k => k = 0) u32v (some ⟨0, 0, none⟩) 64 64 rk) :
    Calls Tryd.prog 46 #[v] w fun e w' => e = .returned (hv (rootT (eo o))) ∧ Ch (fun k => k ∈ adsO o) w w' ∧ Fil 156 w w' ∧ (∀ k, k ∈ adsO o → ∃ cs, Blk w k 156 cs) ∧ ∀ k, k ∈ adsO o → F k := by
  obtain ⟨g, rfl, hFg, hbg, hT⟩ := hV.opn
  have hbg : Blk w g 41 ([.pointer (topa o), .bool true] : List Value).toArray := hbg
  have hT : OTr 156 F w o := hT
  have hTl := hT.lt
  have hltg := hbg.lt
  have hn0 : 0 < w.heap.size := hrnd.size (by omega) rfl
  have hn1 := hn0
  have hrl : (rootT (eo o)).length = 32 := rootT_len
  have hA0 := hT.blk
  have hA1 := hT.inF
  have HC : Ch (fun k => k ∈ adsO o) w w := Ch.refl _ _
  refine enter' (args := [ndp g]) (n := 12) Tryd.func46 rfl rfl rfl ?_
  refine wc_seq ?_
  refine wc_region ?_
  have hltg := hbg.lt
  refine wle rfl (e_alloc (cs := ((List.replicate 32 (0 : UInt8)).map u8v).toArray) rfl (by rfl) rfl (fun w1 g2 hg2 hb2 hc hsz2 => ?_))
  have hzw1 := hc.size
  have HC := HC.tr hc
  have hbg := hbg.ch hc (fun h => h)
  have hT := hT.chA hc (by first | exact fun _ _ h => h | exact (fun k hk ht => by have h2 := hTl k hk; omega))
  have hrnd := hrnd.no hc
  have hge2 : w.heap.size ≤ g2 := by have := HC.size; omega
  have neg_2 : g < g2 := by omega
  refine wl_nil ?_
  refine x_seq ?_
  refine wc_seq ?_
  refine wc_seq ?_
  refine wc_region ?_
  refine wl rfl rfl rfl (p_mv rfl) ?_
  refine wle rfl (e_call ent81 rfl rfl (is_made hbg) ?_)
  rintro _ w2 ⟨rfl, hc⟩
  refine ⟨_, rfl, ?_⟩
  have hzw2 := hc.size
  have HC := HC.tr hc
  have hbg := hbg.ch hc (fun h => h)
  have hT := hT.chA hc (by first | exact fun _ _ h => h | exact (fun k hk ht => by have h2 := hTl k hk; omega))
  have hrnd := hrnd.no hc
  have hb2 := hb2.ch hc (fun h => h)
  refine wl rfl rfl rfl (p_not rfl) ?_
  refine wl_nil ?_
  refine x_seq ?_
  refine wc_no rfl (rfl) ?_
  refine wc_skip ?_
  refine x_seq ?_
  refine wc_seq ?_
  refine wc_region ?_
  refine wl rfl rfl rfl (p_mv rfl) ?_
  refine wl rfl rfl rfl (p_nck rfl) ?_
  refine wl rfl rfl rfl (p_fld (j := 0) Tryd.underlying41 rfl ⟨_, by rfl⟩ rfl rfl) ?_
  refine wl rfl rfl rfl (p_ld Tryd.underlying39 rfl rfl (ld (cell_at (p := []) (v := (.pointer (topa o) : Value)) (r := ([.bool true] : List Value)) hbg (by simp only [List.append_assoc, List.cons_append, List.nil_append, List.append_nil]) (by first | rfl | (simp only [List.length_append, List.length_map, List.length_cons, List.length_nil]; done) | (simp only [List.length_append, List.length_map, List.length_cons, List.length_nil, List.size_toArray]; done))))) ?_
  refine wle rfl (e_call ent85 rfl rfl (rootO_any hT hrnd) ?_)
  rintro _ w3 ⟨rfl, hLn, hc⟩
  refine ⟨_, rfl, ?_⟩
  have hRB := hT.blk
  have hR0 := hT.out hrnd (by omega)
  have hFil := Fil.ofO hT hc hLn
  have hzw3 := hc.size
  have HC := HC.trans hc (fun _ _ h => h) (fun k hk ht => ht)
  first | have hbg := hbg.ch hc (hbg.not_nd hRB) | have hbg := hbg.ch hc (by assumption)
  have hT := hT.fil hFil
  have hrnd := hrnd.ch hc (fun k hk ht => hR0 (hk ▸ ht))
  first | have hb2 := hb2.ch hc (hb2.not_nd hRB) | have hb2 := hb2.ch hc (by assumption)
  refine wle rfl (e_stW (vs := List.map u8v (rootT (eo o))) (szL sz38 (by rw [List.length_map]; exact hrl)) (oneL one_u8 _) rfl rfl hb2 (by simp only [List.size_toArray, List.length_map]; first | done | exact ((List.length_replicate ..)).trans (hrl).symm) (fun w4 hb2 hc hsz => ?_))
  have hzw4 := hc.size
  have HC := HC.trans hc (fun _ _ h => h) (fun k hk ht => absurd ht (by omega))
  have hbg := hbg.ch hc (by omega)
  have hT := hT.chA hc (by first | exact fun _ _ h => h | exact (fun k hk ht => by have h2 := hTl k hk; omega))
  first | have hrnd := hrnd.ch hc (by intro k hk ht; first | omega | (dsimp only at *; omega)) | have hrnd := hrnd.chT hc (by intro k hz hk ht; first | omega | (dsimp only at *; omega))
  refine wl_nil ?_
  refine x_seq ?_
  refine wc_ret ?_
  refine fin_run (resC (cs := List.map u8v (rootT (eo o))) rfl rfl Tryd.underlying38 rfl (szL sz38 (by rw [List.length_map]; exact hrl)) (rngL hb2)) ?_
  exact ⟨rfl, HC, Fil.ofO hV.ot HC (fun t e => (hT t e).1), hA0, hA1⟩

def EachOK (t : LT) : Prop := ∀ {w : World} {m yl : Nat} {D : List (H8 × H8) → H8 × H8 → Prop} {J Jx : List (H8 × H8) → World → Prop} {pre : List (H8 × H8)}, (∀ xs A, J xs A → LAt 156 A t) → (∀ xs A B, J xs A → Ch No A B → J xs B) → (∀ xs A B, Jx xs A → Ch No A B → Jx xs B) → (∀ p x q, t.er.items = p ++ x :: q → D (pre ++ p) x) →
    (∀ pre x Wq, D pre x → J pre Wq → YieldAt Fence.wide m Tryd.prog yl ((fun x : List UInt8 × List UInt8 => #[hv x.1, hv x.2]) x) Wq fun ed W' => (ed = .returned (.bool true) ∧ J (pre ++ [x]) W') ∨ (ed = .returned (.bool false) ∧ Jx (pre ++ [x]) W')) → J pre w → Calls Tryd.prog 98 #[ndp t.adr, .func (.yield yl) #[] #[]] w fun e w' => (e = .returned (.bool true) ∧ J (pre ++ t.er.items) w') ∨ (e = .returned (.bool false) ∧ ∃ q, Jx q w')

set_option maxHeartbeats 1000000 in
set_option maxRecDepth 20000 in
theorem each_leaf {w : World} {m yl : Nat} {D : List (H8 × H8) → H8 × H8 → Prop} {J Jx : List (H8 × H8) → World → Prop} {pre : List (H8 × H8)} {g0 : Nat} {k0 v0 : List UInt8} (hX : ∀ xs A, J xs A → LAt 156 A (.leaf g0 k0 v0)) (hJ : ∀ xs A B, J xs A → Ch No A B → J xs B) (hJx : ∀ xs A B, Jx xs A → Ch No A B → Jx xs B) (hD : ∀ p x q, (Tr.leaf k0 v0).items = p ++ x :: q → D (pre ++ p) x) (hY : ∀ pre x Wq, D pre x → J pre Wq → YieldAt Fence.wide m Tryd.prog yl ((fun x : List UInt8 × List UInt8 => #[hv x.1, hv x.2]) x) Wq fun ed W' => (ed = .returned (.bool true) ∧ J (pre ++ [x]) W') ∨ (ed = .returned (.bool false) ∧ Jx (pre ++ [x]) W')) (hJ0 : J pre w) :
    Calls Tryd.prog 98 #[ndp g0, .func (.yield yl) #[] #[]] w fun e w' => (e = .returned (.bool true) ∧ J (pre ++ (Tr.leaf k0 v0).items) w') ∨ (e = .returned (.bool false) ∧ ∃ q, Jx q w') := by
  have hJp := hJ0
  obtain ⟨hk0, hv0, d0, h0, ⟨hh0, hO0⟩, hb0⟩ := id (hX _ _ hJp)
  have hb0 : Blk w g0 156 (([i64 ((256 : Nat) : Int), .pointer none, .pointer none] ++ ((List.map u8v k0) ++ ((List.map u8v v0) ++ ([i64 ((1 : Nat) : Int), .int .u32 (d0 : Int), .int .i32 ((0 : Nat) : Int), .int .u32 0] ++ (List.map u8v h0))))) : List Value).toArray := hb0
  have HC : Ch No w w := Ch.refl _ _
  refine enter' (args := [ndp g0, .func (.yield yl) #[] #[]]) (n := 38) Tryd.func98 rfl rfl rfl ?_
  refine wc_seq ?_
  refine wc_region ?_
  refine wl rfl rfl rfl (p_as rfl) ?_
  refine wl_nil ?_
  refine x_seq ?_
  refine wc_seq ?_
  refine wc_seq ?_
  refine wc_region ?_
  refine wl rfl rfl rfl (p_mv rfl) ?_
  refine wl rfl rfl rfl (p_eqPN rfl rfl Tryd.underlying39) ?_
  refine wl_nil ?_
  refine x_seq ?_
  refine wc_no rfl (rfl) ?_
  refine wc_skip ?_
  refine x_seq ?_
  refine wc_seq ?_
  refine wc_seq ?_
  refine wc_region ?_
  refine wl rfl rfl rfl (p_mv rfl) ?_
  refine wl rfl rfl rfl (p_nck rfl) ?_
  refine wl rfl rfl rfl (p_fld (j := 0) Tryd.underlying156 rfl ⟨_, by rfl⟩ rfl rfl) ?_
  refine wl rfl rfl rfl (p_ld Tryd.underlying3 rfl rfl (ld (cell_at (p := []) (v := (i64 ((256 : Nat) : Int) : Value)) (r := (([.pointer none, .pointer none] ++ ((List.map u8v k0) ++ ((List.map u8v v0) ++ ([i64 ((1 : Nat) : Int), .int .u32 (d0 : Int), .int .i32 ((0 : Nat) : Int), .int .u32 0] ++ (List.map u8v h0))))) : List Value)) hb0 (by simp only [List.append_assoc, List.cons_append, List.nil_append, List.append_nil]) (by first | rfl | (simp only [List.length_append, List.length_map, List.length_cons, List.length_nil]; done) | (simp only [List.length_append, List.length_map, List.length_cons, List.length_nil, List.size_toArray]; done))))) ?_
  refine wl rfl rfl rfl (p_eq rfl rfl) ?_
  refine wl_nil ?_
  refine x_seq ?_
  refine wc_yes rfl (rfl) ?_
  refine wc_seq ?_
  have hbd := hb0.ch (Ch.drew w) (fun h => h)
  refine wc_pureY (m := m + 1) 9 [12, 13, 14, 15, 16, 17, 18, 19, 20] (fun i => [[], [], [1], [2], [3], [], [5], [6], [7]].getD i []) (fun i => [.func (.yield yl) #[] #[], ndp g0, ndp g0, .pointer (some ⟨g0, 0 + 3, none⟩), hv k0, ndp g0, ndp g0, .pointer (some ⟨g0, 0 + 35, none⟩), hv v0].getD i undef) [(12, .func (.yield yl) #[] #[]), (16, hv k0), (20, hv v0)] (by kernel_rfl) rfl rfl rfl rfl rfl rfl rfl rfl (by kernel_rfl) ⟨p_mv rfl, p_mv rfl, p_nck rfl, p_fld (j := 3) Tryd.underlying156 rfl ⟨_, by rfl⟩ rfl rfl, p_ldA (cs := List.map u8v k0) Tryd.underlying38 rfl (szL sz38 (by first | rfl | (simp only [List.length_append, List.length_map, List.length_cons, List.length_nil, (show List.length k0 = 32 from hk0)]; done) | (simp only [List.length_append, List.length_map, List.length_cons, List.length_nil, List.size_toArray, (show List.length k0 = 32 from hk0)]; done))) rfl (fun _ e => e ▸ rng_at (p := ([i64 ((256 : Nat) : Int), .pointer none, .pointer none] : List Value)) (q := List.map u8v k0) (r := (((List.map u8v v0) ++ ([i64 ((1 : Nat) : Int), .int .u32 (d0 : Int), .int .i32 ((0 : Nat) : Int), .int .u32 0] ++ (List.map u8v h0))) : List Value)) hbd (by simp only [List.append_assoc, List.cons_append, List.nil_append, List.append_nil]) (by first | rfl | (simp only [List.length_append, List.length_map, List.length_cons, List.length_nil]; done) | (simp only [List.length_append, List.length_map, List.length_cons, List.length_nil, List.size_toArray]; done))), p_mv rfl, p_nck rfl, p_fld (j := 35) Tryd.underlying156 rfl ⟨_, by rfl⟩ rfl rfl, p_ldA (cs := List.map u8v v0) Tryd.underlying38 rfl (szL sz38 (by first | rfl | (simp only [List.length_append, List.length_map, List.length_cons, List.length_nil, (show List.length v0 = 32 from hv0)]; done) | (simp only [List.length_append, List.length_map, List.length_cons, List.length_nil, List.size_toArray, (show List.length v0 = 32 from hv0)]; done))) rfl (fun _ e => e ▸ rng_at (p := (([i64 ((256 : Nat) : Int), .pointer none, .pointer none] ++ (List.map u8v k0)) : List Value)) (q := List.map u8v v0) (r := (([i64 ((1 : Nat) : Int), .int .u32 (d0 : Int), .int .i32 ((0 : Nat) : Int), .int .u32 0] ++ (List.map u8v h0)) : List Value)) hbd (by simp only [List.append_assoc, List.cons_append, List.nil_append, List.append_nil]) (by first | rfl | (simp only [List.length_append, List.length_map, List.length_cons, List.length_nil, (show List.length k0 = 32 from hk0)]; done) | (simp only [List.length_append, List.length_map, List.length_cons, List.length_nil, List.size_toArray, (show List.length k0 = 32 from hk0)]; done))), trivial⟩ ⟨rfl, rfl, rfl, trivial⟩ ?_
  refine wli_yield (fun _ _ => rfl) rfl rfl rfl (hY pre (k0, v0) _ (by have h := hD [] (k0, v0) [] rfl; rwa [List.append_nil] at h) (hJ _ _ _ hJp (Ch.drew _))) (by repeat (first | exact no_body (fun _ h => by rcases h with h | h <;> cases h.1) | with_reducible apply no_then | with_reducible apply no_in)) ?_
  rintro _ w' (⟨rfl, hJp⟩ | ⟨rfl, hJq⟩)
  ·
    refine ⟨_, rfl, ?_⟩
    refine wli rfl rfl rfl (p_as rfl) ?_
    refine wli_nil ?_
    refine x_seq ?_
    refine wc_ret ?_
    refine x_then_ret ?_
    refine fin_run ((res1 rfl rfl)) ?_
    exact .inl ⟨rfl, hJp⟩
  ·
    refine ⟨_, rfl, ?_⟩
    refine wli rfl rfl rfl (p_as rfl) ?_
    refine wli_nil ?_
    refine x_seq ?_
    refine wc_ret ?_
    refine x_then_ret ?_
    refine fin_run ((res1 rfl rfl)) ?_
    exact .inr ⟨rfl, _, hJq⟩

set_option maxHeartbeats 1000000 in
set_option maxRecDepth 20000 in
theorem each_fork {w : World} {m yl : Nat} {D : List (H8 × H8) → H8 × H8 → Prop} {J Jx : List (H8 × H8) → World → Prop} {pre : List (H8 × H8)} {g0 b : Nat} {x y : LT} (IHx : EachOK x) (IHy : EachOK y) (hX : ∀ xs A, J xs A → LAt 156 A (.fork g0 b x y)) (hJ : ∀ xs A B, J xs A → Ch No A B → J xs B) (hJx : ∀ xs A B, Jx xs A → Ch No A B → Jx xs B) (hD : ∀ p x1 q, (Tr.fork b x.er y.er).items = p ++ x1 :: q → D (pre ++ p) x1) (hY : ∀ pre x Wq, D pre x → J pre Wq → YieldAt Fence.wide m Tryd.prog yl ((fun x : List UInt8 × List UInt8 => #[hv x.1, hv x.2]) x) Wq fun ed W' => (ed = .returned (.bool true) ∧ J (pre ++ [x]) W') ∨ (ed = .returned (.bool false) ∧ Jx (pre ++ [x]) W')) (hJ0 : J pre w) :
    Calls Tryd.prog 98 #[ndp g0, .func (.yield yl) #[] #[]] w fun e w' => (e = .returned (.bool true) ∧ J (pre ++ (Tr.fork b x.er y.er).items) w') ∨ (e = .returned (.bool false) ∧ ∃ q, Jx q w') := by
  have hJp := hJ0
  obtain ⟨⟨hb256, hcn0, hk0, d0, h0, ⟨hh0, hO0⟩, hb0⟩, hXx, hXy⟩ := id (hX _ _ hJp)
  have hb0 : Blk w g0 156 (([i64 (b : Int), ndp x.adr, ndp y.adr] ++ ((List.map u8v x.er.key) ++ ((List.map u8v zeroH) ++ ([i64 ((x.er.cnt + y.er.cnt : Nat) : Int), .int .u32 (d0 : Int), .int .i32 ((0 : Nat) : Int), .int .u32 0] ++ (List.map u8v h0))))) : List Value).toArray := hb0
  have HC : Ch No w w := Ch.refl _ _
  refine enter' (args := [ndp g0, .func (.yield yl) #[] #[]]) (n := 38) Tryd.func98 rfl rfl rfl ?_
  refine wc_seq ?_
  refine wc_region ?_
  refine wl rfl rfl rfl (p_as rfl) ?_
  refine wl_nil ?_
  refine x_seq ?_
  refine wc_seq ?_
  refine wc_seq ?_
  refine wc_region ?_
  refine wl rfl rfl rfl (p_mv rfl) ?_
  refine wl rfl rfl rfl (p_eqPN rfl rfl Tryd.underlying39) ?_
  refine wl_nil ?_
  refine x_seq ?_
  refine wc_no rfl (rfl) ?_
  refine wc_skip ?_
  refine x_seq ?_
  refine wc_seq ?_
  refine wc_seq ?_
  refine wc_region ?_
  refine wl rfl rfl rfl (p_mv rfl) ?_
  refine wl rfl rfl rfl (p_nck rfl) ?_
  refine wl rfl rfl rfl (p_fld (j := 0) Tryd.underlying156 rfl ⟨_, by rfl⟩ rfl rfl) ?_
  refine wl rfl rfl rfl (p_ld Tryd.underlying3 rfl rfl (ld (cell_at (p := []) (v := (i64 (b : Int) : Value)) (r := (([ndp x.adr, ndp y.adr] ++ ((List.map u8v x.er.key) ++ ((List.map u8v zeroH) ++ ([i64 ((x.er.cnt + y.er.cnt : Nat) : Int), .int .u32 (d0 : Int), .int .i32 ((0 : Nat) : Int), .int .u32 0] ++ (List.map u8v h0))))) : List Value)) hb0 (by simp only [List.append_assoc, List.cons_append, List.nil_append, List.append_nil]) (by first | rfl | (simp only [List.length_append, List.length_map, List.length_cons, List.length_nil]; done) | (simp only [List.length_append, List.length_map, List.length_cons, List.length_nil, List.size_toArray]; done))))) ?_
  refine wl rfl rfl rfl (p_eq rfl rfl) ?_
  refine wl_nil ?_
  refine x_seq ?_
  refine wc_no rfl (decide_eq_false (by omega)) ?_
  refine wc_skip ?_
  refine x_seq ?_
  refine wc_seq ?_
  refine wc_region ?_
  refine wl rfl rfl rfl (p_mv rfl) ?_
  refine wl rfl rfl rfl (p_nck rfl) ?_
  refine wl rfl rfl rfl (p_fld (j := 1) Tryd.underlying156 rfl ⟨_, by rfl⟩ rfl rfl) ?_
  refine wl rfl rfl rfl (p_ixA (j := 0) Tryd.underlying142 sz39 rfl rfl (by omega) (by omega) rfl) ?_
  refine wl rfl rfl rfl (p_ld Tryd.underlying39 rfl rfl (ld (cell_at (p := ([i64 (b : Int)] : List Value)) (v := (ndp x.adr : Value)) (r := (([ndp y.adr] ++ ((List.map u8v x.er.key) ++ ((List.map u8v zeroH) ++ ([i64 ((x.er.cnt + y.er.cnt : Nat) : Int), .int .u32 (d0 : Int), .int .i32 ((0 : Nat) : Int), .int .u32 0] ++ (List.map u8v h0))))) : List Value)) hb0 (by simp only [List.append_assoc, List.cons_append, List.nil_append, List.append_nil]) (by first | rfl | (simp only [List.length_append, List.length_map, List.length_cons, List.length_nil]; done) | (simp only [List.length_append, List.length_map, List.length_cons, List.length_nil, List.size_toArray]; done))))) ?_
  refine wl rfl rfl rfl (p_mv rfl) ?_
  refine wle rfl (e_call ent98 rfl rfl (IHx (pre := pre) (fun xs A h => (hX xs A h).2.1) hJ hJx (fun p x1 q h => hD p x1 (q ++ y.er.items) (by show x.er.items ++ y.er.items = _; rw [h]; simp)) hY hJp) ?_)
  rintro _ w2 (⟨rfl, hJp⟩ | ⟨rfl, q, hJq⟩)
  ·
    refine ⟨_, rfl, ?_⟩
    obtain ⟨⟨hb256, hcn0, hk0, d0, h0, ⟨hh0, hO0⟩, hb0⟩, hXx, hXy⟩ := id (hX _ _ hJp)
    have hb0 : Blk w2 g0 156 (([i64 (b : Int), ndp x.adr, ndp y.adr] ++ ((List.map u8v x.er.key) ++ ((List.map u8v zeroH) ++ ([i64 ((x.er.cnt + y.er.cnt : Nat) : Int), .int .u32 (d0 : Int), .int .i32 ((0 : Nat) : Int), .int .u32 0] ++ (List.map u8v h0))))) : List Value).toArray := hb0
    refine wl rfl rfl rfl (p_mv rfl) ?_
    refine wl_g (gd_ rfl rfl rfl rfl rfl rfl) rfl rfl (p_mv rfl) ?_
    refine wl_g (gd_ rfl rfl rfl rfl rfl rfl) rfl rfl (p_nck rfl) ?_
    refine wl_g (gd_ rfl rfl rfl rfl rfl rfl) rfl rfl (p_fld (j := 1) Tryd.underlying156 rfl ⟨_, by rfl⟩ rfl rfl) ?_
    refine wl_g (gd_ rfl rfl rfl rfl rfl rfl) rfl rfl (p_ixA (j := 1) Tryd.underlying142 sz39 rfl rfl (by omega) (by omega) rfl) ?_
    refine wl_g (gd_ rfl rfl rfl rfl rfl rfl) rfl rfl (p_ld Tryd.underlying39 rfl rfl (ld (cell_at (p := ([i64 (b : Int), ndp x.adr] : List Value)) (v := (ndp y.adr : Value)) (r := (((List.map u8v x.er.key) ++ ((List.map u8v zeroH) ++ ([i64 ((x.er.cnt + y.er.cnt : Nat) : Int), .int .u32 (d0 : Int), .int .i32 ((0 : Nat) : Int), .int .u32 0] ++ (List.map u8v h0)))) : List Value)) hb0 (by simp only [List.append_assoc, List.cons_append, List.nil_append, List.append_nil]) (by first | rfl | (simp only [List.length_append, List.length_map, List.length_cons, List.length_nil]; done) | (simp only [List.length_append, List.length_map, List.length_cons, List.length_nil, List.size_toArray]; done))))) ?_
    refine wl_g (gd_ rfl rfl rfl rfl rfl rfl) rfl rfl (p_mv rfl) ?_
    refine wle_g (gd_ rfl rfl rfl rfl rfl rfl) (e_call ent98 rfl rfl (IHy (pre := (pre ++ x.er.items)) (fun xs A h => (hX xs A h).2.2) hJ hJx (fun p x1 q h => by have h2 := hD (x.er.items ++ p) x1 q (by show x.er.items ++ y.er.items = _; rw [h]; simp); rwa [← List.append_assoc] at h2) hY hJp) ?_)
    rintro _ w4 (⟨rfl, hJp⟩ | ⟨rfl, q, hJq⟩)
    ·
      refine ⟨_, rfl, ?_⟩
      obtain ⟨⟨hb256, hcn0, hk0, d0, h0, ⟨hh0, hO0⟩, hb0⟩, hXx, hXy⟩ := id (hX _ _ hJp)
      have hb0 : Blk w4 g0 156 (([i64 (b : Int), ndp x.adr, ndp y.adr] ++ ((List.map u8v x.er.key) ++ ((List.map u8v zeroH) ++ ([i64 ((x.er.cnt + y.er.cnt : Nat) : Int), .int .u32 (d0 : Int), .int .i32 ((0 : Nat) : Int), .int .u32 0] ++ (List.map u8v h0))))) : List Value).toArray := hb0
      refine wl rfl rfl rfl (p_pickT rfl rfl) ?_
      refine wl rfl rfl rfl (p_as rfl) ?_
      refine wl_nil ?_
      refine x_seq ?_
      refine wc_ret ?_
      refine fin_run ((res1 rfl rfl)) ?_
      exact .inl ⟨rfl, by show J (pre ++ (x.er.items ++ y.er.items)) _; rw [← List.append_assoc]; exact hJp⟩
    ·
      refine ⟨_, rfl, ?_⟩
      refine wl rfl rfl rfl (p_pickT rfl rfl) ?_
      refine wl rfl rfl rfl (p_as rfl) ?_
      refine wl_nil ?_
      refine x_seq ?_
      refine wc_ret ?_
      refine fin_run ((res1 rfl rfl)) ?_
      exact .inr ⟨rfl, q, hJq⟩
  ·
    refine ⟨_, rfl, ?_⟩
    refine wl rfl rfl rfl (p_mv rfl) ?_
    refine wl_s (gd_ rfl rfl rfl rfl rfl rfl) rfl rfl ?_
    refine wl_s (gd_ rfl rfl rfl rfl rfl rfl) rfl rfl ?_
    refine wl_s (gd_ rfl rfl rfl rfl rfl rfl) rfl rfl ?_
    refine wl_s (gd_ rfl rfl rfl rfl rfl rfl) rfl rfl ?_
    refine wl_s (gd_ rfl rfl rfl rfl rfl rfl) rfl rfl ?_
    refine wl_s (gd_ rfl rfl rfl rfl rfl rfl) rfl rfl ?_
    refine wl_s (gd_ rfl rfl rfl rfl rfl rfl) rfl rfl ?_
    refine wl rfl rfl rfl (p_pickF rfl rfl) ?_
    refine wl rfl rfl rfl (p_as rfl) ?_
    refine wl_nil ?_
    refine x_seq ?_
    refine wc_ret ?_
    refine fin_run ((res1 rfl rfl)) ?_
    exact .inr ⟨rfl, q, hJq⟩

theorem each_any : ∀ t : LT, EachOK t
  | .leaf g k v => fun hX hJ hJx hD hY hJ0 => each_leaf hX hJ hJx hD hY hJ0
  | .fork g b x y => fun hX hJ hJx hD hY hJ0 => each_fork (each_any x) (each_any y) hX hJ hJx hD hY hJ0

set_option maxHeartbeats 1000000 in
set_option maxRecDepth 20000 in
theorem each_nil {w : World} {yl : Nat}  :
    Calls Tryd.prog 98 #[.pointer none, .func (.yield yl) #[] #[]] w fun e w' => e = .returned (.bool true) ∧ Ch No w w' := by
  have HC : Ch No w w := Ch.refl _ _
  refine enter' (args := [.pointer none, .func (.yield yl) #[] #[]]) (n := 38) Tryd.func98 rfl rfl rfl ?_
  refine wc_seq ?_
  refine wc_region ?_
  refine wl rfl rfl rfl (p_as rfl) ?_
  refine wl_nil ?_
  refine x_seq ?_
  refine wc_seq ?_
  refine wc_seq ?_
  refine wc_region ?_
  refine wl rfl rfl rfl (p_mv rfl) ?_
  refine wl rfl rfl rfl (p_eqPN rfl rfl Tryd.underlying39) ?_
  refine wl_nil ?_
  refine x_seq ?_
  refine wc_yes rfl (rfl) ?_
  refine wc_seq ?_
  refine wc_region ?_
  refine wl rfl rfl rfl (p_as rfl) ?_
  refine wl_nil ?_
  refine x_seq ?_
  refine wc_ret ?_
  refine x_then_ret ?_
  refine fin_run ((res1 rfl rfl)) ?_
  exact ⟨rfl, HC⟩

set_option maxHeartbeats 1000000 in
set_option maxRecDepth 20000 in
theorem alls_some {w : World} {m yl gB g : Nat} {t : LT} {J Jx : List (List UInt8 × List UInt8) → World → Prop} (hX : ∀ xs A, J xs A → Blk A gB 25 #[ndp g] ∧ Blk A g 41 [ndp t.adr, .bool true].toArray ∧ LAt 156 A t) (hJ : ∀ xs A B, J xs A → Ch No A B → J xs B) (hJx : ∀ xs A B, Jx xs A → Ch No A B → Jx xs B) (hY : ∀ pre x Wq, (fun (pre : List (List UInt8 × List UInt8)) (x : List UInt8 × List UInt8) => ∃ q, t.er.items = pre ++ x :: q) pre x → J pre Wq → YieldAt Fence.wide m Tryd.prog yl ((fun x : List UInt8 × List UInt8 => #[hv x.1, hv x.2]) x) Wq fun ed W' => (ed = .returned (.bool true) ∧ J (pre ++ [x]) W') ∨ (ed = .returned (.bool false) ∧ Jx (pre ++ [x]) W')) (hJ0 : J [] w) :
    Calls Tryd.prog 97 #[.func (.yield yl) #[] #[], .pointer (some ⟨gB, 0, none⟩)] w fun e w' => e = .returned (.tuple #[]) ∧ ((∃ xs, xs = t.er.items ∧ J xs w') ∨ ∃ xs, True ∧ Jx xs w') := by
  have hJp := hJ0
  obtain ⟨hBn, hbg, hXt⟩ := hX _ _ hJ0
  have HC : Ch No w w := Ch.refl _ _
  refine enter' (args := [.func (.yield yl) #[] #[], .pointer (some ⟨gB, 0, none⟩)]) (n := 11) Tryd.func97 rfl rfl rfl ?_
  refine wc_seq ?_
  refine wc_region ?_
  refine wl rfl rfl rfl (p_ld Tryd.underlying25 rfl rfl (ld (hBn.cell rfl))) ?_
  refine wle rfl (e_call ent81 rfl rfl (is_made (o := some t) hbg) ?_)
  rintro _ w1 ⟨rfl, hc⟩
  refine ⟨_, rfl, ?_⟩
  have hzw1 := hc.size
  have hJp := hJ _ _ _ hJp hc
  have hBn := hBn.ch hc (fun h => h)
  have hbg := hbg.ch hc (fun h => h)
  refine wl_nil ?_
  refine x_seq ?_
  refine wc_yes rfl (rfl) ?_
  refine wc_region ?_
  refine wl rfl rfl rfl (p_ld Tryd.underlying25 rfl rfl (ld (hBn.cell rfl))) ?_
  refine wl rfl rfl rfl (p_nck rfl) ?_
  refine wl rfl rfl rfl (p_fld (j := 0) Tryd.underlying41 rfl ⟨_, by rfl⟩ rfl rfl) ?_
  refine wl rfl rfl rfl (p_ld Tryd.underlying39 rfl rfl (ld (cell_at (p := []) (v := (ndp t.adr : Value)) (r := ([.bool true] : List Value)) hbg (by simp only [List.append_assoc, List.cons_append, List.nil_append, List.append_nil]) (by first | rfl | (simp only [List.length_append, List.length_map, List.length_cons, List.length_nil]; done) | (simp only [List.length_append, List.length_map, List.length_cons, List.length_nil, List.size_toArray]; done))))) ?_
  refine wl rfl rfl rfl (p_mv rfl) ?_
  refine wle rfl (e_call ent98 rfl rfl (each_any t (pre := []) (fun xs A h => (hX xs A h).2.2) hJ hJx (fun p x q h => ⟨q, h⟩) hY hJp) ?_)
  rintro _ w2 (⟨rfl, hJp⟩ | ⟨rfl, q, hJq⟩)
  ·
    refine ⟨_, rfl, ?_⟩
    refine wl_nil ?_
    refine fin_run_n ((res0 rfl)) ?_
    exact ⟨rfl, .inl ⟨_, rfl, hJp⟩⟩
  ·
    refine ⟨_, rfl, ?_⟩
    refine wl_nil ?_
    refine fin_run_n ((res0 rfl)) ?_
    exact ⟨rfl, .inr ⟨_, trivial, hJq⟩⟩

set_option maxHeartbeats 1000000 in
set_option maxRecDepth 20000 in
theorem alls_none {w : World} {m yl gB g : Nat} {J Jx : List (List UInt8 × List UInt8) → World → Prop} (hX : ∀ xs A, J xs A → Blk A gB 25 #[ndp g] ∧ Blk A g 41 [.pointer none, .bool true].toArray) (hJ : ∀ xs A B, J xs A → Ch No A B → J xs B) (hJx : ∀ xs A B, Jx xs A → Ch No A B → Jx xs B) (hJ0 : J [] w) :
    Calls Tryd.prog 97 #[.func (.yield yl) #[] #[], .pointer (some ⟨gB, 0, none⟩)] w fun e w' => e = .returned (.tuple #[]) ∧ ((∃ xs, xs = ([] : List (List UInt8 × List UInt8)) ∧ J xs w') ∨ ∃ xs, True ∧ Jx xs w') := by
  have hJp := hJ0
  obtain ⟨hBn, hbg⟩ := hX _ _ hJ0
  have HC : Ch No w w := Ch.refl _ _
  refine enter' (args := [.func (.yield yl) #[] #[], .pointer (some ⟨gB, 0, none⟩)]) (n := 11) Tryd.func97 rfl rfl rfl ?_
  refine wc_seq ?_
  refine wc_region ?_
  refine wl rfl rfl rfl (p_ld Tryd.underlying25 rfl rfl (ld (hBn.cell rfl))) ?_
  refine wle rfl (e_call ent81 rfl rfl (is_made (o := none) hbg) ?_)
  rintro _ w1 ⟨rfl, hc⟩
  refine ⟨_, rfl, ?_⟩
  have hzw1 := hc.size
  have hJp := hJ _ _ _ hJp hc
  have hBn := hBn.ch hc (fun h => h)
  have hbg := hbg.ch hc (fun h => h)
  refine wl_nil ?_
  refine x_seq ?_
  refine wc_yes rfl (rfl) ?_
  refine wc_region ?_
  refine wl rfl rfl rfl (p_ld Tryd.underlying25 rfl rfl (ld (hBn.cell rfl))) ?_
  refine wl rfl rfl rfl (p_nck rfl) ?_
  refine wl rfl rfl rfl (p_fld (j := 0) Tryd.underlying41 rfl ⟨_, by rfl⟩ rfl rfl) ?_
  refine wl rfl rfl rfl (p_ld Tryd.underlying39 rfl rfl (ld (cell_at (p := []) (v := (.pointer none : Value)) (r := ([.bool true] : List Value)) hbg (by simp only [List.append_assoc, List.cons_append, List.nil_append, List.append_nil]) (by first | rfl | (simp only [List.length_append, List.length_map, List.length_cons, List.length_nil]; done) | (simp only [List.length_append, List.length_map, List.length_cons, List.length_nil, List.size_toArray]; done))))) ?_
  refine wl rfl rfl rfl (p_mv rfl) ?_
  refine wle rfl (e_call ent98 rfl rfl (each_nil) ?_)
  rintro _ w2 ⟨rfl, hc⟩
  refine ⟨_, rfl, ?_⟩
  have hzw2 := hc.size
  have hJp := hJ _ _ _ hJp hc
  have hBn := hBn.ch hc (fun h => h)
  have hbg := hbg.ch hc (fun h => h)
  refine wl_nil ?_
  refine fin_run_n ((res0 rfl)) ?_
  exact ⟨rfl, .inl ⟨_, rfl, hJp⟩⟩

set_option maxHeartbeats 1000000 in
set_option maxRecDepth 20000 in
theorem all_ptr {w : World} {g : Nat}  :
    Calls Tryd.prog 69 #[ndp g] w fun e w' => ∃ g1, e = .returned (.func (.func 97) #[] #[.pointer (some ⟨g1, 0, none⟩)]) ∧ w.heap.size ≤ g1 ∧ Blk w' g1 25 #[ndp g] ∧ Ch No w w' := by
  have HC : Ch No w w := Ch.refl _ _
  refine enter' (args := [ndp g]) (n := 4) Tryd.func69 rfl rfl rfl ?_
  refine wc_seq ?_
  refine wc_region ?_
  refine wle rfl (e_box (cs := #[_]) rfl rfl rfl (fun w1 g1 hg1 hb1 hc hsz1 => ?_))
  have hzw1 := hc.size
  have HC := HC.tr hc
  have hge1 : w.heap.size ≤ g1 := by have := HC.size; omega
  refine wl rfl rfl rfl (p_as rfl) ?_
  refine wl_nil ?_
  refine x_seq ?_
  refine wc_seq ?_
  refine wc_region ?_
  refine wl rfl rfl rfl (p_mkf rfl) ?_
  refine wl rfl rfl rfl (p_as rfl) ?_
  refine wl_nil ?_
  refine x_seq ?_
  refine wc_ret ?_
  refine fin_run ((res1 rfl rfl)) ?_
  exact ⟨g1, rfl, hge1, hb1, HC⟩

theorem bitN_any {w : World} {k : List UInt8} {n : Nat} (hk : k.length = 32) : Calls Tryd.prog 38 #[hv k, i64 (n : Int)] w fun e w' => e = .returned (i64 (bitN k n : Int)) ∧ Ch No w w' := (bit_any hk).mono fun e w' ⟨h1, h2⟩ => ⟨by rw [h1, bitI_nat], h2⟩

theorem fork_bits {b : Nat} {x y : Tr} (h : (Tr.fork b x y).WF) {i : Nat} {d : H8 × H8} (hi : i < (Tr.fork b x y).items.length) : bitN ((Tr.fork b x y).items.getD i d).1 b = 0 ↔ i < x.cnt := by
  obtain ⟨_, _, _, _, _, h0, h1, _⟩ := h
  have hx := Tr.items_cnt x
  rw [show (Tr.fork b x y).items = x.items ++ y.items from rfl] at hi ⊢
  rcases Nat.lt_or_ge i x.cnt with hl | hl
  · have hm : (x.items ++ y.items).getD i d ∈ x.items := by
      rw [show (x.items ++ y.items).getD i d = x.items.getD i d by simp [List.getD, List.getElem?_append_left (show i < x.items.length by omega)]]
      exact getD_mem (by omega)
    exact ⟨fun _ => hl, fun _ => h0 _ hm⟩
  · have hm : (x.items ++ y.items).getD i d ∈ y.items := by
      rw [show (x.items ++ y.items).getD i d = y.items.getD (i - x.items.length) d by simp [List.getD, List.getElem?_append_right (show x.items.length ≤ i by omega)]]
      exact getD_mem (by rw [List.length_append] at hi; omega)
    have := h1 _ hm
    exact ⟨fun e => by omega, fun e => by omega⟩

set_option maxHeartbeats 1000000 in
set_option maxRecDepth 20000 in
theorem cutc_any {w : World} {g4 b : Nat} {ek ev : List UInt8} (hek : ek.length = 32) (hev : ev.length = 32) (hb4 : Blk w g4 3 #[i64 (b : Int)]) :
    Calls Tryd.prog 116 #[.agg ((List.map u8v ek ++ List.map u8v ev) : List Value).toArray, i64 1, .pointer (some ⟨g4, 0, none⟩)] w fun e w' => e = .returned (i64 ((bitN ek b : Int) - 1)) ∧ Ch No w w' := by
  have hltg4 := hb4.lt
  have hbl := bitN_lt ek b
  have HC : Ch No w w := Ch.refl _ _
  refine enter' (args := [_, i64 1, .pointer (some ⟨g4, 0, none⟩)]) (n := 12) Tryd.func116 rfl rfl rfl ?_
  refine wc_seq ?_
  refine wc_region ?_
  have hltg4 := hb4.lt
  refine wle rfl (e_box (cs := (((List.map u8v ek) ++ (List.map u8v ev)) : List Value).toArray) rfl rfl rfl (fun w1 g3 hg3 hb3 hc hsz3 => ?_))
  have hzw1 := hc.size
  have HC := HC.tr hc
  have hb4 := hb4.ch hc (fun h => h)
  have hge3 : w.heap.size ≤ g3 := by have := HC.size; omega
  have neg4_3 : g4 < g3 := by omega
  refine wl rfl rfl rfl (p_as rfl) ?_
  refine wl_nil ?_
  refine x_seq ?_
  refine wc_seq ?_
  refine wc_region ?_
  refine wl rfl rfl rfl (p_fld (j := 0) Tryd.underlying174 rfl ⟨_, by rfl⟩ rfl rfl) ?_
  refine wl rfl rfl rfl (p_ldA (cs := (List.map u8v ek)) Tryd.underlying38 rfl (szL sz38 (by first | rfl | (simp only [List.length_append, List.length_map, List.length_cons, List.length_nil, (show List.length ek = 32 from hek)]; done) | (simp only [List.length_append, List.length_map, List.length_cons, List.length_nil, List.size_toArray, (show List.length ek = 32 from hek)]; done))) rfl (fun _ e => e ▸ rng_at (p := []) (q := ((List.map u8v ek) : List Value)) (r := ((List.map u8v ev) : List Value)) hb3 (by simp only [List.append_assoc, List.cons_append, List.nil_append, List.append_nil]) (by first | rfl | (simp only [List.length_append, List.length_map, List.length_cons, List.length_nil]; done) | (simp only [List.length_append, List.length_map, List.length_cons, List.length_nil, List.size_toArray]; done)))) ?_
  refine wl rfl rfl rfl (p_ld Tryd.underlying3 rfl rfl (ld (hb4.cell rfl))) ?_
  refine wle rfl (e_call ent38 rfl rfl (bitN_any (n := b) (hek)) ?_)
  rintro _ w2 ⟨rfl, hc⟩
  refine ⟨_, rfl, ?_⟩
  have hzw2 := hc.size
  have HC := HC.tr hc
  have hb4 := hb4.ch hc (fun h => h)
  have hb3 := hb3.ch hc (fun h => h)
  refine wl rfl rfl rfl (p_mv rfl) ?_
  refine wl rfl rfl rfl (p_sub rfl rfl (w64 (by omega))) ?_
  refine wl rfl rfl rfl (p_as rfl) ?_
  refine wl_nil ?_
  refine x_seq ?_
  refine wc_ret ?_
  refine fin_run ((res1 rfl rfl)) ?_
  exact ⟨rfl, HC⟩

set_option maxHeartbeats 1000000 in
set_option maxRecDepth 20000 in
theorem bsf_any {w : World} {g4 b n : Nat} {Am : Option Addr} {lm cm : Nat} {Fm : Nat → Prop} {m : List (H8 × H8)} (hm : SI w Fm eIT Am lm cm m) (hb4 : Blk w g4 3 #[i64 (b : Int)]) (hz : ∀ h, h < lm → (bitN (m.getD h (zeroH, zeroH)).1 b = 0 ↔ h < n)) (hn : n ≤ lm) (hl : lm ≤ 1000000) :
    Calls Tryd.prog 115 #[.slice Am lm cm, i64 1, .func (.func 116) #[] #[.pointer (some ⟨g4, 0, none⟩)]] w fun e w' => ∃ ok, e = .returned (.tuple #[i64 (n : Int), .bool ok]) ∧ Ch No w w' := by
  have hltg4 := hb4.lt
  have hm := hm.old
  have HC : Ch No w w := Ch.refl _ _
  refine enter' (args := [.slice Am lm cm, i64 1, .func (.func 116) #[] #[.pointer (some ⟨g4, 0, none⟩)]]) (n := 49) Tryd.func115 rfl rfl rfl ?_
  refine wc_seq ?_
  refine wc_region ?_
  refine wl rfl rfl rfl (p_as rfl) ?_
  refine wl rfl rfl rfl (p_as rfl) ?_
  refine wl_nil ?_
  refine x_seq ?_
  refine wc_seq ?_
  refine wc_region ?_
  refine wl rfl rfl rfl (p_mv rfl) ?_
  refine wl rfl rfl rfl (p_lenS Tryd.underlying118 rfl) ?_
  refine wl rfl rfl rfl (p_as rfl) ?_
  refine wl_nil ?_
  refine x_seq ?_
  refine wc_seq ?_
  refine wc_region ?_
  refine wl rfl rfl rfl (p_mv rfl) ?_
  refine wl rfl rfl rfl (p_as rfl) ?_
  refine wl rfl rfl rfl (p_as rfl) ?_
  refine wl_nil ?_
  refine x_seq ?_
  refine wc_seq ?_
  refine wc_block ?_
  refine wc_loop (e' := [(0, .slice Am lm cm), (1, i64 1), (2, .func (.func 116) #[] #[.pointer (some ⟨g4, 0, none⟩)]), (8, i64 (lm : Int)), (9, i64 ((0) : Int)), (10, i64 ((lm) : Int))]) (fun mz ez uz => ∃ i : Nat, ∃ j : Nat, mz = j - i ∧ ez = [(0, .slice Am lm cm), (1, i64 1), (2, .func (.func 116) #[] #[.pointer (some ⟨g4, 0, none⟩)]), (8, i64 (lm : Int)), (9, i64 (i : Int)), (10, i64 (j : Int))] ∧ (i ≤ n) ∧ (n ≤ j) ∧ (j ≤ lm) ∧ (SI uz (fun k => k < w.heap.size) eIT Am lm cm m) ∧ (Blk uz g4 3 #[i64 (b : Int)]) ∧ (g4 < w.heap.size) ∧ (Ch No w uz))
   ⟨rfl, rfl, rfl, rfl, rfl, rfl, trivial⟩ ⟨0, lm, rfl, rfl, (by omega), (by omega), (by omega), hm, hb4, hltg4, HC⟩ ?_
  rintro m0 e w1 ⟨i, j, hm0, rfl, hi, hj, hjl, hm, hb4, hg4w, HC⟩
  have hzw1 := HC.size
  refine wc_seq ?_
  refine wc_seq ?_
  refine wc_region ?_
  refine wl rfl rfl rfl (p_mv rfl) ?_
  refine wl rfl rfl rfl (p_mv rfl) ?_
  refine wl rfl rfl rfl (p_lt rfl rfl) ?_
  refine wl_nil ?_
  refine x_seq ?_
  refine wc_if rfl (fun c0 => ?_) (fun c0 => ?_)
  ·
   have c0 := of_decide_eq_true c0
   refine wc_skip ?_
   refine x_seq ?_
   refine wc_block ?_
   refine wc_seq ?_
   refine wc_region ?_
   refine wl rfl rfl rfl (p_mv rfl) ?_
   refine wl rfl rfl rfl (p_mv rfl) ?_
   refine wl rfl rfl rfl (p_add rfl rfl (w64 (by omega))) ?_
   refine wl rfl rfl rfl (p_conv (Z := ((i + j : Nat) : Int)) Tryd.underlying3 Tryd.underlying74 rfl (by rw [wu64 (by omega)]; omega)) ?_
   refine wl rfl rfl rfl (p_shrN (Y := 1) rfl rfl rfl) ?_
   obtain ⟨h, hh⟩ : ∃ z, z = (i + j) / 2 ^ 1 := ⟨_, rfl⟩
   have hh2 : h = (i + j) / 2 := hh
   refine wl rfl rfl rfl (p_conv (Z := (h : Int)) Tryd.underlying74 Tryd.underlying3 rfl (by rw [← hh]; exact w64 (by omega))) ?_
   refine wl rfl rfl rfl (p_as rfl) ?_
   refine wl_nil ?_
   refine x_seq ?_
   refine wc_seq ?_
   refine wc_region ?_
   refine wl rfl rfl rfl (p_mv rfl) ?_
   refine wl rfl rfl rfl (p_mv rfl) ?_
   refine wl rfl rfl rfl (p_mv rfl) ?_
   obtain ⟨b2, o2, hA2, hF2, hr2⟩ := (hm).opn (i := h) (d := (zeroH, zeroH)) (by omega)
   have hok2 := (hm).okAt (i := h) (d := (zeroH, zeroH)) (by omega)
   obtain ⟨x2, ex2⟩ : ∃ x_, x_ = List.getD m (h) (zeroH, zeroH) := ⟨_, rfl⟩
   rw [← ex2] at hr2 hok2
   obtain ⟨hx2k, hx2v⟩ := hok2
   have hr2 : w1.rangeAt b2 (o2 + h * 64) (((List.map u8v x2.1) ++ (List.map u8v x2.2)) : List Value) := hr2
   refine wl rfl rfl rfl (p_ixS (j := h * 64) Tryd.underlying118 sz174 rfl hA2 rfl (by omega) (by omega) (congrArg (· * 64) (Int.toNat_natCast _))) ?_
   have hq := hz h (by omega)
   rw [← ex2] at hq
   refine wl rfl rfl rfl (p_ldA (cs := (((List.map u8v x2.1) ++ (List.map u8v x2.2)) : List Value)) Tryd.underlying174 rfl (szL sz174 (by first | rfl | (simp only [List.length_append, List.length_map, List.length_cons, List.length_nil, (show List.length x2.1 = 32 from hx2k), (show List.length x2.2 = 32 from hx2v)]; done) | (simp only [List.length_append, List.length_map, List.length_cons, List.length_nil, List.size_toArray, (show List.length x2.1 = 32 from hx2k), (show List.length x2.2 = 32 from hx2v)]; done))) rfl (fun _ e => e ▸ hr2)) ?_
   refine wl rfl rfl rfl (p_mv rfl) ?_
   refine wle rfl (e_callV ent116 rfl rfl rfl (cutc_any (hx2k) (hx2v) hb4) ?_)
   rintro _ w3 ⟨rfl, hc⟩
   refine ⟨_, rfl, ?_⟩
   have hzw3 := hc.size
   have HC := HC.tr hc
   have hm := hm.no hc
   have hb4 := hb4.ch hc (fun h => h)
   refine wl rfl rfl rfl (p_lt rfl rfl) ?_
   refine wl_nil ?_
   refine x_seq ?_
   refine wc_if rfl (fun c1 => ?_) (fun c1 => ?_)
   ·
    have c1 := of_decide_eq_true c1
    refine wc_region ?_
    refine wl rfl rfl rfl (p_mv rfl) ?_
    refine wl rfl rfl rfl (p_add rfl rfl (w64 (by omega))) ?_
    refine wl rfl rfl rfl (p_as rfl) ?_
    refine wl_nil ?_
    refine x_in_normal ?_
    refine x_round (e' := [(0, .slice Am lm cm), (1, i64 1), (2, .func (.func 116) #[] #[.pointer (some ⟨g4, 0, none⟩)]), (8, i64 (lm : Int)), (9, i64 ((h + 1) : Int)), (10, i64 ((j) : Int))]) ⟨rfl, rfl, rfl, rfl, rfl, rfl, trivial⟩ (by rw [hm0]; omega) ⟨h + 1, j, rfl, rfl, (by have h1 := bitN_lt x2.1 b; omega), (by omega), (by omega), hm, hb4, hg4w, HC⟩
   ·
    have c1 := of_decide_eq_false c1
    refine wc_region ?_
    refine wl rfl rfl rfl (p_mv rfl) ?_
    refine wl rfl rfl rfl (p_as rfl) ?_
    refine wl_nil ?_
    refine x_in_normal ?_
    refine x_round (e' := [(0, .slice Am lm cm), (1, i64 1), (2, .func (.func 116) #[] #[.pointer (some ⟨g4, 0, none⟩)]), (8, i64 (lm : Int)), (9, i64 ((i) : Int)), (10, i64 ((h) : Int))]) ⟨rfl, rfl, rfl, rfl, rfl, rfl, trivial⟩ (by rw [hm0]; omega) ⟨i, h, rfl, rfl, (by have h1 := bitN_lt x2.1 b; omega), (by omega), (by omega), hm, hb4, hg4w, HC⟩
  ·
   have c0 := of_decide_eq_false c0
   refine wc_exit ?_
   refine x_then_exit ?_
   refine x_then_exit ?_
   refine x_in_here ?_
   refine x_seq ?_
   refine wc_seq ?_
   refine wc_region ?_
   refine wl rfl rfl rfl (p_mv rfl) ?_
   refine wl rfl rfl rfl (p_mv rfl) ?_
   refine wl rfl rfl rfl (p_mv rfl) ?_
   refine wl rfl rfl rfl (p_lt rfl rfl) ?_
   refine wl rfl rfl rfl (p_mv rfl) ?_
   refine wl_split (d := 39) rfl (fun q39 => ?_) (fun q39 => ?_)
   ·
    have q39 := of_decide_eq_true q39
    refine wl_g (gd_ rfl rfl rfl rfl rfl rfl) rfl rfl (p_mv rfl) ?_
    refine wl_g (gd_ rfl rfl rfl rfl rfl rfl) rfl rfl (p_mv rfl) ?_
    refine wl_g (gd_ rfl rfl rfl rfl rfl rfl) rfl rfl (p_mv rfl) ?_
    obtain ⟨b4, o4, hA4, hF4, hr4⟩ := (hm).opn (i := i) (d := (zeroH, zeroH)) (by omega)
    have hok4 := (hm).okAt (i := i) (d := (zeroH, zeroH)) (by omega)
    obtain ⟨x4, ex4⟩ : ∃ x_, x_ = List.getD m (i) (zeroH, zeroH) := ⟨_, rfl⟩
    rw [← ex4] at hr4 hok4
    obtain ⟨hx4k, hx4v⟩ := hok4
    have hr4 : w1.rangeAt b4 (o4 + i * 64) (((List.map u8v x4.1) ++ (List.map u8v x4.2)) : List Value) := hr4
    refine wl_g (gd_ rfl rfl rfl rfl rfl rfl) rfl rfl (p_ixS (j := i * 64) Tryd.underlying118 sz174 rfl hA4 rfl (by omega) (by omega) (congrArg (· * 64) (Int.toNat_natCast _))) ?_
    refine wl_g (gd_ rfl rfl rfl rfl rfl rfl) rfl rfl (p_ldA (cs := (((List.map u8v x4.1) ++ (List.map u8v x4.2)) : List Value)) Tryd.underlying174 rfl (szL sz174 (by first | rfl | (simp only [List.length_append, List.length_map, List.length_cons, List.length_nil, (show List.length x4.1 = 32 from hx4k), (show List.length x4.2 = 32 from hx4v)]; done) | (simp only [List.length_append, List.length_map, List.length_cons, List.length_nil, List.size_toArray, (show List.length x4.1 = 32 from hx4k), (show List.length x4.2 = 32 from hx4v)]; done))) rfl (fun _ e => e ▸ hr4)) ?_
    refine wl_g (gd_ rfl rfl rfl rfl rfl rfl) rfl rfl (p_mv rfl) ?_
    refine wle_g (gd_ rfl rfl rfl rfl rfl rfl) (e_callV ent116 rfl rfl rfl (cutc_any (hx4k) (hx4v) hb4) ?_)
    rintro _ w5 ⟨rfl, hc⟩
    refine ⟨_, rfl, ?_⟩
    have hzw5 := hc.size
    have HC := HC.tr hc
    have hm := hm.no hc
    have hb4 := hb4.ch hc (fun h => h)
    refine wl_g (gd_ rfl rfl rfl rfl rfl rfl) rfl rfl (p_eq rfl rfl) ?_
    refine wl rfl rfl rfl (p_pickT rfl rfl) ?_
    refine wl rfl rfl rfl (p_as rfl) ?_
    refine wl rfl rfl rfl (p_as rfl) ?_
    refine wl_nil ?_
    refine x_seq ?_
    refine wc_ret ?_
    refine fin_run ((res2 rfl rfl rfl)) ?_
    obtain rfl : i = n := by omega
    exact ⟨_, rfl, HC⟩
   ·
    have q39 := of_decide_eq_false q39
    refine wl_s (gd_ rfl rfl rfl rfl rfl rfl) rfl rfl ?_
    refine wl_s (gd_ rfl rfl rfl rfl rfl rfl) rfl rfl ?_
    refine wl_s (gd_ rfl rfl rfl rfl rfl rfl) rfl rfl ?_
    refine wl_s (gd_ rfl rfl rfl rfl rfl rfl) rfl rfl ?_
    refine wl_s (gd_ rfl rfl rfl rfl rfl rfl) rfl rfl ?_
    refine wl_s (gd_ rfl rfl rfl rfl rfl rfl) rfl rfl ?_
    refine wl_s (gd_ rfl rfl rfl rfl rfl rfl) rfl rfl ?_
    refine wl_s (gd_ rfl rfl rfl rfl rfl rfl) rfl rfl ?_
    refine wl rfl rfl rfl (p_pickF rfl rfl) ?_
    refine wl rfl rfl rfl (p_as rfl) ?_
    refine wl rfl rfl rfl (p_as rfl) ?_
    refine wl_nil ?_
    refine x_seq ?_
    refine wc_ret ?_
    refine fin_run ((res2 rfl rfl rfl)) ?_
    obtain rfl : i = n := by omega
    exact ⟨_, rfl, HC⟩

set_option maxHeartbeats 1000000 in
set_option maxRecDepth 20000 in
theorem mcut_any {w : World}  {Am : Option Addr} {lm cm : Nat} {Fm : Nat → Prop} {b : Nat} {x y : Tr} (hm : SI w Fm eIT Am lm cm (Tr.items (.fork b x y))) (hw : (Tr.fork b x y).WF) (hl : lm ≤ 1000000) :
    Calls Tryd.prog 100 #[.slice Am lm cm] w fun e w' => e = .returned (.tuple #[i64 (b : Int), i64 (x.cnt : Int)]) ∧ Ch No w w' := by
  have hml := hm.len
  obtain ⟨hc1, hc2, hc3⟩ := cut_fork hw
  have px := Tr.cnt_pos x
  have py := Tr.cnt_pos y
  have hm := hm.old
  have HC : Ch No w w := Ch.refl _ _
  refine enter' (args := [.slice Am lm cm]) (n := 27) Tryd.func100 rfl rfl rfl ?_
  refine wc_seq ?_
  refine wc_region ?_
  refine wl rfl rfl rfl (p_as rfl) ?_
  refine wl rfl rfl rfl (p_as rfl) ?_
  refine wl_nil ?_
  refine x_seq ?_
  refine wc_seq ?_
  refine wc_draw (.st 0 0 (.st 1 0 (.st 2 0 (.st 3 1 (.st 4 0 (.st 5 0 (.st 6 0 (.st 7 0 (.st 8 0 (.st 9 0 (.st 10 1 (.alt (.st 11 2 (.st 12 2 (.st 13 3 .nil))) (.st 12 2 (.st 11 2 (.st 13 3 .nil))))))))))))))) 13 (by kernel_rfl) (by kernel_rfl) (by kernel_rfl) (by repeat (first | with_reducible exact pan_body | with_reducible apply pan_then | with_reducible apply pan_in)) (fun x => Ch No w.drew x) (Ch.refl _ _) ?_
  obtain ⟨w1, ew1⟩ : ∃ x, x = w.drew := ⟨_, rfl⟩
  rw [← ew1]
  have hc : Ch No w w1 := by rw [ew1]; exact Ch.drew _
  have hszw1 : w1.heap.size = w.heap.size := by rw [ew1]; rfl
  clear ew1
  have hzw1 := hc.size
  have HC := HC.tr hc
  have hm := hm.no hc
  have hS : Ch No w1 w1 := Ch.refl _ _
  refine ws_p rfl rfl rfl rfl (p_mv rfl) ?_
  obtain ⟨b2, o2, hA2, hF2, hr2⟩ := (hm).opn (i := 0) (d := (zeroH, zeroH)) (by omega)
  have hok2 := (hm).okAt (i := 0) (d := (zeroH, zeroH)) (by omega)
  obtain ⟨x2, ex2⟩ : ∃ x_, x_ = List.getD (Tr.items (.fork b x y)) (0) (zeroH, zeroH) := ⟨_, rfl⟩
  rw [← ex2] at hr2 hok2
  obtain ⟨hx2k, hx2v⟩ := hok2
  have hr2 : w1.rangeAt b2 (o2 + 0 * 64) (((List.map u8v x2.1) ++ (List.map u8v x2.2)) : List Value) := hr2
  refine ws_p rfl rfl rfl rfl (p_ixS (j := 0 * 64) Tryd.underlying118 sz174 rfl hA2 rfl (by omega) (by omega) rfl) ?_
  refine ws_p rfl rfl rfl rfl (p_fld (j := 0) Tryd.underlying174 rfl ⟨_, by rfl⟩ rfl rfl) ?_
  refine ws_h rfl rfl rfl rfl (p_ldA (cs := (List.map u8v x2.1)) Tryd.underlying38 rfl (szL sz38 (by first | rfl | (simp only [List.length_append, List.length_map, List.length_cons, List.length_nil, (show List.length x2.1 = 32 from hx2k)]; done) | (simp only [List.length_append, List.length_map, List.length_cons, List.length_nil, List.size_toArray, (show List.length x2.1 = 32 from hx2k)]; done))) rfl (fun _ h => rng_sub (q := (List.map u8v x2.1)) (p := []) (r := ((List.map u8v x2.2) : List Value)) (rng_no hr2 h) (by first | rfl | simp only [List.append_assoc, List.cons_append, List.nil_append, List.append_nil]) rfl)) ?_
  refine ws_p rfl rfl rfl rfl (p_mv rfl) ?_
  refine ws_p rfl rfl rfl rfl (p_mv rfl) ?_
  refine ws_p rfl rfl rfl rfl (p_lenS Tryd.underlying118 rfl) ?_
  refine ws_p rfl rfl rfl rfl (p_sub (Z := ((lm - 1 : Nat) : Int)) rfl rfl (by rw [w64 (by omega)]; omega)) ?_
  obtain ⟨b3, o3, hA3, hF3, hr3⟩ := (hm).opn (i := (lm - 1)) (d := (zeroH, zeroH)) (by omega)
  have hok3 := (hm).okAt (i := (lm - 1)) (d := (zeroH, zeroH)) (by omega)
  obtain ⟨x3, ex3⟩ : ∃ x_, x_ = List.getD (Tr.items (.fork b x y)) ((lm - 1)) (zeroH, zeroH) := ⟨_, rfl⟩
  rw [← ex3] at hr3 hok3
  obtain ⟨hx3k, hx3v⟩ := hok3
  have hr3 : w1.rangeAt b3 (o3 + ((lm - 1)) * 64) (((List.map u8v x3.1) ++ (List.map u8v x3.2)) : List Value) := hr3
  refine ws_p rfl rfl rfl rfl (p_ixS (j := ((lm - 1)) * 64) Tryd.underlying118 sz174 rfl hA3 rfl (by omega) (by omega) (congrArg (· * 64) (Int.toNat_natCast _))) ?_
  refine ws_p rfl rfl rfl rfl (p_fld (j := 0) Tryd.underlying174 rfl ⟨_, by rfl⟩ rfl rfl) ?_
  refine ws_h rfl rfl rfl rfl (p_ldA (cs := (List.map u8v x3.1)) Tryd.underlying38 rfl (szL sz38 (by first | rfl | (simp only [List.length_append, List.length_map, List.length_cons, List.length_nil, (show List.length x3.1 = 32 from hx3k)]; done) | (simp only [List.length_append, List.length_map, List.length_cons, List.length_nil, List.size_toArray, (show List.length x3.1 = 32 from hx3k)]; done))) rfl (fun _ h => rng_sub (q := (List.map u8v x3.1)) (p := []) (r := ((List.map u8v x3.2) : List Value)) (rng_no hr3 h) (by first | rfl | simp only [List.append_assoc, List.cons_append, List.nil_append, List.append_nil]) rfl)) ?_
  refine ws_alt ?_ ?_
  ·
   have hci : apartK x2.1 x3.1 = b := by rw [← hc1]; unfold cutI; rw [hml, ex2, ex3]
   refine ws_e rfl rfl (e_call ent36 rfl rfl (apart_any (hx2k) (hx3k)) ?_)
   rintro _ w4 ⟨rfl, hc⟩
   refine ⟨_, rfl, hc, ?_⟩
   have hzw4 := hc.size
   have HC := HC.tr hc
   have hm := hm.no hc
   refine ws_narrow (S' := fun x => Ch No w4 x) (Ch.refl _ _) (fun x h => hc.tr h) ?_
   refine ws_e rfl rfl (e_alloc (cs := #[.int .i64 0]) rfl (by rfl) rfl (fun w5 g4 hg4 hb4 hc hsz4 => ⟨hc, ?_⟩))
   have hzw5 := hc.size
   have HC := HC.tr hc
   have hm := hm.no hc
   have hge4 : w.heap.size ≤ g4 := by have := HC.size; omega
   refine ws_narrow (S' := fun x => Ch No w5 x) (Ch.refl _ _) (fun x h => hc.tr h) ?_
   refine ws_l rfl rfl (e_st1 (by rfl) rfl rfl rfl hb4 (fun w6 hb4 hc hsz => ?_))
   have hzw6 := hc.size
   have HC := HC.trans hc (fun _ _ h => h) (fun k hk ht => absurd ht (by omega))
   have hm := hm.ch hc (by intro k hk ht; omega)
   refine ws_n ?_
   refine x_seq ?_
   refine wc_seq ?_
   refine wc_region ?_
   rw [hci] at hb4
   refine wl rfl rfl rfl (p_mv rfl) ?_
   refine wl rfl rfl rfl (p_mkf rfl) ?_
   refine wle rfl (e_call ent115 rfl rfl (bsf_any (b := b) (n := x.cnt) (hm) hb4 (fun h hh => fork_bits hw (by omega)) (by omega) (by omega)) ?_)
   rintro _ w7 ⟨ok22, rfl, hc⟩
   refine ⟨_, rfl, ?_⟩
   have hzw7 := hc.size
   have HC := HC.tr hc
   have hm := hm.no hc
   have hb4 := hb4.ch hc (fun h => h)
   refine wl rfl rfl rfl (p_mv rfl) ?_
   refine wl rfl rfl rfl (p_ext rfl rfl) ?_
   refine wl rfl rfl rfl (p_ext rfl rfl) ?_
   refine wl rfl rfl rfl (p_as rfl) ?_
   refine wl rfl rfl rfl (p_as rfl) ?_
   refine wl_nil ?_
   refine x_seq ?_
   refine wc_seq ?_
   refine wc_region ?_
   refine wl rfl rfl rfl (p_ld Tryd.underlying3 rfl rfl (ld (hb4.cell rfl))) ?_
   refine wl rfl rfl rfl (p_mv rfl) ?_
   refine wl rfl rfl rfl (p_as rfl) ?_
   refine wl rfl rfl rfl (p_as rfl) ?_
   refine wl_nil ?_
   refine x_seq ?_
   refine wc_ret ?_
   refine fin_run ((res2 rfl rfl rfl)) ?_
   exact ⟨rfl, HC⟩
  ·
   refine ws_e rfl rfl (e_alloc (cs := #[.int .i64 0]) rfl (by rfl) rfl (fun w8 g4 hg4 hb4 hc hsz4 => ⟨hc, ?_⟩))
   have hzw8 := hc.size
   have HC := HC.tr hc
   have hm := hm.no hc
   have hge4 : w.heap.size ≤ g4 := by have := HC.size; omega
   refine ws_narrow (S' := fun x => Ch No w8 x) (Ch.refl _ _) (fun x h => hc.tr h) ?_
   have hci : apartK x2.1 x3.1 = b := by rw [← hc1]; unfold cutI; rw [hml, ex2, ex3]
   refine ws_e rfl rfl (e_call ent36 rfl rfl (apart_any (hx2k) (hx3k)) ?_)
   rintro _ w9 ⟨rfl, hc⟩
   refine ⟨_, rfl, hc, ?_⟩
   have hzw9 := hc.size
   have HC := HC.tr hc
   have hm := hm.no hc
   have hb4 := hb4.ch hc (fun h => h)
   refine ws_narrow (S' := fun x => Ch No w9 x) (Ch.refl _ _) (fun x h => hc.tr h) ?_
   refine ws_l rfl rfl (e_st1 (by rfl) rfl rfl rfl hb4 (fun w10 hb4 hc hsz => ?_))
   have hzw10 := hc.size
   have HC := HC.trans hc (fun _ _ h => h) (fun k hk ht => absurd ht (by omega))
   have hm := hm.ch hc (by intro k hk ht; omega)
   refine ws_n ?_
   refine x_seq ?_
   refine wc_seq ?_
   refine wc_region ?_
   rw [hci] at hb4
   refine wl rfl rfl rfl (p_mv rfl) ?_
   refine wl rfl rfl rfl (p_mkf rfl) ?_
   refine wle rfl (e_call ent115 rfl rfl (bsf_any (b := b) (n := x.cnt) (hm) hb4 (fun h hh => fork_bits hw (by omega)) (by omega) (by omega)) ?_)
   rintro _ w11 ⟨ok22, rfl, hc⟩
   refine ⟨_, rfl, ?_⟩
   have hzw11 := hc.size
   have HC := HC.tr hc
   have hm := hm.no hc
   have hb4 := hb4.ch hc (fun h => h)
   refine wl rfl rfl rfl (p_mv rfl) ?_
   refine wl rfl rfl rfl (p_ext rfl rfl) ?_
   refine wl rfl rfl rfl (p_ext rfl rfl) ?_
   refine wl rfl rfl rfl (p_as rfl) ?_
   refine wl rfl rfl rfl (p_as rfl) ?_
   refine wl_nil ?_
   refine x_seq ?_
   refine wc_seq ?_
   refine wc_region ?_
   refine wl rfl rfl rfl (p_ld Tryd.underlying3 rfl rfl (ld (hb4.cell rfl))) ?_
   refine wl rfl rfl rfl (p_mv rfl) ?_
   refine wl rfl rfl rfl (p_as rfl) ?_
   refine wl rfl rfl rfl (p_as rfl) ?_
   refine wl_nil ?_
   refine x_seq ?_
   refine wc_ret ?_
   refine fin_run ((res2 rfl rfl rfl)) ?_
   exact ⟨rfl, HC⟩

def MRootOK (t : Tr) : Prop := ∀ {w : World} {Am : Option Addr} {lm cm : Nat} {Fm : Nat → Prop}, SI w Fm eIT Am lm cm t.items → t.WF → lm ≤ 1000000 → Sl w (fun k => k = 0) u32v (some ⟨0, 0, none⟩) 64 64 rk → Calls Tryd.prog 99 #[.slice Am lm cm] w fun e w' => e = .returned (hv t.root) ∧ Ch No w w'

set_option maxHeartbeats 1000000 in
set_option maxRecDepth 20000 in
theorem mroot_leaf {w : World} {Am : Option Addr} {cm : Nat} {Fm : Nat → Prop} {k : List UInt8} {u : List UInt8} (hm : SI w Fm eIT Am 1 cm (Tr.items (.leaf k u))) (hrnd : Sl w (fun k => k = 0) u32v (some ⟨0, 0, none⟩) 64 64 rk) :
    Calls Tryd.prog 99 #[.slice Am 1 cm] w fun e w' => e = .returned (hv (itemH k u)) ∧ Ch No w w' := by
  have hn0 : 0 < w.heap.size := hrnd.size (by omega) rfl
  have hn1 := hn0
  have hm := hm.old
  have HC : Ch No w w := Ch.refl _ _
  refine enter' (args := [.slice Am 1 cm]) (n := 32) Tryd.func99 rfl rfl rfl ?_
  refine wc_seq ?_
  refine wc_region ?_
  refine wle rfl (e_alloc (cs := ((List.replicate 32 (0 : UInt8)).map u8v).toArray) rfl (by rfl) rfl (fun w1 g2 hg2 hb2 hc hsz2 => ?_))
  have hzw1 := hc.size
  have HC := HC.tr hc
  have hm := hm.no hc
  have hrnd := hrnd.no hc
  have hge2 : w.heap.size ≤ g2 := by have := HC.size; omega
  refine wl_nil ?_
  refine x_seq ?_
  refine wc_seq ?_
  refine wc_seq ?_
  refine wc_region ?_
  refine wl rfl rfl rfl (p_mv rfl) ?_
  refine wl rfl rfl rfl (p_lenS Tryd.underlying118 rfl) ?_
  refine wl rfl rfl rfl (p_eq rfl rfl) ?_
  refine wl_nil ?_
  refine x_seq ?_
  refine wc_yes rfl (rfl) ?_
  refine wc_seq ?_
  refine wc_draw (.st 0 0 (.st 1 0 (.st 2 0 (.st 3 1 (.st 4 0 (.st 5 0 (.st 6 0 (.st 7 1 (.st 8 2 (.st 9 3 .nil)))))))))) 9 (by kernel_rfl) (by kernel_rfl) (by kernel_rfl) (by repeat (first | with_reducible exact pan_body | with_reducible apply pan_then | with_reducible apply pan_in)) (fun x => Ch No w1.drew x) (Ch.refl _ _) ?_
  obtain ⟨w2, ew2⟩ : ∃ x, x = w1.drew := ⟨_, rfl⟩
  rw [← ew2]
  have hc : Ch No w1 w2 := by rw [ew2]; exact Ch.drew _
  have hszw2 : w2.heap.size = w1.heap.size := by rw [ew2]; rfl
  clear ew2
  have hzw2 := hc.size
  have HC := HC.tr hc
  have hm := hm.no hc
  have hrnd := hrnd.no hc
  have hb2 := hb2.ch hc (fun h => h)
  have hS : Ch No w2 w2 := Ch.refl _ _
  refine ws_p rfl rfl rfl rfl (p_mv rfl) ?_
  obtain ⟨b3, o3, hA3, hF3, hr3⟩ := (hm).opn (i := 0) (d := (zeroH, zeroH)) (by omega)
  have hok3 := (hm).okAt (i := 0) (d := (zeroH, zeroH)) (by omega)
  obtain ⟨x3, ex3⟩ : ∃ x_, x_ = List.getD (Tr.items (.leaf k u)) (0) (zeroH, zeroH) := ⟨_, rfl⟩
  rw [← ex3] at hr3 hok3
  obtain ⟨hx3k, hx3v⟩ := hok3
  have hr3 : w2.rangeAt b3 (o3 + 0 * 64) (((List.map u8v x3.1) ++ (List.map u8v x3.2)) : List Value) := hr3
  refine ws_p rfl rfl rfl rfl (p_ixS (j := 0 * 64) Tryd.underlying118 sz174 rfl hA3 rfl (by omega) (by omega) rfl) ?_
  have hkx : x3 = (k, u) := ex3
  refine ws_p rfl rfl rfl rfl (p_fld (j := 0) Tryd.underlying174 rfl ⟨_, by rfl⟩ rfl rfl) ?_
  refine ws_h rfl rfl rfl rfl (p_ldA (cs := (List.map u8v x3.1)) Tryd.underlying38 rfl (szL sz38 (by first | rfl | (simp only [List.length_append, List.length_map, List.length_cons, List.length_nil, (show List.length x3.1 = 32 from hx3k)]; done) | (simp only [List.length_append, List.length_map, List.length_cons, List.length_nil, List.size_toArray, (show List.length x3.1 = 32 from hx3k)]; done))) rfl (fun _ h => rng_sub (q := (List.map u8v x3.1)) (p := []) (r := ((List.map u8v x3.2) : List Value)) (rng_no hr3 h) (by first | rfl | simp only [List.append_assoc, List.cons_append, List.nil_append, List.append_nil]) rfl)) ?_
  refine ws_p rfl rfl rfl rfl (p_mv rfl) ?_
  obtain ⟨b4, o4, hA4, hF4, hr4⟩ := (hm).opn (i := 0) (d := (zeroH, zeroH)) (by omega)
  have hok4 := (hm).okAt (i := 0) (d := (zeroH, zeroH)) (by omega)
  obtain ⟨x4, ex4⟩ : ∃ x_, x_ = List.getD (Tr.items (.leaf k u)) (0) (zeroH, zeroH) := ⟨_, rfl⟩
  rw [← ex4] at hr4 hok4
  obtain ⟨hx4k, hx4v⟩ := hok4
  have hr4 : w2.rangeAt b4 (o4 + 0 * 64) (((List.map u8v x4.1) ++ (List.map u8v x4.2)) : List Value) := hr4
  refine ws_p rfl rfl rfl rfl (p_ixS (j := 0 * 64) Tryd.underlying118 sz174 rfl hA4 rfl (by omega) (by omega) rfl) ?_
  have hky : x4 = (k, u) := ex4
  refine ws_p rfl rfl rfl rfl (p_fld (j := 32) Tryd.underlying174 rfl ⟨_, by rfl⟩ rfl rfl) ?_
  refine ws_h rfl rfl rfl rfl (p_ldA (cs := (List.map u8v x4.2)) Tryd.underlying38 rfl (szL sz38 (by first | rfl | (simp only [List.length_append, List.length_map, List.length_cons, List.length_nil, (show List.length x4.2 = 32 from hx4v)]; done) | (simp only [List.length_append, List.length_map, List.length_cons, List.length_nil, List.size_toArray, (show List.length x4.2 = 32 from hx4v)]; done))) rfl (fun _ h => rng_sub (q := (List.map u8v x4.2)) (p := ((List.map u8v x4.1) : List Value)) (r := []) (rng_no hr4 h) (by first | rfl | simp only [List.append_assoc, List.cons_append, List.nil_append, List.append_nil]) (by first | rfl | (simp only [List.length_append, List.length_map, List.length_cons, List.length_nil, (show List.length x4.1 = 32 from hx4k)]; done) | (simp only [List.length_append, List.length_map, List.length_cons, List.length_nil, List.size_toArray, (show List.length x4.1 = 32 from hx4k)]; done)))) ?_
  refine ws_e rfl rfl (e_call ent74 rfl rfl (titem_any (hx3k) (hx4v) hrnd) ?_)
  rintro _ w5 ⟨rfl, hc⟩
  refine ⟨_, rfl, hc, ?_⟩
  have hzw5 := hc.size
  have HC := HC.tr hc
  have hm := hm.no hc
  have hrnd := hrnd.no hc
  have hb2 := hb2.ch hc (fun h => h)
  refine ws_narrow (S' := fun x => Ch No w5 x) (Ch.refl _ _) (fun x h => hc.tr h) ?_
  refine ws_l rfl rfl (e_stH sz38 (List.length_replicate ..) (itemH_len _ _ ) rfl rfl hb2 (fun w6 hb2 hc hsz => ?_))
  have hzw6 := hc.size
  have HC := HC.trans hc (fun _ _ h => h) (fun k hk ht => absurd ht (by omega))
  have hm := hm.ch hc (by intro k hk ht; omega)
  first | have hrnd := hrnd.ch hc (by intro k hk ht; omega) | have hrnd := hrnd.chT hc (by intro k hz hk ht; omega)
  refine ws_n ?_
  refine x_seq ?_
  refine wc_ret ?_
  refine x_then_ret ?_
  refine fin_run (resC (cs := List.map u8v (itemH x3.1 x4.2)) rfl rfl Tryd.underlying38 rfl (szL sz38 (by rw [List.length_map]; exact (itemH_len _ _ ))) (rngL hb2)) ?_
  rw [hkx, hky]; exact ⟨rfl, HC⟩

set_option maxHeartbeats 1000000 in
set_option maxRecDepth 20000 in
theorem mroot_fork {w : World}  {Am : Option Addr} {lm cm : Nat} {Fm : Nat → Prop} {b : Nat} {x y : Tr} (IHx : MRootOK x) (IHy : MRootOK y) (hm : SI w Fm eIT Am lm cm (Tr.items (.fork b x y))) (hw : (Tr.fork b x y).WF) (hl : lm ≤ 1000000) (hrnd : Sl w (fun k => k = 0) u32v (some ⟨0, 0, none⟩) 64 64 rk) :
    Calls Tryd.prog 99 #[.slice Am lm cm] w fun e w' => e = .returned (hv (Tr.fork b x y).root) ∧ Ch No w w' := by
  have hn0 : 0 < w.heap.size := hrnd.size (by omega) rfl
  have hn1 := hn0
  have hml := hm.len
  obtain ⟨hc1, hc2, hc3⟩ := cut_fork hw
  have px := Tr.cnt_pos x
  have py := Tr.cnt_pos y
  have hm := hm.old
  have HC : Ch No w w := Ch.refl _ _
  refine enter' (args := [.slice Am lm cm]) (n := 32) Tryd.func99 rfl rfl rfl ?_
  refine wc_seq ?_
  refine wc_region ?_
  refine wle rfl (e_alloc (cs := ((List.replicate 32 (0 : UInt8)).map u8v).toArray) rfl (by rfl) rfl (fun w1 g2 hg2 hb2 hc hsz2 => ?_))
  have hzw1 := hc.size
  have HC := HC.tr hc
  have hm := hm.no hc
  have hrnd := hrnd.no hc
  have hge2 : w.heap.size ≤ g2 := by have := HC.size; omega
  refine wl_nil ?_
  refine x_seq ?_
  refine wc_seq ?_
  refine wc_seq ?_
  refine wc_region ?_
  refine wl rfl rfl rfl (p_mv rfl) ?_
  refine wl rfl rfl rfl (p_lenS Tryd.underlying118 rfl) ?_
  refine wl rfl rfl rfl (p_eq rfl rfl) ?_
  refine wl_nil ?_
  refine x_seq ?_
  refine wc_no rfl (decide_eq_false (by omega)) ?_
  refine wc_skip ?_
  refine x_seq ?_
  refine wc_seq ?_
  refine wc_region ?_
  refine wl rfl rfl rfl (p_mv rfl) ?_
  refine wle rfl (e_call ent100 rfl rfl (mcut_any (hm) hw (by omega)) ?_)
  rintro _ w2 ⟨rfl, hc⟩
  refine ⟨_, rfl, ?_⟩
  have hzw2 := hc.size
  have HC := HC.tr hc
  have hm := hm.no hc
  have hrnd := hrnd.no hc
  have hb2 := hb2.ch hc (fun h => h)
  refine wl rfl rfl rfl (p_mv rfl) ?_
  refine wl rfl rfl rfl (p_ext rfl rfl) ?_
  refine wl rfl rfl rfl (p_ext rfl rfl) ?_
  refine wl rfl rfl rfl (p_as rfl) ?_
  refine wl rfl rfl rfl (p_as rfl) ?_
  refine wl_nil ?_
  refine x_seq ?_
  refine wc_seq ?_
  refine wc_draw (.st 0 0 (.st 1 0 (.st 2 0 (.st 3 0 (.st 5 0 (.st 6 0 (.st 7 0 (.st 4 2 (.st 8 2 (.st 9 2 (.st 10 3 .nil))))))))))) 10 (by kernel_rfl) (by kernel_rfl) (by kernel_rfl) (by repeat (first | with_reducible exact pan_body | with_reducible apply pan_then | with_reducible apply pan_in)) (fun x => Ch No w2.drew x) (Ch.refl _ _) ?_
  obtain ⟨w3, ew3⟩ : ∃ x, x = w2.drew := ⟨_, rfl⟩
  rw [← ew3]
  have hc : Ch No w2 w3 := by rw [ew3]; exact Ch.drew _
  have hszw3 : w3.heap.size = w2.heap.size := by rw [ew3]; rfl
  clear ew3
  have hzw3 := hc.size
  have HC := HC.tr hc
  have hm := hm.no hc
  have hrnd := hrnd.no hc
  have hb2 := hb2.ch hc (fun h => h)
  have hS : Ch No w3 w3 := Ch.refl _ _
  refine ws_p rfl rfl rfl rfl (p_mv rfl) ?_
  refine ws_p rfl rfl rfl rfl (p_mv rfl) ?_
  refine ws_p rfl rfl rfl rfl (p_mv rfl) ?_
  have hS25 : SI w3 (fun k => k < w.heap.size) eIT (cutA Am cm 0 64) x.cnt (cm - 0) (Tr.items x) := by have h := hm.cut (lo := 0) (hi := x.cnt) (q := x.cnt) (by omega) (by omega) (by omega); rw [List.drop_zero, fork_take] at h; exact h
  refine ws_p rfl rfl rfl rfl (p_slS (l := 0) (h := x.cnt) Tryd.underlying118 sz174 rfl rfl ⟨_, rfl⟩ (by omega) (by have := hm.cap; omega) hm.cap (q := x.cnt) (by omega)) ?_
  refine ws_p rfl rfl rfl rfl (p_mv rfl) ?_
  refine ws_p rfl rfl rfl rfl (p_mv rfl) ?_
  have hS29 : SI w3 (fun k => k < w.heap.size) eIT (cutA Am cm x.cnt 64) (lm - x.cnt) (cm - x.cnt) (Tr.items y) := by have h := hm.cutTo (lo := x.cnt) (by omega); rw [fork_drop] at h; exact h
  refine ws_p rfl rfl rfl rfl (p_slS (l := x.cnt) (h := lm) Tryd.underlying118 sz174 rfl ⟨_, rfl⟩ rfl (by omega) (by have := hm.cap; omega) hm.cap (q := lm - x.cnt) (by omega)) ?_
  refine ws_e rfl rfl (e_call ent99 rfl rfl (IHx hS25 hw.2.1 (by omega) hrnd) ?_)
  rintro _ w4 ⟨rfl, hc⟩
  refine ⟨_, rfl, hc, ?_⟩
  have hzw4 := hc.size
  have HC := HC.tr hc
  have hm := hm.no hc
  have hrnd := hrnd.no hc
  have hb2 := hb2.ch hc (fun h => h)
  have hS25 := hS25.no hc
  have hS29 := hS29.no hc
  refine ws_narrow (S' := fun x => Ch No w4 x) (Ch.refl _ _) (fun x h => hc.tr h) ?_
  refine ws_e rfl rfl (e_call ent99 rfl rfl (IHy hS29 hw.2.2.1 (by omega) hrnd) ?_)
  rintro _ w5 ⟨rfl, hc⟩
  refine ⟨_, rfl, hc, ?_⟩
  have hzw5 := hc.size
  have HC := HC.tr hc
  have hm := hm.no hc
  have hrnd := hrnd.no hc
  have hb2 := hb2.ch hc (fun h => h)
  have hS25 := hS25.no hc
  have hS29 := hS29.no hc
  refine ws_narrow (S' := fun x => Ch No w5 x) (Ch.refl _ _) (fun x h => hc.tr h) ?_
  refine ws_e rfl rfl (e_call ent76 rfl rfl (tfork_any (Tr.root_len) (Tr.root_len) hrnd) ?_)
  rintro _ w6 ⟨rfl, hc⟩
  refine ⟨_, rfl, hc, ?_⟩
  have hzw6 := hc.size
  have HC := HC.tr hc
  have hm := hm.no hc
  have hrnd := hrnd.no hc
  have hb2 := hb2.ch hc (fun h => h)
  have hS25 := hS25.no hc
  have hS29 := hS29.no hc
  refine ws_narrow (S' := fun x => Ch No w6 x) (Ch.refl _ _) (fun x h => hc.tr h) ?_
  refine ws_l rfl rfl (e_stH sz38 (List.length_replicate ..) (forkH_len _ _ _ ) rfl rfl hb2 (fun w7 hb2 hc hsz => ?_))
  have hzw7 := hc.size
  have HC := HC.trans hc (fun _ _ h => h) (fun k hk ht => absurd ht (by omega))
  have hm := hm.ch hc (by intro k hk ht; omega)
  first | have hrnd := hrnd.ch hc (by intro k hk ht; omega) | have hrnd := hrnd.chT hc (by intro k hz hk ht; omega)
  first | have hS25 := hS25.ch hc (by intro k hk ht; omega) | have hS25 := hS25.chT hc (by intro k hz hk ht; omega)
  first | have hS29 := hS29.ch hc (by intro k hk ht; omega) | have hS29 := hS29.chT hc (by intro k hz hk ht; omega)
  refine ws_n ?_
  refine x_seq ?_
  refine wc_ret ?_
  refine fin_run (resC (cs := List.map u8v (forkH (b8i ((b : Int))) (Tr.root x) (Tr.root y))) rfl rfl Tryd.underlying38 rfl (szL sz38 (by rw [List.length_map]; exact (forkH_len _ _ _ ))) (rngL hb2)) ?_
  exact ⟨rfl, HC⟩

theorem mroot_any : ∀ t : Tr, MRootOK t
  | .leaf k v => fun hm hw hl hr => by have e := hm.len; simp [Tr.items] at e; subst e; exact mroot_leaf hm hr
  | .fork b x y => fun hm hw hl hr => mroot_fork (mroot_any x) (mroot_any y) hm hw hl hr

set_option maxHeartbeats 1000000 in
set_option maxRecDepth 20000 in
theorem made27_any {w : World}  {Al : Option Addr} {ll cl : Nat} {Fl : Nat → Prop} {l : List (H8 × H8)} (hin : SI w Fl eIT Al ll cl l) (hll : ll ≤ 1000) :
    Calls Tryd.prog 21 #[.slice Al ll cl] w fun e w' => ∃ v o A lm cm, e = .returned (.tuple #[v, .slice A lm cm]) ∧ TR 41 156 (fun k => w.heap.size ≤ k) w' v o ∧ eo o = mkT l ∧ RI w' (fun k => w.heap.size ≤ k) 81 eIT A lm cm (itemsT (mkT l)) ∧ Ch No w w' := by
  have hinl := hin.len
  have hok := hin.ok
  have hin := hin.old
  have HC : Ch No w w := Ch.refl _ _
  refine enter' (args := [.slice Al ll cl]) (n := 30) Tryd.func21 rfl rfl rfl ?_
  refine wc_seq ?_
  refine wc_region ?_
  refine wl rfl rfl rfl (p_as rfl) ?_
  refine wl rfl rfl rfl (p_as rfl) ?_
  refine wl_nil ?_
  refine x_seq ?_
  refine wc_seq ?_
  refine wc_region ?_
  refine wle rfl (e_call ent51 rfl rfl (new_any) ?_)
  rintro _ w1 ⟨v8, rfl, hV8, hc⟩
  refine ⟨_, rfl, ?_⟩
  have hzw1 := hc.size
  have HC := HC.tr hc
  have hin := hin.no hc
  have hV8 := hV8.mono (G := fun k => w.heap.size ≤ k ∧ k < w1.heap.size) (fun k h1 h2 => ⟨h2, h1⟩)
  refine wl rfl rfl rfl (p_as rfl) ?_
  refine wl_nil ?_
  refine x_seq ?_
  refine wc_seq ?_
  refine wc_region ?_
  refine wl rfl rfl rfl (p_as rfl) ?_
  refine wl_nil ?_
  refine x_seq ?_
  refine wc_seq ?_
  refine wc_seq ?_
  refine wc_region ?_
  refine wl rfl rfl rfl (p_mv rfl) ?_
  refine wl rfl rfl rfl (p_lenS Tryd.underlying22 rfl) ?_
  refine wl rfl rfl rfl (p_mv rfl) ?_
  refine wl_nil ?_
  refine x_seq ?_
  refine wc_block ?_
  refine wc_loop (e' := [(4, (_)), (5, .slice (none) (0) (0)), (9, .slice Al ll cl), (10, i64 (ll : Int)), (11, i64 ((0) : Int))]) (fun mz ez uz => ∃ i : Nat, ∃ v : Value, ∃ o : Option LT, ∃ Am : Option Addr, ∃ lm : Nat, ∃ cm : Nat, mz = ll - i ∧ ez = [(4, v), (5, .slice Am lm cm), (9, .slice Al ll cl), (10, i64 (ll : Int)), (11, i64 (i : Int))] ∧ (i ≤ ll) ∧ (eo o = mkT (l.take i)) ∧ (TR 41 156 (fun k => w.heap.size ≤ k) uz v o) ∧ (RI uz (fun k => w.heap.size ≤ k) 81 eIT Am lm cm (itemsT (mkT (l.take i)))) ∧ (SI uz (fun k => k < w.heap.size) eIT Al ll cl l) ∧ (Ch No w uz))
   ⟨rfl, rfl, rfl, rfl, rfl, trivial⟩ ⟨0, _, _, none, 0, 0, rfl, rfl, (by omega), rfl, (hV8.mono (fun k _ h => by have := h.1; show w.heap.size ≤ k; omega)), RI.nil _ _ _ _, hin, HC⟩ ?_
  rintro m0 e w2 ⟨i, v, o, Am, lm, cm, hm0, rfl, hi, heo, hV, hM, hin, HC⟩
  have hzw2 := HC.size
  have hV := hV.mono (G := fun k => w.heap.size ≤ k ∧ k < w2.heap.size) (fun k h1 h2 => ⟨by first | exact h2 | exact h2.1 | ((try dsimp only at h2); omega), h1⟩)
  have hM := hM.mono (G := fun k => w.heap.size ≤ k ∧ k < w2.heap.size) (fun k h1 h2 => ⟨by first | exact h2 | exact h2.1 | ((try dsimp only at h2); omega), h1⟩)
  refine wc_seq ?_
  refine wc_region ?_
  refine wl rfl rfl rfl (p_lt rfl rfl) ?_
  refine wl_nil ?_
  refine x_seq ?_
  refine wc_seq ?_
  refine wc_if rfl (fun c0 => ?_) (fun c0 => ?_)
  ·
   have c0 := of_decide_eq_true c0
   refine wc_skip ?_
   refine x_seq ?_
   refine wc_seq ?_
   refine wc_block ?_
   refine wc_seq ?_
   refine wc_region ?_
   obtain ⟨b3, o3, hA3, hF3, hr3⟩ := (hin).opn (i := i) (d := (zeroH, zeroH)) (by omega)
   have hok3 := (hin).okAt (i := i) (d := (zeroH, zeroH)) (by omega)
   obtain ⟨x3, ex3⟩ : ∃ x_, x_ = List.getD l (i) (zeroH, zeroH) := ⟨_, rfl⟩
   rw [← ex3] at hr3 hok3
   obtain ⟨hx3k, hx3v⟩ := hok3
   have hr3 : w2.rangeAt b3 (o3 + i * 64) (((List.map u8v x3.1) ++ (List.map u8v x3.2)) : List Value) := hr3
   refine wl rfl rfl rfl (p_ixS (j := i * 64) Tryd.underlying22 sz116 rfl hA3 rfl (by omega) (by omega) (congrArg (· * 64) (Int.toNat_natCast _))) ?_
   have hmk : mkT (l.take (i + 1)) = putT (mkT (l.take i)) x3.1 x3.2 := by rw [ex3]; exact mkT_take (by omega)
   obtain ⟨hwf, hct⟩ := mkT_ok l i hok (by omega)
   have hcnt : cntT (eo o) + 1 ≤ 4611686018427387904 := by rw [heo]; omega
   have hml : lm = cntT (mkT (l.take i)) := by rw [← itemsT_cnt]; exact hM.len.symm
   refine wl rfl rfl rfl (p_ldA (cs := (((List.map u8v x3.1) ++ (List.map u8v x3.2)) : List Value)) Tryd.underlying116 rfl (szL sz116 (by first | rfl | (simp only [List.length_append, List.length_map, List.length_cons, List.length_nil, (show List.length x3.1 = 32 from hx3k), (show List.length x3.2 = 32 from hx3v)]; done) | (simp only [List.length_append, List.length_map, List.length_cons, List.length_nil, List.size_toArray, (show List.length x3.1 = 32 from hx3k), (show List.length x3.2 = 32 from hx3v)]; done))) rfl (fun _ e => e ▸ hr3)) ?_
   refine wle rfl (e_alloc (cs := (((List.map u8v (List.replicate 32 (0 : UInt8))) ++ (List.map u8v (List.replicate 32 (0 : UInt8)))) : List Value).toArray) rfl (by rfl) rfl (fun w4 g7 hg7 hb7 hc hsz7 => ?_))
   have hzw4 := hc.size
   have HC := HC.tr hc
   have hin := hin.no hc
   have hV := hV.ch hc (by first | exact fun _ _ _ h => h | (intro k hk hF ht; have h2 := hF.1; have h3 := hF.2; first | omega | (dsimp only at *; omega)))
   have hM := hM.after hc
   have hge7 : w.heap.size ≤ g7 := by have := HC.size; omega
   refine wle rfl (e_stW (vs := (((List.map u8v x3.1) ++ (List.map u8v x3.2)) : List Value)) (szL sz116 (by first | rfl | (simp only [List.length_append, List.length_map, List.length_cons, List.length_nil, (show List.length x3.1 = 32 from hx3k), (show List.length x3.2 = 32 from hx3v)]; done) | (simp only [List.length_append, List.length_map, List.length_cons, List.length_nil, List.size_toArray, (show List.length x3.1 = 32 from hx3k), (show List.length x3.2 = 32 from hx3v)]; done))) (oneA (oneL one_u8 _) (oneL one_u8 _)) rfl rfl hb7 (by first | rfl | (simp only [List.length_append, List.length_map, List.length_cons, List.length_nil, (show List.length (List.replicate 32 (0 : UInt8)) = 32 from (List.length_replicate ..)), (show List.length (List.replicate 32 (0 : UInt8)) = 32 from (List.length_replicate ..)), (show List.length x3.1 = 32 from hx3k), (show List.length x3.2 = 32 from hx3v)]; done) | (simp only [List.length_append, List.length_map, List.length_cons, List.length_nil, List.size_toArray, (show List.length (List.replicate 32 (0 : UInt8)) = 32 from (List.length_replicate ..)), (show List.length (List.replicate 32 (0 : UInt8)) = 32 from (List.length_replicate ..)), (show List.length x3.1 = 32 from hx3k), (show List.length x3.2 = 32 from hx3v)]; done)) (fun w5 hb7 hc hsz => ?_))
   have hzw5 := hc.size
   have HC := HC.trans hc (fun _ _ h => h) (fun k hk ht => absurd ht (by omega))
   have hin := hin.ch hc (by intro k hk ht; omega)
   have hV := hV.ch hc (by first | exact fun _ _ _ h => h | (intro k hk hF ht; have h2 := hF.1; have h3 := hF.2; first | omega | (dsimp only at *; omega)))
   have hM := hM.ch hc (by intro k hz hk ht; omega)
   refine wl_nil ?_
   refine x_seq ?_
   refine wc_draw (.st 0 0 (.st 1 0 (.st 2 1 (.st 3 0 (.st 4 1 (.st 6 0 (.st 7 0 (.st 8 1 (.st 9 0 (.st 10 1 (.st 5 2 (.st 11 2 (.st 12 0 (.st 13 0 .nil)))))))))))))) 14 (by kernel_rfl) (by kernel_rfl) (by kernel_rfl) (by repeat (first | with_reducible exact pan_body | with_reducible apply pan_then | with_reducible apply pan_in)) (fun x => Ch No w5.drew x) (Ch.refl _ _) ?_
   obtain ⟨w6, ew6⟩ : ∃ x, x = w5.drew := ⟨_, rfl⟩
   rw [← ew6]
   have hc : Ch No w5 w6 := by rw [ew6]; exact Ch.drew _
   have hszw6 : w6.heap.size = w5.heap.size := by rw [ew6]; rfl
   clear ew6
   have hzw6 := hc.size
   have HC := HC.tr hc
   have hin := hin.no hc
   have hV := hV.ch hc (by first | exact fun _ _ _ h => h | (intro k hk hF ht; have h2 := hF.1; have h3 := hF.2; first | omega | (dsimp only at *; omega)))
   have hM := hM.no hc
   have hb7 := hb7.ch hc (fun h => h)
   have hS : Ch No w6 w6 := Ch.refl _ _
   refine ws_p rfl rfl rfl rfl (p_mv rfl) ?_
   refine ws_p rfl rfl rfl rfl (p_fld (j := 0) Tryd.underlying116 rfl ⟨_, by rfl⟩ rfl rfl) ?_
   refine ws_h rfl rfl rfl rfl (p_ldA (cs := (List.map u8v x3.1)) Tryd.underlying38 rfl (szL sz38 (by first | rfl | (simp only [List.length_append, List.length_map, List.length_cons, List.length_nil, (show List.length x3.1 = 32 from hx3k)]; done) | (simp only [List.length_append, List.length_map, List.length_cons, List.length_nil, List.size_toArray, (show List.length x3.1 = 32 from hx3k)]; done))) rfl (fun _ h => rng_at (p := []) (q := ((List.map u8v x3.1) : List Value)) (r := ((List.map u8v x3.2) : List Value)) (hb7.ch h (fun h => h)) (by simp only [List.append_assoc, List.cons_append, List.nil_append, List.append_nil]) (by first | rfl | (simp only [List.length_append, List.length_map, List.length_cons, List.length_nil]; done) | (simp only [List.length_append, List.length_map, List.length_cons, List.length_nil, List.size_toArray]; done)))) ?_
   refine ws_p rfl rfl rfl rfl (p_fld (j := 32) Tryd.underlying116 rfl ⟨_, by rfl⟩ rfl rfl) ?_
   refine ws_h rfl rfl rfl rfl (p_ldA (cs := (List.map u8v x3.2)) Tryd.underlying38 rfl (szL sz38 (by first | rfl | (simp only [List.length_append, List.length_map, List.length_cons, List.length_nil, (show List.length x3.2 = 32 from hx3v)]; done) | (simp only [List.length_append, List.length_map, List.length_cons, List.length_nil, List.size_toArray, (show List.length x3.2 = 32 from hx3v)]; done))) rfl (fun _ h => rng_at (p := ((List.map u8v x3.1) : List Value)) (q := ((List.map u8v x3.2) : List Value)) (r := []) (hb7.ch h (fun h => h)) (by simp only [List.append_assoc, List.cons_append, List.nil_append, List.append_nil]) (by first | rfl | (simp only [List.length_append, List.length_map, List.length_cons, List.length_nil, (show List.length x3.1 = 32 from hx3k)]; done) | (simp only [List.length_append, List.length_map, List.length_cons, List.length_nil, List.size_toArray, (show List.length x3.1 = 32 from hx3k)]; done)))) ?_
   refine ws_p rfl rfl rfl rfl (p_mv rfl) ?_
   refine ws_p rfl rfl rfl rfl (p_fld (j := 0) Tryd.underlying116 rfl ⟨_, by rfl⟩ rfl rfl) ?_
   refine ws_h rfl rfl rfl rfl (p_ldA (cs := (List.map u8v x3.1)) Tryd.underlying38 rfl (szL sz38 (by first | rfl | (simp only [List.length_append, List.length_map, List.length_cons, List.length_nil, (show List.length x3.1 = 32 from hx3k)]; done) | (simp only [List.length_append, List.length_map, List.length_cons, List.length_nil, List.size_toArray, (show List.length x3.1 = 32 from hx3k)]; done))) rfl (fun _ h => rng_at (p := []) (q := ((List.map u8v x3.1) : List Value)) (r := ((List.map u8v x3.2) : List Value)) (hb7.ch h (fun h => h)) (by simp only [List.append_assoc, List.cons_append, List.nil_append, List.append_nil]) (by first | rfl | (simp only [List.length_append, List.length_map, List.length_cons, List.length_nil]; done) | (simp only [List.length_append, List.length_map, List.length_cons, List.length_nil, List.size_toArray]; done)))) ?_
   refine ws_p rfl rfl rfl rfl (p_fld (j := 32) Tryd.underlying116 rfl ⟨_, by rfl⟩ rfl rfl) ?_
   refine ws_h rfl rfl rfl rfl (p_ldA (cs := (List.map u8v x3.2)) Tryd.underlying38 rfl (szL sz38 (by first | rfl | (simp only [List.length_append, List.length_map, List.length_cons, List.length_nil, (show List.length x3.2 = 32 from hx3v)]; done) | (simp only [List.length_append, List.length_map, List.length_cons, List.length_nil, List.size_toArray, (show List.length x3.2 = 32 from hx3v)]; done))) rfl (fun _ h => rng_at (p := ((List.map u8v x3.1) : List Value)) (q := ((List.map u8v x3.2) : List Value)) (r := []) (hb7.ch h (fun h => h)) (by simp only [List.append_assoc, List.cons_append, List.nil_append, List.append_nil]) (by first | rfl | (simp only [List.length_append, List.length_map, List.length_cons, List.length_nil, (show List.length x3.1 = 32 from hx3k)]; done) | (simp only [List.length_append, List.length_map, List.length_cons, List.length_nil, List.size_toArray, (show List.length x3.1 = 32 from hx3k)]; done)))) ?_
   refine ws_e rfl rfl (e_call ent44 rfl rfl (tput_made (F := fun k => w.heap.size ≤ k) (hV.mono (fun k _ h => by first | exact h.1 | (have h2 := h.1; show w.heap.size ≤ k; omega))) (fun j hj => by show w.heap.size ≤ j; omega) (hx3k) (hx3v) (hcnt)) ?_)
   rintro _ w7 ⟨v20, t20, rfl, hV20, heq20, hc⟩
   refine ⟨_, rfl, hc, ?_⟩
   have hzw7 := hc.size
   have HC := HC.tr hc
   have hin := hin.no hc
   have hV := hV.ch hc (by first | exact fun _ _ _ h => h | (intro k hk hF ht; have h2 := hF.1; have h3 := hF.2; first | omega | (dsimp only at *; omega)))
   have hM := hM.after hc
   have hb7 := hb7.ch hc (fun h => h)
   have hV20 := hV20.mono (G := fun k => w.heap.size ≤ k ∧ k < w7.heap.size) (fun k h1 h2 => ⟨by first | exact h2 | exact h2.1 | ((try dsimp only at h2); omega), h1⟩)
   refine ws_narrow (S' := fun x => Ch No w7 x) (Ch.refl _ _) (fun x h => hc.tr h) ?_
   refine ws_e rfl rfl (e_call ent52 rfl rfl (rput_any (hM.si) (hx3k) (hx3v) (by omega)) ?_)
   rintro _ w8 ⟨A26, lm26, cm26, rfl, hM26, hc⟩
   refine ⟨_, rfl, hc, ?_⟩
   have hzw8 := hc.size
   have HC := HC.tr hc
   have hin := hin.no hc
   have hV := hV.ch hc (by first | exact fun _ _ _ h => h | (intro k hk hF ht; have h2 := hF.1; have h3 := hF.2; first | omega | (dsimp only at *; omega)))
   have hM := hM.after hc
   have hb7 := hb7.ch hc (fun h => h)
   have hV20 := hV20.ch hc (by first | exact fun _ _ _ h => h | (intro k hk hF ht; have h2 := hF.1; have h3 := hF.2; first | omega | (dsimp only at *; omega)))
   have hMl26 := hM26.len
   have hM26 := hM26.mono (G := fun k => w7.heap.size ≤ k ∧ k < w8.heap.size) (fun k h1 h2 => ⟨h2, h1⟩)
   refine ws_narrow (S' := fun x => Ch No w8 x) (Ch.refl _ _) (fun x h => hc.tr h) ?_
   refine ws_p rfl rfl rfl rfl (p_as rfl) ?_
   refine ws_p rfl rfl rfl rfl (p_as rfl) ?_
   refine ws_n ?_
   refine x_in_normal ?_
   refine x_seq ?_
   refine wc_region ?_
   refine wl rfl rfl rfl (p_add rfl rfl (w64 (by omega))) ?_
   refine wl rfl rfl rfl (p_mv rfl) ?_
   refine wl_nil ?_
   refine x_round (e' := [(4, (_)), (5, .slice (_) (_) (_)), (9, .slice Al ll cl), (10, i64 (ll : Int)), (11, i64 ((i + 1) : Int))]) ⟨rfl, rfl, rfl, rfl, rfl, trivial⟩ (by rw [hm0]; omega) ⟨i + 1, _, _, _, _, _, rfl, rfl, (by omega), (by rw [hmk, heq20, heo]), (hV20.mono (fun k _ h => h.1)), (by rw [hmk, putT_items hwf (by assumption) (by assumption)]; exact hM26.mono (fun k _ h => by have := h.1; show w.heap.size ≤ k; omega)), hin, HC⟩
  ·
   have c0 := of_decide_eq_false c0
   refine wc_exit ?_
   refine x_then_exit ?_
   refine x_then_exit ?_
   refine x_in_here ?_
   refine x_seq ?_
   refine wc_seq ?_
   refine wc_region ?_
   refine wl rfl rfl rfl (p_mv rfl) ?_
   refine wl rfl rfl rfl (p_mv rfl) ?_
   refine wl rfl rfl rfl (p_as rfl) ?_
   refine wl rfl rfl rfl (p_as rfl) ?_
   refine wl_nil ?_
   refine x_seq ?_
   refine wc_ret ?_
   refine fin_run ((res2 rfl rfl rfl)) ?_
   rw [List.take_of_length_le (by omega)] at heo hM
   exact ⟨v, o, Am, lm, cm, rfl, hV.mono (fun k _ h => h.1), heo, hM.mono (fun k _ h => h.1), HC⟩

set_option maxHeartbeats 1000000 in
set_option maxRecDepth 20000 in
theorem entries_some {w : World} {gB g : Nat} {t : LT} (hBn : Blk w gB 25 #[ndp g]) (hbg : Blk w g 41 [ndp t.adr, .bool true].toArray) (hXt : LAt 156 w t) (hcn : t.er.cnt ≤ 1000) :
    Calls Tryd.prog 68 #[.func (.func 97) #[] #[.pointer (some ⟨gB, 0, none⟩)]] w fun e w' => ∃ A l c, e = .returned (.slice A l c) ∧ RI w' (fun k => w.heap.size ≤ k) 174 eIT A l c t.er.items ∧ Ch No w w' := by
  have hltg := hbg.lt
  have hok := hXt.ok
  have htl := hXt.lt
  have hitl : t.er.items.length ≤ 1000 := by rw [Tr.items_cnt]; exact hcn
  have hltgB := hBn.lt
  have HC : Ch No w w := Ch.refl _ _
  refine enterM (args := [.func (.func 97) #[] #[.pointer (some ⟨gB, 0, none⟩)]]) (n := 16) Tryd.func68 rfl rfl rfl ?_
  refine wc_seq ?_
  refine wc_region ?_
  refine wl rfl rfl rfl (p_as rfl) ?_
  refine wl_nil ?_
  refine x_seq ?_
  refine wc_seq ?_
  refine wc_region ?_
  have hltg := hbg.lt
  have hltgB := hBn.lt
  refine wle rfl (e_alloc (cs := #[.slice none 0 0]) rfl (by rfl) rfl (fun w1 g3 hg3 hb3 hc hsz3 => ?_))
  have hzw1 := hc.size
  have HC := HC.tr hc
  have hbg := hbg.ch hc (fun h => h)
  have hXt := hXt.ch hc (by first | exact fun _ _ h => h | (intro a ha ht; have h2 := htl a ha; first | omega | (dsimp only at *; omega)))
  have hBn := hBn.ch hc (fun h => h)
  have hge3 : w.heap.size ≤ g3 := by have := HC.size; omega
  have neg_3 : g < g3 := by omega
  have negB_3 : gB < g3 := by omega
  refine wl_nil ?_
  refine x_seq ?_
  refine wc_seq ?_
  refine wc_seq ?_
  refine wc_region ?_
  refine wl rfl rfl rfl (p_mv rfl) ?_
  refine wl_nil ?_
  refine x_seq ?_
  refine wc_block ?_
  obtain ⟨n0, hn0⟩ : ∃ z, z = w1.heap.size + 2 := ⟨_, rfl⟩
  have hn0w : w.heap.size + 2 ≤ n0 := by have := HC.size; omega
  have hM : RI w1 (fun k => n0 ≤ k) 174 eIT none 0 0 [] := RI.nil _ _ _ _
  have hltg3 := hb3.lt
  have hltgB := hBn.lt
  have hltg := hbg.lt
  have hz0 := HC.size
  refine wc_rangeS (m := 0) rfl (enters_of Tryd.func97 (by kernel_rfl) rfl) (fun x : List UInt8 × List UInt8 => #[hv x.1, hv x.2]) (fun _ => rfl) (fun (pre : List (H8 × H8)) (x : List UInt8 × List UInt8) => ∃ q, t.er.items = pre ++ x :: q) (fun xs => xs = t.er.items) (fun _ => True) (fun W => Blk W gB 25 #[ndp g] ∧ Blk W g 41 [ndp t.adr, .bool true].toArray ∧ LAt 156 W t) ?hseq (fun xs W => ∃ A : Option Addr, ∃ l : Nat, ∃ c : Nat, (Blk W g3 118 #[.slice A l c]) ∧ (RI W (fun k => n0 ≤ k) 174 eIT A l c xs) ∧ (Blk W gB 25 #[ndp g]) ∧ (Blk W g 41 [ndp t.adr, .bool true].toArray) ∧ (LAt 156 W t) ∧ (Ch No w W)) (fun _ _ _ => False) ?hI ?hIx ?hIl ?hIxl ?hXI ?h0 ?hround ?hdone ?hstop
  case hseq =>
   intro l J Jx W hcW hsW hJ hJx hXJ hY hJ0
   exact (alls_some (fun xs A h => hXJ xs A h) hJ hJx hY hJ0).mono (fun e w' h => ⟨⟨_, h.1⟩, h.2⟩)
  case hI =>
   rintro xs A B ⟨A, l, c, hb3, hM, hBn, hbg, hXt, HC⟩ hc
   have hzB := hc.size
   have HC := HC.tr hc
   have hb3 := hb3.ch hc (fun h => h)
   have hM := hM.no hc
   have hBn := hBn.ch hc (fun h => h)
   have hbg := hbg.ch hc (fun h => h)
   have hXt := hXt.ch hc (by first | exact fun _ _ h => h | (intro a ha ht; have h2 := htl a ha; first | omega | (dsimp only at *; omega)))
   exact ⟨A, l, c, hb3, hM, hBn, hbg, hXt, HC⟩
  case hIx =>
   exact fun _ _ _ _ h _ => h
  case hIl =>
   rintro xs A B ⟨A, l, c, hb3, hM, hBn, hbg, hXt, HC⟩ hc
   have hzB := hc.size
   have HC := HC.trans hc (fun _ _ h => h) (fun k hk ht => absurd ht (by omega))
   have hb3 := hb3.ch hc (by omega)
   have hM := hM.ch hc (by intro k hz hk ht; omega)
   have hBn := hBn.ch hc (by omega)
   have hbg := hbg.ch hc (by omega)
   have hXt := hXt.ch hc (by first | exact fun _ _ h => h | (intro a ha ht; have h2 := htl a ha; first | omega | (dsimp only at *; omega)))
   exact ⟨A, l, c, hb3, hM, hBn, hbg, hXt, HC⟩
  case hIxl =>
   exact fun _ _ _ _ h _ => h
  case hXI =>
   rintro xs W ⟨A, l, c, hb3, hM, hBn, hbg, hXt, HC⟩
   exact ⟨hBn, hbg, hXt⟩
  case h0 =>
   intro W hc hs
   have hzW := hc.size
   have HC := HC.tr hc
   have hb3 := hb3.ch hc (fun h => h)
   have hM := hM.no hc
   have hBn := hBn.ch hc (fun h => h)
   have hbg := hbg.ch hc (fun h => h)
   have hXt := hXt.ch hc (by first | exact fun _ _ h => h | (intro a ha ht; have h2 := htl a ha; first | omega | (dsimp only at *; omega)))
   exact ⟨none, 0, 0, hb3, (hM.mono (fun k _ h => by first | exact h | exact h.1)), hBn, hbg, hXt, HC⟩
  case hround =>
   intro l pre x W hl hD hsz hI a F
   subst hl
   obtain ⟨A, l, c, hb3, hM, hBn, hbg, hXt, HC⟩ := hI
   have hzW := HC.size
   have hD : ∃ q, t.er.items = pre ++ x :: q := hD
   obtain ⟨q, hq⟩ := hD
   obtain ⟨hx1, hx2⟩ := Tr.items_len hok x (by rw [hq]; simp)
   have hMl := hM.len
   have hpl : pre.length + 1 ≤ (t.er.items).length := by rw [hq]; simp; try omega
   refine (?_ : WCi _ _ _ _ _ _ _ _) _ (F.hand2 rfl rfl)
   have hB : Ch (fun k => k ≠ w1.heap.size + 1 ∧ k ≠ w1.heap.size) W W := Ch.refl _ _
   refine wci_seq ?_
   refine wci_region ?_
   have hltg3 := hb3.lt
   have hltgB := hBn.lt
   have hltg := hbg.lt
   refine wlie rfl (by repeat (first | with_reducible exact no_stop | with_reducible exact no_false | with_reducible apply no_then | with_reducible apply no_in)) (e_alloc (cs := ((List.replicate 32 (0 : UInt8)).map u8v).toArray) rfl (by rfl) rfl (fun w2 g4 hg4 hb4 hc hsz4 => ?_))
   have hzw2 := hc.size
   have HC := HC.tr hc
   have hB := hB.tr hc
   have hb3 := hb3.ch hc (fun h => h)
   have hM := hM.after hc
   have hBn := hBn.ch hc (fun h => h)
   have hbg := hbg.ch hc (fun h => h)
   have hXt := hXt.ch hc (by first | exact fun _ _ h => h | (intro a ha ht; have h2 := htl a ha; first | omega | (dsimp only at *; omega)))
   have hge4 : w.heap.size ≤ g4 := by have := HC.size; omega
   have neg3_4 : g3 < g4 := by omega
   have negB_4 : gB < g4 := by omega
   have neg_4 : g < g4 := by omega
   refine wlie rfl (by repeat (first | with_reducible exact no_stop | with_reducible exact no_false | with_reducible apply no_then | with_reducible apply no_in)) (e_stH sz38 (List.length_replicate ..) hx1 rfl rfl hb4 (fun w3 hb4 hc hsz => ?_))
   have hzw3 := hc.size
   have HC := HC.trans hc (fun _ _ h => h) (fun k hk ht => absurd ht (by omega))
   have hB := hB.trans hc (fun _ _ h => h) (fun k hk ht => by first | omega | (dsimp only at *; omega))
   have hb3 := hb3.ch hc (by omega)
   have hM := hM.ch hc (by intro k hz hk ht; omega)
   have hBn := hBn.ch hc (by omega)
   have hbg := hbg.ch hc (by omega)
   have hXt := hXt.ch hc (by first | exact fun _ _ h => h | (intro a ha ht; have h2 := htl a ha; first | omega | (dsimp only at *; omega)))
   refine wli_nil ?_
   refine xi_seq ?_
   refine wci_region ?_
   have hltg3 := hb3.lt
   have hltgB := hBn.lt
   have hltg := hbg.lt
   have hltg4 := hb4.lt
   refine wlie rfl (by repeat (first | with_reducible exact no_stop | with_reducible exact no_false | with_reducible apply no_then | with_reducible apply no_in)) (e_alloc (cs := ((List.replicate 32 (0 : UInt8)).map u8v).toArray) rfl (by rfl) rfl (fun w4 g5 hg5 hb5 hc hsz5 => ?_))
   have hzw4 := hc.size
   have HC := HC.tr hc
   have hB := hB.tr hc
   have hb3 := hb3.ch hc (fun h => h)
   have hM := hM.after hc
   have hBn := hBn.ch hc (fun h => h)
   have hbg := hbg.ch hc (fun h => h)
   have hXt := hXt.ch hc (by first | exact fun _ _ h => h | (intro a ha ht; have h2 := htl a ha; first | omega | (dsimp only at *; omega)))
   have hb4 := hb4.ch hc (fun h => h)
   have hge5 : w.heap.size ≤ g5 := by have := HC.size; omega
   have neg3_5 : g3 < g5 := by omega
   have negB_5 : gB < g5 := by omega
   have neg_5 : g < g5 := by omega
   have neg4_5 : g4 < g5 := by omega
   refine wlie rfl (by repeat (first | with_reducible exact no_stop | with_reducible exact no_false | with_reducible apply no_then | with_reducible apply no_in)) (e_stH sz38 (List.length_replicate ..) hx2 rfl rfl hb5 (fun w5 hb5 hc hsz => ?_))
   have hzw5 := hc.size
   have HC := HC.trans hc (fun _ _ h => h) (fun k hk ht => absurd ht (by omega))
   have hB := hB.trans hc (fun _ _ h => h) (fun k hk ht => by first | omega | (dsimp only at *; omega))
   have hb3 := hb3.ch hc (by omega)
   have hM := hM.ch hc (by intro k hz hk ht; omega)
   have hBn := hBn.ch hc (by omega)
   have hbg := hbg.ch hc (by omega)
   have hXt := hXt.ch hc (by first | exact fun _ _ h => h | (intro a ha ht; have h2 := htl a ha; first | omega | (dsimp only at *; omega)))
   have hb4 := hb4.ch hc (by omega)
   refine wli_nil ?_
   refine xi_asg hB (fun W2 hc hsW => ?_)
   have hzW2 := hc.size
   have HC := HC.trans hc (fun _ _ h => h) (fun k hk ht => absurd ht (by omega))
   have hb3 := hb3.ch hc (by omega)
   have hM := hM.ch hc (by intro k hz hk ht; omega)
   have hBn := hBn.ch hc (by omega)
   have hbg := hbg.ch hc (by omega)
   have hXt := hXt.ch hc (by first | exact fun _ _ h => h | (intro a ha ht; have h2 := htl a ha; first | omega | (dsimp only at *; omega)))
   have hb4 := hb4.ch hc (by omega)
   have hb5 := hb5.ch hc (by omega)
   have hB : Ch (fun k => k ≠ w1.heap.size + 1 ∧ k ≠ w1.heap.size) W2 W2 := Ch.refl _ _
   refine wci_block ?_
   refine wci_region ?_
   refine wli rfl rfl rfl (p_ld Tryd.underlying118 rfl rfl (ld (hb3.cell rfl))) ?_
   refine wli rfl rfl rfl (p_ldH (L := x.1) Tryd.underlying38 sz38 hx1 rfl (fun _ e => e ▸ rngL hb4)) ?_
   refine wli rfl rfl rfl (p_ldH (L := x.2) Tryd.underlying38 sz38 hx2 rfl (fun _ e => e ▸ rngL hb5)) ?_
   refine wli rfl rfl rfl (p_bldX (vs' := [(.agg ((hx x.1) : List Value).toArray), (.agg ((hx x.2) : List Value).toArray)]) (cs := (((List.map u8v x.1) ++ (List.map u8v x.2)) : List Value)) (cs' := (((hx x.1) ++ (hx x.2)) : List Value)) rfl (by simp only [hv, map_hx hx1, map_hx hx2] <;> rfl) (by simp only [hv, map_hx hx1, map_hx hx2] <;> rfl) (fun _ => by kernel_rfl)) ?_
   have hltg3 := hb3.lt
   have hltgB := hBn.lt
   have hltg := hbg.lt
   have hltg4 := hb4.lt
   have hltg5 := hb5.lt
   refine wlie rfl (by repeat (first | with_reducible exact no_stop | with_reducible exact no_false | with_reducible apply no_then | with_reducible apply no_in)) (e_bslX (E := 174) (cs := (((List.map u8v x.1) ++ (List.map u8v x.2)) : List Value)) (cs' := (((hx x.1) ++ (hx x.2)) : List Value)) rfl rfl (by simp only [hv, map_hx hx1, map_hx hx2] <;> rfl) (fun _ => by kernel_rfl) (fun w6 g13 hg13 hb13 hc hsz13 => ?_))
   have hzw6 := hc.size
   have HC := HC.tr hc
   have hB := hB.tr hc
   have hb3 := hb3.ch hc (fun h => h)
   have hM := hM.after hc
   have hBn := hBn.ch hc (fun h => h)
   have hbg := hbg.ch hc (fun h => h)
   have hXt := hXt.ch hc (by first | exact fun _ _ h => h | (intro a ha ht; have h2 := htl a ha; first | omega | (dsimp only at *; omega)))
   have hb4 := hb4.ch hc (fun h => h)
   have hb5 := hb5.ch hc (fun h => h)
   have hge13 : w.heap.size ≤ g13 := by have := HC.size; omega
   have hS13 := SI.oneA (E := eIT) (x := (x.1, x.2)) hb13 rfl ⟨hx1, hx2⟩
   have hltg3 := hb3.lt
   have hltgB := hBn.lt
   have hltg := hbg.lt
   have hltg4 := hb4.lt
   have hltg5 := hb5.lt
   refine wlie rfl (by repeat (first | with_reducible exact no_stop | with_reducible exact no_false | with_reducible apply no_then | with_reducible apply no_in)) (e_appI rfl el118 rfl rfl hM (hS13) (by omega) (by intro k hk; first | omega | (dsimp only at *; omega)) (fun w7 A14 c14 hM hc => ?_))
   have hzw7 := hc.size
   have HC := HC.trans hc (fun _ _ h => h) (fun k hk ht => absurd ht (by omega))
   have hB := hB.trans hc (fun _ _ h => h) (fun k hk ht => by first | omega | (dsimp only at *; omega))
   have hb3 := hb3.ch hc (by omega)
   have hBn := hBn.ch hc (by omega)
   have hbg := hbg.ch hc (by omega)
   have hXt := hXt.ch hc (by first | exact fun _ _ h => h | (intro a ha ht; have h2 := htl a ha; first | omega | (dsimp only at *; omega)))
   have hb4 := hb4.ch hc (by omega)
   have hb5 := hb5.ch hc (by omega)
   first | have hS13 := hS13.ch hc (by intro k hk ht; omega) | have hS13 := hS13.chT hc (by intro k hz hk ht; omega)
   refine wlie rfl (by repeat (first | with_reducible exact no_stop | with_reducible exact no_false | with_reducible apply no_then | with_reducible apply no_in)) (e_st1 (by rfl) rfl rfl rfl hb3 (fun w8 hb3 hc hsz => ?_))
   have hzw8 := hc.size
   have HC := HC.trans hc (fun _ _ h => h) (fun k hk ht => absurd ht (by omega))
   have hB := hB.trans hc (fun _ _ h => h) (fun k hk ht => by first | omega | (dsimp only at *; omega))
   have hM := hM.ch hc (by intro k hz hk ht; omega)
   have hBn := hBn.ch hc (by omega)
   have hbg := hbg.ch hc (by omega)
   have hXt := hXt.ch hc (by first | exact fun _ _ h => h | (intro a ha ht; have h2 := htl a ha; first | omega | (dsimp only at *; omega)))
   have hb4 := hb4.ch hc (by omega)
   have hb5 := hb5.ch hc (by omega)
   first | have hS13 := hS13.ch hc (by intro k hk ht; omega) | have hS13 := hS13.chT hc (by intro k hz hk ht; omega)
   refine wli_nil ?_
   refine x_in_normal ?_
   exact wq_stop ⟨_, _, _, hb3, (hM.mono (fun k _ h => by first | exact h | exact h.1 | exact h.1.1 | exact h.1.1.1 | exact h.1.1.1.1)), hBn, hbg, hXt, HC⟩ hB
  case hdone =>
   rintro xs W a' hS ⟨A, l, c, hb3, hM, hBn, hbg, hXt, HC⟩ hK F'
   refine wqd_ap ?_ F'
   have hzW := HC.size
   refine xd_in_normal ?_
   refine xd_seq ?_
   refine wcd_seq ?_
   refine wcd_region ?_
   refine wld rfl rfl rfl (p_ld Tryd.underlying118 rfl rfl (ld (hb3.cell rfl))) ?_
   refine wld rfl rfl rfl (p_as rfl) ?_
   refine wld_nil ?_
   refine xd_seq ?_
   refine wcd_ret ?_
   refine fin_runM hK (fun w9 hc hsz => ?_)
   have hzw9 := hc.size
   have HC := HC.trans hc (fun _ _ h => h) (fun k hk ht => absurd ht (by omega))
   have hb3 := hb3.ch hc (by omega)
   have hM := hM.ch hc (by intro k hz hk ht; omega)
   have hBn := hBn.ch hc (by omega)
   have hbg := hbg.ch hc (by omega)
   have hXt := hXt.ch hc (by first | exact fun _ _ h => h | (intro a ha ht; have h2 := htl a ha; first | omega | (dsimp only at *; omega)))
   refine ⟨_, (res1 rfl rfl), ?_⟩
   exact ⟨_, _, _, rfl, (hS ▸ hM).mono (fun k _ h => by have h2 : n0 ≤ k := h; show w.heap.size ≤ k; omega), HC⟩
  case hstop =>
   exact fun _ _ _ _ _ h => h.elim

set_option maxHeartbeats 1000000 in
set_option maxRecDepth 20000 in
theorem entries_none {w : World} {gB g : Nat} (hBn : Blk w gB 25 #[ndp g]) (hbg : Blk w g 41 [.pointer none, .bool true].toArray) :
    Calls Tryd.prog 68 #[.func (.func 97) #[] #[.pointer (some ⟨gB, 0, none⟩)]] w fun e w' => ∃ A l c, e = .returned (.slice A l c) ∧ RI w' (fun k => w.heap.size ≤ k) 174 eIT A l c ([] : List (H8 × H8)) ∧ Ch No w w' := by
  have hltg := hbg.lt
  have hltgB := hBn.lt
  have HC : Ch No w w := Ch.refl _ _
  refine enterM (args := [.func (.func 97) #[] #[.pointer (some ⟨gB, 0, none⟩)]]) (n := 16) Tryd.func68 rfl rfl rfl ?_
  refine wc_seq ?_
  refine wc_region ?_
  refine wl rfl rfl rfl (p_as rfl) ?_
  refine wl_nil ?_
  refine x_seq ?_
  refine wc_seq ?_
  refine wc_region ?_
  have hltg := hbg.lt
  have hltgB := hBn.lt
  refine wle rfl (e_alloc (cs := #[.slice none 0 0]) rfl (by rfl) rfl (fun w1 g3 hg3 hb3 hc hsz3 => ?_))
  have hzw1 := hc.size
  have HC := HC.tr hc
  have hbg := hbg.ch hc (fun h => h)
  have hBn := hBn.ch hc (fun h => h)
  have hge3 : w.heap.size ≤ g3 := by have := HC.size; omega
  have neg_3 : g < g3 := by omega
  have negB_3 : gB < g3 := by omega
  refine wl_nil ?_
  refine x_seq ?_
  refine wc_seq ?_
  refine wc_seq ?_
  refine wc_region ?_
  refine wl rfl rfl rfl (p_mv rfl) ?_
  refine wl_nil ?_
  refine x_seq ?_
  refine wc_block ?_
  obtain ⟨n0, hn0⟩ : ∃ z, z = w1.heap.size + 2 := ⟨_, rfl⟩
  have hn0w : w.heap.size + 2 ≤ n0 := by have := HC.size; omega
  have hM : RI w1 (fun k => n0 ≤ k) 174 eIT none 0 0 [] := RI.nil _ _ _ _
  have hltg3 := hb3.lt
  have hltgB := hBn.lt
  have hltg := hbg.lt
  have hz0 := HC.size
  refine wc_rangeS (m := 0) rfl (enters_of Tryd.func97 (by kernel_rfl) rfl) (fun x : List UInt8 × List UInt8 => #[hv x.1, hv x.2]) (fun _ => rfl) (fun (pre : List (H8 × H8)) (x : List UInt8 × List UInt8) => ∃ q, ([] : List (H8 × H8)) = pre ++ x :: q) (fun xs => xs = ([] : List (H8 × H8))) (fun _ => True) (fun W => Blk W gB 25 #[ndp g] ∧ Blk W g 41 [.pointer none, .bool true].toArray) ?hseq (fun xs W => ∃ A : Option Addr, ∃ l : Nat, ∃ c : Nat, (Blk W g3 118 #[.slice A l c]) ∧ (RI W (fun k => n0 ≤ k) 174 eIT A l c xs) ∧ (Blk W gB 25 #[ndp g]) ∧ (Blk W g 41 [.pointer none, .bool true].toArray) ∧ (Ch No w W)) (fun _ _ _ => False) ?hI ?hIx ?hIl ?hIxl ?hXI ?h0 ?hround ?hdone ?hstop
  case hseq =>
   intro l J Jx W hcW hsW hJ hJx hXJ hY hJ0
   exact (alls_none (m := 0) (fun xs A h => hXJ xs A h) hJ hJx hJ0).mono (fun e w' h => ⟨⟨_, h.1⟩, h.2⟩)
  case hI =>
   rintro xs A B ⟨A, l, c, hb3, hM, hBn, hbg, HC⟩ hc
   have hzB := hc.size
   have HC := HC.tr hc
   have hb3 := hb3.ch hc (fun h => h)
   have hM := hM.no hc
   have hBn := hBn.ch hc (fun h => h)
   have hbg := hbg.ch hc (fun h => h)
   exact ⟨A, l, c, hb3, hM, hBn, hbg, HC⟩
  case hIx =>
   exact fun _ _ _ _ h _ => h
  case hIl =>
   rintro xs A B ⟨A, l, c, hb3, hM, hBn, hbg, HC⟩ hc
   have hzB := hc.size
   have HC := HC.trans hc (fun _ _ h => h) (fun k hk ht => absurd ht (by omega))
   have hb3 := hb3.ch hc (by omega)
   have hM := hM.ch hc (by intro k hz hk ht; omega)
   have hBn := hBn.ch hc (by omega)
   have hbg := hbg.ch hc (by omega)
   exact ⟨A, l, c, hb3, hM, hBn, hbg, HC⟩
  case hIxl =>
   exact fun _ _ _ _ h _ => h
  case hXI =>
   rintro xs W ⟨A, l, c, hb3, hM, hBn, hbg, HC⟩
   exact ⟨hBn, hbg⟩
  case h0 =>
   intro W hc hs
   have hzW := hc.size
   have HC := HC.tr hc
   have hb3 := hb3.ch hc (fun h => h)
   have hM := hM.no hc
   have hBn := hBn.ch hc (fun h => h)
   have hbg := hbg.ch hc (fun h => h)
   exact ⟨none, 0, 0, hb3, (hM.mono (fun k _ h => by first | exact h | exact h.1)), hBn, hbg, HC⟩
  case hround =>
   intro l pre x W hl hD hsz hI a F
   subst hl
   obtain ⟨A, l, c, hb3, hM, hBn, hbg, HC⟩ := hI
   have hzW := HC.size
   have hD : ∃ q, ([] : List (H8 × H8)) = pre ++ x :: q := hD
   obtain ⟨q, hq⟩ := hD
   have hx1 : x.1.length = 32 := absurd hq (by simp)
   have hx2 : x.2.length = 32 := absurd hq (by simp)
   have hp0 : pre.length ≤ 1000 := absurd hq (by simp)
   have hMl := hM.len
   refine (?_ : WCi _ _ _ _ _ _ _ _) _ (F.hand2 rfl rfl)
   have hB : Ch (fun k => k ≠ w1.heap.size + 1 ∧ k ≠ w1.heap.size) W W := Ch.refl _ _
   refine wci_seq ?_
   refine wci_region ?_
   have hltg3 := hb3.lt
   have hltgB := hBn.lt
   have hltg := hbg.lt
   refine wlie rfl (by repeat (first | with_reducible exact no_stop | with_reducible exact no_false | with_reducible apply no_then | with_reducible apply no_in)) (e_alloc (cs := ((List.replicate 32 (0 : UInt8)).map u8v).toArray) rfl (by rfl) rfl (fun w2 g4 hg4 hb4 hc hsz4 => ?_))
   have hzw2 := hc.size
   have HC := HC.tr hc
   have hB := hB.tr hc
   have hb3 := hb3.ch hc (fun h => h)
   have hM := hM.after hc
   have hBn := hBn.ch hc (fun h => h)
   have hbg := hbg.ch hc (fun h => h)
   have hge4 : w.heap.size ≤ g4 := by have := HC.size; omega
   have neg3_4 : g3 < g4 := by omega
   have negB_4 : gB < g4 := by omega
   have neg_4 : g < g4 := by omega
   refine wlie rfl (by repeat (first | with_reducible exact no_stop | with_reducible exact no_false | with_reducible apply no_then | with_reducible apply no_in)) (e_stH sz38 (List.length_replicate ..) hx1 rfl rfl hb4 (fun w3 hb4 hc hsz => ?_))
   have hzw3 := hc.size
   have HC := HC.trans hc (fun _ _ h => h) (fun k hk ht => absurd ht (by omega))
   have hB := hB.trans hc (fun _ _ h => h) (fun k hk ht => by first | omega | (dsimp only at *; omega))
   have hb3 := hb3.ch hc (by omega)
   have hM := hM.ch hc (by intro k hz hk ht; omega)
   have hBn := hBn.ch hc (by omega)
   have hbg := hbg.ch hc (by omega)
   refine wli_nil ?_
   refine xi_seq ?_
   refine wci_region ?_
   have hltg3 := hb3.lt
   have hltgB := hBn.lt
   have hltg := hbg.lt
   have hltg4 := hb4.lt
   refine wlie rfl (by repeat (first | with_reducible exact no_stop | with_reducible exact no_false | with_reducible apply no_then | with_reducible apply no_in)) (e_alloc (cs := ((List.replicate 32 (0 : UInt8)).map u8v).toArray) rfl (by rfl) rfl (fun w4 g5 hg5 hb5 hc hsz5 => ?_))
   have hzw4 := hc.size
   have HC := HC.tr hc
   have hB := hB.tr hc
   have hb3 := hb3.ch hc (fun h => h)
   have hM := hM.after hc
   have hBn := hBn.ch hc (fun h => h)
   have hbg := hbg.ch hc (fun h => h)
   have hb4 := hb4.ch hc (fun h => h)
   have hge5 : w.heap.size ≤ g5 := by have := HC.size; omega
   have neg3_5 : g3 < g5 := by omega
   have negB_5 : gB < g5 := by omega
   have neg_5 : g < g5 := by omega
   have neg4_5 : g4 < g5 := by omega
   refine wlie rfl (by repeat (first | with_reducible exact no_stop | with_reducible exact no_false | with_reducible apply no_then | with_reducible apply no_in)) (e_stH sz38 (List.length_replicate ..) hx2 rfl rfl hb5 (fun w5 hb5 hc hsz => ?_))
   have hzw5 := hc.size
   have HC := HC.trans hc (fun _ _ h => h) (fun k hk ht => absurd ht (by omega))
   have hB := hB.trans hc (fun _ _ h => h) (fun k hk ht => by first | omega | (dsimp only at *; omega))
   have hb3 := hb3.ch hc (by omega)
   have hM := hM.ch hc (by intro k hz hk ht; omega)
   have hBn := hBn.ch hc (by omega)
   have hbg := hbg.ch hc (by omega)
   have hb4 := hb4.ch hc (by omega)
   refine wli_nil ?_
   refine xi_asg hB (fun W2 hc hsW => ?_)
   have hzW2 := hc.size
   have HC := HC.trans hc (fun _ _ h => h) (fun k hk ht => absurd ht (by omega))
   have hb3 := hb3.ch hc (by omega)
   have hM := hM.ch hc (by intro k hz hk ht; omega)
   have hBn := hBn.ch hc (by omega)
   have hbg := hbg.ch hc (by omega)
   have hb4 := hb4.ch hc (by omega)
   have hb5 := hb5.ch hc (by omega)
   have hB : Ch (fun k => k ≠ w1.heap.size + 1 ∧ k ≠ w1.heap.size) W2 W2 := Ch.refl _ _
   refine wci_block ?_
   refine wci_region ?_
   refine wli rfl rfl rfl (p_ld Tryd.underlying118 rfl rfl (ld (hb3.cell rfl))) ?_
   refine wli rfl rfl rfl (p_ldH (L := x.1) Tryd.underlying38 sz38 hx1 rfl (fun _ e => e ▸ rngL hb4)) ?_
   refine wli rfl rfl rfl (p_ldH (L := x.2) Tryd.underlying38 sz38 hx2 rfl (fun _ e => e ▸ rngL hb5)) ?_
   refine wli rfl rfl rfl (p_bldX (vs' := [(.agg ((hx x.1) : List Value).toArray), (.agg ((hx x.2) : List Value).toArray)]) (cs := (((List.map u8v x.1) ++ (List.map u8v x.2)) : List Value)) (cs' := (((hx x.1) ++ (hx x.2)) : List Value)) rfl (by simp only [hv, map_hx hx1, map_hx hx2] <;> rfl) (by simp only [hv, map_hx hx1, map_hx hx2] <;> rfl) (fun _ => by kernel_rfl)) ?_
   have hltg3 := hb3.lt
   have hltgB := hBn.lt
   have hltg := hbg.lt
   have hltg4 := hb4.lt
   have hltg5 := hb5.lt
   refine wlie rfl (by repeat (first | with_reducible exact no_stop | with_reducible exact no_false | with_reducible apply no_then | with_reducible apply no_in)) (e_bslX (E := 174) (cs := (((List.map u8v x.1) ++ (List.map u8v x.2)) : List Value)) (cs' := (((hx x.1) ++ (hx x.2)) : List Value)) rfl rfl (by simp only [hv, map_hx hx1, map_hx hx2] <;> rfl) (fun _ => by kernel_rfl) (fun w6 g13 hg13 hb13 hc hsz13 => ?_))
   have hzw6 := hc.size
   have HC := HC.tr hc
   have hB := hB.tr hc
   have hb3 := hb3.ch hc (fun h => h)
   have hM := hM.after hc
   have hBn := hBn.ch hc (fun h => h)
   have hbg := hbg.ch hc (fun h => h)
   have hb4 := hb4.ch hc (fun h => h)
   have hb5 := hb5.ch hc (fun h => h)
   have hge13 : w.heap.size ≤ g13 := by have := HC.size; omega
   have hS13 := SI.oneA (E := eIT) (x := (x.1, x.2)) hb13 rfl ⟨hx1, hx2⟩
   have hltg3 := hb3.lt
   have hltgB := hBn.lt
   have hltg := hbg.lt
   have hltg4 := hb4.lt
   have hltg5 := hb5.lt
   refine wlie rfl (by repeat (first | with_reducible exact no_stop | with_reducible exact no_false | with_reducible apply no_then | with_reducible apply no_in)) (e_appI rfl el118 rfl rfl hM (hS13) (by omega) (by intro k hk; first | omega | (dsimp only at *; omega)) (fun w7 A14 c14 hM hc => ?_))
   have hzw7 := hc.size
   have HC := HC.trans hc (fun _ _ h => h) (fun k hk ht => absurd ht (by omega))
   have hB := hB.trans hc (fun _ _ h => h) (fun k hk ht => by first | omega | (dsimp only at *; omega))
   have hb3 := hb3.ch hc (by omega)
   have hBn := hBn.ch hc (by omega)
   have hbg := hbg.ch hc (by omega)
   have hb4 := hb4.ch hc (by omega)
   have hb5 := hb5.ch hc (by omega)
   first | have hS13 := hS13.ch hc (by intro k hk ht; omega) | have hS13 := hS13.chT hc (by intro k hz hk ht; omega)
   refine wlie rfl (by repeat (first | with_reducible exact no_stop | with_reducible exact no_false | with_reducible apply no_then | with_reducible apply no_in)) (e_st1 (by rfl) rfl rfl rfl hb3 (fun w8 hb3 hc hsz => ?_))
   have hzw8 := hc.size
   have HC := HC.trans hc (fun _ _ h => h) (fun k hk ht => absurd ht (by omega))
   have hB := hB.trans hc (fun _ _ h => h) (fun k hk ht => by first | omega | (dsimp only at *; omega))
   have hM := hM.ch hc (by intro k hz hk ht; omega)
   have hBn := hBn.ch hc (by omega)
   have hbg := hbg.ch hc (by omega)
   have hb4 := hb4.ch hc (by omega)
   have hb5 := hb5.ch hc (by omega)
   first | have hS13 := hS13.ch hc (by intro k hk ht; omega) | have hS13 := hS13.chT hc (by intro k hz hk ht; omega)
   refine wli_nil ?_
   refine x_in_normal ?_
   exact wq_stop ⟨_, _, _, hb3, (hM.mono (fun k _ h => by first | exact h | exact h.1 | exact h.1.1 | exact h.1.1.1 | exact h.1.1.1.1)), hBn, hbg, HC⟩ hB
  case hdone =>
   rintro xs W a' hS ⟨A, l, c, hb3, hM, hBn, hbg, HC⟩ hK F'
   refine wqd_ap ?_ F'
   have hzW := HC.size
   refine xd_in_normal ?_
   refine xd_seq ?_
   refine wcd_seq ?_
   refine wcd_region ?_
   refine wld rfl rfl rfl (p_ld Tryd.underlying118 rfl rfl (ld (hb3.cell rfl))) ?_
   refine wld rfl rfl rfl (p_as rfl) ?_
   refine wld_nil ?_
   refine xd_seq ?_
   refine wcd_ret ?_
   refine fin_runM hK (fun w9 hc hsz => ?_)
   have hzw9 := hc.size
   have HC := HC.trans hc (fun _ _ h => h) (fun k hk ht => absurd ht (by omega))
   have hb3 := hb3.ch hc (by omega)
   have hM := hM.ch hc (by intro k hz hk ht; omega)
   have hBn := hBn.ch hc (by omega)
   have hbg := hbg.ch hc (by omega)
   refine ⟨_, (res1 rfl rfl), ?_⟩
   exact ⟨_, _, _, rfl, (hS ▸ hM).mono (fun k _ h => by have h2 : n0 ≤ k := h; show w.heap.size ≤ k; omega), HC⟩
  case hstop =>
   exact fun _ _ _ _ _ h => h.elim

theorem filt_yes {α : Type} {ks : List α} {i : Nat} {d : α} {p : α → Bool} (hi : i < ks.length) (hp : p (ks.getD i d) = true) : (ks.take (i + 1)).filter p = (ks.take i).filter p ++ [ks.getD i d] := by
  rw [getD_take (d := d) hi, List.filter_append, List.filter_cons, if_pos hp]; rfl

theorem filt_no {α : Type} {ks : List α} {i : Nat} {d : α} {p : α → Bool} (hi : i < ks.length) (hp : p (ks.getD i d) = false) : (ks.take (i + 1)).filter p = (ks.take i).filter p := by
  rw [getD_take (d := d) hi, List.filter_append, List.filter_cons, if_neg (by rw [hp]; simp)]; simp

def ProveOK (t : Tr) : Prop := ∀ {w : World} {F Fm Fk : Nat → Prop} {Ao Am Ak : Option Addr} {lo co lm cm lk ck : Nat} {xs : List ND} {ks : List H8}, RI w F 115 eND Ao lo co xs → (∀ k, w.heap.size ≤ k → F k) → ¬ F 0 → SI w Fm eIT Am lm cm t.items → (∀ k, k < w.heap.size → Fm k → ¬ F k) → SI w Fk eH Ak lk ck ks → (∀ k, k < w.heap.size → Fk k → ¬ F k) → t.WF → lm ≤ 1000000 → lk ≤ 1000000 → lo + 2 * t.cnt ≤ 1000000000 → Sl w (fun k => k = 0) u32v (some ⟨0, 0, none⟩) 64 64 rk → Calls Tryd.prog 70 #[.slice Ao lo co, .slice Am lm cm, .slice Ak lk ck] w fun e w' => ∃ A l c, e = .returned (.slice A l c) ∧ RI w' F 115 eND A l c (xs ++ (t.prv ks).nodes) ∧ Ch F w w'

set_option maxHeartbeats 1000000 in
set_option maxRecDepth 20000 in
theorem prove_nil {w : World} {F Fm Fk : Nat → Prop} {Ao Am Ak : Option Addr} {lo co lm cm lk ck : Nat} {xs : List ND} {ks : List H8} {t : Tr} (hout : RI w F 115 eND Ao lo co xs) (hF : ∀ k, w.heap.size ≤ k → F k) (hF0 : ¬ F 0) (hm : SI w Fm eIT Am lm cm (Tr.items (t))) (hFm : ∀ k, k < w.heap.size → Fm k → ¬ F k) (hks : SI w Fk eH Ak lk ck ks) (hFk : ∀ k, k < w.heap.size → Fk k → ¬ F k) (hw : (t).WF) (hl : lm ≤ 1000000) (hlk : lk ≤ 1000000) (hlo : lo + 2 * (t).cnt ≤ 1000000000) (hrnd : Sl w (fun k => k = 0) u32v (some ⟨0, 0, none⟩) 64 64 rk) (hk0 : ks = []) :
    Calls Tryd.prog 70 #[.slice Ao lo co, .slice Am lm cm, .slice Ak lk ck] w fun e w' => ∃ A l c, e = .returned (.slice A l c) ∧ RI w' F 115 eND A l c (xs ++ ((t).prv ks).nodes) ∧ Ch F w w' := by
  have hn0 : 0 < w.heap.size := hrnd.size (by omega) rfl
  have hn1 := hn0
  have hml := hm.len
  have hkl := hks.len
  have hol := hout.len
  have hm := hm.mono (G := fun k => k < w.heap.size ∧ ¬ F k) (fun k hk h => ⟨hk, hFm k hk h⟩)
  have hks := hks.mono (G := fun k => k < w.heap.size ∧ ¬ F k) (fun k hk h => ⟨hk, hFk k hk h⟩)
  have hlk0 : lk = 0 := by rw [← hkl, hk0]; rfl
  have hcp := Tr.cnt_pos t
  have HC : Ch F w w := Ch.refl _ _
  refine enter' (args := [.slice Ao lo co, .slice Am lm cm, .slice Ak lk ck]) (n := 81) Tryd.func70 rfl rfl rfl ?_
  refine wc_seq ?_
  refine wc_region ?_
  refine wl rfl rfl rfl (p_as rfl) ?_
  refine wl_nil ?_
  refine x_seq ?_
  refine wc_seq ?_
  refine wc_block ?_
  refine wc_seq ?_
  refine wc_region ?_
  refine wl rfl rfl rfl (p_mv rfl) ?_
  refine wl rfl rfl rfl (p_lenS Tryd.underlying23 rfl) ?_
  refine wl rfl rfl rfl (p_eq rfl rfl) ?_
  refine wl rfl rfl rfl (p_as rfl) ?_
  refine wl_nil ?_
  refine x_seq ?_
  refine wc_yes rfl (decide_eq_true (by omega)) ?_
  refine wc_seq ?_
  refine wc_region ?_
  refine wl rfl rfl rfl (p_mv rfl) ?_
  refine wl rfl rfl rfl (p_mv rfl) ?_
  refine wle rfl (e_call ent99 rfl rfl (mroot_any t (hm) hw (by omega) hrnd) ?_)
  rintro _ w1 ⟨rfl, hc⟩
  refine ⟨_, rfl, ?_⟩
  have hzw1 := hc.size
  have HC := HC.tr hc
  have hout := hout.after hc
  have hm := hm.no hc
  have hks := hks.no hc
  have hrnd := hrnd.no hc
  refine wl rfl rfl rfl (p_bldX (vs' := [.int .i64 (2), (.agg ((hx (Tr.root t)) : List Value).toArray)]) (cs := (([.int .i64 (2), Value.int .i64 0] ++ ((List.map u8v (List.replicate 32 (0 : UInt8))) ++ (List.map u8v (Tr.root t)))) : List Value)) (cs' := (([.int .i64 (2), Value.int .i64 0] ++ ((hx (List.replicate 32 (0 : UInt8))) ++ (hx (Tr.root t)))) : List Value)) rfl (by simp only [hv, map_hx (List.length_replicate ..), map_hx Tr.root_len] <;> rfl) (by simp only [hv, map_hx (List.length_replicate ..), map_hx Tr.root_len] <;> rfl) (fun _ => by kernel_rfl)) ?_
  refine wle rfl (e_bslX (E := 115) (cs := (([.int .i64 (2), Value.int .i64 0] ++ ((List.map u8v (List.replicate 32 (0 : UInt8))) ++ (List.map u8v (Tr.root t)))) : List Value)) (cs' := (([.int .i64 (2), Value.int .i64 0] ++ ((hx (List.replicate 32 (0 : UInt8))) ++ (hx (Tr.root t)))) : List Value)) rfl rfl (by simp only [hv, map_hx (List.length_replicate ..), map_hx Tr.root_len] <;> rfl) (fun _ => by kernel_rfl) (fun w2 g21 hg21 hb21 hc hsz21 => ?_))
  have hzw2 := hc.size
  have HC := HC.tr hc
  have hout := hout.after hc
  have hm := hm.no hc
  have hks := hks.no hc
  have hrnd := hrnd.no hc
  have hge21 : w.heap.size ≤ g21 := by have := HC.size; omega
  have hS21 := SI.oneA (E := eND) (x := ⟨(2), (0), (List.replicate 32 (0 : UInt8)), (Tr.root t)⟩) hb21 rfl ⟨(List.length_replicate ..), Tr.root_len⟩
  refine wle rfl (e_appI rfl el33 rfl rfl hout (hS21) (by omega) (by intro k hk; have hF1 := hF k (by omega); repeat (first | exact hF1 | (refine ⟨?_, by omega⟩))) (fun w3 A22 c22 hout hc => ?_))
  have hzw3 := hc.size
  have HC := HC.trans hc (fun _ _ h => h) (fun k hk ht => (by first | exact ht | (exfalso; omega) | ((try simp only [and_assoc] at ht); exact ht.1)))
  have hm := hm.ch hc (by intro k hk ht; first | exact hk.2 ht | (have h1 := hk.1; omega) | ((try simp only [and_assoc] at ht); exact hk.2 ht.1))
  have hks := hks.ch hc (by intro k hk ht; first | exact hk.2 ht | (have h1 := hk.1; omega) | ((try simp only [and_assoc] at ht); exact hk.2 ht.1))
  have hrnd := hrnd.ch hc (by rintro k rfl ht; first | omega | exact hF0 ht | ((try simp only [and_assoc] at ht); exact hF0 ht.1))
  first | have hS21 := hS21.ch hc (by intro k hk ht; omega) | have hS21 := hS21.chT hc (by intro k hz hk ht; omega)
  refine wl rfl rfl rfl (p_as rfl) ?_
  refine wl_nil ?_
  refine x_seq ?_
  refine wc_ret ?_
  refine x_in_ret ?_
  refine x_then_ret ?_
  refine fin_run ((res1 rfl rfl)) ?_
  have hpv : (t.prv ks).nodes = [⟨2, 0, zeroH, t.root⟩] := by subst hk0; cases t <;> rfl
  rw [hpv]
  exact ⟨_, _, _, rfl, hout.mono (fun k hk h => by first | exact h | ((try simp only [and_assoc] at h); exact h.1)), HC⟩

set_option maxHeartbeats 1000000 in
set_option maxRecDepth 20000 in
theorem prove_leaf {w : World} {F Fm Fk : Nat → Prop} {Ao Am Ak : Option Addr} {lo co lm cm lk ck : Nat} {xs : List ND} {ks : List H8} {k : List UInt8} {u : List UInt8} (hout : RI w F 115 eND Ao lo co xs) (hF : ∀ k, w.heap.size ≤ k → F k) (hF0 : ¬ F 0) (hm : SI w Fm eIT Am lm cm (Tr.items (Tr.leaf k u))) (hFm : ∀ k, k < w.heap.size → Fm k → ¬ F k) (hks : SI w Fk eH Ak lk ck ks) (hFk : ∀ k, k < w.heap.size → Fk k → ¬ F k) (hw : (Tr.leaf k u).WF) (hl : lm ≤ 1000000) (hlk : lk ≤ 1000000) (hlo : lo + 2 * (Tr.leaf k u).cnt ≤ 1000000000) (hrnd : Sl w (fun k => k = 0) u32v (some ⟨0, 0, none⟩) 64 64 rk) (hk0 : ks ≠ []) :
    Calls Tryd.prog 70 #[.slice Ao lo co, .slice Am lm cm, .slice Ak lk ck] w fun e w' => ∃ A l c, e = .returned (.slice A l c) ∧ RI w' F 115 eND A l c (xs ++ ((Tr.leaf k u).prv ks).nodes) ∧ Ch F w w' := by
  have hn0 : 0 < w.heap.size := hrnd.size (by omega) rfl
  have hn1 := hn0
  have hml := hm.len
  have hkl := hks.len
  have hol := hout.len
  have hm := hm.mono (G := fun k => k < w.heap.size ∧ ¬ F k) (fun k hk h => ⟨hk, hFm k hk h⟩)
  have hks := hks.mono (G := fun k => k < w.heap.size ∧ ¬ F k) (fun k hk h => ⟨hk, hFk k hk h⟩)
  have hlk0 : lk ≠ 0 := by rw [← hkl]; exact fun e => hk0 (List.eq_nil_of_length_eq_zero e)
  have hl1 : lm = 1 := by rw [← hml]; rfl
  simp only [Tr.cnt] at hlo
  have HC : Ch F w w := Ch.refl _ _
  refine enter' (args := [.slice Ao lo co, .slice Am lm cm, .slice Ak lk ck]) (n := 81) Tryd.func70 rfl rfl rfl ?_
  refine wc_seq ?_
  refine wc_region ?_
  refine wl rfl rfl rfl (p_as rfl) ?_
  refine wl_nil ?_
  refine x_seq ?_
  refine wc_seq ?_
  refine wc_block ?_
  refine wc_seq ?_
  refine wc_region ?_
  refine wl rfl rfl rfl (p_mv rfl) ?_
  refine wl rfl rfl rfl (p_lenS Tryd.underlying23 rfl) ?_
  refine wl rfl rfl rfl (p_eq rfl rfl) ?_
  refine wl rfl rfl rfl (p_as rfl) ?_
  refine wl_nil ?_
  refine x_seq ?_
  refine wc_no rfl (decide_eq_false (by omega)) ?_
  refine wc_seq ?_
  refine wc_region ?_
  refine wl rfl rfl rfl (p_mv rfl) ?_
  refine wl rfl rfl rfl (p_lenS Tryd.underlying118 rfl) ?_
  refine wl rfl rfl rfl (p_eq rfl rfl) ?_
  refine wl rfl rfl rfl (p_as rfl) ?_
  refine wl_nil ?_
  refine x_seq ?_
  refine wc_yes rfl (decide_eq_true (by omega)) ?_
  refine wc_seq ?_
  refine wc_draw (.st 0 0 (.st 1 0 (.st 2 0 (.st 3 0 (.st 4 1 (.st 5 0 (.st 6 0 (.st 7 0 (.st 8 1 (.st 9 0 (.st 10 2 (.st 11 3 (.st 12 0 .nil))))))))))))) 11 (by kernel_rfl) (by kernel_rfl) (by kernel_rfl) (by repeat (first | with_reducible exact pan_body | with_reducible apply pan_then | with_reducible apply pan_in)) (fun x => Ch No w.drew x) (Ch.refl _ _) ?_
  obtain ⟨w1, ew1⟩ : ∃ x, x = w.drew := ⟨_, rfl⟩
  rw [← ew1]
  have hc : Ch No w w1 := by rw [ew1]; exact Ch.drew _
  have hszw1 : w1.heap.size = w.heap.size := by rw [ew1]; rfl
  clear ew1
  have hzw1 := hc.size
  have HC := HC.tr hc
  have hout := hout.no hc
  have hm := hm.no hc
  have hks := hks.no hc
  have hrnd := hrnd.no hc
  have hS : Ch No w1 w1 := Ch.refl _ _
  refine ws_p rfl rfl rfl rfl (p_mv rfl) ?_
  refine ws_p rfl rfl rfl rfl (p_mv rfl) ?_
  obtain ⟨b2, o2, hA2, hF2, hr2⟩ := (hm).opn (i := 0) (d := (zeroH, zeroH)) (by omega)
  have hok2 := (hm).okAt (i := 0) (d := (zeroH, zeroH)) (by omega)
  obtain ⟨x2, ex2⟩ : ∃ x_, x_ = List.getD (Tr.items (.leaf k u)) (0) (zeroH, zeroH) := ⟨_, rfl⟩
  rw [← ex2] at hr2 hok2
  obtain ⟨hx2k, hx2v⟩ := hok2
  have hr2 : w1.rangeAt b2 (o2 + 0 * 64) (((List.map u8v x2.1) ++ (List.map u8v x2.2)) : List Value) := hr2
  refine ws_p rfl rfl rfl rfl (p_ixS (j := 0 * 64) Tryd.underlying118 sz174 rfl hA2 rfl (by omega) (by omega) rfl) ?_
  have hkx : x2 = (k, u) := ex2
  refine ws_p rfl rfl rfl rfl (p_fld (j := 0) Tryd.underlying174 rfl ⟨_, by rfl⟩ rfl rfl) ?_
  refine ws_h rfl rfl rfl rfl (p_ldA (cs := (List.map u8v x2.1)) Tryd.underlying38 rfl (szL sz38 (by first | rfl | (simp only [List.length_append, List.length_map, List.length_cons, List.length_nil, (show List.length x2.1 = 32 from hx2k)]; done) | (simp only [List.length_append, List.length_map, List.length_cons, List.length_nil, List.size_toArray, (show List.length x2.1 = 32 from hx2k)]; done))) rfl (fun _ h => rng_sub (q := (List.map u8v x2.1)) (p := []) (r := ((List.map u8v x2.2) : List Value)) (rng_no hr2 h) (by first | rfl | simp only [List.append_assoc, List.cons_append, List.nil_append, List.append_nil]) rfl)) ?_
  refine ws_p rfl rfl rfl rfl (p_mv rfl) ?_
  obtain ⟨b3, o3, hA3, hF3, hr3⟩ := (hm).opn (i := 0) (d := (zeroH, zeroH)) (by omega)
  have hok3 := (hm).okAt (i := 0) (d := (zeroH, zeroH)) (by omega)
  obtain ⟨x3, ex3⟩ : ∃ x_, x_ = List.getD (Tr.items (.leaf k u)) (0) (zeroH, zeroH) := ⟨_, rfl⟩
  rw [← ex3] at hr3 hok3
  obtain ⟨hx3k, hx3v⟩ := hok3
  have hr3 : w1.rangeAt b3 (o3 + 0 * 64) (((List.map u8v x3.1) ++ (List.map u8v x3.2)) : List Value) := hr3
  refine ws_p rfl rfl rfl rfl (p_ixS (j := 0 * 64) Tryd.underlying118 sz174 rfl hA3 rfl (by omega) (by omega) rfl) ?_
  have hky : x3 = (k, u) := ex3
  refine ws_p rfl rfl rfl rfl (p_fld (j := 32) Tryd.underlying174 rfl ⟨_, by rfl⟩ rfl rfl) ?_
  refine ws_h rfl rfl rfl rfl (p_ldA (cs := (List.map u8v x3.2)) Tryd.underlying38 rfl (szL sz38 (by first | rfl | (simp only [List.length_append, List.length_map, List.length_cons, List.length_nil, (show List.length x3.2 = 32 from hx3v)]; done) | (simp only [List.length_append, List.length_map, List.length_cons, List.length_nil, List.size_toArray, (show List.length x3.2 = 32 from hx3v)]; done))) rfl (fun _ h => rng_sub (q := (List.map u8v x3.2)) (p := ((List.map u8v x3.1) : List Value)) (r := []) (rng_no hr3 h) (by first | rfl | simp only [List.append_assoc, List.cons_append, List.nil_append, List.append_nil]) (by first | rfl | (simp only [List.length_append, List.length_map, List.length_cons, List.length_nil, (show List.length x3.1 = 32 from hx3k)]; done) | (simp only [List.length_append, List.length_map, List.length_cons, List.length_nil, List.size_toArray, (show List.length x3.1 = 32 from hx3k)]; done)))) ?_
  refine ws_p rfl rfl rfl rfl (p_bldX (vs' := [.int .i64 (3), (.agg ((hx x2.1) : List Value).toArray), (.agg ((hx x3.2) : List Value).toArray)]) (cs := (([.int .i64 (3), Value.int .i64 0] ++ ((List.map u8v x2.1) ++ (List.map u8v x3.2))) : List Value)) (cs' := (([.int .i64 (3), Value.int .i64 0] ++ ((hx x2.1) ++ (hx x3.2))) : List Value)) rfl (by simp only [hv, map_hx hx2k, map_hx hx3v] <;> rfl) (by simp only [hv, map_hx hx2k, map_hx hx3v] <;> rfl) (fun _ => by kernel_rfl)) ?_
  refine ws_e rfl rfl (e_bslX (E := 115) (cs := (([.int .i64 (3), Value.int .i64 0] ++ ((List.map u8v x2.1) ++ (List.map u8v x3.2))) : List Value)) (cs' := (([.int .i64 (3), Value.int .i64 0] ++ ((hx x2.1) ++ (hx x3.2))) : List Value)) rfl rfl (by simp only [hv, map_hx hx2k, map_hx hx3v] <;> rfl) (fun _ => by kernel_rfl) (fun w4 g37 hg37 hb37 hc hsz37 => ⟨hc, ?_⟩))
  have hzw4 := hc.size
  have HC := HC.tr hc
  have hout := hout.after hc
  have hm := hm.no hc
  have hks := hks.no hc
  have hrnd := hrnd.no hc
  have hge37 : w.heap.size ≤ g37 := by have := HC.size; omega
  have hS37 := SI.oneA (E := eND) (x := ⟨(3), (0), x2.1, x3.2⟩) hb37 rfl ⟨hx2k, hx3v⟩
  refine ws_narrow (S' := fun x => Ch No w4 x) (Ch.refl _ _) (fun x h => hc.tr h) ?_
  refine ws_l rfl rfl (e_appI rfl el33 rfl rfl hout (hS37) (by omega) (by intro k hk; have hF1 := hF k (by omega); repeat (first | exact hF1 | (refine ⟨?_, by omega⟩))) (fun w5 A38 c38 hout hc => ?_))
  have hzw5 := hc.size
  have HC := HC.trans hc (fun _ _ h => h) (fun k hk ht => (by first | exact ht | (exfalso; omega) | ((try simp only [and_assoc] at ht); exact ht.1)))
  have hm := hm.ch hc (by intro k hk ht; first | exact hk.2 ht | (have h1 := hk.1; omega) | ((try simp only [and_assoc] at ht); exact hk.2 ht.1))
  have hks := hks.ch hc (by intro k hk ht; first | exact hk.2 ht | (have h1 := hk.1; omega) | ((try simp only [and_assoc] at ht); exact hk.2 ht.1))
  have hrnd := hrnd.ch hc (by rintro k rfl ht; first | omega | exact hF0 ht | ((try simp only [and_assoc] at ht); exact hF0 ht.1))
  first | have hS37 := hS37.ch hc (by intro k hk ht; omega) | have hS37 := hS37.chT hc (by intro k hz hk ht; omega)
  refine ws_p rfl rfl rfl rfl (p_as rfl) ?_
  refine ws_n ?_
  refine x_seq ?_
  refine wc_ret ?_
  refine x_in_ret ?_
  refine x_then_ret ?_
  refine fin_run ((res1 rfl rfl)) ?_
  have hpv : ((Tr.leaf k u).prv ks).nodes = [⟨3, 0, k, u⟩] := by rw [Tr.prv, if_neg hk0]; rfl
  rw [hpv]
  rw [hkx, hky] at hout
  exact ⟨_, _, _, rfl, hout.mono (fun k hk h => by first | exact h | ((try simp only [and_assoc] at h); exact h.1)), HC⟩
end Go.Proofs.YtkfkdakghjlenaaDoor
