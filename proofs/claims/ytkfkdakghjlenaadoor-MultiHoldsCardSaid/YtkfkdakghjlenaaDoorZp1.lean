/-
  Own text, printed by a program of mine (wip/gx): what functions of the program do, walked operation by operation.
-/
import Derived.Test.YtkfkdakghjlenaaDoorProg
import Derived.Test.YtkfkdakghjlenaaDoorGxAgg
import Derived.Test.YtkfkdakghjlenaaDoorTab
import Derived.Test.YtkfkdakghjlenaaDoorGxZer
import Derived.Test.YtkfkdakghjlenaaDoorGxLay
import Derived.Test.YtkfkdakghjlenaaDoorPlPack
import Derived.Test.YtkfkdakghjlenaaDoorPlSum
import Derived.Test.YtkfkdakghjlenaaDoorPlSha
import Derived.Test.YtkfkdakghjlenaaDoorPlTag
import Derived.Test.YtkfkdakghjlenaaDoorPlBits
import Derived.Test.YtkfkdakghjlenaaDoorPlShaSt
import Derived.Test.YtkfkdakghjlenaaDoorPlShaB
import Derived.Test.YtkfkdakghjlenaaDoorPlTrie
import Derived.Test.YtkfkdakghjlenaaDoorPlTrieSt
import Derived.Test.YtkfkdakghjlenaaDoorGxRec
import Derived.Test.YtkfkdakghjlenaaDoorGxYld
import Derived.Test.YtkfkdakghjlenaaDoorPlTrieFil
import Derived.Test.YtkfkdakghjlenaaDoorOnceC
import Derived.Test.YtkfkdakghjlenaaDoorPlTrieW
import Derived.Test.YtkfkdakghjlenaaDoorPlMulti
import Derived.Test.YtkfkdakghjlenaaDoorPlEncs
import Derived.Test.YtkfkdakghjlenaaDoorGxMark
import Derived.Test.YtkfkdakghjlenaaDoorPlTrieLaw
import Derived.Test.YtkfkdakghjlenaaDoorPlTrieAct
import Derived.Test.YtkfkdakghjlenaaDoorGxFun
import Derived.Test.YtkfkdakghjlenaaDoorGxPair
import Derived.Test.YtkfkdakghjlenaaDoorPlMany
import Derived.Test.YtkfkdakghjlenaaDoorZp0
set_option linter.unusedVariables false
set_option linter.unusedSimpArgs false
namespace Go.Proofs.YtkfkdakghjlenaaDoor
open Go.RowKit Go.Gx
open Go.Plain
set_option maxHeartbeats 1000000 in
set_option maxRecDepth 20000 in
theorem put_fork {w : World}  {k : List UInt8} {u : List UInt8} {g0 b : Nat} {x y : LT} (IHx : PutOK x) (IHy : PutOK y) (hX : LAt 156 w (.fork g0 b x y)) (hk : k.length = 32) (hu : u.length = 32) (hcn : x.er.cnt + y.er.cnt + 1 ≤ 4611686018427387904) :
    Calls Tryd.prog 83 #[ndp g0, hv k, hv u] w fun e w' => ∃ t : LT, e = .returned (ndp t.adr) ∧ t.er = (Tr.fork b x.er y.er).put k u ∧ LF 156 (fun j => j ∈ (LT.fork g0 b x y).ads ∨ w.heap.size ≤ j) w' t ∧ Ch No w w' := by
  have hXl := hX.lt
  have hok := hX.ok
  have hout := hX.out
  obtain ⟨⟨hb256, hcn0, hk0, d0, h0, hO0, hb0⟩, hXx, hXy⟩ := id hX
  have hh0 := hO0.1
  have hb0 : Blk w g0 156 (([i64 (b : Int), ndp x.adr, ndp y.adr] ++ ((List.map u8v x.er.key) ++ ((List.map u8v zeroH) ++ ([i64 ((x.er.cnt + y.er.cnt : Nat) : Int), .int .u32 (d0 : Int), .int .i32 0, .int .u32 0] ++ (List.map u8v h0))))) : List Value).toArray := hb0
  have hltg0 := hb0.lt
  have hXlx := hXx.lt
  have hXly := hXy.lt
  have hXx := hXx.lfm
  have hXy := hXy.lfm
  have hX := hX.lfm
  have hal := apartK_le (a := x.er.key) (b := k)
  have hcpx := Tr.cnt_pos x.er
  have hcpy := Tr.cnt_pos y.er
  have HC : Ch No w w := Ch.refl _ _
  refine enter' (args := [ndp g0, hv k, hv u]) (n := 76) Tryd.func83 rfl rfl rfl ?_
  refine wc_seq ?_
  refine wc_region ?_
  have hltg0 := hb0.lt
  refine wle rfl (e_box (cs := (List.map u8v k).toArray) rfl rfl rfl (fun w1 g4 hg4 hb4 hc hsz4 => ?_))
  have hzw1 := hc.size
  have HC := HC.tr hc
  have hb0 := hb0.ch hc (fun h => h)
  first | have hX := hX.no hc | have hX := hX.ch hc (by intro k1 hk1 hF1 ht1; first | omega | (have hq1 := hXl _ hF1; omega) | (rcases hF1 with hF1 | hF1 <;> first | omega | (have hq1 := hXl _ hF1; omega)))
  first | have hXx := hXx.no hc | have hXx := hXx.ch hc (by intro k1 hk1 hF1 ht1; first | omega | (have hq1 := hXlx _ hF1; omega) | (rcases hF1 with hF1 | hF1 <;> first | omega | (have hq1 := hXlx _ hF1; omega)))
  first | have hXy := hXy.no hc | have hXy := hXy.ch hc (by intro k1 hk1 hF1 ht1; first | omega | (have hq1 := hXly _ hF1; omega) | (rcases hF1 with hF1 | hF1 <;> first | omega | (have hq1 := hXly _ hF1; omega)))
  have hge4 : w.heap.size ≤ g4 := by have := HC.size; omega
  have neg0_4 : g0 < g4 := by omega
  have hltg0 := hb0.lt
  have hltg4 := hb4.lt
  refine wle rfl (e_box (cs := (List.map u8v u).toArray) rfl rfl rfl (fun w2 g5 hg5 hb5 hc hsz5 => ?_))
  have hzw2 := hc.size
  have HC := HC.tr hc
  have hb0 := hb0.ch hc (fun h => h)
  first | have hX := hX.no hc | have hX := hX.ch hc (by intro k1 hk1 hF1 ht1; first | omega | (have hq1 := hXl _ hF1; omega) | (rcases hF1 with hF1 | hF1 <;> first | omega | (have hq1 := hXl _ hF1; omega)))
  first | have hXx := hXx.no hc | have hXx := hXx.ch hc (by intro k1 hk1 hF1 ht1; first | omega | (have hq1 := hXlx _ hF1; omega) | (rcases hF1 with hF1 | hF1 <;> first | omega | (have hq1 := hXlx _ hF1; omega)))
  first | have hXy := hXy.no hc | have hXy := hXy.ch hc (by intro k1 hk1 hF1 ht1; first | omega | (have hq1 := hXly _ hF1; omega) | (rcases hF1 with hF1 | hF1 <;> first | omega | (have hq1 := hXly _ hF1; omega)))
  have hb4 := hb4.ch hc (fun h => h)
  have hge5 : w.heap.size ≤ g5 := by have := HC.size; omega
  have neg0_5 : g0 < g5 := by omega
  have neg4_5 : g4 < g5 := by omega
  refine wl rfl rfl rfl (p_as rfl) ?_
  refine wl_nil ?_
  refine x_seq ?_
  refine wc_seq ?_
  refine wc_seq ?_
  refine wc_region ?_
  refine wl rfl rfl rfl (p_mv rfl) ?_
  refine wl rfl rfl rfl (p_eqPN rfl rfl Tryd.underlying39) ?_
  refine wl_nil ?_
  refine x_seq ?_
  refine wc_no rfl (rfl) ?_
  refine wc_skip ?_
  refine x_seq ?_
  refine wc_seq ?_
  refine wc_draw (.st 0 0 (.st 1 0 (.st 2 0 (.st 3 1 (.st 4 1 (.st 5 2 (.st 6 0 .nil))))))) 7 (by kernel_rfl) (by kernel_rfl) (by kernel_rfl) (by repeat (first | with_reducible exact pan_body | with_reducible apply pan_then | with_reducible apply pan_in)) (fun x => Ch No w2.drew x) (Ch.refl _ _) ?_
  obtain ⟨w3, ew3⟩ : ∃ x, x = w2.drew := ⟨_, rfl⟩
  rw [← ew3]
  have hc : Ch No w2 w3 := by rw [ew3]; exact Ch.drew _
  have hszw3 : w3.heap.size = w2.heap.size := by rw [ew3]; rfl
  clear ew3
  have hzw3 := hc.size
  have HC := HC.tr hc
  have hb0 := hb0.ch hc (fun h => h)
  first | have hX := hX.no hc | have hX := hX.ch hc (by intro k1 hk1 hF1 ht1; first | omega | (have hq1 := hXl _ hF1; omega) | (rcases hF1 with hF1 | hF1 <;> first | omega | (have hq1 := hXl _ hF1; omega)))
  first | have hXx := hXx.no hc | have hXx := hXx.ch hc (by intro k1 hk1 hF1 ht1; first | omega | (have hq1 := hXlx _ hF1; omega) | (rcases hF1 with hF1 | hF1 <;> first | omega | (have hq1 := hXlx _ hF1; omega)))
  first | have hXy := hXy.no hc | have hXy := hXy.ch hc (by intro k1 hk1 hF1 ht1; first | omega | (have hq1 := hXly _ hF1; omega) | (rcases hF1 with hF1 | hF1 <;> first | omega | (have hq1 := hXly _ hF1; omega)))
  have hb4 := hb4.ch hc (fun h => h)
  have hb5 := hb5.ch hc (fun h => h)
  have hS : Ch No w3 w3 := Ch.refl _ _
  refine ws_p rfl rfl rfl rfl (p_mv rfl) ?_
  refine ws_p rfl rfl rfl rfl (p_nck rfl) ?_
  refine ws_p rfl rfl rfl rfl (p_fld (j := 3) Tryd.underlying156 rfl ⟨_, by rfl⟩ rfl rfl) ?_
  refine ws_h rfl rfl rfl rfl (p_ldA (cs := (List.map u8v x.er.key)) Tryd.underlying38 rfl (szL sz38 (by first | rfl | (simp only [List.length_append, List.length_map, List.length_cons, List.length_nil, (show List.length x.er.key = 32 from hk0)]; done) | (simp only [List.length_append, List.length_map, List.length_cons, List.length_nil, List.size_toArray, (show List.length x.er.key = 32 from hk0)]; done))) rfl (fun _ h => rng_at (p := ([i64 (b : Int), ndp x.adr, ndp y.adr] : List Value)) (q := ((List.map u8v x.er.key) : List Value)) (r := (((List.map u8v zeroH) ++ ([i64 ((x.er.cnt + y.er.cnt : Nat) : Int), .int .u32 (d0 : Int), .int .i32 0, .int .u32 0] ++ (List.map u8v h0))) : List Value)) (hb0.ch h (fun h => h)) (by simp only [List.append_assoc, List.cons_append, List.nil_append, List.append_nil]) (by first | rfl | (simp only [List.length_append, List.length_map, List.length_cons, List.length_nil]; done) | (simp only [List.length_append, List.length_map, List.length_cons, List.length_nil, List.size_toArray]; done)))) ?_
  refine ws_h rfl rfl rfl rfl (p_ldA (cs := List.map u8v k) Tryd.underlying38 rfl (szL sz38 (by rw [List.length_map]; exact hk)) rfl (fun _ h => (rngL (hb4.ch h (fun h => h))))) ?_
  refine ws_e rfl rfl (e_call ent36 rfl rfl (apart_any (hk0) (hk)) ?_)
  rintro _ w4 ⟨rfl, hc⟩
  refine ⟨_, rfl, hc, ?_⟩
  have hzw4 := hc.size
  have HC := HC.tr hc
  have hb0 := hb0.ch hc (fun h => h)
  first | have hX := hX.no hc | have hX := hX.ch hc (by intro k1 hk1 hF1 ht1; first | omega | (have hq1 := hXl _ hF1; omega) | (rcases hF1 with hF1 | hF1 <;> first | omega | (have hq1 := hXl _ hF1; omega)))
  first | have hXx := hXx.no hc | have hXx := hXx.ch hc (by intro k1 hk1 hF1 ht1; first | omega | (have hq1 := hXlx _ hF1; omega) | (rcases hF1 with hF1 | hF1 <;> first | omega | (have hq1 := hXlx _ hF1; omega)))
  first | have hXy := hXy.no hc | have hXy := hXy.ch hc (by intro k1 hk1 hF1 ht1; first | omega | (have hq1 := hXly _ hF1; omega) | (rcases hF1 with hF1 | hF1 <;> first | omega | (have hq1 := hXly _ hF1; omega)))
  have hb4 := hb4.ch hc (fun h => h)
  have hb5 := hb5.ch hc (fun h => h)
  refine ws_narrow (S' := fun x => Ch No w4 x) (Ch.refl _ _) (fun x h => hc.tr h) ?_
  refine ws_p rfl rfl rfl rfl (p_as rfl) ?_
  refine ws_n ?_
  refine x_seq ?_
  refine wc_seq ?_
  refine wc_seq ?_
  refine wc_region ?_
  refine wl rfl rfl rfl (p_mv rfl) ?_
  refine wl rfl rfl rfl (p_mv rfl) ?_
  refine wl rfl rfl rfl (p_nck rfl) ?_
  refine wl rfl rfl rfl (p_fld (j := 0) Tryd.underlying156 rfl ⟨_, by rfl⟩ rfl rfl) ?_
  refine wl rfl rfl rfl (p_ld Tryd.underlying3 rfl rfl (ld (cell_at (p := []) (v := (i64 (b : Int) : Value)) (r := (([ndp x.adr, ndp y.adr] ++ ((List.map u8v x.er.key) ++ ((List.map u8v zeroH) ++ ([i64 ((x.er.cnt + y.er.cnt : Nat) : Int), .int .u32 (d0 : Int), .int .i32 0, .int .u32 0] ++ (List.map u8v h0))))) : List Value)) hb0 (by simp only [List.append_assoc, List.cons_append, List.nil_append, List.append_nil]) (by first | rfl | (simp only [List.length_append, List.length_map, List.length_cons, List.length_nil]; done) | (simp only [List.length_append, List.length_map, List.length_cons, List.length_nil, List.size_toArray]; done))))) ?_
  refine wl rfl rfl rfl (p_ge rfl rfl) ?_
  refine wl_nil ?_
  refine x_seq ?_
  refine wc_if rfl (fun c1 => ?_) (fun c1 => ?_)
  ·
    have c1 := of_decide_eq_true c1
    refine wc_seq ?_
    refine wc_seq ?_
    refine wc_region ?_
    refine wl rfl rfl rfl (p_mv rfl) ?_
    refine wl rfl rfl rfl (p_nck rfl) ?_
    refine wl rfl rfl rfl (p_fld (j := 0) Tryd.underlying156 rfl ⟨_, by rfl⟩ rfl rfl) ?_
    refine wl rfl rfl rfl (p_ld Tryd.underlying3 rfl rfl (ld (cell_at (p := []) (v := (i64 (b : Int) : Value)) (r := (([ndp x.adr, ndp y.adr] ++ ((List.map u8v x.er.key) ++ ((List.map u8v zeroH) ++ ([i64 ((x.er.cnt + y.er.cnt : Nat) : Int), .int .u32 (d0 : Int), .int .i32 0, .int .u32 0] ++ (List.map u8v h0))))) : List Value)) hb0 (by simp only [List.append_assoc, List.cons_append, List.nil_append, List.append_nil]) (by first | rfl | (simp only [List.length_append, List.length_map, List.length_cons, List.length_nil]; done) | (simp only [List.length_append, List.length_map, List.length_cons, List.length_nil, List.size_toArray]; done))))) ?_
    refine wl rfl rfl rfl (p_eq rfl rfl) ?_
    refine wl_nil ?_
    refine x_seq ?_
    refine wc_no rfl (decide_eq_false (by omega)) ?_
    refine wc_skip ?_
    refine x_seq ?_
    refine wc_seq ?_
    refine wc_region ?_
    refine wl rfl rfl rfl (p_mv rfl) ?_
    refine wl rfl rfl rfl (p_nck rfl) ?_
    refine wl rfl rfl rfl (p_fld (j := 1) Tryd.underlying156 rfl ⟨_, by rfl⟩ rfl rfl) ?_
    refine wl rfl rfl rfl (p_ldA (cs := [ndp x.adr, ndp y.adr]) Tryd.underlying142 rfl (szL sz142 (by first | rfl | (simp only [List.length_append, List.length_map, List.length_cons, List.length_nil]; done) | (simp only [List.length_append, List.length_map, List.length_cons, List.length_nil, List.size_toArray]; done))) rfl (fun _ e => e ▸ rng_at (p := ([i64 (b : Int)] : List Value)) (q := ([ndp x.adr, ndp y.adr] : List Value)) (r := (((List.map u8v x.er.key) ++ ((List.map u8v zeroH) ++ ([i64 ((x.er.cnt + y.er.cnt : Nat) : Int), .int .u32 (d0 : Int), .int .i32 0, .int .u32 0] ++ (List.map u8v h0)))) : List Value)) hb0 (by simp only [List.append_assoc, List.cons_append, List.nil_append, List.append_nil]) (by first | rfl | (simp only [List.length_append, List.length_map, List.length_cons, List.length_nil]; done) | (simp only [List.length_append, List.length_map, List.length_cons, List.length_nil, List.size_toArray]; done)))) ?_
    have hltg0 := hb0.lt
    have hltg4 := hb4.lt
    have hltg5 := hb5.lt
    refine wle rfl (e_alloc (cs := ([Value.pointer none, Value.pointer none] : List Value).toArray) rfl (by rfl) rfl (fun w5 g8 hg8 hb8 hc hsz8 => ?_))
    have hzw5 := hc.size
    have HC := HC.tr hc
    have hb0 := hb0.ch hc (fun h => h)
    first | have hX := hX.no hc | have hX := hX.ch hc (by intro k1 hk1 hF1 ht1; first | omega | (have hq1 := hXl _ hF1; omega) | (rcases hF1 with hF1 | hF1 <;> first | omega | (have hq1 := hXl _ hF1; omega)))
    first | have hXx := hXx.no hc | have hXx := hXx.ch hc (by intro k1 hk1 hF1 ht1; first | omega | (have hq1 := hXlx _ hF1; omega) | (rcases hF1 with hF1 | hF1 <;> first | omega | (have hq1 := hXlx _ hF1; omega)))
    first | have hXy := hXy.no hc | have hXy := hXy.ch hc (by intro k1 hk1 hF1 ht1; first | omega | (have hq1 := hXly _ hF1; omega) | (rcases hF1 with hF1 | hF1 <;> first | omega | (have hq1 := hXly _ hF1; omega)))
    have hb4 := hb4.ch hc (fun h => h)
    have hb5 := hb5.ch hc (fun h => h)
    have hge8 : w.heap.size ≤ g8 := by have := HC.size; omega
    have neg0_8 : g0 < g8 := by omega
    have neg4_8 : g4 < g8 := by omega
    have neg5_8 : g5 < g8 := by omega
    refine wle rfl (e_stW (vs := ([ndp x.adr, ndp y.adr] : List Value)) (szL sz142 (by first | rfl | (simp only [List.length_append, List.length_map, List.length_cons, List.length_nil]; done) | (simp only [List.length_append, List.length_map, List.length_cons, List.length_nil, List.size_toArray]; done))) (allOne rfl) rfl rfl hb8 (by first | rfl | (simp only [List.length_append, List.length_map, List.length_cons, List.length_nil]; done) | (simp only [List.length_append, List.length_map, List.length_cons, List.length_nil, List.size_toArray]; done)) (fun w6 hb8 hc hsz => ?_))
    have hzw6 := hc.size
    have HC := HC.trans hc (fun _ _ h => h) (fun k hk ht => absurd ht (by omega))
    have hb0 := hb0.ch hc (by omega)
    first | have hX := hX.no hc | have hX := hX.ch hc (by intro k1 hk1 hF1 ht1; first | omega | (have hq1 := hXl _ hF1; omega) | (rcases hF1 with hF1 | hF1 <;> first | omega | (have hq1 := hXl _ hF1; omega)))
    first | have hXx := hXx.no hc | have hXx := hXx.ch hc (by intro k1 hk1 hF1 ht1; first | omega | (have hq1 := hXlx _ hF1; omega) | (rcases hF1 with hF1 | hF1 <;> first | omega | (have hq1 := hXlx _ hF1; omega)))
    first | have hXy := hXy.no hc | have hXy := hXy.ch hc (by intro k1 hk1 hF1 ht1; first | omega | (have hq1 := hXly _ hF1; omega) | (rcases hF1 with hF1 | hF1 <;> first | omega | (have hq1 := hXly _ hF1; omega)))
    have hb4 := hb4.ch hc (by omega)
    have hb5 := hb5.ch hc (by omega)
    refine wl_nil ?_
    refine x_seq ?_
    refine wc_seq ?_
    refine wc_draw (.st 0 1 (.st 1 0 (.st 2 0 (.st 3 0 (.st 4 1 (.st 5 2 (.st 6 0 .nil))))))) 7 (by kernel_rfl) (by kernel_rfl) (by kernel_rfl) (by repeat (first | with_reducible exact pan_body | with_reducible apply pan_then | with_reducible apply pan_in)) (fun x => Ch No w6.drew x) (Ch.refl _ _) ?_
    obtain ⟨w7, ew7⟩ : ∃ x, x = w6.drew := ⟨_, rfl⟩
    rw [← ew7]
    have hc : Ch No w6 w7 := by rw [ew7]; exact Ch.drew _
    have hszw7 : w7.heap.size = w6.heap.size := by rw [ew7]; rfl
    clear ew7
    have hzw7 := hc.size
    have HC := HC.tr hc
    have hb0 := hb0.ch hc (fun h => h)
    first | have hX := hX.no hc | have hX := hX.ch hc (by intro k1 hk1 hF1 ht1; first | omega | (have hq1 := hXl _ hF1; omega) | (rcases hF1 with hF1 | hF1 <;> first | omega | (have hq1 := hXl _ hF1; omega)))
    first | have hXx := hXx.no hc | have hXx := hXx.ch hc (by intro k1 hk1 hF1 ht1; first | omega | (have hq1 := hXlx _ hF1; omega) | (rcases hF1 with hF1 | hF1 <;> first | omega | (have hq1 := hXlx _ hF1; omega)))
    first | have hXy := hXy.no hc | have hXy := hXy.ch hc (by intro k1 hk1 hF1 ht1; first | omega | (have hq1 := hXly _ hF1; omega) | (rcases hF1 with hF1 | hF1 <;> first | omega | (have hq1 := hXly _ hF1; omega)))
    have hb4 := hb4.ch hc (fun h => h)
    have hb5 := hb5.ch hc (fun h => h)
    have hb8 := hb8.ch hc (fun h => h)
    have hS : Ch No w7 w7 := Ch.refl _ _
    refine ws_h rfl rfl rfl rfl (p_ldA (cs := List.map u8v k) Tryd.underlying38 rfl (szL sz38 (by rw [List.length_map]; exact hk)) rfl (fun _ h => (rngL (hb4.ch h (fun h => h))))) ?_
    refine ws_p rfl rfl rfl rfl (p_mv rfl) ?_
    refine ws_p rfl rfl rfl rfl (p_nck rfl) ?_
    refine ws_p rfl rfl rfl rfl (p_fld (j := 0) Tryd.underlying156 rfl ⟨_, by rfl⟩ rfl rfl) ?_
    refine ws_h rfl rfl rfl rfl (p_ld Tryd.underlying3 rfl rfl (fun _ h => h.cell (fun h => h) (cell_at (p := []) (v := (i64 (b : Int) : Value)) (r := (([ndp x.adr, ndp y.adr] ++ ((List.map u8v x.er.key) ++ ((List.map u8v zeroH) ++ ([i64 ((x.er.cnt + y.er.cnt : Nat) : Int), .int .u32 (d0 : Int), .int .i32 0, .int .u32 0] ++ (List.map u8v h0))))) : List Value)) hb0 (by simp only [List.append_assoc, List.cons_append, List.nil_append, List.append_nil]) (by first | rfl | (simp only [List.length_append, List.length_map, List.length_cons, List.length_nil]; done) | (simp only [List.length_append, List.length_map, List.length_cons, List.length_nil, List.size_toArray]; done))))) ?_
    refine ws_e rfl rfl (e_call ent38 rfl rfl (bitS (hk)) ?_)
    rintro _ w8 ⟨s46, rfl, hs46, hsl46, hc⟩
    refine ⟨_, rfl, hc, ?_⟩
    have hzw8 := hc.size
    have HC := HC.tr hc
    have hb0 := hb0.ch hc (fun h => h)
    first | have hX := hX.no hc | have hX := hX.ch hc (by intro k1 hk1 hF1 ht1; first | omega | (have hq1 := hXl _ hF1; omega) | (rcases hF1 with hF1 | hF1 <;> first | omega | (have hq1 := hXl _ hF1; omega)))
    first | have hXx := hXx.no hc | have hXx := hXx.ch hc (by intro k1 hk1 hF1 ht1; first | omega | (have hq1 := hXlx _ hF1; omega) | (rcases hF1 with hF1 | hF1 <;> first | omega | (have hq1 := hXlx _ hF1; omega)))
    first | have hXy := hXy.no hc | have hXy := hXy.ch hc (by intro k1 hk1 hF1 ht1; first | omega | (have hq1 := hXly _ hF1; omega) | (rcases hF1 with hF1 | hF1 <;> first | omega | (have hq1 := hXly _ hF1; omega)))
    have hb4 := hb4.ch hc (fun h => h)
    have hb5 := hb5.ch hc (fun h => h)
    have hb8 := hb8.ch hc (fun h => h)
    refine ws_narrow (S' := fun x => Ch No w8 x) (Ch.refl _ _) (fun x h => hc.tr h) ?_
    refine ws_p rfl rfl rfl rfl (p_as rfl) ?_
    refine ws_n ?_
    refine x_seq ?_
    refine wc_seq ?_
    obtain rfl | rfl : s46 = 0 ∨ s46 = 1 := by omega
    ·
      refine wc_draw (.st 0 0 (.st 1 0 (.st 2 0 (.st 3 1 (.st 4 1 (.st 5 1 (.st 6 2 (.st 7 0 (.st 8 3 .nil))))))))) 8 (by kernel_rfl) (by kernel_rfl) (by kernel_rfl) (by repeat (first | with_reducible exact pan_body | with_reducible apply pan_then | with_reducible apply pan_in)) (fun x => Ch No w8.drew x) (Ch.refl _ _) ?_
      obtain ⟨w9, ew9⟩ : ∃ x, x = w8.drew := ⟨_, rfl⟩
      rw [← ew9]
      have hc : Ch No w8 w9 := by rw [ew9]; exact Ch.drew _
      have hszw9 : w9.heap.size = w8.heap.size := by rw [ew9]; rfl
      clear ew9
      have hzw9 := hc.size
      have HC := HC.tr hc
      have hb0 := hb0.ch hc (fun h => h)
      first | have hX := hX.no hc | have hX := hX.ch hc (by intro k1 hk1 hF1 ht1; first | omega | (have hq1 := hXl _ hF1; omega) | (rcases hF1 with hF1 | hF1 <;> first | omega | (have hq1 := hXl _ hF1; omega)))
      first | have hXx := hXx.no hc | have hXx := hXx.ch hc (by intro k1 hk1 hF1 ht1; first | omega | (have hq1 := hXlx _ hF1; omega) | (rcases hF1 with hF1 | hF1 <;> first | omega | (have hq1 := hXlx _ hF1; omega)))
      first | have hXy := hXy.no hc | have hXy := hXy.ch hc (by intro k1 hk1 hF1 ht1; first | omega | (have hq1 := hXly _ hF1; omega) | (rcases hF1 with hF1 | hF1 <;> first | omega | (have hq1 := hXly _ hF1; omega)))
      have hb4 := hb4.ch hc (fun h => h)
      have hb5 := hb5.ch hc (fun h => h)
      have hb8 := hb8.ch hc (fun h => h)
      have hS : Ch No w9 w9 := Ch.refl _ _
      refine ws_p rfl rfl rfl rfl (p_mv rfl) ?_
      refine ws_p rfl rfl rfl rfl (p_mv rfl) ?_
      refine ws_p rfl rfl rfl rfl (p_ixA (j := 0) Tryd.underlying142 sz39 rfl rfl (by omega) (by omega) rfl) ?_
      refine ws_h rfl rfl rfl rfl (p_ld Tryd.underlying39 rfl rfl (fun _ h => h.cell (fun h => h) (cell_at (p := []) (v := (ndp x.adr : Value)) (r := ([ndp y.adr] : List Value)) hb8 (by simp only [List.append_assoc, List.cons_append, List.nil_append, List.append_nil]) (by first | rfl | (simp only [List.length_append, List.length_map, List.length_cons, List.length_nil]; done) | (simp only [List.length_append, List.length_map, List.length_cons, List.length_nil, List.size_toArray]; done))))) ?_
      refine ws_h rfl rfl rfl rfl (p_ldA (cs := List.map u8v k) Tryd.underlying38 rfl (szL sz38 (by rw [List.length_map]; exact hk)) rfl (fun _ h => (rngL (hb4.ch h (fun h => h))))) ?_
      refine ws_h rfl rfl rfl rfl (p_ldA (cs := List.map u8v u) Tryd.underlying38 rfl (szL sz38 (by rw [List.length_map]; exact hu)) rfl (fun _ h => (rngL (hb5.ch h (fun h => h))))) ?_
      refine ws_e rfl rfl (e_call ent83 rfl rfl (IHx hXx.at_ (hk) (hu) (by omega)) ?_)
      rintro _ w11 ⟨t53, rfl, het53, hL53, hc⟩
      refine ⟨_, rfl, hc, ?_⟩
      have hzw11 := hc.size
      have HC := HC.tr hc
      have hb0 := hb0.ch hc (fun h => h)
      first | have hX := hX.no hc | have hX := hX.ch hc (by intro k1 hk1 hF1 ht1; first | omega | (have hq1 := hXl _ hF1; omega) | (rcases hF1 with hF1 | hF1 <;> first | omega | (have hq1 := hXl _ hF1; omega)))
      first | have hXx := hXx.no hc | have hXx := hXx.ch hc (by intro k1 hk1 hF1 ht1; first | omega | (have hq1 := hXlx _ hF1; omega) | (rcases hF1 with hF1 | hF1 <;> first | omega | (have hq1 := hXlx _ hF1; omega)))
      first | have hXy := hXy.no hc | have hXy := hXy.ch hc (by intro k1 hk1 hF1 ht1; first | omega | (have hq1 := hXly _ hF1; omega) | (rcases hF1 with hF1 | hF1 <;> first | omega | (have hq1 := hXly _ hF1; omega)))
      have hb4 := hb4.ch hc (fun h => h)
      have hb5 := hb5.ch hc (fun h => h)
      have hb8 := hb8.ch hc (fun h => h)
      have hcl53 : t53.er.cnt ≤ x.er.cnt + 1 := by rw [het53]; exact Tr.put_cnt
      refine ws_narrow (S' := fun x => Ch No w11 x) (Ch.refl _ _) (fun x h => hc.tr h) ?_
      refine ws_p rfl rfl rfl rfl (p_ixA (j := 0) Tryd.underlying142 sz39 rfl rfl (by omega) (by omega) rfl) ?_
      refine ws_l rfl rfl (e_stC (p := []) (u := (ndp x.adr : Value)) (r := ([ndp y.adr] : List Value)) (v := ndp t53.adr) (by rfl) rfl rfl rfl hb8 (by simp only [List.append_assoc, List.cons_append, List.nil_append, List.append_nil]) (by first | rfl | (simp only [List.length_append, List.length_map, List.length_cons, List.length_nil]; done) | (simp only [List.length_append, List.length_map, List.length_cons, List.length_nil, List.size_toArray]; done)) (fun w13 hb8 hc hsz => ?_))
      have hb8 : Blk w13 g8 142 ([ndp t53.adr, ndp y.adr] : List Value).toArray := by have h := hb8; simp only [List.append_assoc, List.cons_append, List.nil_append, List.append_nil] at h ⊢; exact h
      have hzw13 := hc.size
      have HC := HC.trans hc (fun _ _ h => h) (fun k hk ht => absurd ht (by omega))
      have hb0 := hb0.ch hc (by omega)
      first | have hX := hX.no hc | have hX := hX.ch hc (by intro k1 hk1 hF1 ht1; first | omega | (have hq1 := hXl _ hF1; omega) | (rcases hF1 with hF1 | hF1 <;> first | omega | (have hq1 := hXl _ hF1; omega)))
      first | have hXx := hXx.no hc | have hXx := hXx.ch hc (by intro k1 hk1 hF1 ht1; first | omega | (have hq1 := hXlx _ hF1; omega) | (rcases hF1 with hF1 | hF1 <;> first | omega | (have hq1 := hXlx _ hF1; omega)))
      first | have hXy := hXy.no hc | have hXy := hXy.ch hc (by intro k1 hk1 hF1 ht1; first | omega | (have hq1 := hXly _ hF1; omega) | (rcases hF1 with hF1 | hF1 <;> first | omega | (have hq1 := hXly _ hF1; omega)))
      have hb4 := hb4.ch hc (by omega)
      have hb5 := hb5.ch hc (by omega)
      first | have hL53 := hL53.no hc | have hL53 := hL53.ch hc (by intro k1 hk1 hF1 ht1; first | omega | (have hq1 := hXlx _ hF1; omega) | (rcases hF1 with hF1 | hF1 <;> first | omega | (have hq1 := hXlx _ hF1; omega)))
      refine ws_n ?_
      refine x_seq ?_
      refine wc_seq ?_
      refine wc_draw (.st 0 0 (.st 1 0 (.st 2 0 (.st 3 1 (.st 4 1 (.st 5 2 (.st 6 0 .nil))))))) 7 (by kernel_rfl) (by kernel_rfl) (by kernel_rfl) (by repeat (first | with_reducible exact pan_body | with_reducible apply pan_then | with_reducible apply pan_in)) (fun x => Ch No w13.drew x) (Ch.refl _ _) ?_
      obtain ⟨w14, ew14⟩ : ∃ x, x = w13.drew := ⟨_, rfl⟩
      rw [← ew14]
      have hc : Ch No w13 w14 := by rw [ew14]; exact Ch.drew _
      have hszw14 : w14.heap.size = w13.heap.size := by rw [ew14]; rfl
      clear ew14
      have hzw14 := hc.size
      have HC := HC.tr hc
      have hb0 := hb0.ch hc (fun h => h)
      first | have hX := hX.no hc | have hX := hX.ch hc (by intro k1 hk1 hF1 ht1; first | omega | (have hq1 := hXl _ hF1; omega) | (rcases hF1 with hF1 | hF1 <;> first | omega | (have hq1 := hXl _ hF1; omega)))
      first | have hXx := hXx.no hc | have hXx := hXx.ch hc (by intro k1 hk1 hF1 ht1; first | omega | (have hq1 := hXlx _ hF1; omega) | (rcases hF1 with hF1 | hF1 <;> first | omega | (have hq1 := hXlx _ hF1; omega)))
      first | have hXy := hXy.no hc | have hXy := hXy.ch hc (by intro k1 hk1 hF1 ht1; first | omega | (have hq1 := hXly _ hF1; omega) | (rcases hF1 with hF1 | hF1 <;> first | omega | (have hq1 := hXly _ hF1; omega)))
      have hb4 := hb4.ch hc (fun h => h)
      have hb5 := hb5.ch hc (fun h => h)
      have hb8 := hb8.ch hc (fun h => h)
      first | have hL53 := hL53.no hc | have hL53 := hL53.ch hc (by intro k1 hk1 hF1 ht1; first | omega | (have hq1 := hXlx _ hF1; omega) | (rcases hF1 with hF1 | hF1 <;> first | omega | (have hq1 := hXlx _ hF1; omega)))
      have hS : Ch No w14 w14 := Ch.refl _ _
      refine ws_p rfl rfl rfl rfl (p_mv rfl) ?_
      refine ws_p rfl rfl rfl rfl (p_nck rfl) ?_
      refine ws_p rfl rfl rfl rfl (p_fld (j := 0) Tryd.underlying156 rfl ⟨_, by rfl⟩ rfl rfl) ?_
      refine ws_h rfl rfl rfl rfl (p_ld Tryd.underlying3 rfl rfl (fun _ h => h.cell (fun h => h) (cell_at (p := []) (v := (i64 (b : Int) : Value)) (r := (([ndp x.adr, ndp y.adr] ++ ((List.map u8v x.er.key) ++ ((List.map u8v zeroH) ++ ([i64 ((x.er.cnt + y.er.cnt : Nat) : Int), .int .u32 (d0 : Int), .int .i32 0, .int .u32 0] ++ (List.map u8v h0))))) : List Value)) hb0 (by simp only [List.append_assoc, List.cons_append, List.nil_append, List.append_nil]) (by first | rfl | (simp only [List.length_append, List.length_map, List.length_cons, List.length_nil]; done) | (simp only [List.length_append, List.length_map, List.length_cons, List.length_nil, List.size_toArray]; done))))) ?_
      refine ws_h rfl rfl rfl rfl (p_ldA (cs := ([ndp t53.adr, ndp y.adr] : List Value)) Tryd.underlying142 rfl (szL sz142 (by first | rfl | (simp only [List.length_append, List.length_map, List.length_cons, List.length_nil]; done) | (simp only [List.length_append, List.length_map, List.length_cons, List.length_nil, List.size_toArray]; done))) rfl (fun _ h => (rngL (hb8.ch h (fun h => h))))) ?_
      refine ws_e rfl rfl (e_call ent106 rfl rfl (fork_at (b := _) hL53.at_ hXy.at_ rfl rfl (by omega) (by omega)) ?_)
      rintro _ w15 ⟨g60, rfl, hL60, hc⟩
      refine ⟨_, rfl, hc, ?_⟩
      have hzw15 := hc.size
      have HC := HC.tr hc
      have hb0 := hb0.ch hc (fun h => h)
      first | have hX := hX.no hc | have hX := hX.ch hc (by intro k1 hk1 hF1 ht1; first | omega | (have hq1 := hXl _ hF1; omega) | (rcases hF1 with hF1 | hF1 <;> first | omega | (have hq1 := hXl _ hF1; omega)))
      first | have hXx := hXx.no hc | have hXx := hXx.ch hc (by intro k1 hk1 hF1 ht1; first | omega | (have hq1 := hXlx _ hF1; omega) | (rcases hF1 with hF1 | hF1 <;> first | omega | (have hq1 := hXlx _ hF1; omega)))
      first | have hXy := hXy.no hc | have hXy := hXy.ch hc (by intro k1 hk1 hF1 ht1; first | omega | (have hq1 := hXly _ hF1; omega) | (rcases hF1 with hF1 | hF1 <;> first | omega | (have hq1 := hXly _ hF1; omega)))
      have hb4 := hb4.ch hc (fun h => h)
      have hb5 := hb5.ch hc (fun h => h)
      have hb8 := hb8.ch hc (fun h => h)
      first | have hL53 := hL53.no hc | have hL53 := hL53.ch hc (by intro k1 hk1 hF1 ht1; first | omega | (have hq1 := hXlx _ hF1; omega) | (rcases hF1 with hF1 | hF1 <;> first | omega | (have hq1 := hXlx _ hF1; omega)))
      refine ws_narrow (S' := fun x => Ch No w15 x) (Ch.refl _ _) (fun x h => hc.tr h) ?_
      refine ws_p rfl rfl rfl rfl (p_as rfl) ?_
      refine ws_n ?_
      refine x_seq ?_
      refine wc_ret ?_
      refine x_then_ret ?_
      refine fin_run ((res1 rfl rfl)) ?_
      first | (exact ⟨.fork g60 b t53 y, rfl, by show Tr.fork b t53.er y.er = _; rw [Tr.put, if_pos (by omega), if_pos hs46, het53], hL60.mono (fun j _ h => by rcases h with h | h | h <;> first | exact .inl h | (left; simp [LT.ads, h]; done) | (right; omega) | (right; have := hL53.2 j h; omega) | (rcases hL53.2 j h with h | h <;> first | (left; simp [LT.ads, h]; done) | (right; omega))), HC⟩) | (exact ⟨.fork g60 b x t53, rfl, by show Tr.fork b x.er t53.er = _; rw [Tr.put, if_pos (by omega), if_neg (by omega), het53], hL60.mono (fun j _ h => by rcases h with h | h | h <;> first | exact .inl h | (left; simp [LT.ads, h]; done) | (right; omega) | (right; have := hL53.2 j h; omega) | (rcases hL53.2 j h with h | h <;> first | (left; simp [LT.ads, h]; done) | (right; omega))), HC⟩) | (exact ⟨.fork g75 (apartK x.er.key k) (.leaf g69 k u) (.fork g0 b x y), rfl, by rw [Tr.put, if_neg (by omega), hs63]; rfl, hL75.mono (fun j _ h => by rcases h with h | h | h <;> first | exact .inl h | (left; simp [LT.ads, h]; done) | (right; omega) | (right; have := hL69.2 j h; omega) | (rcases hL69.2 j h with h | h <;> first | (left; simp [LT.ads, h]; done) | (right; omega))), HC⟩) | (exact ⟨.fork g75 (apartK x.er.key k) (.fork g0 b x y) (.leaf g69 k u), rfl, by rw [Tr.put, if_neg (by omega), hs63]; rfl, hL75.mono (fun j _ h => by rcases h with h | h | h <;> first | exact .inl h | (left; simp [LT.ads, h]; done) | (right; omega) | (right; have := hL69.2 j h; omega) | (rcases hL69.2 j h with h | h <;> first | (left; simp [LT.ads, h]; done) | (right; omega))), HC⟩)
    ·
      refine wc_draw (.st 0 0 (.st 1 0 (.st 2 0 (.st 3 1 (.st 4 1 (.st 5 1 (.st 6 2 (.st 7 0 (.st 8 3 .nil))))))))) 8 (by kernel_rfl) (by kernel_rfl) (by kernel_rfl) (by repeat (first | with_reducible exact pan_body | with_reducible apply pan_then | with_reducible apply pan_in)) (fun x => Ch No w8.drew x) (Ch.refl _ _) ?_
      obtain ⟨w16, ew16⟩ : ∃ x, x = w8.drew := ⟨_, rfl⟩
      rw [← ew16]
      have hc : Ch No w8 w16 := by rw [ew16]; exact Ch.drew _
      have hszw16 : w16.heap.size = w8.heap.size := by rw [ew16]; rfl
      clear ew16
      have hzw16 := hc.size
      have HC := HC.tr hc
      have hb0 := hb0.ch hc (fun h => h)
      first | have hX := hX.no hc | have hX := hX.ch hc (by intro k1 hk1 hF1 ht1; first | omega | (have hq1 := hXl _ hF1; omega) | (rcases hF1 with hF1 | hF1 <;> first | omega | (have hq1 := hXl _ hF1; omega)))
      first | have hXx := hXx.no hc | have hXx := hXx.ch hc (by intro k1 hk1 hF1 ht1; first | omega | (have hq1 := hXlx _ hF1; omega) | (rcases hF1 with hF1 | hF1 <;> first | omega | (have hq1 := hXlx _ hF1; omega)))
      first | have hXy := hXy.no hc | have hXy := hXy.ch hc (by intro k1 hk1 hF1 ht1; first | omega | (have hq1 := hXly _ hF1; omega) | (rcases hF1 with hF1 | hF1 <;> first | omega | (have hq1 := hXly _ hF1; omega)))
      have hb4 := hb4.ch hc (fun h => h)
      have hb5 := hb5.ch hc (fun h => h)
      have hb8 := hb8.ch hc (fun h => h)
      have hS : Ch No w16 w16 := Ch.refl _ _
      refine ws_p rfl rfl rfl rfl (p_mv rfl) ?_
      refine ws_p rfl rfl rfl rfl (p_mv rfl) ?_
      refine ws_p rfl rfl rfl rfl (p_ixA (j := 1) Tryd.underlying142 sz39 rfl rfl (by omega) (by omega) rfl) ?_
      refine ws_h rfl rfl rfl rfl (p_ld Tryd.underlying39 rfl rfl (fun _ h => h.cell (fun h => h) (cell_at (p := ([ndp x.adr] : List Value)) (v := (ndp y.adr : Value)) (r := []) hb8 (by simp only [List.append_assoc, List.cons_append, List.nil_append, List.append_nil]) (by first | rfl | (simp only [List.length_append, List.length_map, List.length_cons, List.length_nil]; done) | (simp only [List.length_append, List.length_map, List.length_cons, List.length_nil, List.size_toArray]; done))))) ?_
      refine ws_h rfl rfl rfl rfl (p_ldA (cs := List.map u8v k) Tryd.underlying38 rfl (szL sz38 (by rw [List.length_map]; exact hk)) rfl (fun _ h => (rngL (hb4.ch h (fun h => h))))) ?_
      refine ws_h rfl rfl rfl rfl (p_ldA (cs := List.map u8v u) Tryd.underlying38 rfl (szL sz38 (by rw [List.length_map]; exact hu)) rfl (fun _ h => (rngL (hb5.ch h (fun h => h))))) ?_
      refine ws_e rfl rfl (e_call ent83 rfl rfl (IHy hXy.at_ (hk) (hu) (by omega)) ?_)
      rintro _ w18 ⟨t53, rfl, het53, hL53, hc⟩
      refine ⟨_, rfl, hc, ?_⟩
      have hzw18 := hc.size
      have HC := HC.tr hc
      have hb0 := hb0.ch hc (fun h => h)
      first | have hX := hX.no hc | have hX := hX.ch hc (by intro k1 hk1 hF1 ht1; first | omega | (have hq1 := hXl _ hF1; omega) | (rcases hF1 with hF1 | hF1 <;> first | omega | (have hq1 := hXl _ hF1; omega)))
      first | have hXx := hXx.no hc | have hXx := hXx.ch hc (by intro k1 hk1 hF1 ht1; first | omega | (have hq1 := hXlx _ hF1; omega) | (rcases hF1 with hF1 | hF1 <;> first | omega | (have hq1 := hXlx _ hF1; omega)))
      first | have hXy := hXy.no hc | have hXy := hXy.ch hc (by intro k1 hk1 hF1 ht1; first | omega | (have hq1 := hXly _ hF1; omega) | (rcases hF1 with hF1 | hF1 <;> first | omega | (have hq1 := hXly _ hF1; omega)))
      have hb4 := hb4.ch hc (fun h => h)
      have hb5 := hb5.ch hc (fun h => h)
      have hb8 := hb8.ch hc (fun h => h)
      have hcl53 : t53.er.cnt ≤ y.er.cnt + 1 := by rw [het53]; exact Tr.put_cnt
      refine ws_narrow (S' := fun x => Ch No w18 x) (Ch.refl _ _) (fun x h => hc.tr h) ?_
      refine ws_p rfl rfl rfl rfl (p_ixA (j := 1) Tryd.underlying142 sz39 rfl rfl (by omega) (by omega) rfl) ?_
      refine ws_l rfl rfl (e_stC (p := ([ndp x.adr] : List Value)) (u := (ndp y.adr : Value)) (r := []) (v := ndp t53.adr) (by rfl) rfl rfl rfl hb8 (by simp only [List.append_assoc, List.cons_append, List.nil_append, List.append_nil]) (by first | rfl | (simp only [List.length_append, List.length_map, List.length_cons, List.length_nil]; done) | (simp only [List.length_append, List.length_map, List.length_cons, List.length_nil, List.size_toArray]; done)) (fun w20 hb8 hc hsz => ?_))
      have hb8 : Blk w20 g8 142 ([ndp x.adr, ndp t53.adr] : List Value).toArray := by have h := hb8; simp only [List.append_assoc, List.cons_append, List.nil_append, List.append_nil] at h ⊢; exact h
      have hzw20 := hc.size
      have HC := HC.trans hc (fun _ _ h => h) (fun k hk ht => absurd ht (by omega))
      have hb0 := hb0.ch hc (by omega)
      first | have hX := hX.no hc | have hX := hX.ch hc (by intro k1 hk1 hF1 ht1; first | omega | (have hq1 := hXl _ hF1; omega) | (rcases hF1 with hF1 | hF1 <;> first | omega | (have hq1 := hXl _ hF1; omega)))
      first | have hXx := hXx.no hc | have hXx := hXx.ch hc (by intro k1 hk1 hF1 ht1; first | omega | (have hq1 := hXlx _ hF1; omega) | (rcases hF1 with hF1 | hF1 <;> first | omega | (have hq1 := hXlx _ hF1; omega)))
      first | have hXy := hXy.no hc | have hXy := hXy.ch hc (by intro k1 hk1 hF1 ht1; first | omega | (have hq1 := hXly _ hF1; omega) | (rcases hF1 with hF1 | hF1 <;> first | omega | (have hq1 := hXly _ hF1; omega)))
      have hb4 := hb4.ch hc (by omega)
      have hb5 := hb5.ch hc (by omega)
      first | have hL53 := hL53.no hc | have hL53 := hL53.ch hc (by intro k1 hk1 hF1 ht1; first | omega | (have hq1 := hXly _ hF1; omega) | (rcases hF1 with hF1 | hF1 <;> first | omega | (have hq1 := hXly _ hF1; omega)))
      refine ws_n ?_
      refine x_seq ?_
      refine wc_seq ?_
      refine wc_draw (.st 0 0 (.st 1 0 (.st 2 0 (.st 3 1 (.st 4 1 (.st 5 2 (.st 6 0 .nil))))))) 7 (by kernel_rfl) (by kernel_rfl) (by kernel_rfl) (by repeat (first | with_reducible exact pan_body | with_reducible apply pan_then | with_reducible apply pan_in)) (fun x => Ch No w20.drew x) (Ch.refl _ _) ?_
      obtain ⟨w21, ew21⟩ : ∃ x, x = w20.drew := ⟨_, rfl⟩
      rw [← ew21]
      have hc : Ch No w20 w21 := by rw [ew21]; exact Ch.drew _
      have hszw21 : w21.heap.size = w20.heap.size := by rw [ew21]; rfl
      clear ew21
      have hzw21 := hc.size
      have HC := HC.tr hc
      have hb0 := hb0.ch hc (fun h => h)
      first | have hX := hX.no hc | have hX := hX.ch hc (by intro k1 hk1 hF1 ht1; first | omega | (have hq1 := hXl _ hF1; omega) | (rcases hF1 with hF1 | hF1 <;> first | omega | (have hq1 := hXl _ hF1; omega)))
      first | have hXx := hXx.no hc | have hXx := hXx.ch hc (by intro k1 hk1 hF1 ht1; first | omega | (have hq1 := hXlx _ hF1; omega) | (rcases hF1 with hF1 | hF1 <;> first | omega | (have hq1 := hXlx _ hF1; omega)))
      first | have hXy := hXy.no hc | have hXy := hXy.ch hc (by intro k1 hk1 hF1 ht1; first | omega | (have hq1 := hXly _ hF1; omega) | (rcases hF1 with hF1 | hF1 <;> first | omega | (have hq1 := hXly _ hF1; omega)))
      have hb4 := hb4.ch hc (fun h => h)
      have hb5 := hb5.ch hc (fun h => h)
      have hb8 := hb8.ch hc (fun h => h)
      first | have hL53 := hL53.no hc | have hL53 := hL53.ch hc (by intro k1 hk1 hF1 ht1; first | omega | (have hq1 := hXly _ hF1; omega) | (rcases hF1 with hF1 | hF1 <;> first | omega | (have hq1 := hXly _ hF1; omega)))
      have hS : Ch No w21 w21 := Ch.refl _ _
      refine ws_p rfl rfl rfl rfl (p_mv rfl) ?_
      refine ws_p rfl rfl rfl rfl (p_nck rfl) ?_
      refine ws_p rfl rfl rfl rfl (p_fld (j := 0) Tryd.underlying156 rfl ⟨_, by rfl⟩ rfl rfl) ?_
      refine ws_h rfl rfl rfl rfl (p_ld Tryd.underlying3 rfl rfl (fun _ h => h.cell (fun h => h) (cell_at (p := []) (v := (i64 (b : Int) : Value)) (r := (([ndp x.adr, ndp y.adr] ++ ((List.map u8v x.er.key) ++ ((List.map u8v zeroH) ++ ([i64 ((x.er.cnt + y.er.cnt : Nat) : Int), .int .u32 (d0 : Int), .int .i32 0, .int .u32 0] ++ (List.map u8v h0))))) : List Value)) hb0 (by simp only [List.append_assoc, List.cons_append, List.nil_append, List.append_nil]) (by first | rfl | (simp only [List.length_append, List.length_map, List.length_cons, List.length_nil]; done) | (simp only [List.length_append, List.length_map, List.length_cons, List.length_nil, List.size_toArray]; done))))) ?_
      refine ws_h rfl rfl rfl rfl (p_ldA (cs := ([ndp x.adr, ndp t53.adr] : List Value)) Tryd.underlying142 rfl (szL sz142 (by first | rfl | (simp only [List.length_append, List.length_map, List.length_cons, List.length_nil]; done) | (simp only [List.length_append, List.length_map, List.length_cons, List.length_nil, List.size_toArray]; done))) rfl (fun _ h => (rngL (hb8.ch h (fun h => h))))) ?_
      refine ws_e rfl rfl (e_call ent106 rfl rfl (fork_at (b := _) hXx.at_ hL53.at_ rfl rfl (by omega) (by omega)) ?_)
      rintro _ w22 ⟨g60, rfl, hL60, hc⟩
      refine ⟨_, rfl, hc, ?_⟩
      have hzw22 := hc.size
      have HC := HC.tr hc
      have hb0 := hb0.ch hc (fun h => h)
      first | have hX := hX.no hc | have hX := hX.ch hc (by intro k1 hk1 hF1 ht1; first | omega | (have hq1 := hXl _ hF1; omega) | (rcases hF1 with hF1 | hF1 <;> first | omega | (have hq1 := hXl _ hF1; omega)))
      first | have hXx := hXx.no hc | have hXx := hXx.ch hc (by intro k1 hk1 hF1 ht1; first | omega | (have hq1 := hXlx _ hF1; omega) | (rcases hF1 with hF1 | hF1 <;> first | omega | (have hq1 := hXlx _ hF1; omega)))
      first | have hXy := hXy.no hc | have hXy := hXy.ch hc (by intro k1 hk1 hF1 ht1; first | omega | (have hq1 := hXly _ hF1; omega) | (rcases hF1 with hF1 | hF1 <;> first | omega | (have hq1 := hXly _ hF1; omega)))
      have hb4 := hb4.ch hc (fun h => h)
      have hb5 := hb5.ch hc (fun h => h)
      have hb8 := hb8.ch hc (fun h => h)
      first | have hL53 := hL53.no hc | have hL53 := hL53.ch hc (by intro k1 hk1 hF1 ht1; first | omega | (have hq1 := hXly _ hF1; omega) | (rcases hF1 with hF1 | hF1 <;> first | omega | (have hq1 := hXly _ hF1; omega)))
      refine ws_narrow (S' := fun x => Ch No w22 x) (Ch.refl _ _) (fun x h => hc.tr h) ?_
      refine ws_p rfl rfl rfl rfl (p_as rfl) ?_
      refine ws_n ?_
      refine x_seq ?_
      refine wc_ret ?_
      refine x_then_ret ?_
      refine fin_run ((res1 rfl rfl)) ?_
      first | (exact ⟨.fork g60 b t53 y, rfl, by show Tr.fork b t53.er y.er = _; rw [Tr.put, if_pos (by omega), if_pos hs46, het53], hL60.mono (fun j _ h => by rcases h with h | h | h <;> first | exact .inl h | (left; simp [LT.ads, h]; done) | (right; omega) | (right; have := hL53.2 j h; omega) | (rcases hL53.2 j h with h | h <;> first | (left; simp [LT.ads, h]; done) | (right; omega))), HC⟩) | (exact ⟨.fork g60 b x t53, rfl, by show Tr.fork b x.er t53.er = _; rw [Tr.put, if_pos (by omega), if_neg (by omega), het53], hL60.mono (fun j _ h => by rcases h with h | h | h <;> first | exact .inl h | (left; simp [LT.ads, h]; done) | (right; omega) | (right; have := hL53.2 j h; omega) | (rcases hL53.2 j h with h | h <;> first | (left; simp [LT.ads, h]; done) | (right; omega))), HC⟩) | (exact ⟨.fork g75 (apartK x.er.key k) (.leaf g69 k u) (.fork g0 b x y), rfl, by rw [Tr.put, if_neg (by omega), hs63]; rfl, hL75.mono (fun j _ h => by rcases h with h | h | h <;> first | exact .inl h | (left; simp [LT.ads, h]; done) | (right; omega) | (right; have := hL69.2 j h; omega) | (rcases hL69.2 j h with h | h <;> first | (left; simp [LT.ads, h]; done) | (right; omega))), HC⟩) | (exact ⟨.fork g75 (apartK x.er.key k) (.fork g0 b x y) (.leaf g69 k u), rfl, by rw [Tr.put, if_neg (by omega), hs63]; rfl, hL75.mono (fun j _ h => by rcases h with h | h | h <;> first | exact .inl h | (left; simp [LT.ads, h]; done) | (right; omega) | (right; have := hL69.2 j h; omega) | (rcases hL69.2 j h with h | h <;> first | (left; simp [LT.ads, h]; done) | (right; omega))), HC⟩)
  ·
    have c1 := of_decide_eq_false c1
    refine wc_skip ?_
    refine x_seq ?_
    refine wc_seq ?_
    refine wc_region ?_
    have hltg0 := hb0.lt
    have hltg4 := hb4.lt
    have hltg5 := hb5.lt
    refine wle rfl (e_alloc (cs := ([Value.pointer none, Value.pointer none] : List Value).toArray) rfl (by rfl) rfl (fun w23 g10 hg10 hb10 hc hsz10 => ?_))
    have hzw23 := hc.size
    have HC := HC.tr hc
    have hb0 := hb0.ch hc (fun h => h)
    first | have hX := hX.no hc | have hX := hX.ch hc (by intro k1 hk1 hF1 ht1; first | omega | (have hq1 := hXl _ hF1; omega) | (rcases hF1 with hF1 | hF1 <;> first | omega | (have hq1 := hXl _ hF1; omega)))
    first | have hXx := hXx.no hc | have hXx := hXx.ch hc (by intro k1 hk1 hF1 ht1; first | omega | (have hq1 := hXlx _ hF1; omega) | (rcases hF1 with hF1 | hF1 <;> first | omega | (have hq1 := hXlx _ hF1; omega)))
    first | have hXy := hXy.no hc | have hXy := hXy.ch hc (by intro k1 hk1 hF1 ht1; first | omega | (have hq1 := hXly _ hF1; omega) | (rcases hF1 with hF1 | hF1 <;> first | omega | (have hq1 := hXly _ hF1; omega)))
    have hb4 := hb4.ch hc (fun h => h)
    have hb5 := hb5.ch hc (fun h => h)
    have hge10 : w.heap.size ≤ g10 := by have := HC.size; omega
    have neg0_10 : g0 < g10 := by omega
    have neg4_10 : g4 < g10 := by omega
    have neg5_10 : g5 < g10 := by omega
    refine wl_nil ?_
    refine x_seq ?_
    refine wc_seq ?_
    refine wc_region ?_
    refine wl rfl rfl rfl (p_ldA (cs := List.map u8v k) Tryd.underlying38 rfl (szL sz38 (by rw [List.length_map]; exact hk)) rfl (fun _ e => e ▸ rngL hb4)) ?_
    refine wl rfl rfl rfl (p_mv rfl) ?_
    refine wle rfl (e_call ent38 rfl rfl (bitS (hk)) ?_)
    rintro _ w24 ⟨s63, rfl, hs63, hsl63, hc⟩
    refine ⟨_, rfl, ?_⟩
    have hzw24 := hc.size
    have HC := HC.tr hc
    have hb0 := hb0.ch hc (fun h => h)
    first | have hX := hX.no hc | have hX := hX.ch hc (by intro k1 hk1 hF1 ht1; first | omega | (have hq1 := hXl _ hF1; omega) | (rcases hF1 with hF1 | hF1 <;> first | omega | (have hq1 := hXl _ hF1; omega)))
    first | have hXx := hXx.no hc | have hXx := hXx.ch hc (by intro k1 hk1 hF1 ht1; first | omega | (have hq1 := hXlx _ hF1; omega) | (rcases hF1 with hF1 | hF1 <;> first | omega | (have hq1 := hXlx _ hF1; omega)))
    first | have hXy := hXy.no hc | have hXy := hXy.ch hc (by intro k1 hk1 hF1 ht1; first | omega | (have hq1 := hXly _ hF1; omega) | (rcases hF1 with hF1 | hF1 <;> first | omega | (have hq1 := hXly _ hF1; omega)))
    have hb4 := hb4.ch hc (fun h => h)
    have hb5 := hb5.ch hc (fun h => h)
    have hb10 := hb10.ch hc (fun h => h)
    refine wl rfl rfl rfl (p_as rfl) ?_
    refine wl_nil ?_
    refine x_seq ?_
    refine wc_seq ?_
    obtain rfl | rfl : s63 = 0 ∨ s63 = 1 := by omega
    ·
      refine wc_region ?_
      refine wl rfl rfl rfl (p_mv rfl) ?_
      refine wl rfl rfl rfl (p_mv rfl) ?_
      refine wl rfl rfl rfl (p_sub (Z := 1) rfl rfl (by rw [w64 (by omega)]; rfl)) ?_
      refine wl rfl rfl rfl (p_ldA (cs := List.map u8v k) Tryd.underlying38 rfl (szL sz38 (by rw [List.length_map]; exact hk)) rfl (fun _ e => e ▸ rngL hb4)) ?_
      refine wl rfl rfl rfl (p_ldA (cs := List.map u8v u) Tryd.underlying38 rfl (szL sz38 (by rw [List.length_map]; exact hu)) rfl (fun _ e => e ▸ rngL hb5)) ?_
      refine wle rfl (e_call ent105 rfl rfl (item_any (hk) (hu)) ?_)
      rintro _ w25 ⟨g69, rfl, hL69, hc⟩
      refine ⟨_, rfl, ?_⟩
      have hzw25 := hc.size
      have HC := HC.tr hc
      have hb0 := hb0.ch hc (fun h => h)
      first | have hX := hX.no hc | have hX := hX.ch hc (by intro k1 hk1 hF1 ht1; first | omega | (have hq1 := hXl _ hF1; omega) | (rcases hF1 with hF1 | hF1 <;> first | omega | (have hq1 := hXl _ hF1; omega)))
      first | have hXx := hXx.no hc | have hXx := hXx.ch hc (by intro k1 hk1 hF1 ht1; first | omega | (have hq1 := hXlx _ hF1; omega) | (rcases hF1 with hF1 | hF1 <;> first | omega | (have hq1 := hXlx _ hF1; omega)))
      first | have hXy := hXy.no hc | have hXy := hXy.ch hc (by intro k1 hk1 hF1 ht1; first | omega | (have hq1 := hXly _ hF1; omega) | (rcases hF1 with hF1 | hF1 <;> first | omega | (have hq1 := hXly _ hF1; omega)))
      have hb4 := hb4.ch hc (fun h => h)
      have hb5 := hb5.ch hc (fun h => h)
      have hb10 := hb10.ch hc (fun h => h)
      have hgl69 := hL69.1.lt _ (LT.adr_mem _)
      refine wl rfl rfl rfl (p_mv rfl) ?_
      refine wl rfl rfl rfl (p_ixA (j := 0) Tryd.underlying142 sz39 rfl rfl (by omega) (by omega) rfl) ?_
      refine wle rfl (e_stC (p := []) (u := (Value.pointer none : Value)) (r := ([Value.pointer none] : List Value)) (v := ndp g69) (by rfl) rfl rfl rfl hb10 (by simp only [List.append_assoc, List.cons_append, List.nil_append, List.append_nil]) (by first | rfl | (simp only [List.length_append, List.length_map, List.length_cons, List.length_nil]; done) | (simp only [List.length_append, List.length_map, List.length_cons, List.length_nil, List.size_toArray]; done)) (fun w27 hb10 hc hsz => ?_))
      have hb10 : Blk w27 g10 142 ([ndp g69, Value.pointer none] : List Value).toArray := by have h := hb10; simp only [List.append_assoc, List.cons_append, List.nil_append, List.append_nil] at h ⊢; exact h
      have hzw27 := hc.size
      have HC := HC.trans hc (fun _ _ h => h) (fun k hk ht => absurd ht (by omega))
      have hb0 := hb0.ch hc (by omega)
      first | have hX := hX.no hc | have hX := hX.ch hc (by intro k1 hk1 hF1 ht1; first | omega | (have hq1 := hXl _ hF1; omega) | (rcases hF1 with hF1 | hF1 <;> first | omega | (have hq1 := hXl _ hF1; omega)))
      first | have hXx := hXx.no hc | have hXx := hXx.ch hc (by intro k1 hk1 hF1 ht1; first | omega | (have hq1 := hXlx _ hF1; omega) | (rcases hF1 with hF1 | hF1 <;> first | omega | (have hq1 := hXlx _ hF1; omega)))
      first | have hXy := hXy.no hc | have hXy := hXy.ch hc (by intro k1 hk1 hF1 ht1; first | omega | (have hq1 := hXly _ hF1; omega) | (rcases hF1 with hF1 | hF1 <;> first | omega | (have hq1 := hXly _ hF1; omega)))
      have hb4 := hb4.ch hc (by omega)
      have hb5 := hb5.ch hc (by omega)
      first | have hL69 := hL69.no hc | have hL69 := hL69.ch hc (by intro k1 hk1 hF1 ht1; first | omega | (have hq1 := hXl _ hF1; omega) | (rcases hF1 with hF1 | hF1 <;> first | omega | (have hq1 := hXl _ hF1; omega)))
      refine wl rfl rfl rfl (p_ixA (j := 1) Tryd.underlying142 sz39 rfl rfl (by omega) (by omega) rfl) ?_
      refine wle rfl (e_stC (p := ([ndp g69] : List Value)) (u := (Value.pointer none : Value)) (r := []) (v := ndp g0) (by rfl) rfl rfl rfl hb10 (by simp only [List.append_assoc, List.cons_append, List.nil_append, List.append_nil]) (by first | rfl | (simp only [List.length_append, List.length_map, List.length_cons, List.length_nil]; done) | (simp only [List.length_append, List.length_map, List.length_cons, List.length_nil, List.size_toArray]; done)) (fun w29 hb10 hc hsz => ?_))
      have hb10 : Blk w29 g10 142 ([ndp g69, ndp g0] : List Value).toArray := by have h := hb10; simp only [List.append_assoc, List.cons_append, List.nil_append, List.append_nil] at h ⊢; exact h
      have hzw29 := hc.size
      have HC := HC.trans hc (fun _ _ h => h) (fun k hk ht => absurd ht (by omega))
      have hb0 := hb0.ch hc (by omega)
      first | have hX := hX.no hc | have hX := hX.ch hc (by intro k1 hk1 hF1 ht1; first | omega | (have hq1 := hXl _ hF1; omega) | (rcases hF1 with hF1 | hF1 <;> first | omega | (have hq1 := hXl _ hF1; omega)))
      first | have hXx := hXx.no hc | have hXx := hXx.ch hc (by intro k1 hk1 hF1 ht1; first | omega | (have hq1 := hXlx _ hF1; omega) | (rcases hF1 with hF1 | hF1 <;> first | omega | (have hq1 := hXlx _ hF1; omega)))
      first | have hXy := hXy.no hc | have hXy := hXy.ch hc (by intro k1 hk1 hF1 ht1; first | omega | (have hq1 := hXly _ hF1; omega) | (rcases hF1 with hF1 | hF1 <;> first | omega | (have hq1 := hXly _ hF1; omega)))
      have hb4 := hb4.ch hc (by omega)
      have hb5 := hb5.ch hc (by omega)
      first | have hL69 := hL69.no hc | have hL69 := hL69.ch hc (by intro k1 hk1 hF1 ht1; first | omega | (have hq1 := hXl _ hF1; omega) | (rcases hF1 with hF1 | hF1 <;> first | omega | (have hq1 := hXl _ hF1; omega)))
      refine wl_nil ?_
      refine x_seq ?_
      refine wc_seq ?_
      refine wc_region ?_
      refine wl rfl rfl rfl (p_mv rfl) ?_
      refine wl rfl rfl rfl (p_ldA (cs := ([ndp g69, ndp g0] : List Value)) Tryd.underlying142 rfl (szL sz142 (by first | rfl | (simp only [List.length_append, List.length_map, List.length_cons, List.length_nil]; done) | (simp only [List.length_append, List.length_map, List.length_cons, List.length_nil, List.size_toArray]; done))) rfl (fun _ e => e ▸ rngL hb10)) ?_
      refine wle rfl (e_call ent106 rfl rfl (fork_at (b := apartK x.er.key k) hL69.at_ hX.at_ rfl rfl (by omega) (by simp only [LT.er, Tr.cnt]; omega)) ?_)
      rintro _ w30 ⟨g75, rfl, hL75, hc⟩
      refine ⟨_, rfl, ?_⟩
      have hzw30 := hc.size
      have HC := HC.tr hc
      have hb0 := hb0.ch hc (fun h => h)
      first | have hX := hX.no hc | have hX := hX.ch hc (by intro k1 hk1 hF1 ht1; first | omega | (have hq1 := hXl _ hF1; omega) | (rcases hF1 with hF1 | hF1 <;> first | omega | (have hq1 := hXl _ hF1; omega)))
      first | have hXx := hXx.no hc | have hXx := hXx.ch hc (by intro k1 hk1 hF1 ht1; first | omega | (have hq1 := hXlx _ hF1; omega) | (rcases hF1 with hF1 | hF1 <;> first | omega | (have hq1 := hXlx _ hF1; omega)))
      first | have hXy := hXy.no hc | have hXy := hXy.ch hc (by intro k1 hk1 hF1 ht1; first | omega | (have hq1 := hXly _ hF1; omega) | (rcases hF1 with hF1 | hF1 <;> first | omega | (have hq1 := hXly _ hF1; omega)))
      have hb4 := hb4.ch hc (fun h => h)
      have hb5 := hb5.ch hc (fun h => h)
      have hb10 := hb10.ch hc (fun h => h)
      first | have hL69 := hL69.no hc | have hL69 := hL69.ch hc (by intro k1 hk1 hF1 ht1; first | omega | (have hq1 := hXl _ hF1; omega) | (rcases hF1 with hF1 | hF1 <;> first | omega | (have hq1 := hXl _ hF1; omega)))
      refine wl rfl rfl rfl (p_as rfl) ?_
      refine wl_nil ?_
      refine x_seq ?_
      refine wc_ret ?_
      refine fin_run ((res1 rfl rfl)) ?_
      first | (exact ⟨.fork g60 b t53 y, rfl, by show Tr.fork b t53.er y.er = _; rw [Tr.put, if_pos (by omega), if_pos hs46, het53], hL60.mono (fun j _ h => by rcases h with h | h | h <;> first | exact .inl h | (left; simp [LT.ads, h]; done) | (right; omega) | (right; have := hL53.2 j h; omega) | (rcases hL53.2 j h with h | h <;> first | (left; simp [LT.ads, h]; done) | (right; omega))), HC⟩) | (exact ⟨.fork g60 b x t53, rfl, by show Tr.fork b x.er t53.er = _; rw [Tr.put, if_pos (by omega), if_neg (by omega), het53], hL60.mono (fun j _ h => by rcases h with h | h | h <;> first | exact .inl h | (left; simp [LT.ads, h]; done) | (right; omega) | (right; have := hL53.2 j h; omega) | (rcases hL53.2 j h with h | h <;> first | (left; simp [LT.ads, h]; done) | (right; omega))), HC⟩) | (exact ⟨.fork g75 (apartK x.er.key k) (.leaf g69 k u) (.fork g0 b x y), rfl, by rw [Tr.put, if_neg (by omega), hs63]; rfl, hL75.mono (fun j _ h => by rcases h with h | h | h <;> first | exact .inl h | (left; simp [LT.ads, h]; done) | (right; omega) | (right; have := hL69.2 j h; omega) | (rcases hL69.2 j h with h | h <;> first | (left; simp [LT.ads, h]; done) | (right; omega))), HC⟩) | (exact ⟨.fork g75 (apartK x.er.key k) (.fork g0 b x y) (.leaf g69 k u), rfl, by rw [Tr.put, if_neg (by omega), hs63]; rfl, hL75.mono (fun j _ h => by rcases h with h | h | h <;> first | exact .inl h | (left; simp [LT.ads, h]; done) | (right; omega) | (right; have := hL69.2 j h; omega) | (rcases hL69.2 j h with h | h <;> first | (left; simp [LT.ads, h]; done) | (right; omega))), HC⟩)
    ·
      refine wc_region ?_
      refine wl rfl rfl rfl (p_mv rfl) ?_
      refine wl rfl rfl rfl (p_mv rfl) ?_
      refine wl rfl rfl rfl (p_sub (Z := 0) rfl rfl (by rw [w64 (by omega)]; rfl)) ?_
      refine wl rfl rfl rfl (p_ldA (cs := List.map u8v k) Tryd.underlying38 rfl (szL sz38 (by rw [List.length_map]; exact hk)) rfl (fun _ e => e ▸ rngL hb4)) ?_
      refine wl rfl rfl rfl (p_ldA (cs := List.map u8v u) Tryd.underlying38 rfl (szL sz38 (by rw [List.length_map]; exact hu)) rfl (fun _ e => e ▸ rngL hb5)) ?_
      refine wle rfl (e_call ent105 rfl rfl (item_any (hk) (hu)) ?_)
      rintro _ w31 ⟨g69, rfl, hL69, hc⟩
      refine ⟨_, rfl, ?_⟩
      have hzw31 := hc.size
      have HC := HC.tr hc
      have hb0 := hb0.ch hc (fun h => h)
      first | have hX := hX.no hc | have hX := hX.ch hc (by intro k1 hk1 hF1 ht1; first | omega | (have hq1 := hXl _ hF1; omega) | (rcases hF1 with hF1 | hF1 <;> first | omega | (have hq1 := hXl _ hF1; omega)))
      first | have hXx := hXx.no hc | have hXx := hXx.ch hc (by intro k1 hk1 hF1 ht1; first | omega | (have hq1 := hXlx _ hF1; omega) | (rcases hF1 with hF1 | hF1 <;> first | omega | (have hq1 := hXlx _ hF1; omega)))
      first | have hXy := hXy.no hc | have hXy := hXy.ch hc (by intro k1 hk1 hF1 ht1; first | omega | (have hq1 := hXly _ hF1; omega) | (rcases hF1 with hF1 | hF1 <;> first | omega | (have hq1 := hXly _ hF1; omega)))
      have hb4 := hb4.ch hc (fun h => h)
      have hb5 := hb5.ch hc (fun h => h)
      have hb10 := hb10.ch hc (fun h => h)
      have hgl69 := hL69.1.lt _ (LT.adr_mem _)
      refine wl rfl rfl rfl (p_mv rfl) ?_
      refine wl rfl rfl rfl (p_ixA (j := 1) Tryd.underlying142 sz39 rfl rfl (by omega) (by omega) rfl) ?_
      refine wle rfl (e_stC (p := ([Value.pointer none] : List Value)) (u := (Value.pointer none : Value)) (r := []) (v := ndp g69) (by rfl) rfl rfl rfl hb10 (by simp only [List.append_assoc, List.cons_append, List.nil_append, List.append_nil]) (by first | rfl | (simp only [List.length_append, List.length_map, List.length_cons, List.length_nil]; done) | (simp only [List.length_append, List.length_map, List.length_cons, List.length_nil, List.size_toArray]; done)) (fun w33 hb10 hc hsz => ?_))
      have hb10 : Blk w33 g10 142 ([Value.pointer none, ndp g69] : List Value).toArray := by have h := hb10; simp only [List.append_assoc, List.cons_append, List.nil_append, List.append_nil] at h ⊢; exact h
      have hzw33 := hc.size
      have HC := HC.trans hc (fun _ _ h => h) (fun k hk ht => absurd ht (by omega))
      have hb0 := hb0.ch hc (by omega)
      first | have hX := hX.no hc | have hX := hX.ch hc (by intro k1 hk1 hF1 ht1; first | omega | (have hq1 := hXl _ hF1; omega) | (rcases hF1 with hF1 | hF1 <;> first | omega | (have hq1 := hXl _ hF1; omega)))
      first | have hXx := hXx.no hc | have hXx := hXx.ch hc (by intro k1 hk1 hF1 ht1; first | omega | (have hq1 := hXlx _ hF1; omega) | (rcases hF1 with hF1 | hF1 <;> first | omega | (have hq1 := hXlx _ hF1; omega)))
      first | have hXy := hXy.no hc | have hXy := hXy.ch hc (by intro k1 hk1 hF1 ht1; first | omega | (have hq1 := hXly _ hF1; omega) | (rcases hF1 with hF1 | hF1 <;> first | omega | (have hq1 := hXly _ hF1; omega)))
      have hb4 := hb4.ch hc (by omega)
      have hb5 := hb5.ch hc (by omega)
      first | have hL69 := hL69.no hc | have hL69 := hL69.ch hc (by intro k1 hk1 hF1 ht1; first | omega | (have hq1 := hXl _ hF1; omega) | (rcases hF1 with hF1 | hF1 <;> first | omega | (have hq1 := hXl _ hF1; omega)))
      refine wl rfl rfl rfl (p_ixA (j := 0) Tryd.underlying142 sz39 rfl rfl (by omega) (by omega) rfl) ?_
      refine wle rfl (e_stC (p := []) (u := (Value.pointer none : Value)) (r := ([ndp g69] : List Value)) (v := ndp g0) (by rfl) rfl rfl rfl hb10 (by simp only [List.append_assoc, List.cons_append, List.nil_append, List.append_nil]) (by first | rfl | (simp only [List.length_append, List.length_map, List.length_cons, List.length_nil]; done) | (simp only [List.length_append, List.length_map, List.length_cons, List.length_nil, List.size_toArray]; done)) (fun w35 hb10 hc hsz => ?_))
      have hb10 : Blk w35 g10 142 ([ndp g0, ndp g69] : List Value).toArray := by have h := hb10; simp only [List.append_assoc, List.cons_append, List.nil_append, List.append_nil] at h ⊢; exact h
      have hzw35 := hc.size
      have HC := HC.trans hc (fun _ _ h => h) (fun k hk ht => absurd ht (by omega))
      have hb0 := hb0.ch hc (by omega)
      first | have hX := hX.no hc | have hX := hX.ch hc (by intro k1 hk1 hF1 ht1; first | omega | (have hq1 := hXl _ hF1; omega) | (rcases hF1 with hF1 | hF1 <;> first | omega | (have hq1 := hXl _ hF1; omega)))
      first | have hXx := hXx.no hc | have hXx := hXx.ch hc (by intro k1 hk1 hF1 ht1; first | omega | (have hq1 := hXlx _ hF1; omega) | (rcases hF1 with hF1 | hF1 <;> first | omega | (have hq1 := hXlx _ hF1; omega)))
      first | have hXy := hXy.no hc | have hXy := hXy.ch hc (by intro k1 hk1 hF1 ht1; first | omega | (have hq1 := hXly _ hF1; omega) | (rcases hF1 with hF1 | hF1 <;> first | omega | (have hq1 := hXly _ hF1; omega)))
      have hb4 := hb4.ch hc (by omega)
      have hb5 := hb5.ch hc (by omega)
      first | have hL69 := hL69.no hc | have hL69 := hL69.ch hc (by intro k1 hk1 hF1 ht1; first | omega | (have hq1 := hXl _ hF1; omega) | (rcases hF1 with hF1 | hF1 <;> first | omega | (have hq1 := hXl _ hF1; omega)))
      refine wl_nil ?_
      refine x_seq ?_
      refine wc_seq ?_
      refine wc_region ?_
      refine wl rfl rfl rfl (p_mv rfl) ?_
      refine wl rfl rfl rfl (p_ldA (cs := ([ndp g0, ndp g69] : List Value)) Tryd.underlying142 rfl (szL sz142 (by first | rfl | (simp only [List.length_append, List.length_map, List.length_cons, List.length_nil]; done) | (simp only [List.length_append, List.length_map, List.length_cons, List.length_nil, List.size_toArray]; done))) rfl (fun _ e => e ▸ rngL hb10)) ?_
      refine wle rfl (e_call ent106 rfl rfl (fork_at (b := apartK x.er.key k) hX.at_ hL69.at_ rfl rfl (by omega) (by simp only [LT.er, Tr.cnt]; omega)) ?_)
      rintro _ w36 ⟨g75, rfl, hL75, hc⟩
      refine ⟨_, rfl, ?_⟩
      have hzw36 := hc.size
      have HC := HC.tr hc
      have hb0 := hb0.ch hc (fun h => h)
      first | have hX := hX.no hc | have hX := hX.ch hc (by intro k1 hk1 hF1 ht1; first | omega | (have hq1 := hXl _ hF1; omega) | (rcases hF1 with hF1 | hF1 <;> first | omega | (have hq1 := hXl _ hF1; omega)))
      first | have hXx := hXx.no hc | have hXx := hXx.ch hc (by intro k1 hk1 hF1 ht1; first | omega | (have hq1 := hXlx _ hF1; omega) | (rcases hF1 with hF1 | hF1 <;> first | omega | (have hq1 := hXlx _ hF1; omega)))
      first | have hXy := hXy.no hc | have hXy := hXy.ch hc (by intro k1 hk1 hF1 ht1; first | omega | (have hq1 := hXly _ hF1; omega) | (rcases hF1 with hF1 | hF1 <;> first | omega | (have hq1 := hXly _ hF1; omega)))
      have hb4 := hb4.ch hc (fun h => h)
      have hb5 := hb5.ch hc (fun h => h)
      have hb10 := hb10.ch hc (fun h => h)
      first | have hL69 := hL69.no hc | have hL69 := hL69.ch hc (by intro k1 hk1 hF1 ht1; first | omega | (have hq1 := hXl _ hF1; omega) | (rcases hF1 with hF1 | hF1 <;> first | omega | (have hq1 := hXl _ hF1; omega)))
      refine wl rfl rfl rfl (p_as rfl) ?_
      refine wl_nil ?_
      refine x_seq ?_
      refine wc_ret ?_
      refine fin_run ((res1 rfl rfl)) ?_
      first | (exact ⟨.fork g60 b t53 y, rfl, by show Tr.fork b t53.er y.er = _; rw [Tr.put, if_pos (by omega), if_pos hs46, het53], hL60.mono (fun j _ h => by rcases h with h | h | h <;> first | exact .inl h | (left; simp [LT.ads, h]; done) | (right; omega) | (right; have := hL53.2 j h; omega) | (rcases hL53.2 j h with h | h <;> first | (left; simp [LT.ads, h]; done) | (right; omega))), HC⟩) | (exact ⟨.fork g60 b x t53, rfl, by show Tr.fork b x.er t53.er = _; rw [Tr.put, if_pos (by omega), if_neg (by omega), het53], hL60.mono (fun j _ h => by rcases h with h | h | h <;> first | exact .inl h | (left; simp [LT.ads, h]; done) | (right; omega) | (right; have := hL53.2 j h; omega) | (rcases hL53.2 j h with h | h <;> first | (left; simp [LT.ads, h]; done) | (right; omega))), HC⟩) | (exact ⟨.fork g75 (apartK x.er.key k) (.leaf g69 k u) (.fork g0 b x y), rfl, by rw [Tr.put, if_neg (by omega), hs63]; rfl, hL75.mono (fun j _ h => by rcases h with h | h | h <;> first | exact .inl h | (left; simp [LT.ads, h]; done) | (right; omega) | (right; have := hL69.2 j h; omega) | (rcases hL69.2 j h with h | h <;> first | (left; simp [LT.ads, h]; done) | (right; omega))), HC⟩) | (exact ⟨.fork g75 (apartK x.er.key k) (.fork g0 b x y) (.leaf g69 k u), rfl, by rw [Tr.put, if_neg (by omega), hs63]; rfl, hL75.mono (fun j _ h => by rcases h with h | h | h <;> first | exact .inl h | (left; simp [LT.ads, h]; done) | (right; omega) | (right; have := hL69.2 j h; omega) | (rcases hL69.2 j h with h | h <;> first | (left; simp [LT.ads, h]; done) | (right; omega))), HC⟩)

theorem rbitN_any {w : World} {k : List UInt8} {n : Nat} (hk : k.length = 32) : Calls Tryd.prog 39 #[hv k, i64 (n : Int)] w fun e w' => e = .returned (i64 (bitN k n : Int)) ∧ Ch No w w' := (rbit_any hk).mono fun e w' ⟨h1, h2⟩ => ⟨by rw [h1, bitI_nat], h2⟩

set_option maxHeartbeats 1000000 in
set_option maxRecDepth 20000 in
theorem less_any {w : World}  {k : List UInt8} {u : List UInt8} (hk : k.length = 32) (hu : u.length = 32) :
    Calls Tryd.prog 87 #[hv k, hv u] w fun e w' => e = .returned (.bool (decide (ltK k u))) ∧ Ch No w w' := by
  have HC : Ch No w w := Ch.refl _ _
  refine enter' (args := [hv k, hv u]) (n := 17) Tryd.func87 rfl rfl rfl ?_
  refine wc_seq ?_
  refine wc_region ?_
  refine wle rfl (e_box (cs := (List.map u8v k).toArray) rfl rfl rfl (fun w1 g2 hg2 hb2 hc hsz2 => ?_))
  have hzw1 := hc.size
  have HC := HC.tr hc
  have hge2 : w.heap.size ≤ g2 := by have := HC.size; omega
  have hltg2 := hb2.lt
  refine wle rfl (e_box (cs := (List.map u8v u).toArray) rfl rfl rfl (fun w2 g3 hg3 hb3 hc hsz3 => ?_))
  have hzw2 := hc.size
  have HC := HC.tr hc
  have hb2 := hb2.ch hc (fun h => h)
  have hge3 : w.heap.size ≤ g3 := by have := HC.size; omega
  have neg2_3 : g2 < g3 := by omega
  refine wl rfl rfl rfl (p_as rfl) ?_
  refine wl_nil ?_
  refine x_seq ?_
  refine wc_seq ?_
  refine wc_region ?_
  refine wl rfl rfl rfl (p_ldA (cs := List.map u8v k) Tryd.underlying38 rfl (szL sz38 (by rw [List.length_map]; exact hk)) rfl (fun _ e => e ▸ rngL hb2)) ?_
  refine wl rfl rfl rfl (p_ldA (cs := List.map u8v u) Tryd.underlying38 rfl (szL sz38 (by rw [List.length_map]; exact hu)) rfl (fun _ e => e ▸ rngL hb3)) ?_
  refine wle rfl (e_call ent37 rfl rfl (rapart_any (hk) (hu)) ?_)
  rintro _ w3 ⟨rfl, hc⟩
  refine ⟨_, rfl, ?_⟩
  have hzw3 := hc.size
  have HC := HC.tr hc
  have hb2 := hb2.ch hc (fun h => h)
  have hb3 := hb3.ch hc (fun h => h)
  refine wl rfl rfl rfl (p_as rfl) ?_
  refine wl_nil ?_
  refine x_seq ?_
  refine wc_seq ?_
  refine wc_region ?_
  refine wl rfl rfl rfl (p_mv rfl) ?_
  refine wl rfl rfl rfl (p_lt rfl rfl) ?_
  refine wl rfl rfl rfl (p_mv rfl) ?_
  refine wl_split (d := 11) rfl (fun q11 => ?_) (fun q11 => ?_)
  ·
    have q11 := of_decide_eq_true q11
    refine wl_g (gd_ rfl rfl rfl rfl rfl rfl) rfl rfl (p_ldA (cs := List.map u8v k) Tryd.underlying38 rfl (szL sz38 (by rw [List.length_map]; exact hk)) rfl (fun _ e => e ▸ rngL hb2)) ?_
    refine wl_g (gd_ rfl rfl rfl rfl rfl rfl) rfl rfl (p_mv rfl) ?_
    refine wle_g (gd_ rfl rfl rfl rfl rfl rfl) (e_call ent39 rfl rfl (rbitN_any (n := (apartK k u)) (hk)) ?_)
    rintro _ w4 ⟨rfl, hc⟩
    refine ⟨_, rfl, ?_⟩
    have hzw4 := hc.size
    have HC := HC.tr hc
    have hb2 := hb2.ch hc (fun h => h)
    have hb3 := hb3.ch hc (fun h => h)
    refine wl_g (gd_ rfl rfl rfl rfl rfl rfl) rfl rfl (p_eq rfl rfl) ?_
    refine wl rfl rfl rfl (p_pickT rfl rfl) ?_
    refine wl rfl rfl rfl (p_as rfl) ?_
    refine wl_nil ?_
    refine x_seq ?_
    refine wc_ret ?_
    refine fin_run ((res1 rfl rfl)) ?_
    first
      | (have e1 : ltK k u ↔ ((bitN k (apartK k u) : Nat) : Int) = 0 := ⟨fun h => by have := h.2; omega, fun h => ⟨by omega, by omega⟩⟩; rw [show decide (ltK k u) = decide (((bitN k (apartK k u) : Nat) : Int) = 0) from decide_eq_decide.2 e1]; exact ⟨rfl, HC⟩)
      | (rw [show decide (ltK k u) = false from decide_eq_false (fun h => by have h1 := h.1; omega)]; exact ⟨rfl, HC⟩)
  ·
    have q11 := of_decide_eq_false q11
    refine wl_s (gd_ rfl rfl rfl rfl rfl rfl) rfl rfl ?_
    refine wl_s (gd_ rfl rfl rfl rfl rfl rfl) rfl rfl ?_
    refine wl_s (gd_ rfl rfl rfl rfl rfl rfl) rfl rfl ?_
    refine wl_s (gd_ rfl rfl rfl rfl rfl rfl) rfl rfl ?_
    refine wl rfl rfl rfl (p_pickF rfl rfl) ?_
    refine wl rfl rfl rfl (p_as rfl) ?_
    refine wl_nil ?_
    refine x_seq ?_
    refine wc_ret ?_
    refine fin_run ((res1 rfl rfl)) ?_
    first
      | (have e1 : ltK k u ↔ ((bitN k (apartK k u) : Nat) : Int) = 0 := ⟨fun h => by have := h.2; omega, fun h => ⟨by omega, by omega⟩⟩; rw [show decide (ltK k u) = decide (((bitN k (apartK k u) : Nat) : Int) = 0) from decide_eq_decide.2 e1]; exact ⟨rfl, HC⟩)
      | (rw [show decide (ltK k u) = false from decide_eq_false (fun h => by have h1 := h.1; omega)]; exact ⟨rfl, HC⟩)

set_option maxHeartbeats 1000000 in
set_option maxRecDepth 20000 in
theorem rput_any {w : World}  {k : List UInt8} {u : List UInt8} {Am : Option Addr} {lm cm : Nat} {Fm : Nat → Prop} {m : List (H8 × H8)} (hm : SI w Fm eIT Am lm cm m) (hk : k.length = 32) (hu : u.length = 32) (hl : lm ≤ 1000000) :
    Calls Tryd.prog 52 #[.slice Am lm cm, hv k, hv u] w fun e w' => ∃ A l c, e = .returned (.slice A l c) ∧ RI w' (fun k => w.heap.size ≤ k) 81 eIT A l c (mput m k u) ∧ Ch No w w' := by
  have hml := hm.len
  have hm := hm.old
  have HC : Ch No w w := Ch.refl _ _
  refine enter' (args := [.slice Am lm cm, hv k, hv u]) (n := 50) Tryd.func52 rfl rfl rfl ?_
  refine wc_seq ?_
  refine wc_region ?_
  refine wle rfl (e_box (cs := (List.map u8v k).toArray) rfl rfl rfl (fun w1 g4 hg4 hb4 hc hsz4 => ?_))
  have hzw1 := hc.size
  have HC := HC.tr hc
  have hm := hm.no hc
  have hge4 : w.heap.size ≤ g4 := by have := HC.size; omega
  have hltg4 := hb4.lt
  refine wle rfl (e_box (cs := (List.map u8v u).toArray) rfl rfl rfl (fun w2 g5 hg5 hb5 hc hsz5 => ?_))
  have hzw2 := hc.size
  have HC := HC.tr hc
  have hm := hm.no hc
  have hb4 := hb4.ch hc (fun h => h)
  have hge5 : w.heap.size ≤ g5 := by have := HC.size; omega
  have neg4_5 : g4 < g5 := by omega
  refine wl rfl rfl rfl (p_as rfl) ?_
  refine wl_nil ?_
  refine x_seq ?_
  refine wc_seq ?_
  refine wc_region ?_
  refine wl rfl rfl rfl (p_as rfl) ?_
  refine wl_nil ?_
  refine x_seq ?_
  refine wc_seq ?_
  refine wc_region ?_
  refine wl rfl rfl rfl (p_as rfl) ?_
  refine wl_nil ?_
  refine x_seq ?_
  refine wc_seq ?_
  refine wc_seq ?_
  refine wc_region ?_
  refine wl rfl rfl rfl (p_mv rfl) ?_
  refine wl rfl rfl rfl (p_lenS Tryd.underlying27 rfl) ?_
  refine wl rfl rfl rfl (p_mv rfl) ?_
  refine wl_nil ?_
  refine x_seq ?_
  refine wc_block ?_
  refine wc_loop (e' := [(4, .pointer (some ⟨g4, 0, none⟩)), (5, .pointer (some ⟨g5, 0, none⟩)), (7, .slice (none) (0) (0)), (8, .bool (false)), (11, .slice Am lm cm), (12, i64 (lm : Int)), (13, i64 ((0) : Int))]) (fun mz ez uz => ∃ i : Nat, ∃ dn : Bool, ∃ ys : List (H8 × H8), ∃ A : Option Addr, ∃ l : Nat, ∃ c : Nat, mz = lm - i ∧ ez = [(4, .pointer (some ⟨g4, 0, none⟩)), (5, .pointer (some ⟨g5, 0, none⟩)), (7, .slice A l c), (8, .bool dn), (11, .slice Am lm cm), (12, i64 (lm : Int)), (13, i64 (i : Int))] ∧ (i ≤ lm) ∧ (l ≤ i + dn.toNat) ∧ (mputA k u m false = ys ++ mputA k u (m.drop i) dn) ∧ (RI uz (fun k => w.heap.size ≤ k ∧ k ≠ g4 ∧ k ≠ g5) 81 eIT A l c ys) ∧ (SI uz (fun k => k < w.heap.size) eIT Am lm cm m) ∧ (Blk uz g4 38 (List.map u8v k).toArray) ∧ (Blk uz g5 38 (List.map u8v u).toArray) ∧ (Ch No w uz))
    ⟨rfl, rfl, rfl, rfl, rfl, rfl, rfl, trivial⟩ ⟨0, false, [], none, 0, 0, rfl, rfl, by omega, by simp, rfl, RI.nil _ _ _ _, hm, hb4, hb5, HC⟩ ?_
  rintro m0 e w3 ⟨i, dn, ys, A, l, c, hm0, rfl, hi, hyl, hdm, hW, hm, hb4, hb5, HC⟩
  have hzw3 := HC.size
  refine wc_seq ?_
  refine wc_region ?_
  refine wl rfl rfl rfl (p_lt rfl rfl) ?_
  refine wl_nil ?_
  refine x_seq ?_
  refine wc_seq ?_
  refine wc_if rfl (fun c0 => ?_) (fun c0 => ?_)
  ·
    have c0 := of_decide_eq_true c0
    refine wc_skip ?_
    refine x_seq ?_
    refine wc_seq ?_
    refine wc_block ?_
    refine wc_seq ?_
    refine wc_region ?_
    obtain ⟨b4, o4, hA4, hF4, hr4⟩ := (hm).opn (i := i) (d := (zeroH, zeroH)) (by omega)
    have hok4 := (hm).okAt (i := i) (d := (zeroH, zeroH)) (by omega)
    obtain ⟨x4, ex4⟩ : ∃ x, x = List.getD m (i) (zeroH, zeroH) := ⟨_, rfl⟩
    rw [← ex4] at hr4 hok4
    obtain ⟨hx4k, hx4v⟩ := hok4
    have hr4 : w3.rangeAt b4 (o4 + i * 64) (((List.map u8v x4.1) ++ (List.map u8v x4.2)) : List Value) := hr4
    refine wl rfl rfl rfl (p_ixS (j := i * 64) Tryd.underlying27 sz81 rfl hA4 rfl (by omega) (by omega) (congrArg (· * 64) (Int.toNat_natCast _))) ?_
    have hdr : m.drop i = x4 :: m.drop (i + 1) := by rw [ex4]; exact getD_drop (by omega)
    refine wl rfl rfl rfl (p_ldA (cs := (((List.map u8v x4.1) ++ (List.map u8v x4.2)) : List Value)) Tryd.underlying81 rfl (szL sz81 (by first | rfl | (simp only [List.length_append, List.length_map, List.length_cons, List.length_nil, (show List.length x4.1 = 32 from hx4k), (show List.length x4.2 = 32 from hx4v)]; done) | (simp only [List.length_append, List.length_map, List.length_cons, List.length_nil, List.size_toArray, (show List.length x4.1 = 32 from hx4k), (show List.length x4.2 = 32 from hx4v)]; done))) rfl (fun _ e => e ▸ hr4)) ?_
    have hltg4 := hb4.lt
    have hltg5 := hb5.lt
    refine wle rfl (e_alloc (cs := (((List.map u8v (List.replicate 32 (0 : UInt8))) ++ (List.map u8v (List.replicate 32 (0 : UInt8)))) : List Value).toArray) rfl (by rfl) rfl (fun w5 g10 hg10 hb10 hc hsz10 => ?_))
    have hzw5 := hc.size
    have HC := HC.tr hc
    have hW := hW.after hc
    have hm := hm.no hc
    have hb4 := hb4.ch hc (fun h => h)
    have hb5 := hb5.ch hc (fun h => h)
    have hge10 : w.heap.size ≤ g10 := by have := HC.size; omega
    have neg4_10 : g4 < g10 := by omega
    have neg5_10 : g5 < g10 := by omega
    refine wle rfl (e_stW (vs := (((List.map u8v x4.1) ++ (List.map u8v x4.2)) : List Value)) (szL sz81 (by first | rfl | (simp only [List.length_append, List.length_map, List.length_cons, List.length_nil, (show List.length x4.1 = 32 from hx4k), (show List.length x4.2 = 32 from hx4v)]; done) | (simp only [List.length_append, List.length_map, List.length_cons, List.length_nil, List.size_toArray, (show List.length x4.1 = 32 from hx4k), (show List.length x4.2 = 32 from hx4v)]; done))) (oneA (oneL one_u8 _) (oneL one_u8 _)) rfl rfl hb10 (by first | rfl | (simp only [List.length_append, List.length_map, List.length_cons, List.length_nil, (show List.length (List.replicate 32 (0 : UInt8)) = 32 from (List.length_replicate ..)), (show List.length (List.replicate 32 (0 : UInt8)) = 32 from (List.length_replicate ..)), (show List.length x4.1 = 32 from hx4k), (show List.length x4.2 = 32 from hx4v)]; done) | (simp only [List.length_append, List.length_map, List.length_cons, List.length_nil, List.size_toArray, (show List.length (List.replicate 32 (0 : UInt8)) = 32 from (List.length_replicate ..)), (show List.length (List.replicate 32 (0 : UInt8)) = 32 from (List.length_replicate ..)), (show List.length x4.1 = 32 from hx4k), (show List.length x4.2 = 32 from hx4v)]; done)) (fun w6 hb10 hc hsz => ?_))
    have hzw6 := hc.size
    have HC := HC.trans hc (fun _ _ h => h) (fun k hk ht => absurd ht (by omega))
    have hW := hW.ch hc (by intro k hz hk ht; first | omega | (dsimp only at *; omega))
    first | have hm := hm.ch hc (by intro k hk ht; first | omega | (dsimp only at *; omega)) | have hm := hm.chT hc (by intro k hz hk ht; first | omega | (dsimp only at *; omega))
    have hb4 := hb4.ch hc (by omega)
    have hb5 := hb5.ch hc (by omega)
    refine wl_nil ?_
    refine x_seq ?_
    refine wc_seq ?_
    refine wc_seq ?_
    rcases dn with _ | _
    ·
      have hyl : l ≤ i + 0 := by simpa using hyl
      refine wc_region ?_
      refine wl rfl rfl rfl (p_mv rfl) ?_
      refine wl rfl rfl rfl (p_not rfl) ?_
      refine wl rfl rfl rfl (p_mv rfl) ?_
      refine wl_g (gd_ rfl rfl rfl rfl rfl rfl) rfl rfl (p_fld (j := 0) Tryd.underlying81 rfl ⟨_, by rfl⟩ rfl rfl) ?_
      refine wl_g (gd_ rfl rfl rfl rfl rfl rfl) rfl rfl (p_ldA (cs := (List.map u8v x4.1)) Tryd.underlying38 rfl (szL sz38 (by first | rfl | (simp only [List.length_append, List.length_map, List.length_cons, List.length_nil, (show List.length x4.1 = 32 from hx4k)]; done) | (simp only [List.length_append, List.length_map, List.length_cons, List.length_nil, List.size_toArray, (show List.length x4.1 = 32 from hx4k)]; done))) rfl (fun _ e => e ▸ rng_at (p := []) (q := ((List.map u8v x4.1) : List Value)) (r := ((List.map u8v x4.2) : List Value)) hb10 (by simp only [List.append_assoc, List.cons_append, List.nil_append, List.append_nil]) (by first | rfl | (simp only [List.length_append, List.length_map, List.length_cons, List.length_nil]; done) | (simp only [List.length_append, List.length_map, List.length_cons, List.length_nil, List.size_toArray]; done)))) ?_
      refine wl_g (gd_ rfl rfl rfl rfl rfl rfl) rfl rfl (p_ldA (cs := List.map u8v k) Tryd.underlying38 rfl (szL sz38 (by rw [List.length_map]; exact hk)) rfl (fun _ e => e ▸ rngL hb4)) ?_
      refine wle_g (gd_ rfl rfl rfl rfl rfl rfl) (e_call ent87 rfl rfl (less_any (hx4k) (hk)) ?_)
      rintro _ w7 ⟨rfl, hc⟩
      refine ⟨_, rfl, ?_⟩
      have hzw7 := hc.size
      have HC := HC.tr hc
      have hW := hW.after hc
      have hm := hm.no hc
      have hb4 := hb4.ch hc (fun h => h)
      have hb5 := hb5.ch hc (fun h => h)
      have hb10 := hb10.ch hc (fun h => h)
      refine wl_g (gd_ rfl rfl rfl rfl rfl rfl) rfl rfl (p_not rfl) ?_
      refine wl rfl rfl rfl (p_pickT rfl rfl) ?_
      refine wl_nil ?_
      refine x_seq ?_
      refine wc_if rfl (fun c1 => ?_) (fun c1 => ?_)
      ·
        have c1 := of_not_dec_true c1
        refine wc_seq ?_
        refine wc_region ?_
        refine wl rfl rfl rfl (p_mv rfl) ?_
        refine wl rfl rfl rfl (p_ldA (cs := List.map u8v k) Tryd.underlying38 rfl (szL sz38 (by rw [List.length_map]; exact hk)) rfl (fun _ e => e ▸ rngL hb4)) ?_
        refine wl rfl rfl rfl (p_ldA (cs := List.map u8v u) Tryd.underlying38 rfl (szL sz38 (by rw [List.length_map]; exact hu)) rfl (fun _ e => e ▸ rngL hb5)) ?_
        refine wl rfl rfl rfl (p_bldX (vs' := [(.agg ((hx k) : List Value).toArray), (.agg ((hx u) : List Value).toArray)]) (cs := (((List.map u8v k) ++ (List.map u8v u)) : List Value)) (cs' := (((hx k) ++ (hx u)) : List Value)) rfl (by simp only [hv, map_hx hk, map_hx hu] <;> rfl) (by simp only [hv, map_hx hk, map_hx hu] <;> rfl) (fun _ => by kernel_rfl)) ?_
        have hltg4 := hb4.lt
        have hltg5 := hb5.lt
        have hltg10 := hb10.lt
        refine wle rfl (e_bslX (E := 81) (cs := (((List.map u8v k) ++ (List.map u8v u)) : List Value)) (cs' := (((hx k) ++ (hx u)) : List Value)) rfl rfl (by simp only [hv, map_hx hk, map_hx hu] <;> rfl) (fun _ => by kernel_rfl) (fun w8 g30 hg30 hb30 hc hsz30 => ?_))
        have hzw8 := hc.size
        have HC := HC.tr hc
        have hW := hW.after hc
        have hm := hm.no hc
        have hb4 := hb4.ch hc (fun h => h)
        have hb5 := hb5.ch hc (fun h => h)
        have hb10 := hb10.ch hc (fun h => h)
        have hge30 : w.heap.size ≤ g30 := by have := HC.size; omega
        have hS30 := SI.oneA (E := eIT) (x := (k, u)) hb30 rfl ⟨hk, hu⟩
        have hltg4 := hb4.lt
        have hltg5 := hb5.lt
        have hltg10 := hb10.lt
        refine wle rfl (e_appI rfl el27 rfl rfl hW (hS30) (by omega) (by intro k hk; first | omega | (dsimp only at *; omega)) (fun w9 A31 c31 hW hc => ?_))
        have hzw9 := hc.size
        have HC := HC.trans hc (fun _ _ h => h) (fun k hk ht => absurd ht (by first | omega | (dsimp only at *; omega)))
        first | have hm := hm.ch hc (by intro k hk ht; first | omega | (dsimp only at *; omega)) | have hm := hm.chT hc (by intro k hz hk ht; first | omega | (dsimp only at *; omega))
        have hb4 := hb4.ch hc (by first | omega | (dsimp only; omega))
        have hb5 := hb5.ch hc (by first | omega | (dsimp only; omega))
        have hb10 := hb10.ch hc (by first | omega | (dsimp only; omega))
        first | have hS30 := hS30.ch hc (by intro k hk ht; first | omega | (dsimp only at *; omega)) | have hS30 := hS30.chT hc (by intro k hz hk ht; first | omega | (dsimp only at *; omega))
        refine wl rfl rfl rfl (p_as rfl) ?_
        refine wl_nil ?_
        refine x_seq ?_
        refine wc_region ?_
        refine wl rfl rfl rfl (p_as rfl) ?_
        refine wl_nil ?_
        refine x_seq ?_
        refine wc_seq ?_
        refine wc_region ?_
        refine wl rfl rfl rfl (p_fld (j := 0) Tryd.underlying81 rfl ⟨_, by rfl⟩ rfl rfl) ?_
        refine wl rfl rfl rfl (p_ldA (cs := (List.map u8v x4.1)) Tryd.underlying38 rfl (szL sz38 (by first | rfl | (simp only [List.length_append, List.length_map, List.length_cons, List.length_nil, (show List.length x4.1 = 32 from hx4k)]; done) | (simp only [List.length_append, List.length_map, List.length_cons, List.length_nil, List.size_toArray, (show List.length x4.1 = 32 from hx4k)]; done))) rfl (fun _ e => e ▸ rng_at (p := []) (q := ((List.map u8v x4.1) : List Value)) (r := ((List.map u8v x4.2) : List Value)) hb10 (by simp only [List.append_assoc, List.cons_append, List.nil_append, List.append_nil]) (by first | rfl | (simp only [List.length_append, List.length_map, List.length_cons, List.length_nil]; done) | (simp only [List.length_append, List.length_map, List.length_cons, List.length_nil, List.size_toArray]; done)))) ?_
        refine wl rfl rfl rfl (p_ldA (cs := List.map u8v k) Tryd.underlying38 rfl (szL sz38 (by rw [List.length_map]; exact hk)) rfl (fun _ e => e ▸ rngL hb4)) ?_
        refine wl rfl rfl rfl (p_neH (a := x4.1) (b := k) (by kernel_rfl) Tryd.underlying38 Tryd.underlying5 sz5 rfl rfl (hx4k) (hk)) ?_
        refine wl_nil ?_
        refine x_seq ?_
        refine wc_if rfl (fun c2 => ?_) (fun c2 => ?_)
        ·
          refine wc_region ?_
          refine wl rfl rfl rfl (p_mv rfl) ?_
          refine wl rfl rfl rfl (p_ldA (cs := (((List.map u8v x4.1) ++ (List.map u8v x4.2)) : List Value)) Tryd.underlying81 rfl (szL sz81 (by first | rfl | (simp only [List.length_append, List.length_map, List.length_cons, List.length_nil, (show List.length x4.1 = 32 from hx4k), (show List.length x4.2 = 32 from hx4v)]; done) | (simp only [List.length_append, List.length_map, List.length_cons, List.length_nil, List.size_toArray, (show List.length x4.1 = 32 from hx4k), (show List.length x4.2 = 32 from hx4v)]; done))) rfl (fun _ e => e ▸ rngL hb10)) ?_
          have hltg4 := hb4.lt
          have hltg5 := hb5.lt
          have hltg10 := hb10.lt
          refine wle rfl (e_bslX (E := 81) (cs := (((List.map u8v x4.1) ++ (List.map u8v x4.2)) : List Value)) (cs' := (((hx x4.1) ++ (hx x4.2)) : List Value)) rfl rfl (by simp only [hv, map_hx hx4k, map_hx hx4v] <;> rfl) (fun _ => by kernel_rfl) (fun w10 g38 hg38 hb38 hc hsz38 => ?_))
          have hzw10 := hc.size
          have HC := HC.tr hc
          have hW := hW.after hc
          have hm := hm.no hc
          have hb4 := hb4.ch hc (fun h => h)
          have hb5 := hb5.ch hc (fun h => h)
          have hb10 := hb10.ch hc (fun h => h)
          have hS30 := hS30.no hc
          have hge38 : w.heap.size ≤ g38 := by have := HC.size; omega
          have hS38 := SI.oneA (E := eIT) (x := (x4.1, x4.2)) hb38 rfl ⟨hx4k, hx4v⟩
          have hltg4 := hb4.lt
          have hltg5 := hb5.lt
          have hltg10 := hb10.lt
          refine wle rfl (e_appI rfl el27 rfl rfl hW (hS38) (by omega) (by intro k hk; first | omega | (dsimp only at *; omega)) (fun w11 A39 c39 hW hc => ?_))
          have hzw11 := hc.size
          have HC := HC.trans hc (fun _ _ h => h) (fun k hk ht => absurd ht (by first | omega | (dsimp only at *; omega)))
          first | have hm := hm.ch hc (by intro k hk ht; first | omega | (dsimp only at *; omega)) | have hm := hm.chT hc (by intro k hz hk ht; first | omega | (dsimp only at *; omega))
          have hb4 := hb4.ch hc (by first | omega | (dsimp only; omega))
          have hb5 := hb5.ch hc (by first | omega | (dsimp only; omega))
          have hb10 := hb10.ch hc (by first | omega | (dsimp only; omega))
          first | have hS30 := hS30.ch hc (by intro k hk ht; first | omega | (dsimp only at *; omega)) | have hS30 := hS30.chT hc (by intro k hz hk ht; first | omega | (dsimp only at *; omega))
          first | have hS38 := hS38.ch hc (by intro k hk ht; first | omega | (dsimp only at *; omega)) | have hS38 := hS38.chT hc (by intro k hz hk ht; first | omega | (dsimp only at *; omega))
          refine wl rfl rfl rfl (p_as rfl) ?_
          refine wl_nil ?_
          refine x_in_normal ?_
          refine x_seq ?_
          refine wc_region ?_
          refine wl rfl rfl rfl (p_add rfl rfl (w64 (by omega))) ?_
          refine wl rfl rfl rfl (p_mv rfl) ?_
          refine wl_nil ?_
          refine x_round (e' := [(4, .pointer (some ⟨g4, 0, none⟩)), (5, .pointer (some ⟨g5, 0, none⟩)), (7, .slice (_) (_) (_)), (8, .bool (true)), (11, .slice Am lm cm), (12, i64 (lm : Int)), (13, i64 ((i + 1) : Int))]) ⟨rfl, rfl, rfl, rfl, rfl, rfl, rfl, trivial⟩ (by rw [hm0]; omega) ⟨i + 1, true, _, _, _, _, rfl, rfl, by omega, (by show _ ≤ _ + 1 + (_ : Nat); simp only [Bool.toNat_true, Bool.toNat_false]; omega), (by have hf0 : ¬ ltK x4.1 k := (by simpa using c1); have hf1 : ¬ (x4.1 = k) := (by simpa using c2); rw [hdm, hdr, mputA]; (try simp only [hf0]); simp [hf0, hf1]), hW.mono (fun k _ hk => by first | omega | (dsimp only at *; omega)), hm, hb4, hb5, HC⟩
        ·
          refine wc_skip ?_
          refine x_in_normal ?_
          refine x_seq ?_
          refine wc_region ?_
          refine wl rfl rfl rfl (p_add rfl rfl (w64 (by omega))) ?_
          refine wl rfl rfl rfl (p_mv rfl) ?_
          refine wl_nil ?_
          refine x_round (e' := [(4, .pointer (some ⟨g4, 0, none⟩)), (5, .pointer (some ⟨g5, 0, none⟩)), (7, .slice (_) (_) (_)), (8, .bool (true)), (11, .slice Am lm cm), (12, i64 (lm : Int)), (13, i64 ((i + 1) : Int))]) ⟨rfl, rfl, rfl, rfl, rfl, rfl, rfl, trivial⟩ (by rw [hm0]; omega) ⟨i + 1, true, _, _, _, _, rfl, rfl, by omega, (by show _ ≤ _ + 1 + (_ : Nat); simp only [Bool.toNat_true, Bool.toNat_false]; omega), (by have hf0 : ¬ ltK x4.1 k := (by simpa using c1); have hf1 : (x4.1 = k) := (by simpa using c2); rw [hdm, hdr, mputA]; (try simp only [hf0]); simp [hf0, hf1]), hW.mono (fun k _ hk => by first | omega | (dsimp only at *; omega)), hm, hb4, hb5, HC⟩
      ·
        have c1 := of_not_dec_false c1
        refine wc_skip ?_
        refine x_seq ?_
        refine wc_seq ?_
        refine wc_region ?_
        refine wl rfl rfl rfl (p_fld (j := 0) Tryd.underlying81 rfl ⟨_, by rfl⟩ rfl rfl) ?_
        refine wl rfl rfl rfl (p_ldA (cs := (List.map u8v x4.1)) Tryd.underlying38 rfl (szL sz38 (by first | rfl | (simp only [List.length_append, List.length_map, List.length_cons, List.length_nil, (show List.length x4.1 = 32 from hx4k)]; done) | (simp only [List.length_append, List.length_map, List.length_cons, List.length_nil, List.size_toArray, (show List.length x4.1 = 32 from hx4k)]; done))) rfl (fun _ e => e ▸ rng_at (p := []) (q := ((List.map u8v x4.1) : List Value)) (r := ((List.map u8v x4.2) : List Value)) hb10 (by simp only [List.append_assoc, List.cons_append, List.nil_append, List.append_nil]) (by first | rfl | (simp only [List.length_append, List.length_map, List.length_cons, List.length_nil]; done) | (simp only [List.length_append, List.length_map, List.length_cons, List.length_nil, List.size_toArray]; done)))) ?_
        refine wl rfl rfl rfl (p_ldA (cs := List.map u8v k) Tryd.underlying38 rfl (szL sz38 (by rw [List.length_map]; exact hk)) rfl (fun _ e => e ▸ rngL hb4)) ?_
        refine wl rfl rfl rfl (p_neH (a := x4.1) (b := k) (by kernel_rfl) Tryd.underlying38 Tryd.underlying5 sz5 rfl rfl (hx4k) (hk)) ?_
        refine wl_nil ?_
        refine x_seq ?_
        refine wc_if rfl (fun c2 => ?_) (fun c2 => ?_)
        ·
          refine wc_region ?_
          refine wl rfl rfl rfl (p_mv rfl) ?_
          refine wl rfl rfl rfl (p_ldA (cs := (((List.map u8v x4.1) ++ (List.map u8v x4.2)) : List Value)) Tryd.underlying81 rfl (szL sz81 (by first | rfl | (simp only [List.length_append, List.length_map, List.length_cons, List.length_nil, (show List.length x4.1 = 32 from hx4k), (show List.length x4.2 = 32 from hx4v)]; done) | (simp only [List.length_append, List.length_map, List.length_cons, List.length_nil, List.size_toArray, (show List.length x4.1 = 32 from hx4k), (show List.length x4.2 = 32 from hx4v)]; done))) rfl (fun _ e => e ▸ rngL hb10)) ?_
          have hltg4 := hb4.lt
          have hltg5 := hb5.lt
          have hltg10 := hb10.lt
          refine wle rfl (e_bslX (E := 81) (cs := (((List.map u8v x4.1) ++ (List.map u8v x4.2)) : List Value)) (cs' := (((hx x4.1) ++ (hx x4.2)) : List Value)) rfl rfl (by simp only [hv, map_hx hx4k, map_hx hx4v] <;> rfl) (fun _ => by kernel_rfl) (fun w12 g38 hg38 hb38 hc hsz38 => ?_))
          have hzw12 := hc.size
          have HC := HC.tr hc
          have hW := hW.after hc
          have hm := hm.no hc
          have hb4 := hb4.ch hc (fun h => h)
          have hb5 := hb5.ch hc (fun h => h)
          have hb10 := hb10.ch hc (fun h => h)
          have hge38 : w.heap.size ≤ g38 := by have := HC.size; omega
          have hS38 := SI.oneA (E := eIT) (x := (x4.1, x4.2)) hb38 rfl ⟨hx4k, hx4v⟩
          have hltg4 := hb4.lt
          have hltg5 := hb5.lt
          have hltg10 := hb10.lt
          refine wle rfl (e_appI rfl el27 rfl rfl hW (hS38) (by omega) (by intro k hk; first | omega | (dsimp only at *; omega)) (fun w13 A39 c39 hW hc => ?_))
          have hzw13 := hc.size
          have HC := HC.trans hc (fun _ _ h => h) (fun k hk ht => absurd ht (by first | omega | (dsimp only at *; omega)))
          first | have hm := hm.ch hc (by intro k hk ht; first | omega | (dsimp only at *; omega)) | have hm := hm.chT hc (by intro k hz hk ht; first | omega | (dsimp only at *; omega))
          have hb4 := hb4.ch hc (by first | omega | (dsimp only; omega))
          have hb5 := hb5.ch hc (by first | omega | (dsimp only; omega))
          have hb10 := hb10.ch hc (by first | omega | (dsimp only; omega))
          first | have hS38 := hS38.ch hc (by intro k hk ht; first | omega | (dsimp only at *; omega)) | have hS38 := hS38.chT hc (by intro k hz hk ht; first | omega | (dsimp only at *; omega))
          refine wl rfl rfl rfl (p_as rfl) ?_
          refine wl_nil ?_
          refine x_in_normal ?_
          refine x_seq ?_
          refine wc_region ?_
          refine wl rfl rfl rfl (p_add rfl rfl (w64 (by omega))) ?_
          refine wl rfl rfl rfl (p_mv rfl) ?_
          refine wl_nil ?_
          refine x_round (e' := [(4, .pointer (some ⟨g4, 0, none⟩)), (5, .pointer (some ⟨g5, 0, none⟩)), (7, .slice (_) (_) (_)), (8, .bool (false)), (11, .slice Am lm cm), (12, i64 (lm : Int)), (13, i64 ((i + 1) : Int))]) ⟨rfl, rfl, rfl, rfl, rfl, rfl, rfl, trivial⟩ (by rw [hm0]; omega) ⟨i + 1, false, _, _, _, _, rfl, rfl, by omega, (by show _ ≤ _ + 1 + (_ : Nat); simp only [Bool.toNat_true, Bool.toNat_false]; omega), (by have hf0 : ltK x4.1 k := (by simpa using c1); have hf1 : ¬ (x4.1 = k) := (by simpa using c2); rw [hdm, hdr, mputA]; (try simp only [hf0]); simp [hf0, hf1]), hW.mono (fun k _ hk => by first | omega | (dsimp only at *; omega)), hm, hb4, hb5, HC⟩
        ·
          refine wc_skip ?_
          refine x_in_normal ?_
          refine x_seq ?_
          refine wc_region ?_
          refine wl rfl rfl rfl (p_add rfl rfl (w64 (by omega))) ?_
          refine wl rfl rfl rfl (p_mv rfl) ?_
          refine wl_nil ?_
          refine x_round (e' := [(4, .pointer (some ⟨g4, 0, none⟩)), (5, .pointer (some ⟨g5, 0, none⟩)), (7, .slice (_) (_) (_)), (8, .bool (false)), (11, .slice Am lm cm), (12, i64 (lm : Int)), (13, i64 ((i + 1) : Int))]) ⟨rfl, rfl, rfl, rfl, rfl, rfl, rfl, trivial⟩ (by rw [hm0]; omega) ⟨i + 1, false, _, _, _, _, rfl, rfl, by omega, (by show _ ≤ _ + 1 + (_ : Nat); simp only [Bool.toNat_true, Bool.toNat_false]; omega), (by have hf0 : ltK x4.1 k := (by simpa using c1); have hf1 : (x4.1 = k) := (by simpa using c2); rw [hdm, hdr, mputA]; (try simp only [hf0]); simp [hf0, hf1]), hW.mono (fun k _ hk => by first | omega | (dsimp only at *; omega)), hm, hb4, hb5, HC⟩
    ·
      have hyl : l ≤ i + 1 := by simpa using hyl
      refine wc_region ?_
      refine wl rfl rfl rfl (p_mv rfl) ?_
      refine wl rfl rfl rfl (p_not rfl) ?_
      refine wl rfl rfl rfl (p_mv rfl) ?_
      refine wl_s (gd_ rfl rfl rfl rfl rfl rfl) rfl rfl ?_
      refine wl_s (gd_ rfl rfl rfl rfl rfl rfl) rfl rfl ?_
      refine wl_s (gd_ rfl rfl rfl rfl rfl rfl) rfl rfl ?_
      refine wl_s (gd_ rfl rfl rfl rfl rfl rfl) rfl rfl ?_
      refine wl_s (gd_ rfl rfl rfl rfl rfl rfl) rfl rfl ?_
      refine wl rfl rfl rfl (p_pickF rfl rfl) ?_
      refine wl_nil ?_
      refine x_seq ?_
      refine wc_no rfl (rfl) ?_
      refine wc_skip ?_
      refine x_seq ?_
      refine wc_seq ?_
      refine wc_region ?_
      refine wl rfl rfl rfl (p_fld (j := 0) Tryd.underlying81 rfl ⟨_, by rfl⟩ rfl rfl) ?_
      refine wl rfl rfl rfl (p_ldA (cs := (List.map u8v x4.1)) Tryd.underlying38 rfl (szL sz38 (by first | rfl | (simp only [List.length_append, List.length_map, List.length_cons, List.length_nil, (show List.length x4.1 = 32 from hx4k)]; done) | (simp only [List.length_append, List.length_map, List.length_cons, List.length_nil, List.size_toArray, (show List.length x4.1 = 32 from hx4k)]; done))) rfl (fun _ e => e ▸ rng_at (p := []) (q := ((List.map u8v x4.1) : List Value)) (r := ((List.map u8v x4.2) : List Value)) hb10 (by simp only [List.append_assoc, List.cons_append, List.nil_append, List.append_nil]) (by first | rfl | (simp only [List.length_append, List.length_map, List.length_cons, List.length_nil]; done) | (simp only [List.length_append, List.length_map, List.length_cons, List.length_nil, List.size_toArray]; done)))) ?_
      refine wl rfl rfl rfl (p_ldA (cs := List.map u8v k) Tryd.underlying38 rfl (szL sz38 (by rw [List.length_map]; exact hk)) rfl (fun _ e => e ▸ rngL hb4)) ?_
      refine wl rfl rfl rfl (p_neH (a := x4.1) (b := k) (by kernel_rfl) Tryd.underlying38 Tryd.underlying5 sz5 rfl rfl (hx4k) (hk)) ?_
      refine wl_nil ?_
      refine x_seq ?_
      refine wc_if rfl (fun c2 => ?_) (fun c2 => ?_)
      ·
        refine wc_region ?_
        refine wl rfl rfl rfl (p_mv rfl) ?_
        refine wl rfl rfl rfl (p_ldA (cs := (((List.map u8v x4.1) ++ (List.map u8v x4.2)) : List Value)) Tryd.underlying81 rfl (szL sz81 (by first | rfl | (simp only [List.length_append, List.length_map, List.length_cons, List.length_nil, (show List.length x4.1 = 32 from hx4k), (show List.length x4.2 = 32 from hx4v)]; done) | (simp only [List.length_append, List.length_map, List.length_cons, List.length_nil, List.size_toArray, (show List.length x4.1 = 32 from hx4k), (show List.length x4.2 = 32 from hx4v)]; done))) rfl (fun _ e => e ▸ rngL hb10)) ?_
        have hltg4 := hb4.lt
        have hltg5 := hb5.lt
        have hltg10 := hb10.lt
        refine wle rfl (e_bslX (E := 81) (cs := (((List.map u8v x4.1) ++ (List.map u8v x4.2)) : List Value)) (cs' := (((hx x4.1) ++ (hx x4.2)) : List Value)) rfl rfl (by simp only [hv, map_hx hx4k, map_hx hx4v] <;> rfl) (fun _ => by kernel_rfl) (fun w14 g38 hg38 hb38 hc hsz38 => ?_))
        have hzw14 := hc.size
        have HC := HC.tr hc
        have hW := hW.after hc
        have hm := hm.no hc
        have hb4 := hb4.ch hc (fun h => h)
        have hb5 := hb5.ch hc (fun h => h)
        have hb10 := hb10.ch hc (fun h => h)
        have hge38 : w.heap.size ≤ g38 := by have := HC.size; omega
        have hS38 := SI.oneA (E := eIT) (x := (x4.1, x4.2)) hb38 rfl ⟨hx4k, hx4v⟩
        have hltg4 := hb4.lt
        have hltg5 := hb5.lt
        have hltg10 := hb10.lt
        refine wle rfl (e_appI rfl el27 rfl rfl hW (hS38) (by omega) (by intro k hk; first | omega | (dsimp only at *; omega)) (fun w15 A39 c39 hW hc => ?_))
        have hzw15 := hc.size
        have HC := HC.trans hc (fun _ _ h => h) (fun k hk ht => absurd ht (by first | omega | (dsimp only at *; omega)))
        first | have hm := hm.ch hc (by intro k hk ht; first | omega | (dsimp only at *; omega)) | have hm := hm.chT hc (by intro k hz hk ht; first | omega | (dsimp only at *; omega))
        have hb4 := hb4.ch hc (by first | omega | (dsimp only; omega))
        have hb5 := hb5.ch hc (by first | omega | (dsimp only; omega))
        have hb10 := hb10.ch hc (by first | omega | (dsimp only; omega))
        first | have hS38 := hS38.ch hc (by intro k hk ht; first | omega | (dsimp only at *; omega)) | have hS38 := hS38.chT hc (by intro k hz hk ht; first | omega | (dsimp only at *; omega))
        refine wl rfl rfl rfl (p_as rfl) ?_
        refine wl_nil ?_
        refine x_in_normal ?_
        refine x_seq ?_
        refine wc_region ?_
        refine wl rfl rfl rfl (p_add rfl rfl (w64 (by omega))) ?_
        refine wl rfl rfl rfl (p_mv rfl) ?_
        refine wl_nil ?_
        refine x_round (e' := [(4, .pointer (some ⟨g4, 0, none⟩)), (5, .pointer (some ⟨g5, 0, none⟩)), (7, .slice (_) (_) (_)), (8, .bool (true)), (11, .slice Am lm cm), (12, i64 (lm : Int)), (13, i64 ((i + 1) : Int))]) ⟨rfl, rfl, rfl, rfl, rfl, rfl, rfl, trivial⟩ (by rw [hm0]; omega) ⟨i + 1, true, _, _, _, _, rfl, rfl, by omega, (by show _ ≤ _ + 1 + (_ : Nat); simp only [Bool.toNat_true, Bool.toNat_false]; omega), (by have hf0 : ¬ (x4.1 = k) := (by simpa using c2); rw [hdm, hdr, mputA]; (try simp only [hf0]); simp [hf0]), hW.mono (fun k _ hk => by first | omega | (dsimp only at *; omega)), hm, hb4, hb5, HC⟩
      ·
        refine wc_skip ?_
        refine x_in_normal ?_
        refine x_seq ?_
        refine wc_region ?_
        refine wl rfl rfl rfl (p_add rfl rfl (w64 (by omega))) ?_
        refine wl rfl rfl rfl (p_mv rfl) ?_
        refine wl_nil ?_
        refine x_round (e' := [(4, .pointer (some ⟨g4, 0, none⟩)), (5, .pointer (some ⟨g5, 0, none⟩)), (7, .slice (_) (_) (_)), (8, .bool (true)), (11, .slice Am lm cm), (12, i64 (lm : Int)), (13, i64 ((i + 1) : Int))]) ⟨rfl, rfl, rfl, rfl, rfl, rfl, rfl, trivial⟩ (by rw [hm0]; omega) ⟨i + 1, true, _, _, _, _, rfl, rfl, by omega, (by show _ ≤ _ + 1 + (_ : Nat); simp only [Bool.toNat_true, Bool.toNat_false]; omega), (by have hf0 : (x4.1 = k) := (by simpa using c2); rw [hdm, hdr, mputA]; (try simp only [hf0]); simp [hf0]), hW.mono (fun k _ hk => by first | omega | (dsimp only at *; omega)), hm, hb4, hb5, HC⟩
  ·
    have c0 := of_decide_eq_false c0
    refine wc_exit ?_
    refine x_then_exit ?_
    refine x_then_exit ?_
    refine x_in_here ?_
    refine x_seq ?_
    refine wc_seq ?_
    refine wc_seq ?_
    rcases dn with _ | _
    ·
      have hyl : l ≤ i + 0 := by simpa using hyl
      refine wc_region ?_
      refine wl rfl rfl rfl (p_mv rfl) ?_
      refine wl rfl rfl rfl (p_not rfl) ?_
      refine wl_nil ?_
      refine x_seq ?_
      refine wc_yes rfl (rfl) ?_
      refine wc_region ?_
      refine wl rfl rfl rfl (p_mv rfl) ?_
      refine wl rfl rfl rfl (p_ldA (cs := List.map u8v k) Tryd.underlying38 rfl (szL sz38 (by rw [List.length_map]; exact hk)) rfl (fun _ e => e ▸ rngL hb4)) ?_
      refine wl rfl rfl rfl (p_ldA (cs := List.map u8v u) Tryd.underlying38 rfl (szL sz38 (by rw [List.length_map]; exact hu)) rfl (fun _ e => e ▸ rngL hb5)) ?_
      refine wl rfl rfl rfl (p_bldX (vs' := [(.agg ((hx k) : List Value).toArray), (.agg ((hx u) : List Value).toArray)]) (cs := (((List.map u8v k) ++ (List.map u8v u)) : List Value)) (cs' := (((hx k) ++ (hx u)) : List Value)) rfl (by simp only [hv, map_hx hk, map_hx hu] <;> rfl) (by simp only [hv, map_hx hk, map_hx hu] <;> rfl) (fun _ => by kernel_rfl)) ?_
      have hltg4 := hb4.lt
      have hltg5 := hb5.lt
      refine wle rfl (e_bslX (E := 81) (cs := (((List.map u8v k) ++ (List.map u8v u)) : List Value)) (cs' := (((hx k) ++ (hx u)) : List Value)) rfl rfl (by simp only [hv, map_hx hk, map_hx hu] <;> rfl) (fun _ => by kernel_rfl) (fun w16 g47 hg47 hb47 hc hsz47 => ?_))
      have hzw16 := hc.size
      have HC := HC.tr hc
      have hW := hW.after hc
      have hm := hm.no hc
      have hb4 := hb4.ch hc (fun h => h)
      have hb5 := hb5.ch hc (fun h => h)
      have hge47 : w.heap.size ≤ g47 := by have := HC.size; omega
      have hS47 := SI.oneA (E := eIT) (x := (k, u)) hb47 rfl ⟨hk, hu⟩
      have hltg4 := hb4.lt
      have hltg5 := hb5.lt
      refine wle rfl (e_appI rfl el27 rfl rfl hW (hS47) (by omega) (by intro k hk; first | omega | (dsimp only at *; omega)) (fun w17 A48 c48 hW hc => ?_))
      have hzw17 := hc.size
      have HC := HC.trans hc (fun _ _ h => h) (fun k hk ht => absurd ht (by first | omega | (dsimp only at *; omega)))
      first | have hm := hm.ch hc (by intro k hk ht; first | omega | (dsimp only at *; omega)) | have hm := hm.chT hc (by intro k hz hk ht; first | omega | (dsimp only at *; omega))
      have hb4 := hb4.ch hc (by first | omega | (dsimp only; omega))
      have hb5 := hb5.ch hc (by first | omega | (dsimp only; omega))
      first | have hS47 := hS47.ch hc (by intro k hk ht; first | omega | (dsimp only at *; omega)) | have hS47 := hS47.chT hc (by intro k hz hk ht; first | omega | (dsimp only at *; omega))
      refine wl rfl rfl rfl (p_as rfl) ?_
      refine wl_nil ?_
      refine x_seq ?_
      refine wc_seq ?_
      refine wc_region ?_
      refine wl rfl rfl rfl (p_mv rfl) ?_
      refine wl rfl rfl rfl (p_as rfl) ?_
      refine wl_nil ?_
      refine x_seq ?_
      refine wc_ret ?_
      refine fin_run ((res1 rfl rfl)) ?_
      rw [List.drop_of_length_le (by omega), mputA] at hdm
      first | (rw [show mput m k u = _ from hdm]; simp only [if_true, List.append_nil]; exact ⟨_, _, _, rfl, hW.mono (fun k _ hk => by first | exact hk.1 | exact hk.1.1), HC⟩) | (rw [show mput m k u = _ from hdm]; exact ⟨_, _, _, rfl, hW.mono (fun k _ hk => by first | exact hk.1 | exact hk.1.1 | exact hk.1.1.1 | exact hk.1.1.1.1 | exact hk.1.1.1.1.1), HC⟩)
    ·
      have hyl : l ≤ i + 1 := by simpa using hyl
      refine wc_region ?_
      refine wl rfl rfl rfl (p_mv rfl) ?_
      refine wl rfl rfl rfl (p_not rfl) ?_
      refine wl_nil ?_
      refine x_seq ?_
      refine wc_no rfl (rfl) ?_
      refine wc_skip ?_
      refine x_seq ?_
      refine wc_seq ?_
      refine wc_region ?_
      refine wl rfl rfl rfl (p_mv rfl) ?_
      refine wl rfl rfl rfl (p_as rfl) ?_
      refine wl_nil ?_
      refine x_seq ?_
      refine wc_ret ?_
      refine fin_run ((res1 rfl rfl)) ?_
      rw [List.drop_of_length_le (by omega), mputA] at hdm
      first | (rw [show mput m k u = _ from hdm]; simp only [if_true, List.append_nil]; exact ⟨_, _, _, rfl, hW.mono (fun k _ hk => by first | exact hk.1 | exact hk.1.1), HC⟩) | (rw [show mput m k u = _ from hdm]; exact ⟨_, _, _, rfl, hW.mono (fun k _ hk => by first | exact hk.1 | exact hk.1.1 | exact hk.1.1.1 | exact hk.1.1.1.1 | exact hk.1.1.1.1.1), HC⟩)

theorem put_any : ∀ x : LT, PutOK x
  | .leaf g k v => fun hX hk hu hc => put_leaf hX hk hu
  | .fork g b x y => fun hX hk hu hc => put_fork (put_any x) (put_any y) hX hk hu hc

theorem putO_any {w : World} {k u : List UInt8} {o : Option LT} {F : Nat → Prop} (ht : OTr 156 F w o) (hF : ∀ j, w.heap.size ≤ j → F j) (hk : k.length = 32) (hu : u.length = 32) (hc : cntT (eo o) + 1 ≤ 4611686018427387904) :
    Calls Tryd.prog 83 #[.pointer (topa o), hv k, hv u] w fun e w' => ∃ t : LT, e = .returned (ndp t.adr) ∧ some t.er = putT (eo o) k u ∧ LF 156 F w' t ∧ Ch No w w' := by
  cases o with
  | none => exact (put_nil hk hu).mono fun e w' ⟨g, h1, h2, h3⟩ => ⟨.leaf g k u, h1, rfl, ⟨h2.1, fun a ha => hF a (h2.2 a ha)⟩, h3⟩
  | some x => exact (put_any x (ht x rfl).1 hk hu hc).mono fun e w' ⟨t, h1, h2, h3, h4⟩ => ⟨t, h1, by rw [h2]; rfl, ⟨h3.1, fun a ha => (h3.2 a ha).elim (fun h => (ht x rfl).2 a h) (hF a)⟩, h4⟩

theorem rootO_any {w : World} {o : Option LT} {F : Nat → Prop} (ht : OTr 156 F w o) (hrnd : Sl w (fun k => k = 0) u32v (some ⟨0, 0, none⟩) 64 64 rk) :
    Calls Tryd.prog 85 #[.pointer (topa o)] w fun e w' => e = .returned (hv (rootT (eo o))) ∧ (∀ t, o = some t → LAt 156 w' t) ∧ Ch (fun k => k ∈ adsO o) w w' := by
  cases o with
  | none => exact (root_nil hrnd).mono fun e w' ⟨h1, h2⟩ => ⟨h1, fun t e => by (cases e), h2.mono (fun _ _ h => h.elim)⟩
  | some x => exact (root_any x (ht x rfl).1 hrnd).mono fun e w' ⟨h1, h2, h3⟩ => ⟨h1, fun t e => by (cases e; exact h2), h3⟩

set_option maxHeartbeats 1000000 in
set_option maxRecDepth 20000 in
theorem is_made {w : World} {g : Nat} {o : Option LT} (hbg : Blk w g 41 [.pointer (topa o), .bool true].toArray) :
    Calls Tryd.prog 81 #[ndp g] w fun e w' => e = .returned (.bool true) ∧ Ch No w w' := by
  have HC : Ch No w w := Ch.refl _ _
  refine enter' (args := [ndp g]) (n := 11) Tryd.func81 rfl rfl rfl ?_
  refine wc_seq ?_
  refine wc_region ?_
  refine wl rfl rfl rfl (p_as rfl) ?_
  refine wl_nil ?_
  refine x_seq ?_
  refine wc_seq ?_
  refine wc_region ?_
  refine wl rfl rfl rfl (p_mv rfl) ?_
  refine wl rfl rfl rfl (p_nePN rfl rfl Tryd.underlying25) ?_
  refine wl rfl rfl rfl (p_mv rfl) ?_
  refine wl_g (gd_ rfl rfl rfl rfl rfl rfl) rfl rfl (p_mv rfl) ?_
  refine wl_g (gd_ rfl rfl rfl rfl rfl rfl) rfl rfl (p_nck rfl) ?_
  refine wl_g (gd_ rfl rfl rfl rfl rfl rfl) rfl rfl (p_fld (j := 1) Tryd.underlying41 rfl ⟨_, by rfl⟩ rfl rfl) ?_
  refine wl_g (gd_ rfl rfl rfl rfl rfl rfl) rfl rfl (p_ld Tryd.underlying4 rfl rfl (ld (cell_at (p := ([.pointer (topa o)] : List Value)) (v := (.bool true : Value)) (r := []) hbg (by simp only [List.append_assoc, List.cons_append, List.nil_append, List.append_nil]) (by first | rfl | (simp only [List.length_append, List.length_map, List.length_cons, List.length_nil]; done) | (simp only [List.length_append, List.length_map, List.length_cons, List.length_nil, List.size_toArray]; done))))) ?_
  refine wl rfl rfl rfl (p_pickT rfl rfl) ?_
  refine wl rfl rfl rfl (p_as rfl) ?_
  refine wl_nil ?_
  refine x_seq ?_
  refine wc_ret ?_
  refine fin_run ((res1 rfl rfl)) ?_
  exact ⟨rfl, HC⟩

set_option maxHeartbeats 1000000 in
set_option maxRecDepth 20000 in
theorem new_any {w : World}   :
    Calls Tryd.prog 51 #[] w fun e w' => ∃ v, e = .returned v ∧ TR 41 156 (fun k => w.heap.size ≤ k) w' v none ∧ Ch No w w' := by
  have HC : Ch No w w := Ch.refl _ _
  refine enter' (args := []) (n := 3) Tryd.func51 rfl rfl rfl ?_
  refine wc_seq ?_
  refine wc_region ?_
  refine wl rfl rfl rfl (p_as rfl) ?_
  refine wl_nil ?_
  refine x_seq ?_
  refine wc_seq ?_
  refine wc_region ?_
  refine wl rfl rfl rfl (p_bldX (vs' := [.bool true]) (cs := ([Value.pointer none, .bool true] : List Value)) (cs' := ([Value.pointer none, .bool true] : List Value)) rfl rfl rfl (fun _ => by kernel_rfl)) ?_
  refine wle rfl (e_box (cs := ([Value.pointer none, .bool true] : List Value).toArray) rfl rfl rfl (fun w1 g2 hg2 hb2 hc hsz2 => ?_))
  have hzw1 := hc.size
  have HC := HC.tr hc
  have hge2 : w.heap.size ≤ g2 := by have := HC.size; omega
  refine wl rfl rfl rfl (p_as rfl) ?_
  refine wl_nil ?_
  refine x_seq ?_
  refine wc_ret ?_
  refine fin_run ((res1 rfl rfl)) ?_
  exact ⟨_, rfl, TR.mk' hge2 hb2 (fun t e => by (cases e)), HC⟩

set_option maxHeartbeats 1000000 in
set_option maxRecDepth 20000 in
theorem tput_made {w : World} {v : Value} {o : Option LT} {F : Nat → Prop} {k : List UInt8} {u : List UInt8} (hV : TR 41 156 F w v o) (hF : ∀ j, w.heap.size ≤ j → F j) (hk : k.length = 32) (hu : u.length = 32) (hcn : cntT (eo o) + 1 ≤ 4611686018427387904) :
    Calls Tryd.prog 44 #[v, hv k, hv u] w fun e w' => ∃ v' t, e = .returned v' ∧ TR 41 156 F w' v' (some t) ∧ eo (some t) = putT (eo o) k u ∧ Ch No w w' := by
  obtain ⟨g, rfl, hFg, hbg, hT⟩ := hV.opn
  have hbg : Blk w g 41 ([.pointer (topa o), .bool true] : List Value).toArray := hbg
  have hT : OTr 156 F w o := hT
  have hTl := hT.lt
  have hltg := hbg.lt
  have HC : Ch No w w := Ch.refl _ _
  refine enter' (args := [ndp g, hv k, hv u]) (n := 19) Tryd.func44 rfl rfl rfl ?_
  refine wc_seq ?_
  refine wc_region ?_
  have hltg := hbg.lt
  refine wle rfl (e_box (cs := (List.map u8v k).toArray) rfl rfl rfl (fun w1 g4 hg4 hb4 hc hsz4 => ?_))
  have hzw1 := hc.size
  have HC := HC.tr hc
  have hbg := hbg.ch hc (fun h => h)
  have hT := hT.chA hc (by first | exact fun _ _ h => h | exact (fun k hk ht => by have h2 := hTl k hk; omega))
  have hge4 : w.heap.size ≤ g4 := by have := HC.size; omega
  have neg_4 : g < g4 := by omega
  have hltg := hbg.lt
  have hltg4 := hb4.lt
  refine wle rfl (e_box (cs := (List.map u8v u).toArray) rfl rfl rfl (fun w2 g5 hg5 hb5 hc hsz5 => ?_))
  have hzw2 := hc.size
  have HC := HC.tr hc
  have hbg := hbg.ch hc (fun h => h)
  have hT := hT.chA hc (by first | exact fun _ _ h => h | exact (fun k hk ht => by have h2 := hTl k hk; omega))
  have hb4 := hb4.ch hc (fun h => h)
  have hge5 : w.heap.size ≤ g5 := by have := HC.size; omega
  have neg_5 : g < g5 := by omega
  have neg4_5 : g4 < g5 := by omega
  refine wl rfl rfl rfl (p_as rfl) ?_
  refine wl_nil ?_
  refine x_seq ?_
  refine wc_seq ?_
  refine wc_seq ?_
  refine wc_region ?_
  refine wl rfl rfl rfl (p_mv rfl) ?_
  refine wle rfl (e_call ent81 rfl rfl (is_made hbg) ?_)
  rintro _ w3 ⟨rfl, hc⟩
  refine ⟨_, rfl, ?_⟩
  have hzw3 := hc.size
  have HC := HC.tr hc
  have hbg := hbg.ch hc (fun h => h)
  have hT := hT.chA hc (by first | exact fun _ _ h => h | exact (fun k hk ht => by have h2 := hTl k hk; omega))
  have hb4 := hb4.ch hc (fun h => h)
  have hb5 := hb5.ch hc (fun h => h)
  refine wl rfl rfl rfl (p_not rfl) ?_
  refine wl_nil ?_
  refine x_seq ?_
  refine wc_no rfl (rfl) ?_
  refine wc_skip ?_
  refine x_seq ?_
  refine wc_seq ?_
  refine wc_draw (.st 0 0 (.st 1 0 (.st 2 0 (.st 3 1 (.st 4 1 (.st 5 1 (.st 6 2 (.st 7 0 (.st 8 2 (.st 9 0 .nil)))))))))) 10 (by kernel_rfl) (by kernel_rfl) (by kernel_rfl) (by repeat (first | with_reducible exact pan_body | with_reducible apply pan_then | with_reducible apply pan_in)) (fun x => Ch No w3.drew x) (Ch.refl _ _) ?_
  obtain ⟨w4, ew4⟩ : ∃ x, x = w3.drew := ⟨_, rfl⟩
  rw [← ew4]
  have hc : Ch No w3 w4 := by rw [ew4]; exact Ch.drew _
  have hszw4 : w4.heap.size = w3.heap.size := by rw [ew4]; rfl
  clear ew4
  have hzw4 := hc.size
  have HC := HC.tr hc
  have hbg := hbg.ch hc (fun h => h)
  have hT := hT.chA hc (by first | exact fun _ _ h => h | exact (fun k hk ht => by have h2 := hTl k hk; omega))
  have hb4 := hb4.ch hc (fun h => h)
  have hb5 := hb5.ch hc (fun h => h)
  have hS : Ch No w4 w4 := Ch.refl _ _
  refine ws_p rfl rfl rfl rfl (p_mv rfl) ?_
  refine ws_p rfl rfl rfl rfl (p_nck rfl) ?_
  refine ws_p rfl rfl rfl rfl (p_fld (j := 0) Tryd.underlying41 rfl ⟨_, by rfl⟩ rfl rfl) ?_
  refine ws_h rfl rfl rfl rfl (p_ld Tryd.underlying39 rfl rfl (fun _ h => h.cell (fun h => h) (cell_at (p := []) (v := (.pointer (topa o) : Value)) (r := ([.bool true] : List Value)) hbg (by simp only [List.append_assoc, List.cons_append, List.nil_append, List.append_nil]) (by first | rfl | (simp only [List.length_append, List.length_map, List.length_cons, List.length_nil]; done) | (simp only [List.length_append, List.length_map, List.length_cons, List.length_nil, List.size_toArray]; done))))) ?_
  refine ws_h rfl rfl rfl rfl (p_ldA (cs := List.map u8v k) Tryd.underlying38 rfl (szL sz38 (by rw [List.length_map]; exact hk)) rfl (fun _ h => (rngL (hb4.ch h (fun h => h))))) ?_
  refine ws_h rfl rfl rfl rfl (p_ldA (cs := List.map u8v u) Tryd.underlying38 rfl (szL sz38 (by rw [List.length_map]; exact hu)) rfl (fun _ h => (rngL (hb5.ch h (fun h => h))))) ?_
  refine ws_e rfl rfl (e_call ent83 rfl rfl (putO_any hT (fun j hj => hF j (by omega)) (hk) (hu) hcn) ?_)
  rintro _ w5 ⟨t16, rfl, het16, hL16, hc⟩
  refine ⟨_, rfl, hc, ?_⟩
  have hzw5 := hc.size
  have HC := HC.tr hc
  have hbg := hbg.ch hc (fun h => h)
  have hT := hT.chA hc (by first | exact fun _ _ h => h | exact (fun k hk ht => by have h2 := hTl k hk; omega))
  have hb4 := hb4.ch hc (fun h => h)
  have hb5 := hb5.ch hc (fun h => h)
  refine ws_narrow (S' := fun x => Ch No w5 x) (Ch.refl _ _) (fun x h => hc.tr h) ?_
  refine ws_p rfl rfl rfl rfl (p_bldX (vs' := [ndp t16.adr, .bool true]) (cs := ([ndp t16.adr, .bool true] : List Value)) (cs' := ([ndp t16.adr, .bool true] : List Value)) rfl rfl rfl (fun _ => by kernel_rfl)) ?_
  have hltg := hbg.lt
  have hltg4 := hb4.lt
  have hltg5 := hb5.lt
  refine ws_e rfl rfl (e_box (cs := ([ndp t16.adr, .bool true] : List Value).toArray) rfl rfl rfl (fun w6 g18 hg18 hb18 hc hsz18 => ⟨hc, ?_⟩))
  have hzw6 := hc.size
  have HC := HC.tr hc
  have hbg := hbg.ch hc (fun h => h)
  have hT := hT.chA hc (by first | exact fun _ _ h => h | exact (fun k hk ht => by have h2 := hTl k hk; omega))
  have hb4 := hb4.ch hc (fun h => h)
  have hb5 := hb5.ch hc (fun h => h)
  have hL16 := hL16.no hc
  have hge18 : w.heap.size ≤ g18 := by have := HC.size; omega
  have neg_18 : g < g18 := by omega
  have neg4_18 : g4 < g18 := by omega
  have neg5_18 : g5 < g18 := by omega
  refine ws_narrow (S' := fun x => Ch No w6 x) (Ch.refl _ _) (fun x h => hc.tr h) ?_
  refine ws_p rfl rfl rfl rfl (p_as rfl) ?_
  refine ws_n ?_
  refine x_seq ?_
  refine wc_ret ?_
  refine fin_run ((res1 rfl rfl)) ?_
  exact ⟨_, t16, rfl, TR.mk' (hF _ (by omega)) hb18 (fun t e => by cases e; exact hL16), het16, HC⟩

set_option maxHeartbeats 1000000 in
set_option maxRecDepth 20000 in
theorem find_none {w : World}  {k : List UInt8} (hk : k.length = 32) :
    Calls Tryd.prog 82 #[.pointer none, hv k] w fun e w' => e = .returned (.pointer none) ∧ Ch No w w' := by
  have HC : Ch No w w := Ch.refl _ _
  refine enter' (args := [.pointer none, hv k]) (n := 26) Tryd.func82 rfl rfl rfl ?_
  refine wc_seq ?_
  refine wc_region ?_
  refine wle rfl (e_box (cs := (List.map u8v k).toArray) rfl rfl rfl (fun w1 g3 hg3 hb3 hc hsz3 => ?_))
  have hzw1 := hc.size
  have HC := HC.tr hc
  have hge3 : w.heap.size ≤ g3 := by have := HC.size; omega
  refine wl rfl rfl rfl (p_as rfl) ?_
  refine wl_nil ?_
  refine x_seq ?_
  refine wc_seq ?_
  refine wc_block ?_
  refine wc_loop (e' := [(0, .pointer none)]) (fun mz ez uz => mz = 0 ∧ ez = [(0, .pointer none)] ∧ (Ch No w uz))
    ⟨rfl, trivial⟩ ⟨rfl, rfl, HC⟩ ?_
  rintro m0 e w2 ⟨hm0, rfl, HC⟩
  have hzw2 := HC.size
  refine wc_seq ?_
  refine wc_seq ?_
  refine wc_region ?_
  refine wl rfl rfl rfl (p_mv rfl) ?_
  refine wl rfl rfl rfl (p_nePN rfl rfl Tryd.underlying39) ?_
  refine wl rfl rfl rfl (p_mv rfl) ?_
  refine wl_s (gd_ rfl rfl rfl rfl rfl rfl) rfl rfl ?_
  refine wl_s (gd_ rfl rfl rfl rfl rfl rfl) rfl rfl ?_
  refine wl_s (gd_ rfl rfl rfl rfl rfl rfl) rfl rfl ?_
  refine wl_s (gd_ rfl rfl rfl rfl rfl rfl) rfl rfl ?_
  refine wl_s (gd_ rfl rfl rfl rfl rfl rfl) rfl rfl ?_
  refine wl rfl rfl rfl (p_pickF rfl rfl) ?_
  refine wl_nil ?_
  refine x_seq ?_
  refine wc_no rfl (rfl) ?_
  refine wc_exit ?_
  refine x_then_exit ?_
  refine x_then_exit ?_
  refine x_in_here ?_
  refine x_seq ?_
  refine wc_seq ?_
  refine wc_region ?_
  refine wl rfl rfl rfl (p_mv rfl) ?_
  refine wl rfl rfl rfl (p_as rfl) ?_
  refine wl_nil ?_
  refine x_seq ?_
  refine wc_ret ?_
  refine fin_run ((res1 rfl rfl)) ?_
  exact ⟨rfl, HC⟩

set_option maxHeartbeats 1000000 in
set_option maxRecDepth 20000 in
theorem tget_none {w : World} {g : Nat} {k : List UInt8} (hbg : Blk w g 41 [.pointer none, .bool true].toArray) (hk : k.length = 32) :
    Calls Tryd.prog 42 #[ndp g, hv k] w fun e w' => ∃ (u : List UInt8) (ok : Bool), e = .returned (.tuple #[hv u, .bool ok]) ∧ u.length = 32 ∧ (u, ok) = ((getT (eo none) k).getD zeroH, (getT (eo none) k).isSome) ∧ Ch No w w' := by
  have hltg := hbg.lt
  have HC : Ch No w w := Ch.refl _ _
  refine enter' (args := [ndp g, hv k]) (n := 32) Tryd.func42 rfl rfl rfl ?_
  refine wc_seq ?_
  refine wc_region ?_
  have hltg := hbg.lt
  refine wle rfl (e_box (cs := (List.map u8v k).toArray) rfl rfl rfl (fun w1 g3 hg3 hb3 hc hsz3 => ?_))
  have hzw1 := hc.size
  have HC := HC.tr hc
  have hbg := hbg.ch hc (fun h => h)
  have hge3 : w.heap.size ≤ g3 := by have := HC.size; omega
  have neg_3 : g < g3 := by omega
  have hltg := hbg.lt
  have hltg3 := hb3.lt
  refine wle rfl (e_alloc (cs := ((List.replicate 32 (0 : UInt8)).map u8v).toArray) rfl (by rfl) rfl (fun w2 g4 hg4 hb4 hc hsz4 => ?_))
  have hzw2 := hc.size
  have HC := HC.tr hc
  have hbg := hbg.ch hc (fun h => h)
  have hb3 := hb3.ch hc (fun h => h)
  have hge4 : w.heap.size ≤ g4 := by have := HC.size; omega
  have neg_4 : g < g4 := by omega
  have neg3_4 : g3 < g4 := by omega
  refine wl rfl rfl rfl (p_as rfl) ?_
  refine wl_nil ?_
  refine x_seq ?_
  refine wc_seq ?_
  refine wc_seq ?_
  refine wc_region ?_
  refine wl rfl rfl rfl (p_mv rfl) ?_
  refine wle rfl (e_call ent81 rfl rfl (is_made (o := none) hbg) ?_)
  rintro _ w3 ⟨rfl, hc⟩
  refine ⟨_, rfl, ?_⟩
  have hzw3 := hc.size
  have HC := HC.tr hc
  have hbg := hbg.ch hc (fun h => h)
  have hb3 := hb3.ch hc (fun h => h)
  have hb4 := hb4.ch hc (fun h => h)
  refine wl rfl rfl rfl (p_not rfl) ?_
  refine wl_nil ?_
  refine x_seq ?_
  refine wc_no rfl (rfl) ?_
  refine wc_skip ?_
  refine x_seq ?_
  refine wc_seq ?_
  refine wc_draw (.st 0 0 (.st 1 0 (.st 2 0 (.st 3 1 (.st 4 1 (.st 5 2 (.st 6 0 .nil))))))) 7 (by kernel_rfl) (by kernel_rfl) (by kernel_rfl) (by repeat (first | with_reducible exact pan_body | with_reducible apply pan_then | with_reducible apply pan_in)) (fun x => Ch No w3.drew x) (Ch.refl _ _) ?_
  obtain ⟨w4, ew4⟩ : ∃ x, x = w3.drew := ⟨_, rfl⟩
  rw [← ew4]
  have hc : Ch No w3 w4 := by rw [ew4]; exact Ch.drew _
  have hszw4 : w4.heap.size = w3.heap.size := by rw [ew4]; rfl
  clear ew4
  have hzw4 := hc.size
  have HC := HC.tr hc
  have hbg := hbg.ch hc (fun h => h)
  have hb3 := hb3.ch hc (fun h => h)
  have hb4 := hb4.ch hc (fun h => h)
  have hS : Ch No w4 w4 := Ch.refl _ _
  refine ws_p rfl rfl rfl rfl (p_mv rfl) ?_
  refine ws_p rfl rfl rfl rfl (p_nck rfl) ?_
  refine ws_p rfl rfl rfl rfl (p_fld (j := 0) Tryd.underlying41 rfl ⟨_, by rfl⟩ rfl rfl) ?_
  refine ws_h rfl rfl rfl rfl (p_ld Tryd.underlying39 rfl rfl (fun _ h => h.cell (fun h => h) (cell_at (p := []) (v := (.pointer none : Value)) (r := ([.bool true] : List Value)) hbg (by simp only [List.append_assoc, List.cons_append, List.nil_append, List.append_nil]) (by first | rfl | (simp only [List.length_append, List.length_map, List.length_cons, List.length_nil]; done) | (simp only [List.length_append, List.length_map, List.length_cons, List.length_nil, List.size_toArray]; done))))) ?_
  refine ws_h rfl rfl rfl rfl (p_ldA (cs := List.map u8v k) Tryd.underlying38 rfl (szL sz38 (by rw [List.length_map]; exact hk)) rfl (fun _ h => (rngL (hb3.ch h (fun h => h))))) ?_
  refine ws_e rfl rfl (e_call ent82 rfl rfl (find_none (hk)) ?_)
  rintro _ w5 ⟨rfl, hc⟩
  refine ⟨_, rfl, hc, ?_⟩
  have hzw5 := hc.size
  have HC := HC.tr hc
  have hbg := hbg.ch hc (fun h => h)
  have hb3 := hb3.ch hc (fun h => h)
  have hb4 := hb4.ch hc (fun h => h)
  refine ws_narrow (S' := fun x => Ch No w5 x) (Ch.refl _ _) (fun x h => hc.tr h) ?_
  refine ws_p rfl rfl rfl rfl (p_as rfl) ?_
  refine ws_n ?_
  refine x_seq ?_
  refine wc_seq ?_
  refine wc_seq ?_
  refine wc_draw (.st 0 0 (.st 1 0 (.st 2 0 (.st 3 0 (.st 4 0 (.st 5 0 (.st 6 1 (.st 7 1 (.st 8 0 (.st 9 0 .nil)))))))))) 10 (by kernel_rfl) (by kernel_rfl) (by kernel_rfl) (by repeat (first | with_reducible exact pan_body | with_reducible apply pan_then | with_reducible apply pan_in)) (fun x => Ch No w5.drew x) (Ch.refl _ _) ?_
  obtain ⟨w6, ew6⟩ : ∃ x, x = w5.drew := ⟨_, rfl⟩
  rw [← ew6]
  have hc : Ch No w5 w6 := by rw [ew6]; exact Ch.drew _
  have hszw6 : w6.heap.size = w5.heap.size := by rw [ew6]; rfl
  clear ew6
  have hzw6 := hc.size
  have HC := HC.tr hc
  have hbg := hbg.ch hc (fun h => h)
  have hb3 := hb3.ch hc (fun h => h)
  have hb4 := hb4.ch hc (fun h => h)
  have hS : Ch No w6 w6 := Ch.refl _ _
  refine ws_p rfl rfl rfl rfl (p_mv rfl) ?_
  refine ws_p rfl rfl rfl rfl (p_eqPN rfl rfl Tryd.underlying39) ?_
  refine ws_p rfl rfl rfl rfl (p_mv rfl) ?_
  refine ws_s rfl (gd_ rfl rfl rfl rfl rfl rfl) rfl rfl ?_
  refine ws_s rfl (gd_ rfl rfl rfl rfl rfl rfl) rfl rfl ?_
  refine ws_s rfl (gd_ rfl rfl rfl rfl rfl rfl) rfl rfl ?_
  refine ws_s rfl (gd_ rfl rfl rfl rfl rfl rfl) rfl rfl ?_
  refine ws_s rfl (gd_ rfl rfl rfl rfl rfl rfl) rfl rfl ?_
  refine ws_s rfl (gd_ rfl rfl rfl rfl rfl rfl) rfl rfl ?_
  refine ws_p rfl rfl rfl rfl (p_pickT rfl rfl) ?_
  refine ws_n ?_
  refine x_seq ?_
  refine wc_yes rfl (rfl) ?_
  refine wc_seq ?_
  refine wc_region ?_
  refine wl rfl rfl rfl (p_bldP (cs := ((List.replicate 32 (0 : UInt8)).map u8v).toArray) rfl (fun _ => by kernel_rfl)) ?_
  refine wle rfl (e_stW (vs := List.map u8v (List.replicate 32 (0 : UInt8))) (szL sz38 (by rw [List.length_map]; exact (List.length_replicate ..))) (oneL one_u8 _) rfl rfl hb4 (by simp only [List.size_toArray, List.length_map]; first | done | exact ((List.length_replicate ..)).trans ((List.length_replicate ..)).symm) (fun w7 hb4 hc hsz => ?_))
  have hzw7 := hc.size
  have HC := HC.trans hc (fun _ _ h => h) (fun k hk ht => absurd ht (by omega))
  have hbg := hbg.ch hc (by omega)
  have hb3 := hb3.ch hc (by omega)
  refine wl rfl rfl rfl (p_as rfl) ?_
  refine wl_nil ?_
  refine x_seq ?_
  refine wc_ret ?_
  refine x_then_ret ?_
  refine fin_run (resMany (rs := [.cell 4 38, .tmp 5]) rfl (.cellA (cs := List.map u8v (List.replicate 32 (0 : UInt8))) rfl Tryd.underlying38 rfl (szL sz38 (by rw [List.length_map]; exact (List.length_replicate ..))) (rngL hb4) (.tmp rfl (.nil))) rfl) ?_
  exact ⟨_, _, rfl, List.length_replicate .., rfl, HC⟩

set_option maxHeartbeats 1000000 in
set_option maxRecDepth 20000 in
theorem tget_some {w : World} {g : Nat} {t : LT} {F : Nat → Prop} {k : List UInt8} (hbg : Blk w g 41 [ndp t.adr, .bool true].toArray) (hT : OTr 156 F w (some t)) (hk : k.length = 32) :
    Calls Tryd.prog 42 #[ndp g, hv k] w fun e w' => ∃ (u : List UInt8) (ok : Bool), e = .returned (.tuple #[hv u, .bool ok]) ∧ u.length = 32 ∧ (u, ok) = ((getT (eo (some t)) k).getD zeroH, (getT (eo (some t)) k).isSome) ∧ Ch No w w' := by
  have hltg := hbg.lt
  have hTl := hT.lt
  have HC : Ch No w w := Ch.refl _ _
  refine enter' (args := [ndp g, hv k]) (n := 32) Tryd.func42 rfl rfl rfl ?_
  refine wc_seq ?_
  refine wc_region ?_
  have hltg := hbg.lt
  refine wle rfl (e_box (cs := (List.map u8v k).toArray) rfl rfl rfl (fun w1 g3 hg3 hb3 hc hsz3 => ?_))
  have hzw1 := hc.size
  have HC := HC.tr hc
  have hbg := hbg.ch hc (fun h => h)
  have hT := hT.chA hc (by first | exact fun _ _ h => h | exact (fun k hk ht => by have h2 := hTl k hk; omega))
  have hge3 : w.heap.size ≤ g3 := by have := HC.size; omega
  have neg_3 : g < g3 := by omega
  have hltg := hbg.lt
  have hltg3 := hb3.lt
  refine wle rfl (e_alloc (cs := ((List.replicate 32 (0 : UInt8)).map u8v).toArray) rfl (by rfl) rfl (fun w2 g4 hg4 hb4 hc hsz4 => ?_))
  have hzw2 := hc.size
  have HC := HC.tr hc
  have hbg := hbg.ch hc (fun h => h)
  have hT := hT.chA hc (by first | exact fun _ _ h => h | exact (fun k hk ht => by have h2 := hTl k hk; omega))
  have hb3 := hb3.ch hc (fun h => h)
  have hge4 : w.heap.size ≤ g4 := by have := HC.size; omega
  have neg_4 : g < g4 := by omega
  have neg3_4 : g3 < g4 := by omega
  refine wl rfl rfl rfl (p_as rfl) ?_
  refine wl_nil ?_
  refine x_seq ?_
  refine wc_seq ?_
  refine wc_seq ?_
  refine wc_region ?_
  refine wl rfl rfl rfl (p_mv rfl) ?_
  refine wle rfl (e_call ent81 rfl rfl (is_made (o := some t) hbg) ?_)
  rintro _ w3 ⟨rfl, hc⟩
  refine ⟨_, rfl, ?_⟩
  have hzw3 := hc.size
  have HC := HC.tr hc
  have hbg := hbg.ch hc (fun h => h)
  have hT := hT.chA hc (by first | exact fun _ _ h => h | exact (fun k hk ht => by have h2 := hTl k hk; omega))
  have hb3 := hb3.ch hc (fun h => h)
  have hb4 := hb4.ch hc (fun h => h)
  refine wl rfl rfl rfl (p_not rfl) ?_
  refine wl_nil ?_
  refine x_seq ?_
  refine wc_no rfl (rfl) ?_
  refine wc_skip ?_
  refine x_seq ?_
  refine wc_seq ?_
  refine wc_draw (.st 0 0 (.st 1 0 (.st 2 0 (.st 3 1 (.st 4 1 (.st 5 2 (.st 6 0 .nil))))))) 7 (by kernel_rfl) (by kernel_rfl) (by kernel_rfl) (by repeat (first | with_reducible exact pan_body | with_reducible apply pan_then | with_reducible apply pan_in)) (fun x => Ch No w3.drew x) (Ch.refl _ _) ?_
  obtain ⟨w4, ew4⟩ : ∃ x, x = w3.drew := ⟨_, rfl⟩
  rw [← ew4]
  have hc : Ch No w3 w4 := by rw [ew4]; exact Ch.drew _
  have hszw4 : w4.heap.size = w3.heap.size := by rw [ew4]; rfl
  clear ew4
  have hzw4 := hc.size
  have HC := HC.tr hc
  have hbg := hbg.ch hc (fun h => h)
  have hT := hT.chA hc (by first | exact fun _ _ h => h | exact (fun k hk ht => by have h2 := hTl k hk; omega))
  have hb3 := hb3.ch hc (fun h => h)
  have hb4 := hb4.ch hc (fun h => h)
  have hS : Ch No w4 w4 := Ch.refl _ _
  refine ws_p rfl rfl rfl rfl (p_mv rfl) ?_
  refine ws_p rfl rfl rfl rfl (p_nck rfl) ?_
  refine ws_p rfl rfl rfl rfl (p_fld (j := 0) Tryd.underlying41 rfl ⟨_, by rfl⟩ rfl rfl) ?_
  refine ws_h rfl rfl rfl rfl (p_ld Tryd.underlying39 rfl rfl (fun _ h => h.cell (fun h => h) (cell_at (p := []) (v := (ndp t.adr : Value)) (r := ([.bool true] : List Value)) hbg (by simp only [List.append_assoc, List.cons_append, List.nil_append, List.append_nil]) (by first | rfl | (simp only [List.length_append, List.length_map, List.length_cons, List.length_nil]; done) | (simp only [List.length_append, List.length_map, List.length_cons, List.length_nil, List.size_toArray]; done))))) ?_
  refine ws_h rfl rfl rfl rfl (p_ldA (cs := List.map u8v k) Tryd.underlying38 rfl (szL sz38 (by rw [List.length_map]; exact hk)) rfl (fun _ h => (rngL (hb3.ch h (fun h => h))))) ?_
  refine ws_e rfl rfl (e_call ent82 rfl rfl (find_some (hT _ rfl).1 (hk)) ?_)
  rintro _ w5 ⟨gn, k0, v0, rfl, hfd, hLn, hc⟩
  refine ⟨_, rfl, hc, ?_⟩
  have hzw5 := hc.size
  have HC := HC.tr hc
  have hbg := hbg.ch hc (fun h => h)
  have hT := hT.chA hc (by first | exact fun _ _ h => h | exact (fun k hk ht => by have h2 := hTl k hk; omega))
  have hb3 := hb3.ch hc (fun h => h)
  have hb4 := hb4.ch hc (fun h => h)
  obtain ⟨hk0, hv0, d0, h0, ⟨hh0, hO0⟩, hbn⟩ := id hLn
  have hbn : Blk w5 gn 156 (([i64 ((256 : Nat) : Int), .pointer none, .pointer none] ++ ((List.map u8v k0) ++ ((List.map u8v v0) ++ ([i64 ((1 : Nat) : Int), .int .u32 (d0 : Int), .int .i32 ((0 : Nat) : Int), .int .u32 0] ++ (List.map u8v h0))))) : List Value).toArray := hbn
  have hnegn_g : gn ≠ g := hbn.ne hbg
  have hnegn_g3 : gn ≠ g3 := hbn.ne hb3
  have hnegn_g4 : gn ≠ g4 := hbn.ne hb4
  refine ws_narrow (S' := fun x => Ch No w5 x) (Ch.refl _ _) (fun x h => hc.tr h) ?_
  refine ws_p rfl rfl rfl rfl (p_as rfl) ?_
  refine ws_n ?_
  refine x_seq ?_
  refine wc_seq ?_
  refine wc_seq ?_
  refine wc_draw (.st 0 0 (.st 1 0 (.st 2 0 (.st 3 0 (.st 4 0 (.st 5 0 (.st 6 1 (.st 7 1 (.st 8 0 (.st 9 0 .nil)))))))))) 10 (by kernel_rfl) (by kernel_rfl) (by kernel_rfl) (by repeat (first | with_reducible exact pan_body | with_reducible apply pan_then | with_reducible apply pan_in)) (fun x => Ch No w5.drew x) (Ch.refl _ _) ?_
  obtain ⟨w6, ew6⟩ : ∃ x, x = w5.drew := ⟨_, rfl⟩
  rw [← ew6]
  have hc : Ch No w5 w6 := by rw [ew6]; exact Ch.drew _
  have hszw6 : w6.heap.size = w5.heap.size := by rw [ew6]; rfl
  clear ew6
  have hzw6 := hc.size
  have HC := HC.tr hc
  have hbg := hbg.ch hc (fun h => h)
  have hT := hT.chA hc (by first | exact fun _ _ h => h | exact (fun k hk ht => by have h2 := hTl k hk; omega))
  have hb3 := hb3.ch hc (fun h => h)
  have hb4 := hb4.ch hc (fun h => h)
  have hbn := hbn.ch hc (fun h => h)
  have hS : Ch No w6 w6 := Ch.refl _ _
  refine ws_p rfl rfl rfl rfl (p_mv rfl) ?_
  refine ws_p rfl rfl rfl rfl (p_eqPN rfl rfl Tryd.underlying39) ?_
  refine ws_p rfl rfl rfl rfl (p_mv rfl) ?_
  refine ws_pg rfl (gd_ rfl rfl rfl rfl rfl rfl) rfl rfl (p_mv rfl) ?_
  refine ws_pg rfl (gd_ rfl rfl rfl rfl rfl rfl) rfl rfl (p_nck rfl) ?_
  refine ws_pg rfl (gd_ rfl rfl rfl rfl rfl rfl) rfl rfl (p_fld (j := 3) Tryd.underlying156 rfl ⟨_, by rfl⟩ rfl rfl) ?_
  refine ws_hg rfl (gd_ rfl rfl rfl rfl rfl rfl) rfl rfl (p_ldA (cs := (List.map u8v k0)) Tryd.underlying38 rfl (szL sz38 (by first | rfl | (simp only [List.length_append, List.length_map, List.length_cons, List.length_nil, (show List.length k0 = 32 from hk0)]; done) | (simp only [List.length_append, List.length_map, List.length_cons, List.length_nil, List.size_toArray, (show List.length k0 = 32 from hk0)]; done))) rfl (fun _ h => rng_at (p := ([i64 ((256 : Nat) : Int), .pointer none, .pointer none] : List Value)) (q := ((List.map u8v k0) : List Value)) (r := (((List.map u8v v0) ++ ([i64 ((1 : Nat) : Int), .int .u32 (d0 : Int), .int .i32 ((0 : Nat) : Int), .int .u32 0] ++ (List.map u8v h0))) : List Value)) (hbn.ch h (fun h => h)) (by simp only [List.append_assoc, List.cons_append, List.nil_append, List.append_nil]) (by first | rfl | (simp only [List.length_append, List.length_map, List.length_cons, List.length_nil]; done) | (simp only [List.length_append, List.length_map, List.length_cons, List.length_nil, List.size_toArray]; done)))) ?_
  refine ws_hg rfl (gd_ rfl rfl rfl rfl rfl rfl) rfl rfl (p_ldA (cs := List.map u8v k) Tryd.underlying38 rfl (szL sz38 (by rw [List.length_map]; exact hk)) rfl (fun _ h => (rngL (hb3.ch h (fun h => h))))) ?_
  refine ws_pg rfl (gd_ rfl rfl rfl rfl rfl rfl) rfl rfl (p_neH (a := k0) (b := k) (by kernel_rfl) Tryd.underlying38 Tryd.underlying5 sz5 rfl rfl (hk0) (hk)) ?_
  refine ws_p rfl rfl rfl rfl (p_pickF rfl rfl) ?_
  refine ws_n ?_
  refine x_seq ?_
  refine wc_if rfl (fun c1 => ?_) (fun c1 => ?_)
  ·
    refine wc_seq ?_
    refine wc_region ?_
    refine wl rfl rfl rfl (p_bldP (cs := ((List.replicate 32 (0 : UInt8)).map u8v).toArray) rfl (fun _ => by kernel_rfl)) ?_
    refine wle rfl (e_stW (vs := List.map u8v (List.replicate 32 (0 : UInt8))) (szL sz38 (by rw [List.length_map]; exact (List.length_replicate ..))) (oneL one_u8 _) rfl rfl hb4 (by simp only [List.size_toArray, List.length_map]; first | done | exact ((List.length_replicate ..)).trans ((List.length_replicate ..)).symm) (fun w7 hb4 hc hsz => ?_))
    have hzw7 := hc.size
    have HC := HC.trans hc (fun _ _ h => h) (fun k hk ht => absurd ht (by omega))
    have hbg := hbg.ch hc (by omega)
    have hT := hT.chA hc (by first | exact fun _ _ h => h | exact (fun k hk ht => by have h2 := hTl k hk; omega))
    have hb3 := hb3.ch hc (by omega)
    have hbn := hbn.ch hc (by omega)
    refine wl rfl rfl rfl (p_as rfl) ?_
    refine wl_nil ?_
    refine x_seq ?_
    refine wc_ret ?_
    refine x_then_ret ?_
    refine fin_run (resMany (rs := [.cell 4 38, .tmp 5]) rfl (.cellA (cs := List.map u8v (List.replicate 32 (0 : UInt8))) rfl Tryd.underlying38 rfl (szL sz38 (by rw [List.length_map]; exact (List.length_replicate ..))) (rngL hb4) (.tmp rfl (.nil))) rfl) ?_
    have hge : getT (eo (some t)) k = if k0 = k then some v0 else none := by show getT (some t.er) k = _; rw [getT, hfd]
    first | (have hx : ¬ (k0 = k) := (by simpa using c1); rw [if_neg hx] at hge; exact ⟨_, _, rfl, List.length_replicate .., by rw [hge]; rfl, HC⟩) | (have hx : k0 = k := (by simpa using c1); rw [if_pos hx] at hge; exact ⟨_, _, rfl, hv0, by rw [hge]; rfl, HC⟩)
  ·
    refine wc_skip ?_
    refine x_seq ?_
    refine wc_seq ?_
    refine wc_region ?_
    refine wl rfl rfl rfl (p_mv rfl) ?_
    refine wl rfl rfl rfl (p_nck rfl) ?_
    refine wl rfl rfl rfl (p_fld (j := 35) Tryd.underlying156 rfl ⟨_, by rfl⟩ rfl rfl) ?_
    refine wl rfl rfl rfl (p_ldA (cs := (List.map u8v v0)) Tryd.underlying38 rfl (szL sz38 (by first | rfl | (simp only [List.length_append, List.length_map, List.length_cons, List.length_nil, (show List.length v0 = 32 from hv0)]; done) | (simp only [List.length_append, List.length_map, List.length_cons, List.length_nil, List.size_toArray, (show List.length v0 = 32 from hv0)]; done))) rfl (fun _ e => e ▸ rng_at (p := (([i64 ((256 : Nat) : Int), .pointer none, .pointer none] ++ (List.map u8v k0)) : List Value)) (q := ((List.map u8v v0) : List Value)) (r := (([i64 ((1 : Nat) : Int), .int .u32 (d0 : Int), .int .i32 ((0 : Nat) : Int), .int .u32 0] ++ (List.map u8v h0)) : List Value)) hbn (by simp only [List.append_assoc, List.cons_append, List.nil_append, List.append_nil]) (by first | rfl | (simp only [List.length_append, List.length_map, List.length_cons, List.length_nil, (show List.length k0 = 32 from hk0)]; done) | (simp only [List.length_append, List.length_map, List.length_cons, List.length_nil, List.size_toArray, (show List.length k0 = 32 from hk0)]; done)))) ?_
    refine wle rfl (e_stW (vs := List.map u8v v0) (szL sz38 (by rw [List.length_map]; exact hv0)) (oneL one_u8 _) rfl rfl hb4 (by simp only [List.size_toArray, List.length_map]; first | done | exact ((List.length_replicate ..)).trans (hv0).symm) (fun w8 hb4 hc hsz => ?_))
    have hzw8 := hc.size
    have HC := HC.trans hc (fun _ _ h => h) (fun k hk ht => absurd ht (by omega))
    have hbg := hbg.ch hc (by omega)
    have hT := hT.chA hc (by first | exact fun _ _ h => h | exact (fun k hk ht => by have h2 := hTl k hk; omega))
    have hb3 := hb3.ch hc (by omega)
    have hbn := hbn.ch hc (by omega)
    refine wl rfl rfl rfl (p_as rfl) ?_
    refine wl_nil ?_
    refine x_seq ?_
    refine wc_ret ?_
    refine fin_run (resMany (rs := [.cell 4 38, .tmp 5]) rfl (.cellA (cs := List.map u8v v0) rfl Tryd.underlying38 rfl (szL sz38 (by rw [List.length_map]; exact hv0)) (rngL hb4) (.tmp rfl (.nil))) rfl) ?_
    have hge : getT (eo (some t)) k = if k0 = k then some v0 else none := by show getT (some t.er) k = _; rw [getT, hfd]
    first | (have hx : ¬ (k0 = k) := (by simpa using c1); rw [if_neg hx] at hge; exact ⟨_, _, rfl, List.length_replicate .., by rw [hge]; rfl, HC⟩) | (have hx : k0 = k := (by simpa using c1); rw [if_pos hx] at hge; exact ⟨_, _, rfl, hv0, by rw [hge]; rfl, HC⟩)

theorem tget_any {w : World} {v : Value} {o : Option LT} {F : Nat → Prop} {k : List UInt8} (hV : TR 41 156 F w v o) (hk : k.length = 32) : Calls Tryd.prog 42 #[v, hv k] w fun e w' => ∃ (u : List UInt8) (ok : Bool), e = .returned (.tuple #[hv u, .bool ok]) ∧ u.length = 32 ∧ (u, ok) = ((getT (eo o) k).getD zeroH, (getT (eo o) k).isSome) ∧ Ch No w w' := by
  obtain ⟨g, rfl, hFg, hbg, hT⟩ := hV.opn
  cases o with
  | none => exact tget_none hbg hk
  | some t => exact tget_some hbg hT hk

set_option maxHeartbeats 1000000 in
set_option maxRecDepth 20000 in
theorem troot_made {w : World} {v : Value} {o : Option LT} {F : Nat → Prop} (hV : TR 41 156 F w v o) (hrnd : Sl w (fun k => k = 0) u32v (some ⟨0, 0, none⟩) 64 64 rk) :
    Calls Tryd.prog 46 #[v] w fun e w' => e = .returned (hv (rootT (eo o))) ∧ Ch (fun k => k ∈ adsO o) w w' ∧ Fil 156 w w' ∧ (∀ k, k ∈ adsO o → ∃ cs, Blk w k 156 cs) ∧ ∀ k, k ∈ adsO o → F k := by
  obtain ⟨g, rfl, hFg, hbg, hT⟩ := hV.opn
  have hbg : Blk w g 41 ([.pointer (topa o), .bool true] : List Value).toArray := hbg
  have hT : OTr 156 F w o := hT
  have hTl := hT.lt
  have hltg := hbg.lt
  have hn0 : 0 < w.heap.size := hrnd.size (by omega) rfl
  have hn1 := hn0
  have hrl : (rootT (eo o)).length = 32 := rootT_len
  have hA0 := hT.blk
  have hA1 := hT.inF
  have HC : Ch (fun k => k ∈ adsO o) w w := Ch.refl _ _
  refine enter' (args := [ndp g]) (n := 12) Tryd.func46 rfl rfl rfl ?_
  refine wc_seq ?_
  refine wc_region ?_
  have hltg := hbg.lt
  refine wle rfl (e_alloc (cs := ((List.replicate 32 (0 : UInt8)).map u8v).toArray) rfl (by rfl) rfl (fun w1 g2 hg2 hb2 hc hsz2 => ?_))
  have hzw1 := hc.size
  have HC := HC.tr hc
  have hbg := hbg.ch hc (fun h => h)
  have hT := hT.chA hc (by first | exact fun _ _ h => h | exact (fun k hk ht => by have h2 := hTl k hk; omega))
  have hrnd := hrnd.no hc
  have hge2 : w.heap.size ≤ g2 := by have := HC.size; omega
  have neg_2 : g < g2 := by omega
  refine wl_nil ?_
  refine x_seq ?_
  refine wc_seq ?_
  refine wc_seq ?_
  refine wc_region ?_
  refine wl rfl rfl rfl (p_mv rfl) ?_
  refine wle rfl (e_call ent81 rfl rfl (is_made hbg) ?_)
  rintro _ w2 ⟨rfl, hc⟩
  refine ⟨_, rfl, ?_⟩
  have hzw2 := hc.size
  have HC := HC.tr hc
  have hbg := hbg.ch hc (fun h => h)
  have hT := hT.chA hc (by first | exact fun _ _ h => h | exact (fun k hk ht => by have h2 := hTl k hk; omega))
  have hrnd := hrnd.no hc
  have hb2 := hb2.ch hc (fun h => h)
  refine wl rfl rfl rfl (p_not rfl) ?_
  refine wl_nil ?_
  refine x_seq ?_
  refine wc_no rfl (rfl) ?_
  refine wc_skip ?_
  refine x_seq ?_
  refine wc_seq ?_
  refine wc_region ?_
  refine wl rfl rfl rfl (p_mv rfl) ?_
  refine wl rfl rfl rfl (p_nck rfl) ?_
  refine wl rfl rfl rfl (p_fld (j := 0) Tryd.underlying41 rfl ⟨_, by rfl⟩ rfl rfl) ?_
  refine wl rfl rfl rfl (p_ld Tryd.underlying39 rfl rfl (ld (cell_at (p := []) (v := (.pointer (topa o) : Value)) (r := ([.bool true] : List Value)) hbg (by simp only [List.append_assoc, List.cons_append, List.nil_append, List.append_nil]) (by first | rfl | (simp only [List.length_append, List.length_map, List.length_cons, List.length_nil]; done) | (simp only [List.length_append, List.length_map, List.length_cons, List.length_nil, List.size_toArray]; done))))) ?_
  refine wle rfl (e_call ent85 rfl rfl (rootO_any hT hrnd) ?_)
  rintro _ w3 ⟨rfl, hLn, hc⟩
  refine ⟨_, rfl, ?_⟩
  have hRB := hT.blk
  have hR0 := hT.out hrnd (by omega)
  have hFil := Fil.ofO hT hc hLn
  have hzw3 := hc.size
  have HC := HC.trans hc (fun _ _ h => h) (fun k hk ht => ht)
  first | have hbg := hbg.ch hc (hbg.not_nd hRB) | have hbg := hbg.ch hc (by assumption)
  have hT := hT.fil hFil
  have hrnd := hrnd.ch hc (fun k hk ht => hR0 (hk ▸ ht))
  first | have hb2 := hb2.ch hc (hb2.not_nd hRB) | have hb2 := hb2.ch hc (by assumption)
  refine wle rfl (e_stW (vs := List.map u8v (rootT (eo o))) (szL sz38 (by rw [List.length_map]; exact hrl)) (oneL one_u8 _) rfl rfl hb2 (by simp only [List.size_toArray, List.length_map]; first | done | exact ((List.length_replicate ..)).trans (hrl).symm) (fun w4 hb2 hc hsz => ?_))
  have hzw4 := hc.size
  have HC := HC.trans hc (fun _ _ h => h) (fun k hk ht => absurd ht (by omega))
  have hbg := hbg.ch hc (by omega)
  have hT := hT.chA hc (by first | exact fun _ _ h => h | exact (fun k hk ht => by have h2 := hTl k hk; omega))
  first | have hrnd := hrnd.ch hc (by intro k hk ht; first | omega | (dsimp only at *; omega)) | have hrnd := hrnd.chT hc (by intro k hz hk ht; first | omega | (dsimp only at *; omega))
  refine wl_nil ?_
  refine x_seq ?_
  refine wc_ret ?_
  refine fin_run (resC (cs := List.map u8v (rootT (eo o))) rfl rfl Tryd.underlying38 rfl (szL sz38 (by rw [List.length_map]; exact hrl)) (rngL hb2)) ?_
  exact ⟨rfl, HC, Fil.ofO hV.ot HC (fun t e => (hT t e).1), hA0, hA1⟩

def EachOK (t : LT) : Prop := ∀ {w : World} {m yl : Nat} {D : List (H8 × H8) → H8 × H8 → Prop} {J Jx : List (H8 × H8) → World → Prop} {pre : List (H8 × H8)}, (∀ xs A, J xs A → LAt 156 A t) → (∀ xs A B, J xs A → Ch No A B → J xs B) → (∀ xs A B, Jx xs A → Ch No A B → Jx xs B) → (∀ p x q, t.er.items = p ++ x :: q → D (pre ++ p) x) →
    (∀ pre x Wq, D pre x → J pre Wq → YieldAt Fence.wide m Tryd.prog yl ((fun x : List UInt8 × List UInt8 => #[hv x.1, hv x.2]) x) Wq fun ed W' => (ed = .returned (.bool true) ∧ J (pre ++ [x]) W') ∨ (ed = .returned (.bool false) ∧ Jx (pre ++ [x]) W')) → J pre w → Calls Tryd.prog 98 #[ndp t.adr, .func (.yield yl) #[] #[]] w fun e w' => (e = .returned (.bool true) ∧ J (pre ++ t.er.items) w') ∨ (e = .returned (.bool false) ∧ ∃ q, Jx q w')

set_option maxHeartbeats 1000000 in
set_option maxRecDepth 20000 in
theorem each_leaf {w : World} {m yl : Nat} {D : List (H8 × H8) → H8 × H8 → Prop} {J Jx : List (H8 × H8) → World → Prop} {pre : List (H8 × H8)} {g0 : Nat} {k0 v0 : List UInt8} (hX : ∀ xs A, J xs A → LAt 156 A (.leaf g0 k0 v0)) (hJ : ∀ xs A B, J xs A → Ch No A B → J xs B) (hJx : ∀ xs A B, Jx xs A → Ch No A B → Jx xs B) (hD : ∀ p x q, (Tr.leaf k0 v0).items = p ++ x :: q → D (pre ++ p) x) (hY : ∀ pre x Wq, D pre x → J pre Wq → YieldAt Fence.wide m Tryd.prog yl ((fun x : List UInt8 × List UInt8 => #[hv x.1, hv x.2]) x) Wq fun ed W' => (ed = .returned (.bool true) ∧ J (pre ++ [x]) W') ∨ (ed = .returned (.bool false) ∧ Jx (pre ++ [x]) W')) (hJ0 : J pre w) :
    Calls Tryd.prog 98 #[ndp g0, .func (.yield yl) #[] #[]] w fun e w' => (e = .returned (.bool true) ∧ J (pre ++ (Tr.leaf k0 v0).items) w') ∨ (e = .returned (.bool false) ∧ ∃ q, Jx q w') := by
  have hJp := hJ0
  obtain ⟨hk0, hv0, d0, h0, ⟨hh0, hO0⟩, hb0⟩ := id (hX _ _ hJp)
  have hb0 : Blk w g0 156 (([i64 ((256 : Nat) : Int), .pointer none, .pointer none] ++ ((List.map u8v k0) ++ ((List.map u8v v0) ++ ([i64 ((1 : Nat) : Int), .int .u32 (d0 : Int), .int .i32 ((0 : Nat) : Int), .int .u32 0] ++ (List.map u8v h0))))) : List Value).toArray := hb0
  have HC : Ch No w w := Ch.refl _ _
  refine enter' (args := [ndp g0, .func (.yield yl) #[] #[]]) (n := 38) Tryd.func98 rfl rfl rfl ?_
  refine wc_seq ?_
  refine wc_region ?_
  refine wl rfl rfl rfl (p_as rfl) ?_
  refine wl_nil ?_
  refine x_seq ?_
  refine wc_seq ?_
  refine wc_seq ?_
  refine wc_region ?_
  refine wl rfl rfl rfl (p_mv rfl) ?_
  refine wl rfl rfl rfl (p_eqPN rfl rfl Tryd.underlying39) ?_
  refine wl_nil ?_
  refine x_seq ?_
  refine wc_no rfl (rfl) ?_
  refine wc_skip ?_
  refine x_seq ?_
  refine wc_seq ?_
  refine wc_seq ?_
  refine wc_region ?_
  refine wl rfl rfl rfl (p_mv rfl) ?_
  refine wl rfl rfl rfl (p_nck rfl) ?_
  refine wl rfl rfl rfl (p_fld (j := 0) Tryd.underlying156 rfl ⟨_, by rfl⟩ rfl rfl) ?_
  refine wl rfl rfl rfl (p_ld Tryd.underlying3 rfl rfl (ld (cell_at (p := []) (v := (i64 ((256 : Nat) : Int) : Value)) (r := (([.pointer none, .pointer none] ++ ((List.map u8v k0) ++ ((List.map u8v v0) ++ ([i64 ((1 : Nat) : Int), .int .u32 (d0 : Int), .int .i32 ((0 : Nat) : Int), .int .u32 0] ++ (List.map u8v h0))))) : List Value)) hb0 (by simp only [List.append_assoc, List.cons_append, List.nil_append, List.append_nil]) (by first | rfl | (simp only [List.length_append, List.length_map, List.length_cons, List.length_nil]; done) | (simp only [List.length_append, List.length_map, List.length_cons, List.length_nil, List.size_toArray]; done))))) ?_
  refine wl rfl rfl rfl (p_eq rfl rfl) ?_
  refine wl_nil ?_
  refine x_seq ?_
  refine wc_yes rfl (rfl) ?_
  refine wc_seq ?_
  have hbd := hb0.ch (Ch.drew w) (fun h => h)
  refine wc_pureY (m := m + 1) 9 [12, 13, 14, 15, 16, 17, 18, 19, 20] (fun i => [[], [], [1], [2], [3], [], [5], [6], [7]].getD i []) (fun i => [.func (.yield yl) #[] #[], ndp g0, ndp g0, .pointer (some ⟨g0, 0 + 3, none⟩), hv k0, ndp g0, ndp g0, .pointer (some ⟨g0, 0 + 35, none⟩), hv v0].getD i undef) [(12, .func (.yield yl) #[] #[]), (16, hv k0), (20, hv v0)] (by kernel_rfl) rfl rfl rfl rfl rfl rfl rfl rfl (by kernel_rfl) ⟨p_mv rfl, p_mv rfl, p_nck rfl, p_fld (j := 3) Tryd.underlying156 rfl ⟨_, by rfl⟩ rfl rfl, p_ldA (cs := List.map u8v k0) Tryd.underlying38 rfl (szL sz38 (by first | rfl | (simp only [List.length_append, List.length_map, List.length_cons, List.length_nil, (show List.length k0 = 32 from hk0)]; done) | (simp only [List.length_append, List.length_map, List.length_cons, List.length_nil, List.size_toArray, (show List.length k0 = 32 from hk0)]; done))) rfl (fun _ e => e ▸ rng_at (p := ([i64 ((256 : Nat) : Int), .pointer none, .pointer none] : List Value)) (q := List.map u8v k0) (r := (((List.map u8v v0) ++ ([i64 ((1 : Nat) : Int), .int .u32 (d0 : Int), .int .i32 ((0 : Nat) : Int), .int .u32 0] ++ (List.map u8v h0))) : List Value)) hbd (by simp only [List.append_assoc, List.cons_append, List.nil_append, List.append_nil]) (by first | rfl | (simp only [List.length_append, List.length_map, List.length_cons, List.length_nil]; done) | (simp only [List.length_append, List.length_map, List.length_cons, List.length_nil, List.size_toArray]; done))), p_mv rfl, p_nck rfl, p_fld (j := 35) Tryd.underlying156 rfl ⟨_, by rfl⟩ rfl rfl, p_ldA (cs := List.map u8v v0) Tryd.underlying38 rfl (szL sz38 (by first | rfl | (simp only [List.length_append, List.length_map, List.length_cons, List.length_nil, (show List.length v0 = 32 from hv0)]; done) | (simp only [List.length_append, List.length_map, List.length_cons, List.length_nil, List.size_toArray, (show List.length v0 = 32 from hv0)]; done))) rfl (fun _ e => e ▸ rng_at (p := (([i64 ((256 : Nat) : Int), .pointer none, .pointer none] ++ (List.map u8v k0)) : List Value)) (q := List.map u8v v0) (r := (([i64 ((1 : Nat) : Int), .int .u32 (d0 : Int), .int .i32 ((0 : Nat) : Int), .int .u32 0] ++ (List.map u8v h0)) : List Value)) hbd (by simp only [List.append_assoc, List.cons_append, List.nil_append, List.append_nil]) (by first | rfl | (simp only [List.length_append, List.length_map, List.length_cons, List.length_nil, (show List.length k0 = 32 from hk0)]; done) | (simp only [List.length_append, List.length_map, List.length_cons, List.length_nil, List.size_toArray, (show List.length k0 = 32 from hk0)]; done))), trivial⟩ ⟨rfl, rfl, rfl, trivial⟩ ?_
  refine wli_yield (fun _ _ => rfl) rfl rfl rfl (hY pre (k0, v0) _ (by have h := hD [] (k0, v0) [] rfl; rwa [List.append_nil] at h) (hJ _ _ _ hJp (Ch.drew _))) (by repeat (first | exact no_body (fun _ h => by rcases h with h | h <;> cases h.1) | with_reducible apply no_then | with_reducible apply no_in)) ?_
  rintro _ w' (⟨rfl, hJp⟩ | ⟨rfl, hJq⟩)
  ·
    refine ⟨_, rfl, ?_⟩
    refine wli rfl rfl rfl (p_as rfl) ?_
    refine wli_nil ?_
    refine x_seq ?_
    refine wc_ret ?_
    refine x_then_ret ?_
    refine fin_run ((res1 rfl rfl)) ?_
    exact .inl ⟨rfl, hJp⟩
  ·
    refine ⟨_, rfl, ?_⟩
    refine wli rfl rfl rfl (p_as rfl) ?_
    refine wli_nil ?_
    refine x_seq ?_
    refine wc_ret ?_
    refine x_then_ret ?_
    refine fin_run ((res1 rfl rfl)) ?_
    exact .inr ⟨rfl, _, hJq⟩

set_option maxHeartbeats 1000000 in
set_option maxRecDepth 20000 in
theorem each_fork {w : World} {m yl : Nat} {D : List (H8 × H8) → H8 × H8 → Prop} {J Jx : List (H8 × H8) → World → Prop} {pre : List (H8 × H8)} {g0 b : Nat} {x y : LT} (IHx : EachOK x) (IHy : EachOK y) (hX : ∀ xs A, J xs A → LAt 156 A (.fork g0 b x y)) (hJ : ∀ xs A B, J xs A → Ch No A B → J xs B) (hJx : ∀ xs A B, Jx xs A → Ch No A B → Jx xs B) (hD : ∀ p x1 q, (Tr.fork b x.er y.er).items = p ++ x1 :: q → D (pre ++ p) x1) (hY : ∀ pre x Wq, D pre x → J pre Wq → YieldAt Fence.wide m Tryd.prog yl ((fun x : List UInt8 × List UInt8 => #[hv x.1, hv x.2]) x) Wq fun ed W' => (ed = .returned (.bool true) ∧ J (pre ++ [x]) W') ∨ (ed = .returned (.bool false) ∧ Jx (pre ++ [x]) W')) (hJ0 : J pre w) :
    Calls Tryd.prog 98 #[ndp g0, .func (.yield yl) #[] #[]] w fun e w' => (e = .returned (.bool true) ∧ J (pre ++ (Tr.fork b x.er y.er).items) w') ∨ (e = .returned (.bool false) ∧ ∃ q, Jx q w') := by
  have hJp := hJ0
  obtain ⟨⟨hb256, hcn0, hk0, d0, h0, ⟨hh0, hO0⟩, hb0⟩, hXx, hXy⟩ := id (hX _ _ hJp)
  have hb0 : Blk w g0 156 (([i64 (b : Int), ndp x.adr, ndp y.adr] ++ ((List.map u8v x.er.key) ++ ((List.map u8v zeroH) ++ ([i64 ((x.er.cnt + y.er.cnt : Nat) : Int), .int .u32 (d0 : Int), .int .i32 ((0 : Nat) : Int), .int .u32 0] ++ (List.map u8v h0))))) : List Value).toArray := hb0
  have HC : Ch No w w := Ch.refl _ _
  refine enter' (args := [ndp g0, .func (.yield yl) #[] #[]]) (n := 38) Tryd.func98 rfl rfl rfl ?_
  refine wc_seq ?_
  refine wc_region ?_
  refine wl rfl rfl rfl (p_as rfl) ?_
  refine wl_nil ?_
  refine x_seq ?_
  refine wc_seq ?_
  refine wc_seq ?_
  refine wc_region ?_
  refine wl rfl rfl rfl (p_mv rfl) ?_
  refine wl rfl rfl rfl (p_eqPN rfl rfl Tryd.underlying39) ?_
  refine wl_nil ?_
  refine x_seq ?_
  refine wc_no rfl (rfl) ?_
  refine wc_skip ?_
  refine x_seq ?_
  refine wc_seq ?_
  refine wc_seq ?_
  refine wc_region ?_
  refine wl rfl rfl rfl (p_mv rfl) ?_
  refine wl rfl rfl rfl (p_nck rfl) ?_
  refine wl rfl rfl rfl (p_fld (j := 0) Tryd.underlying156 rfl ⟨_, by rfl⟩ rfl rfl) ?_
  refine wl rfl rfl rfl (p_ld Tryd.underlying3 rfl rfl (ld (cell_at (p := []) (v := (i64 (b : Int) : Value)) (r := (([ndp x.adr, ndp y.adr] ++ ((List.map u8v x.er.key) ++ ((List.map u8v zeroH) ++ ([i64 ((x.er.cnt + y.er.cnt : Nat) : Int), .int .u32 (d0 : Int), .int .i32 ((0 : Nat) : Int), .int .u32 0] ++ (List.map u8v h0))))) : List Value)) hb0 (by simp only [List.append_assoc, List.cons_append, List.nil_append, List.append_nil]) (by first | rfl | (simp only [List.length_append, List.length_map, List.length_cons, List.length_nil]; done) | (simp only [List.length_append, List.length_map, List.length_cons, List.length_nil, List.size_toArray]; done))))) ?_
  refine wl rfl rfl rfl (p_eq rfl rfl) ?_
  refine wl_nil ?_
  refine x_seq ?_
  refine wc_no rfl (decide_eq_false (by omega)) ?_
  refine wc_skip ?_
  refine x_seq ?_
  refine wc_seq ?_
  refine wc_region ?_
  refine wl rfl rfl rfl (p_mv rfl) ?_
  refine wl rfl rfl rfl (p_nck rfl) ?_
  refine wl rfl rfl rfl (p_fld (j := 1) Tryd.underlying156 rfl ⟨_, by rfl⟩ rfl rfl) ?_
  refine wl rfl rfl rfl (p_ixA (j := 0) Tryd.underlying142 sz39 rfl rfl (by omega) (by omega) rfl) ?_
  refine wl rfl rfl rfl (p_ld Tryd.underlying39 rfl rfl (ld (cell_at (p := ([i64 (b : Int)] : List Value)) (v := (ndp x.adr : Value)) (r := (([ndp y.adr] ++ ((List.map u8v x.er.key) ++ ((List.map u8v zeroH) ++ ([i64 ((x.er.cnt + y.er.cnt : Nat) : Int), .int .u32 (d0 : Int), .int .i32 ((0 : Nat) : Int), .int .u32 0] ++ (List.map u8v h0))))) : List Value)) hb0 (by simp only [List.append_assoc, List.cons_append, List.nil_append, List.append_nil]) (by first | rfl | (simp only [List.length_append, List.length_map, List.length_cons, List.length_nil]; done) | (simp only [List.length_append, List.length_map, List.length_cons, List.length_nil, List.size_toArray]; done))))) ?_
  refine wl rfl rfl rfl (p_mv rfl) ?_
  refine wle rfl (e_call ent98 rfl rfl (IHx (pre := pre) (fun xs A h => (hX xs A h).2.1) hJ hJx (fun p x1 q h => hD p x1 (q ++ y.er.items) (by show x.er.items ++ y.er.items = _; rw [h]; simp)) hY hJp) ?_)
  rintro _ w2 (⟨rfl, hJp⟩ | ⟨rfl, q, hJq⟩)
  ·
    refine ⟨_, rfl, ?_⟩
    obtain ⟨⟨hb256, hcn0, hk0, d0, h0, ⟨hh0, hO0⟩, hb0⟩, hXx, hXy⟩ := id (hX _ _ hJp)
    have hb0 : Blk w2 g0 156 (([i64 (b : Int), ndp x.adr, ndp y.adr] ++ ((List.map u8v x.er.key) ++ ((List.map u8v zeroH) ++ ([i64 ((x.er.cnt + y.er.cnt : Nat) : Int), .int .u32 (d0 : Int), .int .i32 ((0 : Nat) : Int), .int .u32 0] ++ (List.map u8v h0))))) : List Value).toArray := hb0
    refine wl rfl rfl rfl (p_mv rfl) ?_
    refine wl_g (gd_ rfl rfl rfl rfl rfl rfl) rfl rfl (p_mv rfl) ?_
    refine wl_g (gd_ rfl rfl rfl rfl rfl rfl) rfl rfl (p_nck rfl) ?_
    refine wl_g (gd_ rfl rfl rfl rfl rfl rfl) rfl rfl (p_fld (j := 1) Tryd.underlying156 rfl ⟨_, by rfl⟩ rfl rfl) ?_
    refine wl_g (gd_ rfl rfl rfl rfl rfl rfl) rfl rfl (p_ixA (j := 1) Tryd.underlying142 sz39 rfl rfl (by omega) (by omega) rfl) ?_
    refine wl_g (gd_ rfl rfl rfl rfl rfl rfl) rfl rfl (p_ld Tryd.underlying39 rfl rfl (ld (cell_at (p := ([i64 (b : Int), ndp x.adr] : List Value)) (v := (ndp y.adr : Value)) (r := (((List.map u8v x.er.key) ++ ((List.map u8v zeroH) ++ ([i64 ((x.er.cnt + y.er.cnt : Nat) : Int), .int .u32 (d0 : Int), .int .i32 ((0 : Nat) : Int), .int .u32 0] ++ (List.map u8v h0)))) : List Value)) hb0 (by simp only [List.append_assoc, List.cons_append, List.nil_append, List.append_nil]) (by first | rfl | (simp only [List.length_append, List.length_map, List.length_cons, List.length_nil]; done) | (simp only [List.length_append, List.length_map, List.length_cons, List.length_nil, List.size_toArray]; done))))) ?_
    refine wl_g (gd_ rfl rfl rfl rfl rfl rfl) rfl rfl (p_mv rfl) ?_
    refine wle_g (gd_ rfl rfl rfl rfl rfl rfl) (e_call ent98 rfl rfl (IHy (pre := (pre ++ x.er.items)) (fun xs A h => (hX xs A h).2.2) hJ hJx (fun p x1 q h => by have h2 := hD (x.er.items ++ p) x1 q (by show x.er.items ++ y.er.items = _; rw [h]; simp); rwa [← List.append_assoc] at h2) hY hJp) ?_)
    rintro _ w4 (⟨rfl, hJp⟩ | ⟨rfl, q, hJq⟩)
    ·
      refine ⟨_, rfl, ?_⟩
      obtain ⟨⟨hb256, hcn0, hk0, d0, h0, ⟨hh0, hO0⟩, hb0⟩, hXx, hXy⟩ := id (hX _ _ hJp)
      have hb0 : Blk w4 g0 156 (([i64 (b : Int), ndp x.adr, ndp y.adr] ++ ((List.map u8v x.er.key) ++ ((List.map u8v zeroH) ++ ([i64 ((x.er.cnt + y.er.cnt : Nat) : Int), .int .u32 (d0 : Int), .int .i32 ((0 : Nat) : Int), .int .u32 0] ++ (List.map u8v h0))))) : List Value).toArray := hb0
      refine wl rfl rfl rfl (p_pickT rfl rfl) ?_
      refine wl rfl rfl rfl (p_as rfl) ?_
      refine wl_nil ?_
      refine x_seq ?_
      refine wc_ret ?_
      refine fin_run ((res1 rfl rfl)) ?_
      exact .inl ⟨rfl, by show J (pre ++ (x.er.items ++ y.er.items)) _; rw [← List.append_assoc]; exact hJp⟩
    ·
      refine ⟨_, rfl, ?_⟩
      refine wl rfl rfl rfl (p_pickT rfl rfl) ?_
      refine wl rfl rfl rfl (p_as rfl) ?_
      refine wl_nil ?_
      refine x_seq ?_
      refine wc_ret ?_
      refine fin_run ((res1 rfl rfl)) ?_
      exact .inr ⟨rfl, q, hJq⟩
  ·
    refine ⟨_, rfl, ?_⟩
    refine wl rfl rfl rfl (p_mv rfl) ?_
    refine wl_s (gd_ rfl rfl rfl rfl rfl rfl) rfl rfl ?_
    refine wl_s (gd_ rfl rfl rfl rfl rfl rfl) rfl rfl ?_
    refine wl_s (gd_ rfl rfl rfl rfl rfl rfl) rfl rfl ?_
    refine wl_s (gd_ rfl rfl rfl rfl rfl rfl) rfl rfl ?_
    refine wl_s (gd_ rfl rfl rfl rfl rfl rfl) rfl rfl ?_
    refine wl_s (gd_ rfl rfl rfl rfl rfl rfl) rfl rfl ?_
    refine wl_s (gd_ rfl rfl rfl rfl rfl rfl) rfl rfl ?_
    refine wl rfl rfl rfl (p_pickF rfl rfl) ?_
    refine wl rfl rfl rfl (p_as rfl) ?_
    refine wl_nil ?_
    refine x_seq ?_
    refine wc_ret ?_
    refine fin_run ((res1 rfl rfl)) ?_
    exact .inr ⟨rfl, q, hJq⟩

theorem each_any : ∀ t : LT, EachOK t
  | .leaf g k v => fun hX hJ hJx hD hY hJ0 => each_leaf hX hJ hJx hD hY hJ0
  | .fork g b x y => fun hX hJ hJx hD hY hJ0 => each_fork (each_any x) (each_any y) hX hJ hJx hD hY hJ0

set_option maxHeartbeats 1000000 in
set_option maxRecDepth 20000 in
theorem each_nil {w : World} {yl : Nat}  :
    Calls Tryd.prog 98 #[.pointer none, .func (.yield yl) #[] #[]] w fun e w' => e = .returned (.bool true) ∧ Ch No w w' := by
  have HC : Ch No w w := Ch.refl _ _
  refine enter' (args := [.pointer none, .func (.yield yl) #[] #[]]) (n := 38) Tryd.func98 rfl rfl rfl ?_
  refine wc_seq ?_
  refine wc_region ?_
  refine wl rfl rfl rfl (p_as rfl) ?_
  refine wl_nil ?_
  refine x_seq ?_
  refine wc_seq ?_
  refine wc_seq ?_
  refine wc_region ?_
  refine wl rfl rfl rfl (p_mv rfl) ?_
  refine wl rfl rfl rfl (p_eqPN rfl rfl Tryd.underlying39) ?_
  refine wl_nil ?_
  refine x_seq ?_
  refine wc_yes rfl (rfl) ?_
  refine wc_seq ?_
  refine wc_region ?_
  refine wl rfl rfl rfl (p_as rfl) ?_
  refine wl_nil ?_
  refine x_seq ?_
  refine wc_ret ?_
  refine x_then_ret ?_
  refine fin_run ((res1 rfl rfl)) ?_
  exact ⟨rfl, HC⟩

set_option maxHeartbeats 1000000 in
set_option maxRecDepth 20000 in
theorem alls_some {w : World} {m yl gB g : Nat} {t : LT} {J Jx : List (List UInt8 × List UInt8) → World → Prop} (hX : ∀ xs A, J xs A → Blk A gB 25 #[ndp g] ∧ Blk A g 41 [ndp t.adr, .bool true].toArray ∧ LAt 156 A t) (hJ : ∀ xs A B, J xs A → Ch No A B → J xs B) (hJx : ∀ xs A B, Jx xs A → Ch No A B → Jx xs B) (hY : ∀ pre x Wq, (fun (pre : List (List UInt8 × List UInt8)) (x : List UInt8 × List UInt8) => ∃ q, t.er.items = pre ++ x :: q) pre x → J pre Wq → YieldAt Fence.wide m Tryd.prog yl ((fun x : List UInt8 × List UInt8 => #[hv x.1, hv x.2]) x) Wq fun ed W' => (ed = .returned (.bool true) ∧ J (pre ++ [x]) W') ∨ (ed = .returned (.bool false) ∧ Jx (pre ++ [x]) W')) (hJ0 : J [] w) :
    Calls Tryd.prog 97 #[.func (.yield yl) #[] #[], .pointer (some ⟨gB, 0, none⟩)] w fun e w' => e = .returned (.tuple #[]) ∧ ((∃ xs, xs = t.er.items ∧ J xs w') ∨ ∃ xs, True ∧ Jx xs w') := by
  have hJp := hJ0
  obtain ⟨hBn, hbg, hXt⟩ := hX _ _ hJ0
  have HC : Ch No w w := Ch.refl _ _
  refine enter' (args := [.func (.yield yl) #[] #[], .pointer (some ⟨gB, 0, none⟩)]) (n := 11) Tryd.func97 rfl rfl rfl ?_
  refine wc_seq ?_
  refine wc_region ?_
  refine wl rfl rfl rfl (p_ld Tryd.underlying25 rfl rfl (ld (hBn.cell rfl))) ?_
  refine wle rfl (e_call ent81 rfl rfl (is_made (o := some t) hbg) ?_)
  rintro _ w1 ⟨rfl, hc⟩
  refine ⟨_, rfl, ?_⟩
  have hzw1 := hc.size
  have hJp := hJ _ _ _ hJp hc
  have hBn := hBn.ch hc (fun h => h)
  have hbg := hbg.ch hc (fun h => h)
  refine wl_nil ?_
  refine x_seq ?_
  refine wc_yes rfl (rfl) ?_
  refine wc_region ?_
  refine wl rfl rfl rfl (p_ld Tryd.underlying25 rfl rfl (ld (hBn.cell rfl))) ?_
  refine wl rfl rfl rfl (p_nck rfl) ?_
  refine wl rfl rfl rfl (p_fld (j := 0) Tryd.underlying41 rfl ⟨_, by rfl⟩ rfl rfl) ?_
  refine wl rfl rfl rfl (p_ld Tryd.underlying39 rfl rfl (ld (cell_at (p := []) (v := (ndp t.adr : Value)) (r := ([.bool true] : List Value)) hbg (by simp only [List.append_assoc, List.cons_append, List.nil_append, List.append_nil]) (by first | rfl | (simp only [List.length_append, List.length_map, List.length_cons, List.length_nil]; done) | (simp only [List.length_append, List.length_map, List.length_cons, List.length_nil, List.size_toArray]; done))))) ?_
  refine wl rfl rfl rfl (p_mv rfl) ?_
  refine wle rfl (e_call ent98 rfl rfl (each_any t (pre := []) (fun xs A h => (hX xs A h).2.2) hJ hJx (fun p x q h => ⟨q, h⟩) hY hJp) ?_)
  rintro _ w2 (⟨rfl, hJp⟩ | ⟨rfl, q, hJq⟩)
  ·
    refine ⟨_, rfl, ?_⟩
    refine wl_nil ?_
    refine fin_run_n ((res0 rfl)) ?_
    exact ⟨rfl, .inl ⟨_, rfl, hJp⟩⟩
  ·
    refine ⟨_, rfl, ?_⟩
    refine wl_nil ?_
    refine fin_run_n ((res0 rfl)) ?_
    exact ⟨rfl, .inr ⟨_, trivial, hJq⟩⟩

set_option maxHeartbeats 1000000 in
set_option maxRecDepth 20000 in
theorem alls_none {w : World} {m yl gB g : Nat} {J Jx : List (List UInt8 × List UInt8) → World → Prop} (hX : ∀ xs A, J xs A → Blk A gB 25 #[ndp g] ∧ Blk A g 41 [.pointer none, .bool true].toArray) (hJ : ∀ xs A B, J xs A → Ch No A B → J xs B) (hJx : ∀ xs A B, Jx xs A → Ch No A B → Jx xs B) (hJ0 : J [] w) :
    Calls Tryd.prog 97 #[.func (.yield yl) #[] #[], .pointer (some ⟨gB, 0, none⟩)] w fun e w' => e = .returned (.tuple #[]) ∧ ((∃ xs, xs = ([] : List (List UInt8 × List UInt8)) ∧ J xs w') ∨ ∃ xs, True ∧ Jx xs w') := by
  have hJp := hJ0
  obtain ⟨hBn, hbg⟩ := hX _ _ hJ0
  have HC : Ch No w w := Ch.refl _ _
  refine enter' (args := [.func (.yield yl) #[] #[], .pointer (some ⟨gB, 0, none⟩)]) (n := 11) Tryd.func97 rfl rfl rfl ?_
  refine wc_seq ?_
  refine wc_region ?_
  refine wl rfl rfl rfl (p_ld Tryd.underlying25 rfl rfl (ld (hBn.cell rfl))) ?_
  refine wle rfl (e_call ent81 rfl rfl (is_made (o := none) hbg) ?_)
  rintro _ w1 ⟨rfl, hc⟩
  refine ⟨_, rfl, ?_⟩
  have hzw1 := hc.size
  have hJp := hJ _ _ _ hJp hc
  have hBn := hBn.ch hc (fun h => h)
  have hbg := hbg.ch hc (fun h => h)
  refine wl_nil ?_
  refine x_seq ?_
  refine wc_yes rfl (rfl) ?_
  refine wc_region ?_
  refine wl rfl rfl rfl (p_ld Tryd.underlying25 rfl rfl (ld (hBn.cell rfl))) ?_
  refine wl rfl rfl rfl (p_nck rfl) ?_
  refine wl rfl rfl rfl (p_fld (j := 0) Tryd.underlying41 rfl ⟨_, by rfl⟩ rfl rfl) ?_
  refine wl rfl rfl rfl (p_ld Tryd.underlying39 rfl rfl (ld (cell_at (p := []) (v := (.pointer none : Value)) (r := ([.bool true] : List Value)) hbg (by simp only [List.append_assoc, List.cons_append, List.nil_append, List.append_nil]) (by first | rfl | (simp only [List.length_append, List.length_map, List.length_cons, List.length_nil]; done) | (simp only [List.length_append, List.length_map, List.length_cons, List.length_nil, List.size_toArray]; done))))) ?_
  refine wl rfl rfl rfl (p_mv rfl) ?_
  refine wle rfl (e_call ent98 rfl rfl (each_nil) ?_)
  rintro _ w2 ⟨rfl, hc⟩
  refine ⟨_, rfl, ?_⟩
  have hzw2 := hc.size
  have hJp := hJ _ _ _ hJp hc
  have hBn := hBn.ch hc (fun h => h)
  have hbg := hbg.ch hc (fun h => h)
  refine wl_nil ?_
  refine fin_run_n ((res0 rfl)) ?_
  exact ⟨rfl, .inl ⟨_, rfl, hJp⟩⟩

set_option maxHeartbeats 1000000 in
set_option maxRecDepth 20000 in
theorem all_ptr {w : World} {g : Nat}  :
    Calls Tryd.prog 69 #[ndp g] w fun e w' => ∃ g1, e = .returned (.func (.func 97) #[] #[.pointer (some ⟨g1, 0, none⟩)]) ∧ w.heap.size ≤ g1 ∧ Blk w' g1 25 #[ndp g] ∧ Ch No w w' := by
  have HC : Ch No w w := Ch.refl _ _
  refine enter' (args := [ndp g]) (n := 4) Tryd.func69 rfl rfl rfl ?_
  refine wc_seq ?_
  refine wc_region ?_
  refine wle rfl (e_box (cs := #[_]) rfl rfl rfl (fun w1 g1 hg1 hb1 hc hsz1 => ?_))
  have hzw1 := hc.size
  have HC := HC.tr hc
  have hge1 : w.heap.size ≤ g1 := by have := HC.size; omega
  refine wl rfl rfl rfl (p_as rfl) ?_
  refine wl_nil ?_
  refine x_seq ?_
  refine wc_seq ?_
  refine wc_region ?_
  refine wl rfl rfl rfl (p_mkf rfl) ?_
  refine wl rfl rfl rfl (p_as rfl) ?_
  refine wl_nil ?_
  refine x_seq ?_
  refine wc_ret ?_
  refine fin_run ((res1 rfl rfl)) ?_
  exact ⟨g1, rfl, hge1, hb1, HC⟩

theorem bitN_any {w : World} {k : List UInt8} {n : Nat} (hk : k.length = 32) : Calls Tryd.prog 38 #[hv k, i64 (n : Int)] w fun e w' => e = .returned (i64 (bitN k n : Int)) ∧ Ch No w w' := (bit_any hk).mono fun e w' ⟨h1, h2⟩ => ⟨by rw [h1, bitI_nat], h2⟩

theorem fork_bits {b : Nat} {x y : Tr} (h : (Tr.fork b x y).WF) {i : Nat} {d : H8 × H8} (hi : i < (Tr.fork b x y).items.length) : bitN ((Tr.fork b x y).items.getD i d).1 b = 0 ↔ i < x.cnt := by
  obtain ⟨_, _, _, _, _, h0, h1, _⟩ := h
  have hx := Tr.items_cnt x
  rw [show (Tr.fork b x y).items = x.items ++ y.items from rfl] at hi ⊢
  rcases Nat.lt_or_ge i x.cnt with hl | hl
  · have hm : (x.items ++ y.items).getD i d ∈ x.items := by
      rw [show (x.items ++ y.items).getD i d = x.items.getD i d by simp [List.getD, List.getElem?_append_left (show i < x.items.length by omega)]]
      exact getD_mem (by omega)
    exact ⟨fun _ => hl, fun _ => h0 _ hm⟩
  · have hm : (x.items ++ y.items).getD i d ∈ y.items := by
      rw [show (x.items ++ y.items).getD i d = y.items.getD (i - x.items.length) d by simp [List.getD, List.getElem?_append_right (show x.items.length ≤ i by omega)]]
      exact getD_mem (by rw [List.length_append] at hi; omega)
    have := h1 _ hm
    exact ⟨fun e => by omega, fun e => by omega⟩

set_option maxHeartbeats 1000000 in
set_option maxRecDepth 20000 in
theorem cutc_any {w : World} {g4 b : Nat} {ek ev : List UInt8} (hek : ek.length = 32) (hev : ev.length = 32) (hb4 : Blk w g4 3 #[i64 (b : Int)]) :
    Calls Tryd.prog 116 #[.agg ((List.map u8v ek ++ List.map u8v ev) : List Value).toArray, i64 1, .pointer (some ⟨g4, 0, none⟩)] w fun e w' => e = .returned (i64 ((bitN ek b : Int) - 1)) ∧ Ch No w w' := by
  have hltg4 := hb4.lt
  have hbl := bitN_lt ek b
  have HC : Ch No w w := Ch.refl _ _
  refine enter' (args := [_, i64 1, .pointer (some ⟨g4, 0, none⟩)]) (n := 12) Tryd.func116 rfl rfl rfl ?_
  refine wc_seq ?_
  refine wc_region ?_
  have hltg4 := hb4.lt
  refine wle rfl (e_box (cs := (((List.map u8v ek) ++ (List.map u8v ev)) : List Value).toArray) rfl rfl rfl (fun w1 g3 hg3 hb3 hc hsz3 => ?_))
  have hzw1 := hc.size
  have HC := HC.tr hc
  have hb4 := hb4.ch hc (fun h => h)
  have hge3 : w.heap.size ≤ g3 := by have := HC.size; omega
  have neg4_3 : g4 < g3 := by omega
  refine wl rfl rfl rfl (p_as rfl) ?_
  refine wl_nil ?_
  refine x_seq ?_
  refine wc_seq ?_
  refine wc_region ?_
  refine wl rfl rfl rfl (p_fld (j := 0) Tryd.underlying174 rfl ⟨_, by rfl⟩ rfl rfl) ?_
  refine wl rfl rfl rfl (p_ldA (cs := (List.map u8v ek)) Tryd.underlying38 rfl (szL sz38 (by first | rfl | (simp only [List.length_append, List.length_map, List.length_cons, List.length_nil, (show List.length ek = 32 from hek)]; done) | (simp only [List.length_append, List.length_map, List.length_cons, List.length_nil, List.size_toArray, (show List.length ek = 32 from hek)]; done))) rfl (fun _ e => e ▸ rng_at (p := []) (q := ((List.map u8v ek) : List Value)) (r := ((List.map u8v ev) : List Value)) hb3 (by simp only [List.append_assoc, List.cons_append, List.nil_append, List.append_nil]) (by first | rfl | (simp only [List.length_append, List.length_map, List.length_cons, List.length_nil]; done) | (simp only [List.length_append, List.length_map, List.length_cons, List.length_nil, List.size_toArray]; done)))) ?_
  refine wl rfl rfl rfl (p_ld Tryd.underlying3 rfl rfl (ld (hb4.cell rfl))) ?_
  refine wle rfl (e_call ent38 rfl rfl (bitN_any (n := b) (hek)) ?_)
  rintro _ w2 ⟨rfl, hc⟩
  refine ⟨_, rfl, ?_⟩
  have hzw2 := hc.size
  have HC := HC.tr hc
  have hb4 := hb4.ch hc (fun h => h)
  have hb3 := hb3.ch hc (fun h => h)
  refine wl rfl rfl rfl (p_mv rfl) ?_
  refine wl rfl rfl rfl (p_sub rfl rfl (w64 (by omega))) ?_
  refine wl rfl rfl rfl (p_as rfl) ?_
  refine wl_nil ?_
  refine x_seq ?_
  refine wc_ret ?_
  refine fin_run ((res1 rfl rfl)) ?_
  exact ⟨rfl, HC⟩

set_option maxHeartbeats 1000000 in
set_option maxRecDepth 20000 in
theorem bsf_any {w : World} {g4 b n : Nat} {Am : Option Addr} {lm cm : Nat} {Fm : Nat → Prop} {m : List (H8 × H8)} (hm : SI w Fm eIT Am lm cm m) (hb4 : Blk w g4 3 #[i64 (b : Int)]) (hz : ∀ h, h < lm → (bitN (m.getD h (zeroH, zeroH)).1 b = 0 ↔ h < n)) (hn : n ≤ lm) (hl : lm ≤ 1000000) :
    Calls Tryd.prog 115 #[.slice Am lm cm, i64 1, .func (.func 116) #[] #[.pointer (some ⟨g4, 0, none⟩)]] w fun e w' => ∃ ok, e = .returned (.tuple #[i64 (n : Int), .bool ok]) ∧ Ch No w w' := by
  have hltg4 := hb4.lt
  have hm := hm.old
  have HC : Ch No w w := Ch.refl _ _
  refine enter' (args := [.slice Am lm cm, i64 1, .func (.func 116) #[] #[.pointer (some ⟨g4, 0, none⟩)]]) (n := 49) Tryd.func115 rfl rfl rfl ?_
  refine wc_seq ?_
  refine wc_region ?_
  refine wl rfl rfl rfl (p_as rfl) ?_
  refine wl rfl rfl rfl (p_as rfl) ?_
  refine wl_nil ?_
  refine x_seq ?_
  refine wc_seq ?_
  refine wc_region ?_
  refine wl rfl rfl rfl (p_mv rfl) ?_
  refine wl rfl rfl rfl (p_lenS Tryd.underlying118 rfl) ?_
  refine wl rfl rfl rfl (p_as rfl) ?_
  refine wl_nil ?_
  refine x_seq ?_
  refine wc_seq ?_
  refine wc_region ?_
  refine wl rfl rfl rfl (p_mv rfl) ?_
  refine wl rfl rfl rfl (p_as rfl) ?_
  refine wl rfl rfl rfl (p_as rfl) ?_
  refine wl_nil ?_
  refine x_seq ?_
  refine wc_seq ?_
  refine wc_block ?_
  refine wc_loop (e' := [(0, .slice Am lm cm), (1, i64 1), (2, .func (.func 116) #[] #[.pointer (some ⟨g4, 0, none⟩)]), (8, i64 (lm : Int)), (9, i64 ((0) : Int)), (10, i64 ((lm) : Int))]) (fun mz ez uz => ∃ i : Nat, ∃ j : Nat, mz = j - i ∧ ez = [(0, .slice Am lm cm), (1, i64 1), (2, .func (.func 116) #[] #[.pointer (some ⟨g4, 0, none⟩)]), (8, i64 (lm : Int)), (9, i64 (i : Int)), (10, i64 (j : Int))] ∧ (i ≤ n) ∧ (n ≤ j) ∧ (j ≤ lm) ∧ (SI uz (fun k => k < w.heap.size) eIT Am lm cm m) ∧ (Blk uz g4 3 #[i64 (b : Int)]) ∧ (g4 < w.heap.size) ∧ (Ch No w uz))
   ⟨rfl, rfl, rfl, rfl, rfl, rfl, trivial⟩ ⟨0, lm, rfl, rfl, (by omega), (by omega), (by omega), hm, hb4, hltg4, HC⟩ ?_
  rintro m0 e w1 ⟨i, j, hm0, rfl, hi, hj, hjl, hm, hb4, hg4w, HC⟩
  have hzw1 := HC.size
  refine wc_seq ?_
  refine wc_seq ?_
  refine wc_region ?_
  refine wl rfl rfl rfl (p_mv rfl) ?_
  refine wl rfl rfl rfl (p_mv rfl) ?_
  refine wl rfl rfl rfl (p_lt rfl rfl) ?_
  refine wl_nil ?_
  refine x_seq ?_
  refine wc_if rfl (fun c0 => ?_) (fun c0 => ?_)
  ·
   have c0 := of_decide_eq_true c0
   refine wc_skip ?_
   refine x_seq ?_
   refine wc_block ?_
   refine wc_seq ?_
   refine wc_region ?_
   refine wl rfl rfl rfl (p_mv rfl) ?_
   refine wl rfl rfl rfl (p_mv rfl) ?_
   refine wl rfl rfl rfl (p_add rfl rfl (w64 (by omega))) ?_
   refine wl rfl rfl rfl (p_conv (Z := ((i + j : Nat) : Int)) Tryd.underlying3 Tryd.underlying74 rfl (by rw [wu64 (by omega)]; omega)) ?_
   refine wl rfl rfl rfl (p_shrN (Y := 1) rfl rfl rfl) ?_
   obtain ⟨h, hh⟩ : ∃ z, z = (i + j) / 2 ^ 1 := ⟨_, rfl⟩
   have hh2 : h = (i + j) / 2 := hh
   refine wl rfl rfl rfl (p_conv (Z := (h : Int)) Tryd.underlying74 Tryd.underlying3 rfl (by rw [← hh]; exact w64 (by omega))) ?_
   refine wl rfl rfl rfl (p_as rfl) ?_
   refine wl_nil ?_
   refine x_seq ?_
   refine wc_seq ?_
   refine wc_region ?_
   refine wl rfl rfl rfl (p_mv rfl) ?_
   refine wl rfl rfl rfl (p_mv rfl) ?_
   refine wl rfl rfl rfl (p_mv rfl) ?_
   obtain ⟨b2, o2, hA2, hF2, hr2⟩ := (hm).opn (i := h) (d := (zeroH, zeroH)) (by omega)
   have hok2 := (hm).okAt (i := h) (d := (zeroH, zeroH)) (by omega)
   obtain ⟨x2, ex2⟩ : ∃ x_, x_ = List.getD m (h) (zeroH, zeroH) := ⟨_, rfl⟩
   rw [← ex2] at hr2 hok2
   obtain ⟨hx2k, hx2v⟩ := hok2
   have hr2 : w1.rangeAt b2 (o2 + h * 64) (((List.map u8v x2.1) ++ (List.map u8v x2.2)) : List Value) := hr2
   refine wl rfl rfl rfl (p_ixS (j := h * 64) Tryd.underlying118 sz174 rfl hA2 rfl (by omega) (by omega) (congrArg (· * 64) (Int.toNat_natCast _))) ?_
   have hq := hz h (by omega)
   rw [← ex2] at hq
   refine wl rfl rfl rfl (p_ldA (cs := (((List.map u8v x2.1) ++ (List.map u8v x2.2)) : List Value)) Tryd.underlying174 rfl (szL sz174 (by first | rfl | (simp only [List.length_append, List.length_map, List.length_cons, List.length_nil, (show List.length x2.1 = 32 from hx2k), (show List.length x2.2 = 32 from hx2v)]; done) | (simp only [List.length_append, List.length_map, List.length_cons, List.length_nil, List.size_toArray, (show List.length x2.1 = 32 from hx2k), (show List.length x2.2 = 32 from hx2v)]; done))) rfl (fun _ e => e ▸ hr2)) ?_
   refine wl rfl rfl rfl (p_mv rfl) ?_
   refine wle rfl (e_callV ent116 rfl rfl rfl (cutc_any (hx2k) (hx2v) hb4) ?_)
   rintro _ w3 ⟨rfl, hc⟩
   refine ⟨_, rfl, ?_⟩
   have hzw3 := hc.size
   have HC := HC.tr hc
   have hm := hm.no hc
   have hb4 := hb4.ch hc (fun h => h)
   refine wl rfl rfl rfl (p_lt rfl rfl) ?_
   refine wl_nil ?_
   refine x_seq ?_
   refine wc_if rfl (fun c1 => ?_) (fun c1 => ?_)
   ·
    have c1 := of_decide_eq_true c1
    refine wc_region ?_
    refine wl rfl rfl rfl (p_mv rfl) ?_
    refine wl rfl rfl rfl (p_add rfl rfl (w64 (by omega))) ?_
    refine wl rfl rfl rfl (p_as rfl) ?_
    refine wl_nil ?_
    refine x_in_normal ?_
    refine x_round (e' := [(0, .slice Am lm cm), (1, i64 1), (2, .func (.func 116) #[] #[.pointer (some ⟨g4, 0, none⟩)]), (8, i64 (lm : Int)), (9, i64 ((h + 1) : Int)), (10, i64 ((j) : Int))]) ⟨rfl, rfl, rfl, rfl, rfl, rfl, trivial⟩ (by rw [hm0]; omega) ⟨h + 1, j, rfl, rfl, (by have h1 := bitN_lt x2.1 b; omega), (by omega), (by omega), hm, hb4, hg4w, HC⟩
   ·
    have c1 := of_decide_eq_false c1
    refine wc_region ?_
    refine wl rfl rfl rfl (p_mv rfl) ?_
    refine wl rfl rfl rfl (p_as rfl) ?_
    refine wl_nil ?_
    refine x_in_normal ?_
    refine x_round (e' := [(0, .slice Am lm cm), (1, i64 1), (2, .func (.func 116) #[] #[.pointer (some ⟨g4, 0, none⟩)]), (8, i64 (lm : Int)), (9, i64 ((i) : Int)), (10, i64 ((h) : Int))]) ⟨rfl, rfl, rfl, rfl, rfl, rfl, trivial⟩ (by rw [hm0]; omega) ⟨i, h, rfl, rfl, (by have h1 := bitN_lt x2.1 b; omega), (by omega), (by omega), hm, hb4, hg4w, HC⟩
  ·
   have c0 := of_decide_eq_false c0
   refine wc_exit ?_
   refine x_then_exit ?_
   refine x_then_exit ?_
   refine x_in_here ?_
   refine x_seq ?_
   refine wc_seq ?_
   refine wc_region ?_
   refine wl rfl rfl rfl (p_mv rfl) ?_
   refine wl rfl rfl rfl (p_mv rfl) ?_
   refine wl rfl rfl rfl (p_mv rfl) ?_
   refine wl rfl rfl rfl (p_lt rfl rfl) ?_
   refine wl rfl rfl rfl (p_mv rfl) ?_
   refine wl_split (d := 39) rfl (fun q39 => ?_) (fun q39 => ?_)
   ·
    have q39 := of_decide_eq_true q39
    refine wl_g (gd_ rfl rfl rfl rfl rfl rfl) rfl rfl (p_mv rfl) ?_
    refine wl_g (gd_ rfl rfl rfl rfl rfl rfl) rfl rfl (p_mv rfl) ?_
    refine wl_g (gd_ rfl rfl rfl rfl rfl rfl) rfl rfl (p_mv rfl) ?_
    obtain ⟨b4, o4, hA4, hF4, hr4⟩ := (hm).opn (i := i) (d := (zeroH, zeroH)) (by omega)
    have hok4 := (hm).okAt (i := i) (d := (zeroH, zeroH)) (by omega)
    obtain ⟨x4, ex4⟩ : ∃ x_, x_ = List.getD m (i) (zeroH, zeroH) := ⟨_, rfl⟩
    rw [← ex4] at hr4 hok4
    obtain ⟨hx4k, hx4v⟩ := hok4
    have hr4 : w1.rangeAt b4 (o4 + i * 64) (((List.map u8v x4.1) ++ (List.map u8v x4.2)) : List Value) := hr4
    refine wl_g (gd_ rfl rfl rfl rfl rfl rfl) rfl rfl (p_ixS (j := i * 64) Tryd.underlying118 sz174 rfl hA4 rfl (by omega) (by omega) (congrArg (· * 64) (Int.toNat_natCast _))) ?_
    refine wl_g (gd_ rfl rfl rfl rfl rfl rfl) rfl rfl (p_ldA (cs := (((List.map u8v x4.1) ++ (List.map u8v x4.2)) : List Value)) Tryd.underlying174 rfl (szL sz174 (by first | rfl | (simp only [List.length_append, List.length_map, List.length_cons, List.length_nil, (show List.length x4.1 = 32 from hx4k), (show List.length x4.2 = 32 from hx4v)]; done) | (simp only [List.length_append, List.length_map, List.length_cons, List.length_nil, List.size_toArray, (show List.length x4.1 = 32 from hx4k), (show List.length x4.2 = 32 from hx4v)]; done))) rfl (fun _ e => e ▸ hr4)) ?_
    refine wl_g (gd_ rfl rfl rfl rfl rfl rfl) rfl rfl (p_mv rfl) ?_
    refine wle_g (gd_ rfl rfl rfl rfl rfl rfl) (e_callV ent116 rfl rfl rfl (cutc_any (hx4k) (hx4v) hb4) ?_)
    rintro _ w5 ⟨rfl, hc⟩
    refine ⟨_, rfl, ?_⟩
    have hzw5 := hc.size
    have HC := HC.tr hc
    have hm := hm.no hc
    have hb4 := hb4.ch hc (fun h => h)
    refine wl_g (gd_ rfl rfl rfl rfl rfl rfl) rfl rfl (p_eq rfl rfl) ?_
    refine wl rfl rfl rfl (p_pickT rfl rfl) ?_
    refine wl rfl rfl rfl (p_as rfl) ?_
    refine wl rfl rfl rfl (p_as rfl) ?_
    refine wl_nil ?_
    refine x_seq ?_
    refine wc_ret ?_
    refine fin_run ((res2 rfl rfl rfl)) ?_
    obtain rfl : i = n := by omega
    exact ⟨_, rfl, HC⟩
   ·
    have q39 := of_decide_eq_false q39
    refine wl_s (gd_ rfl rfl rfl rfl rfl rfl) rfl rfl ?_
    refine wl_s (gd_ rfl rfl rfl rfl rfl rfl) rfl rfl ?_
    refine wl_s (gd_ rfl rfl rfl rfl rfl rfl) rfl rfl ?_
    refine wl_s (gd_ rfl rfl rfl rfl rfl rfl) rfl rfl ?_
    refine wl_s (gd_ rfl rfl rfl rfl rfl rfl) rfl rfl ?_
    refine wl_s (gd_ rfl rfl rfl rfl rfl rfl) rfl rfl ?_
    refine wl_s (gd_ rfl rfl rfl rfl rfl rfl) rfl rfl ?_
    refine wl_s (gd_ rfl rfl rfl rfl rfl rfl) rfl rfl ?_
    refine wl rfl rfl rfl (p_pickF rfl rfl) ?_
    refine wl rfl rfl rfl (p_as rfl) ?_
    refine wl rfl rfl rfl (p_as rfl) ?_
    refine wl_nil ?_
    refine x_seq ?_
    refine wc_ret ?_
    refine fin_run ((res2 rfl rfl rfl)) ?_
    obtain rfl : i = n := by omega
    exact ⟨_, rfl, HC⟩

set_option maxHeartbeats 1000000 in
set_option maxRecDepth 20000 in
theorem mcut_any {w : World}  {Am : Option Addr} {lm cm : Nat} {Fm : Nat → Prop} {b : Nat} {x y : Tr} (hm : SI w Fm eIT Am lm cm (Tr.items (.fork b x y))) (hw : (Tr.fork b x y).WF) (hl : lm ≤ 1000000) :
    Calls Tryd.prog 100 #[.slice Am lm cm] w fun e w' => e = .returned (.tuple #[i64 (b : Int), i64 (x.cnt : Int)]) ∧ Ch No w w' := by
  have hml := hm.len
  obtain ⟨hc1, hc2, hc3⟩ := cut_fork hw
  have px := Tr.cnt_pos x
  have py := Tr.cnt_pos y
  have hm := hm.old
  have HC : Ch No w w := Ch.refl _ _
  refine enter' (args := [.slice Am lm cm]) (n := 27) Tryd.func100 rfl rfl rfl ?_
  refine wc_seq ?_
  refine wc_region ?_
  refine wl rfl rfl rfl (p_as rfl) ?_
  refine wl rfl rfl rfl (p_as rfl) ?_
  refine wl_nil ?_
  refine x_seq ?_
  refine wc_seq ?_
  refine wc_draw (.st 0 0 (.st 1 0 (.st 2 0 (.st 3 1 (.st 4 0 (.st 5 0 (.st 6 0 (.st 7 0 (.st 8 0 (.st 9 0 (.st 10 1 (.alt (.st 11 2 (.st 12 2 (.st 13 3 .nil))) (.st 12 2 (.st 11 2 (.st 13 3 .nil))))))))))))))) 13 (by kernel_rfl) (by kernel_rfl) (by kernel_rfl) (by repeat (first | with_reducible exact pan_body | with_reducible apply pan_then | with_reducible apply pan_in)) (fun x => Ch No w.drew x) (Ch.refl _ _) ?_
  obtain ⟨w1, ew1⟩ : ∃ x, x = w.drew := ⟨_, rfl⟩
  rw [← ew1]
  have hc : Ch No w w1 := by rw [ew1]; exact Ch.drew _
  have hszw1 : w1.heap.size = w.heap.size := by rw [ew1]; rfl
  clear ew1
  have hzw1 := hc.size
  have HC := HC.tr hc
  have hm := hm.no hc
  have hS : Ch No w1 w1 := Ch.refl _ _
  refine ws_p rfl rfl rfl rfl (p_mv rfl) ?_
  obtain ⟨b2, o2, hA2, hF2, hr2⟩ := (hm).opn (i := 0) (d := (zeroH, zeroH)) (by omega)
  have hok2 := (hm).okAt (i := 0) (d := (zeroH, zeroH)) (by omega)
  obtain ⟨x2, ex2⟩ : ∃ x_, x_ = List.getD (Tr.items (.fork b x y)) (0) (zeroH, zeroH) := ⟨_, rfl⟩
  rw [← ex2] at hr2 hok2
  obtain ⟨hx2k, hx2v⟩ := hok2
  have hr2 : w1.rangeAt b2 (o2 + 0 * 64) (((List.map u8v x2.1) ++ (List.map u8v x2.2)) : List Value) := hr2
  refine ws_p rfl rfl rfl rfl (p_ixS (j := 0 * 64) Tryd.underlying118 sz174 rfl hA2 rfl (by omega) (by omega) rfl) ?_
  refine ws_p rfl rfl rfl rfl (p_fld (j := 0) Tryd.underlying174 rfl ⟨_, by rfl⟩ rfl rfl) ?_
  refine ws_h rfl rfl rfl rfl (p_ldA (cs := (List.map u8v x2.1)) Tryd.underlying38 rfl (szL sz38 (by first | rfl | (simp only [List.length_append, List.length_map, List.length_cons, List.length_nil, (show List.length x2.1 = 32 from hx2k)]; done) | (simp only [List.length_append, List.length_map, List.length_cons, List.length_nil, List.size_toArray, (show List.length x2.1 = 32 from hx2k)]; done))) rfl (fun _ h => rng_sub (q := (List.map u8v x2.1)) (p := []) (r := ((List.map u8v x2.2) : List Value)) (rng_no hr2 h) (by first | rfl | simp only [List.append_assoc, List.cons_append, List.nil_append, List.append_nil]) rfl)) ?_
  refine ws_p rfl rfl rfl rfl (p_mv rfl) ?_
  refine ws_p rfl rfl rfl rfl (p_mv rfl) ?_
  refine ws_p rfl rfl rfl rfl (p_lenS Tryd.underlying118 rfl) ?_
  refine ws_p rfl rfl rfl rfl (p_sub (Z := ((lm - 1 : Nat) : Int)) rfl rfl (by rw [w64 (by omega)]; omega)) ?_
  obtain ⟨b3, o3, hA3, hF3, hr3⟩ := (hm).opn (i := (lm - 1)) (d := (zeroH, zeroH)) (by omega)
  have hok3 := (hm).okAt (i := (lm - 1)) (d := (zeroH, zeroH)) (by omega)
  obtain ⟨x3, ex3⟩ : ∃ x_, x_ = List.getD (Tr.items (.fork b x y)) ((lm - 1)) (zeroH, zeroH) := ⟨_, rfl⟩
  rw [← ex3] at hr3 hok3
  obtain ⟨hx3k, hx3v⟩ := hok3
  have hr3 : w1.rangeAt b3 (o3 + ((lm - 1)) * 64) (((List.map u8v x3.1) ++ (List.map u8v x3.2)) : List Value) := hr3
  refine ws_p rfl rfl rfl rfl (p_ixS (j := ((lm - 1)) * 64) Tryd.underlying118 sz174 rfl hA3 rfl (by omega) (by omega) (congrArg (· * 64) (Int.toNat_natCast _))) ?_
  refine ws_p rfl rfl rfl rfl (p_fld (j := 0) Tryd.underlying174 rfl ⟨_, by rfl⟩ rfl rfl) ?_
  refine ws_h rfl rfl rfl rfl (p_ldA (cs := (List.map u8v x3.1)) Tryd.underlying38 rfl (szL sz38 (by first | rfl | (simp only [List.length_append, List.length_map, List.length_cons, List.length_nil, (show List.length x3.1 = 32 from hx3k)]; done) | (simp only [List.length_append, List.length_map, List.length_cons, List.length_nil, List.size_toArray, (show List.length x3.1 = 32 from hx3k)]; done))) rfl (fun _ h => rng_sub (q := (List.map u8v x3.1)) (p := []) (r := ((List.map u8v x3.2) : List Value)) (rng_no hr3 h) (by first | rfl | simp only [List.append_assoc, List.cons_append, List.nil_append, List.append_nil]) rfl)) ?_
  refine ws_alt ?_ ?_
  ·
   have hci : apartK x2.1 x3.1 = b := by rw [← hc1]; unfold cutI; rw [hml, ex2, ex3]
   refine ws_e rfl rfl (e_call ent36 rfl rfl (apart_any (hx2k) (hx3k)) ?_)
   rintro _ w4 ⟨rfl, hc⟩
   refine ⟨_, rfl, hc, ?_⟩
   have hzw4 := hc.size
   have HC := HC.tr hc
   have hm := hm.no hc
   refine ws_narrow (S' := fun x => Ch No w4 x) (Ch.refl _ _) (fun x h => hc.tr h) ?_
   refine ws_e rfl rfl (e_alloc (cs := #[.int .i64 0]) rfl (by rfl) rfl (fun w5 g4 hg4 hb4 hc hsz4 => ⟨hc, ?_⟩))
   have hzw5 := hc.size
   have HC := HC.tr hc
   have hm := hm.no hc
   have hge4 : w.heap.size ≤ g4 := by have := HC.size; omega
   refine ws_narrow (S' := fun x => Ch No w5 x) (Ch.refl _ _) (fun x h => hc.tr h) ?_
   refine ws_l rfl rfl (e_st1 (by rfl) rfl rfl rfl hb4 (fun w6 hb4 hc hsz => ?_))
   have hzw6 := hc.size
   have HC := HC.trans hc (fun _ _ h => h) (fun k hk ht => absurd ht (by omega))
   have hm := hm.ch hc (by intro k hk ht; omega)
   refine ws_n ?_
   refine x_seq ?_
   refine wc_seq ?_
   refine wc_region ?_
   rw [hci] at hb4
   refine wl rfl rfl rfl (p_mv rfl) ?_
   refine wl rfl rfl rfl (p_mkf rfl) ?_
   refine wle rfl (e_call ent115 rfl rfl (bsf_any (b := b) (n := x.cnt) (hm) hb4 (fun h hh => fork_bits hw (by omega)) (by omega) (by omega)) ?_)
   rintro _ w7 ⟨ok22, rfl, hc⟩
   refine ⟨_, rfl, ?_⟩
   have hzw7 := hc.size
   have HC := HC.tr hc
   have hm := hm.no hc
   have hb4 := hb4.ch hc (fun h => h)
   refine wl rfl rfl rfl (p_mv rfl) ?_
   refine wl rfl rfl rfl (p_ext rfl rfl) ?_
   refine wl rfl rfl rfl (p_ext rfl rfl) ?_
   refine wl rfl rfl rfl (p_as rfl) ?_
   refine wl rfl rfl rfl (p_as rfl) ?_
   refine wl_nil ?_
   refine x_seq ?_
   refine wc_seq ?_
   refine wc_region ?_
   refine wl rfl rfl rfl (p_ld Tryd.underlying3 rfl rfl (ld (hb4.cell rfl))) ?_
   refine wl rfl rfl rfl (p_mv rfl) ?_
   refine wl rfl rfl rfl (p_as rfl) ?_
   refine wl rfl rfl rfl (p_as rfl) ?_
   refine wl_nil ?_
   refine x_seq ?_
   refine wc_ret ?_
   refine fin_run ((res2 rfl rfl rfl)) ?_
   exact ⟨rfl, HC⟩
  ·
   refine ws_e rfl rfl (e_alloc (cs := #[.int .i64 0]) rfl (by rfl) rfl (fun w8 g4 hg4 hb4 hc hsz4 => ⟨hc, ?_⟩))
   have hzw8 := hc.size
   have HC := HC.tr hc
   have hm := hm.no hc
   have hge4 : w.heap.size ≤ g4 := by have := HC.size; omega
   refine ws_narrow (S' := fun x => Ch No w8 x) (Ch.refl _ _) (fun x h => hc.tr h) ?_
   have hci : apartK x2.1 x3.1 = b := by rw [← hc1]; unfold cutI; rw [hml, ex2, ex3]
   refine ws_e rfl rfl (e_call ent36 rfl rfl (apart_any (hx2k) (hx3k)) ?_)
   rintro _ w9 ⟨rfl, hc⟩
   refine ⟨_, rfl, hc, ?_⟩
   have hzw9 := hc.size
   have HC := HC.tr hc
   have hm := hm.no hc
   have hb4 := hb4.ch hc (fun h => h)
   refine ws_narrow (S' := fun x => Ch No w9 x) (Ch.refl _ _) (fun x h => hc.tr h) ?_
   refine ws_l rfl rfl (e_st1 (by rfl) rfl rfl rfl hb4 (fun w10 hb4 hc hsz => ?_))
   have hzw10 := hc.size
   have HC := HC.trans hc (fun _ _ h => h) (fun k hk ht => absurd ht (by omega))
   have hm := hm.ch hc (by intro k hk ht; omega)
   refine ws_n ?_
   refine x_seq ?_
   refine wc_seq ?_
   refine wc_region ?_
   rw [hci] at hb4
   refine wl rfl rfl rfl (p_mv rfl) ?_
   refine wl rfl rfl rfl (p_mkf rfl) ?_
   refine wle rfl (e_call ent115 rfl rfl (bsf_any (b := b) (n := x.cnt) (hm) hb4 (fun h hh => fork_bits hw (by omega)) (by omega) (by omega)) ?_)
   rintro _ w11 ⟨ok22, rfl, hc⟩
   refine ⟨_, rfl, ?_⟩
   have hzw11 := hc.size
   have HC := HC.tr hc
   have hm := hm.no hc
   have hb4 := hb4.ch hc (fun h => h)
   refine wl rfl rfl rfl (p_mv rfl) ?_
   refine wl rfl rfl rfl (p_ext rfl rfl) ?_
   refine wl rfl rfl rfl (p_ext rfl rfl) ?_
   refine wl rfl rfl rfl (p_as rfl) ?_
   refine wl rfl rfl rfl (p_as rfl) ?_
   refine wl_nil ?_
   refine x_seq ?_
   refine wc_seq ?_
   refine wc_region ?_
   refine wl rfl rfl rfl (p_ld Tryd.underlying3 rfl rfl (ld (hb4.cell rfl))) ?_
   refine wl rfl rfl rfl (p_mv rfl) ?_
   refine wl rfl rfl rfl (p_as rfl) ?_
   refine wl rfl rfl rfl (p_as rfl) ?_
   refine wl_nil ?_
   refine x_seq ?_
   refine wc_ret ?_
   refine fin_run ((res2 rfl rfl rfl)) ?_
   exact ⟨rfl, HC⟩

def MRootOK (t : Tr) : Prop := ∀ {w : World} {Am : Option Addr} {lm cm : Nat} {Fm : Nat → Prop}, SI w Fm eIT Am lm cm t.items → t.WF → lm ≤ 1000000 → Sl w (fun k => k = 0) u32v (some ⟨0, 0, none⟩) 64 64 rk → Calls Tryd.prog 99 #[.slice Am lm cm] w fun e w' => e = .returned (hv t.root) ∧ Ch No w w'

set_option maxHeartbeats 1000000 in
set_option maxRecDepth 20000 in
theorem mroot_leaf {w : World} {Am : Option Addr} {cm : Nat} {Fm : Nat → Prop} {k : List UInt8} {u : List UInt8} (hm : SI w Fm eIT Am 1 cm (Tr.items (.leaf k u))) (hrnd : Sl w (fun k => k = 0) u32v (some ⟨0, 0, none⟩) 64 64 rk) :
    Calls Tryd.prog 99 #[.slice Am 1 cm] w fun e w' => e = .returned (hv (itemH k u)) ∧ Ch No w w' := by
  have hn0 : 0 < w.heap.size := hrnd.size (by omega) rfl
  have hn1 := hn0
  have hm := hm.old
  have HC : Ch No w w := Ch.refl _ _
  refine enter' (args := [.slice Am 1 cm]) (n := 32) Tryd.func99 rfl rfl rfl ?_
  refine wc_seq ?_
  refine wc_region ?_
  refine wle rfl (e_alloc (cs := ((List.replicate 32 (0 : UInt8)).map u8v).toArray) rfl (by rfl) rfl (fun w1 g2 hg2 hb2 hc hsz2 => ?_))
  have hzw1 := hc.size
  have HC := HC.tr hc
  have hm := hm.no hc
  have hrnd := hrnd.no hc
  have hge2 : w.heap.size ≤ g2 := by have := HC.size; omega
  refine wl_nil ?_
  refine x_seq ?_
  refine wc_seq ?_
  refine wc_seq ?_
  refine wc_region ?_
  refine wl rfl rfl rfl (p_mv rfl) ?_
  refine wl rfl rfl rfl (p_lenS Tryd.underlying118 rfl) ?_
  refine wl rfl rfl rfl (p_eq rfl rfl) ?_
  refine wl_nil ?_
  refine x_seq ?_
  refine wc_yes rfl (rfl) ?_
  refine wc_seq ?_
  refine wc_draw (.st 0 0 (.st 1 0 (.st 2 0 (.st 3 1 (.st 4 0 (.st 5 0 (.st 6 0 (.st 7 1 (.st 8 2 (.st 9 3 .nil)))))))))) 9 (by kernel_rfl) (by kernel_rfl) (by kernel_rfl) (by repeat (first | with_reducible exact pan_body | with_reducible apply pan_then | with_reducible apply pan_in)) (fun x => Ch No w1.drew x) (Ch.refl _ _) ?_
  obtain ⟨w2, ew2⟩ : ∃ x, x = w1.drew := ⟨_, rfl⟩
  rw [← ew2]
  have hc : Ch No w1 w2 := by rw [ew2]; exact Ch.drew _
  have hszw2 : w2.heap.size = w1.heap.size := by rw [ew2]; rfl
  clear ew2
  have hzw2 := hc.size
  have HC := HC.tr hc
  have hm := hm.no hc
  have hrnd := hrnd.no hc
  have hb2 := hb2.ch hc (fun h => h)
  have hS : Ch No w2 w2 := Ch.refl _ _
  refine ws_p rfl rfl rfl rfl (p_mv rfl) ?_
  obtain ⟨b3, o3, hA3, hF3, hr3⟩ := (hm).opn (i := 0) (d := (zeroH, zeroH)) (by omega)
  have hok3 := (hm).okAt (i := 0) (d := (zeroH, zeroH)) (by omega)
  obtain ⟨x3, ex3⟩ : ∃ x_, x_ = List.getD (Tr.items (.leaf k u)) (0) (zeroH, zeroH) := ⟨_, rfl⟩
  rw [← ex3] at hr3 hok3
  obtain ⟨hx3k, hx3v⟩ := hok3
  have hr3 : w2.rangeAt b3 (o3 + 0 * 64) (((List.map u8v x3.1) ++ (List.map u8v x3.2)) : List Value) := hr3
  refine ws_p rfl rfl rfl rfl (p_ixS (j := 0 * 64) Tryd.underlying118 sz174 rfl hA3 rfl (by omega) (by omega) rfl) ?_
  have hkx : x3 = (k, u) := ex3
  refine ws_p rfl rfl rfl rfl (p_fld (j := 0) Tryd.underlying174 rfl ⟨_, by rfl⟩ rfl rfl) ?_
  refine ws_h rfl rfl rfl rfl (p_ldA (cs := (List.map u8v x3.1)) Tryd.underlying38 rfl (szL sz38 (by first | rfl | (simp only [List.length_append, List.length_map, List.length_cons, List.length_nil, (show List.length x3.1 = 32 from hx3k)]; done) | (simp only [List.length_append, List.length_map, List.length_cons, List.length_nil, List.size_toArray, (show List.length x3.1 = 32 from hx3k)]; done))) rfl (fun _ h => rng_sub (q := (List.map u8v x3.1)) (p := []) (r := ((List.map u8v x3.2) : List Value)) (rng_no hr3 h) (by first | rfl | simp only [List.append_assoc, List.cons_append, List.nil_append, List.append_nil]) rfl)) ?_
  refine ws_p rfl rfl rfl rfl (p_mv rfl) ?_
  obtain ⟨b4, o4, hA4, hF4, hr4⟩ := (hm).opn (i := 0) (d := (zeroH, zeroH)) (by omega)
  have hok4 := (hm).okAt (i := 0) (d := (zeroH, zeroH)) (by omega)
  obtain ⟨x4, ex4⟩ : ∃ x_, x_ = List.getD (Tr.items (.leaf k u)) (0) (zeroH, zeroH) := ⟨_, rfl⟩
  rw [← ex4] at hr4 hok4
  obtain ⟨hx4k, hx4v⟩ := hok4
  have hr4 : w2.rangeAt b4 (o4 + 0 * 64) (((List.map u8v x4.1) ++ (List.map u8v x4.2)) : List Value) := hr4
  refine ws_p rfl rfl rfl rfl (p_ixS (j := 0 * 64) Tryd.underlying118 sz174 rfl hA4 rfl (by omega) (by omega) rfl) ?_
  have hky : x4 = (k, u) := ex4
  refine ws_p rfl rfl rfl rfl (p_fld (j := 32) Tryd.underlying174 rfl ⟨_, by rfl⟩ rfl rfl) ?_
  refine ws_h rfl rfl rfl rfl (p_ldA (cs := (List.map u8v x4.2)) Tryd.underlying38 rfl (szL sz38 (by first | rfl | (simp only [List.length_append, List.length_map, List.length_cons, List.length_nil, (show List.length x4.2 = 32 from hx4v)]; done) | (simp only [List.length_append, List.length_map, List.length_cons, List.length_nil, List.size_toArray, (show List.length x4.2 = 32 from hx4v)]; done))) rfl (fun _ h => rng_sub (q := (List.map u8v x4.2)) (p := ((List.map u8v x4.1) : List Value)) (r := []) (rng_no hr4 h) (by first | rfl | simp only [List.append_assoc, List.cons_append, List.nil_append, List.append_nil]) (by first | rfl | (simp only [List.length_append, List.length_map, List.length_cons, List.length_nil, (show List.length x4.1 = 32 from hx4k)]; done) | (simp only [List.length_append, List.length_map, List.length_cons, List.length_nil, List.size_toArray, (show List.length x4.1 = 32 from hx4k)]; done)))) ?_
  refine ws_e rfl rfl (e_call ent74 rfl rfl (titem_any (hx3k) (hx4v) hrnd) ?_)
  rintro _ w5 ⟨rfl, hc⟩
  refine ⟨_, rfl, hc, ?_⟩
  have hzw5 := hc.size
  have HC := HC.tr hc
  have hm := hm.no hc
  have hrnd := hrnd.no hc
  have hb2 := hb2.ch hc (fun h => h)
  refine ws_narrow (S' := fun x => Ch No w5 x) (Ch.refl _ _) (fun x h => hc.tr h) ?_
  refine ws_l rfl rfl (e_stH sz38 (List.length_replicate ..) (itemH_len _ _ ) rfl rfl hb2 (fun w6 hb2 hc hsz => ?_))
  have hzw6 := hc.size
  have HC := HC.trans hc (fun _ _ h => h) (fun k hk ht => absurd ht (by omega))
  have hm := hm.ch hc (by intro k hk ht; omega)
  first | have hrnd := hrnd.ch hc (by intro k hk ht; omega) | have hrnd := hrnd.chT hc (by intro k hz hk ht; omega)
  refine ws_n ?_
  refine x_seq ?_
  refine wc_ret ?_
  refine x_then_ret ?_
  refine fin_run (resC (cs := List.map u8v (itemH x3.1 x4.2)) rfl rfl Tryd.underlying38 rfl (szL sz38 (by rw [List.length_map]; exact (itemH_len _ _ ))) (rngL hb2)) ?_
  rw [hkx, hky]; exact ⟨rfl, HC⟩

set_option maxHeartbeats 1000000 in
set_option maxRecDepth 20000 in
theorem mroot_fork {w : World}  {Am : Option Addr} {lm cm : Nat} {Fm : Nat → Prop} {b : Nat} {x y : Tr} (IHx : MRootOK x) (IHy : MRootOK y) (hm : SI w Fm eIT Am lm cm (Tr.items (.fork b x y))) (hw : (Tr.fork b x y).WF) (hl : lm ≤ 1000000) (hrnd : Sl w (fun k => k = 0) u32v (some ⟨0, 0, none⟩) 64 64 rk) :
    Calls Tryd.prog 99 #[.slice Am lm cm] w fun e w' => e = .returned (hv (Tr.fork b x y).root) ∧ Ch No w w' := by
  have hn0 : 0 < w.heap.size := hrnd.size (by omega) rfl
  have hn1 := hn0
  have hml := hm.len
  obtain ⟨hc1, hc2, hc3⟩ := cut_fork hw
  have px := Tr.cnt_pos x
  have py := Tr.cnt_pos y
  have hm := hm.old
  have HC : Ch No w w := Ch.refl _ _
  refine enter' (args := [.slice Am lm cm]) (n := 32) Tryd.func99 rfl rfl rfl ?_
  refine wc_seq ?_
  refine wc_region ?_
  refine wle rfl (e_alloc (cs := ((List.replicate 32 (0 : UInt8)).map u8v).toArray) rfl (by rfl) rfl (fun w1 g2 hg2 hb2 hc hsz2 => ?_))
  have hzw1 := hc.size
  have HC := HC.tr hc
  have hm := hm.no hc
  have hrnd := hrnd.no hc
  have hge2 : w.heap.size ≤ g2 := by have := HC.size; omega
  refine wl_nil ?_
  refine x_seq ?_
  refine wc_seq ?_
  refine wc_seq ?_
  refine wc_region ?_
  refine wl rfl rfl rfl (p_mv rfl) ?_
  refine wl rfl rfl rfl (p_lenS Tryd.underlying118 rfl) ?_
  refine wl rfl rfl rfl (p_eq rfl rfl) ?_
  refine wl_nil ?_
  refine x_seq ?_
  refine wc_no rfl (decide_eq_false (by omega)) ?_
  refine wc_skip ?_
  refine x_seq ?_
  refine wc_seq ?_
  refine wc_region ?_
  refine wl rfl rfl rfl (p_mv rfl) ?_
  refine wle rfl (e_call ent100 rfl rfl (mcut_any (hm) hw (by omega)) ?_)
  rintro _ w2 ⟨rfl, hc⟩
  refine ⟨_, rfl, ?_⟩
  have hzw2 := hc.size
  have HC := HC.tr hc
  have hm := hm.no hc
  have hrnd := hrnd.no hc
  have hb2 := hb2.ch hc (fun h => h)
  refine wl rfl rfl rfl (p_mv rfl) ?_
  refine wl rfl rfl rfl (p_ext rfl rfl) ?_
  refine wl rfl rfl rfl (p_ext rfl rfl) ?_
  refine wl rfl rfl rfl (p_as rfl) ?_
  refine wl rfl rfl rfl (p_as rfl) ?_
  refine wl_nil ?_
  refine x_seq ?_
  refine wc_seq ?_
  refine wc_draw (.st 0 0 (.st 1 0 (.st 2 0 (.st 3 0 (.st 5 0 (.st 6 0 (.st 7 0 (.st 4 2 (.st 8 2 (.st 9 2 (.st 10 3 .nil))))))))))) 10 (by kernel_rfl) (by kernel_rfl) (by kernel_rfl) (by repeat (first | with_reducible exact pan_body | with_reducible apply pan_then | with_reducible apply pan_in)) (fun x => Ch No w2.drew x) (Ch.refl _ _) ?_
  obtain ⟨w3, ew3⟩ : ∃ x, x = w2.drew := ⟨_, rfl⟩
  rw [← ew3]
  have hc : Ch No w2 w3 := by rw [ew3]; exact Ch.drew _
  have hszw3 : w3.heap.size = w2.heap.size := by rw [ew3]; rfl
  clear ew3
  have hzw3 := hc.size
  have HC := HC.tr hc
  have hm := hm.no hc
  have hrnd := hrnd.no hc
  have hb2 := hb2.ch hc (fun h => h)
  have hS : Ch No w3 w3 := Ch.refl _ _
  refine ws_p rfl rfl rfl rfl (p_mv rfl) ?_
  refine ws_p rfl rfl rfl rfl (p_mv rfl) ?_
  refine ws_p rfl rfl rfl rfl (p_mv rfl) ?_
  have hS25 : SI w3 (fun k => k < w.heap.size) eIT (cutA Am cm 0 64) x.cnt (cm - 0) (Tr.items x) := by have h := hm.cut (lo := 0) (hi := x.cnt) (q := x.cnt) (by omega) (by omega) (by omega); rw [List.drop_zero, fork_take] at h; exact h
  refine ws_p rfl rfl rfl rfl (p_slS (l := 0) (h := x.cnt) Tryd.underlying118 sz174 rfl rfl ⟨_, rfl⟩ (by omega) (by have := hm.cap; omega) hm.cap (q := x.cnt) (by omega)) ?_
  refine ws_p rfl rfl rfl rfl (p_mv rfl) ?_
  refine ws_p rfl rfl rfl rfl (p_mv rfl) ?_
  have hS29 : SI w3 (fun k => k < w.heap.size) eIT (cutA Am cm x.cnt 64) (lm - x.cnt) (cm - x.cnt) (Tr.items y) := by have h := hm.cutTo (lo := x.cnt) (by omega); rw [fork_drop] at h; exact h
  refine ws_p rfl rfl rfl rfl (p_slS (l := x.cnt) (h := lm) Tryd.underlying118 sz174 rfl ⟨_, rfl⟩ rfl (by omega) (by have := hm.cap; omega) hm.cap (q := lm - x.cnt) (by omega)) ?_
  refine ws_e rfl rfl (e_call ent99 rfl rfl (IHx hS25 hw.2.1 (by omega) hrnd) ?_)
  rintro _ w4 ⟨rfl, hc⟩
  refine ⟨_, rfl, hc, ?_⟩
  have hzw4 := hc.size
  have HC := HC.tr hc
  have hm := hm.no hc
  have hrnd := hrnd.no hc
  have hb2 := hb2.ch hc (fun h => h)
  have hS25 := hS25.no hc
  have hS29 := hS29.no hc
  refine ws_narrow (S' := fun x => Ch No w4 x) (Ch.refl _ _) (fun x h => hc.tr h) ?_
  refine ws_e rfl rfl (e_call ent99 rfl rfl (IHy hS29 hw.2.2.1 (by omega) hrnd) ?_)
  rintro _ w5 ⟨rfl, hc⟩
  refine ⟨_, rfl, hc, ?_⟩
  have hzw5 := hc.size
  have HC := HC.tr hc
  have hm := hm.no hc
  have hrnd := hrnd.no hc
  have hb2 := hb2.ch hc (fun h => h)
  have hS25 := hS25.no hc
  have hS29 := hS29.no hc
  refine ws_narrow (S' := fun x => Ch No w5 x) (Ch.refl _ _) (fun x h => hc.tr h) ?_
  refine ws_e rfl rfl (e_call ent76 rfl rfl (tfork_any (Tr.root_len) (Tr.root_len) hrnd) ?_)
  rintro _ w6 ⟨rfl, hc⟩
  refine ⟨_, rfl, hc, ?_⟩
  have hzw6 := hc.size
  have HC := HC.tr hc
  have hm := hm.no hc
  have hrnd := hrnd.no hc
  have hb2 := hb2.ch hc (fun h => h)
  have hS25 := hS25.no hc
  have hS29 := hS29.no hc
  refine ws_narrow (S' := fun x => Ch No w6 x) (Ch.refl _ _) (fun x h => hc.tr h) ?_
  refine ws_l rfl rfl (e_stH sz38 (List.length_replicate ..) (forkH_len _ _ _ ) rfl rfl hb2 (fun w7 hb2 hc hsz => ?_))
  have hzw7 := hc.size
  have HC := HC.trans hc (fun _ _ h => h) (fun k hk ht => absurd ht (by omega))
  have hm := hm.ch hc (by intro k hk ht; omega)
  first | have hrnd := hrnd.ch hc (by intro k hk ht; omega) | have hrnd := hrnd.chT hc (by intro k hz hk ht; omega)
  first | have hS25 := hS25.ch hc (by intro k hk ht; omega) | have hS25 := hS25.chT hc (by intro k hz hk ht; omega)
  first | have hS29 := hS29.ch hc (by intro k hk ht; omega) | have hS29 := hS29.chT hc (by intro k hz hk ht; omega)
  refine ws_n ?_
  refine x_seq ?_
  refine wc_ret ?_
  refine fin_run (resC (cs := List.map u8v (forkH (b8i ((b : Int))) (Tr.root x) (Tr.root y))) rfl rfl Tryd.underlying38 rfl (szL sz38 (by rw [List.length_map]; exact (forkH_len _ _ _ ))) (rngL hb2)) ?_
  exact ⟨rfl, HC⟩

theorem mroot_any : ∀ t : Tr, MRootOK t
  | .leaf k v => fun hm hw hl hr => by have e := hm.len; simp [Tr.items] at e; subst e; exact mroot_leaf hm hr
  | .fork b x y => fun hm hw hl hr => mroot_fork (mroot_any x) (mroot_any y) hm hw hl hr

set_option maxHeartbeats 1000000 in
set_option maxRecDepth 20000 in
theorem within_any {w : World} {gr : Nat} {Al Ab : Option Addr} {ll cl lb cb : Nat} {bd : Bool} {Fa : Nat → Prop} {ab : List TN} {k : List UInt8} (hbr : Blk w gr 164 ([.slice Al ll cl, .slice Ab lb cb, .bool bd] : List Value).toArray) (hab : SI w Fa eTN Ab lb cb ab) (hlb : lb ≤ 1000000000) (hk : k.length = 32) :
    Calls Tryd.prog 109 #[.pointer (some ⟨gr, 0, none⟩), hv k] w fun e w' => e = .returned (.bool (withinB k ab)) ∧ Ch No w w' := by
  have hltgr := hbr.lt
  have habl := hab.len
  have hab := hab.old
  have HC : Ch No w w := Ch.refl _ _
  refine enter' (args := [.pointer (some ⟨gr, 0, none⟩), hv k]) (n := 24) Tryd.func109 rfl rfl rfl ?_
  refine wc_seq ?_
  refine wc_region ?_
  have hltgr := hbr.lt
  refine wle rfl (e_box (cs := (List.map u8v k).toArray) rfl rfl rfl (fun w1 g3 hg3 hb3 hc hsz3 => ?_))
  have hzw1 := hc.size
  have HC := HC.tr hc
  have hbr := hbr.ch hc (fun h => h)
  have hab := hab.no hc
  have hge3 : w.heap.size ≤ g3 := by have := HC.size; omega
  have negr_3 : gr < g3 := by omega
  refine wl rfl rfl rfl (p_as rfl) ?_
  refine wl_nil ?_
  refine x_seq ?_
  refine wc_seq ?_
  refine wc_seq ?_
  refine wc_region ?_
  refine wl rfl rfl rfl (p_mv rfl) ?_
  refine wl rfl rfl rfl (p_nck rfl) ?_
  refine wl rfl rfl rfl (p_fld (j := 1) Tryd.underlying164 rfl ⟨_, by rfl⟩ rfl rfl) ?_
  refine wl rfl rfl rfl (p_ld Tryd.underlying162 rfl rfl (ld (cell_at (p := ([.slice Al ll cl] : List Value)) (v := (.slice Ab lb cb : Value)) (r := ([.bool bd] : List Value)) hbr (by simp only [List.append_assoc, List.cons_append, List.nil_append, List.append_nil]) (by first | rfl | (simp only [List.length_append, List.length_map, List.length_cons, List.length_nil]; done) | (simp only [List.length_append, List.length_map, List.length_cons, List.length_nil, List.size_toArray]; done))))) ?_
  refine wl rfl rfl rfl (p_lenS Tryd.underlying162 rfl) ?_
  refine wl rfl rfl rfl (p_mv rfl) ?_
  refine wl_nil ?_
  refine x_seq ?_
  refine wc_block ?_
  refine wc_loop (e' := [(3, .pointer (some ⟨g3, 0, none⟩)), (10, .slice Ab lb cb), (11, i64 (lb : Int)), (12, i64 ((0) : Int))]) (fun mz ez uz => ∃ i : Nat, mz = lb - i ∧ ez = [(3, .pointer (some ⟨g3, 0, none⟩)), (10, .slice Ab lb cb), (11, i64 (lb : Int)), (12, i64 (i : Int))] ∧ (i ≤ lb) ∧ (withinB k ab = withinB k (ab.drop i)) ∧ (SI uz (fun k => k < w.heap.size) eTN Ab lb cb ab) ∧ (Blk uz g3 38 (List.map u8v k).toArray) ∧ (w.heap.size ≤ g3) ∧ (Ch No w uz))
   ⟨rfl, rfl, rfl, rfl, trivial⟩ ⟨0, rfl, rfl, (by omega), rfl, hab, hb3, (by omega), HC⟩ ?_
  rintro m0 e w2 ⟨i, hm0, rfl, hi, hwn, hab, hb3, hg3w, HC⟩
  have hzw2 := HC.size
  refine wc_seq ?_
  refine wc_region ?_
  refine wl rfl rfl rfl (p_lt rfl rfl) ?_
  refine wl_nil ?_
  refine x_seq ?_
  refine wc_seq ?_
  refine wc_if rfl (fun c0 => ?_) (fun c0 => ?_)
  ·
   have c0 := of_decide_eq_true c0
   refine wc_skip ?_
   refine x_seq ?_
   refine wc_seq ?_
   refine wc_block ?_
   refine wc_seq ?_
   refine wc_region ?_
   obtain ⟨b3, o3, hA3, hF3, hr3⟩ := (hab).opn (i := i) (d := ⟨0, 0⟩) (by omega)
   have hok3 := (hab).okAt (i := i) (d := ⟨0, 0⟩) (by omega)
   obtain ⟨x3, ex3⟩ : ∃ x_, x_ = List.getD ab (i) ⟨0, 0⟩ := ⟨_, rfl⟩
   rw [← ex3] at hr3 hok3
   have hr3 : w2.rangeAt b3 (o3 + i * 2) ([i64 x3.bit, i64 x3.side] : List Value) := hr3
   refine wl rfl rfl rfl (p_ixS (j := i * 2) Tryd.underlying162 sz187 rfl hA3 rfl (by omega) (by omega) (congrArg (· * 2) (Int.toNat_natCast _))) ?_
   have hdr : ab.drop i = x3 :: ab.drop (i + 1) := by rw [ex3]; exact getD_drop (by omega)
   refine wl rfl rfl rfl (p_ldA (cs := ([i64 x3.bit, i64 x3.side] : List Value)) Tryd.underlying187 rfl (szL sz187 (by first | rfl | (simp only [List.length_append, List.length_map, List.length_cons, List.length_nil]; done) | (simp only [List.length_append, List.length_map, List.length_cons, List.length_nil, List.size_toArray]; done))) rfl (fun _ e => e ▸ hr3)) ?_
   have hltg3 := hb3.lt
   refine wle rfl (e_alloc (cs := ([Value.int .i64 0, Value.int .i64 0] : List Value).toArray) rfl (by rfl) rfl (fun w4 g6 hg6 hb6 hc hsz6 => ?_))
   have hzw4 := hc.size
   have HC := HC.tr hc
   have hab := hab.no hc
   have hb3 := hb3.ch hc (fun h => h)
   have hge6 : w.heap.size ≤ g6 := by have := HC.size; omega
   have neg3_6 : g3 < g6 := by omega
   refine wle rfl (e_stW (vs := ([i64 x3.bit, i64 x3.side] : List Value)) (szL sz187 (by first | rfl | (simp only [List.length_append, List.length_map, List.length_cons, List.length_nil]; done) | (simp only [List.length_append, List.length_map, List.length_cons, List.length_nil, List.size_toArray]; done))) (allOne rfl) rfl rfl hb6 (by first | rfl | (simp only [List.length_append, List.length_map, List.length_cons, List.length_nil]; done) | (simp only [List.length_append, List.length_map, List.length_cons, List.length_nil, List.size_toArray]; done)) (fun w5 hb6 hc hsz => ?_))
   have hzw5 := hc.size
   have HC := HC.trans hc (fun _ _ h => h) (fun k hk ht => absurd ht (by omega))
   have hab := hab.ch hc (by intro k hk ht; omega)
   have hb3 := hb3.ch hc (by omega)
   refine wl_nil ?_
   refine x_seq ?_
   refine wc_seq ?_
   refine wc_draw (.st 0 1 (.st 1 0 (.st 2 1 (.st 4 0 (.st 5 1 (.st 3 2 (.st 6 0 .nil))))))) 7 (by kernel_rfl) (by kernel_rfl) (by kernel_rfl) (by repeat (first | with_reducible exact pan_body | with_reducible apply pan_then | with_reducible apply pan_in)) (fun x => Ch No w5.drew x) (Ch.refl _ _) ?_
   obtain ⟨w6, ew6⟩ : ∃ x, x = w5.drew := ⟨_, rfl⟩
   rw [← ew6]
   have hc : Ch No w5 w6 := by rw [ew6]; exact Ch.drew _
   have hszw6 : w6.heap.size = w5.heap.size := by rw [ew6]; rfl
   clear ew6
   have hzw6 := hc.size
   have HC := HC.tr hc
   have hab := hab.no hc
   have hb3 := hb3.ch hc (fun h => h)
   have hb6 := hb6.ch hc (fun h => h)
   have hS : Ch No w6 w6 := Ch.refl _ _
   refine ws_h rfl rfl rfl rfl (p_ldH (L := k) Tryd.underlying38 sz38 hk rfl (fun _ h => rngL (hb3.ch h (fun h => h)))) ?_
   refine ws_p rfl rfl rfl rfl (p_fld (j := 0) Tryd.underlying187 rfl ⟨_, by rfl⟩ rfl rfl) ?_
   refine ws_h rfl rfl rfl rfl (p_ld Tryd.underlying3 rfl rfl (fun _ h => h.cell (fun h => h) (cell_at (p := []) (v := (i64 x3.bit : Value)) (r := ([i64 x3.side] : List Value)) hb6 (by simp only [List.append_assoc, List.cons_append, List.nil_append, List.append_nil]) (by first | rfl | (simp only [List.length_append, List.length_map, List.length_cons, List.length_nil]; done) | (simp only [List.length_append, List.length_map, List.length_cons, List.length_nil, List.size_toArray]; done))))) ?_
   refine ws_p rfl rfl rfl rfl (p_fld (j := 1) Tryd.underlying187 rfl ⟨_, by rfl⟩ rfl rfl) ?_
   refine ws_h rfl rfl rfl rfl (p_ld Tryd.underlying3 rfl rfl (fun _ h => h.cell (fun h => h) (cell_at (p := ([i64 x3.bit] : List Value)) (v := (i64 x3.side : Value)) (r := []) hb6 (by simp only [List.append_assoc, List.cons_append, List.nil_append, List.append_nil]) (by first | rfl | (simp only [List.length_append, List.length_map, List.length_cons, List.length_nil]; done) | (simp only [List.length_append, List.length_map, List.length_cons, List.length_nil, List.size_toArray]; done))))) ?_
   refine ws_e rfl rfl (e_call ent38 rfl rfl (bit_any (hk)) ?_)
   rintro _ w7 ⟨rfl, hc⟩
   refine ⟨_, rfl, hc, ?_⟩
   have hzw7 := hc.size
   have HC := HC.tr hc
   have hab := hab.no hc
   have hb3 := hb3.ch hc (fun h => h)
   have hb6 := hb6.ch hc (fun h => h)
   refine ws_narrow (S' := fun x => Ch No w7 x) (Ch.refl _ _) (fun x h => hc.tr h) ?_
   refine ws_p rfl rfl rfl rfl (p_ne rfl rfl) ?_
   refine ws_n ?_
   refine x_seq ?_
   refine wc_if rfl (fun c1 => ?_) (fun c1 => ?_)
   ·
    have c1 := of_decide_eq_true c1
    refine wc_seq ?_
    refine wc_region ?_
    refine wl rfl rfl rfl (p_as rfl) ?_
    refine wl_nil ?_
    refine x_seq ?_
    refine wc_ret ?_
    refine x_in_ret ?_
    refine x_then_ret ?_
    refine x_then_ret ?_
    refine x_in_ret ?_
    refine x_then_ret ?_
    refine fin_run ((res1 rfl rfl)) ?_
    have hx : ¬ ((bitI k x3.bit : Nat) : Int) = x3.side := (by simpa using c1); rw [show withinB k ab = false from by rw [hwn, hdr]; simp [withinB, hx]]; exact ⟨rfl, HC⟩
   ·
    have c1 := of_decide_eq_false c1
    refine wc_skip ?_
    refine x_in_normal ?_
    refine x_seq ?_
    refine wc_region ?_
    refine wl rfl rfl rfl (p_add rfl rfl (w64 (by omega))) ?_
    refine wl rfl rfl rfl (p_mv rfl) ?_
    refine wl_nil ?_
    refine x_round (e' := [(3, .pointer (some ⟨g3, 0, none⟩)), (10, .slice Ab lb cb), (11, i64 (lb : Int)), (12, i64 ((i + 1) : Int))]) ⟨rfl, rfl, rfl, rfl, trivial⟩ (by rw [hm0]; omega) ⟨i + 1, rfl, rfl, (by omega), (by have hx : ((bitI k x3.bit : Nat) : Int) = x3.side := (by simpa using c1); rw [hwn, hdr]; simp [withinB, hx]), hab, hb3, hg3w, HC⟩
  ·
   have c0 := of_decide_eq_false c0
   refine wc_exit ?_
   refine x_then_exit ?_
   refine x_then_exit ?_
   refine x_in_here ?_
   refine x_seq ?_
   refine wc_seq ?_
   refine wc_region ?_
   refine wl rfl rfl rfl (p_as rfl) ?_
   refine wl_nil ?_
   refine x_seq ?_
   refine wc_ret ?_
   refine fin_run ((res1 rfl rfl)) ?_
   rw [show withinB k ab = true from by rw [hwn, List.drop_of_length_le (by omega)]; rfl]; exact ⟨rfl, HC⟩

set_option maxHeartbeats 1000000 in
set_option maxRecDepth 20000 in
theorem rises_any {w : World} {gr : Nat} {Al Ab : Option Addr} {ll cl lb cb : Nat} {bd : Bool} {Fa : Nat → Prop} {ab : List TN} {bt : Int} (hbr : Blk w gr 164 ([.slice Al ll cl, .slice Ab lb cb, .bool bd] : List Value).toArray) (hab : SI w Fa eTN Ab lb cb ab) (hlb : lb ≤ 1000000000) :
    Calls Tryd.prog 110 #[.pointer (some ⟨gr, 0, none⟩), i64 bt] w fun e w' => e = .returned (.bool (risesB bt ab)) ∧ Ch No w w' := by
  have hltgr := hbr.lt
  have habl := hab.len
  have hab := hab.old
  have HC : Ch No w w := Ch.refl _ _
  refine enter' (args := [.pointer (some ⟨gr, 0, none⟩), i64 bt]) (n := 34) Tryd.func110 rfl rfl rfl ?_
  refine wc_seq ?_
  refine wc_region ?_
  refine wl rfl rfl rfl (p_as rfl) ?_
  refine wl_nil ?_
  refine x_seq ?_
  refine wc_seq ?_
  refine wc_region ?_
  refine wl rfl rfl rfl (p_mv rfl) ?_
  refine wl rfl rfl rfl (p_nck rfl) ?_
  refine wl rfl rfl rfl (p_fld (j := 1) Tryd.underlying164 rfl ⟨_, by rfl⟩ rfl rfl) ?_
  refine wl rfl rfl rfl (p_ld Tryd.underlying162 rfl rfl (ld (cell_at (p := ([.slice Al ll cl] : List Value)) (v := (.slice Ab lb cb : Value)) (r := ([.bool bd] : List Value)) hbr (by simp only [List.append_assoc, List.cons_append, List.nil_append, List.append_nil]) (by first | rfl | (simp only [List.length_append, List.length_map, List.length_cons, List.length_nil]; done) | (simp only [List.length_append, List.length_map, List.length_cons, List.length_nil, List.size_toArray]; done))))) ?_
  refine wl rfl rfl rfl (p_lenS Tryd.underlying162 rfl) ?_
  refine wl rfl rfl rfl (p_as rfl) ?_
  refine wl_nil ?_
  refine x_seq ?_
  refine wc_seq ?_
  refine wc_region ?_
  refine wl rfl rfl rfl (p_mv rfl) ?_
  refine wl rfl rfl rfl (p_ge rfl rfl) ?_
  refine wl rfl rfl rfl (p_mv rfl) ?_
  refine wl_split (d := 13) rfl (fun q13 => ?_) (fun q13 => ?_)
  ·
   have q13 := of_decide_eq_true q13
   refine wl_g (gd_ rfl rfl rfl rfl rfl rfl) rfl rfl (p_mv rfl) ?_
   refine wl_g (gd_ rfl rfl rfl rfl rfl rfl) rfl rfl (p_le rfl rfl) ?_
   refine wl rfl rfl rfl (p_pickT rfl rfl) ?_
   refine wl rfl rfl rfl (p_mv rfl) ?_
   refine wl_split (d := 17) rfl (fun q17 => ?_) (fun q17 => ?_)
   ·
    have q17 := of_decide_eq_true q17
    refine wl_g (gd_ rfl rfl rfl rfl rfl rfl) rfl rfl (p_mv rfl) ?_
    refine wl_g (gd_ rfl rfl rfl rfl rfl rfl) rfl rfl (p_eq rfl rfl) ?_
    refine wl_g (gd_ rfl rfl rfl rfl rfl rfl) rfl rfl (p_mv rfl) ?_
    refine wl_split (d := 20) rfl (fun q20 => ?_) (fun q20 => ?_)
    ·
     have q20 := of_decide_eq_true q20
     refine wl_s (gd_ rfl rfl rfl rfl rfl rfl) rfl rfl ?_
     refine wl_s (gd_ rfl rfl rfl rfl rfl rfl) rfl rfl ?_
     refine wl_s (gd_ rfl rfl rfl rfl rfl rfl) rfl rfl ?_
     refine wl_s (gd_ rfl rfl rfl rfl rfl rfl) rfl rfl ?_
     refine wl_s (gd_ rfl rfl rfl rfl rfl rfl) rfl rfl ?_
     refine wl_s (gd_ rfl rfl rfl rfl rfl rfl) rfl rfl ?_
     refine wl_s (gd_ rfl rfl rfl rfl rfl rfl) rfl rfl ?_
     refine wl_s (gd_ rfl rfl rfl rfl rfl rfl) rfl rfl ?_
     refine wl_s (gd_ rfl rfl rfl rfl rfl rfl) rfl rfl ?_
     refine wl_s (gd_ rfl rfl rfl rfl rfl rfl) rfl rfl ?_
     refine wl_s (gd_ rfl rfl rfl rfl rfl rfl) rfl rfl ?_
     refine wl_g (gd_ rfl rfl rfl rfl rfl rfl) rfl rfl (p_pickT rfl rfl) ?_
     refine wl rfl rfl rfl (p_pickT rfl rfl) ?_
     refine wl rfl rfl rfl (p_as rfl) ?_
     refine wl_nil ?_
     refine x_seq ?_
     refine wc_ret ?_
     refine fin_run ((res1 rfl rfl)) ?_
     exact ⟨congrArg (fun b => Ending.returned (Value.bool b)) (show _ = risesB bt ab by unfold risesB; rw [decide_eq_true (show (0 : Int) ≤ bt by omega), decide_eq_true (show bt ≤ (255 : Int) by omega), habl, decide_eq_true (show (lb : Int) = 0 by omega)]; rfl), HC⟩
    ·
     have q20 := of_decide_eq_false q20
     refine wl_g (gd_ rfl rfl rfl rfl rfl rfl) rfl rfl (p_mv rfl) ?_
     refine wl_g (gd_ rfl rfl rfl rfl rfl rfl) rfl rfl (p_nck rfl) ?_
     refine wl_g (gd_ rfl rfl rfl rfl rfl rfl) rfl rfl (p_fld (j := 1) Tryd.underlying164 rfl ⟨_, by rfl⟩ rfl rfl) ?_
     refine wl_g (gd_ rfl rfl rfl rfl rfl rfl) rfl rfl (p_ld Tryd.underlying162 rfl rfl (ld (cell_at (p := ([.slice Al ll cl] : List Value)) (v := (.slice Ab lb cb : Value)) (r := ([.bool bd] : List Value)) hbr (by simp only [List.append_assoc, List.cons_append, List.nil_append, List.append_nil]) (by first | rfl | (simp only [List.length_append, List.length_map, List.length_cons, List.length_nil]; done) | (simp only [List.length_append, List.length_map, List.length_cons, List.length_nil, List.size_toArray]; done))))) ?_
     refine wl_g (gd_ rfl rfl rfl rfl rfl rfl) rfl rfl (p_mv rfl) ?_
     refine wl_g (gd_ rfl rfl rfl rfl rfl rfl) rfl rfl (p_sub (Z := ((lb - 1 : Nat) : Int)) rfl rfl (by rw [w64 (by omega)]; omega)) ?_
     obtain ⟨b1, o1, hA1, hF1, hr1⟩ := (hab).opn (i := (lb - 1)) (d := ⟨0, 0⟩) (by omega)
     have hok1 := (hab).okAt (i := (lb - 1)) (d := ⟨0, 0⟩) (by omega)
     obtain ⟨x1, ex1⟩ : ∃ x_, x_ = List.getD ab ((lb - 1)) ⟨0, 0⟩ := ⟨_, rfl⟩
     rw [← ex1] at hr1 hok1
     have hr1 : w.rangeAt b1 (o1 + ((lb - 1)) * 2) ([i64 x1.bit, i64 x1.side] : List Value) := hr1
     refine wl_g (gd_ rfl rfl rfl rfl rfl rfl) rfl rfl (p_ixS (j := ((lb - 1)) * 2) Tryd.underlying162 sz187 rfl hA1 rfl (by omega) (by omega) (congrArg (· * 2) (Int.toNat_natCast _))) ?_
     refine wl_g (gd_ rfl rfl rfl rfl rfl rfl) rfl rfl (p_fld (j := 0) Tryd.underlying187 rfl ⟨_, by rfl⟩ rfl rfl) ?_
     refine wl_g (gd_ rfl rfl rfl rfl rfl rfl) rfl rfl (p_ld Tryd.underlying3 rfl rfl (ld (cell_sub (v := (i64 x1.bit : Value)) (p := []) (r := ([i64 x1.side] : List Value)) hr1 (by first | rfl | simp only [List.append_assoc, List.cons_append, List.nil_append, List.append_nil]) rfl))) ?_
     refine wl_g (gd_ rfl rfl rfl rfl rfl rfl) rfl rfl (p_mv rfl) ?_
     refine wl_g (gd_ rfl rfl rfl rfl rfl rfl) rfl rfl (p_lt rfl rfl) ?_
     refine wl_g (gd_ rfl rfl rfl rfl rfl rfl) rfl rfl (p_pickF rfl rfl) ?_
     refine wl rfl rfl rfl (p_pickT rfl rfl) ?_
     refine wl rfl rfl rfl (p_as rfl) ?_
     refine wl_nil ?_
     refine x_seq ?_
     refine wc_ret ?_
     refine fin_run ((res1 rfl rfl)) ?_
     exact ⟨congrArg (fun b => Ending.returned (Value.bool b)) (show _ = risesB bt ab by unfold risesB; rw [decide_eq_true (show (0 : Int) ≤ bt by omega), decide_eq_true (show bt ≤ (255 : Int) by omega), habl, decide_eq_false (show ¬ (lb : Int) = 0 by omega), ex1]; rfl), HC⟩
   ·
    have q17 := of_decide_eq_false q17
    refine wl_s (gd_ rfl rfl rfl rfl rfl rfl) rfl rfl ?_
    refine wl_s (gd_ rfl rfl rfl rfl rfl rfl) rfl rfl ?_
    refine wl_s (gd_ rfl rfl rfl rfl rfl rfl) rfl rfl ?_
    refine wl_s (gd_ rfl rfl rfl rfl rfl rfl) rfl rfl ?_
    refine wl_s (gd_ rfl rfl rfl rfl rfl rfl) rfl rfl ?_
    refine wl_s (gd_ rfl rfl rfl rfl rfl rfl) rfl rfl ?_
    refine wl_s (gd_ rfl rfl rfl rfl rfl rfl) rfl rfl ?_
    refine wl_s (gd_ rfl rfl rfl rfl rfl rfl) rfl rfl ?_
    refine wl_s (gd_ rfl rfl rfl rfl rfl rfl) rfl rfl ?_
    refine wl_s (gd_ rfl rfl rfl rfl rfl rfl) rfl rfl ?_
    refine wl_s (gd_ rfl rfl rfl rfl rfl rfl) rfl rfl ?_
    refine wl_s (gd_ rfl rfl rfl rfl rfl rfl) rfl rfl ?_
    refine wl_s (gd_ rfl rfl rfl rfl rfl rfl) rfl rfl ?_
    refine wl_s (gd_ rfl rfl rfl rfl rfl rfl) rfl rfl ?_
    refine wl_s (gd_ rfl rfl rfl rfl rfl rfl) rfl rfl ?_
    refine wl rfl rfl rfl (p_pickF rfl rfl) ?_
    refine wl rfl rfl rfl (p_as rfl) ?_
    refine wl_nil ?_
    refine x_seq ?_
    refine wc_ret ?_
    refine fin_run ((res1 rfl rfl)) ?_
    exact ⟨congrArg (fun b => Ending.returned (Value.bool b)) (show _ = risesB bt ab by unfold risesB; rw [decide_eq_true (show (0 : Int) ≤ bt by omega), decide_eq_false (show ¬ bt ≤ (255 : Int) by omega)]; rfl), HC⟩
  ·
   have q13 := of_decide_eq_false q13
   refine wl_s (gd_ rfl rfl rfl rfl rfl rfl) rfl rfl ?_
   refine wl_s (gd_ rfl rfl rfl rfl rfl rfl) rfl rfl ?_
   refine wl rfl rfl rfl (p_pickF rfl rfl) ?_
   refine wl rfl rfl rfl (p_mv rfl) ?_
   refine wl_s (gd_ rfl rfl rfl rfl rfl rfl) rfl rfl ?_
   refine wl_s (gd_ rfl rfl rfl rfl rfl rfl) rfl rfl ?_
   refine wl_s (gd_ rfl rfl rfl rfl rfl rfl) rfl rfl ?_
   refine wl_s (gd_ rfl rfl rfl rfl rfl rfl) rfl rfl ?_
   refine wl_s (gd_ rfl rfl rfl rfl rfl rfl) rfl rfl ?_
   refine wl_s (gd_ rfl rfl rfl rfl rfl rfl) rfl rfl ?_
   refine wl_s (gd_ rfl rfl rfl rfl rfl rfl) rfl rfl ?_
   refine wl_s (gd_ rfl rfl rfl rfl rfl rfl) rfl rfl ?_
   refine wl_s (gd_ rfl rfl rfl rfl rfl rfl) rfl rfl ?_
   refine wl_s (gd_ rfl rfl rfl rfl rfl rfl) rfl rfl ?_
   refine wl_s (gd_ rfl rfl rfl rfl rfl rfl) rfl rfl ?_
   refine wl_s (gd_ rfl rfl rfl rfl rfl rfl) rfl rfl ?_
   refine wl_s (gd_ rfl rfl rfl rfl rfl rfl) rfl rfl ?_
   refine wl_s (gd_ rfl rfl rfl rfl rfl rfl) rfl rfl ?_
   refine wl_s (gd_ rfl rfl rfl rfl rfl rfl) rfl rfl ?_
   refine wl rfl rfl rfl (p_pickF rfl rfl) ?_
   refine wl rfl rfl rfl (p_as rfl) ?_
   refine wl_nil ?_
   refine x_seq ?_
   refine wc_ret ?_
   refine fin_run ((res1 rfl rfl)) ?_
   exact ⟨congrArg (fun b => Ending.returned (Value.bool b)) (show _ = risesB bt ab by unfold risesB; rw [decide_eq_false (show ¬ (0 : Int) ≤ bt by omega)]; rfl), HC⟩

def PartOK (n : Nat) : Prop := ∀ {w : World} {gr : Nat} {Al Ab : Option Addr} {ll cl lb cb : Nat} {bd : Bool} {F Fl : Nat → Prop} {l : List ND} {ab : List TN}, l.length ≤ n → Blk w gr 164 ([.slice Al ll cl, .slice Ab lb cb, .bool bd] : List Value).toArray → SI w Fl eND Al ll cl l → RI w F 187 eTN Ab lb cb ab → (∀ k, w.heap.size ≤ k → F k) → ¬ F 0 → ¬ F gr → gr ≠ 0 → (∀ k, Fl k → k < w.heap.size ∧ ¬ F k ∧ k ≠ gr) → ll ≤ 100000000 → lb + n ≤ 100000000 → Sl w (fun k => k = 0) u32v (some ⟨0, 0, none⟩) 64 64 rk → Calls Tryd.prog 88 #[.pointer (some ⟨gr, 0, none⟩)] w fun e w' => ∃ h Al' ll' cl' Ab' cb' bd' l', e = .returned (hv h) ∧ Blk w' gr 164 ([.slice Al' ll' cl', .slice Ab' lb cb', .bool bd'] : List Value).toArray ∧ SI w' Fl eND Al' ll' cl' l' ∧ RI w' F 187 eTN Ab' lb cb' ab ∧ PR ab l bd h l' bd' ∧ Ch (fun k => F k ∨ k = gr) w w'

def SideOK (n : Nat) : Prop := ∀ {w : World} {gr : Nat} {Al Ab : Option Addr} {ll cl lb cb : Nat} {bd : Bool} {F Fl : Nat → Prop} {l : List ND} {ab : List TN} {sd : Int} {bt : Int}, l.length ≤ n → Blk w gr 164 ([.slice Al ll cl, .slice Ab lb cb, .bool bd] : List Value).toArray → SI w Fl eND Al ll cl l → RI w F 187 eTN Ab lb cb ab → (∀ k, w.heap.size ≤ k → F k) → ¬ F 0 → ¬ F gr → gr ≠ 0 → (∀ k, Fl k → k < w.heap.size ∧ ¬ F k ∧ k ≠ gr) → ll ≤ 100000000 → lb + 1 + n ≤ 100000000 → Sl w (fun k => k = 0) u32v (some ⟨0, 0, none⟩) 64 64 rk → Calls Tryd.prog 111 #[.pointer (some ⟨gr, 0, none⟩), .agg ([i64 bt, i64 sd] : List Value).toArray] w fun e w' => ∃ h Al' ll' cl' Ab' cb' bd' l', e = .returned (hv h) ∧ Blk w' gr 164 ([.slice Al' ll' cl', .slice Ab' lb cb', .bool bd'] : List Value).toArray ∧ SI w' Fl eND Al' ll' cl' l' ∧ RI w' F 187 eTN Ab' lb cb' ab ∧ PR (ab ++ [⟨bt, sd⟩]) l bd h l' bd' ∧ Ch (fun k => F k ∨ k = gr) w w'

set_option maxHeartbeats 2000000 in
set_option maxRecDepth 20000 in
theorem side_step {w : World} {gr : Nat} {Al Ab : Option Addr} {ll cl lb cb : Nat} {bd : Bool} {F Fl : Nat → Prop} {l : List ND} {ab : List TN} {n : Nat} {sd bt : Int} (IH : PartOK n) (hln : l.length ≤ n) (hbr : Blk w gr 164 ([.slice Al ll cl, .slice Ab lb cb, .bool bd] : List Value).toArray) (hl : SI w Fl eND Al ll cl l) (hab : RI w F 187 eTN Ab lb cb ab) (hF : (∀ k, w.heap.size ≤ k → F k)) (hF0 : ¬ F 0) (hFgr : ¬ F gr) (hgr0 : gr ≠ 0) (hFl : (∀ k, Fl k → k < w.heap.size ∧ ¬ F k ∧ k ≠ gr)) (hll : ll ≤ 100000000) (hlbn : lb + 1 + n ≤ 100000000) (hrnd : Sl w (fun k => k = 0) u32v (some ⟨0, 0, none⟩) 64 64 rk) :
    Calls Tryd.prog 111 #[.pointer (some ⟨gr, 0, none⟩), .agg ([i64 bt, i64 sd] : List Value).toArray] w fun e w' => ∃ h Al' ll' cl' Ab' cb' bd' l', e = .returned (hv h) ∧ Blk w' gr 164 ([.slice Al' ll' cl', .slice Ab' lb cb', .bool bd'] : List Value).toArray ∧ SI w' Fl eND Al' ll' cl' l' ∧ RI w' F 187 eTN Ab' lb cb' ab ∧ PR (ab ++ [⟨bt, sd⟩]) l bd h l' bd' ∧ Ch (fun k => F k ∨ k = gr) w w' := by
  have hltgr := hbr.lt
  have hlle := hl.len
  have habl := hab.len
  have hn0 : 0 < w.heap.size := hrnd.size (by omega) rfl
  have hn1 := hn0
  have HC : Ch (fun k => F k ∨ k = gr) w w := Ch.refl _ _
  refine enter' (args := [.pointer (some ⟨gr, 0, none⟩), .agg ([i64 bt, i64 sd] : List Value).toArray]) (n := 33) Tryd.func111 rfl rfl rfl ?_
  refine wc_seq ?_
  refine wc_region ?_
  have hltgr := hbr.lt
  refine wle rfl (e_box (cs := ([i64 bt, i64 sd] : List Value).toArray) rfl rfl rfl (fun w1 g3 hg3 hb3 hc hsz3 => ?_))
  have hzw1 := hc.size
  have HC := HC.tr hc
  have hbr := hbr.ch hc (fun h => h)
  have hl := hl.no hc
  have hab := hab.after hc
  have hrnd := hrnd.no hc
  have hge3 : w.heap.size ≤ g3 := by have := HC.size; omega
  have negr_3 : gr < g3 := by omega
  have hltgr := hbr.lt
  have hltg3 := hb3.lt
  refine wle rfl (e_alloc (cs := ((List.replicate 32 (0 : UInt8)).map u8v).toArray) rfl (by rfl) rfl (fun w2 g4 hg4 hb4 hc hsz4 => ?_))
  have hzw2 := hc.size
  have HC := HC.tr hc
  have hbr := hbr.ch hc (fun h => h)
  have hl := hl.no hc
  have hab := hab.after hc
  have hrnd := hrnd.no hc
  have hb3 := hb3.ch hc (fun h => h)
  have hge4 : w.heap.size ≤ g4 := by have := HC.size; omega
  have negr_4 : gr < g4 := by omega
  have neg3_4 : g3 < g4 := by omega
  refine wl_nil ?_
  refine x_seq ?_
  refine wc_seq ?_
  refine wc_draw (.st 0 0 (.st 1 0 (.st 2 0 (.st 3 0 (.st 4 1 (.st 5 1 (.st 6 2 (.st 7 3 (.st 8 0 (.st 9 0 (.st 10 3 .nil))))))))))) 7 (by kernel_rfl) (by kernel_rfl) (by kernel_rfl) (by repeat (first | with_reducible exact pan_body | with_reducible apply pan_then | with_reducible apply pan_in)) (fun x => Ch No w2.drew x) (Ch.refl _ _) ?_
  obtain ⟨w3, ew3⟩ : ∃ x, x = w2.drew := ⟨_, rfl⟩
  rw [← ew3]
  have hc : Ch No w2 w3 := by rw [ew3]; exact Ch.drew _
  have hszw3 : w3.heap.size = w2.heap.size := by rw [ew3]; rfl
  clear ew3
  have hzw3 := hc.size
  have HC := HC.tr hc
  have hbr := hbr.ch hc (fun h => h)
  have hl := hl.no hc
  have hab := hab.no hc
  have hrnd := hrnd.no hc
  have hb3 := hb3.ch hc (fun h => h)
  have hb4 := hb4.ch hc (fun h => h)
  have hS : Ch No w3 w3 := Ch.refl _ _
  refine ws_p rfl rfl rfl rfl (p_mv rfl) ?_
  refine ws_p rfl rfl rfl rfl (p_mv rfl) ?_
  refine ws_p rfl rfl rfl rfl (p_nck rfl) ?_
  refine ws_p rfl rfl rfl rfl (p_fld (j := 1) Tryd.underlying164 rfl ⟨_, by rfl⟩ rfl rfl) ?_
  refine ws_h rfl rfl rfl rfl (p_ld Tryd.underlying162 rfl rfl (fun _ h => h.cell (fun h => h) (cell_at (p := ([.slice Al ll cl] : List Value)) (v := (.slice Ab lb cb : Value)) (r := ([.bool bd] : List Value)) hbr (by simp only [List.append_assoc, List.cons_append, List.nil_append, List.append_nil]) (by first | rfl | (simp only [List.length_append, List.length_map, List.length_cons, List.length_nil]; done) | (simp only [List.length_append, List.length_map, List.length_cons, List.length_nil, List.size_toArray]; done))))) ?_
  refine ws_h rfl rfl rfl rfl (p_ldA (cs := ([i64 bt, i64 sd] : List Value)) Tryd.underlying187 rfl (szL sz187 (by first | rfl | (simp only [List.length_append, List.length_map, List.length_cons, List.length_nil]; done) | (simp only [List.length_append, List.length_map, List.length_cons, List.length_nil, List.size_toArray]; done))) rfl (fun _ h => (rngL (hb3.ch h (fun h => h))))) ?_
  have hltgr := hbr.lt
  have hltg3 := hb3.lt
  have hltg4 := hb4.lt
  refine ws_e rfl rfl (e_bslX (E := 187) (cs := ([i64 bt, i64 sd] : List Value)) (cs' := ([i64 bt, i64 sd] : List Value)) rfl rfl rfl (fun _ => by kernel_rfl) (fun w4 g12 hg12 hb12 hc hsz12 => ⟨hc, ?_⟩))
  have hzw4 := hc.size
  have HC := HC.tr hc
  have hbr := hbr.ch hc (fun h => h)
  have hl := hl.no hc
  have hab := hab.after hc
  have hrnd := hrnd.no hc
  have hb3 := hb3.ch hc (fun h => h)
  have hb4 := hb4.ch hc (fun h => h)
  have hge12 : w.heap.size ≤ g12 := by have := HC.size; omega
  have hS12 := SI.oneA (E := eTN) (x := ⟨bt, sd⟩) hb12 rfl trivial
  refine ws_narrow (S' := fun x => Ch No w4 x) (Ch.refl _ _) (fun x h => hc.tr h) ?_
  have hltgr := hbr.lt
  have hltg3 := hb3.lt
  have hltg4 := hb4.lt
  refine ws_l rfl rfl (e_appI rfl el162 rfl rfl hab (hS12) (by omega) (by intro k hk; have hF1 := hF k (by omega); repeat (first | exact hF1 | (refine ⟨?_, by omega⟩))) (fun w5 A13 c13 hab hc => ?_))
  have hzw5 := hc.size
  have HC := HC.trans hc (fun _ _ h => h) (fun k hk ht => (by first | exact .inl ht | (simp only [and_assoc] at ht; exact .inl ht.1)))
  have hbr := hbr.ch hc (by intro ht; first | exact hFgr ht | (simp only [and_assoc] at ht; exact hFgr ht.1))
  have hl := hl.ch hc (by intro k hk ht; have h2 := (hFl k hk).2.1; first | exact h2 ht | (simp only [and_assoc] at ht; exact h2 ht.1))
  have hrnd := hrnd.ch hc (by rintro k rfl ht; first | exact hF0 ht | (simp only [and_assoc] at ht; exact hF0 ht.1))
  have hb3 := hb3.ch hc (by omega)
  have hb4 := hb4.ch hc (by omega)
  first | have hS12 := hS12.ch hc (by intro k hk ht; omega) | have hS12 := hS12.chT hc (by intro k hz hk ht; omega)
  refine ws_p rfl rfl rfl rfl (p_nck rfl) ?_
  refine ws_p rfl rfl rfl rfl (p_fld (j := 1) Tryd.underlying164 rfl ⟨_, by rfl⟩ rfl rfl) ?_
  refine ws_l rfl rfl (e_stC (p := ([.slice Al ll cl] : List Value)) (u := (.slice Ab lb cb : Value)) (r := ([.bool bd] : List Value)) (v := .slice A13 (lb + 1) c13) (by rfl) rfl rfl rfl hbr (by simp only [List.append_assoc, List.cons_append, List.nil_append, List.append_nil]) (by first | rfl | (simp only [List.length_append, List.length_map, List.length_cons, List.length_nil]; done) | (simp only [List.length_append, List.length_map, List.length_cons, List.length_nil, List.size_toArray]; done)) (fun w6 hbr hc hsz => ?_))
  have hbr : Blk w6 gr 164 ([.slice Al ll cl, .slice A13 (lb + 1) c13, .bool bd] : List Value).toArray := by have h := hbr; simp only [List.append_assoc, List.cons_append, List.nil_append, List.append_nil] at h ⊢; exact h
  have hzw6 := hc.size
  have HC := HC.trans hc (fun _ _ h => h) (fun k hk ht => .inr ht)
  have hl := hl.ch hc (by intro k hk ht; exact (hFl k hk).2.2 ht)
  have hab := hab.ch hc (by intro k hz hk ht; (subst ht; first | exact absurd hk hFgr | (simp only [and_assoc] at hk; exact absurd hk.1 hFgr)))
  have hrnd := hrnd.ch hc (by intro k hk ht; omega)
  have hb3 := hb3.ch hc (by omega)
  have hb4 := hb4.ch hc (by omega)
  first | have hS12 := hS12.ch hc (by intro k hk ht; omega) | have hS12 := hS12.chT hc (by intro k hz hk ht; omega)
  refine ws_n ?_
  refine x_seq ?_
  refine wc_seq ?_
  refine wc_region ?_
  refine wl rfl rfl rfl (p_mv rfl) ?_
  have hlt_17 := hbr.lt
  refine wle rfl (e_call ent88 rfl rfl (IH (by omega) hbr hl hab (by intro k hk; have hF1 := hF k (by omega); repeat (first | exact hF1 | (refine ⟨?_, by omega⟩))) (by intro ht; first | exact hF0 ht | (simp only [and_assoc] at ht; exact hF0 ht.1)) (by intro ht; first | exact hFgr ht | (simp only [and_assoc] at ht; exact hFgr ht.1)) hgr0 (by intro k hk; obtain ⟨h1, h2, h3⟩ := hFl k hk; exact ⟨by omega, by intro ht; first | exact h2 ht | (simp only [and_assoc] at ht; exact h2 ht.1), h3⟩) (by omega) (by omega) hrnd) ?_)
  rintro _ w7 ⟨h17, Al17, ll17, cl17, Ab17, cb17, bd17, l17, rfl, hbr, hl, hab, hpr17, hc⟩
  refine ⟨_, rfl, ?_⟩
  have hzw7 := hc.size
  have HC := HC.trans hc (fun _ _ h => h) (fun k hk ht => ht.elim (fun ht => by first | exact .inl ht | (simp only [and_assoc] at ht; exact .inl ht.1)) .inr)
  have hrnd := hrnd.ch hc (fun k hk ht => by subst hk; exact ht.elim (fun ht => by first | exact hF0 ht | (simp only [and_assoc] at ht; exact hF0 ht.1)) (fun ht => hgr0 ht.symm))
  have hb3 := hb3.ch hc (by omega)
  have hb4 := hb4.ch hc (by omega)
  first | have hS12 := hS12.ch hc (by intro k hk ht; omega) | have hS12 := hS12.chT hc (by intro k hz hk ht; omega)
  have hln17 := hl.len
  have hsl17 := hpr17.suf_len
  have hltg3 := hb3.lt
  have hltg4 := hb4.lt
  have hltgr := hbr.lt
  refine wle rfl (e_alloc (cs := ((List.replicate 32 (0 : UInt8)).map u8v).toArray) rfl (by rfl) rfl (fun w8 g5 hg5 hb5 hc hsz5 => ?_))
  have hzw8 := hc.size
  have HC := HC.tr hc
  have hrnd := hrnd.no hc
  have hb3 := hb3.ch hc (fun h => h)
  have hb4 := hb4.ch hc (fun h => h)
  have hS12 := hS12.no hc
  have hbr := hbr.ch hc (fun h => h)
  have hl := hl.no hc
  have hab := hab.after hc
  have hge5 : w.heap.size ≤ g5 := by have := HC.size; omega
  have neg3_5 : g3 < g5 := by omega
  have neg4_5 : g4 < g5 := by omega
  have negr_5 : gr < g5 := by omega
  refine wle rfl (e_stH sz38 (List.length_replicate ..) hpr17.len rfl rfl hb5 (fun w9 hb5 hc hsz => ?_))
  have hzw9 := hc.size
  have HC := HC.trans hc (fun _ _ h => h) (fun k hk ht => absurd ht (by omega))
  have hrnd := hrnd.ch hc (by intro k hk ht; omega)
  have hb3 := hb3.ch hc (by omega)
  have hb4 := hb4.ch hc (by omega)
  first | have hS12 := hS12.ch hc (by intro k hk ht; omega) | have hS12 := hS12.chT hc (by intro k hz hk ht; omega)
  have hbr := hbr.ch hc (by omega)
  have hl := hl.ch hc (by intro k hk ht; have h1 := (hFl k hk).1; omega)
  have hab := hab.ch hc (by intro k hz hk ht; omega)
  refine wl_nil ?_
  refine x_seq ?_
  refine wc_seq ?_
  refine wc_draw (.st 0 0 (.st 1 0 (.st 2 0 (.st 3 0 (.st 4 1 (.st 5 0 (.st 6 0 (.st 7 0 (.st 8 1 (.st 9 0 (.st 10 0 (.st 11 0 (.st 12 0 (.st 13 0 (.st 14 3 .nil))))))))))))))) 14 (by kernel_rfl) (by kernel_rfl) (by kernel_rfl) (by repeat (first | with_reducible exact pan_body | with_reducible apply pan_then | with_reducible apply pan_in)) (fun x => Ch No w9.drew x) (Ch.refl _ _) ?_
  obtain ⟨w10, ew10⟩ : ∃ x, x = w9.drew := ⟨_, rfl⟩
  rw [← ew10]
  have hc : Ch No w9 w10 := by rw [ew10]; exact Ch.drew _
  have hszw10 : w10.heap.size = w9.heap.size := by rw [ew10]; rfl
  clear ew10
  have hzw10 := hc.size
  have HC := HC.tr hc
  have hrnd := hrnd.no hc
  have hb3 := hb3.ch hc (fun h => h)
  have hb4 := hb4.ch hc (fun h => h)
  have hS12 := hS12.no hc
  have hbr := hbr.ch hc (fun h => h)
  have hl := hl.no hc
  have hab := hab.no hc
  have hb5 := hb5.ch hc (fun h => h)
  have hS : Ch No w10 w10 := Ch.refl _ _
  refine ws_p rfl rfl rfl rfl (p_mv rfl) ?_
  refine ws_p rfl rfl rfl rfl (p_mv rfl) ?_
  refine ws_p rfl rfl rfl rfl (p_nck rfl) ?_
  refine ws_p rfl rfl rfl rfl (p_fld (j := 1) Tryd.underlying164 rfl ⟨_, by rfl⟩ rfl rfl) ?_
  refine ws_h rfl rfl rfl rfl (p_ld Tryd.underlying162 rfl rfl (fun _ h => h.cell (fun h => h) (cell_at (p := ([.slice Al17 ll17 cl17] : List Value)) (v := (.slice Ab17 (lb + 1) cb17 : Value)) (r := ([.bool bd17] : List Value)) hbr (by simp only [List.append_assoc, List.cons_append, List.nil_append, List.append_nil]) (by first | rfl | (simp only [List.length_append, List.length_map, List.length_cons, List.length_nil]; done) | (simp only [List.length_append, List.length_map, List.length_cons, List.length_nil, List.size_toArray]; done))))) ?_
  refine ws_p rfl rfl rfl rfl (p_mv rfl) ?_
  refine ws_p rfl rfl rfl rfl (p_nck rfl) ?_
  refine ws_p rfl rfl rfl rfl (p_fld (j := 1) Tryd.underlying164 rfl ⟨_, by rfl⟩ rfl rfl) ?_
  refine ws_h rfl rfl rfl rfl (p_ld Tryd.underlying162 rfl rfl (fun _ h => h.cell (fun h => h) (cell_at (p := ([.slice Al17 ll17 cl17] : List Value)) (v := (.slice Ab17 (lb + 1) cb17 : Value)) (r := ([.bool bd17] : List Value)) hbr (by simp only [List.append_assoc, List.cons_append, List.nil_append, List.append_nil]) (by first | rfl | (simp only [List.length_append, List.length_map, List.length_cons, List.length_nil]; done) | (simp only [List.length_append, List.length_map, List.length_cons, List.length_nil, List.size_toArray]; done))))) ?_
  refine ws_p rfl rfl rfl rfl (p_lenS Tryd.underlying162 rfl) ?_
  refine ws_p rfl rfl rfl rfl (p_sub (Z := (lb : Int)) rfl rfl (by rw [w64 (by omega)]; omega)) ?_
  have hcp29 := hab.si.cap
  have hab := hab.head0 (k := lb) (by omega)
  rw [show (ab ++ [(⟨bt, sd⟩ : TN)]).take lb = ab from by rw [← habl, List.take_left]] at hab
  refine ws_p rfl rfl rfl rfl (p_slS (l := 0) (h := lb) Tryd.underlying162 sz187 rfl rfl ⟨_, rfl⟩ (by omega) (by omega) hcp29 (q := lb) (by omega)) ?_
  refine ws_p rfl rfl rfl rfl (p_nck rfl) ?_
  refine ws_p rfl rfl rfl rfl (p_fld (j := 1) Tryd.underlying164 rfl ⟨_, by rfl⟩ rfl rfl) ?_
  refine ws_l rfl rfl (e_stC (p := ([.slice Al17 ll17 cl17] : List Value)) (u := (.slice Ab17 (lb + 1) cb17 : Value)) (r := ([.bool bd17] : List Value)) (v := .slice (cutA Ab17 cb17 0 2) lb (cb17 - 0)) (by rfl) rfl rfl rfl hbr (by simp only [List.append_assoc, List.cons_append, List.nil_append, List.append_nil]) (by first | rfl | (simp only [List.length_append, List.length_map, List.length_cons, List.length_nil]; done) | (simp only [List.length_append, List.length_map, List.length_cons, List.length_nil, List.size_toArray]; done)) (fun w11 hbr hc hsz => ?_))
  have hbr : Blk w11 gr 164 ([.slice Al17 ll17 cl17, .slice (cutA Ab17 cb17 0 2) lb (cb17 - 0), .bool bd17] : List Value).toArray := by have h := hbr; simp only [List.append_assoc, List.cons_append, List.nil_append, List.append_nil] at h ⊢; exact h
  have hzw11 := hc.size
  have HC := HC.trans hc (fun _ _ h => h) (fun k hk ht => .inr ht)
  have hrnd := hrnd.ch hc (by intro k hk ht; omega)
  have hb3 := hb3.ch hc (by omega)
  have hb4 := hb4.ch hc (by omega)
  first | have hS12 := hS12.ch hc (by intro k hk ht; omega) | have hS12 := hS12.chT hc (by intro k hz hk ht; omega)
  have hl := hl.ch hc (by intro k hk ht; exact (hFl k hk).2.2 ht)
  have hab := hab.ch hc (by intro k hz hk ht; (subst ht; first | exact absurd hk hFgr | (simp only [and_assoc] at hk; exact absurd hk.1 hFgr)))
  have hb5 := hb5.ch hc (by omega)
  refine ws_n ?_
  refine x_seq ?_
  refine wc_seq ?_
  refine wc_region ?_
  refine wl rfl rfl rfl (p_ldH (L := h17) Tryd.underlying38 sz38 hpr17.len rfl (fun _ e => e ▸ rngL hb5)) ?_
  refine wle rfl (e_stH sz38 (List.length_replicate ..) hpr17.len rfl rfl hb4 (fun w12 hb4 hc hsz => ?_))
  have hzw12 := hc.size
  have HC := HC.trans hc (fun _ _ h => h) (fun k hk ht => absurd ht (by omega))
  have hrnd := hrnd.ch hc (by intro k hk ht; omega)
  have hb3 := hb3.ch hc (by omega)
  first | have hS12 := hS12.ch hc (by intro k hk ht; omega) | have hS12 := hS12.chT hc (by intro k hz hk ht; omega)
  have hbr := hbr.ch hc (by omega)
  have hl := hl.ch hc (by intro k hk ht; have h1 := (hFl k hk).1; omega)
  have hab := hab.ch hc (by intro k hz hk ht; omega)
  have hb5 := hb5.ch hc (by omega)
  refine wl_nil ?_
  refine x_seq ?_
  refine wc_ret ?_
  refine fin_run (resC (cs := List.map u8v h17) rfl rfl Tryd.underlying38 rfl (szL sz38 (by rw [List.length_map]; exact hpr17.len)) (rngL hb4)) ?_
  exact ⟨_, _, _, _, _, _, _, _, rfl, hbr, hl, hab.mono (by intro k hk h; first | exact h | (simp only [and_assoc] at h; exact h.1)), hpr17, HC⟩
end Go.Proofs.YtkfkdakghjlenaaDoor
