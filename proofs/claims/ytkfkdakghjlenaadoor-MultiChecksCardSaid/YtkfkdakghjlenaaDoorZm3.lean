/-
  Own text, printed by a program of mine (wip/gx): what functions of the program do, walked operation by operation.
-/
import Derived.Test.YtkfkdakghjlenaaDoorProg
import Derived.Test.YtkfkdakghjlenaaDoorGxAgg
import Derived.Test.YtkfkdakghjlenaaDoorTab
import Derived.Test.YtkfkdakghjlenaaDoorGxZer
import Derived.Test.YtkfkdakghjlenaaDoorGxLay
import Derived.Test.YtkfkdakghjlenaaDoorPlPack
import Derived.Test.YtkfkdakghjlenaaDoorPlSum
import Derived.Test.YtkfkdakghjlenaaDoorPlSha
import Derived.Test.YtkfkdakghjlenaaDoorPlTag
import Derived.Test.YtkfkdakghjlenaaDoorPlBits
import Derived.Test.YtkfkdakghjlenaaDoorPlShaSt
import Derived.Test.YtkfkdakghjlenaaDoorPlShaB
import Derived.Test.YtkfkdakghjlenaaDoorPlTrie
import Derived.Test.YtkfkdakghjlenaaDoorPlTrieSt
import Derived.Test.YtkfkdakghjlenaaDoorGxRec
import Derived.Test.YtkfkdakghjlenaaDoorGxYld
import Derived.Test.YtkfkdakghjlenaaDoorPlTrieFil
import Derived.Test.YtkfkdakghjlenaaDoorOnceC
import Derived.Test.YtkfkdakghjlenaaDoorPlTrieW
import Derived.Test.YtkfkdakghjlenaaDoorPlMulti
import Derived.Test.YtkfkdakghjlenaaDoorPlEncs
import Derived.Test.YtkfkdakghjlenaaDoorGxMark
import Derived.Test.YtkfkdakghjlenaaDoorPlTrieLaw
import Derived.Test.YtkfkdakghjlenaaDoorPlTrieAct
import Derived.Test.YtkfkdakghjlenaaDoorGxFun
import Derived.Test.YtkfkdakghjlenaaDoorGxPair
import Derived.Test.YtkfkdakghjlenaaDoorPlMany
import Derived.Test.YtkfkdakghjlenaaDoorZm0
import Derived.Test.YtkfkdakghjlenaaDoorZm1
import Derived.Test.YtkfkdakghjlenaaDoorZm2
set_option linter.unusedVariables false
set_option linter.unusedSimpArgs false
namespace Go.Proofs.YtkfkdakghjlenaaDoor
open Go.RowKit Go.Gx
open Go.Plain
set_option maxHeartbeats 8000000 in
set_option maxRecDepth 20000 in
theorem rpart_step {w : World} {Al Ab : Option Addr} {ll cl lb cb : Nat} {Fl Fa : Nat → Prop} {l : List ND} {ab : List TN} {n : Nat} (IH : ∀ m, m + 1 ≤ n → RPartOK m) (hln : l.length ≤ n) (hl : SI w Fl eND Al ll cl l) (hab : SI w Fa eTN Ab lb cb ab) (hll : ll ≤ 100000000) (hlbn : lb + n ≤ 100000000) :
    Calls Tryd.prog 89 #[.slice Al ll cl, .slice Ab lb cb] w fun e w' => ∃ h A' l' c' r' ok, e = .returned (.tuple #[hv h, .slice A' l' c', .bool ok]) ∧ SI w' Fl eND A' l' c' r' ∧ PR ab l false h r' (!ok) ∧ Ch No w w' := by
  have hlle := hl.len
  have habl := hab.len
  have hl := hl.mono (G := fun k => Fl k ∧ k < w.heap.size) (fun k hk h => ⟨h, hk⟩)
  have hab := hab.old
  have HC : Ch No w w := Ch.refl _ _
  refine enter' (args := [.slice Al ll cl, .slice Ab lb cb]) (n := 157) Tryd.func89 rfl rfl rfl ?_
  refine wc_seq ?_
  refine wc_region ?_
  refine wle rfl (e_alloc (cs := ((List.replicate 32 (0 : UInt8)).map u8v).toArray) rfl (by rfl) rfl (fun w1 g4 hg4 hb4 hc hsz4 => ?_))
  have hzw1 := hc.size
  have HC := HC.tr hc
  have hl := hl.no hc
  have hab := hab.no hc
  have hge4 : w.heap.size ≤ g4 := by have := HC.size; omega
  refine wl rfl rfl rfl (p_as rfl) ?_
  refine wl rfl rfl rfl (p_as rfl) ?_
  refine wl_nil ?_
  refine x_seq ?_
  refine wc_seq ?_
  refine wc_region ?_
  refine wl rfl rfl rfl (p_bldP (cs := ((List.replicate 32 (0 : UInt8)).map u8v).toArray) rfl (fun _ => by kernel_rfl)) ?_
  have hltg4 := hb4.lt
  refine wle rfl (e_alloc (cs := ((List.replicate 32 (0 : UInt8)).map u8v).toArray) rfl (by rfl) rfl (fun w2 g7 hg7 hb7 hc hsz7 => ?_))
  have hzw2 := hc.size
  have HC := HC.tr hc
  have hl := hl.no hc
  have hab := hab.no hc
  have hb4 := hb4.ch hc (fun h => h)
  have hge7 : w.heap.size ≤ g7 := by have := HC.size; omega
  have neg4_7 : g4 < g7 := by omega
  refine wle rfl (e_stH sz38 (List.length_replicate ..) (List.length_replicate ..) rfl rfl hb7 (fun w3 hb7 hc hsz => ?_))
  have hzw3 := hc.size
  have HC := HC.trans hc (fun _ _ h => h) (fun k hk ht => absurd ht (by omega))
  first | have hl := hl.ch hc (by intro k hk ht; omega) | have hl := hl.chT hc (by intro k hz hk ht; omega)
  have hab := hab.ch hc (by intro k hk ht; omega)
  have hb4 := hb4.ch hc (by omega)
  refine wl_nil ?_
  refine x_seq ?_
  refine wc_seq ?_
  refine wc_seq ?_
  refine wc_region ?_
  refine wl rfl rfl rfl (p_mv rfl) ?_
  refine wl rfl rfl rfl (p_lenS Tryd.underlying31 rfl) ?_
  refine wl rfl rfl rfl (p_eq rfl rfl) ?_
  refine wl_nil ?_
  refine x_seq ?_
  refine wc_if rfl (fun c0 => ?_) (fun c0 => ?_)
  ·
   have c0 := of_decide_eq_true c0
   refine wc_seq ?_
   refine wc_region ?_
   refine wl rfl rfl rfl (p_ldH (L := (List.replicate 32 (0 : UInt8))) Tryd.underlying38 sz38 (List.length_replicate ..) rfl (fun _ e => e ▸ rngL hb7)) ?_
   refine wle rfl (e_stH sz38 (List.length_replicate ..) (List.length_replicate ..) rfl rfl hb4 (fun w4 hb4 hc hsz => ?_))
   have hzw4 := hc.size
   have HC := HC.trans hc (fun _ _ h => h) (fun k hk ht => absurd ht (by omega))
   first | have hl := hl.ch hc (by intro k hk ht; omega) | have hl := hl.chT hc (by intro k hz hk ht; omega)
   have hab := hab.ch hc (by intro k hk ht; omega)
   have hb7 := hb7.ch hc (by omega)
   refine wl rfl rfl rfl (p_as rfl) ?_
   refine wl rfl rfl rfl (p_as rfl) ?_
   refine wl_nil ?_
   refine x_seq ?_
   refine wc_ret ?_
   refine x_then_ret ?_
   refine fin_run (resMany (rs := [.cell 4 38, .tmp 5, .tmp 6]) rfl (.cellA (cs := List.map u8v (List.replicate 32 (0 : UInt8))) rfl Tryd.underlying38 rfl (szL sz38 (by rw [List.length_map]; exact (List.length_replicate ..))) (rngL hb4) (.tmp rfl (.tmp rfl (.nil)))) rfl) ?_
   exact ⟨_, _, _, _, _, _, rfl, SI.nil, (by rw [List.eq_nil_of_length_eq_zero (show l.length = 0 by omega)]; exact PR.nil), HC⟩
  ·
   have c0 := of_decide_eq_false c0
   refine wc_skip ?_
   refine x_seq ?_
   refine wc_seq ?_
   refine wc_region ?_
   refine wl rfl rfl rfl (p_mv rfl) ?_
   obtain ⟨b5, o5, hA5, hF5, hr5⟩ := (hl).opn (i := 0) (d := ND0) (by omega)
   have hok5 := (hl).okAt (i := 0) (d := ND0) (by omega)
   obtain ⟨x5, ex5⟩ : ∃ x_, x_ = List.getD l (0) ND0 := ⟨_, rfl⟩
   rw [← ex5] at hr5 hok5
   obtain ⟨hx5k, hx5v⟩ := hok5
   have hr5 : w3.rangeAt b5 (o5 + 0 * 66) (([i64 x5.kind, i64 x5.bit] ++ ((List.map u8v x5.key) ++ (List.map u8v x5.val))) : List Value) := hr5
   refine wl rfl rfl rfl (p_ixS (j := 0 * 66) Tryd.underlying31 sz117 rfl hA5 rfl (by omega) (by omega) rfl) ?_
   obtain ⟨r, hr0⟩ : ∃ r, r = l.drop 1 := ⟨_, rfl⟩
   have hlx : l = x5 :: r := by rw [hr0, ex5]; exact List.drop_zero.symm.trans (getD_drop (by omega))
   have hrl : r.length + 1 = l.length := by rw [hlx]; rfl
   refine wl rfl rfl rfl (p_ldA (cs := (([i64 x5.kind, i64 x5.bit] ++ ((List.map u8v x5.key) ++ (List.map u8v x5.val))) : List Value)) Tryd.underlying117 rfl (szL sz117 (by first | rfl | (simp only [List.length_append, List.length_map, List.length_cons, List.length_nil, (show List.length x5.key = 32 from hx5k), (show List.length x5.val = 32 from hx5v)]; done) | (simp only [List.length_append, List.length_map, List.length_cons, List.length_nil, List.size_toArray, (show List.length x5.key = 32 from hx5k), (show List.length x5.val = 32 from hx5v)]; done))) rfl (fun _ e => e ▸ hr5)) ?_
   have hltg4 := hb4.lt
   have hltg7 := hb7.lt
   refine wle rfl (e_alloc (cs := (([Value.int .i64 0, Value.int .i64 0] ++ ((List.map u8v (List.replicate 32 (0 : UInt8))) ++ (List.map u8v (List.replicate 32 (0 : UInt8))))) : List Value).toArray) rfl (by rfl) (by rfl) (fun w6 g8 hg8 hb8 hc hsz8 => ?_))
   have hzw6 := hc.size
   have HC := HC.tr hc
   have hl := hl.no hc
   have hab := hab.no hc
   have hb4 := hb4.ch hc (fun h => h)
   have hb7 := hb7.ch hc (fun h => h)
   have hge8 : w.heap.size ≤ g8 := by have := HC.size; omega
   have neg4_8 : g4 < g8 := by omega
   have neg7_8 : g7 < g8 := by omega
   refine wle rfl (e_stW (vs := (([i64 x5.kind, i64 x5.bit] ++ ((List.map u8v x5.key) ++ (List.map u8v x5.val))) : List Value)) (szL sz117 (by first | rfl | (simp only [List.length_append, List.length_map, List.length_cons, List.length_nil, (show List.length x5.key = 32 from hx5k), (show List.length x5.val = 32 from hx5v)]; done) | (simp only [List.length_append, List.length_map, List.length_cons, List.length_nil, List.size_toArray, (show List.length x5.key = 32 from hx5k), (show List.length x5.val = 32 from hx5v)]; done))) (oneA (allOne rfl) (oneA (oneL one_u8 _) (oneL one_u8 _))) rfl rfl hb8 (by first | rfl | (simp only [List.length_append, List.length_map, List.length_cons, List.length_nil, (show List.length (List.replicate 32 (0 : UInt8)) = 32 from (List.length_replicate ..)), (show List.length (List.replicate 32 (0 : UInt8)) = 32 from (List.length_replicate ..)), (show List.length x5.key = 32 from hx5k), (show List.length x5.val = 32 from hx5v)]; done) | (simp only [List.length_append, List.length_map, List.length_cons, List.length_nil, List.size_toArray, (show List.length (List.replicate 32 (0 : UInt8)) = 32 from (List.length_replicate ..)), (show List.length (List.replicate 32 (0 : UInt8)) = 32 from (List.length_replicate ..)), (show List.length x5.key = 32 from hx5k), (show List.length x5.val = 32 from hx5v)]; done)) (fun w7 hb8 hc hsz => ?_))
   have hzw7 := hc.size
   have HC := HC.trans hc (fun _ _ h => h) (fun k hk ht => absurd ht (by omega))
   first | have hl := hl.ch hc (by intro k hk ht; omega) | have hl := hl.chT hc (by intro k hz hk ht; omega)
   have hab := hab.ch hc (by intro k hk ht; omega)
   have hb4 := hb4.ch hc (by omega)
   have hb7 := hb7.ch hc (by omega)
   refine wl_nil ?_
   refine x_seq ?_
   refine wc_seq ?_
   refine wc_block ?_
   refine wc_seq ?_
   refine wc_region ?_
   refine wl rfl rfl rfl (p_fld (j := 0) Tryd.underlying117 rfl ⟨_, by rfl⟩ rfl rfl) ?_
   refine wl rfl rfl rfl (p_ld Tryd.underlying3 rfl rfl (ld (cell_at (p := []) (v := (i64 x5.kind : Value)) (r := (([i64 x5.bit] ++ ((List.map u8v x5.key) ++ (List.map u8v x5.val))) : List Value)) hb8 (by simp only [List.append_assoc, List.cons_append, List.nil_append, List.append_nil]) (by first | rfl | (simp only [List.length_append, List.length_map, List.length_cons, List.length_nil]; done) | (simp only [List.length_append, List.length_map, List.length_cons, List.length_nil, List.size_toArray]; done))))) ?_
   refine wl rfl rfl rfl (p_eq rfl rfl) ?_
   refine wl rfl rfl rfl (p_mv rfl) ?_
   refine wl_split (d := 28) rfl (fun q28 => ?_) (fun q28 => ?_)
   ·
    have q28 := of_decide_eq_true q28
    refine wl_g (gd_ rfl rfl rfl rfl rfl rfl) rfl rfl (p_fld (j := 1) Tryd.underlying117 rfl ⟨_, by rfl⟩ rfl rfl) ?_
    refine wl_g (gd_ rfl rfl rfl rfl rfl rfl) rfl rfl (p_ld Tryd.underlying3 rfl rfl (ld (cell_at (p := ([i64 x5.kind] : List Value)) (v := (i64 x5.bit : Value)) (r := (((List.map u8v x5.key) ++ (List.map u8v x5.val)) : List Value)) hb8 (by simp only [List.append_assoc, List.cons_append, List.nil_append, List.append_nil]) (by first | rfl | (simp only [List.length_append, List.length_map, List.length_cons, List.length_nil]; done) | (simp only [List.length_append, List.length_map, List.length_cons, List.length_nil, List.size_toArray]; done))))) ?_
    refine wl_g (gd_ rfl rfl rfl rfl rfl rfl) rfl rfl (p_eq rfl rfl) ?_
    refine wl rfl rfl rfl (p_pickT rfl rfl) ?_
    refine wl rfl rfl rfl (p_mv rfl) ?_
    refine wl_split (d := 33) rfl (fun q33 => ?_) (fun q33 => ?_)
    ·
     have q33 := of_decide_eq_true q33
     refine wl_g (gd_ rfl rfl rfl rfl rfl rfl) rfl rfl (p_fld (j := 2) Tryd.underlying117 rfl ⟨_, by rfl⟩ rfl rfl) ?_
     refine wl_g (gd_ rfl rfl rfl rfl rfl rfl) rfl rfl (p_ldA (cs := (List.map u8v x5.key)) Tryd.underlying38 rfl (szL sz38 (by first | rfl | (simp only [List.length_append, List.length_map, List.length_cons, List.length_nil, (show List.length x5.key = 32 from hx5k)]; done) | (simp only [List.length_append, List.length_map, List.length_cons, List.length_nil, List.size_toArray, (show List.length x5.key = 32 from hx5k)]; done))) rfl (fun _ e => e ▸ rng_at (p := ([i64 x5.kind, i64 x5.bit] : List Value)) (q := ((List.map u8v x5.key) : List Value)) (r := ((List.map u8v x5.val) : List Value)) hb8 (by simp only [List.append_assoc, List.cons_append, List.nil_append, List.append_nil]) (by first | rfl | (simp only [List.length_append, List.length_map, List.length_cons, List.length_nil]; done) | (simp only [List.length_append, List.length_map, List.length_cons, List.length_nil, List.size_toArray]; done)))) ?_
     refine wl_g (gd_ rfl rfl rfl rfl rfl rfl) rfl rfl (p_ldH (L := (List.replicate 32 (0 : UInt8))) Tryd.underlying38 sz38 (List.length_replicate ..) rfl (fun _ e => e ▸ rngL hb7)) ?_
     refine wl_g (gd_ rfl rfl rfl rfl rfl rfl) rfl rfl (p_eqH (a := x5.key) (b := (List.replicate 32 (0 : UInt8))) (by kernel_rfl) Tryd.underlying38 Tryd.underlying5 sz5 rfl rfl (hx5k) ((List.length_replicate ..))) ?_
     refine wl rfl rfl rfl (p_pickT rfl rfl) ?_
     refine wl rfl rfl rfl (p_as rfl) ?_
     refine wl_nil ?_
     refine x_seq ?_
     refine wc_if rfl (fun c1 => ?_) (fun c1 => ?_)
     ·
      refine wc_seq ?_
      refine wc_draw (.st 0 0 (.st 1 1 (.st 2 0 (.st 3 0 (.st 4 3 (.st 5 0 (.st 6 0 .nil))))))) 4 (by kernel_rfl) (by kernel_rfl) (by kernel_rfl) (by repeat (first | with_reducible exact pan_body | with_reducible apply pan_then | with_reducible apply pan_in)) (fun x => Ch No w7.drew x) (Ch.refl _ _) ?_
      obtain ⟨w8, ew8⟩ : ∃ x, x = w7.drew := ⟨_, rfl⟩
      rw [← ew8]
      have hc : Ch No w7 w8 := by rw [ew8]; exact Ch.drew _
      have hszw8 : w8.heap.size = w7.heap.size := by rw [ew8]; rfl
      clear ew8
      have hzw8 := hc.size
      have HC := HC.tr hc
      have hl := hl.no hc
      have hab := hab.no hc
      have hb4 := hb4.ch hc (fun h => h)
      have hb7 := hb7.ch hc (fun h => h)
      have hb8 := hb8.ch hc (fun h => h)
      have hS : Ch No w8 w8 := Ch.refl _ _
      refine ws_p rfl rfl rfl rfl (p_fld (j := 34) Tryd.underlying117 rfl ⟨_, by rfl⟩ rfl rfl) ?_
      refine ws_h rfl rfl rfl rfl (p_ldA (cs := (List.map u8v x5.val)) Tryd.underlying38 rfl (szL sz38 (by first | rfl | (simp only [List.length_append, List.length_map, List.length_cons, List.length_nil, (show List.length x5.val = 32 from hx5v)]; done) | (simp only [List.length_append, List.length_map, List.length_cons, List.length_nil, List.size_toArray, (show List.length x5.val = 32 from hx5v)]; done))) rfl (fun _ h => rng_at (p := (([i64 x5.kind, i64 x5.bit] ++ (List.map u8v x5.key)) : List Value)) (q := ((List.map u8v x5.val) : List Value)) (r := []) (hb8.ch h (fun h => h)) (by simp only [List.append_assoc, List.cons_append, List.nil_append, List.append_nil]) (by first | rfl | (simp only [List.length_append, List.length_map, List.length_cons, List.length_nil, (show List.length x5.key = 32 from hx5k)]; done) | (simp only [List.length_append, List.length_map, List.length_cons, List.length_nil, List.size_toArray, (show List.length x5.key = 32 from hx5k)]; done)))) ?_
      refine ws_p rfl rfl rfl rfl (p_mv rfl) ?_
      have hr := hl.cutTo (lo := 1) (by omega)
      rw [← hr0] at hr
      refine ws_p rfl rfl rfl rfl (p_slS (l := 1) (h := ll) Tryd.underlying31 sz117 rfl ⟨_, rfl⟩ rfl (by omega) (by have := hl.cap; omega) hl.cap (q := ll - 1) (by omega)) ?_
      refine ws_l rfl rfl (e_stH sz38 (List.length_replicate ..) hx5v rfl rfl hb4 (fun w9 hb4 hc hsz => ?_))
      have hzw9 := hc.size
      have HC := HC.trans hc (fun _ _ h => h) (fun k hk ht => absurd ht (by omega))
      first | have hl := hl.ch hc (by intro k hk ht; omega) | have hl := hl.chT hc (by intro k hz hk ht; omega)
      have hab := hab.ch hc (by intro k hk ht; omega)
      have hb7 := hb7.ch hc (by omega)
      have hb8 := hb8.ch hc (by omega)
      first | have hr := hr.ch hc (by intro k hk ht; omega) | have hr := hr.chT hc (by intro k hz hk ht; omega)
      refine ws_p rfl rfl rfl rfl (p_as rfl) ?_
      refine ws_p rfl rfl rfl rfl (p_as rfl) ?_
      refine ws_n ?_
      refine x_seq ?_
      refine wc_ret ?_
      refine x_in_ret ?_
      refine x_then_ret ?_
      refine fin_run (resMany (rs := [.cell 4 38, .tmp 5, .tmp 6]) rfl (.cellA (cs := List.map u8v x5.val) rfl Tryd.underlying38 rfl (szL sz38 (by rw [List.length_map]; exact hx5v)) (rngL hb4) (.tmp rfl (.tmp rfl (.nil)))) rfl) ?_
      exact ⟨_, _, _, _, _, _, rfl, hr.mono (fun k _ h => h.1), (by rw [hlx]; exact PR.cut (q := true) q28 hx5v (by have h := c1; simp at h; simp [q33, h, zeroH])), HC⟩
     ·
      refine wc_seq ?_
      refine wc_region ?_
      refine wl rfl rfl rfl (p_fld (j := 0) Tryd.underlying117 rfl ⟨_, by rfl⟩ rfl rfl) ?_
      refine wl rfl rfl rfl (p_ld Tryd.underlying3 rfl rfl (ld (cell_at (p := []) (v := (i64 x5.kind : Value)) (r := (([i64 x5.bit] ++ ((List.map u8v x5.key) ++ (List.map u8v x5.val))) : List Value)) hb8 (by simp only [List.append_assoc, List.cons_append, List.nil_append, List.append_nil]) (by first | rfl | (simp only [List.length_append, List.length_map, List.length_cons, List.length_nil]; done) | (simp only [List.length_append, List.length_map, List.length_cons, List.length_nil, List.size_toArray]; done))))) ?_
      refine wl rfl rfl rfl (p_eq rfl rfl) ?_
      refine wl rfl rfl rfl (p_mv rfl) ?_
      refine wl_know (d := 47) (b' := false) rfl (decide_eq_false (by omega)) ?_
      refine wl_s (gd_ rfl rfl rfl rfl rfl rfl) rfl rfl ?_
      refine wl_s (gd_ rfl rfl rfl rfl rfl rfl) rfl rfl ?_
      refine wl_s (gd_ rfl rfl rfl rfl rfl rfl) rfl rfl ?_
      refine wl rfl rfl rfl (p_pickF rfl rfl) ?_
      refine wl rfl rfl rfl (p_as rfl) ?_
      refine wl_nil ?_
      refine x_seq ?_
      refine wc_no rfl (rfl) ?_
      refine wc_seq ?_
      refine wc_region ?_
      refine wl rfl rfl rfl (p_fld (j := 0) Tryd.underlying117 rfl ⟨_, by rfl⟩ rfl rfl) ?_
      refine wl rfl rfl rfl (p_ld Tryd.underlying3 rfl rfl (ld (cell_at (p := []) (v := (i64 x5.kind : Value)) (r := (([i64 x5.bit] ++ ((List.map u8v x5.key) ++ (List.map u8v x5.val))) : List Value)) hb8 (by simp only [List.append_assoc, List.cons_append, List.nil_append, List.append_nil]) (by first | rfl | (simp only [List.length_append, List.length_map, List.length_cons, List.length_nil]; done) | (simp only [List.length_append, List.length_map, List.length_cons, List.length_nil, List.size_toArray]; done))))) ?_
      refine wl rfl rfl rfl (p_eq rfl rfl) ?_
      refine wl rfl rfl rfl (p_mv rfl) ?_
      refine wl_know (d := 79) (b' := false) rfl (decide_eq_false (by omega)) ?_
      refine wl_s (gd_ rfl rfl rfl rfl rfl rfl) rfl rfl ?_
      refine wl_s (gd_ rfl rfl rfl rfl rfl rfl) rfl rfl ?_
      refine wl_s (gd_ rfl rfl rfl rfl rfl rfl) rfl rfl ?_
      refine wl_s (gd_ rfl rfl rfl rfl rfl rfl) rfl rfl ?_
      refine wl rfl rfl rfl (p_pickF rfl rfl) ?_
      refine wl rfl rfl rfl (p_mv rfl) ?_
      refine wl_s (gd_ rfl rfl rfl rfl rfl rfl) rfl rfl ?_
      refine wl_s (gd_ rfl rfl rfl rfl rfl rfl) rfl rfl ?_
      refine wl_s (gd_ rfl rfl rfl rfl rfl rfl) rfl rfl ?_
      refine wl_s (gd_ rfl rfl rfl rfl rfl rfl) rfl rfl ?_
      refine wl rfl rfl rfl (p_pickF rfl rfl) ?_
      refine wl rfl rfl rfl (p_mv rfl) ?_
      refine wl_s (gd_ rfl rfl rfl rfl rfl rfl) rfl rfl ?_
      refine wl_s (gd_ rfl rfl rfl rfl rfl rfl) rfl rfl ?_
      refine wl_s (gd_ rfl rfl rfl rfl rfl rfl) rfl rfl ?_
      refine wl rfl rfl rfl (p_pickF rfl rfl) ?_
      refine wl rfl rfl rfl (p_mv rfl) ?_
      refine wl_s (gd_ rfl rfl rfl rfl rfl rfl) rfl rfl ?_
      refine wl_s (gd_ rfl rfl rfl rfl rfl rfl) rfl rfl ?_
      refine wl_s (gd_ rfl rfl rfl rfl rfl rfl) rfl rfl ?_
      refine wl rfl rfl rfl (p_pickF rfl rfl) ?_
      refine wl rfl rfl rfl (p_as rfl) ?_
      refine wl_nil ?_
      refine x_seq ?_
      refine wc_no rfl (rfl) ?_
      refine wc_skip ?_
      refine x_in_normal ?_
      refine x_seq ?_
      refine wc_seq ?_
      refine wc_region ?_
      refine wl rfl rfl rfl (p_ldH (L := (List.replicate 32 (0 : UInt8))) Tryd.underlying38 sz38 (List.length_replicate ..) rfl (fun _ e => e ▸ rngL hb7)) ?_
      refine wle rfl (e_stH sz38 (List.length_replicate ..) (List.length_replicate ..) rfl rfl hb4 (fun w10 hb4 hc hsz => ?_))
      have hzw10 := hc.size
      have HC := HC.trans hc (fun _ _ h => h) (fun k hk ht => absurd ht (by omega))
      first | have hl := hl.ch hc (by intro k hk ht; omega) | have hl := hl.chT hc (by intro k hz hk ht; omega)
      have hab := hab.ch hc (by intro k hk ht; omega)
      have hb7 := hb7.ch hc (by omega)
      have hb8 := hb8.ch hc (by omega)
      refine wl rfl rfl rfl (p_as rfl) ?_
      refine wl rfl rfl rfl (p_as rfl) ?_
      refine wl_nil ?_
      refine x_seq ?_
      refine wc_ret ?_
      refine fin_run (resMany (rs := [.cell 4 38, .tmp 5, .tmp 6]) rfl (.cellA (cs := List.map u8v (List.replicate 32 (0 : UInt8))) rfl Tryd.underlying38 rfl (szL sz38 (by rw [List.length_map]; exact (List.length_replicate ..))) (rngL hb4) (.tmp rfl (.tmp rfl (.nil)))) rfl) ?_
      exact ⟨_, _, _, _, _, _, rfl, SI.nil, (by rw [hlx]; exact PR.to_nil (PR.cut (q := false) (r := r) q28 hx5v (by simp; intro h; first | omega | (have h5 := c1; simp [h] at h5; exact fun h6 => absurd h6 h5))) zeroH_len), HC⟩
    ·
     have q33 := of_decide_eq_false q33
     refine wl_s (gd_ rfl rfl rfl rfl rfl rfl) rfl rfl ?_
     refine wl_s (gd_ rfl rfl rfl rfl rfl rfl) rfl rfl ?_
     refine wl_s (gd_ rfl rfl rfl rfl rfl rfl) rfl rfl ?_
     refine wl_s (gd_ rfl rfl rfl rfl rfl rfl) rfl rfl ?_
     refine wl rfl rfl rfl (p_pickF rfl rfl) ?_
     refine wl rfl rfl rfl (p_as rfl) ?_
     refine wl_nil ?_
     refine x_seq ?_
     refine wc_no rfl (rfl) ?_
     refine wc_seq ?_
     refine wc_region ?_
     refine wl rfl rfl rfl (p_fld (j := 0) Tryd.underlying117 rfl ⟨_, by rfl⟩ rfl rfl) ?_
     refine wl rfl rfl rfl (p_ld Tryd.underlying3 rfl rfl (ld (cell_at (p := []) (v := (i64 x5.kind : Value)) (r := (([i64 x5.bit] ++ ((List.map u8v x5.key) ++ (List.map u8v x5.val))) : List Value)) hb8 (by simp only [List.append_assoc, List.cons_append, List.nil_append, List.append_nil]) (by first | rfl | (simp only [List.length_append, List.length_map, List.length_cons, List.length_nil]; done) | (simp only [List.length_append, List.length_map, List.length_cons, List.length_nil, List.size_toArray]; done))))) ?_
     refine wl rfl rfl rfl (p_eq rfl rfl) ?_
     refine wl rfl rfl rfl (p_mv rfl) ?_
     refine wl_know (d := 47) (b' := false) rfl (decide_eq_false (by omega)) ?_
     refine wl_s (gd_ rfl rfl rfl rfl rfl rfl) rfl rfl ?_
     refine wl_s (gd_ rfl rfl rfl rfl rfl rfl) rfl rfl ?_
     refine wl_s (gd_ rfl rfl rfl rfl rfl rfl) rfl rfl ?_
     refine wl rfl rfl rfl (p_pickF rfl rfl) ?_
     refine wl rfl rfl rfl (p_as rfl) ?_
     refine wl_nil ?_
     refine x_seq ?_
     refine wc_no rfl (rfl) ?_
     refine wc_seq ?_
     refine wc_region ?_
     refine wl rfl rfl rfl (p_fld (j := 0) Tryd.underlying117 rfl ⟨_, by rfl⟩ rfl rfl) ?_
     refine wl rfl rfl rfl (p_ld Tryd.underlying3 rfl rfl (ld (cell_at (p := []) (v := (i64 x5.kind : Value)) (r := (([i64 x5.bit] ++ ((List.map u8v x5.key) ++ (List.map u8v x5.val))) : List Value)) hb8 (by simp only [List.append_assoc, List.cons_append, List.nil_append, List.append_nil]) (by first | rfl | (simp only [List.length_append, List.length_map, List.length_cons, List.length_nil]; done) | (simp only [List.length_append, List.length_map, List.length_cons, List.length_nil, List.size_toArray]; done))))) ?_
     refine wl rfl rfl rfl (p_eq rfl rfl) ?_
     refine wl rfl rfl rfl (p_mv rfl) ?_
     refine wl_know (d := 79) (b' := false) rfl (decide_eq_false (by omega)) ?_
     refine wl_s (gd_ rfl rfl rfl rfl rfl rfl) rfl rfl ?_
     refine wl_s (gd_ rfl rfl rfl rfl rfl rfl) rfl rfl ?_
     refine wl_s (gd_ rfl rfl rfl rfl rfl rfl) rfl rfl ?_
     refine wl_s (gd_ rfl rfl rfl rfl rfl rfl) rfl rfl ?_
     refine wl rfl rfl rfl (p_pickF rfl rfl) ?_
     refine wl rfl rfl rfl (p_mv rfl) ?_
     refine wl_s (gd_ rfl rfl rfl rfl rfl rfl) rfl rfl ?_
     refine wl_s (gd_ rfl rfl rfl rfl rfl rfl) rfl rfl ?_
     refine wl_s (gd_ rfl rfl rfl rfl rfl rfl) rfl rfl ?_
     refine wl_s (gd_ rfl rfl rfl rfl rfl rfl) rfl rfl ?_
     refine wl rfl rfl rfl (p_pickF rfl rfl) ?_
     refine wl rfl rfl rfl (p_mv rfl) ?_
     refine wl_s (gd_ rfl rfl rfl rfl rfl rfl) rfl rfl ?_
     refine wl_s (gd_ rfl rfl rfl rfl rfl rfl) rfl rfl ?_
     refine wl_s (gd_ rfl rfl rfl rfl rfl rfl) rfl rfl ?_
     refine wl rfl rfl rfl (p_pickF rfl rfl) ?_
     refine wl rfl rfl rfl (p_mv rfl) ?_
     refine wl_s (gd_ rfl rfl rfl rfl rfl rfl) rfl rfl ?_
     refine wl_s (gd_ rfl rfl rfl rfl rfl rfl) rfl rfl ?_
     refine wl_s (gd_ rfl rfl rfl rfl rfl rfl) rfl rfl ?_
     refine wl rfl rfl rfl (p_pickF rfl rfl) ?_
     refine wl rfl rfl rfl (p_as rfl) ?_
     refine wl_nil ?_
     refine x_seq ?_
     refine wc_no rfl (rfl) ?_
     refine wc_skip ?_
     refine x_in_normal ?_
     refine x_seq ?_
     refine wc_seq ?_
     refine wc_region ?_
     refine wl rfl rfl rfl (p_ldH (L := (List.replicate 32 (0 : UInt8))) Tryd.underlying38 sz38 (List.length_replicate ..) rfl (fun _ e => e ▸ rngL hb7)) ?_
     refine wle rfl (e_stH sz38 (List.length_replicate ..) (List.length_replicate ..) rfl rfl hb4 (fun w11 hb4 hc hsz => ?_))
     have hzw11 := hc.size
     have HC := HC.trans hc (fun _ _ h => h) (fun k hk ht => absurd ht (by omega))
     first | have hl := hl.ch hc (by intro k hk ht; omega) | have hl := hl.chT hc (by intro k hz hk ht; omega)
     have hab := hab.ch hc (by intro k hk ht; omega)
     have hb7 := hb7.ch hc (by omega)
     have hb8 := hb8.ch hc (by omega)
     refine wl rfl rfl rfl (p_as rfl) ?_
     refine wl rfl rfl rfl (p_as rfl) ?_
     refine wl_nil ?_
     refine x_seq ?_
     refine wc_ret ?_
     refine fin_run (resMany (rs := [.cell 4 38, .tmp 5, .tmp 6]) rfl (.cellA (cs := List.map u8v (List.replicate 32 (0 : UInt8))) rfl Tryd.underlying38 rfl (szL sz38 (by rw [List.length_map]; exact (List.length_replicate ..))) (rngL hb4) (.tmp rfl (.tmp rfl (.nil)))) rfl) ?_
     exact ⟨_, _, _, _, _, _, rfl, SI.nil, (by rw [hlx]; exact PR.to_nil (PR.cut (q := false) (r := r) q28 hx5v (by simp; intro h; first | omega | (have h5 := c1; simp [h] at h5; exact fun h6 => absurd h6 h5))) zeroH_len), HC⟩
   ·
    have q28 := of_decide_eq_false q28
    refine wl_s (gd_ rfl rfl rfl rfl rfl rfl) rfl rfl ?_
    refine wl_s (gd_ rfl rfl rfl rfl rfl rfl) rfl rfl ?_
    refine wl_s (gd_ rfl rfl rfl rfl rfl rfl) rfl rfl ?_
    refine wl rfl rfl rfl (p_pickF rfl rfl) ?_
    refine wl rfl rfl rfl (p_mv rfl) ?_
    refine wl_s (gd_ rfl rfl rfl rfl rfl rfl) rfl rfl ?_
    refine wl_s (gd_ rfl rfl rfl rfl rfl rfl) rfl rfl ?_
    refine wl_s (gd_ rfl rfl rfl rfl rfl rfl) rfl rfl ?_
    refine wl_s (gd_ rfl rfl rfl rfl rfl rfl) rfl rfl ?_
    refine wl rfl rfl rfl (p_pickF rfl rfl) ?_
    refine wl rfl rfl rfl (p_as rfl) ?_
    refine wl_nil ?_
    refine x_seq ?_
    refine wc_no rfl (rfl) ?_
    refine wc_seq ?_
    refine wc_region ?_
    refine wl rfl rfl rfl (p_fld (j := 0) Tryd.underlying117 rfl ⟨_, by rfl⟩ rfl rfl) ?_
    refine wl rfl rfl rfl (p_ld Tryd.underlying3 rfl rfl (ld (cell_at (p := []) (v := (i64 x5.kind : Value)) (r := (([i64 x5.bit] ++ ((List.map u8v x5.key) ++ (List.map u8v x5.val))) : List Value)) hb8 (by simp only [List.append_assoc, List.cons_append, List.nil_append, List.append_nil]) (by first | rfl | (simp only [List.length_append, List.length_map, List.length_cons, List.length_nil]; done) | (simp only [List.length_append, List.length_map, List.length_cons, List.length_nil, List.size_toArray]; done))))) ?_
    refine wl rfl rfl rfl (p_eq rfl rfl) ?_
    refine wl rfl rfl rfl (p_mv rfl) ?_
    refine wl_split (d := 47) rfl (fun q47 => ?_) (fun q47 => ?_)
    ·
     have q47 := of_decide_eq_true q47
     refine wl_g (gd_ rfl rfl rfl rfl rfl rfl) rfl rfl (p_fld (j := 1) Tryd.underlying117 rfl ⟨_, by rfl⟩ rfl rfl) ?_
     refine wl_g (gd_ rfl rfl rfl rfl rfl rfl) rfl rfl (p_ld Tryd.underlying3 rfl rfl (ld (cell_at (p := ([i64 x5.kind] : List Value)) (v := (i64 x5.bit : Value)) (r := (((List.map u8v x5.key) ++ (List.map u8v x5.val)) : List Value)) hb8 (by simp only [List.append_assoc, List.cons_append, List.nil_append, List.append_nil]) (by first | rfl | (simp only [List.length_append, List.length_map, List.length_cons, List.length_nil]; done) | (simp only [List.length_append, List.length_map, List.length_cons, List.length_nil, List.size_toArray]; done))))) ?_
     refine wl_g (gd_ rfl rfl rfl rfl rfl rfl) rfl rfl (p_eq rfl rfl) ?_
     refine wl rfl rfl rfl (p_pickT rfl rfl) ?_
     refine wl rfl rfl rfl (p_as rfl) ?_
     refine wl_nil ?_
     refine x_seq ?_
     refine wc_if rfl (fun c2 => ?_) (fun c2 => ?_)
     ·
      have c2 := of_decide_eq_true c2
      refine wc_seq ?_
      refine wc_seq ?_
      refine wc_region ?_
      refine wl rfl rfl rfl (p_mv rfl) ?_
      refine wl rfl rfl rfl (p_lenS Tryd.underlying188 rfl) ?_
      refine wl rfl rfl rfl (p_mv rfl) ?_
      refine wl_nil ?_
      refine x_seq ?_
      refine wc_block ?_
      refine wc_loop (e' := [(0, .slice Al ll cl), (1, .slice Ab lb cb), (4, .pointer (some ⟨g4, 0, none⟩)), (7, .pointer (some ⟨g7, 0, none⟩)), (8, .pointer (some ⟨g8, 0, none⟩)), (52, .slice Ab lb cb), (53, i64 (lb : Int)), (54, i64 ((0) : Int))]) (fun mz ez uz => ∃ i : Nat, mz = lb - i ∧ ez = [(0, .slice Al ll cl), (1, .slice Ab lb cb), (4, .pointer (some ⟨g4, 0, none⟩)), (7, .pointer (some ⟨g7, 0, none⟩)), (8, .pointer (some ⟨g8, 0, none⟩)), (52, .slice Ab lb cb), (53, i64 (lb : Int)), (54, i64 (i : Int))] ∧ (i ≤ lb) ∧ (withinB x5.key ab = withinB x5.key (ab.drop i)) ∧ (SI uz (fun k => Fl k ∧ k < w.heap.size) eND Al ll cl l) ∧ (SI uz (fun k => k < w.heap.size) eTN Ab lb cb ab) ∧ (Blk uz g4 38 (List.map u8v (List.replicate 32 (0 : UInt8))).toArray) ∧ (Blk uz g7 38 (List.map u8v (List.replicate 32 (0 : UInt8))).toArray) ∧ (Blk uz g8 117 (([i64 x5.kind, i64 x5.bit] ++ ((List.map u8v x5.key) ++ (List.map u8v x5.val))) : List Value).toArray) ∧ (w.heap.size ≤ g4 ∧ g4 < g7 ∧ g7 < g8) ∧ (Ch No w uz))
       ⟨rfl, rfl, rfl, rfl, rfl, rfl, rfl, rfl, trivial⟩ ⟨0, rfl, rfl, (by omega), rfl, hl, hab, hb4, hb7, hb8, (by omega), HC⟩ ?_
      rintro m0 e w12 ⟨i, hm0, rfl, hi, hwn, hl, hab, hb4, hb7, hb8, hgo, HC⟩
      have hzw12 := HC.size
      refine wc_seq ?_
      refine wc_region ?_
      refine wl rfl rfl rfl (p_lt rfl rfl) ?_
      refine wl_nil ?_
      refine x_seq ?_
      refine wc_seq ?_
      refine wc_if rfl (fun c3 => ?_) (fun c3 => ?_)
      ·
       have c3 := of_decide_eq_true c3
       refine wc_skip ?_
       refine x_seq ?_
       refine wc_seq ?_
       refine wc_block ?_
       refine wc_seq ?_
       refine wc_region ?_
       obtain ⟨b13, o13, hA13, hF13, hr13⟩ := (hab).opn (i := i) (d := ⟨0, 0⟩) (by omega)
       have hok13 := (hab).okAt (i := i) (d := ⟨0, 0⟩) (by omega)
       obtain ⟨x13, ex13⟩ : ∃ x_, x_ = List.getD ab (i) ⟨0, 0⟩ := ⟨_, rfl⟩
       rw [← ex13] at hr13 hok13
       have hr13 : w12.rangeAt b13 (o13 + i * 2) ([i64 x13.bit, i64 x13.side] : List Value) := hr13
       refine wl rfl rfl rfl (p_ixS (j := i * 2) Tryd.underlying188 sz190 rfl hA13 rfl (by omega) (by omega) (congrArg (· * 2) (Int.toNat_natCast _))) ?_
       have hdr : ab.drop i = x13 :: ab.drop (i + 1) := by rw [ex13]; exact getD_drop (by omega)
       refine wl rfl rfl rfl (p_ldA (cs := ([i64 x13.bit, i64 x13.side] : List Value)) Tryd.underlying190 rfl (szL sz190 (by first | rfl | (simp only [List.length_append, List.length_map, List.length_cons, List.length_nil]; done) | (simp only [List.length_append, List.length_map, List.length_cons, List.length_nil, List.size_toArray]; done))) rfl (fun _ e => e ▸ hr13)) ?_
       have hltg4 := hb4.lt
       have hltg7 := hb7.lt
       have hltg8 := hb8.lt
       refine wle rfl (e_alloc (cs := ([Value.int .i64 0, Value.int .i64 0] : List Value).toArray) rfl (by rfl) rfl (fun w14 g10 hg10 hb10 hc hsz10 => ?_))
       have hzw14 := hc.size
       have HC := HC.tr hc
       have hl := hl.no hc
       have hab := hab.no hc
       have hb4 := hb4.ch hc (fun h => h)
       have hb7 := hb7.ch hc (fun h => h)
       have hb8 := hb8.ch hc (fun h => h)
       have hge10 : w.heap.size ≤ g10 := by have := HC.size; omega
       have neg4_10 : g4 < g10 := by omega
       have neg7_10 : g7 < g10 := by omega
       have neg8_10 : g8 < g10 := by omega
       refine wle rfl (e_stW (vs := ([i64 x13.bit, i64 x13.side] : List Value)) (szL sz190 (by first | rfl | (simp only [List.length_append, List.length_map, List.length_cons, List.length_nil]; done) | (simp only [List.length_append, List.length_map, List.length_cons, List.length_nil, List.size_toArray]; done))) (allOne rfl) rfl rfl hb10 (by first | rfl | (simp only [List.length_append, List.length_map, List.length_cons, List.length_nil]; done) | (simp only [List.length_append, List.length_map, List.length_cons, List.length_nil, List.size_toArray]; done)) (fun w15 hb10 hc hsz => ?_))
       have hzw15 := hc.size
       have HC := HC.trans hc (fun _ _ h => h) (fun k hk ht => absurd ht (by omega))
       first | have hl := hl.ch hc (by intro k hk ht; omega) | have hl := hl.chT hc (by intro k hz hk ht; omega)
       have hab := hab.ch hc (by intro k hk ht; omega)
       have hb4 := hb4.ch hc (by omega)
       have hb7 := hb7.ch hc (by omega)
       have hb8 := hb8.ch hc (by omega)
       refine wl_nil ?_
       refine x_seq ?_
       refine wc_seq ?_
       refine wc_draw (.st 0 0 (.st 1 1 (.st 2 0 (.st 3 1 (.st 5 0 (.st 6 1 (.st 4 2 (.st 7 0 .nil)))))))) 8 (by kernel_rfl) (by kernel_rfl) (by kernel_rfl) (by repeat (first | with_reducible exact pan_body | with_reducible apply pan_then | with_reducible apply pan_in)) (fun x => Ch No w15.drew x) (Ch.refl _ _) ?_
       obtain ⟨w16, ew16⟩ : ∃ x, x = w15.drew := ⟨_, rfl⟩
       rw [← ew16]
       have hc : Ch No w15 w16 := by rw [ew16]; exact Ch.drew _
       have hszw16 : w16.heap.size = w15.heap.size := by rw [ew16]; rfl
       clear ew16
       have hzw16 := hc.size
       have HC := HC.tr hc
       have hl := hl.no hc
       have hab := hab.no hc
       have hb4 := hb4.ch hc (fun h => h)
       have hb7 := hb7.ch hc (fun h => h)
       have hb8 := hb8.ch hc (fun h => h)
       have hb10 := hb10.ch hc (fun h => h)
       have hS : Ch No w16 w16 := Ch.refl _ _
       refine ws_p rfl rfl rfl rfl (p_fld (j := 2) Tryd.underlying117 rfl ⟨_, by rfl⟩ rfl rfl) ?_
       refine ws_h rfl rfl rfl rfl (p_ldA (cs := (List.map u8v x5.key)) Tryd.underlying38 rfl (szL sz38 (by first | rfl | (simp only [List.length_append, List.length_map, List.length_cons, List.length_nil, (show List.length x5.key = 32 from hx5k)]; done) | (simp only [List.length_append, List.length_map, List.length_cons, List.length_nil, List.size_toArray, (show List.length x5.key = 32 from hx5k)]; done))) rfl (fun _ h => rng_at (p := ([i64 x5.kind, i64 x5.bit] : List Value)) (q := ((List.map u8v x5.key) : List Value)) (r := ((List.map u8v x5.val) : List Value)) (hb8.ch h (fun h => h)) (by simp only [List.append_assoc, List.cons_append, List.nil_append, List.append_nil]) (by first | rfl | (simp only [List.length_append, List.length_map, List.length_cons, List.length_nil]; done) | (simp only [List.length_append, List.length_map, List.length_cons, List.length_nil, List.size_toArray]; done)))) ?_
       refine ws_p rfl rfl rfl rfl (p_fld (j := 0) Tryd.underlying190 rfl ⟨_, by rfl⟩ rfl rfl) ?_
       refine ws_h rfl rfl rfl rfl (p_ld Tryd.underlying3 rfl rfl (fun _ h => h.cell (fun h => h) (cell_at (p := []) (v := (i64 x13.bit : Value)) (r := ([i64 x13.side] : List Value)) hb10 (by simp only [List.append_assoc, List.cons_append, List.nil_append, List.append_nil]) (by first | rfl | (simp only [List.length_append, List.length_map, List.length_cons, List.length_nil]; done) | (simp only [List.length_append, List.length_map, List.length_cons, List.length_nil, List.size_toArray]; done))))) ?_
       refine ws_p rfl rfl rfl rfl (p_fld (j := 1) Tryd.underlying190 rfl ⟨_, by rfl⟩ rfl rfl) ?_
       refine ws_h rfl rfl rfl rfl (p_ld Tryd.underlying3 rfl rfl (fun _ h => h.cell (fun h => h) (cell_at (p := ([i64 x13.bit] : List Value)) (v := (i64 x13.side : Value)) (r := []) hb10 (by simp only [List.append_assoc, List.cons_append, List.nil_append, List.append_nil]) (by first | rfl | (simp only [List.length_append, List.length_map, List.length_cons, List.length_nil]; done) | (simp only [List.length_append, List.length_map, List.length_cons, List.length_nil, List.size_toArray]; done))))) ?_
       refine ws_e rfl rfl (e_call ent39 rfl rfl (rbit_any (hx5k)) ?_)
       rintro _ w17 ⟨rfl, hc⟩
       refine ⟨_, rfl, hc, ?_⟩
       have hzw17 := hc.size
       have HC := HC.tr hc
       have hl := hl.no hc
       have hab := hab.no hc
       have hb4 := hb4.ch hc (fun h => h)
       have hb7 := hb7.ch hc (fun h => h)
       have hb8 := hb8.ch hc (fun h => h)
       have hb10 := hb10.ch hc (fun h => h)
       refine ws_narrow (S' := fun x => Ch No w17 x) (Ch.refl _ _) (fun x h => hc.tr h) ?_
       refine ws_p rfl rfl rfl rfl (p_ne rfl rfl) ?_
       refine ws_n ?_
       refine x_seq ?_
       refine wc_if rfl (fun c4 => ?_) (fun c4 => ?_)
       ·
        have c4 := of_decide_eq_true c4
        have hwf : withinB x5.key ab = false := by have hx : ¬ ((bitI x5.key x13.bit : Nat) : Int) = x13.side := (by simpa using c4); rw [hwn, hdr]; simp [withinB, hx]
        refine wc_seq ?_
        refine wc_region ?_
        refine wl rfl rfl rfl (p_ldH (L := (List.replicate 32 (0 : UInt8))) Tryd.underlying38 sz38 (List.length_replicate ..) rfl (fun _ e => e ▸ rngL hb7)) ?_
        refine wle rfl (e_stH sz38 (List.length_replicate ..) (List.length_replicate ..) rfl rfl hb4 (fun w18 hb4 hc hsz => ?_))
        have hzw18 := hc.size
        have HC := HC.trans hc (fun _ _ h => h) (fun k hk ht => absurd ht (by omega))
        first | have hl := hl.ch hc (by intro k hk ht; omega) | have hl := hl.chT hc (by intro k hz hk ht; omega)
        have hab := hab.ch hc (by intro k hk ht; omega)
        have hb7 := hb7.ch hc (by omega)
        have hb8 := hb8.ch hc (by omega)
        have hb10 := hb10.ch hc (by omega)
        refine wl rfl rfl rfl (p_as rfl) ?_
        refine wl rfl rfl rfl (p_as rfl) ?_
        refine wl_nil ?_
        refine x_seq ?_
        refine wc_ret ?_
        refine x_in_ret ?_
        refine x_then_ret ?_
        refine x_then_ret ?_
        refine x_in_ret ?_
        refine x_then_ret ?_
        refine x_in_ret ?_
        refine x_then_ret ?_
        refine fin_run (resMany (rs := [.cell 4 38, .tmp 5, .tmp 6]) rfl (.cellA (cs := List.map u8v (List.replicate 32 (0 : UInt8))) rfl Tryd.underlying38 rfl (szL sz38 (by rw [List.length_map]; exact (List.length_replicate ..))) (rngL hb4) (.tmp rfl (.tmp rfl (.nil)))) rfl) ?_
        exact ⟨_, _, _, _, _, _, rfl, SI.nil, (by rw [hlx]; exact PR.to_nil (PR.item (q := false) q47 hx5k hx5v (by simp [hwf])) zeroH_len), HC⟩
       ·
        have c4 := of_decide_eq_false c4
        refine wc_skip ?_
        refine x_in_normal ?_
        refine x_seq ?_
        refine wc_region ?_
        refine wl rfl rfl rfl (p_add rfl rfl (w64 (by omega))) ?_
        refine wl rfl rfl rfl (p_mv rfl) ?_
        refine wl_nil ?_
        refine x_round (e' := [(0, .slice Al ll cl), (1, .slice Ab lb cb), (4, .pointer (some ⟨g4, 0, none⟩)), (7, .pointer (some ⟨g7, 0, none⟩)), (8, .pointer (some ⟨g8, 0, none⟩)), (52, .slice Ab lb cb), (53, i64 (lb : Int)), (54, i64 ((i + 1) : Int))]) ⟨rfl, rfl, rfl, rfl, rfl, rfl, rfl, rfl, trivial⟩ (by rw [hm0]; omega) ⟨i + 1, rfl, rfl, (by omega), (by have hx : ((bitI x5.key x13.bit : Nat) : Int) = x13.side := (by simpa using c4); rw [hwn, hdr]; simp [withinB, hx]), hl, hab, hb4, hb7, hb8, hgo, HC⟩
      ·
       have c3 := of_decide_eq_false c3
       have hwt : withinB x5.key ab = true := by rw [hwn, List.drop_of_length_le (by omega)]; rfl
       refine wc_exit ?_
       refine x_then_exit ?_
       refine x_then_exit ?_
       refine x_in_here ?_
       refine x_seq ?_
       refine wc_seq ?_
       refine wc_draw (.st 0 0 (.st 1 1 (.st 2 0 (.st 3 1 (.st 5 0 (.st 6 0 (.st 4 2 (.st 7 3 (.st 8 0 (.st 9 0 .nil)))))))))) 7 (by kernel_rfl) (by kernel_rfl) (by kernel_rfl) (by repeat (first | with_reducible exact pan_body | with_reducible apply pan_then | with_reducible apply pan_in)) (fun x => Ch No w12.drew x) (Ch.refl _ _) ?_
       obtain ⟨w19, ew19⟩ : ∃ x, x = w12.drew := ⟨_, rfl⟩
       rw [← ew19]
       have hc : Ch No w12 w19 := by rw [ew19]; exact Ch.drew _
       have hszw19 : w19.heap.size = w12.heap.size := by rw [ew19]; rfl
       clear ew19
       have hzw19 := hc.size
       have HC := HC.tr hc
       have hl := hl.no hc
       have hab := hab.no hc
       have hb4 := hb4.ch hc (fun h => h)
       have hb7 := hb7.ch hc (fun h => h)
       have hb8 := hb8.ch hc (fun h => h)
       have hS : Ch No w19 w19 := Ch.refl _ _
       refine ws_p rfl rfl rfl rfl (p_fld (j := 2) Tryd.underlying117 rfl ⟨_, by rfl⟩ rfl rfl) ?_
       refine ws_h rfl rfl rfl rfl (p_ldA (cs := (List.map u8v x5.key)) Tryd.underlying38 rfl (szL sz38 (by first | rfl | (simp only [List.length_append, List.length_map, List.length_cons, List.length_nil, (show List.length x5.key = 32 from hx5k)]; done) | (simp only [List.length_append, List.length_map, List.length_cons, List.length_nil, List.size_toArray, (show List.length x5.key = 32 from hx5k)]; done))) rfl (fun _ h => rng_at (p := ([i64 x5.kind, i64 x5.bit] : List Value)) (q := ((List.map u8v x5.key) : List Value)) (r := ((List.map u8v x5.val) : List Value)) (hb8.ch h (fun h => h)) (by simp only [List.append_assoc, List.cons_append, List.nil_append, List.append_nil]) (by first | rfl | (simp only [List.length_append, List.length_map, List.length_cons, List.length_nil]; done) | (simp only [List.length_append, List.length_map, List.length_cons, List.length_nil, List.size_toArray]; done)))) ?_
       refine ws_p rfl rfl rfl rfl (p_fld (j := 34) Tryd.underlying117 rfl ⟨_, by rfl⟩ rfl rfl) ?_
       refine ws_h rfl rfl rfl rfl (p_ldA (cs := (List.map u8v x5.val)) Tryd.underlying38 rfl (szL sz38 (by first | rfl | (simp only [List.length_append, List.length_map, List.length_cons, List.length_nil, (show List.length x5.val = 32 from hx5v)]; done) | (simp only [List.length_append, List.length_map, List.length_cons, List.length_nil, List.size_toArray, (show List.length x5.val = 32 from hx5v)]; done))) rfl (fun _ h => rng_at (p := (([i64 x5.kind, i64 x5.bit] ++ (List.map u8v x5.key)) : List Value)) (q := ((List.map u8v x5.val) : List Value)) (r := []) (hb8.ch h (fun h => h)) (by simp only [List.append_assoc, List.cons_append, List.nil_append, List.append_nil]) (by first | rfl | (simp only [List.length_append, List.length_map, List.length_cons, List.length_nil, (show List.length x5.key = 32 from hx5k)]; done) | (simp only [List.length_append, List.length_map, List.length_cons, List.length_nil, List.size_toArray, (show List.length x5.key = 32 from hx5k)]; done)))) ?_
       refine ws_p rfl rfl rfl rfl (p_mv rfl) ?_
       have hr := hl.cutTo (lo := 1) (by omega)
       rw [← hr0] at hr
       refine ws_p rfl rfl rfl rfl (p_slS (l := 1) (h := ll) Tryd.underlying31 sz117 rfl ⟨_, rfl⟩ rfl (by omega) (by have := hl.cap; omega) hl.cap (q := ll - 1) (by omega)) ?_
       refine ws_e rfl rfl (e_call ent77 rfl rfl (rtitem_any (hx5k) (hx5v)) ?_)
       rintro _ w20 ⟨rfl, hc⟩
       refine ⟨_, rfl, hc, ?_⟩
       have hzw20 := hc.size
       have HC := HC.tr hc
       have hl := hl.no hc
       have hab := hab.no hc
       have hb4 := hb4.ch hc (fun h => h)
       have hb7 := hb7.ch hc (fun h => h)
       have hb8 := hb8.ch hc (fun h => h)
       have hr := hr.no hc
       refine ws_narrow (S' := fun x => Ch No w20 x) (Ch.refl _ _) (fun x h => hc.tr h) ?_
       refine ws_l rfl rfl (e_stH sz38 (List.length_replicate ..) (itemH_len _ _ ) rfl rfl hb4 (fun w21 hb4 hc hsz => ?_))
       have hzw21 := hc.size
       have HC := HC.trans hc (fun _ _ h => h) (fun k hk ht => absurd ht (by omega))
       first | have hl := hl.ch hc (by intro k hk ht; omega) | have hl := hl.chT hc (by intro k hz hk ht; omega)
       have hab := hab.ch hc (by intro k hk ht; omega)
       have hb7 := hb7.ch hc (by omega)
       have hb8 := hb8.ch hc (by omega)
       first | have hr := hr.ch hc (by intro k hk ht; omega) | have hr := hr.chT hc (by intro k hz hk ht; omega)
       refine ws_p rfl rfl rfl rfl (p_as rfl) ?_
       refine ws_p rfl rfl rfl rfl (p_as rfl) ?_
       refine ws_n ?_
       refine x_seq ?_
       refine wc_ret ?_
       refine x_in_ret ?_
       refine x_then_ret ?_
       refine fin_run (resMany (rs := [.cell 4 38, .tmp 5, .tmp 6]) rfl (.cellA (cs := List.map u8v (itemH x5.key x5.val)) rfl Tryd.underlying38 rfl (szL sz38 (by rw [List.length_map]; exact (itemH_len _ _ ))) (rngL hb4) (.tmp rfl (.tmp rfl (.nil)))) rfl) ?_
       exact ⟨_, _, _, _, _, _, rfl, hr.mono (fun k _ h => h.1), (by rw [hlx]; exact PR.item (q := true) q47 hx5k hx5v (by simp [hwt, c2])), HC⟩
     ·
      have c2 := of_decide_eq_false c2
      refine wc_seq ?_
      refine wc_region ?_
      refine wl rfl rfl rfl (p_fld (j := 0) Tryd.underlying117 rfl ⟨_, by rfl⟩ rfl rfl) ?_
      refine wl rfl rfl rfl (p_ld Tryd.underlying3 rfl rfl (ld (cell_at (p := []) (v := (i64 x5.kind : Value)) (r := (([i64 x5.bit] ++ ((List.map u8v x5.key) ++ (List.map u8v x5.val))) : List Value)) hb8 (by simp only [List.append_assoc, List.cons_append, List.nil_append, List.append_nil]) (by first | rfl | (simp only [List.length_append, List.length_map, List.length_cons, List.length_nil]; done) | (simp only [List.length_append, List.length_map, List.length_cons, List.length_nil, List.size_toArray]; done))))) ?_
      refine wl rfl rfl rfl (p_eq rfl rfl) ?_
      refine wl rfl rfl rfl (p_mv rfl) ?_
      refine wl_know (d := 79) (b' := false) rfl (decide_eq_false (by omega)) ?_
      refine wl_s (gd_ rfl rfl rfl rfl rfl rfl) rfl rfl ?_
      refine wl_s (gd_ rfl rfl rfl rfl rfl rfl) rfl rfl ?_
      refine wl_s (gd_ rfl rfl rfl rfl rfl rfl) rfl rfl ?_
      refine wl_s (gd_ rfl rfl rfl rfl rfl rfl) rfl rfl ?_
      refine wl rfl rfl rfl (p_pickF rfl rfl) ?_
      refine wl rfl rfl rfl (p_mv rfl) ?_
      refine wl_s (gd_ rfl rfl rfl rfl rfl rfl) rfl rfl ?_
      refine wl_s (gd_ rfl rfl rfl rfl rfl rfl) rfl rfl ?_
      refine wl_s (gd_ rfl rfl rfl rfl rfl rfl) rfl rfl ?_
      refine wl_s (gd_ rfl rfl rfl rfl rfl rfl) rfl rfl ?_
      refine wl rfl rfl rfl (p_pickF rfl rfl) ?_
      refine wl rfl rfl rfl (p_mv rfl) ?_
      refine wl_s (gd_ rfl rfl rfl rfl rfl rfl) rfl rfl ?_
      refine wl_s (gd_ rfl rfl rfl rfl rfl rfl) rfl rfl ?_
      refine wl_s (gd_ rfl rfl rfl rfl rfl rfl) rfl rfl ?_
      refine wl rfl rfl rfl (p_pickF rfl rfl) ?_
      refine wl rfl rfl rfl (p_mv rfl) ?_
      refine wl_s (gd_ rfl rfl rfl rfl rfl rfl) rfl rfl ?_
      refine wl_s (gd_ rfl rfl rfl rfl rfl rfl) rfl rfl ?_
      refine wl_s (gd_ rfl rfl rfl rfl rfl rfl) rfl rfl ?_
      refine wl rfl rfl rfl (p_pickF rfl rfl) ?_
      refine wl rfl rfl rfl (p_as rfl) ?_
      refine wl_nil ?_
      refine x_seq ?_
      refine wc_no rfl (rfl) ?_
      refine wc_skip ?_
      refine x_in_normal ?_
      refine x_seq ?_
      refine wc_seq ?_
      refine wc_region ?_
      refine wl rfl rfl rfl (p_ldH (L := (List.replicate 32 (0 : UInt8))) Tryd.underlying38 sz38 (List.length_replicate ..) rfl (fun _ e => e ▸ rngL hb7)) ?_
      refine wle rfl (e_stH sz38 (List.length_replicate ..) (List.length_replicate ..) rfl rfl hb4 (fun w22 hb4 hc hsz => ?_))
      have hzw22 := hc.size
      have HC := HC.trans hc (fun _ _ h => h) (fun k hk ht => absurd ht (by omega))
      first | have hl := hl.ch hc (by intro k hk ht; omega) | have hl := hl.chT hc (by intro k hz hk ht; omega)
      have hab := hab.ch hc (by intro k hk ht; omega)
      have hb7 := hb7.ch hc (by omega)
      have hb8 := hb8.ch hc (by omega)
      refine wl rfl rfl rfl (p_as rfl) ?_
      refine wl rfl rfl rfl (p_as rfl) ?_
      refine wl_nil ?_
      refine x_seq ?_
      refine wc_ret ?_
      refine fin_run (resMany (rs := [.cell 4 38, .tmp 5, .tmp 6]) rfl (.cellA (cs := List.map u8v (List.replicate 32 (0 : UInt8))) rfl Tryd.underlying38 rfl (szL sz38 (by rw [List.length_map]; exact (List.length_replicate ..))) (rngL hb4) (.tmp rfl (.tmp rfl (.nil)))) rfl) ?_
      exact ⟨_, _, _, _, _, _, rfl, SI.nil, (by rw [hlx]; exact PR.to_nil (PR.item (q := false) (r := r) q47 hx5k hx5v (by simp; intro h; omega)) zeroH_len), HC⟩
    ·
     have q47 := of_decide_eq_false q47
     refine wl_s (gd_ rfl rfl rfl rfl rfl rfl) rfl rfl ?_
     refine wl_s (gd_ rfl rfl rfl rfl rfl rfl) rfl rfl ?_
     refine wl_s (gd_ rfl rfl rfl rfl rfl rfl) rfl rfl ?_
     refine wl rfl rfl rfl (p_pickF rfl rfl) ?_
     refine wl rfl rfl rfl (p_as rfl) ?_
     refine wl_nil ?_
     refine x_seq ?_
     refine wc_no rfl (rfl) ?_
     refine wc_seq ?_
     refine wc_region ?_
     refine wl rfl rfl rfl (p_fld (j := 0) Tryd.underlying117 rfl ⟨_, by rfl⟩ rfl rfl) ?_
     refine wl rfl rfl rfl (p_ld Tryd.underlying3 rfl rfl (ld (cell_at (p := []) (v := (i64 x5.kind : Value)) (r := (([i64 x5.bit] ++ ((List.map u8v x5.key) ++ (List.map u8v x5.val))) : List Value)) hb8 (by simp only [List.append_assoc, List.cons_append, List.nil_append, List.append_nil]) (by first | rfl | (simp only [List.length_append, List.length_map, List.length_cons, List.length_nil]; done) | (simp only [List.length_append, List.length_map, List.length_cons, List.length_nil, List.size_toArray]; done))))) ?_
     refine wl rfl rfl rfl (p_eq rfl rfl) ?_
     refine wl rfl rfl rfl (p_mv rfl) ?_
     refine wl_split (d := 79) rfl (fun q79 => ?_) (fun q79 => ?_)
     ·
      have q79 := of_decide_eq_true q79
      refine wl_g (gd_ rfl rfl rfl rfl rfl rfl) rfl rfl (p_fld (j := 2) Tryd.underlying117 rfl ⟨_, by rfl⟩ rfl rfl) ?_
      refine wl_g (gd_ rfl rfl rfl rfl rfl rfl) rfl rfl (p_ldA (cs := (List.map u8v x5.key)) Tryd.underlying38 rfl (szL sz38 (by first | rfl | (simp only [List.length_append, List.length_map, List.length_cons, List.length_nil, (show List.length x5.key = 32 from hx5k)]; done) | (simp only [List.length_append, List.length_map, List.length_cons, List.length_nil, List.size_toArray, (show List.length x5.key = 32 from hx5k)]; done))) rfl (fun _ e => e ▸ rng_at (p := ([i64 x5.kind, i64 x5.bit] : List Value)) (q := ((List.map u8v x5.key) : List Value)) (r := ((List.map u8v x5.val) : List Value)) hb8 (by simp only [List.append_assoc, List.cons_append, List.nil_append, List.append_nil]) (by first | rfl | (simp only [List.length_append, List.length_map, List.length_cons, List.length_nil]; done) | (simp only [List.length_append, List.length_map, List.length_cons, List.length_nil, List.size_toArray]; done)))) ?_
      refine wl_g (gd_ rfl rfl rfl rfl rfl rfl) rfl rfl (p_ldH (L := (List.replicate 32 (0 : UInt8))) Tryd.underlying38 sz38 (List.length_replicate ..) rfl (fun _ e => e ▸ rngL hb7)) ?_
      refine wl_g (gd_ rfl rfl rfl rfl rfl rfl) rfl rfl (p_eqH (a := x5.key) (b := (List.replicate 32 (0 : UInt8))) (by kernel_rfl) Tryd.underlying38 Tryd.underlying5 sz5 rfl rfl (hx5k) ((List.length_replicate ..))) ?_
      refine wl rfl rfl rfl (p_pickT rfl rfl) ?_
      refine wl rfl rfl rfl (p_mv rfl) ?_
      refine wl_split (d := 85) rfl (fun q85 => ?_) (fun q85 => ?_)
      ·
       refine wl_g (gd_ rfl rfl rfl rfl rfl rfl) rfl rfl (p_fld (j := 34) Tryd.underlying117 rfl ⟨_, by rfl⟩ rfl rfl) ?_
       refine wl_g (gd_ rfl rfl rfl rfl rfl rfl) rfl rfl (p_ldA (cs := (List.map u8v x5.val)) Tryd.underlying38 rfl (szL sz38 (by first | rfl | (simp only [List.length_append, List.length_map, List.length_cons, List.length_nil, (show List.length x5.val = 32 from hx5v)]; done) | (simp only [List.length_append, List.length_map, List.length_cons, List.length_nil, List.size_toArray, (show List.length x5.val = 32 from hx5v)]; done))) rfl (fun _ e => e ▸ rng_at (p := (([i64 x5.kind, i64 x5.bit] ++ (List.map u8v x5.key)) : List Value)) (q := ((List.map u8v x5.val) : List Value)) (r := []) hb8 (by simp only [List.append_assoc, List.cons_append, List.nil_append, List.append_nil]) (by first | rfl | (simp only [List.length_append, List.length_map, List.length_cons, List.length_nil, (show List.length x5.key = 32 from hx5k)]; done) | (simp only [List.length_append, List.length_map, List.length_cons, List.length_nil, List.size_toArray, (show List.length x5.key = 32 from hx5k)]; done)))) ?_
       refine wl_g (gd_ rfl rfl rfl rfl rfl rfl) rfl rfl (p_ldH (L := (List.replicate 32 (0 : UInt8))) Tryd.underlying38 sz38 (List.length_replicate ..) rfl (fun _ e => e ▸ rngL hb7)) ?_
       refine wl_g (gd_ rfl rfl rfl rfl rfl rfl) rfl rfl (p_eqH (a := x5.val) (b := (List.replicate 32 (0 : UInt8))) (by kernel_rfl) Tryd.underlying38 Tryd.underlying5 sz5 rfl rfl (hx5v) ((List.length_replicate ..))) ?_
       refine wl rfl rfl rfl (p_pickT rfl rfl) ?_
       refine wl rfl rfl rfl (p_mv rfl) ?_
       refine wl_split (d := 91) rfl (fun q91 => ?_) (fun q91 => ?_)
       ·
        refine wl_g (gd_ rfl rfl rfl rfl rfl rfl) rfl rfl (p_fld (j := 1) Tryd.underlying117 rfl ⟨_, by rfl⟩ rfl rfl) ?_
        refine wl_g (gd_ rfl rfl rfl rfl rfl rfl) rfl rfl (p_ld Tryd.underlying3 rfl rfl (ld (cell_at (p := ([i64 x5.kind] : List Value)) (v := (i64 x5.bit : Value)) (r := (((List.map u8v x5.key) ++ (List.map u8v x5.val)) : List Value)) hb8 (by simp only [List.append_assoc, List.cons_append, List.nil_append, List.append_nil]) (by first | rfl | (simp only [List.length_append, List.length_map, List.length_cons, List.length_nil]; done) | (simp only [List.length_append, List.length_map, List.length_cons, List.length_nil, List.size_toArray]; done))))) ?_
        refine wl_g (gd_ rfl rfl rfl rfl rfl rfl) rfl rfl (p_ge rfl rfl) ?_
        refine wl rfl rfl rfl (p_pickT rfl rfl) ?_
        refine wl rfl rfl rfl (p_mv rfl) ?_
        refine wl_split (d := 96) rfl (fun q96 => ?_) (fun q96 => ?_)
        ·
         have q96 := of_decide_eq_true q96
         refine wl_g (gd_ rfl rfl rfl rfl rfl rfl) rfl rfl (p_fld (j := 1) Tryd.underlying117 rfl ⟨_, by rfl⟩ rfl rfl) ?_
         refine wl_g (gd_ rfl rfl rfl rfl rfl rfl) rfl rfl (p_ld Tryd.underlying3 rfl rfl (ld (cell_at (p := ([i64 x5.kind] : List Value)) (v := (i64 x5.bit : Value)) (r := (((List.map u8v x5.key) ++ (List.map u8v x5.val)) : List Value)) hb8 (by simp only [List.append_assoc, List.cons_append, List.nil_append, List.append_nil]) (by first | rfl | (simp only [List.length_append, List.length_map, List.length_cons, List.length_nil]; done) | (simp only [List.length_append, List.length_map, List.length_cons, List.length_nil, List.size_toArray]; done))))) ?_
         refine wl_g (gd_ rfl rfl rfl rfl rfl rfl) rfl rfl (p_le rfl rfl) ?_
         refine wl rfl rfl rfl (p_pickT rfl rfl) ?_
         refine wl rfl rfl rfl (p_as rfl) ?_
         refine wl_nil ?_
         refine x_seq ?_
         refine wc_if rfl (fun c5 => ?_) (fun c5 => ?_)
         ·
          have c5 := of_decide_eq_true c5
          refine wc_seq ?_
          refine wc_seq ?_
          refine wc_region ?_
          refine wl rfl rfl rfl (p_mv rfl) ?_
          refine wl rfl rfl rfl (p_lenS Tryd.underlying188 rfl) ?_
          refine wl rfl rfl rfl (p_as rfl) ?_
          refine wl_nil ?_
          refine x_seq ?_
          refine wc_cut (fun e w' => ∃ (qx : Bool), e = [(0, .slice Al ll cl), (1, .slice Ab lb cb), (4, .pointer (some ⟨g4, 0, none⟩)), (7, .pointer (some ⟨g7, 0, none⟩)), (8, .pointer (some ⟨g8, 0, none⟩)), (115, .bool qx)] ∧ (Ch No w w') ∧ (SI w' (fun k => Fl k ∧ k < w.heap.size) eND Al ll cl l) ∧ (SI w' (fun k => k < w.heap.size) eTN Ab lb cb ab) ∧ (Blk w' g4 38 (List.map u8v (List.replicate 32 (0 : UInt8))).toArray) ∧ (Blk w' g7 38 (List.map u8v (List.replicate 32 (0 : UInt8))).toArray) ∧ (Blk w' g8 117 (([i64 x5.kind, i64 x5.bit] ++ ((List.map u8v x5.key) ++ (List.map u8v x5.val))) : List Value).toArray) ∧ (w.heap.size ≤ g4 ∧ g4 < g7 ∧ g7 < g8) ∧ ((qx = true → ¬ Rises x5.bit ab) ∧ (qx = false → Rises x5.bit ab))) ?_ ?_
          ·
           refine wc_draw (.st 0 0 (.st 1 0 (.st 2 0 (.st 3 0 (.st 4 1 (.st 5 0 (.st 6 0 (.st 7 0 (.st 8 0 (.st 9 0 (.st 10 1 (.st 11 0 (.st 12 0 .nil))))))))))))) 13 (by kernel_rfl) (by kernel_rfl) (by kernel_rfl) (by repeat (first | with_reducible exact pan_body | with_reducible apply pan_then | with_reducible apply pan_in)) (fun x => Ch No w7.drew x) (Ch.refl _ _) ?_
           obtain ⟨w23, ew23⟩ : ∃ x, x = w7.drew := ⟨_, rfl⟩
           rw [← ew23]
           have hc : Ch No w7 w23 := by rw [ew23]; exact Ch.drew _
           have hszw23 : w23.heap.size = w7.heap.size := by rw [ew23]; rfl
           clear ew23
           have hzw23 := hc.size
           have HC := HC.tr hc
           have hl := hl.no hc
           have hab := hab.no hc
           have hb4 := hb4.ch hc (fun h => h)
           have hb7 := hb7.ch hc (fun h => h)
           have hb8 := hb8.ch hc (fun h => h)
           have hS : Ch No w23 w23 := Ch.refl _ _
           refine ws_p rfl rfl rfl rfl (p_mv rfl) ?_
           refine ws_p rfl rfl rfl rfl (p_gt rfl rfl) ?_
           refine ws_p rfl rfl rfl rfl (p_mv rfl) ?_
           refine ws_split (d := 105) rfl (fun q105 => ?_) (fun q105 => ?_)
           ·
            have q105 := of_decide_eq_true q105
            refine ws_pg rfl (gd_ rfl rfl rfl rfl rfl rfl) rfl rfl (p_fld (j := 1) Tryd.underlying117 rfl ⟨_, by rfl⟩ rfl rfl) ?_
            refine ws_hg rfl (gd_ rfl rfl rfl rfl rfl rfl) rfl rfl (p_ld Tryd.underlying3 rfl rfl (fun _ h => h.cell (fun h => h) (cell_at (p := ([i64 x5.kind] : List Value)) (v := (i64 x5.bit : Value)) (r := (((List.map u8v x5.key) ++ (List.map u8v x5.val)) : List Value)) hb8 (by simp only [List.append_assoc, List.cons_append, List.nil_append, List.append_nil]) (by first | rfl | (simp only [List.length_append, List.length_map, List.length_cons, List.length_nil]; done) | (simp only [List.length_append, List.length_map, List.length_cons, List.length_nil, List.size_toArray]; done))))) ?_
            refine ws_pg rfl (gd_ rfl rfl rfl rfl rfl rfl) rfl rfl (p_mv rfl) ?_
            refine ws_pg rfl (gd_ rfl rfl rfl rfl rfl rfl) rfl rfl (p_mv rfl) ?_
            refine ws_pg rfl (gd_ rfl rfl rfl rfl rfl rfl) rfl rfl (p_sub (Z := ((lb - 1 : Nat) : Int)) rfl rfl (by rw [w64 (by omega)]; omega)) ?_
            obtain ⟨b24, o24, hA24, hF24, hr24⟩ := (hab).opn (i := (lb - 1)) (d := ⟨0, 0⟩) (by omega)
            have hok24 := (hab).okAt (i := (lb - 1)) (d := ⟨0, 0⟩) (by omega)
            obtain ⟨x24, ex24⟩ : ∃ x_, x_ = List.getD ab ((lb - 1)) ⟨0, 0⟩ := ⟨_, rfl⟩
            rw [← ex24] at hr24 hok24
            have hr24 : w23.rangeAt b24 (o24 + ((lb - 1)) * 2) ([i64 x24.bit, i64 x24.side] : List Value) := hr24
            refine ws_pg rfl (gd_ rfl rfl rfl rfl rfl rfl) rfl rfl (p_ixS (j := ((lb - 1)) * 2) Tryd.underlying188 sz190 rfl hA24 rfl (by omega) (by omega) (congrArg (· * 2) (Int.toNat_natCast _))) ?_
            refine ws_pg rfl (gd_ rfl rfl rfl rfl rfl rfl) rfl rfl (p_fld (j := 0) Tryd.underlying190 rfl ⟨_, by rfl⟩ rfl rfl) ?_
            refine ws_hg rfl (gd_ rfl rfl rfl rfl rfl rfl) rfl rfl (p_ld Tryd.underlying3 rfl rfl (fun _ h => cell_sub (v := (i64 x24.bit : Value)) (p := []) (r := ([i64 x24.side] : List Value)) (rng_no hr24 h) (by first | rfl | simp only [List.append_assoc, List.cons_append, List.nil_append, List.append_nil]) rfl)) ?_
            refine ws_pg rfl (gd_ rfl rfl rfl rfl rfl rfl) rfl rfl (p_le rfl rfl) ?_
            refine ws_p rfl rfl rfl rfl (p_pickT rfl rfl) ?_
            refine ws_n ?_
            exact x_meet (by repeat (first | exact trivial | refine ⟨rfl, ?_⟩)) ⟨_, rfl, HC, hl, hab, hb4, hb7, hb8, (by omega), ⟨fun h => by have h5 := of_decide_eq_true h; rintro ⟨_, _, h3⟩; rcases h3 with h3 | h3; exact absurd h3 (by omega); rw [habl, ← ex24] at h3; omega, fun h => ⟨q96, c5, .inr (by have h5 := of_decide_eq_false h; rw [habl, ← ex24]; omega)⟩⟩⟩
           ·
            have q105 := of_decide_eq_false q105
            refine ws_s rfl (gd_ rfl rfl rfl rfl rfl rfl) rfl rfl ?_
            refine ws_s rfl (gd_ rfl rfl rfl rfl rfl rfl) rfl rfl ?_
            refine ws_s rfl (gd_ rfl rfl rfl rfl rfl rfl) rfl rfl ?_
            refine ws_s rfl (gd_ rfl rfl rfl rfl rfl rfl) rfl rfl ?_
            refine ws_s rfl (gd_ rfl rfl rfl rfl rfl rfl) rfl rfl ?_
            refine ws_s rfl (gd_ rfl rfl rfl rfl rfl rfl) rfl rfl ?_
            refine ws_s rfl (gd_ rfl rfl rfl rfl rfl rfl) rfl rfl ?_
            refine ws_s rfl (gd_ rfl rfl rfl rfl rfl rfl) rfl rfl ?_
            refine ws_s rfl (gd_ rfl rfl rfl rfl rfl rfl) rfl rfl ?_
            refine ws_p rfl rfl rfl rfl (p_pickF rfl rfl) ?_
            refine ws_n ?_
            exact x_meet (by repeat (first | exact trivial | refine ⟨rfl, ?_⟩)) ⟨_, rfl, HC, hl, hab, hb4, hb7, hb8, (by omega), ⟨fun h => absurd h (by simp), fun _ => ⟨q96, c5, .inl (by omega)⟩⟩⟩
          ·
           rintro _ w25 ⟨qx, rfl, HC, hl, hab, hb4, hb7, hb8, hgo, hq⟩
           have hzw25 := HC.size
           refine wc_if rfl (fun c6 => ?_) (fun c6 => ?_)
           ·
            have hnris := hq.1 c6
            refine wc_seq ?_
            refine wc_region ?_
            refine wl rfl rfl rfl (p_ldH (L := (List.replicate 32 (0 : UInt8))) Tryd.underlying38 sz38 (List.length_replicate ..) rfl (fun _ e => e ▸ rngL hb7)) ?_
            refine wle rfl (e_stH sz38 (List.length_replicate ..) (List.length_replicate ..) rfl rfl hb4 (fun w26 hb4 hc hsz => ?_))
            have hzw26 := hc.size
            have HC := HC.trans hc (fun _ _ h => h) (fun k hk ht => absurd ht (by omega))
            first | have hl := hl.ch hc (by intro k hk ht; omega) | have hl := hl.chT hc (by intro k hz hk ht; omega)
            have hab := hab.ch hc (by intro k hk ht; omega)
            have hb7 := hb7.ch hc (by omega)
            have hb8 := hb8.ch hc (by omega)
            refine wl rfl rfl rfl (p_as rfl) ?_
            refine wl rfl rfl rfl (p_as rfl) ?_
            refine wl_nil ?_
            refine x_seq ?_
            refine wc_ret ?_
            refine x_then_ret ?_
            refine x_in_ret ?_
            refine x_then_ret ?_
            refine fin_run (resMany (rs := [.cell 4 38, .tmp 5, .tmp 6]) rfl (.cellA (cs := List.map u8v (List.replicate 32 (0 : UInt8))) rfl Tryd.underlying38 rfl (szL sz38 (by rw [List.length_map]; exact (List.length_replicate ..))) (rngL hb4) (.tmp rfl (.tmp rfl (.nil)))) rfl) ?_
            have hkz : x5.key = zeroH ∧ x5.val = zeroH := ⟨by have h := q85; simp at h; exact h, by have h := q91; simp at h; exact h⟩
            exact ⟨_, _, _, _, _, _, rfl, SI.nil, (by rw [hlx]; exact PR.to_nil (PR.fork_no q79 (fun h => hnris h.2.2)) zeroH_len), HC⟩
           ·
            have hris := hq.2 c6
            refine wc_skip ?_
            refine x_seq ?_
            refine wc_cut (fun e w' => ∃ (g12 : Nat) (h128 : H8) (A128 : Option Addr) (l128 : Nat) (c128 : Nat) (r128 : List ND) (ok128 : Bool), e = [(0, .slice Al ll cl), (1, .slice Ab lb cb), (4, .pointer (some ⟨g4, 0, none⟩)), (7, .pointer (some ⟨g7, 0, none⟩)), (8, .pointer (some ⟨g8, 0, none⟩)), (12, .pointer (some ⟨g12, 0, none⟩)), (13, .slice A128 l128 c128), (14, .bool ok128)] ∧ (Ch No w w') ∧ (SI w' (fun k => Fl k ∧ k < w.heap.size) eND Al ll cl l) ∧ (SI w' (fun k => k < w.heap.size) eTN Ab lb cb ab) ∧ (Blk w' g4 38 (List.map u8v (List.replicate 32 (0 : UInt8))).toArray) ∧ (Blk w' g7 38 (List.map u8v (List.replicate 32 (0 : UInt8))).toArray) ∧ (Blk w' g8 117 (([i64 x5.kind, i64 x5.bit] ++ ((List.map u8v x5.key) ++ (List.map u8v x5.val))) : List Value).toArray) ∧ (w.heap.size ≤ g4 ∧ g4 < g7 ∧ g7 < g8) ∧ (Blk w' g12 38 (List.map u8v h128).toArray) ∧ (SI w' (fun k => Fl k ∧ k < w.heap.size) eND A128 l128 c128 r128) ∧ (PR (ab ++ [⟨x5.bit, 0⟩]) r false h128 r128 (!ok128)) ∧ (g8 < g12)) ?_ ?_
            ·
             refine wc_draw (.st 0 0 (.st 1 0 (.st 3 0 (.st 5 0 (.st 6 1 (.st 7 0 (.alt (.st 2 2 (.alt (.st 4 2 (.alt (.st 8 2 (.alt (.st 9 2 (.alt (.st 10 2 (.st 11 0 (.st 12 0 (.st 13 0 (.st 14 0 (.st 15 2 (.st 16 3 (.st 17 0 (.st 18 0 .nil))))))))) (.st 15 2 (.st 10 2 (.st 11 0 (.st 12 0 (.st 13 0 (.st 14 0 (.st 16 3 (.st 17 0 (.st 18 0 .nil))))))))))) (.st 15 2 (.st 9 2 (.st 10 2 (.st 11 0 (.st 12 0 (.st 13 0 (.st 14 0 (.st 16 3 (.st 17 0 (.st 18 0 .nil)))))))))))) (.st 15 2 (.st 8 2 (.st 9 2 (.st 10 2 (.st 11 0 (.st 12 0 (.st 13 0 (.st 14 0 (.st 16 3 (.st 17 0 (.st 18 0 .nil))))))))))))) (.alt (.st 8 2 (.alt (.st 4 2 (.alt (.st 9 2 (.alt (.st 10 2 (.st 11 0 (.st 12 0 (.st 13 0 (.st 14 0 (.st 15 2 (.st 16 3 (.st 17 0 (.st 18 0 .nil))))))))) (.st 15 2 (.st 10 2 (.st 11 0 (.st 12 0 (.st 13 0 (.st 14 0 (.st 16 3 (.st 17 0 (.st 18 0 .nil))))))))))) (.st 15 2 (.st 9 2 (.st 10 2 (.st 11 0 (.st 12 0 (.st 13 0 (.st 14 0 (.st 16 3 (.st 17 0 (.st 18 0 .nil)))))))))))) (.st 15 2 (.st 4 2 (.st 9 2 (.st 10 2 (.st 11 0 (.st 12 0 (.st 13 0 (.st 14 0 (.st 16 3 (.st 17 0 (.st 18 0 .nil))))))))))))) (.st 15 2 (.alt (.st 4 2 (.st 8 2 (.st 9 2 (.st 10 2 (.st 11 0 (.st 12 0 (.st 13 0 (.st 14 0 (.st 16 3 (.st 17 0 (.st 18 0 .nil))))))))))) (.st 8 2 (.st 4 2 (.st 9 2 (.st 10 2 (.st 11 0 (.st 12 0 (.st 13 0 (.st 14 0 (.st 16 3 (.st 17 0 (.st 18 0 .nil)))))))))))))))) (.alt (.st 8 2 (.alt (.st 2 2 (.alt (.st 4 2 (.alt (.st 9 2 (.alt (.st 10 2 (.st 11 0 (.st 12 0 (.st 13 0 (.st 14 0 (.st 15 2 (.st 16 3 (.st 17 0 (.st 18 0 .nil))))))))) (.st 15 2 (.st 10 2 (.st 11 0 (.st 12 0 (.st 13 0 (.st 14 0 (.st 16 3 (.st 17 0 (.st 18 0 .nil))))))))))) (.st 15 2 (.st 9 2 (.st 10 2 (.st 11 0 (.st 12 0 (.st 13 0 (.st 14 0 (.st 16 3 (.st 17 0 (.st 18 0 .nil)))))))))))) (.st 15 2 (.st 4 2 (.st 9 2 (.st 10 2 (.st 11 0 (.st 12 0 (.st 13 0 (.st 14 0 (.st 16 3 (.st 17 0 (.st 18 0 .nil))))))))))))) (.st 15 2 (.st 2 2 (.st 4 2 (.st 9 2 (.st 10 2 (.st 11 0 (.st 12 0 (.st 13 0 (.st 14 0 (.st 16 3 (.st 17 0 (.st 18 0 .nil)))))))))))))) (.st 15 2 (.alt (.st 2 2 (.alt (.st 4 2 (.st 8 2 (.st 9 2 (.st 10 2 (.st 11 0 (.st 12 0 (.st 13 0 (.st 14 0 (.st 16 3 (.st 17 0 (.st 18 0 .nil))))))))))) (.st 8 2 (.st 4 2 (.st 9 2 (.st 10 2 (.st 11 0 (.st 12 0 (.st 13 0 (.st 14 0 (.st 16 3 (.st 17 0 (.st 18 0 .nil))))))))))))) (.st 8 2 (.st 2 2 (.st 4 2 (.st 9 2 (.st 10 2 (.st 11 0 (.st 12 0 (.st 13 0 (.st 14 0 (.st 16 3 (.st 17 0 (.st 18 0 .nil)))))))))))))))))))))) 16 (by kernel_rfl) (by kernel_rfl) (by kernel_rfl) (by repeat (first | with_reducible exact pan_body | with_reducible apply pan_then | with_reducible apply pan_in)) (fun z => Ch (No) w25.drew z) (Ch.refl _ _) ?_
             obtain ⟨w27, ew27⟩ : ∃ x, x = w25.drew := ⟨_, rfl⟩
             rw [← ew27]
             have hc : Ch No w25 w27 := by rw [ew27]; exact Ch.drew _
             have hszw27 : w27.heap.size = w25.heap.size := by rw [ew27]; rfl
             clear ew27
             have hzw27 := hc.size
             have HC := HC.tr hc
             have hl := hl.no hc
             have hab := hab.no hc
             have hb4 := hb4.ch hc (fun h => h)
             have hb7 := hb7.ch hc (fun h => h)
             have hb8 := hb8.ch hc (fun h => h)
             have hS : Ch (No) w27 w27 := Ch.refl _ _
             have hlt8_ := hb8.lt
             refine ws_p rfl rfl rfl rfl (p_mv rfl) ?_
             have hr := hl.cutTo (lo := 1) (by omega)
             rw [← hr0] at hr
             refine ws_p rfl rfl rfl rfl (p_slS (l := 1) (h := ll) Tryd.underlying31 sz117 rfl ⟨_, rfl⟩ rfl (by omega) (by have := hl.cap; omega) hl.cap (q := ll - 1) (by omega)) ?_
             refine ws_p rfl rfl rfl rfl (p_mv rfl) ?_
             refine ws_p rfl rfl rfl rfl (p_fld (j := 1) Tryd.underlying117 rfl ⟨_, by rfl⟩ rfl rfl) ?_
             refine ws_h rfl rfl rfl rfl (p_ld Tryd.underlying3 rfl rfl (fun _ h => h.cell (fun h => h) (cell_at (p := ([i64 x5.kind] : List Value)) (v := (i64 x5.bit : Value)) (r := (((List.map u8v x5.key) ++ (List.map u8v x5.val)) : List Value)) hb8 (by simp only [List.append_assoc, List.cons_append, List.nil_append, List.append_nil]) (by first | rfl | (simp only [List.length_append, List.length_map, List.length_cons, List.length_nil]; done) | (simp only [List.length_append, List.length_map, List.length_cons, List.length_nil, List.size_toArray]; done))))) ?_
             refine ws_p rfl rfl rfl rfl (p_bldX (vs' := [i64 x5.bit, .int .i64 (0)]) (cs := ([i64 x5.bit, .int .i64 (0)] : List Value)) (cs' := ([i64 x5.bit, .int .i64 (0)] : List Value)) rfl rfl rfl (fun _ => by kernel_rfl)) ?_
             refine ws_alt ?_ ?_
             ·
              refine ws_e rfl rfl (e_bsl (cs := #[]) (E := 190) rfl rfl (fun _ => by kernel_rfl) (fun w28 g120 hg120 hb120 hc hsz120 => ⟨hS.tr hc, ?_⟩))
              have hzw28 := hc.size
              have hab := hab.no hc
              have hge120 : w.heap.size ≤ g120 := by have := HC.size; omega
              have hW120 := RI.lit0 (E := eTN) hb120
              have hS := hS.tr hc
              refine ws_alt ?_ ?_
              ·
               refine ws_e rfl rfl (e_appI rfl el188 rfl rfl hW120 (hab) (by omega) (by intro k hk; first | omega | (dsimp only at *; omega)) (fun w29 A122 c122 hW120 hc => ⟨(hS.nw hc (by intro k hk ht; omega)), ?_⟩))
               have hzw29 := hc.size
               have hab := hab.ch hc (by intro k hk ht; omega)
               have hS := (hS.nw hc (by intro k hk ht; omega))
               refine ws_alt ?_ ?_
               ·
                refine ws_e rfl rfl (e_bslX (E := 190) (cs := ([i64 x5.bit, .int .i64 (0)] : List Value)) (cs' := ([i64 x5.bit, .int .i64 (0)] : List Value)) rfl rfl rfl (fun _ => by kernel_rfl) (fun w30 g126 hg126 hb126 hc hsz126 => ⟨hS.tr hc, ?_⟩))
                have hzw30 := hc.size
                have hab := hab.no hc
                have hW120 := hW120.after hc
                have hge126 := hg126
                have hS126 := SI.oneA (E := eTN) (x := ⟨x5.bit, (0)⟩) hb126 rfl trivial
                have hS := hS.tr hc
                refine ws_alt ?_ ?_
                ·
                 refine ws_e rfl rfl (e_appI rfl el188 rfl rfl hW120 (hS126) (by omega) (by intro k hk; first | omega | (dsimp only at *; omega)) (fun w31 A127 c127 hW120 hc => ⟨(hS.nw hc (by intro k hk ht; omega)), ?_⟩))
                 have hzw31 := hc.size
                 have hab := hab.ch hc (by intro k hk ht; omega)
                 first | have hS126 := hS126.ch hc (by intro k hk ht; omega) | have hS126 := hS126.chT hc (by intro k hz hk ht; omega)
                 have hS := (hS.nw hc (by intro k hk ht; omega))
                 refine ws_alt ?_ ?_
                 ·
                  refine ws_e rfl rfl (e_call ent89 rfl rfl (IH (n - 1) (by omega) (by omega) (hr.no hS) (hW120.si) (by omega) (by omega)) ?_)
                  rintro _ w32 ⟨h128, A128, l128, c128, r128, ok128, rfl, hr128, hpr128, hc⟩
                  refine ⟨_, rfl, hS.tr hc, ?_⟩
                  have hzw32 := hc.size
                  have hab := hab.no hc
                  have hW120 := hW120.after hc
                  have hS126 := hS126.no hc
                  have hS := hS.tr hc
                  refine ws_p rfl rfl rfl rfl (p_mv rfl) ?_
                  refine ws_p rfl rfl rfl rfl (p_ext rfl rfl) ?_
                  refine ws_p rfl rfl rfl rfl (p_ext rfl rfl) ?_
                  refine ws_p rfl rfl rfl rfl (p_ext rfl rfl) ?_
                  refine ws_e rfl rfl (e_alloc (cs := ((List.replicate 32 (0 : UInt8)).map u8v).toArray) rfl (by rfl) rfl (fun w33 g12 hg12 hb12 hc hsz12 => ⟨hS.tr hc, ?_⟩))
                  have hzw33 := hc.size
                  have hab := hab.no hc
                  have hW120 := hW120.after hc
                  have hS126 := hS126.no hc
                  have hr128 := hr128.no hc
                  have hge12 : w.heap.size ≤ g12 := by have := HC.size; omega
                  have hS := hS.tr hc
                  refine ws_l rfl rfl (e_stH sz38 (List.length_replicate ..) hpr128.len rfl rfl hb12 (fun w34 hb12 hc hsz => ?_))
                  have hzw34 := hc.size
                  have hab := hab.ch hc (by intro k hk ht; omega)
                  have hW120 := hW120.ch hc (by intro k hz hk ht; omega)
                  first | have hS126 := hS126.ch hc (by intro k hk ht; omega) | have hS126 := hS126.chT hc (by intro k hz hk ht; omega)
                  first | have hr128 := hr128.ch hc (by intro k hk ht; omega) | have hr128 := hr128.chT hc (by intro k hz hk ht; omega)
                  have hS := (hS.nw hc (by intro k hk ht; omega))
                  refine ws_p rfl rfl rfl rfl (p_as rfl) ?_
                  refine ws_p rfl rfl rfl rfl (p_as rfl) ?_
                  refine ws_n ?_
                  exact x_meet (by repeat (first | exact trivial | refine ⟨rfl, ?_⟩)) ⟨g12, h128, A128, l128, c128, r128, ok128, rfl, HC.tr hS, hl.no hS, hab, hb4.ch hS (fun h => h), hb7.ch hS (fun h => h), hb8.ch hS (fun h => h), (by omega), hb12, hr128, hpr128, (by omega)⟩
                 ·
                  refine ws_e rfl rfl (e_alloc (cs := ((List.replicate 32 (0 : UInt8)).map u8v).toArray) rfl (by rfl) rfl (fun w35 g12 hg12 hb12 hc hsz12 => ⟨hS.tr hc, ?_⟩))
                  have hzw35 := hc.size
                  have hab := hab.no hc
                  have hW120 := hW120.after hc
                  have hS126 := hS126.no hc
                  have hge12 : w.heap.size ≤ g12 := by have := HC.size; omega
                  have hS := hS.tr hc
                  refine ws_e rfl rfl (e_call ent89 rfl rfl (IH (n - 1) (by omega) (by omega) (hr.no hS) (hW120.si) (by omega) (by omega)) ?_)
                  rintro _ w36 ⟨h128, A128, l128, c128, r128, ok128, rfl, hr128, hpr128, hc⟩
                  refine ⟨_, rfl, hS.tr hc, ?_⟩
                  have hzw36 := hc.size
                  have hab := hab.no hc
                  have hW120 := hW120.after hc
                  have hS126 := hS126.no hc
                  have hb12 := hb12.ch hc (fun h => h)
                  have hS := hS.tr hc
                  refine ws_p rfl rfl rfl rfl (p_mv rfl) ?_
                  refine ws_p rfl rfl rfl rfl (p_ext rfl rfl) ?_
                  refine ws_p rfl rfl rfl rfl (p_ext rfl rfl) ?_
                  refine ws_p rfl rfl rfl rfl (p_ext rfl rfl) ?_
                  refine ws_l rfl rfl (e_stH sz38 (List.length_replicate ..) hpr128.len rfl rfl hb12 (fun w37 hb12 hc hsz => ?_))
                  have hzw37 := hc.size
                  have hab := hab.ch hc (by intro k hk ht; omega)
                  have hW120 := hW120.ch hc (by intro k hz hk ht; omega)
                  first | have hS126 := hS126.ch hc (by intro k hk ht; omega) | have hS126 := hS126.chT hc (by intro k hz hk ht; omega)
                  first | have hr128 := hr128.ch hc (by intro k hk ht; omega) | have hr128 := hr128.chT hc (by intro k hz hk ht; omega)
                  have hS := (hS.nw hc (by intro k hk ht; omega))
                  refine ws_p rfl rfl rfl rfl (p_as rfl) ?_
                  refine ws_p rfl rfl rfl rfl (p_as rfl) ?_
                  refine ws_n ?_
                  exact x_meet (by repeat (first | exact trivial | refine ⟨rfl, ?_⟩)) ⟨g12, h128, A128, l128, c128, r128, ok128, rfl, HC.tr hS, hl.no hS, hab, hb4.ch hS (fun h => h), hb7.ch hS (fun h => h), hb8.ch hS (fun h => h), (by omega), hb12, hr128, hpr128, (by omega)⟩
                ·
                 refine ws_e rfl rfl (e_alloc (cs := ((List.replicate 32 (0 : UInt8)).map u8v).toArray) rfl (by rfl) rfl (fun w38 g12 hg12 hb12 hc hsz12 => ⟨hS.tr hc, ?_⟩))
                 have hzw38 := hc.size
                 have hab := hab.no hc
                 have hW120 := hW120.after hc
                 have hS126 := hS126.no hc
                 have hge12 : w.heap.size ≤ g12 := by have := HC.size; omega
                 have hS := hS.tr hc
                 have hltg12 := hb12.lt
                 refine ws_e rfl rfl (e_appI rfl el188 rfl rfl hW120 (hS126) (by omega) (by intro k hk; first | omega | (dsimp only at *; omega)) (fun w39 A127 c127 hW120 hc => ⟨(hS.nw hc (by intro k hk ht; omega)), ?_⟩))
                 have hzw39 := hc.size
                 have hab := hab.ch hc (by intro k hk ht; omega)
                 first | have hS126 := hS126.ch hc (by intro k hk ht; omega) | have hS126 := hS126.chT hc (by intro k hz hk ht; omega)
                 have hb12 := hb12.ch hc (by omega)
                 have hS := (hS.nw hc (by intro k hk ht; omega))
                 refine ws_e rfl rfl (e_call ent89 rfl rfl (IH (n - 1) (by omega) (by omega) (hr.no hS) (hW120.si) (by omega) (by omega)) ?_)
                 rintro _ w40 ⟨h128, A128, l128, c128, r128, ok128, rfl, hr128, hpr128, hc⟩
                 refine ⟨_, rfl, hS.tr hc, ?_⟩
                 have hzw40 := hc.size
                 have hab := hab.no hc
                 have hW120 := hW120.after hc
                 have hS126 := hS126.no hc
                 have hb12 := hb12.ch hc (fun h => h)
                 have hS := hS.tr hc
                 refine ws_p rfl rfl rfl rfl (p_mv rfl) ?_
                 refine ws_p rfl rfl rfl rfl (p_ext rfl rfl) ?_
                 refine ws_p rfl rfl rfl rfl (p_ext rfl rfl) ?_
                 refine ws_p rfl rfl rfl rfl (p_ext rfl rfl) ?_
                 refine ws_l rfl rfl (e_stH sz38 (List.length_replicate ..) hpr128.len rfl rfl hb12 (fun w41 hb12 hc hsz => ?_))
                 have hzw41 := hc.size
                 have hab := hab.ch hc (by intro k hk ht; omega)
                 have hW120 := hW120.ch hc (by intro k hz hk ht; omega)
                 first | have hS126 := hS126.ch hc (by intro k hk ht; omega) | have hS126 := hS126.chT hc (by intro k hz hk ht; omega)
                 first | have hr128 := hr128.ch hc (by intro k hk ht; omega) | have hr128 := hr128.chT hc (by intro k hz hk ht; omega)
                 have hS := (hS.nw hc (by intro k hk ht; omega))
                 refine ws_p rfl rfl rfl rfl (p_as rfl) ?_
                 refine ws_p rfl rfl rfl rfl (p_as rfl) ?_
                 refine ws_n ?_
                 exact x_meet (by repeat (first | exact trivial | refine ⟨rfl, ?_⟩)) ⟨g12, h128, A128, l128, c128, r128, ok128, rfl, HC.tr hS, hl.no hS, hab, hb4.ch hS (fun h => h), hb7.ch hS (fun h => h), hb8.ch hS (fun h => h), (by omega), hb12, hr128, hpr128, (by omega)⟩
               ·
                refine ws_e rfl rfl (e_alloc (cs := ((List.replicate 32 (0 : UInt8)).map u8v).toArray) rfl (by rfl) rfl (fun w42 g12 hg12 hb12 hc hsz12 => ⟨hS.tr hc, ?_⟩))
                have hzw42 := hc.size
                have hab := hab.no hc
                have hW120 := hW120.after hc
                have hge12 : w.heap.size ≤ g12 := by have := HC.size; omega
                have hS := hS.tr hc
                have hltg12 := hb12.lt
                refine ws_e rfl rfl (e_bslX (E := 190) (cs := ([i64 x5.bit, .int .i64 (0)] : List Value)) (cs' := ([i64 x5.bit, .int .i64 (0)] : List Value)) rfl rfl rfl (fun _ => by kernel_rfl) (fun w43 g126 hg126 hb126 hc hsz126 => ⟨hS.tr hc, ?_⟩))
                have hzw43 := hc.size
                have hab := hab.no hc
                have hW120 := hW120.after hc
                have hb12 := hb12.ch hc (fun h => h)
                have hge126 := hg126
                have hS126 := SI.oneA (E := eTN) (x := ⟨x5.bit, (0)⟩) hb126 rfl trivial
                have hS := hS.tr hc
                have hltg12 := hb12.lt
                refine ws_e rfl rfl (e_appI rfl el188 rfl rfl hW120 (hS126) (by omega) (by intro k hk; first | omega | (dsimp only at *; omega)) (fun w44 A127 c127 hW120 hc => ⟨(hS.nw hc (by intro k hk ht; omega)), ?_⟩))
                have hzw44 := hc.size
                have hab := hab.ch hc (by intro k hk ht; omega)
                have hb12 := hb12.ch hc (by omega)
                first | have hS126 := hS126.ch hc (by intro k hk ht; omega) | have hS126 := hS126.chT hc (by intro k hz hk ht; omega)
                have hS := (hS.nw hc (by intro k hk ht; omega))
                refine ws_e rfl rfl (e_call ent89 rfl rfl (IH (n - 1) (by omega) (by omega) (hr.no hS) (hW120.si) (by omega) (by omega)) ?_)
                rintro _ w45 ⟨h128, A128, l128, c128, r128, ok128, rfl, hr128, hpr128, hc⟩
                refine ⟨_, rfl, hS.tr hc, ?_⟩
                have hzw45 := hc.size
                have hab := hab.no hc
                have hW120 := hW120.after hc
                have hb12 := hb12.ch hc (fun h => h)
                have hS126 := hS126.no hc
                have hS := hS.tr hc
                refine ws_p rfl rfl rfl rfl (p_mv rfl) ?_
                refine ws_p rfl rfl rfl rfl (p_ext rfl rfl) ?_
                refine ws_p rfl rfl rfl rfl (p_ext rfl rfl) ?_
                refine ws_p rfl rfl rfl rfl (p_ext rfl rfl) ?_
                refine ws_l rfl rfl (e_stH sz38 (List.length_replicate ..) hpr128.len rfl rfl hb12 (fun w46 hb12 hc hsz => ?_))
                have hzw46 := hc.size
                have hab := hab.ch hc (by intro k hk ht; omega)
                have hW120 := hW120.ch hc (by intro k hz hk ht; omega)
                first | have hS126 := hS126.ch hc (by intro k hk ht; omega) | have hS126 := hS126.chT hc (by intro k hz hk ht; omega)
                first | have hr128 := hr128.ch hc (by intro k hk ht; omega) | have hr128 := hr128.chT hc (by intro k hz hk ht; omega)
                have hS := (hS.nw hc (by intro k hk ht; omega))
                refine ws_p rfl rfl rfl rfl (p_as rfl) ?_
                refine ws_p rfl rfl rfl rfl (p_as rfl) ?_
                refine ws_n ?_
                exact x_meet (by repeat (first | exact trivial | refine ⟨rfl, ?_⟩)) ⟨g12, h128, A128, l128, c128, r128, ok128, rfl, HC.tr hS, hl.no hS, hab, hb4.ch hS (fun h => h), hb7.ch hS (fun h => h), hb8.ch hS (fun h => h), (by omega), hb12, hr128, hpr128, (by omega)⟩
              ·
               refine ws_alt ?_ ?_
               ·
                refine ws_e rfl rfl (e_bslX (E := 190) (cs := ([i64 x5.bit, .int .i64 (0)] : List Value)) (cs' := ([i64 x5.bit, .int .i64 (0)] : List Value)) rfl rfl rfl (fun _ => by kernel_rfl) (fun w47 g126 hg126 hb126 hc hsz126 => ⟨hS.tr hc, ?_⟩))
                have hzw47 := hc.size
                have hab := hab.no hc
                have hW120 := hW120.after hc
                have hge126 := hg126
                have hS126 := SI.oneA (E := eTN) (x := ⟨x5.bit, (0)⟩) hb126 rfl trivial
                have hS := hS.tr hc
                refine ws_alt ?_ ?_
                ·
                 refine ws_e rfl rfl (e_appI rfl el188 rfl rfl hW120 (hab) (by omega) (by intro k hk; first | omega | (dsimp only at *; omega)) (fun w48 A122 c122 hW120 hc => ⟨(hS.nw hc (by intro k hk ht; omega)), ?_⟩))
                 have hzw48 := hc.size
                 have hab := hab.ch hc (by intro k hk ht; omega)
                 first | have hS126 := hS126.ch hc (by intro k hk ht; omega) | have hS126 := hS126.chT hc (by intro k hz hk ht; omega)
                 have hS := (hS.nw hc (by intro k hk ht; omega))
                 refine ws_alt ?_ ?_
                 ·
                  refine ws_e rfl rfl (e_appI rfl el188 rfl rfl hW120 (hS126) (by omega) (by intro k hk; first | omega | (dsimp only at *; omega)) (fun w49 A127 c127 hW120 hc => ⟨(hS.nw hc (by intro k hk ht; omega)), ?_⟩))
                  have hzw49 := hc.size
                  have hab := hab.ch hc (by intro k hk ht; omega)
                  first | have hS126 := hS126.ch hc (by intro k hk ht; omega) | have hS126 := hS126.chT hc (by intro k hz hk ht; omega)
                  have hS := (hS.nw hc (by intro k hk ht; omega))
                  refine ws_alt ?_ ?_
                  ·
                   refine ws_e rfl rfl (e_call ent89 rfl rfl (IH (n - 1) (by omega) (by omega) (hr.no hS) (hW120.si) (by omega) (by omega)) ?_)
                   rintro _ w50 ⟨h128, A128, l128, c128, r128, ok128, rfl, hr128, hpr128, hc⟩
                   refine ⟨_, rfl, hS.tr hc, ?_⟩
                   have hzw50 := hc.size
                   have hab := hab.no hc
                   have hW120 := hW120.after hc
                   have hS126 := hS126.no hc
                   have hS := hS.tr hc
                   refine ws_p rfl rfl rfl rfl (p_mv rfl) ?_
                   refine ws_p rfl rfl rfl rfl (p_ext rfl rfl) ?_
                   refine ws_p rfl rfl rfl rfl (p_ext rfl rfl) ?_
                   refine ws_p rfl rfl rfl rfl (p_ext rfl rfl) ?_
                   refine ws_e rfl rfl (e_alloc (cs := ((List.replicate 32 (0 : UInt8)).map u8v).toArray) rfl (by rfl) rfl (fun w51 g12 hg12 hb12 hc hsz12 => ⟨hS.tr hc, ?_⟩))
                   have hzw51 := hc.size
                   have hab := hab.no hc
                   have hW120 := hW120.after hc
                   have hS126 := hS126.no hc
                   have hr128 := hr128.no hc
                   have hge12 : w.heap.size ≤ g12 := by have := HC.size; omega
                   have hS := hS.tr hc
                   refine ws_l rfl rfl (e_stH sz38 (List.length_replicate ..) hpr128.len rfl rfl hb12 (fun w52 hb12 hc hsz => ?_))
                   have hzw52 := hc.size
                   have hab := hab.ch hc (by intro k hk ht; omega)
                   have hW120 := hW120.ch hc (by intro k hz hk ht; omega)
                   first | have hS126 := hS126.ch hc (by intro k hk ht; omega) | have hS126 := hS126.chT hc (by intro k hz hk ht; omega)
                   first | have hr128 := hr128.ch hc (by intro k hk ht; omega) | have hr128 := hr128.chT hc (by intro k hz hk ht; omega)
                   have hS := (hS.nw hc (by intro k hk ht; omega))
                   refine ws_p rfl rfl rfl rfl (p_as rfl) ?_
                   refine ws_p rfl rfl rfl rfl (p_as rfl) ?_
                   refine ws_n ?_
                   exact x_meet (by repeat (first | exact trivial | refine ⟨rfl, ?_⟩)) ⟨g12, h128, A128, l128, c128, r128, ok128, rfl, HC.tr hS, hl.no hS, hab, hb4.ch hS (fun h => h), hb7.ch hS (fun h => h), hb8.ch hS (fun h => h), (by omega), hb12, hr128, hpr128, (by omega)⟩
                  ·
                   refine ws_e rfl rfl (e_alloc (cs := ((List.replicate 32 (0 : UInt8)).map u8v).toArray) rfl (by rfl) rfl (fun w53 g12 hg12 hb12 hc hsz12 => ⟨hS.tr hc, ?_⟩))
                   have hzw53 := hc.size
                   have hab := hab.no hc
                   have hW120 := hW120.after hc
                   have hS126 := hS126.no hc
                   have hge12 : w.heap.size ≤ g12 := by have := HC.size; omega
                   have hS := hS.tr hc
                   refine ws_e rfl rfl (e_call ent89 rfl rfl (IH (n - 1) (by omega) (by omega) (hr.no hS) (hW120.si) (by omega) (by omega)) ?_)
                   rintro _ w54 ⟨h128, A128, l128, c128, r128, ok128, rfl, hr128, hpr128, hc⟩
                   refine ⟨_, rfl, hS.tr hc, ?_⟩
                   have hzw54 := hc.size
                   have hab := hab.no hc
                   have hW120 := hW120.after hc
                   have hS126 := hS126.no hc
                   have hb12 := hb12.ch hc (fun h => h)
                   have hS := hS.tr hc
                   refine ws_p rfl rfl rfl rfl (p_mv rfl) ?_
                   refine ws_p rfl rfl rfl rfl (p_ext rfl rfl) ?_
                   refine ws_p rfl rfl rfl rfl (p_ext rfl rfl) ?_
                   refine ws_p rfl rfl rfl rfl (p_ext rfl rfl) ?_
                   refine ws_l rfl rfl (e_stH sz38 (List.length_replicate ..) hpr128.len rfl rfl hb12 (fun w55 hb12 hc hsz => ?_))
                   have hzw55 := hc.size
                   have hab := hab.ch hc (by intro k hk ht; omega)
                   have hW120 := hW120.ch hc (by intro k hz hk ht; omega)
                   first | have hS126 := hS126.ch hc (by intro k hk ht; omega) | have hS126 := hS126.chT hc (by intro k hz hk ht; omega)
                   first | have hr128 := hr128.ch hc (by intro k hk ht; omega) | have hr128 := hr128.chT hc (by intro k hz hk ht; omega)
                   have hS := (hS.nw hc (by intro k hk ht; omega))
                   refine ws_p rfl rfl rfl rfl (p_as rfl) ?_
                   refine ws_p rfl rfl rfl rfl (p_as rfl) ?_
                   refine ws_n ?_
                   exact x_meet (by repeat (first | exact trivial | refine ⟨rfl, ?_⟩)) ⟨g12, h128, A128, l128, c128, r128, ok128, rfl, HC.tr hS, hl.no hS, hab, hb4.ch hS (fun h => h), hb7.ch hS (fun h => h), hb8.ch hS (fun h => h), (by omega), hb12, hr128, hpr128, (by omega)⟩
                 ·
                  refine ws_e rfl rfl (e_alloc (cs := ((List.replicate 32 (0 : UInt8)).map u8v).toArray) rfl (by rfl) rfl (fun w56 g12 hg12 hb12 hc hsz12 => ⟨hS.tr hc, ?_⟩))
                  have hzw56 := hc.size
                  have hab := hab.no hc
                  have hW120 := hW120.after hc
                  have hS126 := hS126.no hc
                  have hge12 : w.heap.size ≤ g12 := by have := HC.size; omega
                  have hS := hS.tr hc
                  have hltg12 := hb12.lt
                  refine ws_e rfl rfl (e_appI rfl el188 rfl rfl hW120 (hS126) (by omega) (by intro k hk; first | omega | (dsimp only at *; omega)) (fun w57 A127 c127 hW120 hc => ⟨(hS.nw hc (by intro k hk ht; omega)), ?_⟩))
                  have hzw57 := hc.size
                  have hab := hab.ch hc (by intro k hk ht; omega)
                  first | have hS126 := hS126.ch hc (by intro k hk ht; omega) | have hS126 := hS126.chT hc (by intro k hz hk ht; omega)
                  have hb12 := hb12.ch hc (by omega)
                  have hS := (hS.nw hc (by intro k hk ht; omega))
                  refine ws_e rfl rfl (e_call ent89 rfl rfl (IH (n - 1) (by omega) (by omega) (hr.no hS) (hW120.si) (by omega) (by omega)) ?_)
                  rintro _ w58 ⟨h128, A128, l128, c128, r128, ok128, rfl, hr128, hpr128, hc⟩
                  refine ⟨_, rfl, hS.tr hc, ?_⟩
                  have hzw58 := hc.size
                  have hab := hab.no hc
                  have hW120 := hW120.after hc
                  have hS126 := hS126.no hc
                  have hb12 := hb12.ch hc (fun h => h)
                  have hS := hS.tr hc
                  refine ws_p rfl rfl rfl rfl (p_mv rfl) ?_
                  refine ws_p rfl rfl rfl rfl (p_ext rfl rfl) ?_
                  refine ws_p rfl rfl rfl rfl (p_ext rfl rfl) ?_
                  refine ws_p rfl rfl rfl rfl (p_ext rfl rfl) ?_
                  refine ws_l rfl rfl (e_stH sz38 (List.length_replicate ..) hpr128.len rfl rfl hb12 (fun w59 hb12 hc hsz => ?_))
                  have hzw59 := hc.size
                  have hab := hab.ch hc (by intro k hk ht; omega)
                  have hW120 := hW120.ch hc (by intro k hz hk ht; omega)
                  first | have hS126 := hS126.ch hc (by intro k hk ht; omega) | have hS126 := hS126.chT hc (by intro k hz hk ht; omega)
                  first | have hr128 := hr128.ch hc (by intro k hk ht; omega) | have hr128 := hr128.chT hc (by intro k hz hk ht; omega)
                  have hS := (hS.nw hc (by intro k hk ht; omega))
                  refine ws_p rfl rfl rfl rfl (p_as rfl) ?_
                  refine ws_p rfl rfl rfl rfl (p_as rfl) ?_
                  refine ws_n ?_
                  exact x_meet (by repeat (first | exact trivial | refine ⟨rfl, ?_⟩)) ⟨g12, h128, A128, l128, c128, r128, ok128, rfl, HC.tr hS, hl.no hS, hab, hb4.ch hS (fun h => h), hb7.ch hS (fun h => h), hb8.ch hS (fun h => h), (by omega), hb12, hr128, hpr128, (by omega)⟩
                ·
                 refine ws_e rfl rfl (e_alloc (cs := ((List.replicate 32 (0 : UInt8)).map u8v).toArray) rfl (by rfl) rfl (fun w60 g12 hg12 hb12 hc hsz12 => ⟨hS.tr hc, ?_⟩))
                 have hzw60 := hc.size
                 have hab := hab.no hc
                 have hW120 := hW120.after hc
                 have hS126 := hS126.no hc
                 have hge12 : w.heap.size ≤ g12 := by have := HC.size; omega
                 have hS := hS.tr hc
                 have hltg12 := hb12.lt
                 refine ws_e rfl rfl (e_appI rfl el188 rfl rfl hW120 (hab) (by omega) (by intro k hk; first | omega | (dsimp only at *; omega)) (fun w61 A122 c122 hW120 hc => ⟨(hS.nw hc (by intro k hk ht; omega)), ?_⟩))
                 have hzw61 := hc.size
                 have hab := hab.ch hc (by intro k hk ht; omega)
                 first | have hS126 := hS126.ch hc (by intro k hk ht; omega) | have hS126 := hS126.chT hc (by intro k hz hk ht; omega)
                 have hb12 := hb12.ch hc (by omega)
                 have hS := (hS.nw hc (by intro k hk ht; omega))
                 have hltg12 := hb12.lt
                 refine ws_e rfl rfl (e_appI rfl el188 rfl rfl hW120 (hS126) (by omega) (by intro k hk; first | omega | (dsimp only at *; omega)) (fun w62 A127 c127 hW120 hc => ⟨(hS.nw hc (by intro k hk ht; omega)), ?_⟩))
                 have hzw62 := hc.size
                 have hab := hab.ch hc (by intro k hk ht; omega)
                 first | have hS126 := hS126.ch hc (by intro k hk ht; omega) | have hS126 := hS126.chT hc (by intro k hz hk ht; omega)
                 have hb12 := hb12.ch hc (by omega)
                 have hS := (hS.nw hc (by intro k hk ht; omega))
                 refine ws_e rfl rfl (e_call ent89 rfl rfl (IH (n - 1) (by omega) (by omega) (hr.no hS) (hW120.si) (by omega) (by omega)) ?_)
                 rintro _ w63 ⟨h128, A128, l128, c128, r128, ok128, rfl, hr128, hpr128, hc⟩
                 refine ⟨_, rfl, hS.tr hc, ?_⟩
                 have hzw63 := hc.size
                 have hab := hab.no hc
                 have hW120 := hW120.after hc
                 have hS126 := hS126.no hc
                 have hb12 := hb12.ch hc (fun h => h)
                 have hS := hS.tr hc
                 refine ws_p rfl rfl rfl rfl (p_mv rfl) ?_
                 refine ws_p rfl rfl rfl rfl (p_ext rfl rfl) ?_
                 refine ws_p rfl rfl rfl rfl (p_ext rfl rfl) ?_
                 refine ws_p rfl rfl rfl rfl (p_ext rfl rfl) ?_
                 refine ws_l rfl rfl (e_stH sz38 (List.length_replicate ..) hpr128.len rfl rfl hb12 (fun w65 hb12 hc hsz => ?_))
                 have hzw65 := hc.size
                 have hab := hab.ch hc (by intro k hk ht; omega)
                 have hW120 := hW120.ch hc (by intro k hz hk ht; omega)
                 first | have hS126 := hS126.ch hc (by intro k hk ht; omega) | have hS126 := hS126.chT hc (by intro k hz hk ht; omega)
                 first | have hr128 := hr128.ch hc (by intro k hk ht; omega) | have hr128 := hr128.chT hc (by intro k hz hk ht; omega)
                 have hS := (hS.nw hc (by intro k hk ht; omega))
                 refine ws_p rfl rfl rfl rfl (p_as rfl) ?_
                 refine ws_p rfl rfl rfl rfl (p_as rfl) ?_
                 refine ws_n ?_
                 exact x_meet (by repeat (first | exact trivial | refine ⟨rfl, ?_⟩)) ⟨g12, h128, A128, l128, c128, r128, ok128, rfl, HC.tr hS, hl.no hS, hab, hb4.ch hS (fun h => h), hb7.ch hS (fun h => h), hb8.ch hS (fun h => h), (by omega), hb12, hr128, hpr128, (by omega)⟩
               ·
                refine ws_e rfl rfl (e_alloc (cs := ((List.replicate 32 (0 : UInt8)).map u8v).toArray) rfl (by rfl) rfl (fun w66 g12 hg12 hb12 hc hsz12 => ⟨hS.tr hc, ?_⟩))
                have hzw66 := hc.size
                have hab := hab.no hc
                have hW120 := hW120.after hc
                have hge12 : w.heap.size ≤ g12 := by have := HC.size; omega
                have hS := hS.tr hc
                refine ws_alt ?_ ?_
                ·
                 have hltg12 := hb12.lt
                 refine ws_e rfl rfl (e_appI rfl el188 rfl rfl hW120 (hab) (by omega) (by intro k hk; first | omega | (dsimp only at *; omega)) (fun w67 A122 c122 hW120 hc => ⟨(hS.nw hc (by intro k hk ht; omega)), ?_⟩))
                 have hzw67 := hc.size
                 have hab := hab.ch hc (by intro k hk ht; omega)
                 have hb12 := hb12.ch hc (by omega)
                 have hS := (hS.nw hc (by intro k hk ht; omega))
                 have hltg12 := hb12.lt
                 refine ws_e rfl rfl (e_bslX (E := 190) (cs := ([i64 x5.bit, .int .i64 (0)] : List Value)) (cs' := ([i64 x5.bit, .int .i64 (0)] : List Value)) rfl rfl rfl (fun _ => by kernel_rfl) (fun w68 g126 hg126 hb126 hc hsz126 => ⟨hS.tr hc, ?_⟩))
                 have hzw68 := hc.size
                 have hab := hab.no hc
                 have hW120 := hW120.after hc
                 have hb12 := hb12.ch hc (fun h => h)
                 have hge126 := hg126
                 have hS126 := SI.oneA (E := eTN) (x := ⟨x5.bit, (0)⟩) hb126 rfl trivial
                 have hS := hS.tr hc
                 have hltg12 := hb12.lt
                 refine ws_e rfl rfl (e_appI rfl el188 rfl rfl hW120 (hS126) (by omega) (by intro k hk; first | omega | (dsimp only at *; omega)) (fun w69 A127 c127 hW120 hc => ⟨(hS.nw hc (by intro k hk ht; omega)), ?_⟩))
                 have hzw69 := hc.size
                 have hab := hab.ch hc (by intro k hk ht; omega)
                 have hb12 := hb12.ch hc (by omega)
                 first | have hS126 := hS126.ch hc (by intro k hk ht; omega) | have hS126 := hS126.chT hc (by intro k hz hk ht; omega)
                 have hS := (hS.nw hc (by intro k hk ht; omega))
                 refine ws_e rfl rfl (e_call ent89 rfl rfl (IH (n - 1) (by omega) (by omega) (hr.no hS) (hW120.si) (by omega) (by omega)) ?_)
                 rintro _ w70 ⟨h128, A128, l128, c128, r128, ok128, rfl, hr128, hpr128, hc⟩
                 refine ⟨_, rfl, hS.tr hc, ?_⟩
                 have hzw70 := hc.size
                 have hab := hab.no hc
                 have hW120 := hW120.after hc
                 have hb12 := hb12.ch hc (fun h => h)
                 have hS126 := hS126.no hc
                 have hS := hS.tr hc
                 refine ws_p rfl rfl rfl rfl (p_mv rfl) ?_
                 refine ws_p rfl rfl rfl rfl (p_ext rfl rfl) ?_
                 refine ws_p rfl rfl rfl rfl (p_ext rfl rfl) ?_
                 refine ws_p rfl rfl rfl rfl (p_ext rfl rfl) ?_
                 refine ws_l rfl rfl (e_stH sz38 (List.length_replicate ..) hpr128.len rfl rfl hb12 (fun w71 hb12 hc hsz => ?_))
                 have hzw71 := hc.size
                 have hab := hab.ch hc (by intro k hk ht; omega)
                 have hW120 := hW120.ch hc (by intro k hz hk ht; omega)
                 first | have hS126 := hS126.ch hc (by intro k hk ht; omega) | have hS126 := hS126.chT hc (by intro k hz hk ht; omega)
                 first | have hr128 := hr128.ch hc (by intro k hk ht; omega) | have hr128 := hr128.chT hc (by intro k hz hk ht; omega)
                 have hS := (hS.nw hc (by intro k hk ht; omega))
                 refine ws_p rfl rfl rfl rfl (p_as rfl) ?_
                 refine ws_p rfl rfl rfl rfl (p_as rfl) ?_
                 refine ws_n ?_
                 exact x_meet (by repeat (first | exact trivial | refine ⟨rfl, ?_⟩)) ⟨g12, h128, A128, l128, c128, r128, ok128, rfl, HC.tr hS, hl.no hS, hab, hb4.ch hS (fun h => h), hb7.ch hS (fun h => h), hb8.ch hS (fun h => h), (by omega), hb12, hr128, hpr128, (by omega)⟩
                ·
                 have hltg12 := hb12.lt
                 refine ws_e rfl rfl (e_bslX (E := 190) (cs := ([i64 x5.bit, .int .i64 (0)] : List Value)) (cs' := ([i64 x5.bit, .int .i64 (0)] : List Value)) rfl rfl rfl (fun _ => by kernel_rfl) (fun w72 g126 hg126 hb126 hc hsz126 => ⟨hS.tr hc, ?_⟩))
                 have hzw72 := hc.size
                 have hab := hab.no hc
                 have hW120 := hW120.after hc
                 have hb12 := hb12.ch hc (fun h => h)
                 have hge126 := hg126
                 have hS126 := SI.oneA (E := eTN) (x := ⟨x5.bit, (0)⟩) hb126 rfl trivial
                 have hS := hS.tr hc
                 have hltg12 := hb12.lt
                 refine ws_e rfl rfl (e_appI rfl el188 rfl rfl hW120 (hab) (by omega) (by intro k hk; first | omega | (dsimp only at *; omega)) (fun w73 A122 c122 hW120 hc => ⟨(hS.nw hc (by intro k hk ht; omega)), ?_⟩))
                 have hzw73 := hc.size
                 have hab := hab.ch hc (by intro k hk ht; omega)
                 have hb12 := hb12.ch hc (by omega)
                 first | have hS126 := hS126.ch hc (by intro k hk ht; omega) | have hS126 := hS126.chT hc (by intro k hz hk ht; omega)
                 have hS := (hS.nw hc (by intro k hk ht; omega))
                 have hltg12 := hb12.lt
                 refine ws_e rfl rfl (e_appI rfl el188 rfl rfl hW120 (hS126) (by omega) (by intro k hk; first | omega | (dsimp only at *; omega)) (fun w74 A127 c127 hW120 hc => ⟨(hS.nw hc (by intro k hk ht; omega)), ?_⟩))
                 have hzw74 := hc.size
                 have hab := hab.ch hc (by intro k hk ht; omega)
                 have hb12 := hb12.ch hc (by omega)
                 first | have hS126 := hS126.ch hc (by intro k hk ht; omega) | have hS126 := hS126.chT hc (by intro k hz hk ht; omega)
                 have hS := (hS.nw hc (by intro k hk ht; omega))
                 refine ws_e rfl rfl (e_call ent89 rfl rfl (IH (n - 1) (by omega) (by omega) (hr.no hS) (hW120.si) (by omega) (by omega)) ?_)
                 rintro _ w75 ⟨h128, A128, l128, c128, r128, ok128, rfl, hr128, hpr128, hc⟩
                 refine ⟨_, rfl, hS.tr hc, ?_⟩
                 have hzw75 := hc.size
                 have hab := hab.no hc
                 have hW120 := hW120.after hc
                 have hb12 := hb12.ch hc (fun h => h)
                 have hS126 := hS126.no hc
                 have hS := hS.tr hc
                 refine ws_p rfl rfl rfl rfl (p_mv rfl) ?_
                 refine ws_p rfl rfl rfl rfl (p_ext rfl rfl) ?_
                 refine ws_p rfl rfl rfl rfl (p_ext rfl rfl) ?_
                 refine ws_p rfl rfl rfl rfl (p_ext rfl rfl) ?_
                 refine ws_l rfl rfl (e_stH sz38 (List.length_replicate ..) hpr128.len rfl rfl hb12 (fun w76 hb12 hc hsz => ?_))
                 have hzw76 := hc.size
                 have hab := hab.ch hc (by intro k hk ht; omega)
                 have hW120 := hW120.ch hc (by intro k hz hk ht; omega)
                 first | have hS126 := hS126.ch hc (by intro k hk ht; omega) | have hS126 := hS126.chT hc (by intro k hz hk ht; omega)
                 first | have hr128 := hr128.ch hc (by intro k hk ht; omega) | have hr128 := hr128.chT hc (by intro k hz hk ht; omega)
                 have hS := (hS.nw hc (by intro k hk ht; omega))
                 refine ws_p rfl rfl rfl rfl (p_as rfl) ?_
                 refine ws_p rfl rfl rfl rfl (p_as rfl) ?_
                 refine ws_n ?_
                 exact x_meet (by repeat (first | exact trivial | refine ⟨rfl, ?_⟩)) ⟨g12, h128, A128, l128, c128, r128, ok128, rfl, HC.tr hS, hl.no hS, hab, hb4.ch hS (fun h => h), hb7.ch hS (fun h => h), hb8.ch hS (fun h => h), (by omega), hb12, hr128, hpr128, (by omega)⟩
             ·
              refine ws_alt ?_ ?_
              ·
               refine ws_e rfl rfl (e_bslX (E := 190) (cs := ([i64 x5.bit, .int .i64 (0)] : List Value)) (cs' := ([i64 x5.bit, .int .i64 (0)] : List Value)) rfl rfl rfl (fun _ => by kernel_rfl) (fun w77 g126 hg126 hb126 hc hsz126 => ⟨hS.tr hc, ?_⟩))
               have hzw77 := hc.size
               have hab := hab.no hc
               have hge126 := hg126
               have hS126 := SI.oneA (E := eTN) (x := ⟨x5.bit, (0)⟩) hb126 rfl trivial
               have hS := hS.tr hc
               refine ws_alt ?_ ?_
               ·
                refine ws_e rfl rfl (e_bsl (cs := #[]) (E := 190) rfl rfl (fun _ => by kernel_rfl) (fun w78 g120 hg120 hb120 hc hsz120 => ⟨hS.tr hc, ?_⟩))
                have hzw78 := hc.size
                have hab := hab.no hc
                have hS126 := hS126.no hc
                have hge120 : w.heap.size ≤ g120 := by have := HC.size; omega
                have hW120 := RI.lit0 (E := eTN) hb120
                have hS := hS.tr hc
                refine ws_alt ?_ ?_
                ·
                 refine ws_e rfl rfl (e_appI rfl el188 rfl rfl hW120 (hab) (by omega) (by intro k hk; first | omega | (dsimp only at *; omega)) (fun w79 A122 c122 hW120 hc => ⟨(hS.nw hc (by intro k hk ht; omega)), ?_⟩))
                 have hzw79 := hc.size
                 have hab := hab.ch hc (by intro k hk ht; omega)
                 first | have hS126 := hS126.ch hc (by intro k hk ht; omega) | have hS126 := hS126.chT hc (by intro k hz hk ht; omega)
                 have hS := (hS.nw hc (by intro k hk ht; omega))
                 refine ws_alt ?_ ?_
                 ·
                  refine ws_e rfl rfl (e_appI rfl el188 rfl rfl hW120 (hS126) (by omega) (by intro k hk; first | omega | (dsimp only at *; omega)) (fun w80 A127 c127 hW120 hc => ⟨(hS.nw hc (by intro k hk ht; omega)), ?_⟩))
                  have hzw80 := hc.size
                  have hab := hab.ch hc (by intro k hk ht; omega)
                  first | have hS126 := hS126.ch hc (by intro k hk ht; omega) | have hS126 := hS126.chT hc (by intro k hz hk ht; omega)
                  have hS := (hS.nw hc (by intro k hk ht; omega))
                  refine ws_alt ?_ ?_
                  ·
                   refine ws_e rfl rfl (e_call ent89 rfl rfl (IH (n - 1) (by omega) (by omega) (hr.no hS) (hW120.si) (by omega) (by omega)) ?_)
                   rintro _ w81 ⟨h128, A128, l128, c128, r128, ok128, rfl, hr128, hpr128, hc⟩
                   refine ⟨_, rfl, hS.tr hc, ?_⟩
                   have hzw81 := hc.size
                   have hab := hab.no hc
                   have hS126 := hS126.no hc
                   have hW120 := hW120.after hc
                   have hS := hS.tr hc
                   refine ws_p rfl rfl rfl rfl (p_mv rfl) ?_
                   refine ws_p rfl rfl rfl rfl (p_ext rfl rfl) ?_
                   refine ws_p rfl rfl rfl rfl (p_ext rfl rfl) ?_
                   refine ws_p rfl rfl rfl rfl (p_ext rfl rfl) ?_
                   refine ws_e rfl rfl (e_alloc (cs := ((List.replicate 32 (0 : UInt8)).map u8v).toArray) rfl (by rfl) rfl (fun w82 g12 hg12 hb12 hc hsz12 => ⟨hS.tr hc, ?_⟩))
                   have hzw82 := hc.size
                   have hab := hab.no hc
                   have hS126 := hS126.no hc
                   have hW120 := hW120.after hc
                   have hr128 := hr128.no hc
                   have hge12 : w.heap.size ≤ g12 := by have := HC.size; omega
                   have hS := hS.tr hc
                   refine ws_l rfl rfl (e_stH sz38 (List.length_replicate ..) hpr128.len rfl rfl hb12 (fun w83 hb12 hc hsz => ?_))
                   have hzw83 := hc.size
                   have hab := hab.ch hc (by intro k hk ht; omega)
                   first | have hS126 := hS126.ch hc (by intro k hk ht; omega) | have hS126 := hS126.chT hc (by intro k hz hk ht; omega)
                   have hW120 := hW120.ch hc (by intro k hz hk ht; omega)
                   first | have hr128 := hr128.ch hc (by intro k hk ht; omega) | have hr128 := hr128.chT hc (by intro k hz hk ht; omega)
                   have hS := (hS.nw hc (by intro k hk ht; omega))
                   refine ws_p rfl rfl rfl rfl (p_as rfl) ?_
                   refine ws_p rfl rfl rfl rfl (p_as rfl) ?_
                   refine ws_n ?_
                   exact x_meet (by repeat (first | exact trivial | refine ⟨rfl, ?_⟩)) ⟨g12, h128, A128, l128, c128, r128, ok128, rfl, HC.tr hS, hl.no hS, hab, hb4.ch hS (fun h => h), hb7.ch hS (fun h => h), hb8.ch hS (fun h => h), (by omega), hb12, hr128, hpr128, (by omega)⟩
                  ·
                   refine ws_e rfl rfl (e_alloc (cs := ((List.replicate 32 (0 : UInt8)).map u8v).toArray) rfl (by rfl) rfl (fun w84 g12 hg12 hb12 hc hsz12 => ⟨hS.tr hc, ?_⟩))
                   have hzw84 := hc.size
                   have hab := hab.no hc
                   have hS126 := hS126.no hc
                   have hW120 := hW120.after hc
                   have hge12 : w.heap.size ≤ g12 := by have := HC.size; omega
                   have hS := hS.tr hc
                   refine ws_e rfl rfl (e_call ent89 rfl rfl (IH (n - 1) (by omega) (by omega) (hr.no hS) (hW120.si) (by omega) (by omega)) ?_)
                   rintro _ w85 ⟨h128, A128, l128, c128, r128, ok128, rfl, hr128, hpr128, hc⟩
                   refine ⟨_, rfl, hS.tr hc, ?_⟩
                   have hzw85 := hc.size
                   have hab := hab.no hc
                   have hS126 := hS126.no hc
                   have hW120 := hW120.after hc
                   have hb12 := hb12.ch hc (fun h => h)
                   have hS := hS.tr hc
                   refine ws_p rfl rfl rfl rfl (p_mv rfl) ?_
                   refine ws_p rfl rfl rfl rfl (p_ext rfl rfl) ?_
                   refine ws_p rfl rfl rfl rfl (p_ext rfl rfl) ?_
                   refine ws_p rfl rfl rfl rfl (p_ext rfl rfl) ?_
                   refine ws_l rfl rfl (e_stH sz38 (List.length_replicate ..) hpr128.len rfl rfl hb12 (fun w86 hb12 hc hsz => ?_))
                   have hzw86 := hc.size
                   have hab := hab.ch hc (by intro k hk ht; omega)
                   first | have hS126 := hS126.ch hc (by intro k hk ht; omega) | have hS126 := hS126.chT hc (by intro k hz hk ht; omega)
                   have hW120 := hW120.ch hc (by intro k hz hk ht; omega)
                   first | have hr128 := hr128.ch hc (by intro k hk ht; omega) | have hr128 := hr128.chT hc (by intro k hz hk ht; omega)
                   have hS := (hS.nw hc (by intro k hk ht; omega))
                   refine ws_p rfl rfl rfl rfl (p_as rfl) ?_
                   refine ws_p rfl rfl rfl rfl (p_as rfl) ?_
                   refine ws_n ?_
                   exact x_meet (by repeat (first | exact trivial | refine ⟨rfl, ?_⟩)) ⟨g12, h128, A128, l128, c128, r128, ok128, rfl, HC.tr hS, hl.no hS, hab, hb4.ch hS (fun h => h), hb7.ch hS (fun h => h), hb8.ch hS (fun h => h), (by omega), hb12, hr128, hpr128, (by omega)⟩
                 ·
                  refine ws_e rfl rfl (e_alloc (cs := ((List.replicate 32 (0 : UInt8)).map u8v).toArray) rfl (by rfl) rfl (fun w87 g12 hg12 hb12 hc hsz12 => ⟨hS.tr hc, ?_⟩))
                  have hzw87 := hc.size
                  have hab := hab.no hc
                  have hS126 := hS126.no hc
                  have hW120 := hW120.after hc
                  have hge12 : w.heap.size ≤ g12 := by have := HC.size; omega
                  have hS := hS.tr hc
                  have hltg12 := hb12.lt
                  refine ws_e rfl rfl (e_appI rfl el188 rfl rfl hW120 (hS126) (by omega) (by intro k hk; first | omega | (dsimp only at *; omega)) (fun w88 A127 c127 hW120 hc => ⟨(hS.nw hc (by intro k hk ht; omega)), ?_⟩))
                  have hzw88 := hc.size
                  have hab := hab.ch hc (by intro k hk ht; omega)
                  first | have hS126 := hS126.ch hc (by intro k hk ht; omega) | have hS126 := hS126.chT hc (by intro k hz hk ht; omega)
                  have hb12 := hb12.ch hc (by omega)
                  have hS := (hS.nw hc (by intro k hk ht; omega))
                  refine ws_e rfl rfl (e_call ent89 rfl rfl (IH (n - 1) (by omega) (by omega) (hr.no hS) (hW120.si) (by omega) (by omega)) ?_)
                  rintro _ w89 ⟨h128, A128, l128, c128, r128, ok128, rfl, hr128, hpr128, hc⟩
                  refine ⟨_, rfl, hS.tr hc, ?_⟩
                  have hzw89 := hc.size
                  have hab := hab.no hc
                  have hS126 := hS126.no hc
                  have hW120 := hW120.after hc
                  have hb12 := hb12.ch hc (fun h => h)
                  have hS := hS.tr hc
                  refine ws_p rfl rfl rfl rfl (p_mv rfl) ?_
                  refine ws_p rfl rfl rfl rfl (p_ext rfl rfl) ?_
                  refine ws_p rfl rfl rfl rfl (p_ext rfl rfl) ?_
                  refine ws_p rfl rfl rfl rfl (p_ext rfl rfl) ?_
                  refine ws_l rfl rfl (e_stH sz38 (List.length_replicate ..) hpr128.len rfl rfl hb12 (fun w90 hb12 hc hsz => ?_))
                  have hzw90 := hc.size
                  have hab := hab.ch hc (by intro k hk ht; omega)
                  first | have hS126 := hS126.ch hc (by intro k hk ht; omega) | have hS126 := hS126.chT hc (by intro k hz hk ht; omega)
                  have hW120 := hW120.ch hc (by intro k hz hk ht; omega)
                  first | have hr128 := hr128.ch hc (by intro k hk ht; omega) | have hr128 := hr128.chT hc (by intro k hz hk ht; omega)
                  have hS := (hS.nw hc (by intro k hk ht; omega))
                  refine ws_p rfl rfl rfl rfl (p_as rfl) ?_
                  refine ws_p rfl rfl rfl rfl (p_as rfl) ?_
                  refine ws_n ?_
                  exact x_meet (by repeat (first | exact trivial | refine ⟨rfl, ?_⟩)) ⟨g12, h128, A128, l128, c128, r128, ok128, rfl, HC.tr hS, hl.no hS, hab, hb4.ch hS (fun h => h), hb7.ch hS (fun h => h), hb8.ch hS (fun h => h), (by omega), hb12, hr128, hpr128, (by omega)⟩
                ·
                 refine ws_e rfl rfl (e_alloc (cs := ((List.replicate 32 (0 : UInt8)).map u8v).toArray) rfl (by rfl) rfl (fun w91 g12 hg12 hb12 hc hsz12 => ⟨hS.tr hc, ?_⟩))
                 have hzw91 := hc.size
                 have hab := hab.no hc
                 have hS126 := hS126.no hc
                 have hW120 := hW120.after hc
                 have hge12 : w.heap.size ≤ g12 := by have := HC.size; omega
                 have hS := hS.tr hc
                 have hltg12 := hb12.lt
                 refine ws_e rfl rfl (e_appI rfl el188 rfl rfl hW120 (hab) (by omega) (by intro k hk; first | omega | (dsimp only at *; omega)) (fun w92 A122 c122 hW120 hc => ⟨(hS.nw hc (by intro k hk ht; omega)), ?_⟩))
                 have hzw92 := hc.size
                 have hab := hab.ch hc (by intro k hk ht; omega)
                 first | have hS126 := hS126.ch hc (by intro k hk ht; omega) | have hS126 := hS126.chT hc (by intro k hz hk ht; omega)
                 have hb12 := hb12.ch hc (by omega)
                 have hS := (hS.nw hc (by intro k hk ht; omega))
                 have hltg12 := hb12.lt
                 refine ws_e rfl rfl (e_appI rfl el188 rfl rfl hW120 (hS126) (by omega) (by intro k hk; first | omega | (dsimp only at *; omega)) (fun w93 A127 c127 hW120 hc => ⟨(hS.nw hc (by intro k hk ht; omega)), ?_⟩))
                 have hzw93 := hc.size
                 have hab := hab.ch hc (by intro k hk ht; omega)
                 first | have hS126 := hS126.ch hc (by intro k hk ht; omega) | have hS126 := hS126.chT hc (by intro k hz hk ht; omega)
                 have hb12 := hb12.ch hc (by omega)
                 have hS := (hS.nw hc (by intro k hk ht; omega))
                 refine ws_e rfl rfl (e_call ent89 rfl rfl (IH (n - 1) (by omega) (by omega) (hr.no hS) (hW120.si) (by omega) (by omega)) ?_)
                 rintro _ w94 ⟨h128, A128, l128, c128, r128, ok128, rfl, hr128, hpr128, hc⟩
                 refine ⟨_, rfl, hS.tr hc, ?_⟩
                 have hzw94 := hc.size
                 have hab := hab.no hc
                 have hS126 := hS126.no hc
                 have hW120 := hW120.after hc
                 have hb12 := hb12.ch hc (fun h => h)
                 have hS := hS.tr hc
                 refine ws_p rfl rfl rfl rfl (p_mv rfl) ?_
                 refine ws_p rfl rfl rfl rfl (p_ext rfl rfl) ?_
                 refine ws_p rfl rfl rfl rfl (p_ext rfl rfl) ?_
                 refine ws_p rfl rfl rfl rfl (p_ext rfl rfl) ?_
                 refine ws_l rfl rfl (e_stH sz38 (List.length_replicate ..) hpr128.len rfl rfl hb12 (fun w95 hb12 hc hsz => ?_))
                 have hzw95 := hc.size
                 have hab := hab.ch hc (by intro k hk ht; omega)
                 first | have hS126 := hS126.ch hc (by intro k hk ht; omega) | have hS126 := hS126.chT hc (by intro k hz hk ht; omega)
                 have hW120 := hW120.ch hc (by intro k hz hk ht; omega)
                 first | have hr128 := hr128.ch hc (by intro k hk ht; omega) | have hr128 := hr128.chT hc (by intro k hz hk ht; omega)
                 have hS := (hS.nw hc (by intro k hk ht; omega))
                 refine ws_p rfl rfl rfl rfl (p_as rfl) ?_
                 refine ws_p rfl rfl rfl rfl (p_as rfl) ?_
                 refine ws_n ?_
                 exact x_meet (by repeat (first | exact trivial | refine ⟨rfl, ?_⟩)) ⟨g12, h128, A128, l128, c128, r128, ok128, rfl, HC.tr hS, hl.no hS, hab, hb4.ch hS (fun h => h), hb7.ch hS (fun h => h), hb8.ch hS (fun h => h), (by omega), hb12, hr128, hpr128, (by omega)⟩
               ·
                refine ws_e rfl rfl (e_alloc (cs := ((List.replicate 32 (0 : UInt8)).map u8v).toArray) rfl (by rfl) rfl (fun w96 g12 hg12 hb12 hc hsz12 => ⟨hS.tr hc, ?_⟩))
                have hzw96 := hc.size
                have hab := hab.no hc
                have hS126 := hS126.no hc
                have hge12 : w.heap.size ≤ g12 := by have := HC.size; omega
                have hS := hS.tr hc
                have hltg12 := hb12.lt
                refine ws_e rfl rfl (e_bsl (cs := #[]) (E := 190) rfl rfl (fun _ => by kernel_rfl) (fun w97 g120 hg120 hb120 hc hsz120 => ⟨hS.tr hc, ?_⟩))
                have hzw97 := hc.size
                have hab := hab.no hc
                have hS126 := hS126.no hc
                have hb12 := hb12.ch hc (fun h => h)
                have hge120 : w.heap.size ≤ g120 := by have := HC.size; omega
                have hW120 := RI.lit0 (E := eTN) hb120
                have hS := hS.tr hc
                have hltg12 := hb12.lt
                refine ws_e rfl rfl (e_appI rfl el188 rfl rfl hW120 (hab) (by omega) (by intro k hk; first | omega | (dsimp only at *; omega)) (fun w98 A122 c122 hW120 hc => ⟨(hS.nw hc (by intro k hk ht; omega)), ?_⟩))
                have hzw98 := hc.size
                have hab := hab.ch hc (by intro k hk ht; omega)
                first | have hS126 := hS126.ch hc (by intro k hk ht; omega) | have hS126 := hS126.chT hc (by intro k hz hk ht; omega)
                have hb12 := hb12.ch hc (by omega)
                have hS := (hS.nw hc (by intro k hk ht; omega))
                have hltg12 := hb12.lt
                refine ws_e rfl rfl (e_appI rfl el188 rfl rfl hW120 (hS126) (by omega) (by intro k hk; first | omega | (dsimp only at *; omega)) (fun w99 A127 c127 hW120 hc => ⟨(hS.nw hc (by intro k hk ht; omega)), ?_⟩))
                have hzw99 := hc.size
                have hab := hab.ch hc (by intro k hk ht; omega)
                first | have hS126 := hS126.ch hc (by intro k hk ht; omega) | have hS126 := hS126.chT hc (by intro k hz hk ht; omega)
                have hb12 := hb12.ch hc (by omega)
                have hS := (hS.nw hc (by intro k hk ht; omega))
                refine ws_e rfl rfl (e_call ent89 rfl rfl (IH (n - 1) (by omega) (by omega) (hr.no hS) (hW120.si) (by omega) (by omega)) ?_)
                rintro _ w100 ⟨h128, A128, l128, c128, r128, ok128, rfl, hr128, hpr128, hc⟩
                refine ⟨_, rfl, hS.tr hc, ?_⟩
                have hzw100 := hc.size
                have hab := hab.no hc
                have hS126 := hS126.no hc
                have hb12 := hb12.ch hc (fun h => h)
                have hW120 := hW120.after hc
                have hS := hS.tr hc
                refine ws_p rfl rfl rfl rfl (p_mv rfl) ?_
                refine ws_p rfl rfl rfl rfl (p_ext rfl rfl) ?_
                refine ws_p rfl rfl rfl rfl (p_ext rfl rfl) ?_
                refine ws_p rfl rfl rfl rfl (p_ext rfl rfl) ?_
                refine ws_l rfl rfl (e_stH sz38 (List.length_replicate ..) hpr128.len rfl rfl hb12 (fun w101 hb12 hc hsz => ?_))
                have hzw101 := hc.size
                have hab := hab.ch hc (by intro k hk ht; omega)
                first | have hS126 := hS126.ch hc (by intro k hk ht; omega) | have hS126 := hS126.chT hc (by intro k hz hk ht; omega)
                have hW120 := hW120.ch hc (by intro k hz hk ht; omega)
                first | have hr128 := hr128.ch hc (by intro k hk ht; omega) | have hr128 := hr128.chT hc (by intro k hz hk ht; omega)
                have hS := (hS.nw hc (by intro k hk ht; omega))
                refine ws_p rfl rfl rfl rfl (p_as rfl) ?_
                refine ws_p rfl rfl rfl rfl (p_as rfl) ?_
                refine ws_n ?_
                exact x_meet (by repeat (first | exact trivial | refine ⟨rfl, ?_⟩)) ⟨g12, h128, A128, l128, c128, r128, ok128, rfl, HC.tr hS, hl.no hS, hab, hb4.ch hS (fun h => h), hb7.ch hS (fun h => h), hb8.ch hS (fun h => h), (by omega), hb12, hr128, hpr128, (by omega)⟩
              ·
               refine ws_e rfl rfl (e_alloc (cs := ((List.replicate 32 (0 : UInt8)).map u8v).toArray) rfl (by rfl) rfl (fun w102 g12 hg12 hb12 hc hsz12 => ⟨hS.tr hc, ?_⟩))
               have hzw102 := hc.size
               have hab := hab.no hc
               have hge12 : w.heap.size ≤ g12 := by have := HC.size; omega
               have hS := hS.tr hc
               refine ws_alt ?_ ?_
               ·
                have hltg12 := hb12.lt
                refine ws_e rfl rfl (e_bsl (cs := #[]) (E := 190) rfl rfl (fun _ => by kernel_rfl) (fun w103 g120 hg120 hb120 hc hsz120 => ⟨hS.tr hc, ?_⟩))
                have hzw103 := hc.size
                have hab := hab.no hc
                have hb12 := hb12.ch hc (fun h => h)
                have hge120 : w.heap.size ≤ g120 := by have := HC.size; omega
                have hW120 := RI.lit0 (E := eTN) hb120
                have hS := hS.tr hc
                refine ws_alt ?_ ?_
                ·
                 have hltg12 := hb12.lt
                 refine ws_e rfl rfl (e_appI rfl el188 rfl rfl hW120 (hab) (by omega) (by intro k hk; first | omega | (dsimp only at *; omega)) (fun w104 A122 c122 hW120 hc => ⟨(hS.nw hc (by intro k hk ht; omega)), ?_⟩))
                 have hzw104 := hc.size
                 have hab := hab.ch hc (by intro k hk ht; omega)
                 have hb12 := hb12.ch hc (by omega)
                 have hS := (hS.nw hc (by intro k hk ht; omega))
                 have hltg12 := hb12.lt
                 refine ws_e rfl rfl (e_bslX (E := 190) (cs := ([i64 x5.bit, .int .i64 (0)] : List Value)) (cs' := ([i64 x5.bit, .int .i64 (0)] : List Value)) rfl rfl rfl (fun _ => by kernel_rfl) (fun w105 g126 hg126 hb126 hc hsz126 => ⟨hS.tr hc, ?_⟩))
                 have hzw105 := hc.size
                 have hab := hab.no hc
                 have hb12 := hb12.ch hc (fun h => h)
                 have hW120 := hW120.after hc
                 have hge126 := hg126
                 have hS126 := SI.oneA (E := eTN) (x := ⟨x5.bit, (0)⟩) hb126 rfl trivial
                 have hS := hS.tr hc
                 have hltg12 := hb12.lt
                 refine ws_e rfl rfl (e_appI rfl el188 rfl rfl hW120 (hS126) (by omega) (by intro k hk; first | omega | (dsimp only at *; omega)) (fun w106 A127 c127 hW120 hc => ⟨(hS.nw hc (by intro k hk ht; omega)), ?_⟩))
                 have hzw106 := hc.size
                 have hab := hab.ch hc (by intro k hk ht; omega)
                 have hb12 := hb12.ch hc (by omega)
                 first | have hS126 := hS126.ch hc (by intro k hk ht; omega) | have hS126 := hS126.chT hc (by intro k hz hk ht; omega)
                 have hS := (hS.nw hc (by intro k hk ht; omega))
                 refine ws_e rfl rfl (e_call ent89 rfl rfl (IH (n - 1) (by omega) (by omega) (hr.no hS) (hW120.si) (by omega) (by omega)) ?_)
                 rintro _ w107 ⟨h128, A128, l128, c128, r128, ok128, rfl, hr128, hpr128, hc⟩
                 refine ⟨_, rfl, hS.tr hc, ?_⟩
                 have hzw107 := hc.size
                 have hab := hab.no hc
                 have hb12 := hb12.ch hc (fun h => h)
                 have hW120 := hW120.after hc
                 have hS126 := hS126.no hc
                 have hS := hS.tr hc
                 refine ws_p rfl rfl rfl rfl (p_mv rfl) ?_
                 refine ws_p rfl rfl rfl rfl (p_ext rfl rfl) ?_
                 refine ws_p rfl rfl rfl rfl (p_ext rfl rfl) ?_
                 refine ws_p rfl rfl rfl rfl (p_ext rfl rfl) ?_
                 refine ws_l rfl rfl (e_stH sz38 (List.length_replicate ..) hpr128.len rfl rfl hb12 (fun w108 hb12 hc hsz => ?_))
                 have hzw108 := hc.size
                 have hab := hab.ch hc (by intro k hk ht; omega)
                 have hW120 := hW120.ch hc (by intro k hz hk ht; omega)
                 first | have hS126 := hS126.ch hc (by intro k hk ht; omega) | have hS126 := hS126.chT hc (by intro k hz hk ht; omega)
                 first | have hr128 := hr128.ch hc (by intro k hk ht; omega) | have hr128 := hr128.chT hc (by intro k hz hk ht; omega)
                 have hS := (hS.nw hc (by intro k hk ht; omega))
                 refine ws_p rfl rfl rfl rfl (p_as rfl) ?_
                 refine ws_p rfl rfl rfl rfl (p_as rfl) ?_
                 refine ws_n ?_
                 exact x_meet (by repeat (first | exact trivial | refine ⟨rfl, ?_⟩)) ⟨g12, h128, A128, l128, c128, r128, ok128, rfl, HC.tr hS, hl.no hS, hab, hb4.ch hS (fun h => h), hb7.ch hS (fun h => h), hb8.ch hS (fun h => h), (by omega), hb12, hr128, hpr128, (by omega)⟩
                ·
                 have hltg12 := hb12.lt
                 refine ws_e rfl rfl (e_bslX (E := 190) (cs := ([i64 x5.bit, .int .i64 (0)] : List Value)) (cs' := ([i64 x5.bit, .int .i64 (0)] : List Value)) rfl rfl rfl (fun _ => by kernel_rfl) (fun w109 g126 hg126 hb126 hc hsz126 => ⟨hS.tr hc, ?_⟩))
                 have hzw109 := hc.size
                 have hab := hab.no hc
                 have hb12 := hb12.ch hc (fun h => h)
                 have hW120 := hW120.after hc
                 have hge126 := hg126
                 have hS126 := SI.oneA (E := eTN) (x := ⟨x5.bit, (0)⟩) hb126 rfl trivial
                 have hS := hS.tr hc
                 have hltg12 := hb12.lt
                 refine ws_e rfl rfl (e_appI rfl el188 rfl rfl hW120 (hab) (by omega) (by intro k hk; first | omega | (dsimp only at *; omega)) (fun w110 A122 c122 hW120 hc => ⟨(hS.nw hc (by intro k hk ht; omega)), ?_⟩))
                 have hzw110 := hc.size
                 have hab := hab.ch hc (by intro k hk ht; omega)
                 have hb12 := hb12.ch hc (by omega)
                 first | have hS126 := hS126.ch hc (by intro k hk ht; omega) | have hS126 := hS126.chT hc (by intro k hz hk ht; omega)
                 have hS := (hS.nw hc (by intro k hk ht; omega))
                 have hltg12 := hb12.lt
                 refine ws_e rfl rfl (e_appI rfl el188 rfl rfl hW120 (hS126) (by omega) (by intro k hk; first | omega | (dsimp only at *; omega)) (fun w111 A127 c127 hW120 hc => ⟨(hS.nw hc (by intro k hk ht; omega)), ?_⟩))
                 have hzw111 := hc.size
                 have hab := hab.ch hc (by intro k hk ht; omega)
                 have hb12 := hb12.ch hc (by omega)
                 first | have hS126 := hS126.ch hc (by intro k hk ht; omega) | have hS126 := hS126.chT hc (by intro k hz hk ht; omega)
                 have hS := (hS.nw hc (by intro k hk ht; omega))
                 refine ws_e rfl rfl (e_call ent89 rfl rfl (IH (n - 1) (by omega) (by omega) (hr.no hS) (hW120.si) (by omega) (by omega)) ?_)
                 rintro _ w112 ⟨h128, A128, l128, c128, r128, ok128, rfl, hr128, hpr128, hc⟩
                 refine ⟨_, rfl, hS.tr hc, ?_⟩
                 have hzw112 := hc.size
                 have hab := hab.no hc
                 have hb12 := hb12.ch hc (fun h => h)
                 have hW120 := hW120.after hc
                 have hS126 := hS126.no hc
                 have hS := hS.tr hc
                 refine ws_p rfl rfl rfl rfl (p_mv rfl) ?_
                 refine ws_p rfl rfl rfl rfl (p_ext rfl rfl) ?_
                 refine ws_p rfl rfl rfl rfl (p_ext rfl rfl) ?_
                 refine ws_p rfl rfl rfl rfl (p_ext rfl rfl) ?_
                 refine ws_l rfl rfl (e_stH sz38 (List.length_replicate ..) hpr128.len rfl rfl hb12 (fun w113 hb12 hc hsz => ?_))
                 have hzw113 := hc.size
                 have hab := hab.ch hc (by intro k hk ht; omega)
                 have hW120 := hW120.ch hc (by intro k hz hk ht; omega)
                 first | have hS126 := hS126.ch hc (by intro k hk ht; omega) | have hS126 := hS126.chT hc (by intro k hz hk ht; omega)
                 first | have hr128 := hr128.ch hc (by intro k hk ht; omega) | have hr128 := hr128.chT hc (by intro k hz hk ht; omega)
                 have hS := (hS.nw hc (by intro k hk ht; omega))
                 refine ws_p rfl rfl rfl rfl (p_as rfl) ?_
                 refine ws_p rfl rfl rfl rfl (p_as rfl) ?_
                 refine ws_n ?_
                 exact x_meet (by repeat (first | exact trivial | refine ⟨rfl, ?_⟩)) ⟨g12, h128, A128, l128, c128, r128, ok128, rfl, HC.tr hS, hl.no hS, hab, hb4.ch hS (fun h => h), hb7.ch hS (fun h => h), hb8.ch hS (fun h => h), (by omega), hb12, hr128, hpr128, (by omega)⟩
               ·
                have hltg12 := hb12.lt
                refine ws_e rfl rfl (e_bslX (E := 190) (cs := ([i64 x5.bit, .int .i64 (0)] : List Value)) (cs' := ([i64 x5.bit, .int .i64 (0)] : List Value)) rfl rfl rfl (fun _ => by kernel_rfl) (fun w114 g126 hg126 hb126 hc hsz126 => ⟨hS.tr hc, ?_⟩))
                have hzw114 := hc.size
                have hab := hab.no hc
                have hb12 := hb12.ch hc (fun h => h)
                have hge126 := hg126
                have hS126 := SI.oneA (E := eTN) (x := ⟨x5.bit, (0)⟩) hb126 rfl trivial
                have hS := hS.tr hc
                have hltg12 := hb12.lt
                refine ws_e rfl rfl (e_bsl (cs := #[]) (E := 190) rfl rfl (fun _ => by kernel_rfl) (fun w115 g120 hg120 hb120 hc hsz120 => ⟨hS.tr hc, ?_⟩))
                have hzw115 := hc.size
                have hab := hab.no hc
                have hb12 := hb12.ch hc (fun h => h)
                have hS126 := hS126.no hc
                have hge120 : w.heap.size ≤ g120 := by have := HC.size; omega
                have hW120 := RI.lit0 (E := eTN) hb120
                have hS := hS.tr hc
                have hltg12 := hb12.lt
                refine ws_e rfl rfl (e_appI rfl el188 rfl rfl hW120 (hab) (by omega) (by intro k hk; first | omega | (dsimp only at *; omega)) (fun w116 A122 c122 hW120 hc => ⟨(hS.nw hc (by intro k hk ht; omega)), ?_⟩))
                have hzw116 := hc.size
                have hab := hab.ch hc (by intro k hk ht; omega)
                have hb12 := hb12.ch hc (by omega)
                first | have hS126 := hS126.ch hc (by intro k hk ht; omega) | have hS126 := hS126.chT hc (by intro k hz hk ht; omega)
                have hS := (hS.nw hc (by intro k hk ht; omega))
                have hltg12 := hb12.lt
                refine ws_e rfl rfl (e_appI rfl el188 rfl rfl hW120 (hS126) (by omega) (by intro k hk; first | omega | (dsimp only at *; omega)) (fun w117 A127 c127 hW120 hc => ⟨(hS.nw hc (by intro k hk ht; omega)), ?_⟩))
                have hzw117 := hc.size
                have hab := hab.ch hc (by intro k hk ht; omega)
                have hb12 := hb12.ch hc (by omega)
                first | have hS126 := hS126.ch hc (by intro k hk ht; omega) | have hS126 := hS126.chT hc (by intro k hz hk ht; omega)
                have hS := (hS.nw hc (by intro k hk ht; omega))
                refine ws_e rfl rfl (e_call ent89 rfl rfl (IH (n - 1) (by omega) (by omega) (hr.no hS) (hW120.si) (by omega) (by omega)) ?_)
                rintro _ w118 ⟨h128, A128, l128, c128, r128, ok128, rfl, hr128, hpr128, hc⟩
                refine ⟨_, rfl, hS.tr hc, ?_⟩
                have hzw118 := hc.size
                have hab := hab.no hc
                have hb12 := hb12.ch hc (fun h => h)
                have hS126 := hS126.no hc
                have hW120 := hW120.after hc
                have hS := hS.tr hc
                refine ws_p rfl rfl rfl rfl (p_mv rfl) ?_
                refine ws_p rfl rfl rfl rfl (p_ext rfl rfl) ?_
                refine ws_p rfl rfl rfl rfl (p_ext rfl rfl) ?_
                refine ws_p rfl rfl rfl rfl (p_ext rfl rfl) ?_
                refine ws_l rfl rfl (e_stH sz38 (List.length_replicate ..) hpr128.len rfl rfl hb12 (fun w119 hb12 hc hsz => ?_))
                have hzw119 := hc.size
                have hab := hab.ch hc (by intro k hk ht; omega)
                first | have hS126 := hS126.ch hc (by intro k hk ht; omega) | have hS126 := hS126.chT hc (by intro k hz hk ht; omega)
                have hW120 := hW120.ch hc (by intro k hz hk ht; omega)
                first | have hr128 := hr128.ch hc (by intro k hk ht; omega) | have hr128 := hr128.chT hc (by intro k hz hk ht; omega)
                have hS := (hS.nw hc (by intro k hk ht; omega))
                refine ws_p rfl rfl rfl rfl (p_as rfl) ?_
                refine ws_p rfl rfl rfl rfl (p_as rfl) ?_
                refine ws_n ?_
                exact x_meet (by repeat (first | exact trivial | refine ⟨rfl, ?_⟩)) ⟨g12, h128, A128, l128, c128, r128, ok128, rfl, HC.tr hS, hl.no hS, hab, hb4.ch hS (fun h => h), hb7.ch hS (fun h => h), hb8.ch hS (fun h => h), (by omega), hb12, hr128, hpr128, (by omega)⟩
            ·
             rintro _ w120 ⟨g12, h128, A128, l128, c128, r128, ok128, rfl, HC, hl, hab, hb4, hb7, hb8, hgo, hb12, hr128, hpr128, hgn12⟩
             have hzw120 := HC.size
             refine wc_seq ?_
             refine wc_seq ?_
             refine wc_region ?_
             have hln128 := hr128.len
             have hsl128 := hpr128.suf_len
             refine wl rfl rfl rfl (p_mv rfl) ?_
             refine wl rfl rfl rfl (p_not rfl) ?_
             refine wl_nil ?_
             refine x_seq ?_
             refine wc_if rfl (fun c7 => ?_) (fun c7 => ?_)
             ·
              refine wc_seq ?_
              refine wc_region ?_
              refine wl rfl rfl rfl (p_ldH (L := (List.replicate 32 (0 : UInt8))) Tryd.underlying38 sz38 (List.length_replicate ..) rfl (fun _ e => e ▸ rngL hb7)) ?_
              refine wle rfl (e_stH sz38 (List.length_replicate ..) (List.length_replicate ..) rfl rfl hb4 (fun w121 hb4 hc hsz => ?_))
              have hzw121 := hc.size
              have HC := HC.trans hc (fun _ _ h => h) (fun k hk ht => absurd ht (by omega))
              first | have hl := hl.ch hc (by intro k hk ht; omega) | have hl := hl.chT hc (by intro k hz hk ht; omega)
              have hab := hab.ch hc (by intro k hk ht; omega)
              have hb7 := hb7.ch hc (by omega)
              have hb8 := hb8.ch hc (by omega)
              have hb12 := hb12.ch hc (by omega)
              first | have hr128 := hr128.ch hc (by intro k hk ht; omega) | have hr128 := hr128.chT hc (by intro k hz hk ht; omega)
              refine wl rfl rfl rfl (p_as rfl) ?_
              refine wl rfl rfl rfl (p_as rfl) ?_
              refine wl_nil ?_
              refine x_seq ?_
              refine wc_ret ?_
              refine x_then_ret ?_
              refine x_in_ret ?_
              refine x_then_ret ?_
              refine fin_run (resMany (rs := [.cell 4 38, .tmp 5, .tmp 6]) rfl (.cellA (cs := List.map u8v (List.replicate 32 (0 : UInt8))) rfl Tryd.underlying38 rfl (szL sz38 (by rw [List.length_map]; exact (List.length_replicate ..))) (rngL hb4) (.tmp rfl (.tmp rfl (.nil)))) rfl) ?_
              have hkz : x5.key = zeroH ∧ x5.val = zeroH := ⟨by have h := q85; simp at h; exact h, by have h := q91; simp at h; exact h⟩
              exact ⟨_, _, _, _, _, _, rfl, SI.nil, (by rw [hlx]; exact PR.to_nil (PR.fork_bad q79 (by rw [show ok128 = false by simpa using c7] at hpr128; exact hpr128)) zeroH_len), HC⟩
             ·
              refine wc_skip ?_
              refine x_seq ?_
              refine wc_cut (fun e w' => ∃ (g15 : Nat) (h145 : H8) (A145 : Option Addr) (l145 : Nat) (c145 : Nat) (r145 : List ND) (ok145 : Bool), e = [(0, .slice Al ll cl), (1, .slice Ab lb cb), (4, .pointer (some ⟨g4, 0, none⟩)), (7, .pointer (some ⟨g7, 0, none⟩)), (8, .pointer (some ⟨g8, 0, none⟩)), (12, .pointer (some ⟨g12, 0, none⟩)), (13, .slice A145 l145 c145), (14, .bool ok145), (15, .pointer (some ⟨g15, 0, none⟩))] ∧ (Ch No w w') ∧ (SI w' (fun k => Fl k ∧ k < w.heap.size) eND Al ll cl l) ∧ (SI w' (fun k => k < w.heap.size) eTN Ab lb cb ab) ∧ (Blk w' g4 38 (List.map u8v (List.replicate 32 (0 : UInt8))).toArray) ∧ (Blk w' g7 38 (List.map u8v (List.replicate 32 (0 : UInt8))).toArray) ∧ (Blk w' g8 117 (([i64 x5.kind, i64 x5.bit] ++ ((List.map u8v x5.key) ++ (List.map u8v x5.val))) : List Value).toArray) ∧ (w.heap.size ≤ g4 ∧ g4 < g7 ∧ g7 < g8) ∧ (Blk w' g15 38 (List.map u8v h145).toArray) ∧ (SI w' (fun k => Fl k ∧ k < w.heap.size) eND A145 l145 c145 r145) ∧ (PR (ab ++ [⟨x5.bit, 1⟩]) r128 false h145 r145 (!ok145)) ∧ (g8 < g15) ∧ (Blk w' g12 38 (List.map u8v h128).toArray) ∧ (g8 < g12 ∧ g12 < g15)) ?_ ?_
              ·
               refine wc_draw (.st 0 0 (.st 2 0 (.st 4 0 (.st 5 1 (.st 6 0 (.alt (.st 1 2 (.alt (.st 3 2 (.alt (.st 7 2 (.alt (.st 8 2 (.alt (.st 9 2 (.st 10 0 (.st 11 0 (.st 12 0 (.st 13 0 (.st 14 2 (.st 15 3 (.st 16 0 (.st 17 0 .nil))))))))) (.st 14 2 (.st 9 2 (.st 10 0 (.st 11 0 (.st 12 0 (.st 13 0 (.st 15 3 (.st 16 0 (.st 17 0 .nil))))))))))) (.st 14 2 (.st 8 2 (.st 9 2 (.st 10 0 (.st 11 0 (.st 12 0 (.st 13 0 (.st 15 3 (.st 16 0 (.st 17 0 .nil)))))))))))) (.st 14 2 (.st 7 2 (.st 8 2 (.st 9 2 (.st 10 0 (.st 11 0 (.st 12 0 (.st 13 0 (.st 15 3 (.st 16 0 (.st 17 0 .nil))))))))))))) (.alt (.st 7 2 (.alt (.st 3 2 (.alt (.st 8 2 (.alt (.st 9 2 (.st 10 0 (.st 11 0 (.st 12 0 (.st 13 0 (.st 14 2 (.st 15 3 (.st 16 0 (.st 17 0 .nil))))))))) (.st 14 2 (.st 9 2 (.st 10 0 (.st 11 0 (.st 12 0 (.st 13 0 (.st 15 3 (.st 16 0 (.st 17 0 .nil))))))))))) (.st 14 2 (.st 8 2 (.st 9 2 (.st 10 0 (.st 11 0 (.st 12 0 (.st 13 0 (.st 15 3 (.st 16 0 (.st 17 0 .nil)))))))))))) (.st 14 2 (.st 3 2 (.st 8 2 (.st 9 2 (.st 10 0 (.st 11 0 (.st 12 0 (.st 13 0 (.st 15 3 (.st 16 0 (.st 17 0 .nil))))))))))))) (.st 14 2 (.alt (.st 3 2 (.st 7 2 (.st 8 2 (.st 9 2 (.st 10 0 (.st 11 0 (.st 12 0 (.st 13 0 (.st 15 3 (.st 16 0 (.st 17 0 .nil))))))))))) (.st 7 2 (.st 3 2 (.st 8 2 (.st 9 2 (.st 10 0 (.st 11 0 (.st 12 0 (.st 13 0 (.st 15 3 (.st 16 0 (.st 17 0 .nil)))))))))))))))) (.alt (.st 7 2 (.alt (.st 1 2 (.alt (.st 3 2 (.alt (.st 8 2 (.alt (.st 9 2 (.st 10 0 (.st 11 0 (.st 12 0 (.st 13 0 (.st 14 2 (.st 15 3 (.st 16 0 (.st 17 0 .nil))))))))) (.st 14 2 (.st 9 2 (.st 10 0 (.st 11 0 (.st 12 0 (.st 13 0 (.st 15 3 (.st 16 0 (.st 17 0 .nil))))))))))) (.st 14 2 (.st 8 2 (.st 9 2 (.st 10 0 (.st 11 0 (.st 12 0 (.st 13 0 (.st 15 3 (.st 16 0 (.st 17 0 .nil)))))))))))) (.st 14 2 (.st 3 2 (.st 8 2 (.st 9 2 (.st 10 0 (.st 11 0 (.st 12 0 (.st 13 0 (.st 15 3 (.st 16 0 (.st 17 0 .nil))))))))))))) (.st 14 2 (.st 1 2 (.st 3 2 (.st 8 2 (.st 9 2 (.st 10 0 (.st 11 0 (.st 12 0 (.st 13 0 (.st 15 3 (.st 16 0 (.st 17 0 .nil)))))))))))))) (.st 14 2 (.alt (.st 1 2 (.alt (.st 3 2 (.st 7 2 (.st 8 2 (.st 9 2 (.st 10 0 (.st 11 0 (.st 12 0 (.st 13 0 (.st 15 3 (.st 16 0 (.st 17 0 .nil))))))))))) (.st 7 2 (.st 3 2 (.st 8 2 (.st 9 2 (.st 10 0 (.st 11 0 (.st 12 0 (.st 13 0 (.st 15 3 (.st 16 0 (.st 17 0 .nil))))))))))))) (.st 7 2 (.st 1 2 (.st 3 2 (.st 8 2 (.st 9 2 (.st 10 0 (.st 11 0 (.st 12 0 (.st 13 0 (.st 15 3 (.st 16 0 (.st 17 0 .nil))))))))))))))))))))) 15 (by kernel_rfl) (by kernel_rfl) (by kernel_rfl) (by repeat (first | with_reducible exact pan_body | with_reducible apply pan_then | with_reducible apply pan_in)) (fun z => Ch (No) w120.drew z) (Ch.refl _ _) ?_
               obtain ⟨w122, ew122⟩ : ∃ x, x = w120.drew := ⟨_, rfl⟩
               rw [← ew122]
               have hc : Ch No w120 w122 := by rw [ew122]; exact Ch.drew _
               have hszw122 : w122.heap.size = w120.heap.size := by rw [ew122]; rfl
               clear ew122
               have hzw122 := hc.size
               have HC := HC.tr hc
               have hl := hl.no hc
               have hab := hab.no hc
               have hb4 := hb4.ch hc (fun h => h)
               have hb7 := hb7.ch hc (fun h => h)
               have hb8 := hb8.ch hc (fun h => h)
               have hb12 := hb12.ch hc (fun h => h)
               have hr128 := hr128.no hc
               have hS : Ch (No) w122 w122 := Ch.refl _ _
               have hlt8_ := hb8.lt
               have hlt12_ := hb12.lt
               refine ws_p rfl rfl rfl rfl (p_mv rfl) ?_
               refine ws_p rfl rfl rfl rfl (p_mv rfl) ?_
               refine ws_p rfl rfl rfl rfl (p_fld (j := 1) Tryd.underlying117 rfl ⟨_, by rfl⟩ rfl rfl) ?_
               refine ws_h rfl rfl rfl rfl (p_ld Tryd.underlying3 rfl rfl (fun _ h => h.cell (fun h => h) (cell_at (p := ([i64 x5.kind] : List Value)) (v := (i64 x5.bit : Value)) (r := (((List.map u8v x5.key) ++ (List.map u8v x5.val)) : List Value)) hb8 (by simp only [List.append_assoc, List.cons_append, List.nil_append, List.append_nil]) (by first | rfl | (simp only [List.length_append, List.length_map, List.length_cons, List.length_nil]; done) | (simp only [List.length_append, List.length_map, List.length_cons, List.length_nil, List.size_toArray]; done))))) ?_
               refine ws_p rfl rfl rfl rfl (p_bldX (vs' := [i64 x5.bit, .int .i64 (1)]) (cs := ([i64 x5.bit, .int .i64 (1)] : List Value)) (cs' := ([i64 x5.bit, .int .i64 (1)] : List Value)) rfl rfl rfl (fun _ => by kernel_rfl)) ?_
               refine ws_alt ?_ ?_
               ·
                refine ws_e rfl rfl (e_bsl (cs := #[]) (E := 190) rfl rfl (fun _ => by kernel_rfl) (fun w123 g137 hg137 hb137 hc hsz137 => ⟨hS.tr hc, ?_⟩))
                have hzw123 := hc.size
                have hab := hab.no hc
                have hge137 : w.heap.size ≤ g137 := by have := HC.size; omega
                have hW137 := RI.lit0 (E := eTN) hb137
                have hS := hS.tr hc
                refine ws_alt ?_ ?_
                ·
                 refine ws_e rfl rfl (e_appI rfl el188 rfl rfl hW137 (hab) (by omega) (by intro k hk; first | omega | (dsimp only at *; omega)) (fun w124 A139 c139 hW137 hc => ⟨(hS.nw hc (by intro k hk ht; omega)), ?_⟩))
                 have hzw124 := hc.size
                 have hab := hab.ch hc (by intro k hk ht; omega)
                 have hS := (hS.nw hc (by intro k hk ht; omega))
                 refine ws_alt ?_ ?_
                 ·
                  refine ws_e rfl rfl (e_bslX (E := 190) (cs := ([i64 x5.bit, .int .i64 (1)] : List Value)) (cs' := ([i64 x5.bit, .int .i64 (1)] : List Value)) rfl rfl rfl (fun _ => by kernel_rfl) (fun w125 g143 hg143 hb143 hc hsz143 => ⟨hS.tr hc, ?_⟩))
                  have hzw125 := hc.size
                  have hab := hab.no hc
                  have hW137 := hW137.after hc
                  have hge143 := hg143
                  have hS143 := SI.oneA (E := eTN) (x := ⟨x5.bit, (1)⟩) hb143 rfl trivial
                  have hS := hS.tr hc
                  refine ws_alt ?_ ?_
                  ·
                   refine ws_e rfl rfl (e_appI rfl el188 rfl rfl hW137 (hS143) (by omega) (by intro k hk; first | omega | (dsimp only at *; omega)) (fun w126 A144 c144 hW137 hc => ⟨(hS.nw hc (by intro k hk ht; omega)), ?_⟩))
                   have hzw126 := hc.size
                   have hab := hab.ch hc (by intro k hk ht; omega)
                   first | have hS143 := hS143.ch hc (by intro k hk ht; omega) | have hS143 := hS143.chT hc (by intro k hz hk ht; omega)
                   have hS := (hS.nw hc (by intro k hk ht; omega))
                   refine ws_alt ?_ ?_
                   ·
                    refine ws_e rfl rfl (e_call ent89 rfl rfl (IH (n - 1) (by omega) (by omega) (hr128.no hS) (hW137.si) (by omega) (by omega)) ?_)
                    rintro _ w127 ⟨h145, A145, l145, c145, r145, ok145, rfl, hr145, hpr145, hc⟩
                    refine ⟨_, rfl, hS.tr hc, ?_⟩
                    have hzw127 := hc.size
                    have hab := hab.no hc
                    have hW137 := hW137.after hc
                    have hS143 := hS143.no hc
                    have hS := hS.tr hc
                    refine ws_p rfl rfl rfl rfl (p_mv rfl) ?_
                    refine ws_p rfl rfl rfl rfl (p_ext rfl rfl) ?_
                    refine ws_p rfl rfl rfl rfl (p_ext rfl rfl) ?_
                    refine ws_p rfl rfl rfl rfl (p_ext rfl rfl) ?_
                    refine ws_e rfl rfl (e_alloc (cs := ((List.replicate 32 (0 : UInt8)).map u8v).toArray) rfl (by rfl) rfl (fun w128 g15 hg15 hb15 hc hsz15 => ⟨hS.tr hc, ?_⟩))
                    have hzw128 := hc.size
                    have hab := hab.no hc
                    have hW137 := hW137.after hc
                    have hS143 := hS143.no hc
                    have hr145 := hr145.no hc
                    have hge15 : w.heap.size ≤ g15 := by have := HC.size; omega
                    have hS := hS.tr hc
                    refine ws_l rfl rfl (e_stH sz38 (List.length_replicate ..) hpr145.len rfl rfl hb15 (fun w129 hb15 hc hsz => ?_))
                    have hzw129 := hc.size
                    have hab := hab.ch hc (by intro k hk ht; omega)
                    have hW137 := hW137.ch hc (by intro k hz hk ht; omega)
                    first | have hS143 := hS143.ch hc (by intro k hk ht; omega) | have hS143 := hS143.chT hc (by intro k hz hk ht; omega)
                    first | have hr145 := hr145.ch hc (by intro k hk ht; omega) | have hr145 := hr145.chT hc (by intro k hz hk ht; omega)
                    have hS := (hS.nw hc (by intro k hk ht; omega))
                    refine ws_p rfl rfl rfl rfl (p_as rfl) ?_
                    refine ws_p rfl rfl rfl rfl (p_as rfl) ?_
                    refine ws_n ?_
                    exact x_meet (by repeat (first | exact trivial | refine ⟨rfl, ?_⟩)) ⟨g15, h145, A145, l145, c145, r145, ok145, rfl, HC.tr hS, hl.no hS, hab, hb4.ch hS (fun h => h), hb7.ch hS (fun h => h), hb8.ch hS (fun h => h), (by omega), hb15, hr145, hpr145, (by omega), hb12.ch hS (fun h => h), (by omega)⟩
                   ·
                    refine ws_e rfl rfl (e_alloc (cs := ((List.replicate 32 (0 : UInt8)).map u8v).toArray) rfl (by rfl) rfl (fun w130 g15 hg15 hb15 hc hsz15 => ⟨hS.tr hc, ?_⟩))
                    have hzw130 := hc.size
                    have hab := hab.no hc
                    have hW137 := hW137.after hc
                    have hS143 := hS143.no hc
                    have hge15 : w.heap.size ≤ g15 := by have := HC.size; omega
                    have hS := hS.tr hc
                    refine ws_e rfl rfl (e_call ent89 rfl rfl (IH (n - 1) (by omega) (by omega) (hr128.no hS) (hW137.si) (by omega) (by omega)) ?_)
                    rintro _ w131 ⟨h145, A145, l145, c145, r145, ok145, rfl, hr145, hpr145, hc⟩
                    refine ⟨_, rfl, hS.tr hc, ?_⟩
                    have hzw131 := hc.size
                    have hab := hab.no hc
                    have hW137 := hW137.after hc
                    have hS143 := hS143.no hc
                    have hb15 := hb15.ch hc (fun h => h)
                    have hS := hS.tr hc
                    refine ws_p rfl rfl rfl rfl (p_mv rfl) ?_
                    refine ws_p rfl rfl rfl rfl (p_ext rfl rfl) ?_
                    refine ws_p rfl rfl rfl rfl (p_ext rfl rfl) ?_
                    refine ws_p rfl rfl rfl rfl (p_ext rfl rfl) ?_
                    refine ws_l rfl rfl (e_stH sz38 (List.length_replicate ..) hpr145.len rfl rfl hb15 (fun w132 hb15 hc hsz => ?_))
                    have hzw132 := hc.size
                    have hab := hab.ch hc (by intro k hk ht; omega)
                    have hW137 := hW137.ch hc (by intro k hz hk ht; omega)
                    first | have hS143 := hS143.ch hc (by intro k hk ht; omega) | have hS143 := hS143.chT hc (by intro k hz hk ht; omega)
                    first | have hr145 := hr145.ch hc (by intro k hk ht; omega) | have hr145 := hr145.chT hc (by intro k hz hk ht; omega)
                    have hS := (hS.nw hc (by intro k hk ht; omega))
                    refine ws_p rfl rfl rfl rfl (p_as rfl) ?_
                    refine ws_p rfl rfl rfl rfl (p_as rfl) ?_
                    refine ws_n ?_
                    exact x_meet (by repeat (first | exact trivial | refine ⟨rfl, ?_⟩)) ⟨g15, h145, A145, l145, c145, r145, ok145, rfl, HC.tr hS, hl.no hS, hab, hb4.ch hS (fun h => h), hb7.ch hS (fun h => h), hb8.ch hS (fun h => h), (by omega), hb15, hr145, hpr145, (by omega), hb12.ch hS (fun h => h), (by omega)⟩
                  ·
                   refine ws_e rfl rfl (e_alloc (cs := ((List.replicate 32 (0 : UInt8)).map u8v).toArray) rfl (by rfl) rfl (fun w133 g15 hg15 hb15 hc hsz15 => ⟨hS.tr hc, ?_⟩))
                   have hzw133 := hc.size
                   have hab := hab.no hc
                   have hW137 := hW137.after hc
                   have hS143 := hS143.no hc
                   have hge15 : w.heap.size ≤ g15 := by have := HC.size; omega
                   have hS := hS.tr hc
                   have hltg15 := hb15.lt
                   refine ws_e rfl rfl (e_appI rfl el188 rfl rfl hW137 (hS143) (by omega) (by intro k hk; first | omega | (dsimp only at *; omega)) (fun w134 A144 c144 hW137 hc => ⟨(hS.nw hc (by intro k hk ht; omega)), ?_⟩))
                   have hzw134 := hc.size
                   have hab := hab.ch hc (by intro k hk ht; omega)
                   first | have hS143 := hS143.ch hc (by intro k hk ht; omega) | have hS143 := hS143.chT hc (by intro k hz hk ht; omega)
                   have hb15 := hb15.ch hc (by omega)
                   have hS := (hS.nw hc (by intro k hk ht; omega))
                   refine ws_e rfl rfl (e_call ent89 rfl rfl (IH (n - 1) (by omega) (by omega) (hr128.no hS) (hW137.si) (by omega) (by omega)) ?_)
                   rintro _ w135 ⟨h145, A145, l145, c145, r145, ok145, rfl, hr145, hpr145, hc⟩
                   refine ⟨_, rfl, hS.tr hc, ?_⟩
                   have hzw135 := hc.size
                   have hab := hab.no hc
                   have hW137 := hW137.after hc
                   have hS143 := hS143.no hc
                   have hb15 := hb15.ch hc (fun h => h)
                   have hS := hS.tr hc
                   refine ws_p rfl rfl rfl rfl (p_mv rfl) ?_
                   refine ws_p rfl rfl rfl rfl (p_ext rfl rfl) ?_
                   refine ws_p rfl rfl rfl rfl (p_ext rfl rfl) ?_
                   refine ws_p rfl rfl rfl rfl (p_ext rfl rfl) ?_
                   refine ws_l rfl rfl (e_stH sz38 (List.length_replicate ..) hpr145.len rfl rfl hb15 (fun w136 hb15 hc hsz => ?_))
                   have hzw136 := hc.size
                   have hab := hab.ch hc (by intro k hk ht; omega)
                   have hW137 := hW137.ch hc (by intro k hz hk ht; omega)
                   first | have hS143 := hS143.ch hc (by intro k hk ht; omega) | have hS143 := hS143.chT hc (by intro k hz hk ht; omega)
                   first | have hr145 := hr145.ch hc (by intro k hk ht; omega) | have hr145 := hr145.chT hc (by intro k hz hk ht; omega)
                   have hS := (hS.nw hc (by intro k hk ht; omega))
                   refine ws_p rfl rfl rfl rfl (p_as rfl) ?_
                   refine ws_p rfl rfl rfl rfl (p_as rfl) ?_
                   refine ws_n ?_
                   exact x_meet (by repeat (first | exact trivial | refine ⟨rfl, ?_⟩)) ⟨g15, h145, A145, l145, c145, r145, ok145, rfl, HC.tr hS, hl.no hS, hab, hb4.ch hS (fun h => h), hb7.ch hS (fun h => h), hb8.ch hS (fun h => h), (by omega), hb15, hr145, hpr145, (by omega), hb12.ch hS (fun h => h), (by omega)⟩
                 ·
                  refine ws_e rfl rfl (e_alloc (cs := ((List.replicate 32 (0 : UInt8)).map u8v).toArray) rfl (by rfl) rfl (fun w137 g15 hg15 hb15 hc hsz15 => ⟨hS.tr hc, ?_⟩))
                  have hzw137 := hc.size
                  have hab := hab.no hc
                  have hW137 := hW137.after hc
                  have hge15 : w.heap.size ≤ g15 := by have := HC.size; omega
                  have hS := hS.tr hc
                  have hltg15 := hb15.lt
                  refine ws_e rfl rfl (e_bslX (E := 190) (cs := ([i64 x5.bit, .int .i64 (1)] : List Value)) (cs' := ([i64 x5.bit, .int .i64 (1)] : List Value)) rfl rfl rfl (fun _ => by kernel_rfl) (fun w138 g143 hg143 hb143 hc hsz143 => ⟨hS.tr hc, ?_⟩))
                  have hzw138 := hc.size
                  have hab := hab.no hc
                  have hW137 := hW137.after hc
                  have hb15 := hb15.ch hc (fun h => h)
                  have hge143 := hg143
                  have hS143 := SI.oneA (E := eTN) (x := ⟨x5.bit, (1)⟩) hb143 rfl trivial
                  have hS := hS.tr hc
                  have hltg15 := hb15.lt
                  refine ws_e rfl rfl (e_appI rfl el188 rfl rfl hW137 (hS143) (by omega) (by intro k hk; first | omega | (dsimp only at *; omega)) (fun w139 A144 c144 hW137 hc => ⟨(hS.nw hc (by intro k hk ht; omega)), ?_⟩))
                  have hzw139 := hc.size
                  have hab := hab.ch hc (by intro k hk ht; omega)
                  have hb15 := hb15.ch hc (by omega)
                  first | have hS143 := hS143.ch hc (by intro k hk ht; omega) | have hS143 := hS143.chT hc (by intro k hz hk ht; omega)
                  have hS := (hS.nw hc (by intro k hk ht; omega))
                  refine ws_e rfl rfl (e_call ent89 rfl rfl (IH (n - 1) (by omega) (by omega) (hr128.no hS) (hW137.si) (by omega) (by omega)) ?_)
                  rintro _ w140 ⟨h145, A145, l145, c145, r145, ok145, rfl, hr145, hpr145, hc⟩
                  refine ⟨_, rfl, hS.tr hc, ?_⟩
                  have hzw140 := hc.size
                  have hab := hab.no hc
                  have hW137 := hW137.after hc
                  have hb15 := hb15.ch hc (fun h => h)
                  have hS143 := hS143.no hc
                  have hS := hS.tr hc
                  refine ws_p rfl rfl rfl rfl (p_mv rfl) ?_
                  refine ws_p rfl rfl rfl rfl (p_ext rfl rfl) ?_
                  refine ws_p rfl rfl rfl rfl (p_ext rfl rfl) ?_
                  refine ws_p rfl rfl rfl rfl (p_ext rfl rfl) ?_
                  refine ws_l rfl rfl (e_stH sz38 (List.length_replicate ..) hpr145.len rfl rfl hb15 (fun w141 hb15 hc hsz => ?_))
                  have hzw141 := hc.size
                  have hab := hab.ch hc (by intro k hk ht; omega)
                  have hW137 := hW137.ch hc (by intro k hz hk ht; omega)
                  first | have hS143 := hS143.ch hc (by intro k hk ht; omega) | have hS143 := hS143.chT hc (by intro k hz hk ht; omega)
                  first | have hr145 := hr145.ch hc (by intro k hk ht; omega) | have hr145 := hr145.chT hc (by intro k hz hk ht; omega)
                  have hS := (hS.nw hc (by intro k hk ht; omega))
                  refine ws_p rfl rfl rfl rfl (p_as rfl) ?_
                  refine ws_p rfl rfl rfl rfl (p_as rfl) ?_
                  refine ws_n ?_
                  exact x_meet (by repeat (first | exact trivial | refine ⟨rfl, ?_⟩)) ⟨g15, h145, A145, l145, c145, r145, ok145, rfl, HC.tr hS, hl.no hS, hab, hb4.ch hS (fun h => h), hb7.ch hS (fun h => h), hb8.ch hS (fun h => h), (by omega), hb15, hr145, hpr145, (by omega), hb12.ch hS (fun h => h), (by omega)⟩
                ·
                 refine ws_alt ?_ ?_
                 ·
                  refine ws_e rfl rfl (e_bslX (E := 190) (cs := ([i64 x5.bit, .int .i64 (1)] : List Value)) (cs' := ([i64 x5.bit, .int .i64 (1)] : List Value)) rfl rfl rfl (fun _ => by kernel_rfl) (fun w142 g143 hg143 hb143 hc hsz143 => ⟨hS.tr hc, ?_⟩))
                  have hzw142 := hc.size
                  have hab := hab.no hc
                  have hW137 := hW137.after hc
                  have hge143 := hg143
                  have hS143 := SI.oneA (E := eTN) (x := ⟨x5.bit, (1)⟩) hb143 rfl trivial
                  have hS := hS.tr hc
                  refine ws_alt ?_ ?_
                  ·
                   refine ws_e rfl rfl (e_appI rfl el188 rfl rfl hW137 (hab) (by omega) (by intro k hk; first | omega | (dsimp only at *; omega)) (fun w143 A139 c139 hW137 hc => ⟨(hS.nw hc (by intro k hk ht; omega)), ?_⟩))
                   have hzw143 := hc.size
                   have hab := hab.ch hc (by intro k hk ht; omega)
                   first | have hS143 := hS143.ch hc (by intro k hk ht; omega) | have hS143 := hS143.chT hc (by intro k hz hk ht; omega)
                   have hS := (hS.nw hc (by intro k hk ht; omega))
                   refine ws_alt ?_ ?_
                   ·
                    refine ws_e rfl rfl (e_appI rfl el188 rfl rfl hW137 (hS143) (by omega) (by intro k hk; first | omega | (dsimp only at *; omega)) (fun w144 A144 c144 hW137 hc => ⟨(hS.nw hc (by intro k hk ht; omega)), ?_⟩))
                    have hzw144 := hc.size
                    have hab := hab.ch hc (by intro k hk ht; omega)
                    first | have hS143 := hS143.ch hc (by intro k hk ht; omega) | have hS143 := hS143.chT hc (by intro k hz hk ht; omega)
                    have hS := (hS.nw hc (by intro k hk ht; omega))
                    refine ws_alt ?_ ?_
                    ·
                     refine ws_e rfl rfl (e_call ent89 rfl rfl (IH (n - 1) (by omega) (by omega) (hr128.no hS) (hW137.si) (by omega) (by omega)) ?_)
                     rintro _ w145 ⟨h145, A145, l145, c145, r145, ok145, rfl, hr145, hpr145, hc⟩
                     refine ⟨_, rfl, hS.tr hc, ?_⟩
                     have hzw145 := hc.size
                     have hab := hab.no hc
                     have hW137 := hW137.after hc
                     have hS143 := hS143.no hc
                     have hS := hS.tr hc
                     refine ws_p rfl rfl rfl rfl (p_mv rfl) ?_
                     refine ws_p rfl rfl rfl rfl (p_ext rfl rfl) ?_
                     refine ws_p rfl rfl rfl rfl (p_ext rfl rfl) ?_
                     refine ws_p rfl rfl rfl rfl (p_ext rfl rfl) ?_
                     refine ws_e rfl rfl (e_alloc (cs := ((List.replicate 32 (0 : UInt8)).map u8v).toArray) rfl (by rfl) rfl (fun w146 g15 hg15 hb15 hc hsz15 => ⟨hS.tr hc, ?_⟩))
                     have hzw146 := hc.size
                     have hab := hab.no hc
                     have hW137 := hW137.after hc
                     have hS143 := hS143.no hc
                     have hr145 := hr145.no hc
                     have hge15 : w.heap.size ≤ g15 := by have := HC.size; omega
                     have hS := hS.tr hc
                     refine ws_l rfl rfl (e_stH sz38 (List.length_replicate ..) hpr145.len rfl rfl hb15 (fun w147 hb15 hc hsz => ?_))
                     have hzw147 := hc.size
                     have hab := hab.ch hc (by intro k hk ht; omega)
                     have hW137 := hW137.ch hc (by intro k hz hk ht; omega)
                     first | have hS143 := hS143.ch hc (by intro k hk ht; omega) | have hS143 := hS143.chT hc (by intro k hz hk ht; omega)
                     first | have hr145 := hr145.ch hc (by intro k hk ht; omega) | have hr145 := hr145.chT hc (by intro k hz hk ht; omega)
                     have hS := (hS.nw hc (by intro k hk ht; omega))
                     refine ws_p rfl rfl rfl rfl (p_as rfl) ?_
                     refine ws_p rfl rfl rfl rfl (p_as rfl) ?_
                     refine ws_n ?_
                     exact x_meet (by repeat (first | exact trivial | refine ⟨rfl, ?_⟩)) ⟨g15, h145, A145, l145, c145, r145, ok145, rfl, HC.tr hS, hl.no hS, hab, hb4.ch hS (fun h => h), hb7.ch hS (fun h => h), hb8.ch hS (fun h => h), (by omega), hb15, hr145, hpr145, (by omega), hb12.ch hS (fun h => h), (by omega)⟩
                    ·
                     refine ws_e rfl rfl (e_alloc (cs := ((List.replicate 32 (0 : UInt8)).map u8v).toArray) rfl (by rfl) rfl (fun w148 g15 hg15 hb15 hc hsz15 => ⟨hS.tr hc, ?_⟩))
                     have hzw148 := hc.size
                     have hab := hab.no hc
                     have hW137 := hW137.after hc
                     have hS143 := hS143.no hc
                     have hge15 : w.heap.size ≤ g15 := by have := HC.size; omega
                     have hS := hS.tr hc
                     refine ws_e rfl rfl (e_call ent89 rfl rfl (IH (n - 1) (by omega) (by omega) (hr128.no hS) (hW137.si) (by omega) (by omega)) ?_)
                     rintro _ w149 ⟨h145, A145, l145, c145, r145, ok145, rfl, hr145, hpr145, hc⟩
                     refine ⟨_, rfl, hS.tr hc, ?_⟩
                     have hzw149 := hc.size
                     have hab := hab.no hc
                     have hW137 := hW137.after hc
                     have hS143 := hS143.no hc
                     have hb15 := hb15.ch hc (fun h => h)
                     have hS := hS.tr hc
                     refine ws_p rfl rfl rfl rfl (p_mv rfl) ?_
                     refine ws_p rfl rfl rfl rfl (p_ext rfl rfl) ?_
                     refine ws_p rfl rfl rfl rfl (p_ext rfl rfl) ?_
                     refine ws_p rfl rfl rfl rfl (p_ext rfl rfl) ?_
                     refine ws_l rfl rfl (e_stH sz38 (List.length_replicate ..) hpr145.len rfl rfl hb15 (fun w150 hb15 hc hsz => ?_))
                     have hzw150 := hc.size
                     have hab := hab.ch hc (by intro k hk ht; omega)
                     have hW137 := hW137.ch hc (by intro k hz hk ht; omega)
                     first | have hS143 := hS143.ch hc (by intro k hk ht; omega) | have hS143 := hS143.chT hc (by intro k hz hk ht; omega)
                     first | have hr145 := hr145.ch hc (by intro k hk ht; omega) | have hr145 := hr145.chT hc (by intro k hz hk ht; omega)
                     have hS := (hS.nw hc (by intro k hk ht; omega))
                     refine ws_p rfl rfl rfl rfl (p_as rfl) ?_
                     refine ws_p rfl rfl rfl rfl (p_as rfl) ?_
                     refine ws_n ?_
                     exact x_meet (by repeat (first | exact trivial | refine ⟨rfl, ?_⟩)) ⟨g15, h145, A145, l145, c145, r145, ok145, rfl, HC.tr hS, hl.no hS, hab, hb4.ch hS (fun h => h), hb7.ch hS (fun h => h), hb8.ch hS (fun h => h), (by omega), hb15, hr145, hpr145, (by omega), hb12.ch hS (fun h => h), (by omega)⟩
                   ·
                    refine ws_e rfl rfl (e_alloc (cs := ((List.replicate 32 (0 : UInt8)).map u8v).toArray) rfl (by rfl) rfl (fun w151 g15 hg15 hb15 hc hsz15 => ⟨hS.tr hc, ?_⟩))
                    have hzw151 := hc.size
                    have hab := hab.no hc
                    have hW137 := hW137.after hc
                    have hS143 := hS143.no hc
                    have hge15 : w.heap.size ≤ g15 := by have := HC.size; omega
                    have hS := hS.tr hc
                    have hltg15 := hb15.lt
                    refine ws_e rfl rfl (e_appI rfl el188 rfl rfl hW137 (hS143) (by omega) (by intro k hk; first | omega | (dsimp only at *; omega)) (fun w152 A144 c144 hW137 hc => ⟨(hS.nw hc (by intro k hk ht; omega)), ?_⟩))
                    have hzw152 := hc.size
                    have hab := hab.ch hc (by intro k hk ht; omega)
                    first | have hS143 := hS143.ch hc (by intro k hk ht; omega) | have hS143 := hS143.chT hc (by intro k hz hk ht; omega)
                    have hb15 := hb15.ch hc (by omega)
                    have hS := (hS.nw hc (by intro k hk ht; omega))
                    refine ws_e rfl rfl (e_call ent89 rfl rfl (IH (n - 1) (by omega) (by omega) (hr128.no hS) (hW137.si) (by omega) (by omega)) ?_)
                    rintro _ w153 ⟨h145, A145, l145, c145, r145, ok145, rfl, hr145, hpr145, hc⟩
                    refine ⟨_, rfl, hS.tr hc, ?_⟩
                    have hzw153 := hc.size
                    have hab := hab.no hc
                    have hW137 := hW137.after hc
                    have hS143 := hS143.no hc
                    have hb15 := hb15.ch hc (fun h => h)
                    have hS := hS.tr hc
                    refine ws_p rfl rfl rfl rfl (p_mv rfl) ?_
                    refine ws_p rfl rfl rfl rfl (p_ext rfl rfl) ?_
                    refine ws_p rfl rfl rfl rfl (p_ext rfl rfl) ?_
                    refine ws_p rfl rfl rfl rfl (p_ext rfl rfl) ?_
                    refine ws_l rfl rfl (e_stH sz38 (List.length_replicate ..) hpr145.len rfl rfl hb15 (fun w154 hb15 hc hsz => ?_))
                    have hzw154 := hc.size
                    have hab := hab.ch hc (by intro k hk ht; omega)
                    have hW137 := hW137.ch hc (by intro k hz hk ht; omega)
                    first | have hS143 := hS143.ch hc (by intro k hk ht; omega) | have hS143 := hS143.chT hc (by intro k hz hk ht; omega)
                    first | have hr145 := hr145.ch hc (by intro k hk ht; omega) | have hr145 := hr145.chT hc (by intro k hz hk ht; omega)
                    have hS := (hS.nw hc (by intro k hk ht; omega))
                    refine ws_p rfl rfl rfl rfl (p_as rfl) ?_
                    refine ws_p rfl rfl rfl rfl (p_as rfl) ?_
                    refine ws_n ?_
                    exact x_meet (by repeat (first | exact trivial | refine ⟨rfl, ?_⟩)) ⟨g15, h145, A145, l145, c145, r145, ok145, rfl, HC.tr hS, hl.no hS, hab, hb4.ch hS (fun h => h), hb7.ch hS (fun h => h), hb8.ch hS (fun h => h), (by omega), hb15, hr145, hpr145, (by omega), hb12.ch hS (fun h => h), (by omega)⟩
                  ·
                   refine ws_e rfl rfl (e_alloc (cs := ((List.replicate 32 (0 : UInt8)).map u8v).toArray) rfl (by rfl) rfl (fun w155 g15 hg15 hb15 hc hsz15 => ⟨hS.tr hc, ?_⟩))
                   have hzw155 := hc.size
                   have hab := hab.no hc
                   have hW137 := hW137.after hc
                   have hS143 := hS143.no hc
                   have hge15 : w.heap.size ≤ g15 := by have := HC.size; omega
                   have hS := hS.tr hc
                   have hltg15 := hb15.lt
                   refine ws_e rfl rfl (e_appI rfl el188 rfl rfl hW137 (hab) (by omega) (by intro k hk; first | omega | (dsimp only at *; omega)) (fun w156 A139 c139 hW137 hc => ⟨(hS.nw hc (by intro k hk ht; omega)), ?_⟩))
                   have hzw156 := hc.size
                   have hab := hab.ch hc (by intro k hk ht; omega)
                   first | have hS143 := hS143.ch hc (by intro k hk ht; omega) | have hS143 := hS143.chT hc (by intro k hz hk ht; omega)
                   have hb15 := hb15.ch hc (by omega)
                   have hS := (hS.nw hc (by intro k hk ht; omega))
                   have hltg15 := hb15.lt
                   refine ws_e rfl rfl (e_appI rfl el188 rfl rfl hW137 (hS143) (by omega) (by intro k hk; first | omega | (dsimp only at *; omega)) (fun w157 A144 c144 hW137 hc => ⟨(hS.nw hc (by intro k hk ht; omega)), ?_⟩))
                   have hzw157 := hc.size
                   have hab := hab.ch hc (by intro k hk ht; omega)
                   first | have hS143 := hS143.ch hc (by intro k hk ht; omega) | have hS143 := hS143.chT hc (by intro k hz hk ht; omega)
                   have hb15 := hb15.ch hc (by omega)
                   have hS := (hS.nw hc (by intro k hk ht; omega))
                   refine ws_e rfl rfl (e_call ent89 rfl rfl (IH (n - 1) (by omega) (by omega) (hr128.no hS) (hW137.si) (by omega) (by omega)) ?_)
                   rintro _ w158 ⟨h145, A145, l145, c145, r145, ok145, rfl, hr145, hpr145, hc⟩
                   refine ⟨_, rfl, hS.tr hc, ?_⟩
                   have hzw158 := hc.size
                   have hab := hab.no hc
                   have hW137 := hW137.after hc
                   have hS143 := hS143.no hc
                   have hb15 := hb15.ch hc (fun h => h)
                   have hS := hS.tr hc
                   refine ws_p rfl rfl rfl rfl (p_mv rfl) ?_
                   refine ws_p rfl rfl rfl rfl (p_ext rfl rfl) ?_
                   refine ws_p rfl rfl rfl rfl (p_ext rfl rfl) ?_
                   refine ws_p rfl rfl rfl rfl (p_ext rfl rfl) ?_
                   refine ws_l rfl rfl (e_stH sz38 (List.length_replicate ..) hpr145.len rfl rfl hb15 (fun w159 hb15 hc hsz => ?_))
                   have hzw159 := hc.size
                   have hab := hab.ch hc (by intro k hk ht; omega)
                   have hW137 := hW137.ch hc (by intro k hz hk ht; omega)
                   first | have hS143 := hS143.ch hc (by intro k hk ht; omega) | have hS143 := hS143.chT hc (by intro k hz hk ht; omega)
                   first | have hr145 := hr145.ch hc (by intro k hk ht; omega) | have hr145 := hr145.chT hc (by intro k hz hk ht; omega)
                   have hS := (hS.nw hc (by intro k hk ht; omega))
                   refine ws_p rfl rfl rfl rfl (p_as rfl) ?_
                   refine ws_p rfl rfl rfl rfl (p_as rfl) ?_
                   refine ws_n ?_
                   exact x_meet (by repeat (first | exact trivial | refine ⟨rfl, ?_⟩)) ⟨g15, h145, A145, l145, c145, r145, ok145, rfl, HC.tr hS, hl.no hS, hab, hb4.ch hS (fun h => h), hb7.ch hS (fun h => h), hb8.ch hS (fun h => h), (by omega), hb15, hr145, hpr145, (by omega), hb12.ch hS (fun h => h), (by omega)⟩
                 ·
                  refine ws_e rfl rfl (e_alloc (cs := ((List.replicate 32 (0 : UInt8)).map u8v).toArray) rfl (by rfl) rfl (fun w160 g15 hg15 hb15 hc hsz15 => ⟨hS.tr hc, ?_⟩))
                  have hzw160 := hc.size
                  have hab := hab.no hc
                  have hW137 := hW137.after hc
                  have hge15 : w.heap.size ≤ g15 := by have := HC.size; omega
                  have hS := hS.tr hc
                  refine ws_alt ?_ ?_
                  ·
                   have hltg15 := hb15.lt
                   refine ws_e rfl rfl (e_appI rfl el188 rfl rfl hW137 (hab) (by omega) (by intro k hk; first | omega | (dsimp only at *; omega)) (fun w161 A139 c139 hW137 hc => ⟨(hS.nw hc (by intro k hk ht; omega)), ?_⟩))
                   have hzw161 := hc.size
                   have hab := hab.ch hc (by intro k hk ht; omega)
                   have hb15 := hb15.ch hc (by omega)
                   have hS := (hS.nw hc (by intro k hk ht; omega))
                   have hltg15 := hb15.lt
                   refine ws_e rfl rfl (e_bslX (E := 190) (cs := ([i64 x5.bit, .int .i64 (1)] : List Value)) (cs' := ([i64 x5.bit, .int .i64 (1)] : List Value)) rfl rfl rfl (fun _ => by kernel_rfl) (fun w162 g143 hg143 hb143 hc hsz143 => ⟨hS.tr hc, ?_⟩))
                   have hzw162 := hc.size
                   have hab := hab.no hc
                   have hW137 := hW137.after hc
                   have hb15 := hb15.ch hc (fun h => h)
                   have hge143 := hg143
                   have hS143 := SI.oneA (E := eTN) (x := ⟨x5.bit, (1)⟩) hb143 rfl trivial
                   have hS := hS.tr hc
                   have hltg15 := hb15.lt
                   refine ws_e rfl rfl (e_appI rfl el188 rfl rfl hW137 (hS143) (by omega) (by intro k hk; first | omega | (dsimp only at *; omega)) (fun w163 A144 c144 hW137 hc => ⟨(hS.nw hc (by intro k hk ht; omega)), ?_⟩))
                   have hzw163 := hc.size
                   have hab := hab.ch hc (by intro k hk ht; omega)
                   have hb15 := hb15.ch hc (by omega)
                   first | have hS143 := hS143.ch hc (by intro k hk ht; omega) | have hS143 := hS143.chT hc (by intro k hz hk ht; omega)
                   have hS := (hS.nw hc (by intro k hk ht; omega))
                   refine ws_e rfl rfl (e_call ent89 rfl rfl (IH (n - 1) (by omega) (by omega) (hr128.no hS) (hW137.si) (by omega) (by omega)) ?_)
                   rintro _ w164 ⟨h145, A145, l145, c145, r145, ok145, rfl, hr145, hpr145, hc⟩
                   refine ⟨_, rfl, hS.tr hc, ?_⟩
                   have hzw164 := hc.size
                   have hab := hab.no hc
                   have hW137 := hW137.after hc
                   have hb15 := hb15.ch hc (fun h => h)
                   have hS143 := hS143.no hc
                   have hS := hS.tr hc
                   refine ws_p rfl rfl rfl rfl (p_mv rfl) ?_
                   refine ws_p rfl rfl rfl rfl (p_ext rfl rfl) ?_
                   refine ws_p rfl rfl rfl rfl (p_ext rfl rfl) ?_
                   refine ws_p rfl rfl rfl rfl (p_ext rfl rfl) ?_
                   refine ws_l rfl rfl (e_stH sz38 (List.length_replicate ..) hpr145.len rfl rfl hb15 (fun w165 hb15 hc hsz => ?_))
                   have hzw165 := hc.size
                   have hab := hab.ch hc (by intro k hk ht; omega)
                   have hW137 := hW137.ch hc (by intro k hz hk ht; omega)
                   first | have hS143 := hS143.ch hc (by intro k hk ht; omega) | have hS143 := hS143.chT hc (by intro k hz hk ht; omega)
                   first | have hr145 := hr145.ch hc (by intro k hk ht; omega) | have hr145 := hr145.chT hc (by intro k hz hk ht; omega)
                   have hS := (hS.nw hc (by intro k hk ht; omega))
                   refine ws_p rfl rfl rfl rfl (p_as rfl) ?_
                   refine ws_p rfl rfl rfl rfl (p_as rfl) ?_
                   refine ws_n ?_
                   exact x_meet (by repeat (first | exact trivial | refine ⟨rfl, ?_⟩)) ⟨g15, h145, A145, l145, c145, r145, ok145, rfl, HC.tr hS, hl.no hS, hab, hb4.ch hS (fun h => h), hb7.ch hS (fun h => h), hb8.ch hS (fun h => h), (by omega), hb15, hr145, hpr145, (by omega), hb12.ch hS (fun h => h), (by omega)⟩
                  ·
                   have hltg15 := hb15.lt
                   refine ws_e rfl rfl (e_bslX (E := 190) (cs := ([i64 x5.bit, .int .i64 (1)] : List Value)) (cs' := ([i64 x5.bit, .int .i64 (1)] : List Value)) rfl rfl rfl (fun _ => by kernel_rfl) (fun w166 g143 hg143 hb143 hc hsz143 => ⟨hS.tr hc, ?_⟩))
                   have hzw166 := hc.size
                   have hab := hab.no hc
                   have hW137 := hW137.after hc
                   have hb15 := hb15.ch hc (fun h => h)
                   have hge143 := hg143
                   have hS143 := SI.oneA (E := eTN) (x := ⟨x5.bit, (1)⟩) hb143 rfl trivial
                   have hS := hS.tr hc
                   have hltg15 := hb15.lt
                   refine ws_e rfl rfl (e_appI rfl el188 rfl rfl hW137 (hab) (by omega) (by intro k hk; first | omega | (dsimp only at *; omega)) (fun w167 A139 c139 hW137 hc => ⟨(hS.nw hc (by intro k hk ht; omega)), ?_⟩))
                   have hzw167 := hc.size
                   have hab := hab.ch hc (by intro k hk ht; omega)
                   have hb15 := hb15.ch hc (by omega)
                   first | have hS143 := hS143.ch hc (by intro k hk ht; omega) | have hS143 := hS143.chT hc (by intro k hz hk ht; omega)
                   have hS := (hS.nw hc (by intro k hk ht; omega))
                   have hltg15 := hb15.lt
                   refine ws_e rfl rfl (e_appI rfl el188 rfl rfl hW137 (hS143) (by omega) (by intro k hk; first | omega | (dsimp only at *; omega)) (fun w168 A144 c144 hW137 hc => ⟨(hS.nw hc (by intro k hk ht; omega)), ?_⟩))
                   have hzw168 := hc.size
                   have hab := hab.ch hc (by intro k hk ht; omega)
                   have hb15 := hb15.ch hc (by omega)
                   first | have hS143 := hS143.ch hc (by intro k hk ht; omega) | have hS143 := hS143.chT hc (by intro k hz hk ht; omega)
                   have hS := (hS.nw hc (by intro k hk ht; omega))
                   refine ws_e rfl rfl (e_call ent89 rfl rfl (IH (n - 1) (by omega) (by omega) (hr128.no hS) (hW137.si) (by omega) (by omega)) ?_)
                   rintro _ w169 ⟨h145, A145, l145, c145, r145, ok145, rfl, hr145, hpr145, hc⟩
                   refine ⟨_, rfl, hS.tr hc, ?_⟩
                   have hzw169 := hc.size
                   have hab := hab.no hc
                   have hW137 := hW137.after hc
                   have hb15 := hb15.ch hc (fun h => h)
                   have hS143 := hS143.no hc
                   have hS := hS.tr hc
                   refine ws_p rfl rfl rfl rfl (p_mv rfl) ?_
                   refine ws_p rfl rfl rfl rfl (p_ext rfl rfl) ?_
                   refine ws_p rfl rfl rfl rfl (p_ext rfl rfl) ?_
                   refine ws_p rfl rfl rfl rfl (p_ext rfl rfl) ?_
                   refine ws_l rfl rfl (e_stH sz38 (List.length_replicate ..) hpr145.len rfl rfl hb15 (fun w170 hb15 hc hsz => ?_))
                   have hzw170 := hc.size
                   have hab := hab.ch hc (by intro k hk ht; omega)
                   have hW137 := hW137.ch hc (by intro k hz hk ht; omega)
                   first | have hS143 := hS143.ch hc (by intro k hk ht; omega) | have hS143 := hS143.chT hc (by intro k hz hk ht; omega)
                   first | have hr145 := hr145.ch hc (by intro k hk ht; omega) | have hr145 := hr145.chT hc (by intro k hz hk ht; omega)
                   have hS := (hS.nw hc (by intro k hk ht; omega))
                   refine ws_p rfl rfl rfl rfl (p_as rfl) ?_
                   refine ws_p rfl rfl rfl rfl (p_as rfl) ?_
                   refine ws_n ?_
                   exact x_meet (by repeat (first | exact trivial | refine ⟨rfl, ?_⟩)) ⟨g15, h145, A145, l145, c145, r145, ok145, rfl, HC.tr hS, hl.no hS, hab, hb4.ch hS (fun h => h), hb7.ch hS (fun h => h), hb8.ch hS (fun h => h), (by omega), hb15, hr145, hpr145, (by omega), hb12.ch hS (fun h => h), (by omega)⟩
               ·
                refine ws_alt ?_ ?_
                ·
                 refine ws_e rfl rfl (e_bslX (E := 190) (cs := ([i64 x5.bit, .int .i64 (1)] : List Value)) (cs' := ([i64 x5.bit, .int .i64 (1)] : List Value)) rfl rfl rfl (fun _ => by kernel_rfl) (fun w171 g143 hg143 hb143 hc hsz143 => ⟨hS.tr hc, ?_⟩))
                 have hzw171 := hc.size
                 have hab := hab.no hc
                 have hge143 := hg143
                 have hS143 := SI.oneA (E := eTN) (x := ⟨x5.bit, (1)⟩) hb143 rfl trivial
                 have hS := hS.tr hc
                 refine ws_alt ?_ ?_
                 ·
                  refine ws_e rfl rfl (e_bsl (cs := #[]) (E := 190) rfl rfl (fun _ => by kernel_rfl) (fun w172 g137 hg137 hb137 hc hsz137 => ⟨hS.tr hc, ?_⟩))
                  have hzw172 := hc.size
                  have hab := hab.no hc
                  have hS143 := hS143.no hc
                  have hge137 : w.heap.size ≤ g137 := by have := HC.size; omega
                  have hW137 := RI.lit0 (E := eTN) hb137
                  have hS := hS.tr hc
                  refine ws_alt ?_ ?_
                  ·
                   refine ws_e rfl rfl (e_appI rfl el188 rfl rfl hW137 (hab) (by omega) (by intro k hk; first | omega | (dsimp only at *; omega)) (fun w173 A139 c139 hW137 hc => ⟨(hS.nw hc (by intro k hk ht; omega)), ?_⟩))
                   have hzw173 := hc.size
                   have hab := hab.ch hc (by intro k hk ht; omega)
                   first | have hS143 := hS143.ch hc (by intro k hk ht; omega) | have hS143 := hS143.chT hc (by intro k hz hk ht; omega)
                   have hS := (hS.nw hc (by intro k hk ht; omega))
                   refine ws_alt ?_ ?_
                   ·
                    refine ws_e rfl rfl (e_appI rfl el188 rfl rfl hW137 (hS143) (by omega) (by intro k hk; first | omega | (dsimp only at *; omega)) (fun w174 A144 c144 hW137 hc => ⟨(hS.nw hc (by intro k hk ht; omega)), ?_⟩))
                    have hzw174 := hc.size
                    have hab := hab.ch hc (by intro k hk ht; omega)
                    first | have hS143 := hS143.ch hc (by intro k hk ht; omega) | have hS143 := hS143.chT hc (by intro k hz hk ht; omega)
                    have hS := (hS.nw hc (by intro k hk ht; omega))
                    refine ws_alt ?_ ?_
                    ·
                     refine ws_e rfl rfl (e_call ent89 rfl rfl (IH (n - 1) (by omega) (by omega) (hr128.no hS) (hW137.si) (by omega) (by omega)) ?_)
                     rintro _ w175 ⟨h145, A145, l145, c145, r145, ok145, rfl, hr145, hpr145, hc⟩
                     refine ⟨_, rfl, hS.tr hc, ?_⟩
                     have hzw175 := hc.size
                     have hab := hab.no hc
                     have hS143 := hS143.no hc
                     have hW137 := hW137.after hc
                     have hS := hS.tr hc
                     refine ws_p rfl rfl rfl rfl (p_mv rfl) ?_
                     refine ws_p rfl rfl rfl rfl (p_ext rfl rfl) ?_
                     refine ws_p rfl rfl rfl rfl (p_ext rfl rfl) ?_
                     refine ws_p rfl rfl rfl rfl (p_ext rfl rfl) ?_
                     refine ws_e rfl rfl (e_alloc (cs := ((List.replicate 32 (0 : UInt8)).map u8v).toArray) rfl (by rfl) rfl (fun w176 g15 hg15 hb15 hc hsz15 => ⟨hS.tr hc, ?_⟩))
                     have hzw176 := hc.size
                     have hab := hab.no hc
                     have hS143 := hS143.no hc
                     have hW137 := hW137.after hc
                     have hr145 := hr145.no hc
                     have hge15 : w.heap.size ≤ g15 := by have := HC.size; omega
                     have hS := hS.tr hc
                     refine ws_l rfl rfl (e_stH sz38 (List.length_replicate ..) hpr145.len rfl rfl hb15 (fun w177 hb15 hc hsz => ?_))
                     have hzw177 := hc.size
                     have hab := hab.ch hc (by intro k hk ht; omega)
                     first | have hS143 := hS143.ch hc (by intro k hk ht; omega) | have hS143 := hS143.chT hc (by intro k hz hk ht; omega)
                     have hW137 := hW137.ch hc (by intro k hz hk ht; omega)
                     first | have hr145 := hr145.ch hc (by intro k hk ht; omega) | have hr145 := hr145.chT hc (by intro k hz hk ht; omega)
                     have hS := (hS.nw hc (by intro k hk ht; omega))
                     refine ws_p rfl rfl rfl rfl (p_as rfl) ?_
                     refine ws_p rfl rfl rfl rfl (p_as rfl) ?_
                     refine ws_n ?_
                     exact x_meet (by repeat (first | exact trivial | refine ⟨rfl, ?_⟩)) ⟨g15, h145, A145, l145, c145, r145, ok145, rfl, HC.tr hS, hl.no hS, hab, hb4.ch hS (fun h => h), hb7.ch hS (fun h => h), hb8.ch hS (fun h => h), (by omega), hb15, hr145, hpr145, (by omega), hb12.ch hS (fun h => h), (by omega)⟩
                    ·
                     refine ws_e rfl rfl (e_alloc (cs := ((List.replicate 32 (0 : UInt8)).map u8v).toArray) rfl (by rfl) rfl (fun w178 g15 hg15 hb15 hc hsz15 => ⟨hS.tr hc, ?_⟩))
                     have hzw178 := hc.size
                     have hab := hab.no hc
                     have hS143 := hS143.no hc
                     have hW137 := hW137.after hc
                     have hge15 : w.heap.size ≤ g15 := by have := HC.size; omega
                     have hS := hS.tr hc
                     refine ws_e rfl rfl (e_call ent89 rfl rfl (IH (n - 1) (by omega) (by omega) (hr128.no hS) (hW137.si) (by omega) (by omega)) ?_)
                     rintro _ w179 ⟨h145, A145, l145, c145, r145, ok145, rfl, hr145, hpr145, hc⟩
                     refine ⟨_, rfl, hS.tr hc, ?_⟩
                     have hzw179 := hc.size
                     have hab := hab.no hc
                     have hS143 := hS143.no hc
                     have hW137 := hW137.after hc
                     have hb15 := hb15.ch hc (fun h => h)
                     have hS := hS.tr hc
                     refine ws_p rfl rfl rfl rfl (p_mv rfl) ?_
                     refine ws_p rfl rfl rfl rfl (p_ext rfl rfl) ?_
                     refine ws_p rfl rfl rfl rfl (p_ext rfl rfl) ?_
                     refine ws_p rfl rfl rfl rfl (p_ext rfl rfl) ?_
                     refine ws_l rfl rfl (e_stH sz38 (List.length_replicate ..) hpr145.len rfl rfl hb15 (fun w180 hb15 hc hsz => ?_))
                     have hzw180 := hc.size
                     have hab := hab.ch hc (by intro k hk ht; omega)
                     first | have hS143 := hS143.ch hc (by intro k hk ht; omega) | have hS143 := hS143.chT hc (by intro k hz hk ht; omega)
                     have hW137 := hW137.ch hc (by intro k hz hk ht; omega)
                     first | have hr145 := hr145.ch hc (by intro k hk ht; omega) | have hr145 := hr145.chT hc (by intro k hz hk ht; omega)
                     have hS := (hS.nw hc (by intro k hk ht; omega))
                     refine ws_p rfl rfl rfl rfl (p_as rfl) ?_
                     refine ws_p rfl rfl rfl rfl (p_as rfl) ?_
                     refine ws_n ?_
                     exact x_meet (by repeat (first | exact trivial | refine ⟨rfl, ?_⟩)) ⟨g15, h145, A145, l145, c145, r145, ok145, rfl, HC.tr hS, hl.no hS, hab, hb4.ch hS (fun h => h), hb7.ch hS (fun h => h), hb8.ch hS (fun h => h), (by omega), hb15, hr145, hpr145, (by omega), hb12.ch hS (fun h => h), (by omega)⟩
                   ·
                    refine ws_e rfl rfl (e_alloc (cs := ((List.replicate 32 (0 : UInt8)).map u8v).toArray) rfl (by rfl) rfl (fun w181 g15 hg15 hb15 hc hsz15 => ⟨hS.tr hc, ?_⟩))
                    have hzw181 := hc.size
                    have hab := hab.no hc
                    have hS143 := hS143.no hc
                    have hW137 := hW137.after hc
                    have hge15 : w.heap.size ≤ g15 := by have := HC.size; omega
                    have hS := hS.tr hc
                    have hltg15 := hb15.lt
                    refine ws_e rfl rfl (e_appI rfl el188 rfl rfl hW137 (hS143) (by omega) (by intro k hk; first | omega | (dsimp only at *; omega)) (fun w182 A144 c144 hW137 hc => ⟨(hS.nw hc (by intro k hk ht; omega)), ?_⟩))
                    have hzw182 := hc.size
                    have hab := hab.ch hc (by intro k hk ht; omega)
                    first | have hS143 := hS143.ch hc (by intro k hk ht; omega) | have hS143 := hS143.chT hc (by intro k hz hk ht; omega)
                    have hb15 := hb15.ch hc (by omega)
                    have hS := (hS.nw hc (by intro k hk ht; omega))
                    refine ws_e rfl rfl (e_call ent89 rfl rfl (IH (n - 1) (by omega) (by omega) (hr128.no hS) (hW137.si) (by omega) (by omega)) ?_)
                    rintro _ w183 ⟨h145, A145, l145, c145, r145, ok145, rfl, hr145, hpr145, hc⟩
                    refine ⟨_, rfl, hS.tr hc, ?_⟩
                    have hzw183 := hc.size
                    have hab := hab.no hc
                    have hS143 := hS143.no hc
                    have hW137 := hW137.after hc
                    have hb15 := hb15.ch hc (fun h => h)
                    have hS := hS.tr hc
                    refine ws_p rfl rfl rfl rfl (p_mv rfl) ?_
                    refine ws_p rfl rfl rfl rfl (p_ext rfl rfl) ?_
                    refine ws_p rfl rfl rfl rfl (p_ext rfl rfl) ?_
                    refine ws_p rfl rfl rfl rfl (p_ext rfl rfl) ?_
                    refine ws_l rfl rfl (e_stH sz38 (List.length_replicate ..) hpr145.len rfl rfl hb15 (fun w184 hb15 hc hsz => ?_))
                    have hzw184 := hc.size
                    have hab := hab.ch hc (by intro k hk ht; omega)
                    first | have hS143 := hS143.ch hc (by intro k hk ht; omega) | have hS143 := hS143.chT hc (by intro k hz hk ht; omega)
                    have hW137 := hW137.ch hc (by intro k hz hk ht; omega)
                    first | have hr145 := hr145.ch hc (by intro k hk ht; omega) | have hr145 := hr145.chT hc (by intro k hz hk ht; omega)
                    have hS := (hS.nw hc (by intro k hk ht; omega))
                    refine ws_p rfl rfl rfl rfl (p_as rfl) ?_
                    refine ws_p rfl rfl rfl rfl (p_as rfl) ?_
                    refine ws_n ?_
                    exact x_meet (by repeat (first | exact trivial | refine ⟨rfl, ?_⟩)) ⟨g15, h145, A145, l145, c145, r145, ok145, rfl, HC.tr hS, hl.no hS, hab, hb4.ch hS (fun h => h), hb7.ch hS (fun h => h), hb8.ch hS (fun h => h), (by omega), hb15, hr145, hpr145, (by omega), hb12.ch hS (fun h => h), (by omega)⟩
                  ·
                   refine ws_e rfl rfl (e_alloc (cs := ((List.replicate 32 (0 : UInt8)).map u8v).toArray) rfl (by rfl) rfl (fun w185 g15 hg15 hb15 hc hsz15 => ⟨hS.tr hc, ?_⟩))
                   have hzw185 := hc.size
                   have hab := hab.no hc
                   have hS143 := hS143.no hc
                   have hW137 := hW137.after hc
                   have hge15 : w.heap.size ≤ g15 := by have := HC.size; omega
                   have hS := hS.tr hc
                   have hltg15 := hb15.lt
                   refine ws_e rfl rfl (e_appI rfl el188 rfl rfl hW137 (hab) (by omega) (by intro k hk; first | omega | (dsimp only at *; omega)) (fun w186 A139 c139 hW137 hc => ⟨(hS.nw hc (by intro k hk ht; omega)), ?_⟩))
                   have hzw186 := hc.size
                   have hab := hab.ch hc (by intro k hk ht; omega)
                   first | have hS143 := hS143.ch hc (by intro k hk ht; omega) | have hS143 := hS143.chT hc (by intro k hz hk ht; omega)
                   have hb15 := hb15.ch hc (by omega)
                   have hS := (hS.nw hc (by intro k hk ht; omega))
                   have hltg15 := hb15.lt
                   refine ws_e rfl rfl (e_appI rfl el188 rfl rfl hW137 (hS143) (by omega) (by intro k hk; first | omega | (dsimp only at *; omega)) (fun w187 A144 c144 hW137 hc => ⟨(hS.nw hc (by intro k hk ht; omega)), ?_⟩))
                   have hzw187 := hc.size
                   have hab := hab.ch hc (by intro k hk ht; omega)
                   first | have hS143 := hS143.ch hc (by intro k hk ht; omega) | have hS143 := hS143.chT hc (by intro k hz hk ht; omega)
                   have hb15 := hb15.ch hc (by omega)
                   have hS := (hS.nw hc (by intro k hk ht; omega))
                   refine ws_e rfl rfl (e_call ent89 rfl rfl (IH (n - 1) (by omega) (by omega) (hr128.no hS) (hW137.si) (by omega) (by omega)) ?_)
                   rintro _ w188 ⟨h145, A145, l145, c145, r145, ok145, rfl, hr145, hpr145, hc⟩
                   refine ⟨_, rfl, hS.tr hc, ?_⟩
                   have hzw188 := hc.size
                   have hab := hab.no hc
                   have hS143 := hS143.no hc
                   have hW137 := hW137.after hc
                   have hb15 := hb15.ch hc (fun h => h)
                   have hS := hS.tr hc
                   refine ws_p rfl rfl rfl rfl (p_mv rfl) ?_
                   refine ws_p rfl rfl rfl rfl (p_ext rfl rfl) ?_
                   refine ws_p rfl rfl rfl rfl (p_ext rfl rfl) ?_
                   refine ws_p rfl rfl rfl rfl (p_ext rfl rfl) ?_
                   refine ws_l rfl rfl (e_stH sz38 (List.length_replicate ..) hpr145.len rfl rfl hb15 (fun w189 hb15 hc hsz => ?_))
                   have hzw189 := hc.size
                   have hab := hab.ch hc (by intro k hk ht; omega)
                   first | have hS143 := hS143.ch hc (by intro k hk ht; omega) | have hS143 := hS143.chT hc (by intro k hz hk ht; omega)
                   have hW137 := hW137.ch hc (by intro k hz hk ht; omega)
                   first | have hr145 := hr145.ch hc (by intro k hk ht; omega) | have hr145 := hr145.chT hc (by intro k hz hk ht; omega)
                   have hS := (hS.nw hc (by intro k hk ht; omega))
                   refine ws_p rfl rfl rfl rfl (p_as rfl) ?_
                   refine ws_p rfl rfl rfl rfl (p_as rfl) ?_
                   refine ws_n ?_
                   exact x_meet (by repeat (first | exact trivial | refine ⟨rfl, ?_⟩)) ⟨g15, h145, A145, l145, c145, r145, ok145, rfl, HC.tr hS, hl.no hS, hab, hb4.ch hS (fun h => h), hb7.ch hS (fun h => h), hb8.ch hS (fun h => h), (by omega), hb15, hr145, hpr145, (by omega), hb12.ch hS (fun h => h), (by omega)⟩
                 ·
                  refine ws_e rfl rfl (e_alloc (cs := ((List.replicate 32 (0 : UInt8)).map u8v).toArray) rfl (by rfl) rfl (fun w190 g15 hg15 hb15 hc hsz15 => ⟨hS.tr hc, ?_⟩))
                  have hzw190 := hc.size
                  have hab := hab.no hc
                  have hS143 := hS143.no hc
                  have hge15 : w.heap.size ≤ g15 := by have := HC.size; omega
                  have hS := hS.tr hc
                  have hltg15 := hb15.lt
                  refine ws_e rfl rfl (e_bsl (cs := #[]) (E := 190) rfl rfl (fun _ => by kernel_rfl) (fun w191 g137 hg137 hb137 hc hsz137 => ⟨hS.tr hc, ?_⟩))
                  have hzw191 := hc.size
                  have hab := hab.no hc
                  have hS143 := hS143.no hc
                  have hb15 := hb15.ch hc (fun h => h)
                  have hge137 : w.heap.size ≤ g137 := by have := HC.size; omega
                  have hW137 := RI.lit0 (E := eTN) hb137
                  have hS := hS.tr hc
                  have hltg15 := hb15.lt
                  refine ws_e rfl rfl (e_appI rfl el188 rfl rfl hW137 (hab) (by omega) (by intro k hk; first | omega | (dsimp only at *; omega)) (fun w192 A139 c139 hW137 hc => ⟨(hS.nw hc (by intro k hk ht; omega)), ?_⟩))
                  have hzw192 := hc.size
                  have hab := hab.ch hc (by intro k hk ht; omega)
                  first | have hS143 := hS143.ch hc (by intro k hk ht; omega) | have hS143 := hS143.chT hc (by intro k hz hk ht; omega)
                  have hb15 := hb15.ch hc (by omega)
                  have hS := (hS.nw hc (by intro k hk ht; omega))
                  have hltg15 := hb15.lt
                  refine ws_e rfl rfl (e_appI rfl el188 rfl rfl hW137 (hS143) (by omega) (by intro k hk; first | omega | (dsimp only at *; omega)) (fun w193 A144 c144 hW137 hc => ⟨(hS.nw hc (by intro k hk ht; omega)), ?_⟩))
                  have hzw193 := hc.size
                  have hab := hab.ch hc (by intro k hk ht; omega)
                  first | have hS143 := hS143.ch hc (by intro k hk ht; omega) | have hS143 := hS143.chT hc (by intro k hz hk ht; omega)
                  have hb15 := hb15.ch hc (by omega)
                  have hS := (hS.nw hc (by intro k hk ht; omega))
                  refine ws_e rfl rfl (e_call ent89 rfl rfl (IH (n - 1) (by omega) (by omega) (hr128.no hS) (hW137.si) (by omega) (by omega)) ?_)
                  rintro _ w194 ⟨h145, A145, l145, c145, r145, ok145, rfl, hr145, hpr145, hc⟩
                  refine ⟨_, rfl, hS.tr hc, ?_⟩
                  have hzw194 := hc.size
                  have hab := hab.no hc
                  have hS143 := hS143.no hc
                  have hb15 := hb15.ch hc (fun h => h)
                  have hW137 := hW137.after hc
                  have hS := hS.tr hc
                  refine ws_p rfl rfl rfl rfl (p_mv rfl) ?_
                  refine ws_p rfl rfl rfl rfl (p_ext rfl rfl) ?_
                  refine ws_p rfl rfl rfl rfl (p_ext rfl rfl) ?_
                  refine ws_p rfl rfl rfl rfl (p_ext rfl rfl) ?_
                  refine ws_l rfl rfl (e_stH sz38 (List.length_replicate ..) hpr145.len rfl rfl hb15 (fun w195 hb15 hc hsz => ?_))
                  have hzw195 := hc.size
                  have hab := hab.ch hc (by intro k hk ht; omega)
                  first | have hS143 := hS143.ch hc (by intro k hk ht; omega) | have hS143 := hS143.chT hc (by intro k hz hk ht; omega)
                  have hW137 := hW137.ch hc (by intro k hz hk ht; omega)
                  first | have hr145 := hr145.ch hc (by intro k hk ht; omega) | have hr145 := hr145.chT hc (by intro k hz hk ht; omega)
                  have hS := (hS.nw hc (by intro k hk ht; omega))
                  refine ws_p rfl rfl rfl rfl (p_as rfl) ?_
                  refine ws_p rfl rfl rfl rfl (p_as rfl) ?_
                  refine ws_n ?_
                  exact x_meet (by repeat (first | exact trivial | refine ⟨rfl, ?_⟩)) ⟨g15, h145, A145, l145, c145, r145, ok145, rfl, HC.tr hS, hl.no hS, hab, hb4.ch hS (fun h => h), hb7.ch hS (fun h => h), hb8.ch hS (fun h => h), (by omega), hb15, hr145, hpr145, (by omega), hb12.ch hS (fun h => h), (by omega)⟩
                ·
                 refine ws_e rfl rfl (e_alloc (cs := ((List.replicate 32 (0 : UInt8)).map u8v).toArray) rfl (by rfl) rfl (fun w196 g15 hg15 hb15 hc hsz15 => ⟨hS.tr hc, ?_⟩))
                 have hzw196 := hc.size
                 have hab := hab.no hc
                 have hge15 : w.heap.size ≤ g15 := by have := HC.size; omega
                 have hS := hS.tr hc
                 refine ws_alt ?_ ?_
                 ·
                  have hltg15 := hb15.lt
                  refine ws_e rfl rfl (e_bsl (cs := #[]) (E := 190) rfl rfl (fun _ => by kernel_rfl) (fun w197 g137 hg137 hb137 hc hsz137 => ⟨hS.tr hc, ?_⟩))
                  have hzw197 := hc.size
                  have hab := hab.no hc
                  have hb15 := hb15.ch hc (fun h => h)
                  have hge137 : w.heap.size ≤ g137 := by have := HC.size; omega
                  have hW137 := RI.lit0 (E := eTN) hb137
                  have hS := hS.tr hc
                  refine ws_alt ?_ ?_
                  ·
                   have hltg15 := hb15.lt
                   refine ws_e rfl rfl (e_appI rfl el188 rfl rfl hW137 (hab) (by omega) (by intro k hk; first | omega | (dsimp only at *; omega)) (fun w198 A139 c139 hW137 hc => ⟨(hS.nw hc (by intro k hk ht; omega)), ?_⟩))
                   have hzw198 := hc.size
                   have hab := hab.ch hc (by intro k hk ht; omega)
                   have hb15 := hb15.ch hc (by omega)
                   have hS := (hS.nw hc (by intro k hk ht; omega))
                   have hltg15 := hb15.lt
                   refine ws_e rfl rfl (e_bslX (E := 190) (cs := ([i64 x5.bit, .int .i64 (1)] : List Value)) (cs' := ([i64 x5.bit, .int .i64 (1)] : List Value)) rfl rfl rfl (fun _ => by kernel_rfl) (fun w199 g143 hg143 hb143 hc hsz143 => ⟨hS.tr hc, ?_⟩))
                   have hzw199 := hc.size
                   have hab := hab.no hc
                   have hb15 := hb15.ch hc (fun h => h)
                   have hW137 := hW137.after hc
                   have hge143 := hg143
                   have hS143 := SI.oneA (E := eTN) (x := ⟨x5.bit, (1)⟩) hb143 rfl trivial
                   have hS := hS.tr hc
                   have hltg15 := hb15.lt
                   refine ws_e rfl rfl (e_appI rfl el188 rfl rfl hW137 (hS143) (by omega) (by intro k hk; first | omega | (dsimp only at *; omega)) (fun w200 A144 c144 hW137 hc => ⟨(hS.nw hc (by intro k hk ht; omega)), ?_⟩))
                   have hzw200 := hc.size
                   have hab := hab.ch hc (by intro k hk ht; omega)
                   have hb15 := hb15.ch hc (by omega)
                   first | have hS143 := hS143.ch hc (by intro k hk ht; omega) | have hS143 := hS143.chT hc (by intro k hz hk ht; omega)
                   have hS := (hS.nw hc (by intro k hk ht; omega))
                   refine ws_e rfl rfl (e_call ent89 rfl rfl (IH (n - 1) (by omega) (by omega) (hr128.no hS) (hW137.si) (by omega) (by omega)) ?_)
                   rintro _ w201 ⟨h145, A145, l145, c145, r145, ok145, rfl, hr145, hpr145, hc⟩
                   refine ⟨_, rfl, hS.tr hc, ?_⟩
                   have hzw201 := hc.size
                   have hab := hab.no hc
                   have hb15 := hb15.ch hc (fun h => h)
                   have hW137 := hW137.after hc
                   have hS143 := hS143.no hc
                   have hS := hS.tr hc
                   refine ws_p rfl rfl rfl rfl (p_mv rfl) ?_
                   refine ws_p rfl rfl rfl rfl (p_ext rfl rfl) ?_
                   refine ws_p rfl rfl rfl rfl (p_ext rfl rfl) ?_
                   refine ws_p rfl rfl rfl rfl (p_ext rfl rfl) ?_
                   refine ws_l rfl rfl (e_stH sz38 (List.length_replicate ..) hpr145.len rfl rfl hb15 (fun w202 hb15 hc hsz => ?_))
                   have hzw202 := hc.size
                   have hab := hab.ch hc (by intro k hk ht; omega)
                   have hW137 := hW137.ch hc (by intro k hz hk ht; omega)
                   first | have hS143 := hS143.ch hc (by intro k hk ht; omega) | have hS143 := hS143.chT hc (by intro k hz hk ht; omega)
                   first | have hr145 := hr145.ch hc (by intro k hk ht; omega) | have hr145 := hr145.chT hc (by intro k hz hk ht; omega)
                   have hS := (hS.nw hc (by intro k hk ht; omega))
                   refine ws_p rfl rfl rfl rfl (p_as rfl) ?_
                   refine ws_p rfl rfl rfl rfl (p_as rfl) ?_
                   refine ws_n ?_
                   exact x_meet (by repeat (first | exact trivial | refine ⟨rfl, ?_⟩)) ⟨g15, h145, A145, l145, c145, r145, ok145, rfl, HC.tr hS, hl.no hS, hab, hb4.ch hS (fun h => h), hb7.ch hS (fun h => h), hb8.ch hS (fun h => h), (by omega), hb15, hr145, hpr145, (by omega), hb12.ch hS (fun h => h), (by omega)⟩
                  ·
                   have hltg15 := hb15.lt
                   refine ws_e rfl rfl (e_bslX (E := 190) (cs := ([i64 x5.bit, .int .i64 (1)] : List Value)) (cs' := ([i64 x5.bit, .int .i64 (1)] : List Value)) rfl rfl rfl (fun _ => by kernel_rfl) (fun w203 g143 hg143 hb143 hc hsz143 => ⟨hS.tr hc, ?_⟩))
                   have hzw203 := hc.size
                   have hab := hab.no hc
                   have hb15 := hb15.ch hc (fun h => h)
                   have hW137 := hW137.after hc
                   have hge143 := hg143
                   have hS143 := SI.oneA (E := eTN) (x := ⟨x5.bit, (1)⟩) hb143 rfl trivial
                   have hS := hS.tr hc
                   have hltg15 := hb15.lt
                   refine ws_e rfl rfl (e_appI rfl el188 rfl rfl hW137 (hab) (by omega) (by intro k hk; first | omega | (dsimp only at *; omega)) (fun w204 A139 c139 hW137 hc => ⟨(hS.nw hc (by intro k hk ht; omega)), ?_⟩))
                   have hzw204 := hc.size
                   have hab := hab.ch hc (by intro k hk ht; omega)
                   have hb15 := hb15.ch hc (by omega)
                   first | have hS143 := hS143.ch hc (by intro k hk ht; omega) | have hS143 := hS143.chT hc (by intro k hz hk ht; omega)
                   have hS := (hS.nw hc (by intro k hk ht; omega))
                   have hltg15 := hb15.lt
                   refine ws_e rfl rfl (e_appI rfl el188 rfl rfl hW137 (hS143) (by omega) (by intro k hk; first | omega | (dsimp only at *; omega)) (fun w205 A144 c144 hW137 hc => ⟨(hS.nw hc (by intro k hk ht; omega)), ?_⟩))
                   have hzw205 := hc.size
                   have hab := hab.ch hc (by intro k hk ht; omega)
                   have hb15 := hb15.ch hc (by omega)
                   first | have hS143 := hS143.ch hc (by intro k hk ht; omega) | have hS143 := hS143.chT hc (by intro k hz hk ht; omega)
                   have hS := (hS.nw hc (by intro k hk ht; omega))
                   refine ws_e rfl rfl (e_call ent89 rfl rfl (IH (n - 1) (by omega) (by omega) (hr128.no hS) (hW137.si) (by omega) (by omega)) ?_)
                   rintro _ w206 ⟨h145, A145, l145, c145, r145, ok145, rfl, hr145, hpr145, hc⟩
                   refine ⟨_, rfl, hS.tr hc, ?_⟩
                   have hzw206 := hc.size
                   have hab := hab.no hc
                   have hb15 := hb15.ch hc (fun h => h)
                   have hW137 := hW137.after hc
                   have hS143 := hS143.no hc
                   have hS := hS.tr hc
                   refine ws_p rfl rfl rfl rfl (p_mv rfl) ?_
                   refine ws_p rfl rfl rfl rfl (p_ext rfl rfl) ?_
                   refine ws_p rfl rfl rfl rfl (p_ext rfl rfl) ?_
                   refine ws_p rfl rfl rfl rfl (p_ext rfl rfl) ?_
                   refine ws_l rfl rfl (e_stH sz38 (List.length_replicate ..) hpr145.len rfl rfl hb15 (fun w207 hb15 hc hsz => ?_))
                   have hzw207 := hc.size
                   have hab := hab.ch hc (by intro k hk ht; omega)
                   have hW137 := hW137.ch hc (by intro k hz hk ht; omega)
                   first | have hS143 := hS143.ch hc (by intro k hk ht; omega) | have hS143 := hS143.chT hc (by intro k hz hk ht; omega)
                   first | have hr145 := hr145.ch hc (by intro k hk ht; omega) | have hr145 := hr145.chT hc (by intro k hz hk ht; omega)
                   have hS := (hS.nw hc (by intro k hk ht; omega))
                   refine ws_p rfl rfl rfl rfl (p_as rfl) ?_
                   refine ws_p rfl rfl rfl rfl (p_as rfl) ?_
                   refine ws_n ?_
                   exact x_meet (by repeat (first | exact trivial | refine ⟨rfl, ?_⟩)) ⟨g15, h145, A145, l145, c145, r145, ok145, rfl, HC.tr hS, hl.no hS, hab, hb4.ch hS (fun h => h), hb7.ch hS (fun h => h), hb8.ch hS (fun h => h), (by omega), hb15, hr145, hpr145, (by omega), hb12.ch hS (fun h => h), (by omega)⟩
                 ·
                  have hltg15 := hb15.lt
                  refine ws_e rfl rfl (e_bslX (E := 190) (cs := ([i64 x5.bit, .int .i64 (1)] : List Value)) (cs' := ([i64 x5.bit, .int .i64 (1)] : List Value)) rfl rfl rfl (fun _ => by kernel_rfl) (fun w208 g143 hg143 hb143 hc hsz143 => ⟨hS.tr hc, ?_⟩))
                  have hzw208 := hc.size
                  have hab := hab.no hc
                  have hb15 := hb15.ch hc (fun h => h)
                  have hge143 := hg143
                  have hS143 := SI.oneA (E := eTN) (x := ⟨x5.bit, (1)⟩) hb143 rfl trivial
                  have hS := hS.tr hc
                  have hltg15 := hb15.lt
                  refine ws_e rfl rfl (e_bsl (cs := #[]) (E := 190) rfl rfl (fun _ => by kernel_rfl) (fun w209 g137 hg137 hb137 hc hsz137 => ⟨hS.tr hc, ?_⟩))
                  have hzw209 := hc.size
                  have hab := hab.no hc
                  have hb15 := hb15.ch hc (fun h => h)
                  have hS143 := hS143.no hc
                  have hge137 : w.heap.size ≤ g137 := by have := HC.size; omega
                  have hW137 := RI.lit0 (E := eTN) hb137
                  have hS := hS.tr hc
                  have hltg15 := hb15.lt
                  refine ws_e rfl rfl (e_appI rfl el188 rfl rfl hW137 (hab) (by omega) (by intro k hk; first | omega | (dsimp only at *; omega)) (fun w210 A139 c139 hW137 hc => ⟨(hS.nw hc (by intro k hk ht; omega)), ?_⟩))
                  have hzw210 := hc.size
                  have hab := hab.ch hc (by intro k hk ht; omega)
                  have hb15 := hb15.ch hc (by omega)
                  first | have hS143 := hS143.ch hc (by intro k hk ht; omega) | have hS143 := hS143.chT hc (by intro k hz hk ht; omega)
                  have hS := (hS.nw hc (by intro k hk ht; omega))
                  have hltg15 := hb15.lt
                  refine ws_e rfl rfl (e_appI rfl el188 rfl rfl hW137 (hS143) (by omega) (by intro k hk; first | omega | (dsimp only at *; omega)) (fun w211 A144 c144 hW137 hc => ⟨(hS.nw hc (by intro k hk ht; omega)), ?_⟩))
                  have hzw211 := hc.size
                  have hab := hab.ch hc (by intro k hk ht; omega)
                  have hb15 := hb15.ch hc (by omega)
                  first | have hS143 := hS143.ch hc (by intro k hk ht; omega) | have hS143 := hS143.chT hc (by intro k hz hk ht; omega)
                  have hS := (hS.nw hc (by intro k hk ht; omega))
                  refine ws_e rfl rfl (e_call ent89 rfl rfl (IH (n - 1) (by omega) (by omega) (hr128.no hS) (hW137.si) (by omega) (by omega)) ?_)
                  rintro _ w212 ⟨h145, A145, l145, c145, r145, ok145, rfl, hr145, hpr145, hc⟩
                  refine ⟨_, rfl, hS.tr hc, ?_⟩
                  have hzw212 := hc.size
                  have hab := hab.no hc
                  have hb15 := hb15.ch hc (fun h => h)
                  have hS143 := hS143.no hc
                  have hW137 := hW137.after hc
                  have hS := hS.tr hc
                  refine ws_p rfl rfl rfl rfl (p_mv rfl) ?_
                  refine ws_p rfl rfl rfl rfl (p_ext rfl rfl) ?_
                  refine ws_p rfl rfl rfl rfl (p_ext rfl rfl) ?_
                  refine ws_p rfl rfl rfl rfl (p_ext rfl rfl) ?_
                  refine ws_l rfl rfl (e_stH sz38 (List.length_replicate ..) hpr145.len rfl rfl hb15 (fun w213 hb15 hc hsz => ?_))
                  have hzw213 := hc.size
                  have hab := hab.ch hc (by intro k hk ht; omega)
                  first | have hS143 := hS143.ch hc (by intro k hk ht; omega) | have hS143 := hS143.chT hc (by intro k hz hk ht; omega)
                  have hW137 := hW137.ch hc (by intro k hz hk ht; omega)
                  first | have hr145 := hr145.ch hc (by intro k hk ht; omega) | have hr145 := hr145.chT hc (by intro k hz hk ht; omega)
                  have hS := (hS.nw hc (by intro k hk ht; omega))
                  refine ws_p rfl rfl rfl rfl (p_as rfl) ?_
                  refine ws_p rfl rfl rfl rfl (p_as rfl) ?_
                  refine ws_n ?_
                  exact x_meet (by repeat (first | exact trivial | refine ⟨rfl, ?_⟩)) ⟨g15, h145, A145, l145, c145, r145, ok145, rfl, HC.tr hS, hl.no hS, hab, hb4.ch hS (fun h => h), hb7.ch hS (fun h => h), hb8.ch hS (fun h => h), (by omega), hb15, hr145, hpr145, (by omega), hb12.ch hS (fun h => h), (by omega)⟩
              ·
               rintro _ w214 ⟨g15, h145, A145, l145, c145, r145, ok145, rfl, HC, hl, hab, hb4, hb7, hb8, hgo, hb15, hr145, hpr145, hgn15, hb12, hgn12⟩
               have hzw214 := HC.size
               refine wc_seq ?_
               refine wc_region ?_
               refine wl rfl rfl rfl (p_fld (j := 1) Tryd.underlying117 rfl ⟨_, by rfl⟩ rfl rfl) ?_
               refine wl rfl rfl rfl (p_ld Tryd.underlying3 rfl rfl (ld (cell_at (p := ([i64 x5.kind] : List Value)) (v := (i64 x5.bit : Value)) (r := (((List.map u8v x5.key) ++ (List.map u8v x5.val)) : List Value)) hb8 (by simp only [List.append_assoc, List.cons_append, List.nil_append, List.append_nil]) (by first | rfl | (simp only [List.length_append, List.length_map, List.length_cons, List.length_nil]; done) | (simp only [List.length_append, List.length_map, List.length_cons, List.length_nil, List.size_toArray]; done))))) ?_
               refine wl rfl rfl rfl (p_ldH (L := h128) Tryd.underlying38 sz38 hpr128.len rfl (fun _ e => e ▸ rngL hb12)) ?_
               refine wl rfl rfl rfl (p_ldH (L := h145) Tryd.underlying38 sz38 hpr145.len rfl (fun _ e => e ▸ rngL hb15)) ?_
               refine wle rfl (e_call ent78 rfl rfl (rtfork_any (hpr128.len) (hpr145.len)) ?_)
               rintro _ w215 ⟨rfl, hc⟩
               refine ⟨_, rfl, ?_⟩
               have hzw215 := hc.size
               have HC := HC.tr hc
               have hl := hl.no hc
               have hab := hab.no hc
               have hb4 := hb4.ch hc (fun h => h)
               have hb7 := hb7.ch hc (fun h => h)
               have hb8 := hb8.ch hc (fun h => h)
               have hb15 := hb15.ch hc (fun h => h)
               have hr145 := hr145.no hc
               have hb12 := hb12.ch hc (fun h => h)
               refine wl rfl rfl rfl (p_mv rfl) ?_
               refine wl rfl rfl rfl (p_mv rfl) ?_
               refine wle rfl (e_stH sz38 (List.length_replicate ..) (forkH_len _ _ _ ) rfl rfl hb4 (fun w216 hb4 hc hsz => ?_))
               have hzw216 := hc.size
               have HC := HC.trans hc (fun _ _ h => h) (fun k hk ht => absurd ht (by omega))
               first | have hl := hl.ch hc (by intro k hk ht; omega) | have hl := hl.chT hc (by intro k hz hk ht; omega)
               have hab := hab.ch hc (by intro k hk ht; omega)
               have hb7 := hb7.ch hc (by omega)
               have hb8 := hb8.ch hc (by omega)
               have hb15 := hb15.ch hc (by omega)
               first | have hr145 := hr145.ch hc (by intro k hk ht; omega) | have hr145 := hr145.chT hc (by intro k hz hk ht; omega)
               have hb12 := hb12.ch hc (by omega)
               refine wl rfl rfl rfl (p_as rfl) ?_
               refine wl rfl rfl rfl (p_as rfl) ?_
               refine wl_nil ?_
               refine x_seq ?_
               refine wc_ret ?_
               refine x_in_ret ?_
               refine x_then_ret ?_
               refine fin_run (resMany (rs := [.cell 4 38, .tmp 5, .tmp 6]) rfl (.cellA (cs := List.map u8v (forkH (b8i x5.bit) h128 h145)) rfl Tryd.underlying38 rfl (szL sz38 (by rw [List.length_map]; exact (forkH_len _ _ _ ))) (rngL hb4) (.tmp rfl (.tmp rfl (.nil)))) rfl) ?_
               have hkz : x5.key = zeroH ∧ x5.val = zeroH := ⟨by have h := q85; simp at h; exact h, by have h := q91; simp at h; exact h⟩
               exact ⟨_, _, _, _, _, _, rfl, hr145.mono (fun k _ h => h.1), (by rw [hlx]; exact PR.fork q79 hkz.1 hkz.2 hris (by rw [show ok128 = true by simpa using c7] at hpr128; exact hpr128) hpr145), HC⟩
         ·
          have c5 := of_decide_eq_false c5
          refine wc_skip ?_
          refine x_in_normal ?_
          refine x_seq ?_
          refine wc_seq ?_
          refine wc_region ?_
          refine wl rfl rfl rfl (p_ldH (L := (List.replicate 32 (0 : UInt8))) Tryd.underlying38 sz38 (List.length_replicate ..) rfl (fun _ e => e ▸ rngL hb7)) ?_
          refine wle rfl (e_stH sz38 (List.length_replicate ..) (List.length_replicate ..) rfl rfl hb4 (fun w217 hb4 hc hsz => ?_))
          have hzw217 := hc.size
          have HC := HC.trans hc (fun _ _ h => h) (fun k hk ht => absurd ht (by omega))
          first | have hl := hl.ch hc (by intro k hk ht; omega) | have hl := hl.chT hc (by intro k hz hk ht; omega)
          have hab := hab.ch hc (by intro k hk ht; omega)
          have hb7 := hb7.ch hc (by omega)
          have hb8 := hb8.ch hc (by omega)
          refine wl rfl rfl rfl (p_as rfl) ?_
          refine wl rfl rfl rfl (p_as rfl) ?_
          refine wl_nil ?_
          refine x_seq ?_
          refine wc_ret ?_
          refine fin_run (resMany (rs := [.cell 4 38, .tmp 5, .tmp 6]) rfl (.cellA (cs := List.map u8v (List.replicate 32 (0 : UInt8))) rfl Tryd.underlying38 rfl (szL sz38 (by rw [List.length_map]; exact (List.length_replicate ..))) (rngL hb4) (.tmp rfl (.tmp rfl (.nil)))) rfl) ?_
          exact ⟨_, _, _, _, _, _, rfl, SI.nil, (by rw [hlx]; exact PR.to_nil (PR.fork_no q79 (by rintro ⟨h1, h2, h3, h4, _⟩; first | omega | (simp [h1, zeroH] at q85; done) | (simp [h2, zeroH] at q91; done))) zeroH_len), HC⟩
        ·
         have q96 := of_decide_eq_false q96
         refine wl_s (gd_ rfl rfl rfl rfl rfl rfl) rfl rfl ?_
         refine wl_s (gd_ rfl rfl rfl rfl rfl rfl) rfl rfl ?_
         refine wl_s (gd_ rfl rfl rfl rfl rfl rfl) rfl rfl ?_
         refine wl rfl rfl rfl (p_pickF rfl rfl) ?_
         refine wl rfl rfl rfl (p_as rfl) ?_
         refine wl_nil ?_
         refine x_seq ?_
         refine wc_no rfl (rfl) ?_
         refine wc_skip ?_
         refine x_in_normal ?_
         refine x_seq ?_
         refine wc_seq ?_
         refine wc_region ?_
         refine wl rfl rfl rfl (p_ldH (L := (List.replicate 32 (0 : UInt8))) Tryd.underlying38 sz38 (List.length_replicate ..) rfl (fun _ e => e ▸ rngL hb7)) ?_
         refine wle rfl (e_stH sz38 (List.length_replicate ..) (List.length_replicate ..) rfl rfl hb4 (fun w218 hb4 hc hsz => ?_))
         have hzw218 := hc.size
         have HC := HC.trans hc (fun _ _ h => h) (fun k hk ht => absurd ht (by omega))
         first | have hl := hl.ch hc (by intro k hk ht; omega) | have hl := hl.chT hc (by intro k hz hk ht; omega)
         have hab := hab.ch hc (by intro k hk ht; omega)
         have hb7 := hb7.ch hc (by omega)
         have hb8 := hb8.ch hc (by omega)
         refine wl rfl rfl rfl (p_as rfl) ?_
         refine wl rfl rfl rfl (p_as rfl) ?_
         refine wl_nil ?_
         refine x_seq ?_
         refine wc_ret ?_
         refine fin_run (resMany (rs := [.cell 4 38, .tmp 5, .tmp 6]) rfl (.cellA (cs := List.map u8v (List.replicate 32 (0 : UInt8))) rfl Tryd.underlying38 rfl (szL sz38 (by rw [List.length_map]; exact (List.length_replicate ..))) (rngL hb4) (.tmp rfl (.tmp rfl (.nil)))) rfl) ?_
         exact ⟨_, _, _, _, _, _, rfl, SI.nil, (by rw [hlx]; exact PR.to_nil (PR.fork_no q79 (by rintro ⟨h1, h2, h3, h4, _⟩; first | omega | (simp [h1, zeroH] at q85; done) | (simp [h2, zeroH] at q91; done))) zeroH_len), HC⟩
       ·
        refine wl_s (gd_ rfl rfl rfl rfl rfl rfl) rfl rfl ?_
        refine wl_s (gd_ rfl rfl rfl rfl rfl rfl) rfl rfl ?_
        refine wl_s (gd_ rfl rfl rfl rfl rfl rfl) rfl rfl ?_
        refine wl rfl rfl rfl (p_pickF rfl rfl) ?_
        refine wl rfl rfl rfl (p_mv rfl) ?_
        refine wl_s (gd_ rfl rfl rfl rfl rfl rfl) rfl rfl ?_
        refine wl_s (gd_ rfl rfl rfl rfl rfl rfl) rfl rfl ?_
        refine wl_s (gd_ rfl rfl rfl rfl rfl rfl) rfl rfl ?_
        refine wl rfl rfl rfl (p_pickF rfl rfl) ?_
        refine wl rfl rfl rfl (p_as rfl) ?_
        refine wl_nil ?_
        refine x_seq ?_
        refine wc_no rfl (rfl) ?_
        refine wc_skip ?_
        refine x_in_normal ?_
        refine x_seq ?_
        refine wc_seq ?_
        refine wc_region ?_
        refine wl rfl rfl rfl (p_ldH (L := (List.replicate 32 (0 : UInt8))) Tryd.underlying38 sz38 (List.length_replicate ..) rfl (fun _ e => e ▸ rngL hb7)) ?_
        refine wle rfl (e_stH sz38 (List.length_replicate ..) (List.length_replicate ..) rfl rfl hb4 (fun w219 hb4 hc hsz => ?_))
        have hzw219 := hc.size
        have HC := HC.trans hc (fun _ _ h => h) (fun k hk ht => absurd ht (by omega))
        first | have hl := hl.ch hc (by intro k hk ht; omega) | have hl := hl.chT hc (by intro k hz hk ht; omega)
        have hab := hab.ch hc (by intro k hk ht; omega)
        have hb7 := hb7.ch hc (by omega)
        have hb8 := hb8.ch hc (by omega)
        refine wl rfl rfl rfl (p_as rfl) ?_
        refine wl rfl rfl rfl (p_as rfl) ?_
        refine wl_nil ?_
        refine x_seq ?_
        refine wc_ret ?_
        refine fin_run (resMany (rs := [.cell 4 38, .tmp 5, .tmp 6]) rfl (.cellA (cs := List.map u8v (List.replicate 32 (0 : UInt8))) rfl Tryd.underlying38 rfl (szL sz38 (by rw [List.length_map]; exact (List.length_replicate ..))) (rngL hb4) (.tmp rfl (.tmp rfl (.nil)))) rfl) ?_
        exact ⟨_, _, _, _, _, _, rfl, SI.nil, (by rw [hlx]; exact PR.to_nil (PR.fork_no q79 (by rintro ⟨h1, h2, h3, h4, _⟩; first | omega | (simp [h1, zeroH] at q85; done) | (simp [h2, zeroH] at q91; done))) zeroH_len), HC⟩
      ·
       refine wl_s (gd_ rfl rfl rfl rfl rfl rfl) rfl rfl ?_
       refine wl_s (gd_ rfl rfl rfl rfl rfl rfl) rfl rfl ?_
       refine wl_s (gd_ rfl rfl rfl rfl rfl rfl) rfl rfl ?_
       refine wl_s (gd_ rfl rfl rfl rfl rfl rfl) rfl rfl ?_
       refine wl rfl rfl rfl (p_pickF rfl rfl) ?_
       refine wl rfl rfl rfl (p_mv rfl) ?_
       refine wl_s (gd_ rfl rfl rfl rfl rfl rfl) rfl rfl ?_
       refine wl_s (gd_ rfl rfl rfl rfl rfl rfl) rfl rfl ?_
       refine wl_s (gd_ rfl rfl rfl rfl rfl rfl) rfl rfl ?_
       refine wl rfl rfl rfl (p_pickF rfl rfl) ?_
       refine wl rfl rfl rfl (p_mv rfl) ?_
       refine wl_s (gd_ rfl rfl rfl rfl rfl rfl) rfl rfl ?_
       refine wl_s (gd_ rfl rfl rfl rfl rfl rfl) rfl rfl ?_
       refine wl_s (gd_ rfl rfl rfl rfl rfl rfl) rfl rfl ?_
       refine wl rfl rfl rfl (p_pickF rfl rfl) ?_
       refine wl rfl rfl rfl (p_as rfl) ?_
       refine wl_nil ?_
       refine x_seq ?_
       refine wc_no rfl (rfl) ?_
       refine wc_skip ?_
       refine x_in_normal ?_
       refine x_seq ?_
       refine wc_seq ?_
       refine wc_region ?_
       refine wl rfl rfl rfl (p_ldH (L := (List.replicate 32 (0 : UInt8))) Tryd.underlying38 sz38 (List.length_replicate ..) rfl (fun _ e => e ▸ rngL hb7)) ?_
       refine wle rfl (e_stH sz38 (List.length_replicate ..) (List.length_replicate ..) rfl rfl hb4 (fun w220 hb4 hc hsz => ?_))
       have hzw220 := hc.size
       have HC := HC.trans hc (fun _ _ h => h) (fun k hk ht => absurd ht (by omega))
       first | have hl := hl.ch hc (by intro k hk ht; omega) | have hl := hl.chT hc (by intro k hz hk ht; omega)
       have hab := hab.ch hc (by intro k hk ht; omega)
       have hb7 := hb7.ch hc (by omega)
       have hb8 := hb8.ch hc (by omega)
       refine wl rfl rfl rfl (p_as rfl) ?_
       refine wl rfl rfl rfl (p_as rfl) ?_
       refine wl_nil ?_
       refine x_seq ?_
       refine wc_ret ?_
       refine fin_run (resMany (rs := [.cell 4 38, .tmp 5, .tmp 6]) rfl (.cellA (cs := List.map u8v (List.replicate 32 (0 : UInt8))) rfl Tryd.underlying38 rfl (szL sz38 (by rw [List.length_map]; exact (List.length_replicate ..))) (rngL hb4) (.tmp rfl (.tmp rfl (.nil)))) rfl) ?_
       exact ⟨_, _, _, _, _, _, rfl, SI.nil, (by rw [hlx]; exact PR.to_nil (PR.fork_no q79 (by rintro ⟨h1, h2, h3, h4, _⟩; first | omega | (simp [h1, zeroH] at q85; done) | (simp [h2, zeroH] at q91; done))) zeroH_len), HC⟩
     ·
      have q79 := of_decide_eq_false q79
      refine wl_s (gd_ rfl rfl rfl rfl rfl rfl) rfl rfl ?_
      refine wl_s (gd_ rfl rfl rfl rfl rfl rfl) rfl rfl ?_
      refine wl_s (gd_ rfl rfl rfl rfl rfl rfl) rfl rfl ?_
      refine wl_s (gd_ rfl rfl rfl rfl rfl rfl) rfl rfl ?_
      refine wl rfl rfl rfl (p_pickF rfl rfl) ?_
      refine wl rfl rfl rfl (p_mv rfl) ?_
      refine wl_s (gd_ rfl rfl rfl rfl rfl rfl) rfl rfl ?_
      refine wl_s (gd_ rfl rfl rfl rfl rfl rfl) rfl rfl ?_
      refine wl_s (gd_ rfl rfl rfl rfl rfl rfl) rfl rfl ?_
      refine wl_s (gd_ rfl rfl rfl rfl rfl rfl) rfl rfl ?_
      refine wl rfl rfl rfl (p_pickF rfl rfl) ?_
      refine wl rfl rfl rfl (p_mv rfl) ?_
      refine wl_s (gd_ rfl rfl rfl rfl rfl rfl) rfl rfl ?_
      refine wl_s (gd_ rfl rfl rfl rfl rfl rfl) rfl rfl ?_
      refine wl_s (gd_ rfl rfl rfl rfl rfl rfl) rfl rfl ?_
      refine wl rfl rfl rfl (p_pickF rfl rfl) ?_
      refine wl rfl rfl rfl (p_mv rfl) ?_
      refine wl_s (gd_ rfl rfl rfl rfl rfl rfl) rfl rfl ?_
      refine wl_s (gd_ rfl rfl rfl rfl rfl rfl) rfl rfl ?_
      refine wl_s (gd_ rfl rfl rfl rfl rfl rfl) rfl rfl ?_
      refine wl rfl rfl rfl (p_pickF rfl rfl) ?_
      refine wl rfl rfl rfl (p_as rfl) ?_
      refine wl_nil ?_
      refine x_seq ?_
      refine wc_no rfl (rfl) ?_
      refine wc_skip ?_
      refine x_in_normal ?_
      refine x_seq ?_
      refine wc_seq ?_
      refine wc_region ?_
      refine wl rfl rfl rfl (p_ldH (L := (List.replicate 32 (0 : UInt8))) Tryd.underlying38 sz38 (List.length_replicate ..) rfl (fun _ e => e ▸ rngL hb7)) ?_
      refine wle rfl (e_stH sz38 (List.length_replicate ..) (List.length_replicate ..) rfl rfl hb4 (fun w221 hb4 hc hsz => ?_))
      have hzw221 := hc.size
      have HC := HC.trans hc (fun _ _ h => h) (fun k hk ht => absurd ht (by omega))
      first | have hl := hl.ch hc (by intro k hk ht; omega) | have hl := hl.chT hc (by intro k hz hk ht; omega)
      have hab := hab.ch hc (by intro k hk ht; omega)
      have hb7 := hb7.ch hc (by omega)
      have hb8 := hb8.ch hc (by omega)
      refine wl rfl rfl rfl (p_as rfl) ?_
      refine wl rfl rfl rfl (p_as rfl) ?_
      refine wl_nil ?_
      refine x_seq ?_
      refine wc_ret ?_
      refine fin_run (resMany (rs := [.cell 4 38, .tmp 5, .tmp 6]) rfl (.cellA (cs := List.map u8v (List.replicate 32 (0 : UInt8))) rfl Tryd.underlying38 rfl (szL sz38 (by rw [List.length_map]; exact (List.length_replicate ..))) (rngL hb4) (.tmp rfl (.tmp rfl (.nil)))) rfl) ?_
      exact ⟨_, _, _, _, _, _, rfl, SI.nil, (by rw [hlx]; exact PR.to_nil (PR.other (bd := false) (by rintro (h | h | h); exact q28 h; exact q47 h; exact q79 h)) zeroH_len), HC⟩

theorem rpart_any (n : Nat) : RPartOK n := by
  induction n using Nat.strongRecOn with
  | _ n ih =>
    intro w Al Ab ll cl lb cb Fl Fa l ab h1 h2 h3 h4 h5
    exact rpart_step (fun m hm => ih m hm) h1 h2 h3 h4 h5

set_option maxHeartbeats 2000000 in
set_option maxRecDepth 20000 in
theorem rroot27 {w : World}  {Am : Option Addr} {lm cm : Nat} {Fm : Nat → Prop} {l : List ND} (hm : SI w Fm eND Am lm cm l) (hl : lm ≤ 1000000) :
    Calls Tryd.prog 57 #[.slice Am lm cm] w fun e w' => e = .returned (.tuple #[hv (rootN l).1, .bool (rootN l).2]) ∧ Ch No w w' := by
  have hml := hm.len
  have hm := hm.old
  have HC : Ch No w w := Ch.refl _ _
  refine enter' (args := [.slice Am lm cm]) (n := 35) Tryd.func57 rfl rfl rfl ?_
  refine wc_seq ?_
  refine wc_region ?_
  refine wle rfl (e_alloc (cs := ((List.replicate 32 (0 : UInt8)).map u8v).toArray) rfl (by rfl) rfl (fun w1 g2 hg2 hb2 hc hsz2 => ?_))
  have hzw1 := hc.size
  have HC := HC.tr hc
  have hm := hm.no hc
  have hge2 : w.heap.size ≤ g2 := by have := HC.size; omega
  refine wl rfl rfl rfl (p_as rfl) ?_
  refine wl_nil ?_
  refine x_seq ?_
  refine wc_seq ?_
  refine wc_region ?_
  refine wl rfl rfl rfl (p_bldX (vs' := [.int .i64 (1)]) (cs := (([.int .i64 (1), Value.int .i64 0] ++ ((List.map u8v (List.replicate 32 (0 : UInt8))) ++ (List.map u8v (List.replicate 32 (0 : UInt8))))) : List Value)) (cs' := (([.int .i64 (1), Value.int .i64 0] ++ ((hx (List.replicate 32 (0 : UInt8))) ++ (hx (List.replicate 32 (0 : UInt8))))) : List Value)) rfl rfl (by simp only [hv, map_hx (List.length_replicate ..)] <;> rfl) (fun _ => by kernel_rfl)) ?_
  have hltg2 := hb2.lt
  refine wle rfl (e_alloc (cs := (([Value.int .i64 0, Value.int .i64 0] ++ ((List.map u8v (List.replicate 32 (0 : UInt8))) ++ (List.map u8v (List.replicate 32 (0 : UInt8))))) : List Value).toArray) rfl (by rfl) (by rfl) (fun w2 g4 hg4 hb4 hc hsz4 => ?_))
  have hzw2 := hc.size
  have HC := HC.tr hc
  have hm := hm.no hc
  have hb2 := hb2.ch hc (fun h => h)
  have hge4 : w.heap.size ≤ g4 := by have := HC.size; omega
  have neg2_4 : g2 < g4 := by omega
  refine wle rfl (e_stW (vs := (([.int .i64 (1), Value.int .i64 0] ++ ((List.map u8v (List.replicate 32 (0 : UInt8))) ++ (List.map u8v (List.replicate 32 (0 : UInt8))))) : List Value)) (szL sz117 (by first | rfl | (simp only [List.length_append, List.length_map, List.length_cons, List.length_nil, (show List.length (List.replicate 32 (0 : UInt8)) = 32 from (List.length_replicate ..)), (show List.length (List.replicate 32 (0 : UInt8)) = 32 from (List.length_replicate ..))]; done) | (simp only [List.length_append, List.length_map, List.length_cons, List.length_nil, List.size_toArray, (show List.length (List.replicate 32 (0 : UInt8)) = 32 from (List.length_replicate ..)), (show List.length (List.replicate 32 (0 : UInt8)) = 32 from (List.length_replicate ..))]; done))) (oneA (allOne rfl) (oneA (oneL one_u8 _) (oneL one_u8 _))) rfl rfl hb4 (by first | rfl | (simp only [List.length_append, List.length_map, List.length_cons, List.length_nil, (show List.length (List.replicate 32 (0 : UInt8)) = 32 from (List.length_replicate ..)), (show List.length (List.replicate 32 (0 : UInt8)) = 32 from (List.length_replicate ..)), (show List.length (List.replicate 32 (0 : UInt8)) = 32 from (List.length_replicate ..)), (show List.length (List.replicate 32 (0 : UInt8)) = 32 from (List.length_replicate ..))]; done) | (simp only [List.length_append, List.length_map, List.length_cons, List.length_nil, List.size_toArray, (show List.length (List.replicate 32 (0 : UInt8)) = 32 from (List.length_replicate ..)), (show List.length (List.replicate 32 (0 : UInt8)) = 32 from (List.length_replicate ..)), (show List.length (List.replicate 32 (0 : UInt8)) = 32 from (List.length_replicate ..)), (show List.length (List.replicate 32 (0 : UInt8)) = 32 from (List.length_replicate ..))]; done)) (fun w3 hb4 hc hsz => ?_))
  have hzw3 := hc.size
  have HC := HC.trans hc (fun _ _ h => h) (fun k hk ht => absurd ht (by omega))
  have hm := hm.ch hc (by intro k hk ht; omega)
  have hb2 := hb2.ch hc (by omega)
  refine wl_nil ?_
  refine x_seq ?_
  refine wc_seq ?_
  refine wc_seq ?_
  refine wc_draw (.st 0 0 (.st 1 0 (.st 2 0 (.st 3 0 (.st 4 0 (.st 5 0 (.st 6 1 (.st 7 1 (.st 8 0 (.st 9 0 .nil)))))))))) 10 (by kernel_rfl) (by kernel_rfl) (by kernel_rfl) (by repeat (first | with_reducible exact pan_body | with_reducible apply pan_then | with_reducible apply pan_in)) (fun x => Ch No w3.drew x) (Ch.refl _ _) ?_
  obtain ⟨w4, ew4⟩ : ∃ x, x = w3.drew := ⟨_, rfl⟩
  rw [← ew4]
  have hc : Ch No w3 w4 := by rw [ew4]; exact Ch.drew _
  have hszw4 : w4.heap.size = w3.heap.size := by rw [ew4]; rfl
  clear ew4
  have hzw4 := hc.size
  have HC := HC.tr hc
  have hm := hm.no hc
  have hb2 := hb2.ch hc (fun h => h)
  have hb4 := hb4.ch hc (fun h => h)
  have hS : Ch No w4 w4 := Ch.refl _ _
  refine ws_p rfl rfl rfl rfl (p_mv rfl) ?_
  refine ws_p rfl rfl rfl rfl (p_lenS Tryd.underlying31 rfl) ?_
  refine ws_p rfl rfl rfl rfl (p_eq rfl rfl) ?_
  refine ws_p rfl rfl rfl rfl (p_mv rfl) ?_
  refine ws_split (d := 12) rfl (fun q12 => ?_) (fun q12 => ?_)
  ·
   have q12 := of_decide_eq_true q12
   refine ws_pg rfl (gd_ rfl rfl rfl rfl rfl rfl) rfl rfl (p_mv rfl) ?_
   obtain ⟨b5, o5, hA5, hF5, hr5⟩ := (hm).opn (i := 0) (d := ND0) (by omega)
   have hok5 := (hm).okAt (i := 0) (d := ND0) (by omega)
   obtain ⟨x5, ex5⟩ : ∃ x_, x_ = List.getD l (0) ND0 := ⟨_, rfl⟩
   rw [← ex5] at hr5 hok5
   obtain ⟨hx5k, hx5v⟩ := hok5
   have hr5 : w4.rangeAt b5 (o5 + 0 * 66) (([i64 x5.kind, i64 x5.bit] ++ ((List.map u8v x5.key) ++ (List.map u8v x5.val))) : List Value) := hr5
   refine ws_pg rfl (gd_ rfl rfl rfl rfl rfl rfl) rfl rfl (p_ixS (j := 0 * 66) Tryd.underlying31 sz117 rfl hA5 rfl (by omega) (by omega) rfl) ?_
   have hl1 : l = [x5] := by rw [ex5]; cases l with | nil => simp at hml; omega | cons y r => cases r with | nil => rfl | cons z r => simp at hml; omega
   refine ws_hg rfl (gd_ rfl rfl rfl rfl rfl rfl) rfl rfl (p_ldA (cs := (([i64 x5.kind, i64 x5.bit] ++ ((List.map u8v x5.key) ++ (List.map u8v x5.val))) : List Value)) Tryd.underlying117 rfl (szL sz117 (by first | rfl | (simp only [List.length_append, List.length_map, List.length_cons, List.length_nil, (show List.length x5.key = 32 from hx5k), (show List.length x5.val = 32 from hx5v)]; done) | (simp only [List.length_append, List.length_map, List.length_cons, List.length_nil, List.size_toArray, (show List.length x5.key = 32 from hx5k), (show List.length x5.val = 32 from hx5v)]; done))) rfl (fun _ h => rng_no hr5 h)) ?_
   refine ws_hg rfl (gd_ rfl rfl rfl rfl rfl rfl) rfl rfl (p_ldA (cs := (([.int .i64 (1), Value.int .i64 0] ++ ((List.map u8v (List.replicate 32 (0 : UInt8))) ++ (List.map u8v (List.replicate 32 (0 : UInt8))))) : List Value)) Tryd.underlying117 rfl (szL sz117 (by first | rfl | (simp only [List.length_append, List.length_map, List.length_cons, List.length_nil, (show List.length (List.replicate 32 (0 : UInt8)) = 32 from (List.length_replicate ..)), (show List.length (List.replicate 32 (0 : UInt8)) = 32 from (List.length_replicate ..))]; done) | (simp only [List.length_append, List.length_map, List.length_cons, List.length_nil, List.size_toArray, (show List.length (List.replicate 32 (0 : UInt8)) = 32 from (List.length_replicate ..)), (show List.length (List.replicate 32 (0 : UInt8)) = 32 from (List.length_replicate ..))]; done))) rfl (fun _ h => (rngL (hb4.ch h (fun h => h))))) ?_
   refine ws_pg rfl (gd_ rfl rfl rfl rfl rfl rfl) rfl rfl (p_eqV (by kernel_rfl) rfl rfl (eqv_struct Tryd.underlying117 (by kernel_rfl) (eqf_cons rfl (part_c (cs := (([i64 x5.kind, i64 x5.bit] ++ ((List.map u8v x5.key) ++ (List.map u8v x5.val))) : List Value)) (p := []) (v := i64 x5.kind) (r := (([i64 x5.bit] ++ ((List.map u8v x5.key) ++ (List.map u8v x5.val))) : List Value)) Tryd.underlying3 rfl (by first | rfl | simp only [List.append_assoc, List.cons_append, List.nil_append, List.append_nil]) rfl) (part_c (cs := (([.int .i64 (1), Value.int .i64 0] ++ ((List.map u8v (List.replicate 32 (0 : UInt8))) ++ (List.map u8v (List.replicate 32 (0 : UInt8))))) : List Value)) (p := []) (v := .int .i64 (1)) (r := (([Value.int .i64 0] ++ ((List.map u8v (List.replicate 32 (0 : UInt8))) ++ (List.map u8v (List.replicate 32 (0 : UInt8))))) : List Value)) Tryd.underlying3 rfl (by first | rfl | simp only [List.append_assoc, List.cons_append, List.nil_append, List.append_nil]) rfl) (eqv_int Tryd.underlying3) (eqf_cons rfl (part_c (cs := (([i64 x5.kind, i64 x5.bit] ++ ((List.map u8v x5.key) ++ (List.map u8v x5.val))) : List Value)) (p := ([i64 x5.kind] : List Value)) (v := i64 x5.bit) (r := (((List.map u8v x5.key) ++ (List.map u8v x5.val)) : List Value)) Tryd.underlying3 rfl (by first | rfl | simp only [List.append_assoc, List.cons_append, List.nil_append, List.append_nil]) (by first | rfl | (simp only [List.length_append, List.length_map, List.length_cons, List.length_nil]; done) | (simp only [List.length_append, List.length_map, List.length_cons, List.length_nil, List.size_toArray]; done))) (part_c (cs := (([.int .i64 (1), Value.int .i64 0] ++ ((List.map u8v (List.replicate 32 (0 : UInt8))) ++ (List.map u8v (List.replicate 32 (0 : UInt8))))) : List Value)) (p := ([.int .i64 (1)] : List Value)) (v := Value.int .i64 0) (r := (((List.map u8v (List.replicate 32 (0 : UInt8))) ++ (List.map u8v (List.replicate 32 (0 : UInt8)))) : List Value)) Tryd.underlying3 rfl (by first | rfl | simp only [List.append_assoc, List.cons_append, List.nil_append, List.append_nil]) (by first | rfl | (simp only [List.length_append, List.length_map, List.length_cons, List.length_nil]; done) | (simp only [List.length_append, List.length_map, List.length_cons, List.length_nil, List.size_toArray]; done))) (eqv_int Tryd.underlying3) (eqf_cons rfl (part_h (cs := (([i64 x5.kind, i64 x5.bit] ++ ((List.map u8v x5.key) ++ (List.map u8v x5.val))) : List Value)) (p := ([i64 x5.kind, i64 x5.bit] : List Value)) (L := x5.key) (r := ((List.map u8v x5.val) : List Value)) Tryd.underlying38 rfl sz38 (hx5k) (by first | rfl | simp only [List.append_assoc, List.cons_append, List.nil_append, List.append_nil]) (by first | rfl | (simp only [List.length_append, List.length_map, List.length_cons, List.length_nil]; done) | (simp only [List.length_append, List.length_map, List.length_cons, List.length_nil, List.size_toArray]; done))) (part_h (cs := (([.int .i64 (1), Value.int .i64 0] ++ ((List.map u8v (List.replicate 32 (0 : UInt8))) ++ (List.map u8v (List.replicate 32 (0 : UInt8))))) : List Value)) (p := ([.int .i64 (1), Value.int .i64 0] : List Value)) (L := (List.replicate 32 (0 : UInt8))) (r := ((List.map u8v (List.replicate 32 (0 : UInt8))) : List Value)) Tryd.underlying38 rfl sz38 ((List.length_replicate ..)) (by first | rfl | simp only [List.append_assoc, List.cons_append, List.nil_append, List.append_nil]) (by first | rfl | (simp only [List.length_append, List.length_map, List.length_cons, List.length_nil]; done) | (simp only [List.length_append, List.length_map, List.length_cons, List.length_nil, List.size_toArray]; done))) (eqv_hash Tryd.underlying38 Tryd.underlying5 sz5 (hx5k) ((List.length_replicate ..))) (eqf_cons rfl (part_h (cs := (([i64 x5.kind, i64 x5.bit] ++ ((List.map u8v x5.key) ++ (List.map u8v x5.val))) : List Value)) (p := (([i64 x5.kind, i64 x5.bit] ++ (List.map u8v x5.key)) : List Value)) (L := x5.val) (r := []) Tryd.underlying38 rfl sz38 (hx5v) (by first | rfl | simp only [List.append_assoc, List.cons_append, List.nil_append, List.append_nil]) (by first | rfl | (simp only [List.length_append, List.length_map, List.length_cons, List.length_nil, (show List.length x5.key = 32 from hx5k)]; done) | (simp only [List.length_append, List.length_map, List.length_cons, List.length_nil, List.size_toArray, (show List.length x5.key = 32 from hx5k)]; done))) (part_h (cs := (([.int .i64 (1), Value.int .i64 0] ++ ((List.map u8v (List.replicate 32 (0 : UInt8))) ++ (List.map u8v (List.replicate 32 (0 : UInt8))))) : List Value)) (p := (([.int .i64 (1), Value.int .i64 0] ++ (List.map u8v (List.replicate 32 (0 : UInt8)))) : List Value)) (L := (List.replicate 32 (0 : UInt8))) (r := []) Tryd.underlying38 rfl sz38 ((List.length_replicate ..)) (by first | rfl | simp only [List.append_assoc, List.cons_append, List.nil_append, List.append_nil]) (by first | rfl | (simp only [List.length_append, List.length_map, List.length_cons, List.length_nil, (show List.length (List.replicate 32 (0 : UInt8)) = 32 from (List.length_replicate ..))]; done) | (simp only [List.length_append, List.length_map, List.length_cons, List.length_nil, List.size_toArray, (show List.length (List.replicate 32 (0 : UInt8)) = 32 from (List.length_replicate ..))]; done))) (eqv_hash Tryd.underlying38 Tryd.underlying5 sz5 (hx5v) ((List.length_replicate ..))) (eqf_nil))))))) ?_
   refine ws_p rfl rfl rfl rfl (p_pickT rfl rfl) ?_
   refine ws_n ?_
   refine x_seq ?_
   refine wc_if rfl (fun c0 => ?_) (fun c0 => ?_)
   ·
    have hln1 : l = [ND0] := by rw [hl1]; exact congrArg (fun z => [z]) (nd_ext.2 (by have h := c0; simp at h; simpa [ND0, zeroH] using h))
    refine wc_seq ?_
    refine wc_region ?_
    refine wle rfl (e_call ent67 rfl rfl (rtnone_any) ?_)
    rintro _ w6 ⟨rfl, hc⟩
    refine ⟨_, rfl, ?_⟩
    have hzw6 := hc.size
    have HC := HC.tr hc
    have hm := hm.no hc
    have hb2 := hb2.ch hc (fun h => h)
    have hb4 := hb4.ch hc (fun h => h)
    refine wle rfl (e_stH sz38 (List.length_replicate ..) noneH_len rfl rfl hb2 (fun w7 hb2 hc hsz => ?_))
    have hzw7 := hc.size
    have HC := HC.trans hc (fun _ _ h => h) (fun k hk ht => absurd ht (by omega))
    have hm := hm.ch hc (by intro k hk ht; omega)
    have hb4 := hb4.ch hc (by omega)
    refine wl rfl rfl rfl (p_as rfl) ?_
    refine wl_nil ?_
    refine x_seq ?_
    refine wc_ret ?_
    refine x_then_ret ?_
    refine fin_run (resMany (rs := [.cell 2 38, .tmp 3]) rfl (.cellA (cs := List.map u8v noneH) rfl Tryd.underlying38 rfl (szL sz38 (by rw [List.length_map]; exact noneH_len)) (rngL hb2) (.tmp rfl (.nil))) rfl) ?_
    rw [hln1, root_nothing]; exact ⟨rfl, HC⟩
   ·
    have hne : l ≠ [ND0] := fun e => by have e2 := hl1.symm.trans e; injection e2 with e2 _; rw [e2] at c0; simp [ND0, zeroH] at c0
    refine wc_skip ?_
    refine x_seq ?_
    refine wc_seq ?_
    refine wc_region ?_
    refine wl rfl rfl rfl (p_mv rfl) ?_
    refine wle rfl (e_call ent89 rfl rfl (rpart_any l.length (Fa := No) (Nat.le_refl _) hm SI.nil (by omega) (by omega)) ?_)
    rintro _ w8 ⟨h22, A22, l22, c22, r22, ok22, rfl, hr22, hpr22, hc⟩
    refine ⟨_, rfl, ?_⟩
    have hzw8 := hc.size
    have HC := HC.tr hc
    have hm := hm.no hc
    have hb2 := hb2.ch hc (fun h => h)
    have hb4 := hb4.ch hc (fun h => h)
    have hln22 := hr22.len
    refine wl rfl rfl rfl (p_mv rfl) ?_
    refine wl rfl rfl rfl (p_ext rfl rfl) ?_
    refine wl rfl rfl rfl (p_ext rfl rfl) ?_
    refine wl rfl rfl rfl (p_ext rfl rfl) ?_
    have hltg2 := hb2.lt
    have hltg4 := hb4.lt
    refine wle rfl (e_alloc (cs := ((List.replicate 32 (0 : UInt8)).map u8v).toArray) rfl (by rfl) rfl (fun w9 g5 hg5 hb5 hc hsz5 => ?_))
    have hzw9 := hc.size
    have HC := HC.tr hc
    have hm := hm.no hc
    have hb2 := hb2.ch hc (fun h => h)
    have hb4 := hb4.ch hc (fun h => h)
    have hr22 := hr22.no hc
    have hge5 : w.heap.size ≤ g5 := by have := HC.size; omega
    have neg2_5 : g2 < g5 := by omega
    have neg4_5 : g4 < g5 := by omega
    refine wle rfl (e_stH sz38 (List.length_replicate ..) hpr22.len rfl rfl hb5 (fun w10 hb5 hc hsz => ?_))
    have hzw10 := hc.size
    have HC := HC.trans hc (fun _ _ h => h) (fun k hk ht => absurd ht (by omega))
    have hm := hm.ch hc (by intro k hk ht; omega)
    have hb2 := hb2.ch hc (by omega)
    have hb4 := hb4.ch hc (by omega)
    first | have hr22 := hr22.ch hc (by intro k hk ht; omega) | have hr22 := hr22.chT hc (by intro k hz hk ht; omega)
    refine wl rfl rfl rfl (p_as rfl) ?_
    refine wl rfl rfl rfl (p_as rfl) ?_
    refine wl_nil ?_
    refine x_seq ?_
    refine wc_seq ?_
    refine wc_seq ?_
    refine wc_region ?_
    refine wl rfl rfl rfl (p_mv rfl) ?_
    refine wl rfl rfl rfl (p_not rfl) ?_
    refine wl rfl rfl rfl (p_mv rfl) ?_
    refine wl_split (d := 28) rfl (fun q28 => ?_) (fun q28 => ?_)
    ·
     refine wl_s (gd_ rfl rfl rfl rfl rfl rfl) rfl rfl ?_
     refine wl_s (gd_ rfl rfl rfl rfl rfl rfl) rfl rfl ?_
     refine wl_s (gd_ rfl rfl rfl rfl rfl rfl) rfl rfl ?_
     refine wl rfl rfl rfl (p_pickT rfl rfl) ?_
     refine wl_nil ?_
     refine x_seq ?_
     refine wc_yes rfl (rfl) ?_
     refine wc_seq ?_
     refine wc_region ?_
     refine wl rfl rfl rfl (p_bldP (cs := ((List.replicate 32 (0 : UInt8)).map u8v).toArray) rfl (fun _ => by kernel_rfl)) ?_
     refine wle rfl (e_stH sz38 (List.length_replicate ..) (List.length_replicate ..) rfl rfl hb2 (fun w11 hb2 hc hsz => ?_))
     have hzw11 := hc.size
     have HC := HC.trans hc (fun _ _ h => h) (fun k hk ht => absurd ht (by omega))
     have hm := hm.ch hc (by intro k hk ht; omega)
     have hb4 := hb4.ch hc (by omega)
     first | have hr22 := hr22.ch hc (by intro k hk ht; omega) | have hr22 := hr22.chT hc (by intro k hz hk ht; omega)
     have hb5 := hb5.ch hc (by omega)
     refine wl rfl rfl rfl (p_as rfl) ?_
     refine wl_nil ?_
     refine x_seq ?_
     refine wc_ret ?_
     refine x_then_ret ?_
     refine fin_run (resMany (rs := [.cell 2 38, .tmp 3]) rfl (.cellA (cs := List.map u8v (List.replicate 32 (0 : UInt8))) rfl Tryd.underlying38 rfl (szL sz38 (by rw [List.length_map]; exact (List.length_replicate ..))) (rngL hb2) (.tmp rfl (.nil))) rfl) ?_
     have hrt := root_part hpr22 hne
     rw [hrt, if_pos (.inl (by simpa using q28))]; exact ⟨rfl, HC⟩
    ·
     refine wl_g (gd_ rfl rfl rfl rfl rfl rfl) rfl rfl (p_mv rfl) ?_
     refine wl_g (gd_ rfl rfl rfl rfl rfl rfl) rfl rfl (p_lenS Tryd.underlying31 rfl) ?_
     refine wl_g (gd_ rfl rfl rfl rfl rfl rfl) rfl rfl (p_gt rfl rfl) ?_
     refine wl rfl rfl rfl (p_pickF rfl rfl) ?_
     refine wl_nil ?_
     refine x_seq ?_
     refine wc_if rfl (fun c1 => ?_) (fun c1 => ?_)
     ·
      have c1 := of_decide_eq_true c1
      refine wc_seq ?_
      refine wc_region ?_
      refine wl rfl rfl rfl (p_bldP (cs := ((List.replicate 32 (0 : UInt8)).map u8v).toArray) rfl (fun _ => by kernel_rfl)) ?_
      refine wle rfl (e_stH sz38 (List.length_replicate ..) (List.length_replicate ..) rfl rfl hb2 (fun w12 hb2 hc hsz => ?_))
      have hzw12 := hc.size
      have HC := HC.trans hc (fun _ _ h => h) (fun k hk ht => absurd ht (by omega))
      have hm := hm.ch hc (by intro k hk ht; omega)
      have hb4 := hb4.ch hc (by omega)
      first | have hr22 := hr22.ch hc (by intro k hk ht; omega) | have hr22 := hr22.chT hc (by intro k hz hk ht; omega)
      have hb5 := hb5.ch hc (by omega)
      refine wl rfl rfl rfl (p_as rfl) ?_
      refine wl_nil ?_
      refine x_seq ?_
      refine wc_ret ?_
      refine x_then_ret ?_
      refine fin_run (resMany (rs := [.cell 2 38, .tmp 3]) rfl (.cellA (cs := List.map u8v (List.replicate 32 (0 : UInt8))) rfl Tryd.underlying38 rfl (szL sz38 (by rw [List.length_map]; exact (List.length_replicate ..))) (rngL hb2) (.tmp rfl (.nil))) rfl) ?_
      have hrt := root_part hpr22 hne
      rw [hrt, if_pos (.inr (by omega))]; exact ⟨rfl, HC⟩
     ·
      have c1 := of_decide_eq_false c1
      refine wc_skip ?_
      refine x_seq ?_
      refine wc_seq ?_
      refine wc_region ?_
      refine wl rfl rfl rfl (p_ldH (L := h22) Tryd.underlying38 sz38 hpr22.len rfl (fun _ e => e ▸ rngL hb5)) ?_
      refine wle rfl (e_stH sz38 (List.length_replicate ..) hpr22.len rfl rfl hb2 (fun w13 hb2 hc hsz => ?_))
      have hzw13 := hc.size
      have HC := HC.trans hc (fun _ _ h => h) (fun k hk ht => absurd ht (by omega))
      have hm := hm.ch hc (by intro k hk ht; omega)
      have hb4 := hb4.ch hc (by omega)
      first | have hr22 := hr22.ch hc (by intro k hk ht; omega) | have hr22 := hr22.chT hc (by intro k hz hk ht; omega)
      have hb5 := hb5.ch hc (by omega)
      refine wl rfl rfl rfl (p_as rfl) ?_
      refine wl_nil ?_
      refine x_seq ?_
      refine wc_ret ?_
      refine fin_run (resMany (rs := [.cell 2 38, .tmp 3]) rfl (.cellA (cs := List.map u8v h22) rfl Tryd.underlying38 rfl (szL sz38 (by rw [List.length_map]; exact hpr22.len)) (rngL hb2) (.tmp rfl (.nil))) rfl) ?_
      have hrt := root_part hpr22 hne
      rw [hrt, if_neg (by rintro (h | h); rw [q28] at h; simp at h; omega)]; exact ⟨rfl, HC⟩
  ·
   have q12 := of_decide_eq_false q12
   have hne : l ≠ [ND0] := fun e => by rw [e] at hml; simp at hml; omega
   refine ws_s rfl (gd_ rfl rfl rfl rfl rfl rfl) rfl rfl ?_
   refine ws_s rfl (gd_ rfl rfl rfl rfl rfl rfl) rfl rfl ?_
   refine ws_s rfl (gd_ rfl rfl rfl rfl rfl rfl) rfl rfl ?_
   refine ws_s rfl (gd_ rfl rfl rfl rfl rfl rfl) rfl rfl ?_
   refine ws_s rfl (gd_ rfl rfl rfl rfl rfl rfl) rfl rfl ?_
   refine ws_p rfl rfl rfl rfl (p_pickF rfl rfl) ?_
   refine ws_n ?_
   refine x_seq ?_
   refine wc_no rfl (rfl) ?_
   refine wc_skip ?_
   refine x_seq ?_
   refine wc_seq ?_
   refine wc_region ?_
   refine wl rfl rfl rfl (p_mv rfl) ?_
   refine wle rfl (e_call ent89 rfl rfl (rpart_any l.length (Fa := No) (Nat.le_refl _) hm SI.nil (by omega) (by omega)) ?_)
   rintro _ w14 ⟨h22, A22, l22, c22, r22, ok22, rfl, hr22, hpr22, hc⟩
   refine ⟨_, rfl, ?_⟩
   have hzw14 := hc.size
   have HC := HC.tr hc
   have hm := hm.no hc
   have hb2 := hb2.ch hc (fun h => h)
   have hb4 := hb4.ch hc (fun h => h)
   have hln22 := hr22.len
   refine wl rfl rfl rfl (p_mv rfl) ?_
   refine wl rfl rfl rfl (p_ext rfl rfl) ?_
   refine wl rfl rfl rfl (p_ext rfl rfl) ?_
   refine wl rfl rfl rfl (p_ext rfl rfl) ?_
   have hltg2 := hb2.lt
   have hltg4 := hb4.lt
   refine wle rfl (e_alloc (cs := ((List.replicate 32 (0 : UInt8)).map u8v).toArray) rfl (by rfl) rfl (fun w15 g5 hg5 hb5 hc hsz5 => ?_))
   have hzw15 := hc.size
   have HC := HC.tr hc
   have hm := hm.no hc
   have hb2 := hb2.ch hc (fun h => h)
   have hb4 := hb4.ch hc (fun h => h)
   have hr22 := hr22.no hc
   have hge5 : w.heap.size ≤ g5 := by have := HC.size; omega
   have neg2_5 : g2 < g5 := by omega
   have neg4_5 : g4 < g5 := by omega
   refine wle rfl (e_stH sz38 (List.length_replicate ..) hpr22.len rfl rfl hb5 (fun w16 hb5 hc hsz => ?_))
   have hzw16 := hc.size
   have HC := HC.trans hc (fun _ _ h => h) (fun k hk ht => absurd ht (by omega))
   have hm := hm.ch hc (by intro k hk ht; omega)
   have hb2 := hb2.ch hc (by omega)
   have hb4 := hb4.ch hc (by omega)
   first | have hr22 := hr22.ch hc (by intro k hk ht; omega) | have hr22 := hr22.chT hc (by intro k hz hk ht; omega)
   refine wl rfl rfl rfl (p_as rfl) ?_
   refine wl rfl rfl rfl (p_as rfl) ?_
   refine wl_nil ?_
   refine x_seq ?_
   refine wc_seq ?_
   refine wc_seq ?_
   refine wc_region ?_
   refine wl rfl rfl rfl (p_mv rfl) ?_
   refine wl rfl rfl rfl (p_not rfl) ?_
   refine wl rfl rfl rfl (p_mv rfl) ?_
   refine wl_split (d := 28) rfl (fun q28 => ?_) (fun q28 => ?_)
   ·
    refine wl_s (gd_ rfl rfl rfl rfl rfl rfl) rfl rfl ?_
    refine wl_s (gd_ rfl rfl rfl rfl rfl rfl) rfl rfl ?_
    refine wl_s (gd_ rfl rfl rfl rfl rfl rfl) rfl rfl ?_
    refine wl rfl rfl rfl (p_pickT rfl rfl) ?_
    refine wl_nil ?_
    refine x_seq ?_
    refine wc_yes rfl (rfl) ?_
    refine wc_seq ?_
    refine wc_region ?_
    refine wl rfl rfl rfl (p_bldP (cs := ((List.replicate 32 (0 : UInt8)).map u8v).toArray) rfl (fun _ => by kernel_rfl)) ?_
    refine wle rfl (e_stH sz38 (List.length_replicate ..) (List.length_replicate ..) rfl rfl hb2 (fun w17 hb2 hc hsz => ?_))
    have hzw17 := hc.size
    have HC := HC.trans hc (fun _ _ h => h) (fun k hk ht => absurd ht (by omega))
    have hm := hm.ch hc (by intro k hk ht; omega)
    have hb4 := hb4.ch hc (by omega)
    first | have hr22 := hr22.ch hc (by intro k hk ht; omega) | have hr22 := hr22.chT hc (by intro k hz hk ht; omega)
    have hb5 := hb5.ch hc (by omega)
    refine wl rfl rfl rfl (p_as rfl) ?_
    refine wl_nil ?_
    refine x_seq ?_
    refine wc_ret ?_
    refine x_then_ret ?_
    refine fin_run (resMany (rs := [.cell 2 38, .tmp 3]) rfl (.cellA (cs := List.map u8v (List.replicate 32 (0 : UInt8))) rfl Tryd.underlying38 rfl (szL sz38 (by rw [List.length_map]; exact (List.length_replicate ..))) (rngL hb2) (.tmp rfl (.nil))) rfl) ?_
    have hrt := root_part hpr22 hne
    rw [hrt, if_pos (.inl (by simpa using q28))]; exact ⟨rfl, HC⟩
   ·
    refine wl_g (gd_ rfl rfl rfl rfl rfl rfl) rfl rfl (p_mv rfl) ?_
    refine wl_g (gd_ rfl rfl rfl rfl rfl rfl) rfl rfl (p_lenS Tryd.underlying31 rfl) ?_
    refine wl_g (gd_ rfl rfl rfl rfl rfl rfl) rfl rfl (p_gt rfl rfl) ?_
    refine wl rfl rfl rfl (p_pickF rfl rfl) ?_
    refine wl_nil ?_
    refine x_seq ?_
    refine wc_if rfl (fun c1 => ?_) (fun c1 => ?_)
    ·
     have c1 := of_decide_eq_true c1
     refine wc_seq ?_
     refine wc_region ?_
     refine wl rfl rfl rfl (p_bldP (cs := ((List.replicate 32 (0 : UInt8)).map u8v).toArray) rfl (fun _ => by kernel_rfl)) ?_
     refine wle rfl (e_stH sz38 (List.length_replicate ..) (List.length_replicate ..) rfl rfl hb2 (fun w18 hb2 hc hsz => ?_))
     have hzw18 := hc.size
     have HC := HC.trans hc (fun _ _ h => h) (fun k hk ht => absurd ht (by omega))
     have hm := hm.ch hc (by intro k hk ht; omega)
     have hb4 := hb4.ch hc (by omega)
     first | have hr22 := hr22.ch hc (by intro k hk ht; omega) | have hr22 := hr22.chT hc (by intro k hz hk ht; omega)
     have hb5 := hb5.ch hc (by omega)
     refine wl rfl rfl rfl (p_as rfl) ?_
     refine wl_nil ?_
     refine x_seq ?_
     refine wc_ret ?_
     refine x_then_ret ?_
     refine fin_run (resMany (rs := [.cell 2 38, .tmp 3]) rfl (.cellA (cs := List.map u8v (List.replicate 32 (0 : UInt8))) rfl Tryd.underlying38 rfl (szL sz38 (by rw [List.length_map]; exact (List.length_replicate ..))) (rngL hb2) (.tmp rfl (.nil))) rfl) ?_
     have hrt := root_part hpr22 hne
     rw [hrt, if_pos (.inr (by omega))]; exact ⟨rfl, HC⟩
    ·
     have c1 := of_decide_eq_false c1
     refine wc_skip ?_
     refine x_seq ?_
     refine wc_seq ?_
     refine wc_region ?_
     refine wl rfl rfl rfl (p_ldH (L := h22) Tryd.underlying38 sz38 hpr22.len rfl (fun _ e => e ▸ rngL hb5)) ?_
     refine wle rfl (e_stH sz38 (List.length_replicate ..) hpr22.len rfl rfl hb2 (fun w19 hb2 hc hsz => ?_))
     have hzw19 := hc.size
     have HC := HC.trans hc (fun _ _ h => h) (fun k hk ht => absurd ht (by omega))
     have hm := hm.ch hc (by intro k hk ht; omega)
     have hb4 := hb4.ch hc (by omega)
     first | have hr22 := hr22.ch hc (by intro k hk ht; omega) | have hr22 := hr22.chT hc (by intro k hz hk ht; omega)
     have hb5 := hb5.ch hc (by omega)
     refine wl rfl rfl rfl (p_as rfl) ?_
     refine wl_nil ?_
     refine x_seq ?_
     refine wc_ret ?_
     refine fin_run (resMany (rs := [.cell 2 38, .tmp 3]) rfl (.cellA (cs := List.map u8v h22) rfl Tryd.underlying38 rfl (szL sz38 (by rw [List.length_map]; exact hpr22.len)) (rngL hb2) (.tmp rfl (.nil))) rfl) ?_
     have hrt := root_part hpr22 hne
     rw [hrt, if_neg (by rintro (h | h); rw [q28] at h; simp at h; omega)]; exact ⟨rfl, HC⟩

set_option maxHeartbeats 1000000 in
set_option maxRecDepth 20000 in
theorem rgood27 {w : World}  {Am : Option Addr} {lm cm : Nat} {Fm : Nat → Prop} {l : List ND} (hm : SI w Fm eND Am lm cm l) (hl : lm ≤ 1000000) :
    Calls Tryd.prog 92 #[.slice Am lm cm] w fun e w' => e = .returned (.bool (rootN l).2) ∧ Ch No w w' := by
  have hm := hm.old
  have HC : Ch No w w := Ch.refl _ _
  refine enter' (args := [.slice Am lm cm]) (n := 11) Tryd.func92 rfl rfl rfl ?_
  refine wc_seq ?_
  refine wc_region ?_
  refine wl rfl rfl rfl (p_as rfl) ?_
  refine wl_nil ?_
  refine x_seq ?_
  refine wc_seq ?_
  refine wc_region ?_
  refine wl rfl rfl rfl (p_mv rfl) ?_
  refine wle rfl (e_call ent57 rfl rfl (rroot27 (hm) (by omega)) ?_)
  rintro _ w1 ⟨rfl, hc⟩
  refine ⟨_, rfl, ?_⟩
  have hzw1 := hc.size
  have HC := HC.tr hc
  have hm := hm.no hc
  refine wl rfl rfl rfl (p_mv rfl) ?_
  refine wl rfl rfl rfl (p_ext rfl rfl) ?_
  refine wl rfl rfl rfl (p_ext rfl rfl) ?_
  refine wle rfl (e_alloc (cs := ((List.replicate 32 (0 : UInt8)).map u8v).toArray) rfl (by rfl) rfl (fun w2 g3 hg3 hb3 hc hsz3 => ?_))
  have hzw2 := hc.size
  have HC := HC.tr hc
  have hm := hm.no hc
  have hge3 : w.heap.size ≤ g3 := by have := HC.size; omega
  refine wle rfl (e_stH sz38 (List.length_replicate ..) rootN_len rfl rfl hb3 (fun w3 hb3 hc hsz => ?_))
  have hzw3 := hc.size
  have HC := HC.trans hc (fun _ _ h => h) (fun k hk ht => absurd ht (by omega))
  have hm := hm.ch hc (by intro k hk ht; omega)
  refine wl rfl rfl rfl (p_as rfl) ?_
  refine wl_nil ?_
  refine x_seq ?_
  refine wc_seq ?_
  refine wc_region ?_
  refine wl rfl rfl rfl (p_mv rfl) ?_
  refine wl rfl rfl rfl (p_as rfl) ?_
  refine wl_nil ?_
  refine x_seq ?_
  refine wc_ret ?_
  refine fin_run ((res1 rfl rfl)) ?_
  exact ⟨rfl, HC⟩

set_option maxHeartbeats 1000000 in
set_option maxRecDepth 20000 in
theorem rkeys27 {w : World}  {Am : Option Addr} {lm cm : Nat} {Fm : Nat → Prop} {l : List ND} (hm : SI w Fm eND Am lm cm l) (hl : lm ≤ 1000000) :
    Calls Tryd.prog 63 #[.slice Am lm cm] w fun e w' => ∃ A c lk, e = .returned (.slice A lk c) ∧ RI w' (fun k => w.heap.size ≤ k) 38 eH A lk c (keysN l) ∧ Ch No w w' := by
  have hml := hm.len
  have hm := hm.old
  have HC : Ch No w w := Ch.refl _ _
  refine enter' (args := [.slice Am lm cm]) (n := 25) Tryd.func63 rfl rfl rfl ?_
  refine wc_seq ?_
  refine wc_region ?_
  refine wl rfl rfl rfl (p_as rfl) ?_
  refine wl_nil ?_
  refine x_seq ?_
  refine wc_seq ?_
  refine wc_region ?_
  refine wl rfl rfl rfl (p_as rfl) ?_
  refine wl_nil ?_
  refine x_seq ?_
  refine wc_seq ?_
  refine wc_seq ?_
  refine wc_region ?_
  refine wl rfl rfl rfl (p_mv rfl) ?_
  refine wle rfl (e_call ent92 rfl rfl (rgood27 (hm) (by omega)) ?_)
  rintro _ w1 ⟨rfl, hc⟩
  refine ⟨_, rfl, ?_⟩
  have hzw1 := hc.size
  have HC := HC.tr hc
  have hm := hm.no hc
  refine wl rfl rfl rfl (p_not rfl) ?_
  refine wl_nil ?_
  refine x_seq ?_
  refine wc_if rfl (fun c0 => ?_) (fun c0 => ?_)
  ·
   have hg0 : (rootN l).2 = false := by simpa using c0
   refine wc_seq ?_
   refine wc_region ?_
   refine wl rfl rfl rfl (p_as rfl) ?_
   refine wl_nil ?_
   refine x_seq ?_
   refine wc_ret ?_
   refine x_then_ret ?_
   refine fin_run ((res1 rfl rfl)) ?_
   exact ⟨_, _, _, rfl, by rw [keys_no hg0]; exact RI.nil _ _ _ _, HC⟩
  ·
   have hg1 : (rootN l).2 = true := by simpa using c0
   refine wc_skip ?_
   refine x_seq ?_
   refine wc_seq ?_
   refine wc_seq ?_
   refine wc_region ?_
   refine wl rfl rfl rfl (p_mv rfl) ?_
   refine wl rfl rfl rfl (p_lenS Tryd.underlying31 rfl) ?_
   refine wl rfl rfl rfl (p_mv rfl) ?_
   refine wl_nil ?_
   refine x_seq ?_
   refine wc_block ?_
   refine wc_loop (e' := [(3, .slice (none) (0) (0)), (9, .slice Am lm cm), (10, i64 (lm : Int)), (11, i64 ((0) : Int))]) (fun mz ez uz => ∃ i : Nat, ∃ ys : List H8, ∃ A : Option Addr, ∃ lw : Nat, ∃ c : Nat, mz = lm - i ∧ ez = [(3, .slice A lw c), (9, .slice Am lm cm), (10, i64 (lm : Int)), (11, i64 (i : Int))] ∧ (i ≤ lm) ∧ (lw ≤ i) ∧ (ys = ((l.take i).filter fun x => decide (x.kind = 3)).map ND.key) ∧ (RI uz (fun k => w.heap.size ≤ k) 38 eH A lw c ys) ∧ (SI uz (fun k => k < w.heap.size) eND Am lm cm l) ∧ (Ch No w uz))
    ⟨rfl, rfl, rfl, rfl, trivial⟩ ⟨0, [], none, 0, 0, rfl, rfl, (by omega), (by omega), rfl, RI.nil _ _ _ _, hm, HC⟩ ?_
   rintro m0 e w2 ⟨i, ys, A, lw, c, hm0, rfl, hi, hyl, hys, hW, hm, HC⟩
   have hzw2 := HC.size
   refine wc_seq ?_
   refine wc_region ?_
   refine wl rfl rfl rfl (p_lt rfl rfl) ?_
   refine wl_nil ?_
   refine x_seq ?_
   refine wc_seq ?_
   refine wc_if rfl (fun c1 => ?_) (fun c1 => ?_)
   ·
    have c1 := of_decide_eq_true c1
    refine wc_skip ?_
    refine x_seq ?_
    refine wc_seq ?_
    refine wc_block ?_
    refine wc_seq ?_
    refine wc_region ?_
    obtain ⟨b3, o3, hA3, hF3, hr3⟩ := (hm).opn (i := i) (d := ND0) (by omega)
    have hok3 := (hm).okAt (i := i) (d := ND0) (by omega)
    obtain ⟨x3, ex3⟩ : ∃ x_, x_ = List.getD l (i) ND0 := ⟨_, rfl⟩
    rw [← ex3] at hr3 hok3
    obtain ⟨hx3k, hx3v⟩ := hok3
    have hr3 : w2.rangeAt b3 (o3 + i * 66) (([i64 x3.kind, i64 x3.bit] ++ ((List.map u8v x3.key) ++ (List.map u8v x3.val))) : List Value) := hr3
    refine wl rfl rfl rfl (p_ixS (j := i * 66) Tryd.underlying31 sz117 rfl hA3 rfl (by omega) (by omega) (congrArg (· * 66) (Int.toNat_natCast _))) ?_
    have hdr : l.take (i + 1) = l.take i ++ [x3] := by rw [ex3]; exact getD_take (by omega)
    refine wl rfl rfl rfl (p_ldA (cs := (([i64 x3.kind, i64 x3.bit] ++ ((List.map u8v x3.key) ++ (List.map u8v x3.val))) : List Value)) Tryd.underlying117 rfl (szL sz117 (by first | rfl | (simp only [List.length_append, List.length_map, List.length_cons, List.length_nil, (show List.length x3.key = 32 from hx3k), (show List.length x3.val = 32 from hx3v)]; done) | (simp only [List.length_append, List.length_map, List.length_cons, List.length_nil, List.size_toArray, (show List.length x3.key = 32 from hx3k), (show List.length x3.val = 32 from hx3v)]; done))) rfl (fun _ e => e ▸ hr3)) ?_
    refine wle rfl (e_alloc (cs := (([Value.int .i64 0, Value.int .i64 0] ++ ((List.map u8v (List.replicate 32 (0 : UInt8))) ++ (List.map u8v (List.replicate 32 (0 : UInt8))))) : List Value).toArray) rfl (by rfl) (by rfl) (fun w4 g5 hg5 hb5 hc hsz5 => ?_))
    have hzw4 := hc.size
    have HC := HC.tr hc
    have hW := hW.after hc
    have hm := hm.no hc
    have hge5 : w.heap.size ≤ g5 := by have := HC.size; omega
    refine wle rfl (e_stW (vs := (([i64 x3.kind, i64 x3.bit] ++ ((List.map u8v x3.key) ++ (List.map u8v x3.val))) : List Value)) (szL sz117 (by first | rfl | (simp only [List.length_append, List.length_map, List.length_cons, List.length_nil, (show List.length x3.key = 32 from hx3k), (show List.length x3.val = 32 from hx3v)]; done) | (simp only [List.length_append, List.length_map, List.length_cons, List.length_nil, List.size_toArray, (show List.length x3.key = 32 from hx3k), (show List.length x3.val = 32 from hx3v)]; done))) (oneA (allOne rfl) (oneA (oneL one_u8 _) (oneL one_u8 _))) rfl rfl hb5 (by first | rfl | (simp only [List.length_append, List.length_map, List.length_cons, List.length_nil, (show List.length (List.replicate 32 (0 : UInt8)) = 32 from (List.length_replicate ..)), (show List.length (List.replicate 32 (0 : UInt8)) = 32 from (List.length_replicate ..)), (show List.length x3.key = 32 from hx3k), (show List.length x3.val = 32 from hx3v)]; done) | (simp only [List.length_append, List.length_map, List.length_cons, List.length_nil, List.size_toArray, (show List.length (List.replicate 32 (0 : UInt8)) = 32 from (List.length_replicate ..)), (show List.length (List.replicate 32 (0 : UInt8)) = 32 from (List.length_replicate ..)), (show List.length x3.key = 32 from hx3k), (show List.length x3.val = 32 from hx3v)]; done)) (fun w5 hb5 hc hsz => ?_))
    have hzw5 := hc.size
    have HC := HC.trans hc (fun _ _ h => h) (fun k hk ht => absurd ht (by omega))
    have hW := hW.ch hc (by intro k hz hk ht; omega)
    have hm := hm.ch hc (by intro k hk ht; omega)
    refine wl_nil ?_
    refine x_seq ?_
    refine wc_seq ?_
    refine wc_region ?_
    refine wl rfl rfl rfl (p_fld (j := 0) Tryd.underlying117 rfl ⟨_, by rfl⟩ rfl rfl) ?_
    refine wl rfl rfl rfl (p_ld Tryd.underlying3 rfl rfl (ld (cell_at (p := []) (v := (i64 x3.kind : Value)) (r := (([i64 x3.bit] ++ ((List.map u8v x3.key) ++ (List.map u8v x3.val))) : List Value)) hb5 (by simp only [List.append_assoc, List.cons_append, List.nil_append, List.append_nil]) (by first | rfl | (simp only [List.length_append, List.length_map, List.length_cons, List.length_nil]; done) | (simp only [List.length_append, List.length_map, List.length_cons, List.length_nil, List.size_toArray]; done))))) ?_
    refine wl rfl rfl rfl (p_eq rfl rfl) ?_
    refine wl_nil ?_
    refine x_seq ?_
    refine wc_if rfl (fun c2 => ?_) (fun c2 => ?_)
    ·
     have c2 := of_decide_eq_true c2
     refine wc_region ?_
     refine wl rfl rfl rfl (p_mv rfl) ?_
     refine wl rfl rfl rfl (p_fld (j := 2) Tryd.underlying117 rfl ⟨_, by rfl⟩ rfl rfl) ?_
     refine wl rfl rfl rfl (p_ldA (cs := (List.map u8v x3.key)) Tryd.underlying38 rfl (szL sz38 (by first | rfl | (simp only [List.length_append, List.length_map, List.length_cons, List.length_nil, (show List.length x3.key = 32 from hx3k)]; done) | (simp only [List.length_append, List.length_map, List.length_cons, List.length_nil, List.size_toArray, (show List.length x3.key = 32 from hx3k)]; done))) rfl (fun _ e => e ▸ rng_at (p := ([i64 x3.kind, i64 x3.bit] : List Value)) (q := ((List.map u8v x3.key) : List Value)) (r := ((List.map u8v x3.val) : List Value)) hb5 (by simp only [List.append_assoc, List.cons_append, List.nil_append, List.append_nil]) (by first | rfl | (simp only [List.length_append, List.length_map, List.length_cons, List.length_nil]; done) | (simp only [List.length_append, List.length_map, List.length_cons, List.length_nil, List.size_toArray]; done)))) ?_
     have hltg5 := hb5.lt
     refine wle rfl (e_bslX (E := 38) (cs := ((List.map u8v x3.key) : List Value)) (cs' := ((hx x3.key) : List Value)) rfl rfl (by simp only [hv, map_hx hx3k] <;> rfl) (fun _ => by kernel_rfl) (fun w6 g21 hg21 hb21 hc hsz21 => ?_))
     have hzw6 := hc.size
     have HC := HC.tr hc
     have hW := hW.after hc
     have hm := hm.no hc
     have hb5 := hb5.ch hc (fun h => h)
     have hge21 : w.heap.size ≤ g21 := by have := HC.size; omega
     have hS21 := SI.oneA (E := eH) (x := x3.key) hb21 rfl hx3k
     have hltg5 := hb5.lt
     refine wle rfl (e_appI rfl el23 rfl rfl hW (hS21) (by omega) (by intro k hk; first | omega | (dsimp only at *; omega)) (fun w7 A22 c22 hW hc => ?_))
     have hzw7 := hc.size
     have HC := HC.trans hc (fun _ _ h => h) (fun k hk ht => absurd ht (by omega))
     have hm := hm.ch hc (by intro k hk ht; omega)
     have hb5 := hb5.ch hc (by omega)
     first | have hS21 := hS21.ch hc (by intro k hk ht; omega) | have hS21 := hS21.chT hc (by intro k hz hk ht; omega)
     refine wl rfl rfl rfl (p_as rfl) ?_
     refine wl_nil ?_
     refine x_in_normal ?_
     refine x_seq ?_
     refine wc_region ?_
     refine wl rfl rfl rfl (p_add rfl rfl (w64 (by omega))) ?_
     refine wl rfl rfl rfl (p_mv rfl) ?_
     refine wl_nil ?_
     refine x_round (e' := [(3, .slice (_) (_) (_)), (9, .slice Am lm cm), (10, i64 (lm : Int)), (11, i64 ((i + 1) : Int))]) ⟨rfl, rfl, rfl, rfl, trivial⟩ (by rw [hm0]; omega) ⟨i + 1, _, _, _, _, rfl, rfl, (by omega), (by omega), (by rw [hdr, List.filter_append, List.map_append, ← hys]; simp [c2]), (hW.mono (fun k _ hk => by first | exact hk | exact hk.1 | exact hk.1.1 | exact hk.1.1.1 | (dsimp only at *; omega))), hm, HC⟩
    ·
     have c2 := of_decide_eq_false c2
     refine wc_skip ?_
     refine x_in_normal ?_
     refine x_seq ?_
     refine wc_region ?_
     refine wl rfl rfl rfl (p_add rfl rfl (w64 (by omega))) ?_
     refine wl rfl rfl rfl (p_mv rfl) ?_
     refine wl_nil ?_
     refine x_round (e' := [(3, .slice (_) (_) (_)), (9, .slice Am lm cm), (10, i64 (lm : Int)), (11, i64 ((i + 1) : Int))]) ⟨rfl, rfl, rfl, rfl, trivial⟩ (by rw [hm0]; omega) ⟨i + 1, _, _, _, _, rfl, rfl, (by omega), (by omega), (by rw [hdr, List.filter_append, List.map_append, ← hys]; simp [c2]), (hW.mono (fun k _ hk => by first | exact hk | exact hk.1 | exact hk.1.1 | exact hk.1.1.1 | (dsimp only at *; omega))), hm, HC⟩
   ·
    have c1 := of_decide_eq_false c1
    refine wc_exit ?_
    refine x_then_exit ?_
    refine x_then_exit ?_
    refine x_in_here ?_
    refine x_seq ?_
    refine wc_seq ?_
    refine wc_region ?_
    refine wl rfl rfl rfl (p_mv rfl) ?_
    refine wl rfl rfl rfl (p_as rfl) ?_
    refine wl_nil ?_
    refine x_seq ?_
    refine wc_ret ?_
    refine fin_run ((res1 rfl rfl)) ?_
    rw [List.take_of_length_le (by omega), ← keys_yes hg1] at hys
    exact ⟨_, _, _, rfl, hys ▸ hW, HC⟩

def SkipOK (p : PT) : Prop := ∀ {w : World} {Am : Option Addr} {lm cm : Nat} {Fm : Nat → Prop} {r : List ND}, SI w Fm eND Am lm cm (p.nodes ++ r) → lm ≤ 1000000 → Calls Tryd.prog 91 #[.slice Am lm cm] w fun e w' => ∃ A l c, e = .returned (.slice A l c) ∧ SI w' Fm eND A l c r ∧ Ch No w w'

set_option maxHeartbeats 1000000 in
set_option maxRecDepth 20000 in
theorem skip_one {w : World} {Am : Option Addr} {lm cm : Nat} {Fm : Nat → Prop} {p : PT} {r : List ND} (hm : SI w Fm eND Am lm cm (p.nodes ++ r)) (hl : lm ≤ 1000000) (hpk : ∀ x t, p.nodes ++ r = x :: t → ¬ x.kind = 4) :
    Calls Tryd.prog 91 #[.slice Am lm cm] w fun e w' => ∃ A l c, e = .returned (.slice A l c) ∧ SI w' Fm eND A l c r ∧ Ch No w w' := by
  have hml := hm.len
  have hpp := PT.nodes_pos p
  have hm0 : 0 < lm := by rw [← hml, List.length_append]; omega
  have HC : Ch No w w := Ch.refl _ _
  refine enter' (args := [.slice Am lm cm]) (n := 14) Tryd.func91 rfl rfl rfl ?_
  refine wc_seq ?_
  refine wc_region ?_
  refine wl rfl rfl rfl (p_as rfl) ?_
  refine wl_nil ?_
  refine x_seq ?_
  refine wc_seq ?_
  refine wc_seq ?_
  refine wc_region ?_
  refine wl rfl rfl rfl (p_mv rfl) ?_
  obtain ⟨b1, o1, hA1, hF1, hr1⟩ := (hm).opn (i := 0) (d := ND0) (by omega)
  have hok1 := (hm).okAt (i := 0) (d := ND0) (by omega)
  obtain ⟨x1, ex1⟩ : ∃ x_, x_ = List.getD (p.nodes ++ r) (0) ND0 := ⟨_, rfl⟩
  rw [← ex1] at hr1 hok1
  obtain ⟨hx1k, hx1v⟩ := hok1
  have hr1 : w.rangeAt b1 (o1 + 0 * 66) (([i64 x1.kind, i64 x1.bit] ++ ((List.map u8v x1.key) ++ (List.map u8v x1.val))) : List Value) := hr1
  refine wl rfl rfl rfl (p_ixS (j := 0 * 66) Tryd.underlying31 sz117 rfl hA1 rfl (by omega) (by omega) rfl) ?_
  have hdr : p.nodes ++ r = x1 :: (p.nodes ++ r).drop 1 := by rw [ex1]; exact List.drop_zero.symm.trans (getD_drop (by omega))
  refine wl rfl rfl rfl (p_fld (j := 0) Tryd.underlying117 rfl ⟨_, by rfl⟩ rfl rfl) ?_
  refine wl rfl rfl rfl (p_ld Tryd.underlying3 rfl rfl (ld (cell_sub (v := (i64 x1.kind : Value)) (p := []) (r := (([i64 x1.bit] ++ ((List.map u8v x1.key) ++ (List.map u8v x1.val))) : List Value)) hr1 (by first | rfl | simp only [List.append_assoc, List.cons_append, List.nil_append, List.append_nil]) rfl))) ?_
  refine wl rfl rfl rfl (p_eq rfl rfl) ?_
  refine wl_nil ?_
  refine x_seq ?_
  refine wc_if rfl (fun c0 => ?_) (fun c0 => ?_)
  ·
   have c0 := of_decide_eq_true c0
   exact absurd c0 (hpk _ _ hdr)
   skip
  ·
   have c0 := of_decide_eq_false c0
   have hd1 := (headPn hdr c0).1
   refine wc_skip ?_
   refine x_seq ?_
   refine wc_seq ?_
   refine wc_region ?_
   refine wl rfl rfl rfl (p_mv rfl) ?_
   have hS13 := hm.cutTo (lo := 1) (by omega)
   rw [hd1] at hS13
   refine wl rfl rfl rfl (p_slS (l := 1) (h := lm) Tryd.underlying31 sz117 rfl ⟨_, rfl⟩ rfl (by omega) (by have := hm.cap; omega) hm.cap (q := lm - 1) (by omega)) ?_
   refine wl rfl rfl rfl (p_as rfl) ?_
   refine wl_nil ?_
   refine x_seq ?_
   refine wc_ret ?_
   refine fin_run ((res1 rfl rfl)) ?_
   exact ⟨_, _, _, rfl, hS13, HC⟩

set_option maxHeartbeats 1000000 in
set_option maxRecDepth 20000 in
theorem skip_fork {w : World} {Am : Option Addr} {lm cm : Nat} {Fm : Nat → Prop} {b : Int} {y z : PT} {r : List ND} (IHy : SkipOK y) (IHz : SkipOK z) (hm : SI w Fm eND Am lm cm ((PT.fork b y z).nodes ++ r)) (hl : lm ≤ 1000000) :
    Calls Tryd.prog 91 #[.slice Am lm cm] w fun e w' => ∃ A l c, e = .returned (.slice A l c) ∧ SI w' Fm eND A l c r ∧ Ch No w w' := by
  have hml := hm.len
  have hd1 : ((PT.fork b y z).nodes ++ r).drop 1 = y.nodes ++ (z.nodes ++ r) := by simp [PT.nodes]
  have hm0 : 0 < lm := by rw [← hml]; simp [PT.nodes]
  have hl1 : lm = 1 + (y.nodes.length + (z.nodes.length + r.length)) := by rw [← hml]; simp [PT.nodes]; omega
  have HC : Ch No w w := Ch.refl _ _
  refine enter' (args := [.slice Am lm cm]) (n := 14) Tryd.func91 rfl rfl rfl ?_
  refine wc_seq ?_
  refine wc_region ?_
  refine wl rfl rfl rfl (p_as rfl) ?_
  refine wl_nil ?_
  refine x_seq ?_
  refine wc_seq ?_
  refine wc_seq ?_
  refine wc_region ?_
  refine wl rfl rfl rfl (p_mv rfl) ?_
  obtain ⟨b1, o1, hA1, hF1, hr1⟩ := (hm).opn (i := 0) (d := ND0) (by omega)
  have hok1 := (hm).okAt (i := 0) (d := ND0) (by omega)
  obtain ⟨x1, ex1⟩ : ∃ x_, x_ = List.getD ((PT.fork b y z).nodes ++ r) (0) ND0 := ⟨_, rfl⟩
  rw [← ex1] at hr1 hok1
  obtain ⟨hx1k, hx1v⟩ := hok1
  have hr1 : w.rangeAt b1 (o1 + 0 * 66) (([i64 x1.kind, i64 x1.bit] ++ ((List.map u8v x1.key) ++ (List.map u8v x1.val))) : List Value) := hr1
  refine wl rfl rfl rfl (p_ixS (j := 0 * 66) Tryd.underlying31 sz117 rfl hA1 rfl (by omega) (by omega) rfl) ?_
  refine wl rfl rfl rfl (p_fld (j := 0) Tryd.underlying117 rfl ⟨_, by rfl⟩ rfl rfl) ?_
  refine wl rfl rfl rfl (p_ld Tryd.underlying3 rfl rfl (ld (cell_sub (v := (i64 x1.kind : Value)) (p := []) (r := (([i64 x1.bit] ++ ((List.map u8v x1.key) ++ (List.map u8v x1.val))) : List Value)) hr1 (by first | rfl | simp only [List.append_assoc, List.cons_append, List.nil_append, List.append_nil]) rfl))) ?_
  refine wl rfl rfl rfl (p_eq rfl rfl) ?_
  refine wl_nil ?_
  refine x_seq ?_
  refine wc_yes rfl (decide_eq_true (by rw [ex1]; simp [PT.nodes])) ?_
  refine wc_seq ?_
  refine wc_region ?_
  refine wl rfl rfl rfl (p_mv rfl) ?_
  have hS9 := hm.cutTo (lo := 1) (by omega)
  rw [hd1] at hS9
  refine wl rfl rfl rfl (p_slS (l := 1) (h := lm) Tryd.underlying31 sz117 rfl ⟨_, rfl⟩ rfl (by omega) (by have := hm.cap; omega) hm.cap (q := lm - 1) (by omega)) ?_
  refine wle rfl (e_call ent91 rfl rfl (IHy hS9 (by omega)) ?_)
  rintro _ w2 ⟨A10, l10, c10, rfl, hS10, hc⟩
  refine ⟨_, rfl, ?_⟩
  have hzw2 := hc.size
  have HC := HC.tr hc
  have hm := hm.no hc
  have hS9 := hS9.no hc
  have hln10 := hS10.len
  simp only [List.length_append] at hln10
  refine wle rfl (e_call ent91 rfl rfl (IHz hS10 (by omega)) ?_)
  rintro _ w3 ⟨A11, l11, c11, rfl, hS11, hc⟩
  refine ⟨_, rfl, ?_⟩
  have hzw3 := hc.size
  have HC := HC.tr hc
  have hm := hm.no hc
  have hS9 := hS9.no hc
  have hS10 := hS10.no hc
  have hln11 := hS11.len
  refine wl rfl rfl rfl (p_as rfl) ?_
  refine wl_nil ?_
  refine x_seq ?_
  refine wc_ret ?_
  refine x_then_ret ?_
  refine fin_run ((res1 rfl rfl)) ?_
  exact ⟨_, _, _, rfl, hS11, HC⟩

theorem skip_any : ∀ p : PT, SkipOK p
  | .cut v => by
    intro h1 h2
    exact skip_one h1 h2 (fun x t e hk => by simp [PT.nodes] at e; rw [← e.1] at hk; simp at hk)
  | .item a v => by
    intro h1 h2
    exact skip_one h1 h2 (fun x t e hk => by simp [PT.nodes] at e; rw [← e.1] at hk; simp at hk)
  | .fork b y z => by
    intro h1 h2
    exact skip_fork (skip_any y) (skip_any z) h1 h2
end Go.Proofs.YtkfkdakghjlenaaDoor
