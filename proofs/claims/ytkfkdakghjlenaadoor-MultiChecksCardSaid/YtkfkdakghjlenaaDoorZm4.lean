/-
  Own text, printed by a program of mine (wip/gx): what functions of the program do, walked operation by operation.
-/
import Derived.Test.YtkfkdakghjlenaaDoorProg
import Derived.Test.YtkfkdakghjlenaaDoorGxAgg
import Derived.Test.YtkfkdakghjlenaaDoorTab
import Derived.Test.YtkfkdakghjlenaaDoorGxZer
import Derived.Test.YtkfkdakghjlenaaDoorGxLay
import Derived.Test.YtkfkdakghjlenaaDoorPlPack
import Derived.Test.YtkfkdakghjlenaaDoorPlSum
import Derived.Test.YtkfkdakghjlenaaDoorPlSha
import Derived.Test.YtkfkdakghjlenaaDoorPlTag
import Derived.Test.YtkfkdakghjlenaaDoorPlBits
import Derived.Test.YtkfkdakghjlenaaDoorPlShaSt
import Derived.Test.YtkfkdakghjlenaaDoorPlShaB
import Derived.Test.YtkfkdakghjlenaaDoorPlTrie
import Derived.Test.YtkfkdakghjlenaaDoorPlTrieSt
import Derived.Test.YtkfkdakghjlenaaDoorGxRec
import Derived.Test.YtkfkdakghjlenaaDoorGxYld
import Derived.Test.YtkfkdakghjlenaaDoorPlTrieFil
import Derived.Test.YtkfkdakghjlenaaDoorOnceC
import Derived.Test.YtkfkdakghjlenaaDoorPlTrieW
import Derived.Test.YtkfkdakghjlenaaDoorPlMulti
import Derived.Test.YtkfkdakghjlenaaDoorPlEncs
import Derived.Test.YtkfkdakghjlenaaDoorGxMark
import Derived.Test.YtkfkdakghjlenaaDoorPlTrieLaw
import Derived.Test.YtkfkdakghjlenaaDoorPlTrieAct
import Derived.Test.YtkfkdakghjlenaaDoorGxFun
import Derived.Test.YtkfkdakghjlenaaDoorGxPair
import Derived.Test.YtkfkdakghjlenaaDoorPlMany
import Derived.Test.YtkfkdakghjlenaaDoorZm0
import Derived.Test.YtkfkdakghjlenaaDoorZm1
import Derived.Test.YtkfkdakghjlenaaDoorZm2
import Derived.Test.YtkfkdakghjlenaaDoorZm3
set_option linter.unusedVariables false
set_option linter.unusedSimpArgs false
namespace Go.Proofs.YtkfkdakghjlenaaDoor
open Go.RowKit Go.Gx
open Go.Plain
set_option maxHeartbeats 4000000 in
set_option maxRecDepth 20000 in
theorem rcheck27 {w : World}  {top : List UInt8} {Am : Option Addr} {lm cm : Nat} {Fm : Nat → Prop} {l : List ND} {k : List UInt8} (htop : top.length = 32) (hm : SI w Fm eND Am lm cm l) (hl : lm ≤ 1000000) (hk : k.length = 32) :
    Calls Tryd.prog 59 #[hv top, .slice Am lm cm, hv k] w fun e w' => e = .returned (.tuple #[hv (checkN top l k).1, .bool (checkN top l k).2.1, .bool (checkN top l k).2.2]) ∧ Ch No w w' := by
  have hml := hm.len
  have hm := hm.old
  have HC : Ch No w w := Ch.refl _ _
  refine enter' (args := [hv top, .slice Am lm cm, hv k]) (n := 67) Tryd.func59 rfl rfl rfl ?_
  refine wc_seq ?_
  refine wc_region ?_
  refine wle rfl (e_box (cs := (List.map u8v top).toArray) rfl rfl rfl (fun w1 g3 hg3 hb3 hc hsz3 => ?_))
  have hzw1 := hc.size
  have HC := HC.tr hc
  have hm := hm.no hc
  have hge3 : w.heap.size ≤ g3 := by have := HC.size; omega
  have hltg3 := hb3.lt
  refine wle rfl (e_box (cs := (List.map u8v k).toArray) rfl rfl rfl (fun w2 g5 hg5 hb5 hc hsz5 => ?_))
  have hzw2 := hc.size
  have HC := HC.tr hc
  have hm := hm.no hc
  have hb3 := hb3.ch hc (fun h => h)
  have hge5 : w.heap.size ≤ g5 := by have := HC.size; omega
  have neg3_5 : g3 < g5 := by omega
  have hltg3 := hb3.lt
  have hltg5 := hb5.lt
  refine wle rfl (e_alloc (cs := ((List.replicate 32 (0 : UInt8)).map u8v).toArray) rfl (by rfl) rfl (fun w3 g6 hg6 hb6 hc hsz6 => ?_))
  have hzw3 := hc.size
  have HC := HC.tr hc
  have hm := hm.no hc
  have hb3 := hb3.ch hc (fun h => h)
  have hb5 := hb5.ch hc (fun h => h)
  have hge6 : w.heap.size ≤ g6 := by have := HC.size; omega
  have neg3_6 : g3 < g6 := by omega
  have neg5_6 : g5 < g6 := by omega
  refine wl rfl rfl rfl (p_as rfl) ?_
  refine wl rfl rfl rfl (p_as rfl) ?_
  refine wl_nil ?_
  refine x_seq ?_
  refine wc_seq ?_
  refine wc_region ?_
  refine wl rfl rfl rfl (p_mv rfl) ?_
  refine wle rfl (e_call ent57 rfl rfl (rroot27 (hm) (by omega)) ?_)
  rintro _ w4 ⟨rfl, hc⟩
  refine ⟨_, rfl, ?_⟩
  have hzw4 := hc.size
  have HC := HC.tr hc
  have hm := hm.no hc
  have hb3 := hb3.ch hc (fun h => h)
  have hb5 := hb5.ch hc (fun h => h)
  have hb6 := hb6.ch hc (fun h => h)
  refine wl rfl rfl rfl (p_mv rfl) ?_
  refine wl rfl rfl rfl (p_ext rfl rfl) ?_
  refine wl rfl rfl rfl (p_ext rfl rfl) ?_
  have hltg3 := hb3.lt
  have hltg5 := hb5.lt
  have hltg6 := hb6.lt
  refine wle rfl (e_alloc (cs := ((List.replicate 32 (0 : UInt8)).map u8v).toArray) rfl (by rfl) rfl (fun w5 g9 hg9 hb9 hc hsz9 => ?_))
  have hzw5 := hc.size
  have HC := HC.tr hc
  have hm := hm.no hc
  have hb3 := hb3.ch hc (fun h => h)
  have hb5 := hb5.ch hc (fun h => h)
  have hb6 := hb6.ch hc (fun h => h)
  have hge9 : w.heap.size ≤ g9 := by have := HC.size; omega
  have neg3_9 : g3 < g9 := by omega
  have neg5_9 : g5 < g9 := by omega
  have neg6_9 : g6 < g9 := by omega
  refine wle rfl (e_stH sz38 (List.length_replicate ..) rootN_len rfl rfl hb9 (fun w6 hb9 hc hsz => ?_))
  have hzw6 := hc.size
  have HC := HC.trans hc (fun _ _ h => h) (fun k hk ht => absurd ht (by omega))
  have hm := hm.ch hc (by intro k hk ht; omega)
  have hb3 := hb3.ch hc (by omega)
  have hb5 := hb5.ch hc (by omega)
  have hb6 := hb6.ch hc (by omega)
  refine wl rfl rfl rfl (p_as rfl) ?_
  refine wl_nil ?_
  refine x_seq ?_
  refine wc_seq ?_
  refine wc_seq ?_
  refine wc_region ?_
  refine wl rfl rfl rfl (p_mv rfl) ?_
  refine wl rfl rfl rfl (p_not rfl) ?_
  refine wl rfl rfl rfl (p_mv rfl) ?_
  refine wl_split (d := 18) rfl (fun q18 => ?_) (fun q18 => ?_)
  ·
   refine wl_s (gd_ rfl rfl rfl rfl rfl rfl) rfl rfl ?_
   refine wl_s (gd_ rfl rfl rfl rfl rfl rfl) rfl rfl ?_
   refine wl_s (gd_ rfl rfl rfl rfl rfl rfl) rfl rfl ?_
   refine wl rfl rfl rfl (p_pickT rfl rfl) ?_
   refine wl_nil ?_
   refine x_seq ?_
   refine wc_yes rfl (rfl) ?_
   refine wc_seq ?_
   refine wc_region ?_
   refine wl rfl rfl rfl (p_bldP (cs := ((List.replicate 32 (0 : UInt8)).map u8v).toArray) rfl (fun _ => by kernel_rfl)) ?_
   refine wle rfl (e_stH sz38 (List.length_replicate ..) (List.length_replicate ..) rfl rfl hb6 (fun w7 hb6 hc hsz => ?_))
   have hzw7 := hc.size
   have HC := HC.trans hc (fun _ _ h => h) (fun k hk ht => absurd ht (by omega))
   have hm := hm.ch hc (by intro k hk ht; omega)
   have hb3 := hb3.ch hc (by omega)
   have hb5 := hb5.ch hc (by omega)
   have hb9 := hb9.ch hc (by omega)
   refine wl rfl rfl rfl (p_as rfl) ?_
   refine wl rfl rfl rfl (p_as rfl) ?_
   refine wl_nil ?_
   refine x_seq ?_
   refine wc_ret ?_
   refine x_then_ret ?_
   refine fin_run (resMany (rs := [.cell 6 38, .tmp 7, .tmp 8]) rfl (.cellA (cs := List.map u8v (List.replicate 32 (0 : UInt8))) rfl Tryd.underlying38 rfl (szL sz38 (by rw [List.length_map]; exact (List.length_replicate ..))) (rngL hb6) (.tmp rfl (.tmp rfl (.nil)))) rfl) ?_
   rw [show checkN top l k = (zeroH, false, false) from check_no (by simpa using q18)]; exact ⟨rfl, HC⟩
  ·
   refine wl_g (gd_ rfl rfl rfl rfl rfl rfl) rfl rfl (p_ldH (L := (rootN l).1) Tryd.underlying38 sz38 rootN_len rfl (fun _ e => e ▸ rngL hb9)) ?_
   refine wl_g (gd_ rfl rfl rfl rfl rfl rfl) rfl rfl (p_ldH (L := top) Tryd.underlying38 sz38 htop rfl (fun _ e => e ▸ rngL hb3)) ?_
   refine wl_g (gd_ rfl rfl rfl rfl rfl rfl) rfl rfl (p_neH (a := (rootN l).1) (b := top) (by kernel_rfl) Tryd.underlying38 Tryd.underlying5 sz5 rfl rfl (rootN_len) (htop)) ?_
   refine wl rfl rfl rfl (p_pickF rfl rfl) ?_
   refine wl_nil ?_
   refine x_seq ?_
   refine wc_if rfl (fun c0 => ?_) (fun c0 => ?_)
   ·
    refine wc_seq ?_
    refine wc_region ?_
    refine wl rfl rfl rfl (p_bldP (cs := ((List.replicate 32 (0 : UInt8)).map u8v).toArray) rfl (fun _ => by kernel_rfl)) ?_
    refine wle rfl (e_stH sz38 (List.length_replicate ..) (List.length_replicate ..) rfl rfl hb6 (fun w8 hb6 hc hsz => ?_))
    have hzw8 := hc.size
    have HC := HC.trans hc (fun _ _ h => h) (fun k hk ht => absurd ht (by omega))
    have hm := hm.ch hc (by intro k hk ht; omega)
    have hb3 := hb3.ch hc (by omega)
    have hb5 := hb5.ch hc (by omega)
    have hb9 := hb9.ch hc (by omega)
    refine wl rfl rfl rfl (p_as rfl) ?_
    refine wl rfl rfl rfl (p_as rfl) ?_
    refine wl_nil ?_
    refine x_seq ?_
    refine wc_ret ?_
    refine x_then_ret ?_
    refine fin_run (resMany (rs := [.cell 6 38, .tmp 7, .tmp 8]) rfl (.cellA (cs := List.map u8v (List.replicate 32 (0 : UInt8))) rfl Tryd.underlying38 rfl (szL sz38 (by rw [List.length_map]; exact (List.length_replicate ..))) (rngL hb6) (.tmp rfl (.tmp rfl (.nil)))) rfl) ?_
    rw [show checkN top l k = (zeroH, false, false) from check_ne (by simpa using c0)]; exact ⟨rfl, HC⟩
   ·
    have hgd : (rootN l).2 = true := by simpa using q18
    have heq : (rootN l).1 = top := by simpa using c0
    obtain ⟨q0, hq0, hs0⟩ := good_say (k := k) hgd
    refine wc_skip ?_
    refine x_seq ?_
    refine wc_seq ?_
    refine wc_block ?_
    refine wc_loop (e' := [(1, .slice (Am) (lm) (cm)), (3, .pointer (some ⟨g3, 0, none⟩)), (5, .pointer (some ⟨g5, 0, none⟩)), (6, .pointer (some ⟨g6, 0, none⟩))]) (fun mz ez uz => ∃ Bz : Option Addr, ∃ lz : Nat, ∃ cz : Nat, ∃ cur : List ND, ∃ q : Option PT, ∃ r : List ND, mz = lz ∧ ez = [(1, .slice Bz lz cz), (3, .pointer (some ⟨g3, 0, none⟩)), (5, .pointer (some ⟨g5, 0, none⟩)), (6, .pointer (some ⟨g6, 0, none⟩))] ∧ (SI uz (fun k => k < w.heap.size) eND Bz lz cz cur) ∧ (cur = nodesO q ++ r) ∧ (sayO k q = sayN l k) ∧ (lz ≤ 1000000) ∧ (Blk uz g3 38 (List.map u8v top).toArray) ∧ (Blk uz g5 38 (List.map u8v k).toArray) ∧ (Blk uz g6 38 (List.map u8v (List.replicate 32 (0 : UInt8))).toArray) ∧ (w.heap.size ≤ g3 ∧ g3 < g5 ∧ g5 < g6) ∧ (Ch No w uz))
     ⟨rfl, rfl, rfl, rfl, trivial⟩ ⟨Am, lm, cm, l, q0, [], rfl, rfl, hm, hq0, hs0, (by omega), hb3, hb5, hb6, (by omega), HC⟩ ?_
    rintro m0 e w9 ⟨Bz, lz, cz, cur, q, r, hm0, rfl, hcu, hq, hsq, hlz, hb3, hb5, hb6, hgo, HC⟩
    have hzw9 := HC.size
    have hzp : 0 < lz := by rw [← hcu.len, hq]; exact nodesO_pos
    have hcl := hcu.len
    refine wc_seq ?_
    refine wc_seq ?_
    refine wc_region ?_
    refine wl rfl rfl rfl (p_mv rfl) ?_
    obtain ⟨b10, o10, hA10, hF10, hr10⟩ := (hcu).opn (i := 0) (d := ND0) (by omega)
    have hok10 := (hcu).okAt (i := 0) (d := ND0) (by omega)
    obtain ⟨x10, ex10⟩ : ∃ x_, x_ = List.getD cur (0) ND0 := ⟨_, rfl⟩
    rw [← ex10] at hr10 hok10
    obtain ⟨hx10k, hx10v⟩ := hok10
    have hr10 : w9.rangeAt b10 (o10 + 0 * 66) (([i64 x10.kind, i64 x10.bit] ++ ((List.map u8v x10.key) ++ (List.map u8v x10.val))) : List Value) := hr10
    refine wl rfl rfl rfl (p_ixS (j := 0 * 66) Tryd.underlying31 sz117 rfl hA10 rfl (by omega) (by omega) rfl) ?_
    have hhd : nodesO q ++ r = x10 :: cur.drop 1 := by rw [← hq, ex10]; exact List.drop_zero.symm.trans (getD_drop (by omega))
    refine wl rfl rfl rfl (p_fld (j := 0) Tryd.underlying117 rfl ⟨_, by rfl⟩ rfl rfl) ?_
    refine wl rfl rfl rfl (p_ld Tryd.underlying3 rfl rfl (ld (cell_sub (v := (i64 x10.kind : Value)) (p := []) (r := (([i64 x10.bit] ++ ((List.map u8v x10.key) ++ (List.map u8v x10.val))) : List Value)) hr10 (by first | rfl | simp only [List.append_assoc, List.cons_append, List.nil_append, List.append_nil]) rfl))) ?_
    refine wl rfl rfl rfl (p_eq rfl rfl) ?_
    refine wl_nil ?_
    refine x_seq ?_
    refine wc_if rfl (fun c1 => ?_) (fun c1 => ?_)
    ·
     have c1 := of_decide_eq_true c1
     obtain ⟨y, z, rfl, hrest⟩ := head4 hhd c1
     have hyl := PT.nodes_pos y
     have hzl := PT.nodes_pos z
     have hcl2 : lz - 1 = y.nodes.length + (z.nodes.length + r.length) := by rw [← hcl]; have e := congrArg List.length hrest; rw [List.length_drop, List.length_append, List.length_append] at e; exact e
     refine wc_skip ?_
     refine x_seq ?_
     refine wc_block ?_
     refine wc_seq ?_
     refine wc_draw (.st 0 1 (.st 1 0 (.st 2 0 (.st 3 0 (.st 4 1 (.st 5 2 (.st 6 0 .nil))))))) 7 (by kernel_rfl) (by kernel_rfl) (by kernel_rfl) (by repeat (first | with_reducible exact pan_body | with_reducible apply pan_then | with_reducible apply pan_in)) (fun x => Ch No w9.drew x) (Ch.refl _ _) ?_
     obtain ⟨w11, ew11⟩ : ∃ x, x = w9.drew := ⟨_, rfl⟩
     rw [← ew11]
     have hc : Ch No w9 w11 := by rw [ew11]; exact Ch.drew _
     have hszw11 : w11.heap.size = w9.heap.size := by rw [ew11]; rfl
     clear ew11
     have hzw11 := hc.size
     have HC := HC.tr hc
     have hcu := hcu.no hc
     have hb3 := hb3.ch hc (fun h => h)
     have hb5 := hb5.ch hc (fun h => h)
     have hb6 := hb6.ch hc (fun h => h)
     have hS : Ch No w11 w11 := Ch.refl _ _
     refine ws_h rfl rfl rfl rfl (p_ldH (L := k) Tryd.underlying38 sz38 hk rfl (fun _ h => rngL (hb5.ch h (fun h => h)))) ?_
     refine ws_p rfl rfl rfl rfl (p_mv rfl) ?_
     obtain ⟨b12, o12, hA12, hF12, hr12⟩ := (hcu).opn (i := 0) (d := ND0) (by omega)
     have hok12 := (hcu).okAt (i := 0) (d := ND0) (by omega)
     obtain ⟨x12, ex12⟩ : ∃ x_, x_ = List.getD cur (0) ND0 := ⟨_, rfl⟩
     rw [← ex12] at hr12 hok12
     obtain ⟨hx12k, hx12v⟩ := hok12
     have hr12 : w11.rangeAt b12 (o12 + 0 * 66) (([i64 x12.kind, i64 x12.bit] ++ ((List.map u8v x12.key) ++ (List.map u8v x12.val))) : List Value) := hr12
     refine ws_p rfl rfl rfl rfl (p_ixS (j := 0 * 66) Tryd.underlying31 sz117 rfl hA12 rfl (by omega) (by omega) rfl) ?_
     have hx31 : x12 = x10 := ex12.trans ex10.symm
     refine ws_p rfl rfl rfl rfl (p_fld (j := 1) Tryd.underlying117 rfl ⟨_, by rfl⟩ rfl rfl) ?_
     refine ws_h rfl rfl rfl rfl (p_ld Tryd.underlying3 rfl rfl (fun _ h => cell_sub (v := (i64 x12.bit : Value)) (p := ([i64 x12.kind] : List Value)) (r := (((List.map u8v x12.key) ++ (List.map u8v x12.val)) : List Value)) (rng_no hr12 h) (by first | rfl | simp only [List.append_assoc, List.cons_append, List.nil_append, List.append_nil]) (by first | rfl | (simp only [List.length_append, List.length_map, List.length_cons, List.length_nil]; done) | (simp only [List.length_append, List.length_map, List.length_cons, List.length_nil, List.size_toArray]; done)))) ?_
     refine ws_e rfl rfl (e_call ent39 rfl rfl (rbit_any (hk)) ?_)
     rintro _ w13 ⟨rfl, hc⟩
     refine ⟨_, rfl, hc, ?_⟩
     have hzw13 := hc.size
     have HC := HC.tr hc
     have hcu := hcu.no hc
     have hb3 := hb3.ch hc (fun h => h)
     have hb5 := hb5.ch hc (fun h => h)
     have hb6 := hb6.ch hc (fun h => h)
     refine ws_narrow (S' := fun x => Ch No w13 x) (Ch.refl _ _) (fun x h => hc.tr h) ?_
     refine ws_p rfl rfl rfl rfl (p_eq rfl rfl) ?_
     refine ws_n ?_
     refine x_seq ?_
     refine wc_if rfl (fun c2 => ?_) (fun c2 => ?_)
     ·
      have c2 := of_decide_eq_true c2
      rw [hx31] at c2
      refine wc_region ?_
      refine wl rfl rfl rfl (p_mv rfl) ?_
      have hc1 := hcu.cutTo (lo := 1) (by omega)
      rw [hrest] at hc1
      refine wl rfl rfl rfl (p_slS (l := 1) (h := lz) Tryd.underlying31 sz117 rfl ⟨_, rfl⟩ rfl (by omega) (by have := hcu.cap; omega) hcu.cap (q := lz - 1) (by omega)) ?_
      refine wl rfl rfl rfl (p_as rfl) ?_
      refine wl_nil ?_
      refine x_in_normal ?_
      refine x_round (e' := [(1, .slice (cutA Bz cz 1 66) (lz - 1) (cz - 1)), (3, .pointer (some ⟨g3, 0, none⟩)), (5, .pointer (some ⟨g5, 0, none⟩)), (6, .pointer (some ⟨g6, 0, none⟩))]) ⟨rfl, rfl, rfl, rfl, trivial⟩ (by rw [hm0]; (first | omega | (simp only [List.length_append] at hln40; omega))) ⟨cutA Bz cz 1 66, lz - 1, cz - 1, y.nodes ++ (z.nodes ++ r), some y, z.nodes ++ r, rfl, rfl, hc1, rfl, (by rw [← hsq, sayO_fork, if_neg (by omega)]), (by omega), hb3, hb5, hb6, hgo, HC⟩
     ·
      have c2 := of_decide_eq_false c2
      rw [hx31] at c2
      have hbl := bitI_lt k x10.bit
      refine wc_region ?_
      refine wl rfl rfl rfl (p_mv rfl) ?_
      have hc1 := hcu.cutTo (lo := 1) (by omega)
      rw [hrest] at hc1
      refine wl rfl rfl rfl (p_slS (l := 1) (h := lz) Tryd.underlying31 sz117 rfl ⟨_, rfl⟩ rfl (by omega) (by have := hcu.cap; omega) hcu.cap (q := lz - 1) (by omega)) ?_
      refine wle rfl (e_call ent91 rfl rfl (skip_any y (r := z.nodes ++ r) hc1 (by omega)) ?_)
      rintro _ w14 ⟨A40, l40, c40, rfl, hc2, hc⟩
      refine ⟨_, rfl, ?_⟩
      have hzw14 := hc.size
      have HC := HC.tr hc
      have hcu := hcu.no hc
      have hb3 := hb3.ch hc (fun h => h)
      have hb5 := hb5.ch hc (fun h => h)
      have hb6 := hb6.ch hc (fun h => h)
      have hc1 := hc1.no hc
      have hln40 := hc2.len
      refine wl rfl rfl rfl (p_as rfl) ?_
      refine wl_nil ?_
      refine x_in_normal ?_
      refine x_round (e' := [(1, .slice (A40) (l40) (c40)), (3, .pointer (some ⟨g3, 0, none⟩)), (5, .pointer (some ⟨g5, 0, none⟩)), (6, .pointer (some ⟨g6, 0, none⟩))]) ⟨rfl, rfl, rfl, rfl, trivial⟩ (by rw [hm0]; (first | omega | (simp only [List.length_append] at hln40; omega))) ⟨A40, l40, c40, z.nodes ++ r, some z, r, rfl, rfl, hc2, rfl, (by rw [← hsq, sayO_fork, if_pos (by omega)]), (by simp only [List.length_append] at hln40; omega), hb3, hb5, hb6, hgo, HC⟩
    ·
     have c1 := of_decide_eq_false c1
     refine wc_exit ?_
     refine x_then_exit ?_
     refine x_then_exit ?_
     refine x_in_here ?_
     refine x_seq ?_
     refine wc_seq ?_
     refine wc_block ?_
     refine wc_seq ?_
     refine wc_region ?_
     refine wl rfl rfl rfl (p_mv rfl) ?_
     obtain ⟨b15, o15, hA15, hF15, hr15⟩ := (hcu).opn (i := 0) (d := ND0) (by omega)
     have hok15 := (hcu).okAt (i := 0) (d := ND0) (by omega)
     obtain ⟨x15, ex15⟩ : ∃ x_, x_ = List.getD cur (0) ND0 := ⟨_, rfl⟩
     rw [← ex15] at hr15 hok15
     obtain ⟨hx15k, hx15v⟩ := hok15
     have hr15 : w9.rangeAt b15 (o15 + 0 * 66) (([i64 x15.kind, i64 x15.bit] ++ ((List.map u8v x15.key) ++ (List.map u8v x15.val))) : List Value) := hr15
     refine wl rfl rfl rfl (p_ixS (j := 0 * 66) Tryd.underlying31 sz117 rfl hA15 rfl (by omega) (by omega) rfl) ?_
     have hx43 : x15 = x10 := ex15.trans ex10.symm
     refine wl rfl rfl rfl (p_fld (j := 0) Tryd.underlying117 rfl ⟨_, by rfl⟩ rfl rfl) ?_
     refine wl rfl rfl rfl (p_ld Tryd.underlying3 rfl rfl (ld (cell_sub (v := (i64 x15.kind : Value)) (p := []) (r := (([i64 x15.bit] ++ ((List.map u8v x15.key) ++ (List.map u8v x15.val))) : List Value)) hr15 (by first | rfl | simp only [List.append_assoc, List.cons_append, List.nil_append, List.append_nil]) rfl))) ?_
     refine wl rfl rfl rfl (p_eq rfl rfl) ?_
     refine wl rfl rfl rfl (p_as rfl) ?_
     refine wl_nil ?_
     refine x_seq ?_
     refine wc_if rfl (fun c3 => ?_) (fun c3 => ?_)
     ·
      have c3 := of_decide_eq_true c3
      rw [hx43] at c3
      refine wc_seq ?_
      refine wc_region ?_
      refine wl rfl rfl rfl (p_bldP (cs := ((List.replicate 32 (0 : UInt8)).map u8v).toArray) rfl (fun _ => by kernel_rfl)) ?_
      refine wle rfl (e_stH sz38 (List.length_replicate ..) (List.length_replicate ..) rfl rfl hb6 (fun w16 hb6 hc hsz => ?_))
      have hzw16 := hc.size
      have HC := HC.trans hc (fun _ _ h => h) (fun k hk ht => absurd ht (by omega))
      have hcu := hcu.ch hc (by intro k hk ht; omega)
      have hb3 := hb3.ch hc (by omega)
      have hb5 := hb5.ch hc (by omega)
      refine wl rfl rfl rfl (p_as rfl) ?_
      refine wl rfl rfl rfl (p_as rfl) ?_
      refine wl_nil ?_
      refine x_seq ?_
      refine wc_ret ?_
      refine x_in_ret ?_
      refine x_then_ret ?_
      refine fin_run (resMany (rs := [.cell 6 38, .tmp 7, .tmp 8]) rfl (.cellA (cs := List.map u8v (List.replicate 32 (0 : UInt8))) rfl Tryd.underlying38 rfl (szL sz38 (by rw [List.length_map]; exact (List.length_replicate ..))) (rngL hb6) (.tmp rfl (.tmp rfl (.nil)))) rfl) ?_
      have hck : checkN top l k = sayO k q := (check_yes hgd heq).trans hsq.symm
      rw [show checkN top l k = (zeroH, false, false) from hck.trans (say2 hhd c3)]; exact ⟨rfl, HC⟩
     ·
      have c3 := of_decide_eq_false c3
      rw [hx43] at c3
      refine wc_seq ?_
      refine wc_draw (.st 0 0 (.st 1 0 (.st 2 0 (.st 3 1 (.st 4 0 (.st 5 0 (.st 6 0 (.st 7 0 (.st 8 0 (.st 9 1 (.st 10 1 (.st 11 0 (.st 12 0 (.st 13 0 .nil)))))))))))))) 14 (by kernel_rfl) (by kernel_rfl) (by kernel_rfl) (by repeat (first | with_reducible exact pan_body | with_reducible apply pan_then | with_reducible apply pan_in)) (fun x => Ch No w9.drew x) (Ch.refl _ _) ?_
      obtain ⟨w17, ew17⟩ : ∃ x, x = w9.drew := ⟨_, rfl⟩
      rw [← ew17]
      have hc : Ch No w9 w17 := by rw [ew17]; exact Ch.drew _
      have hszw17 : w17.heap.size = w9.heap.size := by rw [ew17]; rfl
      clear ew17
      have hzw17 := hc.size
      have HC := HC.tr hc
      have hcu := hcu.no hc
      have hb3 := hb3.ch hc (fun h => h)
      have hb5 := hb5.ch hc (fun h => h)
      have hb6 := hb6.ch hc (fun h => h)
      have hS : Ch No w17 w17 := Ch.refl _ _
      refine ws_p rfl rfl rfl rfl (p_mv rfl) ?_
      obtain ⟨b18, o18, hA18, hF18, hr18⟩ := (hcu).opn (i := 0) (d := ND0) (by omega)
      have hok18 := (hcu).okAt (i := 0) (d := ND0) (by omega)
      obtain ⟨x18, ex18⟩ : ∃ x_, x_ = List.getD cur (0) ND0 := ⟨_, rfl⟩
      rw [← ex18] at hr18 hok18
      obtain ⟨hx18k, hx18v⟩ := hok18
      have hr18 : w17.rangeAt b18 (o18 + 0 * 66) (([i64 x18.kind, i64 x18.bit] ++ ((List.map u8v x18.key) ++ (List.map u8v x18.val))) : List Value) := hr18
      refine ws_p rfl rfl rfl rfl (p_ixS (j := 0 * 66) Tryd.underlying31 sz117 rfl hA18 rfl (by omega) (by omega) rfl) ?_
      have hx50 : x18 = x10 := ex18.trans ex10.symm
      refine ws_p rfl rfl rfl rfl (p_fld (j := 0) Tryd.underlying117 rfl ⟨_, by rfl⟩ rfl rfl) ?_
      refine ws_h rfl rfl rfl rfl (p_ld Tryd.underlying3 rfl rfl (fun _ h => cell_sub (v := (i64 x18.kind : Value)) (p := []) (r := (([i64 x18.bit] ++ ((List.map u8v x18.key) ++ (List.map u8v x18.val))) : List Value)) (rng_no hr18 h) (by first | rfl | simp only [List.append_assoc, List.cons_append, List.nil_append, List.append_nil]) rfl)) ?_
      refine ws_p rfl rfl rfl rfl (p_eq rfl rfl) ?_
      refine ws_p rfl rfl rfl rfl (p_mv rfl) ?_
      refine ws_split (d := 54) rfl (fun q54 => ?_) (fun q54 => ?_)
      ·
       have q54 := of_decide_eq_true q54
       refine ws_pg rfl (gd_ rfl rfl rfl rfl rfl rfl) rfl rfl (p_mv rfl) ?_
       obtain ⟨b19, o19, hA19, hF19, hr19⟩ := (hcu).opn (i := 0) (d := ND0) (by omega)
       have hok19 := (hcu).okAt (i := 0) (d := ND0) (by omega)
       obtain ⟨x19, ex19⟩ : ∃ x_, x_ = List.getD cur (0) ND0 := ⟨_, rfl⟩
       rw [← ex19] at hr19 hok19
       obtain ⟨hx19k, hx19v⟩ := hok19
       have hr19 : w17.rangeAt b19 (o19 + 0 * 66) (([i64 x19.kind, i64 x19.bit] ++ ((List.map u8v x19.key) ++ (List.map u8v x19.val))) : List Value) := hr19
       refine ws_pg rfl (gd_ rfl rfl rfl rfl rfl rfl) rfl rfl (p_ixS (j := 0 * 66) Tryd.underlying31 sz117 rfl hA19 rfl (by omega) (by omega) rfl) ?_
       have hx56 : x19 = x10 := ex19.trans ex10.symm
       refine ws_pg rfl (gd_ rfl rfl rfl rfl rfl rfl) rfl rfl (p_fld (j := 2) Tryd.underlying117 rfl ⟨_, by rfl⟩ rfl rfl) ?_
       refine ws_hg rfl (gd_ rfl rfl rfl rfl rfl rfl) rfl rfl (p_ldA (cs := (List.map u8v x19.key)) Tryd.underlying38 rfl (szL sz38 (by first | rfl | (simp only [List.length_append, List.length_map, List.length_cons, List.length_nil, (show List.length x19.key = 32 from hx19k)]; done) | (simp only [List.length_append, List.length_map, List.length_cons, List.length_nil, List.size_toArray, (show List.length x19.key = 32 from hx19k)]; done))) rfl (fun _ h => rng_sub (q := (List.map u8v x19.key)) (p := ([i64 x19.kind, i64 x19.bit] : List Value)) (r := ((List.map u8v x19.val) : List Value)) (rng_no hr19 h) (by first | rfl | simp only [List.append_assoc, List.cons_append, List.nil_append, List.append_nil]) (by first | rfl | (simp only [List.length_append, List.length_map, List.length_cons, List.length_nil]; done) | (simp only [List.length_append, List.length_map, List.length_cons, List.length_nil, List.size_toArray]; done)))) ?_
       refine ws_hg rfl (gd_ rfl rfl rfl rfl rfl rfl) rfl rfl (p_ldH (L := k) Tryd.underlying38 sz38 hk rfl (fun _ h => rngL (hb5.ch h (fun h => h)))) ?_
       refine ws_pg rfl (gd_ rfl rfl rfl rfl rfl rfl) rfl rfl (p_eqH (a := x19.key) (b := k) (by kernel_rfl) Tryd.underlying38 Tryd.underlying5 sz5 rfl rfl (hx19k) (hk)) ?_
       refine ws_p rfl rfl rfl rfl (p_pickT rfl rfl) ?_
       refine ws_p rfl rfl rfl rfl (p_as rfl) ?_
       refine ws_n ?_
       refine x_seq ?_
       refine wc_if rfl (fun c4 => ?_) (fun c4 => ?_)
       ·
        refine wc_seq ?_
        refine wc_region ?_
        refine wl rfl rfl rfl (p_mv rfl) ?_
        obtain ⟨b20, o20, hA20, hF20, hr20⟩ := (hcu).opn (i := 0) (d := ND0) (by omega)
        have hok20 := (hcu).okAt (i := 0) (d := ND0) (by omega)
        obtain ⟨x20, ex20⟩ : ∃ x_, x_ = List.getD cur (0) ND0 := ⟨_, rfl⟩
        rw [← ex20] at hr20 hok20
        obtain ⟨hx20k, hx20v⟩ := hok20
        have hr20 : w17.rangeAt b20 (o20 + 0 * 66) (([i64 x20.kind, i64 x20.bit] ++ ((List.map u8v x20.key) ++ (List.map u8v x20.val))) : List Value) := hr20
        refine wl rfl rfl rfl (p_ixS (j := 0 * 66) Tryd.underlying31 sz117 rfl hA20 rfl (by omega) (by omega) rfl) ?_
        have hx63 : x20 = x10 := ex20.trans ex10.symm
        refine wl rfl rfl rfl (p_fld (j := 34) Tryd.underlying117 rfl ⟨_, by rfl⟩ rfl rfl) ?_
        refine wl rfl rfl rfl (p_ldA (cs := (List.map u8v x20.val)) Tryd.underlying38 rfl (szL sz38 (by first | rfl | (simp only [List.length_append, List.length_map, List.length_cons, List.length_nil, (show List.length x20.val = 32 from hx20v)]; done) | (simp only [List.length_append, List.length_map, List.length_cons, List.length_nil, List.size_toArray, (show List.length x20.val = 32 from hx20v)]; done))) rfl (fun _ e => e ▸ rng_sub (q := (List.map u8v x20.val)) (p := (([i64 x20.kind, i64 x20.bit] ++ (List.map u8v x20.key)) : List Value)) (r := []) hr20 (by first | rfl | simp only [List.append_assoc, List.cons_append, List.nil_append, List.append_nil]) (by first | rfl | (simp only [List.length_append, List.length_map, List.length_cons, List.length_nil, (show List.length x20.key = 32 from hx20k)]; done) | (simp only [List.length_append, List.length_map, List.length_cons, List.length_nil, List.size_toArray, (show List.length x20.key = 32 from hx20k)]; done)))) ?_
        refine wle rfl (e_stH sz38 (List.length_replicate ..) hx20v rfl rfl hb6 (fun w21 hb6 hc hsz => ?_))
        have hzw21 := hc.size
        have HC := HC.trans hc (fun _ _ h => h) (fun k hk ht => absurd ht (by omega))
        have hcu := hcu.ch hc (by intro k hk ht; omega)
        have hb3 := hb3.ch hc (by omega)
        have hb5 := hb5.ch hc (by omega)
        refine wl rfl rfl rfl (p_as rfl) ?_
        refine wl rfl rfl rfl (p_as rfl) ?_
        refine wl_nil ?_
        refine x_seq ?_
        refine wc_ret ?_
        refine x_in_ret ?_
        refine x_then_ret ?_
        refine fin_run (resMany (rs := [.cell 6 38, .tmp 7, .tmp 8]) rfl (.cellA (cs := List.map u8v x20.val) rfl Tryd.underlying38 rfl (szL sz38 (by rw [List.length_map]; exact hx20v)) (rngL hb6) (.tmp rfl (.tmp rfl (.nil)))) rfl) ?_
        have hck : checkN top l k = sayO k q := (check_yes hgd heq).trans hsq.symm
        have hkk : x10.key = k := by simpa [hx56] using c4
        rw [hx63]
        rw [show checkN top l k = (x10.val, true, true) from hck.trans ((say3 hhd (by first | exact q54 | (rw [hx50] at q54; exact q54))).trans (if_pos hkk))]; exact ⟨rfl, HC⟩
       ·
        refine wc_skip ?_
        refine x_in_normal ?_
        refine x_seq ?_
        refine wc_seq ?_
        refine wc_region ?_
        refine wl rfl rfl rfl (p_bldP (cs := ((List.replicate 32 (0 : UInt8)).map u8v).toArray) rfl (fun _ => by kernel_rfl)) ?_
        refine wle rfl (e_stH sz38 (List.length_replicate ..) (List.length_replicate ..) rfl rfl hb6 (fun w22 hb6 hc hsz => ?_))
        have hzw22 := hc.size
        have HC := HC.trans hc (fun _ _ h => h) (fun k hk ht => absurd ht (by omega))
        have hcu := hcu.ch hc (by intro k hk ht; omega)
        have hb3 := hb3.ch hc (by omega)
        have hb5 := hb5.ch hc (by omega)
        refine wl rfl rfl rfl (p_as rfl) ?_
        refine wl rfl rfl rfl (p_as rfl) ?_
        refine wl_nil ?_
        refine x_seq ?_
        refine wc_ret ?_
        refine fin_run (resMany (rs := [.cell 6 38, .tmp 7, .tmp 8]) rfl (.cellA (cs := List.map u8v (List.replicate 32 (0 : UInt8))) rfl Tryd.underlying38 rfl (szL sz38 (by rw [List.length_map]; exact (List.length_replicate ..))) (rngL hb6) (.tmp rfl (.tmp rfl (.nil)))) rfl) ?_
        have hck : checkN top l k = sayO k q := (check_yes hgd heq).trans hsq.symm
        rw [show checkN top l k = (zeroH, false, true) from hck.trans (say1 hhd c3 (by rintro ⟨_, h2⟩; simp [hx56, h2] at c4) (by assumption))]; exact ⟨rfl, HC⟩
      ·
       have q54 := of_decide_eq_false q54
       refine ws_s rfl (gd_ rfl rfl rfl rfl rfl rfl) rfl rfl ?_
       refine ws_s rfl (gd_ rfl rfl rfl rfl rfl rfl) rfl rfl ?_
       refine ws_s rfl (gd_ rfl rfl rfl rfl rfl rfl) rfl rfl ?_
       refine ws_s rfl (gd_ rfl rfl rfl rfl rfl rfl) rfl rfl ?_
       refine ws_s rfl (gd_ rfl rfl rfl rfl rfl rfl) rfl rfl ?_
       refine ws_s rfl (gd_ rfl rfl rfl rfl rfl rfl) rfl rfl ?_
       refine ws_p rfl rfl rfl rfl (p_pickF rfl rfl) ?_
       refine ws_p rfl rfl rfl rfl (p_as rfl) ?_
       refine ws_n ?_
       refine x_seq ?_
       refine wc_no rfl (rfl) ?_
       refine wc_skip ?_
       refine x_in_normal ?_
       refine x_seq ?_
       refine wc_seq ?_
       refine wc_region ?_
       refine wl rfl rfl rfl (p_bldP (cs := ((List.replicate 32 (0 : UInt8)).map u8v).toArray) rfl (fun _ => by kernel_rfl)) ?_
       refine wle rfl (e_stH sz38 (List.length_replicate ..) (List.length_replicate ..) rfl rfl hb6 (fun w23 hb6 hc hsz => ?_))
       have hzw23 := hc.size
       have HC := HC.trans hc (fun _ _ h => h) (fun k hk ht => absurd ht (by omega))
       have hcu := hcu.ch hc (by intro k hk ht; omega)
       have hb3 := hb3.ch hc (by omega)
       have hb5 := hb5.ch hc (by omega)
       refine wl rfl rfl rfl (p_as rfl) ?_
       refine wl rfl rfl rfl (p_as rfl) ?_
       refine wl_nil ?_
       refine x_seq ?_
       refine wc_ret ?_
       refine fin_run (resMany (rs := [.cell 6 38, .tmp 7, .tmp 8]) rfl (.cellA (cs := List.map u8v (List.replicate 32 (0 : UInt8))) rfl Tryd.underlying38 rfl (szL sz38 (by rw [List.length_map]; exact (List.length_replicate ..))) (rngL hb6) (.tmp rfl (.tmp rfl (.nil)))) rfl) ?_
       have hck : checkN top l k = sayO k q := (check_yes hgd heq).trans hsq.symm
       rw [show checkN top l k = (zeroH, false, true) from hck.trans (say1 hhd c3 (by rintro ⟨h1, _⟩; first | exact q54 h1 | (rw [hx50] at q54; exact q54 h1)) (by assumption))]; exact ⟨rfl, HC⟩

set_option maxHeartbeats 1000000 in
set_option maxRecDepth 20000 in
theorem plain27 {w : World}  {Am : Option Addr} {lm cm : Nat} {Fm : Nat → Prop} {l : List ND} (hm : SI w Fm eND Am lm cm l) (hl : lm ≤ 1000000) :
    Calls Tryd.prog 23 #[.slice Am lm cm] w fun e w' => ∃ A c, e = .returned (.slice A lm c) ∧ RI w' (fun k => w.heap.size ≤ k) 117 eND A lm c l ∧ Ch No w w' := by
  have hml := hm.len
  have hm := hm.old
  have HC : Ch No w w := Ch.refl _ _
  refine enter' (args := [.slice Am lm cm]) (n := 18) Tryd.func23 rfl rfl rfl ?_
  refine wc_seq ?_
  refine wc_region ?_
  refine wl rfl rfl rfl (p_as rfl) ?_
  refine wl_nil ?_
  refine x_seq ?_
  refine wc_seq ?_
  refine wc_region ?_
  refine wl rfl rfl rfl (p_as rfl) ?_
  refine wl_nil ?_
  refine x_seq ?_
  refine wc_seq ?_
  refine wc_seq ?_
  refine wc_region ?_
  refine wl rfl rfl rfl (p_mv rfl) ?_
  refine wl rfl rfl rfl (p_lenS Tryd.underlying33 rfl) ?_
  refine wl rfl rfl rfl (p_mv rfl) ?_
  refine wl_nil ?_
  refine x_seq ?_
  refine wc_block ?_
  refine wc_loop (e' := [(3, .slice (none) (0) (0)), (6, .slice Am lm cm), (7, i64 (lm : Int)), (8, i64 ((0) : Int))]) (fun mz ez uz => ∃ i : Nat, ∃ A : Option Addr, ∃ c : Nat, mz = lm - i ∧ ez = [(3, .slice A i c), (6, .slice Am lm cm), (7, i64 (lm : Int)), (8, i64 (i : Int))] ∧ (i ≤ lm) ∧ (RI uz (fun k => w.heap.size ≤ k) 117 eND A i c (l.take i)) ∧ (SI uz (fun k => k < w.heap.size) eND Am lm cm l) ∧ (Ch No w uz))
   ⟨rfl, rfl, rfl, rfl, trivial⟩ ⟨0, none, 0, rfl, rfl, (by omega), RI.nil _ _ _ _, hm, HC⟩ ?_
  rintro m0 e w1 ⟨i, A, c, hm0, rfl, hi, hW, hm, HC⟩
  have hzw1 := HC.size
  refine wc_seq ?_
  refine wc_region ?_
  refine wl rfl rfl rfl (p_lt rfl rfl) ?_
  refine wl_nil ?_
  refine x_seq ?_
  refine wc_seq ?_
  refine wc_if rfl (fun c0 => ?_) (fun c0 => ?_)
  ·
   have c0 := of_decide_eq_true c0
   refine wc_skip ?_
   refine x_seq ?_
   refine wc_seq ?_
   refine wc_block ?_
   refine wc_seq ?_
   refine wc_region ?_
   obtain ⟨b2, o2, hA2, hF2, hr2⟩ := (hm).opn (i := i) (d := ND0) (by omega)
   have hok2 := (hm).okAt (i := i) (d := ND0) (by omega)
   obtain ⟨x2, ex2⟩ : ∃ x_, x_ = List.getD l (i) ND0 := ⟨_, rfl⟩
   rw [← ex2] at hr2 hok2
   obtain ⟨hx2k, hx2v⟩ := hok2
   have hr2 : w1.rangeAt b2 (o2 + i * 66) (([i64 x2.kind, i64 x2.bit] ++ ((List.map u8v x2.key) ++ (List.map u8v x2.val))) : List Value) := hr2
   refine wl rfl rfl rfl (p_ixS (j := i * 66) Tryd.underlying33 sz115 rfl hA2 rfl (by omega) (by omega) (congrArg (· * 66) (Int.toNat_natCast _))) ?_
   have hdr : l.take (i + 1) = l.take i ++ [x2] := by rw [ex2]; exact getD_take (by omega)
   refine wl rfl rfl rfl (p_ldA (cs := (([i64 x2.kind, i64 x2.bit] ++ ((List.map u8v x2.key) ++ (List.map u8v x2.val))) : List Value)) Tryd.underlying115 rfl (szL sz115 (by first | rfl | (simp only [List.length_append, List.length_map, List.length_cons, List.length_nil, (show List.length x2.key = 32 from hx2k), (show List.length x2.val = 32 from hx2v)]; done) | (simp only [List.length_append, List.length_map, List.length_cons, List.length_nil, List.size_toArray, (show List.length x2.key = 32 from hx2k), (show List.length x2.val = 32 from hx2v)]; done))) rfl (fun _ e => e ▸ hr2)) ?_
   refine wle rfl (e_alloc (cs := (([Value.int .i64 0, Value.int .i64 0] ++ ((List.map u8v (List.replicate 32 (0 : UInt8))) ++ (List.map u8v (List.replicate 32 (0 : UInt8))))) : List Value).toArray) rfl (by rfl) (by rfl) (fun w3 g5 hg5 hb5 hc hsz5 => ?_))
   have hzw3 := hc.size
   have HC := HC.tr hc
   have hW := hW.after hc
   have hm := hm.no hc
   have hge5 : w.heap.size ≤ g5 := by have := HC.size; omega
   refine wle rfl (e_stW (vs := (([i64 x2.kind, i64 x2.bit] ++ ((List.map u8v x2.key) ++ (List.map u8v x2.val))) : List Value)) (szL sz115 (by first | rfl | (simp only [List.length_append, List.length_map, List.length_cons, List.length_nil, (show List.length x2.key = 32 from hx2k), (show List.length x2.val = 32 from hx2v)]; done) | (simp only [List.length_append, List.length_map, List.length_cons, List.length_nil, List.size_toArray, (show List.length x2.key = 32 from hx2k), (show List.length x2.val = 32 from hx2v)]; done))) (oneA (allOne rfl) (oneA (oneL one_u8 _) (oneL one_u8 _))) rfl rfl hb5 (by first | rfl | (simp only [List.length_append, List.length_map, List.length_cons, List.length_nil, (show List.length (List.replicate 32 (0 : UInt8)) = 32 from (List.length_replicate ..)), (show List.length (List.replicate 32 (0 : UInt8)) = 32 from (List.length_replicate ..)), (show List.length x2.key = 32 from hx2k), (show List.length x2.val = 32 from hx2v)]; done) | (simp only [List.length_append, List.length_map, List.length_cons, List.length_nil, List.size_toArray, (show List.length (List.replicate 32 (0 : UInt8)) = 32 from (List.length_replicate ..)), (show List.length (List.replicate 32 (0 : UInt8)) = 32 from (List.length_replicate ..)), (show List.length x2.key = 32 from hx2k), (show List.length x2.val = 32 from hx2v)]; done)) (fun w4 hb5 hc hsz => ?_))
   have hzw4 := hc.size
   have HC := HC.trans hc (fun _ _ h => h) (fun k hk ht => absurd ht (by omega))
   have hW := hW.ch hc (by intro k hz hk ht; omega)
   have hm := hm.ch hc (by intro k hk ht; omega)
   refine wl_nil ?_
   refine x_seq ?_
   refine wc_region ?_
   refine wl rfl rfl rfl (p_mv rfl) ?_
   refine wl rfl rfl rfl (p_ldA (cs := (([i64 x2.kind, i64 x2.bit] ++ ((List.map u8v x2.key) ++ (List.map u8v x2.val))) : List Value)) Tryd.underlying115 rfl (szL sz115 (by first | rfl | (simp only [List.length_append, List.length_map, List.length_cons, List.length_nil, (show List.length x2.key = 32 from hx2k), (show List.length x2.val = 32 from hx2v)]; done) | (simp only [List.length_append, List.length_map, List.length_cons, List.length_nil, List.size_toArray, (show List.length x2.key = 32 from hx2k), (show List.length x2.val = 32 from hx2v)]; done))) rfl (fun _ e => e ▸ rngL hb5)) ?_
   have hltg5 := hb5.lt
   refine wle rfl (e_bslX (E := 117) (cs := (([i64 x2.kind, i64 x2.bit] ++ ((List.map u8v x2.key) ++ (List.map u8v x2.val))) : List Value)) (cs' := (([i64 x2.kind, i64 x2.bit] ++ ((hx x2.key) ++ (hx x2.val))) : List Value)) rfl rfl (by simp only [hv, map_hx hx2k, map_hx hx2v] <;> rfl) (fun _ => by kernel_rfl) (fun w5 g14 hg14 hb14 hc hsz14 => ?_))
   have hzw5 := hc.size
   have HC := HC.tr hc
   have hW := hW.after hc
   have hm := hm.no hc
   have hb5 := hb5.ch hc (fun h => h)
   have hge14 : w.heap.size ≤ g14 := by have := HC.size; omega
   have hS14 := SI.oneA (E := eND) (x := ⟨x2.kind, x2.bit, x2.key, x2.val⟩) hb14 rfl ⟨hx2k, hx2v⟩
   have hltg5 := hb5.lt
   refine wle rfl (e_appI rfl el31 rfl rfl hW (hS14) (by omega) (by intro k hk; first | omega | (dsimp only at *; omega)) (fun w6 A15 c15 hW hc => ?_))
   have hzw6 := hc.size
   have HC := HC.trans hc (fun _ _ h => h) (fun k hk ht => absurd ht (by omega))
   have hm := hm.ch hc (by intro k hk ht; omega)
   have hb5 := hb5.ch hc (by omega)
   first | have hS14 := hS14.ch hc (by intro k hk ht; omega) | have hS14 := hS14.chT hc (by intro k hz hk ht; omega)
   refine wl rfl rfl rfl (p_as rfl) ?_
   refine wl_nil ?_
   refine x_in_normal ?_
   refine x_seq ?_
   refine wc_region ?_
   refine wl rfl rfl rfl (p_add rfl rfl (w64 (by omega))) ?_
   refine wl rfl rfl rfl (p_mv rfl) ?_
   refine wl_nil ?_
   refine x_round (e' := [(3, .slice (_) (i + 1) (_)), (6, .slice Am lm cm), (7, i64 (lm : Int)), (8, i64 ((i + 1) : Int))]) ⟨rfl, rfl, rfl, rfl, trivial⟩ (by rw [hm0]; omega) ⟨i + 1, _, _, rfl, rfl, (by omega), (by rw [hdr]; exact hW.mono (fun k _ hk => by first | exact hk | exact hk.1 | exact hk.1.1 | exact hk.1.1.1 | (dsimp only at *; omega))), hm, HC⟩
  ·
   have c0 := of_decide_eq_false c0
   refine wc_exit ?_
   refine x_then_exit ?_
   refine x_then_exit ?_
   refine x_in_here ?_
   refine x_seq ?_
   refine wc_seq ?_
   refine wc_region ?_
   refine wl rfl rfl rfl (p_mv rfl) ?_
   refine wl rfl rfl rfl (p_as rfl) ?_
   refine wl_nil ?_
   refine x_seq ?_
   refine wc_ret ?_
   refine fin_run ((res1 rfl rfl)) ?_
   obtain rfl : i = lm := by omega
   rw [List.take_of_length_le (by omega)] at hW
   exact ⟨_, _, rfl, hW, HC⟩

set_option maxHeartbeats 1000000 in
set_option maxRecDepth 20000 in
theorem hashes270 {w : World} {Aa Ab : Option Addr} {la ca cb : Nat} {Fa Fb : Nat → Prop} {ms : List H8} (ha : SI w Fa eH Aa la ca ms) (hb : SI w Fb eH Ab la cb ms) (hla : la ≤ 1000000) :
    Calls Tryd.prog 61 #[.slice Aa la ca, .slice Ab la cb] w fun e w' => e = .returned (.bool true) ∧ Ch No w w' := by
  have hal := ha.len
  have ha := ha.old
  have hb := hb.old
  have HC : Ch No w w := Ch.refl _ _
  refine enter' (args := [.slice Aa la ca, .slice Ab la cb]) (n := 26) Tryd.func61 rfl rfl rfl ?_
  refine wc_seq ?_
  refine wc_region ?_
  refine wl rfl rfl rfl (p_as rfl) ?_
  refine wl_nil ?_
  refine x_seq ?_
  refine wc_seq ?_
  refine wc_seq ?_
  refine wc_region ?_
  refine wl rfl rfl rfl (p_mv rfl) ?_
  refine wl rfl rfl rfl (p_lenS Tryd.underlying23 rfl) ?_
  refine wl rfl rfl rfl (p_mv rfl) ?_
  refine wl rfl rfl rfl (p_lenS Tryd.underlying23 rfl) ?_
  refine wl rfl rfl rfl (p_ne rfl rfl) ?_
  refine wl_nil ?_
  refine x_seq ?_
  refine wc_no rfl (by simp) ?_
  refine wc_skip ?_
  refine x_seq ?_
  refine wc_seq ?_
  refine wc_seq ?_
  refine wc_region ?_
  refine wl rfl rfl rfl (p_mv rfl) ?_
  refine wl rfl rfl rfl (p_lenS Tryd.underlying23 rfl) ?_
  refine wl rfl rfl rfl (p_mv rfl) ?_
  refine wl_nil ?_
  refine x_seq ?_
  refine wc_block ?_
  refine wc_loop (e' := [(0, .slice Aa la ca), (1, .slice Ab la cb), (12, i64 (la : Int)), (13, i64 ((0) : Int))]) (fun mz ez uz => ∃ i : Nat, mz = la - i ∧ ez = [(0, .slice Aa la ca), (1, .slice Ab la cb), (12, i64 (la : Int)), (13, i64 (i : Int))] ∧ (i ≤ la) ∧ (SI uz (fun k => k < w.heap.size) eH Aa la ca ms) ∧ (SI uz (fun k => k < w.heap.size) eH Ab la cb ms) ∧ (Ch No w uz))
   ⟨rfl, rfl, rfl, rfl, trivial⟩ ⟨0, rfl, rfl, (by omega), ha, hb, HC⟩ ?_
  rintro m0 e w1 ⟨i, hm0, rfl, hi, ha, hb, HC⟩
  have hzw1 := HC.size
  refine wc_seq ?_
  refine wc_region ?_
  refine wl rfl rfl rfl (p_lt rfl rfl) ?_
  refine wl_nil ?_
  refine x_seq ?_
  refine wc_seq ?_
  refine wc_if rfl (fun c1 => ?_) (fun c1 => ?_)
  ·
   have c1 := of_decide_eq_true c1
   refine wc_skip ?_
   refine x_seq ?_
   refine wc_seq ?_
   refine wc_block ?_
   refine wc_seq ?_
   refine wc_region ?_
   refine wl rfl rfl rfl (p_mv rfl) ?_
   refine wl rfl rfl rfl (p_as rfl) ?_
   refine wl_nil ?_
   refine x_seq ?_
   refine wc_seq ?_
   refine wc_draw (.st 0 0 (.st 1 0 (.st 2 0 (.st 3 1 (.st 4 0 (.st 5 0 (.st 6 0 (.st 7 1 (.st 8 0 .nil))))))))) 9 (by kernel_rfl) (by kernel_rfl) (by kernel_rfl) (by repeat (first | with_reducible exact pan_body | with_reducible apply pan_then | with_reducible apply pan_in)) (fun x => Ch No w1.drew x) (Ch.refl _ _) ?_
   obtain ⟨w2, ew2⟩ : ∃ x, x = w1.drew := ⟨_, rfl⟩
   rw [← ew2]
   have hc : Ch No w1 w2 := by rw [ew2]; exact Ch.drew _
   have hszw2 : w2.heap.size = w1.heap.size := by rw [ew2]; rfl
   clear ew2
   have hzw2 := hc.size
   have HC := HC.tr hc
   have ha := ha.no hc
   have hb := hb.no hc
   have hS : Ch No w2 w2 := Ch.refl _ _
   refine ws_p rfl rfl rfl rfl (p_mv rfl) ?_
   refine ws_p rfl rfl rfl rfl (p_mv rfl) ?_
   obtain ⟨b3, o3, hA3, hF3, hr3⟩ := (ha).opn (i := i) (d := zeroH) (by omega)
   have hok3 := (ha).okAt (i := i) (d := zeroH) (by omega)
   obtain ⟨x3, ex3⟩ : ∃ x_, x_ = List.getD ms (i) zeroH := ⟨_, rfl⟩
   rw [← ex3] at hr3 hok3
   have hx3k : List.length x3 = 32 := hok3
   have hr3 : w2.rangeAt b3 (o3 + i * 32) ((List.map u8v x3) : List Value) := hr3
   refine ws_p rfl rfl rfl rfl (p_ixS (j := i * 32) Tryd.underlying23 sz38 rfl hA3 rfl (by omega) (by omega) (congrArg (· * 32) (Int.toNat_natCast _))) ?_
   refine ws_h rfl rfl rfl rfl (p_ldA (cs := ((List.map u8v x3) : List Value)) Tryd.underlying38 rfl (szL sz38 (by first | rfl | (simp only [List.length_append, List.length_map, List.length_cons, List.length_nil, (show List.length x3 = 32 from hx3k)]; done) | (simp only [List.length_append, List.length_map, List.length_cons, List.length_nil, List.size_toArray, (show List.length x3 = 32 from hx3k)]; done))) rfl (fun _ h => rng_no hr3 h)) ?_
   refine ws_p rfl rfl rfl rfl (p_mv rfl) ?_
   refine ws_p rfl rfl rfl rfl (p_mv rfl) ?_
   obtain ⟨b4, o4, hA4, hF4, hr4⟩ := (hb).opn (i := i) (d := zeroH) (by omega)
   have hok4 := (hb).okAt (i := i) (d := zeroH) (by omega)
   obtain ⟨x4, ex4⟩ : ∃ x_, x_ = List.getD ms (i) zeroH := ⟨_, rfl⟩
   rw [← ex4] at hr4 hok4
   have hx4k : List.length x4 = 32 := hok4
   have hr4 : w2.rangeAt b4 (o4 + i * 32) ((List.map u8v x4) : List Value) := hr4
   refine ws_p rfl rfl rfl rfl (p_ixS (j := i * 32) Tryd.underlying23 sz38 rfl hA4 rfl (by omega) (by omega) (congrArg (· * 32) (Int.toNat_natCast _))) ?_
   refine ws_h rfl rfl rfl rfl (p_ldA (cs := ((List.map u8v x4) : List Value)) Tryd.underlying38 rfl (szL sz38 (by first | rfl | (simp only [List.length_append, List.length_map, List.length_cons, List.length_nil, (show List.length x4 = 32 from hx4k)]; done) | (simp only [List.length_append, List.length_map, List.length_cons, List.length_nil, List.size_toArray, (show List.length x4 = 32 from hx4k)]; done))) rfl (fun _ h => rng_no hr4 h)) ?_
   have hxx : x3 = x4 := ex3.trans ex4.symm
   refine ws_p rfl rfl rfl rfl (p_neH (a := x3) (b := x4) (by kernel_rfl) Tryd.underlying38 Tryd.underlying5 sz5 rfl rfl (hx3k) (hx4k)) ?_
   refine ws_n ?_
   refine x_seq ?_
   refine wc_no rfl (by simp [hxx]) ?_
   refine wc_skip ?_
   refine x_in_normal ?_
   refine x_seq ?_
   refine wc_region ?_
   refine wl rfl rfl rfl (p_add rfl rfl (w64 (by omega))) ?_
   refine wl rfl rfl rfl (p_mv rfl) ?_
   refine wl_nil ?_
   refine x_round (e' := [(0, .slice Aa la ca), (1, .slice Ab la cb), (12, i64 (la : Int)), (13, i64 ((i + 1) : Int))]) ⟨rfl, rfl, rfl, rfl, trivial⟩ (by rw [hm0]; omega) ⟨i + 1, rfl, rfl, (by omega), ha, hb, HC⟩
  ·
   have c1 := of_decide_eq_false c1
   refine wc_exit ?_
   refine x_then_exit ?_
   refine x_then_exit ?_
   refine x_in_here ?_
   refine x_seq ?_
   refine wc_seq ?_
   refine wc_region ?_
   refine wl rfl rfl rfl (p_as rfl) ?_
   refine wl_nil ?_
   refine x_seq ?_
   refine wc_ret ?_
   refine fin_run ((res1 rfl rfl)) ?_
   exact ⟨rfl, HC⟩

theorem hashes27 {w : World} {Aa Ab : Option Addr} {la lb ca cb : Nat} {Fa Fb : Nat → Prop} {ms : List H8} (ha : SI w Fa eH Aa la ca ms) (hb : SI w Fb eH Ab lb cb ms) (hla : la ≤ 1000000) : Calls Tryd.prog 61 #[.slice Aa la ca, .slice Ab lb cb] w fun e w' => e = .returned (.bool true) ∧ Ch No w w' := by
  obtain rfl : la = lb := ha.len.symm.trans hb.len
  exact hashes270 ha hb hla

set_option maxHeartbeats 1000000 in
set_option maxRecDepth 20000 in
theorem entries_some {w : World} {gB g : Nat} {t : LT} (hBn : Blk w gB 25 #[ndp g]) (hbg : Blk w g 41 [ndp t.adr, .bool true].toArray) (hXt : LAt 156 w t) (hcn : t.er.cnt ≤ 1000) :
    Calls Tryd.prog 68 #[.func (.func 97) #[] #[.pointer (some ⟨gB, 0, none⟩)]] w fun e w' => ∃ A l c, e = .returned (.slice A l c) ∧ RI w' (fun k => w.heap.size ≤ k) 174 eIT A l c t.er.items ∧ Ch No w w' := by
  have hltg := hbg.lt
  have hok := hXt.ok
  have htl := hXt.lt
  have hitl : t.er.items.length ≤ 1000 := by rw [Tr.items_cnt]; exact hcn
  have hltgB := hBn.lt
  have HC : Ch No w w := Ch.refl _ _
  refine enterM (args := [.func (.func 97) #[] #[.pointer (some ⟨gB, 0, none⟩)]]) (n := 16) Tryd.func68 rfl rfl rfl ?_
  refine wc_seq ?_
  refine wc_region ?_
  refine wl rfl rfl rfl (p_as rfl) ?_
  refine wl_nil ?_
  refine x_seq ?_
  refine wc_seq ?_
  refine wc_region ?_
  have hltg := hbg.lt
  have hltgB := hBn.lt
  refine wle rfl (e_alloc (cs := #[.slice none 0 0]) rfl (by rfl) rfl (fun w1 g3 hg3 hb3 hc hsz3 => ?_))
  have hzw1 := hc.size
  have HC := HC.tr hc
  have hbg := hbg.ch hc (fun h => h)
  have hXt := hXt.ch hc (by first | exact fun _ _ h => h | (intro a ha ht; have h2 := htl a ha; first | omega | (dsimp only at *; omega)))
  have hBn := hBn.ch hc (fun h => h)
  have hge3 : w.heap.size ≤ g3 := by have := HC.size; omega
  have neg_3 : g < g3 := by omega
  have negB_3 : gB < g3 := by omega
  refine wl_nil ?_
  refine x_seq ?_
  refine wc_seq ?_
  refine wc_seq ?_
  refine wc_region ?_
  refine wl rfl rfl rfl (p_mv rfl) ?_
  refine wl_nil ?_
  refine x_seq ?_
  refine wc_block ?_
  obtain ⟨n0, hn0⟩ : ∃ z, z = w1.heap.size + 2 := ⟨_, rfl⟩
  have hn0w : w.heap.size + 2 ≤ n0 := by have := HC.size; omega
  have hM : RI w1 (fun k => n0 ≤ k) 174 eIT none 0 0 [] := RI.nil _ _ _ _
  have hltg3 := hb3.lt
  have hltgB := hBn.lt
  have hltg := hbg.lt
  have hz0 := HC.size
  refine wc_rangeS (m := 0) rfl (enters_of Tryd.func97 (by kernel_rfl) rfl) (fun x : List UInt8 × List UInt8 => #[hv x.1, hv x.2]) (fun _ => rfl) (fun (pre : List (H8 × H8)) (x : List UInt8 × List UInt8) => ∃ q, t.er.items = pre ++ x :: q) (fun xs => xs = t.er.items) (fun _ => True) (fun W => Blk W gB 25 #[ndp g] ∧ Blk W g 41 [ndp t.adr, .bool true].toArray ∧ LAt 156 W t) ?hseq (fun xs W => ∃ A : Option Addr, ∃ l : Nat, ∃ c : Nat, (Blk W g3 118 #[.slice A l c]) ∧ (RI W (fun k => n0 ≤ k) 174 eIT A l c xs) ∧ (Blk W gB 25 #[ndp g]) ∧ (Blk W g 41 [ndp t.adr, .bool true].toArray) ∧ (LAt 156 W t) ∧ (Ch No w W)) (fun _ _ _ => False) ?hI ?hIx ?hIl ?hIxl ?hXI ?h0 ?hround ?hdone ?hstop
  case hseq =>
   intro l J Jx W hcW hsW hJ hJx hXJ hY hJ0
   exact (alls_some (fun xs A h => hXJ xs A h) hJ hJx hY hJ0).mono (fun e w' h => ⟨⟨_, h.1⟩, h.2⟩)
  case hI =>
   rintro xs A B ⟨A, l, c, hb3, hM, hBn, hbg, hXt, HC⟩ hc
   have hzB := hc.size
   have HC := HC.tr hc
   have hb3 := hb3.ch hc (fun h => h)
   have hM := hM.no hc
   have hBn := hBn.ch hc (fun h => h)
   have hbg := hbg.ch hc (fun h => h)
   have hXt := hXt.ch hc (by first | exact fun _ _ h => h | (intro a ha ht; have h2 := htl a ha; first | omega | (dsimp only at *; omega)))
   exact ⟨A, l, c, hb3, hM, hBn, hbg, hXt, HC⟩
  case hIx =>
   exact fun _ _ _ _ h _ => h
  case hIl =>
   rintro xs A B ⟨A, l, c, hb3, hM, hBn, hbg, hXt, HC⟩ hc
   have hzB := hc.size
   have HC := HC.trans hc (fun _ _ h => h) (fun k hk ht => absurd ht (by omega))
   have hb3 := hb3.ch hc (by omega)
   have hM := hM.ch hc (by intro k hz hk ht; omega)
   have hBn := hBn.ch hc (by omega)
   have hbg := hbg.ch hc (by omega)
   have hXt := hXt.ch hc (by first | exact fun _ _ h => h | (intro a ha ht; have h2 := htl a ha; first | omega | (dsimp only at *; omega)))
   exact ⟨A, l, c, hb3, hM, hBn, hbg, hXt, HC⟩
  case hIxl =>
   exact fun _ _ _ _ h _ => h
  case hXI =>
   rintro xs W ⟨A, l, c, hb3, hM, hBn, hbg, hXt, HC⟩
   exact ⟨hBn, hbg, hXt⟩
  case h0 =>
   intro W hc hs
   have hzW := hc.size
   have HC := HC.tr hc
   have hb3 := hb3.ch hc (fun h => h)
   have hM := hM.no hc
   have hBn := hBn.ch hc (fun h => h)
   have hbg := hbg.ch hc (fun h => h)
   have hXt := hXt.ch hc (by first | exact fun _ _ h => h | (intro a ha ht; have h2 := htl a ha; first | omega | (dsimp only at *; omega)))
   exact ⟨none, 0, 0, hb3, (hM.mono (fun k _ h => by first | exact h | exact h.1)), hBn, hbg, hXt, HC⟩
  case hround =>
   intro l pre x W hl hD hsz hI a F
   subst hl
   obtain ⟨A, l, c, hb3, hM, hBn, hbg, hXt, HC⟩ := hI
   have hzW := HC.size
   have hD : ∃ q, t.er.items = pre ++ x :: q := hD
   obtain ⟨q, hq⟩ := hD
   obtain ⟨hx1, hx2⟩ := Tr.items_len hok x (by rw [hq]; simp)
   have hMl := hM.len
   have hpl : pre.length + 1 ≤ (t.er.items).length := by rw [hq]; simp; try omega
   refine (?_ : WCi _ _ _ _ _ _ _ _) _ (F.hand2 rfl rfl)
   have hB : Ch (fun k => k ≠ w1.heap.size + 1 ∧ k ≠ w1.heap.size) W W := Ch.refl _ _
   refine wci_seq ?_
   refine wci_region ?_
   have hltg3 := hb3.lt
   have hltgB := hBn.lt
   have hltg := hbg.lt
   refine wlie rfl (by repeat (first | with_reducible exact no_stop | with_reducible exact no_false | with_reducible apply no_then | with_reducible apply no_in)) (e_alloc (cs := ((List.replicate 32 (0 : UInt8)).map u8v).toArray) rfl (by rfl) rfl (fun w2 g4 hg4 hb4 hc hsz4 => ?_))
   have hzw2 := hc.size
   have HC := HC.tr hc
   have hB := hB.tr hc
   have hb3 := hb3.ch hc (fun h => h)
   have hM := hM.after hc
   have hBn := hBn.ch hc (fun h => h)
   have hbg := hbg.ch hc (fun h => h)
   have hXt := hXt.ch hc (by first | exact fun _ _ h => h | (intro a ha ht; have h2 := htl a ha; first | omega | (dsimp only at *; omega)))
   have hge4 : w.heap.size ≤ g4 := by have := HC.size; omega
   have neg3_4 : g3 < g4 := by omega
   have negB_4 : gB < g4 := by omega
   have neg_4 : g < g4 := by omega
   refine wlie rfl (by repeat (first | with_reducible exact no_stop | with_reducible exact no_false | with_reducible apply no_then | with_reducible apply no_in)) (e_stH sz38 (List.length_replicate ..) hx1 rfl rfl hb4 (fun w3 hb4 hc hsz => ?_))
   have hzw3 := hc.size
   have HC := HC.trans hc (fun _ _ h => h) (fun k hk ht => absurd ht (by omega))
   have hB := hB.trans hc (fun _ _ h => h) (fun k hk ht => by first | omega | (dsimp only at *; omega))
   have hb3 := hb3.ch hc (by omega)
   have hM := hM.ch hc (by intro k hz hk ht; omega)
   have hBn := hBn.ch hc (by omega)
   have hbg := hbg.ch hc (by omega)
   have hXt := hXt.ch hc (by first | exact fun _ _ h => h | (intro a ha ht; have h2 := htl a ha; first | omega | (dsimp only at *; omega)))
   refine wli_nil ?_
   refine xi_seq ?_
   refine wci_region ?_
   have hltg3 := hb3.lt
   have hltgB := hBn.lt
   have hltg := hbg.lt
   have hltg4 := hb4.lt
   refine wlie rfl (by repeat (first | with_reducible exact no_stop | with_reducible exact no_false | with_reducible apply no_then | with_reducible apply no_in)) (e_alloc (cs := ((List.replicate 32 (0 : UInt8)).map u8v).toArray) rfl (by rfl) rfl (fun w4 g5 hg5 hb5 hc hsz5 => ?_))
   have hzw4 := hc.size
   have HC := HC.tr hc
   have hB := hB.tr hc
   have hb3 := hb3.ch hc (fun h => h)
   have hM := hM.after hc
   have hBn := hBn.ch hc (fun h => h)
   have hbg := hbg.ch hc (fun h => h)
   have hXt := hXt.ch hc (by first | exact fun _ _ h => h | (intro a ha ht; have h2 := htl a ha; first | omega | (dsimp only at *; omega)))
   have hb4 := hb4.ch hc (fun h => h)
   have hge5 : w.heap.size ≤ g5 := by have := HC.size; omega
   have neg3_5 : g3 < g5 := by omega
   have negB_5 : gB < g5 := by omega
   have neg_5 : g < g5 := by omega
   have neg4_5 : g4 < g5 := by omega
   refine wlie rfl (by repeat (first | with_reducible exact no_stop | with_reducible exact no_false | with_reducible apply no_then | with_reducible apply no_in)) (e_stH sz38 (List.length_replicate ..) hx2 rfl rfl hb5 (fun w5 hb5 hc hsz => ?_))
   have hzw5 := hc.size
   have HC := HC.trans hc (fun _ _ h => h) (fun k hk ht => absurd ht (by omega))
   have hB := hB.trans hc (fun _ _ h => h) (fun k hk ht => by first | omega | (dsimp only at *; omega))
   have hb3 := hb3.ch hc (by omega)
   have hM := hM.ch hc (by intro k hz hk ht; omega)
   have hBn := hBn.ch hc (by omega)
   have hbg := hbg.ch hc (by omega)
   have hXt := hXt.ch hc (by first | exact fun _ _ h => h | (intro a ha ht; have h2 := htl a ha; first | omega | (dsimp only at *; omega)))
   have hb4 := hb4.ch hc (by omega)
   refine wli_nil ?_
   refine xi_asg hB (fun W2 hc hsW => ?_)
   have hzW2 := hc.size
   have HC := HC.trans hc (fun _ _ h => h) (fun k hk ht => absurd ht (by omega))
   have hb3 := hb3.ch hc (by omega)
   have hM := hM.ch hc (by intro k hz hk ht; omega)
   have hBn := hBn.ch hc (by omega)
   have hbg := hbg.ch hc (by omega)
   have hXt := hXt.ch hc (by first | exact fun _ _ h => h | (intro a ha ht; have h2 := htl a ha; first | omega | (dsimp only at *; omega)))
   have hb4 := hb4.ch hc (by omega)
   have hb5 := hb5.ch hc (by omega)
   have hB : Ch (fun k => k ≠ w1.heap.size + 1 ∧ k ≠ w1.heap.size) W2 W2 := Ch.refl _ _
   refine wci_block ?_
   refine wci_region ?_
   refine wli rfl rfl rfl (p_ld Tryd.underlying118 rfl rfl (ld (hb3.cell rfl))) ?_
   refine wli rfl rfl rfl (p_ldH (L := x.1) Tryd.underlying38 sz38 hx1 rfl (fun _ e => e ▸ rngL hb4)) ?_
   refine wli rfl rfl rfl (p_ldH (L := x.2) Tryd.underlying38 sz38 hx2 rfl (fun _ e => e ▸ rngL hb5)) ?_
   refine wli rfl rfl rfl (p_bldX (vs' := [(.agg ((hx x.1) : List Value).toArray), (.agg ((hx x.2) : List Value).toArray)]) (cs := (((List.map u8v x.1) ++ (List.map u8v x.2)) : List Value)) (cs' := (((hx x.1) ++ (hx x.2)) : List Value)) rfl (by simp only [hv, map_hx hx1, map_hx hx2] <;> rfl) (by simp only [hv, map_hx hx1, map_hx hx2] <;> rfl) (fun _ => by kernel_rfl)) ?_
   have hltg3 := hb3.lt
   have hltgB := hBn.lt
   have hltg := hbg.lt
   have hltg4 := hb4.lt
   have hltg5 := hb5.lt
   refine wlie rfl (by repeat (first | with_reducible exact no_stop | with_reducible exact no_false | with_reducible apply no_then | with_reducible apply no_in)) (e_bslX (E := 174) (cs := (((List.map u8v x.1) ++ (List.map u8v x.2)) : List Value)) (cs' := (((hx x.1) ++ (hx x.2)) : List Value)) rfl rfl (by simp only [hv, map_hx hx1, map_hx hx2] <;> rfl) (fun _ => by kernel_rfl) (fun w6 g13 hg13 hb13 hc hsz13 => ?_))
   have hzw6 := hc.size
   have HC := HC.tr hc
   have hB := hB.tr hc
   have hb3 := hb3.ch hc (fun h => h)
   have hM := hM.after hc
   have hBn := hBn.ch hc (fun h => h)
   have hbg := hbg.ch hc (fun h => h)
   have hXt := hXt.ch hc (by first | exact fun _ _ h => h | (intro a ha ht; have h2 := htl a ha; first | omega | (dsimp only at *; omega)))
   have hb4 := hb4.ch hc (fun h => h)
   have hb5 := hb5.ch hc (fun h => h)
   have hge13 : w.heap.size ≤ g13 := by have := HC.size; omega
   have hS13 := SI.oneA (E := eIT) (x := (x.1, x.2)) hb13 rfl ⟨hx1, hx2⟩
   have hltg3 := hb3.lt
   have hltgB := hBn.lt
   have hltg := hbg.lt
   have hltg4 := hb4.lt
   have hltg5 := hb5.lt
   refine wlie rfl (by repeat (first | with_reducible exact no_stop | with_reducible exact no_false | with_reducible apply no_then | with_reducible apply no_in)) (e_appI rfl el118 rfl rfl hM (hS13) (by omega) (by intro k hk; first | omega | (dsimp only at *; omega)) (fun w7 A14 c14 hM hc => ?_))
   have hzw7 := hc.size
   have HC := HC.trans hc (fun _ _ h => h) (fun k hk ht => absurd ht (by omega))
   have hB := hB.trans hc (fun _ _ h => h) (fun k hk ht => by first | omega | (dsimp only at *; omega))
   have hb3 := hb3.ch hc (by omega)
   have hBn := hBn.ch hc (by omega)
   have hbg := hbg.ch hc (by omega)
   have hXt := hXt.ch hc (by first | exact fun _ _ h => h | (intro a ha ht; have h2 := htl a ha; first | omega | (dsimp only at *; omega)))
   have hb4 := hb4.ch hc (by omega)
   have hb5 := hb5.ch hc (by omega)
   first | have hS13 := hS13.ch hc (by intro k hk ht; omega) | have hS13 := hS13.chT hc (by intro k hz hk ht; omega)
   refine wlie rfl (by repeat (first | with_reducible exact no_stop | with_reducible exact no_false | with_reducible apply no_then | with_reducible apply no_in)) (e_st1 (by rfl) rfl rfl rfl hb3 (fun w8 hb3 hc hsz => ?_))
   have hzw8 := hc.size
   have HC := HC.trans hc (fun _ _ h => h) (fun k hk ht => absurd ht (by omega))
   have hB := hB.trans hc (fun _ _ h => h) (fun k hk ht => by first | omega | (dsimp only at *; omega))
   have hM := hM.ch hc (by intro k hz hk ht; omega)
   have hBn := hBn.ch hc (by omega)
   have hbg := hbg.ch hc (by omega)
   have hXt := hXt.ch hc (by first | exact fun _ _ h => h | (intro a ha ht; have h2 := htl a ha; first | omega | (dsimp only at *; omega)))
   have hb4 := hb4.ch hc (by omega)
   have hb5 := hb5.ch hc (by omega)
   first | have hS13 := hS13.ch hc (by intro k hk ht; omega) | have hS13 := hS13.chT hc (by intro k hz hk ht; omega)
   refine wli_nil ?_
   refine x_in_normal ?_
   exact wq_stop ⟨_, _, _, hb3, (hM.mono (fun k _ h => by first | exact h | exact h.1 | exact h.1.1 | exact h.1.1.1 | exact h.1.1.1.1)), hBn, hbg, hXt, HC⟩ hB
  case hdone =>
   rintro xs W a' hS ⟨A, l, c, hb3, hM, hBn, hbg, hXt, HC⟩ hK F'
   refine wqd_ap ?_ F'
   have hzW := HC.size
   refine xd_in_normal ?_
   refine xd_seq ?_
   refine wcd_seq ?_
   refine wcd_region ?_
   refine wld rfl rfl rfl (p_ld Tryd.underlying118 rfl rfl (ld (hb3.cell rfl))) ?_
   refine wld rfl rfl rfl (p_as rfl) ?_
   refine wld_nil ?_
   refine xd_seq ?_
   refine wcd_ret ?_
   refine fin_runM hK (fun w9 hc hsz => ?_)
   have hzw9 := hc.size
   have HC := HC.trans hc (fun _ _ h => h) (fun k hk ht => absurd ht (by omega))
   have hb3 := hb3.ch hc (by omega)
   have hM := hM.ch hc (by intro k hz hk ht; omega)
   have hBn := hBn.ch hc (by omega)
   have hbg := hbg.ch hc (by omega)
   have hXt := hXt.ch hc (by first | exact fun _ _ h => h | (intro a ha ht; have h2 := htl a ha; first | omega | (dsimp only at *; omega)))
   refine ⟨_, (res1 rfl rfl), ?_⟩
   exact ⟨_, _, _, rfl, (hS ▸ hM).mono (fun k _ h => by have h2 : n0 ≤ k := h; show w.heap.size ≤ k; omega), HC⟩
  case hstop =>
   exact fun _ _ _ _ _ h => h.elim

set_option maxHeartbeats 1000000 in
set_option maxRecDepth 20000 in
theorem entries_none {w : World} {gB g : Nat} (hBn : Blk w gB 25 #[ndp g]) (hbg : Blk w g 41 [.pointer none, .bool true].toArray) :
    Calls Tryd.prog 68 #[.func (.func 97) #[] #[.pointer (some ⟨gB, 0, none⟩)]] w fun e w' => ∃ A l c, e = .returned (.slice A l c) ∧ RI w' (fun k => w.heap.size ≤ k) 174 eIT A l c ([] : List (H8 × H8)) ∧ Ch No w w' := by
  have hltg := hbg.lt
  have hltgB := hBn.lt
  have HC : Ch No w w := Ch.refl _ _
  refine enterM (args := [.func (.func 97) #[] #[.pointer (some ⟨gB, 0, none⟩)]]) (n := 16) Tryd.func68 rfl rfl rfl ?_
  refine wc_seq ?_
  refine wc_region ?_
  refine wl rfl rfl rfl (p_as rfl) ?_
  refine wl_nil ?_
  refine x_seq ?_
  refine wc_seq ?_
  refine wc_region ?_
  have hltg := hbg.lt
  have hltgB := hBn.lt
  refine wle rfl (e_alloc (cs := #[.slice none 0 0]) rfl (by rfl) rfl (fun w1 g3 hg3 hb3 hc hsz3 => ?_))
  have hzw1 := hc.size
  have HC := HC.tr hc
  have hbg := hbg.ch hc (fun h => h)
  have hBn := hBn.ch hc (fun h => h)
  have hge3 : w.heap.size ≤ g3 := by have := HC.size; omega
  have neg_3 : g < g3 := by omega
  have negB_3 : gB < g3 := by omega
  refine wl_nil ?_
  refine x_seq ?_
  refine wc_seq ?_
  refine wc_seq ?_
  refine wc_region ?_
  refine wl rfl rfl rfl (p_mv rfl) ?_
  refine wl_nil ?_
  refine x_seq ?_
  refine wc_block ?_
  obtain ⟨n0, hn0⟩ : ∃ z, z = w1.heap.size + 2 := ⟨_, rfl⟩
  have hn0w : w.heap.size + 2 ≤ n0 := by have := HC.size; omega
  have hM : RI w1 (fun k => n0 ≤ k) 174 eIT none 0 0 [] := RI.nil _ _ _ _
  have hltg3 := hb3.lt
  have hltgB := hBn.lt
  have hltg := hbg.lt
  have hz0 := HC.size
  refine wc_rangeS (m := 0) rfl (enters_of Tryd.func97 (by kernel_rfl) rfl) (fun x : List UInt8 × List UInt8 => #[hv x.1, hv x.2]) (fun _ => rfl) (fun (pre : List (H8 × H8)) (x : List UInt8 × List UInt8) => ∃ q, ([] : List (H8 × H8)) = pre ++ x :: q) (fun xs => xs = ([] : List (H8 × H8))) (fun _ => True) (fun W => Blk W gB 25 #[ndp g] ∧ Blk W g 41 [.pointer none, .bool true].toArray) ?hseq (fun xs W => ∃ A : Option Addr, ∃ l : Nat, ∃ c : Nat, (Blk W g3 118 #[.slice A l c]) ∧ (RI W (fun k => n0 ≤ k) 174 eIT A l c xs) ∧ (Blk W gB 25 #[ndp g]) ∧ (Blk W g 41 [.pointer none, .bool true].toArray) ∧ (Ch No w W)) (fun _ _ _ => False) ?hI ?hIx ?hIl ?hIxl ?hXI ?h0 ?hround ?hdone ?hstop
  case hseq =>
   intro l J Jx W hcW hsW hJ hJx hXJ hY hJ0
   exact (alls_none (m := 0) (fun xs A h => hXJ xs A h) hJ hJx hJ0).mono (fun e w' h => ⟨⟨_, h.1⟩, h.2⟩)
  case hI =>
   rintro xs A B ⟨A, l, c, hb3, hM, hBn, hbg, HC⟩ hc
   have hzB := hc.size
   have HC := HC.tr hc
   have hb3 := hb3.ch hc (fun h => h)
   have hM := hM.no hc
   have hBn := hBn.ch hc (fun h => h)
   have hbg := hbg.ch hc (fun h => h)
   exact ⟨A, l, c, hb3, hM, hBn, hbg, HC⟩
  case hIx =>
   exact fun _ _ _ _ h _ => h
  case hIl =>
   rintro xs A B ⟨A, l, c, hb3, hM, hBn, hbg, HC⟩ hc
   have hzB := hc.size
   have HC := HC.trans hc (fun _ _ h => h) (fun k hk ht => absurd ht (by omega))
   have hb3 := hb3.ch hc (by omega)
   have hM := hM.ch hc (by intro k hz hk ht; omega)
   have hBn := hBn.ch hc (by omega)
   have hbg := hbg.ch hc (by omega)
   exact ⟨A, l, c, hb3, hM, hBn, hbg, HC⟩
  case hIxl =>
   exact fun _ _ _ _ h _ => h
  case hXI =>
   rintro xs W ⟨A, l, c, hb3, hM, hBn, hbg, HC⟩
   exact ⟨hBn, hbg⟩
  case h0 =>
   intro W hc hs
   have hzW := hc.size
   have HC := HC.tr hc
   have hb3 := hb3.ch hc (fun h => h)
   have hM := hM.no hc
   have hBn := hBn.ch hc (fun h => h)
   have hbg := hbg.ch hc (fun h => h)
   exact ⟨none, 0, 0, hb3, (hM.mono (fun k _ h => by first | exact h | exact h.1)), hBn, hbg, HC⟩
  case hround =>
   intro l pre x W hl hD hsz hI a F
   subst hl
   obtain ⟨A, l, c, hb3, hM, hBn, hbg, HC⟩ := hI
   have hzW := HC.size
   have hD : ∃ q, ([] : List (H8 × H8)) = pre ++ x :: q := hD
   obtain ⟨q, hq⟩ := hD
   have hx1 : x.1.length = 32 := absurd hq (by simp)
   have hx2 : x.2.length = 32 := absurd hq (by simp)
   have hp0 : pre.length ≤ 1000 := absurd hq (by simp)
   have hMl := hM.len
   refine (?_ : WCi _ _ _ _ _ _ _ _) _ (F.hand2 rfl rfl)
   have hB : Ch (fun k => k ≠ w1.heap.size + 1 ∧ k ≠ w1.heap.size) W W := Ch.refl _ _
   refine wci_seq ?_
   refine wci_region ?_
   have hltg3 := hb3.lt
   have hltgB := hBn.lt
   have hltg := hbg.lt
   refine wlie rfl (by repeat (first | with_reducible exact no_stop | with_reducible exact no_false | with_reducible apply no_then | with_reducible apply no_in)) (e_alloc (cs := ((List.replicate 32 (0 : UInt8)).map u8v).toArray) rfl (by rfl) rfl (fun w2 g4 hg4 hb4 hc hsz4 => ?_))
   have hzw2 := hc.size
   have HC := HC.tr hc
   have hB := hB.tr hc
   have hb3 := hb3.ch hc (fun h => h)
   have hM := hM.after hc
   have hBn := hBn.ch hc (fun h => h)
   have hbg := hbg.ch hc (fun h => h)
   have hge4 : w.heap.size ≤ g4 := by have := HC.size; omega
   have neg3_4 : g3 < g4 := by omega
   have negB_4 : gB < g4 := by omega
   have neg_4 : g < g4 := by omega
   refine wlie rfl (by repeat (first | with_reducible exact no_stop | with_reducible exact no_false | with_reducible apply no_then | with_reducible apply no_in)) (e_stH sz38 (List.length_replicate ..) hx1 rfl rfl hb4 (fun w3 hb4 hc hsz => ?_))
   have hzw3 := hc.size
   have HC := HC.trans hc (fun _ _ h => h) (fun k hk ht => absurd ht (by omega))
   have hB := hB.trans hc (fun _ _ h => h) (fun k hk ht => by first | omega | (dsimp only at *; omega))
   have hb3 := hb3.ch hc (by omega)
   have hM := hM.ch hc (by intro k hz hk ht; omega)
   have hBn := hBn.ch hc (by omega)
   have hbg := hbg.ch hc (by omega)
   refine wli_nil ?_
   refine xi_seq ?_
   refine wci_region ?_
   have hltg3 := hb3.lt
   have hltgB := hBn.lt
   have hltg := hbg.lt
   have hltg4 := hb4.lt
   refine wlie rfl (by repeat (first | with_reducible exact no_stop | with_reducible exact no_false | with_reducible apply no_then | with_reducible apply no_in)) (e_alloc (cs := ((List.replicate 32 (0 : UInt8)).map u8v).toArray) rfl (by rfl) rfl (fun w4 g5 hg5 hb5 hc hsz5 => ?_))
   have hzw4 := hc.size
   have HC := HC.tr hc
   have hB := hB.tr hc
   have hb3 := hb3.ch hc (fun h => h)
   have hM := hM.after hc
   have hBn := hBn.ch hc (fun h => h)
   have hbg := hbg.ch hc (fun h => h)
   have hb4 := hb4.ch hc (fun h => h)
   have hge5 : w.heap.size ≤ g5 := by have := HC.size; omega
   have neg3_5 : g3 < g5 := by omega
   have negB_5 : gB < g5 := by omega
   have neg_5 : g < g5 := by omega
   have neg4_5 : g4 < g5 := by omega
   refine wlie rfl (by repeat (first | with_reducible exact no_stop | with_reducible exact no_false | with_reducible apply no_then | with_reducible apply no_in)) (e_stH sz38 (List.length_replicate ..) hx2 rfl rfl hb5 (fun w5 hb5 hc hsz => ?_))
   have hzw5 := hc.size
   have HC := HC.trans hc (fun _ _ h => h) (fun k hk ht => absurd ht (by omega))
   have hB := hB.trans hc (fun _ _ h => h) (fun k hk ht => by first | omega | (dsimp only at *; omega))
   have hb3 := hb3.ch hc (by omega)
   have hM := hM.ch hc (by intro k hz hk ht; omega)
   have hBn := hBn.ch hc (by omega)
   have hbg := hbg.ch hc (by omega)
   have hb4 := hb4.ch hc (by omega)
   refine wli_nil ?_
   refine xi_asg hB (fun W2 hc hsW => ?_)
   have hzW2 := hc.size
   have HC := HC.trans hc (fun _ _ h => h) (fun k hk ht => absurd ht (by omega))
   have hb3 := hb3.ch hc (by omega)
   have hM := hM.ch hc (by intro k hz hk ht; omega)
   have hBn := hBn.ch hc (by omega)
   have hbg := hbg.ch hc (by omega)
   have hb4 := hb4.ch hc (by omega)
   have hb5 := hb5.ch hc (by omega)
   have hB : Ch (fun k => k ≠ w1.heap.size + 1 ∧ k ≠ w1.heap.size) W2 W2 := Ch.refl _ _
   refine wci_block ?_
   refine wci_region ?_
   refine wli rfl rfl rfl (p_ld Tryd.underlying118 rfl rfl (ld (hb3.cell rfl))) ?_
   refine wli rfl rfl rfl (p_ldH (L := x.1) Tryd.underlying38 sz38 hx1 rfl (fun _ e => e ▸ rngL hb4)) ?_
   refine wli rfl rfl rfl (p_ldH (L := x.2) Tryd.underlying38 sz38 hx2 rfl (fun _ e => e ▸ rngL hb5)) ?_
   refine wli rfl rfl rfl (p_bldX (vs' := [(.agg ((hx x.1) : List Value).toArray), (.agg ((hx x.2) : List Value).toArray)]) (cs := (((List.map u8v x.1) ++ (List.map u8v x.2)) : List Value)) (cs' := (((hx x.1) ++ (hx x.2)) : List Value)) rfl (by simp only [hv, map_hx hx1, map_hx hx2] <;> rfl) (by simp only [hv, map_hx hx1, map_hx hx2] <;> rfl) (fun _ => by kernel_rfl)) ?_
   have hltg3 := hb3.lt
   have hltgB := hBn.lt
   have hltg := hbg.lt
   have hltg4 := hb4.lt
   have hltg5 := hb5.lt
   refine wlie rfl (by repeat (first | with_reducible exact no_stop | with_reducible exact no_false | with_reducible apply no_then | with_reducible apply no_in)) (e_bslX (E := 174) (cs := (((List.map u8v x.1) ++ (List.map u8v x.2)) : List Value)) (cs' := (((hx x.1) ++ (hx x.2)) : List Value)) rfl rfl (by simp only [hv, map_hx hx1, map_hx hx2] <;> rfl) (fun _ => by kernel_rfl) (fun w6 g13 hg13 hb13 hc hsz13 => ?_))
   have hzw6 := hc.size
   have HC := HC.tr hc
   have hB := hB.tr hc
   have hb3 := hb3.ch hc (fun h => h)
   have hM := hM.after hc
   have hBn := hBn.ch hc (fun h => h)
   have hbg := hbg.ch hc (fun h => h)
   have hb4 := hb4.ch hc (fun h => h)
   have hb5 := hb5.ch hc (fun h => h)
   have hge13 : w.heap.size ≤ g13 := by have := HC.size; omega
   have hS13 := SI.oneA (E := eIT) (x := (x.1, x.2)) hb13 rfl ⟨hx1, hx2⟩
   have hltg3 := hb3.lt
   have hltgB := hBn.lt
   have hltg := hbg.lt
   have hltg4 := hb4.lt
   have hltg5 := hb5.lt
   refine wlie rfl (by repeat (first | with_reducible exact no_stop | with_reducible exact no_false | with_reducible apply no_then | with_reducible apply no_in)) (e_appI rfl el118 rfl rfl hM (hS13) (by omega) (by intro k hk; first | omega | (dsimp only at *; omega)) (fun w7 A14 c14 hM hc => ?_))
   have hzw7 := hc.size
   have HC := HC.trans hc (fun _ _ h => h) (fun k hk ht => absurd ht (by omega))
   have hB := hB.trans hc (fun _ _ h => h) (fun k hk ht => by first | omega | (dsimp only at *; omega))
   have hb3 := hb3.ch hc (by omega)
   have hBn := hBn.ch hc (by omega)
   have hbg := hbg.ch hc (by omega)
   have hb4 := hb4.ch hc (by omega)
   have hb5 := hb5.ch hc (by omega)
   first | have hS13 := hS13.ch hc (by intro k hk ht; omega) | have hS13 := hS13.chT hc (by intro k hz hk ht; omega)
   refine wlie rfl (by repeat (first | with_reducible exact no_stop | with_reducible exact no_false | with_reducible apply no_then | with_reducible apply no_in)) (e_st1 (by rfl) rfl rfl rfl hb3 (fun w8 hb3 hc hsz => ?_))
   have hzw8 := hc.size
   have HC := HC.trans hc (fun _ _ h => h) (fun k hk ht => absurd ht (by omega))
   have hB := hB.trans hc (fun _ _ h => h) (fun k hk ht => by first | omega | (dsimp only at *; omega))
   have hM := hM.ch hc (by intro k hz hk ht; omega)
   have hBn := hBn.ch hc (by omega)
   have hbg := hbg.ch hc (by omega)
   have hb4 := hb4.ch hc (by omega)
   have hb5 := hb5.ch hc (by omega)
   first | have hS13 := hS13.ch hc (by intro k hk ht; omega) | have hS13 := hS13.chT hc (by intro k hz hk ht; omega)
   refine wli_nil ?_
   refine x_in_normal ?_
   exact wq_stop ⟨_, _, _, hb3, (hM.mono (fun k _ h => by first | exact h | exact h.1 | exact h.1.1 | exact h.1.1.1 | exact h.1.1.1.1)), hBn, hbg, HC⟩ hB
  case hdone =>
   rintro xs W a' hS ⟨A, l, c, hb3, hM, hBn, hbg, HC⟩ hK F'
   refine wqd_ap ?_ F'
   have hzW := HC.size
   refine xd_in_normal ?_
   refine xd_seq ?_
   refine wcd_seq ?_
   refine wcd_region ?_
   refine wld rfl rfl rfl (p_ld Tryd.underlying118 rfl rfl (ld (hb3.cell rfl))) ?_
   refine wld rfl rfl rfl (p_as rfl) ?_
   refine wld_nil ?_
   refine xd_seq ?_
   refine wcd_ret ?_
   refine fin_runM hK (fun w9 hc hsz => ?_)
   have hzw9 := hc.size
   have HC := HC.trans hc (fun _ _ h => h) (fun k hk ht => absurd ht (by omega))
   have hb3 := hb3.ch hc (by omega)
   have hM := hM.ch hc (by intro k hz hk ht; omega)
   have hBn := hBn.ch hc (by omega)
   have hbg := hbg.ch hc (by omega)
   refine ⟨_, (res1 rfl rfl), ?_⟩
   exact ⟨_, _, _, rfl, (hS ▸ hM).mono (fun k _ h => by have h2 : n0 ≤ k := h; show w.heap.size ≤ k; omega), HC⟩
  case hstop =>
   exact fun _ _ _ _ _ h => h.elim

theorem filt_yes {α : Type} {ks : List α} {i : Nat} {d : α} {p : α → Bool} (hi : i < ks.length) (hp : p (ks.getD i d) = true) : (ks.take (i + 1)).filter p = (ks.take i).filter p ++ [ks.getD i d] := by
  rw [getD_take (d := d) hi, List.filter_append, List.filter_cons, if_pos hp]; rfl

theorem filt_no {α : Type} {ks : List α} {i : Nat} {d : α} {p : α → Bool} (hi : i < ks.length) (hp : p (ks.getD i d) = false) : (ks.take (i + 1)).filter p = (ks.take i).filter p := by
  rw [getD_take (d := d) hi, List.filter_append, List.filter_cons, if_neg (by rw [hp]; simp)]; simp

def ProveOK (t : Tr) : Prop := ∀ {w : World} {F Fm Fk : Nat → Prop} {Ao Am Ak : Option Addr} {lo co lm cm lk ck : Nat} {xs : List ND} {ks : List H8}, RI w F 115 eND Ao lo co xs → (∀ k, w.heap.size ≤ k → F k) → ¬ F 0 → SI w Fm eIT Am lm cm t.items → (∀ k, k < w.heap.size → Fm k → ¬ F k) → SI w Fk eH Ak lk ck ks → (∀ k, k < w.heap.size → Fk k → ¬ F k) → t.WF → lm ≤ 1000000 → lk ≤ 1000000 → lo + 2 * t.cnt ≤ 1000000000 → Sl w (fun k => k = 0) u32v (some ⟨0, 0, none⟩) 64 64 rk → Calls Tryd.prog 70 #[.slice Ao lo co, .slice Am lm cm, .slice Ak lk ck] w fun e w' => ∃ A l c, e = .returned (.slice A l c) ∧ RI w' F 115 eND A l c (xs ++ (t.prv ks).nodes) ∧ Ch F w w'

set_option maxHeartbeats 1000000 in
set_option maxRecDepth 20000 in
theorem prove_nil {w : World} {F Fm Fk : Nat → Prop} {Ao Am Ak : Option Addr} {lo co lm cm lk ck : Nat} {xs : List ND} {ks : List H8} {t : Tr} (hout : RI w F 115 eND Ao lo co xs) (hF : ∀ k, w.heap.size ≤ k → F k) (hF0 : ¬ F 0) (hm : SI w Fm eIT Am lm cm (Tr.items (t))) (hFm : ∀ k, k < w.heap.size → Fm k → ¬ F k) (hks : SI w Fk eH Ak lk ck ks) (hFk : ∀ k, k < w.heap.size → Fk k → ¬ F k) (hw : (t).WF) (hl : lm ≤ 1000000) (hlk : lk ≤ 1000000) (hlo : lo + 2 * (t).cnt ≤ 1000000000) (hrnd : Sl w (fun k => k = 0) u32v (some ⟨0, 0, none⟩) 64 64 rk) (hk0 : ks = []) :
    Calls Tryd.prog 70 #[.slice Ao lo co, .slice Am lm cm, .slice Ak lk ck] w fun e w' => ∃ A l c, e = .returned (.slice A l c) ∧ RI w' F 115 eND A l c (xs ++ ((t).prv ks).nodes) ∧ Ch F w w' := by
  have hn0 : 0 < w.heap.size := hrnd.size (by omega) rfl
  have hn1 := hn0
  have hml := hm.len
  have hkl := hks.len
  have hol := hout.len
  have hm := hm.mono (G := fun k => k < w.heap.size ∧ ¬ F k) (fun k hk h => ⟨hk, hFm k hk h⟩)
  have hks := hks.mono (G := fun k => k < w.heap.size ∧ ¬ F k) (fun k hk h => ⟨hk, hFk k hk h⟩)
  have hlk0 : lk = 0 := by rw [← hkl, hk0]; rfl
  have hcp := Tr.cnt_pos t
  have HC : Ch F w w := Ch.refl _ _
  refine enter' (args := [.slice Ao lo co, .slice Am lm cm, .slice Ak lk ck]) (n := 81) Tryd.func70 rfl rfl rfl ?_
  refine wc_seq ?_
  refine wc_region ?_
  refine wl rfl rfl rfl (p_as rfl) ?_
  refine wl_nil ?_
  refine x_seq ?_
  refine wc_seq ?_
  refine wc_block ?_
  refine wc_seq ?_
  refine wc_region ?_
  refine wl rfl rfl rfl (p_mv rfl) ?_
  refine wl rfl rfl rfl (p_lenS Tryd.underlying23 rfl) ?_
  refine wl rfl rfl rfl (p_eq rfl rfl) ?_
  refine wl rfl rfl rfl (p_as rfl) ?_
  refine wl_nil ?_
  refine x_seq ?_
  refine wc_yes rfl (decide_eq_true (by omega)) ?_
  refine wc_seq ?_
  refine wc_region ?_
  refine wl rfl rfl rfl (p_mv rfl) ?_
  refine wl rfl rfl rfl (p_mv rfl) ?_
  refine wle rfl (e_call ent99 rfl rfl (mroot_any t (hm) hw (by omega) hrnd) ?_)
  rintro _ w1 ⟨rfl, hc⟩
  refine ⟨_, rfl, ?_⟩
  have hzw1 := hc.size
  have HC := HC.tr hc
  have hout := hout.after hc
  have hm := hm.no hc
  have hks := hks.no hc
  have hrnd := hrnd.no hc
  refine wl rfl rfl rfl (p_bldX (vs' := [.int .i64 (2), (.agg ((hx (Tr.root t)) : List Value).toArray)]) (cs := (([.int .i64 (2), Value.int .i64 0] ++ ((List.map u8v (List.replicate 32 (0 : UInt8))) ++ (List.map u8v (Tr.root t)))) : List Value)) (cs' := (([.int .i64 (2), Value.int .i64 0] ++ ((hx (List.replicate 32 (0 : UInt8))) ++ (hx (Tr.root t)))) : List Value)) rfl (by simp only [hv, map_hx (List.length_replicate ..), map_hx Tr.root_len] <;> rfl) (by simp only [hv, map_hx (List.length_replicate ..), map_hx Tr.root_len] <;> rfl) (fun _ => by kernel_rfl)) ?_
  refine wle rfl (e_bslX (E := 115) (cs := (([.int .i64 (2), Value.int .i64 0] ++ ((List.map u8v (List.replicate 32 (0 : UInt8))) ++ (List.map u8v (Tr.root t)))) : List Value)) (cs' := (([.int .i64 (2), Value.int .i64 0] ++ ((hx (List.replicate 32 (0 : UInt8))) ++ (hx (Tr.root t)))) : List Value)) rfl rfl (by simp only [hv, map_hx (List.length_replicate ..), map_hx Tr.root_len] <;> rfl) (fun _ => by kernel_rfl) (fun w2 g21 hg21 hb21 hc hsz21 => ?_))
  have hzw2 := hc.size
  have HC := HC.tr hc
  have hout := hout.after hc
  have hm := hm.no hc
  have hks := hks.no hc
  have hrnd := hrnd.no hc
  have hge21 : w.heap.size ≤ g21 := by have := HC.size; omega
  have hS21 := SI.oneA (E := eND) (x := ⟨(2), (0), (List.replicate 32 (0 : UInt8)), (Tr.root t)⟩) hb21 rfl ⟨(List.length_replicate ..), Tr.root_len⟩
  refine wle rfl (e_appI rfl el33 rfl rfl hout (hS21) (by omega) (by intro k hk; have hF1 := hF k (by omega); repeat (first | exact hF1 | (refine ⟨?_, by omega⟩))) (fun w3 A22 c22 hout hc => ?_))
  have hzw3 := hc.size
  have HC := HC.trans hc (fun _ _ h => h) (fun k hk ht => (by first | exact ht | (exfalso; omega) | ((try simp only [and_assoc] at ht); exact ht.1)))
  have hm := hm.ch hc (by intro k hk ht; first | exact hk.2 ht | (have h1 := hk.1; omega) | ((try simp only [and_assoc] at ht); exact hk.2 ht.1))
  have hks := hks.ch hc (by intro k hk ht; first | exact hk.2 ht | (have h1 := hk.1; omega) | ((try simp only [and_assoc] at ht); exact hk.2 ht.1))
  have hrnd := hrnd.ch hc (by rintro k rfl ht; first | omega | exact hF0 ht | ((try simp only [and_assoc] at ht); exact hF0 ht.1))
  first | have hS21 := hS21.ch hc (by intro k hk ht; omega) | have hS21 := hS21.chT hc (by intro k hz hk ht; omega)
  refine wl rfl rfl rfl (p_as rfl) ?_
  refine wl_nil ?_
  refine x_seq ?_
  refine wc_ret ?_
  refine x_in_ret ?_
  refine x_then_ret ?_
  refine fin_run ((res1 rfl rfl)) ?_
  have hpv : (t.prv ks).nodes = [⟨2, 0, zeroH, t.root⟩] := by subst hk0; cases t <;> rfl
  rw [hpv]
  exact ⟨_, _, _, rfl, hout.mono (fun k hk h => by first | exact h | ((try simp only [and_assoc] at h); exact h.1)), HC⟩

set_option maxHeartbeats 1000000 in
set_option maxRecDepth 20000 in
theorem prove_leaf {w : World} {F Fm Fk : Nat → Prop} {Ao Am Ak : Option Addr} {lo co lm cm lk ck : Nat} {xs : List ND} {ks : List H8} {k : List UInt8} {u : List UInt8} (hout : RI w F 115 eND Ao lo co xs) (hF : ∀ k, w.heap.size ≤ k → F k) (hF0 : ¬ F 0) (hm : SI w Fm eIT Am lm cm (Tr.items (Tr.leaf k u))) (hFm : ∀ k, k < w.heap.size → Fm k → ¬ F k) (hks : SI w Fk eH Ak lk ck ks) (hFk : ∀ k, k < w.heap.size → Fk k → ¬ F k) (hw : (Tr.leaf k u).WF) (hl : lm ≤ 1000000) (hlk : lk ≤ 1000000) (hlo : lo + 2 * (Tr.leaf k u).cnt ≤ 1000000000) (hrnd : Sl w (fun k => k = 0) u32v (some ⟨0, 0, none⟩) 64 64 rk) (hk0 : ks ≠ []) :
    Calls Tryd.prog 70 #[.slice Ao lo co, .slice Am lm cm, .slice Ak lk ck] w fun e w' => ∃ A l c, e = .returned (.slice A l c) ∧ RI w' F 115 eND A l c (xs ++ ((Tr.leaf k u).prv ks).nodes) ∧ Ch F w w' := by
  have hn0 : 0 < w.heap.size := hrnd.size (by omega) rfl
  have hn1 := hn0
  have hml := hm.len
  have hkl := hks.len
  have hol := hout.len
  have hm := hm.mono (G := fun k => k < w.heap.size ∧ ¬ F k) (fun k hk h => ⟨hk, hFm k hk h⟩)
  have hks := hks.mono (G := fun k => k < w.heap.size ∧ ¬ F k) (fun k hk h => ⟨hk, hFk k hk h⟩)
  have hlk0 : lk ≠ 0 := by rw [← hkl]; exact fun e => hk0 (List.eq_nil_of_length_eq_zero e)
  have hl1 : lm = 1 := by rw [← hml]; rfl
  simp only [Tr.cnt] at hlo
  have HC : Ch F w w := Ch.refl _ _
  refine enter' (args := [.slice Ao lo co, .slice Am lm cm, .slice Ak lk ck]) (n := 81) Tryd.func70 rfl rfl rfl ?_
  refine wc_seq ?_
  refine wc_region ?_
  refine wl rfl rfl rfl (p_as rfl) ?_
  refine wl_nil ?_
  refine x_seq ?_
  refine wc_seq ?_
  refine wc_block ?_
  refine wc_seq ?_
  refine wc_region ?_
  refine wl rfl rfl rfl (p_mv rfl) ?_
  refine wl rfl rfl rfl (p_lenS Tryd.underlying23 rfl) ?_
  refine wl rfl rfl rfl (p_eq rfl rfl) ?_
  refine wl rfl rfl rfl (p_as rfl) ?_
  refine wl_nil ?_
  refine x_seq ?_
  refine wc_no rfl (decide_eq_false (by omega)) ?_
  refine wc_seq ?_
  refine wc_region ?_
  refine wl rfl rfl rfl (p_mv rfl) ?_
  refine wl rfl rfl rfl (p_lenS Tryd.underlying118 rfl) ?_
  refine wl rfl rfl rfl (p_eq rfl rfl) ?_
  refine wl rfl rfl rfl (p_as rfl) ?_
  refine wl_nil ?_
  refine x_seq ?_
  refine wc_yes rfl (decide_eq_true (by omega)) ?_
  refine wc_seq ?_
  refine wc_draw (.st 0 0 (.st 1 0 (.st 2 0 (.st 3 0 (.st 4 1 (.st 5 0 (.st 6 0 (.st 7 0 (.st 8 1 (.st 9 0 (.st 10 2 (.st 11 3 (.st 12 0 .nil))))))))))))) 11 (by kernel_rfl) (by kernel_rfl) (by kernel_rfl) (by repeat (first | with_reducible exact pan_body | with_reducible apply pan_then | with_reducible apply pan_in)) (fun x => Ch No w.drew x) (Ch.refl _ _) ?_
  obtain ⟨w1, ew1⟩ : ∃ x, x = w.drew := ⟨_, rfl⟩
  rw [← ew1]
  have hc : Ch No w w1 := by rw [ew1]; exact Ch.drew _
  have hszw1 : w1.heap.size = w.heap.size := by rw [ew1]; rfl
  clear ew1
  have hzw1 := hc.size
  have HC := HC.tr hc
  have hout := hout.no hc
  have hm := hm.no hc
  have hks := hks.no hc
  have hrnd := hrnd.no hc
  have hS : Ch No w1 w1 := Ch.refl _ _
  refine ws_p rfl rfl rfl rfl (p_mv rfl) ?_
  refine ws_p rfl rfl rfl rfl (p_mv rfl) ?_
  obtain ⟨b2, o2, hA2, hF2, hr2⟩ := (hm).opn (i := 0) (d := (zeroH, zeroH)) (by omega)
  have hok2 := (hm).okAt (i := 0) (d := (zeroH, zeroH)) (by omega)
  obtain ⟨x2, ex2⟩ : ∃ x_, x_ = List.getD (Tr.items (.leaf k u)) (0) (zeroH, zeroH) := ⟨_, rfl⟩
  rw [← ex2] at hr2 hok2
  obtain ⟨hx2k, hx2v⟩ := hok2
  have hr2 : w1.rangeAt b2 (o2 + 0 * 64) (((List.map u8v x2.1) ++ (List.map u8v x2.2)) : List Value) := hr2
  refine ws_p rfl rfl rfl rfl (p_ixS (j := 0 * 64) Tryd.underlying118 sz174 rfl hA2 rfl (by omega) (by omega) rfl) ?_
  have hkx : x2 = (k, u) := ex2
  refine ws_p rfl rfl rfl rfl (p_fld (j := 0) Tryd.underlying174 rfl ⟨_, by rfl⟩ rfl rfl) ?_
  refine ws_h rfl rfl rfl rfl (p_ldA (cs := (List.map u8v x2.1)) Tryd.underlying38 rfl (szL sz38 (by first | rfl | (simp only [List.length_append, List.length_map, List.length_cons, List.length_nil, (show List.length x2.1 = 32 from hx2k)]; done) | (simp only [List.length_append, List.length_map, List.length_cons, List.length_nil, List.size_toArray, (show List.length x2.1 = 32 from hx2k)]; done))) rfl (fun _ h => rng_sub (q := (List.map u8v x2.1)) (p := []) (r := ((List.map u8v x2.2) : List Value)) (rng_no hr2 h) (by first | rfl | simp only [List.append_assoc, List.cons_append, List.nil_append, List.append_nil]) rfl)) ?_
  refine ws_p rfl rfl rfl rfl (p_mv rfl) ?_
  obtain ⟨b3, o3, hA3, hF3, hr3⟩ := (hm).opn (i := 0) (d := (zeroH, zeroH)) (by omega)
  have hok3 := (hm).okAt (i := 0) (d := (zeroH, zeroH)) (by omega)
  obtain ⟨x3, ex3⟩ : ∃ x_, x_ = List.getD (Tr.items (.leaf k u)) (0) (zeroH, zeroH) := ⟨_, rfl⟩
  rw [← ex3] at hr3 hok3
  obtain ⟨hx3k, hx3v⟩ := hok3
  have hr3 : w1.rangeAt b3 (o3 + 0 * 64) (((List.map u8v x3.1) ++ (List.map u8v x3.2)) : List Value) := hr3
  refine ws_p rfl rfl rfl rfl (p_ixS (j := 0 * 64) Tryd.underlying118 sz174 rfl hA3 rfl (by omega) (by omega) rfl) ?_
  have hky : x3 = (k, u) := ex3
  refine ws_p rfl rfl rfl rfl (p_fld (j := 32) Tryd.underlying174 rfl ⟨_, by rfl⟩ rfl rfl) ?_
  refine ws_h rfl rfl rfl rfl (p_ldA (cs := (List.map u8v x3.2)) Tryd.underlying38 rfl (szL sz38 (by first | rfl | (simp only [List.length_append, List.length_map, List.length_cons, List.length_nil, (show List.length x3.2 = 32 from hx3v)]; done) | (simp only [List.length_append, List.length_map, List.length_cons, List.length_nil, List.size_toArray, (show List.length x3.2 = 32 from hx3v)]; done))) rfl (fun _ h => rng_sub (q := (List.map u8v x3.2)) (p := ((List.map u8v x3.1) : List Value)) (r := []) (rng_no hr3 h) (by first | rfl | simp only [List.append_assoc, List.cons_append, List.nil_append, List.append_nil]) (by first | rfl | (simp only [List.length_append, List.length_map, List.length_cons, List.length_nil, (show List.length x3.1 = 32 from hx3k)]; done) | (simp only [List.length_append, List.length_map, List.length_cons, List.length_nil, List.size_toArray, (show List.length x3.1 = 32 from hx3k)]; done)))) ?_
  refine ws_p rfl rfl rfl rfl (p_bldX (vs' := [.int .i64 (3), (.agg ((hx x2.1) : List Value).toArray), (.agg ((hx x3.2) : List Value).toArray)]) (cs := (([.int .i64 (3), Value.int .i64 0] ++ ((List.map u8v x2.1) ++ (List.map u8v x3.2))) : List Value)) (cs' := (([.int .i64 (3), Value.int .i64 0] ++ ((hx x2.1) ++ (hx x3.2))) : List Value)) rfl (by simp only [hv, map_hx hx2k, map_hx hx3v] <;> rfl) (by simp only [hv, map_hx hx2k, map_hx hx3v] <;> rfl) (fun _ => by kernel_rfl)) ?_
  refine ws_e rfl rfl (e_bslX (E := 115) (cs := (([.int .i64 (3), Value.int .i64 0] ++ ((List.map u8v x2.1) ++ (List.map u8v x3.2))) : List Value)) (cs' := (([.int .i64 (3), Value.int .i64 0] ++ ((hx x2.1) ++ (hx x3.2))) : List Value)) rfl rfl (by simp only [hv, map_hx hx2k, map_hx hx3v] <;> rfl) (fun _ => by kernel_rfl) (fun w4 g37 hg37 hb37 hc hsz37 => ⟨hc, ?_⟩))
  have hzw4 := hc.size
  have HC := HC.tr hc
  have hout := hout.after hc
  have hm := hm.no hc
  have hks := hks.no hc
  have hrnd := hrnd.no hc
  have hge37 : w.heap.size ≤ g37 := by have := HC.size; omega
  have hS37 := SI.oneA (E := eND) (x := ⟨(3), (0), x2.1, x3.2⟩) hb37 rfl ⟨hx2k, hx3v⟩
  refine ws_narrow (S' := fun x => Ch No w4 x) (Ch.refl _ _) (fun x h => hc.tr h) ?_
  refine ws_l rfl rfl (e_appI rfl el33 rfl rfl hout (hS37) (by omega) (by intro k hk; have hF1 := hF k (by omega); repeat (first | exact hF1 | (refine ⟨?_, by omega⟩))) (fun w5 A38 c38 hout hc => ?_))
  have hzw5 := hc.size
  have HC := HC.trans hc (fun _ _ h => h) (fun k hk ht => (by first | exact ht | (exfalso; omega) | ((try simp only [and_assoc] at ht); exact ht.1)))
  have hm := hm.ch hc (by intro k hk ht; first | exact hk.2 ht | (have h1 := hk.1; omega) | ((try simp only [and_assoc] at ht); exact hk.2 ht.1))
  have hks := hks.ch hc (by intro k hk ht; first | exact hk.2 ht | (have h1 := hk.1; omega) | ((try simp only [and_assoc] at ht); exact hk.2 ht.1))
  have hrnd := hrnd.ch hc (by rintro k rfl ht; first | omega | exact hF0 ht | ((try simp only [and_assoc] at ht); exact hF0 ht.1))
  first | have hS37 := hS37.ch hc (by intro k hk ht; omega) | have hS37 := hS37.chT hc (by intro k hz hk ht; omega)
  refine ws_p rfl rfl rfl rfl (p_as rfl) ?_
  refine ws_n ?_
  refine x_seq ?_
  refine wc_ret ?_
  refine x_in_ret ?_
  refine x_then_ret ?_
  refine fin_run ((res1 rfl rfl)) ?_
  have hpv : ((Tr.leaf k u).prv ks).nodes = [⟨3, 0, k, u⟩] := by rw [Tr.prv, if_neg hk0]; rfl
  rw [hpv]
  rw [hkx, hky] at hout
  exact ⟨_, _, _, rfl, hout.mono (fun k hk h => by first | exact h | ((try simp only [and_assoc] at h); exact h.1)), HC⟩

set_option maxHeartbeats 2000000 in
set_option maxRecDepth 20000 in
theorem prove_fork {w : World} {F Fm Fk : Nat → Prop} {Ao Am Ak : Option Addr} {lo co lm cm lk ck : Nat} {xs : List ND} {ks : List H8} {b : Nat} {x y : Tr} (IHx : ProveOK x) (IHy : ProveOK y) (hout : RI w F 115 eND Ao lo co xs) (hF : ∀ k, w.heap.size ≤ k → F k) (hF0 : ¬ F 0) (hm : SI w Fm eIT Am lm cm (Tr.items (Tr.fork b x y))) (hFm : ∀ k, k < w.heap.size → Fm k → ¬ F k) (hks : SI w Fk eH Ak lk ck ks) (hFk : ∀ k, k < w.heap.size → Fk k → ¬ F k) (hw : (Tr.fork b x y).WF) (hl : lm ≤ 1000000) (hlk : lk ≤ 1000000) (hlo : lo + 2 * (Tr.fork b x y).cnt ≤ 1000000000) (hrnd : Sl w (fun k => k = 0) u32v (some ⟨0, 0, none⟩) 64 64 rk) (hk0 : ks ≠ []) :
    Calls Tryd.prog 70 #[.slice Ao lo co, .slice Am lm cm, .slice Ak lk ck] w fun e w' => ∃ A l c, e = .returned (.slice A l c) ∧ RI w' F 115 eND A l c (xs ++ ((Tr.fork b x y).prv ks).nodes) ∧ Ch F w w' := by
  have hn0 : 0 < w.heap.size := hrnd.size (by omega) rfl
  have hn1 := hn0
  have hml := hm.len
  have hkl := hks.len
  have hol := hout.len
  have hm := hm.mono (G := fun k => k < w.heap.size ∧ ¬ F k) (fun k hk h => ⟨hk, hFm k hk h⟩)
  have hks := hks.mono (G := fun k => k < w.heap.size ∧ ¬ F k) (fun k hk h => ⟨hk, hFk k hk h⟩)
  have hlk0 : lk ≠ 0 := by rw [← hkl]; exact fun e => hk0 (List.eq_nil_of_length_eq_zero e)
  obtain ⟨hc1, hc2, hc3⟩ := cut_fork hw
  have px := Tr.cnt_pos x
  have py := Tr.cnt_pos y
  simp only [Tr.cnt] at hlo
  have hout := hout.mono (G := fun k => F k ∧ k < w.heap.size) (fun k hk h => ⟨h, hk⟩)
  have HC : Ch F w w := Ch.refl _ _
  refine enter' (args := [.slice Ao lo co, .slice Am lm cm, .slice Ak lk ck]) (n := 81) Tryd.func70 rfl rfl rfl ?_
  refine wc_seq ?_
  refine wc_region ?_
  refine wl rfl rfl rfl (p_as rfl) ?_
  refine wl_nil ?_
  refine x_seq ?_
  refine wc_seq ?_
  refine wc_block ?_
  refine wc_seq ?_
  refine wc_region ?_
  refine wl rfl rfl rfl (p_mv rfl) ?_
  refine wl rfl rfl rfl (p_lenS Tryd.underlying23 rfl) ?_
  refine wl rfl rfl rfl (p_eq rfl rfl) ?_
  refine wl rfl rfl rfl (p_as rfl) ?_
  refine wl_nil ?_
  refine x_seq ?_
  refine wc_no rfl (decide_eq_false (by omega)) ?_
  refine wc_seq ?_
  refine wc_region ?_
  refine wl rfl rfl rfl (p_mv rfl) ?_
  refine wl rfl rfl rfl (p_lenS Tryd.underlying118 rfl) ?_
  refine wl rfl rfl rfl (p_eq rfl rfl) ?_
  refine wl rfl rfl rfl (p_as rfl) ?_
  refine wl_nil ?_
  refine x_seq ?_
  refine wc_no rfl (decide_eq_false (by omega)) ?_
  refine wc_skip ?_
  refine x_in_normal ?_
  refine x_seq ?_
  refine wc_seq ?_
  refine wc_region ?_
  refine wl rfl rfl rfl (p_mv rfl) ?_
  refine wle rfl (e_call ent100 rfl rfl (mcut_any (hm) hw (by omega)) ?_)
  rintro _ w1 ⟨rfl, hc⟩
  refine ⟨_, rfl, ?_⟩
  have hzw1 := hc.size
  have HC := HC.tr hc
  have hout := hout.after hc
  have hm := hm.no hc
  have hks := hks.no hc
  have hrnd := hrnd.no hc
  refine wl rfl rfl rfl (p_mv rfl) ?_
  refine wl rfl rfl rfl (p_ext rfl rfl) ?_
  refine wl rfl rfl rfl (p_ext rfl rfl) ?_
  refine wl rfl rfl rfl (p_as rfl) ?_
  refine wl rfl rfl rfl (p_as rfl) ?_
  refine wl_nil ?_
  refine x_seq ?_
  refine wc_seq ?_
  refine wc_region ?_
  refine wle rfl (e_alloc (cs := ([Value.slice none 0 0, Value.slice none 0 0] : List Value).toArray) rfl (by rfl) rfl (fun w2 g9 hg9 hb9 hc hsz9 => ?_))
  have hzw2 := hc.size
  have HC := HC.tr hc
  have hout := hout.after hc
  have hm := hm.no hc
  have hks := hks.no hc
  have hrnd := hrnd.no hc
  have hge9 : w.heap.size ≤ g9 := by have := HC.size; omega
  refine wl_nil ?_
  refine x_seq ?_
  refine wc_seq ?_
  refine wc_seq ?_
  refine wc_region ?_
  refine wl rfl rfl rfl (p_mv rfl) ?_
  refine wl rfl rfl rfl (p_lenS Tryd.underlying23 rfl) ?_
  refine wl rfl rfl rfl (p_mv rfl) ?_
  refine wl_nil ?_
  refine x_seq ?_
  refine wc_block ?_
  obtain ⟨n9, hn9⟩ : ∃ z, z = w2.heap.size := ⟨_, rfl⟩
  refine wc_loop (e' := [(0, .slice Ao lo co), (1, .slice Am lm cm), (7, i64 (b : Int)), (8, i64 (x.cnt : Int)), (9, .pointer (some ⟨g9, 0, none⟩)), (44, .slice Ak lk ck), (45, i64 (lk : Int)), (46, i64 ((0) : Int))]) (fun mz ez uz => ∃ i : Nat, ∃ A0 : Option Addr, ∃ l0 : Nat, ∃ c0 : Nat, ∃ A1 : Option Addr, ∃ l1 : Nat, ∃ c1 : Nat, mz = lk - i ∧ ez = [(0, .slice Ao lo co), (1, .slice Am lm cm), (7, i64 (b : Int)), (8, i64 (x.cnt : Int)), (9, .pointer (some ⟨g9, 0, none⟩)), (44, .slice Ak lk ck), (45, i64 (lk : Int)), (46, i64 (i : Int))] ∧ (i ≤ lk) ∧ (l0 ≤ i) ∧ (l1 ≤ i) ∧ (Blk uz g9 178 ([.slice A0 l0 c0, .slice A1 l1 c1] : List Value).toArray) ∧ (R2 uz n9 uz.heap.size 38 eH A0 l0 c0 ((ks.take i).filter (fun k => decide (bitN k b = 0))) A1 l1 c1 ((ks.take i).filter (fun k => decide (bitN k b = 1)))) ∧ (RI uz (fun k => F k ∧ k < w.heap.size) 115 eND Ao lo co xs) ∧ (SI uz (fun k => k < w.heap.size ∧ ¬ F k) eIT Am lm cm (Tr.items (.fork b x y))) ∧ (SI uz (fun k => k < w.heap.size ∧ ¬ F k) eH Ak lk ck ks) ∧ (Sl uz (fun k => k = 0) u32v (some ⟨0, 0, none⟩) 64 64 rk) ∧ (w.heap.size ≤ g9 ∧ g9 < n9 ∧ n9 ≤ uz.heap.size) ∧ (Ch F w uz))
   ⟨rfl, rfl, rfl, rfl, rfl, rfl, rfl, rfl, trivial⟩ ⟨0, none, 0, 0, none, 0, 0, rfl, rfl, (by omega), (by omega), (by omega), hb9, R2.nil _ _ _ _ _, (hout.mono (fun k hk h => ⟨by first | exact h.1 | exact h.1.1 | exact h.1.1.1 | exact h.1.1.1.1 | exact h.1.1.1.1.1, by first | exact h.2 | exact h.1.2 | exact h.1.1.2 | exact h.1.1.1.2 | exact h.1.1.1.1.2 | exact h.1.1.1.1.1.2⟩)), hm, hks, hrnd, (by omega), HC⟩ ?_
  rintro m0 e w3 ⟨i, A0, l0, c0, A1, l1, c1, hm0, rfl, hi, hl0, hl1, hb9, hR2, hout, hm, hks, hrnd, hg9n, HC⟩
  have hzw3 := HC.size
  obtain ⟨m9, hm9⟩ : ∃ z, z = w3.heap.size := ⟨_, rfl⟩
  rw [← hm9] at hR2
  refine wc_seq ?_
  refine wc_region ?_
  refine wl rfl rfl rfl (p_lt rfl rfl) ?_
  refine wl_nil ?_
  refine x_seq ?_
  refine wc_seq ?_
  refine wc_if rfl (fun c2 => ?_) (fun c2 => ?_)
  ·
   have c2 := of_decide_eq_true c2
   refine wc_skip ?_
   refine x_seq ?_
   refine wc_seq ?_
   refine wc_block ?_
   refine wc_seq ?_
   refine wc_region ?_
   obtain ⟨b4, o4, hA4, hF4, hr4⟩ := (hks).opn (i := i) (d := zeroH) (by omega)
   have hok4 := (hks).okAt (i := i) (d := zeroH) (by omega)
   obtain ⟨x4, ex4⟩ : ∃ x_, x_ = List.getD ks (i) zeroH := ⟨_, rfl⟩
   rw [← ex4] at hr4 hok4
   have hx4k : List.length x4 = 32 := hok4
   have hr4 : w3.rangeAt b4 (o4 + i * 32) ((List.map u8v x4) : List Value) := hr4
   refine wl rfl rfl rfl (p_ixS (j := i * 32) Tryd.underlying23 sz38 rfl hA4 rfl (by omega) (by omega) (congrArg (· * 32) (Int.toNat_natCast _))) ?_
   refine wl rfl rfl rfl (p_ldA (cs := ((List.map u8v x4) : List Value)) Tryd.underlying38 rfl (szL sz38 (by first | rfl | (simp only [List.length_append, List.length_map, List.length_cons, List.length_nil, (show List.length x4 = 32 from hx4k)]; done) | (simp only [List.length_append, List.length_map, List.length_cons, List.length_nil, List.size_toArray, (show List.length x4 = 32 from hx4k)]; done))) rfl (fun _ e => e ▸ hr4)) ?_
   have hltg9 := hb9.lt
   refine wle rfl (e_alloc (cs := ((List.replicate 32 (0 : UInt8)).map u8v).toArray) rfl (by rfl) rfl (fun w5 g11 hg11 hb11 hc hsz11 => ?_))
   have hzw5 := hc.size
   have HC := HC.tr hc
   have hout := hout.after hc
   have hm := hm.no hc
   have hks := hks.no hc
   have hrnd := hrnd.no hc
   have hb9 := hb9.ch hc (fun h => h)
   first | have hR2 := hR2.no hc | have hR2 := hR2.ch hc (by intro k h1 h2 ht; first | omega | (dsimp only at *; omega))
   have hge11 : w.heap.size ≤ g11 := by have := HC.size; omega
   have neg9_11 : g9 < g11 := by omega
   refine wle rfl (e_stH sz38 (List.length_replicate ..) hx4k rfl rfl hb11 (fun w6 hb11 hc hsz => ?_))
   have hzw6 := hc.size
   have HC := HC.trans hc (fun _ _ h => h) (fun k hk ht => absurd ht (by omega))
   have hout := hout.ch hc (by intro k hz hk ht; omega)
   have hm := hm.ch hc (by intro k hk ht; have h1 := hk.1; omega)
   have hks := hks.ch hc (by intro k hk ht; have h1 := hk.1; omega)
   have hrnd := hrnd.ch hc (by intro k hk ht; omega)
   have hb9 := hb9.ch hc (by omega)
   first | have hR2 := hR2.no hc | have hR2 := hR2.ch hc (by intro k h1 h2 ht; first | omega | (dsimp only at *; omega))
   refine wl_nil ?_
   refine x_seq ?_
   refine wc_seq ?_
   refine wc_region ?_
   refine wl rfl rfl rfl (p_ldH (L := x4) Tryd.underlying38 sz38 hx4k rfl (fun _ e => e ▸ rngL hb11)) ?_
   refine wl rfl rfl rfl (p_mv rfl) ?_
   refine wle rfl (e_call ent38 rfl rfl (bitS (n := b) (hx4k)) ?_)
   rintro _ w7 ⟨s52, rfl, hs52, hsl52, hc⟩
   refine ⟨_, rfl, ?_⟩
   have hzw7 := hc.size
   have HC := HC.tr hc
   have hout := hout.after hc
   have hm := hm.no hc
   have hks := hks.no hc
   have hrnd := hrnd.no hc
   have hb9 := hb9.ch hc (fun h => h)
   first | have hR2 := hR2.no hc | have hR2 := hR2.ch hc (by intro k h1 h2 ht; first | omega | (dsimp only at *; omega))
   have hb11 := hb11.ch hc (fun h => h)
   refine wl rfl rfl rfl (p_as rfl) ?_
   refine wl_nil ?_
   refine x_seq ?_
   obtain rfl | rfl : s52 = 0 ∨ s52 = 1 := by omega
   ·
    refine wc_draw (.st 0 0 (.st 1 0 (.st 2 0 (.st 3 1 (.st 4 1 (.st 5 2 (.st 6 3 (.st 7 0 (.st 8 3 .nil))))))))) 6 (by kernel_rfl) (by kernel_rfl) (by kernel_rfl) (by repeat (first | with_reducible exact pan_body | with_reducible apply pan_then | with_reducible apply pan_in)) (fun x => Ch No w7.drew x) (Ch.refl _ _) ?_
    obtain ⟨w8, ew8⟩ : ∃ x, x = w7.drew := ⟨_, rfl⟩
    rw [← ew8]
    have hc : Ch No w7 w8 := by rw [ew8]; exact Ch.drew _
    have hszw8 : w8.heap.size = w7.heap.size := by rw [ew8]; rfl
    clear ew8
    have hzw8 := hc.size
    have HC := HC.tr hc
    have hout := hout.no hc
    have hm := hm.no hc
    have hks := hks.no hc
    have hrnd := hrnd.no hc
    have hb9 := hb9.ch hc (fun h => h)
    first | have hR2 := hR2.no hc | have hR2 := hR2.ch hc (by intro k h1 h2 ht; first | omega | (dsimp only at *; omega))
    have hb11 := hb11.ch hc (fun h => h)
    have hS : Ch No w8 w8 := Ch.refl _ _
    refine ws_p rfl rfl rfl rfl (p_mv rfl) ?_
    refine ws_p rfl rfl rfl rfl (p_mv rfl) ?_
    refine ws_p rfl rfl rfl rfl (p_ixA (j := 0) Tryd.underlying178 sz23 rfl rfl (by omega) (by omega) rfl) ?_
    refine ws_h rfl rfl rfl rfl (p_ld Tryd.underlying23 rfl rfl (fun _ h => h.cell (fun h => h) (cell_at (p := []) (v := (.slice A0 l0 c0 : Value)) (r := ([.slice A1 l1 c1] : List Value)) hb9 (by simp only [List.append_assoc, List.cons_append, List.nil_append, List.append_nil]) (by first | rfl | (simp only [List.length_append, List.length_map, List.length_cons, List.length_nil]; done) | (simp only [List.length_append, List.length_map, List.length_cons, List.length_nil, List.size_toArray]; done))))) ?_
    refine ws_h rfl rfl rfl rfl (p_ldH (L := x4) Tryd.underlying38 sz38 hx4k rfl (fun _ h => rngL (hb11.ch h (fun h => h)))) ?_
    have hltg9 := hb9.lt
    have hltg11 := hb11.lt
    refine ws_e rfl rfl (e_bslX (E := 38) (cs := ((List.map u8v x4) : List Value)) (cs' := ((hx x4) : List Value)) rfl rfl (by simp only [hv, map_hx hx4k] <;> rfl) (fun _ => by kernel_rfl) (fun w10 g58 hg58 hb58 hc hsz58 => ⟨hc, ?_⟩))
    have hzw10 := hc.size
    have HC := HC.tr hc
    have hout := hout.after hc
    have hm := hm.no hc
    have hks := hks.no hc
    have hrnd := hrnd.no hc
    have hb9 := hb9.ch hc (fun h => h)
    first | have hR2 := hR2.no hc | have hR2 := hR2.ch hc (by intro k h1 h2 ht; first | omega | (dsimp only at *; omega))
    have hb11 := hb11.ch hc (fun h => h)
    have hge58 : w.heap.size ≤ g58 := by have := HC.size; omega
    have hS58 := SI.oneA (E := eH) (x := x4) hb58 rfl hx4k
    refine ws_narrow (S' := fun x => Ch No w10 x) (Ch.refl _ _) (fun x h => hc.tr h) ?_
    refine ws_l rfl rfl (e_app2 rfl el23 rfl rfl hR2 (hS58) (by omega) (by omega) (by omega) (fun w11 A59 c59 hR2 hc => ?_))
    have hzw11 := hc.size
    have HC := HC.trans hc (fun _ _ h => h) (fun k hk ht => (by first | exact ht | (exfalso; omega) | ((try simp only [and_assoc] at ht); exact ht.1)))
    have hout := hout.afterT hc (by intro k hz hk ht; omega)
    have hm := hm.ch hc (by intro k hk ht; first | exact hk.2 ht | (have h1 := hk.1; omega) | ((try simp only [and_assoc] at ht); exact hk.2 ht.1))
    have hks := hks.ch hc (by intro k hk ht; first | exact hk.2 ht | (have h1 := hk.1; omega) | ((try simp only [and_assoc] at ht); exact hk.2 ht.1))
    have hrnd := hrnd.ch hc (by rintro k rfl ht; first | omega | exact hF0 ht | ((try simp only [and_assoc] at ht); exact hF0 ht.1))
    have hb9 := hb9.ch hc (by omega)
    have hb11 := hb11.ch hc (by omega)
    refine ws_p rfl rfl rfl rfl (p_ixA (j := 0) Tryd.underlying178 sz23 rfl rfl (by omega) (by omega) rfl) ?_
    refine ws_l rfl rfl (e_stC (p := []) (u := (.slice A0 l0 c0 : Value)) (r := ([.slice A1 l1 c1] : List Value)) (v := .slice A59 (l0 + 1) c59) (by rfl) rfl rfl rfl hb9 (by simp only [List.append_assoc, List.cons_append, List.nil_append, List.append_nil]) (by first | rfl | (simp only [List.length_append, List.length_map, List.length_cons, List.length_nil]; done) | (simp only [List.length_append, List.length_map, List.length_cons, List.length_nil, List.size_toArray]; done)) (fun w13 hb9 hc hsz => ?_))
    have hb9 : Blk w13 g9 178 ([.slice A59 (l0 + 1) c59, .slice A1 l1 c1] : List Value).toArray := by have h := hb9; simp only [List.append_assoc, List.cons_append, List.nil_append, List.append_nil] at h ⊢; exact h
    have hzw13 := hc.size
    have HC := HC.trans hc (fun _ _ h => h) (fun k hk ht => absurd ht (by omega))
    have hout := hout.ch hc (by intro k hz hk ht; omega)
    have hm := hm.ch hc (by intro k hk ht; have h1 := hk.1; omega)
    have hks := hks.ch hc (by intro k hk ht; have h1 := hk.1; omega)
    have hrnd := hrnd.ch hc (by intro k hk ht; omega)
    first | have hR2 := hR2.no hc | have hR2 := hR2.ch hc (by intro k h1 h2 ht; first | omega | (dsimp only at *; omega))
    have hb11 := hb11.ch hc (by omega)
    refine ws_n ?_
    refine x_in_normal ?_
    refine x_seq ?_
    refine wc_region ?_
    refine wl rfl rfl rfl (p_add rfl rfl (w64 (by omega))) ?_
    refine wl rfl rfl rfl (p_mv rfl) ?_
    refine wl_nil ?_
    refine x_round (e' := [(0, .slice Ao lo co), (1, .slice Am lm cm), (7, i64 (b : Int)), (8, i64 (x.cnt : Int)), (9, .pointer (some ⟨g9, 0, none⟩)), (44, .slice Ak lk ck), (45, i64 (lk : Int)), (46, i64 ((i + 1) : Int))]) ⟨rfl, rfl, rfl, rfl, rfl, rfl, rfl, rfl, trivial⟩ (by rw [hm0]; omega) ⟨i + 1, A59, l0 + 1, c59, A1, l1, c1, rfl, rfl, (by omega), (by omega), (by omega), hb9, (by rw [filt_yes (p := (fun k => decide (bitN k b = 0))) (d := zeroH) (by omega) (by rw [← ex4, hs52]; rfl), filt_no (p := (fun k => decide (bitN k b = 1))) (d := zeroH) (by omega) (by rw [← ex4, hs52]; rfl), ← ex4]; exact hR2.up (by omega)), (hout.mono (fun k hk h => ⟨by first | exact h.1 | exact h.1.1 | exact h.1.1.1 | exact h.1.1.1.1 | exact h.1.1.1.1.1 | exact h.1.1.1.1.1.1 | exact h.1.1.1.1.1.1.1 | exact h.1.1.1.1.1.1.1.1, by first | exact h.2 | exact h.1.2 | exact h.1.1.2 | exact h.1.1.1.2 | exact h.1.1.1.1.2 | exact h.1.1.1.1.1.2 | exact h.1.1.1.1.1.1.2 | exact h.1.1.1.1.1.1.1.2 | exact h.1.1.1.1.1.1.1.1.2⟩)), hm, hks, hrnd, (by omega), HC⟩
   ·
    refine wc_draw (.st 0 0 (.st 1 0 (.st 2 0 (.st 3 1 (.st 4 1 (.st 5 2 (.st 6 3 (.st 7 0 (.st 8 3 .nil))))))))) 6 (by kernel_rfl) (by kernel_rfl) (by kernel_rfl) (by repeat (first | with_reducible exact pan_body | with_reducible apply pan_then | with_reducible apply pan_in)) (fun x => Ch No w7.drew x) (Ch.refl _ _) ?_
    obtain ⟨w14, ew14⟩ : ∃ x, x = w7.drew := ⟨_, rfl⟩
    rw [← ew14]
    have hc : Ch No w7 w14 := by rw [ew14]; exact Ch.drew _
    have hszw14 : w14.heap.size = w7.heap.size := by rw [ew14]; rfl
    clear ew14
    have hzw14 := hc.size
    have HC := HC.tr hc
    have hout := hout.no hc
    have hm := hm.no hc
    have hks := hks.no hc
    have hrnd := hrnd.no hc
    have hb9 := hb9.ch hc (fun h => h)
    first | have hR2 := hR2.no hc | have hR2 := hR2.ch hc (by intro k h1 h2 ht; first | omega | (dsimp only at *; omega))
    have hb11 := hb11.ch hc (fun h => h)
    have hS : Ch No w14 w14 := Ch.refl _ _
    refine ws_p rfl rfl rfl rfl (p_mv rfl) ?_
    refine ws_p rfl rfl rfl rfl (p_mv rfl) ?_
    refine ws_p rfl rfl rfl rfl (p_ixA (j := 1) Tryd.underlying178 sz23 rfl rfl (by omega) (by omega) rfl) ?_
    refine ws_h rfl rfl rfl rfl (p_ld Tryd.underlying23 rfl rfl (fun _ h => h.cell (fun h => h) (cell_at (p := ([.slice A0 l0 c0] : List Value)) (v := (.slice A1 l1 c1 : Value)) (r := []) hb9 (by simp only [List.append_assoc, List.cons_append, List.nil_append, List.append_nil]) (by first | rfl | (simp only [List.length_append, List.length_map, List.length_cons, List.length_nil]; done) | (simp only [List.length_append, List.length_map, List.length_cons, List.length_nil, List.size_toArray]; done))))) ?_
    refine ws_h rfl rfl rfl rfl (p_ldH (L := x4) Tryd.underlying38 sz38 hx4k rfl (fun _ h => rngL (hb11.ch h (fun h => h)))) ?_
    have hltg9 := hb9.lt
    have hltg11 := hb11.lt
    refine ws_e rfl rfl (e_bslX (E := 38) (cs := ((List.map u8v x4) : List Value)) (cs' := ((hx x4) : List Value)) rfl rfl (by simp only [hv, map_hx hx4k] <;> rfl) (fun _ => by kernel_rfl) (fun w16 g58 hg58 hb58 hc hsz58 => ⟨hc, ?_⟩))
    have hzw16 := hc.size
    have HC := HC.tr hc
    have hout := hout.after hc
    have hm := hm.no hc
    have hks := hks.no hc
    have hrnd := hrnd.no hc
    have hb9 := hb9.ch hc (fun h => h)
    first | have hR2 := hR2.no hc | have hR2 := hR2.ch hc (by intro k h1 h2 ht; first | omega | (dsimp only at *; omega))
    have hb11 := hb11.ch hc (fun h => h)
    have hge58 : w.heap.size ≤ g58 := by have := HC.size; omega
    have hS58 := SI.oneA (E := eH) (x := x4) hb58 rfl hx4k
    refine ws_narrow (S' := fun x => Ch No w16 x) (Ch.refl _ _) (fun x h => hc.tr h) ?_
    refine ws_l rfl rfl (e_app2b rfl el23 rfl rfl hR2 (hS58) (by omega) (by omega) (by omega) (fun w17 A59 c59 hR2 hc => ?_))
    have hzw17 := hc.size
    have HC := HC.trans hc (fun _ _ h => h) (fun k hk ht => (by first | exact ht | (exfalso; omega) | ((try simp only [and_assoc] at ht); exact ht.1)))
    have hout := hout.afterT hc (by intro k hz hk ht; omega)
    have hm := hm.ch hc (by intro k hk ht; first | exact hk.2 ht | (have h1 := hk.1; omega) | ((try simp only [and_assoc] at ht); exact hk.2 ht.1))
    have hks := hks.ch hc (by intro k hk ht; first | exact hk.2 ht | (have h1 := hk.1; omega) | ((try simp only [and_assoc] at ht); exact hk.2 ht.1))
    have hrnd := hrnd.ch hc (by rintro k rfl ht; first | omega | exact hF0 ht | ((try simp only [and_assoc] at ht); exact hF0 ht.1))
    have hb9 := hb9.ch hc (by omega)
    have hb11 := hb11.ch hc (by omega)
    refine ws_p rfl rfl rfl rfl (p_ixA (j := 1) Tryd.underlying178 sz23 rfl rfl (by omega) (by omega) rfl) ?_
    refine ws_l rfl rfl (e_stC (p := ([.slice A0 l0 c0] : List Value)) (u := (.slice A1 l1 c1 : Value)) (r := []) (v := .slice A59 (l1 + 1) c59) (by rfl) rfl rfl rfl hb9 (by simp only [List.append_assoc, List.cons_append, List.nil_append, List.append_nil]) (by first | rfl | (simp only [List.length_append, List.length_map, List.length_cons, List.length_nil]; done) | (simp only [List.length_append, List.length_map, List.length_cons, List.length_nil, List.size_toArray]; done)) (fun w19 hb9 hc hsz => ?_))
    have hb9 : Blk w19 g9 178 ([.slice A0 l0 c0, .slice A59 (l1 + 1) c59] : List Value).toArray := by have h := hb9; simp only [List.append_assoc, List.cons_append, List.nil_append, List.append_nil] at h ⊢; exact h
    have hzw19 := hc.size
    have HC := HC.trans hc (fun _ _ h => h) (fun k hk ht => absurd ht (by omega))
    have hout := hout.ch hc (by intro k hz hk ht; omega)
    have hm := hm.ch hc (by intro k hk ht; have h1 := hk.1; omega)
    have hks := hks.ch hc (by intro k hk ht; have h1 := hk.1; omega)
    have hrnd := hrnd.ch hc (by intro k hk ht; omega)
    first | have hR2 := hR2.no hc | have hR2 := hR2.ch hc (by intro k h1 h2 ht; first | omega | (dsimp only at *; omega))
    have hb11 := hb11.ch hc (by omega)
    refine ws_n ?_
    refine x_in_normal ?_
    refine x_seq ?_
    refine wc_region ?_
    refine wl rfl rfl rfl (p_add rfl rfl (w64 (by omega))) ?_
    refine wl rfl rfl rfl (p_mv rfl) ?_
    refine wl_nil ?_
    refine x_round (e' := [(0, .slice Ao lo co), (1, .slice Am lm cm), (7, i64 (b : Int)), (8, i64 (x.cnt : Int)), (9, .pointer (some ⟨g9, 0, none⟩)), (44, .slice Ak lk ck), (45, i64 (lk : Int)), (46, i64 ((i + 1) : Int))]) ⟨rfl, rfl, rfl, rfl, rfl, rfl, rfl, rfl, trivial⟩ (by rw [hm0]; omega) ⟨i + 1, A0, l0, c0, A59, l1 + 1, c59, rfl, rfl, (by omega), (by omega), (by omega), hb9, (by rw [filt_no (p := (fun k => decide (bitN k b = 0))) (d := zeroH) (by omega) (by rw [← ex4, hs52]; rfl), filt_yes (p := (fun k => decide (bitN k b = 1))) (d := zeroH) (by omega) (by rw [← ex4, hs52]; rfl), ← ex4]; exact hR2.up (by omega)), (hout.mono (fun k hk h => ⟨by first | exact h.1 | exact h.1.1 | exact h.1.1.1 | exact h.1.1.1.1 | exact h.1.1.1.1.1 | exact h.1.1.1.1.1.1 | exact h.1.1.1.1.1.1.1 | exact h.1.1.1.1.1.1.1.1, by first | exact h.2 | exact h.1.2 | exact h.1.1.2 | exact h.1.1.1.2 | exact h.1.1.1.1.2 | exact h.1.1.1.1.1.2 | exact h.1.1.1.1.1.1.2 | exact h.1.1.1.1.1.1.1.2 | exact h.1.1.1.1.1.1.1.1.2⟩)), hm, hks, hrnd, (by omega), HC⟩
  ·
   have c2 := of_decide_eq_false c2
   rw [List.take_of_length_le (by omega)] at hR2
   have hS0 := hR2.fst.si
   have hS1 := hR2.snd.si
   have hs0l := hS0.len
   have hs1l := hS1.len
   have hspl := Tr.split_len ks b
   refine wc_exit ?_
   refine x_then_exit ?_
   refine x_then_exit ?_
   refine x_in_here ?_
   refine x_seq ?_
   refine wc_seq ?_
   refine wc_region ?_
   refine wl rfl rfl rfl (p_mv rfl) ?_
   refine wl rfl rfl rfl (p_mv rfl) ?_
   refine wl rfl rfl rfl (p_bldX (vs' := [.int .i64 (4), i64 (b : Int)]) (cs := (([.int .i64 (4), i64 (b : Int)] ++ ((List.map u8v (List.replicate 32 (0 : UInt8))) ++ (List.map u8v (List.replicate 32 (0 : UInt8))))) : List Value)) (cs' := (([.int .i64 (4), i64 (b : Int)] ++ ((hx (List.replicate 32 (0 : UInt8))) ++ (hx (List.replicate 32 (0 : UInt8))))) : List Value)) rfl rfl (by simp only [hv, map_hx (List.length_replicate ..)] <;> rfl) (fun _ => by kernel_rfl)) ?_
   have hltg9 := hb9.lt
   refine wle rfl (e_bslX (E := 115) (cs := (([.int .i64 (4), i64 (b : Int)] ++ ((List.map u8v (List.replicate 32 (0 : UInt8))) ++ (List.map u8v (List.replicate 32 (0 : UInt8))))) : List Value)) (cs' := (([.int .i64 (4), i64 (b : Int)] ++ ((hx (List.replicate 32 (0 : UInt8))) ++ (hx (List.replicate 32 (0 : UInt8))))) : List Value)) rfl rfl (by simp only [hv, map_hx (List.length_replicate ..)] <;> rfl) (fun _ => by kernel_rfl) (fun w20 g65 hg65 hb65 hc hsz65 => ?_))
   have hzw20 := hc.size
   have HC := HC.tr hc
   have hout := hout.after hc
   have hm := hm.no hc
   have hks := hks.no hc
   have hrnd := hrnd.no hc
   have hb9 := hb9.ch hc (fun h => h)
   have hS0 := hS0.no hc
   have hS1 := hS1.no hc
   have hge65 : w.heap.size ≤ g65 := by have := HC.size; omega
   have hS65 := SI.oneA (E := eND) (x := ⟨(4), (b : Int), (List.replicate 32 (0 : UInt8)), (List.replicate 32 (0 : UInt8))⟩) hb65 rfl ⟨(List.length_replicate ..), (List.length_replicate ..)⟩
   obtain ⟨n13, hn13⟩ : ∃ z, z = w20.heap.size := ⟨_, rfl⟩
   have hout := hout.mono (G := fun k => F k ∧ (k < w.heap.size ∨ n13 ≤ k)) (fun k hk h => ⟨by first | exact h.1 | exact h.1.1 | exact h.1.1.1 | exact h.1.1.1.1 | exact h.1.1.1.1.1 | exact h.1.1.1.1.1.1, by have h9 := h.1; omega⟩)
   have hltg9 := hb9.lt
   refine wle rfl (e_appI rfl el33 rfl rfl hout (hS65) (by omega) (by intro k hk; have hF1 := hF k (by omega); repeat (first | exact hF1 | (refine ⟨?_, by omega⟩))) (fun w21 A66 c66 hout hc => ?_))
   have hzw21 := hc.size
   have HC := HC.trans hc (fun _ _ h => h) (fun k hk ht => (by first | exact ht | (exfalso; omega) | ((try simp only [and_assoc] at ht); exact ht.1)))
   have hm := hm.ch hc (by intro k hk ht; first | exact hk.2 ht | (have h1 := hk.1; omega) | ((try simp only [and_assoc] at ht); exact hk.2 ht.1))
   have hks := hks.ch hc (by intro k hk ht; first | exact hk.2 ht | (have h1 := hk.1; omega) | ((try simp only [and_assoc] at ht); exact hk.2 ht.1))
   have hrnd := hrnd.ch hc (by rintro k rfl ht; first | omega | exact hF0 ht | ((try simp only [and_assoc] at ht); exact hF0 ht.1))
   have hb9 := hb9.ch hc (by omega)
   first | have hS0 := hS0.ch hc (by intro k hk ht; omega) | have hS0 := hS0.chT hc (by intro k hz hk ht; omega)
   first | have hS1 := hS1.ch hc (by intro k hk ht; omega) | have hS1 := hS1.chT hc (by intro k hz hk ht; omega)
   first | have hS65 := hS65.ch hc (by intro k hk ht; omega) | have hS65 := hS65.chT hc (by intro k hz hk ht; omega)
   refine wl rfl rfl rfl (p_as rfl) ?_
   refine wl_nil ?_
   refine x_seq ?_
   refine wc_seq ?_
   refine wc_draw (.st 0 0 (.st 1 0 (.st 2 0 (.st 3 0 (.st 4 0 (.st 5 1 (.st 6 3 (.st 7 0 .nil)))))))) 6 (by kernel_rfl) (by kernel_rfl) (by kernel_rfl) (by repeat (first | with_reducible exact pan_body | with_reducible apply pan_then | with_reducible apply pan_in)) (fun x => Ch No w21.drew x) (Ch.refl _ _) ?_
   obtain ⟨w22, ew22⟩ : ∃ x, x = w21.drew := ⟨_, rfl⟩
   rw [← ew22]
   have hc : Ch No w21 w22 := by rw [ew22]; exact Ch.drew _
   have hszw22 : w22.heap.size = w21.heap.size := by rw [ew22]; rfl
   clear ew22
   have hzw22 := hc.size
   have HC := HC.tr hc
   have hout := hout.no hc
   have hm := hm.no hc
   have hks := hks.no hc
   have hrnd := hrnd.no hc
   have hb9 := hb9.ch hc (fun h => h)
   have hS0 := hS0.no hc
   have hS1 := hS1.no hc
   have hS65 := hS65.no hc
   have hS : Ch No w22 w22 := Ch.refl _ _
   refine ws_p rfl rfl rfl rfl (p_mv rfl) ?_
   refine ws_p rfl rfl rfl rfl (p_mv rfl) ?_
   refine ws_p rfl rfl rfl rfl (p_mv rfl) ?_
   have hS70 : SI w22 (fun k => k < w.heap.size ∧ ¬ F k) eIT (cutA Am cm 0 64) x.cnt (cm - 0) (Tr.items x) := by have h := hm.cut (lo := 0) (hi := x.cnt) (q := x.cnt) (by omega) (by omega) (by omega); rw [List.drop_zero, fork_take] at h; exact h
   refine ws_p rfl rfl rfl rfl (p_slS (l := 0) (h := x.cnt) Tryd.underlying118 sz174 rfl rfl ⟨_, rfl⟩ (by omega) (by have := hm.cap; omega) hm.cap (q := x.cnt) (by omega)) ?_
   refine ws_p rfl rfl rfl rfl (p_ixA (j := 0) Tryd.underlying178 sz23 rfl rfl (by omega) (by omega) rfl) ?_
   refine ws_h rfl rfl rfl rfl (p_ld Tryd.underlying23 rfl rfl (fun _ h => h.cell (fun h => h) (cell_at (p := []) (v := (.slice A0 l0 c0 : Value)) (r := ([.slice A1 l1 c1] : List Value)) hb9 (by simp only [List.append_assoc, List.cons_append, List.nil_append, List.append_nil]) (by first | rfl | (simp only [List.length_append, List.length_map, List.length_cons, List.length_nil]; done) | (simp only [List.length_append, List.length_map, List.length_cons, List.length_nil, List.size_toArray]; done))))) ?_
   have hout := hout.mono (G := fun k => F k ∧ (k < w.heap.size ∨ n13 ≤ k)) (fun k hk h => ⟨by first | exact h.1 | exact h.1.1 | exact h.1.1.1 | exact h.1.1.1.1 | exact h.1.1.1.1.1 | exact h.1.1.1.1.1.1, by omega⟩)
   refine ws_l rfl rfl (e_call ent70 rfl rfl (IHx hout (fun k hk => ⟨hF k (by omega), by omega⟩) (fun h => hF0 h.1) hS70 (fun k _ h1 h2 => h1.2 h2.1) hS0 (fun k _ h1 h2 => by have h3 := h2.2; have h4 := h1.1; have h5 := h1.2; omega) hw.2.1 (by omega) (by omega) (by omega) hrnd) ?_)
   rintro _ w24 ⟨A73, l73, c73, rfl, hout, hc⟩
   refine ⟨_, rfl, ?_⟩
   have hzw24 := hc.size
   have HC := HC.trans hc (fun _ _ h => h) (fun k hk ht => (by first | exact ht | (exfalso; omega) | ((try simp only [and_assoc] at ht); exact ht.1)))
   have hm := hm.ch hc (by intro k hk ht; first | exact hk.2 ht | (have h1 := hk.1; omega) | ((try simp only [and_assoc] at ht); exact hk.2 ht.1))
   have hks := hks.ch hc (by intro k hk ht; first | exact hk.2 ht | (have h1 := hk.1; omega) | ((try simp only [and_assoc] at ht); exact hk.2 ht.1))
   have hrnd := hrnd.ch hc (by rintro k rfl ht; first | omega | exact hF0 ht | ((try simp only [and_assoc] at ht); exact hF0 ht.1))
   have hb9 := hb9.ch hc (by omega)
   first | have hS0 := hS0.ch hc (by intro k hk ht; omega) | have hS0 := hS0.chT hc (by intro k hz hk ht; omega)
   first | have hS1 := hS1.ch hc (by intro k hk ht; omega) | have hS1 := hS1.chT hc (by intro k hz hk ht; omega)
   first | have hS65 := hS65.ch hc (by intro k hk ht; omega) | have hS65 := hS65.chT hc (by intro k hz hk ht; omega)
   have hS70 := hS70.ch hc (by intro k hk ht; first | exact hk.2 ht | (have h1 := hk.1; omega) | ((try simp only [and_assoc] at ht); exact hk.2 ht.1))
   have hol73 := hout.len
   have hpn73 := Tr.prv_nodes (t := x) (ks := ks.filter (fun k => decide (bitN k b = 0)))
   simp only [List.length_append, List.length_singleton] at hol73
   have hcx73 := Tr.cnt_pos x
   refine ws_p rfl rfl rfl rfl (p_as rfl) ?_
   refine ws_n ?_
   refine x_seq ?_
   refine wc_seq ?_
   refine wc_draw (.st 0 0 (.st 1 0 (.st 2 0 (.st 3 0 (.st 4 0 (.st 5 1 (.st 6 3 (.st 7 0 .nil)))))))) 6 (by kernel_rfl) (by kernel_rfl) (by kernel_rfl) (by repeat (first | with_reducible exact pan_body | with_reducible apply pan_then | with_reducible apply pan_in)) (fun x => Ch No w24.drew x) (Ch.refl _ _) ?_
   obtain ⟨w25, ew25⟩ : ∃ x, x = w24.drew := ⟨_, rfl⟩
   rw [← ew25]
   have hc : Ch No w24 w25 := by rw [ew25]; exact Ch.drew _
   have hszw25 : w25.heap.size = w24.heap.size := by rw [ew25]; rfl
   clear ew25
   have hzw25 := hc.size
   have HC := HC.tr hc
   have hout := hout.no hc
   have hm := hm.no hc
   have hks := hks.no hc
   have hrnd := hrnd.no hc
   have hb9 := hb9.ch hc (fun h => h)
   have hS0 := hS0.no hc
   have hS1 := hS1.no hc
   have hS65 := hS65.no hc
   have hS70 := hS70.no hc
   have hS : Ch No w25 w25 := Ch.refl _ _
   refine ws_p rfl rfl rfl rfl (p_mv rfl) ?_
   refine ws_p rfl rfl rfl rfl (p_mv rfl) ?_
   refine ws_p rfl rfl rfl rfl (p_mv rfl) ?_
   have hS77 : SI w25 (fun k => k < w.heap.size ∧ ¬ F k) eIT (cutA Am cm x.cnt 64) (lm - x.cnt) (cm - x.cnt) (Tr.items y) := by have h := hm.cutTo (lo := x.cnt) (by omega); rw [fork_drop] at h; exact h
   refine ws_p rfl rfl rfl rfl (p_slS (l := x.cnt) (h := lm) Tryd.underlying118 sz174 rfl ⟨_, rfl⟩ rfl (by omega) (by have := hm.cap; omega) hm.cap (q := lm - x.cnt) (by omega)) ?_
   refine ws_p rfl rfl rfl rfl (p_ixA (j := 1) Tryd.underlying178 sz23 rfl rfl (by omega) (by omega) rfl) ?_
   refine ws_h rfl rfl rfl rfl (p_ld Tryd.underlying23 rfl rfl (fun _ h => h.cell (fun h => h) (cell_at (p := ([.slice A0 l0 c0] : List Value)) (v := (.slice A1 l1 c1 : Value)) (r := []) hb9 (by simp only [List.append_assoc, List.cons_append, List.nil_append, List.append_nil]) (by first | rfl | (simp only [List.length_append, List.length_map, List.length_cons, List.length_nil]; done) | (simp only [List.length_append, List.length_map, List.length_cons, List.length_nil, List.size_toArray]; done))))) ?_
   have hout := hout.mono (G := fun k => F k ∧ (k < w.heap.size ∨ n13 ≤ k)) (fun k hk h => ⟨by first | exact h.1 | exact h.1.1 | exact h.1.1.1 | exact h.1.1.1.1 | exact h.1.1.1.1.1 | exact h.1.1.1.1.1.1, by omega⟩)
   refine ws_l rfl rfl (e_call ent70 rfl rfl (IHy hout (fun k hk => ⟨hF k (by omega), by omega⟩) (fun h => hF0 h.1) hS77 (fun k _ h1 h2 => h1.2 h2.1) hS1 (fun k _ h1 h2 => by have h3 := h2.2; have h4 := h1.1; have h5 := h1.2; omega) hw.2.2.1 (by omega) (by omega) (by omega) hrnd) ?_)
   rintro _ w27 ⟨A80, l80, c80, rfl, hout, hc⟩
   refine ⟨_, rfl, ?_⟩
   have hzw27 := hc.size
   have HC := HC.trans hc (fun _ _ h => h) (fun k hk ht => (by first | exact ht | (exfalso; omega) | ((try simp only [and_assoc] at ht); exact ht.1)))
   have hm := hm.ch hc (by intro k hk ht; first | exact hk.2 ht | (have h1 := hk.1; omega) | ((try simp only [and_assoc] at ht); exact hk.2 ht.1))
   have hks := hks.ch hc (by intro k hk ht; first | exact hk.2 ht | (have h1 := hk.1; omega) | ((try simp only [and_assoc] at ht); exact hk.2 ht.1))
   have hrnd := hrnd.ch hc (by rintro k rfl ht; first | omega | exact hF0 ht | ((try simp only [and_assoc] at ht); exact hF0 ht.1))
   have hb9 := hb9.ch hc (by omega)
   first | have hS0 := hS0.ch hc (by intro k hk ht; omega) | have hS0 := hS0.chT hc (by intro k hz hk ht; omega)
   first | have hS1 := hS1.ch hc (by intro k hk ht; omega) | have hS1 := hS1.chT hc (by intro k hz hk ht; omega)
   first | have hS65 := hS65.ch hc (by intro k hk ht; omega) | have hS65 := hS65.chT hc (by intro k hz hk ht; omega)
   have hS70 := hS70.ch hc (by intro k hk ht; first | exact hk.2 ht | (have h1 := hk.1; omega) | ((try simp only [and_assoc] at ht); exact hk.2 ht.1))
   have hS77 := hS77.ch hc (by intro k hk ht; first | exact hk.2 ht | (have h1 := hk.1; omega) | ((try simp only [and_assoc] at ht); exact hk.2 ht.1))
   have hol80 := hout.len
   have hpn80 := Tr.prv_nodes (t := y) (ks := ks.filter (fun k => decide (bitN k b = 1)))
   simp only [List.length_append, List.length_singleton] at hol80
   have hcx80 := Tr.cnt_pos y
   refine ws_p rfl rfl rfl rfl (p_as rfl) ?_
   refine ws_n ?_
   refine x_seq ?_
   refine wc_ret ?_
   refine fin_run ((res1 rfl rfl)) ?_
   have hpv : ((Tr.fork b x y).prv ks).nodes = ⟨4, (b : Int), zeroH, zeroH⟩ :: ((x.prv (ks.filter (fun k => decide (bitN k b = 0)))).nodes ++ (y.prv (ks.filter (fun k => decide (bitN k b = 1)))).nodes) := by rw [Tr.prv, if_neg hk0]; rfl
   rw [hpv]
   rw [List.append_assoc, List.append_assoc] at hout
   exact ⟨_, _, _, rfl, hout.mono (fun k hk h => by first | exact h | ((try simp only [and_assoc] at h); exact h.1)), HC⟩

theorem prove_any : ∀ t : Tr, ProveOK t
  | .leaf k v => by
    intro h1 h2 h3 h4 h5 h6 h7 h8 h9 h10 h11 h12
    rename_i w F Fm Fk Ao Am Ak lo co lm cm lk ck xs ks
    by_cases hk : ks = []
    · exact prove_nil h1 h2 h3 h4 h5 h6 h7 h8 h9 h10 h11 h12 hk
    · exact prove_leaf h1 h2 h3 h4 h5 h6 h7 h8 h9 h10 h11 h12 hk
  | .fork b x y => by
    intro h1 h2 h3 h4 h5 h6 h7 h8 h9 h10 h11 h12
    rename_i w F Fm Fk Ao Am Ak lo co lm cm lk ck xs ks
    by_cases hk : ks = []
    · exact prove_nil h1 h2 h3 h4 h5 h6 h7 h8 h9 h10 h11 h12 hk
    · exact prove_fork (prove_any x) (prove_any y) h1 h2 h3 h4 h5 h6 h7 h8 h9 h10 h11 h12 hk

set_option maxHeartbeats 1000000 in
set_option maxRecDepth 20000 in
theorem mprove27_some {w : World} {g : Nat} {t : LT} {Ak : Option Addr} {lk ck : Nat} {Fk : Nat → Prop} {ks : List H8} (hbg : Blk w g 41 [ndp t.adr, .bool true].toArray) (hXt : LAt 156 w t) (hwt : t.er.WF) (hcn : t.er.cnt ≤ 1000) (hks : SI w Fk eH Ak lk ck ks) (hlk : lk ≤ 1000000) (hrnd : Sl w (fun k => k = 0) u32v (some ⟨0, 0, none⟩) 64 64 rk) :
    Calls Tryd.prog 24 #[ndp g, .slice Ak lk ck] w fun e w' => ∃ A l c, e = .returned (.slice A l c) ∧ SI w' (fun k => w.heap.size ≤ k) eND A l c (prvN (some t.er) ks) ∧ Ch No w w' := by
  have hn0 : 0 < w.heap.size := hrnd.size (by omega) rfl
  have hn1 := hn0
  have hltg := hbg.lt
  have htl := hXt.lt
  have hcp := Tr.cnt_pos t.er
  have hitl := Tr.items_cnt t.er
  have hcnt0 : cntT (eo (some t)) = t.er.cnt := rfl
  have hks := hks.old
  have HC : Ch No w w := Ch.refl _ _
  refine enter' (args := [ndp g, .slice Ak lk ck]) (n := 22) Tryd.func24 rfl rfl rfl ?_
  refine wc_seq ?_
  refine wc_region ?_
  refine wl rfl rfl rfl (p_as rfl) ?_
  refine wl_nil ?_
  refine x_seq ?_
  refine wc_seq ?_
  refine wc_seq ?_
  refine wc_region ?_
  refine wl rfl rfl rfl (p_mv rfl) ?_
  refine wl rfl rfl rfl (p_bldP (cs := ((List.replicate 32 (0 : UInt8)).map u8v).toArray) rfl (fun _ => by kernel_rfl)) ?_
  refine wl rfl rfl rfl (p_bldP (cs := ((List.replicate 32 (0 : UInt8)).map u8v).toArray) rfl (fun _ => by kernel_rfl)) ?_
  refine wle rfl (e_call ent44 rfl rfl (tput_made (F := fun _ => True) (TR.mk' trivial (o := some t) hbg (fun t2 e => by cases e; exact ⟨hXt, fun _ _ => trivial⟩)) (fun _ _ => trivial) ((List.length_replicate ..)) ((List.length_replicate ..)) (by omega)) ?_)
  rintro _ w1 ⟨_, t9, rfl, ⟨g9, rfl, _⟩, _, hc⟩
  refine ⟨_, rfl, ?_⟩
  have hzw1 := hc.size
  have HC := HC.tr hc
  have hbg := hbg.ch hc (fun h => h)
  have hXt := hXt.ch hc (by first | exact fun _ _ h => h | (intro a ha ht; have h2 := htl a ha; first | omega | (dsimp only at *; omega)))
  have hks := hks.no hc
  have hrnd := hrnd.no hc
  refine wl rfl rfl rfl (p_eqPN rfl rfl Tryd.underlying25) ?_
  refine wl_nil ?_
  refine x_seq ?_
  refine wc_no rfl (rfl) ?_
  refine wc_skip ?_
  refine x_seq ?_
  refine wc_seq ?_
  refine wc_region ?_
  refine wl rfl rfl rfl (p_mv rfl) ?_
  refine wle rfl (e_call ent69 rfl rfl (all_ptr (g := g)) ?_)
  rintro _ w2 ⟨gB, rfl, hgB, hBn, hc⟩
  refine ⟨_, rfl, ?_⟩
  have hzw2 := hc.size
  have HC := HC.tr hc
  have hbg := hbg.ch hc (fun h => h)
  have hXt := hXt.ch hc (by first | exact fun _ _ h => h | (intro a ha ht; have h2 := htl a ha; first | omega | (dsimp only at *; omega)))
  have hks := hks.no hc
  have hrnd := hrnd.no hc
  refine wle rfl (e_call ent68 rfl rfl (entries_some hBn hbg hXt hcn) ?_)
  rintro _ w3 ⟨A13, l13, c13, rfl, hE13, hc⟩
  refine ⟨_, rfl, ?_⟩
  have hzw3 := hc.size
  have HC := HC.tr hc
  have hbg := hbg.ch hc (fun h => h)
  have hXt := hXt.ch hc (by first | exact fun _ _ h => h | (intro a ha ht; have h2 := htl a ha; first | omega | (dsimp only at *; omega)))
  have hks := hks.no hc
  have hrnd := hrnd.no hc
  have hBn := hBn.ch hc (fun h => h)
  have hEl13 := hE13.len
  have hE13 := hE13.mono (G := fun k => w2.heap.size ≤ k ∧ k < w3.heap.size) (fun k h1 h2 => ⟨h2, h1⟩)
  refine wl rfl rfl rfl (p_as rfl) ?_
  refine wl_nil ?_
  refine x_seq ?_
  refine wc_seq ?_
  refine wc_seq ?_
  refine wc_region ?_
  refine wl rfl rfl rfl (p_mv rfl) ?_
  refine wl rfl rfl rfl (p_lenS Tryd.underlying118 rfl) ?_
  refine wl rfl rfl rfl (p_eq rfl rfl) ?_
  refine wl_nil ?_
  refine x_seq ?_
  refine wc_no rfl (decide_eq_false (by omega)) ?_
  refine wc_skip ?_
  refine x_seq ?_
  refine wc_seq ?_
  refine wc_region ?_
  refine wl rfl rfl rfl (p_mv rfl) ?_
  refine wl rfl rfl rfl (p_mv rfl) ?_
  refine wle rfl (e_call ent70 rfl rfl (prove_any t.er (F := fun k => w3.heap.size ≤ k) (RI.nil _ _ _ _) (fun k hk => hk) (by omega) hE13.si (fun k hk h1 h2 => by omega) hks (fun k hk h1 h2 => by omega) hwt (by omega) (by omega) (by omega) hrnd) ?_)
  rintro _ w4 ⟨A21, l21, c21, rfl, hP21, hc⟩
  refine ⟨_, rfl, ?_⟩
  have hzw4 := hc.size
  have HC := HC.trans hc (fun _ _ h => h) (fun k hk ht => absurd ht (by omega))
  have hbg := hbg.ch hc (by omega)
  have hXt := hXt.ch hc (by first | exact fun _ _ h => h | (intro a ha ht; have h2 := htl a ha; first | omega | (dsimp only at *; omega)))
  have hks := hks.ch hc (by intro k hk ht; omega)
  first | have hrnd := hrnd.ch hc (by intro k hk ht; omega) | have hrnd := hrnd.chT hc (by intro k hz hk ht; omega)
  have hBn := hBn.ch hc (by have h9 := hBn.lt; omega)
  have hE13 := hE13.afterT hc (by intro k hz hk ht; omega)
  have hP21 := hP21.mono (G := fun k => w3.heap.size ≤ k ∧ k < w4.heap.size) (fun k h1 h2 => ⟨h2, h1⟩)
  refine wl rfl rfl rfl (p_as rfl) ?_
  refine wl_nil ?_
  refine x_seq ?_
  refine wc_ret ?_
  refine fin_run ((res1 rfl rfl)) ?_
  exact ⟨_, _, _, rfl, (hP21.mono (fun k _ h => by have := h.1; show w.heap.size ≤ k; omega)).si, HC⟩

set_option maxHeartbeats 1000000 in
set_option maxRecDepth 20000 in
theorem mprove27_none {w : World} {g : Nat} {Ak : Option Addr} {lk ck : Nat} {Fk : Nat → Prop} {ks : List H8} (hbg : Blk w g 41 [.pointer none, .bool true].toArray) (hks : SI w Fk eH Ak lk ck ks) (hlk : lk ≤ 1000000) (hrnd : Sl w (fun k => k = 0) u32v (some ⟨0, 0, none⟩) 64 64 rk) :
    Calls Tryd.prog 24 #[ndp g, .slice Ak lk ck] w fun e w' => ∃ A l c, e = .returned (.slice A l c) ∧ SI w' (fun k => w.heap.size ≤ k) eND A l c (prvN none ks) ∧ Ch No w w' := by
  have hn0 : 0 < w.heap.size := hrnd.size (by omega) rfl
  have hn1 := hn0
  have hltg := hbg.lt
  have hcnt0 : cntT (eo (none : Option LT)) = 0 := rfl
  have hks := hks.old
  have HC : Ch No w w := Ch.refl _ _
  refine enter' (args := [ndp g, .slice Ak lk ck]) (n := 22) Tryd.func24 rfl rfl rfl ?_
  refine wc_seq ?_
  refine wc_region ?_
  refine wl rfl rfl rfl (p_as rfl) ?_
  refine wl_nil ?_
  refine x_seq ?_
  refine wc_seq ?_
  refine wc_seq ?_
  refine wc_region ?_
  refine wl rfl rfl rfl (p_mv rfl) ?_
  refine wl rfl rfl rfl (p_bldP (cs := ((List.replicate 32 (0 : UInt8)).map u8v).toArray) rfl (fun _ => by kernel_rfl)) ?_
  refine wl rfl rfl rfl (p_bldP (cs := ((List.replicate 32 (0 : UInt8)).map u8v).toArray) rfl (fun _ => by kernel_rfl)) ?_
  refine wle rfl (e_call ent44 rfl rfl (tput_made (F := fun _ => True) (TR.mk' trivial (o := none) hbg (fun t2 e => by cases e)) (fun _ _ => trivial) ((List.length_replicate ..)) ((List.length_replicate ..)) (by omega)) ?_)
  rintro _ w1 ⟨_, t9, rfl, ⟨g9, rfl, _⟩, _, hc⟩
  refine ⟨_, rfl, ?_⟩
  have hzw1 := hc.size
  have HC := HC.tr hc
  have hbg := hbg.ch hc (fun h => h)
  have hks := hks.no hc
  have hrnd := hrnd.no hc
  refine wl rfl rfl rfl (p_eqPN rfl rfl Tryd.underlying25) ?_
  refine wl_nil ?_
  refine x_seq ?_
  refine wc_no rfl (rfl) ?_
  refine wc_skip ?_
  refine x_seq ?_
  refine wc_seq ?_
  refine wc_region ?_
  refine wl rfl rfl rfl (p_mv rfl) ?_
  refine wle rfl (e_call ent69 rfl rfl (all_ptr (g := g)) ?_)
  rintro _ w2 ⟨gB, rfl, hgB, hBn, hc⟩
  refine ⟨_, rfl, ?_⟩
  have hzw2 := hc.size
  have HC := HC.tr hc
  have hbg := hbg.ch hc (fun h => h)
  have hks := hks.no hc
  have hrnd := hrnd.no hc
  refine wle rfl (e_call ent68 rfl rfl (entries_none hBn hbg) ?_)
  rintro _ w3 ⟨A13, l13, c13, rfl, hE13, hc⟩
  refine ⟨_, rfl, ?_⟩
  have hzw3 := hc.size
  have HC := HC.tr hc
  have hbg := hbg.ch hc (fun h => h)
  have hks := hks.no hc
  have hrnd := hrnd.no hc
  have hBn := hBn.ch hc (fun h => h)
  have hEl13 := hE13.len
  have hE13 := hE13.mono (G := fun k => w2.heap.size ≤ k ∧ k < w3.heap.size) (fun k h1 h2 => ⟨h2, h1⟩)
  refine wl rfl rfl rfl (p_as rfl) ?_
  refine wl_nil ?_
  refine x_seq ?_
  refine wc_seq ?_
  refine wc_seq ?_
  refine wc_region ?_
  refine wl rfl rfl rfl (p_mv rfl) ?_
  refine wl rfl rfl rfl (p_lenS Tryd.underlying118 rfl) ?_
  refine wl rfl rfl rfl (p_eq rfl rfl) ?_
  refine wl_nil ?_
  refine x_seq ?_
  refine wc_yes rfl (decide_eq_true (by simp at hEl13; omega)) ?_
  refine wc_seq ?_
  refine wc_region ?_
  refine wl rfl rfl rfl (p_bldX (vs' := [.int .i64 (1)]) (cs := (([.int .i64 (1), Value.int .i64 0] ++ ((List.map u8v (List.replicate 32 (0 : UInt8))) ++ (List.map u8v (List.replicate 32 (0 : UInt8))))) : List Value)) (cs' := (([.int .i64 (1), Value.int .i64 0] ++ ((hx (List.replicate 32 (0 : UInt8))) ++ (hx (List.replicate 32 (0 : UInt8))))) : List Value)) rfl rfl (by simp only [hv, map_hx (List.length_replicate ..)] <;> rfl) (fun _ => by kernel_rfl)) ?_
  have hltg := hbg.lt
  have hltgB := hBn.lt
  refine wle rfl (e_bslX (E := 115) (cs := (([.int .i64 (1), Value.int .i64 0] ++ ((List.map u8v (List.replicate 32 (0 : UInt8))) ++ (List.map u8v (List.replicate 32 (0 : UInt8))))) : List Value)) (cs' := (([.int .i64 (1), Value.int .i64 0] ++ ((hx (List.replicate 32 (0 : UInt8))) ++ (hx (List.replicate 32 (0 : UInt8))))) : List Value)) rfl rfl (by simp only [hv, map_hx (List.length_replicate ..)] <;> rfl) (fun _ => by kernel_rfl) (fun w4 g18 hg18 hb18 hc hsz18 => ?_))
  have hzw4 := hc.size
  have HC := HC.tr hc
  have hbg := hbg.ch hc (fun h => h)
  have hks := hks.no hc
  have hrnd := hrnd.no hc
  have hBn := hBn.ch hc (fun h => h)
  have hE13 := hE13.after hc
  have hge18 : w.heap.size ≤ g18 := by have := HC.size; omega
  have hS18 := SI.oneA (E := eND) (x := ⟨(1), (0), (List.replicate 32 (0 : UInt8)), (List.replicate 32 (0 : UInt8))⟩) hb18 rfl ⟨(List.length_replicate ..), (List.length_replicate ..)⟩
  refine wl rfl rfl rfl (p_as rfl) ?_
  refine wl_nil ?_
  refine x_seq ?_
  refine wc_ret ?_
  refine x_then_ret ?_
  refine fin_run ((res1 rfl rfl)) ?_
  exact ⟨_, _, _, rfl, hS18.mono (fun k _ h => by have h2 : k = g18 := h; show w.heap.size ≤ k; omega), HC⟩

theorem mprove27_any {w : World} {v : Value} {o : Option LT} {F : Nat → Prop} {Ak : Option Addr} {lk ck : Nat} {Fk : Nat → Prop} {ks : List H8} (hV : TR 41 156 F w v o) (hwo : WFO (eo o)) (hcn : cntT (eo o) ≤ 1000) (hks : SI w Fk eH Ak lk ck ks) (hlk : lk ≤ 1000000) (hrnd : Sl w (fun k => k = 0) u32v (some ⟨0, 0, none⟩) 64 64 rk) : Calls Tryd.prog 24 #[v, .slice Ak lk ck] w fun e w' => ∃ A l c, e = .returned (.slice A l c) ∧ SI w' (fun k => w.heap.size ≤ k) eND A l c (prvN (eo o) ks) ∧ Ch No w w' := by
  obtain ⟨g, rfl, hFg, hbg, hT⟩ := hV.opn
  cases o with
  | none => exact mprove27_none hbg hks hlk hrnd
  | some t => exact mprove27_some hbg (hT t rfl).1 (hwo _ rfl) hcn hks hlk hrnd

set_option maxHeartbeats 1000000 in
set_option maxRecDepth 20000 in
theorem lives27_any {w : World}  (hrnd : Sl w (fun k => k = 0) u32v (some ⟨0, 0, none⟩) 64 64 rk) :
    Calls Tryd.prog 20 #[] w fun e w' => e = .returned (.bool true) ∧ Ch No w w' := by
  have hn0 : 0 < w.heap.size := hrnd.size (by omega) rfl
  have hn1 := hn0
  have HC : Ch No w w := Ch.refl _ _
  refine enter' (args := []) (n := 14) Tryd.func20 rfl rfl rfl ?_
  refine wc_seq ?_
  refine wc_region ?_
  refine wl rfl rfl rfl (p_as rfl) ?_
  refine wl_nil ?_
  refine x_seq ?_
  refine wc_seq ?_
  refine wc_region ?_
  refine wle rfl (e_call ent51 rfl rfl (new_any) ?_)
  rintro _ w1 ⟨v2, rfl, hV2, hc⟩
  refine ⟨_, rfl, ?_⟩
  have hzw1 := hc.size
  have HC := HC.tr hc
  have hrnd := hrnd.no hc
  have hV2 := hV2.mono (G := fun k => w.heap.size ≤ k ∧ k < w1.heap.size) (fun k h1 h2 => ⟨h2, h1⟩)
  refine wle rfl (e_call ent24 rfl rfl (mprove27_any hV2 (fun t e => by cases e) (by decide) (SI.nil (F := No)) (by omega) hrnd) ?_)
  rintro _ w2 ⟨A3, l3, c3, rfl, hP3, hc⟩
  refine ⟨_, rfl, ?_⟩
  have hzw2 := hc.size
  have HC := HC.tr hc
  have hrnd := hrnd.no hc
  have hV2 := hV2.ch hc (by first | exact fun _ _ _ h => h | (intro k hk hF ht; have h2 := hF.1; have h3 := hF.2; first | omega | (dsimp only at *; omega)))
  have hPl3 := hP3.len
  have hP3 := hP3.mono (G := fun k => w1.heap.size ≤ k ∧ k < w2.heap.size) (fun k h1 h2 => ⟨h2, h1⟩)
  have hl3 : l3 = 1 := hPl3.symm
  refine wl rfl rfl rfl (p_as rfl) ?_
  refine wl_nil ?_
  refine x_seq ?_
  refine wc_seq ?_
  refine wc_region ?_
  refine wl rfl rfl rfl (p_mv rfl) ?_
  refine wl rfl rfl rfl (p_lenS Tryd.underlying33 rfl) ?_
  refine wl rfl rfl rfl (p_eq rfl rfl) ?_
  refine wl rfl rfl rfl (p_mv rfl) ?_
  refine wl_know (d := 7) (b' := true) rfl (decide_eq_true (by omega)) ?_
  refine wl_g (gd_ rfl rfl rfl rfl rfl rfl) rfl rfl (p_mv rfl) ?_
  obtain ⟨b3, o3, hA3, hF3, hr3⟩ := (hP3).opn (i := 0) (d := ND0) (by omega)
  have hok3 := (hP3).okAt (i := 0) (d := ND0) (by omega)
  obtain ⟨x3, ex3⟩ : ∃ x_, x_ = List.getD (prvN (eo none) []) (0) ND0 := ⟨_, rfl⟩
  rw [← ex3] at hr3 hok3
  obtain ⟨hx3k, hx3v⟩ := hok3
  have hr3 : w2.rangeAt b3 (o3 + 0 * 66) (([i64 x3.kind, i64 x3.bit] ++ ((List.map u8v x3.key) ++ (List.map u8v x3.val))) : List Value) := hr3
  refine wl_g (gd_ rfl rfl rfl rfl rfl rfl) rfl rfl (p_ixS (j := 0 * 66) Tryd.underlying33 sz115 rfl hA3 rfl (by omega) (by omega) rfl) ?_
  have hx9 : x3 = ND0 := ex3
  refine wl_g (gd_ rfl rfl rfl rfl rfl rfl) rfl rfl (p_fld (j := 0) Tryd.underlying115 rfl ⟨_, by rfl⟩ rfl rfl) ?_
  refine wl_g (gd_ rfl rfl rfl rfl rfl rfl) rfl rfl (p_ld Tryd.underlying3 rfl rfl (ld (cell_sub (v := (i64 x3.kind : Value)) (p := []) (r := (([i64 x3.bit] ++ ((List.map u8v x3.key) ++ (List.map u8v x3.val))) : List Value)) hr3 (by first | rfl | simp only [List.append_assoc, List.cons_append, List.nil_append, List.append_nil]) rfl))) ?_
  refine wl_g (gd_ rfl rfl rfl rfl rfl rfl) rfl rfl (p_eq rfl rfl) ?_
  refine wl rfl rfl rfl (p_pickT rfl rfl) ?_
  refine wl rfl rfl rfl (p_as rfl) ?_
  refine wl_nil ?_
  refine x_seq ?_
  refine wc_ret ?_
  refine fin_run ((res1 rfl rfl)) ?_
  rw [hx9]; exact ⟨rfl, HC⟩

set_option maxHeartbeats 4000000 in
set_option maxRecDepth 20000 in
theorem multiChecks_walk {w : World}  {top : List UInt8} {k : List UInt8} {Am : Option Addr} {lm cm : Nat} {Fm : Nat → Prop} {l : List ND} (htop : top.length = 32) (hk : k.length = 32) (hm : SI w Fm eND Am lm cm l) (hrnd : Sl w (fun k => k = 0) u32v (some ⟨0, 0, none⟩) 64 64 rk) :
    Calls Tryd.prog 16 #[hv top, hv k, .slice Am lm cm] w fun e w' => e = .returned (.bool true) ∧ Ch No w w' := by
  have hn0 : 0 < w.heap.size := hrnd.size (by omega) rfl
  have hn1 := hn0
  have hml := hm.len
  have hm := hm.old
  have HC : Ch No w w := Ch.refl _ _
  refine enter' (args := [hv top, hv k, .slice Am lm cm]) (n := 126) Tryd.func16 rfl rfl rfl ?_
  refine wc_seq ?_
  refine wc_region ?_
  refine wle rfl (e_box (cs := (List.map u8v top).toArray) rfl rfl rfl (fun w1 g3 hg3 hb3 hc hsz3 => ?_))
  have hzw1 := hc.size
  have HC := HC.tr hc
  have hm := hm.no hc
  have hrnd := hrnd.no hc
  have hge3 : w.heap.size ≤ g3 := by have := HC.size; omega
  have hltg3 := hb3.lt
  refine wle rfl (e_box (cs := (List.map u8v k).toArray) rfl rfl rfl (fun w2 g4 hg4 hb4 hc hsz4 => ?_))
  have hzw2 := hc.size
  have HC := HC.tr hc
  have hm := hm.no hc
  have hrnd := hrnd.no hc
  have hb3 := hb3.ch hc (fun h => h)
  have hge4 : w.heap.size ≤ g4 := by have := HC.size; omega
  have neg3_4 : g3 < g4 := by omega
  refine wl rfl rfl rfl (p_as rfl) ?_
  refine wl_nil ?_
  refine x_seq ?_
  refine wc_seq ?_
  refine wc_seq ?_
  refine wc_region ?_
  refine wl rfl rfl rfl (p_mv rfl) ?_
  refine wl rfl rfl rfl (p_lenS Tryd.underlying33 rfl) ?_
  refine wl rfl rfl rfl (p_gt rfl rfl) ?_
  refine wl_nil ?_
  refine x_seq ?_
  refine wc_if rfl (fun c0 => ?_) (fun c0 => ?_)
  ·
   have c0 := of_decide_eq_true c0
   refine wc_seq ?_
   refine wc_region ?_
   refine wle rfl (e_call ent20 rfl rfl (lives27_any hrnd) ?_)
   rintro _ w3 ⟨rfl, hc⟩
   refine ⟨_, rfl, ?_⟩
   have hzw3 := hc.size
   have HC := HC.tr hc
   have hm := hm.no hc
   have hrnd := hrnd.no hc
   have hb3 := hb3.ch hc (fun h => h)
   have hb4 := hb4.ch hc (fun h => h)
   refine wl rfl rfl rfl (p_as rfl) ?_
   refine wl_nil ?_
   refine x_seq ?_
   refine wc_ret ?_
   refine x_then_ret ?_
   refine fin_run ((res1 rfl rfl)) ?_
   exact ⟨rfl, HC⟩
  ·
   have c0 := of_decide_eq_false c0
   refine wc_skip ?_
   refine x_seq ?_
   refine wc_seq ?_
   refine wc_region ?_
   refine wl rfl rfl rfl (p_mv rfl) ?_
   refine wle rfl (e_call ent23 rfl rfl (plain27 (hm) (by omega)) ?_)
   rintro _ w4 ⟨A29, c29, rfl, hP29, hc⟩
   refine ⟨_, rfl, ?_⟩
   have hzw4 := hc.size
   have HC := HC.tr hc
   have hm := hm.no hc
   have hrnd := hrnd.no hc
   have hb3 := hb3.ch hc (fun h => h)
   have hb4 := hb4.ch hc (fun h => h)
   have hP29 := hP29.mono (G := fun k => w2.heap.size ≤ k ∧ k < w4.heap.size) (fun k h1 h2 => ⟨h2, h1⟩)
   refine wl rfl rfl rfl (p_as rfl) ?_
   refine wl_nil ?_
   refine x_seq ?_
   refine wc_seq ?_
   refine wc_region ?_
   refine wl rfl rfl rfl (p_mv rfl) ?_
   refine wle rfl (e_call ent56 rfl rfl (mroot27 (hm) (by omega) hrnd) ?_)
   rintro _ w5 ⟨rfl, hc⟩
   refine ⟨_, rfl, ?_⟩
   have hzw5 := hc.size
   have HC := HC.tr hc
   have hm := hm.no hc
   have hrnd := hrnd.no hc
   have hb3 := hb3.ch hc (fun h => h)
   have hb4 := hb4.ch hc (fun h => h)
   have hP29 := hP29.after hc
   refine wl rfl rfl rfl (p_mv rfl) ?_
   refine wl rfl rfl rfl (p_ext rfl rfl) ?_
   refine wl rfl rfl rfl (p_ext rfl rfl) ?_
   have hltg3 := hb3.lt
   have hltg4 := hb4.lt
   refine wle rfl (e_alloc (cs := ((List.replicate 32 (0 : UInt8)).map u8v).toArray) rfl (by rfl) rfl (fun w6 g8 hg8 hb8 hc hsz8 => ?_))
   have hzw6 := hc.size
   have HC := HC.tr hc
   have hm := hm.no hc
   have hrnd := hrnd.no hc
   have hb3 := hb3.ch hc (fun h => h)
   have hb4 := hb4.ch hc (fun h => h)
   have hP29 := hP29.after hc
   have hge8 : w.heap.size ≤ g8 := by have := HC.size; omega
   have neg3_8 : g3 < g8 := by omega
   have neg4_8 : g4 < g8 := by omega
   refine wle rfl (e_stH sz38 (List.length_replicate ..) rootN_len rfl rfl hb8 (fun w7 hb8 hc hsz => ?_))
   have hzw7 := hc.size
   have HC := HC.trans hc (fun _ _ h => h) (fun k hk ht => absurd ht (by omega))
   have hm := hm.ch hc (by intro k hk ht; omega)
   first | have hrnd := hrnd.ch hc (by intro k hk ht; omega) | have hrnd := hrnd.chT hc (by intro k hz hk ht; omega)
   have hb3 := hb3.ch hc (by omega)
   have hb4 := hb4.ch hc (by omega)
   have hP29 := hP29.ch hc (by intro k hz hk ht; omega)
   refine wl rfl rfl rfl (p_as rfl) ?_
   refine wl_nil ?_
   refine x_seq ?_
   refine wc_seq ?_
   refine wc_region ?_
   refine wl rfl rfl rfl (p_mv rfl) ?_
   refine wle rfl (e_call ent57 rfl rfl (rroot27 (hP29.si) (by omega)) ?_)
   rintro _ w8 ⟨rfl, hc⟩
   refine ⟨_, rfl, ?_⟩
   have hzw8 := hc.size
   have HC := HC.tr hc
   have hm := hm.no hc
   have hrnd := hrnd.no hc
   have hb3 := hb3.ch hc (fun h => h)
   have hb4 := hb4.ch hc (fun h => h)
   have hP29 := hP29.after hc
   have hb8 := hb8.ch hc (fun h => h)
   refine wl rfl rfl rfl (p_mv rfl) ?_
   refine wl rfl rfl rfl (p_ext rfl rfl) ?_
   refine wl rfl rfl rfl (p_ext rfl rfl) ?_
   have hltg3 := hb3.lt
   have hltg4 := hb4.lt
   have hltg8 := hb8.lt
   refine wle rfl (e_alloc (cs := ((List.replicate 32 (0 : UInt8)).map u8v).toArray) rfl (by rfl) rfl (fun w9 g10 hg10 hb10 hc hsz10 => ?_))
   have hzw9 := hc.size
   have HC := HC.tr hc
   have hm := hm.no hc
   have hrnd := hrnd.no hc
   have hb3 := hb3.ch hc (fun h => h)
   have hb4 := hb4.ch hc (fun h => h)
   have hP29 := hP29.after hc
   have hb8 := hb8.ch hc (fun h => h)
   have hge10 : w.heap.size ≤ g10 := by have := HC.size; omega
   have neg3_10 : g3 < g10 := by omega
   have neg4_10 : g4 < g10 := by omega
   have neg8_10 : g8 < g10 := by omega
   refine wle rfl (e_stH sz38 (List.length_replicate ..) rootN_len rfl rfl hb10 (fun w10 hb10 hc hsz => ?_))
   have hzw10 := hc.size
   have HC := HC.trans hc (fun _ _ h => h) (fun k hk ht => absurd ht (by omega))
   have hm := hm.ch hc (by intro k hk ht; omega)
   first | have hrnd := hrnd.ch hc (by intro k hk ht; omega) | have hrnd := hrnd.chT hc (by intro k hz hk ht; omega)
   have hb3 := hb3.ch hc (by omega)
   have hb4 := hb4.ch hc (by omega)
   have hP29 := hP29.ch hc (by intro k hz hk ht; omega)
   have hb8 := hb8.ch hc (by omega)
   refine wl rfl rfl rfl (p_as rfl) ?_
   refine wl_nil ?_
   refine x_seq ?_
   refine wc_seq ?_
   refine wc_region ?_
   refine wl rfl rfl rfl (p_ldH (L := top) Tryd.underlying38 sz38 htop rfl (fun _ e => e ▸ rngL hb3)) ?_
   refine wl rfl rfl rfl (p_mv rfl) ?_
   refine wl rfl rfl rfl (p_ldH (L := k) Tryd.underlying38 sz38 hk rfl (fun _ e => e ▸ rngL hb4)) ?_
   refine wle rfl (e_call ent58 rfl rfl (mcheck27 (htop) (hm) (by omega) (hk) hrnd) ?_)
   rintro _ w11 ⟨rfl, hc⟩
   refine ⟨_, rfl, ?_⟩
   have hzw11 := hc.size
   have HC := HC.tr hc
   have hm := hm.no hc
   have hrnd := hrnd.no hc
   have hb3 := hb3.ch hc (fun h => h)
   have hb4 := hb4.ch hc (fun h => h)
   have hP29 := hP29.after hc
   have hb8 := hb8.ch hc (fun h => h)
   have hb10 := hb10.ch hc (fun h => h)
   refine wl rfl rfl rfl (p_mv rfl) ?_
   refine wl rfl rfl rfl (p_ext rfl rfl) ?_
   refine wl rfl rfl rfl (p_ext rfl rfl) ?_
   refine wl rfl rfl rfl (p_ext rfl rfl) ?_
   have hltg3 := hb3.lt
   have hltg4 := hb4.lt
   have hltg8 := hb8.lt
   have hltg10 := hb10.lt
   refine wle rfl (e_alloc (cs := ((List.replicate 32 (0 : UInt8)).map u8v).toArray) rfl (by rfl) rfl (fun w12 g12 hg12 hb12 hc hsz12 => ?_))
   have hzw12 := hc.size
   have HC := HC.tr hc
   have hm := hm.no hc
   have hrnd := hrnd.no hc
   have hb3 := hb3.ch hc (fun h => h)
   have hb4 := hb4.ch hc (fun h => h)
   have hP29 := hP29.after hc
   have hb8 := hb8.ch hc (fun h => h)
   have hb10 := hb10.ch hc (fun h => h)
   have hge12 : w.heap.size ≤ g12 := by have := HC.size; omega
   have neg3_12 : g3 < g12 := by omega
   have neg4_12 : g4 < g12 := by omega
   have neg8_12 : g8 < g12 := by omega
   have neg10_12 : g10 < g12 := by omega
   refine wle rfl (e_stH sz38 (List.length_replicate ..) checkN_len rfl rfl hb12 (fun w13 hb12 hc hsz => ?_))
   have hzw13 := hc.size
   have HC := HC.trans hc (fun _ _ h => h) (fun k hk ht => absurd ht (by omega))
   have hm := hm.ch hc (by intro k hk ht; omega)
   first | have hrnd := hrnd.ch hc (by intro k hk ht; omega) | have hrnd := hrnd.chT hc (by intro k hz hk ht; omega)
   have hb3 := hb3.ch hc (by omega)
   have hb4 := hb4.ch hc (by omega)
   have hP29 := hP29.ch hc (by intro k hz hk ht; omega)
   have hb8 := hb8.ch hc (by omega)
   have hb10 := hb10.ch hc (by omega)
   refine wl rfl rfl rfl (p_as rfl) ?_
   refine wl rfl rfl rfl (p_as rfl) ?_
   refine wl_nil ?_
   refine x_seq ?_
   refine wc_seq ?_
   refine wc_region ?_
   refine wl rfl rfl rfl (p_ldH (L := top) Tryd.underlying38 sz38 htop rfl (fun _ e => e ▸ rngL hb3)) ?_
   refine wl rfl rfl rfl (p_mv rfl) ?_
   refine wl rfl rfl rfl (p_ldH (L := k) Tryd.underlying38 sz38 hk rfl (fun _ e => e ▸ rngL hb4)) ?_
   refine wle rfl (e_call ent59 rfl rfl (rcheck27 (htop) (hP29.si) (by omega) (hk)) ?_)
   rintro _ w14 ⟨rfl, hc⟩
   refine ⟨_, rfl, ?_⟩
   have hzw14 := hc.size
   have HC := HC.tr hc
   have hm := hm.no hc
   have hrnd := hrnd.no hc
   have hb3 := hb3.ch hc (fun h => h)
   have hb4 := hb4.ch hc (fun h => h)
   have hP29 := hP29.after hc
   have hb8 := hb8.ch hc (fun h => h)
   have hb10 := hb10.ch hc (fun h => h)
   have hb12 := hb12.ch hc (fun h => h)
   refine wl rfl rfl rfl (p_mv rfl) ?_
   refine wl rfl rfl rfl (p_ext rfl rfl) ?_
   refine wl rfl rfl rfl (p_ext rfl rfl) ?_
   refine wl rfl rfl rfl (p_ext rfl rfl) ?_
   have hltg3 := hb3.lt
   have hltg4 := hb4.lt
   have hltg8 := hb8.lt
   have hltg10 := hb10.lt
   have hltg12 := hb12.lt
   refine wle rfl (e_alloc (cs := ((List.replicate 32 (0 : UInt8)).map u8v).toArray) rfl (by rfl) rfl (fun w15 g15 hg15 hb15 hc hsz15 => ?_))
   have hzw15 := hc.size
   have HC := HC.tr hc
   have hm := hm.no hc
   have hrnd := hrnd.no hc
   have hb3 := hb3.ch hc (fun h => h)
   have hb4 := hb4.ch hc (fun h => h)
   have hP29 := hP29.after hc
   have hb8 := hb8.ch hc (fun h => h)
   have hb10 := hb10.ch hc (fun h => h)
   have hb12 := hb12.ch hc (fun h => h)
   have hge15 : w.heap.size ≤ g15 := by have := HC.size; omega
   have neg3_15 : g3 < g15 := by omega
   have neg4_15 : g4 < g15 := by omega
   have neg8_15 : g8 < g15 := by omega
   have neg10_15 : g10 < g15 := by omega
   have neg12_15 : g12 < g15 := by omega
   refine wle rfl (e_stH sz38 (List.length_replicate ..) checkN_len rfl rfl hb15 (fun w16 hb15 hc hsz => ?_))
   have hzw16 := hc.size
   have HC := HC.trans hc (fun _ _ h => h) (fun k hk ht => absurd ht (by omega))
   have hm := hm.ch hc (by intro k hk ht; omega)
   first | have hrnd := hrnd.ch hc (by intro k hk ht; omega) | have hrnd := hrnd.chT hc (by intro k hz hk ht; omega)
   have hb3 := hb3.ch hc (by omega)
   have hb4 := hb4.ch hc (by omega)
   have hP29 := hP29.ch hc (by intro k hz hk ht; omega)
   have hb8 := hb8.ch hc (by omega)
   have hb10 := hb10.ch hc (by omega)
   have hb12 := hb12.ch hc (by omega)
   refine wl rfl rfl rfl (p_as rfl) ?_
   refine wl rfl rfl rfl (p_as rfl) ?_
   refine wl_nil ?_
   refine x_seq ?_
   refine wc_seq ?_
   refine wc_region ?_
   refine wl rfl rfl rfl (p_ldH (L := (rootN l).1) Tryd.underlying38 sz38 rootN_len rfl (fun _ e => e ▸ rngL hb10)) ?_
   refine wl rfl rfl rfl (p_mv rfl) ?_
   refine wl rfl rfl rfl (p_ldH (L := k) Tryd.underlying38 sz38 hk rfl (fun _ e => e ▸ rngL hb4)) ?_
   refine wle rfl (e_call ent58 rfl rfl (mcheck27 (rootN_len) (hm) (by omega) (hk) hrnd) ?_)
   rintro _ w17 ⟨rfl, hc⟩
   refine ⟨_, rfl, ?_⟩
   have hzw17 := hc.size
   have HC := HC.tr hc
   have hm := hm.no hc
   have hrnd := hrnd.no hc
   have hb3 := hb3.ch hc (fun h => h)
   have hb4 := hb4.ch hc (fun h => h)
   have hP29 := hP29.after hc
   have hb8 := hb8.ch hc (fun h => h)
   have hb10 := hb10.ch hc (fun h => h)
   have hb12 := hb12.ch hc (fun h => h)
   have hb15 := hb15.ch hc (fun h => h)
   refine wl rfl rfl rfl (p_mv rfl) ?_
   refine wl rfl rfl rfl (p_ext rfl rfl) ?_
   refine wl rfl rfl rfl (p_ext rfl rfl) ?_
   refine wl rfl rfl rfl (p_ext rfl rfl) ?_
   have hltg3 := hb3.lt
   have hltg4 := hb4.lt
   have hltg8 := hb8.lt
   have hltg10 := hb10.lt
   have hltg12 := hb12.lt
   have hltg15 := hb15.lt
   refine wle rfl (e_alloc (cs := ((List.replicate 32 (0 : UInt8)).map u8v).toArray) rfl (by rfl) rfl (fun w18 g18 hg18 hb18 hc hsz18 => ?_))
   have hzw18 := hc.size
   have HC := HC.tr hc
   have hm := hm.no hc
   have hrnd := hrnd.no hc
   have hb3 := hb3.ch hc (fun h => h)
   have hb4 := hb4.ch hc (fun h => h)
   have hP29 := hP29.after hc
   have hb8 := hb8.ch hc (fun h => h)
   have hb10 := hb10.ch hc (fun h => h)
   have hb12 := hb12.ch hc (fun h => h)
   have hb15 := hb15.ch hc (fun h => h)
   have hge18 : w.heap.size ≤ g18 := by have := HC.size; omega
   have neg3_18 : g3 < g18 := by omega
   have neg4_18 : g4 < g18 := by omega
   have neg8_18 : g8 < g18 := by omega
   have neg10_18 : g10 < g18 := by omega
   have neg12_18 : g12 < g18 := by omega
   have neg15_18 : g15 < g18 := by omega
   refine wle rfl (e_stH sz38 (List.length_replicate ..) checkN_len rfl rfl hb18 (fun w19 hb18 hc hsz => ?_))
   have hzw19 := hc.size
   have HC := HC.trans hc (fun _ _ h => h) (fun k hk ht => absurd ht (by omega))
   have hm := hm.ch hc (by intro k hk ht; omega)
   first | have hrnd := hrnd.ch hc (by intro k hk ht; omega) | have hrnd := hrnd.chT hc (by intro k hz hk ht; omega)
   have hb3 := hb3.ch hc (by omega)
   have hb4 := hb4.ch hc (by omega)
   have hP29 := hP29.ch hc (by intro k hz hk ht; omega)
   have hb8 := hb8.ch hc (by omega)
   have hb10 := hb10.ch hc (by omega)
   have hb12 := hb12.ch hc (by omega)
   have hb15 := hb15.ch hc (by omega)
   refine wl rfl rfl rfl (p_as rfl) ?_
   refine wl rfl rfl rfl (p_as rfl) ?_
   refine wl_nil ?_
   refine x_seq ?_
   refine wc_seq ?_
   refine wc_region ?_
   refine wl rfl rfl rfl (p_ldH (L := (rootN l).1) Tryd.underlying38 sz38 rootN_len rfl (fun _ e => e ▸ rngL hb10)) ?_
   refine wl rfl rfl rfl (p_mv rfl) ?_
   refine wl rfl rfl rfl (p_ldH (L := k) Tryd.underlying38 sz38 hk rfl (fun _ e => e ▸ rngL hb4)) ?_
   refine wle rfl (e_call ent59 rfl rfl (rcheck27 (rootN_len) (hP29.si) (by omega) (hk)) ?_)
   rintro _ w20 ⟨rfl, hc⟩
   refine ⟨_, rfl, ?_⟩
   have hzw20 := hc.size
   have HC := HC.tr hc
   have hm := hm.no hc
   have hrnd := hrnd.no hc
   have hb3 := hb3.ch hc (fun h => h)
   have hb4 := hb4.ch hc (fun h => h)
   have hP29 := hP29.after hc
   have hb8 := hb8.ch hc (fun h => h)
   have hb10 := hb10.ch hc (fun h => h)
   have hb12 := hb12.ch hc (fun h => h)
   have hb15 := hb15.ch hc (fun h => h)
   have hb18 := hb18.ch hc (fun h => h)
   refine wl rfl rfl rfl (p_mv rfl) ?_
   refine wl rfl rfl rfl (p_ext rfl rfl) ?_
   refine wl rfl rfl rfl (p_ext rfl rfl) ?_
   refine wl rfl rfl rfl (p_ext rfl rfl) ?_
   have hltg3 := hb3.lt
   have hltg4 := hb4.lt
   have hltg8 := hb8.lt
   have hltg10 := hb10.lt
   have hltg12 := hb12.lt
   have hltg15 := hb15.lt
   have hltg18 := hb18.lt
   refine wle rfl (e_alloc (cs := ((List.replicate 32 (0 : UInt8)).map u8v).toArray) rfl (by rfl) rfl (fun w21 g21 hg21 hb21 hc hsz21 => ?_))
   have hzw21 := hc.size
   have HC := HC.tr hc
   have hm := hm.no hc
   have hrnd := hrnd.no hc
   have hb3 := hb3.ch hc (fun h => h)
   have hb4 := hb4.ch hc (fun h => h)
   have hP29 := hP29.after hc
   have hb8 := hb8.ch hc (fun h => h)
   have hb10 := hb10.ch hc (fun h => h)
   have hb12 := hb12.ch hc (fun h => h)
   have hb15 := hb15.ch hc (fun h => h)
   have hb18 := hb18.ch hc (fun h => h)
   have hge21 : w.heap.size ≤ g21 := by have := HC.size; omega
   have neg3_21 : g3 < g21 := by omega
   have neg4_21 : g4 < g21 := by omega
   have neg8_21 : g8 < g21 := by omega
   have neg10_21 : g10 < g21 := by omega
   have neg12_21 : g12 < g21 := by omega
   have neg15_21 : g15 < g21 := by omega
   have neg18_21 : g18 < g21 := by omega
   refine wle rfl (e_stH sz38 (List.length_replicate ..) checkN_len rfl rfl hb21 (fun w22 hb21 hc hsz => ?_))
   have hzw22 := hc.size
   have HC := HC.trans hc (fun _ _ h => h) (fun k hk ht => absurd ht (by omega))
   have hm := hm.ch hc (by intro k hk ht; omega)
   first | have hrnd := hrnd.ch hc (by intro k hk ht; omega) | have hrnd := hrnd.chT hc (by intro k hz hk ht; omega)
   have hb3 := hb3.ch hc (by omega)
   have hb4 := hb4.ch hc (by omega)
   have hP29 := hP29.ch hc (by intro k hz hk ht; omega)
   have hb8 := hb8.ch hc (by omega)
   have hb10 := hb10.ch hc (by omega)
   have hb12 := hb12.ch hc (by omega)
   have hb15 := hb15.ch hc (by omega)
   have hb18 := hb18.ch hc (by omega)
   refine wl rfl rfl rfl (p_as rfl) ?_
   refine wl rfl rfl rfl (p_as rfl) ?_
   refine wl_nil ?_
   refine x_seq ?_
   refine wc_seq ?_
   refine wc_region ?_
   refine wl rfl rfl rfl (p_ldH (L := (rootN l).1) Tryd.underlying38 sz38 rootN_len rfl (fun _ e => e ▸ rngL hb8)) ?_
   refine wl rfl rfl rfl (p_ldH (L := (rootN l).1) Tryd.underlying38 sz38 rootN_len rfl (fun _ e => e ▸ rngL hb10)) ?_
   refine wl rfl rfl rfl (p_eqH (a := (rootN l).1) (b := (rootN l).1) (by kernel_rfl) Tryd.underlying38 Tryd.underlying5 sz5 rfl rfl (rootN_len) (rootN_len)) ?_
   refine wl rfl rfl rfl (p_mv rfl) ?_
   refine wl_know (d := 75) (b' := true) rfl (by simp) ?_
   refine wl_g (gd_ rfl rfl rfl rfl rfl rfl) rfl rfl (p_mv rfl) ?_
   refine wl_g (gd_ rfl rfl rfl rfl rfl rfl) rfl rfl (p_mv rfl) ?_
   refine wl_g (gd_ rfl rfl rfl rfl rfl rfl) rfl rfl (p_eqB rfl rfl Tryd.underlying4) ?_
   refine wl rfl rfl rfl (p_pickT rfl rfl) ?_
   refine wl rfl rfl rfl (p_mv rfl) ?_
   refine wl_know (d := 80) (b' := true) rfl (by simp) ?_
   refine wl_g (gd_ rfl rfl rfl rfl rfl rfl) rfl rfl (p_mv rfl) ?_
   refine wle_g (gd_ rfl rfl rfl rfl rfl rfl) (e_call ent60 rfl rfl (mgood27 (hm) (by omega) hrnd) ?_)
   rintro _ w23 ⟨rfl, hc⟩
   refine ⟨_, rfl, ?_⟩
   have hzw23 := hc.size
   have HC := HC.tr hc
   have hm := hm.no hc
   have hrnd := hrnd.no hc
   have hb3 := hb3.ch hc (fun h => h)
   have hb4 := hb4.ch hc (fun h => h)
   have hP29 := hP29.after hc
   have hb8 := hb8.ch hc (fun h => h)
   have hb10 := hb10.ch hc (fun h => h)
   have hb12 := hb12.ch hc (fun h => h)
   have hb15 := hb15.ch hc (fun h => h)
   have hb18 := hb18.ch hc (fun h => h)
   have hb21 := hb21.ch hc (fun h => h)
   refine wl_g (gd_ rfl rfl rfl rfl rfl rfl) rfl rfl (p_mv rfl) ?_
   refine wl_g (gd_ rfl rfl rfl rfl rfl rfl) rfl rfl (p_eqB rfl rfl Tryd.underlying4) ?_
   refine wl rfl rfl rfl (p_pickT rfl rfl) ?_
   refine wl rfl rfl rfl (p_mv rfl) ?_
   refine wl_know (d := 86) (b' := true) rfl (by simp) ?_
   refine wl_g (gd_ rfl rfl rfl rfl rfl rfl) rfl rfl (p_ldH (L := (checkN top l k).1) Tryd.underlying38 sz38 checkN_len rfl (fun _ e => e ▸ rngL hb12)) ?_
   refine wl_g (gd_ rfl rfl rfl rfl rfl rfl) rfl rfl (p_ldH (L := (checkN top l k).1) Tryd.underlying38 sz38 checkN_len rfl (fun _ e => e ▸ rngL hb15)) ?_
   refine wl_g (gd_ rfl rfl rfl rfl rfl rfl) rfl rfl (p_eqH (a := (checkN top l k).1) (b := (checkN top l k).1) (by kernel_rfl) Tryd.underlying38 Tryd.underlying5 sz5 rfl rfl (checkN_len) (checkN_len)) ?_
   refine wl rfl rfl rfl (p_pickT rfl rfl) ?_
   refine wl rfl rfl rfl (p_mv rfl) ?_
   refine wl_know (d := 91) (b' := true) rfl (by simp) ?_
   refine wl_g (gd_ rfl rfl rfl rfl rfl rfl) rfl rfl (p_mv rfl) ?_
   refine wl_g (gd_ rfl rfl rfl rfl rfl rfl) rfl rfl (p_mv rfl) ?_
   refine wl_g (gd_ rfl rfl rfl rfl rfl rfl) rfl rfl (p_eqB rfl rfl Tryd.underlying4) ?_
   refine wl rfl rfl rfl (p_pickT rfl rfl) ?_
   refine wl rfl rfl rfl (p_mv rfl) ?_
   refine wl_know (d := 96) (b' := true) rfl (by simp) ?_
   refine wl_g (gd_ rfl rfl rfl rfl rfl rfl) rfl rfl (p_mv rfl) ?_
   refine wl_g (gd_ rfl rfl rfl rfl rfl rfl) rfl rfl (p_mv rfl) ?_
   refine wl_g (gd_ rfl rfl rfl rfl rfl rfl) rfl rfl (p_eqB rfl rfl Tryd.underlying4) ?_
   refine wl rfl rfl rfl (p_pickT rfl rfl) ?_
   refine wl rfl rfl rfl (p_mv rfl) ?_
   refine wl_know (d := 101) (b' := true) rfl (by simp) ?_
   refine wl_g (gd_ rfl rfl rfl rfl rfl rfl) rfl rfl (p_ldH (L := (checkN (rootN l).1 l k).1) Tryd.underlying38 sz38 checkN_len rfl (fun _ e => e ▸ rngL hb18)) ?_
   refine wl_g (gd_ rfl rfl rfl rfl rfl rfl) rfl rfl (p_ldH (L := (checkN (rootN l).1 l k).1) Tryd.underlying38 sz38 checkN_len rfl (fun _ e => e ▸ rngL hb21)) ?_
   refine wl_g (gd_ rfl rfl rfl rfl rfl rfl) rfl rfl (p_eqH (a := (checkN (rootN l).1 l k).1) (b := (checkN (rootN l).1 l k).1) (by kernel_rfl) Tryd.underlying38 Tryd.underlying5 sz5 rfl rfl (checkN_len) (checkN_len)) ?_
   refine wl rfl rfl rfl (p_pickT rfl rfl) ?_
   refine wl rfl rfl rfl (p_mv rfl) ?_
   refine wl_know (d := 106) (b' := true) rfl (by simp) ?_
   refine wl_g (gd_ rfl rfl rfl rfl rfl rfl) rfl rfl (p_mv rfl) ?_
   refine wl_g (gd_ rfl rfl rfl rfl rfl rfl) rfl rfl (p_mv rfl) ?_
   refine wl_g (gd_ rfl rfl rfl rfl rfl rfl) rfl rfl (p_eqB rfl rfl Tryd.underlying4) ?_
   refine wl rfl rfl rfl (p_pickT rfl rfl) ?_
   refine wl rfl rfl rfl (p_mv rfl) ?_
   refine wl_know (d := 111) (b' := true) rfl (by simp) ?_
   refine wl_g (gd_ rfl rfl rfl rfl rfl rfl) rfl rfl (p_mv rfl) ?_
   refine wl_g (gd_ rfl rfl rfl rfl rfl rfl) rfl rfl (p_mv rfl) ?_
   refine wl_g (gd_ rfl rfl rfl rfl rfl rfl) rfl rfl (p_eqB rfl rfl Tryd.underlying4) ?_
   refine wl rfl rfl rfl (p_pickT rfl rfl) ?_
   refine wl rfl rfl rfl (p_mv rfl) ?_
   refine wl_know (d := 116) (b' := true) rfl (by simp) ?_
   refine wl_g (gd_ rfl rfl rfl rfl rfl rfl) rfl rfl (p_mv rfl) ?_
   refine wle_g (gd_ rfl rfl rfl rfl rfl rfl) (e_call ent62 rfl rfl (mkeys27 (hm) (by omega) hrnd) ?_)
   rintro _ w24 ⟨A118, c118, l118, rfl, hK118, hc⟩
   refine ⟨_, rfl, ?_⟩
   have hzw24 := hc.size
   have HC := HC.tr hc
   have hm := hm.no hc
   have hrnd := hrnd.no hc
   have hb3 := hb3.ch hc (fun h => h)
   have hb4 := hb4.ch hc (fun h => h)
   have hP29 := hP29.after hc
   have hb8 := hb8.ch hc (fun h => h)
   have hb10 := hb10.ch hc (fun h => h)
   have hb12 := hb12.ch hc (fun h => h)
   have hb15 := hb15.ch hc (fun h => h)
   have hb18 := hb18.ch hc (fun h => h)
   have hb21 := hb21.ch hc (fun h => h)
   have hKl118 := hK118.len
   have hK118 := hK118.mono (G := fun k => w23.heap.size ≤ k ∧ k < w24.heap.size) (fun k h1 h2 => ⟨h2, h1⟩)
   refine wl_g (gd_ rfl rfl rfl rfl rfl rfl) rfl rfl (p_mv rfl) ?_
   refine wle_g (gd_ rfl rfl rfl rfl rfl rfl) (e_call ent63 rfl rfl (rkeys27 (hP29.si) (by omega)) ?_)
   rintro _ w25 ⟨A120, c120, l120, rfl, hK120, hc⟩
   refine ⟨_, rfl, ?_⟩
   have hzw25 := hc.size
   have HC := HC.tr hc
   have hm := hm.no hc
   have hrnd := hrnd.no hc
   have hb3 := hb3.ch hc (fun h => h)
   have hb4 := hb4.ch hc (fun h => h)
   have hP29 := hP29.after hc
   have hb8 := hb8.ch hc (fun h => h)
   have hb10 := hb10.ch hc (fun h => h)
   have hb12 := hb12.ch hc (fun h => h)
   have hb15 := hb15.ch hc (fun h => h)
   have hb18 := hb18.ch hc (fun h => h)
   have hb21 := hb21.ch hc (fun h => h)
   have hK118 := hK118.after hc
   have hKl120 := hK120.len
   have hK120 := hK120.mono (G := fun k => w24.heap.size ≤ k ∧ k < w25.heap.size) (fun k h1 h2 => ⟨h2, h1⟩)
   have hlk118 : l118 ≤ 1000000 := by rw [← hKl118]; exact Nat.le_trans keysN_le (by omega)
   refine wle_g (gd_ rfl rfl rfl rfl rfl rfl) (e_call ent61 rfl rfl (hashes27 (hK118.si) (hK120.si) (by omega)) ?_)
   rintro _ w26 ⟨rfl, hc⟩
   refine ⟨_, rfl, ?_⟩
   have hzw26 := hc.size
   have HC := HC.tr hc
   have hm := hm.no hc
   have hrnd := hrnd.no hc
   have hb3 := hb3.ch hc (fun h => h)
   have hb4 := hb4.ch hc (fun h => h)
   have hP29 := hP29.after hc
   have hb8 := hb8.ch hc (fun h => h)
   have hb10 := hb10.ch hc (fun h => h)
   have hb12 := hb12.ch hc (fun h => h)
   have hb15 := hb15.ch hc (fun h => h)
   have hb18 := hb18.ch hc (fun h => h)
   have hb21 := hb21.ch hc (fun h => h)
   have hK118 := hK118.after hc
   have hK120 := hK120.after hc
   refine wl rfl rfl rfl (p_pickT rfl rfl) ?_
   refine wl rfl rfl rfl (p_mv rfl) ?_
   refine wle_g (gd_ rfl rfl rfl rfl rfl rfl) (e_call ent20 rfl rfl (lives27_any hrnd) ?_)
   rintro _ w27 ⟨rfl, hc⟩
   refine ⟨_, rfl, ?_⟩
   have hzw27 := hc.size
   have HC := HC.tr hc
   have hm := hm.no hc
   have hrnd := hrnd.no hc
   have hb3 := hb3.ch hc (fun h => h)
   have hb4 := hb4.ch hc (fun h => h)
   have hP29 := hP29.after hc
   have hb8 := hb8.ch hc (fun h => h)
   have hb10 := hb10.ch hc (fun h => h)
   have hb12 := hb12.ch hc (fun h => h)
   have hb15 := hb15.ch hc (fun h => h)
   have hb18 := hb18.ch hc (fun h => h)
   have hb21 := hb21.ch hc (fun h => h)
   have hK118 := hK118.after hc
   have hK120 := hK120.after hc
   refine wl rfl rfl rfl (p_pickT rfl rfl) ?_
   refine wl rfl rfl rfl (p_as rfl) ?_
   refine wl_nil ?_
   refine x_seq ?_
   refine wc_ret ?_
   refine fin_run ((res1 rfl rfl)) ?_
   exact ⟨rfl, HC⟩
end Go.Proofs.YtkfkdakghjlenaaDoor
