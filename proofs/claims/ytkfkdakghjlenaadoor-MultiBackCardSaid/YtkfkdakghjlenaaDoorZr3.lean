/-
  Own text, printed by a program of mine (wip/gx): what functions of the program do, walked operation by operation.
-/
import Derived.Test.YtkfkdakghjlenaaDoorProg
import Derived.Test.YtkfkdakghjlenaaDoorGxAgg
import Derived.Test.YtkfkdakghjlenaaDoorTab
import Derived.Test.YtkfkdakghjlenaaDoorGxZer
import Derived.Test.YtkfkdakghjlenaaDoorGxLay
import Derived.Test.YtkfkdakghjlenaaDoorPlPack
import Derived.Test.YtkfkdakghjlenaaDoorPlSum
import Derived.Test.YtkfkdakghjlenaaDoorPlSha
import Derived.Test.YtkfkdakghjlenaaDoorPlTag
import Derived.Test.YtkfkdakghjlenaaDoorPlBits
import Derived.Test.YtkfkdakghjlenaaDoorPlShaSt
import Derived.Test.YtkfkdakghjlenaaDoorPlShaB
import Derived.Test.YtkfkdakghjlenaaDoorPlTrie
import Derived.Test.YtkfkdakghjlenaaDoorPlTrieSt
import Derived.Test.YtkfkdakghjlenaaDoorGxRec
import Derived.Test.YtkfkdakghjlenaaDoorGxYld
import Derived.Test.YtkfkdakghjlenaaDoorPlTrieFil
import Derived.Test.YtkfkdakghjlenaaDoorOnceC
import Derived.Test.YtkfkdakghjlenaaDoorPlTrieW
import Derived.Test.YtkfkdakghjlenaaDoorPlMulti
import Derived.Test.YtkfkdakghjlenaaDoorPlEncs
import Derived.Test.YtkfkdakghjlenaaDoorGxMark
import Derived.Test.YtkfkdakghjlenaaDoorPlTrieLaw
import Derived.Test.YtkfkdakghjlenaaDoorPlTrieAct
import Derived.Test.YtkfkdakghjlenaaDoorGxFun
import Derived.Test.YtkfkdakghjlenaaDoorGxPair
import Derived.Test.YtkfkdakghjlenaaDoorPlMany
import Derived.Test.YtkfkdakghjlenaaDoorGxCon
import Derived.Test.YtkfkdakghjlenaaDoorZr0
import Derived.Test.YtkfkdakghjlenaaDoorZr1
import Derived.Test.YtkfkdakghjlenaaDoorZr2
set_option linter.unusedVariables false
set_option linter.unusedSimpArgs false
namespace Go.Proofs.YtkfkdakghjlenaaDoor
open Go.RowKit Go.Gx
open Go.Plain
set_option maxHeartbeats 8000000 in
set_option maxRecDepth 20000 in
theorem mread27 {w : World} {Ax : Option Addr} {lx cx : Nat} {Fx : Nat → Prop} {xs : List UInt8} (hxs : Sl w Fx u8v Ax lx cx xs) (hlx : lx ≤ 1000000) (hrnd : Sl w (fun k => k = 0) u32v (some ⟨0, 0, none⟩) 64 64 rk) :
    Calls Tryd.prog 64 #[.slice Ax lx cx] w fun e w' => ∃ A lr c ns ec, e = .returned (.tuple #[.slice A lr c, i64 ec]) ∧ SI w' (fun k => w.heap.size ≤ k) eND A lr c ns ∧ (ec = 0 ∧ ReadOK xs ns ∨ ec = 4 ∧ ¬ ∃ n, ReadOK xs n) ∧ Ch No w w' := by
  have hn0 : 0 < w.heap.size := hrnd.size (by omega) rfl
  have hn1 := hn0
  have hxl := hxs.len
  have hxs := hxs.old
  have HC : Ch No w w := Ch.refl _ _
  refine enter' (args := [.slice Ax lx cx]) (n := 62) Tryd.func64 rfl rfl rfl ?_
  refine wc_seq ?_
  refine wc_region ?_
  refine wle rfl (e_box (cs := #[_]) rfl rfl rfl (fun w1 g1 hg1 hb1 hc hsz1 => ?_))
  have hzw1 := hc.size
  have HC := HC.tr hc
  have hxs := hxs.no hc
  have hrnd := hrnd.no hc
  have hge1 : w.heap.size ≤ g1 := by have := HC.size; omega
  refine wl rfl rfl rfl (p_as rfl) ?_
  refine wl rfl rfl rfl (p_as rfl) ?_
  refine wl_nil ?_
  refine x_seq ?_
  refine wc_seq ?_
  refine wc_region ?_
  have hltg1 := hb1.lt
  refine wle rfl (e_alloc (cs := #[.bool false]) rfl (by rfl) rfl (fun w2 g4 hg4 hb4 hc hsz4 => ?_))
  have hzw2 := hc.size
  have HC := HC.tr hc
  have hxs := hxs.no hc
  have hrnd := hrnd.no hc
  have hb1 := hb1.ch hc (fun h => h)
  have hge4 : w.heap.size ≤ g4 := by have := HC.size; omega
  have neg1_4 : g1 < g4 := by omega
  refine wle rfl (e_st1 (by rfl) rfl rfl rfl hb4 (fun w3 hb4 hc hsz => ?_))
  have hzw3 := hc.size
  have HC := HC.trans hc (fun _ _ h => h) (fun k hk ht => absurd ht (by omega))
  have hxs := hxs.ch hc (by intro k hk ht; omega)
  first | have hrnd := hrnd.ch hc (by intro k hk ht; omega) | have hrnd := hrnd.chT hc (by intro k hz hk ht; omega)
  have hb1 := hb1.ch hc (by omega)
  refine wl_nil ?_
  refine x_seq ?_
  refine wc_seq ?_
  refine wc_region ?_
  refine wl rfl rfl rfl (p_mkf rfl) ?_
  refine wl rfl rfl rfl (p_as rfl) ?_
  refine wl_nil ?_
  refine x_seq ?_
  refine wc_seq ?_
  refine wc_region ?_
  refine wl rfl rfl rfl (p_as rfl) ?_
  refine wl_nil ?_
  refine x_seq ?_
  refine wc_seq ?_
  refine wc_block ?_
  refine wc_loop (e' := [(1, .pointer (some ⟨g1, 0, none⟩)), (4, .pointer (some ⟨g4, 0, none⟩)), (5, .func (.func 93) #[] #[.pointer (some ⟨g4, 0, none⟩), .pointer (some ⟨g1, 0, none⟩)]), (6, .slice (none) (0) (0))]) (fun mz ez uz => ∃ ys : List ND, ∃ bs : List UInt8, ∃ bd : Bool, ∃ At : Option Addr, ∃ lt : Nat, ∃ ct : Nat, ∃ A : Option Addr, ∃ lw : Nat, ∃ c : Nat, mz = lt ∧ ez = [(1, .pointer (some ⟨g1, 0, none⟩)), (4, .pointer (some ⟨g4, 0, none⟩)), (5, .func (.func 93) #[] #[.pointer (some ⟨g4, 0, none⟩), .pointer (some ⟨g1, 0, none⟩)]), (6, .slice A lw c)] ∧ (RInv xs ys bs bd) ∧ (lw + lt ≤ lx) ∧ (RI uz (fun k => w.heap.size ≤ k ∧ k ≠ g1 ∧ k ≠ g4) 115 eND A lw c ys) ∧ (Blk uz g4 4 #[.bool bd]) ∧ (Blk uz g1 107 #[.slice At lt ct]) ∧ (Sl uz (fun k => k < w.heap.size) u8v At lt ct bs) ∧ (Sl uz (fun k => k = 0) u32v (some ⟨0, 0, none⟩) 64 64 rk) ∧ (w.heap.size ≤ g1 ∧ g1 < g4) ∧ (Ch No w uz))
   ⟨rfl, rfl, rfl, rfl, trivial⟩ ⟨[], xs, false, Ax, lx, cx, none, 0, 0, rfl, rfl, ⟨fun _ => ⟨by simp, by simp⟩, fun h => by simp at h⟩, (by omega), RI.nil _ _ _ _, hb4, hb1, hxs, hrnd, (by omega), HC⟩ ?_
  rintro m0 e w4 ⟨ys, bs, bd, At, lt, ct, A, lw, c, hm0, rfl, hinv, hlw, hW, hb4, hb1, hbs, hrnd, hgo, HC⟩
  have hzw4 := HC.size
  have hbl := hbs.len
  refine wc_seq ?_
  refine wc_seq ?_
  refine wc_region ?_
  refine wl rfl rfl rfl (p_ld Tryd.underlying107 rfl rfl (ld (hb1.cell rfl))) ?_
  refine wl rfl rfl rfl (p_lenS Tryd.underlying107 rfl) ?_
  refine wl rfl rfl rfl (p_gt rfl rfl) ?_
  refine wl rfl rfl rfl (p_mv rfl) ?_
  refine wl_split (d := 12) rfl (fun q12 => ?_) (fun q12 => ?_)
  ·
   have q12 := of_decide_eq_true q12
   refine wl_g (gd_ rfl rfl rfl rfl rfl rfl) rfl rfl (p_ld Tryd.underlying4 rfl rfl (ld (hb4.cell rfl))) ?_
   refine wl_g (gd_ rfl rfl rfl rfl rfl rfl) rfl rfl (p_not rfl) ?_
   refine wl rfl rfl rfl (p_pickT rfl rfl) ?_
   refine wl_nil ?_
   refine x_seq ?_
   refine wc_if rfl (fun c0 => ?_) (fun c0 => ?_)
   ·
    obtain rfl : bd = false := by simpa using c0
    refine wc_skip ?_
    refine x_seq ?_
    refine wc_block ?_
    refine wc_seq ?_
    refine wc_region ?_
    refine wl rfl rfl rfl (p_mv rfl) ?_
    refine wle rfl (e_callV ent93 rfl rfl rfl (take_ok (n := 1) hb4 hb1 hbs (fun k hk => ⟨by omega, by omega, by omega⟩) (by omega) (by omega)) ?_)
    rintro _ w5 ⟨A17, c17, At17, ct17, rfl, hS17, hb4, hb1, hbs, hc⟩
    refine ⟨_, rfl, ?_⟩
    have hzw5 := hc.size
    have HC := HC.trans hc (fun _ _ h => h) (fun k hk ht => absurd ht (by omega))
    have hW := hW.afterT hc (by intro k hz hk ht; omega)
    first | have hrnd := hrnd.ch hc (by intro k hk ht; omega) | have hrnd := hrnd.chT hc (by intro k hz hk ht; omega)
    obtain ⟨lt17, hlt17⟩ : ∃ z, z = lt - 1 := ⟨_, rfl⟩
    obtain ⟨bs17, hbsd17⟩ : ∃ z, z = bs.drop 1 := ⟨_, rfl⟩
    rw [← hlt17] at hb1 hbs
    rw [← hbsd17] at hbs
    have hbl17 := hbs.len
    obtain ⟨b6, o6, hA6, hF6, hc6⟩ := (hS17).opn (d := 0) (by omega)
    refine wl rfl rfl rfl (p_ixS1 (j := 0) Tryd.underlying107 sz5 rfl hA6 rfl (by omega) (by omega) rfl) ?_
    refine wl rfl rfl rfl (p_ld Tryd.underlying5 rfl rfl (ld (hc6 _ (by omega)))) ?_
    obtain ⟨hb01, hb02⟩ := byte_head (bs := bs) (by omega)
    obtain ⟨v0, hv0⟩ : ∃ z, z = (bs.take 1).getD 0 0 := ⟨_, rfl⟩
    rw [← hv0] at hb01 hb02
    rw [← hbsd17] at hb02
    rw [← hv0]
    have hv0l := v0.toNat_lt
    refine wl rfl rfl rfl (p_conv Tryd.underlying5 Tryd.underlying3 rfl (wB_i64 _)) ?_
    refine wl rfl rfl rfl (p_bldX (vs' := [i64 (v0.toNat : Int)]) (cs := (([i64 (v0.toNat : Int), Value.int .i64 0] ++ ((List.map u8v (List.replicate 32 (0 : UInt8))) ++ (List.map u8v (List.replicate 32 (0 : UInt8))))) : List Value)) (cs' := (([i64 (v0.toNat : Int), Value.int .i64 0] ++ ((hx (List.replicate 32 (0 : UInt8))) ++ (hx (List.replicate 32 (0 : UInt8))))) : List Value)) rfl rfl (by simp only [hv, map_hx (List.length_replicate ..)] <;> rfl) (fun _ => by kernel_rfl)) ?_
    have hltg4 := hb4.lt
    have hltg1 := hb1.lt
    refine wle rfl (e_alloc (cs := (([Value.int .i64 0, Value.int .i64 0] ++ ((List.map u8v (List.replicate 32 (0 : UInt8))) ++ (List.map u8v (List.replicate 32 (0 : UInt8))))) : List Value).toArray) rfl (by rfl) (by rfl) (fun w7 g7 hg7 hb7 hc hsz7 => ?_))
    have hzw7 := hc.size
    have HC := HC.tr hc
    have hW := hW.after hc
    have hrnd := hrnd.no hc
    have hb4 := hb4.ch hc (fun h => h)
    have hb1 := hb1.ch hc (fun h => h)
    have hbs := hbs.no hc
    have hS17 := hS17.no hc
    have hge7 : w.heap.size ≤ g7 := by have := HC.size; omega
    have neg4_7 : g4 < g7 := by omega
    have neg1_7 : g1 < g7 := by omega
    refine wle rfl (e_stW (vs := (([i64 (v0.toNat : Int), Value.int .i64 0] ++ ((List.map u8v (List.replicate 32 (0 : UInt8))) ++ (List.map u8v (List.replicate 32 (0 : UInt8))))) : List Value)) (szL sz115 (by first | rfl | (simp only [List.length_append, List.length_map, List.length_cons, List.length_nil, (show List.length (List.replicate 32 (0 : UInt8)) = 32 from (List.length_replicate ..)), (show List.length (List.replicate 32 (0 : UInt8)) = 32 from (List.length_replicate ..))]; done) | (simp only [List.length_append, List.length_map, List.length_cons, List.length_nil, List.size_toArray, (show List.length (List.replicate 32 (0 : UInt8)) = 32 from (List.length_replicate ..)), (show List.length (List.replicate 32 (0 : UInt8)) = 32 from (List.length_replicate ..))]; done))) (oneA (allOne rfl) (oneA (oneL one_u8 _) (oneL one_u8 _))) rfl rfl hb7 (by first | rfl | (simp only [List.length_append, List.length_map, List.length_cons, List.length_nil, (show List.length (List.replicate 32 (0 : UInt8)) = 32 from (List.length_replicate ..)), (show List.length (List.replicate 32 (0 : UInt8)) = 32 from (List.length_replicate ..)), (show List.length (List.replicate 32 (0 : UInt8)) = 32 from (List.length_replicate ..)), (show List.length (List.replicate 32 (0 : UInt8)) = 32 from (List.length_replicate ..))]; done) | (simp only [List.length_append, List.length_map, List.length_cons, List.length_nil, List.size_toArray, (show List.length (List.replicate 32 (0 : UInt8)) = 32 from (List.length_replicate ..)), (show List.length (List.replicate 32 (0 : UInt8)) = 32 from (List.length_replicate ..)), (show List.length (List.replicate 32 (0 : UInt8)) = 32 from (List.length_replicate ..)), (show List.length (List.replicate 32 (0 : UInt8)) = 32 from (List.length_replicate ..))]; done)) (fun w8 hb7 hc hsz => ?_))
    have hzw8 := hc.size
    have HC := HC.trans hc (fun _ _ h => h) (fun k hk ht => absurd ht (by omega))
    have hW := hW.ch hc (by intro k hz hk ht; omega)
    first | have hrnd := hrnd.ch hc (by intro k hk ht; omega) | have hrnd := hrnd.chT hc (by intro k hz hk ht; omega)
    have hb4 := hb4.ch hc (by omega)
    have hb1 := hb1.ch hc (by omega)
    have hbs := hbs.ch hc (by intro k hk ht; omega)
    first | have hS17 := hS17.ch hc (by intro k hk ht; omega) | have hS17 := hS17.chT hc (by intro k hz hk ht; omega)
    refine wl_nil ?_
    refine x_seq ?_
    refine wc_seq ?_
    refine wc_seq ?_
    refine wc_region ?_
    refine wl rfl rfl rfl (p_fld (j := 0) Tryd.underlying115 rfl ⟨_, by rfl⟩ rfl rfl) ?_
    refine wl rfl rfl rfl (p_ld Tryd.underlying3 rfl rfl (ld (cell_at (p := []) (v := (i64 (v0.toNat : Int) : Value)) (r := (([Value.int .i64 0] ++ ((List.map u8v (List.replicate 32 (0 : UInt8))) ++ (List.map u8v (List.replicate 32 (0 : UInt8))))) : List Value)) hb7 (by simp only [List.append_assoc, List.cons_append, List.nil_append, List.append_nil]) (by first | rfl | (simp only [List.length_append, List.length_map, List.length_cons, List.length_nil]; done) | (simp only [List.length_append, List.length_map, List.length_cons, List.length_nil, List.size_toArray]; done))))) ?_
    refine wl_nil ?_
    refine x_seq ?_
    refine wc_block ?_
    refine wc_seq ?_
    refine wc_region ?_
    refine wl rfl rfl rfl (p_eq rfl rfl) ?_
    refine wl rfl rfl rfl (p_as rfl) ?_
    refine wl_nil ?_
    refine x_seq ?_
    refine wc_if rfl (fun c1 => ?_) (fun c1 => ?_)
    ·
     have c1 := of_decide_eq_true c1
     rcases (show lt17 < 32 ∨ 32 ≤ lt17 by omega) with hsp | hsp
     ·
      refine wc_region ?_
      refine wl rfl rfl rfl (p_mv rfl) ?_
      refine wle rfl (e_callV ent93 rfl rfl rfl (take_no32 hb4 hb1 hbs (fun k hk => ⟨by omega, by omega, by omega⟩) (by omega) (.inr (by omega))) ?_)
      rintro _ w9 ⟨A27, c27, rfl, hS27, hb4, hb1, hbs, hc⟩
      refine ⟨_, rfl, ?_⟩
      have hzw9 := hc.size
      have HC := HC.trans hc (fun _ _ h => h) (fun k hk ht => absurd ht (by omega))
      have hW := hW.afterT hc (by intro k hz hk ht; omega)
      first | have hrnd := hrnd.ch hc (by intro k hk ht; omega) | have hrnd := hrnd.chT hc (by intro k hz hk ht; omega)
      first | have hS17 := hS17.ch hc (by intro k hk ht; omega) | have hS17 := hS17.chT hc (by intro k hz hk ht; omega)
      have hb7 := hb7.ch hc (by omega)
      obtain ⟨b28, o28, hA28, hF28, hr28⟩ := hS27.rng (by omega)
      refine wl rfl rfl rfl ((p_s2a Tryd.underlying38 rfl (by omega)).to (congrArg Value.pointer hA28)) ?_
      refine wl rfl rfl rfl (p_ldH (L := (List.replicate 32 (0 : UInt8))) Tryd.underlying38 sz38 (List.length_replicate ..) rfl (fun _ e => e ▸ hr28)) ?_
      refine wl rfl rfl rfl (p_fld (j := 34) Tryd.underlying115 rfl ⟨_, by rfl⟩ rfl rfl) ?_
      refine wle rfl (e_stR2 (p := (([i64 (v0.toNat : Int), Value.int .i64 0] ++ (List.map u8v (List.replicate 32 (0 : UInt8)))) : List Value)) (q := ((List.map u8v (List.replicate 32 (0 : UInt8))) : List Value)) (r := []) (vs := ((List.map u8v (List.replicate 32 (0 : UInt8))) : List Value)) (szL sz38 (by first | rfl | (simp only [List.length_append, List.length_map, List.length_cons, List.length_nil, (show List.length (List.replicate 32 (0 : UInt8)) = 32 from (List.length_replicate ..))]; done) | (simp only [List.length_append, List.length_map, List.length_cons, List.length_nil, List.size_toArray, (show List.length (List.replicate 32 (0 : UInt8)) = 32 from (List.length_replicate ..))]; done))) (oneL one_u8 _) rfl rfl hb7 (by simp only [List.append_assoc, List.cons_append, List.nil_append, List.append_nil]) (by first | rfl | (simp only [List.length_append, List.length_map, List.length_cons, List.length_nil, (show List.length (List.replicate 32 (0 : UInt8)) = 32 from (List.length_replicate ..))]; done) | (simp only [List.length_append, List.length_map, List.length_cons, List.length_nil, List.size_toArray, (show List.length (List.replicate 32 (0 : UInt8)) = 32 from (List.length_replicate ..))]; done)) (by first | rfl | (simp only [List.length_append, List.length_map, List.length_cons, List.length_nil, (show List.length (List.replicate 32 (0 : UInt8)) = 32 from (List.length_replicate ..)), (show List.length (List.replicate 32 (0 : UInt8)) = 32 from (List.length_replicate ..))]; done) | (simp only [List.length_append, List.length_map, List.length_cons, List.length_nil, List.size_toArray, (show List.length (List.replicate 32 (0 : UInt8)) = 32 from (List.length_replicate ..)), (show List.length (List.replicate 32 (0 : UInt8)) = 32 from (List.length_replicate ..))]; done)) (fun w10 hb7 hc hsz => ?_))
      have hb7 : Blk w10 g7 115 (([i64 (v0.toNat : Int), Value.int .i64 0] ++ ((List.map u8v (List.replicate 32 (0 : UInt8))) ++ (List.map u8v (List.replicate 32 (0 : UInt8))))) : List Value).toArray := by have h := hb7; simp only [List.append_assoc, List.cons_append, List.nil_append, List.append_nil] at h ⊢; exact h
      have hzw10 := hc.size
      have HC := HC.trans hc (fun _ _ h => h) (fun k hk ht => absurd ht (by omega))
      have hW := hW.ch hc (by intro k hz hk ht; omega)
      first | have hrnd := hrnd.ch hc (by intro k hk ht; omega) | have hrnd := hrnd.chT hc (by intro k hz hk ht; omega)
      first | have hS17 := hS17.ch hc (by intro k hk ht; omega) | have hS17 := hS17.chT hc (by intro k hz hk ht; omega)
      have hb4 := hb4.ch hc (by omega)
      have hb1 := hb1.ch hc (by omega)
      have hbs := hbs.ch hc (by intro k hk ht; omega)
      first | have hS27 := hS27.ch hc (by intro k hk ht; omega) | have hS27 := hS27.chT hc (by intro k hz hk ht; omega)
      refine wl_nil ?_
      refine x_in_normal ?_
      refine x_seq ?_
      refine wc_region ?_
      refine wl rfl rfl rfl (p_mv rfl) ?_
      refine wl rfl rfl rfl (p_ldA (cs := (([i64 (v0.toNat : Int), Value.int .i64 0] ++ ((List.map u8v (List.replicate 32 (0 : UInt8))) ++ (List.map u8v (List.replicate 32 (0 : UInt8))))) : List Value)) Tryd.underlying115 rfl (szL sz115 (by first | rfl | (simp only [List.length_append, List.length_map, List.length_cons, List.length_nil, (show List.length (List.replicate 32 (0 : UInt8)) = 32 from (List.length_replicate ..)), (show List.length (List.replicate 32 (0 : UInt8)) = 32 from (List.length_replicate ..))]; done) | (simp only [List.length_append, List.length_map, List.length_cons, List.length_nil, List.size_toArray, (show List.length (List.replicate 32 (0 : UInt8)) = 32 from (List.length_replicate ..)), (show List.length (List.replicate 32 (0 : UInt8)) = 32 from (List.length_replicate ..))]; done))) rfl (fun _ e => e ▸ rngL hb7)) ?_
      have hltg7 := hb7.lt
      have hltg4 := hb4.lt
      have hltg1 := hb1.lt
      refine wle rfl (e_bslX (E := 115) (cs := (([i64 (v0.toNat : Int), Value.int .i64 0] ++ ((List.map u8v (List.replicate 32 (0 : UInt8))) ++ (List.map u8v (List.replicate 32 (0 : UInt8))))) : List Value)) (cs' := (([i64 (v0.toNat : Int), Value.int .i64 0] ++ ((hx (List.replicate 32 (0 : UInt8))) ++ (hx (List.replicate 32 (0 : UInt8))))) : List Value)) rfl rfl (by simp only [hv, map_hx (List.length_replicate ..)] <;> rfl) (fun _ => by kernel_rfl) (fun w11 g53 hg53 hb53 hc hsz53 => ?_))
      have hzw11 := hc.size
      have HC := HC.tr hc
      have hW := hW.after hc
      have hrnd := hrnd.no hc
      have hS17 := hS17.no hc
      have hb7 := hb7.ch hc (fun h => h)
      have hb4 := hb4.ch hc (fun h => h)
      have hb1 := hb1.ch hc (fun h => h)
      have hbs := hbs.no hc
      have hS27 := hS27.no hc
      have hge53 : w.heap.size ≤ g53 := by have := HC.size; omega
      have hS53 := SI.oneA (E := eND) (x := ⟨(v0.toNat : Int), (0), (List.replicate 32 (0 : UInt8)), (List.replicate 32 (0 : UInt8))⟩) hb53 rfl ⟨(List.length_replicate ..), (List.length_replicate ..)⟩
      have hltg7 := hb7.lt
      have hltg4 := hb4.lt
      have hltg1 := hb1.lt
      refine wle rfl (e_appI rfl el33 rfl rfl hW (hS53) (by omega) (by intro k hk; first | omega | (dsimp only at *; omega)) (fun w12 A54 c54 hW hc => ?_))
      have hzw12 := hc.size
      have HC := HC.trans hc (fun _ _ h => h) (fun k hk ht => absurd ht (by omega))
      first | have hrnd := hrnd.ch hc (by intro k hk ht; omega) | have hrnd := hrnd.chT hc (by intro k hz hk ht; omega)
      first | have hS17 := hS17.ch hc (by intro k hk ht; omega) | have hS17 := hS17.chT hc (by intro k hz hk ht; omega)
      have hb7 := hb7.ch hc (by omega)
      have hb4 := hb4.ch hc (by omega)
      have hb1 := hb1.ch hc (by omega)
      have hbs := hbs.ch hc (by intro k hk ht; omega)
      first | have hS27 := hS27.ch hc (by intro k hk ht; omega) | have hS27 := hS27.chT hc (by intro k hz hk ht; omega)
      first | have hS53 := hS53.ch hc (by intro k hk ht; omega) | have hS53 := hS53.chT hc (by intro k hz hk ht; omega)
      refine wl rfl rfl rfl (p_as rfl) ?_
      refine wl_nil ?_
      refine x_in_normal ?_
      refine x_round (e' := [(1, .pointer (some ⟨g1, 0, none⟩)), (4, .pointer (some ⟨g4, 0, none⟩)), (5, .func (.func 93) #[] #[.pointer (some ⟨g4, 0, none⟩), .pointer (some ⟨g1, 0, none⟩)]), (6, .slice (_) (_) (_))]) ⟨rfl, rfl, rfl, rfl, trivial⟩ (by rw [hm0]; omega) ⟨_, bs17, true, At17, lt17, ct17, _, _, _, rfl, rfl, (RInv.short hinv hb01 (.inl ⟨c1, by omega⟩) _), (by omega), (hW.mono (fun k _ hk => by (try simp only [and_assoc] at hk); exact ⟨hk.1, hk.2.1, by first | exact hk.2.2 | exact hk.2.2.1⟩)), hb4, hb1, hbs, hrnd, hgo, HC⟩
     ·
      refine wc_region ?_
      refine wl rfl rfl rfl (p_mv rfl) ?_
      refine wle rfl (e_callV ent93 rfl rfl rfl (take_ok (n := 32) hb4 hb1 hbs (fun k hk => ⟨by omega, by omega, by omega⟩) (by omega) (by omega)) ?_)
      rintro _ w13 ⟨A27, c27, At27, ct27, rfl, hS27, hb4, hb1, hbs, hc⟩
      refine ⟨_, rfl, ?_⟩
      have hzw13 := hc.size
      have HC := HC.trans hc (fun _ _ h => h) (fun k hk ht => absurd ht (by omega))
      have hW := hW.afterT hc (by intro k hz hk ht; omega)
      first | have hrnd := hrnd.ch hc (by intro k hk ht; omega) | have hrnd := hrnd.chT hc (by intro k hz hk ht; omega)
      first | have hS17 := hS17.ch hc (by intro k hk ht; omega) | have hS17 := hS17.chT hc (by intro k hz hk ht; omega)
      have hb7 := hb7.ch hc (by omega)
      obtain ⟨lt27, hlt27⟩ : ∃ z, z = lt17 - 32 := ⟨_, rfl⟩
      obtain ⟨bs27, hbsd27⟩ : ∃ z, z = bs17.drop 32 := ⟨_, rfl⟩
      rw [← hlt27] at hb1 hbs
      rw [← hbsd27] at hbs
      have hbl27 := hbs.len
      obtain ⟨b28, o28, hA28, hF28, hr28⟩ := hS27.rng (by omega)
      refine wl rfl rfl rfl ((p_s2a Tryd.underlying38 rfl (by omega)).to (congrArg Value.pointer hA28)) ?_
      refine wl rfl rfl rfl (p_ldH (L := (bs17.take 32)) Tryd.underlying38 sz38 hS27.len rfl (fun _ e => e ▸ hr28)) ?_
      refine wl rfl rfl rfl (p_fld (j := 34) Tryd.underlying115 rfl ⟨_, by rfl⟩ rfl rfl) ?_
      refine wle rfl (e_stR2 (p := (([i64 (v0.toNat : Int), Value.int .i64 0] ++ (List.map u8v (List.replicate 32 (0 : UInt8)))) : List Value)) (q := ((List.map u8v (List.replicate 32 (0 : UInt8))) : List Value)) (r := []) (vs := ((List.map u8v (bs17.take 32)) : List Value)) (szL sz38 (by first | rfl | (simp only [List.length_append, List.length_map, List.length_cons, List.length_nil, (show List.length (bs17.take 32) = 32 from hS27.len)]; done) | (simp only [List.length_append, List.length_map, List.length_cons, List.length_nil, List.size_toArray, (show List.length (bs17.take 32) = 32 from hS27.len)]; done))) (oneL one_u8 _) rfl rfl hb7 (by simp only [List.append_assoc, List.cons_append, List.nil_append, List.append_nil]) (by first | rfl | (simp only [List.length_append, List.length_map, List.length_cons, List.length_nil, (show List.length (List.replicate 32 (0 : UInt8)) = 32 from (List.length_replicate ..))]; done) | (simp only [List.length_append, List.length_map, List.length_cons, List.length_nil, List.size_toArray, (show List.length (List.replicate 32 (0 : UInt8)) = 32 from (List.length_replicate ..))]; done)) (by first | rfl | (simp only [List.length_append, List.length_map, List.length_cons, List.length_nil, (show List.length (bs17.take 32) = 32 from hS27.len), (show List.length (List.replicate 32 (0 : UInt8)) = 32 from (List.length_replicate ..))]; done) | (simp only [List.length_append, List.length_map, List.length_cons, List.length_nil, List.size_toArray, (show List.length (bs17.take 32) = 32 from hS27.len), (show List.length (List.replicate 32 (0 : UInt8)) = 32 from (List.length_replicate ..))]; done)) (fun w14 hb7 hc hsz => ?_))
      have hb7 : Blk w14 g7 115 (([i64 (v0.toNat : Int), Value.int .i64 0] ++ ((List.map u8v (List.replicate 32 (0 : UInt8))) ++ (List.map u8v (bs17.take 32)))) : List Value).toArray := by have h := hb7; simp only [List.append_assoc, List.cons_append, List.nil_append, List.append_nil] at h ⊢; exact h
      have hzw14 := hc.size
      have HC := HC.trans hc (fun _ _ h => h) (fun k hk ht => absurd ht (by omega))
      have hW := hW.ch hc (by intro k hz hk ht; omega)
      first | have hrnd := hrnd.ch hc (by intro k hk ht; omega) | have hrnd := hrnd.chT hc (by intro k hz hk ht; omega)
      first | have hS17 := hS17.ch hc (by intro k hk ht; omega) | have hS17 := hS17.chT hc (by intro k hz hk ht; omega)
      have hb4 := hb4.ch hc (by omega)
      have hb1 := hb1.ch hc (by omega)
      have hbs := hbs.ch hc (by intro k hk ht; omega)
      first | have hS27 := hS27.ch hc (by intro k hk ht; omega) | have hS27 := hS27.chT hc (by intro k hz hk ht; omega)
      refine wl_nil ?_
      refine x_in_normal ?_
      refine x_seq ?_
      refine wc_region ?_
      refine wl rfl rfl rfl (p_mv rfl) ?_
      refine wl rfl rfl rfl (p_ldA (cs := (([i64 (v0.toNat : Int), Value.int .i64 0] ++ ((List.map u8v (List.replicate 32 (0 : UInt8))) ++ (List.map u8v (bs17.take 32)))) : List Value)) Tryd.underlying115 rfl (szL sz115 (by first | rfl | (simp only [List.length_append, List.length_map, List.length_cons, List.length_nil, (show List.length (List.replicate 32 (0 : UInt8)) = 32 from (List.length_replicate ..)), (show List.length (bs17.take 32) = 32 from hS27.len)]; done) | (simp only [List.length_append, List.length_map, List.length_cons, List.length_nil, List.size_toArray, (show List.length (List.replicate 32 (0 : UInt8)) = 32 from (List.length_replicate ..)), (show List.length (bs17.take 32) = 32 from hS27.len)]; done))) rfl (fun _ e => e ▸ rngL hb7)) ?_
      have hltg7 := hb7.lt
      have hltg4 := hb4.lt
      have hltg1 := hb1.lt
      refine wle rfl (e_bslX (E := 115) (cs := (([i64 (v0.toNat : Int), Value.int .i64 0] ++ ((List.map u8v (List.replicate 32 (0 : UInt8))) ++ (List.map u8v (bs17.take 32)))) : List Value)) (cs' := (([i64 (v0.toNat : Int), Value.int .i64 0] ++ ((hx (List.replicate 32 (0 : UInt8))) ++ (hx (bs17.take 32)))) : List Value)) rfl rfl (by simp only [hv, map_hx (List.length_replicate ..), map_hx hS27.len] <;> rfl) (fun _ => by kernel_rfl) (fun w15 g53 hg53 hb53 hc hsz53 => ?_))
      have hzw15 := hc.size
      have HC := HC.tr hc
      have hW := hW.after hc
      have hrnd := hrnd.no hc
      have hS17 := hS17.no hc
      have hb7 := hb7.ch hc (fun h => h)
      have hb4 := hb4.ch hc (fun h => h)
      have hb1 := hb1.ch hc (fun h => h)
      have hbs := hbs.no hc
      have hS27 := hS27.no hc
      have hge53 : w.heap.size ≤ g53 := by have := HC.size; omega
      have hS53 := SI.oneA (E := eND) (x := ⟨(v0.toNat : Int), (0), (List.replicate 32 (0 : UInt8)), (bs17.take 32)⟩) hb53 rfl ⟨(List.length_replicate ..), hS27.len⟩
      have hltg7 := hb7.lt
      have hltg4 := hb4.lt
      have hltg1 := hb1.lt
      refine wle rfl (e_appI rfl el33 rfl rfl hW (hS53) (by omega) (by intro k hk; first | omega | (dsimp only at *; omega)) (fun w16 A54 c54 hW hc => ?_))
      have hzw16 := hc.size
      have HC := HC.trans hc (fun _ _ h => h) (fun k hk ht => absurd ht (by omega))
      first | have hrnd := hrnd.ch hc (by intro k hk ht; omega) | have hrnd := hrnd.chT hc (by intro k hz hk ht; omega)
      first | have hS17 := hS17.ch hc (by intro k hk ht; omega) | have hS17 := hS17.chT hc (by intro k hz hk ht; omega)
      have hb7 := hb7.ch hc (by omega)
      have hb4 := hb4.ch hc (by omega)
      have hb1 := hb1.ch hc (by omega)
      have hbs := hbs.ch hc (by intro k hk ht; omega)
      first | have hS27 := hS27.ch hc (by intro k hk ht; omega) | have hS27 := hS27.chT hc (by intro k hz hk ht; omega)
      first | have hS53 := hS53.ch hc (by intro k hk ht; omega) | have hS53 := hS53.chT hc (by intro k hz hk ht; omega)
      refine wl rfl rfl rfl (p_as rfl) ?_
      refine wl_nil ?_
      refine x_in_normal ?_
      refine x_round (e' := [(1, .pointer (some ⟨g1, 0, none⟩)), (4, .pointer (some ⟨g4, 0, none⟩)), (5, .func (.func 93) #[] #[.pointer (some ⟨g4, 0, none⟩), .pointer (some ⟨g1, 0, none⟩)]), (6, .slice (_) (_) (_))]) ⟨rfl, rfl, rfl, rfl, trivial⟩ (by rw [hm0]; omega) ⟨_, bs27, false, At27, lt27, ct27, _, _, _, rfl, rfl, (by rw [hbsd27]; exact RInv.cutN hinv hb02 c1 (by omega)), (by omega), (hW.mono (fun k _ hk => by (try simp only [and_assoc] at hk); exact ⟨hk.1, hk.2.1, by first | exact hk.2.2 | exact hk.2.2.1⟩)), hb4, hb1, hbs, hrnd, hgo, HC⟩
    ·
     have c1 := of_decide_eq_false c1
     refine wc_seq ?_
     refine wc_region ?_
     refine wl rfl rfl rfl (p_eq rfl rfl) ?_
     refine wl rfl rfl rfl (p_as rfl) ?_
     refine wl_nil ?_
     refine x_seq ?_
     refine wc_if rfl (fun c2 => ?_) (fun c2 => ?_)
     ·
      have c2 := of_decide_eq_true c2
      refine wc_seq ?_
      rcases (show lt17 < 32 ∨ (32 ≤ lt17 ∧ lt17 < 64) ∨ 64 ≤ lt17 by omega) with hsp | hsp | hsp
      ·
       refine wc_region ?_
       refine wl rfl rfl rfl (p_mv rfl) ?_
       refine wle rfl (e_callV ent93 rfl rfl rfl (take_no32 hb4 hb1 hbs (fun k hk => ⟨by omega, by omega, by omega⟩) (by omega) (.inr (by omega))) ?_)
       rintro _ w17 ⟨A34, c34, rfl, hS34, hb4, hb1, hbs, hc⟩
       refine ⟨_, rfl, ?_⟩
       have hzw17 := hc.size
       have HC := HC.trans hc (fun _ _ h => h) (fun k hk ht => absurd ht (by omega))
       have hW := hW.afterT hc (by intro k hz hk ht; omega)
       first | have hrnd := hrnd.ch hc (by intro k hk ht; omega) | have hrnd := hrnd.chT hc (by intro k hz hk ht; omega)
       first | have hS17 := hS17.ch hc (by intro k hk ht; omega) | have hS17 := hS17.chT hc (by intro k hz hk ht; omega)
       have hb7 := hb7.ch hc (by omega)
       obtain ⟨b35, o35, hA35, hF35, hr35⟩ := hS34.rng (by omega)
       refine wl rfl rfl rfl ((p_s2a Tryd.underlying38 rfl (by omega)).to (congrArg Value.pointer hA35)) ?_
       refine wl rfl rfl rfl (p_ldH (L := (List.replicate 32 (0 : UInt8))) Tryd.underlying38 sz38 (List.length_replicate ..) rfl (fun _ e => e ▸ hr35)) ?_
       refine wl rfl rfl rfl (p_fld (j := 2) Tryd.underlying115 rfl ⟨_, by rfl⟩ rfl rfl) ?_
       refine wle rfl (e_stR2 (p := ([i64 (v0.toNat : Int), Value.int .i64 0] : List Value)) (q := ((List.map u8v (List.replicate 32 (0 : UInt8))) : List Value)) (r := ((List.map u8v (List.replicate 32 (0 : UInt8))) : List Value)) (vs := ((List.map u8v (List.replicate 32 (0 : UInt8))) : List Value)) (szL sz38 (by first | rfl | (simp only [List.length_append, List.length_map, List.length_cons, List.length_nil, (show List.length (List.replicate 32 (0 : UInt8)) = 32 from (List.length_replicate ..))]; done) | (simp only [List.length_append, List.length_map, List.length_cons, List.length_nil, List.size_toArray, (show List.length (List.replicate 32 (0 : UInt8)) = 32 from (List.length_replicate ..))]; done))) (oneL one_u8 _) rfl rfl hb7 (by simp only [List.append_assoc, List.cons_append, List.nil_append, List.append_nil]) (by first | rfl | (simp only [List.length_append, List.length_map, List.length_cons, List.length_nil]; done) | (simp only [List.length_append, List.length_map, List.length_cons, List.length_nil, List.size_toArray]; done)) (by first | rfl | (simp only [List.length_append, List.length_map, List.length_cons, List.length_nil, (show List.length (List.replicate 32 (0 : UInt8)) = 32 from (List.length_replicate ..)), (show List.length (List.replicate 32 (0 : UInt8)) = 32 from (List.length_replicate ..))]; done) | (simp only [List.length_append, List.length_map, List.length_cons, List.length_nil, List.size_toArray, (show List.length (List.replicate 32 (0 : UInt8)) = 32 from (List.length_replicate ..)), (show List.length (List.replicate 32 (0 : UInt8)) = 32 from (List.length_replicate ..))]; done)) (fun w18 hb7 hc hsz => ?_))
       have hb7 : Blk w18 g7 115 (([i64 (v0.toNat : Int), Value.int .i64 0] ++ ((List.map u8v (List.replicate 32 (0 : UInt8))) ++ (List.map u8v (List.replicate 32 (0 : UInt8))))) : List Value).toArray := by have h := hb7; simp only [List.append_assoc, List.cons_append, List.nil_append, List.append_nil] at h ⊢; exact h
       have hzw18 := hc.size
       have HC := HC.trans hc (fun _ _ h => h) (fun k hk ht => absurd ht (by omega))
       have hW := hW.ch hc (by intro k hz hk ht; omega)
       first | have hrnd := hrnd.ch hc (by intro k hk ht; omega) | have hrnd := hrnd.chT hc (by intro k hz hk ht; omega)
       first | have hS17 := hS17.ch hc (by intro k hk ht; omega) | have hS17 := hS17.chT hc (by intro k hz hk ht; omega)
       have hb4 := hb4.ch hc (by omega)
       have hb1 := hb1.ch hc (by omega)
       have hbs := hbs.ch hc (by intro k hk ht; omega)
       first | have hS34 := hS34.ch hc (by intro k hk ht; omega) | have hS34 := hS34.chT hc (by intro k hz hk ht; omega)
       refine wl_nil ?_
       refine x_seq ?_
       refine wc_region ?_
       refine wl rfl rfl rfl (p_mv rfl) ?_
       refine wle rfl (e_callV ent93 rfl rfl rfl (take_no32 hb4 hb1 hbs (fun k hk => ⟨by omega, by omega, by omega⟩) (by omega) (.inl rfl)) ?_)
       rintro _ w19 ⟨A39, c39, rfl, hS39, hb4, hb1, hbs, hc⟩
       refine ⟨_, rfl, ?_⟩
       have hzw19 := hc.size
       have HC := HC.trans hc (fun _ _ h => h) (fun k hk ht => absurd ht (by omega))
       have hW := hW.afterT hc (by intro k hz hk ht; omega)
       first | have hrnd := hrnd.ch hc (by intro k hk ht; omega) | have hrnd := hrnd.chT hc (by intro k hz hk ht; omega)
       first | have hS17 := hS17.ch hc (by intro k hk ht; omega) | have hS17 := hS17.chT hc (by intro k hz hk ht; omega)
       have hb7 := hb7.ch hc (by omega)
       first | have hS34 := hS34.ch hc (by intro k hk ht; omega) | have hS34 := hS34.chT hc (by intro k hz hk ht; omega)
       obtain ⟨b40, o40, hA40, hF40, hr40⟩ := hS39.rng (by omega)
       refine wl rfl rfl rfl ((p_s2a Tryd.underlying38 rfl (by omega)).to (congrArg Value.pointer hA40)) ?_
       refine wl rfl rfl rfl (p_ldH (L := (List.replicate 32 (0 : UInt8))) Tryd.underlying38 sz38 (List.length_replicate ..) rfl (fun _ e => e ▸ hr40)) ?_
       refine wl rfl rfl rfl (p_fld (j := 34) Tryd.underlying115 rfl ⟨_, by rfl⟩ rfl rfl) ?_
       refine wle rfl (e_stR2 (p := (([i64 (v0.toNat : Int), Value.int .i64 0] ++ (List.map u8v (List.replicate 32 (0 : UInt8)))) : List Value)) (q := ((List.map u8v (List.replicate 32 (0 : UInt8))) : List Value)) (r := []) (vs := ((List.map u8v (List.replicate 32 (0 : UInt8))) : List Value)) (szL sz38 (by first | rfl | (simp only [List.length_append, List.length_map, List.length_cons, List.length_nil, (show List.length (List.replicate 32 (0 : UInt8)) = 32 from (List.length_replicate ..))]; done) | (simp only [List.length_append, List.length_map, List.length_cons, List.length_nil, List.size_toArray, (show List.length (List.replicate 32 (0 : UInt8)) = 32 from (List.length_replicate ..))]; done))) (oneL one_u8 _) rfl rfl hb7 (by simp only [List.append_assoc, List.cons_append, List.nil_append, List.append_nil]) (by first | rfl | (simp only [List.length_append, List.length_map, List.length_cons, List.length_nil, (show List.length (List.replicate 32 (0 : UInt8)) = 32 from (List.length_replicate ..))]; done) | (simp only [List.length_append, List.length_map, List.length_cons, List.length_nil, List.size_toArray, (show List.length (List.replicate 32 (0 : UInt8)) = 32 from (List.length_replicate ..))]; done)) (by first | rfl | (simp only [List.length_append, List.length_map, List.length_cons, List.length_nil, (show List.length (List.replicate 32 (0 : UInt8)) = 32 from (List.length_replicate ..)), (show List.length (List.replicate 32 (0 : UInt8)) = 32 from (List.length_replicate ..))]; done) | (simp only [List.length_append, List.length_map, List.length_cons, List.length_nil, List.size_toArray, (show List.length (List.replicate 32 (0 : UInt8)) = 32 from (List.length_replicate ..)), (show List.length (List.replicate 32 (0 : UInt8)) = 32 from (List.length_replicate ..))]; done)) (fun w20 hb7 hc hsz => ?_))
       have hb7 : Blk w20 g7 115 (([i64 (v0.toNat : Int), Value.int .i64 0] ++ ((List.map u8v (List.replicate 32 (0 : UInt8))) ++ (List.map u8v (List.replicate 32 (0 : UInt8))))) : List Value).toArray := by have h := hb7; simp only [List.append_assoc, List.cons_append, List.nil_append, List.append_nil] at h ⊢; exact h
       have hzw20 := hc.size
       have HC := HC.trans hc (fun _ _ h => h) (fun k hk ht => absurd ht (by omega))
       have hW := hW.ch hc (by intro k hz hk ht; omega)
       first | have hrnd := hrnd.ch hc (by intro k hk ht; omega) | have hrnd := hrnd.chT hc (by intro k hz hk ht; omega)
       first | have hS17 := hS17.ch hc (by intro k hk ht; omega) | have hS17 := hS17.chT hc (by intro k hz hk ht; omega)
       first | have hS34 := hS34.ch hc (by intro k hk ht; omega) | have hS34 := hS34.chT hc (by intro k hz hk ht; omega)
       have hb4 := hb4.ch hc (by omega)
       have hb1 := hb1.ch hc (by omega)
       have hbs := hbs.ch hc (by intro k hk ht; omega)
       first | have hS39 := hS39.ch hc (by intro k hk ht; omega) | have hS39 := hS39.chT hc (by intro k hz hk ht; omega)
       refine wl_nil ?_
       refine x_in_normal ?_
       refine x_seq ?_
       refine wc_region ?_
       refine wl rfl rfl rfl (p_mv rfl) ?_
       refine wl rfl rfl rfl (p_ldA (cs := (([i64 (v0.toNat : Int), Value.int .i64 0] ++ ((List.map u8v (List.replicate 32 (0 : UInt8))) ++ (List.map u8v (List.replicate 32 (0 : UInt8))))) : List Value)) Tryd.underlying115 rfl (szL sz115 (by first | rfl | (simp only [List.length_append, List.length_map, List.length_cons, List.length_nil, (show List.length (List.replicate 32 (0 : UInt8)) = 32 from (List.length_replicate ..)), (show List.length (List.replicate 32 (0 : UInt8)) = 32 from (List.length_replicate ..))]; done) | (simp only [List.length_append, List.length_map, List.length_cons, List.length_nil, List.size_toArray, (show List.length (List.replicate 32 (0 : UInt8)) = 32 from (List.length_replicate ..)), (show List.length (List.replicate 32 (0 : UInt8)) = 32 from (List.length_replicate ..))]; done))) rfl (fun _ e => e ▸ rngL hb7)) ?_
       have hltg7 := hb7.lt
       have hltg4 := hb4.lt
       have hltg1 := hb1.lt
       refine wle rfl (e_bslX (E := 115) (cs := (([i64 (v0.toNat : Int), Value.int .i64 0] ++ ((List.map u8v (List.replicate 32 (0 : UInt8))) ++ (List.map u8v (List.replicate 32 (0 : UInt8))))) : List Value)) (cs' := (([i64 (v0.toNat : Int), Value.int .i64 0] ++ ((hx (List.replicate 32 (0 : UInt8))) ++ (hx (List.replicate 32 (0 : UInt8))))) : List Value)) rfl rfl (by simp only [hv, map_hx (List.length_replicate ..)] <;> rfl) (fun _ => by kernel_rfl) (fun w21 g53 hg53 hb53 hc hsz53 => ?_))
       have hzw21 := hc.size
       have HC := HC.tr hc
       have hW := hW.after hc
       have hrnd := hrnd.no hc
       have hS17 := hS17.no hc
       have hb7 := hb7.ch hc (fun h => h)
       have hS34 := hS34.no hc
       have hb4 := hb4.ch hc (fun h => h)
       have hb1 := hb1.ch hc (fun h => h)
       have hbs := hbs.no hc
       have hS39 := hS39.no hc
       have hge53 : w.heap.size ≤ g53 := by have := HC.size; omega
       have hS53 := SI.oneA (E := eND) (x := ⟨(v0.toNat : Int), (0), (List.replicate 32 (0 : UInt8)), (List.replicate 32 (0 : UInt8))⟩) hb53 rfl ⟨(List.length_replicate ..), (List.length_replicate ..)⟩
       have hltg7 := hb7.lt
       have hltg4 := hb4.lt
       have hltg1 := hb1.lt
       refine wle rfl (e_appI rfl el33 rfl rfl hW (hS53) (by omega) (by intro k hk; first | omega | (dsimp only at *; omega)) (fun w22 A54 c54 hW hc => ?_))
       have hzw22 := hc.size
       have HC := HC.trans hc (fun _ _ h => h) (fun k hk ht => absurd ht (by omega))
       first | have hrnd := hrnd.ch hc (by intro k hk ht; omega) | have hrnd := hrnd.chT hc (by intro k hz hk ht; omega)
       first | have hS17 := hS17.ch hc (by intro k hk ht; omega) | have hS17 := hS17.chT hc (by intro k hz hk ht; omega)
       have hb7 := hb7.ch hc (by omega)
       first | have hS34 := hS34.ch hc (by intro k hk ht; omega) | have hS34 := hS34.chT hc (by intro k hz hk ht; omega)
       have hb4 := hb4.ch hc (by omega)
       have hb1 := hb1.ch hc (by omega)
       have hbs := hbs.ch hc (by intro k hk ht; omega)
       first | have hS39 := hS39.ch hc (by intro k hk ht; omega) | have hS39 := hS39.chT hc (by intro k hz hk ht; omega)
       first | have hS53 := hS53.ch hc (by intro k hk ht; omega) | have hS53 := hS53.chT hc (by intro k hz hk ht; omega)
       refine wl rfl rfl rfl (p_as rfl) ?_
       refine wl_nil ?_
       refine x_in_normal ?_
       refine x_round (e' := [(1, .pointer (some ⟨g1, 0, none⟩)), (4, .pointer (some ⟨g4, 0, none⟩)), (5, .func (.func 93) #[] #[.pointer (some ⟨g4, 0, none⟩), .pointer (some ⟨g1, 0, none⟩)]), (6, .slice (_) (_) (_))]) ⟨rfl, rfl, rfl, rfl, trivial⟩ (by rw [hm0]; omega) ⟨_, bs17, true, At17, lt17, ct17, _, _, _, rfl, rfl, (RInv.short hinv hb01 (.inr (.inl ⟨c2, by omega⟩)) _), (by omega), (hW.mono (fun k _ hk => by (try simp only [and_assoc] at hk); exact ⟨hk.1, hk.2.1, by first | exact hk.2.2 | exact hk.2.2.1⟩)), hb4, hb1, hbs, hrnd, hgo, HC⟩
      ·
       refine wc_region ?_
       refine wl rfl rfl rfl (p_mv rfl) ?_
       refine wle rfl (e_callV ent93 rfl rfl rfl (take_ok (n := 32) hb4 hb1 hbs (fun k hk => ⟨by omega, by omega, by omega⟩) (by omega) (by omega)) ?_)
       rintro _ w23 ⟨A34, c34, At34, ct34, rfl, hS34, hb4, hb1, hbs, hc⟩
       refine ⟨_, rfl, ?_⟩
       have hzw23 := hc.size
       have HC := HC.trans hc (fun _ _ h => h) (fun k hk ht => absurd ht (by omega))
       have hW := hW.afterT hc (by intro k hz hk ht; omega)
       first | have hrnd := hrnd.ch hc (by intro k hk ht; omega) | have hrnd := hrnd.chT hc (by intro k hz hk ht; omega)
       first | have hS17 := hS17.ch hc (by intro k hk ht; omega) | have hS17 := hS17.chT hc (by intro k hz hk ht; omega)
       have hb7 := hb7.ch hc (by omega)
       obtain ⟨lt34, hlt34⟩ : ∃ z, z = lt17 - 32 := ⟨_, rfl⟩
       obtain ⟨bs34, hbsd34⟩ : ∃ z, z = bs17.drop 32 := ⟨_, rfl⟩
       rw [← hlt34] at hb1 hbs
       rw [← hbsd34] at hbs
       have hbl34 := hbs.len
       obtain ⟨b35, o35, hA35, hF35, hr35⟩ := hS34.rng (by omega)
       refine wl rfl rfl rfl ((p_s2a Tryd.underlying38 rfl (by omega)).to (congrArg Value.pointer hA35)) ?_
       refine wl rfl rfl rfl (p_ldH (L := (bs17.take 32)) Tryd.underlying38 sz38 hS34.len rfl (fun _ e => e ▸ hr35)) ?_
       refine wl rfl rfl rfl (p_fld (j := 2) Tryd.underlying115 rfl ⟨_, by rfl⟩ rfl rfl) ?_
       refine wle rfl (e_stR2 (p := ([i64 (v0.toNat : Int), Value.int .i64 0] : List Value)) (q := ((List.map u8v (List.replicate 32 (0 : UInt8))) : List Value)) (r := ((List.map u8v (List.replicate 32 (0 : UInt8))) : List Value)) (vs := ((List.map u8v (bs17.take 32)) : List Value)) (szL sz38 (by first | rfl | (simp only [List.length_append, List.length_map, List.length_cons, List.length_nil, (show List.length (bs17.take 32) = 32 from hS34.len)]; done) | (simp only [List.length_append, List.length_map, List.length_cons, List.length_nil, List.size_toArray, (show List.length (bs17.take 32) = 32 from hS34.len)]; done))) (oneL one_u8 _) rfl rfl hb7 (by simp only [List.append_assoc, List.cons_append, List.nil_append, List.append_nil]) (by first | rfl | (simp only [List.length_append, List.length_map, List.length_cons, List.length_nil]; done) | (simp only [List.length_append, List.length_map, List.length_cons, List.length_nil, List.size_toArray]; done)) (by first | rfl | (simp only [List.length_append, List.length_map, List.length_cons, List.length_nil, (show List.length (bs17.take 32) = 32 from hS34.len), (show List.length (List.replicate 32 (0 : UInt8)) = 32 from (List.length_replicate ..))]; done) | (simp only [List.length_append, List.length_map, List.length_cons, List.length_nil, List.size_toArray, (show List.length (bs17.take 32) = 32 from hS34.len), (show List.length (List.replicate 32 (0 : UInt8)) = 32 from (List.length_replicate ..))]; done)) (fun w24 hb7 hc hsz => ?_))
       have hb7 : Blk w24 g7 115 (([i64 (v0.toNat : Int), Value.int .i64 0] ++ ((List.map u8v (bs17.take 32)) ++ (List.map u8v (List.replicate 32 (0 : UInt8))))) : List Value).toArray := by have h := hb7; simp only [List.append_assoc, List.cons_append, List.nil_append, List.append_nil] at h ⊢; exact h
       have hzw24 := hc.size
       have HC := HC.trans hc (fun _ _ h => h) (fun k hk ht => absurd ht (by omega))
       have hW := hW.ch hc (by intro k hz hk ht; omega)
       first | have hrnd := hrnd.ch hc (by intro k hk ht; omega) | have hrnd := hrnd.chT hc (by intro k hz hk ht; omega)
       first | have hS17 := hS17.ch hc (by intro k hk ht; omega) | have hS17 := hS17.chT hc (by intro k hz hk ht; omega)
       have hb4 := hb4.ch hc (by omega)
       have hb1 := hb1.ch hc (by omega)
       have hbs := hbs.ch hc (by intro k hk ht; omega)
       first | have hS34 := hS34.ch hc (by intro k hk ht; omega) | have hS34 := hS34.chT hc (by intro k hz hk ht; omega)
       refine wl_nil ?_
       refine x_seq ?_
       refine wc_region ?_
       refine wl rfl rfl rfl (p_mv rfl) ?_
       refine wle rfl (e_callV ent93 rfl rfl rfl (take_no32 hb4 hb1 hbs (fun k hk => ⟨by omega, by omega, by omega⟩) (by omega) (.inr (by omega))) ?_)
       rintro _ w25 ⟨A39, c39, rfl, hS39, hb4, hb1, hbs, hc⟩
       refine ⟨_, rfl, ?_⟩
       have hzw25 := hc.size
       have HC := HC.trans hc (fun _ _ h => h) (fun k hk ht => absurd ht (by omega))
       have hW := hW.afterT hc (by intro k hz hk ht; omega)
       first | have hrnd := hrnd.ch hc (by intro k hk ht; omega) | have hrnd := hrnd.chT hc (by intro k hz hk ht; omega)
       first | have hS17 := hS17.ch hc (by intro k hk ht; omega) | have hS17 := hS17.chT hc (by intro k hz hk ht; omega)
       have hb7 := hb7.ch hc (by omega)
       first | have hS34 := hS34.ch hc (by intro k hk ht; omega) | have hS34 := hS34.chT hc (by intro k hz hk ht; omega)
       obtain ⟨b40, o40, hA40, hF40, hr40⟩ := hS39.rng (by omega)
       refine wl rfl rfl rfl ((p_s2a Tryd.underlying38 rfl (by omega)).to (congrArg Value.pointer hA40)) ?_
       refine wl rfl rfl rfl (p_ldH (L := (List.replicate 32 (0 : UInt8))) Tryd.underlying38 sz38 (List.length_replicate ..) rfl (fun _ e => e ▸ hr40)) ?_
       refine wl rfl rfl rfl (p_fld (j := 34) Tryd.underlying115 rfl ⟨_, by rfl⟩ rfl rfl) ?_
       refine wle rfl (e_stR2 (p := (([i64 (v0.toNat : Int), Value.int .i64 0] ++ (List.map u8v (bs17.take 32))) : List Value)) (q := ((List.map u8v (List.replicate 32 (0 : UInt8))) : List Value)) (r := []) (vs := ((List.map u8v (List.replicate 32 (0 : UInt8))) : List Value)) (szL sz38 (by first | rfl | (simp only [List.length_append, List.length_map, List.length_cons, List.length_nil, (show List.length (List.replicate 32 (0 : UInt8)) = 32 from (List.length_replicate ..))]; done) | (simp only [List.length_append, List.length_map, List.length_cons, List.length_nil, List.size_toArray, (show List.length (List.replicate 32 (0 : UInt8)) = 32 from (List.length_replicate ..))]; done))) (oneL one_u8 _) rfl rfl hb7 (by simp only [List.append_assoc, List.cons_append, List.nil_append, List.append_nil]) (by first | rfl | (simp only [List.length_append, List.length_map, List.length_cons, List.length_nil, (show List.length (bs17.take 32) = 32 from hS34.len)]; done) | (simp only [List.length_append, List.length_map, List.length_cons, List.length_nil, List.size_toArray, (show List.length (bs17.take 32) = 32 from hS34.len)]; done)) (by first | rfl | (simp only [List.length_append, List.length_map, List.length_cons, List.length_nil, (show List.length (List.replicate 32 (0 : UInt8)) = 32 from (List.length_replicate ..)), (show List.length (List.replicate 32 (0 : UInt8)) = 32 from (List.length_replicate ..))]; done) | (simp only [List.length_append, List.length_map, List.length_cons, List.length_nil, List.size_toArray, (show List.length (List.replicate 32 (0 : UInt8)) = 32 from (List.length_replicate ..)), (show List.length (List.replicate 32 (0 : UInt8)) = 32 from (List.length_replicate ..))]; done)) (fun w26 hb7 hc hsz => ?_))
       have hb7 : Blk w26 g7 115 (([i64 (v0.toNat : Int), Value.int .i64 0] ++ ((List.map u8v (bs17.take 32)) ++ (List.map u8v (List.replicate 32 (0 : UInt8))))) : List Value).toArray := by have h := hb7; simp only [List.append_assoc, List.cons_append, List.nil_append, List.append_nil] at h ⊢; exact h
       have hzw26 := hc.size
       have HC := HC.trans hc (fun _ _ h => h) (fun k hk ht => absurd ht (by omega))
       have hW := hW.ch hc (by intro k hz hk ht; omega)
       first | have hrnd := hrnd.ch hc (by intro k hk ht; omega) | have hrnd := hrnd.chT hc (by intro k hz hk ht; omega)
       first | have hS17 := hS17.ch hc (by intro k hk ht; omega) | have hS17 := hS17.chT hc (by intro k hz hk ht; omega)
       first | have hS34 := hS34.ch hc (by intro k hk ht; omega) | have hS34 := hS34.chT hc (by intro k hz hk ht; omega)
       have hb4 := hb4.ch hc (by omega)
       have hb1 := hb1.ch hc (by omega)
       have hbs := hbs.ch hc (by intro k hk ht; omega)
       first | have hS39 := hS39.ch hc (by intro k hk ht; omega) | have hS39 := hS39.chT hc (by intro k hz hk ht; omega)
       refine wl_nil ?_
       refine x_in_normal ?_
       refine x_seq ?_
       refine wc_region ?_
       refine wl rfl rfl rfl (p_mv rfl) ?_
       refine wl rfl rfl rfl (p_ldA (cs := (([i64 (v0.toNat : Int), Value.int .i64 0] ++ ((List.map u8v (bs17.take 32)) ++ (List.map u8v (List.replicate 32 (0 : UInt8))))) : List Value)) Tryd.underlying115 rfl (szL sz115 (by first | rfl | (simp only [List.length_append, List.length_map, List.length_cons, List.length_nil, (show List.length (bs17.take 32) = 32 from hS34.len), (show List.length (List.replicate 32 (0 : UInt8)) = 32 from (List.length_replicate ..))]; done) | (simp only [List.length_append, List.length_map, List.length_cons, List.length_nil, List.size_toArray, (show List.length (bs17.take 32) = 32 from hS34.len), (show List.length (List.replicate 32 (0 : UInt8)) = 32 from (List.length_replicate ..))]; done))) rfl (fun _ e => e ▸ rngL hb7)) ?_
       have hltg7 := hb7.lt
       have hltg4 := hb4.lt
       have hltg1 := hb1.lt
       refine wle rfl (e_bslX (E := 115) (cs := (([i64 (v0.toNat : Int), Value.int .i64 0] ++ ((List.map u8v (bs17.take 32)) ++ (List.map u8v (List.replicate 32 (0 : UInt8))))) : List Value)) (cs' := (([i64 (v0.toNat : Int), Value.int .i64 0] ++ ((hx (bs17.take 32)) ++ (hx (List.replicate 32 (0 : UInt8))))) : List Value)) rfl rfl (by simp only [hv, map_hx (List.length_replicate ..), map_hx hS34.len] <;> rfl) (fun _ => by kernel_rfl) (fun w27 g53 hg53 hb53 hc hsz53 => ?_))
       have hzw27 := hc.size
       have HC := HC.tr hc
       have hW := hW.after hc
       have hrnd := hrnd.no hc
       have hS17 := hS17.no hc
       have hb7 := hb7.ch hc (fun h => h)
       have hS34 := hS34.no hc
       have hb4 := hb4.ch hc (fun h => h)
       have hb1 := hb1.ch hc (fun h => h)
       have hbs := hbs.no hc
       have hS39 := hS39.no hc
       have hge53 : w.heap.size ≤ g53 := by have := HC.size; omega
       have hS53 := SI.oneA (E := eND) (x := ⟨(v0.toNat : Int), (0), (bs17.take 32), (List.replicate 32 (0 : UInt8))⟩) hb53 rfl ⟨hS34.len, (List.length_replicate ..)⟩
       have hltg7 := hb7.lt
       have hltg4 := hb4.lt
       have hltg1 := hb1.lt
       refine wle rfl (e_appI rfl el33 rfl rfl hW (hS53) (by omega) (by intro k hk; first | omega | (dsimp only at *; omega)) (fun w28 A54 c54 hW hc => ?_))
       have hzw28 := hc.size
       have HC := HC.trans hc (fun _ _ h => h) (fun k hk ht => absurd ht (by omega))
       first | have hrnd := hrnd.ch hc (by intro k hk ht; omega) | have hrnd := hrnd.chT hc (by intro k hz hk ht; omega)
       first | have hS17 := hS17.ch hc (by intro k hk ht; omega) | have hS17 := hS17.chT hc (by intro k hz hk ht; omega)
       have hb7 := hb7.ch hc (by omega)
       first | have hS34 := hS34.ch hc (by intro k hk ht; omega) | have hS34 := hS34.chT hc (by intro k hz hk ht; omega)
       have hb4 := hb4.ch hc (by omega)
       have hb1 := hb1.ch hc (by omega)
       have hbs := hbs.ch hc (by intro k hk ht; omega)
       first | have hS39 := hS39.ch hc (by intro k hk ht; omega) | have hS39 := hS39.chT hc (by intro k hz hk ht; omega)
       first | have hS53 := hS53.ch hc (by intro k hk ht; omega) | have hS53 := hS53.chT hc (by intro k hz hk ht; omega)
       refine wl rfl rfl rfl (p_as rfl) ?_
       refine wl_nil ?_
       refine x_in_normal ?_
       refine x_round (e' := [(1, .pointer (some ⟨g1, 0, none⟩)), (4, .pointer (some ⟨g4, 0, none⟩)), (5, .func (.func 93) #[] #[.pointer (some ⟨g4, 0, none⟩), .pointer (some ⟨g1, 0, none⟩)]), (6, .slice (_) (_) (_))]) ⟨rfl, rfl, rfl, rfl, trivial⟩ (by rw [hm0]; omega) ⟨_, bs34, true, At34, lt34, ct34, _, _, _, rfl, rfl, (RInv.short hinv hb01 (.inr (.inl ⟨c2, by omega⟩)) _), (by omega), (hW.mono (fun k _ hk => by (try simp only [and_assoc] at hk); exact ⟨hk.1, hk.2.1, by first | exact hk.2.2 | exact hk.2.2.1⟩)), hb4, hb1, hbs, hrnd, hgo, HC⟩
      ·
       refine wc_region ?_
       refine wl rfl rfl rfl (p_mv rfl) ?_
       refine wle rfl (e_callV ent93 rfl rfl rfl (take_ok (n := 32) hb4 hb1 hbs (fun k hk => ⟨by omega, by omega, by omega⟩) (by omega) (by omega)) ?_)
       rintro _ w29 ⟨A34, c34, At34, ct34, rfl, hS34, hb4, hb1, hbs, hc⟩
       refine ⟨_, rfl, ?_⟩
       have hzw29 := hc.size
       have HC := HC.trans hc (fun _ _ h => h) (fun k hk ht => absurd ht (by omega))
       have hW := hW.afterT hc (by intro k hz hk ht; omega)
       first | have hrnd := hrnd.ch hc (by intro k hk ht; omega) | have hrnd := hrnd.chT hc (by intro k hz hk ht; omega)
       first | have hS17 := hS17.ch hc (by intro k hk ht; omega) | have hS17 := hS17.chT hc (by intro k hz hk ht; omega)
       have hb7 := hb7.ch hc (by omega)
       obtain ⟨lt34, hlt34⟩ : ∃ z, z = lt17 - 32 := ⟨_, rfl⟩
       obtain ⟨bs34, hbsd34⟩ : ∃ z, z = bs17.drop 32 := ⟨_, rfl⟩
       rw [← hlt34] at hb1 hbs
       rw [← hbsd34] at hbs
       have hbl34 := hbs.len
       obtain ⟨b35, o35, hA35, hF35, hr35⟩ := hS34.rng (by omega)
       refine wl rfl rfl rfl ((p_s2a Tryd.underlying38 rfl (by omega)).to (congrArg Value.pointer hA35)) ?_
       refine wl rfl rfl rfl (p_ldH (L := (bs17.take 32)) Tryd.underlying38 sz38 hS34.len rfl (fun _ e => e ▸ hr35)) ?_
       refine wl rfl rfl rfl (p_fld (j := 2) Tryd.underlying115 rfl ⟨_, by rfl⟩ rfl rfl) ?_
       refine wle rfl (e_stR2 (p := ([i64 (v0.toNat : Int), Value.int .i64 0] : List Value)) (q := ((List.map u8v (List.replicate 32 (0 : UInt8))) : List Value)) (r := ((List.map u8v (List.replicate 32 (0 : UInt8))) : List Value)) (vs := ((List.map u8v (bs17.take 32)) : List Value)) (szL sz38 (by first | rfl | (simp only [List.length_append, List.length_map, List.length_cons, List.length_nil, (show List.length (bs17.take 32) = 32 from hS34.len)]; done) | (simp only [List.length_append, List.length_map, List.length_cons, List.length_nil, List.size_toArray, (show List.length (bs17.take 32) = 32 from hS34.len)]; done))) (oneL one_u8 _) rfl rfl hb7 (by simp only [List.append_assoc, List.cons_append, List.nil_append, List.append_nil]) (by first | rfl | (simp only [List.length_append, List.length_map, List.length_cons, List.length_nil]; done) | (simp only [List.length_append, List.length_map, List.length_cons, List.length_nil, List.size_toArray]; done)) (by first | rfl | (simp only [List.length_append, List.length_map, List.length_cons, List.length_nil, (show List.length (bs17.take 32) = 32 from hS34.len), (show List.length (List.replicate 32 (0 : UInt8)) = 32 from (List.length_replicate ..))]; done) | (simp only [List.length_append, List.length_map, List.length_cons, List.length_nil, List.size_toArray, (show List.length (bs17.take 32) = 32 from hS34.len), (show List.length (List.replicate 32 (0 : UInt8)) = 32 from (List.length_replicate ..))]; done)) (fun w30 hb7 hc hsz => ?_))
       have hb7 : Blk w30 g7 115 (([i64 (v0.toNat : Int), Value.int .i64 0] ++ ((List.map u8v (bs17.take 32)) ++ (List.map u8v (List.replicate 32 (0 : UInt8))))) : List Value).toArray := by have h := hb7; simp only [List.append_assoc, List.cons_append, List.nil_append, List.append_nil] at h ⊢; exact h
       have hzw30 := hc.size
       have HC := HC.trans hc (fun _ _ h => h) (fun k hk ht => absurd ht (by omega))
       have hW := hW.ch hc (by intro k hz hk ht; omega)
       first | have hrnd := hrnd.ch hc (by intro k hk ht; omega) | have hrnd := hrnd.chT hc (by intro k hz hk ht; omega)
       first | have hS17 := hS17.ch hc (by intro k hk ht; omega) | have hS17 := hS17.chT hc (by intro k hz hk ht; omega)
       have hb4 := hb4.ch hc (by omega)
       have hb1 := hb1.ch hc (by omega)
       have hbs := hbs.ch hc (by intro k hk ht; omega)
       first | have hS34 := hS34.ch hc (by intro k hk ht; omega) | have hS34 := hS34.chT hc (by intro k hz hk ht; omega)
       refine wl_nil ?_
       refine x_seq ?_
       refine wc_region ?_
       refine wl rfl rfl rfl (p_mv rfl) ?_
       refine wle rfl (e_callV ent93 rfl rfl rfl (take_ok (n := 32) hb4 hb1 hbs (fun k hk => ⟨by omega, by omega, by omega⟩) (by omega) (by omega)) ?_)
       rintro _ w31 ⟨A39, c39, At39, ct39, rfl, hS39, hb4, hb1, hbs, hc⟩
       refine ⟨_, rfl, ?_⟩
       have hzw31 := hc.size
       have HC := HC.trans hc (fun _ _ h => h) (fun k hk ht => absurd ht (by omega))
       have hW := hW.afterT hc (by intro k hz hk ht; omega)
       first | have hrnd := hrnd.ch hc (by intro k hk ht; omega) | have hrnd := hrnd.chT hc (by intro k hz hk ht; omega)
       first | have hS17 := hS17.ch hc (by intro k hk ht; omega) | have hS17 := hS17.chT hc (by intro k hz hk ht; omega)
       have hb7 := hb7.ch hc (by omega)
       first | have hS34 := hS34.ch hc (by intro k hk ht; omega) | have hS34 := hS34.chT hc (by intro k hz hk ht; omega)
       obtain ⟨lt39, hlt39⟩ : ∃ z, z = lt34 - 32 := ⟨_, rfl⟩
       obtain ⟨bs39, hbsd39⟩ : ∃ z, z = bs34.drop 32 := ⟨_, rfl⟩
       rw [← hlt39] at hb1 hbs
       rw [← hbsd39] at hbs
       have hbl39 := hbs.len
       obtain ⟨b40, o40, hA40, hF40, hr40⟩ := hS39.rng (by omega)
       refine wl rfl rfl rfl ((p_s2a Tryd.underlying38 rfl (by omega)).to (congrArg Value.pointer hA40)) ?_
       refine wl rfl rfl rfl (p_ldH (L := (bs34.take 32)) Tryd.underlying38 sz38 hS39.len rfl (fun _ e => e ▸ hr40)) ?_
       refine wl rfl rfl rfl (p_fld (j := 34) Tryd.underlying115 rfl ⟨_, by rfl⟩ rfl rfl) ?_
       refine wle rfl (e_stR2 (p := (([i64 (v0.toNat : Int), Value.int .i64 0] ++ (List.map u8v (bs17.take 32))) : List Value)) (q := ((List.map u8v (List.replicate 32 (0 : UInt8))) : List Value)) (r := []) (vs := ((List.map u8v (bs34.take 32)) : List Value)) (szL sz38 (by first | rfl | (simp only [List.length_append, List.length_map, List.length_cons, List.length_nil, (show List.length (bs34.take 32) = 32 from hS39.len)]; done) | (simp only [List.length_append, List.length_map, List.length_cons, List.length_nil, List.size_toArray, (show List.length (bs34.take 32) = 32 from hS39.len)]; done))) (oneL one_u8 _) rfl rfl hb7 (by simp only [List.append_assoc, List.cons_append, List.nil_append, List.append_nil]) (by first | rfl | (simp only [List.length_append, List.length_map, List.length_cons, List.length_nil, (show List.length (bs17.take 32) = 32 from hS34.len)]; done) | (simp only [List.length_append, List.length_map, List.length_cons, List.length_nil, List.size_toArray, (show List.length (bs17.take 32) = 32 from hS34.len)]; done)) (by first | rfl | (simp only [List.length_append, List.length_map, List.length_cons, List.length_nil, (show List.length (bs34.take 32) = 32 from hS39.len), (show List.length (List.replicate 32 (0 : UInt8)) = 32 from (List.length_replicate ..))]; done) | (simp only [List.length_append, List.length_map, List.length_cons, List.length_nil, List.size_toArray, (show List.length (bs34.take 32) = 32 from hS39.len), (show List.length (List.replicate 32 (0 : UInt8)) = 32 from (List.length_replicate ..))]; done)) (fun w32 hb7 hc hsz => ?_))
       have hb7 : Blk w32 g7 115 (([i64 (v0.toNat : Int), Value.int .i64 0] ++ ((List.map u8v (bs17.take 32)) ++ (List.map u8v (bs34.take 32)))) : List Value).toArray := by have h := hb7; simp only [List.append_assoc, List.cons_append, List.nil_append, List.append_nil] at h ⊢; exact h
       have hzw32 := hc.size
       have HC := HC.trans hc (fun _ _ h => h) (fun k hk ht => absurd ht (by omega))
       have hW := hW.ch hc (by intro k hz hk ht; omega)
       first | have hrnd := hrnd.ch hc (by intro k hk ht; omega) | have hrnd := hrnd.chT hc (by intro k hz hk ht; omega)
       first | have hS17 := hS17.ch hc (by intro k hk ht; omega) | have hS17 := hS17.chT hc (by intro k hz hk ht; omega)
       first | have hS34 := hS34.ch hc (by intro k hk ht; omega) | have hS34 := hS34.chT hc (by intro k hz hk ht; omega)
       have hb4 := hb4.ch hc (by omega)
       have hb1 := hb1.ch hc (by omega)
       have hbs := hbs.ch hc (by intro k hk ht; omega)
       first | have hS39 := hS39.ch hc (by intro k hk ht; omega) | have hS39 := hS39.chT hc (by intro k hz hk ht; omega)
       refine wl_nil ?_
       refine x_in_normal ?_
       refine x_seq ?_
       refine wc_region ?_
       refine wl rfl rfl rfl (p_mv rfl) ?_
       refine wl rfl rfl rfl (p_ldA (cs := (([i64 (v0.toNat : Int), Value.int .i64 0] ++ ((List.map u8v (bs17.take 32)) ++ (List.map u8v (bs34.take 32)))) : List Value)) Tryd.underlying115 rfl (szL sz115 (by first | rfl | (simp only [List.length_append, List.length_map, List.length_cons, List.length_nil, (show List.length (bs17.take 32) = 32 from hS34.len), (show List.length (bs34.take 32) = 32 from hS39.len)]; done) | (simp only [List.length_append, List.length_map, List.length_cons, List.length_nil, List.size_toArray, (show List.length (bs17.take 32) = 32 from hS34.len), (show List.length (bs34.take 32) = 32 from hS39.len)]; done))) rfl (fun _ e => e ▸ rngL hb7)) ?_
       have hltg7 := hb7.lt
       have hltg4 := hb4.lt
       have hltg1 := hb1.lt
       refine wle rfl (e_bslX (E := 115) (cs := (([i64 (v0.toNat : Int), Value.int .i64 0] ++ ((List.map u8v (bs17.take 32)) ++ (List.map u8v (bs34.take 32)))) : List Value)) (cs' := (([i64 (v0.toNat : Int), Value.int .i64 0] ++ ((hx (bs17.take 32)) ++ (hx (bs34.take 32)))) : List Value)) rfl rfl (by simp only [hv, map_hx hS34.len, map_hx hS39.len] <;> rfl) (fun _ => by kernel_rfl) (fun w33 g53 hg53 hb53 hc hsz53 => ?_))
       have hzw33 := hc.size
       have HC := HC.tr hc
       have hW := hW.after hc
       have hrnd := hrnd.no hc
       have hS17 := hS17.no hc
       have hb7 := hb7.ch hc (fun h => h)
       have hS34 := hS34.no hc
       have hb4 := hb4.ch hc (fun h => h)
       have hb1 := hb1.ch hc (fun h => h)
       have hbs := hbs.no hc
       have hS39 := hS39.no hc
       have hge53 : w.heap.size ≤ g53 := by have := HC.size; omega
       have hS53 := SI.oneA (E := eND) (x := ⟨(v0.toNat : Int), (0), (bs17.take 32), (bs34.take 32)⟩) hb53 rfl ⟨hS34.len, hS39.len⟩
       have hltg7 := hb7.lt
       have hltg4 := hb4.lt
       have hltg1 := hb1.lt
       refine wle rfl (e_appI rfl el33 rfl rfl hW (hS53) (by omega) (by intro k hk; first | omega | (dsimp only at *; omega)) (fun w34 A54 c54 hW hc => ?_))
       have hzw34 := hc.size
       have HC := HC.trans hc (fun _ _ h => h) (fun k hk ht => absurd ht (by omega))
       first | have hrnd := hrnd.ch hc (by intro k hk ht; omega) | have hrnd := hrnd.chT hc (by intro k hz hk ht; omega)
       first | have hS17 := hS17.ch hc (by intro k hk ht; omega) | have hS17 := hS17.chT hc (by intro k hz hk ht; omega)
       have hb7 := hb7.ch hc (by omega)
       first | have hS34 := hS34.ch hc (by intro k hk ht; omega) | have hS34 := hS34.chT hc (by intro k hz hk ht; omega)
       have hb4 := hb4.ch hc (by omega)
       have hb1 := hb1.ch hc (by omega)
       have hbs := hbs.ch hc (by intro k hk ht; omega)
       first | have hS39 := hS39.ch hc (by intro k hk ht; omega) | have hS39 := hS39.chT hc (by intro k hz hk ht; omega)
       first | have hS53 := hS53.ch hc (by intro k hk ht; omega) | have hS53 := hS53.chT hc (by intro k hz hk ht; omega)
       refine wl rfl rfl rfl (p_as rfl) ?_
       refine wl_nil ?_
       refine x_in_normal ?_
       refine x_round (e' := [(1, .pointer (some ⟨g1, 0, none⟩)), (4, .pointer (some ⟨g4, 0, none⟩)), (5, .func (.func 93) #[] #[.pointer (some ⟨g4, 0, none⟩), .pointer (some ⟨g1, 0, none⟩)]), (6, .slice (_) (_) (_))]) ⟨rfl, rfl, rfl, rfl, trivial⟩ (by rw [hm0]; omega) ⟨_, bs39, false, At39, lt39, ct39, _, _, _, rfl, rfl, (by rw [hbsd39, hbsd34]; exact RInv.itemN hinv hb02 c2 (by omega)), (by omega), (hW.mono (fun k _ hk => by (try simp only [and_assoc] at hk); exact ⟨hk.1, hk.2.1, by first | exact hk.2.2 | exact hk.2.2.1⟩)), hb4, hb1, hbs, hrnd, hgo, HC⟩
     ·
      have c2 := of_decide_eq_false c2
      refine wc_seq ?_
      refine wc_region ?_
      refine wl rfl rfl rfl (p_eq rfl rfl) ?_
      refine wl rfl rfl rfl (p_as rfl) ?_
      refine wl_nil ?_
      refine x_seq ?_
      refine wc_if rfl (fun c3 => ?_) (fun c3 => ?_)
      ·
       have c3 := of_decide_eq_true c3
       rcases (show lt17 < 1 ∨ 1 ≤ lt17 by omega) with hsp | hsp
       ·
        refine wc_region ?_
        refine wl rfl rfl rfl (p_mv rfl) ?_
        refine wle rfl (e_callV ent93 rfl rfl rfl (take_no1 hb4 hb1 hbs (fun k hk => ⟨by omega, by omega, by omega⟩) (by omega) (.inr (by omega))) ?_)
        rintro _ w35 ⟨A46, c46, rfl, hS46, hb4, hb1, hbs, hc⟩
        refine ⟨_, rfl, ?_⟩
        have hzw35 := hc.size
        have HC := HC.trans hc (fun _ _ h => h) (fun k hk ht => absurd ht (by omega))
        have hW := hW.afterT hc (by intro k hz hk ht; omega)
        first | have hrnd := hrnd.ch hc (by intro k hk ht; omega) | have hrnd := hrnd.chT hc (by intro k hz hk ht; omega)
        first | have hS17 := hS17.ch hc (by intro k hk ht; omega) | have hS17 := hS17.chT hc (by intro k hz hk ht; omega)
        have hb7 := hb7.ch hc (by omega)
        obtain ⟨b36, o36, hA36, hF36, hc36⟩ := (hS46).opn (d := 0) (by omega)
        refine wl rfl rfl rfl (p_ixS1 (j := 0) Tryd.underlying107 sz5 rfl hA36 rfl (by omega) (by omega) rfl) ?_
        refine wl rfl rfl rfl (p_ld Tryd.underlying5 rfl rfl (ld (hc36 _ (by omega)))) ?_
        obtain ⟨v1, hv1⟩ : ∃ z, z = (List.replicate 1 (0 : UInt8)).getD 0 0 := ⟨_, rfl⟩
        rw [← hv1]
        refine wl rfl rfl rfl (p_conv Tryd.underlying5 Tryd.underlying3 rfl (wB_i64 _)) ?_
        refine wl rfl rfl rfl (p_fld (j := 1) Tryd.underlying115 rfl ⟨_, by rfl⟩ rfl rfl) ?_
        refine wle rfl (e_stC (p := ([i64 (v0.toNat : Int)] : List Value)) (u := (Value.int .i64 0 : Value)) (r := (((List.map u8v (List.replicate 32 (0 : UInt8))) ++ (List.map u8v (List.replicate 32 (0 : UInt8)))) : List Value)) (v := i64 (v1.toNat : Int)) (by rfl) rfl rfl rfl hb7 (by simp only [List.append_assoc, List.cons_append, List.nil_append, List.append_nil]) (by first | rfl | (simp only [List.length_append, List.length_map, List.length_cons, List.length_nil]; done) | (simp only [List.length_append, List.length_map, List.length_cons, List.length_nil, List.size_toArray]; done)) (fun w37 hb7 hc hsz => ?_))
        have hb7 : Blk w37 g7 115 (([i64 (v0.toNat : Int), i64 (v1.toNat : Int)] ++ ((List.map u8v (List.replicate 32 (0 : UInt8))) ++ (List.map u8v (List.replicate 32 (0 : UInt8))))) : List Value).toArray := by have h := hb7; simp only [List.append_assoc, List.cons_append, List.nil_append, List.append_nil] at h ⊢; exact h
        have hzw37 := hc.size
        have HC := HC.trans hc (fun _ _ h => h) (fun k hk ht => absurd ht (by omega))
        have hW := hW.ch hc (by intro k hz hk ht; omega)
        first | have hrnd := hrnd.ch hc (by intro k hk ht; omega) | have hrnd := hrnd.chT hc (by intro k hz hk ht; omega)
        first | have hS17 := hS17.ch hc (by intro k hk ht; omega) | have hS17 := hS17.chT hc (by intro k hz hk ht; omega)
        have hb4 := hb4.ch hc (by omega)
        have hb1 := hb1.ch hc (by omega)
        have hbs := hbs.ch hc (by intro k hk ht; omega)
        first | have hS46 := hS46.ch hc (by intro k hk ht; omega) | have hS46 := hS46.chT hc (by intro k hz hk ht; omega)
        refine wl_nil ?_
        refine x_in_normal ?_
        refine x_seq ?_
        refine wc_region ?_
        refine wl rfl rfl rfl (p_mv rfl) ?_
        refine wl rfl rfl rfl (p_ldA (cs := (([i64 (v0.toNat : Int), i64 (v1.toNat : Int)] ++ ((List.map u8v (List.replicate 32 (0 : UInt8))) ++ (List.map u8v (List.replicate 32 (0 : UInt8))))) : List Value)) Tryd.underlying115 rfl (szL sz115 (by first | rfl | (simp only [List.length_append, List.length_map, List.length_cons, List.length_nil, (show List.length (List.replicate 32 (0 : UInt8)) = 32 from (List.length_replicate ..)), (show List.length (List.replicate 32 (0 : UInt8)) = 32 from (List.length_replicate ..))]; done) | (simp only [List.length_append, List.length_map, List.length_cons, List.length_nil, List.size_toArray, (show List.length (List.replicate 32 (0 : UInt8)) = 32 from (List.length_replicate ..)), (show List.length (List.replicate 32 (0 : UInt8)) = 32 from (List.length_replicate ..))]; done))) rfl (fun _ e => e ▸ rngL hb7)) ?_
        have hltg7 := hb7.lt
        have hltg4 := hb4.lt
        have hltg1 := hb1.lt
        refine wle rfl (e_bslX (E := 115) (cs := (([i64 (v0.toNat : Int), i64 (v1.toNat : Int)] ++ ((List.map u8v (List.replicate 32 (0 : UInt8))) ++ (List.map u8v (List.replicate 32 (0 : UInt8))))) : List Value)) (cs' := (([i64 (v0.toNat : Int), i64 (v1.toNat : Int)] ++ ((hx (List.replicate 32 (0 : UInt8))) ++ (hx (List.replicate 32 (0 : UInt8))))) : List Value)) rfl rfl (by simp only [hv, map_hx (List.length_replicate ..)] <;> rfl) (fun _ => by kernel_rfl) (fun w38 g53 hg53 hb53 hc hsz53 => ?_))
        have hzw38 := hc.size
        have HC := HC.tr hc
        have hW := hW.after hc
        have hrnd := hrnd.no hc
        have hS17 := hS17.no hc
        have hb7 := hb7.ch hc (fun h => h)
        have hb4 := hb4.ch hc (fun h => h)
        have hb1 := hb1.ch hc (fun h => h)
        have hbs := hbs.no hc
        have hS46 := hS46.no hc
        have hge53 : w.heap.size ≤ g53 := by have := HC.size; omega
        have hS53 := SI.oneA (E := eND) (x := ⟨(v0.toNat : Int), (v1.toNat : Int), (List.replicate 32 (0 : UInt8)), (List.replicate 32 (0 : UInt8))⟩) hb53 rfl ⟨(List.length_replicate ..), (List.length_replicate ..)⟩
        have hltg7 := hb7.lt
        have hltg4 := hb4.lt
        have hltg1 := hb1.lt
        refine wle rfl (e_appI rfl el33 rfl rfl hW (hS53) (by omega) (by intro k hk; first | omega | (dsimp only at *; omega)) (fun w39 A54 c54 hW hc => ?_))
        have hzw39 := hc.size
        have HC := HC.trans hc (fun _ _ h => h) (fun k hk ht => absurd ht (by omega))
        first | have hrnd := hrnd.ch hc (by intro k hk ht; omega) | have hrnd := hrnd.chT hc (by intro k hz hk ht; omega)
        first | have hS17 := hS17.ch hc (by intro k hk ht; omega) | have hS17 := hS17.chT hc (by intro k hz hk ht; omega)
        have hb7 := hb7.ch hc (by omega)
        have hb4 := hb4.ch hc (by omega)
        have hb1 := hb1.ch hc (by omega)
        have hbs := hbs.ch hc (by intro k hk ht; omega)
        first | have hS46 := hS46.ch hc (by intro k hk ht; omega) | have hS46 := hS46.chT hc (by intro k hz hk ht; omega)
        first | have hS53 := hS53.ch hc (by intro k hk ht; omega) | have hS53 := hS53.chT hc (by intro k hz hk ht; omega)
        refine wl rfl rfl rfl (p_as rfl) ?_
        refine wl_nil ?_
        refine x_in_normal ?_
        refine x_round (e' := [(1, .pointer (some ⟨g1, 0, none⟩)), (4, .pointer (some ⟨g4, 0, none⟩)), (5, .func (.func 93) #[] #[.pointer (some ⟨g4, 0, none⟩), .pointer (some ⟨g1, 0, none⟩)]), (6, .slice (_) (_) (_))]) ⟨rfl, rfl, rfl, rfl, trivial⟩ (by rw [hm0]; omega) ⟨_, bs17, true, At17, lt17, ct17, _, _, _, rfl, rfl, (RInv.short hinv hb01 (.inr (.inr ⟨c3, by omega⟩)) _), (by omega), (hW.mono (fun k _ hk => by (try simp only [and_assoc] at hk); exact ⟨hk.1, hk.2.1, by first | exact hk.2.2 | exact hk.2.2.1⟩)), hb4, hb1, hbs, hrnd, hgo, HC⟩
       ·
        refine wc_region ?_
        refine wl rfl rfl rfl (p_mv rfl) ?_
        refine wle rfl (e_callV ent93 rfl rfl rfl (take_ok (n := 1) hb4 hb1 hbs (fun k hk => ⟨by omega, by omega, by omega⟩) (by omega) (by omega)) ?_)
        rintro _ w40 ⟨A46, c46, At46, ct46, rfl, hS46, hb4, hb1, hbs, hc⟩
        refine ⟨_, rfl, ?_⟩
        have hzw40 := hc.size
        have HC := HC.trans hc (fun _ _ h => h) (fun k hk ht => absurd ht (by omega))
        have hW := hW.afterT hc (by intro k hz hk ht; omega)
        first | have hrnd := hrnd.ch hc (by intro k hk ht; omega) | have hrnd := hrnd.chT hc (by intro k hz hk ht; omega)
        first | have hS17 := hS17.ch hc (by intro k hk ht; omega) | have hS17 := hS17.chT hc (by intro k hz hk ht; omega)
        have hb7 := hb7.ch hc (by omega)
        obtain ⟨lt46, hlt46⟩ : ∃ z, z = lt17 - 1 := ⟨_, rfl⟩
        obtain ⟨bs46, hbsd46⟩ : ∃ z, z = bs17.drop 1 := ⟨_, rfl⟩
        rw [← hlt46] at hb1 hbs
        rw [← hbsd46] at hbs
        have hbl46 := hbs.len
        obtain ⟨b41, o41, hA41, hF41, hc41⟩ := (hS46).opn (d := 0) (by omega)
        refine wl rfl rfl rfl (p_ixS1 (j := 0) Tryd.underlying107 sz5 rfl hA41 rfl (by omega) (by omega) rfl) ?_
        refine wl rfl rfl rfl (p_ld Tryd.underlying5 rfl rfl (ld (hc41 _ (by omega)))) ?_
        obtain ⟨v1, hv1⟩ : ∃ z, z = (bs17.take 1).getD 0 0 := ⟨_, rfl⟩
        rw [← hv1]
        refine wl rfl rfl rfl (p_conv Tryd.underlying5 Tryd.underlying3 rfl (wB_i64 _)) ?_
        refine wl rfl rfl rfl (p_fld (j := 1) Tryd.underlying115 rfl ⟨_, by rfl⟩ rfl rfl) ?_
        refine wle rfl (e_stC (p := ([i64 (v0.toNat : Int)] : List Value)) (u := (Value.int .i64 0 : Value)) (r := (((List.map u8v (List.replicate 32 (0 : UInt8))) ++ (List.map u8v (List.replicate 32 (0 : UInt8)))) : List Value)) (v := i64 (v1.toNat : Int)) (by rfl) rfl rfl rfl hb7 (by simp only [List.append_assoc, List.cons_append, List.nil_append, List.append_nil]) (by first | rfl | (simp only [List.length_append, List.length_map, List.length_cons, List.length_nil]; done) | (simp only [List.length_append, List.length_map, List.length_cons, List.length_nil, List.size_toArray]; done)) (fun w42 hb7 hc hsz => ?_))
        have hb7 : Blk w42 g7 115 (([i64 (v0.toNat : Int), i64 (v1.toNat : Int)] ++ ((List.map u8v (List.replicate 32 (0 : UInt8))) ++ (List.map u8v (List.replicate 32 (0 : UInt8))))) : List Value).toArray := by have h := hb7; simp only [List.append_assoc, List.cons_append, List.nil_append, List.append_nil] at h ⊢; exact h
        have hzw42 := hc.size
        have HC := HC.trans hc (fun _ _ h => h) (fun k hk ht => absurd ht (by omega))
        have hW := hW.ch hc (by intro k hz hk ht; omega)
        first | have hrnd := hrnd.ch hc (by intro k hk ht; omega) | have hrnd := hrnd.chT hc (by intro k hz hk ht; omega)
        first | have hS17 := hS17.ch hc (by intro k hk ht; omega) | have hS17 := hS17.chT hc (by intro k hz hk ht; omega)
        have hb4 := hb4.ch hc (by omega)
        have hb1 := hb1.ch hc (by omega)
        have hbs := hbs.ch hc (by intro k hk ht; omega)
        first | have hS46 := hS46.ch hc (by intro k hk ht; omega) | have hS46 := hS46.chT hc (by intro k hz hk ht; omega)
        refine wl_nil ?_
        refine x_in_normal ?_
        refine x_seq ?_
        refine wc_region ?_
        refine wl rfl rfl rfl (p_mv rfl) ?_
        refine wl rfl rfl rfl (p_ldA (cs := (([i64 (v0.toNat : Int), i64 (v1.toNat : Int)] ++ ((List.map u8v (List.replicate 32 (0 : UInt8))) ++ (List.map u8v (List.replicate 32 (0 : UInt8))))) : List Value)) Tryd.underlying115 rfl (szL sz115 (by first | rfl | (simp only [List.length_append, List.length_map, List.length_cons, List.length_nil, (show List.length (List.replicate 32 (0 : UInt8)) = 32 from (List.length_replicate ..)), (show List.length (List.replicate 32 (0 : UInt8)) = 32 from (List.length_replicate ..))]; done) | (simp only [List.length_append, List.length_map, List.length_cons, List.length_nil, List.size_toArray, (show List.length (List.replicate 32 (0 : UInt8)) = 32 from (List.length_replicate ..)), (show List.length (List.replicate 32 (0 : UInt8)) = 32 from (List.length_replicate ..))]; done))) rfl (fun _ e => e ▸ rngL hb7)) ?_
        have hltg7 := hb7.lt
        have hltg4 := hb4.lt
        have hltg1 := hb1.lt
        refine wle rfl (e_bslX (E := 115) (cs := (([i64 (v0.toNat : Int), i64 (v1.toNat : Int)] ++ ((List.map u8v (List.replicate 32 (0 : UInt8))) ++ (List.map u8v (List.replicate 32 (0 : UInt8))))) : List Value)) (cs' := (([i64 (v0.toNat : Int), i64 (v1.toNat : Int)] ++ ((hx (List.replicate 32 (0 : UInt8))) ++ (hx (List.replicate 32 (0 : UInt8))))) : List Value)) rfl rfl (by simp only [hv, map_hx (List.length_replicate ..)] <;> rfl) (fun _ => by kernel_rfl) (fun w43 g53 hg53 hb53 hc hsz53 => ?_))
        have hzw43 := hc.size
        have HC := HC.tr hc
        have hW := hW.after hc
        have hrnd := hrnd.no hc
        have hS17 := hS17.no hc
        have hb7 := hb7.ch hc (fun h => h)
        have hb4 := hb4.ch hc (fun h => h)
        have hb1 := hb1.ch hc (fun h => h)
        have hbs := hbs.no hc
        have hS46 := hS46.no hc
        have hge53 : w.heap.size ≤ g53 := by have := HC.size; omega
        have hS53 := SI.oneA (E := eND) (x := ⟨(v0.toNat : Int), (v1.toNat : Int), (List.replicate 32 (0 : UInt8)), (List.replicate 32 (0 : UInt8))⟩) hb53 rfl ⟨(List.length_replicate ..), (List.length_replicate ..)⟩
        have hltg7 := hb7.lt
        have hltg4 := hb4.lt
        have hltg1 := hb1.lt
        refine wle rfl (e_appI rfl el33 rfl rfl hW (hS53) (by omega) (by intro k hk; first | omega | (dsimp only at *; omega)) (fun w44 A54 c54 hW hc => ?_))
        have hzw44 := hc.size
        have HC := HC.trans hc (fun _ _ h => h) (fun k hk ht => absurd ht (by omega))
        first | have hrnd := hrnd.ch hc (by intro k hk ht; omega) | have hrnd := hrnd.chT hc (by intro k hz hk ht; omega)
        first | have hS17 := hS17.ch hc (by intro k hk ht; omega) | have hS17 := hS17.chT hc (by intro k hz hk ht; omega)
        have hb7 := hb7.ch hc (by omega)
        have hb4 := hb4.ch hc (by omega)
        have hb1 := hb1.ch hc (by omega)
        have hbs := hbs.ch hc (by intro k hk ht; omega)
        first | have hS46 := hS46.ch hc (by intro k hk ht; omega) | have hS46 := hS46.chT hc (by intro k hz hk ht; omega)
        first | have hS53 := hS53.ch hc (by intro k hk ht; omega) | have hS53 := hS53.chT hc (by intro k hz hk ht; omega)
        refine wl rfl rfl rfl (p_as rfl) ?_
        refine wl_nil ?_
        refine x_in_normal ?_
        refine x_round (e' := [(1, .pointer (some ⟨g1, 0, none⟩)), (4, .pointer (some ⟨g4, 0, none⟩)), (5, .func (.func 93) #[] #[.pointer (some ⟨g4, 0, none⟩), .pointer (some ⟨g1, 0, none⟩)]), (6, .slice (_) (_) (_))]) ⟨rfl, rfl, rfl, rfl, trivial⟩ (by rw [hm0]; omega) ⟨_, bs46, false, At46, lt46, ct46, _, _, _, rfl, rfl, (by rw [hbsd46]; exact RInv.forkN hinv hb02 c3 (by omega) hv1), (by omega), (hW.mono (fun k _ hk => by (try simp only [and_assoc] at hk); exact ⟨hk.1, hk.2.1, by first | exact hk.2.2 | exact hk.2.2.1⟩)), hb4, hb1, hbs, hrnd, hgo, HC⟩
      ·
       have c3 := of_decide_eq_false c3
       refine wc_skip ?_
       refine x_in_normal ?_
       refine x_seq ?_
       refine wc_region ?_
       refine wl rfl rfl rfl (p_mv rfl) ?_
       refine wl rfl rfl rfl (p_ldA (cs := (([i64 (v0.toNat : Int), Value.int .i64 0] ++ ((List.map u8v (List.replicate 32 (0 : UInt8))) ++ (List.map u8v (List.replicate 32 (0 : UInt8))))) : List Value)) Tryd.underlying115 rfl (szL sz115 (by first | rfl | (simp only [List.length_append, List.length_map, List.length_cons, List.length_nil, (show List.length (List.replicate 32 (0 : UInt8)) = 32 from (List.length_replicate ..)), (show List.length (List.replicate 32 (0 : UInt8)) = 32 from (List.length_replicate ..))]; done) | (simp only [List.length_append, List.length_map, List.length_cons, List.length_nil, List.size_toArray, (show List.length (List.replicate 32 (0 : UInt8)) = 32 from (List.length_replicate ..)), (show List.length (List.replicate 32 (0 : UInt8)) = 32 from (List.length_replicate ..))]; done))) rfl (fun _ e => e ▸ rngL hb7)) ?_
       have hltg4 := hb4.lt
       have hltg1 := hb1.lt
       have hltg7 := hb7.lt
       refine wle rfl (e_bslX (E := 115) (cs := (([i64 (v0.toNat : Int), Value.int .i64 0] ++ ((List.map u8v (List.replicate 32 (0 : UInt8))) ++ (List.map u8v (List.replicate 32 (0 : UInt8))))) : List Value)) (cs' := (([i64 (v0.toNat : Int), Value.int .i64 0] ++ ((hx (List.replicate 32 (0 : UInt8))) ++ (hx (List.replicate 32 (0 : UInt8))))) : List Value)) rfl rfl (by simp only [hv, map_hx (List.length_replicate ..)] <;> rfl) (fun _ => by kernel_rfl) (fun w45 g53 hg53 hb53 hc hsz53 => ?_))
       have hzw45 := hc.size
       have HC := HC.tr hc
       have hW := hW.after hc
       have hrnd := hrnd.no hc
       have hb4 := hb4.ch hc (fun h => h)
       have hb1 := hb1.ch hc (fun h => h)
       have hbs := hbs.no hc
       have hS17 := hS17.no hc
       have hb7 := hb7.ch hc (fun h => h)
       have hge53 : w.heap.size ≤ g53 := by have := HC.size; omega
       have hS53 := SI.oneA (E := eND) (x := ⟨(v0.toNat : Int), (0), (List.replicate 32 (0 : UInt8)), (List.replicate 32 (0 : UInt8))⟩) hb53 rfl ⟨(List.length_replicate ..), (List.length_replicate ..)⟩
       have hltg4 := hb4.lt
       have hltg1 := hb1.lt
       have hltg7 := hb7.lt
       refine wle rfl (e_appI rfl el33 rfl rfl hW (hS53) (by omega) (by intro k hk; first | omega | (dsimp only at *; omega)) (fun w46 A54 c54 hW hc => ?_))
       have hzw46 := hc.size
       have HC := HC.trans hc (fun _ _ h => h) (fun k hk ht => absurd ht (by omega))
       first | have hrnd := hrnd.ch hc (by intro k hk ht; omega) | have hrnd := hrnd.chT hc (by intro k hz hk ht; omega)
       have hb4 := hb4.ch hc (by omega)
       have hb1 := hb1.ch hc (by omega)
       have hbs := hbs.ch hc (by intro k hk ht; omega)
       first | have hS17 := hS17.ch hc (by intro k hk ht; omega) | have hS17 := hS17.chT hc (by intro k hz hk ht; omega)
       have hb7 := hb7.ch hc (by omega)
       first | have hS53 := hS53.ch hc (by intro k hk ht; omega) | have hS53 := hS53.chT hc (by intro k hz hk ht; omega)
       refine wl rfl rfl rfl (p_as rfl) ?_
       refine wl_nil ?_
       refine x_in_normal ?_
       refine x_round (e' := [(1, .pointer (some ⟨g1, 0, none⟩)), (4, .pointer (some ⟨g4, 0, none⟩)), (5, .func (.func 93) #[] #[.pointer (some ⟨g4, 0, none⟩), .pointer (some ⟨g1, 0, none⟩)]), (6, .slice (_) (_) (_))]) ⟨rfl, rfl, rfl, rfl, trivial⟩ (by rw [hm0]; omega) ⟨_, bs17, false, At17, lt17, ct17, _, _, _, rfl, rfl, (RInv.otherN hinv hb02 c1 c2 c3), (by omega), (hW.mono (fun k _ hk => by (try simp only [and_assoc] at hk); exact ⟨hk.1, hk.2.1, by first | exact hk.2.2 | exact hk.2.2.1⟩)), hb4, hb1, hbs, hrnd, hgo, HC⟩
   ·
    refine wc_exit ?_
    refine x_then_exit ?_
    refine x_then_exit ?_
    refine x_in_here ?_
    refine x_seq ?_
    refine wc_seq ?_
    refine wc_seq ?_
    refine wc_region ?_
    refine wl rfl rfl rfl (p_ld Tryd.underlying4 rfl rfl (ld (hb4.cell rfl))) ?_
    refine wl rfl rfl rfl (p_mv rfl) ?_
    refine wl_split (d := 56) rfl (fun q56 => ?_) (fun q56 => ?_)
    ·
     refine wl_s (gd_ rfl rfl rfl rfl rfl rfl) rfl rfl ?_
     refine wl_s (gd_ rfl rfl rfl rfl rfl rfl) rfl rfl ?_
     refine wl_s (gd_ rfl rfl rfl rfl rfl rfl) rfl rfl ?_
     refine wl rfl rfl rfl (p_pickT rfl rfl) ?_
     refine wl_nil ?_
     refine x_seq ?_
     refine wc_yes rfl (rfl) ?_
     refine wc_seq ?_
     refine wc_region ?_
     refine wl rfl rfl rfl (p_as rfl) ?_
     refine wl rfl rfl rfl (p_as rfl) ?_
     refine wl_nil ?_
     refine x_seq ?_
     refine wc_ret ?_
     refine x_then_ret ?_
     refine fin_run ((res2 rfl rfl rfl)) ?_
     exact ⟨_, _, _, [], 4, rfl, SI.nil, .inr ⟨rfl, (show RInv xs ys bs true from (show bd = true by simpa using q56) ▸ hinv).none1⟩, HC⟩
    ·
     refine wl_g (gd_ rfl rfl rfl rfl rfl rfl) rfl rfl (p_mv rfl) ?_
     refine wle_g (gd_ rfl rfl rfl rfl rfl rfl) (e_call ent60 rfl rfl (mgood27 (hW.si) (by omega) hrnd) ?_)
     rintro _ w47 ⟨rfl, hc⟩
     refine ⟨_, rfl, ?_⟩
     have hzw47 := hc.size
     have HC := HC.tr hc
     have hW := hW.after hc
     have hb4 := hb4.ch hc (fun h => h)
     have hb1 := hb1.ch hc (fun h => h)
     have hbs := hbs.no hc
     have hrnd := hrnd.no hc
     refine wl_g (gd_ rfl rfl rfl rfl rfl rfl) rfl rfl (p_not rfl) ?_
     refine wl rfl rfl rfl (p_pickF rfl rfl) ?_
     refine wl_nil ?_
     refine x_seq ?_
     refine wc_if rfl (fun c4 => ?_) (fun c4 => ?_)
     ·
      refine wc_seq ?_
      refine wc_region ?_
      refine wl rfl rfl rfl (p_as rfl) ?_
      refine wl rfl rfl rfl (p_as rfl) ?_
      refine wl_nil ?_
      refine x_seq ?_
      refine wc_ret ?_
      refine x_then_ret ?_
      refine fin_run ((res2 rfl rfl rfl)) ?_
      have hbd : bd = false := by simpa using q56
      rw [hbd] at c0; simp at c0
     ·
      refine wc_skip ?_
      refine x_seq ?_
      refine wc_seq ?_
      refine wc_region ?_
      refine wl rfl rfl rfl (p_mv rfl) ?_
      refine wl rfl rfl rfl (p_as rfl) ?_
      refine wl rfl rfl rfl (p_as rfl) ?_
      refine wl_nil ?_
      refine x_seq ?_
      refine wc_ret ?_
      refine fin_run ((res2 rfl rfl rfl)) ?_
      have hbd : bd = false := by simpa using q56
      rw [hbd] at c0; simp at c0
  ·
   have q12 := of_decide_eq_false q12
   refine wl_s (gd_ rfl rfl rfl rfl rfl rfl) rfl rfl ?_
   refine wl_s (gd_ rfl rfl rfl rfl rfl rfl) rfl rfl ?_
   refine wl rfl rfl rfl (p_pickF rfl rfl) ?_
   refine wl_nil ?_
   refine x_seq ?_
   refine wc_no rfl (rfl) ?_
   refine wc_exit ?_
   refine x_then_exit ?_
   refine x_then_exit ?_
   refine x_in_here ?_
   refine x_seq ?_
   refine wc_seq ?_
   refine wc_seq ?_
   refine wc_region ?_
   refine wl rfl rfl rfl (p_ld Tryd.underlying4 rfl rfl (ld (hb4.cell rfl))) ?_
   refine wl rfl rfl rfl (p_mv rfl) ?_
   refine wl_split (d := 56) rfl (fun q56 => ?_) (fun q56 => ?_)
   ·
    refine wl_s (gd_ rfl rfl rfl rfl rfl rfl) rfl rfl ?_
    refine wl_s (gd_ rfl rfl rfl rfl rfl rfl) rfl rfl ?_
    refine wl_s (gd_ rfl rfl rfl rfl rfl rfl) rfl rfl ?_
    refine wl rfl rfl rfl (p_pickT rfl rfl) ?_
    refine wl_nil ?_
    refine x_seq ?_
    refine wc_yes rfl (rfl) ?_
    refine wc_seq ?_
    refine wc_region ?_
    refine wl rfl rfl rfl (p_as rfl) ?_
    refine wl rfl rfl rfl (p_as rfl) ?_
    refine wl_nil ?_
    refine x_seq ?_
    refine wc_ret ?_
    refine x_then_ret ?_
    refine fin_run ((res2 rfl rfl rfl)) ?_
    exact ⟨_, _, _, [], 4, rfl, SI.nil, .inr ⟨rfl, (show RInv xs ys bs true from (show bd = true by simpa using q56) ▸ hinv).none1⟩, HC⟩
   ·
    refine wl_g (gd_ rfl rfl rfl rfl rfl rfl) rfl rfl (p_mv rfl) ?_
    refine wle_g (gd_ rfl rfl rfl rfl rfl rfl) (e_call ent60 rfl rfl (mgood27 (hW.si) (by omega) hrnd) ?_)
    rintro _ w48 ⟨rfl, hc⟩
    refine ⟨_, rfl, ?_⟩
    have hzw48 := hc.size
    have HC := HC.tr hc
    have hW := hW.after hc
    have hb4 := hb4.ch hc (fun h => h)
    have hb1 := hb1.ch hc (fun h => h)
    have hbs := hbs.no hc
    have hrnd := hrnd.no hc
    refine wl_g (gd_ rfl rfl rfl rfl rfl rfl) rfl rfl (p_not rfl) ?_
    refine wl rfl rfl rfl (p_pickF rfl rfl) ?_
    refine wl_nil ?_
    refine x_seq ?_
    refine wc_if rfl (fun c4 => ?_) (fun c4 => ?_)
    ·
     refine wc_seq ?_
     refine wc_region ?_
     refine wl rfl rfl rfl (p_as rfl) ?_
     refine wl rfl rfl rfl (p_as rfl) ?_
     refine wl_nil ?_
     refine x_seq ?_
     refine wc_ret ?_
     refine x_then_ret ?_
     refine fin_run ((res2 rfl rfl rfl)) ?_
     have hbd : bd = false := by simpa using q56
     have hbn : bs = [] := List.eq_nil_of_length_eq_zero (by omega)
     rw [hbd, hbn] at hinv
     exact ⟨_, _, _, [], 4, rfl, SI.nil, .inr ⟨rfl, hinv.none2 (by simpa using c4)⟩, HC⟩
    ·
     refine wc_skip ?_
     refine x_seq ?_
     refine wc_seq ?_
     refine wc_region ?_
     refine wl rfl rfl rfl (p_mv rfl) ?_
     refine wl rfl rfl rfl (p_as rfl) ?_
     refine wl rfl rfl rfl (p_as rfl) ?_
     refine wl_nil ?_
     refine x_seq ?_
     refine wc_ret ?_
     refine fin_run ((res2 rfl rfl rfl)) ?_
     have hbd : bd = false := by simpa using q56
     have hbn : bs = [] := List.eq_nil_of_length_eq_zero (by omega)
     rw [hbd, hbn] at hinv
     exact ⟨_, _, _, ys, 0, rfl, hW.si.mono (fun k _ h => by (try simp only [and_assoc] at h); exact h.1), .inl ⟨rfl, hinv.done (by simpa using c4)⟩, HC⟩

set_option maxHeartbeats 1000000 in
set_option maxRecDepth 20000 in
theorem mequal270 {w : World} {Aa Ab : Option Addr} {la ca cb : Nat} {Fa Fb : Nat → Prop} {ms : List ND} (ha : SI w Fa eND Aa la ca ms) (hb : SI w Fb eND Ab la cb ms) (hla : la ≤ 1000000) :
    Calls Tryd.prog 95 #[.slice Aa la ca, .slice Ab la cb] w fun e w' => e = .returned (.bool true) ∧ Ch No w w' := by
  have hal := ha.len
  have ha := ha.old
  have hb := hb.old
  have HC : Ch No w w := Ch.refl _ _
  refine enter' (args := [.slice Aa la ca, .slice Ab la cb]) (n := 26) Tryd.func95 rfl rfl rfl ?_
  refine wc_seq ?_
  refine wc_region ?_
  refine wl rfl rfl rfl (p_as rfl) ?_
  refine wl_nil ?_
  refine x_seq ?_
  refine wc_seq ?_
  refine wc_seq ?_
  refine wc_region ?_
  refine wl rfl rfl rfl (p_mv rfl) ?_
  refine wl rfl rfl rfl (p_lenS Tryd.underlying33 rfl) ?_
  refine wl rfl rfl rfl (p_mv rfl) ?_
  refine wl rfl rfl rfl (p_lenS Tryd.underlying33 rfl) ?_
  refine wl rfl rfl rfl (p_ne rfl rfl) ?_
  refine wl_nil ?_
  refine x_seq ?_
  refine wc_no rfl (by simp) ?_
  refine wc_skip ?_
  refine x_seq ?_
  refine wc_seq ?_
  refine wc_seq ?_
  refine wc_region ?_
  refine wl rfl rfl rfl (p_mv rfl) ?_
  refine wl rfl rfl rfl (p_lenS Tryd.underlying33 rfl) ?_
  refine wl rfl rfl rfl (p_mv rfl) ?_
  refine wl_nil ?_
  refine x_seq ?_
  refine wc_block ?_
  refine wc_loop (e' := [(0, .slice Aa la ca), (1, .slice Ab la cb), (12, i64 (la : Int)), (13, i64 ((0) : Int))]) (fun mz ez uz => ∃ i : Nat, mz = la - i ∧ ez = [(0, .slice Aa la ca), (1, .slice Ab la cb), (12, i64 (la : Int)), (13, i64 (i : Int))] ∧ (i ≤ la) ∧ (SI uz (fun k => k < w.heap.size) eND Aa la ca ms) ∧ (SI uz (fun k => k < w.heap.size) eND Ab la cb ms) ∧ (Ch No w uz))
   ⟨rfl, rfl, rfl, rfl, trivial⟩ ⟨0, rfl, rfl, (by omega), ha, hb, HC⟩ ?_
  rintro m0 e w1 ⟨i, hm0, rfl, hi, ha, hb, HC⟩
  have hzw1 := HC.size
  refine wc_seq ?_
  refine wc_region ?_
  refine wl rfl rfl rfl (p_lt rfl rfl) ?_
  refine wl_nil ?_
  refine x_seq ?_
  refine wc_seq ?_
  refine wc_if rfl (fun c1 => ?_) (fun c1 => ?_)
  ·
   have c1 := of_decide_eq_true c1
   refine wc_skip ?_
   refine x_seq ?_
   refine wc_seq ?_
   refine wc_block ?_
   refine wc_seq ?_
   refine wc_region ?_
   refine wl rfl rfl rfl (p_mv rfl) ?_
   refine wl rfl rfl rfl (p_as rfl) ?_
   refine wl_nil ?_
   refine x_seq ?_
   refine wc_seq ?_
   refine wc_draw (.st 0 0 (.st 1 0 (.st 2 0 (.st 3 1 (.st 4 0 (.st 5 0 (.st 6 0 (.st 7 1 (.st 8 0 .nil))))))))) 9 (by kernel_rfl) (by kernel_rfl) (by kernel_rfl) (by repeat (first | with_reducible exact pan_body | with_reducible apply pan_then | with_reducible apply pan_in)) (fun x => Ch No w1.drew x) (Ch.refl _ _) ?_
   obtain ⟨w2, ew2⟩ : ∃ x, x = w1.drew := ⟨_, rfl⟩
   rw [← ew2]
   have hc : Ch No w1 w2 := by rw [ew2]; exact Ch.drew _
   have hszw2 : w2.heap.size = w1.heap.size := by rw [ew2]; rfl
   clear ew2
   have hzw2 := hc.size
   have HC := HC.tr hc
   have ha := ha.no hc
   have hb := hb.no hc
   have hS : Ch No w2 w2 := Ch.refl _ _
   refine ws_p rfl rfl rfl rfl (p_mv rfl) ?_
   refine ws_p rfl rfl rfl rfl (p_mv rfl) ?_
   obtain ⟨b3, o3, hA3, hF3, hr3⟩ := (ha).opn (i := i) (d := ND0) (by omega)
   have hok3 := (ha).okAt (i := i) (d := ND0) (by omega)
   obtain ⟨x3, ex3⟩ : ∃ x_, x_ = List.getD ms (i) ND0 := ⟨_, rfl⟩
   rw [← ex3] at hr3 hok3
   obtain ⟨hx3k, hx3v⟩ := hok3
   have hr3 : w2.rangeAt b3 (o3 + i * 66) (([i64 x3.kind, i64 x3.bit] ++ ((List.map u8v x3.key) ++ (List.map u8v x3.val))) : List Value) := hr3
   refine ws_p rfl rfl rfl rfl (p_ixS (j := i * 66) Tryd.underlying33 sz115 rfl hA3 rfl (by omega) (by omega) (congrArg (· * 66) (Int.toNat_natCast _))) ?_
   refine ws_h rfl rfl rfl rfl (p_ldA (cs := (([i64 x3.kind, i64 x3.bit] ++ ((List.map u8v x3.key) ++ (List.map u8v x3.val))) : List Value)) Tryd.underlying115 rfl (szL sz115 (by first | rfl | (simp only [List.length_append, List.length_map, List.length_cons, List.length_nil, (show List.length x3.key = 32 from hx3k), (show List.length x3.val = 32 from hx3v)]; done) | (simp only [List.length_append, List.length_map, List.length_cons, List.length_nil, List.size_toArray, (show List.length x3.key = 32 from hx3k), (show List.length x3.val = 32 from hx3v)]; done))) rfl (fun _ h => rng_no hr3 h)) ?_
   refine ws_p rfl rfl rfl rfl (p_mv rfl) ?_
   refine ws_p rfl rfl rfl rfl (p_mv rfl) ?_
   obtain ⟨b4, o4, hA4, hF4, hr4⟩ := (hb).opn (i := i) (d := ND0) (by omega)
   have hok4 := (hb).okAt (i := i) (d := ND0) (by omega)
   obtain ⟨x4, ex4⟩ : ∃ x_, x_ = List.getD ms (i) ND0 := ⟨_, rfl⟩
   rw [← ex4] at hr4 hok4
   obtain ⟨hx4k, hx4v⟩ := hok4
   have hr4 : w2.rangeAt b4 (o4 + i * 66) (([i64 x4.kind, i64 x4.bit] ++ ((List.map u8v x4.key) ++ (List.map u8v x4.val))) : List Value) := hr4
   refine ws_p rfl rfl rfl rfl (p_ixS (j := i * 66) Tryd.underlying33 sz115 rfl hA4 rfl (by omega) (by omega) (congrArg (· * 66) (Int.toNat_natCast _))) ?_
   refine ws_h rfl rfl rfl rfl (p_ldA (cs := (([i64 x4.kind, i64 x4.bit] ++ ((List.map u8v x4.key) ++ (List.map u8v x4.val))) : List Value)) Tryd.underlying115 rfl (szL sz115 (by first | rfl | (simp only [List.length_append, List.length_map, List.length_cons, List.length_nil, (show List.length x4.key = 32 from hx4k), (show List.length x4.val = 32 from hx4v)]; done) | (simp only [List.length_append, List.length_map, List.length_cons, List.length_nil, List.size_toArray, (show List.length x4.key = 32 from hx4k), (show List.length x4.val = 32 from hx4v)]; done))) rfl (fun _ h => rng_no hr4 h)) ?_
   have hxx : x3 = x4 := ex3.trans ex4.symm
   refine ws_p rfl rfl rfl rfl (p_neV (by kernel_rfl) rfl rfl (eqv_struct Tryd.underlying115 (by kernel_rfl) (eqf_cons rfl (part_c (cs := (([i64 x3.kind, i64 x3.bit] ++ ((List.map u8v x3.key) ++ (List.map u8v x3.val))) : List Value)) (p := []) (v := i64 x3.kind) (r := (([i64 x3.bit] ++ ((List.map u8v x3.key) ++ (List.map u8v x3.val))) : List Value)) Tryd.underlying3 rfl (by first | rfl | simp only [List.append_assoc, List.cons_append, List.nil_append, List.append_nil]) rfl) (part_c (cs := (([i64 x4.kind, i64 x4.bit] ++ ((List.map u8v x4.key) ++ (List.map u8v x4.val))) : List Value)) (p := []) (v := i64 x4.kind) (r := (([i64 x4.bit] ++ ((List.map u8v x4.key) ++ (List.map u8v x4.val))) : List Value)) Tryd.underlying3 rfl (by first | rfl | simp only [List.append_assoc, List.cons_append, List.nil_append, List.append_nil]) rfl) (eqv_int Tryd.underlying3) (eqf_cons rfl (part_c (cs := (([i64 x3.kind, i64 x3.bit] ++ ((List.map u8v x3.key) ++ (List.map u8v x3.val))) : List Value)) (p := ([i64 x3.kind] : List Value)) (v := i64 x3.bit) (r := (((List.map u8v x3.key) ++ (List.map u8v x3.val)) : List Value)) Tryd.underlying3 rfl (by first | rfl | simp only [List.append_assoc, List.cons_append, List.nil_append, List.append_nil]) (by first | rfl | (simp only [List.length_append, List.length_map, List.length_cons, List.length_nil]; done) | (simp only [List.length_append, List.length_map, List.length_cons, List.length_nil, List.size_toArray]; done))) (part_c (cs := (([i64 x4.kind, i64 x4.bit] ++ ((List.map u8v x4.key) ++ (List.map u8v x4.val))) : List Value)) (p := ([i64 x4.kind] : List Value)) (v := i64 x4.bit) (r := (((List.map u8v x4.key) ++ (List.map u8v x4.val)) : List Value)) Tryd.underlying3 rfl (by first | rfl | simp only [List.append_assoc, List.cons_append, List.nil_append, List.append_nil]) (by first | rfl | (simp only [List.length_append, List.length_map, List.length_cons, List.length_nil]; done) | (simp only [List.length_append, List.length_map, List.length_cons, List.length_nil, List.size_toArray]; done))) (eqv_int Tryd.underlying3) (eqf_cons rfl (part_h (cs := (([i64 x3.kind, i64 x3.bit] ++ ((List.map u8v x3.key) ++ (List.map u8v x3.val))) : List Value)) (p := ([i64 x3.kind, i64 x3.bit] : List Value)) (L := x3.key) (r := ((List.map u8v x3.val) : List Value)) Tryd.underlying38 rfl sz38 (hx3k) (by first | rfl | simp only [List.append_assoc, List.cons_append, List.nil_append, List.append_nil]) (by first | rfl | (simp only [List.length_append, List.length_map, List.length_cons, List.length_nil]; done) | (simp only [List.length_append, List.length_map, List.length_cons, List.length_nil, List.size_toArray]; done))) (part_h (cs := (([i64 x4.kind, i64 x4.bit] ++ ((List.map u8v x4.key) ++ (List.map u8v x4.val))) : List Value)) (p := ([i64 x4.kind, i64 x4.bit] : List Value)) (L := x4.key) (r := ((List.map u8v x4.val) : List Value)) Tryd.underlying38 rfl sz38 (hx4k) (by first | rfl | simp only [List.append_assoc, List.cons_append, List.nil_append, List.append_nil]) (by first | rfl | (simp only [List.length_append, List.length_map, List.length_cons, List.length_nil]; done) | (simp only [List.length_append, List.length_map, List.length_cons, List.length_nil, List.size_toArray]; done))) (eqv_hash Tryd.underlying38 Tryd.underlying5 sz5 (hx3k) (hx4k)) (eqf_cons rfl (part_h (cs := (([i64 x3.kind, i64 x3.bit] ++ ((List.map u8v x3.key) ++ (List.map u8v x3.val))) : List Value)) (p := (([i64 x3.kind, i64 x3.bit] ++ (List.map u8v x3.key)) : List Value)) (L := x3.val) (r := []) Tryd.underlying38 rfl sz38 (hx3v) (by first | rfl | simp only [List.append_assoc, List.cons_append, List.nil_append, List.append_nil]) (by first | rfl | (simp only [List.length_append, List.length_map, List.length_cons, List.length_nil, (show List.length x3.key = 32 from hx3k)]; done) | (simp only [List.length_append, List.length_map, List.length_cons, List.length_nil, List.size_toArray, (show List.length x3.key = 32 from hx3k)]; done))) (part_h (cs := (([i64 x4.kind, i64 x4.bit] ++ ((List.map u8v x4.key) ++ (List.map u8v x4.val))) : List Value)) (p := (([i64 x4.kind, i64 x4.bit] ++ (List.map u8v x4.key)) : List Value)) (L := x4.val) (r := []) Tryd.underlying38 rfl sz38 (hx4v) (by first | rfl | simp only [List.append_assoc, List.cons_append, List.nil_append, List.append_nil]) (by first | rfl | (simp only [List.length_append, List.length_map, List.length_cons, List.length_nil, (show List.length x4.key = 32 from hx4k)]; done) | (simp only [List.length_append, List.length_map, List.length_cons, List.length_nil, List.size_toArray, (show List.length x4.key = 32 from hx4k)]; done))) (eqv_hash Tryd.underlying38 Tryd.underlying5 sz5 (hx3v) (hx4v)) (eqf_nil))))))) ?_
   refine ws_n ?_
   refine x_seq ?_
   refine wc_no rfl (by simp [hxx]) ?_
   refine wc_skip ?_
   refine x_in_normal ?_
   refine x_seq ?_
   refine wc_region ?_
   refine wl rfl rfl rfl (p_add rfl rfl (w64 (by omega))) ?_
   refine wl rfl rfl rfl (p_mv rfl) ?_
   refine wl_nil ?_
   refine x_round (e' := [(0, .slice Aa la ca), (1, .slice Ab la cb), (12, i64 (la : Int)), (13, i64 ((i + 1) : Int))]) ⟨rfl, rfl, rfl, rfl, trivial⟩ (by rw [hm0]; omega) ⟨i + 1, rfl, rfl, (by omega), ha, hb, HC⟩
  ·
   have c1 := of_decide_eq_false c1
   refine wc_exit ?_
   refine x_then_exit ?_
   refine x_then_exit ?_
   refine x_in_here ?_
   refine x_seq ?_
   refine wc_seq ?_
   refine wc_region ?_
   refine wl rfl rfl rfl (p_as rfl) ?_
   refine wl_nil ?_
   refine x_seq ?_
   refine wc_ret ?_
   refine fin_run ((res1 rfl rfl)) ?_
   exact ⟨rfl, HC⟩

theorem mequal27 {w : World} {Aa Ab : Option Addr} {la lb ca cb : Nat} {Fa Fb : Nat → Prop} {ms : List ND} (ha : SI w Fa eND Aa la ca ms) (hb : SI w Fb eND Ab lb cb ms) (hla : la ≤ 1000000) : Calls Tryd.prog 95 #[.slice Aa la ca, .slice Ab lb cb] w fun e w' => e = .returned (.bool true) ∧ Ch No w w' := by
  obtain rfl : la = lb := ha.len.symm.trans hb.len
  exact mequal270 ha hb hla

set_option maxHeartbeats 1000000 in
set_option maxRecDepth 20000 in
theorem msame27 {w : World} {Aa Ab : Option Addr} {la lb ca cb : Nat} {Fa Fb : Nat → Prop} {ms : List ND} (ha : SI w Fa eND Aa la ca ms) (hb : SI w Fb eND Ab lb cb ms) (hla : la ≤ 1000000) :
    Calls Tryd.prog 66 #[.slice Aa la ca, .slice Ab lb cb] w fun e w' => e = .returned (.bool true) ∧ Ch No w w' := by
  have ha := ha.old
  have hb := hb.old
  have HC : Ch No w w := Ch.refl _ _
  refine enter' (args := [.slice Aa la ca, .slice Ab lb cb]) (n := 8) Tryd.func66 rfl rfl rfl ?_
  refine wc_seq ?_
  refine wc_region ?_
  refine wl rfl rfl rfl (p_as rfl) ?_
  refine wl_nil ?_
  refine x_seq ?_
  refine wc_seq ?_
  refine wc_region ?_
  refine wl rfl rfl rfl (p_mv rfl) ?_
  refine wl rfl rfl rfl (p_mv rfl) ?_
  refine wle rfl (e_call ent95 rfl rfl (mequal27 (ha) (hb) (by omega)) ?_)
  rintro _ w1 ⟨rfl, hc⟩
  refine ⟨_, rfl, ?_⟩
  have hzw1 := hc.size
  have HC := HC.tr hc
  have ha := ha.no hc
  have hb := hb.no hc
  refine wl rfl rfl rfl (p_as rfl) ?_
  refine wl_nil ?_
  refine x_seq ?_
  refine wc_ret ?_
  refine fin_run ((res1 rfl rfl)) ?_
  exact ⟨rfl, HC⟩

theorem nodes_le {xs : List UInt8} {ns : List ND} (h : ReadOK xs ns) : ns.length ≤ xs.length := by
  rw [← h.2.2]
  generalize ns = l
  induction l with
  | nil => exact Nat.le_refl _
  | cons y l ih => rw [List.flatMap_cons, List.length_append, List.length_cons]; have := enc_pos y; omega

theorem bytes_le {l : List ND} (h : ∀ x ∈ l, CanN x) (hl : l.length ≤ 10000) : (bytesN l).length ≤ 1000000 := by
  have h65 : ∀ m : List ND, (∀ x ∈ m, CanN x) → (m.flatMap bytN).length ≤ 65 * m.length := by
    intro m
    induction m with
    | nil => intro _; exact Nat.le_refl _
    | cons y m ih =>
      intro hm
      have hy := hm y (List.mem_cons_self ..)
      have h1 := ih (fun x hx => hm x (List.mem_cons_of_mem _ hx))
      have h2 : (bytN y).length ≤ 65 := by
        obtain ⟨_, k1, k2, _⟩ := hy
        unfold bytN
        split
        · simp; omega
        · split
          · simp; omega
          · split <;> simp
      rw [List.flatMap_cons, List.length_append, List.length_cons]; omega
  unfold bytesN
  split
  · have := h65 l h; omega
  · exact Nat.zero_le _

theorem cnt_none {o : Option Tr} (h : cntT o = 0) : o = none := by
  cases o with
  | none => rfl
  | some t => have := Tr.cnt_pos t; exact absurd h (by show ¬ t.cnt = 0; omega)

set_option maxHeartbeats 8000000 in
set_option maxRecDepth 20000 in
theorem multiBack_walk {w : World}  {Al : Option Addr} {ll cl : Nat} {Fl : Nat → Prop} {l : List (H8 × H8)} {Ak : Option Addr} {lk ck : Nat} {Fk : Nat → Prop} {ks : List H8} {Ax : Option Addr} {lx cx : Nat} {Fx : Nat → Prop} {xs : List UInt8} (hin : SI w Fl eIT Al ll cl l) (hks : SI w Fk eH Ak lk ck ks) (hxs : Sl w Fx u8v Ax lx cx xs) (hrnd : Sl w (fun k => k = 0) u32v (some ⟨0, 0, none⟩) 64 64 rk) :
    Calls Tryd.prog 19 #[.slice Al ll cl, .slice Ak lk ck, .slice Ax lx cx] w fun e w' => e = .returned (.bool true) ∧ Ch No w w' := by
  have hn0 : 0 < w.heap.size := hrnd.size (by omega) rfl
  have hn1 := hn0
  have hinl := hin.len
  have hok := hin.ok
  have hkl := hks.len
  have hxl := hxs.len
  have hin := hin.old
  have hks := hks.old
  have hxs := hxs.old
  have HC : Ch No w w := Ch.refl _ _
  refine enter' (args := [.slice Al ll cl, .slice Ak lk ck, .slice Ax lx cx]) (n := 102) Tryd.func19 rfl rfl rfl ?_
  refine wc_seq ?_
  refine wc_region ?_
  refine wl rfl rfl rfl (p_as rfl) ?_
  refine wl_nil ?_
  refine x_seq ?_
  refine wc_seq ?_
  refine wc_seq ?_
  refine wc_region ?_
  refine wl rfl rfl rfl (p_mv rfl) ?_
  refine wl rfl rfl rfl (p_lenS Tryd.underlying22 rfl) ?_
  refine wl rfl rfl rfl (p_gt rfl rfl) ?_
  refine wl rfl rfl rfl (p_mv rfl) ?_
  refine wl_split (d := 21) rfl (fun q21 => ?_) (fun q21 => ?_)
  ·
   have q21 := of_decide_eq_true q21
   refine wl_s (gd_ rfl rfl rfl rfl rfl rfl) rfl rfl ?_
   refine wl_s (gd_ rfl rfl rfl rfl rfl rfl) rfl rfl ?_
   refine wl_s (gd_ rfl rfl rfl rfl rfl rfl) rfl rfl ?_
   refine wl rfl rfl rfl (p_pickT rfl rfl) ?_
   refine wl rfl rfl rfl (p_mv rfl) ?_
   refine wl_s (gd_ rfl rfl rfl rfl rfl rfl) rfl rfl ?_
   refine wl_s (gd_ rfl rfl rfl rfl rfl rfl) rfl rfl ?_
   refine wl_s (gd_ rfl rfl rfl rfl rfl rfl) rfl rfl ?_
   refine wl rfl rfl rfl (p_pickT rfl rfl) ?_
   refine wl_nil ?_
   refine x_seq ?_
   refine wc_yes rfl (rfl) ?_
   refine wc_seq ?_
   refine wc_region ?_
   refine wle rfl (e_call ent20 rfl rfl (lives27_any hrnd) ?_)
   rintro _ w1 ⟨rfl, hc⟩
   refine ⟨_, rfl, ?_⟩
   have hzw1 := hc.size
   have HC := HC.tr hc
   have hin := hin.no hc
   have hks := hks.no hc
   have hxs := hxs.no hc
   have hrnd := hrnd.no hc
   refine wl rfl rfl rfl (p_as rfl) ?_
   refine wl_nil ?_
   refine x_seq ?_
   refine wc_ret ?_
   refine x_then_ret ?_
   refine fin_run ((res1 rfl rfl)) ?_
   exact ⟨rfl, HC⟩
  ·
   have q21 := of_decide_eq_false q21
   refine wl_g (gd_ rfl rfl rfl rfl rfl rfl) rfl rfl (p_mv rfl) ?_
   refine wl_g (gd_ rfl rfl rfl rfl rfl rfl) rfl rfl (p_lenS Tryd.underlying23 rfl) ?_
   refine wl_g (gd_ rfl rfl rfl rfl rfl rfl) rfl rfl (p_gt rfl rfl) ?_
   refine wl rfl rfl rfl (p_pickF rfl rfl) ?_
   refine wl rfl rfl rfl (p_mv rfl) ?_
   refine wl_split (d := 26) rfl (fun q26 => ?_) (fun q26 => ?_)
   ·
    have q26 := of_decide_eq_true q26
    refine wl_s (gd_ rfl rfl rfl rfl rfl rfl) rfl rfl ?_
    refine wl_s (gd_ rfl rfl rfl rfl rfl rfl) rfl rfl ?_
    refine wl_s (gd_ rfl rfl rfl rfl rfl rfl) rfl rfl ?_
    refine wl rfl rfl rfl (p_pickT rfl rfl) ?_
    refine wl_nil ?_
    refine x_seq ?_
    refine wc_yes rfl (rfl) ?_
    refine wc_seq ?_
    refine wc_region ?_
    refine wle rfl (e_call ent20 rfl rfl (lives27_any hrnd) ?_)
    rintro _ w2 ⟨rfl, hc⟩
    refine ⟨_, rfl, ?_⟩
    have hzw2 := hc.size
    have HC := HC.tr hc
    have hin := hin.no hc
    have hks := hks.no hc
    have hxs := hxs.no hc
    have hrnd := hrnd.no hc
    refine wl rfl rfl rfl (p_as rfl) ?_
    refine wl_nil ?_
    refine x_seq ?_
    refine wc_ret ?_
    refine x_then_ret ?_
    refine fin_run ((res1 rfl rfl)) ?_
    exact ⟨rfl, HC⟩
   ·
    have q26 := of_decide_eq_false q26
    refine wl_g (gd_ rfl rfl rfl rfl rfl rfl) rfl rfl (p_mv rfl) ?_
    refine wl_g (gd_ rfl rfl rfl rfl rfl rfl) rfl rfl (p_lenS Tryd.underlying107 rfl) ?_
    refine wl_g (gd_ rfl rfl rfl rfl rfl rfl) rfl rfl (p_gt rfl rfl) ?_
    refine wl rfl rfl rfl (p_pickF rfl rfl) ?_
    refine wl_nil ?_
    refine x_seq ?_
    refine wc_if rfl (fun c0 => ?_) (fun c0 => ?_)
    ·
     have c0 := of_decide_eq_true c0
     refine wc_seq ?_
     refine wc_region ?_
     refine wle rfl (e_call ent20 rfl rfl (lives27_any hrnd) ?_)
     rintro _ w3 ⟨rfl, hc⟩
     refine ⟨_, rfl, ?_⟩
     have hzw3 := hc.size
     have HC := HC.tr hc
     have hin := hin.no hc
     have hks := hks.no hc
     have hxs := hxs.no hc
     have hrnd := hrnd.no hc
     refine wl rfl rfl rfl (p_as rfl) ?_
     refine wl_nil ?_
     refine x_seq ?_
     refine wc_ret ?_
     refine x_then_ret ?_
     refine fin_run ((res1 rfl rfl)) ?_
     exact ⟨rfl, HC⟩
    ·
     have c0 := of_decide_eq_false c0
     refine wc_skip ?_
     refine x_seq ?_
     refine wc_seq ?_
     refine wc_region ?_
     refine wl rfl rfl rfl (p_mv rfl) ?_
     refine wle rfl (e_call ent21 rfl rfl (made27_any hin (by omega)) ?_)
     rintro _ w4 ⟨v34, o34, A34, lm34, cm34, rfl, hV34, heo34, hM34, hc⟩
     refine ⟨_, rfl, ?_⟩
     have hzw4 := hc.size
     have HC := HC.tr hc
     have hin := hin.no hc
     have hks := hks.no hc
     have hxs := hxs.no hc
     have hrnd := hrnd.no hc
     obtain ⟨hwf, hmc⟩ := mkT_all hok
     have hml34 : lm34 = cntT (mkT l) := by rw [← itemsT_cnt]; exact hM34.len.symm
     have hwfo : WFO (eo o34) := by rw [heo34]; exact hwf
     have hcno : cntT (eo o34) ≤ 1000 := by rw [heo34]; omega
     have hV34 := hV34.mono (G := fun k => w.heap.size ≤ k ∧ k < w4.heap.size) (fun k h1 h2 => ⟨by first | exact h2 | exact h2.1 | ((try dsimp only at h2); omega), h1⟩)
     have hM34 := hM34.mono (G := fun k => w.heap.size ≤ k ∧ k < w4.heap.size) (fun k h1 h2 => ⟨by first | exact h2 | exact h2.1 | ((try dsimp only at h2); omega), h1⟩)
     refine wl rfl rfl rfl (p_mv rfl) ?_
     refine wl rfl rfl rfl (p_ext rfl rfl) ?_
     refine wl rfl rfl rfl (p_ext rfl rfl) ?_
     refine wl rfl rfl rfl (p_as rfl) ?_
     refine wl rfl rfl rfl (p_as rfl) ?_
     refine wl_nil ?_
     refine x_seq ?_
     refine wc_seq ?_
     refine wc_region ?_
     refine wl rfl rfl rfl (p_mv rfl) ?_
     refine wle rfl (e_call ent64 rfl rfl (mread27 (hxs) (by omega) hrnd) ?_)
     rintro _ w5 ⟨A39, l39, c39, ns39, ec39, rfl, hN39, hro39, hc⟩
     refine ⟨_, rfl, ?_⟩
     have hzw5 := hc.size
     have HC := HC.tr hc
     have hin := hin.no hc
     have hks := hks.no hc
     have hxs := hxs.no hc
     have hrnd := hrnd.no hc
     have hV34 := hV34.ch hc (by first | exact fun _ _ _ h => h | (intro k hk hF ht; have h2 := hF.1; have h3 := hF.2; first | omega | (dsimp only at *; omega)))
     have hM34 := hM34.after hc
     have hNl39 := hN39.len
     have hN39 := hN39.mono (G := fun k => w4.heap.size ≤ k ∧ k < w5.heap.size) (fun k h1 h2 => ⟨h2, h1⟩)
     refine wl rfl rfl rfl (p_mv rfl) ?_
     refine wl rfl rfl rfl (p_ext rfl rfl) ?_
     refine wl rfl rfl rfl (p_ext rfl rfl) ?_
     refine wl rfl rfl rfl (p_as rfl) ?_
     refine wl rfl rfl rfl (p_as rfl) ?_
     refine wl_nil ?_
     refine x_seq ?_
     refine wc_seq ?_
     refine wc_seq ?_
     refine wc_draw (.st 0 0 (.st 1 0 (.st 2 0 (.st 3 0 (.st 6 0 (.st 7 1 (.st 4 2 (.st 5 1 (.st 8 0 (.st 9 0 .nil)))))))))) 10 (by kernel_rfl) (by kernel_rfl) (by kernel_rfl) (by repeat (first | with_reducible exact pan_body | with_reducible apply pan_then | with_reducible apply pan_in)) (fun x => Ch No w5.drew x) (Ch.refl _ _) ?_
     obtain ⟨w6, ew6⟩ : ∃ x, x = w5.drew := ⟨_, rfl⟩
     rw [← ew6]
     have hc : Ch No w5 w6 := by rw [ew6]; exact Ch.drew _
     have hszw6 : w6.heap.size = w5.heap.size := by rw [ew6]; rfl
     clear ew6
     have hzw6 := hc.size
     have HC := HC.tr hc
     have hin := hin.no hc
     have hks := hks.no hc
     have hxs := hxs.no hc
     have hrnd := hrnd.no hc
     have hV34 := hV34.ch hc (by first | exact fun _ _ _ h => h | (intro k hk hF ht; have h2 := hF.1; have h3 := hF.2; first | omega | (dsimp only at *; omega)))
     have hM34 := hM34.no hc
     have hN39 := hN39.no hc
     have hS : Ch No w6 w6 := Ch.refl _ _
     refine ws_p rfl rfl rfl rfl (p_mv rfl) ?_
     refine ws_p rfl rfl rfl rfl (p_eq rfl rfl) ?_
     refine ws_p rfl rfl rfl rfl (p_mv rfl) ?_
     refine ws_split (d := 44) rfl (fun q44 => ?_) (fun q44 => ?_)
     ·
      have q44 := of_decide_eq_true q44
      have hre39 : ReadOK xs ns39 := by rcases hro39 with h | h; exact h.2; exact absurd q44 (by omega)
      have hnl39 := nodes_le hre39
      have hbe : bytesN ns39 = xs := by rw [bytes_yes hre39.2.1]; exact hre39.2.2
      refine ws_pg rfl (gd_ rfl rfl rfl rfl rfl rfl) rfl rfl (p_mv rfl) ?_
      refine ws_pg rfl (gd_ rfl rfl rfl rfl rfl rfl) rfl rfl (p_mv rfl) ?_
      refine ws_hg rfl (gd_ rfl rfl rfl rfl rfl rfl) rfl rfl (p_bts Tryd.underlying107 Tryd.underlying5 Tryd.underlying9 rfl (hxs).len (fun _ h => (hxs).rd.no h)) ?_
      refine ws_eg rfl (gd_ rfl rfl rfl rfl rfl rfl) (e_call ent65 rfl rfl (mbytes27 (hN39) (by omega) hrnd) ?_)
      rintro _ w7 ⟨A46, l46, c46, rfl, hB46, hc⟩
      refine ⟨_, rfl, hc, ?_⟩
      have hzw7 := hc.size
      have HC := HC.tr hc
      have hin := hin.no hc
      have hks := hks.no hc
      have hxs := hxs.no hc
      have hrnd := hrnd.no hc
      have hV34 := hV34.ch hc (by first | exact fun _ _ _ h => h | (intro k hk hF ht; have h2 := hF.1; have h3 := hF.2; first | omega | (dsimp only at *; omega)))
      have hM34 := hM34.after hc
      have hN39 := hN39.no hc
      have hBl46 := hB46.len
      have hB46 := hB46.mono (G := fun k => w6.heap.size ≤ k ∧ k < w7.heap.size) (fun k h1 h2 => ⟨h2, h1⟩)
      refine ws_narrow (S' := fun x => Ch No w7 x) (Ch.refl _ _) (fun x h => hc.tr h) ?_
      refine ws_hg rfl (gd_ rfl rfl rfl rfl rfl rfl) rfl rfl (p_bts Tryd.underlying107 Tryd.underlying5 Tryd.underlying9 rfl (hB46).len (fun _ h => (hB46).rd.no h)) ?_
      refine ws_pg rfl (gd_ rfl rfl rfl rfl rfl rfl) rfl rfl (p_neT rfl rfl) ?_
      refine ws_p rfl rfl rfl rfl (p_pickT rfl rfl) ?_
      refine ws_n ?_
      refine x_seq ?_
      refine wc_no rfl (by rw [hbe]; exact bne_self_eq_false _) ?_
      refine wc_skip ?_
      refine x_seq ?_
      refine wc_seq ?_
      refine wc_region ?_
      refine wl rfl rfl rfl (p_mv rfl) ?_
      refine wl rfl rfl rfl (p_mv rfl) ?_
      refine wle rfl (e_call ent24 rfl rfl (mprove27_any hV34 hwfo hcno (hks) (by omega) hrnd) ?_)
      rintro _ w8 ⟨A54, l54, c54, rfl, hP54, hc⟩
      refine ⟨_, rfl, ?_⟩
      have hzw8 := hc.size
      have HC := HC.tr hc
      have hin := hin.no hc
      have hks := hks.no hc
      have hxs := hxs.no hc
      have hrnd := hrnd.no hc
      have hV34 := hV34.ch hc (by first | exact fun _ _ _ h => h | (intro k hk hF ht; have h2 := hF.1; have h3 := hF.2; first | omega | (dsimp only at *; omega)))
      have hM34 := hM34.after hc
      have hN39 := hN39.no hc
      have hB46 := hB46.no hc
      have hPl54 := hP54.len
      have hPb54 : l54 ≤ 2 * cntT (eo o34) + 1 := by rw [← hPl54]; exact prvN_len
      have hP54 := hP54.mono (G := fun k => w7.heap.size ≤ k ∧ k < w8.heap.size) (fun k h1 h2 => ⟨h2, h1⟩)
      refine wl rfl rfl rfl (p_as rfl) ?_
      refine wl_nil ?_
      refine x_seq ?_
      refine wc_seq ?_
      refine wc_region ?_
      refine wl rfl rfl rfl (p_mv rfl) ?_
      refine wle rfl (e_call ent65 rfl rfl (mbytes27 (hP54.si) (by omega) hrnd) ?_)
      rintro _ w9 ⟨A56, l56, c56, rfl, hB56, hc⟩
      refine ⟨_, rfl, ?_⟩
      have hzw9 := hc.size
      have HC := HC.tr hc
      have hin := hin.no hc
      have hks := hks.no hc
      have hxs := hxs.no hc
      have hrnd := hrnd.no hc
      have hV34 := hV34.ch hc (by first | exact fun _ _ _ h => h | (intro k hk hF ht; have h2 := hF.1; have h3 := hF.2; first | omega | (dsimp only at *; omega)))
      have hM34 := hM34.after hc
      have hN39 := hN39.no hc
      have hB46 := hB46.no hc
      have hP54 := hP54.after hc
      have hBl56 := hB56.len
      have hB56 := hB56.mono (G := fun k => w8.heap.size ≤ k ∧ k < w9.heap.size) (fun k h1 h2 => ⟨h2, h1⟩)
      have hbp := bytes_pos (l := (prvN (eo o34) ks)) (by rw [prvN_root hwfo])
      have hbl2 : l56 ≤ 1000000 := by rw [← hBl56]; exact bytes_le (fun x hx => prvN_can hwfo x hx) (by omega)
      refine wl rfl rfl rfl (p_as rfl) ?_
      refine wl_nil ?_
      refine x_seq ?_
      refine wc_seq ?_
      refine wc_region ?_
      refine wl rfl rfl rfl (p_mv rfl) ?_
      refine wle rfl (e_call ent64 rfl rfl (mread27 (hB56) (by omega) hrnd) ?_)
      rintro _ w10 ⟨A59, l59, c59, ns59, ec59, rfl, hN59, hro59, hc⟩
      refine ⟨_, rfl, ?_⟩
      have hzw10 := hc.size
      have HC := HC.tr hc
      have hin := hin.no hc
      have hks := hks.no hc
      have hxs := hxs.no hc
      have hrnd := hrnd.no hc
      have hV34 := hV34.ch hc (by first | exact fun _ _ _ h => h | (intro k hk hF ht; have h2 := hF.1; have h3 := hF.2; first | omega | (dsimp only at *; omega)))
      have hM34 := hM34.after hc
      have hN39 := hN39.no hc
      have hB46 := hB46.no hc
      have hP54 := hP54.after hc
      have hB56 := hB56.no hc
      have hrp := read_bytes (l := (prvN (eo o34) ks)) (by rw [prvN_root hwfo])
      obtain ⟨hec, hns⟩ : ec59 = 0 ∧ ns59 = (prvN (eo o34) ks) := by rcases hro59 with ⟨h1, h2⟩ | ⟨_, h⟩; exact ⟨h1, read_uniq h2 hrp⟩; exact absurd ⟨_, hrp⟩ h
      rw [hns] at hN59
      have hNl59 := hN59.len
      have hN59 := hN59.mono (G := fun k => w9.heap.size ≤ k ∧ k < w10.heap.size) (fun k h1 h2 => ⟨h2, h1⟩)
      refine wl rfl rfl rfl (p_mv rfl) ?_
      refine wl rfl rfl rfl (p_ext rfl rfl) ?_
      refine wl rfl rfl rfl (p_ext rfl rfl) ?_
      refine wl rfl rfl rfl (p_as rfl) ?_
      refine wl rfl rfl rfl (p_as rfl) ?_
      refine wl_nil ?_
      refine x_seq ?_
      refine wc_seq ?_
      refine wc_seq ?_
      refine wc_region ?_
      refine wl rfl rfl rfl (p_mv rfl) ?_
      refine wl rfl rfl rfl (p_ne rfl rfl) ?_
      refine wl rfl rfl rfl (p_mv rfl) ?_
      refine wl_know (d := 64) (b' := false) rfl (by simp [hec]) ?_
      refine wl_g (gd_ rfl rfl rfl rfl rfl rfl) rfl rfl (p_mv rfl) ?_
      refine wl_g (gd_ rfl rfl rfl rfl rfl rfl) rfl rfl (p_mv rfl) ?_
      refine wle_g (gd_ rfl rfl rfl rfl rfl rfl) (e_call ent66 rfl rfl (msame27 (hP54.si) (hN59) (by omega)) ?_)
      rintro _ w11 ⟨rfl, hc⟩
      refine ⟨_, rfl, ?_⟩
      have hzw11 := hc.size
      have HC := HC.tr hc
      have hin := hin.no hc
      have hks := hks.no hc
      have hxs := hxs.no hc
      have hrnd := hrnd.no hc
      have hV34 := hV34.ch hc (by first | exact fun _ _ _ h => h | (intro k hk hF ht; have h2 := hF.1; have h3 := hF.2; first | omega | (dsimp only at *; omega)))
      have hM34 := hM34.after hc
      have hN39 := hN39.no hc
      have hB46 := hB46.no hc
      have hP54 := hP54.after hc
      have hB56 := hB56.no hc
      have hN59 := hN59.no hc
      refine wl_g (gd_ rfl rfl rfl rfl rfl rfl) rfl rfl (p_not rfl) ?_
      refine wl rfl rfl rfl (p_pickF rfl rfl) ?_
      refine wl rfl rfl rfl (p_mv rfl) ?_
      refine wl_g (gd_ rfl rfl rfl rfl rfl rfl) rfl rfl (p_mv rfl) ?_
      refine wl_g (gd_ rfl rfl rfl rfl rfl rfl) rfl rfl (p_lenS Tryd.underlying107 rfl) ?_
      refine wl_g (gd_ rfl rfl rfl rfl rfl rfl) rfl rfl (p_eq rfl rfl) ?_
      refine wl rfl rfl rfl (p_pickF rfl rfl) ?_
      refine wl_nil ?_
      refine x_seq ?_
      refine wc_no rfl (decide_eq_false (by omega)) ?_
      refine wc_skip ?_
      refine x_seq ?_
      refine wc_seq ?_
      refine wc_seq ?_
      refine wc_region ?_
      refine wl rfl rfl rfl (p_as rfl) ?_
      refine wl_nil ?_
      refine x_seq ?_
      refine wc_block ?_
      refine wc_loop (e' := [(7, v34), (8, .slice A34 lm34 cm34), (12, .slice A56 l56 c56), (15, i64 ((0) : Int))]) (fun mz ez uz => ∃ i : Nat, mz = l56 - i ∧ ez = [(7, v34), (8, .slice A34 lm34 cm34), (12, .slice A56 l56 c56), (15, i64 (i : Int))] ∧ (i ≤ l56) ∧ (TR 41 156 (fun k => w.heap.size ≤ k) uz v34 o34) ∧ (Sl uz (fun k => w.heap.size ≤ k) u8v A56 l56 c56 (bytesN (prvN (eo o34) ks))) ∧ (Sl uz (fun k => k = 0) u32v (some ⟨0, 0, none⟩) 64 64 rk) ∧ (Ch No w uz))
       ⟨rfl, rfl, rfl, rfl, trivial⟩ ⟨0, rfl, rfl, (by omega), (hV34.mono (fun k _ h => by first | exact h.1 | exact h | exact h.1.1 | (have := h.1; show w.heap.size ≤ k; omega) | ((try simp only [and_assoc] at h); have := h.1; show w.heap.size ≤ k; omega))), (hB56.mono (fun k _ h => by have := h.1; show w.heap.size ≤ k; omega)), hrnd, HC⟩ ?_
      rintro m0 e w12 ⟨i, hm0, rfl, hi, hV34, hB56, hrnd, HC⟩
      have hzw12 := HC.size
      have hV34 := hV34.mono (G := fun k => w.heap.size ≤ k ∧ k < w12.heap.size) (fun k h1 h2 => ⟨by first | exact h2 | exact h2.1 | ((try dsimp only at h2); omega), h1⟩)
      have hB56 := hB56.mono (G := fun k => w.heap.size ≤ k ∧ k < w12.heap.size) (fun k h1 h2 => ⟨by first | exact h2 | exact h2.1 | ((try dsimp only at h2); omega), h1⟩)
      refine wc_seq ?_
      refine wc_seq ?_
      refine wc_region ?_
      refine wl rfl rfl rfl (p_mv rfl) ?_
      refine wl rfl rfl rfl (p_mv rfl) ?_
      refine wl rfl rfl rfl (p_lenS Tryd.underlying107 rfl) ?_
      refine wl rfl rfl rfl (p_lt rfl rfl) ?_
      refine wl_nil ?_
      refine x_seq ?_
      refine wc_if rfl (fun c3 => ?_) (fun c3 => ?_)
      ·
       have c3 := of_decide_eq_true c3
       refine wc_skip ?_
       refine x_seq ?_
       refine wc_seq ?_
       refine wc_block ?_
       refine wc_seq ?_
       refine wc_region ?_
       refine wl rfl rfl rfl (p_mv rfl) ?_
       refine wl rfl rfl rfl (p_mv rfl) ?_
       have hS84 := hB56.cut (lo := 0) (hi := i) (q := i) (by omega) (by omega) (by omega)
       rw [List.drop_zero] at hS84
       refine wl rfl rfl rfl (p_slS (l := 0) (h := i) Tryd.underlying107 sz5 rfl rfl ⟨_, rfl⟩ (by omega) (by have := hB56.cap; omega) hB56.cap (q := i) (by omega)) ?_
       refine wle rfl (e_call ent64 rfl rfl (mread27 (hS84) (by omega) hrnd) ?_)
       rintro _ w13 ⟨A85, l85, c85, ns85, ec85, rfl, hN85, hro85, hc⟩
       refine ⟨_, rfl, ?_⟩
       have hzw13 := hc.size
       have HC := HC.tr hc
       have hV34 := hV34.ch hc (by first | exact fun _ _ _ h => h | (intro k hk hF ht; have h2 := hF.1; have h3 := hF.2; first | omega | (dsimp only at *; omega)))
       have hB56 := hB56.no hc
       have hrnd := hrnd.no hc
       have hS84 := hS84.no hc
       have hec85 : ec85 = 4 := by rcases hro85 with ⟨_, h⟩ | ⟨h, _⟩; exact absurd ⟨_, h⟩ (read_cut (by rw [prvN_root hwfo]) (by omega)); exact h
       have hNl85 := hN85.len
       have hN85 := hN85.mono (G := fun k => w12.heap.size ≤ k ∧ k < w13.heap.size) (fun k h1 h2 => ⟨h2, h1⟩)
       refine wl rfl rfl rfl (p_mv rfl) ?_
       refine wl rfl rfl rfl (p_ext rfl rfl) ?_
       refine wl rfl rfl rfl (p_ext rfl rfl) ?_
       refine wl rfl rfl rfl (p_as rfl) ?_
       refine wl rfl rfl rfl (p_as rfl) ?_
       refine wl_nil ?_
       refine x_seq ?_
       refine wc_seq ?_
       refine wc_region ?_
       refine wl rfl rfl rfl (p_mv rfl) ?_
       refine wl rfl rfl rfl (p_ne rfl rfl) ?_
       refine wl_nil ?_
       refine x_seq ?_
       refine wc_no rfl (by simp [hec85]) ?_
       refine wc_skip ?_
       refine x_in_normal ?_
       refine x_seq ?_
       refine wc_region ?_
       refine wl rfl rfl rfl (p_mv rfl) ?_
       refine wl rfl rfl rfl (p_add rfl rfl (w64 (by omega))) ?_
       refine wl rfl rfl rfl (p_as rfl) ?_
       refine wl_nil ?_
       refine x_round (e' := [(7, v34), (8, .slice A34 lm34 cm34), (12, .slice A56 l56 c56), (15, i64 ((i + 1) : Int))]) ⟨rfl, rfl, rfl, rfl, trivial⟩ (by rw [hm0]; omega) ⟨i + 1, rfl, rfl, (by omega), (hV34.mono (fun k _ h => by first | exact h.1 | exact h | exact h.1.1 | (have := h.1; show w.heap.size ≤ k; omega) | ((try simp only [and_assoc] at h); have := h.1; show w.heap.size ≤ k; omega))), (hB56.mono (fun k _ h => by (try simp only [and_assoc] at h); have := h.1; show w.heap.size ≤ k; omega)), hrnd, HC⟩
      ·
       have c3 := of_decide_eq_false c3
       refine wc_exit ?_
       refine x_then_exit ?_
       refine x_then_exit ?_
       refine x_in_here ?_
       refine x_seq ?_
       refine wc_seq ?_
       refine wc_region ?_
       refine wl rfl rfl rfl (p_mv rfl) ?_
       refine wl rfl rfl rfl (p_lenS Tryd.underlying27 rfl) ?_
       refine wl rfl rfl rfl (p_gt rfl rfl) ?_
       refine wl rfl rfl rfl (p_mv rfl) ?_
       refine wl_split (d := 93) rfl (fun q93 => ?_) (fun q93 => ?_)
       ·
        have q93 := of_decide_eq_true q93
        refine wl_s (gd_ rfl rfl rfl rfl rfl rfl) rfl rfl ?_
        refine wl_s (gd_ rfl rfl rfl rfl rfl rfl) rfl rfl ?_
        refine wl_s (gd_ rfl rfl rfl rfl rfl rfl) rfl rfl ?_
        refine wl_s (gd_ rfl rfl rfl rfl rfl rfl) rfl rfl ?_
        refine wl rfl rfl rfl (p_pickT rfl rfl) ?_
        refine wl rfl rfl rfl (p_mv rfl) ?_
        refine wle_g (gd_ rfl rfl rfl rfl rfl rfl) (e_call ent20 rfl rfl (lives27_any hrnd) ?_)
        rintro _ w14 ⟨rfl, hc⟩
        refine ⟨_, rfl, ?_⟩
        have hzw14 := hc.size
        have HC := HC.tr hc
        have hV34 := hV34.ch hc (by first | exact fun _ _ _ h => h | (intro k hk hF ht; have h2 := hF.1; have h3 := hF.2; first | omega | (dsimp only at *; omega)))
        have hB56 := hB56.no hc
        have hrnd := hrnd.no hc
        refine wl rfl rfl rfl (p_pickT rfl rfl) ?_
        refine wl rfl rfl rfl (p_as rfl) ?_
        refine wl_nil ?_
        refine x_seq ?_
        refine wc_ret ?_
        refine fin_run ((res1 rfl rfl)) ?_
        exact ⟨rfl, HC⟩
       ·
        have q93 := of_decide_eq_false q93
        have hnone : mkT l = none := cnt_none (by omega)
        refine wl_g (gd_ rfl rfl rfl rfl rfl rfl) rfl rfl (p_mv rfl) ?_
        refine wle_g (gd_ rfl rfl rfl rfl rfl rfl) (e_call ent46 rfl rfl (troot_made hV34 hrnd) ?_)
        rintro _ w15 ⟨rfl, hc, hFil, hRB, hRF⟩
        refine ⟨_, rfl, ?_⟩
        have hR0 := hV34.ot.out hrnd (by omega)
        have hRo : ∀ k, k < w.heap.size → k ∈ adsO o34 → False := fun k h1 h2 => absurd (hRF k h2).1 (by omega)
        have hzw15 := hc.size
        have HC := HC.trans hc (fun _ _ h => h) (fun k hk ht => absurd (hRF k ht).1 (by omega))
        have hV34 := hV34.fil hc hRB hFil
        have hrnd := hrnd.ch hc (fun k hk ht => hR0 (hk ▸ ht))
        refine wle_g (gd_ rfl rfl rfl rfl rfl rfl) (e_call ent67 rfl rfl (rtnone_any) ?_)
        rintro _ w16 ⟨rfl, hc⟩
        refine ⟨_, rfl, ?_⟩
        have hzw16 := hc.size
        have HC := HC.tr hc
        have hV34 := hV34.ch hc (by first | exact fun _ _ _ h => h | (intro k hk hF ht; have h2 := hF.1; have h3 := hF.2; first | omega | (dsimp only at *; omega)))
        have hrnd := hrnd.no hc
        refine wl_g (gd_ rfl rfl rfl rfl rfl rfl) rfl rfl (p_eqH (a := (rootT (eo o34))) (b := noneH) (by kernel_rfl) Tryd.underlying38 Tryd.underlying5 sz5 rfl rfl (rootT_len) (noneH_len)) ?_
        refine wl rfl rfl rfl (p_pickF rfl rfl) ?_
        refine wl rfl rfl rfl (p_mv rfl) ?_
        refine wl_know (d := 99) (b' := true) rfl (by rw [heo34, hnone]; simp [rootT]) ?_
        refine wle_g (gd_ rfl rfl rfl rfl rfl rfl) (e_call ent20 rfl rfl (lives27_any hrnd) ?_)
        rintro _ w17 ⟨rfl, hc⟩
        refine ⟨_, rfl, ?_⟩
        have hzw17 := hc.size
        have HC := HC.tr hc
        have hV34 := hV34.ch hc (by first | exact fun _ _ _ h => h | (intro k hk hF ht; have h2 := hF.1; have h3 := hF.2; first | omega | (dsimp only at *; omega)))
        have hrnd := hrnd.no hc
        refine wl rfl rfl rfl (p_pickT rfl rfl) ?_
        refine wl rfl rfl rfl (p_as rfl) ?_
        refine wl_nil ?_
        refine x_seq ?_
        refine wc_ret ?_
        refine fin_run ((res1 rfl rfl)) ?_
        exact ⟨rfl, HC⟩
     ·
      have q44 := of_decide_eq_false q44
      refine ws_s rfl (gd_ rfl rfl rfl rfl rfl rfl) rfl rfl ?_
      refine ws_s rfl (gd_ rfl rfl rfl rfl rfl rfl) rfl rfl ?_
      refine ws_s rfl (gd_ rfl rfl rfl rfl rfl rfl) rfl rfl ?_
      refine ws_s rfl (gd_ rfl rfl rfl rfl rfl rfl) rfl rfl ?_
      refine ws_s rfl (gd_ rfl rfl rfl rfl rfl rfl) rfl rfl ?_
      refine ws_s rfl (gd_ rfl rfl rfl rfl rfl rfl) rfl rfl ?_
      refine ws_p rfl rfl rfl rfl (p_pickF rfl rfl) ?_
      refine ws_n ?_
      refine x_seq ?_
      refine wc_no rfl (rfl) ?_
      refine wc_skip ?_
      refine x_seq ?_
      refine wc_seq ?_
      refine wc_region ?_
      refine wl rfl rfl rfl (p_mv rfl) ?_
      refine wl rfl rfl rfl (p_mv rfl) ?_
      refine wle rfl (e_call ent24 rfl rfl (mprove27_any hV34 hwfo hcno (hks) (by omega) hrnd) ?_)
      rintro _ w18 ⟨A54, l54, c54, rfl, hP54, hc⟩
      refine ⟨_, rfl, ?_⟩
      have hzw18 := hc.size
      have HC := HC.tr hc
      have hin := hin.no hc
      have hks := hks.no hc
      have hxs := hxs.no hc
      have hrnd := hrnd.no hc
      have hV34 := hV34.ch hc (by first | exact fun _ _ _ h => h | (intro k hk hF ht; have h2 := hF.1; have h3 := hF.2; first | omega | (dsimp only at *; omega)))
      have hM34 := hM34.after hc
      have hN39 := hN39.no hc
      have hPl54 := hP54.len
      have hPb54 : l54 ≤ 2 * cntT (eo o34) + 1 := by rw [← hPl54]; exact prvN_len
      have hP54 := hP54.mono (G := fun k => w6.heap.size ≤ k ∧ k < w18.heap.size) (fun k h1 h2 => ⟨h2, h1⟩)
      refine wl rfl rfl rfl (p_as rfl) ?_
      refine wl_nil ?_
      refine x_seq ?_
      refine wc_seq ?_
      refine wc_region ?_
      refine wl rfl rfl rfl (p_mv rfl) ?_
      refine wle rfl (e_call ent65 rfl rfl (mbytes27 (hP54.si) (by omega) hrnd) ?_)
      rintro _ w19 ⟨A56, l56, c56, rfl, hB56, hc⟩
      refine ⟨_, rfl, ?_⟩
      have hzw19 := hc.size
      have HC := HC.tr hc
      have hin := hin.no hc
      have hks := hks.no hc
      have hxs := hxs.no hc
      have hrnd := hrnd.no hc
      have hV34 := hV34.ch hc (by first | exact fun _ _ _ h => h | (intro k hk hF ht; have h2 := hF.1; have h3 := hF.2; first | omega | (dsimp only at *; omega)))
      have hM34 := hM34.after hc
      have hN39 := hN39.no hc
      have hP54 := hP54.after hc
      have hBl56 := hB56.len
      have hB56 := hB56.mono (G := fun k => w18.heap.size ≤ k ∧ k < w19.heap.size) (fun k h1 h2 => ⟨h2, h1⟩)
      have hbp := bytes_pos (l := (prvN (eo o34) ks)) (by rw [prvN_root hwfo])
      have hbl2 : l56 ≤ 1000000 := by rw [← hBl56]; exact bytes_le (fun x hx => prvN_can hwfo x hx) (by omega)
      refine wl rfl rfl rfl (p_as rfl) ?_
      refine wl_nil ?_
      refine x_seq ?_
      refine wc_seq ?_
      refine wc_region ?_
      refine wl rfl rfl rfl (p_mv rfl) ?_
      refine wle rfl (e_call ent64 rfl rfl (mread27 (hB56) (by omega) hrnd) ?_)
      rintro _ w20 ⟨A59, l59, c59, ns59, ec59, rfl, hN59, hro59, hc⟩
      refine ⟨_, rfl, ?_⟩
      have hzw20 := hc.size
      have HC := HC.tr hc
      have hin := hin.no hc
      have hks := hks.no hc
      have hxs := hxs.no hc
      have hrnd := hrnd.no hc
      have hV34 := hV34.ch hc (by first | exact fun _ _ _ h => h | (intro k hk hF ht; have h2 := hF.1; have h3 := hF.2; first | omega | (dsimp only at *; omega)))
      have hM34 := hM34.after hc
      have hN39 := hN39.no hc
      have hP54 := hP54.after hc
      have hB56 := hB56.no hc
      have hrp := read_bytes (l := (prvN (eo o34) ks)) (by rw [prvN_root hwfo])
      obtain ⟨hec, hns⟩ : ec59 = 0 ∧ ns59 = (prvN (eo o34) ks) := by rcases hro59 with ⟨h1, h2⟩ | ⟨_, h⟩; exact ⟨h1, read_uniq h2 hrp⟩; exact absurd ⟨_, hrp⟩ h
      rw [hns] at hN59
      have hNl59 := hN59.len
      have hN59 := hN59.mono (G := fun k => w19.heap.size ≤ k ∧ k < w20.heap.size) (fun k h1 h2 => ⟨h2, h1⟩)
      refine wl rfl rfl rfl (p_mv rfl) ?_
      refine wl rfl rfl rfl (p_ext rfl rfl) ?_
      refine wl rfl rfl rfl (p_ext rfl rfl) ?_
      refine wl rfl rfl rfl (p_as rfl) ?_
      refine wl rfl rfl rfl (p_as rfl) ?_
      refine wl_nil ?_
      refine x_seq ?_
      refine wc_seq ?_
      refine wc_seq ?_
      refine wc_region ?_
      refine wl rfl rfl rfl (p_mv rfl) ?_
      refine wl rfl rfl rfl (p_ne rfl rfl) ?_
      refine wl rfl rfl rfl (p_mv rfl) ?_
      refine wl_know (d := 64) (b' := false) rfl (by simp [hec]) ?_
      refine wl_g (gd_ rfl rfl rfl rfl rfl rfl) rfl rfl (p_mv rfl) ?_
      refine wl_g (gd_ rfl rfl rfl rfl rfl rfl) rfl rfl (p_mv rfl) ?_
      refine wle_g (gd_ rfl rfl rfl rfl rfl rfl) (e_call ent66 rfl rfl (msame27 (hP54.si) (hN59) (by omega)) ?_)
      rintro _ w21 ⟨rfl, hc⟩
      refine ⟨_, rfl, ?_⟩
      have hzw21 := hc.size
      have HC := HC.tr hc
      have hin := hin.no hc
      have hks := hks.no hc
      have hxs := hxs.no hc
      have hrnd := hrnd.no hc
      have hV34 := hV34.ch hc (by first | exact fun _ _ _ h => h | (intro k hk hF ht; have h2 := hF.1; have h3 := hF.2; first | omega | (dsimp only at *; omega)))
      have hM34 := hM34.after hc
      have hN39 := hN39.no hc
      have hP54 := hP54.after hc
      have hB56 := hB56.no hc
      have hN59 := hN59.no hc
      refine wl_g (gd_ rfl rfl rfl rfl rfl rfl) rfl rfl (p_not rfl) ?_
      refine wl rfl rfl rfl (p_pickF rfl rfl) ?_
      refine wl rfl rfl rfl (p_mv rfl) ?_
      refine wl_g (gd_ rfl rfl rfl rfl rfl rfl) rfl rfl (p_mv rfl) ?_
      refine wl_g (gd_ rfl rfl rfl rfl rfl rfl) rfl rfl (p_lenS Tryd.underlying107 rfl) ?_
      refine wl_g (gd_ rfl rfl rfl rfl rfl rfl) rfl rfl (p_eq rfl rfl) ?_
      refine wl rfl rfl rfl (p_pickF rfl rfl) ?_
      refine wl_nil ?_
      refine x_seq ?_
      refine wc_no rfl (decide_eq_false (by omega)) ?_
      refine wc_skip ?_
      refine x_seq ?_
      refine wc_seq ?_
      refine wc_seq ?_
      refine wc_region ?_
      refine wl rfl rfl rfl (p_as rfl) ?_
      refine wl_nil ?_
      refine x_seq ?_
      refine wc_block ?_
      refine wc_loop (e' := [(7, v34), (8, .slice A34 lm34 cm34), (12, .slice A56 l56 c56), (15, i64 ((0) : Int))]) (fun mz ez uz => ∃ i : Nat, mz = l56 - i ∧ ez = [(7, v34), (8, .slice A34 lm34 cm34), (12, .slice A56 l56 c56), (15, i64 (i : Int))] ∧ (i ≤ l56) ∧ (TR 41 156 (fun k => w.heap.size ≤ k) uz v34 o34) ∧ (Sl uz (fun k => w.heap.size ≤ k) u8v A56 l56 c56 (bytesN (prvN (eo o34) ks))) ∧ (Sl uz (fun k => k = 0) u32v (some ⟨0, 0, none⟩) 64 64 rk) ∧ (Ch No w uz))
       ⟨rfl, rfl, rfl, rfl, trivial⟩ ⟨0, rfl, rfl, (by omega), (hV34.mono (fun k _ h => by first | exact h.1 | exact h | exact h.1.1 | (have := h.1; show w.heap.size ≤ k; omega) | ((try simp only [and_assoc] at h); have := h.1; show w.heap.size ≤ k; omega))), (hB56.mono (fun k _ h => by have := h.1; show w.heap.size ≤ k; omega)), hrnd, HC⟩ ?_
      rintro m0 e w22 ⟨i, hm0, rfl, hi, hV34, hB56, hrnd, HC⟩
      have hzw22 := HC.size
      have hV34 := hV34.mono (G := fun k => w.heap.size ≤ k ∧ k < w22.heap.size) (fun k h1 h2 => ⟨by first | exact h2 | exact h2.1 | ((try dsimp only at h2); omega), h1⟩)
      have hB56 := hB56.mono (G := fun k => w.heap.size ≤ k ∧ k < w22.heap.size) (fun k h1 h2 => ⟨by first | exact h2 | exact h2.1 | ((try dsimp only at h2); omega), h1⟩)
      refine wc_seq ?_
      refine wc_seq ?_
      refine wc_region ?_
      refine wl rfl rfl rfl (p_mv rfl) ?_
      refine wl rfl rfl rfl (p_mv rfl) ?_
      refine wl rfl rfl rfl (p_lenS Tryd.underlying107 rfl) ?_
      refine wl rfl rfl rfl (p_lt rfl rfl) ?_
      refine wl_nil ?_
      refine x_seq ?_
      refine wc_if rfl (fun c3 => ?_) (fun c3 => ?_)
      ·
       have c3 := of_decide_eq_true c3
       refine wc_skip ?_
       refine x_seq ?_
       refine wc_seq ?_
       refine wc_block ?_
       refine wc_seq ?_
       refine wc_region ?_
       refine wl rfl rfl rfl (p_mv rfl) ?_
       refine wl rfl rfl rfl (p_mv rfl) ?_
       have hS84 := hB56.cut (lo := 0) (hi := i) (q := i) (by omega) (by omega) (by omega)
       rw [List.drop_zero] at hS84
       refine wl rfl rfl rfl (p_slS (l := 0) (h := i) Tryd.underlying107 sz5 rfl rfl ⟨_, rfl⟩ (by omega) (by have := hB56.cap; omega) hB56.cap (q := i) (by omega)) ?_
       refine wle rfl (e_call ent64 rfl rfl (mread27 (hS84) (by omega) hrnd) ?_)
       rintro _ w23 ⟨A85, l85, c85, ns85, ec85, rfl, hN85, hro85, hc⟩
       refine ⟨_, rfl, ?_⟩
       have hzw23 := hc.size
       have HC := HC.tr hc
       have hV34 := hV34.ch hc (by first | exact fun _ _ _ h => h | (intro k hk hF ht; have h2 := hF.1; have h3 := hF.2; first | omega | (dsimp only at *; omega)))
       have hB56 := hB56.no hc
       have hrnd := hrnd.no hc
       have hS84 := hS84.no hc
       have hec85 : ec85 = 4 := by rcases hro85 with ⟨_, h⟩ | ⟨h, _⟩; exact absurd ⟨_, h⟩ (read_cut (by rw [prvN_root hwfo]) (by omega)); exact h
       have hNl85 := hN85.len
       have hN85 := hN85.mono (G := fun k => w22.heap.size ≤ k ∧ k < w23.heap.size) (fun k h1 h2 => ⟨h2, h1⟩)
       refine wl rfl rfl rfl (p_mv rfl) ?_
       refine wl rfl rfl rfl (p_ext rfl rfl) ?_
       refine wl rfl rfl rfl (p_ext rfl rfl) ?_
       refine wl rfl rfl rfl (p_as rfl) ?_
       refine wl rfl rfl rfl (p_as rfl) ?_
       refine wl_nil ?_
       refine x_seq ?_
       refine wc_seq ?_
       refine wc_region ?_
       refine wl rfl rfl rfl (p_mv rfl) ?_
       refine wl rfl rfl rfl (p_ne rfl rfl) ?_
       refine wl_nil ?_
       refine x_seq ?_
       refine wc_no rfl (by simp [hec85]) ?_
       refine wc_skip ?_
       refine x_in_normal ?_
       refine x_seq ?_
       refine wc_region ?_
       refine wl rfl rfl rfl (p_mv rfl) ?_
       refine wl rfl rfl rfl (p_add rfl rfl (w64 (by omega))) ?_
       refine wl rfl rfl rfl (p_as rfl) ?_
       refine wl_nil ?_
       refine x_round (e' := [(7, v34), (8, .slice A34 lm34 cm34), (12, .slice A56 l56 c56), (15, i64 ((i + 1) : Int))]) ⟨rfl, rfl, rfl, rfl, trivial⟩ (by rw [hm0]; omega) ⟨i + 1, rfl, rfl, (by omega), (hV34.mono (fun k _ h => by first | exact h.1 | exact h | exact h.1.1 | (have := h.1; show w.heap.size ≤ k; omega) | ((try simp only [and_assoc] at h); have := h.1; show w.heap.size ≤ k; omega))), (hB56.mono (fun k _ h => by (try simp only [and_assoc] at h); have := h.1; show w.heap.size ≤ k; omega)), hrnd, HC⟩
      ·
       have c3 := of_decide_eq_false c3
       refine wc_exit ?_
       refine x_then_exit ?_
       refine x_then_exit ?_
       refine x_in_here ?_
       refine x_seq ?_
       refine wc_seq ?_
       refine wc_region ?_
       refine wl rfl rfl rfl (p_mv rfl) ?_
       refine wl rfl rfl rfl (p_lenS Tryd.underlying27 rfl) ?_
       refine wl rfl rfl rfl (p_gt rfl rfl) ?_
       refine wl rfl rfl rfl (p_mv rfl) ?_
       refine wl_split (d := 93) rfl (fun q93 => ?_) (fun q93 => ?_)
       ·
        have q93 := of_decide_eq_true q93
        refine wl_s (gd_ rfl rfl rfl rfl rfl rfl) rfl rfl ?_
        refine wl_s (gd_ rfl rfl rfl rfl rfl rfl) rfl rfl ?_
        refine wl_s (gd_ rfl rfl rfl rfl rfl rfl) rfl rfl ?_
        refine wl_s (gd_ rfl rfl rfl rfl rfl rfl) rfl rfl ?_
        refine wl rfl rfl rfl (p_pickT rfl rfl) ?_
        refine wl rfl rfl rfl (p_mv rfl) ?_
        refine wle_g (gd_ rfl rfl rfl rfl rfl rfl) (e_call ent20 rfl rfl (lives27_any hrnd) ?_)
        rintro _ w24 ⟨rfl, hc⟩
        refine ⟨_, rfl, ?_⟩
        have hzw24 := hc.size
        have HC := HC.tr hc
        have hV34 := hV34.ch hc (by first | exact fun _ _ _ h => h | (intro k hk hF ht; have h2 := hF.1; have h3 := hF.2; first | omega | (dsimp only at *; omega)))
        have hB56 := hB56.no hc
        have hrnd := hrnd.no hc
        refine wl rfl rfl rfl (p_pickT rfl rfl) ?_
        refine wl rfl rfl rfl (p_as rfl) ?_
        refine wl_nil ?_
        refine x_seq ?_
        refine wc_ret ?_
        refine fin_run ((res1 rfl rfl)) ?_
        exact ⟨rfl, HC⟩
       ·
        have q93 := of_decide_eq_false q93
        have hnone : mkT l = none := cnt_none (by omega)
        refine wl_g (gd_ rfl rfl rfl rfl rfl rfl) rfl rfl (p_mv rfl) ?_
        refine wle_g (gd_ rfl rfl rfl rfl rfl rfl) (e_call ent46 rfl rfl (troot_made hV34 hrnd) ?_)
        rintro _ w25 ⟨rfl, hc, hFil, hRB, hRF⟩
        refine ⟨_, rfl, ?_⟩
        have hR0 := hV34.ot.out hrnd (by omega)
        have hRo : ∀ k, k < w.heap.size → k ∈ adsO o34 → False := fun k h1 h2 => absurd (hRF k h2).1 (by omega)
        have hzw25 := hc.size
        have HC := HC.trans hc (fun _ _ h => h) (fun k hk ht => absurd (hRF k ht).1 (by omega))
        have hV34 := hV34.fil hc hRB hFil
        have hrnd := hrnd.ch hc (fun k hk ht => hR0 (hk ▸ ht))
        refine wle_g (gd_ rfl rfl rfl rfl rfl rfl) (e_call ent67 rfl rfl (rtnone_any) ?_)
        rintro _ w26 ⟨rfl, hc⟩
        refine ⟨_, rfl, ?_⟩
        have hzw26 := hc.size
        have HC := HC.tr hc
        have hV34 := hV34.ch hc (by first | exact fun _ _ _ h => h | (intro k hk hF ht; have h2 := hF.1; have h3 := hF.2; first | omega | (dsimp only at *; omega)))
        have hrnd := hrnd.no hc
        refine wl_g (gd_ rfl rfl rfl rfl rfl rfl) rfl rfl (p_eqH (a := (rootT (eo o34))) (b := noneH) (by kernel_rfl) Tryd.underlying38 Tryd.underlying5 sz5 rfl rfl (rootT_len) (noneH_len)) ?_
        refine wl rfl rfl rfl (p_pickF rfl rfl) ?_
        refine wl rfl rfl rfl (p_mv rfl) ?_
        refine wl_know (d := 99) (b' := true) rfl (by rw [heo34, hnone]; simp [rootT]) ?_
        refine wle_g (gd_ rfl rfl rfl rfl rfl rfl) (e_call ent20 rfl rfl (lives27_any hrnd) ?_)
        rintro _ w27 ⟨rfl, hc⟩
        refine ⟨_, rfl, ?_⟩
        have hzw27 := hc.size
        have HC := HC.tr hc
        have hV34 := hV34.ch hc (by first | exact fun _ _ _ h => h | (intro k hk hF ht; have h2 := hF.1; have h3 := hF.2; first | omega | (dsimp only at *; omega)))
        have hrnd := hrnd.no hc
        refine wl rfl rfl rfl (p_pickT rfl rfl) ?_
        refine wl rfl rfl rfl (p_as rfl) ?_
        refine wl_nil ?_
        refine x_seq ?_
        refine wc_ret ?_
        refine fin_run ((res1 rfl rfl)) ?_
        exact ⟨rfl, HC⟩
end Go.Proofs.YtkfkdakghjlenaaDoor
