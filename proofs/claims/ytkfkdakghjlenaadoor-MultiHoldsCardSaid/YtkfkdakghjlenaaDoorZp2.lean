/-
  Own text, printed by a program of mine (wip/gx): what functions of the program do, walked operation by operation.
-/
import Derived.Test.YtkfkdakghjlenaaDoorProg
import Derived.Test.YtkfkdakghjlenaaDoorGxAgg
import Derived.Test.YtkfkdakghjlenaaDoorTab
import Derived.Test.YtkfkdakghjlenaaDoorGxZer
import Derived.Test.YtkfkdakghjlenaaDoorGxLay
import Derived.Test.YtkfkdakghjlenaaDoorPlPack
import Derived.Test.YtkfkdakghjlenaaDoorPlSum
import Derived.Test.YtkfkdakghjlenaaDoorPlSha
import Derived.Test.YtkfkdakghjlenaaDoorPlTag
import Derived.Test.YtkfkdakghjlenaaDoorPlBits
import Derived.Test.YtkfkdakghjlenaaDoorPlShaSt
import Derived.Test.YtkfkdakghjlenaaDoorPlShaB
import Derived.Test.YtkfkdakghjlenaaDoorPlTrie
import Derived.Test.YtkfkdakghjlenaaDoorPlTrieSt
import Derived.Test.YtkfkdakghjlenaaDoorGxRec
import Derived.Test.YtkfkdakghjlenaaDoorGxYld
import Derived.Test.YtkfkdakghjlenaaDoorPlTrieFil
import Derived.Test.YtkfkdakghjlenaaDoorOnceC
import Derived.Test.YtkfkdakghjlenaaDoorPlTrieW
import Derived.Test.YtkfkdakghjlenaaDoorPlMulti
import Derived.Test.YtkfkdakghjlenaaDoorPlEncs
import Derived.Test.YtkfkdakghjlenaaDoorGxMark
import Derived.Test.YtkfkdakghjlenaaDoorPlTrieLaw
import Derived.Test.YtkfkdakghjlenaaDoorPlTrieAct
import Derived.Test.YtkfkdakghjlenaaDoorGxFun
import Derived.Test.YtkfkdakghjlenaaDoorGxPair
import Derived.Test.YtkfkdakghjlenaaDoorPlMany
import Derived.Test.YtkfkdakghjlenaaDoorZp0
import Derived.Test.YtkfkdakghjlenaaDoorZp1
set_option linter.unusedVariables false
set_option linter.unusedSimpArgs false
namespace Go.Proofs.YtkfkdakghjlenaaDoor
open Go.RowKit Go.Gx
open Go.Plain
set_option maxHeartbeats 4000000 in
set_option maxRecDepth 20000 in
theorem part_step {w : World} {gr : Nat} {Al Ab : Option Addr} {ll cl lb cb : Nat} {bd : Bool} {F Fl : Nat → Prop} {l : List ND} {ab : List TN} {n : Nat} (IH : ∀ m, m + 1 ≤ n → SideOK m) (hln : l.length ≤ n) (hbr : Blk w gr 164 ([.slice Al ll cl, .slice Ab lb cb, .bool bd] : List Value).toArray) (hl : SI w Fl eND Al ll cl l) (hab : RI w F 187 eTN Ab lb cb ab) (hF : (∀ k, w.heap.size ≤ k → F k)) (hF0 : ¬ F 0) (hFgr : ¬ F gr) (hgr0 : gr ≠ 0) (hFl : (∀ k, Fl k → k < w.heap.size ∧ ¬ F k ∧ k ≠ gr)) (hll : ll ≤ 100000000) (hlbn : lb + n ≤ 100000000) (hrnd : Sl w (fun k => k = 0) u32v (some ⟨0, 0, none⟩) 64 64 rk) :
    Calls Tryd.prog 88 #[.pointer (some ⟨gr, 0, none⟩)] w fun e w' => ∃ h Al' ll' cl' Ab' cb' bd' l', e = .returned (hv h) ∧ Blk w' gr 164 ([.slice Al' ll' cl', .slice Ab' lb cb', .bool bd'] : List Value).toArray ∧ SI w' Fl eND Al' ll' cl' l' ∧ RI w' F 187 eTN Ab' lb cb' ab ∧ PR ab l bd h l' bd' ∧ Ch (fun k => F k ∨ k = gr) w w' := by
  have hltgr := hbr.lt
  have hlle := hl.len
  have habl := hab.len
  have hn0 : 0 < w.heap.size := hrnd.size (by omega) rfl
  have hn1 := hn0
  have HC : Ch (fun k => F k ∨ k = gr) w w := Ch.refl _ _
  refine enter' (args := [.pointer (some ⟨gr, 0, none⟩)]) (n := 123) Tryd.func88 rfl rfl rfl ?_
  refine wc_seq ?_
  refine wc_region ?_
  have hltgr := hbr.lt
  refine wle rfl (e_alloc (cs := ((List.replicate 32 (0 : UInt8)).map u8v).toArray) rfl (by rfl) rfl (fun w1 g2 hg2 hb2 hc hsz2 => ?_))
  have hzw1 := hc.size
  have HC := HC.tr hc
  have hbr := hbr.ch hc (fun h => h)
  have hl := hl.no hc
  have hab := hab.after hc
  have hrnd := hrnd.no hc
  have hge2 : w.heap.size ≤ g2 := by have := HC.size; omega
  have negr_2 : gr < g2 := by omega
  refine wl_nil ?_
  refine x_seq ?_
  refine wc_seq ?_
  refine wc_seq ?_
  refine wc_region ?_
  refine wl rfl rfl rfl (p_mv rfl) ?_
  refine wl rfl rfl rfl (p_nck rfl) ?_
  refine wl rfl rfl rfl (p_fld (j := 2) Tryd.underlying164 rfl ⟨_, by rfl⟩ rfl rfl) ?_
  refine wl rfl rfl rfl (p_ld Tryd.underlying4 rfl rfl (ld (cell_at (p := ([.slice Al ll cl, .slice Ab lb cb] : List Value)) (v := (.bool bd : Value)) (r := []) hbr (by simp only [List.append_assoc, List.cons_append, List.nil_append, List.append_nil]) (by first | rfl | (simp only [List.length_append, List.length_map, List.length_cons, List.length_nil]; done) | (simp only [List.length_append, List.length_map, List.length_cons, List.length_nil, List.size_toArray]; done))))) ?_
  refine wl rfl rfl rfl (p_mv rfl) ?_
  refine wl_split (d := 11) rfl (fun q11 => ?_) (fun q11 => ?_)
  ·
   refine wl_s (gd_ rfl rfl rfl rfl rfl rfl) rfl rfl ?_
   refine wl_s (gd_ rfl rfl rfl rfl rfl rfl) rfl rfl ?_
   refine wl_s (gd_ rfl rfl rfl rfl rfl rfl) rfl rfl ?_
   refine wl_s (gd_ rfl rfl rfl rfl rfl rfl) rfl rfl ?_
   refine wl_s (gd_ rfl rfl rfl rfl rfl rfl) rfl rfl ?_
   refine wl_s (gd_ rfl rfl rfl rfl rfl rfl) rfl rfl ?_
   refine wl rfl rfl rfl (p_pickT rfl rfl) ?_
   refine wl_nil ?_
   refine x_seq ?_
   refine wc_yes rfl (rfl) ?_
   refine wc_seq ?_
   refine wc_region ?_
   refine wl rfl rfl rfl (p_mv rfl) ?_
   refine wl rfl rfl rfl (p_nck rfl) ?_
   refine wl rfl rfl rfl (p_fld (j := 2) Tryd.underlying164 rfl ⟨_, by rfl⟩ rfl rfl) ?_
   refine wle rfl (e_stC (p := ([.slice Al ll cl, .slice Ab lb cb] : List Value)) (u := (.bool bd : Value)) (r := []) (v := .bool true) (by rfl) rfl rfl rfl hbr (by simp only [List.append_assoc, List.cons_append, List.nil_append, List.append_nil]) (by first | rfl | (simp only [List.length_append, List.length_map, List.length_cons, List.length_nil]; done) | (simp only [List.length_append, List.length_map, List.length_cons, List.length_nil, List.size_toArray]; done)) (fun w2 hbr hc hsz => ?_))
   have hbr : Blk w2 gr 164 ([.slice Al ll cl, .slice Ab lb cb, .bool true] : List Value).toArray := by have h := hbr; simp only [List.append_assoc, List.cons_append, List.nil_append, List.append_nil] at h ⊢; exact h
   have hzw2 := hc.size
   have HC := HC.trans hc (fun _ _ h => h) (fun k hk ht => .inr ht)
   have hl := hl.ch hc (by intro k hk ht; exact (hFl k hk).2.2 ht)
   have hab := hab.ch hc (by intro k hz hk ht; (subst ht; first | exact absurd hk hFgr | ((try simp only [and_assoc] at hk); exact absurd hk.1 hFgr)))
   have hrnd := hrnd.ch hc (by intro k hk ht; omega)
   have hb2 := hb2.ch hc (by omega)
   refine wl_nil ?_
   refine x_seq ?_
   refine wc_seq ?_
   refine wc_region ?_
   refine wl rfl rfl rfl (p_bldP (cs := ((List.replicate 32 (0 : UInt8)).map u8v).toArray) rfl (fun _ => by kernel_rfl)) ?_
   refine wle rfl (e_stH sz38 (List.length_replicate ..) (List.length_replicate ..) rfl rfl hb2 (fun w3 hb2 hc hsz => ?_))
   have hzw3 := hc.size
   have HC := HC.trans hc (fun _ _ h => h) (fun k hk ht => absurd ht (by omega))
   have hbr := hbr.ch hc (by omega)
   have hl := hl.ch hc (by intro k hk ht; have h1 := (hFl k hk).1; omega)
   have hab := hab.ch hc (by intro k hz hk ht; omega)
   have hrnd := hrnd.ch hc (by intro k hk ht; omega)
   refine wl_nil ?_
   refine x_seq ?_
   refine wc_ret ?_
   refine x_then_ret ?_
   refine fin_run (resC (cs := List.map u8v (List.replicate 32 (0 : UInt8))) rfl rfl Tryd.underlying38 rfl (szL sz38 (by rw [List.length_map]; exact (List.length_replicate ..))) (rngL hb2)) ?_
   exact ⟨_, _, _, _, _, _, _, _, rfl, hbr, hl, hab.mono (by intro k hk h; first | exact h | ((try simp only [and_assoc] at h); exact h.1)), (by rw [show bd = true by simpa using q11]; exact PR.bad), HC⟩
  ·
   refine wl_g (gd_ rfl rfl rfl rfl rfl rfl) rfl rfl (p_mv rfl) ?_
   refine wl_g (gd_ rfl rfl rfl rfl rfl rfl) rfl rfl (p_nck rfl) ?_
   refine wl_g (gd_ rfl rfl rfl rfl rfl rfl) rfl rfl (p_fld (j := 0) Tryd.underlying164 rfl ⟨_, by rfl⟩ rfl rfl) ?_
   refine wl_g (gd_ rfl rfl rfl rfl rfl rfl) rfl rfl (p_ld Tryd.underlying33 rfl rfl (ld (cell_at (p := []) (v := (.slice Al ll cl : Value)) (r := ([.slice Ab lb cb, .bool bd] : List Value)) hbr (by simp only [List.append_assoc, List.cons_append, List.nil_append, List.append_nil]) (by first | rfl | (simp only [List.length_append, List.length_map, List.length_cons, List.length_nil]; done) | (simp only [List.length_append, List.length_map, List.length_cons, List.length_nil, List.size_toArray]; done))))) ?_
   refine wl_g (gd_ rfl rfl rfl rfl rfl rfl) rfl rfl (p_lenS Tryd.underlying33 rfl) ?_
   refine wl_g (gd_ rfl rfl rfl rfl rfl rfl) rfl rfl (p_eq rfl rfl) ?_
   refine wl rfl rfl rfl (p_pickF rfl rfl) ?_
   refine wl_nil ?_
   refine x_seq ?_
   refine wc_if rfl (fun c0 => ?_) (fun c0 => ?_)
   ·
    have c0 := of_decide_eq_true c0
    refine wc_seq ?_
    refine wc_region ?_
    refine wl rfl rfl rfl (p_mv rfl) ?_
    refine wl rfl rfl rfl (p_nck rfl) ?_
    refine wl rfl rfl rfl (p_fld (j := 2) Tryd.underlying164 rfl ⟨_, by rfl⟩ rfl rfl) ?_
    refine wle rfl (e_stC (p := ([.slice Al ll cl, .slice Ab lb cb] : List Value)) (u := (.bool bd : Value)) (r := []) (v := .bool true) (by rfl) rfl rfl rfl hbr (by simp only [List.append_assoc, List.cons_append, List.nil_append, List.append_nil]) (by first | rfl | (simp only [List.length_append, List.length_map, List.length_cons, List.length_nil]; done) | (simp only [List.length_append, List.length_map, List.length_cons, List.length_nil, List.size_toArray]; done)) (fun w4 hbr hc hsz => ?_))
    have hbr : Blk w4 gr 164 ([.slice Al ll cl, .slice Ab lb cb, .bool true] : List Value).toArray := by have h := hbr; simp only [List.append_assoc, List.cons_append, List.nil_append, List.append_nil] at h ⊢; exact h
    have hzw4 := hc.size
    have HC := HC.trans hc (fun _ _ h => h) (fun k hk ht => .inr ht)
    have hl := hl.ch hc (by intro k hk ht; exact (hFl k hk).2.2 ht)
    have hab := hab.ch hc (by intro k hz hk ht; (subst ht; first | exact absurd hk hFgr | ((try simp only [and_assoc] at hk); exact absurd hk.1 hFgr)))
    have hrnd := hrnd.ch hc (by intro k hk ht; omega)
    have hb2 := hb2.ch hc (by omega)
    refine wl_nil ?_
    refine x_seq ?_
    refine wc_seq ?_
    refine wc_region ?_
    refine wl rfl rfl rfl (p_bldP (cs := ((List.replicate 32 (0 : UInt8)).map u8v).toArray) rfl (fun _ => by kernel_rfl)) ?_
    refine wle rfl (e_stH sz38 (List.length_replicate ..) (List.length_replicate ..) rfl rfl hb2 (fun w5 hb2 hc hsz => ?_))
    have hzw5 := hc.size
    have HC := HC.trans hc (fun _ _ h => h) (fun k hk ht => absurd ht (by omega))
    have hbr := hbr.ch hc (by omega)
    have hl := hl.ch hc (by intro k hk ht; have h1 := (hFl k hk).1; omega)
    have hab := hab.ch hc (by intro k hz hk ht; omega)
    have hrnd := hrnd.ch hc (by intro k hk ht; omega)
    refine wl_nil ?_
    refine x_seq ?_
    refine wc_ret ?_
    refine x_then_ret ?_
    refine fin_run (resC (cs := List.map u8v (List.replicate 32 (0 : UInt8))) rfl rfl Tryd.underlying38 rfl (szL sz38 (by rw [List.length_map]; exact (List.length_replicate ..))) (rngL hb2)) ?_
    have hbd : bd = false := by simpa using q11
    exact ⟨_, _, _, _, _, _, _, _, rfl, hbr, hl, hab.mono (by intro k hk h; first | exact h | ((try simp only [and_assoc] at h); exact h.1)), (by rw [List.eq_nil_of_length_eq_zero (show l.length = 0 by omega)]; exact PR.nil), HC⟩
   ·
    have c0 := of_decide_eq_false c0
    refine wc_skip ?_
    refine x_seq ?_
    refine wc_seq ?_
    refine wc_region ?_
    refine wl rfl rfl rfl (p_mv rfl) ?_
    refine wl rfl rfl rfl (p_nck rfl) ?_
    refine wl rfl rfl rfl (p_fld (j := 0) Tryd.underlying164 rfl ⟨_, by rfl⟩ rfl rfl) ?_
    refine wl rfl rfl rfl (p_ld Tryd.underlying33 rfl rfl (ld (cell_at (p := []) (v := (.slice Al ll cl : Value)) (r := ([.slice Ab lb cb, .bool bd] : List Value)) hbr (by simp only [List.append_assoc, List.cons_append, List.nil_append, List.append_nil]) (by first | rfl | (simp only [List.length_append, List.length_map, List.length_cons, List.length_nil]; done) | (simp only [List.length_append, List.length_map, List.length_cons, List.length_nil, List.size_toArray]; done))))) ?_
    obtain ⟨b6, o6, hA6, hF6, hr6⟩ := (hl).opn (i := 0) (d := ND0) (by omega)
    have hok6 := (hl).okAt (i := 0) (d := ND0) (by omega)
    obtain ⟨x6, ex6⟩ : ∃ x_, x_ = List.getD l (0) ND0 := ⟨_, rfl⟩
    rw [← ex6] at hr6 hok6
    obtain ⟨hx6k, hx6v⟩ := hok6
    have hr6 : w1.rangeAt b6 (o6 + 0 * 66) (([i64 x6.kind, i64 x6.bit] ++ ((List.map u8v x6.key) ++ (List.map u8v x6.val))) : List Value) := hr6
    refine wl rfl rfl rfl (p_ixS (j := 0 * 66) Tryd.underlying33 sz115 rfl hA6 rfl (by omega) (by omega) rfl) ?_
    have hlx : l = x6 :: l.drop 1 := by rw [ex6]; exact List.drop_zero.symm.trans (getD_drop (by omega))
    refine wl rfl rfl rfl (p_ldA (cs := (([i64 x6.kind, i64 x6.bit] ++ ((List.map u8v x6.key) ++ (List.map u8v x6.val))) : List Value)) Tryd.underlying115 rfl (szL sz115 (by first | rfl | (simp only [List.length_append, List.length_map, List.length_cons, List.length_nil, (show List.length x6.key = 32 from hx6k), (show List.length x6.val = 32 from hx6v)]; done) | (simp only [List.length_append, List.length_map, List.length_cons, List.length_nil, List.size_toArray, (show List.length x6.key = 32 from hx6k), (show List.length x6.val = 32 from hx6v)]; done))) rfl (fun _ e => e ▸ hr6)) ?_
    have hltgr := hbr.lt
    have hltg2 := hb2.lt
    refine wle rfl (e_alloc (cs := (([Value.int .i64 0, Value.int .i64 0] ++ ((List.map u8v (List.replicate 32 (0 : UInt8))) ++ (List.map u8v (List.replicate 32 (0 : UInt8))))) : List Value).toArray) rfl (by rfl) (by rfl) (fun w7 g3 hg3 hb3 hc hsz3 => ?_))
    have hzw7 := hc.size
    have HC := HC.tr hc
    have hbr := hbr.ch hc (fun h => h)
    have hl := hl.no hc
    have hab := hab.after hc
    have hrnd := hrnd.no hc
    have hb2 := hb2.ch hc (fun h => h)
    have hge3 : w.heap.size ≤ g3 := by have := HC.size; omega
    have negr_3 : gr < g3 := by omega
    have neg2_3 : g2 < g3 := by omega
    refine wle rfl (e_stW (vs := (([i64 x6.kind, i64 x6.bit] ++ ((List.map u8v x6.key) ++ (List.map u8v x6.val))) : List Value)) (szL sz115 (by first | rfl | (simp only [List.length_append, List.length_map, List.length_cons, List.length_nil, (show List.length x6.key = 32 from hx6k), (show List.length x6.val = 32 from hx6v)]; done) | (simp only [List.length_append, List.length_map, List.length_cons, List.length_nil, List.size_toArray, (show List.length x6.key = 32 from hx6k), (show List.length x6.val = 32 from hx6v)]; done))) (oneA (allOne rfl) (oneA (oneL one_u8 _) (oneL one_u8 _))) rfl rfl hb3 (by first | rfl | (simp only [List.length_append, List.length_map, List.length_cons, List.length_nil, (show List.length (List.replicate 32 (0 : UInt8)) = 32 from (List.length_replicate ..)), (show List.length (List.replicate 32 (0 : UInt8)) = 32 from (List.length_replicate ..)), (show List.length x6.key = 32 from hx6k), (show List.length x6.val = 32 from hx6v)]; done) | (simp only [List.length_append, List.length_map, List.length_cons, List.length_nil, List.size_toArray, (show List.length (List.replicate 32 (0 : UInt8)) = 32 from (List.length_replicate ..)), (show List.length (List.replicate 32 (0 : UInt8)) = 32 from (List.length_replicate ..)), (show List.length x6.key = 32 from hx6k), (show List.length x6.val = 32 from hx6v)]; done)) (fun w8 hb3 hc hsz => ?_))
    have hzw8 := hc.size
    have HC := HC.trans hc (fun _ _ h => h) (fun k hk ht => absurd ht (by omega))
    have hbr := hbr.ch hc (by omega)
    have hl := hl.ch hc (by intro k hk ht; have h1 := (hFl k hk).1; omega)
    have hab := hab.ch hc (by intro k hz hk ht; omega)
    have hrnd := hrnd.ch hc (by intro k hk ht; omega)
    have hb2 := hb2.ch hc (by omega)
    refine wl_nil ?_
    refine x_seq ?_
    refine wc_seq ?_
    refine wc_region ?_
    refine wl rfl rfl rfl (p_mv rfl) ?_
    refine wl rfl rfl rfl (p_mv rfl) ?_
    refine wl rfl rfl rfl (p_nck rfl) ?_
    refine wl rfl rfl rfl (p_fld (j := 0) Tryd.underlying164 rfl ⟨_, by rfl⟩ rfl rfl) ?_
    refine wl rfl rfl rfl (p_ld Tryd.underlying33 rfl rfl (ld (cell_at (p := []) (v := (.slice Al ll cl : Value)) (r := ([.slice Ab lb cb, .bool bd] : List Value)) hbr (by simp only [List.append_assoc, List.cons_append, List.nil_append, List.append_nil]) (by first | rfl | (simp only [List.length_append, List.length_map, List.length_cons, List.length_nil]; done) | (simp only [List.length_append, List.length_map, List.length_cons, List.length_nil, List.size_toArray]; done))))) ?_
    have hcp34 := hl.cap
    have hl := hl.cutTo (lo := 1) (by omega)
    obtain ⟨r, hr⟩ : ∃ r, r = l.drop 1 := ⟨_, rfl⟩
    rw [← hr] at hl hlx
    have hrl : r.length + 1 = l.length := by rw [hlx]; rfl
    refine wl rfl rfl rfl (p_slS (l := 1) (h := ll) Tryd.underlying33 sz115 rfl ⟨_, rfl⟩ rfl (by omega) (by have := hcp34; omega) hcp34 (q := ll - 1) (by omega)) ?_
    refine wl rfl rfl rfl (p_nck rfl) ?_
    refine wl rfl rfl rfl (p_fld (j := 0) Tryd.underlying164 rfl ⟨_, by rfl⟩ rfl rfl) ?_
    refine wle rfl (e_stC (p := []) (u := (.slice Al ll cl : Value)) (r := ([.slice Ab lb cb, .bool bd] : List Value)) (v := .slice (cutA Al cl 1 66) (ll - 1) (cl - 1)) (by rfl) rfl rfl rfl hbr (by simp only [List.append_assoc, List.cons_append, List.nil_append, List.append_nil]) (by first | rfl | (simp only [List.length_append, List.length_map, List.length_cons, List.length_nil]; done) | (simp only [List.length_append, List.length_map, List.length_cons, List.length_nil, List.size_toArray]; done)) (fun w9 hbr hc hsz => ?_))
    have hbr : Blk w9 gr 164 ([.slice (cutA Al cl 1 66) (ll - 1) (cl - 1), .slice Ab lb cb, .bool bd] : List Value).toArray := by have h := hbr; simp only [List.append_assoc, List.cons_append, List.nil_append, List.append_nil] at h ⊢; exact h
    have hzw9 := hc.size
    have HC := HC.trans hc (fun _ _ h => h) (fun k hk ht => .inr ht)
    have hab := hab.ch hc (by intro k hz hk ht; (subst ht; first | exact absurd hk hFgr | ((try simp only [and_assoc] at hk); exact absurd hk.1 hFgr)))
    have hrnd := hrnd.ch hc (by intro k hk ht; omega)
    have hb2 := hb2.ch hc (by omega)
    have hb3 := hb3.ch hc (by omega)
    have hl := hl.ch hc (by intro k hk ht; exact (hFl k hk).2.2 ht)
    refine wl_nil ?_
    refine x_seq ?_
    refine wc_seq ?_
    refine wc_region ?_
    refine wl rfl rfl rfl (p_fld (j := 0) Tryd.underlying115 rfl ⟨_, by rfl⟩ rfl rfl) ?_
    refine wl rfl rfl rfl (p_ld Tryd.underlying3 rfl rfl (ld (cell_at (p := []) (v := (i64 x6.kind : Value)) (r := (([i64 x6.bit] ++ ((List.map u8v x6.key) ++ (List.map u8v x6.val))) : List Value)) hb3 (by simp only [List.append_assoc, List.cons_append, List.nil_append, List.append_nil]) (by first | rfl | (simp only [List.length_append, List.length_map, List.length_cons, List.length_nil]; done) | (simp only [List.length_append, List.length_map, List.length_cons, List.length_nil, List.size_toArray]; done))))) ?_
    refine wl rfl rfl rfl (p_bldX (vs' := [i64 x6.kind]) (cs := (([i64 x6.kind, Value.int .i64 0] ++ ((List.map u8v (List.replicate 32 (0 : UInt8))) ++ (List.map u8v (List.replicate 32 (0 : UInt8))))) : List Value)) (cs' := (([i64 x6.kind, Value.int .i64 0] ++ ((hx (List.replicate 32 (0 : UInt8))) ++ (hx (List.replicate 32 (0 : UInt8))))) : List Value)) rfl rfl (by simp only [hv, map_hx (List.length_replicate ..)] <;> rfl) (fun _ => by kernel_rfl)) ?_
    have hltgr := hbr.lt
    have hltg2 := hb2.lt
    have hltg3 := hb3.lt
    refine wle rfl (e_alloc (cs := (([Value.int .i64 0, Value.int .i64 0] ++ ((List.map u8v (List.replicate 32 (0 : UInt8))) ++ (List.map u8v (List.replicate 32 (0 : UInt8))))) : List Value).toArray) rfl (by rfl) (by rfl) (fun w10 g4 hg4 hb4 hc hsz4 => ?_))
    have hzw10 := hc.size
    have HC := HC.tr hc
    have hbr := hbr.ch hc (fun h => h)
    have hab := hab.after hc
    have hrnd := hrnd.no hc
    have hb2 := hb2.ch hc (fun h => h)
    have hb3 := hb3.ch hc (fun h => h)
    have hl := hl.no hc
    have hge4 : w.heap.size ≤ g4 := by have := HC.size; omega
    have negr_4 : gr < g4 := by omega
    have neg2_4 : g2 < g4 := by omega
    have neg3_4 : g3 < g4 := by omega
    refine wle rfl (e_stW (vs := (([i64 x6.kind, Value.int .i64 0] ++ ((List.map u8v (List.replicate 32 (0 : UInt8))) ++ (List.map u8v (List.replicate 32 (0 : UInt8))))) : List Value)) (szL sz115 (by first | rfl | (simp only [List.length_append, List.length_map, List.length_cons, List.length_nil, (show List.length (List.replicate 32 (0 : UInt8)) = 32 from (List.length_replicate ..)), (show List.length (List.replicate 32 (0 : UInt8)) = 32 from (List.length_replicate ..))]; done) | (simp only [List.length_append, List.length_map, List.length_cons, List.length_nil, List.size_toArray, (show List.length (List.replicate 32 (0 : UInt8)) = 32 from (List.length_replicate ..)), (show List.length (List.replicate 32 (0 : UInt8)) = 32 from (List.length_replicate ..))]; done))) (oneA (allOne rfl) (oneA (oneL one_u8 _) (oneL one_u8 _))) rfl rfl hb4 (by first | rfl | (simp only [List.length_append, List.length_map, List.length_cons, List.length_nil, (show List.length (List.replicate 32 (0 : UInt8)) = 32 from (List.length_replicate ..)), (show List.length (List.replicate 32 (0 : UInt8)) = 32 from (List.length_replicate ..)), (show List.length (List.replicate 32 (0 : UInt8)) = 32 from (List.length_replicate ..)), (show List.length (List.replicate 32 (0 : UInt8)) = 32 from (List.length_replicate ..))]; done) | (simp only [List.length_append, List.length_map, List.length_cons, List.length_nil, List.size_toArray, (show List.length (List.replicate 32 (0 : UInt8)) = 32 from (List.length_replicate ..)), (show List.length (List.replicate 32 (0 : UInt8)) = 32 from (List.length_replicate ..)), (show List.length (List.replicate 32 (0 : UInt8)) = 32 from (List.length_replicate ..)), (show List.length (List.replicate 32 (0 : UInt8)) = 32 from (List.length_replicate ..))]; done)) (fun w11 hb4 hc hsz => ?_))
    have hzw11 := hc.size
    have HC := HC.trans hc (fun _ _ h => h) (fun k hk ht => absurd ht (by omega))
    have hbr := hbr.ch hc (by omega)
    have hab := hab.ch hc (by intro k hz hk ht; omega)
    have hrnd := hrnd.ch hc (by intro k hk ht; omega)
    have hb2 := hb2.ch hc (by omega)
    have hb3 := hb3.ch hc (by omega)
    have hl := hl.ch hc (by intro k hk ht; have h1 := (hFl k hk).1; omega)
    refine wl_nil ?_
    refine x_seq ?_
    refine wc_seq ?_
    refine wc_seq ?_
    refine wc_region ?_
    refine wl rfl rfl rfl (p_fld (j := 0) Tryd.underlying115 rfl ⟨_, by rfl⟩ rfl rfl) ?_
    refine wl rfl rfl rfl (p_ld Tryd.underlying3 rfl rfl (ld (cell_at (p := []) (v := (i64 x6.kind : Value)) (r := (([i64 x6.bit] ++ ((List.map u8v x6.key) ++ (List.map u8v x6.val))) : List Value)) hb3 (by simp only [List.append_assoc, List.cons_append, List.nil_append, List.append_nil]) (by first | rfl | (simp only [List.length_append, List.length_map, List.length_cons, List.length_nil]; done) | (simp only [List.length_append, List.length_map, List.length_cons, List.length_nil, List.size_toArray]; done))))) ?_
    refine wl_nil ?_
    refine x_seq ?_
    refine wc_block ?_
    refine wc_seq ?_
    refine wc_region ?_
    refine wl rfl rfl rfl (p_eq rfl rfl) ?_
    refine wl rfl rfl rfl (p_as rfl) ?_
    refine wl_nil ?_
    refine x_seq ?_
    refine wc_if rfl (fun c1 => ?_) (fun c1 => ?_)
    ·
     have c1 := of_decide_eq_true c1
     refine wc_seq ?_
     refine wc_region ?_
     refine wl rfl rfl rfl (p_fld (j := 34) Tryd.underlying115 rfl ⟨_, by rfl⟩ rfl rfl) ?_
     refine wl rfl rfl rfl (p_ldA (cs := (List.map u8v x6.val)) Tryd.underlying38 rfl (szL sz38 (by first | rfl | (simp only [List.length_append, List.length_map, List.length_cons, List.length_nil, (show List.length x6.val = 32 from hx6v)]; done) | (simp only [List.length_append, List.length_map, List.length_cons, List.length_nil, List.size_toArray, (show List.length x6.val = 32 from hx6v)]; done))) rfl (fun _ e => e ▸ rng_at (p := (([i64 x6.kind, i64 x6.bit] ++ (List.map u8v x6.key)) : List Value)) (q := ((List.map u8v x6.val) : List Value)) (r := []) hb3 (by simp only [List.append_assoc, List.cons_append, List.nil_append, List.append_nil]) (by first | rfl | (simp only [List.length_append, List.length_map, List.length_cons, List.length_nil, (show List.length x6.key = 32 from hx6k)]; done) | (simp only [List.length_append, List.length_map, List.length_cons, List.length_nil, List.size_toArray, (show List.length x6.key = 32 from hx6k)]; done)))) ?_
     refine wl rfl rfl rfl (p_fld (j := 34) Tryd.underlying115 rfl ⟨_, by rfl⟩ rfl rfl) ?_
     refine wle rfl (e_stR2 (p := (([i64 x6.kind, Value.int .i64 0] ++ (List.map u8v (List.replicate 32 (0 : UInt8)))) : List Value)) (q := ((List.map u8v (List.replicate 32 (0 : UInt8))) : List Value)) (r := []) (vs := ((List.map u8v x6.val) : List Value)) (szL sz38 (by first | rfl | (simp only [List.length_append, List.length_map, List.length_cons, List.length_nil, (show List.length x6.val = 32 from hx6v)]; done) | (simp only [List.length_append, List.length_map, List.length_cons, List.length_nil, List.size_toArray, (show List.length x6.val = 32 from hx6v)]; done))) (oneL one_u8 _) rfl rfl hb4 (by simp only [List.append_assoc, List.cons_append, List.nil_append, List.append_nil]) (by first | rfl | (simp only [List.length_append, List.length_map, List.length_cons, List.length_nil, (show List.length (List.replicate 32 (0 : UInt8)) = 32 from (List.length_replicate ..))]; done) | (simp only [List.length_append, List.length_map, List.length_cons, List.length_nil, List.size_toArray, (show List.length (List.replicate 32 (0 : UInt8)) = 32 from (List.length_replicate ..))]; done)) (by first | rfl | (simp only [List.length_append, List.length_map, List.length_cons, List.length_nil, (show List.length x6.val = 32 from hx6v), (show List.length (List.replicate 32 (0 : UInt8)) = 32 from (List.length_replicate ..))]; done) | (simp only [List.length_append, List.length_map, List.length_cons, List.length_nil, List.size_toArray, (show List.length x6.val = 32 from hx6v), (show List.length (List.replicate 32 (0 : UInt8)) = 32 from (List.length_replicate ..))]; done)) (fun w12 hb4 hc hsz => ?_))
     have hb4 : Blk w12 g4 115 (([i64 x6.kind, Value.int .i64 0] ++ ((List.map u8v (List.replicate 32 (0 : UInt8))) ++ (List.map u8v x6.val))) : List Value).toArray := by have h := hb4; simp only [List.append_assoc, List.cons_append, List.nil_append, List.append_nil] at h ⊢; exact h
     have hzw12 := hc.size
     have HC := HC.trans hc (fun _ _ h => h) (fun k hk ht => absurd ht (by omega))
     have hbr := hbr.ch hc (by omega)
     have hab := hab.ch hc (by intro k hz hk ht; omega)
     have hrnd := hrnd.ch hc (by intro k hk ht; omega)
     have hb2 := hb2.ch hc (by omega)
     have hb3 := hb3.ch hc (by omega)
     have hl := hl.ch hc (by intro k hk ht; have h1 := (hFl k hk).1; omega)
     refine wl_nil ?_
     refine x_seq ?_
     refine wc_seq ?_
     refine wc_region ?_
     refine wl rfl rfl rfl (p_mv rfl) ?_
     refine wl rfl rfl rfl (p_ldA (cs := (([i64 x6.kind, i64 x6.bit] ++ ((List.map u8v x6.key) ++ (List.map u8v x6.val))) : List Value)) Tryd.underlying115 rfl (szL sz115 (by first | rfl | (simp only [List.length_append, List.length_map, List.length_cons, List.length_nil, (show List.length x6.key = 32 from hx6k), (show List.length x6.val = 32 from hx6v)]; done) | (simp only [List.length_append, List.length_map, List.length_cons, List.length_nil, List.size_toArray, (show List.length x6.key = 32 from hx6k), (show List.length x6.val = 32 from hx6v)]; done))) rfl (fun _ e => e ▸ rngL hb3)) ?_
     refine wl rfl rfl rfl (p_ldA (cs := (([i64 x6.kind, Value.int .i64 0] ++ ((List.map u8v (List.replicate 32 (0 : UInt8))) ++ (List.map u8v x6.val))) : List Value)) Tryd.underlying115 rfl (szL sz115 (by first | rfl | (simp only [List.length_append, List.length_map, List.length_cons, List.length_nil, (show List.length (List.replicate 32 (0 : UInt8)) = 32 from (List.length_replicate ..)), (show List.length x6.val = 32 from hx6v)]; done) | (simp only [List.length_append, List.length_map, List.length_cons, List.length_nil, List.size_toArray, (show List.length (List.replicate 32 (0 : UInt8)) = 32 from (List.length_replicate ..)), (show List.length x6.val = 32 from hx6v)]; done))) rfl (fun _ e => e ▸ rngL hb4)) ?_
     refine wl rfl rfl rfl (p_neV (by kernel_rfl) rfl rfl (eqv_struct Tryd.underlying115 (by kernel_rfl) (eqf_cons rfl (part_c (cs := (([i64 x6.kind, i64 x6.bit] ++ ((List.map u8v x6.key) ++ (List.map u8v x6.val))) : List Value)) (p := []) (v := i64 x6.kind) (r := (([i64 x6.bit] ++ ((List.map u8v x6.key) ++ (List.map u8v x6.val))) : List Value)) Tryd.underlying3 rfl (by first | rfl | simp only [List.append_assoc, List.cons_append, List.nil_append, List.append_nil]) rfl) (part_c (cs := (([i64 x6.kind, Value.int .i64 0] ++ ((List.map u8v (List.replicate 32 (0 : UInt8))) ++ (List.map u8v x6.val))) : List Value)) (p := []) (v := i64 x6.kind) (r := (([Value.int .i64 0] ++ ((List.map u8v (List.replicate 32 (0 : UInt8))) ++ (List.map u8v x6.val))) : List Value)) Tryd.underlying3 rfl (by first | rfl | simp only [List.append_assoc, List.cons_append, List.nil_append, List.append_nil]) rfl) (eqv_int Tryd.underlying3) (eqf_cons rfl (part_c (cs := (([i64 x6.kind, i64 x6.bit] ++ ((List.map u8v x6.key) ++ (List.map u8v x6.val))) : List Value)) (p := ([i64 x6.kind] : List Value)) (v := i64 x6.bit) (r := (((List.map u8v x6.key) ++ (List.map u8v x6.val)) : List Value)) Tryd.underlying3 rfl (by first | rfl | simp only [List.append_assoc, List.cons_append, List.nil_append, List.append_nil]) (by first | rfl | (simp only [List.length_append, List.length_map, List.length_cons, List.length_nil]; done) | (simp only [List.length_append, List.length_map, List.length_cons, List.length_nil, List.size_toArray]; done))) (part_c (cs := (([i64 x6.kind, Value.int .i64 0] ++ ((List.map u8v (List.replicate 32 (0 : UInt8))) ++ (List.map u8v x6.val))) : List Value)) (p := ([i64 x6.kind] : List Value)) (v := Value.int .i64 0) (r := (((List.map u8v (List.replicate 32 (0 : UInt8))) ++ (List.map u8v x6.val)) : List Value)) Tryd.underlying3 rfl (by first | rfl | simp only [List.append_assoc, List.cons_append, List.nil_append, List.append_nil]) (by first | rfl | (simp only [List.length_append, List.length_map, List.length_cons, List.length_nil]; done) | (simp only [List.length_append, List.length_map, List.length_cons, List.length_nil, List.size_toArray]; done))) (eqv_int Tryd.underlying3) (eqf_cons rfl (part_h (cs := (([i64 x6.kind, i64 x6.bit] ++ ((List.map u8v x6.key) ++ (List.map u8v x6.val))) : List Value)) (p := ([i64 x6.kind, i64 x6.bit] : List Value)) (L := x6.key) (r := ((List.map u8v x6.val) : List Value)) Tryd.underlying38 rfl sz38 (hx6k) (by first | rfl | simp only [List.append_assoc, List.cons_append, List.nil_append, List.append_nil]) (by first | rfl | (simp only [List.length_append, List.length_map, List.length_cons, List.length_nil]; done) | (simp only [List.length_append, List.length_map, List.length_cons, List.length_nil, List.size_toArray]; done))) (part_h (cs := (([i64 x6.kind, Value.int .i64 0] ++ ((List.map u8v (List.replicate 32 (0 : UInt8))) ++ (List.map u8v x6.val))) : List Value)) (p := ([i64 x6.kind, Value.int .i64 0] : List Value)) (L := (List.replicate 32 (0 : UInt8))) (r := ((List.map u8v x6.val) : List Value)) Tryd.underlying38 rfl sz38 ((List.length_replicate ..)) (by first | rfl | simp only [List.append_assoc, List.cons_append, List.nil_append, List.append_nil]) (by first | rfl | (simp only [List.length_append, List.length_map, List.length_cons, List.length_nil]; done) | (simp only [List.length_append, List.length_map, List.length_cons, List.length_nil, List.size_toArray]; done))) (eqv_hash Tryd.underlying38 Tryd.underlying5 sz5 (hx6k) ((List.length_replicate ..))) (eqf_cons rfl (part_h (cs := (([i64 x6.kind, i64 x6.bit] ++ ((List.map u8v x6.key) ++ (List.map u8v x6.val))) : List Value)) (p := (([i64 x6.kind, i64 x6.bit] ++ (List.map u8v x6.key)) : List Value)) (L := x6.val) (r := []) Tryd.underlying38 rfl sz38 (hx6v) (by first | rfl | simp only [List.append_assoc, List.cons_append, List.nil_append, List.append_nil]) (by first | rfl | (simp only [List.length_append, List.length_map, List.length_cons, List.length_nil, (show List.length x6.key = 32 from hx6k)]; done) | (simp only [List.length_append, List.length_map, List.length_cons, List.length_nil, List.size_toArray, (show List.length x6.key = 32 from hx6k)]; done))) (part_h (cs := (([i64 x6.kind, Value.int .i64 0] ++ ((List.map u8v (List.replicate 32 (0 : UInt8))) ++ (List.map u8v x6.val))) : List Value)) (p := (([i64 x6.kind, Value.int .i64 0] ++ (List.map u8v (List.replicate 32 (0 : UInt8)))) : List Value)) (L := x6.val) (r := []) Tryd.underlying38 rfl sz38 (hx6v) (by first | rfl | simp only [List.append_assoc, List.cons_append, List.nil_append, List.append_nil]) (by first | rfl | (simp only [List.length_append, List.length_map, List.length_cons, List.length_nil, (show List.length (List.replicate 32 (0 : UInt8)) = 32 from (List.length_replicate ..))]; done) | (simp only [List.length_append, List.length_map, List.length_cons, List.length_nil, List.size_toArray, (show List.length (List.replicate 32 (0 : UInt8)) = 32 from (List.length_replicate ..))]; done))) (eqv_hash Tryd.underlying38 Tryd.underlying5 sz5 (hx6v) (hx6v)) (eqf_nil))))))) ?_
     refine wl rfl rfl rfl (p_nck rfl) ?_
     refine wl rfl rfl rfl (p_fld (j := 2) Tryd.underlying164 rfl ⟨_, by rfl⟩ rfl rfl) ?_
     refine wle rfl (e_stC (p := ([.slice (cutA Al cl 1 66) (ll - 1) (cl - 1), .slice Ab lb cb] : List Value)) (u := (.bool bd : Value)) (r := []) (v := .bool (!(decide (x6.kind = x6.kind) && (decide (x6.bit = 0) && ((x6.key == List.replicate 32 (0 : UInt8)) && ((x6.val == x6.val) && true)))))) (by rfl) rfl rfl rfl hbr (by simp only [List.append_assoc, List.cons_append, List.nil_append, List.append_nil]) (by first | rfl | (simp only [List.length_append, List.length_map, List.length_cons, List.length_nil]; done) | (simp only [List.length_append, List.length_map, List.length_cons, List.length_nil, List.size_toArray]; done)) (fun w13 hbr hc hsz => ?_))
     have hbr : Blk w13 gr 164 ([.slice (cutA Al cl 1 66) (ll - 1) (cl - 1), .slice Ab lb cb, .bool (!(decide (x6.kind = x6.kind) && (decide (x6.bit = 0) && ((x6.key == List.replicate 32 (0 : UInt8)) && ((x6.val == x6.val) && true)))))] : List Value).toArray := by have h := hbr; simp only [List.append_assoc, List.cons_append, List.nil_append, List.append_nil] at h ⊢; exact h
     have hzw13 := hc.size
     have HC := HC.trans hc (fun _ _ h => h) (fun k hk ht => .inr ht)
     have hab := hab.ch hc (by intro k hz hk ht; (subst ht; first | exact absurd hk hFgr | ((try simp only [and_assoc] at hk); exact absurd hk.1 hFgr)))
     have hrnd := hrnd.ch hc (by intro k hk ht; omega)
     have hb2 := hb2.ch hc (by omega)
     have hb3 := hb3.ch hc (by omega)
     have hl := hl.ch hc (by intro k hk ht; exact (hFl k hk).2.2 ht)
     have hb4 := hb4.ch hc (by omega)
     refine wl_nil ?_
     refine x_seq ?_
     refine wc_seq ?_
     refine wc_region ?_
     refine wl rfl rfl rfl (p_fld (j := 34) Tryd.underlying115 rfl ⟨_, by rfl⟩ rfl rfl) ?_
     refine wl rfl rfl rfl (p_ldA (cs := (List.map u8v x6.val)) Tryd.underlying38 rfl (szL sz38 (by first | rfl | (simp only [List.length_append, List.length_map, List.length_cons, List.length_nil, (show List.length x6.val = 32 from hx6v)]; done) | (simp only [List.length_append, List.length_map, List.length_cons, List.length_nil, List.size_toArray, (show List.length x6.val = 32 from hx6v)]; done))) rfl (fun _ e => e ▸ rng_at (p := (([i64 x6.kind, i64 x6.bit] ++ (List.map u8v x6.key)) : List Value)) (q := ((List.map u8v x6.val) : List Value)) (r := []) hb3 (by simp only [List.append_assoc, List.cons_append, List.nil_append, List.append_nil]) (by first | rfl | (simp only [List.length_append, List.length_map, List.length_cons, List.length_nil, (show List.length x6.key = 32 from hx6k)]; done) | (simp only [List.length_append, List.length_map, List.length_cons, List.length_nil, List.size_toArray, (show List.length x6.key = 32 from hx6k)]; done)))) ?_
     refine wle rfl (e_stH sz38 (List.length_replicate ..) hx6v rfl rfl hb2 (fun w14 hb2 hc hsz => ?_))
     have hzw14 := hc.size
     have HC := HC.trans hc (fun _ _ h => h) (fun k hk ht => absurd ht (by omega))
     have hbr := hbr.ch hc (by omega)
     have hab := hab.ch hc (by intro k hz hk ht; omega)
     have hrnd := hrnd.ch hc (by intro k hk ht; omega)
     have hb3 := hb3.ch hc (by omega)
     have hl := hl.ch hc (by intro k hk ht; have h1 := (hFl k hk).1; omega)
     have hb4 := hb4.ch hc (by omega)
     refine wl_nil ?_
     refine x_seq ?_
     refine wc_ret ?_
     refine x_in_ret ?_
     refine x_then_ret ?_
     refine fin_run (resC (cs := List.map u8v x6.val) rfl rfl Tryd.underlying38 rfl (szL sz38 (by rw [List.length_map]; exact hx6v)) (rngL hb2)) ?_
     have hbd : bd = false := by simpa using q11
     exact ⟨_, _, _, _, _, _, _, _, rfl, hbr, hl, hab.mono (by intro k hk h; first | exact h | ((try simp only [and_assoc] at h); exact h.1)), (by rw [hlx, hbd]; exact PR.cut c1 hx6v (by simp [zeroH])), HC⟩
    ·
     have c1 := of_decide_eq_false c1
     refine wc_seq ?_
     refine wc_region ?_
     refine wl rfl rfl rfl (p_eq rfl rfl) ?_
     refine wl rfl rfl rfl (p_as rfl) ?_
     refine wl_nil ?_
     refine x_seq ?_
     refine wc_if rfl (fun c2 => ?_) (fun c2 => ?_)
     ·
      have c2 := of_decide_eq_true c2
      refine wc_seq ?_
      refine wc_draw (.st 0 0 (.st 1 1 (.st 2 0 (.st 3 1 (.st 4 0 (.st 5 2 (.st 6 0 (.st 7 3 .nil)))))))) 7 (by kernel_rfl) (by kernel_rfl) (by kernel_rfl) (by repeat (first | with_reducible exact pan_body | with_reducible apply pan_then | with_reducible apply pan_in)) (fun z => Ch (fun k => k = g4) w11.drew z) (Ch.refl _ _) ?_
      obtain ⟨w15, ew15⟩ : ∃ x, x = w11.drew := ⟨_, rfl⟩
      rw [← ew15]
      have hc : Ch No w11 w15 := by rw [ew15]; exact Ch.drew _
      have hszw15 : w15.heap.size = w11.heap.size := by rw [ew15]; rfl
      clear ew15
      have hzw15 := hc.size
      have HC := HC.tr hc
      have hbr := hbr.ch hc (fun h => h)
      have hab := hab.no hc
      have hrnd := hrnd.no hc
      have hb2 := hb2.ch hc (fun h => h)
      have hb3 := hb3.ch hc (fun h => h)
      have hl := hl.no hc
      have hb4 := hb4.ch hc (fun h => h)
      have hS : Ch (fun k => k = g4) w15 w15 := Ch.refl _ _
      refine ws_p rfl rfl rfl rfl (p_fld (j := 2) Tryd.underlying115 rfl ⟨_, by rfl⟩ rfl rfl) ?_
      refine ws_h rfl rfl rfl rfl (p_ldA (cs := (List.map u8v x6.key)) Tryd.underlying38 rfl (szL sz38 (by first | rfl | (simp only [List.length_append, List.length_map, List.length_cons, List.length_nil, (show List.length x6.key = 32 from hx6k)]; done) | (simp only [List.length_append, List.length_map, List.length_cons, List.length_nil, List.size_toArray, (show List.length x6.key = 32 from hx6k)]; done))) rfl (fun _ h => rng_at (p := ([i64 x6.kind, i64 x6.bit] : List Value)) (q := ((List.map u8v x6.key) : List Value)) (r := ((List.map u8v x6.val) : List Value)) (hb3.ch h (fun ht => absurd ht (by omega))) (by simp only [List.append_assoc, List.cons_append, List.nil_append, List.append_nil]) (by first | rfl | (simp only [List.length_append, List.length_map, List.length_cons, List.length_nil]; done) | (simp only [List.length_append, List.length_map, List.length_cons, List.length_nil, List.size_toArray]; done)))) ?_
      refine ws_p rfl rfl rfl rfl (p_fld (j := 34) Tryd.underlying115 rfl ⟨_, by rfl⟩ rfl rfl) ?_
      refine ws_h rfl rfl rfl rfl (p_ldA (cs := (List.map u8v x6.val)) Tryd.underlying38 rfl (szL sz38 (by first | rfl | (simp only [List.length_append, List.length_map, List.length_cons, List.length_nil, (show List.length x6.val = 32 from hx6v)]; done) | (simp only [List.length_append, List.length_map, List.length_cons, List.length_nil, List.size_toArray, (show List.length x6.val = 32 from hx6v)]; done))) rfl (fun _ h => rng_at (p := (([i64 x6.kind, i64 x6.bit] ++ (List.map u8v x6.key)) : List Value)) (q := ((List.map u8v x6.val) : List Value)) (r := []) (hb3.ch h (fun ht => absurd ht (by omega))) (by simp only [List.append_assoc, List.cons_append, List.nil_append, List.append_nil]) (by first | rfl | (simp only [List.length_append, List.length_map, List.length_cons, List.length_nil, (show List.length x6.key = 32 from hx6k)]; done) | (simp only [List.length_append, List.length_map, List.length_cons, List.length_nil, List.size_toArray, (show List.length x6.key = 32 from hx6k)]; done)))) ?_
      refine ws_p rfl rfl rfl rfl (p_fld (j := 2) Tryd.underlying115 rfl ⟨_, by rfl⟩ rfl rfl) ?_
      refine ws_e rfl rfl (e_stR2 (p := ([i64 x6.kind, Value.int .i64 0] : List Value)) (q := ((List.map u8v (List.replicate 32 (0 : UInt8))) : List Value)) (r := ((List.map u8v (List.replicate 32 (0 : UInt8))) : List Value)) (vs := ((List.map u8v x6.key) : List Value)) (szL sz38 (by first | rfl | (simp only [List.length_append, List.length_map, List.length_cons, List.length_nil, (show List.length x6.key = 32 from hx6k)]; done) | (simp only [List.length_append, List.length_map, List.length_cons, List.length_nil, List.size_toArray, (show List.length x6.key = 32 from hx6k)]; done))) (oneL one_u8 _) rfl rfl hb4 (by simp only [List.append_assoc, List.cons_append, List.nil_append, List.append_nil]) (by first | rfl | (simp only [List.length_append, List.length_map, List.length_cons, List.length_nil]; done) | (simp only [List.length_append, List.length_map, List.length_cons, List.length_nil, List.size_toArray]; done)) (by first | rfl | (simp only [List.length_append, List.length_map, List.length_cons, List.length_nil, (show List.length x6.key = 32 from hx6k), (show List.length (List.replicate 32 (0 : UInt8)) = 32 from (List.length_replicate ..))]; done) | (simp only [List.length_append, List.length_map, List.length_cons, List.length_nil, List.size_toArray, (show List.length x6.key = 32 from hx6k), (show List.length (List.replicate 32 (0 : UInt8)) = 32 from (List.length_replicate ..))]; done)) (fun w16 hb4 hc hsz => ⟨(hS.trans hc (fun _ _ h => h) (fun _ _ h => h)), ?_⟩))
      have hb4 : Blk w16 g4 115 (([i64 x6.kind, Value.int .i64 0] ++ ((List.map u8v x6.key) ++ (List.map u8v (List.replicate 32 (0 : UInt8))))) : List Value).toArray := by have h := hb4; simp only [List.append_assoc, List.cons_append, List.nil_append, List.append_nil] at h ⊢; exact h
      have hzw16 := hc.size
      have HC := HC.trans hc (fun _ _ h => h) (fun k hk ht => absurd ht (by omega))
      have hbr := hbr.ch hc (by omega)
      have hab := hab.ch hc (by intro k hz hk ht; omega)
      have hrnd := hrnd.ch hc (by intro k hk ht; omega)
      have hb2 := hb2.ch hc (by omega)
      have hb3 := hb3.ch hc (by omega)
      have hl := hl.ch hc (by intro k hk ht; have h1 := (hFl k hk).1; omega)
      have hS := (hS.trans hc (fun _ _ h => h) (fun _ _ h => h))
      refine ws_p rfl rfl rfl rfl (p_fld (j := 34) Tryd.underlying115 rfl ⟨_, by rfl⟩ rfl rfl) ?_
      refine ws_l rfl rfl (e_stR2 (p := (([i64 x6.kind, Value.int .i64 0] ++ (List.map u8v x6.key)) : List Value)) (q := ((List.map u8v (List.replicate 32 (0 : UInt8))) : List Value)) (r := []) (vs := ((List.map u8v x6.val) : List Value)) (szL sz38 (by first | rfl | (simp only [List.length_append, List.length_map, List.length_cons, List.length_nil, (show List.length x6.val = 32 from hx6v)]; done) | (simp only [List.length_append, List.length_map, List.length_cons, List.length_nil, List.size_toArray, (show List.length x6.val = 32 from hx6v)]; done))) (oneL one_u8 _) rfl rfl hb4 (by simp only [List.append_assoc, List.cons_append, List.nil_append, List.append_nil]) (by first | rfl | (simp only [List.length_append, List.length_map, List.length_cons, List.length_nil, (show List.length x6.key = 32 from hx6k)]; done) | (simp only [List.length_append, List.length_map, List.length_cons, List.length_nil, List.size_toArray, (show List.length x6.key = 32 from hx6k)]; done)) (by first | rfl | (simp only [List.length_append, List.length_map, List.length_cons, List.length_nil, (show List.length x6.val = 32 from hx6v), (show List.length (List.replicate 32 (0 : UInt8)) = 32 from (List.length_replicate ..))]; done) | (simp only [List.length_append, List.length_map, List.length_cons, List.length_nil, List.size_toArray, (show List.length x6.val = 32 from hx6v), (show List.length (List.replicate 32 (0 : UInt8)) = 32 from (List.length_replicate ..))]; done)) (fun w17 hb4 hc hsz => ?_))
      have hb4 : Blk w17 g4 115 (([i64 x6.kind, Value.int .i64 0] ++ ((List.map u8v x6.key) ++ (List.map u8v x6.val))) : List Value).toArray := by have h := hb4; simp only [List.append_assoc, List.cons_append, List.nil_append, List.append_nil] at h ⊢; exact h
      have hzw17 := hc.size
      have HC := HC.trans hc (fun _ _ h => h) (fun k hk ht => absurd ht (by omega))
      have hbr := hbr.ch hc (by omega)
      have hab := hab.ch hc (by intro k hz hk ht; omega)
      have hrnd := hrnd.ch hc (by intro k hk ht; omega)
      have hb2 := hb2.ch hc (by omega)
      have hb3 := hb3.ch hc (by omega)
      have hl := hl.ch hc (by intro k hk ht; have h1 := (hFl k hk).1; omega)
      refine ws_n ?_
      refine x_seq ?_
      refine wc_seq ?_
      refine wc_region ?_
      refine wl rfl rfl rfl (p_mv rfl) ?_
      refine wl rfl rfl rfl (p_ldA (cs := (([i64 x6.kind, i64 x6.bit] ++ ((List.map u8v x6.key) ++ (List.map u8v x6.val))) : List Value)) Tryd.underlying115 rfl (szL sz115 (by first | rfl | (simp only [List.length_append, List.length_map, List.length_cons, List.length_nil, (show List.length x6.key = 32 from hx6k), (show List.length x6.val = 32 from hx6v)]; done) | (simp only [List.length_append, List.length_map, List.length_cons, List.length_nil, List.size_toArray, (show List.length x6.key = 32 from hx6k), (show List.length x6.val = 32 from hx6v)]; done))) rfl (fun _ e => e ▸ rngL hb3)) ?_
      refine wl rfl rfl rfl (p_ldA (cs := (([i64 x6.kind, Value.int .i64 0] ++ ((List.map u8v x6.key) ++ (List.map u8v x6.val))) : List Value)) Tryd.underlying115 rfl (szL sz115 (by first | rfl | (simp only [List.length_append, List.length_map, List.length_cons, List.length_nil, (show List.length x6.key = 32 from hx6k), (show List.length x6.val = 32 from hx6v)]; done) | (simp only [List.length_append, List.length_map, List.length_cons, List.length_nil, List.size_toArray, (show List.length x6.key = 32 from hx6k), (show List.length x6.val = 32 from hx6v)]; done))) rfl (fun _ e => e ▸ rngL hb4)) ?_
      refine wl rfl rfl rfl (p_neV (by kernel_rfl) rfl rfl (eqv_struct Tryd.underlying115 (by kernel_rfl) (eqf_cons rfl (part_c (cs := (([i64 x6.kind, i64 x6.bit] ++ ((List.map u8v x6.key) ++ (List.map u8v x6.val))) : List Value)) (p := []) (v := i64 x6.kind) (r := (([i64 x6.bit] ++ ((List.map u8v x6.key) ++ (List.map u8v x6.val))) : List Value)) Tryd.underlying3 rfl (by first | rfl | simp only [List.append_assoc, List.cons_append, List.nil_append, List.append_nil]) rfl) (part_c (cs := (([i64 x6.kind, Value.int .i64 0] ++ ((List.map u8v x6.key) ++ (List.map u8v x6.val))) : List Value)) (p := []) (v := i64 x6.kind) (r := (([Value.int .i64 0] ++ ((List.map u8v x6.key) ++ (List.map u8v x6.val))) : List Value)) Tryd.underlying3 rfl (by first | rfl | simp only [List.append_assoc, List.cons_append, List.nil_append, List.append_nil]) rfl) (eqv_int Tryd.underlying3) (eqf_cons rfl (part_c (cs := (([i64 x6.kind, i64 x6.bit] ++ ((List.map u8v x6.key) ++ (List.map u8v x6.val))) : List Value)) (p := ([i64 x6.kind] : List Value)) (v := i64 x6.bit) (r := (((List.map u8v x6.key) ++ (List.map u8v x6.val)) : List Value)) Tryd.underlying3 rfl (by first | rfl | simp only [List.append_assoc, List.cons_append, List.nil_append, List.append_nil]) (by first | rfl | (simp only [List.length_append, List.length_map, List.length_cons, List.length_nil]; done) | (simp only [List.length_append, List.length_map, List.length_cons, List.length_nil, List.size_toArray]; done))) (part_c (cs := (([i64 x6.kind, Value.int .i64 0] ++ ((List.map u8v x6.key) ++ (List.map u8v x6.val))) : List Value)) (p := ([i64 x6.kind] : List Value)) (v := Value.int .i64 0) (r := (((List.map u8v x6.key) ++ (List.map u8v x6.val)) : List Value)) Tryd.underlying3 rfl (by first | rfl | simp only [List.append_assoc, List.cons_append, List.nil_append, List.append_nil]) (by first | rfl | (simp only [List.length_append, List.length_map, List.length_cons, List.length_nil]; done) | (simp only [List.length_append, List.length_map, List.length_cons, List.length_nil, List.size_toArray]; done))) (eqv_int Tryd.underlying3) (eqf_cons rfl (part_h (cs := (([i64 x6.kind, i64 x6.bit] ++ ((List.map u8v x6.key) ++ (List.map u8v x6.val))) : List Value)) (p := ([i64 x6.kind, i64 x6.bit] : List Value)) (L := x6.key) (r := ((List.map u8v x6.val) : List Value)) Tryd.underlying38 rfl sz38 (hx6k) (by first | rfl | simp only [List.append_assoc, List.cons_append, List.nil_append, List.append_nil]) (by first | rfl | (simp only [List.length_append, List.length_map, List.length_cons, List.length_nil]; done) | (simp only [List.length_append, List.length_map, List.length_cons, List.length_nil, List.size_toArray]; done))) (part_h (cs := (([i64 x6.kind, Value.int .i64 0] ++ ((List.map u8v x6.key) ++ (List.map u8v x6.val))) : List Value)) (p := ([i64 x6.kind, Value.int .i64 0] : List Value)) (L := x6.key) (r := ((List.map u8v x6.val) : List Value)) Tryd.underlying38 rfl sz38 (hx6k) (by first | rfl | simp only [List.append_assoc, List.cons_append, List.nil_append, List.append_nil]) (by first | rfl | (simp only [List.length_append, List.length_map, List.length_cons, List.length_nil]; done) | (simp only [List.length_append, List.length_map, List.length_cons, List.length_nil, List.size_toArray]; done))) (eqv_hash Tryd.underlying38 Tryd.underlying5 sz5 (hx6k) (hx6k)) (eqf_cons rfl (part_h (cs := (([i64 x6.kind, i64 x6.bit] ++ ((List.map u8v x6.key) ++ (List.map u8v x6.val))) : List Value)) (p := (([i64 x6.kind, i64 x6.bit] ++ (List.map u8v x6.key)) : List Value)) (L := x6.val) (r := []) Tryd.underlying38 rfl sz38 (hx6v) (by first | rfl | simp only [List.append_assoc, List.cons_append, List.nil_append, List.append_nil]) (by first | rfl | (simp only [List.length_append, List.length_map, List.length_cons, List.length_nil, (show List.length x6.key = 32 from hx6k)]; done) | (simp only [List.length_append, List.length_map, List.length_cons, List.length_nil, List.size_toArray, (show List.length x6.key = 32 from hx6k)]; done))) (part_h (cs := (([i64 x6.kind, Value.int .i64 0] ++ ((List.map u8v x6.key) ++ (List.map u8v x6.val))) : List Value)) (p := (([i64 x6.kind, Value.int .i64 0] ++ (List.map u8v x6.key)) : List Value)) (L := x6.val) (r := []) Tryd.underlying38 rfl sz38 (hx6v) (by first | rfl | simp only [List.append_assoc, List.cons_append, List.nil_append, List.append_nil]) (by first | rfl | (simp only [List.length_append, List.length_map, List.length_cons, List.length_nil, (show List.length x6.key = 32 from hx6k)]; done) | (simp only [List.length_append, List.length_map, List.length_cons, List.length_nil, List.size_toArray, (show List.length x6.key = 32 from hx6k)]; done))) (eqv_hash Tryd.underlying38 Tryd.underlying5 sz5 (hx6v) (hx6v)) (eqf_nil))))))) ?_
      refine wl rfl rfl rfl (p_mv rfl) ?_
      refine wl_split (d := 67) rfl (fun q67 => ?_) (fun q67 => ?_)
      ·
       refine wl_s (gd_ rfl rfl rfl rfl rfl rfl) rfl rfl ?_
       refine wl_s (gd_ rfl rfl rfl rfl rfl rfl) rfl rfl ?_
       refine wl_s (gd_ rfl rfl rfl rfl rfl rfl) rfl rfl ?_
       refine wl_s (gd_ rfl rfl rfl rfl rfl rfl) rfl rfl ?_
       refine wl_s (gd_ rfl rfl rfl rfl rfl rfl) rfl rfl ?_
       refine wl rfl rfl rfl (p_pickT rfl rfl) ?_
       refine wl rfl rfl rfl (p_nck rfl) ?_
       refine wl rfl rfl rfl (p_fld (j := 2) Tryd.underlying164 rfl ⟨_, by rfl⟩ rfl rfl) ?_
       refine wle rfl (e_stC (p := ([.slice (cutA Al cl 1 66) (ll - 1) (cl - 1), .slice Ab lb cb] : List Value)) (u := (.bool bd : Value)) (r := []) (v := .bool true) (by rfl) rfl rfl rfl hbr (by simp only [List.append_assoc, List.cons_append, List.nil_append, List.append_nil]) (by first | rfl | (simp only [List.length_append, List.length_map, List.length_cons, List.length_nil]; done) | (simp only [List.length_append, List.length_map, List.length_cons, List.length_nil, List.size_toArray]; done)) (fun w18 hbr hc hsz => ?_))
       have hbr : Blk w18 gr 164 ([.slice (cutA Al cl 1 66) (ll - 1) (cl - 1), .slice Ab lb cb, .bool true] : List Value).toArray := by have h := hbr; simp only [List.append_assoc, List.cons_append, List.nil_append, List.append_nil] at h ⊢; exact h
       have hzw18 := hc.size
       have HC := HC.trans hc (fun _ _ h => h) (fun k hk ht => .inr ht)
       have hab := hab.ch hc (by intro k hz hk ht; (subst ht; first | exact absurd hk hFgr | ((try simp only [and_assoc] at hk); exact absurd hk.1 hFgr)))
       have hrnd := hrnd.ch hc (by intro k hk ht; omega)
       have hb2 := hb2.ch hc (by omega)
       have hb3 := hb3.ch hc (by omega)
       have hl := hl.ch hc (by intro k hk ht; exact (hFl k hk).2.2 ht)
       have hb4 := hb4.ch hc (by omega)
       refine wl_nil ?_
       refine x_seq ?_
       refine wc_seq ?_
       refine wc_region ?_
       refine wl rfl rfl rfl (p_fld (j := 2) Tryd.underlying115 rfl ⟨_, by rfl⟩ rfl rfl) ?_
       refine wl rfl rfl rfl (p_ldA (cs := (List.map u8v x6.key)) Tryd.underlying38 rfl (szL sz38 (by first | rfl | (simp only [List.length_append, List.length_map, List.length_cons, List.length_nil, (show List.length x6.key = 32 from hx6k)]; done) | (simp only [List.length_append, List.length_map, List.length_cons, List.length_nil, List.size_toArray, (show List.length x6.key = 32 from hx6k)]; done))) rfl (fun _ e => e ▸ rng_at (p := ([i64 x6.kind, i64 x6.bit] : List Value)) (q := ((List.map u8v x6.key) : List Value)) (r := ((List.map u8v x6.val) : List Value)) hb3 (by simp only [List.append_assoc, List.cons_append, List.nil_append, List.append_nil]) (by first | rfl | (simp only [List.length_append, List.length_map, List.length_cons, List.length_nil]; done) | (simp only [List.length_append, List.length_map, List.length_cons, List.length_nil, List.size_toArray]; done)))) ?_
       refine wl rfl rfl rfl (p_fld (j := 34) Tryd.underlying115 rfl ⟨_, by rfl⟩ rfl rfl) ?_
       refine wl rfl rfl rfl (p_ldA (cs := (List.map u8v x6.val)) Tryd.underlying38 rfl (szL sz38 (by first | rfl | (simp only [List.length_append, List.length_map, List.length_cons, List.length_nil, (show List.length x6.val = 32 from hx6v)]; done) | (simp only [List.length_append, List.length_map, List.length_cons, List.length_nil, List.size_toArray, (show List.length x6.val = 32 from hx6v)]; done))) rfl (fun _ e => e ▸ rng_at (p := (([i64 x6.kind, i64 x6.bit] ++ (List.map u8v x6.key)) : List Value)) (q := ((List.map u8v x6.val) : List Value)) (r := []) hb3 (by simp only [List.append_assoc, List.cons_append, List.nil_append, List.append_nil]) (by first | rfl | (simp only [List.length_append, List.length_map, List.length_cons, List.length_nil, (show List.length x6.key = 32 from hx6k)]; done) | (simp only [List.length_append, List.length_map, List.length_cons, List.length_nil, List.size_toArray, (show List.length x6.key = 32 from hx6k)]; done)))) ?_
       refine wle rfl (e_call ent74 rfl rfl (titem_any (hx6k) (hx6v) hrnd) ?_)
       rintro _ w19 ⟨rfl, hc⟩
       refine ⟨_, rfl, ?_⟩
       have hzw19 := hc.size
       have HC := HC.tr hc
       have hbr := hbr.ch hc (fun h => h)
       have hab := hab.after hc
       have hrnd := hrnd.no hc
       have hb2 := hb2.ch hc (fun h => h)
       have hb3 := hb3.ch hc (fun h => h)
       have hl := hl.no hc
       have hb4 := hb4.ch hc (fun h => h)
       refine wle rfl (e_stH sz38 (List.length_replicate ..) (itemH_len _ _ ) rfl rfl hb2 (fun w20 hb2 hc hsz => ?_))
       have hzw20 := hc.size
       have HC := HC.trans hc (fun _ _ h => h) (fun k hk ht => absurd ht (by omega))
       have hbr := hbr.ch hc (by omega)
       have hab := hab.ch hc (by intro k hz hk ht; omega)
       have hrnd := hrnd.ch hc (by intro k hk ht; omega)
       have hb3 := hb3.ch hc (by omega)
       have hl := hl.ch hc (by intro k hk ht; have h1 := (hFl k hk).1; omega)
       have hb4 := hb4.ch hc (by omega)
       refine wl_nil ?_
       refine x_seq ?_
       refine wc_ret ?_
       refine x_in_ret ?_
       refine x_then_ret ?_
       refine fin_run (resC (cs := List.map u8v (itemH x6.key x6.val)) rfl rfl Tryd.underlying38 rfl (szL sz38 (by rw [List.length_map]; exact (itemH_len _ _ ))) (rngL hb2)) ?_
       have hbd : bd = false := by simpa using q11
       exact ⟨_, _, _, _, _, _, _, _, rfl, hbr, hl, hab.mono (by intro k hk h; first | exact h | ((try simp only [and_assoc] at h); exact h.1)), (by rw [hlx, hbd]; exact PR.item (q := false) c2 hx6k hx6v (by have h := q67; simp at h; simp [h])), HC⟩
      ·
       refine wl_g (gd_ rfl rfl rfl rfl rfl rfl) rfl rfl (p_mv rfl) ?_
       refine wl_g (gd_ rfl rfl rfl rfl rfl rfl) rfl rfl (p_fld (j := 2) Tryd.underlying115 rfl ⟨_, by rfl⟩ rfl rfl) ?_
       refine wl_g (gd_ rfl rfl rfl rfl rfl rfl) rfl rfl (p_ldA (cs := (List.map u8v x6.key)) Tryd.underlying38 rfl (szL sz38 (by first | rfl | (simp only [List.length_append, List.length_map, List.length_cons, List.length_nil, (show List.length x6.key = 32 from hx6k)]; done) | (simp only [List.length_append, List.length_map, List.length_cons, List.length_nil, List.size_toArray, (show List.length x6.key = 32 from hx6k)]; done))) rfl (fun _ e => e ▸ rng_at (p := ([i64 x6.kind, i64 x6.bit] : List Value)) (q := ((List.map u8v x6.key) : List Value)) (r := ((List.map u8v x6.val) : List Value)) hb3 (by simp only [List.append_assoc, List.cons_append, List.nil_append, List.append_nil]) (by first | rfl | (simp only [List.length_append, List.length_map, List.length_cons, List.length_nil]; done) | (simp only [List.length_append, List.length_map, List.length_cons, List.length_nil, List.size_toArray]; done)))) ?_
       refine wle_g (gd_ rfl rfl rfl rfl rfl rfl) (e_call ent109 rfl rfl (within_any hbr hab.si (by omega) (hx6k)) ?_)
       rintro _ w21 ⟨rfl, hc⟩
       refine ⟨_, rfl, ?_⟩
       have hzw21 := hc.size
       have HC := HC.tr hc
       have hbr := hbr.ch hc (fun h => h)
       have hab := hab.after hc
       have hrnd := hrnd.no hc
       have hb2 := hb2.ch hc (fun h => h)
       have hb3 := hb3.ch hc (fun h => h)
       have hl := hl.no hc
       have hb4 := hb4.ch hc (fun h => h)
       refine wl_g (gd_ rfl rfl rfl rfl rfl rfl) rfl rfl (p_not rfl) ?_
       refine wl rfl rfl rfl (p_pickF rfl rfl) ?_
       refine wl rfl rfl rfl (p_nck rfl) ?_
       refine wl rfl rfl rfl (p_fld (j := 2) Tryd.underlying164 rfl ⟨_, by rfl⟩ rfl rfl) ?_
       refine wle rfl (e_stC (p := ([.slice (cutA Al cl 1 66) (ll - 1) (cl - 1), .slice Ab lb cb] : List Value)) (u := (.bool bd : Value)) (r := []) (v := .bool (!withinB x6.key ab)) (by rfl) rfl rfl rfl hbr (by simp only [List.append_assoc, List.cons_append, List.nil_append, List.append_nil]) (by first | rfl | (simp only [List.length_append, List.length_map, List.length_cons, List.length_nil]; done) | (simp only [List.length_append, List.length_map, List.length_cons, List.length_nil, List.size_toArray]; done)) (fun w22 hbr hc hsz => ?_))
       have hbr : Blk w22 gr 164 ([.slice (cutA Al cl 1 66) (ll - 1) (cl - 1), .slice Ab lb cb, .bool (!withinB x6.key ab)] : List Value).toArray := by have h := hbr; simp only [List.append_assoc, List.cons_append, List.nil_append, List.append_nil] at h ⊢; exact h
       have hzw22 := hc.size
       have HC := HC.trans hc (fun _ _ h => h) (fun k hk ht => .inr ht)
       have hab := hab.ch hc (by intro k hz hk ht; (subst ht; first | exact absurd hk hFgr | ((try simp only [and_assoc] at hk); exact absurd hk.1 hFgr)))
       have hrnd := hrnd.ch hc (by intro k hk ht; omega)
       have hb2 := hb2.ch hc (by omega)
       have hb3 := hb3.ch hc (by omega)
       have hl := hl.ch hc (by intro k hk ht; exact (hFl k hk).2.2 ht)
       have hb4 := hb4.ch hc (by omega)
       refine wl_nil ?_
       refine x_seq ?_
       refine wc_seq ?_
       refine wc_region ?_
       refine wl rfl rfl rfl (p_fld (j := 2) Tryd.underlying115 rfl ⟨_, by rfl⟩ rfl rfl) ?_
       refine wl rfl rfl rfl (p_ldA (cs := (List.map u8v x6.key)) Tryd.underlying38 rfl (szL sz38 (by first | rfl | (simp only [List.length_append, List.length_map, List.length_cons, List.length_nil, (show List.length x6.key = 32 from hx6k)]; done) | (simp only [List.length_append, List.length_map, List.length_cons, List.length_nil, List.size_toArray, (show List.length x6.key = 32 from hx6k)]; done))) rfl (fun _ e => e ▸ rng_at (p := ([i64 x6.kind, i64 x6.bit] : List Value)) (q := ((List.map u8v x6.key) : List Value)) (r := ((List.map u8v x6.val) : List Value)) hb3 (by simp only [List.append_assoc, List.cons_append, List.nil_append, List.append_nil]) (by first | rfl | (simp only [List.length_append, List.length_map, List.length_cons, List.length_nil]; done) | (simp only [List.length_append, List.length_map, List.length_cons, List.length_nil, List.size_toArray]; done)))) ?_
       refine wl rfl rfl rfl (p_fld (j := 34) Tryd.underlying115 rfl ⟨_, by rfl⟩ rfl rfl) ?_
       refine wl rfl rfl rfl (p_ldA (cs := (List.map u8v x6.val)) Tryd.underlying38 rfl (szL sz38 (by first | rfl | (simp only [List.length_append, List.length_map, List.length_cons, List.length_nil, (show List.length x6.val = 32 from hx6v)]; done) | (simp only [List.length_append, List.length_map, List.length_cons, List.length_nil, List.size_toArray, (show List.length x6.val = 32 from hx6v)]; done))) rfl (fun _ e => e ▸ rng_at (p := (([i64 x6.kind, i64 x6.bit] ++ (List.map u8v x6.key)) : List Value)) (q := ((List.map u8v x6.val) : List Value)) (r := []) hb3 (by simp only [List.append_assoc, List.cons_append, List.nil_append, List.append_nil]) (by first | rfl | (simp only [List.length_append, List.length_map, List.length_cons, List.length_nil, (show List.length x6.key = 32 from hx6k)]; done) | (simp only [List.length_append, List.length_map, List.length_cons, List.length_nil, List.size_toArray, (show List.length x6.key = 32 from hx6k)]; done)))) ?_
       refine wle rfl (e_call ent74 rfl rfl (titem_any (hx6k) (hx6v) hrnd) ?_)
       rintro _ w23 ⟨rfl, hc⟩
       refine ⟨_, rfl, ?_⟩
       have hzw23 := hc.size
       have HC := HC.tr hc
       have hbr := hbr.ch hc (fun h => h)
       have hab := hab.after hc
       have hrnd := hrnd.no hc
       have hb2 := hb2.ch hc (fun h => h)
       have hb3 := hb3.ch hc (fun h => h)
       have hl := hl.no hc
       have hb4 := hb4.ch hc (fun h => h)
       refine wle rfl (e_stH sz38 (List.length_replicate ..) (itemH_len _ _ ) rfl rfl hb2 (fun w24 hb2 hc hsz => ?_))
       have hzw24 := hc.size
       have HC := HC.trans hc (fun _ _ h => h) (fun k hk ht => absurd ht (by omega))
       have hbr := hbr.ch hc (by omega)
       have hab := hab.ch hc (by intro k hz hk ht; omega)
       have hrnd := hrnd.ch hc (by intro k hk ht; omega)
       have hb3 := hb3.ch hc (by omega)
       have hl := hl.ch hc (by intro k hk ht; have h1 := (hFl k hk).1; omega)
       have hb4 := hb4.ch hc (by omega)
       refine wl_nil ?_
       refine x_seq ?_
       refine wc_ret ?_
       refine x_in_ret ?_
       refine x_then_ret ?_
       refine fin_run (resC (cs := List.map u8v (itemH x6.key x6.val)) rfl rfl Tryd.underlying38 rfl (szL sz38 (by rw [List.length_map]; exact (itemH_len _ _ ))) (rngL hb2)) ?_
       have hbd : bd = false := by simpa using q11
       exact ⟨_, _, _, _, _, _, _, _, rfl, hbr, hl, hab.mono (by intro k hk h; first | exact h | ((try simp only [and_assoc] at h); exact h.1)), (by rw [hlx, hbd]; exact PR.item (q := (withinB x6.key ab)) c2 hx6k hx6v (by have h := q67; simp at h; simp [h])), HC⟩
     ·
      have c2 := of_decide_eq_false c2
      refine wc_seq ?_
      refine wc_region ?_
      refine wl rfl rfl rfl (p_eq rfl rfl) ?_
      refine wl rfl rfl rfl (p_as rfl) ?_
      refine wl_nil ?_
      refine x_seq ?_
      refine wc_if rfl (fun c3 => ?_) (fun c3 => ?_)
      ·
       have c3 := of_decide_eq_true c3
       refine wc_seq ?_
       refine wc_region ?_
       refine wl rfl rfl rfl (p_fld (j := 1) Tryd.underlying115 rfl ⟨_, by rfl⟩ rfl rfl) ?_
       refine wl rfl rfl rfl (p_ld Tryd.underlying3 rfl rfl (ld (cell_at (p := ([i64 x6.kind] : List Value)) (v := (i64 x6.bit : Value)) (r := (((List.map u8v x6.key) ++ (List.map u8v x6.val)) : List Value)) hb3 (by simp only [List.append_assoc, List.cons_append, List.nil_append, List.append_nil]) (by first | rfl | (simp only [List.length_append, List.length_map, List.length_cons, List.length_nil]; done) | (simp only [List.length_append, List.length_map, List.length_cons, List.length_nil, List.size_toArray]; done))))) ?_
       refine wl rfl rfl rfl (p_fld (j := 1) Tryd.underlying115 rfl ⟨_, by rfl⟩ rfl rfl) ?_
       refine wle rfl (e_stC (p := ([i64 x6.kind] : List Value)) (u := (Value.int .i64 0 : Value)) (r := (((List.map u8v (List.replicate 32 (0 : UInt8))) ++ (List.map u8v (List.replicate 32 (0 : UInt8)))) : List Value)) (v := i64 x6.bit) (by rfl) rfl rfl rfl hb4 (by simp only [List.append_assoc, List.cons_append, List.nil_append, List.append_nil]) (by first | rfl | (simp only [List.length_append, List.length_map, List.length_cons, List.length_nil]; done) | (simp only [List.length_append, List.length_map, List.length_cons, List.length_nil, List.size_toArray]; done)) (fun w25 hb4 hc hsz => ?_))
       have hb4 : Blk w25 g4 115 (([i64 x6.kind, i64 x6.bit] ++ ((List.map u8v (List.replicate 32 (0 : UInt8))) ++ (List.map u8v (List.replicate 32 (0 : UInt8))))) : List Value).toArray := by have h := hb4; simp only [List.append_assoc, List.cons_append, List.nil_append, List.append_nil] at h ⊢; exact h
       have hzw25 := hc.size
       have HC := HC.trans hc (fun _ _ h => h) (fun k hk ht => absurd ht (by omega))
       have hbr := hbr.ch hc (by omega)
       have hab := hab.ch hc (by intro k hz hk ht; omega)
       have hrnd := hrnd.ch hc (by intro k hk ht; omega)
       have hb2 := hb2.ch hc (by omega)
       have hb3 := hb3.ch hc (by omega)
       have hl := hl.ch hc (by intro k hk ht; have h1 := (hFl k hk).1; omega)
       refine wl_nil ?_
       refine x_seq ?_
       refine wc_seq ?_
       refine wc_seq ?_
       refine wc_region ?_
       refine wl rfl rfl rfl (p_mv rfl) ?_
       refine wl rfl rfl rfl (p_ldA (cs := (([i64 x6.kind, i64 x6.bit] ++ ((List.map u8v x6.key) ++ (List.map u8v x6.val))) : List Value)) Tryd.underlying115 rfl (szL sz115 (by first | rfl | (simp only [List.length_append, List.length_map, List.length_cons, List.length_nil, (show List.length x6.key = 32 from hx6k), (show List.length x6.val = 32 from hx6v)]; done) | (simp only [List.length_append, List.length_map, List.length_cons, List.length_nil, List.size_toArray, (show List.length x6.key = 32 from hx6k), (show List.length x6.val = 32 from hx6v)]; done))) rfl (fun _ e => e ▸ rngL hb3)) ?_
       refine wl rfl rfl rfl (p_ldA (cs := (([i64 x6.kind, i64 x6.bit] ++ ((List.map u8v (List.replicate 32 (0 : UInt8))) ++ (List.map u8v (List.replicate 32 (0 : UInt8))))) : List Value)) Tryd.underlying115 rfl (szL sz115 (by first | rfl | (simp only [List.length_append, List.length_map, List.length_cons, List.length_nil, (show List.length (List.replicate 32 (0 : UInt8)) = 32 from (List.length_replicate ..)), (show List.length (List.replicate 32 (0 : UInt8)) = 32 from (List.length_replicate ..))]; done) | (simp only [List.length_append, List.length_map, List.length_cons, List.length_nil, List.size_toArray, (show List.length (List.replicate 32 (0 : UInt8)) = 32 from (List.length_replicate ..)), (show List.length (List.replicate 32 (0 : UInt8)) = 32 from (List.length_replicate ..))]; done))) rfl (fun _ e => e ▸ rngL hb4)) ?_
       refine wl rfl rfl rfl (p_neV (by kernel_rfl) rfl rfl (eqv_struct Tryd.underlying115 (by kernel_rfl) (eqf_cons rfl (part_c (cs := (([i64 x6.kind, i64 x6.bit] ++ ((List.map u8v x6.key) ++ (List.map u8v x6.val))) : List Value)) (p := []) (v := i64 x6.kind) (r := (([i64 x6.bit] ++ ((List.map u8v x6.key) ++ (List.map u8v x6.val))) : List Value)) Tryd.underlying3 rfl (by first | rfl | simp only [List.append_assoc, List.cons_append, List.nil_append, List.append_nil]) rfl) (part_c (cs := (([i64 x6.kind, i64 x6.bit] ++ ((List.map u8v (List.replicate 32 (0 : UInt8))) ++ (List.map u8v (List.replicate 32 (0 : UInt8))))) : List Value)) (p := []) (v := i64 x6.kind) (r := (([i64 x6.bit] ++ ((List.map u8v (List.replicate 32 (0 : UInt8))) ++ (List.map u8v (List.replicate 32 (0 : UInt8))))) : List Value)) Tryd.underlying3 rfl (by first | rfl | simp only [List.append_assoc, List.cons_append, List.nil_append, List.append_nil]) rfl) (eqv_int Tryd.underlying3) (eqf_cons rfl (part_c (cs := (([i64 x6.kind, i64 x6.bit] ++ ((List.map u8v x6.key) ++ (List.map u8v x6.val))) : List Value)) (p := ([i64 x6.kind] : List Value)) (v := i64 x6.bit) (r := (((List.map u8v x6.key) ++ (List.map u8v x6.val)) : List Value)) Tryd.underlying3 rfl (by first | rfl | simp only [List.append_assoc, List.cons_append, List.nil_append, List.append_nil]) (by first | rfl | (simp only [List.length_append, List.length_map, List.length_cons, List.length_nil]; done) | (simp only [List.length_append, List.length_map, List.length_cons, List.length_nil, List.size_toArray]; done))) (part_c (cs := (([i64 x6.kind, i64 x6.bit] ++ ((List.map u8v (List.replicate 32 (0 : UInt8))) ++ (List.map u8v (List.replicate 32 (0 : UInt8))))) : List Value)) (p := ([i64 x6.kind] : List Value)) (v := i64 x6.bit) (r := (((List.map u8v (List.replicate 32 (0 : UInt8))) ++ (List.map u8v (List.replicate 32 (0 : UInt8)))) : List Value)) Tryd.underlying3 rfl (by first | rfl | simp only [List.append_assoc, List.cons_append, List.nil_append, List.append_nil]) (by first | rfl | (simp only [List.length_append, List.length_map, List.length_cons, List.length_nil]; done) | (simp only [List.length_append, List.length_map, List.length_cons, List.length_nil, List.size_toArray]; done))) (eqv_int Tryd.underlying3) (eqf_cons rfl (part_h (cs := (([i64 x6.kind, i64 x6.bit] ++ ((List.map u8v x6.key) ++ (List.map u8v x6.val))) : List Value)) (p := ([i64 x6.kind, i64 x6.bit] : List Value)) (L := x6.key) (r := ((List.map u8v x6.val) : List Value)) Tryd.underlying38 rfl sz38 (hx6k) (by first | rfl | simp only [List.append_assoc, List.cons_append, List.nil_append, List.append_nil]) (by first | rfl | (simp only [List.length_append, List.length_map, List.length_cons, List.length_nil]; done) | (simp only [List.length_append, List.length_map, List.length_cons, List.length_nil, List.size_toArray]; done))) (part_h (cs := (([i64 x6.kind, i64 x6.bit] ++ ((List.map u8v (List.replicate 32 (0 : UInt8))) ++ (List.map u8v (List.replicate 32 (0 : UInt8))))) : List Value)) (p := ([i64 x6.kind, i64 x6.bit] : List Value)) (L := (List.replicate 32 (0 : UInt8))) (r := ((List.map u8v (List.replicate 32 (0 : UInt8))) : List Value)) Tryd.underlying38 rfl sz38 ((List.length_replicate ..)) (by first | rfl | simp only [List.append_assoc, List.cons_append, List.nil_append, List.append_nil]) (by first | rfl | (simp only [List.length_append, List.length_map, List.length_cons, List.length_nil]; done) | (simp only [List.length_append, List.length_map, List.length_cons, List.length_nil, List.size_toArray]; done))) (eqv_hash Tryd.underlying38 Tryd.underlying5 sz5 (hx6k) ((List.length_replicate ..))) (eqf_cons rfl (part_h (cs := (([i64 x6.kind, i64 x6.bit] ++ ((List.map u8v x6.key) ++ (List.map u8v x6.val))) : List Value)) (p := (([i64 x6.kind, i64 x6.bit] ++ (List.map u8v x6.key)) : List Value)) (L := x6.val) (r := []) Tryd.underlying38 rfl sz38 (hx6v) (by first | rfl | simp only [List.append_assoc, List.cons_append, List.nil_append, List.append_nil]) (by first | rfl | (simp only [List.length_append, List.length_map, List.length_cons, List.length_nil, (show List.length x6.key = 32 from hx6k)]; done) | (simp only [List.length_append, List.length_map, List.length_cons, List.length_nil, List.size_toArray, (show List.length x6.key = 32 from hx6k)]; done))) (part_h (cs := (([i64 x6.kind, i64 x6.bit] ++ ((List.map u8v (List.replicate 32 (0 : UInt8))) ++ (List.map u8v (List.replicate 32 (0 : UInt8))))) : List Value)) (p := (([i64 x6.kind, i64 x6.bit] ++ (List.map u8v (List.replicate 32 (0 : UInt8)))) : List Value)) (L := (List.replicate 32 (0 : UInt8))) (r := []) Tryd.underlying38 rfl sz38 ((List.length_replicate ..)) (by first | rfl | simp only [List.append_assoc, List.cons_append, List.nil_append, List.append_nil]) (by first | rfl | (simp only [List.length_append, List.length_map, List.length_cons, List.length_nil, (show List.length (List.replicate 32 (0 : UInt8)) = 32 from (List.length_replicate ..))]; done) | (simp only [List.length_append, List.length_map, List.length_cons, List.length_nil, List.size_toArray, (show List.length (List.replicate 32 (0 : UInt8)) = 32 from (List.length_replicate ..))]; done))) (eqv_hash Tryd.underlying38 Tryd.underlying5 sz5 (hx6v) ((List.length_replicate ..))) (eqf_nil))))))) ?_
       refine wl rfl rfl rfl (p_mv rfl) ?_
       refine wl_split (d := 90) rfl (fun q90 => ?_) (fun q90 => ?_)
       ·
        refine wl_s (gd_ rfl rfl rfl rfl rfl rfl) rfl rfl ?_
        refine wl_s (gd_ rfl rfl rfl rfl rfl rfl) rfl rfl ?_
        refine wl_s (gd_ rfl rfl rfl rfl rfl rfl) rfl rfl ?_
        refine wl_s (gd_ rfl rfl rfl rfl rfl rfl) rfl rfl ?_
        refine wl_s (gd_ rfl rfl rfl rfl rfl rfl) rfl rfl ?_
        refine wl rfl rfl rfl (p_pickT rfl rfl) ?_
        refine wl rfl rfl rfl (p_nck rfl) ?_
        refine wl rfl rfl rfl (p_fld (j := 2) Tryd.underlying164 rfl ⟨_, by rfl⟩ rfl rfl) ?_
        refine wle rfl (e_stC (p := ([.slice (cutA Al cl 1 66) (ll - 1) (cl - 1), .slice Ab lb cb] : List Value)) (u := (.bool bd : Value)) (r := []) (v := .bool true) (by rfl) rfl rfl rfl hbr (by simp only [List.append_assoc, List.cons_append, List.nil_append, List.append_nil]) (by first | rfl | (simp only [List.length_append, List.length_map, List.length_cons, List.length_nil]; done) | (simp only [List.length_append, List.length_map, List.length_cons, List.length_nil, List.size_toArray]; done)) (fun w26 hbr hc hsz => ?_))
        have hbr : Blk w26 gr 164 ([.slice (cutA Al cl 1 66) (ll - 1) (cl - 1), .slice Ab lb cb, .bool true] : List Value).toArray := by have h := hbr; simp only [List.append_assoc, List.cons_append, List.nil_append, List.append_nil] at h ⊢; exact h
        have hzw26 := hc.size
        have HC := HC.trans hc (fun _ _ h => h) (fun k hk ht => .inr ht)
        have hab := hab.ch hc (by intro k hz hk ht; (subst ht; first | exact absurd hk hFgr | ((try simp only [and_assoc] at hk); exact absurd hk.1 hFgr)))
        have hrnd := hrnd.ch hc (by intro k hk ht; omega)
        have hb2 := hb2.ch hc (by omega)
        have hb3 := hb3.ch hc (by omega)
        have hl := hl.ch hc (by intro k hk ht; exact (hFl k hk).2.2 ht)
        have hb4 := hb4.ch hc (by omega)
        refine wl_nil ?_
        refine x_seq ?_
        refine wc_seq ?_
        refine wc_region ?_
        refine wl rfl rfl rfl (p_mv rfl) ?_
        refine wl rfl rfl rfl (p_nck rfl) ?_
        refine wl rfl rfl rfl (p_fld (j := 2) Tryd.underlying164 rfl ⟨_, by rfl⟩ rfl rfl) ?_
        refine wl rfl rfl rfl (p_ld Tryd.underlying4 rfl rfl (ld (cell_at (p := ([.slice (cutA Al cl 1 66) (ll - 1) (cl - 1), .slice Ab lb cb] : List Value)) (v := (.bool true : Value)) (r := []) hbr (by simp only [List.append_assoc, List.cons_append, List.nil_append, List.append_nil]) (by first | rfl | (simp only [List.length_append, List.length_map, List.length_cons, List.length_nil]; done) | (simp only [List.length_append, List.length_map, List.length_cons, List.length_nil, List.size_toArray]; done))))) ?_
        refine wl_nil ?_
        refine x_seq ?_
        refine wc_yes rfl (rfl) ?_
        refine wc_seq ?_
        refine wc_region ?_
        refine wl rfl rfl rfl (p_bldP (cs := ((List.replicate 32 (0 : UInt8)).map u8v).toArray) rfl (fun _ => by kernel_rfl)) ?_
        refine wle rfl (e_stH sz38 (List.length_replicate ..) (List.length_replicate ..) rfl rfl hb2 (fun w27 hb2 hc hsz => ?_))
        have hzw27 := hc.size
        have HC := HC.trans hc (fun _ _ h => h) (fun k hk ht => absurd ht (by omega))
        have hbr := hbr.ch hc (by omega)
        have hab := hab.ch hc (by intro k hz hk ht; omega)
        have hrnd := hrnd.ch hc (by intro k hk ht; omega)
        have hb3 := hb3.ch hc (by omega)
        have hl := hl.ch hc (by intro k hk ht; have h1 := (hFl k hk).1; omega)
        have hb4 := hb4.ch hc (by omega)
        refine wl_nil ?_
        refine x_seq ?_
        refine wc_ret ?_
        refine x_then_ret ?_
        refine x_in_ret ?_
        refine x_then_ret ?_
        refine fin_run (resC (cs := List.map u8v (List.replicate 32 (0 : UInt8))) rfl rfl Tryd.underlying38 rfl (szL sz38 (by rw [List.length_map]; exact (List.length_replicate ..))) (rngL hb2)) ?_
        have hbd : bd = false := by simpa using q11
        exact ⟨_, _, _, _, _, _, _, _, rfl, hbr, hl, hab.mono (by intro k hk h; first | exact h | ((try simp only [and_assoc] at h); exact h.1)), (by rw [hlx, hbd]; exact PR.fork_no c3 (by have h := q90; rintro ⟨h1, h2, _⟩; simp [h1, h2, zeroH] at h)), HC⟩
       ·
        refine wl_g (gd_ rfl rfl rfl rfl rfl rfl) rfl rfl (p_mv rfl) ?_
        refine wl_g (gd_ rfl rfl rfl rfl rfl rfl) rfl rfl (p_fld (j := 1) Tryd.underlying115 rfl ⟨_, by rfl⟩ rfl rfl) ?_
        refine wl_g (gd_ rfl rfl rfl rfl rfl rfl) rfl rfl (p_ld Tryd.underlying3 rfl rfl (ld (cell_at (p := ([i64 x6.kind] : List Value)) (v := (i64 x6.bit : Value)) (r := (((List.map u8v x6.key) ++ (List.map u8v x6.val)) : List Value)) hb3 (by simp only [List.append_assoc, List.cons_append, List.nil_append, List.append_nil]) (by first | rfl | (simp only [List.length_append, List.length_map, List.length_cons, List.length_nil]; done) | (simp only [List.length_append, List.length_map, List.length_cons, List.length_nil, List.size_toArray]; done))))) ?_
        refine wle_g (gd_ rfl rfl rfl rfl rfl rfl) (e_call ent110 rfl rfl (rises_any hbr hab.si (by omega)) ?_)
        rintro _ w28 ⟨rfl, hc⟩
        refine ⟨_, rfl, ?_⟩
        have hzw28 := hc.size
        have HC := HC.tr hc
        have hbr := hbr.ch hc (fun h => h)
        have hab := hab.after hc
        have hrnd := hrnd.no hc
        have hb2 := hb2.ch hc (fun h => h)
        have hb3 := hb3.ch hc (fun h => h)
        have hl := hl.no hc
        have hb4 := hb4.ch hc (fun h => h)
        refine wl_g (gd_ rfl rfl rfl rfl rfl rfl) rfl rfl (p_not rfl) ?_
        refine wl rfl rfl rfl (p_pickF rfl rfl) ?_
        refine wl rfl rfl rfl (p_nck rfl) ?_
        refine wl rfl rfl rfl (p_fld (j := 2) Tryd.underlying164 rfl ⟨_, by rfl⟩ rfl rfl) ?_
        refine wle rfl (e_stC (p := ([.slice (cutA Al cl 1 66) (ll - 1) (cl - 1), .slice Ab lb cb] : List Value)) (u := (.bool bd : Value)) (r := []) (v := .bool (!risesB x6.bit ab)) (by rfl) rfl rfl rfl hbr (by simp only [List.append_assoc, List.cons_append, List.nil_append, List.append_nil]) (by first | rfl | (simp only [List.length_append, List.length_map, List.length_cons, List.length_nil]; done) | (simp only [List.length_append, List.length_map, List.length_cons, List.length_nil, List.size_toArray]; done)) (fun w29 hbr hc hsz => ?_))
        have hbr : Blk w29 gr 164 ([.slice (cutA Al cl 1 66) (ll - 1) (cl - 1), .slice Ab lb cb, .bool (!risesB x6.bit ab)] : List Value).toArray := by have h := hbr; simp only [List.append_assoc, List.cons_append, List.nil_append, List.append_nil] at h ⊢; exact h
        have hzw29 := hc.size
        have HC := HC.trans hc (fun _ _ h => h) (fun k hk ht => .inr ht)
        have hab := hab.ch hc (by intro k hz hk ht; (subst ht; first | exact absurd hk hFgr | ((try simp only [and_assoc] at hk); exact absurd hk.1 hFgr)))
        have hrnd := hrnd.ch hc (by intro k hk ht; omega)
        have hb2 := hb2.ch hc (by omega)
        have hb3 := hb3.ch hc (by omega)
        have hl := hl.ch hc (by intro k hk ht; exact (hFl k hk).2.2 ht)
        have hb4 := hb4.ch hc (by omega)
        refine wl_nil ?_
        refine x_seq ?_
        refine wc_seq ?_
        refine wc_region ?_
        refine wl rfl rfl rfl (p_mv rfl) ?_
        refine wl rfl rfl rfl (p_nck rfl) ?_
        refine wl rfl rfl rfl (p_fld (j := 2) Tryd.underlying164 rfl ⟨_, by rfl⟩ rfl rfl) ?_
        refine wl rfl rfl rfl (p_ld Tryd.underlying4 rfl rfl (ld (cell_at (p := ([.slice (cutA Al cl 1 66) (ll - 1) (cl - 1), .slice Ab lb cb] : List Value)) (v := (.bool (!risesB x6.bit ab) : Value)) (r := []) hbr (by simp only [List.append_assoc, List.cons_append, List.nil_append, List.append_nil]) (by first | rfl | (simp only [List.length_append, List.length_map, List.length_cons, List.length_nil]; done) | (simp only [List.length_append, List.length_map, List.length_cons, List.length_nil, List.size_toArray]; done))))) ?_
        refine wl_nil ?_
        refine x_seq ?_
        refine wc_if rfl (fun c4 => ?_) (fun c4 => ?_)
        ·
         refine wc_seq ?_
         refine wc_region ?_
         refine wl rfl rfl rfl (p_bldP (cs := ((List.replicate 32 (0 : UInt8)).map u8v).toArray) rfl (fun _ => by kernel_rfl)) ?_
         refine wle rfl (e_stH sz38 (List.length_replicate ..) (List.length_replicate ..) rfl rfl hb2 (fun w30 hb2 hc hsz => ?_))
         have hzw30 := hc.size
         have HC := HC.trans hc (fun _ _ h => h) (fun k hk ht => absurd ht (by omega))
         have hbr := hbr.ch hc (by omega)
         have hab := hab.ch hc (by intro k hz hk ht; omega)
         have hrnd := hrnd.ch hc (by intro k hk ht; omega)
         have hb3 := hb3.ch hc (by omega)
         have hl := hl.ch hc (by intro k hk ht; have h1 := (hFl k hk).1; omega)
         have hb4 := hb4.ch hc (by omega)
         refine wl_nil ?_
         refine x_seq ?_
         refine wc_ret ?_
         refine x_then_ret ?_
         refine x_in_ret ?_
         refine x_then_ret ?_
         refine fin_run (resC (cs := List.map u8v (List.replicate 32 (0 : UInt8))) rfl rfl Tryd.underlying38 rfl (szL sz38 (by rw [List.length_map]; exact (List.length_replicate ..))) (rngL hb2)) ?_
         have hbd : bd = false := by simpa using q11
         have hrs : risesB x6.bit ab = false := by simpa using c4
         exact ⟨_, _, _, _, _, _, _, _, rfl, hbr, hl, hab.mono (by intro k hk h; first | exact h | ((try simp only [and_assoc] at h); exact h.1)), (by rw [hlx, hbd]; exact (by rw [hrs]; exact PR.fork_no c3 (by rintro ⟨_, _, h3⟩; have h4 := risesB_iff.2 h3; rw [hrs] at h4; exact absurd h4 (by simp)))), HC⟩
        ·
         refine wc_skip ?_
         refine x_seq ?_
         refine wc_seq ?_
         refine wc_region ?_
         refine wl rfl rfl rfl (p_mv rfl) ?_
         refine wl rfl rfl rfl (p_fld (j := 1) Tryd.underlying115 rfl ⟨_, by rfl⟩ rfl rfl) ?_
         refine wl rfl rfl rfl (p_ld Tryd.underlying3 rfl rfl (ld (cell_at (p := ([i64 x6.kind] : List Value)) (v := (i64 x6.bit : Value)) (r := (((List.map u8v x6.key) ++ (List.map u8v x6.val)) : List Value)) hb3 (by simp only [List.append_assoc, List.cons_append, List.nil_append, List.append_nil]) (by first | rfl | (simp only [List.length_append, List.length_map, List.length_cons, List.length_nil]; done) | (simp only [List.length_append, List.length_map, List.length_cons, List.length_nil, List.size_toArray]; done))))) ?_
         refine wl rfl rfl rfl (p_bldX (vs' := [i64 x6.bit, .int .i64 (0)]) (cs := ([i64 x6.bit, .int .i64 (0)] : List Value)) (cs' := ([i64 x6.bit, .int .i64 (0)] : List Value)) rfl rfl rfl (fun _ => by kernel_rfl)) ?_
         have hlt_108 := hbr.lt
         refine wle rfl (e_call ent111 rfl rfl (IH (n - 1) (by omega) (by omega) hbr hl hab (by intro k hk; have hF1 := hF k (by omega); repeat (first | exact hF1 | (refine ⟨?_, by omega⟩))) (by intro ht; first | exact hF0 ht | ((try simp only [and_assoc] at ht); exact hF0 ht.1)) (by intro ht; first | exact hFgr ht | ((try simp only [and_assoc] at ht); exact hFgr ht.1)) hgr0 (by intro k hk; obtain ⟨h1, h2, h3⟩ := hFl k hk; exact ⟨by omega, by intro ht; first | exact h2 ht | ((try simp only [and_assoc] at ht); exact h2 ht.1), h3⟩) (by omega) (by omega) hrnd) ?_)
         rintro _ w31 ⟨h108, Al108, ll108, cl108, Ab108, cb108, bd108, l108, rfl, hbr, hl, hab, hpr108, hc⟩
         refine ⟨_, rfl, ?_⟩
         have hzw31 := hc.size
         have HC := HC.trans hc (fun _ _ h => h) (fun k hk ht => ht.elim (fun ht => by first | exact .inl ht | ((try simp only [and_assoc] at ht); exact .inl ht.1)) .inr)
         have hrnd := hrnd.ch hc (fun k hk ht => by subst hk; exact ht.elim (fun ht => by first | exact hF0 ht | ((try simp only [and_assoc] at ht); exact hF0 ht.1)) (fun ht => hgr0 ht.symm))
         have hb2 := hb2.ch hc (by omega)
         have hb3 := hb3.ch hc (by omega)
         have hb4 := hb4.ch hc (by omega)
         have hln108 := hl.len
         have hsl108 := hpr108.suf_len
         have hltg2 := hb2.lt
         have hltg3 := hb3.lt
         have hltg4 := hb4.lt
         have hltgr := hbr.lt
         refine wle rfl (e_alloc (cs := ((List.replicate 32 (0 : UInt8)).map u8v).toArray) rfl (by rfl) rfl (fun w32 g5 hg5 hb5 hc hsz5 => ?_))
         have hzw32 := hc.size
         have HC := HC.tr hc
         have hrnd := hrnd.no hc
         have hb2 := hb2.ch hc (fun h => h)
         have hb3 := hb3.ch hc (fun h => h)
         have hb4 := hb4.ch hc (fun h => h)
         have hbr := hbr.ch hc (fun h => h)
         have hl := hl.no hc
         have hab := hab.after hc
         have hge5 : w.heap.size ≤ g5 := by have := HC.size; omega
         have neg2_5 : g2 < g5 := by omega
         have neg3_5 : g3 < g5 := by omega
         have neg4_5 : g4 < g5 := by omega
         have negr_5 : gr < g5 := by omega
         refine wle rfl (e_stH sz38 (List.length_replicate ..) hpr108.len rfl rfl hb5 (fun w33 hb5 hc hsz => ?_))
         have hzw33 := hc.size
         have HC := HC.trans hc (fun _ _ h => h) (fun k hk ht => absurd ht (by omega))
         have hrnd := hrnd.ch hc (by intro k hk ht; omega)
         have hb2 := hb2.ch hc (by omega)
         have hb3 := hb3.ch hc (by omega)
         have hb4 := hb4.ch hc (by omega)
         have hbr := hbr.ch hc (by omega)
         have hl := hl.ch hc (by intro k hk ht; have h1 := (hFl k hk).1; omega)
         have hab := hab.ch hc (by intro k hz hk ht; omega)
         refine wl_nil ?_
         refine x_seq ?_
         refine wc_seq ?_
         refine wc_region ?_
         refine wl rfl rfl rfl (p_mv rfl) ?_
         refine wl rfl rfl rfl (p_fld (j := 1) Tryd.underlying115 rfl ⟨_, by rfl⟩ rfl rfl) ?_
         refine wl rfl rfl rfl (p_ld Tryd.underlying3 rfl rfl (ld (cell_at (p := ([i64 x6.kind] : List Value)) (v := (i64 x6.bit : Value)) (r := (((List.map u8v x6.key) ++ (List.map u8v x6.val)) : List Value)) hb3 (by simp only [List.append_assoc, List.cons_append, List.nil_append, List.append_nil]) (by first | rfl | (simp only [List.length_append, List.length_map, List.length_cons, List.length_nil]; done) | (simp only [List.length_append, List.length_map, List.length_cons, List.length_nil, List.size_toArray]; done))))) ?_
         refine wl rfl rfl rfl (p_bldX (vs' := [i64 x6.bit, .int .i64 (1)]) (cs := ([i64 x6.bit, .int .i64 (1)] : List Value)) (cs' := ([i64 x6.bit, .int .i64 (1)] : List Value)) rfl rfl rfl (fun _ => by kernel_rfl)) ?_
         have hlt_113 := hbr.lt
         refine wle rfl (e_call ent111 rfl rfl (IH (n - 1) (by omega) (by omega) hbr hl hab (by intro k hk; have hF1 := hF k (by omega); repeat (first | exact hF1 | (refine ⟨?_, by omega⟩))) (by intro ht; first | exact hF0 ht | ((try simp only [and_assoc] at ht); exact hF0 ht.1)) (by intro ht; first | exact hFgr ht | ((try simp only [and_assoc] at ht); exact hFgr ht.1)) hgr0 (by intro k hk; obtain ⟨h1, h2, h3⟩ := hFl k hk; exact ⟨by omega, by intro ht; first | exact h2 ht | ((try simp only [and_assoc] at ht); exact h2 ht.1), h3⟩) (by omega) (by omega) hrnd) ?_)
         rintro _ w34 ⟨h113, Al113, ll113, cl113, Ab113, cb113, bd113, l113, rfl, hbr, hl, hab, hpr113, hc⟩
         refine ⟨_, rfl, ?_⟩
         have hzw34 := hc.size
         have HC := HC.trans hc (fun _ _ h => h) (fun k hk ht => ht.elim (fun ht => by first | exact .inl ht | ((try simp only [and_assoc] at ht); exact .inl ht.1)) .inr)
         have hrnd := hrnd.ch hc (fun k hk ht => by subst hk; exact ht.elim (fun ht => by first | exact hF0 ht | ((try simp only [and_assoc] at ht); exact hF0 ht.1)) (fun ht => hgr0 ht.symm))
         have hb2 := hb2.ch hc (by omega)
         have hb3 := hb3.ch hc (by omega)
         have hb4 := hb4.ch hc (by omega)
         have hb5 := hb5.ch hc (by omega)
         have hln113 := hl.len
         have hsl113 := hpr113.suf_len
         have hltg2 := hb2.lt
         have hltg3 := hb3.lt
         have hltg4 := hb4.lt
         have hltg5 := hb5.lt
         have hltgr := hbr.lt
         refine wle rfl (e_alloc (cs := ((List.replicate 32 (0 : UInt8)).map u8v).toArray) rfl (by rfl) rfl (fun w35 g6 hg6 hb6 hc hsz6 => ?_))
         have hzw35 := hc.size
         have HC := HC.tr hc
         have hrnd := hrnd.no hc
         have hb2 := hb2.ch hc (fun h => h)
         have hb3 := hb3.ch hc (fun h => h)
         have hb4 := hb4.ch hc (fun h => h)
         have hb5 := hb5.ch hc (fun h => h)
         have hbr := hbr.ch hc (fun h => h)
         have hl := hl.no hc
         have hab := hab.after hc
         have hge6 : w.heap.size ≤ g6 := by have := HC.size; omega
         have neg2_6 : g2 < g6 := by omega
         have neg3_6 : g3 < g6 := by omega
         have neg4_6 : g4 < g6 := by omega
         have neg5_6 : g5 < g6 := by omega
         have negr_6 : gr < g6 := by omega
         refine wle rfl (e_stH sz38 (List.length_replicate ..) hpr113.len rfl rfl hb6 (fun w36 hb6 hc hsz => ?_))
         have hzw36 := hc.size
         have HC := HC.trans hc (fun _ _ h => h) (fun k hk ht => absurd ht (by omega))
         have hrnd := hrnd.ch hc (by intro k hk ht; omega)
         have hb2 := hb2.ch hc (by omega)
         have hb3 := hb3.ch hc (by omega)
         have hb4 := hb4.ch hc (by omega)
         have hb5 := hb5.ch hc (by omega)
         have hbr := hbr.ch hc (by omega)
         have hl := hl.ch hc (by intro k hk ht; have h1 := (hFl k hk).1; omega)
         have hab := hab.ch hc (by intro k hz hk ht; omega)
         refine wl_nil ?_
         refine x_seq ?_
         refine wc_seq ?_
         refine wc_region ?_
         refine wl rfl rfl rfl (p_fld (j := 1) Tryd.underlying115 rfl ⟨_, by rfl⟩ rfl rfl) ?_
         refine wl rfl rfl rfl (p_ld Tryd.underlying3 rfl rfl (ld (cell_at (p := ([i64 x6.kind] : List Value)) (v := (i64 x6.bit : Value)) (r := (((List.map u8v x6.key) ++ (List.map u8v x6.val)) : List Value)) hb3 (by simp only [List.append_assoc, List.cons_append, List.nil_append, List.append_nil]) (by first | rfl | (simp only [List.length_append, List.length_map, List.length_cons, List.length_nil]; done) | (simp only [List.length_append, List.length_map, List.length_cons, List.length_nil, List.size_toArray]; done))))) ?_
         refine wl rfl rfl rfl (p_ldH (L := h108) Tryd.underlying38 sz38 hpr108.len rfl (fun _ e => e ▸ rngL hb5)) ?_
         refine wl rfl rfl rfl (p_ldH (L := h113) Tryd.underlying38 sz38 hpr113.len rfl (fun _ e => e ▸ rngL hb6)) ?_
         refine wle rfl (e_call ent76 rfl rfl (tfork_any (hpr108.len) (hpr113.len) hrnd) ?_)
         rintro _ w37 ⟨rfl, hc⟩
         refine ⟨_, rfl, ?_⟩
         have hzw37 := hc.size
         have HC := HC.tr hc
         have hrnd := hrnd.no hc
         have hb2 := hb2.ch hc (fun h => h)
         have hb3 := hb3.ch hc (fun h => h)
         have hb4 := hb4.ch hc (fun h => h)
         have hb5 := hb5.ch hc (fun h => h)
         have hbr := hbr.ch hc (fun h => h)
         have hl := hl.no hc
         have hab := hab.after hc
         have hb6 := hb6.ch hc (fun h => h)
         refine wle rfl (e_stH sz38 (List.length_replicate ..) (forkH_len _ _ _ ) rfl rfl hb2 (fun w38 hb2 hc hsz => ?_))
         have hzw38 := hc.size
         have HC := HC.trans hc (fun _ _ h => h) (fun k hk ht => absurd ht (by omega))
         have hrnd := hrnd.ch hc (by intro k hk ht; omega)
         have hb3 := hb3.ch hc (by omega)
         have hb4 := hb4.ch hc (by omega)
         have hb5 := hb5.ch hc (by omega)
         have hbr := hbr.ch hc (by omega)
         have hl := hl.ch hc (by intro k hk ht; have h1 := (hFl k hk).1; omega)
         have hab := hab.ch hc (by intro k hz hk ht; omega)
         have hb6 := hb6.ch hc (by omega)
         refine wl_nil ?_
         refine x_seq ?_
         refine wc_ret ?_
         refine x_in_ret ?_
         refine x_then_ret ?_
         refine fin_run (resC (cs := List.map u8v (forkH (b8i (x6.bit)) h108 h113)) rfl rfl Tryd.underlying38 rfl (szL sz38 (by rw [List.length_map]; exact (forkH_len _ _ _ ))) (rngL hb2)) ?_
         have hbd : bd = false := by simpa using q11
         have hrs : risesB x6.bit ab = true := by simpa using c4
         rw [hrs] at hpr108
         have hkz : x6.key = zeroH ∧ x6.val = zeroH := by have h := q90; simp at h; exact h
         exact ⟨_, _, _, _, _, _, _, _, rfl, hbr, hl, hab.mono (by intro k hk h; first | exact h | ((try simp only [and_assoc] at h); exact h.1)), (by rw [hlx, hbd]; exact PR.fork c3 hkz.1 hkz.2 (risesB_iff.1 hrs) hpr108 hpr113), HC⟩
      ·
       have c3 := of_decide_eq_false c3
       refine wc_skip ?_
       refine x_in_normal ?_
       refine x_seq ?_
       refine wc_seq ?_
       refine wc_region ?_
       refine wl rfl rfl rfl (p_mv rfl) ?_
       refine wl rfl rfl rfl (p_nck rfl) ?_
       refine wl rfl rfl rfl (p_fld (j := 2) Tryd.underlying164 rfl ⟨_, by rfl⟩ rfl rfl) ?_
       refine wle rfl (e_stC (p := ([.slice (cutA Al cl 1 66) (ll - 1) (cl - 1), .slice Ab lb cb] : List Value)) (u := (.bool bd : Value)) (r := []) (v := .bool true) (by rfl) rfl rfl rfl hbr (by simp only [List.append_assoc, List.cons_append, List.nil_append, List.append_nil]) (by first | rfl | (simp only [List.length_append, List.length_map, List.length_cons, List.length_nil]; done) | (simp only [List.length_append, List.length_map, List.length_cons, List.length_nil, List.size_toArray]; done)) (fun w39 hbr hc hsz => ?_))
       have hbr : Blk w39 gr 164 ([.slice (cutA Al cl 1 66) (ll - 1) (cl - 1), .slice Ab lb cb, .bool true] : List Value).toArray := by have h := hbr; simp only [List.append_assoc, List.cons_append, List.nil_append, List.append_nil] at h ⊢; exact h
       have hzw39 := hc.size
       have HC := HC.trans hc (fun _ _ h => h) (fun k hk ht => .inr ht)
       have hab := hab.ch hc (by intro k hz hk ht; (subst ht; first | exact absurd hk hFgr | ((try simp only [and_assoc] at hk); exact absurd hk.1 hFgr)))
       have hrnd := hrnd.ch hc (by intro k hk ht; omega)
       have hb2 := hb2.ch hc (by omega)
       have hb3 := hb3.ch hc (by omega)
       have hl := hl.ch hc (by intro k hk ht; exact (hFl k hk).2.2 ht)
       have hb4 := hb4.ch hc (by omega)
       refine wl_nil ?_
       refine x_seq ?_
       refine wc_seq ?_
       refine wc_region ?_
       refine wl rfl rfl rfl (p_bldP (cs := ((List.replicate 32 (0 : UInt8)).map u8v).toArray) rfl (fun _ => by kernel_rfl)) ?_
       refine wle rfl (e_stH sz38 (List.length_replicate ..) (List.length_replicate ..) rfl rfl hb2 (fun w40 hb2 hc hsz => ?_))
       have hzw40 := hc.size
       have HC := HC.trans hc (fun _ _ h => h) (fun k hk ht => absurd ht (by omega))
       have hbr := hbr.ch hc (by omega)
       have hab := hab.ch hc (by intro k hz hk ht; omega)
       have hrnd := hrnd.ch hc (by intro k hk ht; omega)
       have hb3 := hb3.ch hc (by omega)
       have hl := hl.ch hc (by intro k hk ht; have h1 := (hFl k hk).1; omega)
       have hb4 := hb4.ch hc (by omega)
       refine wl_nil ?_
       refine x_seq ?_
       refine wc_ret ?_
       refine fin_run (resC (cs := List.map u8v (List.replicate 32 (0 : UInt8))) rfl rfl Tryd.underlying38 rfl (szL sz38 (by rw [List.length_map]; exact (List.length_replicate ..))) (rngL hb2)) ?_
       have hbd : bd = false := by simpa using q11
       exact ⟨_, _, _, _, _, _, _, _, rfl, hbr, hl, hab.mono (by intro k hk h; first | exact h | ((try simp only [and_assoc] at h); exact h.1)), (by rw [hlx, hbd]; exact PR.other (by rintro (h | h | h); exact c1 h; exact c2 h; exact c3 h)), HC⟩

theorem side_of {n : Nat} (IH : PartOK n) : SideOK n := by
  intro w gr Al Ab ll cl lb cb bd F Fl l ab sd bt h1 h2 h3 h4 h5 h6 h7 h8 h9 h10 h11 h12
  exact side_step IH h1 h2 h3 h4 h5 h6 h7 h8 h9 h10 h11 h12

theorem part_any (n : Nat) : PartOK n := by
  induction n using Nat.strongRecOn with
  | _ n ih =>
    intro w gr Al Ab ll cl lb cb bd F Fl l ab h1 h2 h3 h4 h5 h6 h7 h8 h9 h10 h11 h12
    exact part_step (fun m hm => side_of (ih m hm)) h1 h2 h3 h4 h5 h6 h7 h8 h9 h10 h11 h12

set_option maxHeartbeats 2000000 in
set_option maxRecDepth 20000 in
theorem mroot27 {w : World}  {Am : Option Addr} {lm cm : Nat} {Fm : Nat → Prop} {l : List ND} (hm : SI w Fm eND Am lm cm l) (hl : lm ≤ 1000000) (hrnd : Sl w (fun k => k = 0) u32v (some ⟨0, 0, none⟩) 64 64 rk) :
    Calls Tryd.prog 56 #[.slice Am lm cm] w fun e w' => e = .returned (.tuple #[hv (rootN l).1, .bool (rootN l).2]) ∧ Ch No w w' := by
  have hn0 : 0 < w.heap.size := hrnd.size (by omega) rfl
  have hn1 := hn0
  have hml := hm.len
  have hm := hm.old
  have HC : Ch No w w := Ch.refl _ _
  refine enter' (args := [.slice Am lm cm]) (n := 36) Tryd.func56 rfl rfl rfl ?_
  refine wc_seq ?_
  refine wc_region ?_
  refine wle rfl (e_alloc (cs := ((List.replicate 32 (0 : UInt8)).map u8v).toArray) rfl (by rfl) rfl (fun w1 g2 hg2 hb2 hc hsz2 => ?_))
  have hzw1 := hc.size
  have HC := HC.tr hc
  have hm := hm.no hc
  have hrnd := hrnd.no hc
  have hge2 : w.heap.size ≤ g2 := by have := HC.size; omega
  refine wl rfl rfl rfl (p_as rfl) ?_
  refine wl_nil ?_
  refine x_seq ?_
  refine wc_seq ?_
  refine wc_seq ?_
  refine wc_region ?_
  refine wl rfl rfl rfl (p_mv rfl) ?_
  refine wl rfl rfl rfl (p_lenS Tryd.underlying33 rfl) ?_
  refine wl rfl rfl rfl (p_eq rfl rfl) ?_
  refine wl rfl rfl rfl (p_mv rfl) ?_
  refine wl_split (d := 9) rfl (fun q9 => ?_) (fun q9 => ?_)
  ·
   have q9 := of_decide_eq_true q9
   refine wl_g (gd_ rfl rfl rfl rfl rfl rfl) rfl rfl (p_mv rfl) ?_
   obtain ⟨b2, o2, hA2, hF2, hr2⟩ := (hm).opn (i := 0) (d := ND0) (by omega)
   have hok2 := (hm).okAt (i := 0) (d := ND0) (by omega)
   obtain ⟨x2, ex2⟩ : ∃ x_, x_ = List.getD l (0) ND0 := ⟨_, rfl⟩
   rw [← ex2] at hr2 hok2
   obtain ⟨hx2k, hx2v⟩ := hok2
   have hr2 : w1.rangeAt b2 (o2 + 0 * 66) (([i64 x2.kind, i64 x2.bit] ++ ((List.map u8v x2.key) ++ (List.map u8v x2.val))) : List Value) := hr2
   refine wl_g (gd_ rfl rfl rfl rfl rfl rfl) rfl rfl (p_ixS (j := 0 * 66) Tryd.underlying33 sz115 rfl hA2 rfl (by omega) (by omega) rfl) ?_
   have hl1 : l = [x2] := by rw [ex2]; cases l with | nil => simp at hml; omega | cons y r => cases r with | nil => rfl | cons z r => simp at hml; omega
   refine wl_g (gd_ rfl rfl rfl rfl rfl rfl) rfl rfl (p_ldA (cs := (([i64 x2.kind, i64 x2.bit] ++ ((List.map u8v x2.key) ++ (List.map u8v x2.val))) : List Value)) Tryd.underlying115 rfl (szL sz115 (by first | rfl | (simp only [List.length_append, List.length_map, List.length_cons, List.length_nil, (show List.length x2.key = 32 from hx2k), (show List.length x2.val = 32 from hx2v)]; done) | (simp only [List.length_append, List.length_map, List.length_cons, List.length_nil, List.size_toArray, (show List.length x2.key = 32 from hx2k), (show List.length x2.val = 32 from hx2v)]; done))) rfl (fun _ e => e ▸ hr2)) ?_
   refine wl_g (gd_ rfl rfl rfl rfl rfl rfl) rfl rfl (p_bldX (vs' := [.int .i64 (1)]) (cs := (([.int .i64 (1), Value.int .i64 0] ++ ((List.map u8v (List.replicate 32 (0 : UInt8))) ++ (List.map u8v (List.replicate 32 (0 : UInt8))))) : List Value)) (cs' := (([.int .i64 (1), Value.int .i64 0] ++ ((hx (List.replicate 32 (0 : UInt8))) ++ (hx (List.replicate 32 (0 : UInt8))))) : List Value)) rfl rfl (by simp only [hv, map_hx (List.length_replicate ..)] <;> rfl) (fun _ => by kernel_rfl)) ?_
   refine wl_g (gd_ rfl rfl rfl rfl rfl rfl) rfl rfl (p_eqV (by kernel_rfl) rfl rfl (eqv_struct Tryd.underlying115 (by kernel_rfl) (eqf_cons rfl (part_c (cs := (([i64 x2.kind, i64 x2.bit] ++ ((List.map u8v x2.key) ++ (List.map u8v x2.val))) : List Value)) (p := []) (v := i64 x2.kind) (r := (([i64 x2.bit] ++ ((List.map u8v x2.key) ++ (List.map u8v x2.val))) : List Value)) Tryd.underlying3 rfl (by first | rfl | simp only [List.append_assoc, List.cons_append, List.nil_append, List.append_nil]) rfl) (part_c (cs := (([.int .i64 (1), Value.int .i64 0] ++ ((List.map u8v (List.replicate 32 (0 : UInt8))) ++ (List.map u8v (List.replicate 32 (0 : UInt8))))) : List Value)) (p := []) (v := .int .i64 (1)) (r := (([Value.int .i64 0] ++ ((List.map u8v (List.replicate 32 (0 : UInt8))) ++ (List.map u8v (List.replicate 32 (0 : UInt8))))) : List Value)) Tryd.underlying3 rfl (by first | rfl | simp only [List.append_assoc, List.cons_append, List.nil_append, List.append_nil]) rfl) (eqv_int Tryd.underlying3) (eqf_cons rfl (part_c (cs := (([i64 x2.kind, i64 x2.bit] ++ ((List.map u8v x2.key) ++ (List.map u8v x2.val))) : List Value)) (p := ([i64 x2.kind] : List Value)) (v := i64 x2.bit) (r := (((List.map u8v x2.key) ++ (List.map u8v x2.val)) : List Value)) Tryd.underlying3 rfl (by first | rfl | simp only [List.append_assoc, List.cons_append, List.nil_append, List.append_nil]) (by first | rfl | (simp only [List.length_append, List.length_map, List.length_cons, List.length_nil]; done) | (simp only [List.length_append, List.length_map, List.length_cons, List.length_nil, List.size_toArray]; done))) (part_c (cs := (([.int .i64 (1), Value.int .i64 0] ++ ((List.map u8v (List.replicate 32 (0 : UInt8))) ++ (List.map u8v (List.replicate 32 (0 : UInt8))))) : List Value)) (p := ([.int .i64 (1)] : List Value)) (v := Value.int .i64 0) (r := (((List.map u8v (List.replicate 32 (0 : UInt8))) ++ (List.map u8v (List.replicate 32 (0 : UInt8)))) : List Value)) Tryd.underlying3 rfl (by first | rfl | simp only [List.append_assoc, List.cons_append, List.nil_append, List.append_nil]) (by first | rfl | (simp only [List.length_append, List.length_map, List.length_cons, List.length_nil]; done) | (simp only [List.length_append, List.length_map, List.length_cons, List.length_nil, List.size_toArray]; done))) (eqv_int Tryd.underlying3) (eqf_cons rfl (part_h (cs := (([i64 x2.kind, i64 x2.bit] ++ ((List.map u8v x2.key) ++ (List.map u8v x2.val))) : List Value)) (p := ([i64 x2.kind, i64 x2.bit] : List Value)) (L := x2.key) (r := ((List.map u8v x2.val) : List Value)) Tryd.underlying38 rfl sz38 (hx2k) (by first | rfl | simp only [List.append_assoc, List.cons_append, List.nil_append, List.append_nil]) (by first | rfl | (simp only [List.length_append, List.length_map, List.length_cons, List.length_nil]; done) | (simp only [List.length_append, List.length_map, List.length_cons, List.length_nil, List.size_toArray]; done))) (part_h (cs := (([.int .i64 (1), Value.int .i64 0] ++ ((List.map u8v (List.replicate 32 (0 : UInt8))) ++ (List.map u8v (List.replicate 32 (0 : UInt8))))) : List Value)) (p := ([.int .i64 (1), Value.int .i64 0] : List Value)) (L := (List.replicate 32 (0 : UInt8))) (r := ((List.map u8v (List.replicate 32 (0 : UInt8))) : List Value)) Tryd.underlying38 rfl sz38 ((List.length_replicate ..)) (by first | rfl | simp only [List.append_assoc, List.cons_append, List.nil_append, List.append_nil]) (by first | rfl | (simp only [List.length_append, List.length_map, List.length_cons, List.length_nil]; done) | (simp only [List.length_append, List.length_map, List.length_cons, List.length_nil, List.size_toArray]; done))) (eqv_hash Tryd.underlying38 Tryd.underlying5 sz5 (hx2k) ((List.length_replicate ..))) (eqf_cons rfl (part_h (cs := (([i64 x2.kind, i64 x2.bit] ++ ((List.map u8v x2.key) ++ (List.map u8v x2.val))) : List Value)) (p := (([i64 x2.kind, i64 x2.bit] ++ (List.map u8v x2.key)) : List Value)) (L := x2.val) (r := []) Tryd.underlying38 rfl sz38 (hx2v) (by first | rfl | simp only [List.append_assoc, List.cons_append, List.nil_append, List.append_nil]) (by first | rfl | (simp only [List.length_append, List.length_map, List.length_cons, List.length_nil, (show List.length x2.key = 32 from hx2k)]; done) | (simp only [List.length_append, List.length_map, List.length_cons, List.length_nil, List.size_toArray, (show List.length x2.key = 32 from hx2k)]; done))) (part_h (cs := (([.int .i64 (1), Value.int .i64 0] ++ ((List.map u8v (List.replicate 32 (0 : UInt8))) ++ (List.map u8v (List.replicate 32 (0 : UInt8))))) : List Value)) (p := (([.int .i64 (1), Value.int .i64 0] ++ (List.map u8v (List.replicate 32 (0 : UInt8)))) : List Value)) (L := (List.replicate 32 (0 : UInt8))) (r := []) Tryd.underlying38 rfl sz38 ((List.length_replicate ..)) (by first | rfl | simp only [List.append_assoc, List.cons_append, List.nil_append, List.append_nil]) (by first | rfl | (simp only [List.length_append, List.length_map, List.length_cons, List.length_nil, (show List.length (List.replicate 32 (0 : UInt8)) = 32 from (List.length_replicate ..))]; done) | (simp only [List.length_append, List.length_map, List.length_cons, List.length_nil, List.size_toArray, (show List.length (List.replicate 32 (0 : UInt8)) = 32 from (List.length_replicate ..))]; done))) (eqv_hash Tryd.underlying38 Tryd.underlying5 sz5 (hx2v) ((List.length_replicate ..))) (eqf_nil))))))) ?_
   refine wl rfl rfl rfl (p_pickT rfl rfl) ?_
   refine wl_nil ?_
   refine x_seq ?_
   refine wc_if rfl (fun c0 => ?_) (fun c0 => ?_)
   ·
    have hln1 : l = [ND0] := by rw [hl1]; exact congrArg (fun z => [z]) (nd_ext.2 (by have h := c0; simp at h; simpa [ND0, zeroH] using h))
    refine wc_seq ?_
    refine wc_region ?_
    refine wle rfl (e_call ent73 rfl rfl (tnone_any hrnd) ?_)
    rintro _ w3 ⟨rfl, hc⟩
    refine ⟨_, rfl, ?_⟩
    have hzw3 := hc.size
    have HC := HC.tr hc
    have hm := hm.no hc
    have hrnd := hrnd.no hc
    have hb2 := hb2.ch hc (fun h => h)
    refine wle rfl (e_stH sz38 (List.length_replicate ..) noneH_len rfl rfl hb2 (fun w4 hb2 hc hsz => ?_))
    have hzw4 := hc.size
    have HC := HC.trans hc (fun _ _ h => h) (fun k hk ht => absurd ht (by omega))
    have hm := hm.ch hc (by intro k hk ht; omega)
    first | have hrnd := hrnd.ch hc (by intro k hk ht; omega) | have hrnd := hrnd.chT hc (by intro k hz hk ht; omega)
    refine wl rfl rfl rfl (p_as rfl) ?_
    refine wl_nil ?_
    refine x_seq ?_
    refine wc_ret ?_
    refine x_then_ret ?_
    refine fin_run (resMany (rs := [.cell 2 38, .tmp 3]) rfl (.cellA (cs := List.map u8v noneH) rfl Tryd.underlying38 rfl (szL sz38 (by rw [List.length_map]; exact noneH_len)) (rngL hb2) (.tmp rfl (.nil))) rfl) ?_
    rw [hln1, root_nothing]; exact ⟨rfl, HC⟩
   ·
    have hne : l ≠ [ND0] := fun e => by have e2 := hl1.symm.trans e; injection e2 with e2 _; rw [e2] at c0; simp [ND0, zeroH] at c0
    refine wc_skip ?_
    refine x_seq ?_
    refine wc_seq ?_
    refine wc_region ?_
    refine wl rfl rfl rfl (p_mv rfl) ?_
    refine wl rfl rfl rfl (p_bldX (vs' := [.slice Am lm cm]) (cs := ([.slice Am lm cm, Value.slice none 0 0, Value.bool false] : List Value)) (cs' := ([.slice Am lm cm, Value.slice none 0 0, Value.bool false] : List Value)) rfl rfl rfl (fun _ => by kernel_rfl)) ?_
    have hltg2 := hb2.lt
    refine wle rfl (e_box (cs := ([.slice Am lm cm, Value.slice none 0 0, Value.bool false] : List Value).toArray) rfl rfl rfl (fun w5 g19 hg19 hb19 hc hsz19 => ?_))
    have hzw5 := hc.size
    have HC := HC.tr hc
    have hm := hm.no hc
    have hrnd := hrnd.no hc
    have hb2 := hb2.ch hc (fun h => h)
    have hge19 : w.heap.size ≤ g19 := by have := HC.size; omega
    have neg2_19 : g2 < g19 := by omega
    refine wl rfl rfl rfl (p_as rfl) ?_
    refine wl_nil ?_
    refine x_seq ?_
    refine wc_seq ?_
    refine wc_region ?_
    refine wl rfl rfl rfl (p_mv rfl) ?_
    have hlt_21 := hb19.lt
    refine wle rfl (e_call ent88 rfl rfl (part_any l.length (F := fun k => w5.heap.size ≤ k) (Nat.le_refl _) hb19 hm (RI.nil _ _ _ _) (fun k hk => hk) (by omega) (by omega) (by omega) (fun k hk => ⟨by omega, by omega, by omega⟩) (by omega) (by omega) hrnd) ?_)
    rintro _ w6 ⟨h21, Al21, ll21, cl21, Ab21, cb21, bd21, l21, rfl, hbr21, hl21, hab21, hpr21, hc⟩
    refine ⟨_, rfl, ?_⟩
    have hzw6 := hc.size
    have HC := HC.trans hc (fun _ _ h => h) (fun k hk ht => absurd ht (by omega))
    have hm := hm.ch hc (by intro k hk ht; omega)
    first | have hrnd := hrnd.ch hc (by intro k hk ht; omega) | have hrnd := hrnd.chT hc (by intro k hz hk ht; omega)
    have hb2 := hb2.ch hc (by omega)
    have hln21 := hl21.len
    have hltg2 := hb2.lt
    have hltg19 := hbr21.lt
    refine wle rfl (e_alloc (cs := ((List.replicate 32 (0 : UInt8)).map u8v).toArray) rfl (by rfl) rfl (fun w7 g5 hg5 hb5 hc hsz5 => ?_))
    have hzw7 := hc.size
    have HC := HC.tr hc
    have hm := hm.no hc
    have hrnd := hrnd.no hc
    have hb2 := hb2.ch hc (fun h => h)
    have hbr21 := hbr21.ch hc (fun h => h)
    have hge5 : w.heap.size ≤ g5 := by have := HC.size; omega
    have neg2_5 : g2 < g5 := by omega
    have neg19_5 : g19 < g5 := by omega
    refine wle rfl (e_stH sz38 (List.length_replicate ..) hpr21.len rfl rfl hb5 (fun w8 hb5 hc hsz => ?_))
    have hzw8 := hc.size
    have HC := HC.trans hc (fun _ _ h => h) (fun k hk ht => absurd ht (by omega))
    have hm := hm.ch hc (by intro k hk ht; omega)
    first | have hrnd := hrnd.ch hc (by intro k hk ht; omega) | have hrnd := hrnd.chT hc (by intro k hz hk ht; omega)
    have hb2 := hb2.ch hc (by omega)
    have hbr21 := hbr21.ch hc (by omega)
    refine wl_nil ?_
    refine x_seq ?_
    refine wc_seq ?_
    refine wc_seq ?_
    refine wc_region ?_
    refine wl rfl rfl rfl (p_mv rfl) ?_
    refine wl rfl rfl rfl (p_nck rfl) ?_
    refine wl rfl rfl rfl (p_fld (j := 2) Tryd.underlying164 rfl ⟨_, by rfl⟩ rfl rfl) ?_
    refine wl rfl rfl rfl (p_ld Tryd.underlying4 rfl rfl (ld (cell_at (p := ([.slice Al21 ll21 cl21, .slice Ab21 0 cb21] : List Value)) (v := (.bool bd21 : Value)) (r := []) hbr21 (by simp only [List.append_assoc, List.cons_append, List.nil_append, List.append_nil]) (by first | rfl | (simp only [List.length_append, List.length_map, List.length_cons, List.length_nil]; done) | (simp only [List.length_append, List.length_map, List.length_cons, List.length_nil, List.size_toArray]; done))))) ?_
    refine wl rfl rfl rfl (p_mv rfl) ?_
    refine wl_split (d := 26) rfl (fun q26 => ?_) (fun q26 => ?_)
    ·
     refine wl_s (gd_ rfl rfl rfl rfl rfl rfl) rfl rfl ?_
     refine wl_s (gd_ rfl rfl rfl rfl rfl rfl) rfl rfl ?_
     refine wl_s (gd_ rfl rfl rfl rfl rfl rfl) rfl rfl ?_
     refine wl_s (gd_ rfl rfl rfl rfl rfl rfl) rfl rfl ?_
     refine wl_s (gd_ rfl rfl rfl rfl rfl rfl) rfl rfl ?_
     refine wl_s (gd_ rfl rfl rfl rfl rfl rfl) rfl rfl ?_
     refine wl rfl rfl rfl (p_pickT rfl rfl) ?_
     refine wl_nil ?_
     refine x_seq ?_
     refine wc_yes rfl (rfl) ?_
     refine wc_seq ?_
     refine wc_region ?_
     refine wl rfl rfl rfl (p_bldP (cs := ((List.replicate 32 (0 : UInt8)).map u8v).toArray) rfl (fun _ => by kernel_rfl)) ?_
     refine wle rfl (e_stH sz38 (List.length_replicate ..) (List.length_replicate ..) rfl rfl hb2 (fun w9 hb2 hc hsz => ?_))
     have hzw9 := hc.size
     have HC := HC.trans hc (fun _ _ h => h) (fun k hk ht => absurd ht (by omega))
     have hm := hm.ch hc (by intro k hk ht; omega)
     first | have hrnd := hrnd.ch hc (by intro k hk ht; omega) | have hrnd := hrnd.chT hc (by intro k hz hk ht; omega)
     have hbr21 := hbr21.ch hc (by omega)
     have hb5 := hb5.ch hc (by omega)
     refine wl rfl rfl rfl (p_as rfl) ?_
     refine wl_nil ?_
     refine x_seq ?_
     refine wc_ret ?_
     refine x_then_ret ?_
     refine fin_run (resMany (rs := [.cell 2 38, .tmp 3]) rfl (.cellA (cs := List.map u8v (List.replicate 32 (0 : UInt8))) rfl Tryd.underlying38 rfl (szL sz38 (by rw [List.length_map]; exact (List.length_replicate ..))) (rngL hb2) (.tmp rfl (.nil))) rfl) ?_
     have hrt := root_part hpr21 hne
     rw [hrt, if_pos (.inl (by simpa using q26))]; exact ⟨rfl, HC⟩
    ·
     refine wl_g (gd_ rfl rfl rfl rfl rfl rfl) rfl rfl (p_mv rfl) ?_
     refine wl_g (gd_ rfl rfl rfl rfl rfl rfl) rfl rfl (p_nck rfl) ?_
     refine wl_g (gd_ rfl rfl rfl rfl rfl rfl) rfl rfl (p_fld (j := 0) Tryd.underlying164 rfl ⟨_, by rfl⟩ rfl rfl) ?_
     refine wl_g (gd_ rfl rfl rfl rfl rfl rfl) rfl rfl (p_ld Tryd.underlying33 rfl rfl (ld (cell_at (p := []) (v := (.slice Al21 ll21 cl21 : Value)) (r := ([.slice Ab21 0 cb21, .bool bd21] : List Value)) hbr21 (by simp only [List.append_assoc, List.cons_append, List.nil_append, List.append_nil]) (by first | rfl | (simp only [List.length_append, List.length_map, List.length_cons, List.length_nil]; done) | (simp only [List.length_append, List.length_map, List.length_cons, List.length_nil, List.size_toArray]; done))))) ?_
     refine wl_g (gd_ rfl rfl rfl rfl rfl rfl) rfl rfl (p_lenS Tryd.underlying33 rfl) ?_
     refine wl_g (gd_ rfl rfl rfl rfl rfl rfl) rfl rfl (p_gt rfl rfl) ?_
     refine wl rfl rfl rfl (p_pickF rfl rfl) ?_
     refine wl_nil ?_
     refine x_seq ?_
     refine wc_if rfl (fun c1 => ?_) (fun c1 => ?_)
     ·
      have c1 := of_decide_eq_true c1
      refine wc_seq ?_
      refine wc_region ?_
      refine wl rfl rfl rfl (p_bldP (cs := ((List.replicate 32 (0 : UInt8)).map u8v).toArray) rfl (fun _ => by kernel_rfl)) ?_
      refine wle rfl (e_stH sz38 (List.length_replicate ..) (List.length_replicate ..) rfl rfl hb2 (fun w10 hb2 hc hsz => ?_))
      have hzw10 := hc.size
      have HC := HC.trans hc (fun _ _ h => h) (fun k hk ht => absurd ht (by omega))
      have hm := hm.ch hc (by intro k hk ht; omega)
      first | have hrnd := hrnd.ch hc (by intro k hk ht; omega) | have hrnd := hrnd.chT hc (by intro k hz hk ht; omega)
      have hbr21 := hbr21.ch hc (by omega)
      have hb5 := hb5.ch hc (by omega)
      refine wl rfl rfl rfl (p_as rfl) ?_
      refine wl_nil ?_
      refine x_seq ?_
      refine wc_ret ?_
      refine x_then_ret ?_
      refine fin_run (resMany (rs := [.cell 2 38, .tmp 3]) rfl (.cellA (cs := List.map u8v (List.replicate 32 (0 : UInt8))) rfl Tryd.underlying38 rfl (szL sz38 (by rw [List.length_map]; exact (List.length_replicate ..))) (rngL hb2) (.tmp rfl (.nil))) rfl) ?_
      have hrt := root_part hpr21 hne
      rw [hrt, if_pos (.inr (by omega))]; exact ⟨rfl, HC⟩
     ·
      have c1 := of_decide_eq_false c1
      refine wc_skip ?_
      refine x_seq ?_
      refine wc_seq ?_
      refine wc_region ?_
      refine wl rfl rfl rfl (p_ldH (L := h21) Tryd.underlying38 sz38 hpr21.len rfl (fun _ e => e ▸ rngL hb5)) ?_
      refine wle rfl (e_stH sz38 (List.length_replicate ..) hpr21.len rfl rfl hb2 (fun w11 hb2 hc hsz => ?_))
      have hzw11 := hc.size
      have HC := HC.trans hc (fun _ _ h => h) (fun k hk ht => absurd ht (by omega))
      have hm := hm.ch hc (by intro k hk ht; omega)
      first | have hrnd := hrnd.ch hc (by intro k hk ht; omega) | have hrnd := hrnd.chT hc (by intro k hz hk ht; omega)
      have hbr21 := hbr21.ch hc (by omega)
      have hb5 := hb5.ch hc (by omega)
      refine wl rfl rfl rfl (p_as rfl) ?_
      refine wl_nil ?_
      refine x_seq ?_
      refine wc_ret ?_
      refine fin_run (resMany (rs := [.cell 2 38, .tmp 3]) rfl (.cellA (cs := List.map u8v h21) rfl Tryd.underlying38 rfl (szL sz38 (by rw [List.length_map]; exact hpr21.len)) (rngL hb2) (.tmp rfl (.nil))) rfl) ?_
      have hrt := root_part hpr21 hne
      rw [hrt, if_neg (by rintro (h | h); rw [h] at q26; simp at q26; omega)]; exact ⟨rfl, HC⟩
  ·
   have q9 := of_decide_eq_false q9
   have hne : l ≠ [ND0] := fun e => by rw [e] at hml; simp at hml; omega
   refine wl_s (gd_ rfl rfl rfl rfl rfl rfl) rfl rfl ?_
   refine wl_s (gd_ rfl rfl rfl rfl rfl rfl) rfl rfl ?_
   refine wl_s (gd_ rfl rfl rfl rfl rfl rfl) rfl rfl ?_
   refine wl_s (gd_ rfl rfl rfl rfl rfl rfl) rfl rfl ?_
   refine wl_s (gd_ rfl rfl rfl rfl rfl rfl) rfl rfl ?_
   refine wl rfl rfl rfl (p_pickF rfl rfl) ?_
   refine wl_nil ?_
   refine x_seq ?_
   refine wc_no rfl (rfl) ?_
   refine wc_skip ?_
   refine x_seq ?_
   refine wc_seq ?_
   refine wc_region ?_
   refine wl rfl rfl rfl (p_mv rfl) ?_
   refine wl rfl rfl rfl (p_bldX (vs' := [.slice Am lm cm]) (cs := ([.slice Am lm cm, Value.slice none 0 0, Value.bool false] : List Value)) (cs' := ([.slice Am lm cm, Value.slice none 0 0, Value.bool false] : List Value)) rfl rfl rfl (fun _ => by kernel_rfl)) ?_
   have hltg2 := hb2.lt
   refine wle rfl (e_box (cs := ([.slice Am lm cm, Value.slice none 0 0, Value.bool false] : List Value).toArray) rfl rfl rfl (fun w12 g19 hg19 hb19 hc hsz19 => ?_))
   have hzw12 := hc.size
   have HC := HC.tr hc
   have hm := hm.no hc
   have hrnd := hrnd.no hc
   have hb2 := hb2.ch hc (fun h => h)
   have hge19 : w.heap.size ≤ g19 := by have := HC.size; omega
   have neg2_19 : g2 < g19 := by omega
   refine wl rfl rfl rfl (p_as rfl) ?_
   refine wl_nil ?_
   refine x_seq ?_
   refine wc_seq ?_
   refine wc_region ?_
   refine wl rfl rfl rfl (p_mv rfl) ?_
   have hlt_21 := hb19.lt
   refine wle rfl (e_call ent88 rfl rfl (part_any l.length (F := fun k => w12.heap.size ≤ k) (Nat.le_refl _) hb19 hm (RI.nil _ _ _ _) (fun k hk => hk) (by omega) (by omega) (by omega) (fun k hk => ⟨by omega, by omega, by omega⟩) (by omega) (by omega) hrnd) ?_)
   rintro _ w13 ⟨h21, Al21, ll21, cl21, Ab21, cb21, bd21, l21, rfl, hbr21, hl21, hab21, hpr21, hc⟩
   refine ⟨_, rfl, ?_⟩
   have hzw13 := hc.size
   have HC := HC.trans hc (fun _ _ h => h) (fun k hk ht => absurd ht (by omega))
   have hm := hm.ch hc (by intro k hk ht; omega)
   first | have hrnd := hrnd.ch hc (by intro k hk ht; omega) | have hrnd := hrnd.chT hc (by intro k hz hk ht; omega)
   have hb2 := hb2.ch hc (by omega)
   have hln21 := hl21.len
   have hltg2 := hb2.lt
   have hltg19 := hbr21.lt
   refine wle rfl (e_alloc (cs := ((List.replicate 32 (0 : UInt8)).map u8v).toArray) rfl (by rfl) rfl (fun w14 g5 hg5 hb5 hc hsz5 => ?_))
   have hzw14 := hc.size
   have HC := HC.tr hc
   have hm := hm.no hc
   have hrnd := hrnd.no hc
   have hb2 := hb2.ch hc (fun h => h)
   have hbr21 := hbr21.ch hc (fun h => h)
   have hge5 : w.heap.size ≤ g5 := by have := HC.size; omega
   have neg2_5 : g2 < g5 := by omega
   have neg19_5 : g19 < g5 := by omega
   refine wle rfl (e_stH sz38 (List.length_replicate ..) hpr21.len rfl rfl hb5 (fun w15 hb5 hc hsz => ?_))
   have hzw15 := hc.size
   have HC := HC.trans hc (fun _ _ h => h) (fun k hk ht => absurd ht (by omega))
   have hm := hm.ch hc (by intro k hk ht; omega)
   first | have hrnd := hrnd.ch hc (by intro k hk ht; omega) | have hrnd := hrnd.chT hc (by intro k hz hk ht; omega)
   have hb2 := hb2.ch hc (by omega)
   have hbr21 := hbr21.ch hc (by omega)
   refine wl_nil ?_
   refine x_seq ?_
   refine wc_seq ?_
   refine wc_seq ?_
   refine wc_region ?_
   refine wl rfl rfl rfl (p_mv rfl) ?_
   refine wl rfl rfl rfl (p_nck rfl) ?_
   refine wl rfl rfl rfl (p_fld (j := 2) Tryd.underlying164 rfl ⟨_, by rfl⟩ rfl rfl) ?_
   refine wl rfl rfl rfl (p_ld Tryd.underlying4 rfl rfl (ld (cell_at (p := ([.slice Al21 ll21 cl21, .slice Ab21 0 cb21] : List Value)) (v := (.bool bd21 : Value)) (r := []) hbr21 (by simp only [List.append_assoc, List.cons_append, List.nil_append, List.append_nil]) (by first | rfl | (simp only [List.length_append, List.length_map, List.length_cons, List.length_nil]; done) | (simp only [List.length_append, List.length_map, List.length_cons, List.length_nil, List.size_toArray]; done))))) ?_
   refine wl rfl rfl rfl (p_mv rfl) ?_
   refine wl_split (d := 26) rfl (fun q26 => ?_) (fun q26 => ?_)
   ·
    refine wl_s (gd_ rfl rfl rfl rfl rfl rfl) rfl rfl ?_
    refine wl_s (gd_ rfl rfl rfl rfl rfl rfl) rfl rfl ?_
    refine wl_s (gd_ rfl rfl rfl rfl rfl rfl) rfl rfl ?_
    refine wl_s (gd_ rfl rfl rfl rfl rfl rfl) rfl rfl ?_
    refine wl_s (gd_ rfl rfl rfl rfl rfl rfl) rfl rfl ?_
    refine wl_s (gd_ rfl rfl rfl rfl rfl rfl) rfl rfl ?_
    refine wl rfl rfl rfl (p_pickT rfl rfl) ?_
    refine wl_nil ?_
    refine x_seq ?_
    refine wc_yes rfl (rfl) ?_
    refine wc_seq ?_
    refine wc_region ?_
    refine wl rfl rfl rfl (p_bldP (cs := ((List.replicate 32 (0 : UInt8)).map u8v).toArray) rfl (fun _ => by kernel_rfl)) ?_
    refine wle rfl (e_stH sz38 (List.length_replicate ..) (List.length_replicate ..) rfl rfl hb2 (fun w16 hb2 hc hsz => ?_))
    have hzw16 := hc.size
    have HC := HC.trans hc (fun _ _ h => h) (fun k hk ht => absurd ht (by omega))
    have hm := hm.ch hc (by intro k hk ht; omega)
    first | have hrnd := hrnd.ch hc (by intro k hk ht; omega) | have hrnd := hrnd.chT hc (by intro k hz hk ht; omega)
    have hbr21 := hbr21.ch hc (by omega)
    have hb5 := hb5.ch hc (by omega)
    refine wl rfl rfl rfl (p_as rfl) ?_
    refine wl_nil ?_
    refine x_seq ?_
    refine wc_ret ?_
    refine x_then_ret ?_
    refine fin_run (resMany (rs := [.cell 2 38, .tmp 3]) rfl (.cellA (cs := List.map u8v (List.replicate 32 (0 : UInt8))) rfl Tryd.underlying38 rfl (szL sz38 (by rw [List.length_map]; exact (List.length_replicate ..))) (rngL hb2) (.tmp rfl (.nil))) rfl) ?_
    have hrt := root_part hpr21 hne
    rw [hrt, if_pos (.inl (by simpa using q26))]; exact ⟨rfl, HC⟩
   ·
    refine wl_g (gd_ rfl rfl rfl rfl rfl rfl) rfl rfl (p_mv rfl) ?_
    refine wl_g (gd_ rfl rfl rfl rfl rfl rfl) rfl rfl (p_nck rfl) ?_
    refine wl_g (gd_ rfl rfl rfl rfl rfl rfl) rfl rfl (p_fld (j := 0) Tryd.underlying164 rfl ⟨_, by rfl⟩ rfl rfl) ?_
    refine wl_g (gd_ rfl rfl rfl rfl rfl rfl) rfl rfl (p_ld Tryd.underlying33 rfl rfl (ld (cell_at (p := []) (v := (.slice Al21 ll21 cl21 : Value)) (r := ([.slice Ab21 0 cb21, .bool bd21] : List Value)) hbr21 (by simp only [List.append_assoc, List.cons_append, List.nil_append, List.append_nil]) (by first | rfl | (simp only [List.length_append, List.length_map, List.length_cons, List.length_nil]; done) | (simp only [List.length_append, List.length_map, List.length_cons, List.length_nil, List.size_toArray]; done))))) ?_
    refine wl_g (gd_ rfl rfl rfl rfl rfl rfl) rfl rfl (p_lenS Tryd.underlying33 rfl) ?_
    refine wl_g (gd_ rfl rfl rfl rfl rfl rfl) rfl rfl (p_gt rfl rfl) ?_
    refine wl rfl rfl rfl (p_pickF rfl rfl) ?_
    refine wl_nil ?_
    refine x_seq ?_
    refine wc_if rfl (fun c1 => ?_) (fun c1 => ?_)
    ·
     have c1 := of_decide_eq_true c1
     refine wc_seq ?_
     refine wc_region ?_
     refine wl rfl rfl rfl (p_bldP (cs := ((List.replicate 32 (0 : UInt8)).map u8v).toArray) rfl (fun _ => by kernel_rfl)) ?_
     refine wle rfl (e_stH sz38 (List.length_replicate ..) (List.length_replicate ..) rfl rfl hb2 (fun w17 hb2 hc hsz => ?_))
     have hzw17 := hc.size
     have HC := HC.trans hc (fun _ _ h => h) (fun k hk ht => absurd ht (by omega))
     have hm := hm.ch hc (by intro k hk ht; omega)
     first | have hrnd := hrnd.ch hc (by intro k hk ht; omega) | have hrnd := hrnd.chT hc (by intro k hz hk ht; omega)
     have hbr21 := hbr21.ch hc (by omega)
     have hb5 := hb5.ch hc (by omega)
     refine wl rfl rfl rfl (p_as rfl) ?_
     refine wl_nil ?_
     refine x_seq ?_
     refine wc_ret ?_
     refine x_then_ret ?_
     refine fin_run (resMany (rs := [.cell 2 38, .tmp 3]) rfl (.cellA (cs := List.map u8v (List.replicate 32 (0 : UInt8))) rfl Tryd.underlying38 rfl (szL sz38 (by rw [List.length_map]; exact (List.length_replicate ..))) (rngL hb2) (.tmp rfl (.nil))) rfl) ?_
     have hrt := root_part hpr21 hne
     rw [hrt, if_pos (.inr (by omega))]; exact ⟨rfl, HC⟩
    ·
     have c1 := of_decide_eq_false c1
     refine wc_skip ?_
     refine x_seq ?_
     refine wc_seq ?_
     refine wc_region ?_
     refine wl rfl rfl rfl (p_ldH (L := h21) Tryd.underlying38 sz38 hpr21.len rfl (fun _ e => e ▸ rngL hb5)) ?_
     refine wle rfl (e_stH sz38 (List.length_replicate ..) hpr21.len rfl rfl hb2 (fun w18 hb2 hc hsz => ?_))
     have hzw18 := hc.size
     have HC := HC.trans hc (fun _ _ h => h) (fun k hk ht => absurd ht (by omega))
     have hm := hm.ch hc (by intro k hk ht; omega)
     first | have hrnd := hrnd.ch hc (by intro k hk ht; omega) | have hrnd := hrnd.chT hc (by intro k hz hk ht; omega)
     have hbr21 := hbr21.ch hc (by omega)
     have hb5 := hb5.ch hc (by omega)
     refine wl rfl rfl rfl (p_as rfl) ?_
     refine wl_nil ?_
     refine x_seq ?_
     refine wc_ret ?_
     refine fin_run (resMany (rs := [.cell 2 38, .tmp 3]) rfl (.cellA (cs := List.map u8v h21) rfl Tryd.underlying38 rfl (szL sz38 (by rw [List.length_map]; exact hpr21.len)) (rngL hb2) (.tmp rfl (.nil))) rfl) ?_
     have hrt := root_part hpr21 hne
     rw [hrt, if_neg (by rintro (h | h); rw [h] at q26; simp at q26; omega)]; exact ⟨rfl, HC⟩

set_option maxHeartbeats 1000000 in
set_option maxRecDepth 20000 in
theorem mgood27 {w : World}  {Am : Option Addr} {lm cm : Nat} {Fm : Nat → Prop} {l : List ND} (hm : SI w Fm eND Am lm cm l) (hl : lm ≤ 1000000) (hrnd : Sl w (fun k => k = 0) u32v (some ⟨0, 0, none⟩) 64 64 rk) :
    Calls Tryd.prog 60 #[.slice Am lm cm] w fun e w' => e = .returned (.bool (rootN l).2) ∧ Ch No w w' := by
  have hn0 : 0 < w.heap.size := hrnd.size (by omega) rfl
  have hn1 := hn0
  have hm := hm.old
  have HC : Ch No w w := Ch.refl _ _
  refine enter' (args := [.slice Am lm cm]) (n := 11) Tryd.func60 rfl rfl rfl ?_
  refine wc_seq ?_
  refine wc_region ?_
  refine wl rfl rfl rfl (p_as rfl) ?_
  refine wl_nil ?_
  refine x_seq ?_
  refine wc_seq ?_
  refine wc_region ?_
  refine wl rfl rfl rfl (p_mv rfl) ?_
  refine wle rfl (e_call ent56 rfl rfl (mroot27 (hm) (by omega) hrnd) ?_)
  rintro _ w1 ⟨rfl, hc⟩
  refine ⟨_, rfl, ?_⟩
  have hzw1 := hc.size
  have HC := HC.tr hc
  have hm := hm.no hc
  have hrnd := hrnd.no hc
  refine wl rfl rfl rfl (p_mv rfl) ?_
  refine wl rfl rfl rfl (p_ext rfl rfl) ?_
  refine wl rfl rfl rfl (p_ext rfl rfl) ?_
  refine wle rfl (e_alloc (cs := ((List.replicate 32 (0 : UInt8)).map u8v).toArray) rfl (by rfl) rfl (fun w2 g3 hg3 hb3 hc hsz3 => ?_))
  have hzw2 := hc.size
  have HC := HC.tr hc
  have hm := hm.no hc
  have hrnd := hrnd.no hc
  have hge3 : w.heap.size ≤ g3 := by have := HC.size; omega
  refine wle rfl (e_stH sz38 (List.length_replicate ..) rootN_len rfl rfl hb3 (fun w3 hb3 hc hsz => ?_))
  have hzw3 := hc.size
  have HC := HC.trans hc (fun _ _ h => h) (fun k hk ht => absurd ht (by omega))
  have hm := hm.ch hc (by intro k hk ht; omega)
  first | have hrnd := hrnd.ch hc (by intro k hk ht; omega) | have hrnd := hrnd.chT hc (by intro k hz hk ht; omega)
  refine wl rfl rfl rfl (p_as rfl) ?_
  refine wl_nil ?_
  refine x_seq ?_
  refine wc_seq ?_
  refine wc_region ?_
  refine wl rfl rfl rfl (p_mv rfl) ?_
  refine wl rfl rfl rfl (p_as rfl) ?_
  refine wl_nil ?_
  refine x_seq ?_
  refine wc_ret ?_
  refine fin_run ((res1 rfl rfl)) ?_
  exact ⟨rfl, HC⟩

set_option maxHeartbeats 1000000 in
set_option maxRecDepth 20000 in
theorem behind_any {w : World}  {Am : Option Addr} {lm cm : Nat} {Fm : Nat → Prop} {l : List ND} {p : PT} {r : List ND} (hm : SI w Fm eND Am lm cm l) (hl : lm ≤ 1000000) (hlp : l = p.nodes ++ r) :
    Calls Tryd.prog 90 #[.slice Am lm cm] w fun e w' => e = .returned (i64 (p.nodes.length : Int)) ∧ Ch No w w' := by
  have hml := hm.len
  have hpl : p.nodes.length ≤ lm := by rw [← hml, hlp, List.length_append]; omega
  have hm := hm.old
  have HC : Ch No w w := Ch.refl _ _
  refine enter' (args := [.slice Am lm cm]) (n := 20) Tryd.func90 rfl rfl rfl ?_
  refine wc_seq ?_
  refine wc_region ?_
  refine wl rfl rfl rfl (p_as rfl) ?_
  refine wl_nil ?_
  refine x_seq ?_
  refine wc_seq ?_
  refine wc_region ?_
  refine wl rfl rfl rfl (p_as rfl) ?_
  refine wl_nil ?_
  refine x_seq ?_
  refine wc_seq ?_
  refine wc_seq ?_
  refine wc_region ?_
  refine wl rfl rfl rfl (p_as rfl) ?_
  refine wl_nil ?_
  refine x_seq ?_
  refine wc_block ?_
  refine wc_loop (e' := [(0, .slice Am lm cm), (3, i64 ((0) : Int)), (4, i64 (([p]).length : Int))]) (fun mz ez uz => ∃ n : Nat, ∃ ts : List PT, mz = p.nodes.length - n ∧ ez = [(0, .slice Am lm cm), (3, i64 (n : Int)), (4, i64 (ts.length : Int))] ∧ (l.drop n = ts.flatMap PT.nodes ++ r) ∧ (n + (ts.flatMap PT.nodes).length = p.nodes.length) ∧ (ts.length ≤ p.nodes.length) ∧ (SI uz (fun k => k < w.heap.size) eND Am lm cm l) ∧ (Ch No w uz))
   ⟨rfl, rfl, rfl, trivial⟩ ⟨0, [p], rfl, rfl, (by rw [hlp]; simp), (by simp), (PT.nodes_pos p), hm, HC⟩ ?_
  rintro m0 e w1 ⟨n, ts, hm0, rfl, hd, hn, htl, hm, HC⟩
  have hzw1 := HC.size
  refine wc_seq ?_
  refine wc_seq ?_
  refine wc_region ?_
  refine wl rfl rfl rfl (p_mv rfl) ?_
  refine wl rfl rfl rfl (p_gt rfl rfl) ?_
  refine wl_nil ?_
  refine x_seq ?_
  refine wc_if rfl (fun c0 => ?_) (fun c0 => ?_)
  ·
   have c0 := of_decide_eq_true c0
   obtain ⟨q, ts2, rfl⟩ : ∃ q ts2, ts = q :: ts2 := by cases ts with | nil => simp at c0 | cons q ts2 => exact ⟨q, ts2, rfl⟩
   have hqp := PT.nodes_pos q
   rw [List.flatMap_cons, List.append_assoc] at hd
   rw [List.flatMap_cons, List.length_append] at hn
   have hnl : n < lm := by have e := congrArg List.length hd; rw [List.length_drop, List.length_append] at e; omega
   refine wc_skip ?_
   refine x_seq ?_
   refine wc_seq ?_
   refine wc_block ?_
   refine wc_seq ?_
   refine wc_region ?_
   refine wl rfl rfl rfl (p_mv rfl) ?_
   refine wl rfl rfl rfl (p_sub (Z := (ts2.length : Int)) rfl rfl (by rw [w64 (by simp only [List.length_cons] at *; omega)]; simp only [List.length_cons]; omega)) ?_
   refine wl rfl rfl rfl (p_as rfl) ?_
   refine wl_nil ?_
   refine x_seq ?_
   refine wc_seq ?_
   refine wc_region ?_
   refine wl rfl rfl rfl (p_mv rfl) ?_
   refine wl rfl rfl rfl (p_mv rfl) ?_
   obtain ⟨b2, o2, hA2, hF2, hr2⟩ := (hm).opn (i := n) (d := ND0) (by omega)
   have hok2 := (hm).okAt (i := n) (d := ND0) (by omega)
   obtain ⟨x2, ex2⟩ : ∃ x_, x_ = List.getD l (n) ND0 := ⟨_, rfl⟩
   rw [← ex2] at hr2 hok2
   obtain ⟨hx2k, hx2v⟩ := hok2
   have hr2 : w1.rangeAt b2 (o2 + n * 66) (([i64 x2.kind, i64 x2.bit] ++ ((List.map u8v x2.key) ++ (List.map u8v x2.val))) : List Value) := hr2
   refine wl rfl rfl rfl (p_ixS (j := n * 66) Tryd.underlying33 sz115 rfl hA2 rfl (by omega) (by omega) (congrArg (· * 66) (Int.toNat_natCast _))) ?_
   have hdr : l.drop n = x2 :: l.drop (n + 1) := by rw [ex2]; exact getD_drop (by omega)
   have hhd := hd.symm.trans hdr
   refine wl rfl rfl rfl (p_fld (j := 0) Tryd.underlying115 rfl ⟨_, by rfl⟩ rfl rfl) ?_
   refine wl rfl rfl rfl (p_ld Tryd.underlying3 rfl rfl (ld (cell_sub (v := (i64 x2.kind : Value)) (p := []) (r := (([i64 x2.bit] ++ ((List.map u8v x2.key) ++ (List.map u8v x2.val))) : List Value)) hr2 (by first | rfl | simp only [List.append_assoc, List.cons_append, List.nil_append, List.append_nil]) rfl))) ?_
   refine wl rfl rfl rfl (p_eq rfl rfl) ?_
   refine wl_nil ?_
   refine x_seq ?_
   refine wc_if rfl (fun c1 => ?_) (fun c1 => ?_)
   ·
    have c1 := of_decide_eq_true c1
    obtain ⟨y, z, rfl, hrest⟩ := headP4 hhd c1
    refine wc_region ?_
    refine wl rfl rfl rfl (p_mv rfl) ?_
    refine wl rfl rfl rfl (p_add (Z := ((y :: z :: ts2).length : Int)) rfl rfl (by rw [w64 (by simp only [List.length_cons] at *; omega)]; simp only [List.length_cons]; omega)) ?_
    refine wl rfl rfl rfl (p_as rfl) ?_
    refine wl_nil ?_
    refine x_in_normal ?_
    refine x_seq ?_
    refine wc_region ?_
    refine wl rfl rfl rfl (p_mv rfl) ?_
    refine wl rfl rfl rfl (p_add rfl rfl (w64 (by omega))) ?_
    refine wl rfl rfl rfl (p_as rfl) ?_
    refine wl_nil ?_
    refine x_round (e' := [(0, .slice Am lm cm), (3, i64 ((n + 1) : Int)), (4, i64 ((y :: z :: ts2).length : Int))]) ⟨rfl, rfl, rfl, trivial⟩ (by rw [hm0]; omega) ⟨n + 1, y :: z :: ts2, rfl, rfl, (by rw [hrest]; simp [List.append_assoc]), (by simp only [PT.nodes, List.flatMap_cons, List.length_append, List.length_cons] at hn ⊢; omega), (by have h1 := PT.flat_le (ts := ts2); have h2 := PT.nodes_pos y; have h3 := PT.nodes_pos z; simp only [PT.nodes, List.length_append, List.length_cons] at hn ⊢; omega), hm, HC⟩
   ·
    have c1 := of_decide_eq_false c1
    obtain ⟨hrest, hq1⟩ := headPn hhd c1
    refine wc_skip ?_
    refine x_in_normal ?_
    refine x_seq ?_
    refine wc_region ?_
    refine wl rfl rfl rfl (p_mv rfl) ?_
    refine wl rfl rfl rfl (p_add rfl rfl (w64 (by omega))) ?_
    refine wl rfl rfl rfl (p_as rfl) ?_
    refine wl_nil ?_
    refine x_round (e' := [(0, .slice Am lm cm), (3, i64 ((n + 1) : Int)), (4, i64 ((ts2).length : Int))]) ⟨rfl, rfl, rfl, trivial⟩ (by rw [hm0]; omega) ⟨n + 1, ts2, rfl, rfl, (by rw [hrest]), (by omega), (by simp only [List.length_cons] at htl; omega), hm, HC⟩
  ·
   have c0 := of_decide_eq_false c0
   refine wc_exit ?_
   refine x_then_exit ?_
   refine x_then_exit ?_
   refine x_in_here ?_
   refine x_seq ?_
   refine wc_seq ?_
   refine wc_region ?_
   refine wl rfl rfl rfl (p_mv rfl) ?_
   refine wl rfl rfl rfl (p_as rfl) ?_
   refine wl_nil ?_
   refine x_seq ?_
   refine wc_ret ?_
   refine fin_run ((res1 rfl rfl)) ?_
   have hts : ts = [] := by cases ts with | nil => rfl | cons q ts => simp at c0
   subst hts
   rw [show p.nodes.length = n by simpa using hn.symm]
   exact ⟨rfl, HC⟩

set_option maxHeartbeats 4000000 in
set_option maxRecDepth 20000 in
theorem mcheck27 {w : World}  {top : List UInt8} {Am : Option Addr} {lm cm : Nat} {Fm : Nat → Prop} {l : List ND} {k : List UInt8} (htop : top.length = 32) (hm : SI w Fm eND Am lm cm l) (hl : lm ≤ 1000000) (hk : k.length = 32) (hrnd : Sl w (fun k => k = 0) u32v (some ⟨0, 0, none⟩) 64 64 rk) :
    Calls Tryd.prog 58 #[hv top, .slice Am lm cm, hv k] w fun e w' => e = .returned (.tuple #[hv (checkN top l k).1, .bool (checkN top l k).2.1, .bool (checkN top l k).2.2]) ∧ Ch No w w' := by
  have hn0 : 0 < w.heap.size := hrnd.size (by omega) rfl
  have hn1 := hn0
  have hml := hm.len
  have hm := hm.old
  have HC : Ch No w w := Ch.refl _ _
  refine enter' (args := [hv top, .slice Am lm cm, hv k]) (n := 66) Tryd.func58 rfl rfl rfl ?_
  refine wc_seq ?_
  refine wc_region ?_
  refine wle rfl (e_box (cs := (List.map u8v top).toArray) rfl rfl rfl (fun w1 g3 hg3 hb3 hc hsz3 => ?_))
  have hzw1 := hc.size
  have HC := HC.tr hc
  have hm := hm.no hc
  have hrnd := hrnd.no hc
  have hge3 : w.heap.size ≤ g3 := by have := HC.size; omega
  have hltg3 := hb3.lt
  refine wle rfl (e_box (cs := (List.map u8v k).toArray) rfl rfl rfl (fun w2 g5 hg5 hb5 hc hsz5 => ?_))
  have hzw2 := hc.size
  have HC := HC.tr hc
  have hm := hm.no hc
  have hrnd := hrnd.no hc
  have hb3 := hb3.ch hc (fun h => h)
  have hge5 : w.heap.size ≤ g5 := by have := HC.size; omega
  have neg3_5 : g3 < g5 := by omega
  have hltg3 := hb3.lt
  have hltg5 := hb5.lt
  refine wle rfl (e_alloc (cs := ((List.replicate 32 (0 : UInt8)).map u8v).toArray) rfl (by rfl) rfl (fun w3 g6 hg6 hb6 hc hsz6 => ?_))
  have hzw3 := hc.size
  have HC := HC.tr hc
  have hm := hm.no hc
  have hrnd := hrnd.no hc
  have hb3 := hb3.ch hc (fun h => h)
  have hb5 := hb5.ch hc (fun h => h)
  have hge6 : w.heap.size ≤ g6 := by have := HC.size; omega
  have neg3_6 : g3 < g6 := by omega
  have neg5_6 : g5 < g6 := by omega
  refine wl rfl rfl rfl (p_as rfl) ?_
  refine wl rfl rfl rfl (p_as rfl) ?_
  refine wl_nil ?_
  refine x_seq ?_
  refine wc_seq ?_
  refine wc_seq ?_
  refine wc_region ?_
  refine wl rfl rfl rfl (p_mv rfl) ?_
  refine wle rfl (e_call ent56 rfl rfl (mroot27 (hm) (by omega) hrnd) ?_)
  rintro _ w4 ⟨rfl, hc⟩
  refine ⟨_, rfl, ?_⟩
  have hzw4 := hc.size
  have HC := HC.tr hc
  have hm := hm.no hc
  have hrnd := hrnd.no hc
  have hb3 := hb3.ch hc (fun h => h)
  have hb5 := hb5.ch hc (fun h => h)
  have hb6 := hb6.ch hc (fun h => h)
  refine wl rfl rfl rfl (p_mv rfl) ?_
  refine wl rfl rfl rfl (p_ext rfl rfl) ?_
  refine wl rfl rfl rfl (p_ext rfl rfl) ?_
  have hltg3 := hb3.lt
  have hltg5 := hb5.lt
  have hltg6 := hb6.lt
  refine wle rfl (e_alloc (cs := ((List.replicate 32 (0 : UInt8)).map u8v).toArray) rfl (by rfl) rfl (fun w5 g9 hg9 hb9 hc hsz9 => ?_))
  have hzw5 := hc.size
  have HC := HC.tr hc
  have hm := hm.no hc
  have hrnd := hrnd.no hc
  have hb3 := hb3.ch hc (fun h => h)
  have hb5 := hb5.ch hc (fun h => h)
  have hb6 := hb6.ch hc (fun h => h)
  have hge9 : w.heap.size ≤ g9 := by have := HC.size; omega
  have neg3_9 : g3 < g9 := by omega
  have neg5_9 : g5 < g9 := by omega
  have neg6_9 : g6 < g9 := by omega
  refine wle rfl (e_stH sz38 (List.length_replicate ..) rootN_len rfl rfl hb9 (fun w6 hb9 hc hsz => ?_))
  have hzw6 := hc.size
  have HC := HC.trans hc (fun _ _ h => h) (fun k hk ht => absurd ht (by omega))
  have hm := hm.ch hc (by intro k hk ht; omega)
  first | have hrnd := hrnd.ch hc (by intro k hk ht; omega) | have hrnd := hrnd.chT hc (by intro k hz hk ht; omega)
  have hb3 := hb3.ch hc (by omega)
  have hb5 := hb5.ch hc (by omega)
  have hb6 := hb6.ch hc (by omega)
  refine wl rfl rfl rfl (p_as rfl) ?_
  refine wl_nil ?_
  refine x_seq ?_
  refine wc_seq ?_
  refine wc_region ?_
  refine wl rfl rfl rfl (p_mv rfl) ?_
  refine wl rfl rfl rfl (p_not rfl) ?_
  refine wl rfl rfl rfl (p_mv rfl) ?_
  refine wl_split (d := 20) rfl (fun q20 => ?_) (fun q20 => ?_)
  ·
   refine wl_s (gd_ rfl rfl rfl rfl rfl rfl) rfl rfl ?_
   refine wl_s (gd_ rfl rfl rfl rfl rfl rfl) rfl rfl ?_
   refine wl_s (gd_ rfl rfl rfl rfl rfl rfl) rfl rfl ?_
   refine wl rfl rfl rfl (p_pickT rfl rfl) ?_
   refine wl_nil ?_
   refine x_seq ?_
   refine wc_yes rfl (rfl) ?_
   refine wc_seq ?_
   refine wc_region ?_
   refine wl rfl rfl rfl (p_bldP (cs := ((List.replicate 32 (0 : UInt8)).map u8v).toArray) rfl (fun _ => by kernel_rfl)) ?_
   refine wle rfl (e_stH sz38 (List.length_replicate ..) (List.length_replicate ..) rfl rfl hb6 (fun w7 hb6 hc hsz => ?_))
   have hzw7 := hc.size
   have HC := HC.trans hc (fun _ _ h => h) (fun k hk ht => absurd ht (by omega))
   have hm := hm.ch hc (by intro k hk ht; omega)
   first | have hrnd := hrnd.ch hc (by intro k hk ht; omega) | have hrnd := hrnd.chT hc (by intro k hz hk ht; omega)
   have hb3 := hb3.ch hc (by omega)
   have hb5 := hb5.ch hc (by omega)
   have hb9 := hb9.ch hc (by omega)
   refine wl rfl rfl rfl (p_as rfl) ?_
   refine wl rfl rfl rfl (p_as rfl) ?_
   refine wl_nil ?_
   refine x_seq ?_
   refine wc_ret ?_
   refine x_then_ret ?_
   refine fin_run (resMany (rs := [.cell 6 38, .tmp 7, .tmp 8]) rfl (.cellA (cs := List.map u8v (List.replicate 32 (0 : UInt8))) rfl Tryd.underlying38 rfl (szL sz38 (by rw [List.length_map]; exact (List.length_replicate ..))) (rngL hb6) (.tmp rfl (.tmp rfl (.nil)))) rfl) ?_
   rw [show checkN top l k = (zeroH, false, false) from check_no (by simpa using q20)]; exact ⟨rfl, HC⟩
  ·
   refine wl_g (gd_ rfl rfl rfl rfl rfl rfl) rfl rfl (p_ldH (L := (rootN l).1) Tryd.underlying38 sz38 rootN_len rfl (fun _ e => e ▸ rngL hb9)) ?_
   refine wl_g (gd_ rfl rfl rfl rfl rfl rfl) rfl rfl (p_ldH (L := top) Tryd.underlying38 sz38 htop rfl (fun _ e => e ▸ rngL hb3)) ?_
   refine wl_g (gd_ rfl rfl rfl rfl rfl rfl) rfl rfl (p_neH (a := (rootN l).1) (b := top) (by kernel_rfl) Tryd.underlying38 Tryd.underlying5 sz5 rfl rfl (rootN_len) (htop)) ?_
   refine wl rfl rfl rfl (p_pickF rfl rfl) ?_
   refine wl_nil ?_
   refine x_seq ?_
   refine wc_if rfl (fun c0 => ?_) (fun c0 => ?_)
   ·
    refine wc_seq ?_
    refine wc_region ?_
    refine wl rfl rfl rfl (p_bldP (cs := ((List.replicate 32 (0 : UInt8)).map u8v).toArray) rfl (fun _ => by kernel_rfl)) ?_
    refine wle rfl (e_stH sz38 (List.length_replicate ..) (List.length_replicate ..) rfl rfl hb6 (fun w8 hb6 hc hsz => ?_))
    have hzw8 := hc.size
    have HC := HC.trans hc (fun _ _ h => h) (fun k hk ht => absurd ht (by omega))
    have hm := hm.ch hc (by intro k hk ht; omega)
    first | have hrnd := hrnd.ch hc (by intro k hk ht; omega) | have hrnd := hrnd.chT hc (by intro k hz hk ht; omega)
    have hb3 := hb3.ch hc (by omega)
    have hb5 := hb5.ch hc (by omega)
    have hb9 := hb9.ch hc (by omega)
    refine wl rfl rfl rfl (p_as rfl) ?_
    refine wl rfl rfl rfl (p_as rfl) ?_
    refine wl_nil ?_
    refine x_seq ?_
    refine wc_ret ?_
    refine x_then_ret ?_
    refine fin_run (resMany (rs := [.cell 6 38, .tmp 7, .tmp 8]) rfl (.cellA (cs := List.map u8v (List.replicate 32 (0 : UInt8))) rfl Tryd.underlying38 rfl (szL sz38 (by rw [List.length_map]; exact (List.length_replicate ..))) (rngL hb6) (.tmp rfl (.tmp rfl (.nil)))) rfl) ?_
    rw [show checkN top l k = (zeroH, false, false) from check_ne (by simpa using c0)]; exact ⟨rfl, HC⟩
   ·
    have hgd : (rootN l).2 = true := by simpa using q20
    have heq : (rootN l).1 = top := by simpa using c0
    obtain ⟨q0, hq0, hs0⟩ := good_say (k := k) hgd
    refine wc_skip ?_
    refine x_seq ?_
    refine wc_seq ?_
    refine wc_block ?_
    refine wc_loop (e' := [(1, .slice (Am) (lm) (cm)), (3, .pointer (some ⟨g3, 0, none⟩)), (5, .pointer (some ⟨g5, 0, none⟩)), (6, .pointer (some ⟨g6, 0, none⟩))]) (fun mz ez uz => ∃ Bz : Option Addr, ∃ lz : Nat, ∃ cz : Nat, ∃ cur : List ND, ∃ q : Option PT, ∃ r : List ND, mz = lz ∧ ez = [(1, .slice Bz lz cz), (3, .pointer (some ⟨g3, 0, none⟩)), (5, .pointer (some ⟨g5, 0, none⟩)), (6, .pointer (some ⟨g6, 0, none⟩))] ∧ (SI uz (fun k => k < w.heap.size) eND Bz lz cz cur) ∧ (cur = nodesO q ++ r) ∧ (sayO k q = sayN l k) ∧ (lz ≤ 1000000) ∧ (Blk uz g3 38 (List.map u8v top).toArray) ∧ (Blk uz g5 38 (List.map u8v k).toArray) ∧ (Blk uz g6 38 (List.map u8v (List.replicate 32 (0 : UInt8))).toArray) ∧ (Sl uz (fun k => k = 0) u32v (some ⟨0, 0, none⟩) 64 64 rk) ∧ (w.heap.size ≤ g3 ∧ g3 < g5 ∧ g5 < g6) ∧ (Ch No w uz))
     ⟨rfl, rfl, rfl, rfl, trivial⟩ ⟨Am, lm, cm, l, q0, [], rfl, rfl, hm, hq0, hs0, (by omega), hb3, hb5, hb6, hrnd, (by omega), HC⟩ ?_
    rintro m0 e w9 ⟨Bz, lz, cz, cur, q, r, hm0, rfl, hcu, hq, hsq, hlz, hb3, hb5, hb6, hrnd, hgo, HC⟩
    have hzw9 := HC.size
    have hzp : 0 < lz := by rw [← hcu.len, hq]; exact nodesO_pos
    have hcl := hcu.len
    refine wc_seq ?_
    refine wc_seq ?_
    refine wc_region ?_
    refine wl rfl rfl rfl (p_mv rfl) ?_
    obtain ⟨b10, o10, hA10, hF10, hr10⟩ := (hcu).opn (i := 0) (d := ND0) (by omega)
    have hok10 := (hcu).okAt (i := 0) (d := ND0) (by omega)
    obtain ⟨x10, ex10⟩ : ∃ x_, x_ = List.getD cur (0) ND0 := ⟨_, rfl⟩
    rw [← ex10] at hr10 hok10
    obtain ⟨hx10k, hx10v⟩ := hok10
    have hr10 : w9.rangeAt b10 (o10 + 0 * 66) (([i64 x10.kind, i64 x10.bit] ++ ((List.map u8v x10.key) ++ (List.map u8v x10.val))) : List Value) := hr10
    refine wl rfl rfl rfl (p_ixS (j := 0 * 66) Tryd.underlying33 sz115 rfl hA10 rfl (by omega) (by omega) rfl) ?_
    have hhd : nodesO q ++ r = x10 :: cur.drop 1 := by rw [← hq, ex10]; exact List.drop_zero.symm.trans (getD_drop (by omega))
    refine wl rfl rfl rfl (p_fld (j := 0) Tryd.underlying115 rfl ⟨_, by rfl⟩ rfl rfl) ?_
    refine wl rfl rfl rfl (p_ld Tryd.underlying3 rfl rfl (ld (cell_sub (v := (i64 x10.kind : Value)) (p := []) (r := (([i64 x10.bit] ++ ((List.map u8v x10.key) ++ (List.map u8v x10.val))) : List Value)) hr10 (by first | rfl | simp only [List.append_assoc, List.cons_append, List.nil_append, List.append_nil]) rfl))) ?_
    refine wl rfl rfl rfl (p_eq rfl rfl) ?_
    refine wl_nil ?_
    refine x_seq ?_
    refine wc_if rfl (fun c1 => ?_) (fun c1 => ?_)
    ·
     have c1 := of_decide_eq_true c1
     obtain ⟨y, z, rfl, hrest⟩ := head4 hhd c1
     have hyl := PT.nodes_pos y
     have hzl := PT.nodes_pos z
     have hcl2 : lz - 1 = y.nodes.length + (z.nodes.length + r.length) := by rw [← hcl]; have e := congrArg List.length hrest; rw [List.length_drop, List.length_append, List.length_append] at e; exact e
     refine wc_skip ?_
     refine x_seq ?_
     refine wc_block ?_
     refine wc_seq ?_
     refine wc_region ?_
     refine wl rfl rfl rfl (p_mv rfl) ?_
     obtain ⟨b11, o11, hA11, hF11, hr11⟩ := (hcu).opn (i := 0) (d := ND0) (by omega)
     have hok11 := (hcu).okAt (i := 0) (d := ND0) (by omega)
     obtain ⟨x11, ex11⟩ : ∃ x_, x_ = List.getD cur (0) ND0 := ⟨_, rfl⟩
     rw [← ex11] at hr11 hok11
     obtain ⟨hx11k, hx11v⟩ := hok11
     have hr11 : w9.rangeAt b11 (o11 + 0 * 66) (([i64 x11.kind, i64 x11.bit] ++ ((List.map u8v x11.key) ++ (List.map u8v x11.val))) : List Value) := hr11
     refine wl rfl rfl rfl (p_ixS (j := 0 * 66) Tryd.underlying33 sz115 rfl hA11 rfl (by omega) (by omega) rfl) ?_
     have hxx : x11 = x10 := ex11.trans ex10.symm
     refine wl rfl rfl rfl (p_fld (j := 1) Tryd.underlying115 rfl ⟨_, by rfl⟩ rfl rfl) ?_
     refine wl rfl rfl rfl (p_ld Tryd.underlying3 rfl rfl (ld (cell_sub (v := (i64 x11.bit : Value)) (p := ([i64 x11.kind] : List Value)) (r := (((List.map u8v x11.key) ++ (List.map u8v x11.val)) : List Value)) hr11 (by first | rfl | simp only [List.append_assoc, List.cons_append, List.nil_append, List.append_nil]) (by first | rfl | (simp only [List.length_append, List.length_map, List.length_cons, List.length_nil]; done) | (simp only [List.length_append, List.length_map, List.length_cons, List.length_nil, List.size_toArray]; done))))) ?_
     refine wl rfl rfl rfl (p_as rfl) ?_
     refine wl_nil ?_
     refine x_seq ?_
     refine wc_seq ?_
     refine wc_region ?_
     refine wl rfl rfl rfl (p_mv rfl) ?_
     have hc1 := hcu.cutTo (lo := 1) (by omega)
     rw [hrest] at hc1
     refine wl rfl rfl rfl (p_slS (l := 1) (h := lz) Tryd.underlying33 sz115 rfl ⟨_, rfl⟩ rfl (by omega) (by have := hcu.cap; omega) hcu.cap (q := lz - 1) (by omega)) ?_
     refine wl rfl rfl rfl (p_as rfl) ?_
     refine wl_nil ?_
     refine x_seq ?_
     refine wc_seq ?_
     refine wc_region ?_
     refine wl rfl rfl rfl (p_ldH (L := k) Tryd.underlying38 sz38 hk rfl (fun _ e => e ▸ rngL hb5)) ?_
     refine wl rfl rfl rfl (p_mv rfl) ?_
     refine wle rfl (e_call ent38 rfl rfl (bit_any (hk)) ?_)
     rintro _ w12 ⟨rfl, hc⟩
     refine ⟨_, rfl, ?_⟩
     have hzw12 := hc.size
     have HC := HC.tr hc
     have hcu := hcu.no hc
     have hb3 := hb3.ch hc (fun h => h)
     have hb5 := hb5.ch hc (fun h => h)
     have hb6 := hb6.ch hc (fun h => h)
     have hrnd := hrnd.no hc
     have hc1 := hc1.no hc
     refine wl rfl rfl rfl (p_eq rfl rfl) ?_
     refine wl_nil ?_
     refine x_seq ?_
     refine wc_if rfl (fun c2 => ?_) (fun c2 => ?_)
     ·
      have c2 := of_decide_eq_true c2
      rw [hxx] at c2
      refine wc_region ?_
      refine wl rfl rfl rfl (p_mv rfl) ?_
      refine wl rfl rfl rfl (p_mv rfl) ?_
      refine wle rfl (e_call ent90 rfl rfl (behind_any (p := y) (r := z.nodes ++ r) (hc1) (by omega) rfl) ?_)
      rintro _ w13 ⟨rfl, hc⟩
      refine ⟨_, rfl, ?_⟩
      have hzw13 := hc.size
      have HC := HC.tr hc
      have hcu := hcu.no hc
      have hb3 := hb3.ch hc (fun h => h)
      have hb5 := hb5.ch hc (fun h => h)
      have hb6 := hb6.ch hc (fun h => h)
      have hrnd := hrnd.no hc
      have hc1 := hc1.no hc
      have hc2 := hc1.cutTo (lo := y.nodes.length) (by omega)
      rw [List.drop_left] at hc2
      refine wl rfl rfl rfl (p_slS (l := y.nodes.length) (h := lz - 1) Tryd.underlying33 sz115 rfl ⟨_, rfl⟩ rfl (by omega) (by have := hc1.cap; omega) hc1.cap (q := lz - 1 - y.nodes.length) (by omega)) ?_
      refine wl rfl rfl rfl (p_as rfl) ?_
      refine wl_nil ?_
      refine x_in_normal ?_
      refine x_round (e' := [(1, .slice (cutA (cutA Bz cz 1 66) (cz - 1) y.nodes.length 66) (lz - 1 - y.nodes.length) (cz - 1 - y.nodes.length)), (3, .pointer (some ⟨g3, 0, none⟩)), (5, .pointer (some ⟨g5, 0, none⟩)), (6, .pointer (some ⟨g6, 0, none⟩))]) ⟨rfl, rfl, rfl, rfl, trivial⟩ (by rw [hm0]; omega) ⟨cutA (cutA Bz cz 1 66) (cz - 1) y.nodes.length 66, lz - 1 - y.nodes.length, cz - 1 - y.nodes.length, z.nodes ++ r, some z, r, rfl, rfl, hc2, rfl, (by rw [← hsq, sayO_fork, if_pos (by omega)]), (by omega), hb3, hb5, hb6, hrnd, hgo, HC⟩
     ·
      have c2 := of_decide_eq_false c2
      rw [hxx] at c2
      refine wc_skip ?_
      refine x_in_normal ?_
      refine x_round (e' := [(1, .slice (cutA Bz cz 1 66) (lz - 1) (cz - 1)), (3, .pointer (some ⟨g3, 0, none⟩)), (5, .pointer (some ⟨g5, 0, none⟩)), (6, .pointer (some ⟨g6, 0, none⟩))]) ⟨rfl, rfl, rfl, rfl, trivial⟩ (by rw [hm0]; omega) ⟨cutA Bz cz 1 66, lz - 1, cz - 1, y.nodes ++ (z.nodes ++ r), some y, z.nodes ++ r, rfl, rfl, hc1, rfl, (by rw [← hsq, sayO_fork, if_neg (by omega)]), (by omega), hb3, hb5, hb6, hrnd, hgo, HC⟩
    ·
     have c1 := of_decide_eq_false c1
     refine wc_exit ?_
     refine x_then_exit ?_
     refine x_then_exit ?_
     refine x_in_here ?_
     refine x_seq ?_
     refine wc_seq ?_
     refine wc_seq ?_
     refine wc_region ?_
     refine wl rfl rfl rfl (p_mv rfl) ?_
     obtain ⟨b14, o14, hA14, hF14, hr14⟩ := (hcu).opn (i := 0) (d := ND0) (by omega)
     have hok14 := (hcu).okAt (i := 0) (d := ND0) (by omega)
     obtain ⟨x14, ex14⟩ : ∃ x_, x_ = List.getD cur (0) ND0 := ⟨_, rfl⟩
     rw [← ex14] at hr14 hok14
     obtain ⟨hx14k, hx14v⟩ := hok14
     have hr14 : w9.rangeAt b14 (o14 + 0 * 66) (([i64 x14.kind, i64 x14.bit] ++ ((List.map u8v x14.key) ++ (List.map u8v x14.val))) : List Value) := hr14
     refine wl rfl rfl rfl (p_ixS (j := 0 * 66) Tryd.underlying33 sz115 rfl hA14 rfl (by omega) (by omega) rfl) ?_
     have hxz : x10 = x14 := ex10.trans ex14.symm
     rw [hxz] at hhd c1
     refine wl rfl rfl rfl (p_ldA (cs := (([i64 x14.kind, i64 x14.bit] ++ ((List.map u8v x14.key) ++ (List.map u8v x14.val))) : List Value)) Tryd.underlying115 rfl (szL sz115 (by first | rfl | (simp only [List.length_append, List.length_map, List.length_cons, List.length_nil, (show List.length x14.key = 32 from hx14k), (show List.length x14.val = 32 from hx14v)]; done) | (simp only [List.length_append, List.length_map, List.length_cons, List.length_nil, List.size_toArray, (show List.length x14.key = 32 from hx14k), (show List.length x14.val = 32 from hx14v)]; done))) rfl (fun _ e => e ▸ hr14)) ?_
     have hltg3 := hb3.lt
     have hltg5 := hb5.lt
     have hltg6 := hb6.lt
     refine wle rfl (e_alloc (cs := (([Value.int .i64 0, Value.int .i64 0] ++ ((List.map u8v (List.replicate 32 (0 : UInt8))) ++ (List.map u8v (List.replicate 32 (0 : UInt8))))) : List Value).toArray) rfl (by rfl) (by rfl) (fun w15 g12 hg12 hb12 hc hsz12 => ?_))
     have hzw15 := hc.size
     have HC := HC.tr hc
     have hcu := hcu.no hc
     have hb3 := hb3.ch hc (fun h => h)
     have hb5 := hb5.ch hc (fun h => h)
     have hb6 := hb6.ch hc (fun h => h)
     have hrnd := hrnd.no hc
     have hge12 : w.heap.size ≤ g12 := by have := HC.size; omega
     have neg3_12 : g3 < g12 := by omega
     have neg5_12 : g5 < g12 := by omega
     have neg6_12 : g6 < g12 := by omega
     refine wle rfl (e_stW (vs := (([i64 x14.kind, i64 x14.bit] ++ ((List.map u8v x14.key) ++ (List.map u8v x14.val))) : List Value)) (szL sz115 (by first | rfl | (simp only [List.length_append, List.length_map, List.length_cons, List.length_nil, (show List.length x14.key = 32 from hx14k), (show List.length x14.val = 32 from hx14v)]; done) | (simp only [List.length_append, List.length_map, List.length_cons, List.length_nil, List.size_toArray, (show List.length x14.key = 32 from hx14k), (show List.length x14.val = 32 from hx14v)]; done))) (oneA (allOne rfl) (oneA (oneL one_u8 _) (oneL one_u8 _))) rfl rfl hb12 (by first | rfl | (simp only [List.length_append, List.length_map, List.length_cons, List.length_nil, (show List.length (List.replicate 32 (0 : UInt8)) = 32 from (List.length_replicate ..)), (show List.length (List.replicate 32 (0 : UInt8)) = 32 from (List.length_replicate ..)), (show List.length x14.key = 32 from hx14k), (show List.length x14.val = 32 from hx14v)]; done) | (simp only [List.length_append, List.length_map, List.length_cons, List.length_nil, List.size_toArray, (show List.length (List.replicate 32 (0 : UInt8)) = 32 from (List.length_replicate ..)), (show List.length (List.replicate 32 (0 : UInt8)) = 32 from (List.length_replicate ..)), (show List.length x14.key = 32 from hx14k), (show List.length x14.val = 32 from hx14v)]; done)) (fun w16 hb12 hc hsz => ?_))
     have hzw16 := hc.size
     have HC := HC.trans hc (fun _ _ h => h) (fun k hk ht => absurd ht (by omega))
     have hcu := hcu.ch hc (by intro k hk ht; omega)
     have hb3 := hb3.ch hc (by omega)
     have hb5 := hb5.ch hc (by omega)
     have hb6 := hb6.ch hc (by omega)
     first | have hrnd := hrnd.ch hc (by intro k hk ht; omega) | have hrnd := hrnd.chT hc (by intro k hz hk ht; omega)
     refine wl_nil ?_
     refine x_seq ?_
     refine wc_block ?_
     refine wc_seq ?_
     refine wc_region ?_
     refine wl rfl rfl rfl (p_fld (j := 0) Tryd.underlying115 rfl ⟨_, by rfl⟩ rfl rfl) ?_
     refine wl rfl rfl rfl (p_ld Tryd.underlying3 rfl rfl (ld (cell_at (p := []) (v := (i64 x14.kind : Value)) (r := (([i64 x14.bit] ++ ((List.map u8v x14.key) ++ (List.map u8v x14.val))) : List Value)) hb12 (by simp only [List.append_assoc, List.cons_append, List.nil_append, List.append_nil]) (by first | rfl | (simp only [List.length_append, List.length_map, List.length_cons, List.length_nil]; done) | (simp only [List.length_append, List.length_map, List.length_cons, List.length_nil, List.size_toArray]; done))))) ?_
     refine wl rfl rfl rfl (p_eq rfl rfl) ?_
     refine wl rfl rfl rfl (p_as rfl) ?_
     refine wl_nil ?_
     refine x_seq ?_
     refine wc_if rfl (fun c3 => ?_) (fun c3 => ?_)
     ·
      have c3 := of_decide_eq_true c3
      refine wc_seq ?_
      refine wc_region ?_
      refine wl rfl rfl rfl (p_bldP (cs := ((List.replicate 32 (0 : UInt8)).map u8v).toArray) rfl (fun _ => by kernel_rfl)) ?_
      refine wle rfl (e_stH sz38 (List.length_replicate ..) (List.length_replicate ..) rfl rfl hb6 (fun w17 hb6 hc hsz => ?_))
      have hzw17 := hc.size
      have HC := HC.trans hc (fun _ _ h => h) (fun k hk ht => absurd ht (by omega))
      have hcu := hcu.ch hc (by intro k hk ht; omega)
      have hb3 := hb3.ch hc (by omega)
      have hb5 := hb5.ch hc (by omega)
      first | have hrnd := hrnd.ch hc (by intro k hk ht; omega) | have hrnd := hrnd.chT hc (by intro k hz hk ht; omega)
      have hb12 := hb12.ch hc (by omega)
      refine wl rfl rfl rfl (p_as rfl) ?_
      refine wl rfl rfl rfl (p_as rfl) ?_
      refine wl_nil ?_
      refine x_seq ?_
      refine wc_ret ?_
      refine x_in_ret ?_
      refine x_then_ret ?_
      refine fin_run (resMany (rs := [.cell 6 38, .tmp 7, .tmp 8]) rfl (.cellA (cs := List.map u8v (List.replicate 32 (0 : UInt8))) rfl Tryd.underlying38 rfl (szL sz38 (by rw [List.length_map]; exact (List.length_replicate ..))) (rngL hb6) (.tmp rfl (.tmp rfl (.nil)))) rfl) ?_
      have hck : checkN top l k = sayO k q := (check_yes hgd heq).trans hsq.symm
      rw [show checkN top l k = (zeroH, false, false) from hck.trans (say2 hhd c3)]; exact ⟨rfl, HC⟩
     ·
      have c3 := of_decide_eq_false c3
      refine wc_seq ?_
      refine wc_region ?_
      refine wl rfl rfl rfl (p_fld (j := 0) Tryd.underlying115 rfl ⟨_, by rfl⟩ rfl rfl) ?_
      refine wl rfl rfl rfl (p_ld Tryd.underlying3 rfl rfl (ld (cell_at (p := []) (v := (i64 x14.kind : Value)) (r := (([i64 x14.bit] ++ ((List.map u8v x14.key) ++ (List.map u8v x14.val))) : List Value)) hb12 (by simp only [List.append_assoc, List.cons_append, List.nil_append, List.append_nil]) (by first | rfl | (simp only [List.length_append, List.length_map, List.length_cons, List.length_nil]; done) | (simp only [List.length_append, List.length_map, List.length_cons, List.length_nil, List.size_toArray]; done))))) ?_
      refine wl rfl rfl rfl (p_eq rfl rfl) ?_
      refine wl rfl rfl rfl (p_mv rfl) ?_
      refine wl_split (d := 57) rfl (fun q57 => ?_) (fun q57 => ?_)
      ·
       have q57 := of_decide_eq_true q57
       refine wl_g (gd_ rfl rfl rfl rfl rfl rfl) rfl rfl (p_fld (j := 2) Tryd.underlying115 rfl ⟨_, by rfl⟩ rfl rfl) ?_
       refine wl_g (gd_ rfl rfl rfl rfl rfl rfl) rfl rfl (p_ldA (cs := (List.map u8v x14.key)) Tryd.underlying38 rfl (szL sz38 (by first | rfl | (simp only [List.length_append, List.length_map, List.length_cons, List.length_nil, (show List.length x14.key = 32 from hx14k)]; done) | (simp only [List.length_append, List.length_map, List.length_cons, List.length_nil, List.size_toArray, (show List.length x14.key = 32 from hx14k)]; done))) rfl (fun _ e => e ▸ rng_at (p := ([i64 x14.kind, i64 x14.bit] : List Value)) (q := ((List.map u8v x14.key) : List Value)) (r := ((List.map u8v x14.val) : List Value)) hb12 (by simp only [List.append_assoc, List.cons_append, List.nil_append, List.append_nil]) (by first | rfl | (simp only [List.length_append, List.length_map, List.length_cons, List.length_nil]; done) | (simp only [List.length_append, List.length_map, List.length_cons, List.length_nil, List.size_toArray]; done)))) ?_
       refine wl_g (gd_ rfl rfl rfl rfl rfl rfl) rfl rfl (p_ldH (L := k) Tryd.underlying38 sz38 hk rfl (fun _ e => e ▸ rngL hb5)) ?_
       refine wl_g (gd_ rfl rfl rfl rfl rfl rfl) rfl rfl (p_eqH (a := x14.key) (b := k) (by kernel_rfl) Tryd.underlying38 Tryd.underlying5 sz5 rfl rfl (hx14k) (hk)) ?_
       refine wl rfl rfl rfl (p_pickT rfl rfl) ?_
       refine wl rfl rfl rfl (p_as rfl) ?_
       refine wl_nil ?_
       refine x_seq ?_
       refine wc_if rfl (fun c4 => ?_) (fun c4 => ?_)
       ·
        refine wc_seq ?_
        refine wc_region ?_
        refine wl rfl rfl rfl (p_fld (j := 34) Tryd.underlying115 rfl ⟨_, by rfl⟩ rfl rfl) ?_
        refine wl rfl rfl rfl (p_ldA (cs := (List.map u8v x14.val)) Tryd.underlying38 rfl (szL sz38 (by first | rfl | (simp only [List.length_append, List.length_map, List.length_cons, List.length_nil, (show List.length x14.val = 32 from hx14v)]; done) | (simp only [List.length_append, List.length_map, List.length_cons, List.length_nil, List.size_toArray, (show List.length x14.val = 32 from hx14v)]; done))) rfl (fun _ e => e ▸ rng_at (p := (([i64 x14.kind, i64 x14.bit] ++ (List.map u8v x14.key)) : List Value)) (q := ((List.map u8v x14.val) : List Value)) (r := []) hb12 (by simp only [List.append_assoc, List.cons_append, List.nil_append, List.append_nil]) (by first | rfl | (simp only [List.length_append, List.length_map, List.length_cons, List.length_nil, (show List.length x14.key = 32 from hx14k)]; done) | (simp only [List.length_append, List.length_map, List.length_cons, List.length_nil, List.size_toArray, (show List.length x14.key = 32 from hx14k)]; done)))) ?_
        refine wle rfl (e_stH sz38 (List.length_replicate ..) hx14v rfl rfl hb6 (fun w18 hb6 hc hsz => ?_))
        have hzw18 := hc.size
        have HC := HC.trans hc (fun _ _ h => h) (fun k hk ht => absurd ht (by omega))
        have hcu := hcu.ch hc (by intro k hk ht; omega)
        have hb3 := hb3.ch hc (by omega)
        have hb5 := hb5.ch hc (by omega)
        first | have hrnd := hrnd.ch hc (by intro k hk ht; omega) | have hrnd := hrnd.chT hc (by intro k hz hk ht; omega)
        have hb12 := hb12.ch hc (by omega)
        refine wl rfl rfl rfl (p_as rfl) ?_
        refine wl rfl rfl rfl (p_as rfl) ?_
        refine wl_nil ?_
        refine x_seq ?_
        refine wc_ret ?_
        refine x_in_ret ?_
        refine x_then_ret ?_
        refine fin_run (resMany (rs := [.cell 6 38, .tmp 7, .tmp 8]) rfl (.cellA (cs := List.map u8v x14.val) rfl Tryd.underlying38 rfl (szL sz38 (by rw [List.length_map]; exact hx14v)) (rngL hb6) (.tmp rfl (.tmp rfl (.nil)))) rfl) ?_
        have hck : checkN top l k = sayO k q := (check_yes hgd heq).trans hsq.symm
        have hkk : x14.key = k := by simpa using c4
        rw [show checkN top l k = (x14.val, true, true) from hck.trans ((say3 hhd q57).trans (if_pos hkk))]; exact ⟨rfl, HC⟩
       ·
        refine wc_skip ?_
        refine x_in_normal ?_
        refine x_seq ?_
        refine wc_seq ?_
        refine wc_region ?_
        refine wl rfl rfl rfl (p_bldP (cs := ((List.replicate 32 (0 : UInt8)).map u8v).toArray) rfl (fun _ => by kernel_rfl)) ?_
        refine wle rfl (e_stH sz38 (List.length_replicate ..) (List.length_replicate ..) rfl rfl hb6 (fun w19 hb6 hc hsz => ?_))
        have hzw19 := hc.size
        have HC := HC.trans hc (fun _ _ h => h) (fun k hk ht => absurd ht (by omega))
        have hcu := hcu.ch hc (by intro k hk ht; omega)
        have hb3 := hb3.ch hc (by omega)
        have hb5 := hb5.ch hc (by omega)
        first | have hrnd := hrnd.ch hc (by intro k hk ht; omega) | have hrnd := hrnd.chT hc (by intro k hz hk ht; omega)
        have hb12 := hb12.ch hc (by omega)
        refine wl rfl rfl rfl (p_as rfl) ?_
        refine wl rfl rfl rfl (p_as rfl) ?_
        refine wl_nil ?_
        refine x_seq ?_
        refine wc_ret ?_
        refine fin_run (resMany (rs := [.cell 6 38, .tmp 7, .tmp 8]) rfl (.cellA (cs := List.map u8v (List.replicate 32 (0 : UInt8))) rfl Tryd.underlying38 rfl (szL sz38 (by rw [List.length_map]; exact (List.length_replicate ..))) (rngL hb6) (.tmp rfl (.tmp rfl (.nil)))) rfl) ?_
        have hck : checkN top l k = sayO k q := (check_yes hgd heq).trans hsq.symm
        rw [show checkN top l k = (zeroH, false, true) from hck.trans (say1 hhd c3 (by rintro ⟨_, h2⟩; simp [h2] at c4) (by assumption))]; exact ⟨rfl, HC⟩
      ·
       have q57 := of_decide_eq_false q57
       refine wl_s (gd_ rfl rfl rfl rfl rfl rfl) rfl rfl ?_
       refine wl_s (gd_ rfl rfl rfl rfl rfl rfl) rfl rfl ?_
       refine wl_s (gd_ rfl rfl rfl rfl rfl rfl) rfl rfl ?_
       refine wl_s (gd_ rfl rfl rfl rfl rfl rfl) rfl rfl ?_
       refine wl rfl rfl rfl (p_pickF rfl rfl) ?_
       refine wl rfl rfl rfl (p_as rfl) ?_
       refine wl_nil ?_
       refine x_seq ?_
       refine wc_no rfl (rfl) ?_
       refine wc_skip ?_
       refine x_in_normal ?_
       refine x_seq ?_
       refine wc_seq ?_
       refine wc_region ?_
       refine wl rfl rfl rfl (p_bldP (cs := ((List.replicate 32 (0 : UInt8)).map u8v).toArray) rfl (fun _ => by kernel_rfl)) ?_
       refine wle rfl (e_stH sz38 (List.length_replicate ..) (List.length_replicate ..) rfl rfl hb6 (fun w20 hb6 hc hsz => ?_))
       have hzw20 := hc.size
       have HC := HC.trans hc (fun _ _ h => h) (fun k hk ht => absurd ht (by omega))
       have hcu := hcu.ch hc (by intro k hk ht; omega)
       have hb3 := hb3.ch hc (by omega)
       have hb5 := hb5.ch hc (by omega)
       first | have hrnd := hrnd.ch hc (by intro k hk ht; omega) | have hrnd := hrnd.chT hc (by intro k hz hk ht; omega)
       have hb12 := hb12.ch hc (by omega)
       refine wl rfl rfl rfl (p_as rfl) ?_
       refine wl rfl rfl rfl (p_as rfl) ?_
       refine wl_nil ?_
       refine x_seq ?_
       refine wc_ret ?_
       refine fin_run (resMany (rs := [.cell 6 38, .tmp 7, .tmp 8]) rfl (.cellA (cs := List.map u8v (List.replicate 32 (0 : UInt8))) rfl Tryd.underlying38 rfl (szL sz38 (by rw [List.length_map]; exact (List.length_replicate ..))) (rngL hb6) (.tmp rfl (.tmp rfl (.nil)))) rfl) ?_
       have hck : checkN top l k = sayO k q := (check_yes hgd heq).trans hsq.symm
       rw [show checkN top l k = (zeroH, false, true) from hck.trans (say1 hhd c3 (by rintro ⟨h1, _⟩; exact q57 h1) (by assumption))]; exact ⟨rfl, HC⟩

set_option maxHeartbeats 1000000 in
set_option maxRecDepth 20000 in
theorem mkeys27 {w : World}  {Am : Option Addr} {lm cm : Nat} {Fm : Nat → Prop} {l : List ND} (hm : SI w Fm eND Am lm cm l) (hl : lm ≤ 1000000) (hrnd : Sl w (fun k => k = 0) u32v (some ⟨0, 0, none⟩) 64 64 rk) :
    Calls Tryd.prog 62 #[.slice Am lm cm] w fun e w' => ∃ A c lk, e = .returned (.slice A lk c) ∧ RI w' (fun k => w.heap.size ≤ k) 38 eH A lk c (keysN l) ∧ Ch No w w' := by
  have hn0 : 0 < w.heap.size := hrnd.size (by omega) rfl
  have hn1 := hn0
  have hml := hm.len
  have hm := hm.old
  have HC : Ch No w w := Ch.refl _ _
  refine enter' (args := [.slice Am lm cm]) (n := 25) Tryd.func62 rfl rfl rfl ?_
  refine wc_seq ?_
  refine wc_region ?_
  refine wl rfl rfl rfl (p_as rfl) ?_
  refine wl_nil ?_
  refine x_seq ?_
  refine wc_seq ?_
  refine wc_seq ?_
  refine wc_region ?_
  refine wl rfl rfl rfl (p_mv rfl) ?_
  refine wle rfl (e_call ent60 rfl rfl (mgood27 (hm) (by omega) hrnd) ?_)
  rintro _ w1 ⟨rfl, hc⟩
  refine ⟨_, rfl, ?_⟩
  have hzw1 := hc.size
  have HC := HC.tr hc
  have hm := hm.no hc
  have hrnd := hrnd.no hc
  refine wl rfl rfl rfl (p_not rfl) ?_
  refine wl_nil ?_
  refine x_seq ?_
  refine wc_if rfl (fun c0 => ?_) (fun c0 => ?_)
  ·
   have hg0 : (rootN l).2 = false := by simpa using c0
   refine wc_seq ?_
   refine wc_region ?_
   refine wl rfl rfl rfl (p_as rfl) ?_
   refine wl_nil ?_
   refine x_seq ?_
   refine wc_ret ?_
   refine x_then_ret ?_
   refine fin_run ((res1 rfl rfl)) ?_
   exact ⟨_, _, _, rfl, by rw [keys_no hg0]; exact RI.nil _ _ _ _, HC⟩
  ·
   have hg1 : (rootN l).2 = true := by simpa using c0
   refine wc_skip ?_
   refine x_seq ?_
   refine wc_seq ?_
   refine wc_region ?_
   refine wl rfl rfl rfl (p_as rfl) ?_
   refine wl_nil ?_
   refine x_seq ?_
   refine wc_seq ?_
   refine wc_seq ?_
   refine wc_region ?_
   refine wl rfl rfl rfl (p_mv rfl) ?_
   refine wl rfl rfl rfl (p_lenS Tryd.underlying33 rfl) ?_
   refine wl rfl rfl rfl (p_mv rfl) ?_
   refine wl_nil ?_
   refine x_seq ?_
   refine wc_block ?_
   refine wc_loop (e' := [(3, .slice (none) (0) (0)), (9, .slice Am lm cm), (10, i64 (lm : Int)), (11, i64 ((0) : Int))]) (fun mz ez uz => ∃ i : Nat, ∃ ys : List H8, ∃ A : Option Addr, ∃ lw : Nat, ∃ c : Nat, mz = lm - i ∧ ez = [(3, .slice A lw c), (9, .slice Am lm cm), (10, i64 (lm : Int)), (11, i64 (i : Int))] ∧ (i ≤ lm) ∧ (lw ≤ i) ∧ (ys = ((l.take i).filter fun x => decide (x.kind = 3)).map ND.key) ∧ (RI uz (fun k => w.heap.size ≤ k) 38 eH A lw c ys) ∧ (SI uz (fun k => k < w.heap.size) eND Am lm cm l) ∧ (Ch No w uz))
    ⟨rfl, rfl, rfl, rfl, trivial⟩ ⟨0, [], none, 0, 0, rfl, rfl, (by omega), (by omega), rfl, RI.nil _ _ _ _, hm, HC⟩ ?_
   rintro m0 e w2 ⟨i, ys, A, lw, c, hm0, rfl, hi, hyl, hys, hW, hm, HC⟩
   have hzw2 := HC.size
   refine wc_seq ?_
   refine wc_region ?_
   refine wl rfl rfl rfl (p_lt rfl rfl) ?_
   refine wl_nil ?_
   refine x_seq ?_
   refine wc_seq ?_
   refine wc_if rfl (fun c1 => ?_) (fun c1 => ?_)
   ·
    have c1 := of_decide_eq_true c1
    refine wc_skip ?_
    refine x_seq ?_
    refine wc_seq ?_
    refine wc_block ?_
    refine wc_seq ?_
    refine wc_region ?_
    obtain ⟨b3, o3, hA3, hF3, hr3⟩ := (hm).opn (i := i) (d := ND0) (by omega)
    have hok3 := (hm).okAt (i := i) (d := ND0) (by omega)
    obtain ⟨x3, ex3⟩ : ∃ x_, x_ = List.getD l (i) ND0 := ⟨_, rfl⟩
    rw [← ex3] at hr3 hok3
    obtain ⟨hx3k, hx3v⟩ := hok3
    have hr3 : w2.rangeAt b3 (o3 + i * 66) (([i64 x3.kind, i64 x3.bit] ++ ((List.map u8v x3.key) ++ (List.map u8v x3.val))) : List Value) := hr3
    refine wl rfl rfl rfl (p_ixS (j := i * 66) Tryd.underlying33 sz115 rfl hA3 rfl (by omega) (by omega) (congrArg (· * 66) (Int.toNat_natCast _))) ?_
    have hdr : l.take (i + 1) = l.take i ++ [x3] := by rw [ex3]; exact getD_take (by omega)
    refine wl rfl rfl rfl (p_ldA (cs := (([i64 x3.kind, i64 x3.bit] ++ ((List.map u8v x3.key) ++ (List.map u8v x3.val))) : List Value)) Tryd.underlying115 rfl (szL sz115 (by first | rfl | (simp only [List.length_append, List.length_map, List.length_cons, List.length_nil, (show List.length x3.key = 32 from hx3k), (show List.length x3.val = 32 from hx3v)]; done) | (simp only [List.length_append, List.length_map, List.length_cons, List.length_nil, List.size_toArray, (show List.length x3.key = 32 from hx3k), (show List.length x3.val = 32 from hx3v)]; done))) rfl (fun _ e => e ▸ hr3)) ?_
    refine wle rfl (e_alloc (cs := (([Value.int .i64 0, Value.int .i64 0] ++ ((List.map u8v (List.replicate 32 (0 : UInt8))) ++ (List.map u8v (List.replicate 32 (0 : UInt8))))) : List Value).toArray) rfl (by rfl) (by rfl) (fun w4 g5 hg5 hb5 hc hsz5 => ?_))
    have hzw4 := hc.size
    have HC := HC.tr hc
    have hW := hW.after hc
    have hm := hm.no hc
    have hge5 : w.heap.size ≤ g5 := by have := HC.size; omega
    refine wle rfl (e_stW (vs := (([i64 x3.kind, i64 x3.bit] ++ ((List.map u8v x3.key) ++ (List.map u8v x3.val))) : List Value)) (szL sz115 (by first | rfl | (simp only [List.length_append, List.length_map, List.length_cons, List.length_nil, (show List.length x3.key = 32 from hx3k), (show List.length x3.val = 32 from hx3v)]; done) | (simp only [List.length_append, List.length_map, List.length_cons, List.length_nil, List.size_toArray, (show List.length x3.key = 32 from hx3k), (show List.length x3.val = 32 from hx3v)]; done))) (oneA (allOne rfl) (oneA (oneL one_u8 _) (oneL one_u8 _))) rfl rfl hb5 (by first | rfl | (simp only [List.length_append, List.length_map, List.length_cons, List.length_nil, (show List.length (List.replicate 32 (0 : UInt8)) = 32 from (List.length_replicate ..)), (show List.length (List.replicate 32 (0 : UInt8)) = 32 from (List.length_replicate ..)), (show List.length x3.key = 32 from hx3k), (show List.length x3.val = 32 from hx3v)]; done) | (simp only [List.length_append, List.length_map, List.length_cons, List.length_nil, List.size_toArray, (show List.length (List.replicate 32 (0 : UInt8)) = 32 from (List.length_replicate ..)), (show List.length (List.replicate 32 (0 : UInt8)) = 32 from (List.length_replicate ..)), (show List.length x3.key = 32 from hx3k), (show List.length x3.val = 32 from hx3v)]; done)) (fun w5 hb5 hc hsz => ?_))
    have hzw5 := hc.size
    have HC := HC.trans hc (fun _ _ h => h) (fun k hk ht => absurd ht (by omega))
    have hW := hW.ch hc (by intro k hz hk ht; omega)
    have hm := hm.ch hc (by intro k hk ht; omega)
    refine wl_nil ?_
    refine x_seq ?_
    refine wc_seq ?_
    refine wc_region ?_
    refine wl rfl rfl rfl (p_fld (j := 0) Tryd.underlying115 rfl ⟨_, by rfl⟩ rfl rfl) ?_
    refine wl rfl rfl rfl (p_ld Tryd.underlying3 rfl rfl (ld (cell_at (p := []) (v := (i64 x3.kind : Value)) (r := (([i64 x3.bit] ++ ((List.map u8v x3.key) ++ (List.map u8v x3.val))) : List Value)) hb5 (by simp only [List.append_assoc, List.cons_append, List.nil_append, List.append_nil]) (by first | rfl | (simp only [List.length_append, List.length_map, List.length_cons, List.length_nil]; done) | (simp only [List.length_append, List.length_map, List.length_cons, List.length_nil, List.size_toArray]; done))))) ?_
    refine wl rfl rfl rfl (p_eq rfl rfl) ?_
    refine wl_nil ?_
    refine x_seq ?_
    refine wc_if rfl (fun c2 => ?_) (fun c2 => ?_)
    ·
     have c2 := of_decide_eq_true c2
     refine wc_region ?_
     refine wl rfl rfl rfl (p_mv rfl) ?_
     refine wl rfl rfl rfl (p_fld (j := 2) Tryd.underlying115 rfl ⟨_, by rfl⟩ rfl rfl) ?_
     refine wl rfl rfl rfl (p_ldA (cs := (List.map u8v x3.key)) Tryd.underlying38 rfl (szL sz38 (by first | rfl | (simp only [List.length_append, List.length_map, List.length_cons, List.length_nil, (show List.length x3.key = 32 from hx3k)]; done) | (simp only [List.length_append, List.length_map, List.length_cons, List.length_nil, List.size_toArray, (show List.length x3.key = 32 from hx3k)]; done))) rfl (fun _ e => e ▸ rng_at (p := ([i64 x3.kind, i64 x3.bit] : List Value)) (q := ((List.map u8v x3.key) : List Value)) (r := ((List.map u8v x3.val) : List Value)) hb5 (by simp only [List.append_assoc, List.cons_append, List.nil_append, List.append_nil]) (by first | rfl | (simp only [List.length_append, List.length_map, List.length_cons, List.length_nil]; done) | (simp only [List.length_append, List.length_map, List.length_cons, List.length_nil, List.size_toArray]; done)))) ?_
     have hltg5 := hb5.lt
     refine wle rfl (e_bslX (E := 38) (cs := ((List.map u8v x3.key) : List Value)) (cs' := ((hx x3.key) : List Value)) rfl rfl (by simp only [hv, map_hx hx3k] <;> rfl) (fun _ => by kernel_rfl) (fun w6 g21 hg21 hb21 hc hsz21 => ?_))
     have hzw6 := hc.size
     have HC := HC.tr hc
     have hW := hW.after hc
     have hm := hm.no hc
     have hb5 := hb5.ch hc (fun h => h)
     have hge21 : w.heap.size ≤ g21 := by have := HC.size; omega
     have hS21 := SI.oneA (E := eH) (x := x3.key) hb21 rfl hx3k
     have hltg5 := hb5.lt
     refine wle rfl (e_appI rfl el23 rfl rfl hW (hS21) (by omega) (by intro k hk; first | omega | (dsimp only at *; omega)) (fun w7 A22 c22 hW hc => ?_))
     have hzw7 := hc.size
     have HC := HC.trans hc (fun _ _ h => h) (fun k hk ht => absurd ht (by omega))
     have hm := hm.ch hc (by intro k hk ht; omega)
     have hb5 := hb5.ch hc (by omega)
     first | have hS21 := hS21.ch hc (by intro k hk ht; omega) | have hS21 := hS21.chT hc (by intro k hz hk ht; omega)
     refine wl rfl rfl rfl (p_as rfl) ?_
     refine wl_nil ?_
     refine x_in_normal ?_
     refine x_seq ?_
     refine wc_region ?_
     refine wl rfl rfl rfl (p_add rfl rfl (w64 (by omega))) ?_
     refine wl rfl rfl rfl (p_mv rfl) ?_
     refine wl_nil ?_
     refine x_round (e' := [(3, .slice (_) (_) (_)), (9, .slice Am lm cm), (10, i64 (lm : Int)), (11, i64 ((i + 1) : Int))]) ⟨rfl, rfl, rfl, rfl, trivial⟩ (by rw [hm0]; omega) ⟨i + 1, _, _, _, _, rfl, rfl, (by omega), (by omega), (by rw [hdr, List.filter_append, List.map_append, ← hys]; simp [c2]), (hW.mono (fun k _ hk => by first | exact hk | exact hk.1 | exact hk.1.1 | exact hk.1.1.1 | (dsimp only at *; omega))), hm, HC⟩
    ·
     have c2 := of_decide_eq_false c2
     refine wc_skip ?_
     refine x_in_normal ?_
     refine x_seq ?_
     refine wc_region ?_
     refine wl rfl rfl rfl (p_add rfl rfl (w64 (by omega))) ?_
     refine wl rfl rfl rfl (p_mv rfl) ?_
     refine wl_nil ?_
     refine x_round (e' := [(3, .slice (_) (_) (_)), (9, .slice Am lm cm), (10, i64 (lm : Int)), (11, i64 ((i + 1) : Int))]) ⟨rfl, rfl, rfl, rfl, trivial⟩ (by rw [hm0]; omega) ⟨i + 1, _, _, _, _, rfl, rfl, (by omega), (by omega), (by rw [hdr, List.filter_append, List.map_append, ← hys]; simp [c2]), (hW.mono (fun k _ hk => by first | exact hk | exact hk.1 | exact hk.1.1 | exact hk.1.1.1 | (dsimp only at *; omega))), hm, HC⟩
   ·
    have c1 := of_decide_eq_false c1
    refine wc_exit ?_
    refine x_then_exit ?_
    refine x_then_exit ?_
    refine x_in_here ?_
    refine x_seq ?_
    refine wc_seq ?_
    refine wc_region ?_
    refine wl rfl rfl rfl (p_mv rfl) ?_
    refine wl rfl rfl rfl (p_as rfl) ?_
    refine wl_nil ?_
    refine x_seq ?_
    refine wc_ret ?_
    refine fin_run ((res1 rfl rfl)) ?_
    rw [List.take_of_length_le (by omega), ← keys_yes hg1] at hys
    exact ⟨_, _, _, rfl, hys ▸ hW, HC⟩

set_option maxHeartbeats 1000000 in
set_option maxRecDepth 20000 in
theorem made27_any {w : World}  {Al : Option Addr} {ll cl : Nat} {Fl : Nat → Prop} {l : List (H8 × H8)} (hin : SI w Fl eIT Al ll cl l) (hll : ll ≤ 1000) :
    Calls Tryd.prog 21 #[.slice Al ll cl] w fun e w' => ∃ v o A lm cm, e = .returned (.tuple #[v, .slice A lm cm]) ∧ TR 41 156 (fun k => w.heap.size ≤ k) w' v o ∧ eo o = mkT l ∧ RI w' (fun k => w.heap.size ≤ k) 81 eIT A lm cm (itemsT (mkT l)) ∧ Ch No w w' := by
  have hinl := hin.len
  have hok := hin.ok
  have hin := hin.old
  have HC : Ch No w w := Ch.refl _ _
  refine enter' (args := [.slice Al ll cl]) (n := 30) Tryd.func21 rfl rfl rfl ?_
  refine wc_seq ?_
  refine wc_region ?_
  refine wl rfl rfl rfl (p_as rfl) ?_
  refine wl rfl rfl rfl (p_as rfl) ?_
  refine wl_nil ?_
  refine x_seq ?_
  refine wc_seq ?_
  refine wc_region ?_
  refine wle rfl (e_call ent51 rfl rfl (new_any) ?_)
  rintro _ w1 ⟨v8, rfl, hV8, hc⟩
  refine ⟨_, rfl, ?_⟩
  have hzw1 := hc.size
  have HC := HC.tr hc
  have hin := hin.no hc
  have hV8 := hV8.mono (G := fun k => w.heap.size ≤ k ∧ k < w1.heap.size) (fun k h1 h2 => ⟨h2, h1⟩)
  refine wl rfl rfl rfl (p_as rfl) ?_
  refine wl_nil ?_
  refine x_seq ?_
  refine wc_seq ?_
  refine wc_region ?_
  refine wl rfl rfl rfl (p_as rfl) ?_
  refine wl_nil ?_
  refine x_seq ?_
  refine wc_seq ?_
  refine wc_seq ?_
  refine wc_region ?_
  refine wl rfl rfl rfl (p_mv rfl) ?_
  refine wl rfl rfl rfl (p_lenS Tryd.underlying22 rfl) ?_
  refine wl rfl rfl rfl (p_mv rfl) ?_
  refine wl_nil ?_
  refine x_seq ?_
  refine wc_block ?_
  refine wc_loop (e' := [(4, (_)), (5, .slice (none) (0) (0)), (9, .slice Al ll cl), (10, i64 (ll : Int)), (11, i64 ((0) : Int))]) (fun mz ez uz => ∃ i : Nat, ∃ v : Value, ∃ o : Option LT, ∃ Am : Option Addr, ∃ lm : Nat, ∃ cm : Nat, mz = ll - i ∧ ez = [(4, v), (5, .slice Am lm cm), (9, .slice Al ll cl), (10, i64 (ll : Int)), (11, i64 (i : Int))] ∧ (i ≤ ll) ∧ (eo o = mkT (l.take i)) ∧ (TR 41 156 (fun k => w.heap.size ≤ k) uz v o) ∧ (RI uz (fun k => w.heap.size ≤ k) 81 eIT Am lm cm (itemsT (mkT (l.take i)))) ∧ (SI uz (fun k => k < w.heap.size) eIT Al ll cl l) ∧ (Ch No w uz))
   ⟨rfl, rfl, rfl, rfl, rfl, trivial⟩ ⟨0, _, _, none, 0, 0, rfl, rfl, (by omega), rfl, (hV8.mono (fun k _ h => by have := h.1; show w.heap.size ≤ k; omega)), RI.nil _ _ _ _, hin, HC⟩ ?_
  rintro m0 e w2 ⟨i, v, o, Am, lm, cm, hm0, rfl, hi, heo, hV, hM, hin, HC⟩
  have hzw2 := HC.size
  have hV := hV.mono (G := fun k => w.heap.size ≤ k ∧ k < w2.heap.size) (fun k h1 h2 => ⟨by first | exact h2 | exact h2.1 | ((try dsimp only at h2); omega), h1⟩)
  have hM := hM.mono (G := fun k => w.heap.size ≤ k ∧ k < w2.heap.size) (fun k h1 h2 => ⟨by first | exact h2 | exact h2.1 | ((try dsimp only at h2); omega), h1⟩)
  refine wc_seq ?_
  refine wc_region ?_
  refine wl rfl rfl rfl (p_lt rfl rfl) ?_
  refine wl_nil ?_
  refine x_seq ?_
  refine wc_seq ?_
  refine wc_if rfl (fun c0 => ?_) (fun c0 => ?_)
  ·
   have c0 := of_decide_eq_true c0
   refine wc_skip ?_
   refine x_seq ?_
   refine wc_seq ?_
   refine wc_block ?_
   refine wc_seq ?_
   refine wc_region ?_
   obtain ⟨b3, o3, hA3, hF3, hr3⟩ := (hin).opn (i := i) (d := (zeroH, zeroH)) (by omega)
   have hok3 := (hin).okAt (i := i) (d := (zeroH, zeroH)) (by omega)
   obtain ⟨x3, ex3⟩ : ∃ x_, x_ = List.getD l (i) (zeroH, zeroH) := ⟨_, rfl⟩
   rw [← ex3] at hr3 hok3
   obtain ⟨hx3k, hx3v⟩ := hok3
   have hr3 : w2.rangeAt b3 (o3 + i * 64) (((List.map u8v x3.1) ++ (List.map u8v x3.2)) : List Value) := hr3
   refine wl rfl rfl rfl (p_ixS (j := i * 64) Tryd.underlying22 sz116 rfl hA3 rfl (by omega) (by omega) (congrArg (· * 64) (Int.toNat_natCast _))) ?_
   have hmk : mkT (l.take (i + 1)) = putT (mkT (l.take i)) x3.1 x3.2 := by rw [ex3]; exact mkT_take (by omega)
   obtain ⟨hwf, hct⟩ := mkT_ok l i hok (by omega)
   have hcnt : cntT (eo o) + 1 ≤ 4611686018427387904 := by rw [heo]; omega
   have hml : lm = cntT (mkT (l.take i)) := by rw [← itemsT_cnt]; exact hM.len.symm
   refine wl rfl rfl rfl (p_ldA (cs := (((List.map u8v x3.1) ++ (List.map u8v x3.2)) : List Value)) Tryd.underlying116 rfl (szL sz116 (by first | rfl | (simp only [List.length_append, List.length_map, List.length_cons, List.length_nil, (show List.length x3.1 = 32 from hx3k), (show List.length x3.2 = 32 from hx3v)]; done) | (simp only [List.length_append, List.length_map, List.length_cons, List.length_nil, List.size_toArray, (show List.length x3.1 = 32 from hx3k), (show List.length x3.2 = 32 from hx3v)]; done))) rfl (fun _ e => e ▸ hr3)) ?_
   refine wle rfl (e_alloc (cs := (((List.map u8v (List.replicate 32 (0 : UInt8))) ++ (List.map u8v (List.replicate 32 (0 : UInt8)))) : List Value).toArray) rfl (by rfl) rfl (fun w4 g7 hg7 hb7 hc hsz7 => ?_))
   have hzw4 := hc.size
   have HC := HC.tr hc
   have hin := hin.no hc
   have hV := hV.ch hc (by first | exact fun _ _ _ h => h | (intro k hk hF ht; have h2 := hF.1; have h3 := hF.2; first | omega | (dsimp only at *; omega)))
   have hM := hM.after hc
   have hge7 : w.heap.size ≤ g7 := by have := HC.size; omega
   refine wle rfl (e_stW (vs := (((List.map u8v x3.1) ++ (List.map u8v x3.2)) : List Value)) (szL sz116 (by first | rfl | (simp only [List.length_append, List.length_map, List.length_cons, List.length_nil, (show List.length x3.1 = 32 from hx3k), (show List.length x3.2 = 32 from hx3v)]; done) | (simp only [List.length_append, List.length_map, List.length_cons, List.length_nil, List.size_toArray, (show List.length x3.1 = 32 from hx3k), (show List.length x3.2 = 32 from hx3v)]; done))) (oneA (oneL one_u8 _) (oneL one_u8 _)) rfl rfl hb7 (by first | rfl | (simp only [List.length_append, List.length_map, List.length_cons, List.length_nil, (show List.length (List.replicate 32 (0 : UInt8)) = 32 from (List.length_replicate ..)), (show List.length (List.replicate 32 (0 : UInt8)) = 32 from (List.length_replicate ..)), (show List.length x3.1 = 32 from hx3k), (show List.length x3.2 = 32 from hx3v)]; done) | (simp only [List.length_append, List.length_map, List.length_cons, List.length_nil, List.size_toArray, (show List.length (List.replicate 32 (0 : UInt8)) = 32 from (List.length_replicate ..)), (show List.length (List.replicate 32 (0 : UInt8)) = 32 from (List.length_replicate ..)), (show List.length x3.1 = 32 from hx3k), (show List.length x3.2 = 32 from hx3v)]; done)) (fun w5 hb7 hc hsz => ?_))
   have hzw5 := hc.size
   have HC := HC.trans hc (fun _ _ h => h) (fun k hk ht => absurd ht (by omega))
   have hin := hin.ch hc (by intro k hk ht; omega)
   have hV := hV.ch hc (by first | exact fun _ _ _ h => h | (intro k hk hF ht; have h2 := hF.1; have h3 := hF.2; first | omega | (dsimp only at *; omega)))
   have hM := hM.ch hc (by intro k hz hk ht; omega)
   refine wl_nil ?_
   refine x_seq ?_
   refine wc_draw (.st 0 0 (.st 1 0 (.st 2 1 (.st 3 0 (.st 4 1 (.st 6 0 (.st 7 0 (.st 8 1 (.st 9 0 (.st 10 1 (.st 5 2 (.st 11 2 (.st 12 0 (.st 13 0 .nil)))))))))))))) 14 (by kernel_rfl) (by kernel_rfl) (by kernel_rfl) (by repeat (first | with_reducible exact pan_body | with_reducible apply pan_then | with_reducible apply pan_in)) (fun x => Ch No w5.drew x) (Ch.refl _ _) ?_
   obtain ⟨w6, ew6⟩ : ∃ x, x = w5.drew := ⟨_, rfl⟩
   rw [← ew6]
   have hc : Ch No w5 w6 := by rw [ew6]; exact Ch.drew _
   have hszw6 : w6.heap.size = w5.heap.size := by rw [ew6]; rfl
   clear ew6
   have hzw6 := hc.size
   have HC := HC.tr hc
   have hin := hin.no hc
   have hV := hV.ch hc (by first | exact fun _ _ _ h => h | (intro k hk hF ht; have h2 := hF.1; have h3 := hF.2; first | omega | (dsimp only at *; omega)))
   have hM := hM.no hc
   have hb7 := hb7.ch hc (fun h => h)
   have hS : Ch No w6 w6 := Ch.refl _ _
   refine ws_p rfl rfl rfl rfl (p_mv rfl) ?_
   refine ws_p rfl rfl rfl rfl (p_fld (j := 0) Tryd.underlying116 rfl ⟨_, by rfl⟩ rfl rfl) ?_
   refine ws_h rfl rfl rfl rfl (p_ldA (cs := (List.map u8v x3.1)) Tryd.underlying38 rfl (szL sz38 (by first | rfl | (simp only [List.length_append, List.length_map, List.length_cons, List.length_nil, (show List.length x3.1 = 32 from hx3k)]; done) | (simp only [List.length_append, List.length_map, List.length_cons, List.length_nil, List.size_toArray, (show List.length x3.1 = 32 from hx3k)]; done))) rfl (fun _ h => rng_at (p := []) (q := ((List.map u8v x3.1) : List Value)) (r := ((List.map u8v x3.2) : List Value)) (hb7.ch h (fun h => h)) (by simp only [List.append_assoc, List.cons_append, List.nil_append, List.append_nil]) (by first | rfl | (simp only [List.length_append, List.length_map, List.length_cons, List.length_nil]; done) | (simp only [List.length_append, List.length_map, List.length_cons, List.length_nil, List.size_toArray]; done)))) ?_
   refine ws_p rfl rfl rfl rfl (p_fld (j := 32) Tryd.underlying116 rfl ⟨_, by rfl⟩ rfl rfl) ?_
   refine ws_h rfl rfl rfl rfl (p_ldA (cs := (List.map u8v x3.2)) Tryd.underlying38 rfl (szL sz38 (by first | rfl | (simp only [List.length_append, List.length_map, List.length_cons, List.length_nil, (show List.length x3.2 = 32 from hx3v)]; done) | (simp only [List.length_append, List.length_map, List.length_cons, List.length_nil, List.size_toArray, (show List.length x3.2 = 32 from hx3v)]; done))) rfl (fun _ h => rng_at (p := ((List.map u8v x3.1) : List Value)) (q := ((List.map u8v x3.2) : List Value)) (r := []) (hb7.ch h (fun h => h)) (by simp only [List.append_assoc, List.cons_append, List.nil_append, List.append_nil]) (by first | rfl | (simp only [List.length_append, List.length_map, List.length_cons, List.length_nil, (show List.length x3.1 = 32 from hx3k)]; done) | (simp only [List.length_append, List.length_map, List.length_cons, List.length_nil, List.size_toArray, (show List.length x3.1 = 32 from hx3k)]; done)))) ?_
   refine ws_p rfl rfl rfl rfl (p_mv rfl) ?_
   refine ws_p rfl rfl rfl rfl (p_fld (j := 0) Tryd.underlying116 rfl ⟨_, by rfl⟩ rfl rfl) ?_
   refine ws_h rfl rfl rfl rfl (p_ldA (cs := (List.map u8v x3.1)) Tryd.underlying38 rfl (szL sz38 (by first | rfl | (simp only [List.length_append, List.length_map, List.length_cons, List.length_nil, (show List.length x3.1 = 32 from hx3k)]; done) | (simp only [List.length_append, List.length_map, List.length_cons, List.length_nil, List.size_toArray, (show List.length x3.1 = 32 from hx3k)]; done))) rfl (fun _ h => rng_at (p := []) (q := ((List.map u8v x3.1) : List Value)) (r := ((List.map u8v x3.2) : List Value)) (hb7.ch h (fun h => h)) (by simp only [List.append_assoc, List.cons_append, List.nil_append, List.append_nil]) (by first | rfl | (simp only [List.length_append, List.length_map, List.length_cons, List.length_nil]; done) | (simp only [List.length_append, List.length_map, List.length_cons, List.length_nil, List.size_toArray]; done)))) ?_
   refine ws_p rfl rfl rfl rfl (p_fld (j := 32) Tryd.underlying116 rfl ⟨_, by rfl⟩ rfl rfl) ?_
   refine ws_h rfl rfl rfl rfl (p_ldA (cs := (List.map u8v x3.2)) Tryd.underlying38 rfl (szL sz38 (by first | rfl | (simp only [List.length_append, List.length_map, List.length_cons, List.length_nil, (show List.length x3.2 = 32 from hx3v)]; done) | (simp only [List.length_append, List.length_map, List.length_cons, List.length_nil, List.size_toArray, (show List.length x3.2 = 32 from hx3v)]; done))) rfl (fun _ h => rng_at (p := ((List.map u8v x3.1) : List Value)) (q := ((List.map u8v x3.2) : List Value)) (r := []) (hb7.ch h (fun h => h)) (by simp only [List.append_assoc, List.cons_append, List.nil_append, List.append_nil]) (by first | rfl | (simp only [List.length_append, List.length_map, List.length_cons, List.length_nil, (show List.length x3.1 = 32 from hx3k)]; done) | (simp only [List.length_append, List.length_map, List.length_cons, List.length_nil, List.size_toArray, (show List.length x3.1 = 32 from hx3k)]; done)))) ?_
   refine ws_e rfl rfl (e_call ent44 rfl rfl (tput_made (F := fun k => w.heap.size ≤ k) (hV.mono (fun k _ h => by first | exact h.1 | (have h2 := h.1; show w.heap.size ≤ k; omega))) (fun j hj => by show w.heap.size ≤ j; omega) (hx3k) (hx3v) (hcnt)) ?_)
   rintro _ w7 ⟨v20, t20, rfl, hV20, heq20, hc⟩
   refine ⟨_, rfl, hc, ?_⟩
   have hzw7 := hc.size
   have HC := HC.tr hc
   have hin := hin.no hc
   have hV := hV.ch hc (by first | exact fun _ _ _ h => h | (intro k hk hF ht; have h2 := hF.1; have h3 := hF.2; first | omega | (dsimp only at *; omega)))
   have hM := hM.after hc
   have hb7 := hb7.ch hc (fun h => h)
   have hV20 := hV20.mono (G := fun k => w.heap.size ≤ k ∧ k < w7.heap.size) (fun k h1 h2 => ⟨by first | exact h2 | exact h2.1 | ((try dsimp only at h2); omega), h1⟩)
   refine ws_narrow (S' := fun x => Ch No w7 x) (Ch.refl _ _) (fun x h => hc.tr h) ?_
   refine ws_e rfl rfl (e_call ent52 rfl rfl (rput_any (hM.si) (hx3k) (hx3v) (by omega)) ?_)
   rintro _ w8 ⟨A26, lm26, cm26, rfl, hM26, hc⟩
   refine ⟨_, rfl, hc, ?_⟩
   have hzw8 := hc.size
   have HC := HC.tr hc
   have hin := hin.no hc
   have hV := hV.ch hc (by first | exact fun _ _ _ h => h | (intro k hk hF ht; have h2 := hF.1; have h3 := hF.2; first | omega | (dsimp only at *; omega)))
   have hM := hM.after hc
   have hb7 := hb7.ch hc (fun h => h)
   have hV20 := hV20.ch hc (by first | exact fun _ _ _ h => h | (intro k hk hF ht; have h2 := hF.1; have h3 := hF.2; first | omega | (dsimp only at *; omega)))
   have hMl26 := hM26.len
   have hM26 := hM26.mono (G := fun k => w7.heap.size ≤ k ∧ k < w8.heap.size) (fun k h1 h2 => ⟨h2, h1⟩)
   refine ws_narrow (S' := fun x => Ch No w8 x) (Ch.refl _ _) (fun x h => hc.tr h) ?_
   refine ws_p rfl rfl rfl rfl (p_as rfl) ?_
   refine ws_p rfl rfl rfl rfl (p_as rfl) ?_
   refine ws_n ?_
   refine x_in_normal ?_
   refine x_seq ?_
   refine wc_region ?_
   refine wl rfl rfl rfl (p_add rfl rfl (w64 (by omega))) ?_
   refine wl rfl rfl rfl (p_mv rfl) ?_
   refine wl_nil ?_
   refine x_round (e' := [(4, (_)), (5, .slice (_) (_) (_)), (9, .slice Al ll cl), (10, i64 (ll : Int)), (11, i64 ((i + 1) : Int))]) ⟨rfl, rfl, rfl, rfl, rfl, trivial⟩ (by rw [hm0]; omega) ⟨i + 1, _, _, _, _, _, rfl, rfl, (by omega), (by rw [hmk, heq20, heo]), (hV20.mono (fun k _ h => h.1)), (by rw [hmk, putT_items hwf (by assumption) (by assumption)]; exact hM26.mono (fun k _ h => by have := h.1; show w.heap.size ≤ k; omega)), hin, HC⟩
  ·
   have c0 := of_decide_eq_false c0
   refine wc_exit ?_
   refine x_then_exit ?_
   refine x_then_exit ?_
   refine x_in_here ?_
   refine x_seq ?_
   refine wc_seq ?_
   refine wc_region ?_
   refine wl rfl rfl rfl (p_mv rfl) ?_
   refine wl rfl rfl rfl (p_mv rfl) ?_
   refine wl rfl rfl rfl (p_as rfl) ?_
   refine wl rfl rfl rfl (p_as rfl) ?_
   refine wl_nil ?_
   refine x_seq ?_
   refine wc_ret ?_
   refine fin_run ((res2 rfl rfl rfl)) ?_
   rw [List.take_of_length_le (by omega)] at heo hM
   exact ⟨v, o, Am, lm, cm, rfl, hV.mono (fun k _ h => h.1), heo, hM.mono (fun k _ h => h.1), HC⟩

set_option maxHeartbeats 1000000 in
set_option maxRecDepth 20000 in
theorem entries_some {w : World} {gB g : Nat} {t : LT} (hBn : Blk w gB 25 #[ndp g]) (hbg : Blk w g 41 [ndp t.adr, .bool true].toArray) (hXt : LAt 156 w t) (hcn : t.er.cnt ≤ 1000) :
    Calls Tryd.prog 68 #[.func (.func 97) #[] #[.pointer (some ⟨gB, 0, none⟩)]] w fun e w' => ∃ A l c, e = .returned (.slice A l c) ∧ RI w' (fun k => w.heap.size ≤ k) 174 eIT A l c t.er.items ∧ Ch No w w' := by
  have hltg := hbg.lt
  have hok := hXt.ok
  have htl := hXt.lt
  have hitl : t.er.items.length ≤ 1000 := by rw [Tr.items_cnt]; exact hcn
  have hltgB := hBn.lt
  have HC : Ch No w w := Ch.refl _ _
  refine enterM (args := [.func (.func 97) #[] #[.pointer (some ⟨gB, 0, none⟩)]]) (n := 16) Tryd.func68 rfl rfl rfl ?_
  refine wc_seq ?_
  refine wc_region ?_
  refine wl rfl rfl rfl (p_as rfl) ?_
  refine wl_nil ?_
  refine x_seq ?_
  refine wc_seq ?_
  refine wc_region ?_
  have hltg := hbg.lt
  have hltgB := hBn.lt
  refine wle rfl (e_alloc (cs := #[.slice none 0 0]) rfl (by rfl) rfl (fun w1 g3 hg3 hb3 hc hsz3 => ?_))
  have hzw1 := hc.size
  have HC := HC.tr hc
  have hbg := hbg.ch hc (fun h => h)
  have hXt := hXt.ch hc (by first | exact fun _ _ h => h | (intro a ha ht; have h2 := htl a ha; first | omega | (dsimp only at *; omega)))
  have hBn := hBn.ch hc (fun h => h)
  have hge3 : w.heap.size ≤ g3 := by have := HC.size; omega
  have neg_3 : g < g3 := by omega
  have negB_3 : gB < g3 := by omega
  refine wl_nil ?_
  refine x_seq ?_
  refine wc_seq ?_
  refine wc_seq ?_
  refine wc_region ?_
  refine wl rfl rfl rfl (p_mv rfl) ?_
  refine wl_nil ?_
  refine x_seq ?_
  refine wc_block ?_
  obtain ⟨n0, hn0⟩ : ∃ z, z = w1.heap.size + 2 := ⟨_, rfl⟩
  have hn0w : w.heap.size + 2 ≤ n0 := by have := HC.size; omega
  have hM : RI w1 (fun k => n0 ≤ k) 174 eIT none 0 0 [] := RI.nil _ _ _ _
  have hltg3 := hb3.lt
  have hltgB := hBn.lt
  have hltg := hbg.lt
  have hz0 := HC.size
  refine wc_rangeS (m := 0) rfl (enters_of Tryd.func97 (by kernel_rfl) rfl) (fun x : List UInt8 × List UInt8 => #[hv x.1, hv x.2]) (fun _ => rfl) (fun (pre : List (H8 × H8)) (x : List UInt8 × List UInt8) => ∃ q, t.er.items = pre ++ x :: q) (fun xs => xs = t.er.items) (fun _ => True) (fun W => Blk W gB 25 #[ndp g] ∧ Blk W g 41 [ndp t.adr, .bool true].toArray ∧ LAt 156 W t) ?hseq (fun xs W => ∃ A : Option Addr, ∃ l : Nat, ∃ c : Nat, (Blk W g3 118 #[.slice A l c]) ∧ (RI W (fun k => n0 ≤ k) 174 eIT A l c xs) ∧ (Blk W gB 25 #[ndp g]) ∧ (Blk W g 41 [ndp t.adr, .bool true].toArray) ∧ (LAt 156 W t) ∧ (Ch No w W)) (fun _ _ _ => False) ?hI ?hIx ?hIl ?hIxl ?hXI ?h0 ?hround ?hdone ?hstop
  case hseq =>
   intro l J Jx W hcW hsW hJ hJx hXJ hY hJ0
   exact (alls_some (fun xs A h => hXJ xs A h) hJ hJx hY hJ0).mono (fun e w' h => ⟨⟨_, h.1⟩, h.2⟩)
  case hI =>
   rintro xs A B ⟨A, l, c, hb3, hM, hBn, hbg, hXt, HC⟩ hc
   have hzB := hc.size
   have HC := HC.tr hc
   have hb3 := hb3.ch hc (fun h => h)
   have hM := hM.no hc
   have hBn := hBn.ch hc (fun h => h)
   have hbg := hbg.ch hc (fun h => h)
   have hXt := hXt.ch hc (by first | exact fun _ _ h => h | (intro a ha ht; have h2 := htl a ha; first | omega | (dsimp only at *; omega)))
   exact ⟨A, l, c, hb3, hM, hBn, hbg, hXt, HC⟩
  case hIx =>
   exact fun _ _ _ _ h _ => h
  case hIl =>
   rintro xs A B ⟨A, l, c, hb3, hM, hBn, hbg, hXt, HC⟩ hc
   have hzB := hc.size
   have HC := HC.trans hc (fun _ _ h => h) (fun k hk ht => absurd ht (by omega))
   have hb3 := hb3.ch hc (by omega)
   have hM := hM.ch hc (by intro k hz hk ht; omega)
   have hBn := hBn.ch hc (by omega)
   have hbg := hbg.ch hc (by omega)
   have hXt := hXt.ch hc (by first | exact fun _ _ h => h | (intro a ha ht; have h2 := htl a ha; first | omega | (dsimp only at *; omega)))
   exact ⟨A, l, c, hb3, hM, hBn, hbg, hXt, HC⟩
  case hIxl =>
   exact fun _ _ _ _ h _ => h
  case hXI =>
   rintro xs W ⟨A, l, c, hb3, hM, hBn, hbg, hXt, HC⟩
   exact ⟨hBn, hbg, hXt⟩
  case h0 =>
   intro W hc hs
   have hzW := hc.size
   have HC := HC.tr hc
   have hb3 := hb3.ch hc (fun h => h)
   have hM := hM.no hc
   have hBn := hBn.ch hc (fun h => h)
   have hbg := hbg.ch hc (fun h => h)
   have hXt := hXt.ch hc (by first | exact fun _ _ h => h | (intro a ha ht; have h2 := htl a ha; first | omega | (dsimp only at *; omega)))
   exact ⟨none, 0, 0, hb3, (hM.mono (fun k _ h => by first | exact h | exact h.1)), hBn, hbg, hXt, HC⟩
  case hround =>
   intro l pre x W hl hD hsz hI a F
   subst hl
   obtain ⟨A, l, c, hb3, hM, hBn, hbg, hXt, HC⟩ := hI
   have hzW := HC.size
   have hD : ∃ q, t.er.items = pre ++ x :: q := hD
   obtain ⟨q, hq⟩ := hD
   obtain ⟨hx1, hx2⟩ := Tr.items_len hok x (by rw [hq]; simp)
   have hMl := hM.len
   have hpl : pre.length + 1 ≤ (t.er.items).length := by rw [hq]; simp; try omega
   refine (?_ : WCi _ _ _ _ _ _ _ _) _ (F.hand2 rfl rfl)
   have hB : Ch (fun k => k ≠ w1.heap.size + 1 ∧ k ≠ w1.heap.size) W W := Ch.refl _ _
   refine wci_seq ?_
   refine wci_region ?_
   have hltg3 := hb3.lt
   have hltgB := hBn.lt
   have hltg := hbg.lt
   refine wlie rfl (by repeat (first | with_reducible exact no_stop | with_reducible exact no_false | with_reducible apply no_then | with_reducible apply no_in)) (e_alloc (cs := ((List.replicate 32 (0 : UInt8)).map u8v).toArray) rfl (by rfl) rfl (fun w2 g4 hg4 hb4 hc hsz4 => ?_))
   have hzw2 := hc.size
   have HC := HC.tr hc
   have hB := hB.tr hc
   have hb3 := hb3.ch hc (fun h => h)
   have hM := hM.after hc
   have hBn := hBn.ch hc (fun h => h)
   have hbg := hbg.ch hc (fun h => h)
   have hXt := hXt.ch hc (by first | exact fun _ _ h => h | (intro a ha ht; have h2 := htl a ha; first | omega | (dsimp only at *; omega)))
   have hge4 : w.heap.size ≤ g4 := by have := HC.size; omega
   have neg3_4 : g3 < g4 := by omega
   have negB_4 : gB < g4 := by omega
   have neg_4 : g < g4 := by omega
   refine wlie rfl (by repeat (first | with_reducible exact no_stop | with_reducible exact no_false | with_reducible apply no_then | with_reducible apply no_in)) (e_stH sz38 (List.length_replicate ..) hx1 rfl rfl hb4 (fun w3 hb4 hc hsz => ?_))
   have hzw3 := hc.size
   have HC := HC.trans hc (fun _ _ h => h) (fun k hk ht => absurd ht (by omega))
   have hB := hB.trans hc (fun _ _ h => h) (fun k hk ht => by first | omega | (dsimp only at *; omega))
   have hb3 := hb3.ch hc (by omega)
   have hM := hM.ch hc (by intro k hz hk ht; omega)
   have hBn := hBn.ch hc (by omega)
   have hbg := hbg.ch hc (by omega)
   have hXt := hXt.ch hc (by first | exact fun _ _ h => h | (intro a ha ht; have h2 := htl a ha; first | omega | (dsimp only at *; omega)))
   refine wli_nil ?_
   refine xi_seq ?_
   refine wci_region ?_
   have hltg3 := hb3.lt
   have hltgB := hBn.lt
   have hltg := hbg.lt
   have hltg4 := hb4.lt
   refine wlie rfl (by repeat (first | with_reducible exact no_stop | with_reducible exact no_false | with_reducible apply no_then | with_reducible apply no_in)) (e_alloc (cs := ((List.replicate 32 (0 : UInt8)).map u8v).toArray) rfl (by rfl) rfl (fun w4 g5 hg5 hb5 hc hsz5 => ?_))
   have hzw4 := hc.size
   have HC := HC.tr hc
   have hB := hB.tr hc
   have hb3 := hb3.ch hc (fun h => h)
   have hM := hM.after hc
   have hBn := hBn.ch hc (fun h => h)
   have hbg := hbg.ch hc (fun h => h)
   have hXt := hXt.ch hc (by first | exact fun _ _ h => h | (intro a ha ht; have h2 := htl a ha; first | omega | (dsimp only at *; omega)))
   have hb4 := hb4.ch hc (fun h => h)
   have hge5 : w.heap.size ≤ g5 := by have := HC.size; omega
   have neg3_5 : g3 < g5 := by omega
   have negB_5 : gB < g5 := by omega
   have neg_5 : g < g5 := by omega
   have neg4_5 : g4 < g5 := by omega
   refine wlie rfl (by repeat (first | with_reducible exact no_stop | with_reducible exact no_false | with_reducible apply no_then | with_reducible apply no_in)) (e_stH sz38 (List.length_replicate ..) hx2 rfl rfl hb5 (fun w5 hb5 hc hsz => ?_))
   have hzw5 := hc.size
   have HC := HC.trans hc (fun _ _ h => h) (fun k hk ht => absurd ht (by omega))
   have hB := hB.trans hc (fun _ _ h => h) (fun k hk ht => by first | omega | (dsimp only at *; omega))
   have hb3 := hb3.ch hc (by omega)
   have hM := hM.ch hc (by intro k hz hk ht; omega)
   have hBn := hBn.ch hc (by omega)
   have hbg := hbg.ch hc (by omega)
   have hXt := hXt.ch hc (by first | exact fun _ _ h => h | (intro a ha ht; have h2 := htl a ha; first | omega | (dsimp only at *; omega)))
   have hb4 := hb4.ch hc (by omega)
   refine wli_nil ?_
   refine xi_asg hB (fun W2 hc hsW => ?_)
   have hzW2 := hc.size
   have HC := HC.trans hc (fun _ _ h => h) (fun k hk ht => absurd ht (by omega))
   have hb3 := hb3.ch hc (by omega)
   have hM := hM.ch hc (by intro k hz hk ht; omega)
   have hBn := hBn.ch hc (by omega)
   have hbg := hbg.ch hc (by omega)
   have hXt := hXt.ch hc (by first | exact fun _ _ h => h | (intro a ha ht; have h2 := htl a ha; first | omega | (dsimp only at *; omega)))
   have hb4 := hb4.ch hc (by omega)
   have hb5 := hb5.ch hc (by omega)
   have hB : Ch (fun k => k ≠ w1.heap.size + 1 ∧ k ≠ w1.heap.size) W2 W2 := Ch.refl _ _
   refine wci_block ?_
   refine wci_region ?_
   refine wli rfl rfl rfl (p_ld Tryd.underlying118 rfl rfl (ld (hb3.cell rfl))) ?_
   refine wli rfl rfl rfl (p_ldH (L := x.1) Tryd.underlying38 sz38 hx1 rfl (fun _ e => e ▸ rngL hb4)) ?_
   refine wli rfl rfl rfl (p_ldH (L := x.2) Tryd.underlying38 sz38 hx2 rfl (fun _ e => e ▸ rngL hb5)) ?_
   refine wli rfl rfl rfl (p_bldX (vs' := [(.agg ((hx x.1) : List Value).toArray), (.agg ((hx x.2) : List Value).toArray)]) (cs := (((List.map u8v x.1) ++ (List.map u8v x.2)) : List Value)) (cs' := (((hx x.1) ++ (hx x.2)) : List Value)) rfl (by simp only [hv, map_hx hx1, map_hx hx2] <;> rfl) (by simp only [hv, map_hx hx1, map_hx hx2] <;> rfl) (fun _ => by kernel_rfl)) ?_
   have hltg3 := hb3.lt
   have hltgB := hBn.lt
   have hltg := hbg.lt
   have hltg4 := hb4.lt
   have hltg5 := hb5.lt
   refine wlie rfl (by repeat (first | with_reducible exact no_stop | with_reducible exact no_false | with_reducible apply no_then | with_reducible apply no_in)) (e_bslX (E := 174) (cs := (((List.map u8v x.1) ++ (List.map u8v x.2)) : List Value)) (cs' := (((hx x.1) ++ (hx x.2)) : List Value)) rfl rfl (by simp only [hv, map_hx hx1, map_hx hx2] <;> rfl) (fun _ => by kernel_rfl) (fun w6 g13 hg13 hb13 hc hsz13 => ?_))
   have hzw6 := hc.size
   have HC := HC.tr hc
   have hB := hB.tr hc
   have hb3 := hb3.ch hc (fun h => h)
   have hM := hM.after hc
   have hBn := hBn.ch hc (fun h => h)
   have hbg := hbg.ch hc (fun h => h)
   have hXt := hXt.ch hc (by first | exact fun _ _ h => h | (intro a ha ht; have h2 := htl a ha; first | omega | (dsimp only at *; omega)))
   have hb4 := hb4.ch hc (fun h => h)
   have hb5 := hb5.ch hc (fun h => h)
   have hge13 : w.heap.size ≤ g13 := by have := HC.size; omega
   have hS13 := SI.oneA (E := eIT) (x := (x.1, x.2)) hb13 rfl ⟨hx1, hx2⟩
   have hltg3 := hb3.lt
   have hltgB := hBn.lt
   have hltg := hbg.lt
   have hltg4 := hb4.lt
   have hltg5 := hb5.lt
   refine wlie rfl (by repeat (first | with_reducible exact no_stop | with_reducible exact no_false | with_reducible apply no_then | with_reducible apply no_in)) (e_appI rfl el118 rfl rfl hM (hS13) (by omega) (by intro k hk; first | omega | (dsimp only at *; omega)) (fun w7 A14 c14 hM hc => ?_))
   have hzw7 := hc.size
   have HC := HC.trans hc (fun _ _ h => h) (fun k hk ht => absurd ht (by omega))
   have hB := hB.trans hc (fun _ _ h => h) (fun k hk ht => by first | omega | (dsimp only at *; omega))
   have hb3 := hb3.ch hc (by omega)
   have hBn := hBn.ch hc (by omega)
   have hbg := hbg.ch hc (by omega)
   have hXt := hXt.ch hc (by first | exact fun _ _ h => h | (intro a ha ht; have h2 := htl a ha; first | omega | (dsimp only at *; omega)))
   have hb4 := hb4.ch hc (by omega)
   have hb5 := hb5.ch hc (by omega)
   first | have hS13 := hS13.ch hc (by intro k hk ht; omega) | have hS13 := hS13.chT hc (by intro k hz hk ht; omega)
   refine wlie rfl (by repeat (first | with_reducible exact no_stop | with_reducible exact no_false | with_reducible apply no_then | with_reducible apply no_in)) (e_st1 (by rfl) rfl rfl rfl hb3 (fun w8 hb3 hc hsz => ?_))
   have hzw8 := hc.size
   have HC := HC.trans hc (fun _ _ h => h) (fun k hk ht => absurd ht (by omega))
   have hB := hB.trans hc (fun _ _ h => h) (fun k hk ht => by first | omega | (dsimp only at *; omega))
   have hM := hM.ch hc (by intro k hz hk ht; omega)
   have hBn := hBn.ch hc (by omega)
   have hbg := hbg.ch hc (by omega)
   have hXt := hXt.ch hc (by first | exact fun _ _ h => h | (intro a ha ht; have h2 := htl a ha; first | omega | (dsimp only at *; omega)))
   have hb4 := hb4.ch hc (by omega)
   have hb5 := hb5.ch hc (by omega)
   first | have hS13 := hS13.ch hc (by intro k hk ht; omega) | have hS13 := hS13.chT hc (by intro k hz hk ht; omega)
   refine wli_nil ?_
   refine x_in_normal ?_
   exact wq_stop ⟨_, _, _, hb3, (hM.mono (fun k _ h => by first | exact h | exact h.1 | exact h.1.1 | exact h.1.1.1 | exact h.1.1.1.1)), hBn, hbg, hXt, HC⟩ hB
  case hdone =>
   rintro xs W a' hS ⟨A, l, c, hb3, hM, hBn, hbg, hXt, HC⟩ hK F'
   refine wqd_ap ?_ F'
   have hzW := HC.size
   refine xd_in_normal ?_
   refine xd_seq ?_
   refine wcd_seq ?_
   refine wcd_region ?_
   refine wld rfl rfl rfl (p_ld Tryd.underlying118 rfl rfl (ld (hb3.cell rfl))) ?_
   refine wld rfl rfl rfl (p_as rfl) ?_
   refine wld_nil ?_
   refine xd_seq ?_
   refine wcd_ret ?_
   refine fin_runM hK (fun w9 hc hsz => ?_)
   have hzw9 := hc.size
   have HC := HC.trans hc (fun _ _ h => h) (fun k hk ht => absurd ht (by omega))
   have hb3 := hb3.ch hc (by omega)
   have hM := hM.ch hc (by intro k hz hk ht; omega)
   have hBn := hBn.ch hc (by omega)
   have hbg := hbg.ch hc (by omega)
   have hXt := hXt.ch hc (by first | exact fun _ _ h => h | (intro a ha ht; have h2 := htl a ha; first | omega | (dsimp only at *; omega)))
   refine ⟨_, (res1 rfl rfl), ?_⟩
   exact ⟨_, _, _, rfl, (hS ▸ hM).mono (fun k _ h => by have h2 : n0 ≤ k := h; show w.heap.size ≤ k; omega), HC⟩
  case hstop =>
   exact fun _ _ _ _ _ h => h.elim

set_option maxHeartbeats 1000000 in
set_option maxRecDepth 20000 in
theorem entries_none {w : World} {gB g : Nat} (hBn : Blk w gB 25 #[ndp g]) (hbg : Blk w g 41 [.pointer none, .bool true].toArray) :
    Calls Tryd.prog 68 #[.func (.func 97) #[] #[.pointer (some ⟨gB, 0, none⟩)]] w fun e w' => ∃ A l c, e = .returned (.slice A l c) ∧ RI w' (fun k => w.heap.size ≤ k) 174 eIT A l c ([] : List (H8 × H8)) ∧ Ch No w w' := by
  have hltg := hbg.lt
  have hltgB := hBn.lt
  have HC : Ch No w w := Ch.refl _ _
  refine enterM (args := [.func (.func 97) #[] #[.pointer (some ⟨gB, 0, none⟩)]]) (n := 16) Tryd.func68 rfl rfl rfl ?_
  refine wc_seq ?_
  refine wc_region ?_
  refine wl rfl rfl rfl (p_as rfl) ?_
  refine wl_nil ?_
  refine x_seq ?_
  refine wc_seq ?_
  refine wc_region ?_
  have hltg := hbg.lt
  have hltgB := hBn.lt
  refine wle rfl (e_alloc (cs := #[.slice none 0 0]) rfl (by rfl) rfl (fun w1 g3 hg3 hb3 hc hsz3 => ?_))
  have hzw1 := hc.size
  have HC := HC.tr hc
  have hbg := hbg.ch hc (fun h => h)
  have hBn := hBn.ch hc (fun h => h)
  have hge3 : w.heap.size ≤ g3 := by have := HC.size; omega
  have neg_3 : g < g3 := by omega
  have negB_3 : gB < g3 := by omega
  refine wl_nil ?_
  refine x_seq ?_
  refine wc_seq ?_
  refine wc_seq ?_
  refine wc_region ?_
  refine wl rfl rfl rfl (p_mv rfl) ?_
  refine wl_nil ?_
  refine x_seq ?_
  refine wc_block ?_
  obtain ⟨n0, hn0⟩ : ∃ z, z = w1.heap.size + 2 := ⟨_, rfl⟩
  have hn0w : w.heap.size + 2 ≤ n0 := by have := HC.size; omega
  have hM : RI w1 (fun k => n0 ≤ k) 174 eIT none 0 0 [] := RI.nil _ _ _ _
  have hltg3 := hb3.lt
  have hltgB := hBn.lt
  have hltg := hbg.lt
  have hz0 := HC.size
  refine wc_rangeS (m := 0) rfl (enters_of Tryd.func97 (by kernel_rfl) rfl) (fun x : List UInt8 × List UInt8 => #[hv x.1, hv x.2]) (fun _ => rfl) (fun (pre : List (H8 × H8)) (x : List UInt8 × List UInt8) => ∃ q, ([] : List (H8 × H8)) = pre ++ x :: q) (fun xs => xs = ([] : List (H8 × H8))) (fun _ => True) (fun W => Blk W gB 25 #[ndp g] ∧ Blk W g 41 [.pointer none, .bool true].toArray) ?hseq (fun xs W => ∃ A : Option Addr, ∃ l : Nat, ∃ c : Nat, (Blk W g3 118 #[.slice A l c]) ∧ (RI W (fun k => n0 ≤ k) 174 eIT A l c xs) ∧ (Blk W gB 25 #[ndp g]) ∧ (Blk W g 41 [.pointer none, .bool true].toArray) ∧ (Ch No w W)) (fun _ _ _ => False) ?hI ?hIx ?hIl ?hIxl ?hXI ?h0 ?hround ?hdone ?hstop
  case hseq =>
   intro l J Jx W hcW hsW hJ hJx hXJ hY hJ0
   exact (alls_none (m := 0) (fun xs A h => hXJ xs A h) hJ hJx hJ0).mono (fun e w' h => ⟨⟨_, h.1⟩, h.2⟩)
  case hI =>
   rintro xs A B ⟨A, l, c, hb3, hM, hBn, hbg, HC⟩ hc
   have hzB := hc.size
   have HC := HC.tr hc
   have hb3 := hb3.ch hc (fun h => h)
   have hM := hM.no hc
   have hBn := hBn.ch hc (fun h => h)
   have hbg := hbg.ch hc (fun h => h)
   exact ⟨A, l, c, hb3, hM, hBn, hbg, HC⟩
  case hIx =>
   exact fun _ _ _ _ h _ => h
  case hIl =>
   rintro xs A B ⟨A, l, c, hb3, hM, hBn, hbg, HC⟩ hc
   have hzB := hc.size
   have HC := HC.trans hc (fun _ _ h => h) (fun k hk ht => absurd ht (by omega))
   have hb3 := hb3.ch hc (by omega)
   have hM := hM.ch hc (by intro k hz hk ht; omega)
   have hBn := hBn.ch hc (by omega)
   have hbg := hbg.ch hc (by omega)
   exact ⟨A, l, c, hb3, hM, hBn, hbg, HC⟩
  case hIxl =>
   exact fun _ _ _ _ h _ => h
  case hXI =>
   rintro xs W ⟨A, l, c, hb3, hM, hBn, hbg, HC⟩
   exact ⟨hBn, hbg⟩
  case h0 =>
   intro W hc hs
   have hzW := hc.size
   have HC := HC.tr hc
   have hb3 := hb3.ch hc (fun h => h)
   have hM := hM.no hc
   have hBn := hBn.ch hc (fun h => h)
   have hbg := hbg.ch hc (fun h => h)
   exact ⟨none, 0, 0, hb3, (hM.mono (fun k _ h => by first | exact h | exact h.1)), hBn, hbg, HC⟩
  case hround =>
   intro l pre x W hl hD hsz hI a F
   subst hl
   obtain ⟨A, l, c, hb3, hM, hBn, hbg, HC⟩ := hI
   have hzW := HC.size
   have hD : ∃ q, ([] : List (H8 × H8)) = pre ++ x :: q := hD
   obtain ⟨q, hq⟩ := hD
   have hx1 : x.1.length = 32 := absurd hq (by simp)
   have hx2 : x.2.length = 32 := absurd hq (by simp)
   have hp0 : pre.length ≤ 1000 := absurd hq (by simp)
   have hMl := hM.len
   refine (?_ : WCi _ _ _ _ _ _ _ _) _ (F.hand2 rfl rfl)
   have hB : Ch (fun k => k ≠ w1.heap.size + 1 ∧ k ≠ w1.heap.size) W W := Ch.refl _ _
   refine wci_seq ?_
   refine wci_region ?_
   have hltg3 := hb3.lt
   have hltgB := hBn.lt
   have hltg := hbg.lt
   refine wlie rfl (by repeat (first | with_reducible exact no_stop | with_reducible exact no_false | with_reducible apply no_then | with_reducible apply no_in)) (e_alloc (cs := ((List.replicate 32 (0 : UInt8)).map u8v).toArray) rfl (by rfl) rfl (fun w2 g4 hg4 hb4 hc hsz4 => ?_))
   have hzw2 := hc.size
   have HC := HC.tr hc
   have hB := hB.tr hc
   have hb3 := hb3.ch hc (fun h => h)
   have hM := hM.after hc
   have hBn := hBn.ch hc (fun h => h)
   have hbg := hbg.ch hc (fun h => h)
   have hge4 : w.heap.size ≤ g4 := by have := HC.size; omega
   have neg3_4 : g3 < g4 := by omega
   have negB_4 : gB < g4 := by omega
   have neg_4 : g < g4 := by omega
   refine wlie rfl (by repeat (first | with_reducible exact no_stop | with_reducible exact no_false | with_reducible apply no_then | with_reducible apply no_in)) (e_stH sz38 (List.length_replicate ..) hx1 rfl rfl hb4 (fun w3 hb4 hc hsz => ?_))
   have hzw3 := hc.size
   have HC := HC.trans hc (fun _ _ h => h) (fun k hk ht => absurd ht (by omega))
   have hB := hB.trans hc (fun _ _ h => h) (fun k hk ht => by first | omega | (dsimp only at *; omega))
   have hb3 := hb3.ch hc (by omega)
   have hM := hM.ch hc (by intro k hz hk ht; omega)
   have hBn := hBn.ch hc (by omega)
   have hbg := hbg.ch hc (by omega)
   refine wli_nil ?_
   refine xi_seq ?_
   refine wci_region ?_
   have hltg3 := hb3.lt
   have hltgB := hBn.lt
   have hltg := hbg.lt
   have hltg4 := hb4.lt
   refine wlie rfl (by repeat (first | with_reducible exact no_stop | with_reducible exact no_false | with_reducible apply no_then | with_reducible apply no_in)) (e_alloc (cs := ((List.replicate 32 (0 : UInt8)).map u8v).toArray) rfl (by rfl) rfl (fun w4 g5 hg5 hb5 hc hsz5 => ?_))
   have hzw4 := hc.size
   have HC := HC.tr hc
   have hB := hB.tr hc
   have hb3 := hb3.ch hc (fun h => h)
   have hM := hM.after hc
   have hBn := hBn.ch hc (fun h => h)
   have hbg := hbg.ch hc (fun h => h)
   have hb4 := hb4.ch hc (fun h => h)
   have hge5 : w.heap.size ≤ g5 := by have := HC.size; omega
   have neg3_5 : g3 < g5 := by omega
   have negB_5 : gB < g5 := by omega
   have neg_5 : g < g5 := by omega
   have neg4_5 : g4 < g5 := by omega
   refine wlie rfl (by repeat (first | with_reducible exact no_stop | with_reducible exact no_false | with_reducible apply no_then | with_reducible apply no_in)) (e_stH sz38 (List.length_replicate ..) hx2 rfl rfl hb5 (fun w5 hb5 hc hsz => ?_))
   have hzw5 := hc.size
   have HC := HC.trans hc (fun _ _ h => h) (fun k hk ht => absurd ht (by omega))
   have hB := hB.trans hc (fun _ _ h => h) (fun k hk ht => by first | omega | (dsimp only at *; omega))
   have hb3 := hb3.ch hc (by omega)
   have hM := hM.ch hc (by intro k hz hk ht; omega)
   have hBn := hBn.ch hc (by omega)
   have hbg := hbg.ch hc (by omega)
   have hb4 := hb4.ch hc (by omega)
   refine wli_nil ?_
   refine xi_asg hB (fun W2 hc hsW => ?_)
   have hzW2 := hc.size
   have HC := HC.trans hc (fun _ _ h => h) (fun k hk ht => absurd ht (by omega))
   have hb3 := hb3.ch hc (by omega)
   have hM := hM.ch hc (by intro k hz hk ht; omega)
   have hBn := hBn.ch hc (by omega)
   have hbg := hbg.ch hc (by omega)
   have hb4 := hb4.ch hc (by omega)
   have hb5 := hb5.ch hc (by omega)
   have hB : Ch (fun k => k ≠ w1.heap.size + 1 ∧ k ≠ w1.heap.size) W2 W2 := Ch.refl _ _
   refine wci_block ?_
   refine wci_region ?_
   refine wli rfl rfl rfl (p_ld Tryd.underlying118 rfl rfl (ld (hb3.cell rfl))) ?_
   refine wli rfl rfl rfl (p_ldH (L := x.1) Tryd.underlying38 sz38 hx1 rfl (fun _ e => e ▸ rngL hb4)) ?_
   refine wli rfl rfl rfl (p_ldH (L := x.2) Tryd.underlying38 sz38 hx2 rfl (fun _ e => e ▸ rngL hb5)) ?_
   refine wli rfl rfl rfl (p_bldX (vs' := [(.agg ((hx x.1) : List Value).toArray), (.agg ((hx x.2) : List Value).toArray)]) (cs := (((List.map u8v x.1) ++ (List.map u8v x.2)) : List Value)) (cs' := (((hx x.1) ++ (hx x.2)) : List Value)) rfl (by simp only [hv, map_hx hx1, map_hx hx2] <;> rfl) (by simp only [hv, map_hx hx1, map_hx hx2] <;> rfl) (fun _ => by kernel_rfl)) ?_
   have hltg3 := hb3.lt
   have hltgB := hBn.lt
   have hltg := hbg.lt
   have hltg4 := hb4.lt
   have hltg5 := hb5.lt
   refine wlie rfl (by repeat (first | with_reducible exact no_stop | with_reducible exact no_false | with_reducible apply no_then | with_reducible apply no_in)) (e_bslX (E := 174) (cs := (((List.map u8v x.1) ++ (List.map u8v x.2)) : List Value)) (cs' := (((hx x.1) ++ (hx x.2)) : List Value)) rfl rfl (by simp only [hv, map_hx hx1, map_hx hx2] <;> rfl) (fun _ => by kernel_rfl) (fun w6 g13 hg13 hb13 hc hsz13 => ?_))
   have hzw6 := hc.size
   have HC := HC.tr hc
   have hB := hB.tr hc
   have hb3 := hb3.ch hc (fun h => h)
   have hM := hM.after hc
   have hBn := hBn.ch hc (fun h => h)
   have hbg := hbg.ch hc (fun h => h)
   have hb4 := hb4.ch hc (fun h => h)
   have hb5 := hb5.ch hc (fun h => h)
   have hge13 : w.heap.size ≤ g13 := by have := HC.size; omega
   have hS13 := SI.oneA (E := eIT) (x := (x.1, x.2)) hb13 rfl ⟨hx1, hx2⟩
   have hltg3 := hb3.lt
   have hltgB := hBn.lt
   have hltg := hbg.lt
   have hltg4 := hb4.lt
   have hltg5 := hb5.lt
   refine wlie rfl (by repeat (first | with_reducible exact no_stop | with_reducible exact no_false | with_reducible apply no_then | with_reducible apply no_in)) (e_appI rfl el118 rfl rfl hM (hS13) (by omega) (by intro k hk; first | omega | (dsimp only at *; omega)) (fun w7 A14 c14 hM hc => ?_))
   have hzw7 := hc.size
   have HC := HC.trans hc (fun _ _ h => h) (fun k hk ht => absurd ht (by omega))
   have hB := hB.trans hc (fun _ _ h => h) (fun k hk ht => by first | omega | (dsimp only at *; omega))
   have hb3 := hb3.ch hc (by omega)
   have hBn := hBn.ch hc (by omega)
   have hbg := hbg.ch hc (by omega)
   have hb4 := hb4.ch hc (by omega)
   have hb5 := hb5.ch hc (by omega)
   first | have hS13 := hS13.ch hc (by intro k hk ht; omega) | have hS13 := hS13.chT hc (by intro k hz hk ht; omega)
   refine wlie rfl (by repeat (first | with_reducible exact no_stop | with_reducible exact no_false | with_reducible apply no_then | with_reducible apply no_in)) (e_st1 (by rfl) rfl rfl rfl hb3 (fun w8 hb3 hc hsz => ?_))
   have hzw8 := hc.size
   have HC := HC.trans hc (fun _ _ h => h) (fun k hk ht => absurd ht (by omega))
   have hB := hB.trans hc (fun _ _ h => h) (fun k hk ht => by first | omega | (dsimp only at *; omega))
   have hM := hM.ch hc (by intro k hz hk ht; omega)
   have hBn := hBn.ch hc (by omega)
   have hbg := hbg.ch hc (by omega)
   have hb4 := hb4.ch hc (by omega)
   have hb5 := hb5.ch hc (by omega)
   first | have hS13 := hS13.ch hc (by intro k hk ht; omega) | have hS13 := hS13.chT hc (by intro k hz hk ht; omega)
   refine wli_nil ?_
   refine x_in_normal ?_
   exact wq_stop ⟨_, _, _, hb3, (hM.mono (fun k _ h => by first | exact h | exact h.1 | exact h.1.1 | exact h.1.1.1 | exact h.1.1.1.1)), hBn, hbg, HC⟩ hB
  case hdone =>
   rintro xs W a' hS ⟨A, l, c, hb3, hM, hBn, hbg, HC⟩ hK F'
   refine wqd_ap ?_ F'
   have hzW := HC.size
   refine xd_in_normal ?_
   refine xd_seq ?_
   refine wcd_seq ?_
   refine wcd_region ?_
   refine wld rfl rfl rfl (p_ld Tryd.underlying118 rfl rfl (ld (hb3.cell rfl))) ?_
   refine wld rfl rfl rfl (p_as rfl) ?_
   refine wld_nil ?_
   refine xd_seq ?_
   refine wcd_ret ?_
   refine fin_runM hK (fun w9 hc hsz => ?_)
   have hzw9 := hc.size
   have HC := HC.trans hc (fun _ _ h => h) (fun k hk ht => absurd ht (by omega))
   have hb3 := hb3.ch hc (by omega)
   have hM := hM.ch hc (by intro k hz hk ht; omega)
   have hBn := hBn.ch hc (by omega)
   have hbg := hbg.ch hc (by omega)
   refine ⟨_, (res1 rfl rfl), ?_⟩
   exact ⟨_, _, _, rfl, (hS ▸ hM).mono (fun k _ h => by have h2 : n0 ≤ k := h; show w.heap.size ≤ k; omega), HC⟩
  case hstop =>
   exact fun _ _ _ _ _ h => h.elim

theorem filt_yes {α : Type} {ks : List α} {i : Nat} {d : α} {p : α → Bool} (hi : i < ks.length) (hp : p (ks.getD i d) = true) : (ks.take (i + 1)).filter p = (ks.take i).filter p ++ [ks.getD i d] := by
  rw [getD_take (d := d) hi, List.filter_append, List.filter_cons, if_pos hp]; rfl

theorem filt_no {α : Type} {ks : List α} {i : Nat} {d : α} {p : α → Bool} (hi : i < ks.length) (hp : p (ks.getD i d) = false) : (ks.take (i + 1)).filter p = (ks.take i).filter p := by
  rw [getD_take (d := d) hi, List.filter_append, List.filter_cons, if_neg (by rw [hp]; simp)]; simp

def ProveOK (t : Tr) : Prop := ∀ {w : World} {F Fm Fk : Nat → Prop} {Ao Am Ak : Option Addr} {lo co lm cm lk ck : Nat} {xs : List ND} {ks : List H8}, RI w F 115 eND Ao lo co xs → (∀ k, w.heap.size ≤ k → F k) → ¬ F 0 → SI w Fm eIT Am lm cm t.items → (∀ k, k < w.heap.size → Fm k → ¬ F k) → SI w Fk eH Ak lk ck ks → (∀ k, k < w.heap.size → Fk k → ¬ F k) → t.WF → lm ≤ 1000000 → lk ≤ 1000000 → lo + 2 * t.cnt ≤ 1000000000 → Sl w (fun k => k = 0) u32v (some ⟨0, 0, none⟩) 64 64 rk → Calls Tryd.prog 70 #[.slice Ao lo co, .slice Am lm cm, .slice Ak lk ck] w fun e w' => ∃ A l c, e = .returned (.slice A l c) ∧ RI w' F 115 eND A l c (xs ++ (t.prv ks).nodes) ∧ Ch F w w'

set_option maxHeartbeats 1000000 in
set_option maxRecDepth 20000 in
theorem prove_nil {w : World} {F Fm Fk : Nat → Prop} {Ao Am Ak : Option Addr} {lo co lm cm lk ck : Nat} {xs : List ND} {ks : List H8} {t : Tr} (hout : RI w F 115 eND Ao lo co xs) (hF : ∀ k, w.heap.size ≤ k → F k) (hF0 : ¬ F 0) (hm : SI w Fm eIT Am lm cm (Tr.items (t))) (hFm : ∀ k, k < w.heap.size → Fm k → ¬ F k) (hks : SI w Fk eH Ak lk ck ks) (hFk : ∀ k, k < w.heap.size → Fk k → ¬ F k) (hw : (t).WF) (hl : lm ≤ 1000000) (hlk : lk ≤ 1000000) (hlo : lo + 2 * (t).cnt ≤ 1000000000) (hrnd : Sl w (fun k => k = 0) u32v (some ⟨0, 0, none⟩) 64 64 rk) (hk0 : ks = []) :
    Calls Tryd.prog 70 #[.slice Ao lo co, .slice Am lm cm, .slice Ak lk ck] w fun e w' => ∃ A l c, e = .returned (.slice A l c) ∧ RI w' F 115 eND A l c (xs ++ ((t).prv ks).nodes) ∧ Ch F w w' := by
  have hn0 : 0 < w.heap.size := hrnd.size (by omega) rfl
  have hn1 := hn0
  have hml := hm.len
  have hkl := hks.len
  have hol := hout.len
  have hm := hm.mono (G := fun k => k < w.heap.size ∧ ¬ F k) (fun k hk h => ⟨hk, hFm k hk h⟩)
  have hks := hks.mono (G := fun k => k < w.heap.size ∧ ¬ F k) (fun k hk h => ⟨hk, hFk k hk h⟩)
  have hlk0 : lk = 0 := by rw [← hkl, hk0]; rfl
  have hcp := Tr.cnt_pos t
  have HC : Ch F w w := Ch.refl _ _
  refine enter' (args := [.slice Ao lo co, .slice Am lm cm, .slice Ak lk ck]) (n := 81) Tryd.func70 rfl rfl rfl ?_
  refine wc_seq ?_
  refine wc_region ?_
  refine wl rfl rfl rfl (p_as rfl) ?_
  refine wl_nil ?_
  refine x_seq ?_
  refine wc_seq ?_
  refine wc_block ?_
  refine wc_seq ?_
  refine wc_region ?_
  refine wl rfl rfl rfl (p_mv rfl) ?_
  refine wl rfl rfl rfl (p_lenS Tryd.underlying23 rfl) ?_
  refine wl rfl rfl rfl (p_eq rfl rfl) ?_
  refine wl rfl rfl rfl (p_as rfl) ?_
  refine wl_nil ?_
  refine x_seq ?_
  refine wc_yes rfl (decide_eq_true (by omega)) ?_
  refine wc_seq ?_
  refine wc_region ?_
  refine wl rfl rfl rfl (p_mv rfl) ?_
  refine wl rfl rfl rfl (p_mv rfl) ?_
  refine wle rfl (e_call ent99 rfl rfl (mroot_any t (hm) hw (by omega) hrnd) ?_)
  rintro _ w1 ⟨rfl, hc⟩
  refine ⟨_, rfl, ?_⟩
  have hzw1 := hc.size
  have HC := HC.tr hc
  have hout := hout.after hc
  have hm := hm.no hc
  have hks := hks.no hc
  have hrnd := hrnd.no hc
  refine wl rfl rfl rfl (p_bldX (vs' := [.int .i64 (2), (.agg ((hx (Tr.root t)) : List Value).toArray)]) (cs := (([.int .i64 (2), Value.int .i64 0] ++ ((List.map u8v (List.replicate 32 (0 : UInt8))) ++ (List.map u8v (Tr.root t)))) : List Value)) (cs' := (([.int .i64 (2), Value.int .i64 0] ++ ((hx (List.replicate 32 (0 : UInt8))) ++ (hx (Tr.root t)))) : List Value)) rfl (by simp only [hv, map_hx (List.length_replicate ..), map_hx Tr.root_len] <;> rfl) (by simp only [hv, map_hx (List.length_replicate ..), map_hx Tr.root_len] <;> rfl) (fun _ => by kernel_rfl)) ?_
  refine wle rfl (e_bslX (E := 115) (cs := (([.int .i64 (2), Value.int .i64 0] ++ ((List.map u8v (List.replicate 32 (0 : UInt8))) ++ (List.map u8v (Tr.root t)))) : List Value)) (cs' := (([.int .i64 (2), Value.int .i64 0] ++ ((hx (List.replicate 32 (0 : UInt8))) ++ (hx (Tr.root t)))) : List Value)) rfl rfl (by simp only [hv, map_hx (List.length_replicate ..), map_hx Tr.root_len] <;> rfl) (fun _ => by kernel_rfl) (fun w2 g21 hg21 hb21 hc hsz21 => ?_))
  have hzw2 := hc.size
  have HC := HC.tr hc
  have hout := hout.after hc
  have hm := hm.no hc
  have hks := hks.no hc
  have hrnd := hrnd.no hc
  have hge21 : w.heap.size ≤ g21 := by have := HC.size; omega
  have hS21 := SI.oneA (E := eND) (x := ⟨(2), (0), (List.replicate 32 (0 : UInt8)), (Tr.root t)⟩) hb21 rfl ⟨(List.length_replicate ..), Tr.root_len⟩
  refine wle rfl (e_appI rfl el33 rfl rfl hout (hS21) (by omega) (by intro k hk; have hF1 := hF k (by omega); repeat (first | exact hF1 | (refine ⟨?_, by omega⟩))) (fun w3 A22 c22 hout hc => ?_))
  have hzw3 := hc.size
  have HC := HC.trans hc (fun _ _ h => h) (fun k hk ht => (by first | exact ht | (exfalso; omega) | ((try simp only [and_assoc] at ht); exact ht.1)))
  have hm := hm.ch hc (by intro k hk ht; first | exact hk.2 ht | (have h1 := hk.1; omega) | ((try simp only [and_assoc] at ht); exact hk.2 ht.1))
  have hks := hks.ch hc (by intro k hk ht; first | exact hk.2 ht | (have h1 := hk.1; omega) | ((try simp only [and_assoc] at ht); exact hk.2 ht.1))
  have hrnd := hrnd.ch hc (by rintro k rfl ht; first | omega | exact hF0 ht | ((try simp only [and_assoc] at ht); exact hF0 ht.1))
  first | have hS21 := hS21.ch hc (by intro k hk ht; omega) | have hS21 := hS21.chT hc (by intro k hz hk ht; omega)
  refine wl rfl rfl rfl (p_as rfl) ?_
  refine wl_nil ?_
  refine x_seq ?_
  refine wc_ret ?_
  refine x_in_ret ?_
  refine x_then_ret ?_
  refine fin_run ((res1 rfl rfl)) ?_
  have hpv : (t.prv ks).nodes = [⟨2, 0, zeroH, t.root⟩] := by subst hk0; cases t <;> rfl
  rw [hpv]
  exact ⟨_, _, _, rfl, hout.mono (fun k hk h => by first | exact h | ((try simp only [and_assoc] at h); exact h.1)), HC⟩

set_option maxHeartbeats 1000000 in
set_option maxRecDepth 20000 in
theorem prove_leaf {w : World} {F Fm Fk : Nat → Prop} {Ao Am Ak : Option Addr} {lo co lm cm lk ck : Nat} {xs : List ND} {ks : List H8} {k : List UInt8} {u : List UInt8} (hout : RI w F 115 eND Ao lo co xs) (hF : ∀ k, w.heap.size ≤ k → F k) (hF0 : ¬ F 0) (hm : SI w Fm eIT Am lm cm (Tr.items (Tr.leaf k u))) (hFm : ∀ k, k < w.heap.size → Fm k → ¬ F k) (hks : SI w Fk eH Ak lk ck ks) (hFk : ∀ k, k < w.heap.size → Fk k → ¬ F k) (hw : (Tr.leaf k u).WF) (hl : lm ≤ 1000000) (hlk : lk ≤ 1000000) (hlo : lo + 2 * (Tr.leaf k u).cnt ≤ 1000000000) (hrnd : Sl w (fun k => k = 0) u32v (some ⟨0, 0, none⟩) 64 64 rk) (hk0 : ks ≠ []) :
    Calls Tryd.prog 70 #[.slice Ao lo co, .slice Am lm cm, .slice Ak lk ck] w fun e w' => ∃ A l c, e = .returned (.slice A l c) ∧ RI w' F 115 eND A l c (xs ++ ((Tr.leaf k u).prv ks).nodes) ∧ Ch F w w' := by
  have hn0 : 0 < w.heap.size := hrnd.size (by omega) rfl
  have hn1 := hn0
  have hml := hm.len
  have hkl := hks.len
  have hol := hout.len
  have hm := hm.mono (G := fun k => k < w.heap.size ∧ ¬ F k) (fun k hk h => ⟨hk, hFm k hk h⟩)
  have hks := hks.mono (G := fun k => k < w.heap.size ∧ ¬ F k) (fun k hk h => ⟨hk, hFk k hk h⟩)
  have hlk0 : lk ≠ 0 := by rw [← hkl]; exact fun e => hk0 (List.eq_nil_of_length_eq_zero e)
  have hl1 : lm = 1 := by rw [← hml]; rfl
  simp only [Tr.cnt] at hlo
  have HC : Ch F w w := Ch.refl _ _
  refine enter' (args := [.slice Ao lo co, .slice Am lm cm, .slice Ak lk ck]) (n := 81) Tryd.func70 rfl rfl rfl ?_
  refine wc_seq ?_
  refine wc_region ?_
  refine wl rfl rfl rfl (p_as rfl) ?_
  refine wl_nil ?_
  refine x_seq ?_
  refine wc_seq ?_
  refine wc_block ?_
  refine wc_seq ?_
  refine wc_region ?_
  refine wl rfl rfl rfl (p_mv rfl) ?_
  refine wl rfl rfl rfl (p_lenS Tryd.underlying23 rfl) ?_
  refine wl rfl rfl rfl (p_eq rfl rfl) ?_
  refine wl rfl rfl rfl (p_as rfl) ?_
  refine wl_nil ?_
  refine x_seq ?_
  refine wc_no rfl (decide_eq_false (by omega)) ?_
  refine wc_seq ?_
  refine wc_region ?_
  refine wl rfl rfl rfl (p_mv rfl) ?_
  refine wl rfl rfl rfl (p_lenS Tryd.underlying118 rfl) ?_
  refine wl rfl rfl rfl (p_eq rfl rfl) ?_
  refine wl rfl rfl rfl (p_as rfl) ?_
  refine wl_nil ?_
  refine x_seq ?_
  refine wc_yes rfl (decide_eq_true (by omega)) ?_
  refine wc_seq ?_
  refine wc_draw (.st 0 0 (.st 1 0 (.st 2 0 (.st 3 0 (.st 4 1 (.st 5 0 (.st 6 0 (.st 7 0 (.st 8 1 (.st 9 0 (.st 10 2 (.st 11 3 (.st 12 0 .nil))))))))))))) 11 (by kernel_rfl) (by kernel_rfl) (by kernel_rfl) (by repeat (first | with_reducible exact pan_body | with_reducible apply pan_then | with_reducible apply pan_in)) (fun x => Ch No w.drew x) (Ch.refl _ _) ?_
  obtain ⟨w1, ew1⟩ : ∃ x, x = w.drew := ⟨_, rfl⟩
  rw [← ew1]
  have hc : Ch No w w1 := by rw [ew1]; exact Ch.drew _
  have hszw1 : w1.heap.size = w.heap.size := by rw [ew1]; rfl
  clear ew1
  have hzw1 := hc.size
  have HC := HC.tr hc
  have hout := hout.no hc
  have hm := hm.no hc
  have hks := hks.no hc
  have hrnd := hrnd.no hc
  have hS : Ch No w1 w1 := Ch.refl _ _
  refine ws_p rfl rfl rfl rfl (p_mv rfl) ?_
  refine ws_p rfl rfl rfl rfl (p_mv rfl) ?_
  obtain ⟨b2, o2, hA2, hF2, hr2⟩ := (hm).opn (i := 0) (d := (zeroH, zeroH)) (by omega)
  have hok2 := (hm).okAt (i := 0) (d := (zeroH, zeroH)) (by omega)
  obtain ⟨x2, ex2⟩ : ∃ x_, x_ = List.getD (Tr.items (.leaf k u)) (0) (zeroH, zeroH) := ⟨_, rfl⟩
  rw [← ex2] at hr2 hok2
  obtain ⟨hx2k, hx2v⟩ := hok2
  have hr2 : w1.rangeAt b2 (o2 + 0 * 64) (((List.map u8v x2.1) ++ (List.map u8v x2.2)) : List Value) := hr2
  refine ws_p rfl rfl rfl rfl (p_ixS (j := 0 * 64) Tryd.underlying118 sz174 rfl hA2 rfl (by omega) (by omega) rfl) ?_
  have hkx : x2 = (k, u) := ex2
  refine ws_p rfl rfl rfl rfl (p_fld (j := 0) Tryd.underlying174 rfl ⟨_, by rfl⟩ rfl rfl) ?_
  refine ws_h rfl rfl rfl rfl (p_ldA (cs := (List.map u8v x2.1)) Tryd.underlying38 rfl (szL sz38 (by first | rfl | (simp only [List.length_append, List.length_map, List.length_cons, List.length_nil, (show List.length x2.1 = 32 from hx2k)]; done) | (simp only [List.length_append, List.length_map, List.length_cons, List.length_nil, List.size_toArray, (show List.length x2.1 = 32 from hx2k)]; done))) rfl (fun _ h => rng_sub (q := (List.map u8v x2.1)) (p := []) (r := ((List.map u8v x2.2) : List Value)) (rng_no hr2 h) (by first | rfl | simp only [List.append_assoc, List.cons_append, List.nil_append, List.append_nil]) rfl)) ?_
  refine ws_p rfl rfl rfl rfl (p_mv rfl) ?_
  obtain ⟨b3, o3, hA3, hF3, hr3⟩ := (hm).opn (i := 0) (d := (zeroH, zeroH)) (by omega)
  have hok3 := (hm).okAt (i := 0) (d := (zeroH, zeroH)) (by omega)
  obtain ⟨x3, ex3⟩ : ∃ x_, x_ = List.getD (Tr.items (.leaf k u)) (0) (zeroH, zeroH) := ⟨_, rfl⟩
  rw [← ex3] at hr3 hok3
  obtain ⟨hx3k, hx3v⟩ := hok3
  have hr3 : w1.rangeAt b3 (o3 + 0 * 64) (((List.map u8v x3.1) ++ (List.map u8v x3.2)) : List Value) := hr3
  refine ws_p rfl rfl rfl rfl (p_ixS (j := 0 * 64) Tryd.underlying118 sz174 rfl hA3 rfl (by omega) (by omega) rfl) ?_
  have hky : x3 = (k, u) := ex3
  refine ws_p rfl rfl rfl rfl (p_fld (j := 32) Tryd.underlying174 rfl ⟨_, by rfl⟩ rfl rfl) ?_
  refine ws_h rfl rfl rfl rfl (p_ldA (cs := (List.map u8v x3.2)) Tryd.underlying38 rfl (szL sz38 (by first | rfl | (simp only [List.length_append, List.length_map, List.length_cons, List.length_nil, (show List.length x3.2 = 32 from hx3v)]; done) | (simp only [List.length_append, List.length_map, List.length_cons, List.length_nil, List.size_toArray, (show List.length x3.2 = 32 from hx3v)]; done))) rfl (fun _ h => rng_sub (q := (List.map u8v x3.2)) (p := ((List.map u8v x3.1) : List Value)) (r := []) (rng_no hr3 h) (by first | rfl | simp only [List.append_assoc, List.cons_append, List.nil_append, List.append_nil]) (by first | rfl | (simp only [List.length_append, List.length_map, List.length_cons, List.length_nil, (show List.length x3.1 = 32 from hx3k)]; done) | (simp only [List.length_append, List.length_map, List.length_cons, List.length_nil, List.size_toArray, (show List.length x3.1 = 32 from hx3k)]; done)))) ?_
  refine ws_p rfl rfl rfl rfl (p_bldX (vs' := [.int .i64 (3), (.agg ((hx x2.1) : List Value).toArray), (.agg ((hx x3.2) : List Value).toArray)]) (cs := (([.int .i64 (3), Value.int .i64 0] ++ ((List.map u8v x2.1) ++ (List.map u8v x3.2))) : List Value)) (cs' := (([.int .i64 (3), Value.int .i64 0] ++ ((hx x2.1) ++ (hx x3.2))) : List Value)) rfl (by simp only [hv, map_hx hx2k, map_hx hx3v] <;> rfl) (by simp only [hv, map_hx hx2k, map_hx hx3v] <;> rfl) (fun _ => by kernel_rfl)) ?_
  refine ws_e rfl rfl (e_bslX (E := 115) (cs := (([.int .i64 (3), Value.int .i64 0] ++ ((List.map u8v x2.1) ++ (List.map u8v x3.2))) : List Value)) (cs' := (([.int .i64 (3), Value.int .i64 0] ++ ((hx x2.1) ++ (hx x3.2))) : List Value)) rfl rfl (by simp only [hv, map_hx hx2k, map_hx hx3v] <;> rfl) (fun _ => by kernel_rfl) (fun w4 g37 hg37 hb37 hc hsz37 => ⟨hc, ?_⟩))
  have hzw4 := hc.size
  have HC := HC.tr hc
  have hout := hout.after hc
  have hm := hm.no hc
  have hks := hks.no hc
  have hrnd := hrnd.no hc
  have hge37 : w.heap.size ≤ g37 := by have := HC.size; omega
  have hS37 := SI.oneA (E := eND) (x := ⟨(3), (0), x2.1, x3.2⟩) hb37 rfl ⟨hx2k, hx3v⟩
  refine ws_narrow (S' := fun x => Ch No w4 x) (Ch.refl _ _) (fun x h => hc.tr h) ?_
  refine ws_l rfl rfl (e_appI rfl el33 rfl rfl hout (hS37) (by omega) (by intro k hk; have hF1 := hF k (by omega); repeat (first | exact hF1 | (refine ⟨?_, by omega⟩))) (fun w5 A38 c38 hout hc => ?_))
  have hzw5 := hc.size
  have HC := HC.trans hc (fun _ _ h => h) (fun k hk ht => (by first | exact ht | (exfalso; omega) | ((try simp only [and_assoc] at ht); exact ht.1)))
  have hm := hm.ch hc (by intro k hk ht; first | exact hk.2 ht | (have h1 := hk.1; omega) | ((try simp only [and_assoc] at ht); exact hk.2 ht.1))
  have hks := hks.ch hc (by intro k hk ht; first | exact hk.2 ht | (have h1 := hk.1; omega) | ((try simp only [and_assoc] at ht); exact hk.2 ht.1))
  have hrnd := hrnd.ch hc (by rintro k rfl ht; first | omega | exact hF0 ht | ((try simp only [and_assoc] at ht); exact hF0 ht.1))
  first | have hS37 := hS37.ch hc (by intro k hk ht; omega) | have hS37 := hS37.chT hc (by intro k hz hk ht; omega)
  refine ws_p rfl rfl rfl rfl (p_as rfl) ?_
  refine ws_n ?_
  refine x_seq ?_
  refine wc_ret ?_
  refine x_in_ret ?_
  refine x_then_ret ?_
  refine fin_run ((res1 rfl rfl)) ?_
  have hpv : ((Tr.leaf k u).prv ks).nodes = [⟨3, 0, k, u⟩] := by rw [Tr.prv, if_neg hk0]; rfl
  rw [hpv]
  rw [hkx, hky] at hout
  exact ⟨_, _, _, rfl, hout.mono (fun k hk h => by first | exact h | ((try simp only [and_assoc] at h); exact h.1)), HC⟩

set_option maxHeartbeats 2000000 in
set_option maxRecDepth 20000 in
theorem prove_fork {w : World} {F Fm Fk : Nat → Prop} {Ao Am Ak : Option Addr} {lo co lm cm lk ck : Nat} {xs : List ND} {ks : List H8} {b : Nat} {x y : Tr} (IHx : ProveOK x) (IHy : ProveOK y) (hout : RI w F 115 eND Ao lo co xs) (hF : ∀ k, w.heap.size ≤ k → F k) (hF0 : ¬ F 0) (hm : SI w Fm eIT Am lm cm (Tr.items (Tr.fork b x y))) (hFm : ∀ k, k < w.heap.size → Fm k → ¬ F k) (hks : SI w Fk eH Ak lk ck ks) (hFk : ∀ k, k < w.heap.size → Fk k → ¬ F k) (hw : (Tr.fork b x y).WF) (hl : lm ≤ 1000000) (hlk : lk ≤ 1000000) (hlo : lo + 2 * (Tr.fork b x y).cnt ≤ 1000000000) (hrnd : Sl w (fun k => k = 0) u32v (some ⟨0, 0, none⟩) 64 64 rk) (hk0 : ks ≠ []) :
    Calls Tryd.prog 70 #[.slice Ao lo co, .slice Am lm cm, .slice Ak lk ck] w fun e w' => ∃ A l c, e = .returned (.slice A l c) ∧ RI w' F 115 eND A l c (xs ++ ((Tr.fork b x y).prv ks).nodes) ∧ Ch F w w' := by
  have hn0 : 0 < w.heap.size := hrnd.size (by omega) rfl
  have hn1 := hn0
  have hml := hm.len
  have hkl := hks.len
  have hol := hout.len
  have hm := hm.mono (G := fun k => k < w.heap.size ∧ ¬ F k) (fun k hk h => ⟨hk, hFm k hk h⟩)
  have hks := hks.mono (G := fun k => k < w.heap.size ∧ ¬ F k) (fun k hk h => ⟨hk, hFk k hk h⟩)
  have hlk0 : lk ≠ 0 := by rw [← hkl]; exact fun e => hk0 (List.eq_nil_of_length_eq_zero e)
  obtain ⟨hc1, hc2, hc3⟩ := cut_fork hw
  have px := Tr.cnt_pos x
  have py := Tr.cnt_pos y
  simp only [Tr.cnt] at hlo
  have hout := hout.mono (G := fun k => F k ∧ k < w.heap.size) (fun k hk h => ⟨h, hk⟩)
  have HC : Ch F w w := Ch.refl _ _
  refine enter' (args := [.slice Ao lo co, .slice Am lm cm, .slice Ak lk ck]) (n := 81) Tryd.func70 rfl rfl rfl ?_
  refine wc_seq ?_
  refine wc_region ?_
  refine wl rfl rfl rfl (p_as rfl) ?_
  refine wl_nil ?_
  refine x_seq ?_
  refine wc_seq ?_
  refine wc_block ?_
  refine wc_seq ?_
  refine wc_region ?_
  refine wl rfl rfl rfl (p_mv rfl) ?_
  refine wl rfl rfl rfl (p_lenS Tryd.underlying23 rfl) ?_
  refine wl rfl rfl rfl (p_eq rfl rfl) ?_
  refine wl rfl rfl rfl (p_as rfl) ?_
  refine wl_nil ?_
  refine x_seq ?_
  refine wc_no rfl (decide_eq_false (by omega)) ?_
  refine wc_seq ?_
  refine wc_region ?_
  refine wl rfl rfl rfl (p_mv rfl) ?_
  refine wl rfl rfl rfl (p_lenS Tryd.underlying118 rfl) ?_
  refine wl rfl rfl rfl (p_eq rfl rfl) ?_
  refine wl rfl rfl rfl (p_as rfl) ?_
  refine wl_nil ?_
  refine x_seq ?_
  refine wc_no rfl (decide_eq_false (by omega)) ?_
  refine wc_skip ?_
  refine x_in_normal ?_
  refine x_seq ?_
  refine wc_seq ?_
  refine wc_region ?_
  refine wl rfl rfl rfl (p_mv rfl) ?_
  refine wle rfl (e_call ent100 rfl rfl (mcut_any (hm) hw (by omega)) ?_)
  rintro _ w1 ⟨rfl, hc⟩
  refine ⟨_, rfl, ?_⟩
  have hzw1 := hc.size
  have HC := HC.tr hc
  have hout := hout.after hc
  have hm := hm.no hc
  have hks := hks.no hc
  have hrnd := hrnd.no hc
  refine wl rfl rfl rfl (p_mv rfl) ?_
  refine wl rfl rfl rfl (p_ext rfl rfl) ?_
  refine wl rfl rfl rfl (p_ext rfl rfl) ?_
  refine wl rfl rfl rfl (p_as rfl) ?_
  refine wl rfl rfl rfl (p_as rfl) ?_
  refine wl_nil ?_
  refine x_seq ?_
  refine wc_seq ?_
  refine wc_region ?_
  refine wle rfl (e_alloc (cs := ([Value.slice none 0 0, Value.slice none 0 0] : List Value).toArray) rfl (by rfl) rfl (fun w2 g9 hg9 hb9 hc hsz9 => ?_))
  have hzw2 := hc.size
  have HC := HC.tr hc
  have hout := hout.after hc
  have hm := hm.no hc
  have hks := hks.no hc
  have hrnd := hrnd.no hc
  have hge9 : w.heap.size ≤ g9 := by have := HC.size; omega
  refine wl_nil ?_
  refine x_seq ?_
  refine wc_seq ?_
  refine wc_seq ?_
  refine wc_region ?_
  refine wl rfl rfl rfl (p_mv rfl) ?_
  refine wl rfl rfl rfl (p_lenS Tryd.underlying23 rfl) ?_
  refine wl rfl rfl rfl (p_mv rfl) ?_
  refine wl_nil ?_
  refine x_seq ?_
  refine wc_block ?_
  obtain ⟨n9, hn9⟩ : ∃ z, z = w2.heap.size := ⟨_, rfl⟩
  refine wc_loop (e' := [(0, .slice Ao lo co), (1, .slice Am lm cm), (7, i64 (b : Int)), (8, i64 (x.cnt : Int)), (9, .pointer (some ⟨g9, 0, none⟩)), (44, .slice Ak lk ck), (45, i64 (lk : Int)), (46, i64 ((0) : Int))]) (fun mz ez uz => ∃ i : Nat, ∃ A0 : Option Addr, ∃ l0 : Nat, ∃ c0 : Nat, ∃ A1 : Option Addr, ∃ l1 : Nat, ∃ c1 : Nat, mz = lk - i ∧ ez = [(0, .slice Ao lo co), (1, .slice Am lm cm), (7, i64 (b : Int)), (8, i64 (x.cnt : Int)), (9, .pointer (some ⟨g9, 0, none⟩)), (44, .slice Ak lk ck), (45, i64 (lk : Int)), (46, i64 (i : Int))] ∧ (i ≤ lk) ∧ (l0 ≤ i) ∧ (l1 ≤ i) ∧ (Blk uz g9 178 ([.slice A0 l0 c0, .slice A1 l1 c1] : List Value).toArray) ∧ (R2 uz n9 uz.heap.size 38 eH A0 l0 c0 ((ks.take i).filter (fun k => decide (bitN k b = 0))) A1 l1 c1 ((ks.take i).filter (fun k => decide (bitN k b = 1)))) ∧ (RI uz (fun k => F k ∧ k < w.heap.size) 115 eND Ao lo co xs) ∧ (SI uz (fun k => k < w.heap.size ∧ ¬ F k) eIT Am lm cm (Tr.items (.fork b x y))) ∧ (SI uz (fun k => k < w.heap.size ∧ ¬ F k) eH Ak lk ck ks) ∧ (Sl uz (fun k => k = 0) u32v (some ⟨0, 0, none⟩) 64 64 rk) ∧ (w.heap.size ≤ g9 ∧ g9 < n9 ∧ n9 ≤ uz.heap.size) ∧ (Ch F w uz))
   ⟨rfl, rfl, rfl, rfl, rfl, rfl, rfl, rfl, trivial⟩ ⟨0, none, 0, 0, none, 0, 0, rfl, rfl, (by omega), (by omega), (by omega), hb9, R2.nil _ _ _ _ _, (hout.mono (fun k hk h => ⟨by first | exact h.1 | exact h.1.1 | exact h.1.1.1 | exact h.1.1.1.1 | exact h.1.1.1.1.1, by first | exact h.2 | exact h.1.2 | exact h.1.1.2 | exact h.1.1.1.2 | exact h.1.1.1.1.2 | exact h.1.1.1.1.1.2⟩)), hm, hks, hrnd, (by omega), HC⟩ ?_
  rintro m0 e w3 ⟨i, A0, l0, c0, A1, l1, c1, hm0, rfl, hi, hl0, hl1, hb9, hR2, hout, hm, hks, hrnd, hg9n, HC⟩
  have hzw3 := HC.size
  obtain ⟨m9, hm9⟩ : ∃ z, z = w3.heap.size := ⟨_, rfl⟩
  rw [← hm9] at hR2
  refine wc_seq ?_
  refine wc_region ?_
  refine wl rfl rfl rfl (p_lt rfl rfl) ?_
  refine wl_nil ?_
  refine x_seq ?_
  refine wc_seq ?_
  refine wc_if rfl (fun c2 => ?_) (fun c2 => ?_)
  ·
   have c2 := of_decide_eq_true c2
   refine wc_skip ?_
   refine x_seq ?_
   refine wc_seq ?_
   refine wc_block ?_
   refine wc_seq ?_
   refine wc_region ?_
   obtain ⟨b4, o4, hA4, hF4, hr4⟩ := (hks).opn (i := i) (d := zeroH) (by omega)
   have hok4 := (hks).okAt (i := i) (d := zeroH) (by omega)
   obtain ⟨x4, ex4⟩ : ∃ x_, x_ = List.getD ks (i) zeroH := ⟨_, rfl⟩
   rw [← ex4] at hr4 hok4
   have hx4k : List.length x4 = 32 := hok4
   have hr4 : w3.rangeAt b4 (o4 + i * 32) ((List.map u8v x4) : List Value) := hr4
   refine wl rfl rfl rfl (p_ixS (j := i * 32) Tryd.underlying23 sz38 rfl hA4 rfl (by omega) (by omega) (congrArg (· * 32) (Int.toNat_natCast _))) ?_
   refine wl rfl rfl rfl (p_ldA (cs := ((List.map u8v x4) : List Value)) Tryd.underlying38 rfl (szL sz38 (by first | rfl | (simp only [List.length_append, List.length_map, List.length_cons, List.length_nil, (show List.length x4 = 32 from hx4k)]; done) | (simp only [List.length_append, List.length_map, List.length_cons, List.length_nil, List.size_toArray, (show List.length x4 = 32 from hx4k)]; done))) rfl (fun _ e => e ▸ hr4)) ?_
   have hltg9 := hb9.lt
   refine wle rfl (e_alloc (cs := ((List.replicate 32 (0 : UInt8)).map u8v).toArray) rfl (by rfl) rfl (fun w5 g11 hg11 hb11 hc hsz11 => ?_))
   have hzw5 := hc.size
   have HC := HC.tr hc
   have hout := hout.after hc
   have hm := hm.no hc
   have hks := hks.no hc
   have hrnd := hrnd.no hc
   have hb9 := hb9.ch hc (fun h => h)
   first | have hR2 := hR2.no hc | have hR2 := hR2.ch hc (by intro k h1 h2 ht; first | omega | (dsimp only at *; omega))
   have hge11 : w.heap.size ≤ g11 := by have := HC.size; omega
   have neg9_11 : g9 < g11 := by omega
   refine wle rfl (e_stH sz38 (List.length_replicate ..) hx4k rfl rfl hb11 (fun w6 hb11 hc hsz => ?_))
   have hzw6 := hc.size
   have HC := HC.trans hc (fun _ _ h => h) (fun k hk ht => absurd ht (by omega))
   have hout := hout.ch hc (by intro k hz hk ht; omega)
   have hm := hm.ch hc (by intro k hk ht; have h1 := hk.1; omega)
   have hks := hks.ch hc (by intro k hk ht; have h1 := hk.1; omega)
   have hrnd := hrnd.ch hc (by intro k hk ht; omega)
   have hb9 := hb9.ch hc (by omega)
   first | have hR2 := hR2.no hc | have hR2 := hR2.ch hc (by intro k h1 h2 ht; first | omega | (dsimp only at *; omega))
   refine wl_nil ?_
   refine x_seq ?_
   refine wc_seq ?_
   refine wc_region ?_
   refine wl rfl rfl rfl (p_ldH (L := x4) Tryd.underlying38 sz38 hx4k rfl (fun _ e => e ▸ rngL hb11)) ?_
   refine wl rfl rfl rfl (p_mv rfl) ?_
   refine wle rfl (e_call ent38 rfl rfl (bitS (n := b) (hx4k)) ?_)
   rintro _ w7 ⟨s52, rfl, hs52, hsl52, hc⟩
   refine ⟨_, rfl, ?_⟩
   have hzw7 := hc.size
   have HC := HC.tr hc
   have hout := hout.after hc
   have hm := hm.no hc
   have hks := hks.no hc
   have hrnd := hrnd.no hc
   have hb9 := hb9.ch hc (fun h => h)
   first | have hR2 := hR2.no hc | have hR2 := hR2.ch hc (by intro k h1 h2 ht; first | omega | (dsimp only at *; omega))
   have hb11 := hb11.ch hc (fun h => h)
   refine wl rfl rfl rfl (p_as rfl) ?_
   refine wl_nil ?_
   refine x_seq ?_
   obtain rfl | rfl : s52 = 0 ∨ s52 = 1 := by omega
   ·
    refine wc_draw (.st 0 0 (.st 1 0 (.st 2 0 (.st 3 1 (.st 4 1 (.st 5 2 (.st 6 3 (.st 7 0 (.st 8 3 .nil))))))))) 6 (by kernel_rfl) (by kernel_rfl) (by kernel_rfl) (by repeat (first | with_reducible exact pan_body | with_reducible apply pan_then | with_reducible apply pan_in)) (fun x => Ch No w7.drew x) (Ch.refl _ _) ?_
    obtain ⟨w8, ew8⟩ : ∃ x, x = w7.drew := ⟨_, rfl⟩
    rw [← ew8]
    have hc : Ch No w7 w8 := by rw [ew8]; exact Ch.drew _
    have hszw8 : w8.heap.size = w7.heap.size := by rw [ew8]; rfl
    clear ew8
    have hzw8 := hc.size
    have HC := HC.tr hc
    have hout := hout.no hc
    have hm := hm.no hc
    have hks := hks.no hc
    have hrnd := hrnd.no hc
    have hb9 := hb9.ch hc (fun h => h)
    first | have hR2 := hR2.no hc | have hR2 := hR2.ch hc (by intro k h1 h2 ht; first | omega | (dsimp only at *; omega))
    have hb11 := hb11.ch hc (fun h => h)
    have hS : Ch No w8 w8 := Ch.refl _ _
    refine ws_p rfl rfl rfl rfl (p_mv rfl) ?_
    refine ws_p rfl rfl rfl rfl (p_mv rfl) ?_
    refine ws_p rfl rfl rfl rfl (p_ixA (j := 0) Tryd.underlying178 sz23 rfl rfl (by omega) (by omega) rfl) ?_
    refine ws_h rfl rfl rfl rfl (p_ld Tryd.underlying23 rfl rfl (fun _ h => h.cell (fun h => h) (cell_at (p := []) (v := (.slice A0 l0 c0 : Value)) (r := ([.slice A1 l1 c1] : List Value)) hb9 (by simp only [List.append_assoc, List.cons_append, List.nil_append, List.append_nil]) (by first | rfl | (simp only [List.length_append, List.length_map, List.length_cons, List.length_nil]; done) | (simp only [List.length_append, List.length_map, List.length_cons, List.length_nil, List.size_toArray]; done))))) ?_
    refine ws_h rfl rfl rfl rfl (p_ldH (L := x4) Tryd.underlying38 sz38 hx4k rfl (fun _ h => rngL (hb11.ch h (fun h => h)))) ?_
    have hltg9 := hb9.lt
    have hltg11 := hb11.lt
    refine ws_e rfl rfl (e_bslX (E := 38) (cs := ((List.map u8v x4) : List Value)) (cs' := ((hx x4) : List Value)) rfl rfl (by simp only [hv, map_hx hx4k] <;> rfl) (fun _ => by kernel_rfl) (fun w10 g58 hg58 hb58 hc hsz58 => ⟨hc, ?_⟩))
    have hzw10 := hc.size
    have HC := HC.tr hc
    have hout := hout.after hc
    have hm := hm.no hc
    have hks := hks.no hc
    have hrnd := hrnd.no hc
    have hb9 := hb9.ch hc (fun h => h)
    first | have hR2 := hR2.no hc | have hR2 := hR2.ch hc (by intro k h1 h2 ht; first | omega | (dsimp only at *; omega))
    have hb11 := hb11.ch hc (fun h => h)
    have hge58 : w.heap.size ≤ g58 := by have := HC.size; omega
    have hS58 := SI.oneA (E := eH) (x := x4) hb58 rfl hx4k
    refine ws_narrow (S' := fun x => Ch No w10 x) (Ch.refl _ _) (fun x h => hc.tr h) ?_
    refine ws_l rfl rfl (e_app2 rfl el23 rfl rfl hR2 (hS58) (by omega) (by omega) (by omega) (fun w11 A59 c59 hR2 hc => ?_))
    have hzw11 := hc.size
    have HC := HC.trans hc (fun _ _ h => h) (fun k hk ht => (by first | exact ht | (exfalso; omega) | ((try simp only [and_assoc] at ht); exact ht.1)))
    have hout := hout.afterT hc (by intro k hz hk ht; omega)
    have hm := hm.ch hc (by intro k hk ht; first | exact hk.2 ht | (have h1 := hk.1; omega) | ((try simp only [and_assoc] at ht); exact hk.2 ht.1))
    have hks := hks.ch hc (by intro k hk ht; first | exact hk.2 ht | (have h1 := hk.1; omega) | ((try simp only [and_assoc] at ht); exact hk.2 ht.1))
    have hrnd := hrnd.ch hc (by rintro k rfl ht; first | omega | exact hF0 ht | ((try simp only [and_assoc] at ht); exact hF0 ht.1))
    have hb9 := hb9.ch hc (by omega)
    have hb11 := hb11.ch hc (by omega)
    refine ws_p rfl rfl rfl rfl (p_ixA (j := 0) Tryd.underlying178 sz23 rfl rfl (by omega) (by omega) rfl) ?_
    refine ws_l rfl rfl (e_stC (p := []) (u := (.slice A0 l0 c0 : Value)) (r := ([.slice A1 l1 c1] : List Value)) (v := .slice A59 (l0 + 1) c59) (by rfl) rfl rfl rfl hb9 (by simp only [List.append_assoc, List.cons_append, List.nil_append, List.append_nil]) (by first | rfl | (simp only [List.length_append, List.length_map, List.length_cons, List.length_nil]; done) | (simp only [List.length_append, List.length_map, List.length_cons, List.length_nil, List.size_toArray]; done)) (fun w13 hb9 hc hsz => ?_))
    have hb9 : Blk w13 g9 178 ([.slice A59 (l0 + 1) c59, .slice A1 l1 c1] : List Value).toArray := by have h := hb9; simp only [List.append_assoc, List.cons_append, List.nil_append, List.append_nil] at h ⊢; exact h
    have hzw13 := hc.size
    have HC := HC.trans hc (fun _ _ h => h) (fun k hk ht => absurd ht (by omega))
    have hout := hout.ch hc (by intro k hz hk ht; omega)
    have hm := hm.ch hc (by intro k hk ht; have h1 := hk.1; omega)
    have hks := hks.ch hc (by intro k hk ht; have h1 := hk.1; omega)
    have hrnd := hrnd.ch hc (by intro k hk ht; omega)
    first | have hR2 := hR2.no hc | have hR2 := hR2.ch hc (by intro k h1 h2 ht; first | omega | (dsimp only at *; omega))
    have hb11 := hb11.ch hc (by omega)
    refine ws_n ?_
    refine x_in_normal ?_
    refine x_seq ?_
    refine wc_region ?_
    refine wl rfl rfl rfl (p_add rfl rfl (w64 (by omega))) ?_
    refine wl rfl rfl rfl (p_mv rfl) ?_
    refine wl_nil ?_
    refine x_round (e' := [(0, .slice Ao lo co), (1, .slice Am lm cm), (7, i64 (b : Int)), (8, i64 (x.cnt : Int)), (9, .pointer (some ⟨g9, 0, none⟩)), (44, .slice Ak lk ck), (45, i64 (lk : Int)), (46, i64 ((i + 1) : Int))]) ⟨rfl, rfl, rfl, rfl, rfl, rfl, rfl, rfl, trivial⟩ (by rw [hm0]; omega) ⟨i + 1, A59, l0 + 1, c59, A1, l1, c1, rfl, rfl, (by omega), (by omega), (by omega), hb9, (by rw [filt_yes (p := (fun k => decide (bitN k b = 0))) (d := zeroH) (by omega) (by rw [← ex4, hs52]; rfl), filt_no (p := (fun k => decide (bitN k b = 1))) (d := zeroH) (by omega) (by rw [← ex4, hs52]; rfl), ← ex4]; exact hR2.up (by omega)), (hout.mono (fun k hk h => ⟨by first | exact h.1 | exact h.1.1 | exact h.1.1.1 | exact h.1.1.1.1 | exact h.1.1.1.1.1 | exact h.1.1.1.1.1.1 | exact h.1.1.1.1.1.1.1 | exact h.1.1.1.1.1.1.1.1, by first | exact h.2 | exact h.1.2 | exact h.1.1.2 | exact h.1.1.1.2 | exact h.1.1.1.1.2 | exact h.1.1.1.1.1.2 | exact h.1.1.1.1.1.1.2 | exact h.1.1.1.1.1.1.1.2 | exact h.1.1.1.1.1.1.1.1.2⟩)), hm, hks, hrnd, (by omega), HC⟩
   ·
    refine wc_draw (.st 0 0 (.st 1 0 (.st 2 0 (.st 3 1 (.st 4 1 (.st 5 2 (.st 6 3 (.st 7 0 (.st 8 3 .nil))))))))) 6 (by kernel_rfl) (by kernel_rfl) (by kernel_rfl) (by repeat (first | with_reducible exact pan_body | with_reducible apply pan_then | with_reducible apply pan_in)) (fun x => Ch No w7.drew x) (Ch.refl _ _) ?_
    obtain ⟨w14, ew14⟩ : ∃ x, x = w7.drew := ⟨_, rfl⟩
    rw [← ew14]
    have hc : Ch No w7 w14 := by rw [ew14]; exact Ch.drew _
    have hszw14 : w14.heap.size = w7.heap.size := by rw [ew14]; rfl
    clear ew14
    have hzw14 := hc.size
    have HC := HC.tr hc
    have hout := hout.no hc
    have hm := hm.no hc
    have hks := hks.no hc
    have hrnd := hrnd.no hc
    have hb9 := hb9.ch hc (fun h => h)
    first | have hR2 := hR2.no hc | have hR2 := hR2.ch hc (by intro k h1 h2 ht; first | omega | (dsimp only at *; omega))
    have hb11 := hb11.ch hc (fun h => h)
    have hS : Ch No w14 w14 := Ch.refl _ _
    refine ws_p rfl rfl rfl rfl (p_mv rfl) ?_
    refine ws_p rfl rfl rfl rfl (p_mv rfl) ?_
    refine ws_p rfl rfl rfl rfl (p_ixA (j := 1) Tryd.underlying178 sz23 rfl rfl (by omega) (by omega) rfl) ?_
    refine ws_h rfl rfl rfl rfl (p_ld Tryd.underlying23 rfl rfl (fun _ h => h.cell (fun h => h) (cell_at (p := ([.slice A0 l0 c0] : List Value)) (v := (.slice A1 l1 c1 : Value)) (r := []) hb9 (by simp only [List.append_assoc, List.cons_append, List.nil_append, List.append_nil]) (by first | rfl | (simp only [List.length_append, List.length_map, List.length_cons, List.length_nil]; done) | (simp only [List.length_append, List.length_map, List.length_cons, List.length_nil, List.size_toArray]; done))))) ?_
    refine ws_h rfl rfl rfl rfl (p_ldH (L := x4) Tryd.underlying38 sz38 hx4k rfl (fun _ h => rngL (hb11.ch h (fun h => h)))) ?_
    have hltg9 := hb9.lt
    have hltg11 := hb11.lt
    refine ws_e rfl rfl (e_bslX (E := 38) (cs := ((List.map u8v x4) : List Value)) (cs' := ((hx x4) : List Value)) rfl rfl (by simp only [hv, map_hx hx4k] <;> rfl) (fun _ => by kernel_rfl) (fun w16 g58 hg58 hb58 hc hsz58 => ⟨hc, ?_⟩))
    have hzw16 := hc.size
    have HC := HC.tr hc
    have hout := hout.after hc
    have hm := hm.no hc
    have hks := hks.no hc
    have hrnd := hrnd.no hc
    have hb9 := hb9.ch hc (fun h => h)
    first | have hR2 := hR2.no hc | have hR2 := hR2.ch hc (by intro k h1 h2 ht; first | omega | (dsimp only at *; omega))
    have hb11 := hb11.ch hc (fun h => h)
    have hge58 : w.heap.size ≤ g58 := by have := HC.size; omega
    have hS58 := SI.oneA (E := eH) (x := x4) hb58 rfl hx4k
    refine ws_narrow (S' := fun x => Ch No w16 x) (Ch.refl _ _) (fun x h => hc.tr h) ?_
    refine ws_l rfl rfl (e_app2b rfl el23 rfl rfl hR2 (hS58) (by omega) (by omega) (by omega) (fun w17 A59 c59 hR2 hc => ?_))
    have hzw17 := hc.size
    have HC := HC.trans hc (fun _ _ h => h) (fun k hk ht => (by first | exact ht | (exfalso; omega) | ((try simp only [and_assoc] at ht); exact ht.1)))
    have hout := hout.afterT hc (by intro k hz hk ht; omega)
    have hm := hm.ch hc (by intro k hk ht; first | exact hk.2 ht | (have h1 := hk.1; omega) | ((try simp only [and_assoc] at ht); exact hk.2 ht.1))
    have hks := hks.ch hc (by intro k hk ht; first | exact hk.2 ht | (have h1 := hk.1; omega) | ((try simp only [and_assoc] at ht); exact hk.2 ht.1))
    have hrnd := hrnd.ch hc (by rintro k rfl ht; first | omega | exact hF0 ht | ((try simp only [and_assoc] at ht); exact hF0 ht.1))
    have hb9 := hb9.ch hc (by omega)
    have hb11 := hb11.ch hc (by omega)
    refine ws_p rfl rfl rfl rfl (p_ixA (j := 1) Tryd.underlying178 sz23 rfl rfl (by omega) (by omega) rfl) ?_
    refine ws_l rfl rfl (e_stC (p := ([.slice A0 l0 c0] : List Value)) (u := (.slice A1 l1 c1 : Value)) (r := []) (v := .slice A59 (l1 + 1) c59) (by rfl) rfl rfl rfl hb9 (by simp only [List.append_assoc, List.cons_append, List.nil_append, List.append_nil]) (by first | rfl | (simp only [List.length_append, List.length_map, List.length_cons, List.length_nil]; done) | (simp only [List.length_append, List.length_map, List.length_cons, List.length_nil, List.size_toArray]; done)) (fun w19 hb9 hc hsz => ?_))
    have hb9 : Blk w19 g9 178 ([.slice A0 l0 c0, .slice A59 (l1 + 1) c59] : List Value).toArray := by have h := hb9; simp only [List.append_assoc, List.cons_append, List.nil_append, List.append_nil] at h ⊢; exact h
    have hzw19 := hc.size
    have HC := HC.trans hc (fun _ _ h => h) (fun k hk ht => absurd ht (by omega))
    have hout := hout.ch hc (by intro k hz hk ht; omega)
    have hm := hm.ch hc (by intro k hk ht; have h1 := hk.1; omega)
    have hks := hks.ch hc (by intro k hk ht; have h1 := hk.1; omega)
    have hrnd := hrnd.ch hc (by intro k hk ht; omega)
    first | have hR2 := hR2.no hc | have hR2 := hR2.ch hc (by intro k h1 h2 ht; first | omega | (dsimp only at *; omega))
    have hb11 := hb11.ch hc (by omega)
    refine ws_n ?_
    refine x_in_normal ?_
    refine x_seq ?_
    refine wc_region ?_
    refine wl rfl rfl rfl (p_add rfl rfl (w64 (by omega))) ?_
    refine wl rfl rfl rfl (p_mv rfl) ?_
    refine wl_nil ?_
    refine x_round (e' := [(0, .slice Ao lo co), (1, .slice Am lm cm), (7, i64 (b : Int)), (8, i64 (x.cnt : Int)), (9, .pointer (some ⟨g9, 0, none⟩)), (44, .slice Ak lk ck), (45, i64 (lk : Int)), (46, i64 ((i + 1) : Int))]) ⟨rfl, rfl, rfl, rfl, rfl, rfl, rfl, rfl, trivial⟩ (by rw [hm0]; omega) ⟨i + 1, A0, l0, c0, A59, l1 + 1, c59, rfl, rfl, (by omega), (by omega), (by omega), hb9, (by rw [filt_no (p := (fun k => decide (bitN k b = 0))) (d := zeroH) (by omega) (by rw [← ex4, hs52]; rfl), filt_yes (p := (fun k => decide (bitN k b = 1))) (d := zeroH) (by omega) (by rw [← ex4, hs52]; rfl), ← ex4]; exact hR2.up (by omega)), (hout.mono (fun k hk h => ⟨by first | exact h.1 | exact h.1.1 | exact h.1.1.1 | exact h.1.1.1.1 | exact h.1.1.1.1.1 | exact h.1.1.1.1.1.1 | exact h.1.1.1.1.1.1.1 | exact h.1.1.1.1.1.1.1.1, by first | exact h.2 | exact h.1.2 | exact h.1.1.2 | exact h.1.1.1.2 | exact h.1.1.1.1.2 | exact h.1.1.1.1.1.2 | exact h.1.1.1.1.1.1.2 | exact h.1.1.1.1.1.1.1.2 | exact h.1.1.1.1.1.1.1.1.2⟩)), hm, hks, hrnd, (by omega), HC⟩
  ·
   have c2 := of_decide_eq_false c2
   rw [List.take_of_length_le (by omega)] at hR2
   have hS0 := hR2.fst.si
   have hS1 := hR2.snd.si
   have hs0l := hS0.len
   have hs1l := hS1.len
   have hspl := Tr.split_len ks b
   refine wc_exit ?_
   refine x_then_exit ?_
   refine x_then_exit ?_
   refine x_in_here ?_
   refine x_seq ?_
   refine wc_seq ?_
   refine wc_region ?_
   refine wl rfl rfl rfl (p_mv rfl) ?_
   refine wl rfl rfl rfl (p_mv rfl) ?_
   refine wl rfl rfl rfl (p_bldX (vs' := [.int .i64 (4), i64 (b : Int)]) (cs := (([.int .i64 (4), i64 (b : Int)] ++ ((List.map u8v (List.replicate 32 (0 : UInt8))) ++ (List.map u8v (List.replicate 32 (0 : UInt8))))) : List Value)) (cs' := (([.int .i64 (4), i64 (b : Int)] ++ ((hx (List.replicate 32 (0 : UInt8))) ++ (hx (List.replicate 32 (0 : UInt8))))) : List Value)) rfl rfl (by simp only [hv, map_hx (List.length_replicate ..)] <;> rfl) (fun _ => by kernel_rfl)) ?_
   have hltg9 := hb9.lt
   refine wle rfl (e_bslX (E := 115) (cs := (([.int .i64 (4), i64 (b : Int)] ++ ((List.map u8v (List.replicate 32 (0 : UInt8))) ++ (List.map u8v (List.replicate 32 (0 : UInt8))))) : List Value)) (cs' := (([.int .i64 (4), i64 (b : Int)] ++ ((hx (List.replicate 32 (0 : UInt8))) ++ (hx (List.replicate 32 (0 : UInt8))))) : List Value)) rfl rfl (by simp only [hv, map_hx (List.length_replicate ..)] <;> rfl) (fun _ => by kernel_rfl) (fun w20 g65 hg65 hb65 hc hsz65 => ?_))
   have hzw20 := hc.size
   have HC := HC.tr hc
   have hout := hout.after hc
   have hm := hm.no hc
   have hks := hks.no hc
   have hrnd := hrnd.no hc
   have hb9 := hb9.ch hc (fun h => h)
   have hS0 := hS0.no hc
   have hS1 := hS1.no hc
   have hge65 : w.heap.size ≤ g65 := by have := HC.size; omega
   have hS65 := SI.oneA (E := eND) (x := ⟨(4), (b : Int), (List.replicate 32 (0 : UInt8)), (List.replicate 32 (0 : UInt8))⟩) hb65 rfl ⟨(List.length_replicate ..), (List.length_replicate ..)⟩
   obtain ⟨n13, hn13⟩ : ∃ z, z = w20.heap.size := ⟨_, rfl⟩
   have hout := hout.mono (G := fun k => F k ∧ (k < w.heap.size ∨ n13 ≤ k)) (fun k hk h => ⟨by first | exact h.1 | exact h.1.1 | exact h.1.1.1 | exact h.1.1.1.1 | exact h.1.1.1.1.1 | exact h.1.1.1.1.1.1, by have h9 := h.1; omega⟩)
   have hltg9 := hb9.lt
   refine wle rfl (e_appI rfl el33 rfl rfl hout (hS65) (by omega) (by intro k hk; have hF1 := hF k (by omega); repeat (first | exact hF1 | (refine ⟨?_, by omega⟩))) (fun w21 A66 c66 hout hc => ?_))
   have hzw21 := hc.size
   have HC := HC.trans hc (fun _ _ h => h) (fun k hk ht => (by first | exact ht | (exfalso; omega) | ((try simp only [and_assoc] at ht); exact ht.1)))
   have hm := hm.ch hc (by intro k hk ht; first | exact hk.2 ht | (have h1 := hk.1; omega) | ((try simp only [and_assoc] at ht); exact hk.2 ht.1))
   have hks := hks.ch hc (by intro k hk ht; first | exact hk.2 ht | (have h1 := hk.1; omega) | ((try simp only [and_assoc] at ht); exact hk.2 ht.1))
   have hrnd := hrnd.ch hc (by rintro k rfl ht; first | omega | exact hF0 ht | ((try simp only [and_assoc] at ht); exact hF0 ht.1))
   have hb9 := hb9.ch hc (by omega)
   first | have hS0 := hS0.ch hc (by intro k hk ht; omega) | have hS0 := hS0.chT hc (by intro k hz hk ht; omega)
   first | have hS1 := hS1.ch hc (by intro k hk ht; omega) | have hS1 := hS1.chT hc (by intro k hz hk ht; omega)
   first | have hS65 := hS65.ch hc (by intro k hk ht; omega) | have hS65 := hS65.chT hc (by intro k hz hk ht; omega)
   refine wl rfl rfl rfl (p_as rfl) ?_
   refine wl_nil ?_
   refine x_seq ?_
   refine wc_seq ?_
   refine wc_draw (.st 0 0 (.st 1 0 (.st 2 0 (.st 3 0 (.st 4 0 (.st 5 1 (.st 6 3 (.st 7 0 .nil)))))))) 6 (by kernel_rfl) (by kernel_rfl) (by kernel_rfl) (by repeat (first | with_reducible exact pan_body | with_reducible apply pan_then | with_reducible apply pan_in)) (fun x => Ch No w21.drew x) (Ch.refl _ _) ?_
   obtain ⟨w22, ew22⟩ : ∃ x, x = w21.drew := ⟨_, rfl⟩
   rw [← ew22]
   have hc : Ch No w21 w22 := by rw [ew22]; exact Ch.drew _
   have hszw22 : w22.heap.size = w21.heap.size := by rw [ew22]; rfl
   clear ew22
   have hzw22 := hc.size
   have HC := HC.tr hc
   have hout := hout.no hc
   have hm := hm.no hc
   have hks := hks.no hc
   have hrnd := hrnd.no hc
   have hb9 := hb9.ch hc (fun h => h)
   have hS0 := hS0.no hc
   have hS1 := hS1.no hc
   have hS65 := hS65.no hc
   have hS : Ch No w22 w22 := Ch.refl _ _
   refine ws_p rfl rfl rfl rfl (p_mv rfl) ?_
   refine ws_p rfl rfl rfl rfl (p_mv rfl) ?_
   refine ws_p rfl rfl rfl rfl (p_mv rfl) ?_
   have hS70 : SI w22 (fun k => k < w.heap.size ∧ ¬ F k) eIT (cutA Am cm 0 64) x.cnt (cm - 0) (Tr.items x) := by have h := hm.cut (lo := 0) (hi := x.cnt) (q := x.cnt) (by omega) (by omega) (by omega); rw [List.drop_zero, fork_take] at h; exact h
   refine ws_p rfl rfl rfl rfl (p_slS (l := 0) (h := x.cnt) Tryd.underlying118 sz174 rfl rfl ⟨_, rfl⟩ (by omega) (by have := hm.cap; omega) hm.cap (q := x.cnt) (by omega)) ?_
   refine ws_p rfl rfl rfl rfl (p_ixA (j := 0) Tryd.underlying178 sz23 rfl rfl (by omega) (by omega) rfl) ?_
   refine ws_h rfl rfl rfl rfl (p_ld Tryd.underlying23 rfl rfl (fun _ h => h.cell (fun h => h) (cell_at (p := []) (v := (.slice A0 l0 c0 : Value)) (r := ([.slice A1 l1 c1] : List Value)) hb9 (by simp only [List.append_assoc, List.cons_append, List.nil_append, List.append_nil]) (by first | rfl | (simp only [List.length_append, List.length_map, List.length_cons, List.length_nil]; done) | (simp only [List.length_append, List.length_map, List.length_cons, List.length_nil, List.size_toArray]; done))))) ?_
   have hout := hout.mono (G := fun k => F k ∧ (k < w.heap.size ∨ n13 ≤ k)) (fun k hk h => ⟨by first | exact h.1 | exact h.1.1 | exact h.1.1.1 | exact h.1.1.1.1 | exact h.1.1.1.1.1 | exact h.1.1.1.1.1.1, by omega⟩)
   refine ws_l rfl rfl (e_call ent70 rfl rfl (IHx hout (fun k hk => ⟨hF k (by omega), by omega⟩) (fun h => hF0 h.1) hS70 (fun k _ h1 h2 => h1.2 h2.1) hS0 (fun k _ h1 h2 => by have h3 := h2.2; have h4 := h1.1; have h5 := h1.2; omega) hw.2.1 (by omega) (by omega) (by omega) hrnd) ?_)
   rintro _ w24 ⟨A73, l73, c73, rfl, hout, hc⟩
   refine ⟨_, rfl, ?_⟩
   have hzw24 := hc.size
   have HC := HC.trans hc (fun _ _ h => h) (fun k hk ht => (by first | exact ht | (exfalso; omega) | ((try simp only [and_assoc] at ht); exact ht.1)))
   have hm := hm.ch hc (by intro k hk ht; first | exact hk.2 ht | (have h1 := hk.1; omega) | ((try simp only [and_assoc] at ht); exact hk.2 ht.1))
   have hks := hks.ch hc (by intro k hk ht; first | exact hk.2 ht | (have h1 := hk.1; omega) | ((try simp only [and_assoc] at ht); exact hk.2 ht.1))
   have hrnd := hrnd.ch hc (by rintro k rfl ht; first | omega | exact hF0 ht | ((try simp only [and_assoc] at ht); exact hF0 ht.1))
   have hb9 := hb9.ch hc (by omega)
   first | have hS0 := hS0.ch hc (by intro k hk ht; omega) | have hS0 := hS0.chT hc (by intro k hz hk ht; omega)
   first | have hS1 := hS1.ch hc (by intro k hk ht; omega) | have hS1 := hS1.chT hc (by intro k hz hk ht; omega)
   first | have hS65 := hS65.ch hc (by intro k hk ht; omega) | have hS65 := hS65.chT hc (by intro k hz hk ht; omega)
   have hS70 := hS70.ch hc (by intro k hk ht; first | exact hk.2 ht | (have h1 := hk.1; omega) | ((try simp only [and_assoc] at ht); exact hk.2 ht.1))
   have hol73 := hout.len
   have hpn73 := Tr.prv_nodes (t := x) (ks := ks.filter (fun k => decide (bitN k b = 0)))
   simp only [List.length_append, List.length_singleton] at hol73
   have hcx73 := Tr.cnt_pos x
   refine ws_p rfl rfl rfl rfl (p_as rfl) ?_
   refine ws_n ?_
   refine x_seq ?_
   refine wc_seq ?_
   refine wc_draw (.st 0 0 (.st 1 0 (.st 2 0 (.st 3 0 (.st 4 0 (.st 5 1 (.st 6 3 (.st 7 0 .nil)))))))) 6 (by kernel_rfl) (by kernel_rfl) (by kernel_rfl) (by repeat (first | with_reducible exact pan_body | with_reducible apply pan_then | with_reducible apply pan_in)) (fun x => Ch No w24.drew x) (Ch.refl _ _) ?_
   obtain ⟨w25, ew25⟩ : ∃ x, x = w24.drew := ⟨_, rfl⟩
   rw [← ew25]
   have hc : Ch No w24 w25 := by rw [ew25]; exact Ch.drew _
   have hszw25 : w25.heap.size = w24.heap.size := by rw [ew25]; rfl
   clear ew25
   have hzw25 := hc.size
   have HC := HC.tr hc
   have hout := hout.no hc
   have hm := hm.no hc
   have hks := hks.no hc
   have hrnd := hrnd.no hc
   have hb9 := hb9.ch hc (fun h => h)
   have hS0 := hS0.no hc
   have hS1 := hS1.no hc
   have hS65 := hS65.no hc
   have hS70 := hS70.no hc
   have hS : Ch No w25 w25 := Ch.refl _ _
   refine ws_p rfl rfl rfl rfl (p_mv rfl) ?_
   refine ws_p rfl rfl rfl rfl (p_mv rfl) ?_
   refine ws_p rfl rfl rfl rfl (p_mv rfl) ?_
   have hS77 : SI w25 (fun k => k < w.heap.size ∧ ¬ F k) eIT (cutA Am cm x.cnt 64) (lm - x.cnt) (cm - x.cnt) (Tr.items y) := by have h := hm.cutTo (lo := x.cnt) (by omega); rw [fork_drop] at h; exact h
   refine ws_p rfl rfl rfl rfl (p_slS (l := x.cnt) (h := lm) Tryd.underlying118 sz174 rfl ⟨_, rfl⟩ rfl (by omega) (by have := hm.cap; omega) hm.cap (q := lm - x.cnt) (by omega)) ?_
   refine ws_p rfl rfl rfl rfl (p_ixA (j := 1) Tryd.underlying178 sz23 rfl rfl (by omega) (by omega) rfl) ?_
   refine ws_h rfl rfl rfl rfl (p_ld Tryd.underlying23 rfl rfl (fun _ h => h.cell (fun h => h) (cell_at (p := ([.slice A0 l0 c0] : List Value)) (v := (.slice A1 l1 c1 : Value)) (r := []) hb9 (by simp only [List.append_assoc, List.cons_append, List.nil_append, List.append_nil]) (by first | rfl | (simp only [List.length_append, List.length_map, List.length_cons, List.length_nil]; done) | (simp only [List.length_append, List.length_map, List.length_cons, List.length_nil, List.size_toArray]; done))))) ?_
   have hout := hout.mono (G := fun k => F k ∧ (k < w.heap.size ∨ n13 ≤ k)) (fun k hk h => ⟨by first | exact h.1 | exact h.1.1 | exact h.1.1.1 | exact h.1.1.1.1 | exact h.1.1.1.1.1 | exact h.1.1.1.1.1.1, by omega⟩)
   refine ws_l rfl rfl (e_call ent70 rfl rfl (IHy hout (fun k hk => ⟨hF k (by omega), by omega⟩) (fun h => hF0 h.1) hS77 (fun k _ h1 h2 => h1.2 h2.1) hS1 (fun k _ h1 h2 => by have h3 := h2.2; have h4 := h1.1; have h5 := h1.2; omega) hw.2.2.1 (by omega) (by omega) (by omega) hrnd) ?_)
   rintro _ w27 ⟨A80, l80, c80, rfl, hout, hc⟩
   refine ⟨_, rfl, ?_⟩
   have hzw27 := hc.size
   have HC := HC.trans hc (fun _ _ h => h) (fun k hk ht => (by first | exact ht | (exfalso; omega) | ((try simp only [and_assoc] at ht); exact ht.1)))
   have hm := hm.ch hc (by intro k hk ht; first | exact hk.2 ht | (have h1 := hk.1; omega) | ((try simp only [and_assoc] at ht); exact hk.2 ht.1))
   have hks := hks.ch hc (by intro k hk ht; first | exact hk.2 ht | (have h1 := hk.1; omega) | ((try simp only [and_assoc] at ht); exact hk.2 ht.1))
   have hrnd := hrnd.ch hc (by rintro k rfl ht; first | omega | exact hF0 ht | ((try simp only [and_assoc] at ht); exact hF0 ht.1))
   have hb9 := hb9.ch hc (by omega)
   first | have hS0 := hS0.ch hc (by intro k hk ht; omega) | have hS0 := hS0.chT hc (by intro k hz hk ht; omega)
   first | have hS1 := hS1.ch hc (by intro k hk ht; omega) | have hS1 := hS1.chT hc (by intro k hz hk ht; omega)
   first | have hS65 := hS65.ch hc (by intro k hk ht; omega) | have hS65 := hS65.chT hc (by intro k hz hk ht; omega)
   have hS70 := hS70.ch hc (by intro k hk ht; first | exact hk.2 ht | (have h1 := hk.1; omega) | ((try simp only [and_assoc] at ht); exact hk.2 ht.1))
   have hS77 := hS77.ch hc (by intro k hk ht; first | exact hk.2 ht | (have h1 := hk.1; omega) | ((try simp only [and_assoc] at ht); exact hk.2 ht.1))
   have hol80 := hout.len
   have hpn80 := Tr.prv_nodes (t := y) (ks := ks.filter (fun k => decide (bitN k b = 1)))
   simp only [List.length_append, List.length_singleton] at hol80
   have hcx80 := Tr.cnt_pos y
   refine ws_p rfl rfl rfl rfl (p_as rfl) ?_
   refine ws_n ?_
   refine x_seq ?_
   refine wc_ret ?_
   refine fin_run ((res1 rfl rfl)) ?_
   have hpv : ((Tr.fork b x y).prv ks).nodes = ⟨4, (b : Int), zeroH, zeroH⟩ :: ((x.prv (ks.filter (fun k => decide (bitN k b = 0)))).nodes ++ (y.prv (ks.filter (fun k => decide (bitN k b = 1)))).nodes) := by rw [Tr.prv, if_neg hk0]; rfl
   rw [hpv]
   rw [List.append_assoc, List.append_assoc] at hout
   exact ⟨_, _, _, rfl, hout.mono (fun k hk h => by first | exact h | ((try simp only [and_assoc] at h); exact h.1)), HC⟩

theorem prove_any : ∀ t : Tr, ProveOK t
  | .leaf k v => by
    intro h1 h2 h3 h4 h5 h6 h7 h8 h9 h10 h11 h12
    rename_i w F Fm Fk Ao Am Ak lo co lm cm lk ck xs ks
    by_cases hk : ks = []
    · exact prove_nil h1 h2 h3 h4 h5 h6 h7 h8 h9 h10 h11 h12 hk
    · exact prove_leaf h1 h2 h3 h4 h5 h6 h7 h8 h9 h10 h11 h12 hk
  | .fork b x y => by
    intro h1 h2 h3 h4 h5 h6 h7 h8 h9 h10 h11 h12
    rename_i w F Fm Fk Ao Am Ak lo co lm cm lk ck xs ks
    by_cases hk : ks = []
    · exact prove_nil h1 h2 h3 h4 h5 h6 h7 h8 h9 h10 h11 h12 hk
    · exact prove_fork (prove_any x) (prove_any y) h1 h2 h3 h4 h5 h6 h7 h8 h9 h10 h11 h12 hk

set_option maxHeartbeats 1000000 in
set_option maxRecDepth 20000 in
theorem mprove27_some {w : World} {g : Nat} {t : LT} {Ak : Option Addr} {lk ck : Nat} {Fk : Nat → Prop} {ks : List H8} (hbg : Blk w g 41 [ndp t.adr, .bool true].toArray) (hXt : LAt 156 w t) (hwt : t.er.WF) (hcn : t.er.cnt ≤ 1000) (hks : SI w Fk eH Ak lk ck ks) (hlk : lk ≤ 1000000) (hrnd : Sl w (fun k => k = 0) u32v (some ⟨0, 0, none⟩) 64 64 rk) :
    Calls Tryd.prog 24 #[ndp g, .slice Ak lk ck] w fun e w' => ∃ A l c, e = .returned (.slice A l c) ∧ RI w' (fun k => w.heap.size ≤ k) 115 eND A l c (prvN (some t.er) ks) ∧ Ch No w w' := by
  have hn0 : 0 < w.heap.size := hrnd.size (by omega) rfl
  have hn1 := hn0
  have hltg := hbg.lt
  have htl := hXt.lt
  have hcp := Tr.cnt_pos t.er
  have hitl := Tr.items_cnt t.er
  have hcnt0 : cntT (eo (some t)) = t.er.cnt := rfl
  have hks := hks.old
  have HC : Ch No w w := Ch.refl _ _
  refine enter' (args := [ndp g, .slice Ak lk ck]) (n := 22) Tryd.func24 rfl rfl rfl ?_
  refine wc_seq ?_
  refine wc_region ?_
  refine wl rfl rfl rfl (p_as rfl) ?_
  refine wl_nil ?_
  refine x_seq ?_
  refine wc_seq ?_
  refine wc_seq ?_
  refine wc_region ?_
  refine wl rfl rfl rfl (p_mv rfl) ?_
  refine wl rfl rfl rfl (p_bldP (cs := ((List.replicate 32 (0 : UInt8)).map u8v).toArray) rfl (fun _ => by kernel_rfl)) ?_
  refine wl rfl rfl rfl (p_bldP (cs := ((List.replicate 32 (0 : UInt8)).map u8v).toArray) rfl (fun _ => by kernel_rfl)) ?_
  refine wle rfl (e_call ent44 rfl rfl (tput_made (F := fun _ => True) (TR.mk' trivial (o := some t) hbg (fun t2 e => by cases e; exact ⟨hXt, fun _ _ => trivial⟩)) (fun _ _ => trivial) ((List.length_replicate ..)) ((List.length_replicate ..)) (by omega)) ?_)
  rintro _ w1 ⟨_, t9, rfl, ⟨g9, rfl, _⟩, _, hc⟩
  refine ⟨_, rfl, ?_⟩
  have hzw1 := hc.size
  have HC := HC.tr hc
  have hbg := hbg.ch hc (fun h => h)
  have hXt := hXt.ch hc (by first | exact fun _ _ h => h | (intro a ha ht; have h2 := htl a ha; first | omega | (dsimp only at *; omega)))
  have hks := hks.no hc
  have hrnd := hrnd.no hc
  refine wl rfl rfl rfl (p_eqPN rfl rfl Tryd.underlying25) ?_
  refine wl_nil ?_
  refine x_seq ?_
  refine wc_no rfl (rfl) ?_
  refine wc_skip ?_
  refine x_seq ?_
  refine wc_seq ?_
  refine wc_region ?_
  refine wl rfl rfl rfl (p_mv rfl) ?_
  refine wle rfl (e_call ent69 rfl rfl (all_ptr (g := g)) ?_)
  rintro _ w2 ⟨gB, rfl, hgB, hBn, hc⟩
  refine ⟨_, rfl, ?_⟩
  have hzw2 := hc.size
  have HC := HC.tr hc
  have hbg := hbg.ch hc (fun h => h)
  have hXt := hXt.ch hc (by first | exact fun _ _ h => h | (intro a ha ht; have h2 := htl a ha; first | omega | (dsimp only at *; omega)))
  have hks := hks.no hc
  have hrnd := hrnd.no hc
  refine wle rfl (e_call ent68 rfl rfl (entries_some hBn hbg hXt hcn) ?_)
  rintro _ w3 ⟨A13, l13, c13, rfl, hE13, hc⟩
  refine ⟨_, rfl, ?_⟩
  have hzw3 := hc.size
  have HC := HC.tr hc
  have hbg := hbg.ch hc (fun h => h)
  have hXt := hXt.ch hc (by first | exact fun _ _ h => h | (intro a ha ht; have h2 := htl a ha; first | omega | (dsimp only at *; omega)))
  have hks := hks.no hc
  have hrnd := hrnd.no hc
  have hBn := hBn.ch hc (fun h => h)
  have hEl13 := hE13.len
  have hE13 := hE13.mono (G := fun k => w2.heap.size ≤ k ∧ k < w3.heap.size) (fun k h1 h2 => ⟨h2, h1⟩)
  refine wl rfl rfl rfl (p_as rfl) ?_
  refine wl_nil ?_
  refine x_seq ?_
  refine wc_seq ?_
  refine wc_seq ?_
  refine wc_region ?_
  refine wl rfl rfl rfl (p_mv rfl) ?_
  refine wl rfl rfl rfl (p_lenS Tryd.underlying118 rfl) ?_
  refine wl rfl rfl rfl (p_eq rfl rfl) ?_
  refine wl_nil ?_
  refine x_seq ?_
  refine wc_no rfl (decide_eq_false (by omega)) ?_
  refine wc_skip ?_
  refine x_seq ?_
  refine wc_seq ?_
  refine wc_region ?_
  refine wl rfl rfl rfl (p_mv rfl) ?_
  refine wl rfl rfl rfl (p_mv rfl) ?_
  refine wle rfl (e_call ent70 rfl rfl (prove_any t.er (F := fun k => w3.heap.size ≤ k) (RI.nil _ _ _ _) (fun k hk => hk) (by omega) hE13.si (fun k hk h1 h2 => by omega) hks (fun k hk h1 h2 => by omega) hwt (by omega) (by omega) (by omega) hrnd) ?_)
  rintro _ w4 ⟨A21, l21, c21, rfl, hP21, hc⟩
  refine ⟨_, rfl, ?_⟩
  have hzw4 := hc.size
  have HC := HC.trans hc (fun _ _ h => h) (fun k hk ht => absurd ht (by omega))
  have hbg := hbg.ch hc (by omega)
  have hXt := hXt.ch hc (by first | exact fun _ _ h => h | (intro a ha ht; have h2 := htl a ha; first | omega | (dsimp only at *; omega)))
  have hks := hks.ch hc (by intro k hk ht; omega)
  first | have hrnd := hrnd.ch hc (by intro k hk ht; omega) | have hrnd := hrnd.chT hc (by intro k hz hk ht; omega)
  have hBn := hBn.ch hc (by have h9 := hBn.lt; omega)
  have hE13 := hE13.afterT hc (by intro k hz hk ht; omega)
  have hP21 := hP21.mono (G := fun k => w3.heap.size ≤ k ∧ k < w4.heap.size) (fun k h1 h2 => ⟨h2, h1⟩)
  refine wl rfl rfl rfl (p_as rfl) ?_
  refine wl_nil ?_
  refine x_seq ?_
  refine wc_ret ?_
  refine fin_run ((res1 rfl rfl)) ?_
  exact ⟨_, _, _, rfl, hP21.mono (fun k _ h => by have := h.1; show w.heap.size ≤ k; omega), HC⟩
end Go.Proofs.YtkfkdakghjlenaaDoor
