/-
  Own text, printed by a program of mine (wip/gx): what functions of the program do, walked operation by operation.
-/
import Derived.Test.YtkfkdakghjlenaaDoorProg
import Derived.Test.YtkfkdakghjlenaaDoorGxAgg
import Derived.Test.YtkfkdakghjlenaaDoorTab
import Derived.Test.YtkfkdakghjlenaaDoorGxZer
import Derived.Test.YtkfkdakghjlenaaDoorGxLay
import Derived.Test.YtkfkdakghjlenaaDoorPlPack
import Derived.Test.YtkfkdakghjlenaaDoorPlSum
import Derived.Test.YtkfkdakghjlenaaDoorPlSha
import Derived.Test.YtkfkdakghjlenaaDoorPlTag
import Derived.Test.YtkfkdakghjlenaaDoorPlBits
import Derived.Test.YtkfkdakghjlenaaDoorPlShaSt
import Derived.Test.YtkfkdakghjlenaaDoorPlShaB
import Derived.Test.YtkfkdakghjlenaaDoorPlTrie
import Derived.Test.YtkfkdakghjlenaaDoorPlTrieSt
import Derived.Test.YtkfkdakghjlenaaDoorGxRec
import Derived.Test.YtkfkdakghjlenaaDoorGxYld
import Derived.Test.YtkfkdakghjlenaaDoorPlTrieFil
import Derived.Test.YtkfkdakghjlenaaDoorOnceC
import Derived.Test.YtkfkdakghjlenaaDoorPlTrieW
import Derived.Test.YtkfkdakghjlenaaDoorPlMulti
import Derived.Test.YtkfkdakghjlenaaDoorPlEncs
import Derived.Test.YtkfkdakghjlenaaDoorGxMark
import Derived.Test.YtkfkdakghjlenaaDoorPlTrieLaw
import Derived.Test.YtkfkdakghjlenaaDoorPlTrieAct
import Derived.Test.YtkfkdakghjlenaaDoorGxFun
import Derived.Test.YtkfkdakghjlenaaDoorGxPair
import Derived.Test.YtkfkdakghjlenaaDoorPlMany
import Derived.Test.YtkfkdakghjlenaaDoorZm0
import Derived.Test.YtkfkdakghjlenaaDoorZm1
set_option linter.unusedVariables false
set_option linter.unusedSimpArgs false
namespace Go.Proofs.YtkfkdakghjlenaaDoor
open Go.RowKit Go.Gx
open Go.Plain
set_option maxHeartbeats 2000000 in
set_option maxRecDepth 20000 in
theorem mroot27 {w : World}  {Am : Option Addr} {lm cm : Nat} {Fm : Nat → Prop} {l : List ND} (hm : SI w Fm eND Am lm cm l) (hl : lm ≤ 1000000) (hrnd : Sl w (fun k => k = 0) u32v (some ⟨0, 0, none⟩) 64 64 rk) :
    Calls Tryd.prog 56 #[.slice Am lm cm] w fun e w' => e = .returned (.tuple #[hv (rootN l).1, .bool (rootN l).2]) ∧ Ch No w w' := by
  have hn0 : 0 < w.heap.size := hrnd.size (by omega) rfl
  have hn1 := hn0
  have hml := hm.len
  have hm := hm.old
  have HC : Ch No w w := Ch.refl _ _
  refine enter' (args := [.slice Am lm cm]) (n := 36) Tryd.func56 rfl rfl rfl ?_
  refine wc_seq ?_
  refine wc_region ?_
  refine wle rfl (e_alloc (cs := ((List.replicate 32 (0 : UInt8)).map u8v).toArray) rfl (by rfl) rfl (fun w1 g2 hg2 hb2 hc hsz2 => ?_))
  have hzw1 := hc.size
  have HC := HC.tr hc
  have hm := hm.no hc
  have hrnd := hrnd.no hc
  have hge2 : w.heap.size ≤ g2 := by have := HC.size; omega
  refine wl rfl rfl rfl (p_as rfl) ?_
  refine wl_nil ?_
  refine x_seq ?_
  refine wc_seq ?_
  refine wc_seq ?_
  refine wc_region ?_
  refine wl rfl rfl rfl (p_mv rfl) ?_
  refine wl rfl rfl rfl (p_lenS Tryd.underlying33 rfl) ?_
  refine wl rfl rfl rfl (p_eq rfl rfl) ?_
  refine wl rfl rfl rfl (p_mv rfl) ?_
  refine wl_split (d := 9) rfl (fun q9 => ?_) (fun q9 => ?_)
  ·
   have q9 := of_decide_eq_true q9
   refine wl_g (gd_ rfl rfl rfl rfl rfl rfl) rfl rfl (p_mv rfl) ?_
   obtain ⟨b2, o2, hA2, hF2, hr2⟩ := (hm).opn (i := 0) (d := ND0) (by omega)
   have hok2 := (hm).okAt (i := 0) (d := ND0) (by omega)
   obtain ⟨x2, ex2⟩ : ∃ x_, x_ = List.getD l (0) ND0 := ⟨_, rfl⟩
   rw [← ex2] at hr2 hok2
   obtain ⟨hx2k, hx2v⟩ := hok2
   have hr2 : w1.rangeAt b2 (o2 + 0 * 66) (([i64 x2.kind, i64 x2.bit] ++ ((List.map u8v x2.key) ++ (List.map u8v x2.val))) : List Value) := hr2
   refine wl_g (gd_ rfl rfl rfl rfl rfl rfl) rfl rfl (p_ixS (j := 0 * 66) Tryd.underlying33 sz115 rfl hA2 rfl (by omega) (by omega) rfl) ?_
   have hl1 : l = [x2] := by rw [ex2]; cases l with | nil => simp at hml; omega | cons y r => cases r with | nil => rfl | cons z r => simp at hml; omega
   refine wl_g (gd_ rfl rfl rfl rfl rfl rfl) rfl rfl (p_ldA (cs := (([i64 x2.kind, i64 x2.bit] ++ ((List.map u8v x2.key) ++ (List.map u8v x2.val))) : List Value)) Tryd.underlying115 rfl (szL sz115 (by first | rfl | (simp only [List.length_append, List.length_map, List.length_cons, List.length_nil, (show List.length x2.key = 32 from hx2k), (show List.length x2.val = 32 from hx2v)]; done) | (simp only [List.length_append, List.length_map, List.length_cons, List.length_nil, List.size_toArray, (show List.length x2.key = 32 from hx2k), (show List.length x2.val = 32 from hx2v)]; done))) rfl (fun _ e => e ▸ hr2)) ?_
   refine wl_g (gd_ rfl rfl rfl rfl rfl rfl) rfl rfl (p_bldX (vs' := [.int .i64 (1)]) (cs := (([.int .i64 (1), Value.int .i64 0] ++ ((List.map u8v (List.replicate 32 (0 : UInt8))) ++ (List.map u8v (List.replicate 32 (0 : UInt8))))) : List Value)) (cs' := (([.int .i64 (1), Value.int .i64 0] ++ ((hx (List.replicate 32 (0 : UInt8))) ++ (hx (List.replicate 32 (0 : UInt8))))) : List Value)) rfl rfl (by simp only [hv, map_hx (List.length_replicate ..)] <;> rfl) (fun _ => by kernel_rfl)) ?_
   refine wl_g (gd_ rfl rfl rfl rfl rfl rfl) rfl rfl (p_eqV (by kernel_rfl) rfl rfl (eqv_struct Tryd.underlying115 (by kernel_rfl) (eqf_cons rfl (part_c (cs := (([i64 x2.kind, i64 x2.bit] ++ ((List.map u8v x2.key) ++ (List.map u8v x2.val))) : List Value)) (p := []) (v := i64 x2.kind) (r := (([i64 x2.bit] ++ ((List.map u8v x2.key) ++ (List.map u8v x2.val))) : List Value)) Tryd.underlying3 rfl (by first | rfl | simp only [List.append_assoc, List.cons_append, List.nil_append, List.append_nil]) rfl) (part_c (cs := (([.int .i64 (1), Value.int .i64 0] ++ ((List.map u8v (List.replicate 32 (0 : UInt8))) ++ (List.map u8v (List.replicate 32 (0 : UInt8))))) : List Value)) (p := []) (v := .int .i64 (1)) (r := (([Value.int .i64 0] ++ ((List.map u8v (List.replicate 32 (0 : UInt8))) ++ (List.map u8v (List.replicate 32 (0 : UInt8))))) : List Value)) Tryd.underlying3 rfl (by first | rfl | simp only [List.append_assoc, List.cons_append, List.nil_append, List.append_nil]) rfl) (eqv_int Tryd.underlying3) (eqf_cons rfl (part_c (cs := (([i64 x2.kind, i64 x2.bit] ++ ((List.map u8v x2.key) ++ (List.map u8v x2.val))) : List Value)) (p := ([i64 x2.kind] : List Value)) (v := i64 x2.bit) (r := (((List.map u8v x2.key) ++ (List.map u8v x2.val)) : List Value)) Tryd.underlying3 rfl (by first | rfl | simp only [List.append_assoc, List.cons_append, List.nil_append, List.append_nil]) (by first | rfl | (simp only [List.length_append, List.length_map, List.length_cons, List.length_nil]; done) | (simp only [List.length_append, List.length_map, List.length_cons, List.length_nil, List.size_toArray]; done))) (part_c (cs := (([.int .i64 (1), Value.int .i64 0] ++ ((List.map u8v (List.replicate 32 (0 : UInt8))) ++ (List.map u8v (List.replicate 32 (0 : UInt8))))) : List Value)) (p := ([.int .i64 (1)] : List Value)) (v := Value.int .i64 0) (r := (((List.map u8v (List.replicate 32 (0 : UInt8))) ++ (List.map u8v (List.replicate 32 (0 : UInt8)))) : List Value)) Tryd.underlying3 rfl (by first | rfl | simp only [List.append_assoc, List.cons_append, List.nil_append, List.append_nil]) (by first | rfl | (simp only [List.length_append, List.length_map, List.length_cons, List.length_nil]; done) | (simp only [List.length_append, List.length_map, List.length_cons, List.length_nil, List.size_toArray]; done))) (eqv_int Tryd.underlying3) (eqf_cons rfl (part_h (cs := (([i64 x2.kind, i64 x2.bit] ++ ((List.map u8v x2.key) ++ (List.map u8v x2.val))) : List Value)) (p := ([i64 x2.kind, i64 x2.bit] : List Value)) (L := x2.key) (r := ((List.map u8v x2.val) : List Value)) Tryd.underlying38 rfl sz38 (hx2k) (by first | rfl | simp only [List.append_assoc, List.cons_append, List.nil_append, List.append_nil]) (by first | rfl | (simp only [List.length_append, List.length_map, List.length_cons, List.length_nil]; done) | (simp only [List.length_append, List.length_map, List.length_cons, List.length_nil, List.size_toArray]; done))) (part_h (cs := (([.int .i64 (1), Value.int .i64 0] ++ ((List.map u8v (List.replicate 32 (0 : UInt8))) ++ (List.map u8v (List.replicate 32 (0 : UInt8))))) : List Value)) (p := ([.int .i64 (1), Value.int .i64 0] : List Value)) (L := (List.replicate 32 (0 : UInt8))) (r := ((List.map u8v (List.replicate 32 (0 : UInt8))) : List Value)) Tryd.underlying38 rfl sz38 ((List.length_replicate ..)) (by first | rfl | simp only [List.append_assoc, List.cons_append, List.nil_append, List.append_nil]) (by first | rfl | (simp only [List.length_append, List.length_map, List.length_cons, List.length_nil]; done) | (simp only [List.length_append, List.length_map, List.length_cons, List.length_nil, List.size_toArray]; done))) (eqv_hash Tryd.underlying38 Tryd.underlying5 sz5 (hx2k) ((List.length_replicate ..))) (eqf_cons rfl (part_h (cs := (([i64 x2.kind, i64 x2.bit] ++ ((List.map u8v x2.key) ++ (List.map u8v x2.val))) : List Value)) (p := (([i64 x2.kind, i64 x2.bit] ++ (List.map u8v x2.key)) : List Value)) (L := x2.val) (r := []) Tryd.underlying38 rfl sz38 (hx2v) (by first | rfl | simp only [List.append_assoc, List.cons_append, List.nil_append, List.append_nil]) (by first | rfl | (simp only [List.length_append, List.length_map, List.length_cons, List.length_nil, (show List.length x2.key = 32 from hx2k)]; done) | (simp only [List.length_append, List.length_map, List.length_cons, List.length_nil, List.size_toArray, (show List.length x2.key = 32 from hx2k)]; done))) (part_h (cs := (([.int .i64 (1), Value.int .i64 0] ++ ((List.map u8v (List.replicate 32 (0 : UInt8))) ++ (List.map u8v (List.replicate 32 (0 : UInt8))))) : List Value)) (p := (([.int .i64 (1), Value.int .i64 0] ++ (List.map u8v (List.replicate 32 (0 : UInt8)))) : List Value)) (L := (List.replicate 32 (0 : UInt8))) (r := []) Tryd.underlying38 rfl sz38 ((List.length_replicate ..)) (by first | rfl | simp only [List.append_assoc, List.cons_append, List.nil_append, List.append_nil]) (by first | rfl | (simp only [List.length_append, List.length_map, List.length_cons, List.length_nil, (show List.length (List.replicate 32 (0 : UInt8)) = 32 from (List.length_replicate ..))]; done) | (simp only [List.length_append, List.length_map, List.length_cons, List.length_nil, List.size_toArray, (show List.length (List.replicate 32 (0 : UInt8)) = 32 from (List.length_replicate ..))]; done))) (eqv_hash Tryd.underlying38 Tryd.underlying5 sz5 (hx2v) ((List.length_replicate ..))) (eqf_nil))))))) ?_
   refine wl rfl rfl rfl (p_pickT rfl rfl) ?_
   refine wl_nil ?_
   refine x_seq ?_
   refine wc_if rfl (fun c0 => ?_) (fun c0 => ?_)
   ·
    have hln1 : l = [ND0] := by rw [hl1]; exact congrArg (fun z => [z]) (nd_ext.2 (by have h := c0; simp at h; simpa [ND0, zeroH] using h))
    refine wc_seq ?_
    refine wc_region ?_
    refine wle rfl (e_call ent73 rfl rfl (tnone_any hrnd) ?_)
    rintro _ w3 ⟨rfl, hc⟩
    refine ⟨_, rfl, ?_⟩
    have hzw3 := hc.size
    have HC := HC.tr hc
    have hm := hm.no hc
    have hrnd := hrnd.no hc
    have hb2 := hb2.ch hc (fun h => h)
    refine wle rfl (e_stH sz38 (List.length_replicate ..) noneH_len rfl rfl hb2 (fun w4 hb2 hc hsz => ?_))
    have hzw4 := hc.size
    have HC := HC.trans hc (fun _ _ h => h) (fun k hk ht => absurd ht (by omega))
    have hm := hm.ch hc (by intro k hk ht; omega)
    first | have hrnd := hrnd.ch hc (by intro k hk ht; omega) | have hrnd := hrnd.chT hc (by intro k hz hk ht; omega)
    refine wl rfl rfl rfl (p_as rfl) ?_
    refine wl_nil ?_
    refine x_seq ?_
    refine wc_ret ?_
    refine x_then_ret ?_
    refine fin_run (resMany (rs := [.cell 2 38, .tmp 3]) rfl (.cellA (cs := List.map u8v noneH) rfl Tryd.underlying38 rfl (szL sz38 (by rw [List.length_map]; exact noneH_len)) (rngL hb2) (.tmp rfl (.nil))) rfl) ?_
    rw [hln1, root_nothing]; exact ⟨rfl, HC⟩
   ·
    have hne : l ≠ [ND0] := fun e => by have e2 := hl1.symm.trans e; injection e2 with e2 _; rw [e2] at c0; simp [ND0, zeroH] at c0
    refine wc_skip ?_
    refine x_seq ?_
    refine wc_seq ?_
    refine wc_region ?_
    refine wl rfl rfl rfl (p_mv rfl) ?_
    refine wl rfl rfl rfl (p_bldX (vs' := [.slice Am lm cm]) (cs := ([.slice Am lm cm, Value.slice none 0 0, Value.bool false] : List Value)) (cs' := ([.slice Am lm cm, Value.slice none 0 0, Value.bool false] : List Value)) rfl rfl rfl (fun _ => by kernel_rfl)) ?_
    have hltg2 := hb2.lt
    refine wle rfl (e_box (cs := ([.slice Am lm cm, Value.slice none 0 0, Value.bool false] : List Value).toArray) rfl rfl rfl (fun w5 g19 hg19 hb19 hc hsz19 => ?_))
    have hzw5 := hc.size
    have HC := HC.tr hc
    have hm := hm.no hc
    have hrnd := hrnd.no hc
    have hb2 := hb2.ch hc (fun h => h)
    have hge19 : w.heap.size ≤ g19 := by have := HC.size; omega
    have neg2_19 : g2 < g19 := by omega
    refine wl rfl rfl rfl (p_as rfl) ?_
    refine wl_nil ?_
    refine x_seq ?_
    refine wc_seq ?_
    refine wc_region ?_
    refine wl rfl rfl rfl (p_mv rfl) ?_
    have hlt_21 := hb19.lt
    refine wle rfl (e_call ent88 rfl rfl (part_any l.length (F := fun k => w5.heap.size ≤ k) (Nat.le_refl _) hb19 hm (RI.nil _ _ _ _) (fun k hk => hk) (by omega) (by omega) (by omega) (fun k hk => ⟨by omega, by omega, by omega⟩) (by omega) (by omega) hrnd) ?_)
    rintro _ w6 ⟨h21, Al21, ll21, cl21, Ab21, cb21, bd21, l21, rfl, hbr21, hl21, hab21, hpr21, hc⟩
    refine ⟨_, rfl, ?_⟩
    have hzw6 := hc.size
    have HC := HC.trans hc (fun _ _ h => h) (fun k hk ht => absurd ht (by omega))
    have hm := hm.ch hc (by intro k hk ht; omega)
    first | have hrnd := hrnd.ch hc (by intro k hk ht; omega) | have hrnd := hrnd.chT hc (by intro k hz hk ht; omega)
    have hb2 := hb2.ch hc (by omega)
    have hln21 := hl21.len
    have hltg2 := hb2.lt
    have hltg19 := hbr21.lt
    refine wle rfl (e_alloc (cs := ((List.replicate 32 (0 : UInt8)).map u8v).toArray) rfl (by rfl) rfl (fun w7 g5 hg5 hb5 hc hsz5 => ?_))
    have hzw7 := hc.size
    have HC := HC.tr hc
    have hm := hm.no hc
    have hrnd := hrnd.no hc
    have hb2 := hb2.ch hc (fun h => h)
    have hbr21 := hbr21.ch hc (fun h => h)
    have hge5 : w.heap.size ≤ g5 := by have := HC.size; omega
    have neg2_5 : g2 < g5 := by omega
    have neg19_5 : g19 < g5 := by omega
    refine wle rfl (e_stH sz38 (List.length_replicate ..) hpr21.len rfl rfl hb5 (fun w8 hb5 hc hsz => ?_))
    have hzw8 := hc.size
    have HC := HC.trans hc (fun _ _ h => h) (fun k hk ht => absurd ht (by omega))
    have hm := hm.ch hc (by intro k hk ht; omega)
    first | have hrnd := hrnd.ch hc (by intro k hk ht; omega) | have hrnd := hrnd.chT hc (by intro k hz hk ht; omega)
    have hb2 := hb2.ch hc (by omega)
    have hbr21 := hbr21.ch hc (by omega)
    refine wl_nil ?_
    refine x_seq ?_
    refine wc_seq ?_
    refine wc_seq ?_
    refine wc_region ?_
    refine wl rfl rfl rfl (p_mv rfl) ?_
    refine wl rfl rfl rfl (p_nck rfl) ?_
    refine wl rfl rfl rfl (p_fld (j := 2) Tryd.underlying164 rfl ⟨_, by rfl⟩ rfl rfl) ?_
    refine wl rfl rfl rfl (p_ld Tryd.underlying4 rfl rfl (ld (cell_at (p := ([.slice Al21 ll21 cl21, .slice Ab21 0 cb21] : List Value)) (v := (.bool bd21 : Value)) (r := []) hbr21 (by simp only [List.append_assoc, List.cons_append, List.nil_append, List.append_nil]) (by first | rfl | (simp only [List.length_append, List.length_map, List.length_cons, List.length_nil]; done) | (simp only [List.length_append, List.length_map, List.length_cons, List.length_nil, List.size_toArray]; done))))) ?_
    refine wl rfl rfl rfl (p_mv rfl) ?_
    refine wl_split (d := 26) rfl (fun q26 => ?_) (fun q26 => ?_)
    ·
     refine wl_s (gd_ rfl rfl rfl rfl rfl rfl) rfl rfl ?_
     refine wl_s (gd_ rfl rfl rfl rfl rfl rfl) rfl rfl ?_
     refine wl_s (gd_ rfl rfl rfl rfl rfl rfl) rfl rfl ?_
     refine wl_s (gd_ rfl rfl rfl rfl rfl rfl) rfl rfl ?_
     refine wl_s (gd_ rfl rfl rfl rfl rfl rfl) rfl rfl ?_
     refine wl_s (gd_ rfl rfl rfl rfl rfl rfl) rfl rfl ?_
     refine wl rfl rfl rfl (p_pickT rfl rfl) ?_
     refine wl_nil ?_
     refine x_seq ?_
     refine wc_yes rfl (rfl) ?_
     refine wc_seq ?_
     refine wc_region ?_
     refine wl rfl rfl rfl (p_bldP (cs := ((List.replicate 32 (0 : UInt8)).map u8v).toArray) rfl (fun _ => by kernel_rfl)) ?_
     refine wle rfl (e_stH sz38 (List.length_replicate ..) (List.length_replicate ..) rfl rfl hb2 (fun w9 hb2 hc hsz => ?_))
     have hzw9 := hc.size
     have HC := HC.trans hc (fun _ _ h => h) (fun k hk ht => absurd ht (by omega))
     have hm := hm.ch hc (by intro k hk ht; omega)
     first | have hrnd := hrnd.ch hc (by intro k hk ht; omega) | have hrnd := hrnd.chT hc (by intro k hz hk ht; omega)
     have hbr21 := hbr21.ch hc (by omega)
     have hb5 := hb5.ch hc (by omega)
     refine wl rfl rfl rfl (p_as rfl) ?_
     refine wl_nil ?_
     refine x_seq ?_
     refine wc_ret ?_
     refine x_then_ret ?_
     refine fin_run (resMany (rs := [.cell 2 38, .tmp 3]) rfl (.cellA (cs := List.map u8v (List.replicate 32 (0 : UInt8))) rfl Tryd.underlying38 rfl (szL sz38 (by rw [List.length_map]; exact (List.length_replicate ..))) (rngL hb2) (.tmp rfl (.nil))) rfl) ?_
     have hrt := root_part hpr21 hne
     rw [hrt, if_pos (.inl (by simpa using q26))]; exact ⟨rfl, HC⟩
    ·
     refine wl_g (gd_ rfl rfl rfl rfl rfl rfl) rfl rfl (p_mv rfl) ?_
     refine wl_g (gd_ rfl rfl rfl rfl rfl rfl) rfl rfl (p_nck rfl) ?_
     refine wl_g (gd_ rfl rfl rfl rfl rfl rfl) rfl rfl (p_fld (j := 0) Tryd.underlying164 rfl ⟨_, by rfl⟩ rfl rfl) ?_
     refine wl_g (gd_ rfl rfl rfl rfl rfl rfl) rfl rfl (p_ld Tryd.underlying33 rfl rfl (ld (cell_at (p := []) (v := (.slice Al21 ll21 cl21 : Value)) (r := ([.slice Ab21 0 cb21, .bool bd21] : List Value)) hbr21 (by simp only [List.append_assoc, List.cons_append, List.nil_append, List.append_nil]) (by first | rfl | (simp only [List.length_append, List.length_map, List.length_cons, List.length_nil]; done) | (simp only [List.length_append, List.length_map, List.length_cons, List.length_nil, List.size_toArray]; done))))) ?_
     refine wl_g (gd_ rfl rfl rfl rfl rfl rfl) rfl rfl (p_lenS Tryd.underlying33 rfl) ?_
     refine wl_g (gd_ rfl rfl rfl rfl rfl rfl) rfl rfl (p_gt rfl rfl) ?_
     refine wl rfl rfl rfl (p_pickF rfl rfl) ?_
     refine wl_nil ?_
     refine x_seq ?_
     refine wc_if rfl (fun c1 => ?_) (fun c1 => ?_)
     ·
      have c1 := of_decide_eq_true c1
      refine wc_seq ?_
      refine wc_region ?_
      refine wl rfl rfl rfl (p_bldP (cs := ((List.replicate 32 (0 : UInt8)).map u8v).toArray) rfl (fun _ => by kernel_rfl)) ?_
      refine wle rfl (e_stH sz38 (List.length_replicate ..) (List.length_replicate ..) rfl rfl hb2 (fun w10 hb2 hc hsz => ?_))
      have hzw10 := hc.size
      have HC := HC.trans hc (fun _ _ h => h) (fun k hk ht => absurd ht (by omega))
      have hm := hm.ch hc (by intro k hk ht; omega)
      first | have hrnd := hrnd.ch hc (by intro k hk ht; omega) | have hrnd := hrnd.chT hc (by intro k hz hk ht; omega)
      have hbr21 := hbr21.ch hc (by omega)
      have hb5 := hb5.ch hc (by omega)
      refine wl rfl rfl rfl (p_as rfl) ?_
      refine wl_nil ?_
      refine x_seq ?_
      refine wc_ret ?_
      refine x_then_ret ?_
      refine fin_run (resMany (rs := [.cell 2 38, .tmp 3]) rfl (.cellA (cs := List.map u8v (List.replicate 32 (0 : UInt8))) rfl Tryd.underlying38 rfl (szL sz38 (by rw [List.length_map]; exact (List.length_replicate ..))) (rngL hb2) (.tmp rfl (.nil))) rfl) ?_
      have hrt := root_part hpr21 hne
      rw [hrt, if_pos (.inr (by omega))]; exact ⟨rfl, HC⟩
     ·
      have c1 := of_decide_eq_false c1
      refine wc_skip ?_
      refine x_seq ?_
      refine wc_seq ?_
      refine wc_region ?_
      refine wl rfl rfl rfl (p_ldH (L := h21) Tryd.underlying38 sz38 hpr21.len rfl (fun _ e => e ▸ rngL hb5)) ?_
      refine wle rfl (e_stH sz38 (List.length_replicate ..) hpr21.len rfl rfl hb2 (fun w11 hb2 hc hsz => ?_))
      have hzw11 := hc.size
      have HC := HC.trans hc (fun _ _ h => h) (fun k hk ht => absurd ht (by omega))
      have hm := hm.ch hc (by intro k hk ht; omega)
      first | have hrnd := hrnd.ch hc (by intro k hk ht; omega) | have hrnd := hrnd.chT hc (by intro k hz hk ht; omega)
      have hbr21 := hbr21.ch hc (by omega)
      have hb5 := hb5.ch hc (by omega)
      refine wl rfl rfl rfl (p_as rfl) ?_
      refine wl_nil ?_
      refine x_seq ?_
      refine wc_ret ?_
      refine fin_run (resMany (rs := [.cell 2 38, .tmp 3]) rfl (.cellA (cs := List.map u8v h21) rfl Tryd.underlying38 rfl (szL sz38 (by rw [List.length_map]; exact hpr21.len)) (rngL hb2) (.tmp rfl (.nil))) rfl) ?_
      have hrt := root_part hpr21 hne
      rw [hrt, if_neg (by rintro (h | h); rw [h] at q26; simp at q26; omega)]; exact ⟨rfl, HC⟩
  ·
   have q9 := of_decide_eq_false q9
   have hne : l ≠ [ND0] := fun e => by rw [e] at hml; simp at hml; omega
   refine wl_s (gd_ rfl rfl rfl rfl rfl rfl) rfl rfl ?_
   refine wl_s (gd_ rfl rfl rfl rfl rfl rfl) rfl rfl ?_
   refine wl_s (gd_ rfl rfl rfl rfl rfl rfl) rfl rfl ?_
   refine wl_s (gd_ rfl rfl rfl rfl rfl rfl) rfl rfl ?_
   refine wl_s (gd_ rfl rfl rfl rfl rfl rfl) rfl rfl ?_
   refine wl rfl rfl rfl (p_pickF rfl rfl) ?_
   refine wl_nil ?_
   refine x_seq ?_
   refine wc_no rfl (rfl) ?_
   refine wc_skip ?_
   refine x_seq ?_
   refine wc_seq ?_
   refine wc_region ?_
   refine wl rfl rfl rfl (p_mv rfl) ?_
   refine wl rfl rfl rfl (p_bldX (vs' := [.slice Am lm cm]) (cs := ([.slice Am lm cm, Value.slice none 0 0, Value.bool false] : List Value)) (cs' := ([.slice Am lm cm, Value.slice none 0 0, Value.bool false] : List Value)) rfl rfl rfl (fun _ => by kernel_rfl)) ?_
   have hltg2 := hb2.lt
   refine wle rfl (e_box (cs := ([.slice Am lm cm, Value.slice none 0 0, Value.bool false] : List Value).toArray) rfl rfl rfl (fun w12 g19 hg19 hb19 hc hsz19 => ?_))
   have hzw12 := hc.size
   have HC := HC.tr hc
   have hm := hm.no hc
   have hrnd := hrnd.no hc
   have hb2 := hb2.ch hc (fun h => h)
   have hge19 : w.heap.size ≤ g19 := by have := HC.size; omega
   have neg2_19 : g2 < g19 := by omega
   refine wl rfl rfl rfl (p_as rfl) ?_
   refine wl_nil ?_
   refine x_seq ?_
   refine wc_seq ?_
   refine wc_region ?_
   refine wl rfl rfl rfl (p_mv rfl) ?_
   have hlt_21 := hb19.lt
   refine wle rfl (e_call ent88 rfl rfl (part_any l.length (F := fun k => w12.heap.size ≤ k) (Nat.le_refl _) hb19 hm (RI.nil _ _ _ _) (fun k hk => hk) (by omega) (by omega) (by omega) (fun k hk => ⟨by omega, by omega, by omega⟩) (by omega) (by omega) hrnd) ?_)
   rintro _ w13 ⟨h21, Al21, ll21, cl21, Ab21, cb21, bd21, l21, rfl, hbr21, hl21, hab21, hpr21, hc⟩
   refine ⟨_, rfl, ?_⟩
   have hzw13 := hc.size
   have HC := HC.trans hc (fun _ _ h => h) (fun k hk ht => absurd ht (by omega))
   have hm := hm.ch hc (by intro k hk ht; omega)
   first | have hrnd := hrnd.ch hc (by intro k hk ht; omega) | have hrnd := hrnd.chT hc (by intro k hz hk ht; omega)
   have hb2 := hb2.ch hc (by omega)
   have hln21 := hl21.len
   have hltg2 := hb2.lt
   have hltg19 := hbr21.lt
   refine wle rfl (e_alloc (cs := ((List.replicate 32 (0 : UInt8)).map u8v).toArray) rfl (by rfl) rfl (fun w14 g5 hg5 hb5 hc hsz5 => ?_))
   have hzw14 := hc.size
   have HC := HC.tr hc
   have hm := hm.no hc
   have hrnd := hrnd.no hc
   have hb2 := hb2.ch hc (fun h => h)
   have hbr21 := hbr21.ch hc (fun h => h)
   have hge5 : w.heap.size ≤ g5 := by have := HC.size; omega
   have neg2_5 : g2 < g5 := by omega
   have neg19_5 : g19 < g5 := by omega
   refine wle rfl (e_stH sz38 (List.length_replicate ..) hpr21.len rfl rfl hb5 (fun w15 hb5 hc hsz => ?_))
   have hzw15 := hc.size
   have HC := HC.trans hc (fun _ _ h => h) (fun k hk ht => absurd ht (by omega))
   have hm := hm.ch hc (by intro k hk ht; omega)
   first | have hrnd := hrnd.ch hc (by intro k hk ht; omega) | have hrnd := hrnd.chT hc (by intro k hz hk ht; omega)
   have hb2 := hb2.ch hc (by omega)
   have hbr21 := hbr21.ch hc (by omega)
   refine wl_nil ?_
   refine x_seq ?_
   refine wc_seq ?_
   refine wc_seq ?_
   refine wc_region ?_
   refine wl rfl rfl rfl (p_mv rfl) ?_
   refine wl rfl rfl rfl (p_nck rfl) ?_
   refine wl rfl rfl rfl (p_fld (j := 2) Tryd.underlying164 rfl ⟨_, by rfl⟩ rfl rfl) ?_
   refine wl rfl rfl rfl (p_ld Tryd.underlying4 rfl rfl (ld (cell_at (p := ([.slice Al21 ll21 cl21, .slice Ab21 0 cb21] : List Value)) (v := (.bool bd21 : Value)) (r := []) hbr21 (by simp only [List.append_assoc, List.cons_append, List.nil_append, List.append_nil]) (by first | rfl | (simp only [List.length_append, List.length_map, List.length_cons, List.length_nil]; done) | (simp only [List.length_append, List.length_map, List.length_cons, List.length_nil, List.size_toArray]; done))))) ?_
   refine wl rfl rfl rfl (p_mv rfl) ?_
   refine wl_split (d := 26) rfl (fun q26 => ?_) (fun q26 => ?_)
   ·
    refine wl_s (gd_ rfl rfl rfl rfl rfl rfl) rfl rfl ?_
    refine wl_s (gd_ rfl rfl rfl rfl rfl rfl) rfl rfl ?_
    refine wl_s (gd_ rfl rfl rfl rfl rfl rfl) rfl rfl ?_
    refine wl_s (gd_ rfl rfl rfl rfl rfl rfl) rfl rfl ?_
    refine wl_s (gd_ rfl rfl rfl rfl rfl rfl) rfl rfl ?_
    refine wl_s (gd_ rfl rfl rfl rfl rfl rfl) rfl rfl ?_
    refine wl rfl rfl rfl (p_pickT rfl rfl) ?_
    refine wl_nil ?_
    refine x_seq ?_
    refine wc_yes rfl (rfl) ?_
    refine wc_seq ?_
    refine wc_region ?_
    refine wl rfl rfl rfl (p_bldP (cs := ((List.replicate 32 (0 : UInt8)).map u8v).toArray) rfl (fun _ => by kernel_rfl)) ?_
    refine wle rfl (e_stH sz38 (List.length_replicate ..) (List.length_replicate ..) rfl rfl hb2 (fun w16 hb2 hc hsz => ?_))
    have hzw16 := hc.size
    have HC := HC.trans hc (fun _ _ h => h) (fun k hk ht => absurd ht (by omega))
    have hm := hm.ch hc (by intro k hk ht; omega)
    first | have hrnd := hrnd.ch hc (by intro k hk ht; omega) | have hrnd := hrnd.chT hc (by intro k hz hk ht; omega)
    have hbr21 := hbr21.ch hc (by omega)
    have hb5 := hb5.ch hc (by omega)
    refine wl rfl rfl rfl (p_as rfl) ?_
    refine wl_nil ?_
    refine x_seq ?_
    refine wc_ret ?_
    refine x_then_ret ?_
    refine fin_run (resMany (rs := [.cell 2 38, .tmp 3]) rfl (.cellA (cs := List.map u8v (List.replicate 32 (0 : UInt8))) rfl Tryd.underlying38 rfl (szL sz38 (by rw [List.length_map]; exact (List.length_replicate ..))) (rngL hb2) (.tmp rfl (.nil))) rfl) ?_
    have hrt := root_part hpr21 hne
    rw [hrt, if_pos (.inl (by simpa using q26))]; exact ⟨rfl, HC⟩
   ·
    refine wl_g (gd_ rfl rfl rfl rfl rfl rfl) rfl rfl (p_mv rfl) ?_
    refine wl_g (gd_ rfl rfl rfl rfl rfl rfl) rfl rfl (p_nck rfl) ?_
    refine wl_g (gd_ rfl rfl rfl rfl rfl rfl) rfl rfl (p_fld (j := 0) Tryd.underlying164 rfl ⟨_, by rfl⟩ rfl rfl) ?_
    refine wl_g (gd_ rfl rfl rfl rfl rfl rfl) rfl rfl (p_ld Tryd.underlying33 rfl rfl (ld (cell_at (p := []) (v := (.slice Al21 ll21 cl21 : Value)) (r := ([.slice Ab21 0 cb21, .bool bd21] : List Value)) hbr21 (by simp only [List.append_assoc, List.cons_append, List.nil_append, List.append_nil]) (by first | rfl | (simp only [List.length_append, List.length_map, List.length_cons, List.length_nil]; done) | (simp only [List.length_append, List.length_map, List.length_cons, List.length_nil, List.size_toArray]; done))))) ?_
    refine wl_g (gd_ rfl rfl rfl rfl rfl rfl) rfl rfl (p_lenS Tryd.underlying33 rfl) ?_
    refine wl_g (gd_ rfl rfl rfl rfl rfl rfl) rfl rfl (p_gt rfl rfl) ?_
    refine wl rfl rfl rfl (p_pickF rfl rfl) ?_
    refine wl_nil ?_
    refine x_seq ?_
    refine wc_if rfl (fun c1 => ?_) (fun c1 => ?_)
    ·
     have c1 := of_decide_eq_true c1
     refine wc_seq ?_
     refine wc_region ?_
     refine wl rfl rfl rfl (p_bldP (cs := ((List.replicate 32 (0 : UInt8)).map u8v).toArray) rfl (fun _ => by kernel_rfl)) ?_
     refine wle rfl (e_stH sz38 (List.length_replicate ..) (List.length_replicate ..) rfl rfl hb2 (fun w17 hb2 hc hsz => ?_))
     have hzw17 := hc.size
     have HC := HC.trans hc (fun _ _ h => h) (fun k hk ht => absurd ht (by omega))
     have hm := hm.ch hc (by intro k hk ht; omega)
     first | have hrnd := hrnd.ch hc (by intro k hk ht; omega) | have hrnd := hrnd.chT hc (by intro k hz hk ht; omega)
     have hbr21 := hbr21.ch hc (by omega)
     have hb5 := hb5.ch hc (by omega)
     refine wl rfl rfl rfl (p_as rfl) ?_
     refine wl_nil ?_
     refine x_seq ?_
     refine wc_ret ?_
     refine x_then_ret ?_
     refine fin_run (resMany (rs := [.cell 2 38, .tmp 3]) rfl (.cellA (cs := List.map u8v (List.replicate 32 (0 : UInt8))) rfl Tryd.underlying38 rfl (szL sz38 (by rw [List.length_map]; exact (List.length_replicate ..))) (rngL hb2) (.tmp rfl (.nil))) rfl) ?_
     have hrt := root_part hpr21 hne
     rw [hrt, if_pos (.inr (by omega))]; exact ⟨rfl, HC⟩
    ·
     have c1 := of_decide_eq_false c1
     refine wc_skip ?_
     refine x_seq ?_
     refine wc_seq ?_
     refine wc_region ?_
     refine wl rfl rfl rfl (p_ldH (L := h21) Tryd.underlying38 sz38 hpr21.len rfl (fun _ e => e ▸ rngL hb5)) ?_
     refine wle rfl (e_stH sz38 (List.length_replicate ..) hpr21.len rfl rfl hb2 (fun w18 hb2 hc hsz => ?_))
     have hzw18 := hc.size
     have HC := HC.trans hc (fun _ _ h => h) (fun k hk ht => absurd ht (by omega))
     have hm := hm.ch hc (by intro k hk ht; omega)
     first | have hrnd := hrnd.ch hc (by intro k hk ht; omega) | have hrnd := hrnd.chT hc (by intro k hz hk ht; omega)
     have hbr21 := hbr21.ch hc (by omega)
     have hb5 := hb5.ch hc (by omega)
     refine wl rfl rfl rfl (p_as rfl) ?_
     refine wl_nil ?_
     refine x_seq ?_
     refine wc_ret ?_
     refine fin_run (resMany (rs := [.cell 2 38, .tmp 3]) rfl (.cellA (cs := List.map u8v h21) rfl Tryd.underlying38 rfl (szL sz38 (by rw [List.length_map]; exact hpr21.len)) (rngL hb2) (.tmp rfl (.nil))) rfl) ?_
     have hrt := root_part hpr21 hne
     rw [hrt, if_neg (by rintro (h | h); rw [h] at q26; simp at q26; omega)]; exact ⟨rfl, HC⟩

set_option maxHeartbeats 1000000 in
set_option maxRecDepth 20000 in
theorem mgood27 {w : World}  {Am : Option Addr} {lm cm : Nat} {Fm : Nat → Prop} {l : List ND} (hm : SI w Fm eND Am lm cm l) (hl : lm ≤ 1000000) (hrnd : Sl w (fun k => k = 0) u32v (some ⟨0, 0, none⟩) 64 64 rk) :
    Calls Tryd.prog 60 #[.slice Am lm cm] w fun e w' => e = .returned (.bool (rootN l).2) ∧ Ch No w w' := by
  have hn0 : 0 < w.heap.size := hrnd.size (by omega) rfl
  have hn1 := hn0
  have hm := hm.old
  have HC : Ch No w w := Ch.refl _ _
  refine enter' (args := [.slice Am lm cm]) (n := 11) Tryd.func60 rfl rfl rfl ?_
  refine wc_seq ?_
  refine wc_region ?_
  refine wl rfl rfl rfl (p_as rfl) ?_
  refine wl_nil ?_
  refine x_seq ?_
  refine wc_seq ?_
  refine wc_region ?_
  refine wl rfl rfl rfl (p_mv rfl) ?_
  refine wle rfl (e_call ent56 rfl rfl (mroot27 (hm) (by omega) hrnd) ?_)
  rintro _ w1 ⟨rfl, hc⟩
  refine ⟨_, rfl, ?_⟩
  have hzw1 := hc.size
  have HC := HC.tr hc
  have hm := hm.no hc
  have hrnd := hrnd.no hc
  refine wl rfl rfl rfl (p_mv rfl) ?_
  refine wl rfl rfl rfl (p_ext rfl rfl) ?_
  refine wl rfl rfl rfl (p_ext rfl rfl) ?_
  refine wle rfl (e_alloc (cs := ((List.replicate 32 (0 : UInt8)).map u8v).toArray) rfl (by rfl) rfl (fun w2 g3 hg3 hb3 hc hsz3 => ?_))
  have hzw2 := hc.size
  have HC := HC.tr hc
  have hm := hm.no hc
  have hrnd := hrnd.no hc
  have hge3 : w.heap.size ≤ g3 := by have := HC.size; omega
  refine wle rfl (e_stH sz38 (List.length_replicate ..) rootN_len rfl rfl hb3 (fun w3 hb3 hc hsz => ?_))
  have hzw3 := hc.size
  have HC := HC.trans hc (fun _ _ h => h) (fun k hk ht => absurd ht (by omega))
  have hm := hm.ch hc (by intro k hk ht; omega)
  first | have hrnd := hrnd.ch hc (by intro k hk ht; omega) | have hrnd := hrnd.chT hc (by intro k hz hk ht; omega)
  refine wl rfl rfl rfl (p_as rfl) ?_
  refine wl_nil ?_
  refine x_seq ?_
  refine wc_seq ?_
  refine wc_region ?_
  refine wl rfl rfl rfl (p_mv rfl) ?_
  refine wl rfl rfl rfl (p_as rfl) ?_
  refine wl_nil ?_
  refine x_seq ?_
  refine wc_ret ?_
  refine fin_run ((res1 rfl rfl)) ?_
  exact ⟨rfl, HC⟩

set_option maxHeartbeats 1000000 in
set_option maxRecDepth 20000 in
theorem behind_any {w : World}  {Am : Option Addr} {lm cm : Nat} {Fm : Nat → Prop} {l : List ND} {p : PT} {r : List ND} (hm : SI w Fm eND Am lm cm l) (hl : lm ≤ 1000000) (hlp : l = p.nodes ++ r) :
    Calls Tryd.prog 90 #[.slice Am lm cm] w fun e w' => e = .returned (i64 (p.nodes.length : Int)) ∧ Ch No w w' := by
  have hml := hm.len
  have hpl : p.nodes.length ≤ lm := by rw [← hml, hlp, List.length_append]; omega
  have hm := hm.old
  have HC : Ch No w w := Ch.refl _ _
  refine enter' (args := [.slice Am lm cm]) (n := 20) Tryd.func90 rfl rfl rfl ?_
  refine wc_seq ?_
  refine wc_region ?_
  refine wl rfl rfl rfl (p_as rfl) ?_
  refine wl_nil ?_
  refine x_seq ?_
  refine wc_seq ?_
  refine wc_region ?_
  refine wl rfl rfl rfl (p_as rfl) ?_
  refine wl_nil ?_
  refine x_seq ?_
  refine wc_seq ?_
  refine wc_seq ?_
  refine wc_region ?_
  refine wl rfl rfl rfl (p_as rfl) ?_
  refine wl_nil ?_
  refine x_seq ?_
  refine wc_block ?_
  refine wc_loop (e' := [(0, .slice Am lm cm), (3, i64 ((0) : Int)), (4, i64 (([p]).length : Int))]) (fun mz ez uz => ∃ n : Nat, ∃ ts : List PT, mz = p.nodes.length - n ∧ ez = [(0, .slice Am lm cm), (3, i64 (n : Int)), (4, i64 (ts.length : Int))] ∧ (l.drop n = ts.flatMap PT.nodes ++ r) ∧ (n + (ts.flatMap PT.nodes).length = p.nodes.length) ∧ (ts.length ≤ p.nodes.length) ∧ (SI uz (fun k => k < w.heap.size) eND Am lm cm l) ∧ (Ch No w uz))
   ⟨rfl, rfl, rfl, trivial⟩ ⟨0, [p], rfl, rfl, (by rw [hlp]; simp), (by simp), (PT.nodes_pos p), hm, HC⟩ ?_
  rintro m0 e w1 ⟨n, ts, hm0, rfl, hd, hn, htl, hm, HC⟩
  have hzw1 := HC.size
  refine wc_seq ?_
  refine wc_seq ?_
  refine wc_region ?_
  refine wl rfl rfl rfl (p_mv rfl) ?_
  refine wl rfl rfl rfl (p_gt rfl rfl) ?_
  refine wl_nil ?_
  refine x_seq ?_
  refine wc_if rfl (fun c0 => ?_) (fun c0 => ?_)
  ·
   have c0 := of_decide_eq_true c0
   obtain ⟨q, ts2, rfl⟩ : ∃ q ts2, ts = q :: ts2 := by cases ts with | nil => simp at c0 | cons q ts2 => exact ⟨q, ts2, rfl⟩
   have hqp := PT.nodes_pos q
   rw [List.flatMap_cons, List.append_assoc] at hd
   rw [List.flatMap_cons, List.length_append] at hn
   have hnl : n < lm := by have e := congrArg List.length hd; rw [List.length_drop, List.length_append] at e; omega
   refine wc_skip ?_
   refine x_seq ?_
   refine wc_seq ?_
   refine wc_block ?_
   refine wc_seq ?_
   refine wc_region ?_
   refine wl rfl rfl rfl (p_mv rfl) ?_
   refine wl rfl rfl rfl (p_sub (Z := (ts2.length : Int)) rfl rfl (by rw [w64 (by simp only [List.length_cons] at *; omega)]; simp only [List.length_cons]; omega)) ?_
   refine wl rfl rfl rfl (p_as rfl) ?_
   refine wl_nil ?_
   refine x_seq ?_
   refine wc_seq ?_
   refine wc_region ?_
   refine wl rfl rfl rfl (p_mv rfl) ?_
   refine wl rfl rfl rfl (p_mv rfl) ?_
   obtain ⟨b2, o2, hA2, hF2, hr2⟩ := (hm).opn (i := n) (d := ND0) (by omega)
   have hok2 := (hm).okAt (i := n) (d := ND0) (by omega)
   obtain ⟨x2, ex2⟩ : ∃ x_, x_ = List.getD l (n) ND0 := ⟨_, rfl⟩
   rw [← ex2] at hr2 hok2
   obtain ⟨hx2k, hx2v⟩ := hok2
   have hr2 : w1.rangeAt b2 (o2 + n * 66) (([i64 x2.kind, i64 x2.bit] ++ ((List.map u8v x2.key) ++ (List.map u8v x2.val))) : List Value) := hr2
   refine wl rfl rfl rfl (p_ixS (j := n * 66) Tryd.underlying33 sz115 rfl hA2 rfl (by omega) (by omega) (congrArg (· * 66) (Int.toNat_natCast _))) ?_
   have hdr : l.drop n = x2 :: l.drop (n + 1) := by rw [ex2]; exact getD_drop (by omega)
   have hhd := hd.symm.trans hdr
   refine wl rfl rfl rfl (p_fld (j := 0) Tryd.underlying115 rfl ⟨_, by rfl⟩ rfl rfl) ?_
   refine wl rfl rfl rfl (p_ld Tryd.underlying3 rfl rfl (ld (cell_sub (v := (i64 x2.kind : Value)) (p := []) (r := (([i64 x2.bit] ++ ((List.map u8v x2.key) ++ (List.map u8v x2.val))) : List Value)) hr2 (by first | rfl | simp only [List.append_assoc, List.cons_append, List.nil_append, List.append_nil]) rfl))) ?_
   refine wl rfl rfl rfl (p_eq rfl rfl) ?_
   refine wl_nil ?_
   refine x_seq ?_
   refine wc_if rfl (fun c1 => ?_) (fun c1 => ?_)
   ·
    have c1 := of_decide_eq_true c1
    obtain ⟨y, z, rfl, hrest⟩ := headP4 hhd c1
    refine wc_region ?_
    refine wl rfl rfl rfl (p_mv rfl) ?_
    refine wl rfl rfl rfl (p_add (Z := ((y :: z :: ts2).length : Int)) rfl rfl (by rw [w64 (by simp only [List.length_cons] at *; omega)]; simp only [List.length_cons]; omega)) ?_
    refine wl rfl rfl rfl (p_as rfl) ?_
    refine wl_nil ?_
    refine x_in_normal ?_
    refine x_seq ?_
    refine wc_region ?_
    refine wl rfl rfl rfl (p_mv rfl) ?_
    refine wl rfl rfl rfl (p_add rfl rfl (w64 (by omega))) ?_
    refine wl rfl rfl rfl (p_as rfl) ?_
    refine wl_nil ?_
    refine x_round (e' := [(0, .slice Am lm cm), (3, i64 ((n + 1) : Int)), (4, i64 ((y :: z :: ts2).length : Int))]) ⟨rfl, rfl, rfl, trivial⟩ (by rw [hm0]; omega) ⟨n + 1, y :: z :: ts2, rfl, rfl, (by rw [hrest]; simp [List.append_assoc]), (by simp only [PT.nodes, List.flatMap_cons, List.length_append, List.length_cons] at hn ⊢; omega), (by have h1 := PT.flat_le (ts := ts2); have h2 := PT.nodes_pos y; have h3 := PT.nodes_pos z; simp only [PT.nodes, List.length_append, List.length_cons] at hn ⊢; omega), hm, HC⟩
   ·
    have c1 := of_decide_eq_false c1
    obtain ⟨hrest, hq1⟩ := headPn hhd c1
    refine wc_skip ?_
    refine x_in_normal ?_
    refine x_seq ?_
    refine wc_region ?_
    refine wl rfl rfl rfl (p_mv rfl) ?_
    refine wl rfl rfl rfl (p_add rfl rfl (w64 (by omega))) ?_
    refine wl rfl rfl rfl (p_as rfl) ?_
    refine wl_nil ?_
    refine x_round (e' := [(0, .slice Am lm cm), (3, i64 ((n + 1) : Int)), (4, i64 ((ts2).length : Int))]) ⟨rfl, rfl, rfl, trivial⟩ (by rw [hm0]; omega) ⟨n + 1, ts2, rfl, rfl, (by rw [hrest]), (by omega), (by simp only [List.length_cons] at htl; omega), hm, HC⟩
  ·
   have c0 := of_decide_eq_false c0
   refine wc_exit ?_
   refine x_then_exit ?_
   refine x_then_exit ?_
   refine x_in_here ?_
   refine x_seq ?_
   refine wc_seq ?_
   refine wc_region ?_
   refine wl rfl rfl rfl (p_mv rfl) ?_
   refine wl rfl rfl rfl (p_as rfl) ?_
   refine wl_nil ?_
   refine x_seq ?_
   refine wc_ret ?_
   refine fin_run ((res1 rfl rfl)) ?_
   have hts : ts = [] := by cases ts with | nil => rfl | cons q ts => simp at c0
   subst hts
   rw [show p.nodes.length = n by simpa using hn.symm]
   exact ⟨rfl, HC⟩

set_option maxHeartbeats 4000000 in
set_option maxRecDepth 20000 in
theorem mcheck27 {w : World}  {top : List UInt8} {Am : Option Addr} {lm cm : Nat} {Fm : Nat → Prop} {l : List ND} {k : List UInt8} (htop : top.length = 32) (hm : SI w Fm eND Am lm cm l) (hl : lm ≤ 1000000) (hk : k.length = 32) (hrnd : Sl w (fun k => k = 0) u32v (some ⟨0, 0, none⟩) 64 64 rk) :
    Calls Tryd.prog 58 #[hv top, .slice Am lm cm, hv k] w fun e w' => e = .returned (.tuple #[hv (checkN top l k).1, .bool (checkN top l k).2.1, .bool (checkN top l k).2.2]) ∧ Ch No w w' := by
  have hn0 : 0 < w.heap.size := hrnd.size (by omega) rfl
  have hn1 := hn0
  have hml := hm.len
  have hm := hm.old
  have HC : Ch No w w := Ch.refl _ _
  refine enter' (args := [hv top, .slice Am lm cm, hv k]) (n := 66) Tryd.func58 rfl rfl rfl ?_
  refine wc_seq ?_
  refine wc_region ?_
  refine wle rfl (e_box (cs := (List.map u8v top).toArray) rfl rfl rfl (fun w1 g3 hg3 hb3 hc hsz3 => ?_))
  have hzw1 := hc.size
  have HC := HC.tr hc
  have hm := hm.no hc
  have hrnd := hrnd.no hc
  have hge3 : w.heap.size ≤ g3 := by have := HC.size; omega
  have hltg3 := hb3.lt
  refine wle rfl (e_box (cs := (List.map u8v k).toArray) rfl rfl rfl (fun w2 g5 hg5 hb5 hc hsz5 => ?_))
  have hzw2 := hc.size
  have HC := HC.tr hc
  have hm := hm.no hc
  have hrnd := hrnd.no hc
  have hb3 := hb3.ch hc (fun h => h)
  have hge5 : w.heap.size ≤ g5 := by have := HC.size; omega
  have neg3_5 : g3 < g5 := by omega
  have hltg3 := hb3.lt
  have hltg5 := hb5.lt
  refine wle rfl (e_alloc (cs := ((List.replicate 32 (0 : UInt8)).map u8v).toArray) rfl (by rfl) rfl (fun w3 g6 hg6 hb6 hc hsz6 => ?_))
  have hzw3 := hc.size
  have HC := HC.tr hc
  have hm := hm.no hc
  have hrnd := hrnd.no hc
  have hb3 := hb3.ch hc (fun h => h)
  have hb5 := hb5.ch hc (fun h => h)
  have hge6 : w.heap.size ≤ g6 := by have := HC.size; omega
  have neg3_6 : g3 < g6 := by omega
  have neg5_6 : g5 < g6 := by omega
  refine wl rfl rfl rfl (p_as rfl) ?_
  refine wl rfl rfl rfl (p_as rfl) ?_
  refine wl_nil ?_
  refine x_seq ?_
  refine wc_seq ?_
  refine wc_seq ?_
  refine wc_region ?_
  refine wl rfl rfl rfl (p_mv rfl) ?_
  refine wle rfl (e_call ent56 rfl rfl (mroot27 (hm) (by omega) hrnd) ?_)
  rintro _ w4 ⟨rfl, hc⟩
  refine ⟨_, rfl, ?_⟩
  have hzw4 := hc.size
  have HC := HC.tr hc
  have hm := hm.no hc
  have hrnd := hrnd.no hc
  have hb3 := hb3.ch hc (fun h => h)
  have hb5 := hb5.ch hc (fun h => h)
  have hb6 := hb6.ch hc (fun h => h)
  refine wl rfl rfl rfl (p_mv rfl) ?_
  refine wl rfl rfl rfl (p_ext rfl rfl) ?_
  refine wl rfl rfl rfl (p_ext rfl rfl) ?_
  have hltg3 := hb3.lt
  have hltg5 := hb5.lt
  have hltg6 := hb6.lt
  refine wle rfl (e_alloc (cs := ((List.replicate 32 (0 : UInt8)).map u8v).toArray) rfl (by rfl) rfl (fun w5 g9 hg9 hb9 hc hsz9 => ?_))
  have hzw5 := hc.size
  have HC := HC.tr hc
  have hm := hm.no hc
  have hrnd := hrnd.no hc
  have hb3 := hb3.ch hc (fun h => h)
  have hb5 := hb5.ch hc (fun h => h)
  have hb6 := hb6.ch hc (fun h => h)
  have hge9 : w.heap.size ≤ g9 := by have := HC.size; omega
  have neg3_9 : g3 < g9 := by omega
  have neg5_9 : g5 < g9 := by omega
  have neg6_9 : g6 < g9 := by omega
  refine wle rfl (e_stH sz38 (List.length_replicate ..) rootN_len rfl rfl hb9 (fun w6 hb9 hc hsz => ?_))
  have hzw6 := hc.size
  have HC := HC.trans hc (fun _ _ h => h) (fun k hk ht => absurd ht (by omega))
  have hm := hm.ch hc (by intro k hk ht; omega)
  first | have hrnd := hrnd.ch hc (by intro k hk ht; omega) | have hrnd := hrnd.chT hc (by intro k hz hk ht; omega)
  have hb3 := hb3.ch hc (by omega)
  have hb5 := hb5.ch hc (by omega)
  have hb6 := hb6.ch hc (by omega)
  refine wl rfl rfl rfl (p_as rfl) ?_
  refine wl_nil ?_
  refine x_seq ?_
  refine wc_seq ?_
  refine wc_region ?_
  refine wl rfl rfl rfl (p_mv rfl) ?_
  refine wl rfl rfl rfl (p_not rfl) ?_
  refine wl rfl rfl rfl (p_mv rfl) ?_
  refine wl_split (d := 20) rfl (fun q20 => ?_) (fun q20 => ?_)
  ·
   refine wl_s (gd_ rfl rfl rfl rfl rfl rfl) rfl rfl ?_
   refine wl_s (gd_ rfl rfl rfl rfl rfl rfl) rfl rfl ?_
   refine wl_s (gd_ rfl rfl rfl rfl rfl rfl) rfl rfl ?_
   refine wl rfl rfl rfl (p_pickT rfl rfl) ?_
   refine wl_nil ?_
   refine x_seq ?_
   refine wc_yes rfl (rfl) ?_
   refine wc_seq ?_
   refine wc_region ?_
   refine wl rfl rfl rfl (p_bldP (cs := ((List.replicate 32 (0 : UInt8)).map u8v).toArray) rfl (fun _ => by kernel_rfl)) ?_
   refine wle rfl (e_stH sz38 (List.length_replicate ..) (List.length_replicate ..) rfl rfl hb6 (fun w7 hb6 hc hsz => ?_))
   have hzw7 := hc.size
   have HC := HC.trans hc (fun _ _ h => h) (fun k hk ht => absurd ht (by omega))
   have hm := hm.ch hc (by intro k hk ht; omega)
   first | have hrnd := hrnd.ch hc (by intro k hk ht; omega) | have hrnd := hrnd.chT hc (by intro k hz hk ht; omega)
   have hb3 := hb3.ch hc (by omega)
   have hb5 := hb5.ch hc (by omega)
   have hb9 := hb9.ch hc (by omega)
   refine wl rfl rfl rfl (p_as rfl) ?_
   refine wl rfl rfl rfl (p_as rfl) ?_
   refine wl_nil ?_
   refine x_seq ?_
   refine wc_ret ?_
   refine x_then_ret ?_
   refine fin_run (resMany (rs := [.cell 6 38, .tmp 7, .tmp 8]) rfl (.cellA (cs := List.map u8v (List.replicate 32 (0 : UInt8))) rfl Tryd.underlying38 rfl (szL sz38 (by rw [List.length_map]; exact (List.length_replicate ..))) (rngL hb6) (.tmp rfl (.tmp rfl (.nil)))) rfl) ?_
   rw [show checkN top l k = (zeroH, false, false) from check_no (by simpa using q20)]; exact ⟨rfl, HC⟩
  ·
   refine wl_g (gd_ rfl rfl rfl rfl rfl rfl) rfl rfl (p_ldH (L := (rootN l).1) Tryd.underlying38 sz38 rootN_len rfl (fun _ e => e ▸ rngL hb9)) ?_
   refine wl_g (gd_ rfl rfl rfl rfl rfl rfl) rfl rfl (p_ldH (L := top) Tryd.underlying38 sz38 htop rfl (fun _ e => e ▸ rngL hb3)) ?_
   refine wl_g (gd_ rfl rfl rfl rfl rfl rfl) rfl rfl (p_neH (a := (rootN l).1) (b := top) (by kernel_rfl) Tryd.underlying38 Tryd.underlying5 sz5 rfl rfl (rootN_len) (htop)) ?_
   refine wl rfl rfl rfl (p_pickF rfl rfl) ?_
   refine wl_nil ?_
   refine x_seq ?_
   refine wc_if rfl (fun c0 => ?_) (fun c0 => ?_)
   ·
    refine wc_seq ?_
    refine wc_region ?_
    refine wl rfl rfl rfl (p_bldP (cs := ((List.replicate 32 (0 : UInt8)).map u8v).toArray) rfl (fun _ => by kernel_rfl)) ?_
    refine wle rfl (e_stH sz38 (List.length_replicate ..) (List.length_replicate ..) rfl rfl hb6 (fun w8 hb6 hc hsz => ?_))
    have hzw8 := hc.size
    have HC := HC.trans hc (fun _ _ h => h) (fun k hk ht => absurd ht (by omega))
    have hm := hm.ch hc (by intro k hk ht; omega)
    first | have hrnd := hrnd.ch hc (by intro k hk ht; omega) | have hrnd := hrnd.chT hc (by intro k hz hk ht; omega)
    have hb3 := hb3.ch hc (by omega)
    have hb5 := hb5.ch hc (by omega)
    have hb9 := hb9.ch hc (by omega)
    refine wl rfl rfl rfl (p_as rfl) ?_
    refine wl rfl rfl rfl (p_as rfl) ?_
    refine wl_nil ?_
    refine x_seq ?_
    refine wc_ret ?_
    refine x_then_ret ?_
    refine fin_run (resMany (rs := [.cell 6 38, .tmp 7, .tmp 8]) rfl (.cellA (cs := List.map u8v (List.replicate 32 (0 : UInt8))) rfl Tryd.underlying38 rfl (szL sz38 (by rw [List.length_map]; exact (List.length_replicate ..))) (rngL hb6) (.tmp rfl (.tmp rfl (.nil)))) rfl) ?_
    rw [show checkN top l k = (zeroH, false, false) from check_ne (by simpa using c0)]; exact ⟨rfl, HC⟩
   ·
    have hgd : (rootN l).2 = true := by simpa using q20
    have heq : (rootN l).1 = top := by simpa using c0
    obtain ⟨q0, hq0, hs0⟩ := good_say (k := k) hgd
    refine wc_skip ?_
    refine x_seq ?_
    refine wc_seq ?_
    refine wc_block ?_
    refine wc_loop (e' := [(1, .slice (Am) (lm) (cm)), (3, .pointer (some ⟨g3, 0, none⟩)), (5, .pointer (some ⟨g5, 0, none⟩)), (6, .pointer (some ⟨g6, 0, none⟩))]) (fun mz ez uz => ∃ Bz : Option Addr, ∃ lz : Nat, ∃ cz : Nat, ∃ cur : List ND, ∃ q : Option PT, ∃ r : List ND, mz = lz ∧ ez = [(1, .slice Bz lz cz), (3, .pointer (some ⟨g3, 0, none⟩)), (5, .pointer (some ⟨g5, 0, none⟩)), (6, .pointer (some ⟨g6, 0, none⟩))] ∧ (SI uz (fun k => k < w.heap.size) eND Bz lz cz cur) ∧ (cur = nodesO q ++ r) ∧ (sayO k q = sayN l k) ∧ (lz ≤ 1000000) ∧ (Blk uz g3 38 (List.map u8v top).toArray) ∧ (Blk uz g5 38 (List.map u8v k).toArray) ∧ (Blk uz g6 38 (List.map u8v (List.replicate 32 (0 : UInt8))).toArray) ∧ (Sl uz (fun k => k = 0) u32v (some ⟨0, 0, none⟩) 64 64 rk) ∧ (w.heap.size ≤ g3 ∧ g3 < g5 ∧ g5 < g6) ∧ (Ch No w uz))
     ⟨rfl, rfl, rfl, rfl, trivial⟩ ⟨Am, lm, cm, l, q0, [], rfl, rfl, hm, hq0, hs0, (by omega), hb3, hb5, hb6, hrnd, (by omega), HC⟩ ?_
    rintro m0 e w9 ⟨Bz, lz, cz, cur, q, r, hm0, rfl, hcu, hq, hsq, hlz, hb3, hb5, hb6, hrnd, hgo, HC⟩
    have hzw9 := HC.size
    have hzp : 0 < lz := by rw [← hcu.len, hq]; exact nodesO_pos
    have hcl := hcu.len
    refine wc_seq ?_
    refine wc_seq ?_
    refine wc_region ?_
    refine wl rfl rfl rfl (p_mv rfl) ?_
    obtain ⟨b10, o10, hA10, hF10, hr10⟩ := (hcu).opn (i := 0) (d := ND0) (by omega)
    have hok10 := (hcu).okAt (i := 0) (d := ND0) (by omega)
    obtain ⟨x10, ex10⟩ : ∃ x_, x_ = List.getD cur (0) ND0 := ⟨_, rfl⟩
    rw [← ex10] at hr10 hok10
    obtain ⟨hx10k, hx10v⟩ := hok10
    have hr10 : w9.rangeAt b10 (o10 + 0 * 66) (([i64 x10.kind, i64 x10.bit] ++ ((List.map u8v x10.key) ++ (List.map u8v x10.val))) : List Value) := hr10
    refine wl rfl rfl rfl (p_ixS (j := 0 * 66) Tryd.underlying33 sz115 rfl hA10 rfl (by omega) (by omega) rfl) ?_
    have hhd : nodesO q ++ r = x10 :: cur.drop 1 := by rw [← hq, ex10]; exact List.drop_zero.symm.trans (getD_drop (by omega))
    refine wl rfl rfl rfl (p_fld (j := 0) Tryd.underlying115 rfl ⟨_, by rfl⟩ rfl rfl) ?_
    refine wl rfl rfl rfl (p_ld Tryd.underlying3 rfl rfl (ld (cell_sub (v := (i64 x10.kind : Value)) (p := []) (r := (([i64 x10.bit] ++ ((List.map u8v x10.key) ++ (List.map u8v x10.val))) : List Value)) hr10 (by first | rfl | simp only [List.append_assoc, List.cons_append, List.nil_append, List.append_nil]) rfl))) ?_
    refine wl rfl rfl rfl (p_eq rfl rfl) ?_
    refine wl_nil ?_
    refine x_seq ?_
    refine wc_if rfl (fun c1 => ?_) (fun c1 => ?_)
    ·
     have c1 := of_decide_eq_true c1
     obtain ⟨y, z, rfl, hrest⟩ := head4 hhd c1
     have hyl := PT.nodes_pos y
     have hzl := PT.nodes_pos z
     have hcl2 : lz - 1 = y.nodes.length + (z.nodes.length + r.length) := by rw [← hcl]; have e := congrArg List.length hrest; rw [List.length_drop, List.length_append, List.length_append] at e; exact e
     refine wc_skip ?_
     refine x_seq ?_
     refine wc_block ?_
     refine wc_seq ?_
     refine wc_region ?_
     refine wl rfl rfl rfl (p_mv rfl) ?_
     obtain ⟨b11, o11, hA11, hF11, hr11⟩ := (hcu).opn (i := 0) (d := ND0) (by omega)
     have hok11 := (hcu).okAt (i := 0) (d := ND0) (by omega)
     obtain ⟨x11, ex11⟩ : ∃ x_, x_ = List.getD cur (0) ND0 := ⟨_, rfl⟩
     rw [← ex11] at hr11 hok11
     obtain ⟨hx11k, hx11v⟩ := hok11
     have hr11 : w9.rangeAt b11 (o11 + 0 * 66) (([i64 x11.kind, i64 x11.bit] ++ ((List.map u8v x11.key) ++ (List.map u8v x11.val))) : List Value) := hr11
     refine wl rfl rfl rfl (p_ixS (j := 0 * 66) Tryd.underlying33 sz115 rfl hA11 rfl (by omega) (by omega) rfl) ?_
     have hxx : x11 = x10 := ex11.trans ex10.symm
     refine wl rfl rfl rfl (p_fld (j := 1) Tryd.underlying115 rfl ⟨_, by rfl⟩ rfl rfl) ?_
     refine wl rfl rfl rfl (p_ld Tryd.underlying3 rfl rfl (ld (cell_sub (v := (i64 x11.bit : Value)) (p := ([i64 x11.kind] : List Value)) (r := (((List.map u8v x11.key) ++ (List.map u8v x11.val)) : List Value)) hr11 (by first | rfl | simp only [List.append_assoc, List.cons_append, List.nil_append, List.append_nil]) (by first | rfl | (simp only [List.length_append, List.length_map, List.length_cons, List.length_nil]; done) | (simp only [List.length_append, List.length_map, List.length_cons, List.length_nil, List.size_toArray]; done))))) ?_
     refine wl rfl rfl rfl (p_as rfl) ?_
     refine wl_nil ?_
     refine x_seq ?_
     refine wc_seq ?_
     refine wc_region ?_
     refine wl rfl rfl rfl (p_mv rfl) ?_
     have hc1 := hcu.cutTo (lo := 1) (by omega)
     rw [hrest] at hc1
     refine wl rfl rfl rfl (p_slS (l := 1) (h := lz) Tryd.underlying33 sz115 rfl ⟨_, rfl⟩ rfl (by omega) (by have := hcu.cap; omega) hcu.cap (q := lz - 1) (by omega)) ?_
     refine wl rfl rfl rfl (p_as rfl) ?_
     refine wl_nil ?_
     refine x_seq ?_
     refine wc_seq ?_
     refine wc_region ?_
     refine wl rfl rfl rfl (p_ldH (L := k) Tryd.underlying38 sz38 hk rfl (fun _ e => e ▸ rngL hb5)) ?_
     refine wl rfl rfl rfl (p_mv rfl) ?_
     refine wle rfl (e_call ent38 rfl rfl (bit_any (hk)) ?_)
     rintro _ w12 ⟨rfl, hc⟩
     refine ⟨_, rfl, ?_⟩
     have hzw12 := hc.size
     have HC := HC.tr hc
     have hcu := hcu.no hc
     have hb3 := hb3.ch hc (fun h => h)
     have hb5 := hb5.ch hc (fun h => h)
     have hb6 := hb6.ch hc (fun h => h)
     have hrnd := hrnd.no hc
     have hc1 := hc1.no hc
     refine wl rfl rfl rfl (p_eq rfl rfl) ?_
     refine wl_nil ?_
     refine x_seq ?_
     refine wc_if rfl (fun c2 => ?_) (fun c2 => ?_)
     ·
      have c2 := of_decide_eq_true c2
      rw [hxx] at c2
      refine wc_region ?_
      refine wl rfl rfl rfl (p_mv rfl) ?_
      refine wl rfl rfl rfl (p_mv rfl) ?_
      refine wle rfl (e_call ent90 rfl rfl (behind_any (p := y) (r := z.nodes ++ r) (hc1) (by omega) rfl) ?_)
      rintro _ w13 ⟨rfl, hc⟩
      refine ⟨_, rfl, ?_⟩
      have hzw13 := hc.size
      have HC := HC.tr hc
      have hcu := hcu.no hc
      have hb3 := hb3.ch hc (fun h => h)
      have hb5 := hb5.ch hc (fun h => h)
      have hb6 := hb6.ch hc (fun h => h)
      have hrnd := hrnd.no hc
      have hc1 := hc1.no hc
      have hc2 := hc1.cutTo (lo := y.nodes.length) (by omega)
      rw [List.drop_left] at hc2
      refine wl rfl rfl rfl (p_slS (l := y.nodes.length) (h := lz - 1) Tryd.underlying33 sz115 rfl ⟨_, rfl⟩ rfl (by omega) (by have := hc1.cap; omega) hc1.cap (q := lz - 1 - y.nodes.length) (by omega)) ?_
      refine wl rfl rfl rfl (p_as rfl) ?_
      refine wl_nil ?_
      refine x_in_normal ?_
      refine x_round (e' := [(1, .slice (cutA (cutA Bz cz 1 66) (cz - 1) y.nodes.length 66) (lz - 1 - y.nodes.length) (cz - 1 - y.nodes.length)), (3, .pointer (some ⟨g3, 0, none⟩)), (5, .pointer (some ⟨g5, 0, none⟩)), (6, .pointer (some ⟨g6, 0, none⟩))]) ⟨rfl, rfl, rfl, rfl, trivial⟩ (by rw [hm0]; omega) ⟨cutA (cutA Bz cz 1 66) (cz - 1) y.nodes.length 66, lz - 1 - y.nodes.length, cz - 1 - y.nodes.length, z.nodes ++ r, some z, r, rfl, rfl, hc2, rfl, (by rw [← hsq, sayO_fork, if_pos (by omega)]), (by omega), hb3, hb5, hb6, hrnd, hgo, HC⟩
     ·
      have c2 := of_decide_eq_false c2
      rw [hxx] at c2
      refine wc_skip ?_
      refine x_in_normal ?_
      refine x_round (e' := [(1, .slice (cutA Bz cz 1 66) (lz - 1) (cz - 1)), (3, .pointer (some ⟨g3, 0, none⟩)), (5, .pointer (some ⟨g5, 0, none⟩)), (6, .pointer (some ⟨g6, 0, none⟩))]) ⟨rfl, rfl, rfl, rfl, trivial⟩ (by rw [hm0]; omega) ⟨cutA Bz cz 1 66, lz - 1, cz - 1, y.nodes ++ (z.nodes ++ r), some y, z.nodes ++ r, rfl, rfl, hc1, rfl, (by rw [← hsq, sayO_fork, if_neg (by omega)]), (by omega), hb3, hb5, hb6, hrnd, hgo, HC⟩
    ·
     have c1 := of_decide_eq_false c1
     refine wc_exit ?_
     refine x_then_exit ?_
     refine x_then_exit ?_
     refine x_in_here ?_
     refine x_seq ?_
     refine wc_seq ?_
     refine wc_seq ?_
     refine wc_region ?_
     refine wl rfl rfl rfl (p_mv rfl) ?_
     obtain ⟨b14, o14, hA14, hF14, hr14⟩ := (hcu).opn (i := 0) (d := ND0) (by omega)
     have hok14 := (hcu).okAt (i := 0) (d := ND0) (by omega)
     obtain ⟨x14, ex14⟩ : ∃ x_, x_ = List.getD cur (0) ND0 := ⟨_, rfl⟩
     rw [← ex14] at hr14 hok14
     obtain ⟨hx14k, hx14v⟩ := hok14
     have hr14 : w9.rangeAt b14 (o14 + 0 * 66) (([i64 x14.kind, i64 x14.bit] ++ ((List.map u8v x14.key) ++ (List.map u8v x14.val))) : List Value) := hr14
     refine wl rfl rfl rfl (p_ixS (j := 0 * 66) Tryd.underlying33 sz115 rfl hA14 rfl (by omega) (by omega) rfl) ?_
     have hxz : x10 = x14 := ex10.trans ex14.symm
     rw [hxz] at hhd c1
     refine wl rfl rfl rfl (p_ldA (cs := (([i64 x14.kind, i64 x14.bit] ++ ((List.map u8v x14.key) ++ (List.map u8v x14.val))) : List Value)) Tryd.underlying115 rfl (szL sz115 (by first | rfl | (simp only [List.length_append, List.length_map, List.length_cons, List.length_nil, (show List.length x14.key = 32 from hx14k), (show List.length x14.val = 32 from hx14v)]; done) | (simp only [List.length_append, List.length_map, List.length_cons, List.length_nil, List.size_toArray, (show List.length x14.key = 32 from hx14k), (show List.length x14.val = 32 from hx14v)]; done))) rfl (fun _ e => e ▸ hr14)) ?_
     have hltg3 := hb3.lt
     have hltg5 := hb5.lt
     have hltg6 := hb6.lt
     refine wle rfl (e_alloc (cs := (([Value.int .i64 0, Value.int .i64 0] ++ ((List.map u8v (List.replicate 32 (0 : UInt8))) ++ (List.map u8v (List.replicate 32 (0 : UInt8))))) : List Value).toArray) rfl (by rfl) (by rfl) (fun w15 g12 hg12 hb12 hc hsz12 => ?_))
     have hzw15 := hc.size
     have HC := HC.tr hc
     have hcu := hcu.no hc
     have hb3 := hb3.ch hc (fun h => h)
     have hb5 := hb5.ch hc (fun h => h)
     have hb6 := hb6.ch hc (fun h => h)
     have hrnd := hrnd.no hc
     have hge12 : w.heap.size ≤ g12 := by have := HC.size; omega
     have neg3_12 : g3 < g12 := by omega
     have neg5_12 : g5 < g12 := by omega
     have neg6_12 : g6 < g12 := by omega
     refine wle rfl (e_stW (vs := (([i64 x14.kind, i64 x14.bit] ++ ((List.map u8v x14.key) ++ (List.map u8v x14.val))) : List Value)) (szL sz115 (by first | rfl | (simp only [List.length_append, List.length_map, List.length_cons, List.length_nil, (show List.length x14.key = 32 from hx14k), (show List.length x14.val = 32 from hx14v)]; done) | (simp only [List.length_append, List.length_map, List.length_cons, List.length_nil, List.size_toArray, (show List.length x14.key = 32 from hx14k), (show List.length x14.val = 32 from hx14v)]; done))) (oneA (allOne rfl) (oneA (oneL one_u8 _) (oneL one_u8 _))) rfl rfl hb12 (by first | rfl | (simp only [List.length_append, List.length_map, List.length_cons, List.length_nil, (show List.length (List.replicate 32 (0 : UInt8)) = 32 from (List.length_replicate ..)), (show List.length (List.replicate 32 (0 : UInt8)) = 32 from (List.length_replicate ..)), (show List.length x14.key = 32 from hx14k), (show List.length x14.val = 32 from hx14v)]; done) | (simp only [List.length_append, List.length_map, List.length_cons, List.length_nil, List.size_toArray, (show List.length (List.replicate 32 (0 : UInt8)) = 32 from (List.length_replicate ..)), (show List.length (List.replicate 32 (0 : UInt8)) = 32 from (List.length_replicate ..)), (show List.length x14.key = 32 from hx14k), (show List.length x14.val = 32 from hx14v)]; done)) (fun w16 hb12 hc hsz => ?_))
     have hzw16 := hc.size
     have HC := HC.trans hc (fun _ _ h => h) (fun k hk ht => absurd ht (by omega))
     have hcu := hcu.ch hc (by intro k hk ht; omega)
     have hb3 := hb3.ch hc (by omega)
     have hb5 := hb5.ch hc (by omega)
     have hb6 := hb6.ch hc (by omega)
     first | have hrnd := hrnd.ch hc (by intro k hk ht; omega) | have hrnd := hrnd.chT hc (by intro k hz hk ht; omega)
     refine wl_nil ?_
     refine x_seq ?_
     refine wc_block ?_
     refine wc_seq ?_
     refine wc_region ?_
     refine wl rfl rfl rfl (p_fld (j := 0) Tryd.underlying115 rfl ⟨_, by rfl⟩ rfl rfl) ?_
     refine wl rfl rfl rfl (p_ld Tryd.underlying3 rfl rfl (ld (cell_at (p := []) (v := (i64 x14.kind : Value)) (r := (([i64 x14.bit] ++ ((List.map u8v x14.key) ++ (List.map u8v x14.val))) : List Value)) hb12 (by simp only [List.append_assoc, List.cons_append, List.nil_append, List.append_nil]) (by first | rfl | (simp only [List.length_append, List.length_map, List.length_cons, List.length_nil]; done) | (simp only [List.length_append, List.length_map, List.length_cons, List.length_nil, List.size_toArray]; done))))) ?_
     refine wl rfl rfl rfl (p_eq rfl rfl) ?_
     refine wl rfl rfl rfl (p_as rfl) ?_
     refine wl_nil ?_
     refine x_seq ?_
     refine wc_if rfl (fun c3 => ?_) (fun c3 => ?_)
     ·
      have c3 := of_decide_eq_true c3
      refine wc_seq ?_
      refine wc_region ?_
      refine wl rfl rfl rfl (p_bldP (cs := ((List.replicate 32 (0 : UInt8)).map u8v).toArray) rfl (fun _ => by kernel_rfl)) ?_
      refine wle rfl (e_stH sz38 (List.length_replicate ..) (List.length_replicate ..) rfl rfl hb6 (fun w17 hb6 hc hsz => ?_))
      have hzw17 := hc.size
      have HC := HC.trans hc (fun _ _ h => h) (fun k hk ht => absurd ht (by omega))
      have hcu := hcu.ch hc (by intro k hk ht; omega)
      have hb3 := hb3.ch hc (by omega)
      have hb5 := hb5.ch hc (by omega)
      first | have hrnd := hrnd.ch hc (by intro k hk ht; omega) | have hrnd := hrnd.chT hc (by intro k hz hk ht; omega)
      have hb12 := hb12.ch hc (by omega)
      refine wl rfl rfl rfl (p_as rfl) ?_
      refine wl rfl rfl rfl (p_as rfl) ?_
      refine wl_nil ?_
      refine x_seq ?_
      refine wc_ret ?_
      refine x_in_ret ?_
      refine x_then_ret ?_
      refine fin_run (resMany (rs := [.cell 6 38, .tmp 7, .tmp 8]) rfl (.cellA (cs := List.map u8v (List.replicate 32 (0 : UInt8))) rfl Tryd.underlying38 rfl (szL sz38 (by rw [List.length_map]; exact (List.length_replicate ..))) (rngL hb6) (.tmp rfl (.tmp rfl (.nil)))) rfl) ?_
      have hck : checkN top l k = sayO k q := (check_yes hgd heq).trans hsq.symm
      rw [show checkN top l k = (zeroH, false, false) from hck.trans (say2 hhd c3)]; exact ⟨rfl, HC⟩
     ·
      have c3 := of_decide_eq_false c3
      refine wc_seq ?_
      refine wc_region ?_
      refine wl rfl rfl rfl (p_fld (j := 0) Tryd.underlying115 rfl ⟨_, by rfl⟩ rfl rfl) ?_
      refine wl rfl rfl rfl (p_ld Tryd.underlying3 rfl rfl (ld (cell_at (p := []) (v := (i64 x14.kind : Value)) (r := (([i64 x14.bit] ++ ((List.map u8v x14.key) ++ (List.map u8v x14.val))) : List Value)) hb12 (by simp only [List.append_assoc, List.cons_append, List.nil_append, List.append_nil]) (by first | rfl | (simp only [List.length_append, List.length_map, List.length_cons, List.length_nil]; done) | (simp only [List.length_append, List.length_map, List.length_cons, List.length_nil, List.size_toArray]; done))))) ?_
      refine wl rfl rfl rfl (p_eq rfl rfl) ?_
      refine wl rfl rfl rfl (p_mv rfl) ?_
      refine wl_split (d := 57) rfl (fun q57 => ?_) (fun q57 => ?_)
      ·
       have q57 := of_decide_eq_true q57
       refine wl_g (gd_ rfl rfl rfl rfl rfl rfl) rfl rfl (p_fld (j := 2) Tryd.underlying115 rfl ⟨_, by rfl⟩ rfl rfl) ?_
       refine wl_g (gd_ rfl rfl rfl rfl rfl rfl) rfl rfl (p_ldA (cs := (List.map u8v x14.key)) Tryd.underlying38 rfl (szL sz38 (by first | rfl | (simp only [List.length_append, List.length_map, List.length_cons, List.length_nil, (show List.length x14.key = 32 from hx14k)]; done) | (simp only [List.length_append, List.length_map, List.length_cons, List.length_nil, List.size_toArray, (show List.length x14.key = 32 from hx14k)]; done))) rfl (fun _ e => e ▸ rng_at (p := ([i64 x14.kind, i64 x14.bit] : List Value)) (q := ((List.map u8v x14.key) : List Value)) (r := ((List.map u8v x14.val) : List Value)) hb12 (by simp only [List.append_assoc, List.cons_append, List.nil_append, List.append_nil]) (by first | rfl | (simp only [List.length_append, List.length_map, List.length_cons, List.length_nil]; done) | (simp only [List.length_append, List.length_map, List.length_cons, List.length_nil, List.size_toArray]; done)))) ?_
       refine wl_g (gd_ rfl rfl rfl rfl rfl rfl) rfl rfl (p_ldH (L := k) Tryd.underlying38 sz38 hk rfl (fun _ e => e ▸ rngL hb5)) ?_
       refine wl_g (gd_ rfl rfl rfl rfl rfl rfl) rfl rfl (p_eqH (a := x14.key) (b := k) (by kernel_rfl) Tryd.underlying38 Tryd.underlying5 sz5 rfl rfl (hx14k) (hk)) ?_
       refine wl rfl rfl rfl (p_pickT rfl rfl) ?_
       refine wl rfl rfl rfl (p_as rfl) ?_
       refine wl_nil ?_
       refine x_seq ?_
       refine wc_if rfl (fun c4 => ?_) (fun c4 => ?_)
       ·
        refine wc_seq ?_
        refine wc_region ?_
        refine wl rfl rfl rfl (p_fld (j := 34) Tryd.underlying115 rfl ⟨_, by rfl⟩ rfl rfl) ?_
        refine wl rfl rfl rfl (p_ldA (cs := (List.map u8v x14.val)) Tryd.underlying38 rfl (szL sz38 (by first | rfl | (simp only [List.length_append, List.length_map, List.length_cons, List.length_nil, (show List.length x14.val = 32 from hx14v)]; done) | (simp only [List.length_append, List.length_map, List.length_cons, List.length_nil, List.size_toArray, (show List.length x14.val = 32 from hx14v)]; done))) rfl (fun _ e => e ▸ rng_at (p := (([i64 x14.kind, i64 x14.bit] ++ (List.map u8v x14.key)) : List Value)) (q := ((List.map u8v x14.val) : List Value)) (r := []) hb12 (by simp only [List.append_assoc, List.cons_append, List.nil_append, List.append_nil]) (by first | rfl | (simp only [List.length_append, List.length_map, List.length_cons, List.length_nil, (show List.length x14.key = 32 from hx14k)]; done) | (simp only [List.length_append, List.length_map, List.length_cons, List.length_nil, List.size_toArray, (show List.length x14.key = 32 from hx14k)]; done)))) ?_
        refine wle rfl (e_stH sz38 (List.length_replicate ..) hx14v rfl rfl hb6 (fun w18 hb6 hc hsz => ?_))
        have hzw18 := hc.size
        have HC := HC.trans hc (fun _ _ h => h) (fun k hk ht => absurd ht (by omega))
        have hcu := hcu.ch hc (by intro k hk ht; omega)
        have hb3 := hb3.ch hc (by omega)
        have hb5 := hb5.ch hc (by omega)
        first | have hrnd := hrnd.ch hc (by intro k hk ht; omega) | have hrnd := hrnd.chT hc (by intro k hz hk ht; omega)
        have hb12 := hb12.ch hc (by omega)
        refine wl rfl rfl rfl (p_as rfl) ?_
        refine wl rfl rfl rfl (p_as rfl) ?_
        refine wl_nil ?_
        refine x_seq ?_
        refine wc_ret ?_
        refine x_in_ret ?_
        refine x_then_ret ?_
        refine fin_run (resMany (rs := [.cell 6 38, .tmp 7, .tmp 8]) rfl (.cellA (cs := List.map u8v x14.val) rfl Tryd.underlying38 rfl (szL sz38 (by rw [List.length_map]; exact hx14v)) (rngL hb6) (.tmp rfl (.tmp rfl (.nil)))) rfl) ?_
        have hck : checkN top l k = sayO k q := (check_yes hgd heq).trans hsq.symm
        have hkk : x14.key = k := by simpa using c4
        rw [show checkN top l k = (x14.val, true, true) from hck.trans ((say3 hhd q57).trans (if_pos hkk))]; exact ⟨rfl, HC⟩
       ·
        refine wc_skip ?_
        refine x_in_normal ?_
        refine x_seq ?_
        refine wc_seq ?_
        refine wc_region ?_
        refine wl rfl rfl rfl (p_bldP (cs := ((List.replicate 32 (0 : UInt8)).map u8v).toArray) rfl (fun _ => by kernel_rfl)) ?_
        refine wle rfl (e_stH sz38 (List.length_replicate ..) (List.length_replicate ..) rfl rfl hb6 (fun w19 hb6 hc hsz => ?_))
        have hzw19 := hc.size
        have HC := HC.trans hc (fun _ _ h => h) (fun k hk ht => absurd ht (by omega))
        have hcu := hcu.ch hc (by intro k hk ht; omega)
        have hb3 := hb3.ch hc (by omega)
        have hb5 := hb5.ch hc (by omega)
        first | have hrnd := hrnd.ch hc (by intro k hk ht; omega) | have hrnd := hrnd.chT hc (by intro k hz hk ht; omega)
        have hb12 := hb12.ch hc (by omega)
        refine wl rfl rfl rfl (p_as rfl) ?_
        refine wl rfl rfl rfl (p_as rfl) ?_
        refine wl_nil ?_
        refine x_seq ?_
        refine wc_ret ?_
        refine fin_run (resMany (rs := [.cell 6 38, .tmp 7, .tmp 8]) rfl (.cellA (cs := List.map u8v (List.replicate 32 (0 : UInt8))) rfl Tryd.underlying38 rfl (szL sz38 (by rw [List.length_map]; exact (List.length_replicate ..))) (rngL hb6) (.tmp rfl (.tmp rfl (.nil)))) rfl) ?_
        have hck : checkN top l k = sayO k q := (check_yes hgd heq).trans hsq.symm
        rw [show checkN top l k = (zeroH, false, true) from hck.trans (say1 hhd c3 (by rintro ⟨_, h2⟩; simp [h2] at c4) (by assumption))]; exact ⟨rfl, HC⟩
      ·
       have q57 := of_decide_eq_false q57
       refine wl_s (gd_ rfl rfl rfl rfl rfl rfl) rfl rfl ?_
       refine wl_s (gd_ rfl rfl rfl rfl rfl rfl) rfl rfl ?_
       refine wl_s (gd_ rfl rfl rfl rfl rfl rfl) rfl rfl ?_
       refine wl_s (gd_ rfl rfl rfl rfl rfl rfl) rfl rfl ?_
       refine wl rfl rfl rfl (p_pickF rfl rfl) ?_
       refine wl rfl rfl rfl (p_as rfl) ?_
       refine wl_nil ?_
       refine x_seq ?_
       refine wc_no rfl (rfl) ?_
       refine wc_skip ?_
       refine x_in_normal ?_
       refine x_seq ?_
       refine wc_seq ?_
       refine wc_region ?_
       refine wl rfl rfl rfl (p_bldP (cs := ((List.replicate 32 (0 : UInt8)).map u8v).toArray) rfl (fun _ => by kernel_rfl)) ?_
       refine wle rfl (e_stH sz38 (List.length_replicate ..) (List.length_replicate ..) rfl rfl hb6 (fun w20 hb6 hc hsz => ?_))
       have hzw20 := hc.size
       have HC := HC.trans hc (fun _ _ h => h) (fun k hk ht => absurd ht (by omega))
       have hcu := hcu.ch hc (by intro k hk ht; omega)
       have hb3 := hb3.ch hc (by omega)
       have hb5 := hb5.ch hc (by omega)
       first | have hrnd := hrnd.ch hc (by intro k hk ht; omega) | have hrnd := hrnd.chT hc (by intro k hz hk ht; omega)
       have hb12 := hb12.ch hc (by omega)
       refine wl rfl rfl rfl (p_as rfl) ?_
       refine wl rfl rfl rfl (p_as rfl) ?_
       refine wl_nil ?_
       refine x_seq ?_
       refine wc_ret ?_
       refine fin_run (resMany (rs := [.cell 6 38, .tmp 7, .tmp 8]) rfl (.cellA (cs := List.map u8v (List.replicate 32 (0 : UInt8))) rfl Tryd.underlying38 rfl (szL sz38 (by rw [List.length_map]; exact (List.length_replicate ..))) (rngL hb6) (.tmp rfl (.tmp rfl (.nil)))) rfl) ?_
       have hck : checkN top l k = sayO k q := (check_yes hgd heq).trans hsq.symm
       rw [show checkN top l k = (zeroH, false, true) from hck.trans (say1 hhd c3 (by rintro ⟨h1, _⟩; exact q57 h1) (by assumption))]; exact ⟨rfl, HC⟩

set_option maxHeartbeats 1000000 in
set_option maxRecDepth 20000 in
theorem mkeys27 {w : World}  {Am : Option Addr} {lm cm : Nat} {Fm : Nat → Prop} {l : List ND} (hm : SI w Fm eND Am lm cm l) (hl : lm ≤ 1000000) (hrnd : Sl w (fun k => k = 0) u32v (some ⟨0, 0, none⟩) 64 64 rk) :
    Calls Tryd.prog 62 #[.slice Am lm cm] w fun e w' => ∃ A c lk, e = .returned (.slice A lk c) ∧ RI w' (fun k => w.heap.size ≤ k) 38 eH A lk c (keysN l) ∧ Ch No w w' := by
  have hn0 : 0 < w.heap.size := hrnd.size (by omega) rfl
  have hn1 := hn0
  have hml := hm.len
  have hm := hm.old
  have HC : Ch No w w := Ch.refl _ _
  refine enter' (args := [.slice Am lm cm]) (n := 25) Tryd.func62 rfl rfl rfl ?_
  refine wc_seq ?_
  refine wc_region ?_
  refine wl rfl rfl rfl (p_as rfl) ?_
  refine wl_nil ?_
  refine x_seq ?_
  refine wc_seq ?_
  refine wc_seq ?_
  refine wc_region ?_
  refine wl rfl rfl rfl (p_mv rfl) ?_
  refine wle rfl (e_call ent60 rfl rfl (mgood27 (hm) (by omega) hrnd) ?_)
  rintro _ w1 ⟨rfl, hc⟩
  refine ⟨_, rfl, ?_⟩
  have hzw1 := hc.size
  have HC := HC.tr hc
  have hm := hm.no hc
  have hrnd := hrnd.no hc
  refine wl rfl rfl rfl (p_not rfl) ?_
  refine wl_nil ?_
  refine x_seq ?_
  refine wc_if rfl (fun c0 => ?_) (fun c0 => ?_)
  ·
   have hg0 : (rootN l).2 = false := by simpa using c0
   refine wc_seq ?_
   refine wc_region ?_
   refine wl rfl rfl rfl (p_as rfl) ?_
   refine wl_nil ?_
   refine x_seq ?_
   refine wc_ret ?_
   refine x_then_ret ?_
   refine fin_run ((res1 rfl rfl)) ?_
   exact ⟨_, _, _, rfl, by rw [keys_no hg0]; exact RI.nil _ _ _ _, HC⟩
  ·
   have hg1 : (rootN l).2 = true := by simpa using c0
   refine wc_skip ?_
   refine x_seq ?_
   refine wc_seq ?_
   refine wc_region ?_
   refine wl rfl rfl rfl (p_as rfl) ?_
   refine wl_nil ?_
   refine x_seq ?_
   refine wc_seq ?_
   refine wc_seq ?_
   refine wc_region ?_
   refine wl rfl rfl rfl (p_mv rfl) ?_
   refine wl rfl rfl rfl (p_lenS Tryd.underlying33 rfl) ?_
   refine wl rfl rfl rfl (p_mv rfl) ?_
   refine wl_nil ?_
   refine x_seq ?_
   refine wc_block ?_
   refine wc_loop (e' := [(3, .slice (none) (0) (0)), (9, .slice Am lm cm), (10, i64 (lm : Int)), (11, i64 ((0) : Int))]) (fun mz ez uz => ∃ i : Nat, ∃ ys : List H8, ∃ A : Option Addr, ∃ lw : Nat, ∃ c : Nat, mz = lm - i ∧ ez = [(3, .slice A lw c), (9, .slice Am lm cm), (10, i64 (lm : Int)), (11, i64 (i : Int))] ∧ (i ≤ lm) ∧ (lw ≤ i) ∧ (ys = ((l.take i).filter fun x => decide (x.kind = 3)).map ND.key) ∧ (RI uz (fun k => w.heap.size ≤ k) 38 eH A lw c ys) ∧ (SI uz (fun k => k < w.heap.size) eND Am lm cm l) ∧ (Ch No w uz))
    ⟨rfl, rfl, rfl, rfl, trivial⟩ ⟨0, [], none, 0, 0, rfl, rfl, (by omega), (by omega), rfl, RI.nil _ _ _ _, hm, HC⟩ ?_
   rintro m0 e w2 ⟨i, ys, A, lw, c, hm0, rfl, hi, hyl, hys, hW, hm, HC⟩
   have hzw2 := HC.size
   refine wc_seq ?_
   refine wc_region ?_
   refine wl rfl rfl rfl (p_lt rfl rfl) ?_
   refine wl_nil ?_
   refine x_seq ?_
   refine wc_seq ?_
   refine wc_if rfl (fun c1 => ?_) (fun c1 => ?_)
   ·
    have c1 := of_decide_eq_true c1
    refine wc_skip ?_
    refine x_seq ?_
    refine wc_seq ?_
    refine wc_block ?_
    refine wc_seq ?_
    refine wc_region ?_
    obtain ⟨b3, o3, hA3, hF3, hr3⟩ := (hm).opn (i := i) (d := ND0) (by omega)
    have hok3 := (hm).okAt (i := i) (d := ND0) (by omega)
    obtain ⟨x3, ex3⟩ : ∃ x_, x_ = List.getD l (i) ND0 := ⟨_, rfl⟩
    rw [← ex3] at hr3 hok3
    obtain ⟨hx3k, hx3v⟩ := hok3
    have hr3 : w2.rangeAt b3 (o3 + i * 66) (([i64 x3.kind, i64 x3.bit] ++ ((List.map u8v x3.key) ++ (List.map u8v x3.val))) : List Value) := hr3
    refine wl rfl rfl rfl (p_ixS (j := i * 66) Tryd.underlying33 sz115 rfl hA3 rfl (by omega) (by omega) (congrArg (· * 66) (Int.toNat_natCast _))) ?_
    have hdr : l.take (i + 1) = l.take i ++ [x3] := by rw [ex3]; exact getD_take (by omega)
    refine wl rfl rfl rfl (p_ldA (cs := (([i64 x3.kind, i64 x3.bit] ++ ((List.map u8v x3.key) ++ (List.map u8v x3.val))) : List Value)) Tryd.underlying115 rfl (szL sz115 (by first | rfl | (simp only [List.length_append, List.length_map, List.length_cons, List.length_nil, (show List.length x3.key = 32 from hx3k), (show List.length x3.val = 32 from hx3v)]; done) | (simp only [List.length_append, List.length_map, List.length_cons, List.length_nil, List.size_toArray, (show List.length x3.key = 32 from hx3k), (show List.length x3.val = 32 from hx3v)]; done))) rfl (fun _ e => e ▸ hr3)) ?_
    refine wle rfl (e_alloc (cs := (([Value.int .i64 0, Value.int .i64 0] ++ ((List.map u8v (List.replicate 32 (0 : UInt8))) ++ (List.map u8v (List.replicate 32 (0 : UInt8))))) : List Value).toArray) rfl (by rfl) (by rfl) (fun w4 g5 hg5 hb5 hc hsz5 => ?_))
    have hzw4 := hc.size
    have HC := HC.tr hc
    have hW := hW.after hc
    have hm := hm.no hc
    have hge5 : w.heap.size ≤ g5 := by have := HC.size; omega
    refine wle rfl (e_stW (vs := (([i64 x3.kind, i64 x3.bit] ++ ((List.map u8v x3.key) ++ (List.map u8v x3.val))) : List Value)) (szL sz115 (by first | rfl | (simp only [List.length_append, List.length_map, List.length_cons, List.length_nil, (show List.length x3.key = 32 from hx3k), (show List.length x3.val = 32 from hx3v)]; done) | (simp only [List.length_append, List.length_map, List.length_cons, List.length_nil, List.size_toArray, (show List.length x3.key = 32 from hx3k), (show List.length x3.val = 32 from hx3v)]; done))) (oneA (allOne rfl) (oneA (oneL one_u8 _) (oneL one_u8 _))) rfl rfl hb5 (by first | rfl | (simp only [List.length_append, List.length_map, List.length_cons, List.length_nil, (show List.length (List.replicate 32 (0 : UInt8)) = 32 from (List.length_replicate ..)), (show List.length (List.replicate 32 (0 : UInt8)) = 32 from (List.length_replicate ..)), (show List.length x3.key = 32 from hx3k), (show List.length x3.val = 32 from hx3v)]; done) | (simp only [List.length_append, List.length_map, List.length_cons, List.length_nil, List.size_toArray, (show List.length (List.replicate 32 (0 : UInt8)) = 32 from (List.length_replicate ..)), (show List.length (List.replicate 32 (0 : UInt8)) = 32 from (List.length_replicate ..)), (show List.length x3.key = 32 from hx3k), (show List.length x3.val = 32 from hx3v)]; done)) (fun w5 hb5 hc hsz => ?_))
    have hzw5 := hc.size
    have HC := HC.trans hc (fun _ _ h => h) (fun k hk ht => absurd ht (by omega))
    have hW := hW.ch hc (by intro k hz hk ht; omega)
    have hm := hm.ch hc (by intro k hk ht; omega)
    refine wl_nil ?_
    refine x_seq ?_
    refine wc_seq ?_
    refine wc_region ?_
    refine wl rfl rfl rfl (p_fld (j := 0) Tryd.underlying115 rfl ⟨_, by rfl⟩ rfl rfl) ?_
    refine wl rfl rfl rfl (p_ld Tryd.underlying3 rfl rfl (ld (cell_at (p := []) (v := (i64 x3.kind : Value)) (r := (([i64 x3.bit] ++ ((List.map u8v x3.key) ++ (List.map u8v x3.val))) : List Value)) hb5 (by simp only [List.append_assoc, List.cons_append, List.nil_append, List.append_nil]) (by first | rfl | (simp only [List.length_append, List.length_map, List.length_cons, List.length_nil]; done) | (simp only [List.length_append, List.length_map, List.length_cons, List.length_nil, List.size_toArray]; done))))) ?_
    refine wl rfl rfl rfl (p_eq rfl rfl) ?_
    refine wl_nil ?_
    refine x_seq ?_
    refine wc_if rfl (fun c2 => ?_) (fun c2 => ?_)
    ·
     have c2 := of_decide_eq_true c2
     refine wc_region ?_
     refine wl rfl rfl rfl (p_mv rfl) ?_
     refine wl rfl rfl rfl (p_fld (j := 2) Tryd.underlying115 rfl ⟨_, by rfl⟩ rfl rfl) ?_
     refine wl rfl rfl rfl (p_ldA (cs := (List.map u8v x3.key)) Tryd.underlying38 rfl (szL sz38 (by first | rfl | (simp only [List.length_append, List.length_map, List.length_cons, List.length_nil, (show List.length x3.key = 32 from hx3k)]; done) | (simp only [List.length_append, List.length_map, List.length_cons, List.length_nil, List.size_toArray, (show List.length x3.key = 32 from hx3k)]; done))) rfl (fun _ e => e ▸ rng_at (p := ([i64 x3.kind, i64 x3.bit] : List Value)) (q := ((List.map u8v x3.key) : List Value)) (r := ((List.map u8v x3.val) : List Value)) hb5 (by simp only [List.append_assoc, List.cons_append, List.nil_append, List.append_nil]) (by first | rfl | (simp only [List.length_append, List.length_map, List.length_cons, List.length_nil]; done) | (simp only [List.length_append, List.length_map, List.length_cons, List.length_nil, List.size_toArray]; done)))) ?_
     have hltg5 := hb5.lt
     refine wle rfl (e_bslX (E := 38) (cs := ((List.map u8v x3.key) : List Value)) (cs' := ((hx x3.key) : List Value)) rfl rfl (by simp only [hv, map_hx hx3k] <;> rfl) (fun _ => by kernel_rfl) (fun w6 g21 hg21 hb21 hc hsz21 => ?_))
     have hzw6 := hc.size
     have HC := HC.tr hc
     have hW := hW.after hc
     have hm := hm.no hc
     have hb5 := hb5.ch hc (fun h => h)
     have hge21 : w.heap.size ≤ g21 := by have := HC.size; omega
     have hS21 := SI.oneA (E := eH) (x := x3.key) hb21 rfl hx3k
     have hltg5 := hb5.lt
     refine wle rfl (e_appI rfl el23 rfl rfl hW (hS21) (by omega) (by intro k hk; first | omega | (dsimp only at *; omega)) (fun w7 A22 c22 hW hc => ?_))
     have hzw7 := hc.size
     have HC := HC.trans hc (fun _ _ h => h) (fun k hk ht => absurd ht (by omega))
     have hm := hm.ch hc (by intro k hk ht; omega)
     have hb5 := hb5.ch hc (by omega)
     first | have hS21 := hS21.ch hc (by intro k hk ht; omega) | have hS21 := hS21.chT hc (by intro k hz hk ht; omega)
     refine wl rfl rfl rfl (p_as rfl) ?_
     refine wl_nil ?_
     refine x_in_normal ?_
     refine x_seq ?_
     refine wc_region ?_
     refine wl rfl rfl rfl (p_add rfl rfl (w64 (by omega))) ?_
     refine wl rfl rfl rfl (p_mv rfl) ?_
     refine wl_nil ?_
     refine x_round (e' := [(3, .slice (_) (_) (_)), (9, .slice Am lm cm), (10, i64 (lm : Int)), (11, i64 ((i + 1) : Int))]) ⟨rfl, rfl, rfl, rfl, trivial⟩ (by rw [hm0]; omega) ⟨i + 1, _, _, _, _, rfl, rfl, (by omega), (by omega), (by rw [hdr, List.filter_append, List.map_append, ← hys]; simp [c2]), (hW.mono (fun k _ hk => by first | exact hk | exact hk.1 | exact hk.1.1 | exact hk.1.1.1 | (dsimp only at *; omega))), hm, HC⟩
    ·
     have c2 := of_decide_eq_false c2
     refine wc_skip ?_
     refine x_in_normal ?_
     refine x_seq ?_
     refine wc_region ?_
     refine wl rfl rfl rfl (p_add rfl rfl (w64 (by omega))) ?_
     refine wl rfl rfl rfl (p_mv rfl) ?_
     refine wl_nil ?_
     refine x_round (e' := [(3, .slice (_) (_) (_)), (9, .slice Am lm cm), (10, i64 (lm : Int)), (11, i64 ((i + 1) : Int))]) ⟨rfl, rfl, rfl, rfl, trivial⟩ (by rw [hm0]; omega) ⟨i + 1, _, _, _, _, rfl, rfl, (by omega), (by omega), (by rw [hdr, List.filter_append, List.map_append, ← hys]; simp [c2]), (hW.mono (fun k _ hk => by first | exact hk | exact hk.1 | exact hk.1.1 | exact hk.1.1.1 | (dsimp only at *; omega))), hm, HC⟩
   ·
    have c1 := of_decide_eq_false c1
    refine wc_exit ?_
    refine x_then_exit ?_
    refine x_then_exit ?_
    refine x_in_here ?_
    refine x_seq ?_
    refine wc_seq ?_
    refine wc_region ?_
    refine wl rfl rfl rfl (p_mv rfl) ?_
    refine wl rfl rfl rfl (p_as rfl) ?_
    refine wl_nil ?_
    refine x_seq ?_
    refine wc_ret ?_
    refine fin_run ((res1 rfl rfl)) ?_
    rw [List.take_of_length_le (by omega), ← keys_yes hg1] at hys
    exact ⟨_, _, _, rfl, hys ▸ hW, HC⟩

def RPartOK (n : Nat) : Prop := ∀ {w : World} {Al Ab : Option Addr} {ll cl lb cb : Nat} {Fl Fa : Nat → Prop} {l : List ND} {ab : List TN}, l.length ≤ n → SI w Fl eND Al ll cl l → SI w Fa eTN Ab lb cb ab → ll ≤ 100000000 → lb + n ≤ 100000000 → Calls Tryd.prog 89 #[.slice Al ll cl, .slice Ab lb cb] w fun e w' => ∃ h A' l' c' r' ok, e = .returned (.tuple #[hv h, .slice A' l' c', .bool ok]) ∧ SI w' Fl eND A' l' c' r' ∧ PR ab l false h r' (!ok) ∧ Ch No w w'
end Go.Proofs.YtkfkdakghjlenaaDoor
