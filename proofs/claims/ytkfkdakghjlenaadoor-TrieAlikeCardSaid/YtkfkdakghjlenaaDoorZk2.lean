/-
  Own text, printed by a program of mine (wip/gx): what functions of the program do, walked operation by operation.
-/
import Derived.Test.YtkfkdakghjlenaaDoorProg
import Derived.Test.YtkfkdakghjlenaaDoorGxAgg
import Derived.Test.YtkfkdakghjlenaaDoorTab
import Derived.Test.YtkfkdakghjlenaaDoorGxZer
import Derived.Test.YtkfkdakghjlenaaDoorGxLay
import Derived.Test.YtkfkdakghjlenaaDoorPlPack
import Derived.Test.YtkfkdakghjlenaaDoorPlSum
import Derived.Test.YtkfkdakghjlenaaDoorPlSha
import Derived.Test.YtkfkdakghjlenaaDoorPlTag
import Derived.Test.YtkfkdakghjlenaaDoorPlBits
import Derived.Test.YtkfkdakghjlenaaDoorPlShaSt
import Derived.Test.YtkfkdakghjlenaaDoorPlShaB
import Derived.Test.YtkfkdakghjlenaaDoorPlTrie
import Derived.Test.YtkfkdakghjlenaaDoorPlTrieSt
import Derived.Test.YtkfkdakghjlenaaDoorGxRec
import Derived.Test.YtkfkdakghjlenaaDoorGxYld
import Derived.Test.YtkfkdakghjlenaaDoorPlTrieFil
import Derived.Test.YtkfkdakghjlenaaDoorOnceC
import Derived.Test.YtkfkdakghjlenaaDoorPlTrieW
import Derived.Test.YtkfkdakghjlenaaDoorPlMulti
import Derived.Test.YtkfkdakghjlenaaDoorPlEncs
import Derived.Test.YtkfkdakghjlenaaDoorGxMark
import Derived.Test.YtkfkdakghjlenaaDoorPlTrieLaw
import Derived.Test.YtkfkdakghjlenaaDoorPlTrieAct
import Derived.Test.YtkfkdakghjlenaaDoorGxFun
import Derived.Test.YtkfkdakghjlenaaDoorZk0
import Derived.Test.YtkfkdakghjlenaaDoorZk1
set_option linter.unusedVariables false
set_option linter.unusedSimpArgs false
namespace Go.Proofs.YtkfkdakghjlenaaDoor
open Go.RowKit Go.Gx
open Go.Plain
set_option maxHeartbeats 1000000 in
set_option maxRecDepth 20000 in
theorem tdrop_made {w : World} {v : Value} {o : Option LT} {F : Nat → Prop} {k : List UInt8} (hV : TR 41 156 F w v o) (hF : ∀ j, w.heap.size ≤ j → F j) (hk : k.length = 32) :
    Calls Tryd.prog 45 #[v, hv k] w fun e w' => ∃ v' o', e = .returned v' ∧ TR 41 156 F w' v' o' ∧ eo o' = dropT (eo o) k ∧ Ch No w w' := by
  obtain ⟨g, rfl, hFg, hbg, hT⟩ := hV.opn
  have hbg : Blk w g 41 ([.pointer (topa o), .bool true] : List Value).toArray := hbg
  have hT : OTr 156 F w o := hT
  have hTl := hT.lt
  have hltg := hbg.lt
  have HC : Ch No w w := Ch.refl _ _
  refine enter' (args := [ndp g, hv k]) (n := 27) Tryd.func45 rfl rfl rfl ?_
  refine wc_seq ?_
  refine wc_region ?_
  have hltg := hbg.lt
  refine wle rfl (e_box (cs := (List.map u8v k).toArray) rfl rfl rfl (fun w1 g3 hg3 hb3 hc hsz3 => ?_))
  have hzw1 := hc.size
  have HC := HC.tr hc
  have hbg := hbg.ch hc (fun h => h)
  have hT := hT.chA hc (by first | exact fun _ _ h => h | exact (fun k hk ht => by have h2 := hTl k hk; omega))
  have hge3 : w.heap.size ≤ g3 := by have := HC.size; omega
  have neg_3 : g < g3 := by omega
  refine wl rfl rfl rfl (p_as rfl) ?_
  refine wl_nil ?_
  refine x_seq ?_
  refine wc_seq ?_
  refine wc_seq ?_
  refine wc_region ?_
  refine wl rfl rfl rfl (p_mv rfl) ?_
  refine wle rfl (e_call ent81 rfl rfl (is_made hbg) ?_)
  rintro _ w2 ⟨rfl, hc⟩
  refine ⟨_, rfl, ?_⟩
  have hzw2 := hc.size
  have HC := HC.tr hc
  have hbg := hbg.ch hc (fun h => h)
  have hT := hT.chA hc (by first | exact fun _ _ h => h | exact (fun k hk ht => by have h2 := hTl k hk; omega))
  have hb3 := hb3.ch hc (fun h => h)
  refine wl rfl rfl rfl (p_not rfl) ?_
  refine wl_nil ?_
  refine x_seq ?_
  refine wc_no rfl (rfl) ?_
  refine wc_skip ?_
  refine x_seq ?_
  refine wc_seq ?_
  refine wc_seq ?_
  refine wc_region ?_
  refine wl rfl rfl rfl (p_mv rfl) ?_
  refine wl rfl rfl rfl (p_ldA (cs := List.map u8v k) Tryd.underlying38 rfl (szL sz38 (by rw [List.length_map]; exact hk)) rfl (fun _ e => e ▸ rngL hb3)) ?_
  refine wle rfl (e_call ent42 rfl rfl (tget_any (TR.mk' hFg hbg hT) (hk)) ?_)
  rintro _ w3 ⟨u13, ok13, rfl, hu13, hg13, hc⟩
  refine ⟨_, rfl, ?_⟩
  have hzw3 := hc.size
  have HC := HC.tr hc
  have hbg := hbg.ch hc (fun h => h)
  have hT := hT.chA hc (by first | exact fun _ _ h => h | exact (fun k hk ht => by have h2 := hTl k hk; omega))
  have hb3 := hb3.ch hc (fun h => h)
  injection hg13 with hg13u hg13o
  rw [hg13o]
  refine wl rfl rfl rfl (p_mv rfl) ?_
  refine wl rfl rfl rfl (p_ext rfl rfl) ?_
  refine wl rfl rfl rfl (p_ext rfl rfl) ?_
  have hltg := hbg.lt
  have hltg3 := hb3.lt
  refine wle rfl (e_alloc (cs := ((List.replicate 32 (0 : UInt8)).map u8v).toArray) rfl (by rfl) rfl (fun w4 g5 hg5 hb5 hc hsz5 => ?_))
  have hzw4 := hc.size
  have HC := HC.tr hc
  have hbg := hbg.ch hc (fun h => h)
  have hT := hT.chA hc (by first | exact fun _ _ h => h | exact (fun k hk ht => by have h2 := hTl k hk; omega))
  have hb3 := hb3.ch hc (fun h => h)
  have hge5 : w.heap.size ≤ g5 := by have := HC.size; omega
  have neg_5 : g < g5 := by omega
  have neg3_5 : g3 < g5 := by omega
  refine wle rfl (e_stW (vs := List.map u8v u13) (szL sz38 (by rw [List.length_map]; exact hu13)) (oneL one_u8 _) rfl rfl hb5 (by simp only [List.size_toArray, List.length_map]; first | done | exact ((List.length_replicate ..)).trans (hu13).symm) (fun w5 hb5 hc hsz => ?_))
  have hzw5 := hc.size
  have HC := HC.trans hc (fun _ _ h => h) (fun k hk ht => absurd ht (by omega))
  have hbg := hbg.ch hc (by omega)
  have hT := hT.chA hc (by first | exact fun _ _ h => h | exact (fun k hk ht => by have h2 := hTl k hk; omega))
  have hb3 := hb3.ch hc (by omega)
  refine wl rfl rfl rfl (p_as rfl) ?_
  refine wl_nil ?_
  refine x_seq ?_
  refine wc_seq ?_
  refine wc_region ?_
  refine wl rfl rfl rfl (p_mv rfl) ?_
  refine wl rfl rfl rfl (p_not rfl) ?_
  refine wl_nil ?_
  refine x_seq ?_
  refine wc_if rfl (fun c1 => ?_) (fun c1 => ?_)
  ·
    have hno : (getT (eo o) k).isSome = false := by simpa using c1
    refine wc_seq ?_
    refine wc_region ?_
    refine wl rfl rfl rfl (p_mv rfl) ?_
    refine wl rfl rfl rfl (p_as rfl) ?_
    refine wl_nil ?_
    refine x_seq ?_
    refine wc_ret ?_
    refine x_then_ret ?_
    refine fin_run ((res1 rfl rfl)) ?_
    first | exact ⟨_, _, rfl, TR.mk' (hF _ (by omega)) hb26 hL24, her24, HC⟩ | exact ⟨_, _, rfl, TR.mk' hFg hbg hT, dropT_id hno, HC⟩
  ·
    have hhas : (getT (eo o) k).isSome = true := by simpa using c1
    refine wc_skip ?_
    refine x_seq ?_
    refine wc_seq ?_
    refine wc_draw (.st 0 0 (.st 1 0 (.st 2 0 (.st 3 1 (.st 4 1 (.st 5 2 (.st 6 0 (.st 7 2 (.st 8 0 .nil))))))))) 9 (by kernel_rfl) (by kernel_rfl) (by kernel_rfl) (by repeat (first | with_reducible exact pan_body | with_reducible apply pan_then | with_reducible apply pan_in)) (fun x => Ch No w5.drew x) (Ch.refl _ _) ?_
    obtain ⟨w6, ew6⟩ : ∃ x, x = w5.drew := ⟨_, rfl⟩
    rw [← ew6]
    have hc : Ch No w5 w6 := by rw [ew6]; exact Ch.drew _
    have hszw6 : w6.heap.size = w5.heap.size := by rw [ew6]; rfl
    clear ew6
    have hzw6 := hc.size
    have HC := HC.tr hc
    have hbg := hbg.ch hc (fun h => h)
    have hT := hT.chA hc (by first | exact fun _ _ h => h | exact (fun k hk ht => by have h2 := hTl k hk; omega))
    have hb3 := hb3.ch hc (fun h => h)
    have hb5 := hb5.ch hc (fun h => h)
    have hS : Ch No w6 w6 := Ch.refl _ _
    refine ws_p rfl rfl rfl rfl (p_mv rfl) ?_
    refine ws_p rfl rfl rfl rfl (p_nck rfl) ?_
    refine ws_p rfl rfl rfl rfl (p_fld (j := 0) Tryd.underlying41 rfl ⟨_, by rfl⟩ rfl rfl) ?_
    refine ws_h rfl rfl rfl rfl (p_ld Tryd.underlying39 rfl rfl (fun _ h => h.cell (fun h => h) (cell_at (p := []) (v := (.pointer (topa o) : Value)) (r := ([.bool true] : List Value)) hbg (by simp only [List.append_assoc, List.cons_append, List.nil_append, List.append_nil]) (by first | rfl | (simp only [List.length_append, List.length_map, List.length_cons, List.length_nil]; done) | (simp only [List.length_append, List.length_map, List.length_cons, List.length_nil, List.size_toArray]; done))))) ?_
    refine ws_h rfl rfl rfl rfl (p_ldA (cs := List.map u8v k) Tryd.underlying38 rfl (szL sz38 (by rw [List.length_map]; exact hk)) rfl (fun _ h => (rngL (hb3.ch h (fun h => h))))) ?_
    refine ws_e rfl rfl (e_call ent84 rfl rfl (dropO_any hT (fun j hj => hF j (by omega)) (hk) hhas) ?_)
    rintro _ w7 ⟨r24, rfl, her24, hL24, hc⟩
    refine ⟨_, rfl, hc, ?_⟩
    have hzw7 := hc.size
    have HC := HC.tr hc
    have hbg := hbg.ch hc (fun h => h)
    have hT := hT.chA hc (by first | exact fun _ _ h => h | exact (fun k hk ht => by have h2 := hTl k hk; omega))
    have hb3 := hb3.ch hc (fun h => h)
    have hb5 := hb5.ch hc (fun h => h)
    refine ws_narrow (S' := fun x => Ch No w7 x) (Ch.refl _ _) (fun x h => hc.tr h) ?_
    refine ws_p rfl rfl rfl rfl (p_bldX (vs' := [.pointer (topa r24), .bool true]) (cs := ([.pointer (topa r24), .bool true] : List Value)) (cs' := ([.pointer (topa r24), .bool true] : List Value)) rfl rfl rfl (fun _ => by kernel_rfl)) ?_
    have hltg := hbg.lt
    have hltg3 := hb3.lt
    have hltg5 := hb5.lt
    refine ws_e rfl rfl (e_box (cs := ([.pointer (topa r24), .bool true] : List Value).toArray) rfl rfl rfl (fun w8 g26 hg26 hb26 hc hsz26 => ⟨hc, ?_⟩))
    have hzw8 := hc.size
    have HC := HC.tr hc
    have hbg := hbg.ch hc (fun h => h)
    have hT := hT.chA hc (by first | exact fun _ _ h => h | exact (fun k hk ht => by have h2 := hTl k hk; omega))
    have hb3 := hb3.ch hc (fun h => h)
    have hb5 := hb5.ch hc (fun h => h)
    have hL24 := hL24.no hc
    have hge26 : w.heap.size ≤ g26 := by have := HC.size; omega
    have neg_26 : g < g26 := by omega
    have neg3_26 : g3 < g26 := by omega
    have neg5_26 : g5 < g26 := by omega
    refine ws_narrow (S' := fun x => Ch No w8 x) (Ch.refl _ _) (fun x h => hc.tr h) ?_
    refine ws_p rfl rfl rfl rfl (p_as rfl) ?_
    refine ws_n ?_
    refine x_seq ?_
    refine wc_ret ?_
    refine fin_run ((res1 rfl rfl)) ?_
    first | exact ⟨_, _, rfl, TR.mk' (hF _ (by omega)) hb26 hL24, her24, HC⟩ | exact ⟨_, _, rfl, TR.mk' hFg hbg hT, dropT_id hno, HC⟩

set_option maxHeartbeats 1000000 in
set_option maxRecDepth 20000 in
theorem troot_made {w : World} {v : Value} {o : Option LT} {F : Nat → Prop} (hV : TR 41 156 F w v o) (hrnd : Sl w (fun k => k = 0) u32v (some ⟨0, 0, none⟩) 64 64 rk) :
    Calls Tryd.prog 46 #[v] w fun e w' => e = .returned (hv (rootT (eo o))) ∧ Ch (fun k => k ∈ adsO o) w w' ∧ Fil 156 w w' ∧ (∀ k, k ∈ adsO o → ∃ cs, Blk w k 156 cs) ∧ ∀ k, k ∈ adsO o → F k := by
  obtain ⟨g, rfl, hFg, hbg, hT⟩ := hV.opn
  have hbg : Blk w g 41 ([.pointer (topa o), .bool true] : List Value).toArray := hbg
  have hT : OTr 156 F w o := hT
  have hTl := hT.lt
  have hltg := hbg.lt
  have hn0 : 0 < w.heap.size := hrnd.size (by omega) rfl
  have hn1 := hn0
  have hrl : (rootT (eo o)).length = 32 := rootT_len
  have hA0 := hT.blk
  have hA1 := hT.inF
  have HC : Ch (fun k => k ∈ adsO o) w w := Ch.refl _ _
  refine enter' (args := [ndp g]) (n := 12) Tryd.func46 rfl rfl rfl ?_
  refine wc_seq ?_
  refine wc_region ?_
  have hltg := hbg.lt
  refine wle rfl (e_alloc (cs := ((List.replicate 32 (0 : UInt8)).map u8v).toArray) rfl (by rfl) rfl (fun w1 g2 hg2 hb2 hc hsz2 => ?_))
  have hzw1 := hc.size
  have HC := HC.tr hc
  have hbg := hbg.ch hc (fun h => h)
  have hT := hT.chA hc (by first | exact fun _ _ h => h | exact (fun k hk ht => by have h2 := hTl k hk; omega))
  have hrnd := hrnd.no hc
  have hge2 : w.heap.size ≤ g2 := by have := HC.size; omega
  have neg_2 : g < g2 := by omega
  refine wl_nil ?_
  refine x_seq ?_
  refine wc_seq ?_
  refine wc_seq ?_
  refine wc_region ?_
  refine wl rfl rfl rfl (p_mv rfl) ?_
  refine wle rfl (e_call ent81 rfl rfl (is_made hbg) ?_)
  rintro _ w2 ⟨rfl, hc⟩
  refine ⟨_, rfl, ?_⟩
  have hzw2 := hc.size
  have HC := HC.tr hc
  have hbg := hbg.ch hc (fun h => h)
  have hT := hT.chA hc (by first | exact fun _ _ h => h | exact (fun k hk ht => by have h2 := hTl k hk; omega))
  have hrnd := hrnd.no hc
  have hb2 := hb2.ch hc (fun h => h)
  refine wl rfl rfl rfl (p_not rfl) ?_
  refine wl_nil ?_
  refine x_seq ?_
  refine wc_no rfl (rfl) ?_
  refine wc_skip ?_
  refine x_seq ?_
  refine wc_seq ?_
  refine wc_region ?_
  refine wl rfl rfl rfl (p_mv rfl) ?_
  refine wl rfl rfl rfl (p_nck rfl) ?_
  refine wl rfl rfl rfl (p_fld (j := 0) Tryd.underlying41 rfl ⟨_, by rfl⟩ rfl rfl) ?_
  refine wl rfl rfl rfl (p_ld Tryd.underlying39 rfl rfl (ld (cell_at (p := []) (v := (.pointer (topa o) : Value)) (r := ([.bool true] : List Value)) hbg (by simp only [List.append_assoc, List.cons_append, List.nil_append, List.append_nil]) (by first | rfl | (simp only [List.length_append, List.length_map, List.length_cons, List.length_nil]; done) | (simp only [List.length_append, List.length_map, List.length_cons, List.length_nil, List.size_toArray]; done))))) ?_
  refine wle rfl (e_call ent85 rfl rfl (rootO_any hT hrnd) ?_)
  rintro _ w3 ⟨rfl, hLn, hc⟩
  refine ⟨_, rfl, ?_⟩
  have hRB := hT.blk
  have hR0 := hT.out hrnd (by omega)
  have hFil := Fil.ofO hT hc hLn
  have hzw3 := hc.size
  have HC := HC.trans hc (fun _ _ h => h) (fun k hk ht => ht)
  first | have hbg := hbg.ch hc (hbg.not_nd hRB) | have hbg := hbg.ch hc (by assumption)
  have hT := hT.fil hFil
  have hrnd := hrnd.ch hc (fun k hk ht => hR0 (hk ▸ ht))
  first | have hb2 := hb2.ch hc (hb2.not_nd hRB) | have hb2 := hb2.ch hc (by assumption)
  refine wle rfl (e_stW (vs := List.map u8v (rootT (eo o))) (szL sz38 (by rw [List.length_map]; exact hrl)) (oneL one_u8 _) rfl rfl hb2 (by simp only [List.size_toArray, List.length_map]; first | done | exact ((List.length_replicate ..)).trans (hrl).symm) (fun w4 hb2 hc hsz => ?_))
  have hzw4 := hc.size
  have HC := HC.trans hc (fun _ _ h => h) (fun k hk ht => absurd ht (by omega))
  have hbg := hbg.ch hc (by omega)
  have hT := hT.chA hc (by first | exact fun _ _ h => h | exact (fun k hk ht => by have h2 := hTl k hk; omega))
  first | have hrnd := hrnd.ch hc (by intro k hk ht; first | omega | (dsimp only at *; omega)) | have hrnd := hrnd.chT hc (by intro k hz hk ht; first | omega | (dsimp only at *; omega))
  refine wl_nil ?_
  refine x_seq ?_
  refine wc_ret ?_
  refine fin_run (resC (cs := List.map u8v (rootT (eo o))) rfl rfl Tryd.underlying38 rfl (szL sz38 (by rw [List.length_map]; exact hrl)) (rngL hb2)) ?_
  exact ⟨rfl, HC, Fil.ofO hV.ot HC (fun t e => (hT t e).1), hA0, hA1⟩

theorem is_madeP {w : World} {g gn : Nat} (hbg : Blk w g 41 [ndp gn, .bool true].toArray) : Calls Tryd.prog 81 #[ndp g] w fun e w' => e = .returned (.bool true) ∧ Ch No w w' := is_made (o := some (.leaf gn [] [])) hbg

set_option maxHeartbeats 1000000 in
set_option maxRecDepth 20000 in
theorem tlen_none {w : World} {g : Nat} (hbg : Blk w g 41 [.pointer none, .bool true].toArray) :
    Calls Tryd.prog 43 #[ndp g] w fun e w' => e = .returned (i64 0) ∧ Ch No w w' := by
  have hltg := hbg.lt
  have HC : Ch No w w := Ch.refl _ _
  refine enter' (args := [ndp g]) (n := 20) Tryd.func43 rfl rfl rfl ?_
  refine wc_seq ?_
  refine wc_region ?_
  refine wl rfl rfl rfl (p_as rfl) ?_
  refine wl_nil ?_
  refine x_seq ?_
  refine wc_seq ?_
  refine wc_seq ?_
  refine wc_region ?_
  refine wl rfl rfl rfl (p_mv rfl) ?_
  refine wle rfl (e_call ent81 rfl rfl (is_made (o := none) hbg) ?_)
  rintro _ w1 ⟨rfl, hc⟩
  refine ⟨_, rfl, ?_⟩
  have hzw1 := hc.size
  have HC := HC.tr hc
  have hbg := hbg.ch hc (fun h => h)
  refine wl rfl rfl rfl (p_not rfl) ?_
  refine wl rfl rfl rfl (p_mv rfl) ?_
  refine wl_g (gd_ rfl rfl rfl rfl rfl rfl) rfl rfl (p_mv rfl) ?_
  refine wl_g (gd_ rfl rfl rfl rfl rfl rfl) rfl rfl (p_nck rfl) ?_
  refine wl_g (gd_ rfl rfl rfl rfl rfl rfl) rfl rfl (p_fld (j := 0) Tryd.underlying41 rfl ⟨_, by rfl⟩ rfl rfl) ?_
  refine wl_g (gd_ rfl rfl rfl rfl rfl rfl) rfl rfl (p_ld Tryd.underlying39 rfl rfl (ld (cell_at (p := []) (v := (.pointer none : Value)) (r := ([.bool true] : List Value)) hbg (by simp only [List.append_assoc, List.cons_append, List.nil_append, List.append_nil]) (by first | rfl | (simp only [List.length_append, List.length_map, List.length_cons, List.length_nil]; done) | (simp only [List.length_append, List.length_map, List.length_cons, List.length_nil, List.size_toArray]; done))))) ?_
  refine wl_g (gd_ rfl rfl rfl rfl rfl rfl) rfl rfl (p_eqPN rfl rfl Tryd.underlying39) ?_
  refine wl rfl rfl rfl (p_pickF rfl rfl) ?_
  refine wl_nil ?_
  refine x_seq ?_
  refine wc_yes rfl (rfl) ?_
  refine wc_seq ?_
  refine wc_region ?_
  refine wl rfl rfl rfl (p_as rfl) ?_
  refine wl_nil ?_
  refine x_seq ?_
  refine wc_ret ?_
  refine x_then_ret ?_
  refine fin_run ((res1 rfl rfl)) ?_
  exact ⟨rfl, HC⟩

set_option maxHeartbeats 1000000 in
set_option maxRecDepth 20000 in
theorem tlen_some {w : World} {g : Nat} {t : LT} (hbg : Blk w g 41 [ndp t.adr, .bool true].toArray) (hX : LAt 156 w t) :
    Calls Tryd.prog 43 #[ndp g] w fun e w' => e = .returned (i64 (t.er.cnt : Int)) ∧ Ch No w w' := by
  have hltg := hbg.lt
  obtain ⟨gn, p, q, v0, d0, h0, egn, hvn, hhn, hkn, hbl, hcl, hbn⟩ := hX.top
  rw [← egn] at hbg
  have hbn : Blk w gn 156 (([i64 (t.er.bit : Int), p, q] ++ ((List.map u8v t.er.key) ++ ((List.map u8v v0) ++ ([i64 (t.er.cnt : Int), .int .u32 (d0 : Int), .int .i32 ((0 : Nat) : Int), .int .u32 0] ++ (List.map u8v h0))))) : List Value).toArray := hbn
  have hltgn := hbn.lt
  have hbg : Blk w g 41 ([ndp gn, .bool true] : List Value).toArray := hbg
  have HC : Ch No w w := Ch.refl _ _
  refine enter' (args := [ndp g]) (n := 20) Tryd.func43 rfl rfl rfl ?_
  refine wc_seq ?_
  refine wc_region ?_
  refine wl rfl rfl rfl (p_as rfl) ?_
  refine wl_nil ?_
  refine x_seq ?_
  refine wc_seq ?_
  refine wc_seq ?_
  refine wc_region ?_
  refine wl rfl rfl rfl (p_mv rfl) ?_
  refine wle rfl (e_call ent81 rfl rfl (is_madeP hbg) ?_)
  rintro _ w1 ⟨rfl, hc⟩
  refine ⟨_, rfl, ?_⟩
  have hzw1 := hc.size
  have HC := HC.tr hc
  have hbg := hbg.ch hc (fun h => h)
  have hbn := hbn.ch hc (fun h => h)
  refine wl rfl rfl rfl (p_not rfl) ?_
  refine wl rfl rfl rfl (p_mv rfl) ?_
  refine wl_g (gd_ rfl rfl rfl rfl rfl rfl) rfl rfl (p_mv rfl) ?_
  refine wl_g (gd_ rfl rfl rfl rfl rfl rfl) rfl rfl (p_nck rfl) ?_
  refine wl_g (gd_ rfl rfl rfl rfl rfl rfl) rfl rfl (p_fld (j := 0) Tryd.underlying41 rfl ⟨_, by rfl⟩ rfl rfl) ?_
  refine wl_g (gd_ rfl rfl rfl rfl rfl rfl) rfl rfl (p_ld Tryd.underlying39 rfl rfl (ld (cell_at (p := []) (v := (ndp gn : Value)) (r := ([.bool true] : List Value)) hbg (by simp only [List.append_assoc, List.cons_append, List.nil_append, List.append_nil]) (by first | rfl | (simp only [List.length_append, List.length_map, List.length_cons, List.length_nil]; done) | (simp only [List.length_append, List.length_map, List.length_cons, List.length_nil, List.size_toArray]; done))))) ?_
  refine wl_g (gd_ rfl rfl rfl rfl rfl rfl) rfl rfl (p_eqPN rfl rfl Tryd.underlying39) ?_
  refine wl rfl rfl rfl (p_pickF rfl rfl) ?_
  refine wl_nil ?_
  refine x_seq ?_
  refine wc_no rfl (rfl) ?_
  refine wc_skip ?_
  refine x_seq ?_
  refine wc_seq ?_
  refine wc_region ?_
  refine wl rfl rfl rfl (p_mv rfl) ?_
  refine wl rfl rfl rfl (p_nck rfl) ?_
  refine wl rfl rfl rfl (p_fld (j := 0) Tryd.underlying41 rfl ⟨_, by rfl⟩ rfl rfl) ?_
  refine wl rfl rfl rfl (p_ld Tryd.underlying39 rfl rfl (ld (cell_at (p := []) (v := (ndp gn : Value)) (r := ([.bool true] : List Value)) hbg (by simp only [List.append_assoc, List.cons_append, List.nil_append, List.append_nil]) (by first | rfl | (simp only [List.length_append, List.length_map, List.length_cons, List.length_nil]; done) | (simp only [List.length_append, List.length_map, List.length_cons, List.length_nil, List.size_toArray]; done))))) ?_
  refine wl rfl rfl rfl (p_nck rfl) ?_
  refine wl rfl rfl rfl (p_fld (j := 67) Tryd.underlying156 rfl ⟨_, by rfl⟩ rfl rfl) ?_
  refine wl rfl rfl rfl (p_ld Tryd.underlying3 rfl rfl (ld (cell_at (p := (([i64 (t.er.bit : Int), p, q] ++ ((List.map u8v t.er.key) ++ (List.map u8v v0))) : List Value)) (v := (i64 (t.er.cnt : Int) : Value)) (r := (([.int .u32 (d0 : Int), .int .i32 ((0 : Nat) : Int), .int .u32 0] ++ (List.map u8v h0)) : List Value)) hbn (by simp only [List.append_assoc, List.cons_append, List.nil_append, List.append_nil]) (by first | rfl | (simp only [List.length_append, List.length_map, List.length_cons, List.length_nil, (show List.length t.er.key = 32 from hkn), (show List.length v0 = 32 from hvn)]; done) | (simp only [List.length_append, List.length_map, List.length_cons, List.length_nil, List.size_toArray, (show List.length t.er.key = 32 from hkn), (show List.length v0 = 32 from hvn)]; done))))) ?_
  refine wl rfl rfl rfl (p_as rfl) ?_
  refine wl_nil ?_
  refine x_seq ?_
  refine wc_ret ?_
  refine fin_run ((res1 rfl rfl)) ?_
  exact ⟨rfl, HC⟩

theorem tlen_made {w : World} {v : Value} {o : Option LT} {F : Nat → Prop} (hV : TR 41 156 F w v o) : Calls Tryd.prog 43 #[v] w fun e w' => e = .returned (i64 (cntT (eo o) : Int)) ∧ Ch No w w' := by
  obtain ⟨g, rfl, hFg, hbg, hT⟩ := hV.opn
  cases o with
  | none => exact tlen_none hbg
  | some t => exact tlen_some hbg (hT t rfl).1

def EachOK (t : LT) : Prop := ∀ {w : World} {m yl : Nat} {D : List (H8 × H8) → H8 × H8 → Prop} {J Jx : List (H8 × H8) → World → Prop} {pre : List (H8 × H8)}, (∀ xs A, J xs A → LAt 156 A t) → (∀ xs A B, J xs A → Ch No A B → J xs B) → (∀ xs A B, Jx xs A → Ch No A B → Jx xs B) → (∀ p x q, t.er.items = p ++ x :: q → D (pre ++ p) x) →
    (∀ pre x Wq, D pre x → J pre Wq → YieldAt Fence.wide m Tryd.prog yl ((fun x : List UInt8 × List UInt8 => #[hv x.1, hv x.2]) x) Wq fun ed W' => (ed = .returned (.bool true) ∧ J (pre ++ [x]) W') ∨ (ed = .returned (.bool false) ∧ Jx (pre ++ [x]) W')) → J pre w → Calls Tryd.prog 98 #[ndp t.adr, .func (.yield yl) #[] #[]] w fun e w' => (e = .returned (.bool true) ∧ J (pre ++ t.er.items) w') ∨ (e = .returned (.bool false) ∧ ∃ q, Jx q w')

set_option maxHeartbeats 1000000 in
set_option maxRecDepth 20000 in
theorem each_leaf {w : World} {m yl : Nat} {D : List (H8 × H8) → H8 × H8 → Prop} {J Jx : List (H8 × H8) → World → Prop} {pre : List (H8 × H8)} {g0 : Nat} {k0 v0 : List UInt8} (hX : ∀ xs A, J xs A → LAt 156 A (.leaf g0 k0 v0)) (hJ : ∀ xs A B, J xs A → Ch No A B → J xs B) (hJx : ∀ xs A B, Jx xs A → Ch No A B → Jx xs B) (hD : ∀ p x q, (Tr.leaf k0 v0).items = p ++ x :: q → D (pre ++ p) x) (hY : ∀ pre x Wq, D pre x → J pre Wq → YieldAt Fence.wide m Tryd.prog yl ((fun x : List UInt8 × List UInt8 => #[hv x.1, hv x.2]) x) Wq fun ed W' => (ed = .returned (.bool true) ∧ J (pre ++ [x]) W') ∨ (ed = .returned (.bool false) ∧ Jx (pre ++ [x]) W')) (hJ0 : J pre w) :
    Calls Tryd.prog 98 #[ndp g0, .func (.yield yl) #[] #[]] w fun e w' => (e = .returned (.bool true) ∧ J (pre ++ (Tr.leaf k0 v0).items) w') ∨ (e = .returned (.bool false) ∧ ∃ q, Jx q w') := by
  have hJp := hJ0
  obtain ⟨hk0, hv0, d0, h0, ⟨hh0, hO0⟩, hb0⟩ := id (hX _ _ hJp)
  have hb0 : Blk w g0 156 (([i64 ((256 : Nat) : Int), .pointer none, .pointer none] ++ ((List.map u8v k0) ++ ((List.map u8v v0) ++ ([i64 ((1 : Nat) : Int), .int .u32 (d0 : Int), .int .i32 ((0 : Nat) : Int), .int .u32 0] ++ (List.map u8v h0))))) : List Value).toArray := hb0
  have HC : Ch No w w := Ch.refl _ _
  refine enter' (args := [ndp g0, .func (.yield yl) #[] #[]]) (n := 38) Tryd.func98 rfl rfl rfl ?_
  refine wc_seq ?_
  refine wc_region ?_
  refine wl rfl rfl rfl (p_as rfl) ?_
  refine wl_nil ?_
  refine x_seq ?_
  refine wc_seq ?_
  refine wc_seq ?_
  refine wc_region ?_
  refine wl rfl rfl rfl (p_mv rfl) ?_
  refine wl rfl rfl rfl (p_eqPN rfl rfl Tryd.underlying39) ?_
  refine wl_nil ?_
  refine x_seq ?_
  refine wc_no rfl (rfl) ?_
  refine wc_skip ?_
  refine x_seq ?_
  refine wc_seq ?_
  refine wc_seq ?_
  refine wc_region ?_
  refine wl rfl rfl rfl (p_mv rfl) ?_
  refine wl rfl rfl rfl (p_nck rfl) ?_
  refine wl rfl rfl rfl (p_fld (j := 0) Tryd.underlying156 rfl ⟨_, by rfl⟩ rfl rfl) ?_
  refine wl rfl rfl rfl (p_ld Tryd.underlying3 rfl rfl (ld (cell_at (p := []) (v := (i64 ((256 : Nat) : Int) : Value)) (r := (([.pointer none, .pointer none] ++ ((List.map u8v k0) ++ ((List.map u8v v0) ++ ([i64 ((1 : Nat) : Int), .int .u32 (d0 : Int), .int .i32 ((0 : Nat) : Int), .int .u32 0] ++ (List.map u8v h0))))) : List Value)) hb0 (by simp only [List.append_assoc, List.cons_append, List.nil_append, List.append_nil]) (by first | rfl | (simp only [List.length_append, List.length_map, List.length_cons, List.length_nil]; done) | (simp only [List.length_append, List.length_map, List.length_cons, List.length_nil, List.size_toArray]; done))))) ?_
  refine wl rfl rfl rfl (p_eq rfl rfl) ?_
  refine wl_nil ?_
  refine x_seq ?_
  refine wc_yes rfl (rfl) ?_
  refine wc_seq ?_
  have hbd := hb0.ch (Ch.drew w) (fun h => h)
  refine wc_pureY (m := m + 1) 9 [12, 13, 14, 15, 16, 17, 18, 19, 20] (fun i => [[], [], [1], [2], [3], [], [5], [6], [7]].getD i []) (fun i => [.func (.yield yl) #[] #[], ndp g0, ndp g0, .pointer (some ⟨g0, 0 + 3, none⟩), hv k0, ndp g0, ndp g0, .pointer (some ⟨g0, 0 + 35, none⟩), hv v0].getD i undef) [(12, .func (.yield yl) #[] #[]), (16, hv k0), (20, hv v0)] (by kernel_rfl) rfl rfl rfl rfl rfl rfl rfl rfl (by kernel_rfl) ⟨p_mv rfl, p_mv rfl, p_nck rfl, p_fld (j := 3) Tryd.underlying156 rfl ⟨_, by rfl⟩ rfl rfl, p_ldA (cs := List.map u8v k0) Tryd.underlying38 rfl (szL sz38 (by first | rfl | (simp only [List.length_append, List.length_map, List.length_cons, List.length_nil, (show List.length k0 = 32 from hk0)]; done) | (simp only [List.length_append, List.length_map, List.length_cons, List.length_nil, List.size_toArray, (show List.length k0 = 32 from hk0)]; done))) rfl (fun _ e => e ▸ rng_at (p := ([i64 ((256 : Nat) : Int), .pointer none, .pointer none] : List Value)) (q := List.map u8v k0) (r := (((List.map u8v v0) ++ ([i64 ((1 : Nat) : Int), .int .u32 (d0 : Int), .int .i32 ((0 : Nat) : Int), .int .u32 0] ++ (List.map u8v h0))) : List Value)) hbd (by simp only [List.append_assoc, List.cons_append, List.nil_append, List.append_nil]) (by first | rfl | (simp only [List.length_append, List.length_map, List.length_cons, List.length_nil]; done) | (simp only [List.length_append, List.length_map, List.length_cons, List.length_nil, List.size_toArray]; done))), p_mv rfl, p_nck rfl, p_fld (j := 35) Tryd.underlying156 rfl ⟨_, by rfl⟩ rfl rfl, p_ldA (cs := List.map u8v v0) Tryd.underlying38 rfl (szL sz38 (by first | rfl | (simp only [List.length_append, List.length_map, List.length_cons, List.length_nil, (show List.length v0 = 32 from hv0)]; done) | (simp only [List.length_append, List.length_map, List.length_cons, List.length_nil, List.size_toArray, (show List.length v0 = 32 from hv0)]; done))) rfl (fun _ e => e ▸ rng_at (p := (([i64 ((256 : Nat) : Int), .pointer none, .pointer none] ++ (List.map u8v k0)) : List Value)) (q := List.map u8v v0) (r := (([i64 ((1 : Nat) : Int), .int .u32 (d0 : Int), .int .i32 ((0 : Nat) : Int), .int .u32 0] ++ (List.map u8v h0)) : List Value)) hbd (by simp only [List.append_assoc, List.cons_append, List.nil_append, List.append_nil]) (by first | rfl | (simp only [List.length_append, List.length_map, List.length_cons, List.length_nil, (show List.length k0 = 32 from hk0)]; done) | (simp only [List.length_append, List.length_map, List.length_cons, List.length_nil, List.size_toArray, (show List.length k0 = 32 from hk0)]; done))), trivial⟩ ⟨rfl, rfl, rfl, trivial⟩ ?_
  refine wli_yield (fun _ _ => rfl) rfl rfl rfl (hY pre (k0, v0) _ (by have h := hD [] (k0, v0) [] rfl; rwa [List.append_nil] at h) (hJ _ _ _ hJp (Ch.drew _))) (by repeat (first | exact no_body (fun _ h => by rcases h with h | h <;> cases h.1) | with_reducible apply no_then | with_reducible apply no_in)) ?_
  rintro _ w' (⟨rfl, hJp⟩ | ⟨rfl, hJq⟩)
  ·
    refine ⟨_, rfl, ?_⟩
    refine wli rfl rfl rfl (p_as rfl) ?_
    refine wli_nil ?_
    refine x_seq ?_
    refine wc_ret ?_
    refine x_then_ret ?_
    refine fin_run ((res1 rfl rfl)) ?_
    exact .inl ⟨rfl, hJp⟩
  ·
    refine ⟨_, rfl, ?_⟩
    refine wli rfl rfl rfl (p_as rfl) ?_
    refine wli_nil ?_
    refine x_seq ?_
    refine wc_ret ?_
    refine x_then_ret ?_
    refine fin_run ((res1 rfl rfl)) ?_
    exact .inr ⟨rfl, _, hJq⟩

set_option maxHeartbeats 1000000 in
set_option maxRecDepth 20000 in
theorem each_fork {w : World} {m yl : Nat} {D : List (H8 × H8) → H8 × H8 → Prop} {J Jx : List (H8 × H8) → World → Prop} {pre : List (H8 × H8)} {g0 b : Nat} {x y : LT} (IHx : EachOK x) (IHy : EachOK y) (hX : ∀ xs A, J xs A → LAt 156 A (.fork g0 b x y)) (hJ : ∀ xs A B, J xs A → Ch No A B → J xs B) (hJx : ∀ xs A B, Jx xs A → Ch No A B → Jx xs B) (hD : ∀ p x1 q, (Tr.fork b x.er y.er).items = p ++ x1 :: q → D (pre ++ p) x1) (hY : ∀ pre x Wq, D pre x → J pre Wq → YieldAt Fence.wide m Tryd.prog yl ((fun x : List UInt8 × List UInt8 => #[hv x.1, hv x.2]) x) Wq fun ed W' => (ed = .returned (.bool true) ∧ J (pre ++ [x]) W') ∨ (ed = .returned (.bool false) ∧ Jx (pre ++ [x]) W')) (hJ0 : J pre w) :
    Calls Tryd.prog 98 #[ndp g0, .func (.yield yl) #[] #[]] w fun e w' => (e = .returned (.bool true) ∧ J (pre ++ (Tr.fork b x.er y.er).items) w') ∨ (e = .returned (.bool false) ∧ ∃ q, Jx q w') := by
  have hJp := hJ0
  obtain ⟨⟨hb256, hcn0, hk0, d0, h0, ⟨hh0, hO0⟩, hb0⟩, hXx, hXy⟩ := id (hX _ _ hJp)
  have hb0 : Blk w g0 156 (([i64 (b : Int), ndp x.adr, ndp y.adr] ++ ((List.map u8v x.er.key) ++ ((List.map u8v zeroH) ++ ([i64 ((x.er.cnt + y.er.cnt : Nat) : Int), .int .u32 (d0 : Int), .int .i32 ((0 : Nat) : Int), .int .u32 0] ++ (List.map u8v h0))))) : List Value).toArray := hb0
  have HC : Ch No w w := Ch.refl _ _
  refine enter' (args := [ndp g0, .func (.yield yl) #[] #[]]) (n := 38) Tryd.func98 rfl rfl rfl ?_
  refine wc_seq ?_
  refine wc_region ?_
  refine wl rfl rfl rfl (p_as rfl) ?_
  refine wl_nil ?_
  refine x_seq ?_
  refine wc_seq ?_
  refine wc_seq ?_
  refine wc_region ?_
  refine wl rfl rfl rfl (p_mv rfl) ?_
  refine wl rfl rfl rfl (p_eqPN rfl rfl Tryd.underlying39) ?_
  refine wl_nil ?_
  refine x_seq ?_
  refine wc_no rfl (rfl) ?_
  refine wc_skip ?_
  refine x_seq ?_
  refine wc_seq ?_
  refine wc_seq ?_
  refine wc_region ?_
  refine wl rfl rfl rfl (p_mv rfl) ?_
  refine wl rfl rfl rfl (p_nck rfl) ?_
  refine wl rfl rfl rfl (p_fld (j := 0) Tryd.underlying156 rfl ⟨_, by rfl⟩ rfl rfl) ?_
  refine wl rfl rfl rfl (p_ld Tryd.underlying3 rfl rfl (ld (cell_at (p := []) (v := (i64 (b : Int) : Value)) (r := (([ndp x.adr, ndp y.adr] ++ ((List.map u8v x.er.key) ++ ((List.map u8v zeroH) ++ ([i64 ((x.er.cnt + y.er.cnt : Nat) : Int), .int .u32 (d0 : Int), .int .i32 ((0 : Nat) : Int), .int .u32 0] ++ (List.map u8v h0))))) : List Value)) hb0 (by simp only [List.append_assoc, List.cons_append, List.nil_append, List.append_nil]) (by first | rfl | (simp only [List.length_append, List.length_map, List.length_cons, List.length_nil]; done) | (simp only [List.length_append, List.length_map, List.length_cons, List.length_nil, List.size_toArray]; done))))) ?_
  refine wl rfl rfl rfl (p_eq rfl rfl) ?_
  refine wl_nil ?_
  refine x_seq ?_
  refine wc_no rfl (decide_eq_false (by omega)) ?_
  refine wc_skip ?_
  refine x_seq ?_
  refine wc_seq ?_
  refine wc_region ?_
  refine wl rfl rfl rfl (p_mv rfl) ?_
  refine wl rfl rfl rfl (p_nck rfl) ?_
  refine wl rfl rfl rfl (p_fld (j := 1) Tryd.underlying156 rfl ⟨_, by rfl⟩ rfl rfl) ?_
  refine wl rfl rfl rfl (p_ixA (j := 0) Tryd.underlying142 sz39 rfl rfl (by omega) (by omega) rfl) ?_
  refine wl rfl rfl rfl (p_ld Tryd.underlying39 rfl rfl (ld (cell_at (p := ([i64 (b : Int)] : List Value)) (v := (ndp x.adr : Value)) (r := (([ndp y.adr] ++ ((List.map u8v x.er.key) ++ ((List.map u8v zeroH) ++ ([i64 ((x.er.cnt + y.er.cnt : Nat) : Int), .int .u32 (d0 : Int), .int .i32 ((0 : Nat) : Int), .int .u32 0] ++ (List.map u8v h0))))) : List Value)) hb0 (by simp only [List.append_assoc, List.cons_append, List.nil_append, List.append_nil]) (by first | rfl | (simp only [List.length_append, List.length_map, List.length_cons, List.length_nil]; done) | (simp only [List.length_append, List.length_map, List.length_cons, List.length_nil, List.size_toArray]; done))))) ?_
  refine wl rfl rfl rfl (p_mv rfl) ?_
  refine wle rfl (e_call ent98 rfl rfl (IHx (pre := pre) (fun xs A h => (hX xs A h).2.1) hJ hJx (fun p x1 q h => hD p x1 (q ++ y.er.items) (by show x.er.items ++ y.er.items = _; rw [h]; simp)) hY hJp) ?_)
  rintro _ w2 (⟨rfl, hJp⟩ | ⟨rfl, q, hJq⟩)
  ·
    refine ⟨_, rfl, ?_⟩
    obtain ⟨⟨hb256, hcn0, hk0, d0, h0, ⟨hh0, hO0⟩, hb0⟩, hXx, hXy⟩ := id (hX _ _ hJp)
    have hb0 : Blk w2 g0 156 (([i64 (b : Int), ndp x.adr, ndp y.adr] ++ ((List.map u8v x.er.key) ++ ((List.map u8v zeroH) ++ ([i64 ((x.er.cnt + y.er.cnt : Nat) : Int), .int .u32 (d0 : Int), .int .i32 ((0 : Nat) : Int), .int .u32 0] ++ (List.map u8v h0))))) : List Value).toArray := hb0
    refine wl rfl rfl rfl (p_mv rfl) ?_
    refine wl_g (gd_ rfl rfl rfl rfl rfl rfl) rfl rfl (p_mv rfl) ?_
    refine wl_g (gd_ rfl rfl rfl rfl rfl rfl) rfl rfl (p_nck rfl) ?_
    refine wl_g (gd_ rfl rfl rfl rfl rfl rfl) rfl rfl (p_fld (j := 1) Tryd.underlying156 rfl ⟨_, by rfl⟩ rfl rfl) ?_
    refine wl_g (gd_ rfl rfl rfl rfl rfl rfl) rfl rfl (p_ixA (j := 1) Tryd.underlying142 sz39 rfl rfl (by omega) (by omega) rfl) ?_
    refine wl_g (gd_ rfl rfl rfl rfl rfl rfl) rfl rfl (p_ld Tryd.underlying39 rfl rfl (ld (cell_at (p := ([i64 (b : Int), ndp x.adr] : List Value)) (v := (ndp y.adr : Value)) (r := (((List.map u8v x.er.key) ++ ((List.map u8v zeroH) ++ ([i64 ((x.er.cnt + y.er.cnt : Nat) : Int), .int .u32 (d0 : Int), .int .i32 ((0 : Nat) : Int), .int .u32 0] ++ (List.map u8v h0)))) : List Value)) hb0 (by simp only [List.append_assoc, List.cons_append, List.nil_append, List.append_nil]) (by first | rfl | (simp only [List.length_append, List.length_map, List.length_cons, List.length_nil]; done) | (simp only [List.length_append, List.length_map, List.length_cons, List.length_nil, List.size_toArray]; done))))) ?_
    refine wl_g (gd_ rfl rfl rfl rfl rfl rfl) rfl rfl (p_mv rfl) ?_
    refine wle_g (gd_ rfl rfl rfl rfl rfl rfl) (e_call ent98 rfl rfl (IHy (pre := (pre ++ x.er.items)) (fun xs A h => (hX xs A h).2.2) hJ hJx (fun p x1 q h => by have h2 := hD (x.er.items ++ p) x1 q (by show x.er.items ++ y.er.items = _; rw [h]; simp); rwa [← List.append_assoc] at h2) hY hJp) ?_)
    rintro _ w4 (⟨rfl, hJp⟩ | ⟨rfl, q, hJq⟩)
    ·
      refine ⟨_, rfl, ?_⟩
      obtain ⟨⟨hb256, hcn0, hk0, d0, h0, ⟨hh0, hO0⟩, hb0⟩, hXx, hXy⟩ := id (hX _ _ hJp)
      have hb0 : Blk w4 g0 156 (([i64 (b : Int), ndp x.adr, ndp y.adr] ++ ((List.map u8v x.er.key) ++ ((List.map u8v zeroH) ++ ([i64 ((x.er.cnt + y.er.cnt : Nat) : Int), .int .u32 (d0 : Int), .int .i32 ((0 : Nat) : Int), .int .u32 0] ++ (List.map u8v h0))))) : List Value).toArray := hb0
      refine wl rfl rfl rfl (p_pickT rfl rfl) ?_
      refine wl rfl rfl rfl (p_as rfl) ?_
      refine wl_nil ?_
      refine x_seq ?_
      refine wc_ret ?_
      refine fin_run ((res1 rfl rfl)) ?_
      exact .inl ⟨rfl, by show J (pre ++ (x.er.items ++ y.er.items)) _; rw [← List.append_assoc]; exact hJp⟩
    ·
      refine ⟨_, rfl, ?_⟩
      refine wl rfl rfl rfl (p_pickT rfl rfl) ?_
      refine wl rfl rfl rfl (p_as rfl) ?_
      refine wl_nil ?_
      refine x_seq ?_
      refine wc_ret ?_
      refine fin_run ((res1 rfl rfl)) ?_
      exact .inr ⟨rfl, q, hJq⟩
  ·
    refine ⟨_, rfl, ?_⟩
    refine wl rfl rfl rfl (p_mv rfl) ?_
    refine wl_s (gd_ rfl rfl rfl rfl rfl rfl) rfl rfl ?_
    refine wl_s (gd_ rfl rfl rfl rfl rfl rfl) rfl rfl ?_
    refine wl_s (gd_ rfl rfl rfl rfl rfl rfl) rfl rfl ?_
    refine wl_s (gd_ rfl rfl rfl rfl rfl rfl) rfl rfl ?_
    refine wl_s (gd_ rfl rfl rfl rfl rfl rfl) rfl rfl ?_
    refine wl_s (gd_ rfl rfl rfl rfl rfl rfl) rfl rfl ?_
    refine wl_s (gd_ rfl rfl rfl rfl rfl rfl) rfl rfl ?_
    refine wl rfl rfl rfl (p_pickF rfl rfl) ?_
    refine wl rfl rfl rfl (p_as rfl) ?_
    refine wl_nil ?_
    refine x_seq ?_
    refine wc_ret ?_
    refine fin_run ((res1 rfl rfl)) ?_
    exact .inr ⟨rfl, q, hJq⟩

theorem each_any : ∀ t : LT, EachOK t
  | .leaf g k v => fun hX hJ hJx hD hY hJ0 => each_leaf hX hJ hJx hD hY hJ0
  | .fork g b x y => fun hX hJ hJx hD hY hJ0 => each_fork (each_any x) (each_any y) hX hJ hJx hD hY hJ0

set_option maxHeartbeats 1000000 in
set_option maxRecDepth 20000 in
theorem each_nil {w : World} {yl : Nat}  :
    Calls Tryd.prog 98 #[.pointer none, .func (.yield yl) #[] #[]] w fun e w' => e = .returned (.bool true) ∧ Ch No w w' := by
  have HC : Ch No w w := Ch.refl _ _
  refine enter' (args := [.pointer none, .func (.yield yl) #[] #[]]) (n := 38) Tryd.func98 rfl rfl rfl ?_
  refine wc_seq ?_
  refine wc_region ?_
  refine wl rfl rfl rfl (p_as rfl) ?_
  refine wl_nil ?_
  refine x_seq ?_
  refine wc_seq ?_
  refine wc_seq ?_
  refine wc_region ?_
  refine wl rfl rfl rfl (p_mv rfl) ?_
  refine wl rfl rfl rfl (p_eqPN rfl rfl Tryd.underlying39) ?_
  refine wl_nil ?_
  refine x_seq ?_
  refine wc_yes rfl (rfl) ?_
  refine wc_seq ?_
  refine wc_region ?_
  refine wl rfl rfl rfl (p_as rfl) ?_
  refine wl_nil ?_
  refine x_seq ?_
  refine wc_ret ?_
  refine x_then_ret ?_
  refine fin_run ((res1 rfl rfl)) ?_
  exact ⟨rfl, HC⟩

set_option maxHeartbeats 1000000 in
set_option maxRecDepth 20000 in
theorem lives11_any {w : World}  (hrnd : Sl w (fun k => k = 0) u32v (some ⟨0, 0, none⟩) 64 64 rk) :
    Calls Tryd.prog 40 #[] w fun e w' => e = .returned (.bool true) ∧ Ch No w w' := by
  have hn0 : 0 < w.heap.size := hrnd.size (by omega) rfl
  have hn1 := hn0
  have HC : Ch No w w := Ch.refl _ _
  refine enter' (args := []) (n := 29) Tryd.func40 rfl rfl rfl ?_
  refine wc_seq ?_
  refine wc_region ?_
  refine wl rfl rfl rfl (p_as rfl) ?_
  refine wl_nil ?_
  refine x_seq ?_
  refine wc_seq ?_
  refine wc_region ?_
  refine wle rfl (e_alloc (cs := ((List.replicate 32 (0 : UInt8)).map u8v).toArray) rfl (by rfl) rfl (fun w1 g1 hg1 hb1 hc hsz1 => ?_))
  have hzw1 := hc.size
  have HC := HC.tr hc
  have hrnd := hrnd.no hc
  have hge1 : w.heap.size ≤ g1 := by have := HC.size; omega
  have hltg1 := hb1.lt
  refine wle rfl (e_alloc (cs := ((List.replicate 32 (0 : UInt8)).map u8v).toArray) rfl (by rfl) rfl (fun w2 g2 hg2 hb2 hc hsz2 => ?_))
  have hzw2 := hc.size
  have HC := HC.tr hc
  have hrnd := hrnd.no hc
  have hb1 := hb1.ch hc (fun h => h)
  have hge2 : w.heap.size ≤ g2 := by have := HC.size; omega
  have neg1_2 : g1 < g2 := by omega
  have hltg1 := hb1.lt
  have hltg2 := hb2.lt
  refine wle rfl (e_alloc (cs := ((List.replicate 32 (0 : UInt8)).map u8v).toArray) rfl (by rfl) rfl (fun w3 g3 hg3 hb3 hc hsz3 => ?_))
  have hzw3 := hc.size
  have HC := HC.tr hc
  have hrnd := hrnd.no hc
  have hb1 := hb1.ch hc (fun h => h)
  have hb2 := hb2.ch hc (fun h => h)
  have hge3 : w.heap.size ≤ g3 := by have := HC.size; omega
  have neg1_3 : g1 < g3 := by omega
  have neg2_3 : g2 < g3 := by omega
  refine wl_nil ?_
  refine x_seq ?_
  refine wc_seq ?_
  refine wc_region ?_
  refine wl rfl rfl rfl (p_ixA1 (j := 0) Tryd.underlying38 sz5 rfl rfl (by omega) (by omega) rfl) ?_
  refine wle rfl (e_stL (x := 1) one_u8 (by rfl) rfl rfl hb1 (by first | (simp; done) | (simp; omega) | omega) (fun w5 hb1 hc hsz => ?_))
  have hzw5 := hc.size
  have HC := HC.trans hc (fun _ _ h => h) (fun k hk ht => absurd ht (by omega))
  first | have hrnd := hrnd.ch hc (by intro k hk ht; first | omega | (dsimp only at *; omega)) | have hrnd := hrnd.chT hc (by intro k hz hk ht; first | omega | (dsimp only at *; omega))
  have hb2 := hb2.ch hc (by omega)
  have hb3 := hb3.ch hc (by omega)
  have hb1 : Blk w5 g1 38 (List.map u8v ((List.replicate 32 (0 : UInt8)).set 0 1)).toArray := hb1
  refine wl rfl rfl rfl (p_ixA1 (j := 5) Tryd.underlying38 sz5 rfl rfl (by omega) (by omega) rfl) ?_
  refine wle rfl (e_stL (x := 1) one_u8 (by rfl) rfl rfl hb2 (by first | (simp; done) | (simp; omega) | omega) (fun w7 hb2 hc hsz => ?_))
  have hzw7 := hc.size
  have HC := HC.trans hc (fun _ _ h => h) (fun k hk ht => absurd ht (by omega))
  first | have hrnd := hrnd.ch hc (by intro k hk ht; first | omega | (dsimp only at *; omega)) | have hrnd := hrnd.chT hc (by intro k hz hk ht; first | omega | (dsimp only at *; omega))
  have hb1 := hb1.ch hc (by omega)
  have hb3 := hb3.ch hc (by omega)
  have hb2 : Blk w7 g2 38 (List.map u8v ((List.replicate 32 (0 : UInt8)).set 5 1)).toArray := hb2
  refine wl_nil ?_
  refine x_seq ?_
  refine wc_seq ?_
  refine wc_draw (.st 1 1 (.st 2 1 (.st 4 1 (.st 5 1 (.st 7 1 (.st 0 2 (.st 3 2 (.st 6 2 (.st 8 2 (.st 9 0 .nil)))))))))) 10 (by kernel_rfl) (by kernel_rfl) (by kernel_rfl) (by repeat (first | with_reducible exact pan_body | with_reducible apply pan_then | with_reducible apply pan_in)) (fun x => Ch No w7.drew x) (Ch.refl _ _) ?_
  obtain ⟨w8, ew8⟩ : ∃ x, x = w7.drew := ⟨_, rfl⟩
  rw [← ew8]
  have hc : Ch No w7 w8 := by rw [ew8]; exact Ch.drew _
  have hszw8 : w8.heap.size = w7.heap.size := by rw [ew8]; rfl
  clear ew8
  have hzw8 := hc.size
  have HC := HC.tr hc
  have hrnd := hrnd.no hc
  have hb1 := hb1.ch hc (fun h => h)
  have hb2 := hb2.ch hc (fun h => h)
  have hb3 := hb3.ch hc (fun h => h)
  have hS : Ch No w8 w8 := Ch.refl _ _
  refine ws_h rfl rfl rfl rfl (p_ldA (cs := List.map u8v ((List.replicate 32 (0 : UInt8)).set 0 1)) Tryd.underlying38 rfl (szL sz38 (by rw [List.length_map]; exact ((List.length_set ..).trans (List.length_replicate ..)))) rfl (fun _ h => (rngL (hb1.ch h (fun h => h))))) ?_
  refine ws_h rfl rfl rfl rfl (p_ldA (cs := List.map u8v (List.replicate 32 (0 : UInt8))) Tryd.underlying38 rfl (szL sz38 (by rw [List.length_map]; exact (List.length_replicate ..))) rfl (fun _ h => (rngL (hb3.ch h (fun h => h))))) ?_
  refine ws_h rfl rfl rfl rfl (p_ldA (cs := List.map u8v ((List.replicate 32 (0 : UInt8)).set 5 1)) Tryd.underlying38 rfl (szL sz38 (by rw [List.length_map]; exact ((List.length_set ..).trans (List.length_replicate ..)))) rfl (fun _ h => (rngL (hb2.ch h (fun h => h))))) ?_
  refine ws_h rfl rfl rfl rfl (p_ldA (cs := List.map u8v (List.replicate 32 (0 : UInt8))) Tryd.underlying38 rfl (szL sz38 (by rw [List.length_map]; exact (List.length_replicate ..))) rfl (fun _ h => (rngL (hb3.ch h (fun h => h))))) ?_
  refine ws_h rfl rfl rfl rfl (p_ldA (cs := List.map u8v ((List.replicate 32 (0 : UInt8)).set 5 1)) Tryd.underlying38 rfl (szL sz38 (by rw [List.length_map]; exact ((List.length_set ..).trans (List.length_replicate ..)))) rfl (fun _ h => (rngL (hb2.ch h (fun h => h))))) ?_
  refine ws_e rfl rfl (e_call ent51 rfl rfl (new_any) ?_)
  rintro _ w9 ⟨v7, rfl, hV7, hc⟩
  refine ⟨_, rfl, hc, ?_⟩
  have hzw9 := hc.size
  have HC := HC.tr hc
  have hrnd := hrnd.no hc
  have hb1 := hb1.ch hc (fun h => h)
  have hb2 := hb2.ch hc (fun h => h)
  have hb3 := hb3.ch hc (fun h => h)
  have hV7 := hV7.mono (G := fun k => w8.heap.size ≤ k ∧ k < w9.heap.size) (fun k h1 h2 => ⟨h2, h1⟩)
  refine ws_narrow (S' := fun x => Ch No w9 x) (Ch.refl _ _) (fun x h => hc.tr h) ?_
  refine ws_e rfl rfl (e_call ent44 rfl rfl (tput_made (F := fun k => w.heap.size ≤ k) (hV7.mono (fun k _ h => by first | exact h.1 | (have h2 := h.1; show w.heap.size ≤ k; omega))) (fun j hj => by show w.heap.size ≤ j; omega) (((List.length_set ..).trans (List.length_replicate ..))) ((List.length_replicate ..)) (by show 0 + 1 ≤ _; omega)) ?_)
  rintro _ w10 ⟨v10, t10, rfl, hV10, heq10, hc⟩
  refine ⟨_, rfl, hc, ?_⟩
  have hzw10 := hc.size
  have HC := HC.tr hc
  have hrnd := hrnd.no hc
  have hb1 := hb1.ch hc (fun h => h)
  have hb2 := hb2.ch hc (fun h => h)
  have hb3 := hb3.ch hc (fun h => h)
  have hV7 := hV7.ch hc (by first | exact fun _ _ _ h => h | (intro k hk hF ht; have h2 := hF.1; have h3 := hF.2; first | omega | (dsimp only at *; omega)))
  have hV10 := hV10.mono (G := fun k => w.heap.size ≤ k ∧ k < w10.heap.size) (fun k h1 h2 => ⟨by first | exact h2 | exact h2.1 | ((try dsimp only at h2); omega), h1⟩)
  refine ws_narrow (S' := fun x => Ch No w10 x) (Ch.refl _ _) (fun x h => hc.tr h) ?_
  refine ws_e rfl rfl (e_call ent44 rfl rfl (tput_made (F := fun k => w.heap.size ≤ k) (hV10.mono (fun k _ h => by first | exact h.1 | (have h2 := h.1; show w.heap.size ≤ k; omega))) (fun j hj => by show w.heap.size ≤ j; omega) (((List.length_set ..).trans (List.length_replicate ..))) ((List.length_replicate ..)) (by rw [heq10]; exact Nat.le_trans (Nat.succ_le_succ putT_cnt) (by show 0 + 1 + 1 ≤ _; omega))) ?_)
  rintro _ w11 ⟨v13, t13, rfl, hV13, heq13, hc⟩
  refine ⟨_, rfl, hc, ?_⟩
  have hzw11 := hc.size
  have HC := HC.tr hc
  have hrnd := hrnd.no hc
  have hb1 := hb1.ch hc (fun h => h)
  have hb2 := hb2.ch hc (fun h => h)
  have hb3 := hb3.ch hc (fun h => h)
  have hV7 := hV7.ch hc (by first | exact fun _ _ _ h => h | (intro k hk hF ht; have h2 := hF.1; have h3 := hF.2; first | omega | (dsimp only at *; omega)))
  have hV10 := hV10.ch hc (by first | exact fun _ _ _ h => h | (intro k hk hF ht; have h2 := hF.1; have h3 := hF.2; first | omega | (dsimp only at *; omega)))
  have hV13 := hV13.mono (G := fun k => w.heap.size ≤ k ∧ k < w11.heap.size) (fun k h1 h2 => ⟨by first | exact h2 | exact h2.1 | ((try dsimp only at h2); omega), h1⟩)
  refine ws_narrow (S' := fun x => Ch No w11 x) (Ch.refl _ _) (fun x h => hc.tr h) ?_
  refine ws_e rfl rfl (e_call ent45 rfl rfl (tdrop_made (F := fun k => w.heap.size ≤ k) (hV13.mono (fun k _ h => by first | exact h.1 | (have h2 := h.1; show w.heap.size ≤ k; omega))) (fun j hj => by show w.heap.size ≤ j; omega) (((List.length_set ..).trans (List.length_replicate ..)))) ?_)
  rintro _ w12 ⟨v15, o15, rfl, hV15, heq15, hc⟩
  refine ⟨_, rfl, hc, ?_⟩
  have hzw12 := hc.size
  have HC := HC.tr hc
  have hrnd := hrnd.no hc
  have hb1 := hb1.ch hc (fun h => h)
  have hb2 := hb2.ch hc (fun h => h)
  have hb3 := hb3.ch hc (fun h => h)
  have hV7 := hV7.ch hc (by first | exact fun _ _ _ h => h | (intro k hk hF ht; have h2 := hF.1; have h3 := hF.2; first | omega | (dsimp only at *; omega)))
  have hV10 := hV10.ch hc (by first | exact fun _ _ _ h => h | (intro k hk hF ht; have h2 := hF.1; have h3 := hF.2; first | omega | (dsimp only at *; omega)))
  have hV13 := hV13.ch hc (by first | exact fun _ _ _ h => h | (intro k hk hF ht; have h2 := hF.1; have h3 := hF.2; first | omega | (dsimp only at *; omega)))
  have hV15 := hV15.mono (G := fun k => w.heap.size ≤ k ∧ k < w12.heap.size) (fun k h1 h2 => ⟨by first | exact h2 | exact h2.1 | ((try dsimp only at h2); omega), h1⟩)
  refine ws_narrow (S' := fun x => Ch No w12 x) (Ch.refl _ _) (fun x h => hc.tr h) ?_
  have hfin : eo o15 = some (.leaf ((List.replicate 32 (0 : UInt8)).set 0 1) zeroH) := by rw [heq15, heq13, heq10]; exact lives11_eq
  refine ws_p rfl rfl rfl rfl (p_as rfl) ?_
  refine ws_n ?_
  refine x_seq ?_
  refine wc_seq ?_
  refine wc_draw (.st 0 0 (.st 2 1 (.st 3 1 (.st 4 0 (.alt (.st 1 2 (.st 5 2 (.st 6 2 (.st 7 0 (.st 8 0 (.st 9 0 (.st 10 2 (.st 11 0 (.st 12 0 (.st 13 0 .nil)))))))))) (.st 5 2 (.st 1 2 (.st 6 2 (.st 7 0 (.st 8 0 (.st 9 0 (.st 10 2 (.st 11 0 (.st 12 0 (.st 13 0 .nil))))))))))))))) 14 (by kernel_rfl) (by kernel_rfl) (by kernel_rfl) (by repeat (first | with_reducible exact pan_body | with_reducible apply pan_then | with_reducible apply pan_in)) (fun z => Ch (fun k => k ∈ adsO o15) w12.drew z) (Ch.refl _ _) ?_
  obtain ⟨w13, ew13⟩ : ∃ x, x = w12.drew := ⟨_, rfl⟩
  rw [← ew13]
  have hc : Ch No w12 w13 := by rw [ew13]; exact Ch.drew _
  have hszw13 : w13.heap.size = w12.heap.size := by rw [ew13]; rfl
  clear ew13
  have hzw13 := hc.size
  have HC := HC.tr hc
  have hrnd := hrnd.no hc
  have hb1 := hb1.ch hc (fun h => h)
  have hb2 := hb2.ch hc (fun h => h)
  have hb3 := hb3.ch hc (fun h => h)
  have hV7 := hV7.ch hc (by first | exact fun _ _ _ h => h | (intro k hk hF ht; have h2 := hF.1; have h3 := hF.2; first | omega | (dsimp only at *; omega)))
  have hV10 := hV10.ch hc (by first | exact fun _ _ _ h => h | (intro k hk hF ht; have h2 := hF.1; have h3 := hF.2; first | omega | (dsimp only at *; omega)))
  have hV13 := hV13.ch hc (by first | exact fun _ _ _ h => h | (intro k hk hF ht; have h2 := hF.1; have h3 := hF.2; first | omega | (dsimp only at *; omega)))
  have hV15 := hV15.ch hc (by first | exact fun _ _ _ h => h | (intro k hk hF ht; have h2 := hF.1; have h3 := hF.2; first | omega | (dsimp only at *; omega)))
  have hS : Ch (fun k => k ∈ adsO o15) w13 w13 := Ch.refl _ _
  have hRBd := hV15.adsB
  refine ws_p rfl rfl rfl rfl (p_mv rfl) ?_
  refine ws_h rfl rfl rfl rfl (p_ldA (cs := List.map u8v ((List.replicate 32 (0 : UInt8)).set 0 1)) Tryd.underlying38 rfl (szL sz38 (by rw [List.length_map]; exact ((List.length_set ..).trans (List.length_replicate ..)))) rfl (fun _ h => (rngL (hb1.ch h (hb1.not_nd hRBd))))) ?_
  refine ws_h rfl rfl rfl rfl (p_ldA (cs := List.map u8v (List.replicate 32 (0 : UInt8))) Tryd.underlying38 rfl (szL sz38 (by rw [List.length_map]; exact (List.length_replicate ..))) rfl (fun _ h => (rngL (hb3.ch h (hb3.not_nd hRBd))))) ?_
  refine ws_p rfl rfl rfl rfl (p_bldX (vs' := [(.agg ((hx ((List.replicate 32 (0 : UInt8)).set 0 1)) : List Value).toArray), (.agg ((hx (List.replicate 32 (0 : UInt8))) : List Value).toArray)]) (cs := (((List.map u8v ((List.replicate 32 (0 : UInt8)).set 0 1)) ++ (List.map u8v (List.replicate 32 (0 : UInt8)))) : List Value)) (cs' := (((hx ((List.replicate 32 (0 : UInt8)).set 0 1)) ++ (hx (List.replicate 32 (0 : UInt8)))) : List Value)) rfl (by simp only [hv, map_hx ((List.length_set ..).trans (List.length_replicate ..)), map_hx (List.length_replicate ..)] <;> rfl) (by simp only [hv, map_hx ((List.length_set ..).trans (List.length_replicate ..)), map_hx (List.length_replicate ..)] <;> rfl) (fun _ => by kernel_rfl)) ?_
  refine ws_alt ?_ ?_
  ·
    refine ws_e rfl rfl (e_call ent46 rfl rfl (troot_made hV15 hrnd) ?_)
    rintro _ w14 ⟨rfl, hc, hFil, hRB, hRF⟩
    refine ⟨_, rfl, (by first | exact hS.tr hc | exact hS.trans hc (fun _ _ h => h) (fun _ _ h => h)), ?_⟩
    have hR0 := hV15.ot.out hrnd (by omega)
    have hRo : ∀ k, k < w.heap.size → k ∈ adsO o15 → False := fun k h1 h2 => absurd (hRF k h2).1 (by omega)
    have hzw14 := hc.size
    have HC := HC.trans hc (fun _ _ h => h) (fun k hk ht => absurd (hRF k ht).1 (by omega))
    have hrnd := hrnd.ch hc (fun k hk ht => hR0 (hk ▸ ht))
    first | have hb1 := hb1.ch hc (hb1.not_nd hRB) | have hb1 := hb1.ch hc (by assumption)
    first | have hb2 := hb2.ch hc (hb2.not_nd hRB) | have hb2 := hb2.ch hc (by assumption)
    first | have hb3 := hb3.ch hc (hb3.not_nd hRB) | have hb3 := hb3.ch hc (by assumption)
    have hV7 := hV7.fil hc hRB hFil
    have hV10 := hV10.fil hc hRB hFil
    have hV13 := hV13.fil hc hRB hFil
    have hV15 := hV15.fil hc hRB hFil
    have hS := (by first | exact hS.tr hc | exact hS.trans hc (fun _ _ h => h) (fun _ _ h => h))
    have hltg1 := hb1.lt
    have hltg2 := hb2.lt
    have hltg3 := hb3.lt
    refine ws_e rfl rfl (e_bslX (E := 81) (cs := (((List.map u8v ((List.replicate 32 (0 : UInt8)).set 0 1)) ++ (List.map u8v (List.replicate 32 (0 : UInt8)))) : List Value)) (cs' := (((hx ((List.replicate 32 (0 : UInt8)).set 0 1)) ++ (hx (List.replicate 32 (0 : UInt8)))) : List Value)) rfl rfl (by simp only [hv, map_hx ((List.length_set ..).trans (List.length_replicate ..)), map_hx (List.length_replicate ..)] <;> rfl) (fun _ => by kernel_rfl) (fun w15 g21 hg21 hb21 hc hsz21 => ⟨(by first | exact hS.tr hc | exact hS.trans hc (fun _ _ h => h) (fun _ _ h => h)), ?_⟩))
    have hzw15 := hc.size
    have HC := HC.tr hc
    have hrnd := hrnd.no hc
    have hb1 := hb1.ch hc (fun h => h)
    have hb2 := hb2.ch hc (fun h => h)
    have hb3 := hb3.ch hc (fun h => h)
    have hV7 := hV7.ch hc (by first | exact fun _ _ _ h => h | (intro k hk hF ht; have h2 := hF.1; have h3 := hF.2; first | omega | (dsimp only at *; omega)))
    have hV10 := hV10.ch hc (by first | exact fun _ _ _ h => h | (intro k hk hF ht; have h2 := hF.1; have h3 := hF.2; first | omega | (dsimp only at *; omega)))
    have hV13 := hV13.ch hc (by first | exact fun _ _ _ h => h | (intro k hk hF ht; have h2 := hF.1; have h3 := hF.2; first | omega | (dsimp only at *; omega)))
    have hV15 := hV15.ch hc (by first | exact fun _ _ _ h => h | (intro k hk hF ht; have h2 := hF.1; have h3 := hF.2; first | omega | (dsimp only at *; omega)))
    have hge21 : w.heap.size ≤ g21 := by have := HC.size; omega
    have hS21 := SI.oneA (E := eIT) (x := (((List.replicate 32 (0 : UInt8)).set 0 1), (List.replicate 32 (0 : UInt8)))) hb21 rfl ⟨((List.length_set ..).trans (List.length_replicate ..)), (List.length_replicate ..)⟩
    have hS := (by first | exact hS.tr hc | exact hS.trans hc (fun _ _ h => h) (fun _ _ h => h))
    refine ws_e rfl rfl (e_call ent50 rfl rfl (rroot_any (.leaf ((List.replicate 32 (0 : UInt8)).set 0 1) zeroH) (hS21) ⟨by simp, zeroH_len⟩ (by omega)) ?_)
    rintro _ w16 ⟨rfl, hc⟩
    refine ⟨_, rfl, (by first | exact hS.tr hc | exact hS.trans hc (fun _ _ h => h) (fun _ _ h => h)), ?_⟩
    have hzw16 := hc.size
    have HC := HC.tr hc
    have hrnd := hrnd.no hc
    have hb1 := hb1.ch hc (fun h => h)
    have hb2 := hb2.ch hc (fun h => h)
    have hb3 := hb3.ch hc (fun h => h)
    have hV7 := hV7.ch hc (by first | exact fun _ _ _ h => h | (intro k hk hF ht; have h2 := hF.1; have h3 := hF.2; first | omega | (dsimp only at *; omega)))
    have hV10 := hV10.ch hc (by first | exact fun _ _ _ h => h | (intro k hk hF ht; have h2 := hF.1; have h3 := hF.2; first | omega | (dsimp only at *; omega)))
    have hV13 := hV13.ch hc (by first | exact fun _ _ _ h => h | (intro k hk hF ht; have h2 := hF.1; have h3 := hF.2; first | omega | (dsimp only at *; omega)))
    have hV15 := hV15.ch hc (by first | exact fun _ _ _ h => h | (intro k hk hF ht; have h2 := hF.1; have h3 := hF.2; first | omega | (dsimp only at *; omega)))
    have hS21 := hS21.no hc
    have hb21 := hb21.ch hc (fun h => h)
    have hS := (by first | exact hS.tr hc | exact hS.trans hc (fun _ _ h => h) (fun _ _ h => h))
    refine ws_p rfl rfl rfl rfl (p_eqH (a := (rootT (eo o15))) (b := (Tr.root (.leaf ((List.replicate 32 (0 : UInt8)).set 0 1) zeroH))) (by kernel_rfl) Tryd.underlying38 Tryd.underlying5 sz5 rfl rfl (rootT_len) (Tr.root_len)) ?_
    refine ws_p rfl rfl rfl rfl (p_mv rfl) ?_
    refine ws_know (d := 24) (b' := true) rfl (by rw [hfin]; simp [rootT]) ?_
    refine ws_pg rfl (gd_ rfl rfl rfl rfl rfl rfl) rfl rfl (p_mv rfl) ?_
    refine ws_eg rfl (gd_ rfl rfl rfl rfl rfl rfl) (e_call ent43 rfl rfl (tlen_made hV15) ?_)
    rintro _ w17 ⟨rfl, hc⟩
    refine ⟨_, rfl, (by first | exact hS.tr hc | exact hS.trans hc (fun _ _ h => h) (fun _ _ h => h)), ?_⟩
    have hzw17 := hc.size
    have HC := HC.tr hc
    have hrnd := hrnd.no hc
    have hb1 := hb1.ch hc (fun h => h)
    have hb2 := hb2.ch hc (fun h => h)
    have hb3 := hb3.ch hc (fun h => h)
    have hV7 := hV7.ch hc (by first | exact fun _ _ _ h => h | (intro k hk hF ht; have h2 := hF.1; have h3 := hF.2; first | omega | (dsimp only at *; omega)))
    have hV10 := hV10.ch hc (by first | exact fun _ _ _ h => h | (intro k hk hF ht; have h2 := hF.1; have h3 := hF.2; first | omega | (dsimp only at *; omega)))
    have hV13 := hV13.ch hc (by first | exact fun _ _ _ h => h | (intro k hk hF ht; have h2 := hF.1; have h3 := hF.2; first | omega | (dsimp only at *; omega)))
    have hV15 := hV15.ch hc (by first | exact fun _ _ _ h => h | (intro k hk hF ht; have h2 := hF.1; have h3 := hF.2; first | omega | (dsimp only at *; omega)))
    have hS21 := hS21.no hc
    have hb21 := hb21.ch hc (fun h => h)
    have hS := (by first | exact hS.tr hc | exact hS.trans hc (fun _ _ h => h) (fun _ _ h => h))
    refine ws_pg rfl (gd_ rfl rfl rfl rfl rfl rfl) rfl rfl (p_eq rfl rfl) ?_
    refine ws_p rfl rfl rfl rfl (p_pickT rfl rfl) ?_
    refine ws_p rfl rfl rfl rfl (p_as rfl) ?_
    refine ws_n ?_
    refine x_seq ?_
    refine wc_ret ?_
    refine fin_run ((res1 rfl rfl)) ?_
    exact ⟨by rw [hfin]; rfl, HC⟩
  ·
    have hltg1 := hb1.lt
    have hltg2 := hb2.lt
    have hltg3 := hb3.lt
    refine ws_e rfl rfl (e_bslX (E := 81) (cs := (((List.map u8v ((List.replicate 32 (0 : UInt8)).set 0 1)) ++ (List.map u8v (List.replicate 32 (0 : UInt8)))) : List Value)) (cs' := (((hx ((List.replicate 32 (0 : UInt8)).set 0 1)) ++ (hx (List.replicate 32 (0 : UInt8)))) : List Value)) rfl rfl (by simp only [hv, map_hx ((List.length_set ..).trans (List.length_replicate ..)), map_hx (List.length_replicate ..)] <;> rfl) (fun _ => by kernel_rfl) (fun w18 g21 hg21 hb21 hc hsz21 => ⟨(by first | exact hS.tr hc | exact hS.trans hc (fun _ _ h => h) (fun _ _ h => h)), ?_⟩))
    have hzw18 := hc.size
    have HC := HC.tr hc
    have hrnd := hrnd.no hc
    have hb1 := hb1.ch hc (fun h => h)
    have hb2 := hb2.ch hc (fun h => h)
    have hb3 := hb3.ch hc (fun h => h)
    have hV7 := hV7.ch hc (by first | exact fun _ _ _ h => h | (intro k hk hF ht; have h2 := hF.1; have h3 := hF.2; first | omega | (dsimp only at *; omega)))
    have hV10 := hV10.ch hc (by first | exact fun _ _ _ h => h | (intro k hk hF ht; have h2 := hF.1; have h3 := hF.2; first | omega | (dsimp only at *; omega)))
    have hV13 := hV13.ch hc (by first | exact fun _ _ _ h => h | (intro k hk hF ht; have h2 := hF.1; have h3 := hF.2; first | omega | (dsimp only at *; omega)))
    have hV15 := hV15.ch hc (by first | exact fun _ _ _ h => h | (intro k hk hF ht; have h2 := hF.1; have h3 := hF.2; first | omega | (dsimp only at *; omega)))
    have hge21 : w.heap.size ≤ g21 := by have := HC.size; omega
    have hS21 := SI.oneA (E := eIT) (x := (((List.replicate 32 (0 : UInt8)).set 0 1), (List.replicate 32 (0 : UInt8)))) hb21 rfl ⟨((List.length_set ..).trans (List.length_replicate ..)), (List.length_replicate ..)⟩
    have hS := (by first | exact hS.tr hc | exact hS.trans hc (fun _ _ h => h) (fun _ _ h => h))
    refine ws_e rfl rfl (e_call ent46 rfl rfl (troot_made hV15 hrnd) ?_)
    rintro _ w19 ⟨rfl, hc, hFil, hRB, hRF⟩
    refine ⟨_, rfl, (by first | exact hS.tr hc | exact hS.trans hc (fun _ _ h => h) (fun _ _ h => h)), ?_⟩
    have hR0 := hV15.ot.out hrnd (by omega)
    have hRo : ∀ k, k < w.heap.size → k ∈ adsO o15 → False := fun k h1 h2 => absurd (hRF k h2).1 (by omega)
    have hzw19 := hc.size
    have HC := HC.trans hc (fun _ _ h => h) (fun k hk ht => absurd (hRF k ht).1 (by omega))
    have hrnd := hrnd.ch hc (fun k hk ht => hR0 (hk ▸ ht))
    first | have hb1 := hb1.ch hc (hb1.not_nd hRB) | have hb1 := hb1.ch hc (by assumption)
    first | have hb2 := hb2.ch hc (hb2.not_nd hRB) | have hb2 := hb2.ch hc (by assumption)
    first | have hb3 := hb3.ch hc (hb3.not_nd hRB) | have hb3 := hb3.ch hc (by assumption)
    have hV7 := hV7.fil hc hRB hFil
    have hV10 := hV10.fil hc hRB hFil
    have hV13 := hV13.fil hc hRB hFil
    have hV15 := hV15.fil hc hRB hFil
    have hS21 := hS21.ch hc (fun k hk ht => (show ¬ _ from hb21.not_nd hRB) (by have h9 : k = g21 := hk; rw [← h9]; exact ht))
    first | have hb21 := hb21.ch hc (hb21.not_nd hRB) | have hb21 := hb21.ch hc (by assumption)
    have hS := (by first | exact hS.tr hc | exact hS.trans hc (fun _ _ h => h) (fun _ _ h => h))
    refine ws_e rfl rfl (e_call ent50 rfl rfl (rroot_any (.leaf ((List.replicate 32 (0 : UInt8)).set 0 1) zeroH) (hS21) ⟨by simp, zeroH_len⟩ (by omega)) ?_)
    rintro _ w20 ⟨rfl, hc⟩
    refine ⟨_, rfl, (by first | exact hS.tr hc | exact hS.trans hc (fun _ _ h => h) (fun _ _ h => h)), ?_⟩
    have hzw20 := hc.size
    have HC := HC.tr hc
    have hrnd := hrnd.no hc
    have hb1 := hb1.ch hc (fun h => h)
    have hb2 := hb2.ch hc (fun h => h)
    have hb3 := hb3.ch hc (fun h => h)
    have hV7 := hV7.ch hc (by first | exact fun _ _ _ h => h | (intro k hk hF ht; have h2 := hF.1; have h3 := hF.2; first | omega | (dsimp only at *; omega)))
    have hV10 := hV10.ch hc (by first | exact fun _ _ _ h => h | (intro k hk hF ht; have h2 := hF.1; have h3 := hF.2; first | omega | (dsimp only at *; omega)))
    have hV13 := hV13.ch hc (by first | exact fun _ _ _ h => h | (intro k hk hF ht; have h2 := hF.1; have h3 := hF.2; first | omega | (dsimp only at *; omega)))
    have hV15 := hV15.ch hc (by first | exact fun _ _ _ h => h | (intro k hk hF ht; have h2 := hF.1; have h3 := hF.2; first | omega | (dsimp only at *; omega)))
    have hS21 := hS21.no hc
    have hb21 := hb21.ch hc (fun h => h)
    have hS := (by first | exact hS.tr hc | exact hS.trans hc (fun _ _ h => h) (fun _ _ h => h))
    refine ws_p rfl rfl rfl rfl (p_eqH (a := (rootT (eo o15))) (b := (Tr.root (.leaf ((List.replicate 32 (0 : UInt8)).set 0 1) zeroH))) (by kernel_rfl) Tryd.underlying38 Tryd.underlying5 sz5 rfl rfl (rootT_len) (Tr.root_len)) ?_
    refine ws_p rfl rfl rfl rfl (p_mv rfl) ?_
    refine ws_know (d := 24) (b' := true) rfl (by rw [hfin]; simp [rootT]) ?_
    refine ws_pg rfl (gd_ rfl rfl rfl rfl rfl rfl) rfl rfl (p_mv rfl) ?_
    refine ws_eg rfl (gd_ rfl rfl rfl rfl rfl rfl) (e_call ent43 rfl rfl (tlen_made hV15) ?_)
    rintro _ w21 ⟨rfl, hc⟩
    refine ⟨_, rfl, (by first | exact hS.tr hc | exact hS.trans hc (fun _ _ h => h) (fun _ _ h => h)), ?_⟩
    have hzw21 := hc.size
    have HC := HC.tr hc
    have hrnd := hrnd.no hc
    have hb1 := hb1.ch hc (fun h => h)
    have hb2 := hb2.ch hc (fun h => h)
    have hb3 := hb3.ch hc (fun h => h)
    have hV7 := hV7.ch hc (by first | exact fun _ _ _ h => h | (intro k hk hF ht; have h2 := hF.1; have h3 := hF.2; first | omega | (dsimp only at *; omega)))
    have hV10 := hV10.ch hc (by first | exact fun _ _ _ h => h | (intro k hk hF ht; have h2 := hF.1; have h3 := hF.2; first | omega | (dsimp only at *; omega)))
    have hV13 := hV13.ch hc (by first | exact fun _ _ _ h => h | (intro k hk hF ht; have h2 := hF.1; have h3 := hF.2; first | omega | (dsimp only at *; omega)))
    have hV15 := hV15.ch hc (by first | exact fun _ _ _ h => h | (intro k hk hF ht; have h2 := hF.1; have h3 := hF.2; first | omega | (dsimp only at *; omega)))
    have hS21 := hS21.no hc
    have hb21 := hb21.ch hc (fun h => h)
    have hS := (by first | exact hS.tr hc | exact hS.trans hc (fun _ _ h => h) (fun _ _ h => h))
    refine ws_pg rfl (gd_ rfl rfl rfl rfl rfl rfl) rfl rfl (p_eq rfl rfl) ?_
    refine ws_p rfl rfl rfl rfl (p_pickT rfl rfl) ?_
    refine ws_p rfl rfl rfl rfl (p_as rfl) ?_
    refine ws_n ?_
    refine x_seq ?_
    refine wc_ret ?_
    refine fin_run ((res1 rfl rfl)) ?_
    exact ⟨by rw [hfin]; rfl, HC⟩

set_option maxHeartbeats 1000000 in
set_option maxRecDepth 20000 in
theorem made11_any {w : World}  {Al : Option Addr} {ll cl : Nat} {Fl : Nat → Prop} {l : List AC} (hin : SI w Fl eAC Al ll cl l) (hll : ll ≤ 1000) :
    Calls Tryd.prog 41 #[.slice Al ll cl] w fun e w' => ∃ v o A lm cm, e = .returned (.tuple #[v, .slice A lm cm]) ∧ TR 41 156 (fun k => w.heap.size ≤ k) w' v o ∧ eo o = mkA l ∧ RI w' (fun k => w.heap.size ≤ k) 81 eIT A lm cm (itemsT (mkA l)) ∧ Ch No w w' := by
  have hinl := hin.len
  have hok := hin.ok
  have hin := hin.old
  have HC : Ch No w w := Ch.refl _ _
  refine enter' (args := [.slice Al ll cl]) (n := 40) Tryd.func41 rfl rfl rfl ?_
  refine wc_seq ?_
  refine wc_region ?_
  refine wl rfl rfl rfl (p_as rfl) ?_
  refine wl rfl rfl rfl (p_as rfl) ?_
  refine wl_nil ?_
  refine x_seq ?_
  refine wc_seq ?_
  refine wc_region ?_
  refine wle rfl (e_call ent51 rfl rfl (new_any) ?_)
  rintro _ w1 ⟨v8, rfl, hV8, hc⟩
  refine ⟨_, rfl, ?_⟩
  have hzw1 := hc.size
  have HC := HC.tr hc
  have hin := hin.no hc
  have hV8 := hV8.mono (G := fun k => w.heap.size ≤ k ∧ k < w1.heap.size) (fun k h1 h2 => ⟨h2, h1⟩)
  refine wl rfl rfl rfl (p_as rfl) ?_
  refine wl_nil ?_
  refine x_seq ?_
  refine wc_seq ?_
  refine wc_region ?_
  refine wl rfl rfl rfl (p_as rfl) ?_
  refine wl_nil ?_
  refine x_seq ?_
  refine wc_seq ?_
  refine wc_seq ?_
  refine wc_region ?_
  refine wl rfl rfl rfl (p_mv rfl) ?_
  refine wl rfl rfl rfl (p_lenS Tryd.underlying64 rfl) ?_
  refine wl rfl rfl rfl (p_mv rfl) ?_
  refine wl_nil ?_
  refine x_seq ?_
  refine wc_block ?_
  refine wc_loop (e' := [(4, (_)), (5, .slice (none) (0) (0)), (9, .slice Al ll cl), (10, i64 (ll : Int)), (11, i64 ((0) : Int))]) (fun mz ez uz => ∃ i : Nat, ∃ v : Value, ∃ o : Option LT, ∃ Am : Option Addr, ∃ lm : Nat, ∃ cm : Nat, mz = ll - i ∧ ez = [(4, v), (5, .slice Am lm cm), (9, .slice Al ll cl), (10, i64 (ll : Int)), (11, i64 (i : Int))] ∧ (i ≤ ll) ∧ (eo o = mkA (l.take i)) ∧ (TR 41 156 (fun k => w.heap.size ≤ k) uz v o) ∧ (RI uz (fun k => w.heap.size ≤ k) 81 eIT Am lm cm (itemsT (mkA (l.take i)))) ∧ (SI uz (fun k => k < w.heap.size) eAC Al ll cl l) ∧ (Ch No w uz))
    ⟨rfl, rfl, rfl, rfl, rfl, trivial⟩ ⟨0, _, _, none, 0, 0, rfl, rfl, (by omega), rfl, (hV8.mono (fun k _ h => by have := h.1; show w.heap.size ≤ k; omega)), RI.nil _ _ _ _, hin, HC⟩ ?_
  rintro m0 e w2 ⟨i, v, o, Am, lm, cm, hm0, rfl, hi, heo, hV, hM, hin, HC⟩
  have hzw2 := HC.size
  have hV := hV.mono (G := fun k => w.heap.size ≤ k ∧ k < w2.heap.size) (fun k h1 h2 => ⟨by first | exact h2 | exact h2.1 | ((try dsimp only at h2); omega), h1⟩)
  have hM := hM.mono (G := fun k => w.heap.size ≤ k ∧ k < w2.heap.size) (fun k h1 h2 => ⟨by first | exact h2 | exact h2.1 | ((try dsimp only at h2); omega), h1⟩)
  refine wc_seq ?_
  refine wc_region ?_
  refine wl rfl rfl rfl (p_lt rfl rfl) ?_
  refine wl_nil ?_
  refine x_seq ?_
  refine wc_seq ?_
  refine wc_if rfl (fun c0 => ?_) (fun c0 => ?_)
  ·
    have c0 := of_decide_eq_true c0
    refine wc_skip ?_
    refine x_seq ?_
    refine wc_seq ?_
    refine wc_block ?_
    refine wc_seq ?_
    refine wc_region ?_
    obtain ⟨b3, o3, hA3, hF3, hr3⟩ := (hin).opn (i := i) (d := ⟨zeroH, zeroH, false⟩) (by omega)
    have hok3 := (hin).okAt (i := i) (d := ⟨zeroH, zeroH, false⟩) (by omega)
    obtain ⟨x3, ex3⟩ : ∃ x, x = List.getD l (i) ⟨zeroH, zeroH, false⟩ := ⟨_, rfl⟩
    rw [← ex3] at hr3 hok3
    obtain ⟨hx3k, hx3v⟩ := hok3
    have hr3 : w2.rangeAt b3 (o3 + i * 65) (((List.map u8v x3.k) ++ ((List.map u8v x3.v) ++ [.bool x3.dr])) : List Value) := hr3
    refine wl rfl rfl rfl (p_ixS (j := i * 65) Tryd.underlying64 sz66 rfl hA3 rfl (by omega) (by omega) (congrArg (· * 65) (Int.toNat_natCast _))) ?_
    have hmk : mkA (l.take (i + 1)) = actT (mkA (l.take i)) x3 := by rw [ex3]; exact mkA_take (by omega)
    obtain ⟨hwf, hct⟩ := mkA_ok l i hok (by omega)
    have hcnt : cntT (eo o) + 1 ≤ 4611686018427387904 := by rw [heo]; omega
    have hml : lm = cntT (mkA (l.take i)) := by rw [← itemsT_cnt]; exact hM.len.symm
    refine wl rfl rfl rfl (p_ldA (cs := (((List.map u8v x3.k) ++ ((List.map u8v x3.v) ++ [.bool x3.dr])) : List Value)) Tryd.underlying66 rfl (szL sz66 (by first | rfl | (simp only [List.length_append, List.length_map, List.length_cons, List.length_nil, (show List.length x3.k = 32 from hx3k), (show List.length x3.v = 32 from hx3v)]; done) | (simp only [List.length_append, List.length_map, List.length_cons, List.length_nil, List.size_toArray, (show List.length x3.k = 32 from hx3k), (show List.length x3.v = 32 from hx3v)]; done))) rfl (fun _ e => e ▸ hr3)) ?_
    refine wle rfl (e_alloc (cs := (((List.map u8v (List.replicate 32 (0 : UInt8))) ++ ((List.map u8v (List.replicate 32 (0 : UInt8))) ++ [Value.bool false])) : List Value).toArray) rfl (by rfl) (by rfl) (fun w4 g7 hg7 hb7 hc hsz7 => ?_))
    have hzw4 := hc.size
    have HC := HC.tr hc
    have hin := hin.no hc
    have hV := hV.ch hc (by first | exact fun _ _ _ h => h | (intro k hk hF ht; have h2 := hF.1; have h3 := hF.2; first | omega | (dsimp only at *; omega)))
    have hM := hM.after hc
    have hge7 : w.heap.size ≤ g7 := by have := HC.size; omega
    refine wle rfl (e_stW (vs := (((List.map u8v x3.k) ++ ((List.map u8v x3.v) ++ [.bool x3.dr])) : List Value)) (szL sz66 (by first | rfl | (simp only [List.length_append, List.length_map, List.length_cons, List.length_nil, (show List.length x3.k = 32 from hx3k), (show List.length x3.v = 32 from hx3v)]; done) | (simp only [List.length_append, List.length_map, List.length_cons, List.length_nil, List.size_toArray, (show List.length x3.k = 32 from hx3k), (show List.length x3.v = 32 from hx3v)]; done))) (oneA (oneL one_u8 _) (oneA (oneL one_u8 _) (allOne rfl))) rfl rfl hb7 (by first | rfl | (simp only [List.length_append, List.length_map, List.length_cons, List.length_nil, (show List.length (List.replicate 32 (0 : UInt8)) = 32 from (List.length_replicate ..)), (show List.length (List.replicate 32 (0 : UInt8)) = 32 from (List.length_replicate ..)), (show List.length x3.k = 32 from hx3k), (show List.length x3.v = 32 from hx3v)]; done) | (simp only [List.length_append, List.length_map, List.length_cons, List.length_nil, List.size_toArray, (show List.length (List.replicate 32 (0 : UInt8)) = 32 from (List.length_replicate ..)), (show List.length (List.replicate 32 (0 : UInt8)) = 32 from (List.length_replicate ..)), (show List.length x3.k = 32 from hx3k), (show List.length x3.v = 32 from hx3v)]; done)) (fun w5 hb7 hc hsz => ?_))
    have hzw5 := hc.size
    have HC := HC.trans hc (fun _ _ h => h) (fun k hk ht => absurd ht (by omega))
    first | have hin := hin.ch hc (by intro k hk ht; first | omega | (dsimp only at *; omega)) | have hin := hin.chT hc (by intro k hz hk ht; first | omega | (dsimp only at *; omega))
    have hV := hV.ch hc (by first | exact fun _ _ _ h => h | (intro k hk hF ht; have h2 := hF.1; have h3 := hF.2; first | omega | (dsimp only at *; omega)))
    have hM := hM.ch hc (by intro k hz hk ht; first | omega | (dsimp only at *; omega))
    refine wl_nil ?_
    refine x_seq ?_
    refine wc_seq ?_
    refine wc_region ?_
    refine wl rfl rfl rfl (p_fld (j := 64) Tryd.underlying66 rfl ⟨_, by rfl⟩ rfl rfl) ?_
    refine wl rfl rfl rfl (p_ld Tryd.underlying4 rfl rfl (ld (cell_at (p := (((List.map u8v x3.k) ++ (List.map u8v x3.v)) : List Value)) (v := (.bool x3.dr : Value)) (r := []) hb7 (by simp only [List.append_assoc, List.cons_append, List.nil_append, List.append_nil]) (by first | rfl | (simp only [List.length_append, List.length_map, List.length_cons, List.length_nil, (show List.length x3.k = 32 from hx3k), (show List.length x3.v = 32 from hx3v)]; done) | (simp only [List.length_append, List.length_map, List.length_cons, List.length_nil, List.size_toArray, (show List.length x3.k = 32 from hx3k), (show List.length x3.v = 32 from hx3v)]; done))))) ?_
    refine wl_nil ?_
    refine x_seq ?_
    refine wc_if rfl (fun c1 => ?_) (fun c1 => ?_)
    ·
      refine wc_draw (.st 0 0 (.st 1 0 (.st 2 1 (.st 4 0 (.st 5 0 (.st 6 1 (.st 3 2 (.st 7 2 (.st 8 0 (.st 9 0 .nil)))))))))) 10 (by kernel_rfl) (by kernel_rfl) (by kernel_rfl) (by repeat (first | with_reducible exact pan_body | with_reducible apply pan_then | with_reducible apply pan_in)) (fun x => Ch No w5.drew x) (Ch.refl _ _) ?_
      obtain ⟨w6, ew6⟩ : ∃ x, x = w5.drew := ⟨_, rfl⟩
      rw [← ew6]
      have hc : Ch No w5 w6 := by rw [ew6]; exact Ch.drew _
      have hszw6 : w6.heap.size = w5.heap.size := by rw [ew6]; rfl
      clear ew6
      have hzw6 := hc.size
      have HC := HC.tr hc
      have hin := hin.no hc
      have hV := hV.ch hc (by first | exact fun _ _ _ h => h | (intro k hk hF ht; have h2 := hF.1; have h3 := hF.2; first | omega | (dsimp only at *; omega)))
      have hM := hM.no hc
      have hb7 := hb7.ch hc (fun h => h)
      have hS : Ch No w6 w6 := Ch.refl _ _
      refine ws_p rfl rfl rfl rfl (p_mv rfl) ?_
      refine ws_p rfl rfl rfl rfl (p_fld (j := 0) Tryd.underlying66 rfl ⟨_, by rfl⟩ rfl rfl) ?_
      refine ws_h rfl rfl rfl rfl (p_ldA (cs := (List.map u8v x3.k)) Tryd.underlying38 rfl (szL sz38 (by first | rfl | (simp only [List.length_append, List.length_map, List.length_cons, List.length_nil, (show List.length x3.k = 32 from hx3k)]; done) | (simp only [List.length_append, List.length_map, List.length_cons, List.length_nil, List.size_toArray, (show List.length x3.k = 32 from hx3k)]; done))) rfl (fun _ h => rng_at (p := []) (q := ((List.map u8v x3.k) : List Value)) (r := (((List.map u8v x3.v) ++ [.bool x3.dr]) : List Value)) (hb7.ch h (fun h => h)) (by simp only [List.append_assoc, List.cons_append, List.nil_append, List.append_nil]) (by first | rfl | (simp only [List.length_append, List.length_map, List.length_cons, List.length_nil]; done) | (simp only [List.length_append, List.length_map, List.length_cons, List.length_nil, List.size_toArray]; done)))) ?_
      refine ws_p rfl rfl rfl rfl (p_mv rfl) ?_
      refine ws_p rfl rfl rfl rfl (p_fld (j := 0) Tryd.underlying66 rfl ⟨_, by rfl⟩ rfl rfl) ?_
      refine ws_h rfl rfl rfl rfl (p_ldA (cs := (List.map u8v x3.k)) Tryd.underlying38 rfl (szL sz38 (by first | rfl | (simp only [List.length_append, List.length_map, List.length_cons, List.length_nil, (show List.length x3.k = 32 from hx3k)]; done) | (simp only [List.length_append, List.length_map, List.length_cons, List.length_nil, List.size_toArray, (show List.length x3.k = 32 from hx3k)]; done))) rfl (fun _ h => rng_at (p := []) (q := ((List.map u8v x3.k) : List Value)) (r := (((List.map u8v x3.v) ++ [.bool x3.dr]) : List Value)) (hb7.ch h (fun h => h)) (by simp only [List.append_assoc, List.cons_append, List.nil_append, List.append_nil]) (by first | rfl | (simp only [List.length_append, List.length_map, List.length_cons, List.length_nil]; done) | (simp only [List.length_append, List.length_map, List.length_cons, List.length_nil, List.size_toArray]; done)))) ?_
      refine ws_e rfl rfl (e_call ent45 rfl rfl (tdrop_made (F := fun k => w.heap.size ≤ k) (hV.mono (fun k _ h => by first | exact h.1 | (have h2 := h.1; show w.heap.size ≤ k; omega))) (fun j hj => by show w.heap.size ≤ j; omega) (hx3k)) ?_)
      rintro _ w7 ⟨v20, o20, rfl, hV20, heq20, hc⟩
      refine ⟨_, rfl, hc, ?_⟩
      have hzw7 := hc.size
      have HC := HC.tr hc
      have hin := hin.no hc
      have hV := hV.ch hc (by first | exact fun _ _ _ h => h | (intro k hk hF ht; have h2 := hF.1; have h3 := hF.2; first | omega | (dsimp only at *; omega)))
      have hM := hM.after hc
      have hb7 := hb7.ch hc (fun h => h)
      have hV20 := hV20.mono (G := fun k => w.heap.size ≤ k ∧ k < w7.heap.size) (fun k h1 h2 => ⟨by first | exact h2 | exact h2.1 | ((try dsimp only at h2); omega), h1⟩)
      refine ws_narrow (S' := fun x => Ch No w7 x) (Ch.refl _ _) (fun x h => hc.tr h) ?_
      refine ws_e rfl rfl (e_call ent80 rfl rfl (rdrop_any (hM.si) (hx3k) (by omega)) ?_)
      rintro _ w8 ⟨A24, lm24, cm24, rfl, hM24, hc⟩
      refine ⟨_, rfl, hc, ?_⟩
      have hzw8 := hc.size
      have HC := HC.tr hc
      have hin := hin.no hc
      have hV := hV.ch hc (by first | exact fun _ _ _ h => h | (intro k hk hF ht; have h2 := hF.1; have h3 := hF.2; first | omega | (dsimp only at *; omega)))
      have hM := hM.after hc
      have hb7 := hb7.ch hc (fun h => h)
      have hV20 := hV20.ch hc (by first | exact fun _ _ _ h => h | (intro k hk hF ht; have h2 := hF.1; have h3 := hF.2; first | omega | (dsimp only at *; omega)))
      have hMl24 := hM24.len
      have hM24 := hM24.mono (G := fun k => w7.heap.size ≤ k ∧ k < w8.heap.size) (fun k h1 h2 => ⟨h2, h1⟩)
      refine ws_narrow (S' := fun x => Ch No w8 x) (Ch.refl _ _) (fun x h => hc.tr h) ?_
      refine ws_p rfl rfl rfl rfl (p_as rfl) ?_
      refine ws_p rfl rfl rfl rfl (p_as rfl) ?_
      refine ws_n ?_
      refine x_in_normal ?_
      refine x_seq ?_
      refine wc_region ?_
      refine wl rfl rfl rfl (p_add rfl rfl (w64 (by omega))) ?_
      refine wl rfl rfl rfl (p_mv rfl) ?_
      refine wl_nil ?_
      refine x_round (e' := [(4, (_)), (5, .slice (_) (_) (_)), (9, .slice Al ll cl), (10, i64 (ll : Int)), (11, i64 ((i + 1) : Int))]) ⟨rfl, rfl, rfl, rfl, rfl, trivial⟩ (by rw [hm0]; omega) ⟨i + 1, _, _, _, _, _, rfl, rfl, (by omega), (by rw [hmk, heq20, heo]; unfold actT; rw [if_pos (by first | assumption | simpa using c1)]), (hV20.mono (fun k _ h => h.1)), (by rw [hmk]; unfold actT; rw [if_pos (by first | assumption | simpa using c1), dropT_items hwf]; exact hM24.mono (fun k _ h => by have := h.1; show w.heap.size ≤ k; omega)), hin, HC⟩
    ·
      refine wc_draw (.st 0 0 (.st 1 0 (.st 2 1 (.st 3 0 (.st 4 1 (.st 6 0 (.st 7 0 (.st 8 1 (.st 9 0 (.st 10 1 (.st 5 2 (.st 11 2 (.st 12 0 (.st 13 0 .nil)))))))))))))) 14 (by kernel_rfl) (by kernel_rfl) (by kernel_rfl) (by repeat (first | with_reducible exact pan_body | with_reducible apply pan_then | with_reducible apply pan_in)) (fun x => Ch No w5.drew x) (Ch.refl _ _) ?_
      obtain ⟨w9, ew9⟩ : ∃ x, x = w5.drew := ⟨_, rfl⟩
      rw [← ew9]
      have hc : Ch No w5 w9 := by rw [ew9]; exact Ch.drew _
      have hszw9 : w9.heap.size = w5.heap.size := by rw [ew9]; rfl
      clear ew9
      have hzw9 := hc.size
      have HC := HC.tr hc
      have hin := hin.no hc
      have hV := hV.ch hc (by first | exact fun _ _ _ h => h | (intro k hk hF ht; have h2 := hF.1; have h3 := hF.2; first | omega | (dsimp only at *; omega)))
      have hM := hM.no hc
      have hb7 := hb7.ch hc (fun h => h)
      have hS : Ch No w9 w9 := Ch.refl _ _
      refine ws_p rfl rfl rfl rfl (p_mv rfl) ?_
      refine ws_p rfl rfl rfl rfl (p_fld (j := 0) Tryd.underlying66 rfl ⟨_, by rfl⟩ rfl rfl) ?_
      refine ws_h rfl rfl rfl rfl (p_ldA (cs := (List.map u8v x3.k)) Tryd.underlying38 rfl (szL sz38 (by first | rfl | (simp only [List.length_append, List.length_map, List.length_cons, List.length_nil, (show List.length x3.k = 32 from hx3k)]; done) | (simp only [List.length_append, List.length_map, List.length_cons, List.length_nil, List.size_toArray, (show List.length x3.k = 32 from hx3k)]; done))) rfl (fun _ h => rng_at (p := []) (q := ((List.map u8v x3.k) : List Value)) (r := (((List.map u8v x3.v) ++ [.bool x3.dr]) : List Value)) (hb7.ch h (fun h => h)) (by simp only [List.append_assoc, List.cons_append, List.nil_append, List.append_nil]) (by first | rfl | (simp only [List.length_append, List.length_map, List.length_cons, List.length_nil]; done) | (simp only [List.length_append, List.length_map, List.length_cons, List.length_nil, List.size_toArray]; done)))) ?_
      refine ws_p rfl rfl rfl rfl (p_fld (j := 32) Tryd.underlying66 rfl ⟨_, by rfl⟩ rfl rfl) ?_
      refine ws_h rfl rfl rfl rfl (p_ldA (cs := (List.map u8v x3.v)) Tryd.underlying38 rfl (szL sz38 (by first | rfl | (simp only [List.length_append, List.length_map, List.length_cons, List.length_nil, (show List.length x3.v = 32 from hx3v)]; done) | (simp only [List.length_append, List.length_map, List.length_cons, List.length_nil, List.size_toArray, (show List.length x3.v = 32 from hx3v)]; done))) rfl (fun _ h => rng_at (p := ((List.map u8v x3.k) : List Value)) (q := ((List.map u8v x3.v) : List Value)) (r := ([.bool x3.dr] : List Value)) (hb7.ch h (fun h => h)) (by simp only [List.append_assoc, List.cons_append, List.nil_append, List.append_nil]) (by first | rfl | (simp only [List.length_append, List.length_map, List.length_cons, List.length_nil, (show List.length x3.k = 32 from hx3k)]; done) | (simp only [List.length_append, List.length_map, List.length_cons, List.length_nil, List.size_toArray, (show List.length x3.k = 32 from hx3k)]; done)))) ?_
      refine ws_p rfl rfl rfl rfl (p_mv rfl) ?_
      refine ws_p rfl rfl rfl rfl (p_fld (j := 0) Tryd.underlying66 rfl ⟨_, by rfl⟩ rfl rfl) ?_
      refine ws_h rfl rfl rfl rfl (p_ldA (cs := (List.map u8v x3.k)) Tryd.underlying38 rfl (szL sz38 (by first | rfl | (simp only [List.length_append, List.length_map, List.length_cons, List.length_nil, (show List.length x3.k = 32 from hx3k)]; done) | (simp only [List.length_append, List.length_map, List.length_cons, List.length_nil, List.size_toArray, (show List.length x3.k = 32 from hx3k)]; done))) rfl (fun _ h => rng_at (p := []) (q := ((List.map u8v x3.k) : List Value)) (r := (((List.map u8v x3.v) ++ [.bool x3.dr]) : List Value)) (hb7.ch h (fun h => h)) (by simp only [List.append_assoc, List.cons_append, List.nil_append, List.append_nil]) (by first | rfl | (simp only [List.length_append, List.length_map, List.length_cons, List.length_nil]; done) | (simp only [List.length_append, List.length_map, List.length_cons, List.length_nil, List.size_toArray]; done)))) ?_
      refine ws_p rfl rfl rfl rfl (p_fld (j := 32) Tryd.underlying66 rfl ⟨_, by rfl⟩ rfl rfl) ?_
      refine ws_h rfl rfl rfl rfl (p_ldA (cs := (List.map u8v x3.v)) Tryd.underlying38 rfl (szL sz38 (by first | rfl | (simp only [List.length_append, List.length_map, List.length_cons, List.length_nil, (show List.length x3.v = 32 from hx3v)]; done) | (simp only [List.length_append, List.length_map, List.length_cons, List.length_nil, List.size_toArray, (show List.length x3.v = 32 from hx3v)]; done))) rfl (fun _ h => rng_at (p := ((List.map u8v x3.k) : List Value)) (q := ((List.map u8v x3.v) : List Value)) (r := ([.bool x3.dr] : List Value)) (hb7.ch h (fun h => h)) (by simp only [List.append_assoc, List.cons_append, List.nil_append, List.append_nil]) (by first | rfl | (simp only [List.length_append, List.length_map, List.length_cons, List.length_nil, (show List.length x3.k = 32 from hx3k)]; done) | (simp only [List.length_append, List.length_map, List.length_cons, List.length_nil, List.size_toArray, (show List.length x3.k = 32 from hx3k)]; done)))) ?_
      refine ws_e rfl rfl (e_call ent44 rfl rfl (tput_made (F := fun k => w.heap.size ≤ k) (hV.mono (fun k _ h => by first | exact h.1 | (have h2 := h.1; show w.heap.size ≤ k; omega))) (fun j hj => by show w.heap.size ≤ j; omega) (hx3k) (hx3v) (hcnt)) ?_)
      rintro _ w10 ⟨v30, t30, rfl, hV30, heq30, hc⟩
      refine ⟨_, rfl, hc, ?_⟩
      have hzw10 := hc.size
      have HC := HC.tr hc
      have hin := hin.no hc
      have hV := hV.ch hc (by first | exact fun _ _ _ h => h | (intro k hk hF ht; have h2 := hF.1; have h3 := hF.2; first | omega | (dsimp only at *; omega)))
      have hM := hM.after hc
      have hb7 := hb7.ch hc (fun h => h)
      have hV30 := hV30.mono (G := fun k => w.heap.size ≤ k ∧ k < w10.heap.size) (fun k h1 h2 => ⟨by first | exact h2 | exact h2.1 | ((try dsimp only at h2); omega), h1⟩)
      refine ws_narrow (S' := fun x => Ch No w10 x) (Ch.refl _ _) (fun x h => hc.tr h) ?_
      refine ws_e rfl rfl (e_call ent52 rfl rfl (rput_any (hM.si) (hx3k) (hx3v) (by omega)) ?_)
      rintro _ w11 ⟨A36, lm36, cm36, rfl, hM36, hc⟩
      refine ⟨_, rfl, hc, ?_⟩
      have hzw11 := hc.size
      have HC := HC.tr hc
      have hin := hin.no hc
      have hV := hV.ch hc (by first | exact fun _ _ _ h => h | (intro k hk hF ht; have h2 := hF.1; have h3 := hF.2; first | omega | (dsimp only at *; omega)))
      have hM := hM.after hc
      have hb7 := hb7.ch hc (fun h => h)
      have hV30 := hV30.ch hc (by first | exact fun _ _ _ h => h | (intro k hk hF ht; have h2 := hF.1; have h3 := hF.2; first | omega | (dsimp only at *; omega)))
      have hMl36 := hM36.len
      have hM36 := hM36.mono (G := fun k => w10.heap.size ≤ k ∧ k < w11.heap.size) (fun k h1 h2 => ⟨h2, h1⟩)
      refine ws_narrow (S' := fun x => Ch No w11 x) (Ch.refl _ _) (fun x h => hc.tr h) ?_
      refine ws_p rfl rfl rfl rfl (p_as rfl) ?_
      refine ws_p rfl rfl rfl rfl (p_as rfl) ?_
      refine ws_n ?_
      refine x_in_normal ?_
      refine x_seq ?_
      refine wc_region ?_
      refine wl rfl rfl rfl (p_add rfl rfl (w64 (by omega))) ?_
      refine wl rfl rfl rfl (p_mv rfl) ?_
      refine wl_nil ?_
      refine x_round (e' := [(4, (_)), (5, .slice (_) (_) (_)), (9, .slice Al ll cl), (10, i64 (ll : Int)), (11, i64 ((i + 1) : Int))]) ⟨rfl, rfl, rfl, rfl, rfl, trivial⟩ (by rw [hm0]; omega) ⟨i + 1, _, _, _, _, _, rfl, rfl, (by omega), (by rw [hmk, heq30, heo]; unfold actT; rw [if_neg (by first | assumption | simpa using c1)]), (hV30.mono (fun k _ h => h.1)), (by rw [hmk]; unfold actT; rw [if_neg (by first | assumption | simpa using c1), putT_items hwf (by assumption) (by assumption)]; exact hM36.mono (fun k _ h => by have := h.1; show w.heap.size ≤ k; omega)), hin, HC⟩
  ·
    have c0 := of_decide_eq_false c0
    refine wc_exit ?_
    refine x_then_exit ?_
    refine x_then_exit ?_
    refine x_in_here ?_
    refine x_seq ?_
    refine wc_seq ?_
    refine wc_region ?_
    refine wl rfl rfl rfl (p_mv rfl) ?_
    refine wl rfl rfl rfl (p_mv rfl) ?_
    refine wl rfl rfl rfl (p_as rfl) ?_
    refine wl rfl rfl rfl (p_as rfl) ?_
    refine wl_nil ?_
    refine x_seq ?_
    refine wc_ret ?_
    refine fin_run ((res2 rfl rfl rfl)) ?_
    rw [List.take_of_length_le (by omega)] at heo hM
    exact ⟨v, o, Am, lm, cm, rfl, hV.mono (fun k _ h => h.1), heo, hM.mono (fun k _ h => h.1), HC⟩

set_option maxHeartbeats 1000000 in
set_option maxRecDepth 20000 in
theorem alls_some {w : World} {m yl gB g : Nat} {t : LT} {J Jx : List (List UInt8 × List UInt8) → World → Prop} (hX : ∀ xs A, J xs A → Blk A gB 25 #[ndp g] ∧ Blk A g 41 [ndp t.adr, .bool true].toArray ∧ LAt 156 A t) (hJ : ∀ xs A B, J xs A → Ch No A B → J xs B) (hJx : ∀ xs A B, Jx xs A → Ch No A B → Jx xs B) (hY : ∀ pre x Wq, (fun (pre : List (List UInt8 × List UInt8)) (x : List UInt8 × List UInt8) => ∃ q, t.er.items = pre ++ x :: q) pre x → J pre Wq → YieldAt Fence.wide m Tryd.prog yl ((fun x : List UInt8 × List UInt8 => #[hv x.1, hv x.2]) x) Wq fun ed W' => (ed = .returned (.bool true) ∧ J (pre ++ [x]) W') ∨ (ed = .returned (.bool false) ∧ Jx (pre ++ [x]) W')) (hJ0 : J [] w) :
    Calls Tryd.prog 97 #[.func (.yield yl) #[] #[], .pointer (some ⟨gB, 0, none⟩)] w fun e w' => e = .returned (.tuple #[]) ∧ ((∃ xs, xs = t.er.items ∧ J xs w') ∨ ∃ xs, True ∧ Jx xs w') := by
  have hJp := hJ0
  obtain ⟨hBn, hbg, hXt⟩ := hX _ _ hJ0
  have HC : Ch No w w := Ch.refl _ _
  refine enter' (args := [.func (.yield yl) #[] #[], .pointer (some ⟨gB, 0, none⟩)]) (n := 11) Tryd.func97 rfl rfl rfl ?_
  refine wc_seq ?_
  refine wc_region ?_
  refine wl rfl rfl rfl (p_ld Tryd.underlying25 rfl rfl (ld (hBn.cell rfl))) ?_
  refine wle rfl (e_call ent81 rfl rfl (is_made (o := some t) hbg) ?_)
  rintro _ w1 ⟨rfl, hc⟩
  refine ⟨_, rfl, ?_⟩
  have hzw1 := hc.size
  have hJp := hJ _ _ _ hJp hc
  have hBn := hBn.ch hc (fun h => h)
  have hbg := hbg.ch hc (fun h => h)
  refine wl_nil ?_
  refine x_seq ?_
  refine wc_yes rfl (rfl) ?_
  refine wc_region ?_
  refine wl rfl rfl rfl (p_ld Tryd.underlying25 rfl rfl (ld (hBn.cell rfl))) ?_
  refine wl rfl rfl rfl (p_nck rfl) ?_
  refine wl rfl rfl rfl (p_fld (j := 0) Tryd.underlying41 rfl ⟨_, by rfl⟩ rfl rfl) ?_
  refine wl rfl rfl rfl (p_ld Tryd.underlying39 rfl rfl (ld (cell_at (p := []) (v := (ndp t.adr : Value)) (r := ([.bool true] : List Value)) hbg (by simp only [List.append_assoc, List.cons_append, List.nil_append, List.append_nil]) (by first | rfl | (simp only [List.length_append, List.length_map, List.length_cons, List.length_nil]; done) | (simp only [List.length_append, List.length_map, List.length_cons, List.length_nil, List.size_toArray]; done))))) ?_
  refine wl rfl rfl rfl (p_mv rfl) ?_
  refine wle rfl (e_call ent98 rfl rfl (each_any t (pre := []) (fun xs A h => (hX xs A h).2.2) hJ hJx (fun p x q h => ⟨q, h⟩) hY hJp) ?_)
  rintro _ w2 (⟨rfl, hJp⟩ | ⟨rfl, q, hJq⟩)
  ·
    refine ⟨_, rfl, ?_⟩
    refine wl_nil ?_
    refine fin_run_n ((res0 rfl)) ?_
    exact ⟨rfl, .inl ⟨_, rfl, hJp⟩⟩
  ·
    refine ⟨_, rfl, ?_⟩
    refine wl_nil ?_
    refine fin_run_n ((res0 rfl)) ?_
    exact ⟨rfl, .inr ⟨_, trivial, hJq⟩⟩

set_option maxHeartbeats 1000000 in
set_option maxRecDepth 20000 in
theorem alls_none {w : World} {m yl gB g : Nat} {J Jx : List (List UInt8 × List UInt8) → World → Prop} (hX : ∀ xs A, J xs A → Blk A gB 25 #[ndp g] ∧ Blk A g 41 [.pointer none, .bool true].toArray) (hJ : ∀ xs A B, J xs A → Ch No A B → J xs B) (hJx : ∀ xs A B, Jx xs A → Ch No A B → Jx xs B) (hJ0 : J [] w) :
    Calls Tryd.prog 97 #[.func (.yield yl) #[] #[], .pointer (some ⟨gB, 0, none⟩)] w fun e w' => e = .returned (.tuple #[]) ∧ ((∃ xs, xs = ([] : List (List UInt8 × List UInt8)) ∧ J xs w') ∨ ∃ xs, True ∧ Jx xs w') := by
  have hJp := hJ0
  obtain ⟨hBn, hbg⟩ := hX _ _ hJ0
  have HC : Ch No w w := Ch.refl _ _
  refine enter' (args := [.func (.yield yl) #[] #[], .pointer (some ⟨gB, 0, none⟩)]) (n := 11) Tryd.func97 rfl rfl rfl ?_
  refine wc_seq ?_
  refine wc_region ?_
  refine wl rfl rfl rfl (p_ld Tryd.underlying25 rfl rfl (ld (hBn.cell rfl))) ?_
  refine wle rfl (e_call ent81 rfl rfl (is_made (o := none) hbg) ?_)
  rintro _ w1 ⟨rfl, hc⟩
  refine ⟨_, rfl, ?_⟩
  have hzw1 := hc.size
  have hJp := hJ _ _ _ hJp hc
  have hBn := hBn.ch hc (fun h => h)
  have hbg := hbg.ch hc (fun h => h)
  refine wl_nil ?_
  refine x_seq ?_
  refine wc_yes rfl (rfl) ?_
  refine wc_region ?_
  refine wl rfl rfl rfl (p_ld Tryd.underlying25 rfl rfl (ld (hBn.cell rfl))) ?_
  refine wl rfl rfl rfl (p_nck rfl) ?_
  refine wl rfl rfl rfl (p_fld (j := 0) Tryd.underlying41 rfl ⟨_, by rfl⟩ rfl rfl) ?_
  refine wl rfl rfl rfl (p_ld Tryd.underlying39 rfl rfl (ld (cell_at (p := []) (v := (.pointer none : Value)) (r := ([.bool true] : List Value)) hbg (by simp only [List.append_assoc, List.cons_append, List.nil_append, List.append_nil]) (by first | rfl | (simp only [List.length_append, List.length_map, List.length_cons, List.length_nil]; done) | (simp only [List.length_append, List.length_map, List.length_cons, List.length_nil, List.size_toArray]; done))))) ?_
  refine wl rfl rfl rfl (p_mv rfl) ?_
  refine wle rfl (e_call ent98 rfl rfl (each_nil) ?_)
  rintro _ w2 ⟨rfl, hc⟩
  refine ⟨_, rfl, ?_⟩
  have hzw2 := hc.size
  have hJp := hJ _ _ _ hJp hc
  have hBn := hBn.ch hc (fun h => h)
  have hbg := hbg.ch hc (fun h => h)
  refine wl_nil ?_
  refine fin_run_n ((res0 rfl)) ?_
  exact ⟨rfl, .inl ⟨_, rfl, hJp⟩⟩

set_option maxHeartbeats 1000000 in
set_option maxRecDepth 20000 in
theorem all_ptr {w : World} {g : Nat}  :
    Calls Tryd.prog 69 #[ndp g] w fun e w' => ∃ g1, e = .returned (.func (.func 97) #[] #[.pointer (some ⟨g1, 0, none⟩)]) ∧ w.heap.size ≤ g1 ∧ Blk w' g1 25 #[ndp g] ∧ Ch No w w' := by
  have HC : Ch No w w := Ch.refl _ _
  refine enter' (args := [ndp g]) (n := 4) Tryd.func69 rfl rfl rfl ?_
  refine wc_seq ?_
  refine wc_region ?_
  refine wle rfl (e_box (cs := #[_]) rfl rfl rfl (fun w1 g1 hg1 hb1 hc hsz1 => ?_))
  have hzw1 := hc.size
  have HC := HC.tr hc
  have hge1 : w.heap.size ≤ g1 := by have := HC.size; omega
  refine wl rfl rfl rfl (p_as rfl) ?_
  refine wl_nil ?_
  refine x_seq ?_
  refine wc_seq ?_
  refine wc_region ?_
  refine wl rfl rfl rfl (p_mkf rfl) ?_
  refine wl rfl rfl rfl (p_as rfl) ?_
  refine wl_nil ?_
  refine x_seq ?_
  refine wc_ret ?_
  refine fin_run ((res1 rfl rfl)) ?_
  exact ⟨g1, rfl, hge1, hb1, HC⟩

set_option maxHeartbeats 1000000 in
set_option maxRecDepth 20000 in
theorem items_some {w : World} {g : Nat} {t : LT} {n : Int} (hbg : Blk w g 41 [ndp t.adr, .bool true].toArray) (hXt : LAt 156 w t) (hcn : t.er.cnt ≤ 1000) :
    Calls Tryd.prog 48 #[ndp g, i64 n] w fun e w' => ∃ A l c ys, e = .returned (.tuple #[.slice A l c, .bool true]) ∧ RI w' (fun k => w.heap.size ≤ k) 81 eIT A l c ys ∧ ys = (if n < 0 then t.er.items else t.er.items.take n.toNat) ∧ Ch No w w' := by
  have hltg := hbg.lt
  have hok := hXt.ok
  have htl := hXt.lt
  have hitl : t.er.items.length ≤ 1000 := by rw [Tr.items_cnt]; exact hcn
  have HC : Ch No w w := Ch.refl _ _
  refine enterM (args := [ndp g, i64 n]) (n := 28) Tryd.func48 rfl rfl rfl ?_
  refine wc_seq ?_
  refine wc_region ?_
  have hltg := hbg.lt
  refine wle rfl (e_box (cs := #[_]) rfl rfl rfl (fun w1 g3 hg3 hb3 hc hsz3 => ?_))
  have hzw1 := hc.size
  have HC := HC.tr hc
  have hbg := hbg.ch hc (fun h => h)
  have hXt := hXt.ch hc (by first | exact fun _ _ h => h | (intro a ha ht; have h2 := htl a ha; first | omega | (dsimp only at *; omega)))
  have hge3 : w.heap.size ≤ g3 := by have := HC.size; omega
  have neg_3 : g < g3 := by omega
  refine wl rfl rfl rfl (p_as rfl) ?_
  refine wl rfl rfl rfl (p_as rfl) ?_
  refine wl_nil ?_
  refine x_seq ?_
  refine wc_seq ?_
  refine wc_region ?_
  refine wl rfl rfl rfl (p_mv rfl) ?_
  refine wle rfl (e_call ent69 rfl rfl (all_ptr (g := g)) ?_)
  rintro _ w2 ⟨g11, rfl, hgB11, hBn, hc⟩
  refine ⟨_, rfl, ?_⟩
  have hzw2 := hc.size
  have HC := HC.tr hc
  have hbg := hbg.ch hc (fun h => h)
  have hXt := hXt.ch hc (by first | exact fun _ _ h => h | (intro a ha ht; have h2 := htl a ha; first | omega | (dsimp only at *; omega)))
  have hb3 := hb3.ch hc (fun h => h)
  refine wl rfl rfl rfl (p_as rfl) ?_
  refine wl_nil ?_
  refine x_seq ?_
  refine wc_seq ?_
  refine wc_seq ?_
  refine wc_region ?_
  refine wl rfl rfl rfl (p_mv rfl) ?_
  refine wl rfl rfl rfl (p_eqFN rfl rfl Tryd.underlying121) ?_
  refine wl_nil ?_
  refine x_seq ?_
  refine wc_no rfl (rfl) ?_
  refine wc_skip ?_
  refine x_seq ?_
  refine wc_seq ?_
  refine wc_region ?_
  have hltg := hbg.lt
  have hltg3 := hb3.lt
  have hltg11 := hBn.lt
  refine wle rfl (e_alloc (cs := #[.slice none 0 0]) rfl (by rfl) rfl (fun w3 g7 hg7 hb7 hc hsz7 => ?_))
  have hzw3 := hc.size
  have HC := HC.tr hc
  have hbg := hbg.ch hc (fun h => h)
  have hXt := hXt.ch hc (by first | exact fun _ _ h => h | (intro a ha ht; have h2 := htl a ha; first | omega | (dsimp only at *; omega)))
  have hb3 := hb3.ch hc (fun h => h)
  have hBn := hBn.ch hc (fun h => h)
  have hge7 : w.heap.size ≤ g7 := by have := HC.size; omega
  have neg_7 : g < g7 := by omega
  have neg3_7 : g3 < g7 := by omega
  have neg11_7 : g11 < g7 := by omega
  refine wl_nil ?_
  refine x_seq ?_
  refine wc_seq ?_
  refine wc_seq ?_
  refine wc_region ?_
  refine wl rfl rfl rfl (p_mv rfl) ?_
  refine wl_nil ?_
  refine x_seq ?_
  refine wc_block ?_
  obtain ⟨n0, hn0⟩ : ∃ z, z = w3.heap.size + 2 := ⟨_, rfl⟩
  have hn0w : w.heap.size + 2 ≤ n0 := by have := HC.size; omega
  have hM : RI w3 (fun k => n0 ≤ k) 81 eIT none 0 0 [] := RI.nil _ _ _ _
  have hltg3 := hb3.lt
  have hltg7 := hb7.lt
  have hltg11 := hBn.lt
  have hltg := hbg.lt
  have hz0 := HC.size
  refine wc_rangeS (m := 0) rfl (enters_of Tryd.func97 (by kernel_rfl) rfl) (fun x : List UInt8 × List UInt8 => #[hv x.1, hv x.2]) (fun _ => rfl) (fun (pre : List (List UInt8 × List UInt8)) (x : List UInt8 × List UInt8) => ∃ q, t.er.items = pre ++ x :: q) (fun xs => xs = t.er.items) (fun _ => True) (fun W => Blk W g11 25 #[ndp g] ∧ Blk W g 41 [ndp t.adr, .bool true].toArray ∧ LAt 156 W t) ?hseq (fun xs W => ∃ A : Option Addr, ∃ l : Nat, ∃ c : Nat, (n < 0 ∨ (xs.length : Int) ≤ n) ∧ (Blk W g3 3 #[i64 n]) ∧ (Blk W g7 27 #[.slice A l c]) ∧ (RI W (fun k => n0 ≤ k) 81 eIT A l c xs) ∧ (Blk W g11 25 #[ndp g]) ∧ (Blk W g 41 [ndp t.adr, .bool true].toArray) ∧ (LAt 156 W t) ∧ (Ch No w W)) (fun c xs W => c = (Code.exit 0) ∧ ∃ A : Option Addr, ∃ l : Nat, ∃ c : Nat, ∃ ys : List (List UInt8 × List UInt8), (ys = (if n < 0 then t.er.items else t.er.items.take n.toNat)) ∧ (Blk W g7 27 #[.slice A l c]) ∧ (RI W (fun k => n0 ≤ k) 81 eIT A l c ys) ∧ (Ch No w W)) ?hI ?hIx ?hIl ?hIxl ?hXI ?h0 ?hround ?hdone ?hstop
  case hseq =>
    intro l J Jx W hcW hsW hJ hJx hXJ hY hJ0
    exact (alls_some (fun xs A h => hXJ xs A h) hJ hJx hY hJ0).mono (fun e w' h => ⟨⟨_, h.1⟩, h.2⟩)
  case hI =>
    rintro xs A B ⟨A, l, c, hle, hb3, hb7, hM, hBn, hbg, hXt, HC⟩ hc
    have hzB := hc.size
    have HC := HC.tr hc
    have hb3 := hb3.ch hc (fun h => h)
    have hb7 := hb7.ch hc (fun h => h)
    have hM := hM.no hc
    have hBn := hBn.ch hc (fun h => h)
    have hbg := hbg.ch hc (fun h => h)
    have hXt := hXt.ch hc (by first | exact fun _ _ h => h | (intro a ha ht; have h2 := htl a ha; first | omega | (dsimp only at *; omega)))
    exact ⟨A, l, c, hle, hb3, hb7, hM, hBn, hbg, hXt, HC⟩
  case hIx =>
    rintro c xs A B ⟨hcx, A, l, c, ys, hys, hb7, hM, HC⟩ hc
    have hzB := hc.size
    have HC := HC.tr hc
    have hb7 := hb7.ch hc (fun h => h)
    have hM := hM.no hc
    exact ⟨hcx, A, l, c, ys, hys, hb7, hM, HC⟩
  case hIl =>
    rintro xs A B ⟨A, l, c, hle, hb3, hb7, hM, hBn, hbg, hXt, HC⟩ hc
    have hzB := hc.size
    have HC := HC.trans hc (fun _ _ h => h) (fun k hk ht => absurd ht (by omega))
    have hb3 := hb3.ch hc (by omega)
    have hb7 := hb7.ch hc (by omega)
    have hM := hM.ch hc (by intro k hz hk ht; first | omega | (dsimp only at *; omega))
    have hBn := hBn.ch hc (by omega)
    have hbg := hbg.ch hc (by omega)
    have hXt := hXt.ch hc (by first | exact fun _ _ h => h | (intro a ha ht; have h2 := htl a ha; first | omega | (dsimp only at *; omega)))
    exact ⟨A, l, c, hle, hb3, hb7, hM, hBn, hbg, hXt, HC⟩
  case hIxl =>
    rintro c xs A B ⟨hcx, A, l, c, ys, hys, hb7, hM, HC⟩ hc
    have hzB := hc.size
    have HC := HC.trans hc (fun _ _ h => h) (fun k hk ht => absurd ht (by omega))
    have hb7 := hb7.ch hc (by omega)
    have hM := hM.ch hc (by intro k hz hk ht; first | omega | (dsimp only at *; omega))
    exact ⟨hcx, A, l, c, ys, hys, hb7, hM, HC⟩
  case hXI =>
    rintro xs W ⟨A, l, c, hle, hb3, hb7, hM, hBn, hbg, hXt, HC⟩
    exact ⟨hBn, hbg, hXt⟩
  case h0 =>
    intro W hc hs
    have hzW := hc.size
    have HC := HC.tr hc
    have hb3 := hb3.ch hc (fun h => h)
    have hb7 := hb7.ch hc (fun h => h)
    have hM := hM.no hc
    have hBn := hBn.ch hc (fun h => h)
    have hbg := hbg.ch hc (fun h => h)
    have hXt := hXt.ch hc (by first | exact fun _ _ h => h | (intro a ha ht; have h2 := htl a ha; first | omega | (dsimp only at *; omega)))
    exact ⟨none, 0, 0, (by simp; omega), hb3, hb7, (hM.mono (fun k _ h => by first | exact h | exact h.1)), hBn, hbg, hXt, HC⟩
  case hround =>
    intro l pre x W hl hD hsz hI a F
    subst hl
    obtain ⟨A, l, c, hle, hb3, hb7, hM, hBn, hbg, hXt, HC⟩ := hI
    have hzW := HC.size
    have hD : ∃ q, t.er.items = pre ++ x :: q := hD
    obtain ⟨q, hq⟩ := hD
    obtain ⟨hx1, hx2⟩ := Tr.items_len hok x (by rw [hq]; simp)
    have hMl := hM.len
    have hpl : pre.length + 1 ≤ (t.er.items).length := by rw [hq]; simp; try omega
    refine (?_ : WCi _ _ _ _ _ _ _ _) _ (F.hand2 rfl rfl)
    have hB : Ch (fun k => k ≠ w3.heap.size + 1 ∧ k ≠ w3.heap.size) W W := Ch.refl _ _
    refine wci_seq ?_
    refine wci_region ?_
    have hltg3 := hb3.lt
    have hltg7 := hb7.lt
    have hltg11 := hBn.lt
    have hltg := hbg.lt
    refine wlie rfl (by repeat (first | with_reducible exact no_stop | with_reducible exact no_false | with_reducible apply no_then | with_reducible apply no_in)) (e_alloc (cs := ((List.replicate 32 (0 : UInt8)).map u8v).toArray) rfl (by rfl) rfl (fun w4 g8 hg8 hb8 hc hsz8 => ?_))
    have hzw4 := hc.size
    have HC := HC.tr hc
    have hB := hB.tr hc
    have hb3 := hb3.ch hc (fun h => h)
    have hb7 := hb7.ch hc (fun h => h)
    have hM := hM.after hc
    have hBn := hBn.ch hc (fun h => h)
    have hbg := hbg.ch hc (fun h => h)
    have hXt := hXt.ch hc (by first | exact fun _ _ h => h | (intro a ha ht; have h2 := htl a ha; first | omega | (dsimp only at *; omega)))
    have hge8 : w.heap.size ≤ g8 := by have := HC.size; omega
    have neg3_8 : g3 < g8 := by omega
    have neg7_8 : g7 < g8 := by omega
    have neg11_8 : g11 < g8 := by omega
    have neg_8 : g < g8 := by omega
    refine wlie rfl (by repeat (first | with_reducible exact no_stop | with_reducible exact no_false | with_reducible apply no_then | with_reducible apply no_in)) (e_stW (vs := List.map u8v x.1) (szL sz38 (by rw [List.length_map]; exact hx1)) (oneL one_u8 _) rfl rfl hb8 (by simp only [List.size_toArray, List.length_map]; first | done | exact ((List.length_replicate ..)).trans (hx1).symm) (fun w5 hb8 hc hsz => ?_))
    have hzw5 := hc.size
    have HC := HC.trans hc (fun _ _ h => h) (fun k hk ht => absurd ht (by omega))
    have hB := hB.trans hc (fun _ _ h => h) (fun k hk ht => by first | omega | (dsimp only at *; omega))
    have hb3 := hb3.ch hc (by omega)
    have hb7 := hb7.ch hc (by omega)
    have hM := hM.ch hc (by intro k hz hk ht; first | omega | (dsimp only at *; omega))
    have hBn := hBn.ch hc (by omega)
    have hbg := hbg.ch hc (by omega)
    have hXt := hXt.ch hc (by first | exact fun _ _ h => h | (intro a ha ht; have h2 := htl a ha; first | omega | (dsimp only at *; omega)))
    refine wli_nil ?_
    refine xi_seq ?_
    refine wci_region ?_
    have hltg3 := hb3.lt
    have hltg7 := hb7.lt
    have hltg11 := hBn.lt
    have hltg := hbg.lt
    have hltg8 := hb8.lt
    refine wlie rfl (by repeat (first | with_reducible exact no_stop | with_reducible exact no_false | with_reducible apply no_then | with_reducible apply no_in)) (e_alloc (cs := ((List.replicate 32 (0 : UInt8)).map u8v).toArray) rfl (by rfl) rfl (fun w6 g9 hg9 hb9 hc hsz9 => ?_))
    have hzw6 := hc.size
    have HC := HC.tr hc
    have hB := hB.tr hc
    have hb3 := hb3.ch hc (fun h => h)
    have hb7 := hb7.ch hc (fun h => h)
    have hM := hM.after hc
    have hBn := hBn.ch hc (fun h => h)
    have hbg := hbg.ch hc (fun h => h)
    have hXt := hXt.ch hc (by first | exact fun _ _ h => h | (intro a ha ht; have h2 := htl a ha; first | omega | (dsimp only at *; omega)))
    have hb8 := hb8.ch hc (fun h => h)
    have hge9 : w.heap.size ≤ g9 := by have := HC.size; omega
    have neg3_9 : g3 < g9 := by omega
    have neg7_9 : g7 < g9 := by omega
    have neg11_9 : g11 < g9 := by omega
    have neg_9 : g < g9 := by omega
    have neg8_9 : g8 < g9 := by omega
    refine wlie rfl (by repeat (first | with_reducible exact no_stop | with_reducible exact no_false | with_reducible apply no_then | with_reducible apply no_in)) (e_stW (vs := List.map u8v x.2) (szL sz38 (by rw [List.length_map]; exact hx2)) (oneL one_u8 _) rfl rfl hb9 (by simp only [List.size_toArray, List.length_map]; first | done | exact ((List.length_replicate ..)).trans (hx2).symm) (fun w7 hb9 hc hsz => ?_))
    have hzw7 := hc.size
    have HC := HC.trans hc (fun _ _ h => h) (fun k hk ht => absurd ht (by omega))
    have hB := hB.trans hc (fun _ _ h => h) (fun k hk ht => by first | omega | (dsimp only at *; omega))
    have hb3 := hb3.ch hc (by omega)
    have hb7 := hb7.ch hc (by omega)
    have hM := hM.ch hc (by intro k hz hk ht; first | omega | (dsimp only at *; omega))
    have hBn := hBn.ch hc (by omega)
    have hbg := hbg.ch hc (by omega)
    have hXt := hXt.ch hc (by first | exact fun _ _ h => h | (intro a ha ht; have h2 := htl a ha; first | omega | (dsimp only at *; omega)))
    have hb8 := hb8.ch hc (by omega)
    refine wli_nil ?_
    refine xi_asg hB (fun W2 hc hsW => ?_)
    have hzW2 := hc.size
    have HC := HC.trans hc (fun _ _ h => h) (fun k hk ht => absurd ht (by omega))
    have hb3 := hb3.ch hc (by omega)
    have hb7 := hb7.ch hc (by omega)
    have hM := hM.ch hc (by intro k hz hk ht; first | omega | (dsimp only at *; omega))
    have hBn := hBn.ch hc (by omega)
    have hbg := hbg.ch hc (by omega)
    have hXt := hXt.ch hc (by first | exact fun _ _ h => h | (intro a ha ht; have h2 := htl a ha; first | omega | (dsimp only at *; omega)))
    have hb8 := hb8.ch hc (by omega)
    have hb9 := hb9.ch hc (by omega)
    have hB : Ch (fun k => k ≠ w3.heap.size + 1 ∧ k ≠ w3.heap.size) W2 W2 := Ch.refl _ _
    refine wci_block ?_
    refine wci_seq ?_
    refine wci_seq ?_
    refine wci_region ?_
    refine wli rfl rfl rfl (p_ld Tryd.underlying27 rfl rfl (ld (hb7.cell rfl))) ?_
    refine wli rfl rfl rfl (p_lenS Tryd.underlying27 rfl) ?_
    refine wli rfl rfl rfl (p_ld Tryd.underlying3 rfl rfl (ld (hb3.cell rfl))) ?_
    refine wli rfl rfl rfl (p_eq rfl rfl) ?_
    refine wli_nil ?_
    refine xi_seq ?_
    refine wci_if rfl (fun c1 => ?_) (fun c1 => ?_)
    ·
      have c1 := of_decide_eq_true c1
      refine wci_exit ?_
      refine x_then_exit ?_
      refine x_in_on rfl ?_
      exact wq_stop_exit ⟨rfl, _, _, _, pre, (take_stop hq (by omega)), hb7, (hM.mono (fun k _ h => by first | exact h | exact h.1 | exact h.1.1 | exact h.1.1.1 | exact h.1.1.1.1)), HC⟩ hB
    ·
      have c1 := of_decide_eq_false c1
      refine wci_skip ?_
      refine xi_seq ?_
      refine wci_region ?_
      refine wli rfl rfl rfl (p_ld Tryd.underlying27 rfl rfl (ld (hb7.cell rfl))) ?_
      refine wli rfl rfl rfl (p_ldA (cs := List.map u8v x.1) Tryd.underlying38 rfl (szL sz38 (by rw [List.length_map]; exact hx1)) rfl (fun _ e => e ▸ rngL hb8)) ?_
      refine wli rfl rfl rfl (p_ldA (cs := List.map u8v x.2) Tryd.underlying38 rfl (szL sz38 (by rw [List.length_map]; exact hx2)) rfl (fun _ e => e ▸ rngL hb9)) ?_
      refine wli rfl rfl rfl (p_bldX (vs' := [(.agg ((hx x.1) : List Value).toArray), (.agg ((hx x.2) : List Value).toArray)]) (cs := (((List.map u8v x.1) ++ (List.map u8v x.2)) : List Value)) (cs' := (((hx x.1) ++ (hx x.2)) : List Value)) rfl (by simp only [hv, map_hx hx1, map_hx hx2] <;> rfl) (by simp only [hv, map_hx hx1, map_hx hx2] <;> rfl) (fun _ => by kernel_rfl)) ?_
      have hltg3 := hb3.lt
      have hltg7 := hb7.lt
      have hltg11 := hBn.lt
      have hltg := hbg.lt
      have hltg8 := hb8.lt
      have hltg9 := hb9.lt
      refine wlie rfl (by repeat (first | with_reducible exact no_stop | with_reducible exact no_false | with_reducible apply no_then | with_reducible apply no_in)) (e_bslX (E := 81) (cs := (((List.map u8v x.1) ++ (List.map u8v x.2)) : List Value)) (cs' := (((hx x.1) ++ (hx x.2)) : List Value)) rfl rfl (by simp only [hv, map_hx hx1, map_hx hx2] <;> rfl) (fun _ => by kernel_rfl) (fun w8 g25 hg25 hb25 hc hsz25 => ?_))
      have hzw8 := hc.size
      have HC := HC.tr hc
      have hB := hB.tr hc
      have hb3 := hb3.ch hc (fun h => h)
      have hb7 := hb7.ch hc (fun h => h)
      have hM := hM.after hc
      have hBn := hBn.ch hc (fun h => h)
      have hbg := hbg.ch hc (fun h => h)
      have hXt := hXt.ch hc (by first | exact fun _ _ h => h | (intro a ha ht; have h2 := htl a ha; first | omega | (dsimp only at *; omega)))
      have hb8 := hb8.ch hc (fun h => h)
      have hb9 := hb9.ch hc (fun h => h)
      have hge25 : w.heap.size ≤ g25 := by have := HC.size; omega
      have hS25 := SI.oneA (E := eIT) (x := (x.1, x.2)) hb25 rfl ⟨hx1, hx2⟩
      have hltg3 := hb3.lt
      have hltg7 := hb7.lt
      have hltg11 := hBn.lt
      have hltg := hbg.lt
      have hltg8 := hb8.lt
      have hltg9 := hb9.lt
      refine wlie rfl (by repeat (first | with_reducible exact no_stop | with_reducible exact no_false | with_reducible apply no_then | with_reducible apply no_in)) (e_appI rfl el27 rfl rfl hM (hS25) (by omega) (by intro k hk; first | omega | (dsimp only at *; omega)) (fun w9 A26 c26 hM hc => ?_))
      have hzw9 := hc.size
      have HC := HC.trans hc (fun _ _ h => h) (fun k hk ht => absurd ht (by first | omega | (dsimp only at *; omega)))
      have hB := hB.trans hc (fun _ _ h => h) (fun k hk ht => by first | omega | (dsimp only at *; omega))
      have hb3 := hb3.ch hc (by first | omega | (dsimp only; omega))
      have hb7 := hb7.ch hc (by first | omega | (dsimp only; omega))
      have hBn := hBn.ch hc (by first | omega | (dsimp only; omega))
      have hbg := hbg.ch hc (by first | omega | (dsimp only; omega))
      have hXt := hXt.ch hc (by first | exact fun _ _ h => h | (intro a ha ht; have h2 := htl a ha; first | omega | (dsimp only at *; omega)))
      have hb8 := hb8.ch hc (by first | omega | (dsimp only; omega))
      have hb9 := hb9.ch hc (by first | omega | (dsimp only; omega))
      first | have hS25 := hS25.ch hc (by intro k hk ht; first | omega | (dsimp only at *; omega)) | have hS25 := hS25.chT hc (by intro k hz hk ht; first | omega | (dsimp only at *; omega))
      refine wlie rfl (by repeat (first | with_reducible exact no_stop | with_reducible exact no_false | with_reducible apply no_then | with_reducible apply no_in)) (e_st1 (by rfl) rfl rfl rfl hb7 (fun w10 hb7 hc hsz => ?_))
      have hzw10 := hc.size
      have HC := HC.trans hc (fun _ _ h => h) (fun k hk ht => absurd ht (by omega))
      have hB := hB.trans hc (fun _ _ h => h) (fun k hk ht => by first | omega | (dsimp only at *; omega))
      have hb3 := hb3.ch hc (by omega)
      have hM := hM.ch hc (by intro k hz hk ht; first | omega | (dsimp only at *; omega))
      have hBn := hBn.ch hc (by omega)
      have hbg := hbg.ch hc (by omega)
      have hXt := hXt.ch hc (by first | exact fun _ _ h => h | (intro a ha ht; have h2 := htl a ha; first | omega | (dsimp only at *; omega)))
      have hb8 := hb8.ch hc (by omega)
      have hb9 := hb9.ch hc (by omega)
      first | have hS25 := hS25.ch hc (by intro k hk ht; first | omega | (dsimp only at *; omega)) | have hS25 := hS25.chT hc (by intro k hz hk ht; first | omega | (dsimp only at *; omega))
      refine wli_nil ?_
      refine x_in_normal ?_
      exact wq_stop ⟨_, _, _, (by simp only [List.length_append, List.length_singleton]; omega), hb3, hb7, (hM.mono (fun k _ h => by first | exact h | exact h.1 | exact h.1.1 | exact h.1.1.1 | exact h.1.1.1.1)), hBn, hbg, hXt, HC⟩ hB
  case hdone =>
    rintro xs W a' hS ⟨A, l, c, hle, hb3, hb7, hM, hBn, hbg, hXt, HC⟩ hK F'
    refine wqd_ap ?_ F'
    have hzW := HC.size
    have hys := take_done (n := n) hS hle
    refine xd_in_normal ?_
    refine xd_seq ?_
    refine wcd_seq ?_
    refine wcd_region ?_
    refine wld rfl rfl rfl (p_ld Tryd.underlying27 rfl rfl (ld (hb7.cell rfl))) ?_
    refine wld rfl rfl rfl (p_as rfl) ?_
    refine wld rfl rfl rfl (p_as rfl) ?_
    refine wld_nil ?_
    refine xd_seq ?_
    refine wcd_ret ?_
    refine fin_runM hK (fun w11 hc hsz => ?_)
    have hzw11 := hc.size
    have HC := HC.trans hc (fun _ _ h => h) (fun k hk ht => absurd ht (by omega))
    have hb3 := hb3.ch hc (by omega)
    have hb7 := hb7.ch hc (by omega)
    have hM := hM.ch hc (by intro k hz hk ht; first | omega | (dsimp only at *; omega))
    have hBn := hBn.ch hc (by omega)
    have hbg := hbg.ch hc (by omega)
    have hXt := hXt.ch hc (by first | exact fun _ _ h => h | (intro a ha ht; have h2 := htl a ha; first | omega | (dsimp only at *; omega)))
    refine ⟨_, (res2 rfl rfl rfl), ?_⟩
    exact ⟨_, _, _, _, rfl, hM.mono (fun k _ h => by have h2 : n0 ≤ k := h; show w.heap.size ≤ k; omega), hys, HC⟩
  case hstop =>
    rintro c xs W a' hS ⟨rfl, A, l, c, ys, hys, hb7, hM, HC⟩ hK F'
    refine wp_exit (wqd_ap ?_ F')
    have hzW := HC.size
    refine xd_in_here ?_
    refine xd_seq ?_
    refine wcd_seq ?_
    refine wcd_region ?_
    refine wld rfl rfl rfl (p_ld Tryd.underlying27 rfl rfl (ld (hb7.cell rfl))) ?_
    refine wld rfl rfl rfl (p_as rfl) ?_
    refine wld rfl rfl rfl (p_as rfl) ?_
    refine wld_nil ?_
    refine xd_seq ?_
    refine wcd_ret ?_
    refine fin_runM hK (fun w12 hc hsz => ?_)
    have hzw12 := hc.size
    have HC := HC.trans hc (fun _ _ h => h) (fun k hk ht => absurd ht (by omega))
    have hb7 := hb7.ch hc (by omega)
    have hM := hM.ch hc (by intro k hz hk ht; first | omega | (dsimp only at *; omega))
    refine ⟨_, (res2 rfl rfl rfl), ?_⟩
    exact ⟨_, _, _, _, rfl, hM.mono (fun k _ h => by have h2 : n0 ≤ k := h; show w.heap.size ≤ k; omega), hys, HC⟩

set_option maxHeartbeats 1000000 in
set_option maxRecDepth 20000 in
theorem items_none {w : World} {g : Nat} {n : Int} (hbg : Blk w g 41 [.pointer none, .bool true].toArray) :
    Calls Tryd.prog 48 #[ndp g, i64 n] w fun e w' => ∃ A l c ys, e = .returned (.tuple #[.slice A l c, .bool true]) ∧ RI w' (fun k => w.heap.size ≤ k) 81 eIT A l c ys ∧ ys = (if n < 0 then ([] : List (List UInt8 × List UInt8)) else ([] : List (List UInt8 × List UInt8)).take n.toNat) ∧ Ch No w w' := by
  have hltg := hbg.lt
  have HC : Ch No w w := Ch.refl _ _
  refine enterM (args := [ndp g, i64 n]) (n := 28) Tryd.func48 rfl rfl rfl ?_
  refine wc_seq ?_
  refine wc_region ?_
  have hltg := hbg.lt
  refine wle rfl (e_box (cs := #[_]) rfl rfl rfl (fun w1 g3 hg3 hb3 hc hsz3 => ?_))
  have hzw1 := hc.size
  have HC := HC.tr hc
  have hbg := hbg.ch hc (fun h => h)
  have hge3 : w.heap.size ≤ g3 := by have := HC.size; omega
  have neg_3 : g < g3 := by omega
  refine wl rfl rfl rfl (p_as rfl) ?_
  refine wl rfl rfl rfl (p_as rfl) ?_
  refine wl_nil ?_
  refine x_seq ?_
  refine wc_seq ?_
  refine wc_region ?_
  refine wl rfl rfl rfl (p_mv rfl) ?_
  refine wle rfl (e_call ent69 rfl rfl (all_ptr (g := g)) ?_)
  rintro _ w2 ⟨g11, rfl, hgB11, hBn, hc⟩
  refine ⟨_, rfl, ?_⟩
  have hzw2 := hc.size
  have HC := HC.tr hc
  have hbg := hbg.ch hc (fun h => h)
  have hb3 := hb3.ch hc (fun h => h)
  refine wl rfl rfl rfl (p_as rfl) ?_
  refine wl_nil ?_
  refine x_seq ?_
  refine wc_seq ?_
  refine wc_seq ?_
  refine wc_region ?_
  refine wl rfl rfl rfl (p_mv rfl) ?_
  refine wl rfl rfl rfl (p_eqFN rfl rfl Tryd.underlying121) ?_
  refine wl_nil ?_
  refine x_seq ?_
  refine wc_no rfl (rfl) ?_
  refine wc_skip ?_
  refine x_seq ?_
  refine wc_seq ?_
  refine wc_region ?_
  have hltg := hbg.lt
  have hltg3 := hb3.lt
  have hltg11 := hBn.lt
  refine wle rfl (e_alloc (cs := #[.slice none 0 0]) rfl (by rfl) rfl (fun w3 g7 hg7 hb7 hc hsz7 => ?_))
  have hzw3 := hc.size
  have HC := HC.tr hc
  have hbg := hbg.ch hc (fun h => h)
  have hb3 := hb3.ch hc (fun h => h)
  have hBn := hBn.ch hc (fun h => h)
  have hge7 : w.heap.size ≤ g7 := by have := HC.size; omega
  have neg_7 : g < g7 := by omega
  have neg3_7 : g3 < g7 := by omega
  have neg11_7 : g11 < g7 := by omega
  refine wl_nil ?_
  refine x_seq ?_
  refine wc_seq ?_
  refine wc_seq ?_
  refine wc_region ?_
  refine wl rfl rfl rfl (p_mv rfl) ?_
  refine wl_nil ?_
  refine x_seq ?_
  refine wc_block ?_
  obtain ⟨n0, hn0⟩ : ∃ z, z = w3.heap.size + 2 := ⟨_, rfl⟩
  have hn0w : w.heap.size + 2 ≤ n0 := by have := HC.size; omega
  have hM : RI w3 (fun k => n0 ≤ k) 81 eIT none 0 0 [] := RI.nil _ _ _ _
  have hltg3 := hb3.lt
  have hltg7 := hb7.lt
  have hltg11 := hBn.lt
  have hltg := hbg.lt
  have hz0 := HC.size
  refine wc_rangeS (m := 0) rfl (enters_of Tryd.func97 (by kernel_rfl) rfl) (fun x : List UInt8 × List UInt8 => #[hv x.1, hv x.2]) (fun _ => rfl) (fun (pre : List (List UInt8 × List UInt8)) (x : List UInt8 × List UInt8) => ∃ q, ([] : List (List UInt8 × List UInt8)) = pre ++ x :: q) (fun xs => xs = ([] : List (List UInt8 × List UInt8))) (fun _ => True) (fun W => Blk W g11 25 #[ndp g] ∧ Blk W g 41 [.pointer none, .bool true].toArray) ?hseq (fun xs W => ∃ A : Option Addr, ∃ l : Nat, ∃ c : Nat, (n < 0 ∨ (xs.length : Int) ≤ n) ∧ (Blk W g3 3 #[i64 n]) ∧ (Blk W g7 27 #[.slice A l c]) ∧ (RI W (fun k => n0 ≤ k) 81 eIT A l c xs) ∧ (Blk W g11 25 #[ndp g]) ∧ (Blk W g 41 [.pointer none, .bool true].toArray) ∧ (Ch No w W)) (fun c xs W => c = (Code.exit 0) ∧ ∃ A : Option Addr, ∃ l : Nat, ∃ c : Nat, ∃ ys : List (List UInt8 × List UInt8), (ys = (if n < 0 then ([] : List (List UInt8 × List UInt8)) else ([] : List (List UInt8 × List UInt8)).take n.toNat)) ∧ (Blk W g7 27 #[.slice A l c]) ∧ (RI W (fun k => n0 ≤ k) 81 eIT A l c ys) ∧ (Ch No w W)) ?hI ?hIx ?hIl ?hIxl ?hXI ?h0 ?hround ?hdone ?hstop
  case hseq =>
    intro l J Jx W hcW hsW hJ hJx hXJ hY hJ0
    exact (alls_none (m := 0) (fun xs A h => hXJ xs A h) hJ hJx hJ0).mono (fun e w' h => ⟨⟨_, h.1⟩, h.2⟩)
  case hI =>
    rintro xs A B ⟨A, l, c, hle, hb3, hb7, hM, hBn, hbg, HC⟩ hc
    have hzB := hc.size
    have HC := HC.tr hc
    have hb3 := hb3.ch hc (fun h => h)
    have hb7 := hb7.ch hc (fun h => h)
    have hM := hM.no hc
    have hBn := hBn.ch hc (fun h => h)
    have hbg := hbg.ch hc (fun h => h)
    exact ⟨A, l, c, hle, hb3, hb7, hM, hBn, hbg, HC⟩
  case hIx =>
    rintro c xs A B ⟨hcx, A, l, c, ys, hys, hb7, hM, HC⟩ hc
    have hzB := hc.size
    have HC := HC.tr hc
    have hb7 := hb7.ch hc (fun h => h)
    have hM := hM.no hc
    exact ⟨hcx, A, l, c, ys, hys, hb7, hM, HC⟩
  case hIl =>
    rintro xs A B ⟨A, l, c, hle, hb3, hb7, hM, hBn, hbg, HC⟩ hc
    have hzB := hc.size
    have HC := HC.trans hc (fun _ _ h => h) (fun k hk ht => absurd ht (by omega))
    have hb3 := hb3.ch hc (by omega)
    have hb7 := hb7.ch hc (by omega)
    have hM := hM.ch hc (by intro k hz hk ht; first | omega | (dsimp only at *; omega))
    have hBn := hBn.ch hc (by omega)
    have hbg := hbg.ch hc (by omega)
    exact ⟨A, l, c, hle, hb3, hb7, hM, hBn, hbg, HC⟩
  case hIxl =>
    rintro c xs A B ⟨hcx, A, l, c, ys, hys, hb7, hM, HC⟩ hc
    have hzB := hc.size
    have HC := HC.trans hc (fun _ _ h => h) (fun k hk ht => absurd ht (by omega))
    have hb7 := hb7.ch hc (by omega)
    have hM := hM.ch hc (by intro k hz hk ht; first | omega | (dsimp only at *; omega))
    exact ⟨hcx, A, l, c, ys, hys, hb7, hM, HC⟩
  case hXI =>
    rintro xs W ⟨A, l, c, hle, hb3, hb7, hM, hBn, hbg, HC⟩
    exact ⟨hBn, hbg⟩
  case h0 =>
    intro W hc hs
    have hzW := hc.size
    have HC := HC.tr hc
    have hb3 := hb3.ch hc (fun h => h)
    have hb7 := hb7.ch hc (fun h => h)
    have hM := hM.no hc
    have hBn := hBn.ch hc (fun h => h)
    have hbg := hbg.ch hc (fun h => h)
    exact ⟨none, 0, 0, (by simp; omega), hb3, hb7, (hM.mono (fun k _ h => by first | exact h | exact h.1)), hBn, hbg, HC⟩
  case hround =>
    intro l pre x W hl hD hsz hI a F
    subst hl
    obtain ⟨A, l, c, hle, hb3, hb7, hM, hBn, hbg, HC⟩ := hI
    have hzW := HC.size
    have hD : ∃ q, ([] : List (List UInt8 × List UInt8)) = pre ++ x :: q := hD
    obtain ⟨q, hq⟩ := hD
    have hx1 : x.1.length = 32 := absurd hq (by simp)
    have hx2 : x.2.length = 32 := absurd hq (by simp)
    have hp0 : pre.length ≤ 1000 := absurd hq (by simp)
    have hMl := hM.len
    refine (?_ : WCi _ _ _ _ _ _ _ _) _ (F.hand2 rfl rfl)
    have hB : Ch (fun k => k ≠ w3.heap.size + 1 ∧ k ≠ w3.heap.size) W W := Ch.refl _ _
    refine wci_seq ?_
    refine wci_region ?_
    have hltg3 := hb3.lt
    have hltg7 := hb7.lt
    have hltg11 := hBn.lt
    have hltg := hbg.lt
    refine wlie rfl (by repeat (first | with_reducible exact no_stop | with_reducible exact no_false | with_reducible apply no_then | with_reducible apply no_in)) (e_alloc (cs := ((List.replicate 32 (0 : UInt8)).map u8v).toArray) rfl (by rfl) rfl (fun w4 g8 hg8 hb8 hc hsz8 => ?_))
    have hzw4 := hc.size
    have HC := HC.tr hc
    have hB := hB.tr hc
    have hb3 := hb3.ch hc (fun h => h)
    have hb7 := hb7.ch hc (fun h => h)
    have hM := hM.after hc
    have hBn := hBn.ch hc (fun h => h)
    have hbg := hbg.ch hc (fun h => h)
    have hge8 : w.heap.size ≤ g8 := by have := HC.size; omega
    have neg3_8 : g3 < g8 := by omega
    have neg7_8 : g7 < g8 := by omega
    have neg11_8 : g11 < g8 := by omega
    have neg_8 : g < g8 := by omega
    refine wlie rfl (by repeat (first | with_reducible exact no_stop | with_reducible exact no_false | with_reducible apply no_then | with_reducible apply no_in)) (e_stW (vs := List.map u8v x.1) (szL sz38 (by rw [List.length_map]; exact hx1)) (oneL one_u8 _) rfl rfl hb8 (by simp only [List.size_toArray, List.length_map]; first | done | exact ((List.length_replicate ..)).trans (hx1).symm) (fun w5 hb8 hc hsz => ?_))
    have hzw5 := hc.size
    have HC := HC.trans hc (fun _ _ h => h) (fun k hk ht => absurd ht (by omega))
    have hB := hB.trans hc (fun _ _ h => h) (fun k hk ht => by first | omega | (dsimp only at *; omega))
    have hb3 := hb3.ch hc (by omega)
    have hb7 := hb7.ch hc (by omega)
    have hM := hM.ch hc (by intro k hz hk ht; first | omega | (dsimp only at *; omega))
    have hBn := hBn.ch hc (by omega)
    have hbg := hbg.ch hc (by omega)
    refine wli_nil ?_
    refine xi_seq ?_
    refine wci_region ?_
    have hltg3 := hb3.lt
    have hltg7 := hb7.lt
    have hltg11 := hBn.lt
    have hltg := hbg.lt
    have hltg8 := hb8.lt
    refine wlie rfl (by repeat (first | with_reducible exact no_stop | with_reducible exact no_false | with_reducible apply no_then | with_reducible apply no_in)) (e_alloc (cs := ((List.replicate 32 (0 : UInt8)).map u8v).toArray) rfl (by rfl) rfl (fun w6 g9 hg9 hb9 hc hsz9 => ?_))
    have hzw6 := hc.size
    have HC := HC.tr hc
    have hB := hB.tr hc
    have hb3 := hb3.ch hc (fun h => h)
    have hb7 := hb7.ch hc (fun h => h)
    have hM := hM.after hc
    have hBn := hBn.ch hc (fun h => h)
    have hbg := hbg.ch hc (fun h => h)
    have hb8 := hb8.ch hc (fun h => h)
    have hge9 : w.heap.size ≤ g9 := by have := HC.size; omega
    have neg3_9 : g3 < g9 := by omega
    have neg7_9 : g7 < g9 := by omega
    have neg11_9 : g11 < g9 := by omega
    have neg_9 : g < g9 := by omega
    have neg8_9 : g8 < g9 := by omega
    refine wlie rfl (by repeat (first | with_reducible exact no_stop | with_reducible exact no_false | with_reducible apply no_then | with_reducible apply no_in)) (e_stW (vs := List.map u8v x.2) (szL sz38 (by rw [List.length_map]; exact hx2)) (oneL one_u8 _) rfl rfl hb9 (by simp only [List.size_toArray, List.length_map]; first | done | exact ((List.length_replicate ..)).trans (hx2).symm) (fun w7 hb9 hc hsz => ?_))
    have hzw7 := hc.size
    have HC := HC.trans hc (fun _ _ h => h) (fun k hk ht => absurd ht (by omega))
    have hB := hB.trans hc (fun _ _ h => h) (fun k hk ht => by first | omega | (dsimp only at *; omega))
    have hb3 := hb3.ch hc (by omega)
    have hb7 := hb7.ch hc (by omega)
    have hM := hM.ch hc (by intro k hz hk ht; first | omega | (dsimp only at *; omega))
    have hBn := hBn.ch hc (by omega)
    have hbg := hbg.ch hc (by omega)
    have hb8 := hb8.ch hc (by omega)
    refine wli_nil ?_
    refine xi_asg hB (fun W2 hc hsW => ?_)
    have hzW2 := hc.size
    have HC := HC.trans hc (fun _ _ h => h) (fun k hk ht => absurd ht (by omega))
    have hb3 := hb3.ch hc (by omega)
    have hb7 := hb7.ch hc (by omega)
    have hM := hM.ch hc (by intro k hz hk ht; first | omega | (dsimp only at *; omega))
    have hBn := hBn.ch hc (by omega)
    have hbg := hbg.ch hc (by omega)
    have hb8 := hb8.ch hc (by omega)
    have hb9 := hb9.ch hc (by omega)
    have hB : Ch (fun k => k ≠ w3.heap.size + 1 ∧ k ≠ w3.heap.size) W2 W2 := Ch.refl _ _
    refine wci_block ?_
    refine wci_seq ?_
    refine wci_seq ?_
    refine wci_region ?_
    refine wli rfl rfl rfl (p_ld Tryd.underlying27 rfl rfl (ld (hb7.cell rfl))) ?_
    refine wli rfl rfl rfl (p_lenS Tryd.underlying27 rfl) ?_
    refine wli rfl rfl rfl (p_ld Tryd.underlying3 rfl rfl (ld (hb3.cell rfl))) ?_
    refine wli rfl rfl rfl (p_eq rfl rfl) ?_
    refine wli_nil ?_
    refine xi_seq ?_
    refine wci_if rfl (fun c1 => ?_) (fun c1 => ?_)
    ·
      have c1 := of_decide_eq_true c1
      refine wci_exit ?_
      refine x_then_exit ?_
      refine x_in_on rfl ?_
      exact wq_stop_exit ⟨rfl, _, _, _, pre, (take_stop hq (by omega)), hb7, (hM.mono (fun k _ h => by first | exact h | exact h.1 | exact h.1.1 | exact h.1.1.1 | exact h.1.1.1.1)), HC⟩ hB
    ·
      have c1 := of_decide_eq_false c1
      refine wci_skip ?_
      refine xi_seq ?_
      refine wci_region ?_
      refine wli rfl rfl rfl (p_ld Tryd.underlying27 rfl rfl (ld (hb7.cell rfl))) ?_
      refine wli rfl rfl rfl (p_ldA (cs := List.map u8v x.1) Tryd.underlying38 rfl (szL sz38 (by rw [List.length_map]; exact hx1)) rfl (fun _ e => e ▸ rngL hb8)) ?_
      refine wli rfl rfl rfl (p_ldA (cs := List.map u8v x.2) Tryd.underlying38 rfl (szL sz38 (by rw [List.length_map]; exact hx2)) rfl (fun _ e => e ▸ rngL hb9)) ?_
      refine wli rfl rfl rfl (p_bldX (vs' := [(.agg ((hx x.1) : List Value).toArray), (.agg ((hx x.2) : List Value).toArray)]) (cs := (((List.map u8v x.1) ++ (List.map u8v x.2)) : List Value)) (cs' := (((hx x.1) ++ (hx x.2)) : List Value)) rfl (by simp only [hv, map_hx hx1, map_hx hx2] <;> rfl) (by simp only [hv, map_hx hx1, map_hx hx2] <;> rfl) (fun _ => by kernel_rfl)) ?_
      have hltg3 := hb3.lt
      have hltg7 := hb7.lt
      have hltg11 := hBn.lt
      have hltg := hbg.lt
      have hltg8 := hb8.lt
      have hltg9 := hb9.lt
      refine wlie rfl (by repeat (first | with_reducible exact no_stop | with_reducible exact no_false | with_reducible apply no_then | with_reducible apply no_in)) (e_bslX (E := 81) (cs := (((List.map u8v x.1) ++ (List.map u8v x.2)) : List Value)) (cs' := (((hx x.1) ++ (hx x.2)) : List Value)) rfl rfl (by simp only [hv, map_hx hx1, map_hx hx2] <;> rfl) (fun _ => by kernel_rfl) (fun w8 g25 hg25 hb25 hc hsz25 => ?_))
      have hzw8 := hc.size
      have HC := HC.tr hc
      have hB := hB.tr hc
      have hb3 := hb3.ch hc (fun h => h)
      have hb7 := hb7.ch hc (fun h => h)
      have hM := hM.after hc
      have hBn := hBn.ch hc (fun h => h)
      have hbg := hbg.ch hc (fun h => h)
      have hb8 := hb8.ch hc (fun h => h)
      have hb9 := hb9.ch hc (fun h => h)
      have hge25 : w.heap.size ≤ g25 := by have := HC.size; omega
      have hS25 := SI.oneA (E := eIT) (x := (x.1, x.2)) hb25 rfl ⟨hx1, hx2⟩
      have hltg3 := hb3.lt
      have hltg7 := hb7.lt
      have hltg11 := hBn.lt
      have hltg := hbg.lt
      have hltg8 := hb8.lt
      have hltg9 := hb9.lt
      refine wlie rfl (by repeat (first | with_reducible exact no_stop | with_reducible exact no_false | with_reducible apply no_then | with_reducible apply no_in)) (e_appI rfl el27 rfl rfl hM (hS25) (by omega) (by intro k hk; first | omega | (dsimp only at *; omega)) (fun w9 A26 c26 hM hc => ?_))
      have hzw9 := hc.size
      have HC := HC.trans hc (fun _ _ h => h) (fun k hk ht => absurd ht (by first | omega | (dsimp only at *; omega)))
      have hB := hB.trans hc (fun _ _ h => h) (fun k hk ht => by first | omega | (dsimp only at *; omega))
      have hb3 := hb3.ch hc (by first | omega | (dsimp only; omega))
      have hb7 := hb7.ch hc (by first | omega | (dsimp only; omega))
      have hBn := hBn.ch hc (by first | omega | (dsimp only; omega))
      have hbg := hbg.ch hc (by first | omega | (dsimp only; omega))
      have hb8 := hb8.ch hc (by first | omega | (dsimp only; omega))
      have hb9 := hb9.ch hc (by first | omega | (dsimp only; omega))
      first | have hS25 := hS25.ch hc (by intro k hk ht; first | omega | (dsimp only at *; omega)) | have hS25 := hS25.chT hc (by intro k hz hk ht; first | omega | (dsimp only at *; omega))
      refine wlie rfl (by repeat (first | with_reducible exact no_stop | with_reducible exact no_false | with_reducible apply no_then | with_reducible apply no_in)) (e_st1 (by rfl) rfl rfl rfl hb7 (fun w10 hb7 hc hsz => ?_))
      have hzw10 := hc.size
      have HC := HC.trans hc (fun _ _ h => h) (fun k hk ht => absurd ht (by omega))
      have hB := hB.trans hc (fun _ _ h => h) (fun k hk ht => by first | omega | (dsimp only at *; omega))
      have hb3 := hb3.ch hc (by omega)
      have hM := hM.ch hc (by intro k hz hk ht; first | omega | (dsimp only at *; omega))
      have hBn := hBn.ch hc (by omega)
      have hbg := hbg.ch hc (by omega)
      have hb8 := hb8.ch hc (by omega)
      have hb9 := hb9.ch hc (by omega)
      first | have hS25 := hS25.ch hc (by intro k hk ht; first | omega | (dsimp only at *; omega)) | have hS25 := hS25.chT hc (by intro k hz hk ht; first | omega | (dsimp only at *; omega))
      refine wli_nil ?_
      refine x_in_normal ?_
      exact wq_stop ⟨_, _, _, (by simp only [List.length_append, List.length_singleton]; omega), hb3, hb7, (hM.mono (fun k _ h => by first | exact h | exact h.1 | exact h.1.1 | exact h.1.1.1 | exact h.1.1.1.1)), hBn, hbg, HC⟩ hB
  case hdone =>
    rintro xs W a' hS ⟨A, l, c, hle, hb3, hb7, hM, hBn, hbg, HC⟩ hK F'
    refine wqd_ap ?_ F'
    have hzW := HC.size
    have hys := take_done (n := n) hS hle
    refine xd_in_normal ?_
    refine xd_seq ?_
    refine wcd_seq ?_
    refine wcd_region ?_
    refine wld rfl rfl rfl (p_ld Tryd.underlying27 rfl rfl (ld (hb7.cell rfl))) ?_
    refine wld rfl rfl rfl (p_as rfl) ?_
    refine wld rfl rfl rfl (p_as rfl) ?_
    refine wld_nil ?_
    refine xd_seq ?_
    refine wcd_ret ?_
    refine fin_runM hK (fun w11 hc hsz => ?_)
    have hzw11 := hc.size
    have HC := HC.trans hc (fun _ _ h => h) (fun k hk ht => absurd ht (by omega))
    have hb3 := hb3.ch hc (by omega)
    have hb7 := hb7.ch hc (by omega)
    have hM := hM.ch hc (by intro k hz hk ht; first | omega | (dsimp only at *; omega))
    have hBn := hBn.ch hc (by omega)
    have hbg := hbg.ch hc (by omega)
    refine ⟨_, (res2 rfl rfl rfl), ?_⟩
    exact ⟨_, _, _, _, rfl, hM.mono (fun k _ h => by have h2 : n0 ≤ k := h; show w.heap.size ≤ k; omega), hys, HC⟩
  case hstop =>
    rintro c xs W a' hS ⟨rfl, A, l, c, ys, hys, hb7, hM, HC⟩ hK F'
    refine wp_exit (wqd_ap ?_ F')
    have hzW := HC.size
    refine xd_in_here ?_
    refine xd_seq ?_
    refine wcd_seq ?_
    refine wcd_region ?_
    refine wld rfl rfl rfl (p_ld Tryd.underlying27 rfl rfl (ld (hb7.cell rfl))) ?_
    refine wld rfl rfl rfl (p_as rfl) ?_
    refine wld rfl rfl rfl (p_as rfl) ?_
    refine wld_nil ?_
    refine xd_seq ?_
    refine wcd_ret ?_
    refine fin_runM hK (fun w12 hc hsz => ?_)
    have hzw12 := hc.size
    have HC := HC.trans hc (fun _ _ h => h) (fun k hk ht => absurd ht (by omega))
    have hb7 := hb7.ch hc (by omega)
    have hM := hM.ch hc (by intro k hz hk ht; first | omega | (dsimp only at *; omega))
    refine ⟨_, (res2 rfl rfl rfl), ?_⟩
    exact ⟨_, _, _, _, rfl, hM.mono (fun k _ h => by have h2 : n0 ≤ k := h; show w.heap.size ≤ k; omega), hys, HC⟩

theorem items_made {w : World} {v : Value} {o : Option LT} {F : Nat → Prop} {n : Int} (hV : TR 41 156 F w v o) (hcn : cntT (eo o) ≤ 1000) : Calls Tryd.prog 48 #[v, i64 n] w fun e w' => ∃ A l c ys, e = .returned (.tuple #[.slice A l c, .bool true]) ∧ RI w' (fun k => w.heap.size ≤ k) 81 eIT A l c ys ∧ ys = (if n < 0 then itemsT (eo o) else (itemsT (eo o)).take n.toNat) ∧ Ch No w w' := by
  obtain ⟨g, rfl, hFg, hbg, hT⟩ := hV.opn
  cases o with
  | none => exact items_none hbg
  | some t => exact items_some hbg (hT t rfl).1 hcn

set_option maxHeartbeats 1000000 in
set_option maxRecDepth 20000 in
theorem same_same {w : World}  {Aa Ab : Option Addr} {la ca cb : Nat} {Fa Fb : Nat → Prop} {ms : List (List UInt8 × List UInt8)} (ha : SI w Fa eIT Aa la ca ms) (hb : SI w Fb eIT Ab la cb ms) (hla : la ≤ 1000000) :
    Calls Tryd.prog 49 #[.slice Aa la ca, .slice Ab la cb] w fun e w' => e = .returned (.bool true) ∧ Ch No w w' := by
  have hal := ha.len
  have ha := ha.old
  have hb := hb.old
  have HC : Ch No w w := Ch.refl _ _
  refine enter' (args := [.slice Aa la ca, .slice Ab la cb]) (n := 26) Tryd.func49 rfl rfl rfl ?_
  refine wc_seq ?_
  refine wc_region ?_
  refine wl rfl rfl rfl (p_as rfl) ?_
  refine wl_nil ?_
  refine x_seq ?_
  refine wc_seq ?_
  refine wc_seq ?_
  refine wc_region ?_
  refine wl rfl rfl rfl (p_mv rfl) ?_
  refine wl rfl rfl rfl (p_lenS Tryd.underlying27 rfl) ?_
  refine wl rfl rfl rfl (p_mv rfl) ?_
  refine wl rfl rfl rfl (p_lenS Tryd.underlying27 rfl) ?_
  refine wl rfl rfl rfl (p_ne rfl rfl) ?_
  refine wl_nil ?_
  refine x_seq ?_
  refine wc_no rfl (by simp) ?_
  refine wc_skip ?_
  refine x_seq ?_
  refine wc_seq ?_
  refine wc_seq ?_
  refine wc_region ?_
  refine wl rfl rfl rfl (p_mv rfl) ?_
  refine wl rfl rfl rfl (p_lenS Tryd.underlying27 rfl) ?_
  refine wl rfl rfl rfl (p_mv rfl) ?_
  refine wl_nil ?_
  refine x_seq ?_
  refine wc_block ?_
  refine wc_loop (e' := [(0, .slice Aa la ca), (1, .slice Ab la cb), (12, i64 (la : Int)), (13, i64 ((0) : Int))]) (fun mz ez uz => ∃ i : Nat, mz = la - i ∧ ez = [(0, .slice Aa la ca), (1, .slice Ab la cb), (12, i64 (la : Int)), (13, i64 (i : Int))] ∧ (i ≤ la) ∧ (SI uz (fun k => k < w.heap.size) eIT Aa la ca ms) ∧ (SI uz (fun k => k < w.heap.size) eIT Ab la cb ms) ∧ (Ch No w uz))
    ⟨rfl, rfl, rfl, rfl, trivial⟩ ⟨0, rfl, rfl, (by omega), ha, hb, HC⟩ ?_
  rintro m0 e w1 ⟨i, hm0, rfl, hi, ha, hb, HC⟩
  have hzw1 := HC.size
  refine wc_seq ?_
  refine wc_region ?_
  refine wl rfl rfl rfl (p_lt rfl rfl) ?_
  refine wl_nil ?_
  refine x_seq ?_
  refine wc_seq ?_
  refine wc_if rfl (fun c1 => ?_) (fun c1 => ?_)
  ·
    have c1 := of_decide_eq_true c1
    refine wc_skip ?_
    refine x_seq ?_
    refine wc_seq ?_
    refine wc_block ?_
    refine wc_seq ?_
    refine wc_region ?_
    refine wl rfl rfl rfl (p_mv rfl) ?_
    refine wl rfl rfl rfl (p_as rfl) ?_
    refine wl_nil ?_
    refine x_seq ?_
    refine wc_seq ?_
    refine wc_draw (.st 0 0 (.st 1 0 (.st 2 0 (.st 3 1 (.st 4 0 (.st 5 0 (.st 6 0 (.st 7 1 (.st 8 0 .nil))))))))) 9 (by kernel_rfl) (by kernel_rfl) (by kernel_rfl) (by repeat (first | with_reducible exact pan_body | with_reducible apply pan_then | with_reducible apply pan_in)) (fun x => Ch No w1.drew x) (Ch.refl _ _) ?_
    obtain ⟨w2, ew2⟩ : ∃ x, x = w1.drew := ⟨_, rfl⟩
    rw [← ew2]
    have hc : Ch No w1 w2 := by rw [ew2]; exact Ch.drew _
    have hszw2 : w2.heap.size = w1.heap.size := by rw [ew2]; rfl
    clear ew2
    have hzw2 := hc.size
    have HC := HC.tr hc
    have ha := ha.no hc
    have hb := hb.no hc
    have hS : Ch No w2 w2 := Ch.refl _ _
    refine ws_p rfl rfl rfl rfl (p_mv rfl) ?_
    refine ws_p rfl rfl rfl rfl (p_mv rfl) ?_
    obtain ⟨b3, o3, hA3, hF3, hr3⟩ := (ha).opn (i := i) (d := (zeroH, zeroH)) (by omega)
    have hok3 := (ha).okAt (i := i) (d := (zeroH, zeroH)) (by omega)
    obtain ⟨x3, ex3⟩ : ∃ x, x = List.getD ms (i) (zeroH, zeroH) := ⟨_, rfl⟩
    rw [← ex3] at hr3 hok3
    obtain ⟨hx3k, hx3v⟩ := hok3
    have hr3 : w2.rangeAt b3 (o3 + i * 64) (((List.map u8v x3.1) ++ (List.map u8v x3.2)) : List Value) := hr3
    refine ws_p rfl rfl rfl rfl (p_ixS (j := i * 64) Tryd.underlying27 sz81 rfl hA3 rfl (by omega) (by omega) (congrArg (· * 64) (Int.toNat_natCast _))) ?_
    refine ws_h rfl rfl rfl rfl (p_ldA (cs := (((List.map u8v x3.1) ++ (List.map u8v x3.2)) : List Value)) Tryd.underlying81 rfl (szL sz81 (by first | rfl | (simp only [List.length_append, List.length_map, List.length_cons, List.length_nil, (show List.length x3.1 = 32 from hx3k), (show List.length x3.2 = 32 from hx3v)]; done) | (simp only [List.length_append, List.length_map, List.length_cons, List.length_nil, List.size_toArray, (show List.length x3.1 = 32 from hx3k), (show List.length x3.2 = 32 from hx3v)]; done))) rfl (fun _ h => rng_no hr3 h)) ?_
    refine ws_p rfl rfl rfl rfl (p_mv rfl) ?_
    refine ws_p rfl rfl rfl rfl (p_mv rfl) ?_
    obtain ⟨b4, o4, hA4, hF4, hr4⟩ := (hb).opn (i := i) (d := (zeroH, zeroH)) (by omega)
    have hok4 := (hb).okAt (i := i) (d := (zeroH, zeroH)) (by omega)
    obtain ⟨x4, ex4⟩ : ∃ x, x = List.getD ms (i) (zeroH, zeroH) := ⟨_, rfl⟩
    rw [← ex4] at hr4 hok4
    obtain ⟨hx4k, hx4v⟩ := hok4
    have hr4 : w2.rangeAt b4 (o4 + i * 64) (((List.map u8v x4.1) ++ (List.map u8v x4.2)) : List Value) := hr4
    refine ws_p rfl rfl rfl rfl (p_ixS (j := i * 64) Tryd.underlying27 sz81 rfl hA4 rfl (by omega) (by omega) (congrArg (· * 64) (Int.toNat_natCast _))) ?_
    have hxx : x3 = x4 := ex3.trans ex4.symm
    refine ws_h rfl rfl rfl rfl (p_ldA (cs := (((List.map u8v x4.1) ++ (List.map u8v x4.2)) : List Value)) Tryd.underlying81 rfl (szL sz81 (by first | rfl | (simp only [List.length_append, List.length_map, List.length_cons, List.length_nil, (show List.length x4.1 = 32 from hx4k), (show List.length x4.2 = 32 from hx4v)]; done) | (simp only [List.length_append, List.length_map, List.length_cons, List.length_nil, List.size_toArray, (show List.length x4.1 = 32 from hx4k), (show List.length x4.2 = 32 from hx4v)]; done))) rfl (fun _ h => rng_no hr4 h)) ?_
    refine ws_p rfl rfl rfl rfl (p_neV (by kernel_rfl) rfl rfl (eqv_struct Tryd.underlying81 (by kernel_rfl) (eqf_cons rfl (part_h (cs := (((List.map u8v x3.1) ++ (List.map u8v x3.2)) : List Value)) (p := []) (L := x3.1) (r := ((List.map u8v x3.2) : List Value)) Tryd.underlying38 rfl sz38 (hx3k) (by first | rfl | simp only [List.append_assoc, List.cons_append, List.nil_append, List.append_nil]) rfl) (part_h (cs := (((List.map u8v x4.1) ++ (List.map u8v x4.2)) : List Value)) (p := []) (L := x4.1) (r := ((List.map u8v x4.2) : List Value)) Tryd.underlying38 rfl sz38 (hx4k) (by first | rfl | simp only [List.append_assoc, List.cons_append, List.nil_append, List.append_nil]) rfl) (eqv_hash Tryd.underlying38 Tryd.underlying5 sz5 (hx3k) (hx4k)) (eqf_cons rfl (part_h (cs := (((List.map u8v x3.1) ++ (List.map u8v x3.2)) : List Value)) (p := ((List.map u8v x3.1) : List Value)) (L := x3.2) (r := []) Tryd.underlying38 rfl sz38 (hx3v) (by first | rfl | simp only [List.append_assoc, List.cons_append, List.nil_append, List.append_nil]) (by first | rfl | (simp only [List.length_append, List.length_map, List.length_cons, List.length_nil, (show List.length x3.1 = 32 from hx3k)]; done) | (simp only [List.length_append, List.length_map, List.length_cons, List.length_nil, List.size_toArray, (show List.length x3.1 = 32 from hx3k)]; done))) (part_h (cs := (((List.map u8v x4.1) ++ (List.map u8v x4.2)) : List Value)) (p := ((List.map u8v x4.1) : List Value)) (L := x4.2) (r := []) Tryd.underlying38 rfl sz38 (hx4v) (by first | rfl | simp only [List.append_assoc, List.cons_append, List.nil_append, List.append_nil]) (by first | rfl | (simp only [List.length_append, List.length_map, List.length_cons, List.length_nil, (show List.length x4.1 = 32 from hx4k)]; done) | (simp only [List.length_append, List.length_map, List.length_cons, List.length_nil, List.size_toArray, (show List.length x4.1 = 32 from hx4k)]; done))) (eqv_hash Tryd.underlying38 Tryd.underlying5 sz5 (hx3v) (hx4v)) (eqf_nil))))) ?_
    refine ws_n ?_
    refine x_seq ?_
    refine wc_no rfl (by simp [hxx]) ?_
    refine wc_skip ?_
    refine x_in_normal ?_
    refine x_seq ?_
    refine wc_region ?_
    refine wl rfl rfl rfl (p_add rfl rfl (w64 (by omega))) ?_
    refine wl rfl rfl rfl (p_mv rfl) ?_
    refine wl_nil ?_
    refine x_round (e' := [(0, .slice Aa la ca), (1, .slice Ab la cb), (12, i64 (la : Int)), (13, i64 ((i + 1) : Int))]) ⟨rfl, rfl, rfl, rfl, trivial⟩ (by rw [hm0]; omega) ⟨i + 1, rfl, rfl, (by omega), ha, hb, HC⟩
  ·
    have c1 := of_decide_eq_false c1
    refine wc_exit ?_
    refine x_then_exit ?_
    refine x_then_exit ?_
    refine x_in_here ?_
    refine x_seq ?_
    refine wc_seq ?_
    refine wc_region ?_
    refine wl rfl rfl rfl (p_as rfl) ?_
    refine wl_nil ?_
    refine x_seq ?_
    refine wc_ret ?_
    refine fin_run ((res1 rfl rfl)) ?_
    exact ⟨rfl, HC⟩

theorem same_two {w : World} {Aa Ab : Option Addr} {la lb ca cb : Nat} {Fa Fb : Nat → Prop} {ms : List (H8 × H8)} (ha : SI w Fa eIT Aa la ca ms) (hb : SI w Fb eIT Ab lb cb ms) (hla : la ≤ 1000000) : Calls Tryd.prog 49 #[.slice Aa la ca, .slice Ab lb cb] w fun e w' => e = .returned (.bool true) ∧ Ch No w w' := by
  obtain rfl : la = lb := ha.len.symm.trans hb.len
  exact same_same ha hb hla

theorem rrootO_any {w : World} {o : Option Tr} {Am : Option Addr} {lm cm : Nat} {Fm : Nat → Prop} (hm : SI w Fm eIT Am lm cm (itemsT o)) (hw : WFO o) (hl : lm ≤ 1000000) : Calls Tryd.prog 50 #[.slice Am lm cm] w fun e w' => e = .returned (hv (rootT o)) ∧ Ch No w w' := by
  cases o with
  | none => obtain rfl : lm = 0 := hm.len.symm; exact rroot_nil
  | some t => exact rroot_any t hm (hw t rfl) hl

set_option maxHeartbeats 2000000 in
set_option maxRecDepth 20000 in
theorem trieAlike_walk {w : World}  {Al : Option Addr} {ll cl : Nat} {Fl : Nat → Prop} {l : List AC} {ak av : List UInt8} {adr : Bool} (hin : SI w Fl eAC Al ll cl l) (hak : ak.length = 32) (hav : av.length = 32) (hrnd : Sl w (fun k => k = 0) u32v (some ⟨0, 0, none⟩) 64 64 rk) :
    Calls Tryd.prog 11 #[.slice Al ll cl, .agg ((List.map u8v ak ++ (List.map u8v av ++ [.bool adr])) : List Value).toArray] w fun e w' => e = .returned (.bool true) ∧ Ch No w w' := by
  have hn0 : 0 < w.heap.size := hrnd.size (by omega) rfl
  have hn1 := hn0
  have hinl := hin.len
  have hok := hin.ok
  have hin := hin.old
  have HC : Ch No w w := Ch.refl _ _
  refine enter' (args := [.slice Al ll cl, _]) (n := 95) Tryd.func11 rfl rfl rfl ?_
  refine wc_seq ?_
  refine wc_region ?_
  refine wle rfl (e_box (cs := (((List.map u8v ak) ++ ((List.map u8v av) ++ [.bool adr])) : List Value).toArray) rfl rfl rfl (fun w1 g3 hg3 hb3 hc hsz3 => ?_))
  have hzw1 := hc.size
  have HC := HC.tr hc
  have hin := hin.no hc
  have hrnd := hrnd.no hc
  have hge3 : w.heap.size ≤ g3 := by have := HC.size; omega
  refine wl rfl rfl rfl (p_as rfl) ?_
  refine wl_nil ?_
  refine x_seq ?_
  refine wc_seq ?_
  refine wc_seq ?_
  refine wc_region ?_
  refine wl rfl rfl rfl (p_mv rfl) ?_
  refine wl rfl rfl rfl (p_lenS Tryd.underlying64 rfl) ?_
  refine wl rfl rfl rfl (p_gt rfl rfl) ?_
  refine wl_nil ?_
  refine x_seq ?_
  refine wc_if rfl (fun c0 => ?_) (fun c0 => ?_)
  ·
    have c0 := of_decide_eq_true c0
    refine wc_seq ?_
    refine wc_region ?_
    refine wle rfl (e_call ent40 rfl rfl (lives11_any hrnd) ?_)
    rintro _ w2 ⟨rfl, hc⟩
    refine ⟨_, rfl, ?_⟩
    have hzw2 := hc.size
    have HC := HC.tr hc
    have hin := hin.no hc
    have hrnd := hrnd.no hc
    have hb3 := hb3.ch hc (fun h => h)
    refine wl rfl rfl rfl (p_as rfl) ?_
    refine wl_nil ?_
    refine x_seq ?_
    refine wc_ret ?_
    refine x_then_ret ?_
    refine fin_run ((res1 rfl rfl)) ?_
    exact ⟨rfl, HC⟩
  ·
    have c0 := of_decide_eq_false c0
    refine wc_skip ?_
    refine x_seq ?_
    refine wc_seq ?_
    refine wc_region ?_
    refine wl rfl rfl rfl (p_mv rfl) ?_
    refine wle rfl (e_call ent41 rfl rfl (made11_any hin (by omega)) ?_)
    rintro _ w3 ⟨v21, o21, A21, lm21, cm21, rfl, hV21, heo21, hM21, hc⟩
    refine ⟨_, rfl, ?_⟩
    have hzw3 := hc.size
    have HC := HC.tr hc
    have hin := hin.no hc
    have hrnd := hrnd.no hc
    have hb3 := hb3.ch hc (fun h => h)
    obtain ⟨hwf, hmc⟩ := mkA_all hok
    have hml21 : lm21 = cntT (mkA l) := by rw [← itemsT_cnt]; exact hM21.len.symm
    have hwfo21 : WFO (eo o21) := by rw [heo21]; exact hwf
    have hcn21 : cntT (eo o21) ≤ 40 := by rw [heo21]; omega
    have hV21 := hV21.mono (G := fun k => w.heap.size ≤ k ∧ k < w3.heap.size) (fun k h1 h2 => ⟨by first | exact h2 | exact h2.1 | ((try dsimp only at h2); omega), h1⟩)
    have hM21 := hM21.mono (G := fun k => w.heap.size ≤ k ∧ k < w3.heap.size) (fun k h1 h2 => ⟨by first | exact h2 | exact h2.1 | ((try dsimp only at h2); omega), h1⟩)
    refine wl rfl rfl rfl (p_mv rfl) ?_
    refine wl rfl rfl rfl (p_ext rfl rfl) ?_
    refine wl rfl rfl rfl (p_ext rfl rfl) ?_
    refine wl rfl rfl rfl (p_as rfl) ?_
    refine wl rfl rfl rfl (p_as rfl) ?_
    refine wl_nil ?_
    refine x_seq ?_
    refine wc_seq ?_
    refine wc_region ?_
    refine wl rfl rfl rfl (p_mv rfl) ?_
    refine wl rfl rfl rfl (p_fld (j := 0) Tryd.underlying66 rfl ⟨_, by rfl⟩ rfl rfl) ?_
    refine wl rfl rfl rfl (p_ldA (cs := (List.map u8v ak)) Tryd.underlying38 rfl (szL sz38 (by first | rfl | (simp only [List.length_append, List.length_map, List.length_cons, List.length_nil, (show List.length ak = 32 from hak)]; done) | (simp only [List.length_append, List.length_map, List.length_cons, List.length_nil, List.size_toArray, (show List.length ak = 32 from hak)]; done))) rfl (fun _ e => e ▸ rng_at (p := []) (q := ((List.map u8v ak) : List Value)) (r := (((List.map u8v av) ++ [.bool adr]) : List Value)) hb3 (by simp only [List.append_assoc, List.cons_append, List.nil_append, List.append_nil]) (by first | rfl | (simp only [List.length_append, List.length_map, List.length_cons, List.length_nil]; done) | (simp only [List.length_append, List.length_map, List.length_cons, List.length_nil, List.size_toArray]; done)))) ?_
    refine wl rfl rfl rfl (p_fld (j := 32) Tryd.underlying66 rfl ⟨_, by rfl⟩ rfl rfl) ?_
    refine wl rfl rfl rfl (p_ldA (cs := (List.map u8v av)) Tryd.underlying38 rfl (szL sz38 (by first | rfl | (simp only [List.length_append, List.length_map, List.length_cons, List.length_nil, (show List.length av = 32 from hav)]; done) | (simp only [List.length_append, List.length_map, List.length_cons, List.length_nil, List.size_toArray, (show List.length av = 32 from hav)]; done))) rfl (fun _ e => e ▸ rng_at (p := ((List.map u8v ak) : List Value)) (q := ((List.map u8v av) : List Value)) (r := ([.bool adr] : List Value)) hb3 (by simp only [List.append_assoc, List.cons_append, List.nil_append, List.append_nil]) (by first | rfl | (simp only [List.length_append, List.length_map, List.length_cons, List.length_nil, (show List.length ak = 32 from hak)]; done) | (simp only [List.length_append, List.length_map, List.length_cons, List.length_nil, List.size_toArray, (show List.length ak = 32 from hak)]; done)))) ?_
    refine wle rfl (e_call ent44 rfl rfl (tput_made (F := fun k => w.heap.size ≤ k) (hV21.mono (fun k _ h => by first | exact h.1 | (have h2 := h.1; show w.heap.size ≤ k; omega))) (fun j hj => by show w.heap.size ≤ j; omega) (hak) (hav) (by omega)) ?_)
    rintro _ w4 ⟨v29, t29, rfl, hV29, heq29, hc⟩
    refine ⟨_, rfl, ?_⟩
    have hzw4 := hc.size
    have HC := HC.tr hc
    have hin := hin.no hc
    have hrnd := hrnd.no hc
    have hb3 := hb3.ch hc (fun h => h)
    have hV21 := hV21.ch hc (by first | exact fun _ _ _ h => h | (intro k hk hF ht; have h2 := hF.1; have h3 := hF.2; first | omega | (dsimp only at *; omega)))
    have hM21 := hM21.after hc
    have hV29 := hV29.mono (G := fun k => w.heap.size ≤ k ∧ k < w4.heap.size) (fun k h1 h2 => ⟨by first | exact h2 | exact h2.1 | ((try dsimp only at h2); omega), h1⟩)
    have hcn29 : cntT (eo (some t29)) ≤ 41 := by rw [heq29]; exact Nat.le_trans putT_cnt (by omega)
    have hwf29 : WFO (eo (some t29)) := by rw [heq29]; exact putT_wf hwfo21 hak hav
    refine wl rfl rfl rfl (p_as rfl) ?_
    refine wl_nil ?_
    refine x_seq ?_
    refine wc_seq ?_
    refine wc_region ?_
    refine wl rfl rfl rfl (p_mv rfl) ?_
    refine wl rfl rfl rfl (p_fld (j := 0) Tryd.underlying66 rfl ⟨_, by rfl⟩ rfl rfl) ?_
    refine wl rfl rfl rfl (p_ldA (cs := (List.map u8v ak)) Tryd.underlying38 rfl (szL sz38 (by first | rfl | (simp only [List.length_append, List.length_map, List.length_cons, List.length_nil, (show List.length ak = 32 from hak)]; done) | (simp only [List.length_append, List.length_map, List.length_cons, List.length_nil, List.size_toArray, (show List.length ak = 32 from hak)]; done))) rfl (fun _ e => e ▸ rng_at (p := []) (q := ((List.map u8v ak) : List Value)) (r := (((List.map u8v av) ++ [.bool adr]) : List Value)) hb3 (by simp only [List.append_assoc, List.cons_append, List.nil_append, List.append_nil]) (by first | rfl | (simp only [List.length_append, List.length_map, List.length_cons, List.length_nil]; done) | (simp only [List.length_append, List.length_map, List.length_cons, List.length_nil, List.size_toArray]; done)))) ?_
    refine wle rfl (e_call ent42 rfl rfl (tget_any hV21 (hak)) ?_)
    rintro _ w5 ⟨u34, ok34, rfl, hu34, hg34, hc⟩
    refine ⟨_, rfl, ?_⟩
    have hzw5 := hc.size
    have HC := HC.tr hc
    have hin := hin.no hc
    have hrnd := hrnd.no hc
    have hb3 := hb3.ch hc (fun h => h)
    have hV21 := hV21.ch hc (by first | exact fun _ _ _ h => h | (intro k hk hF ht; have h2 := hF.1; have h3 := hF.2; first | omega | (dsimp only at *; omega)))
    have hM21 := hM21.after hc
    have hV29 := hV29.ch hc (by first | exact fun _ _ _ h => h | (intro k hk hF ht; have h2 := hF.1; have h3 := hF.2; first | omega | (dsimp only at *; omega)))
    obtain ⟨hx34, ho34⟩ : u34 = (getT (eo o21) ak).getD zeroH ∧ ok34 = (getT (eo o21) ak).isSome := by injection hg34 with h1 h2; exact ⟨h1, h2⟩
    refine wl rfl rfl rfl (p_mv rfl) ?_
    refine wl rfl rfl rfl (p_ext rfl rfl) ?_
    refine wl rfl rfl rfl (p_ext rfl rfl) ?_
    have hltg3 := hb3.lt
    refine wle rfl (e_alloc (cs := ((List.replicate 32 (0 : UInt8)).map u8v).toArray) rfl (by rfl) rfl (fun w6 g8 hg8 hb8 hc hsz8 => ?_))
    have hzw6 := hc.size
    have HC := HC.tr hc
    have hin := hin.no hc
    have hrnd := hrnd.no hc
    have hb3 := hb3.ch hc (fun h => h)
    have hV21 := hV21.ch hc (by first | exact fun _ _ _ h => h | (intro k hk hF ht; have h2 := hF.1; have h3 := hF.2; first | omega | (dsimp only at *; omega)))
    have hM21 := hM21.after hc
    have hV29 := hV29.ch hc (by first | exact fun _ _ _ h => h | (intro k hk hF ht; have h2 := hF.1; have h3 := hF.2; first | omega | (dsimp only at *; omega)))
    have hge8 : w.heap.size ≤ g8 := by have := HC.size; omega
    have neg3_8 : g3 < g8 := by omega
    refine wle rfl (e_stW (vs := List.map u8v u34) (szL sz38 (by rw [List.length_map]; exact hu34)) (oneL one_u8 _) rfl rfl hb8 (by simp only [List.size_toArray, List.length_map]; first | done | exact ((List.length_replicate ..)).trans (hu34).symm) (fun w7 hb8 hc hsz => ?_))
    have hzw7 := hc.size
    have HC := HC.trans hc (fun _ _ h => h) (fun k hk ht => absurd ht (by omega))
    first | have hin := hin.ch hc (by intro k hk ht; first | omega | (dsimp only at *; omega)) | have hin := hin.chT hc (by intro k hz hk ht; first | omega | (dsimp only at *; omega))
    first | have hrnd := hrnd.ch hc (by intro k hk ht; first | omega | (dsimp only at *; omega)) | have hrnd := hrnd.chT hc (by intro k hz hk ht; first | omega | (dsimp only at *; omega))
    have hb3 := hb3.ch hc (by omega)
    have hV21 := hV21.ch hc (by first | exact fun _ _ _ h => h | (intro k hk hF ht; have h2 := hF.1; have h3 := hF.2; first | omega | (dsimp only at *; omega)))
    have hM21 := hM21.ch hc (by intro k hz hk ht; first | omega | (dsimp only at *; omega))
    have hV29 := hV29.ch hc (by first | exact fun _ _ _ h => h | (intro k hk hF ht; have h2 := hF.1; have h3 := hF.2; first | omega | (dsimp only at *; omega)))
    refine wl rfl rfl rfl (p_as rfl) ?_
    refine wl_nil ?_
    refine x_seq ?_
    refine wc_seq ?_
    refine wc_region ?_
    refine wl rfl rfl rfl (p_mv rfl) ?_
    refine wl rfl rfl rfl (p_fld (j := 0) Tryd.underlying66 rfl ⟨_, by rfl⟩ rfl rfl) ?_
    refine wl rfl rfl rfl (p_ldA (cs := (List.map u8v ak)) Tryd.underlying38 rfl (szL sz38 (by first | rfl | (simp only [List.length_append, List.length_map, List.length_cons, List.length_nil, (show List.length ak = 32 from hak)]; done) | (simp only [List.length_append, List.length_map, List.length_cons, List.length_nil, List.size_toArray, (show List.length ak = 32 from hak)]; done))) rfl (fun _ e => e ▸ rng_at (p := []) (q := ((List.map u8v ak) : List Value)) (r := (((List.map u8v av) ++ [.bool adr]) : List Value)) hb3 (by simp only [List.append_assoc, List.cons_append, List.nil_append, List.append_nil]) (by first | rfl | (simp only [List.length_append, List.length_map, List.length_cons, List.length_nil]; done) | (simp only [List.length_append, List.length_map, List.length_cons, List.length_nil, List.size_toArray]; done)))) ?_
    refine wle rfl (e_call ent45 rfl rfl (tdrop_made (F := fun k => w.heap.size ≤ k) (hV29.mono (fun k _ h => by first | exact h.1 | (have h2 := h.1; show w.heap.size ≤ k; omega))) (fun j hj => by show w.heap.size ≤ j; omega) (hak)) ?_)
    rintro _ w8 ⟨v40, o40, rfl, hV40, heq40, hc⟩
    refine ⟨_, rfl, ?_⟩
    have hzw8 := hc.size
    have HC := HC.tr hc
    have hin := hin.no hc
    have hrnd := hrnd.no hc
    have hb3 := hb3.ch hc (fun h => h)
    have hV21 := hV21.ch hc (by first | exact fun _ _ _ h => h | (intro k hk hF ht; have h2 := hF.1; have h3 := hF.2; first | omega | (dsimp only at *; omega)))
    have hM21 := hM21.after hc
    have hV29 := hV29.ch hc (by first | exact fun _ _ _ h => h | (intro k hk hF ht; have h2 := hF.1; have h3 := hF.2; first | omega | (dsimp only at *; omega)))
    have hb8 := hb8.ch hc (fun h => h)
    have hV40 := hV40.mono (G := fun k => w.heap.size ≤ k ∧ k < w8.heap.size) (fun k h1 h2 => ⟨by first | exact h2 | exact h2.1 | ((try dsimp only at h2); omega), h1⟩)
    have hcn40 : cntT (eo o40) ≤ 41 := by rw [heq40]; exact Nat.le_trans (dropT_cnt hwf29) hcn29
    have hwf40 : WFO (eo o40) := by rw [heq40]; exact dropT_wf hwf29
    refine wl rfl rfl rfl (p_as rfl) ?_
    refine wl_nil ?_
    refine x_seq ?_
    refine wc_seq ?_
    refine wc_seq ?_
    refine wc_region ?_
    refine wl rfl rfl rfl (p_mv rfl) ?_
    refine wl_nil ?_
    refine x_seq ?_
    refine wc_if rfl (fun c1 => ?_) (fun c1 => ?_)
    ·
      have ho34b : ok34 = true := by simpa using c1
      obtain ⟨gv, hgv⟩ : ∃ q, getT (eo o21) ak = some q := Option.isSome_iff_exists.1 (ho34.symm.trans ho34b)
      have hal := alike_ok (x := zeroH) hwfo21 hak hav
      rw [hgv] at hal
      refine wc_region ?_
      refine wl rfl rfl rfl (p_mv rfl) ?_
      refine wl rfl rfl rfl (p_fld (j := 0) Tryd.underlying66 rfl ⟨_, by rfl⟩ rfl rfl) ?_
      refine wl rfl rfl rfl (p_ldA (cs := (List.map u8v ak)) Tryd.underlying38 rfl (szL sz38 (by first | rfl | (simp only [List.length_append, List.length_map, List.length_cons, List.length_nil, (show List.length ak = 32 from hak)]; done) | (simp only [List.length_append, List.length_map, List.length_cons, List.length_nil, List.size_toArray, (show List.length ak = 32 from hak)]; done))) rfl (fun _ e => e ▸ rng_at (p := []) (q := ((List.map u8v ak) : List Value)) (r := (((List.map u8v av) ++ [.bool adr]) : List Value)) hb3 (by simp only [List.append_assoc, List.cons_append, List.nil_append, List.append_nil]) (by first | rfl | (simp only [List.length_append, List.length_map, List.length_cons, List.length_nil]; done) | (simp only [List.length_append, List.length_map, List.length_cons, List.length_nil, List.size_toArray]; done)))) ?_
      refine wl rfl rfl rfl (p_ldA (cs := List.map u8v u34) Tryd.underlying38 rfl (szL sz38 (by rw [List.length_map]; exact hu34)) rfl (fun _ e => e ▸ rngL hb8)) ?_
      refine wle rfl (e_call ent44 rfl rfl (tput_made (F := fun k => w.heap.size ≤ k) (hV40.mono (fun k _ h => by first | exact h.1 | (have h2 := h.1; show w.heap.size ≤ k; omega))) (fun j hj => by show w.heap.size ≤ j; omega) (hak) (hu34) (by omega)) ?_)
      rintro _ w9 ⟨v46, t46, rfl, hV46, heq46, hc⟩
      refine ⟨_, rfl, ?_⟩
      have hzw9 := hc.size
      have HC := HC.tr hc
      have hin := hin.no hc
      have hrnd := hrnd.no hc
      have hb3 := hb3.ch hc (fun h => h)
      have hV21 := hV21.ch hc (by first | exact fun _ _ _ h => h | (intro k hk hF ht; have h2 := hF.1; have h3 := hF.2; first | omega | (dsimp only at *; omega)))
      have hM21 := hM21.after hc
      have hV29 := hV29.ch hc (by first | exact fun _ _ _ h => h | (intro k hk hF ht; have h2 := hF.1; have h3 := hF.2; first | omega | (dsimp only at *; omega)))
      have hb8 := hb8.ch hc (fun h => h)
      have hV40 := hV40.ch hc (by first | exact fun _ _ _ h => h | (intro k hk hF ht; have h2 := hF.1; have h3 := hF.2; first | omega | (dsimp only at *; omega)))
      have hV46 := hV46.mono (G := fun k => w.heap.size ≤ k ∧ k < w9.heap.size) (fun k h1 h2 => ⟨by first | exact h2 | exact h2.1 | ((try dsimp only at h2); omega), h1⟩)
      have hew : eo (some t46) = eo o21 := by rw [heq46, hx34, heq40, heq29, hgv]; exact hal
      refine wl rfl rfl rfl (p_as rfl) ?_
      refine wl_nil ?_
      refine x_seq ?_
      refine wc_seq ?_
      refine wc_region ?_
      refine wl rfl rfl rfl (p_mv rfl) ?_
      refine wle rfl (e_call ent48 rfl rfl (items_made (n := -1) hV21 (by omega)) ?_)
      rintro _ w10 ⟨A49, l49, c49, ys49, rfl, hY49, hys49, hc⟩
      refine ⟨_, rfl, ?_⟩
      have hzw10 := hc.size
      have HC := HC.tr hc
      have hin := hin.no hc
      have hrnd := hrnd.no hc
      have hb3 := hb3.ch hc (fun h => h)
      have hV21 := hV21.ch hc (by first | exact fun _ _ _ h => h | (intro k hk hF ht; have h2 := hF.1; have h3 := hF.2; first | omega | (dsimp only at *; omega)))
      have hM21 := hM21.after hc
      have hV29 := hV29.ch hc (by first | exact fun _ _ _ h => h | (intro k hk hF ht; have h2 := hF.1; have h3 := hF.2; first | omega | (dsimp only at *; omega)))
      have hb8 := hb8.ch hc (fun h => h)
      have hV40 := hV40.ch hc (by first | exact fun _ _ _ h => h | (intro k hk hF ht; have h2 := hF.1; have h3 := hF.2; first | omega | (dsimp only at *; omega)))
      have hV46 := hV46.ch hc (by first | exact fun _ _ _ h => h | (intro k hk hF ht; have h2 := hF.1; have h3 := hF.2; first | omega | (dsimp only at *; omega)))
      have hyl49 := hY49.len
      have hY49 := hY49.mono (G := fun k => w9.heap.size ≤ k ∧ k < w10.heap.size) (fun k h1 h2 => ⟨h2, h1⟩)
      rw [if_pos (by omega)] at hys49
      refine wl rfl rfl rfl (p_mv rfl) ?_
      refine wl rfl rfl rfl (p_ext rfl rfl) ?_
      refine wl rfl rfl rfl (p_ext rfl rfl) ?_
      refine wl rfl rfl rfl (p_as rfl) ?_
      refine wl rfl rfl rfl (p_as rfl) ?_
      refine wl_nil ?_
      refine x_seq ?_
      refine wc_seq ?_
      refine wc_region ?_
      refine wl rfl rfl rfl (p_mv rfl) ?_
      have hcnw : cntT (eo (some t46)) ≤ 1000 := by rw [hew]; omega
      refine wle rfl (e_call ent48 rfl rfl (items_made (n := -1) hV46 (by omega)) ?_)
      rintro _ w11 ⟨A54, l54, c54, ys54, rfl, hY54, hys54, hc⟩
      refine ⟨_, rfl, ?_⟩
      have hzw11 := hc.size
      have HC := HC.tr hc
      have hin := hin.no hc
      have hrnd := hrnd.no hc
      have hb3 := hb3.ch hc (fun h => h)
      have hV21 := hV21.ch hc (by first | exact fun _ _ _ h => h | (intro k hk hF ht; have h2 := hF.1; have h3 := hF.2; first | omega | (dsimp only at *; omega)))
      have hM21 := hM21.after hc
      have hV29 := hV29.ch hc (by first | exact fun _ _ _ h => h | (intro k hk hF ht; have h2 := hF.1; have h3 := hF.2; first | omega | (dsimp only at *; omega)))
      have hb8 := hb8.ch hc (fun h => h)
      have hV40 := hV40.ch hc (by first | exact fun _ _ _ h => h | (intro k hk hF ht; have h2 := hF.1; have h3 := hF.2; first | omega | (dsimp only at *; omega)))
      have hV46 := hV46.ch hc (by first | exact fun _ _ _ h => h | (intro k hk hF ht; have h2 := hF.1; have h3 := hF.2; first | omega | (dsimp only at *; omega)))
      have hY49 := hY49.after hc
      have hyl54 := hY54.len
      have hY54 := hY54.mono (G := fun k => w10.heap.size ≤ k ∧ k < w11.heap.size) (fun k h1 h2 => ⟨h2, h1⟩)
      rw [if_pos (by omega), hew] at hys54
      refine wl rfl rfl rfl (p_mv rfl) ?_
      refine wl rfl rfl rfl (p_ext rfl rfl) ?_
      refine wl rfl rfl rfl (p_ext rfl rfl) ?_
      refine wl rfl rfl rfl (p_as rfl) ?_
      refine wl rfl rfl rfl (p_as rfl) ?_
      refine wl_nil ?_
      refine x_seq ?_
      refine wc_seq ?_
      refine wc_draw (.st 0 0 (.st 1 0 (.st 2 0 (.st 3 0 (.st 4 0 (.st 5 0 (.st 6 0 (.st 7 2 (.st 8 0 (.st 9 0 (.st 10 0 (.st 12 0 (.st 11 2 (.st 13 2 (.st 14 0 (.st 15 0 (.st 16 0 (.st 17 0 (.st 19 0 (.st 18 2 (.st 20 2 (.st 21 0 (.st 22 0 (.st 23 0 (.st 24 0 (.st 26 0 (.st 27 0 (.st 28 1 (.st 29 0 (.st 30 1 (.st 25 2 (.st 31 2 (.st 32 2 (.st 33 0 (.st 34 0 (.st 35 0 (.st 36 2 (.st 37 0 (.st 38 0 .nil))))))))))))))))))))))))))))))))))))))) 39 (by kernel_rfl) (by kernel_rfl) (by kernel_rfl) (by repeat (first | with_reducible exact pan_body | with_reducible apply pan_then | with_reducible apply pan_in)) (fun z => Ch (fun k => k ∈ adsO (some t46) ∨ k ∈ adsO o21 ∨ k ∈ adsO (some t29)) w11.drew z) (Ch.refl _ _) ?_
      obtain ⟨w12, ew12⟩ : ∃ x, x = w11.drew := ⟨_, rfl⟩
      rw [← ew12]
      have hc : Ch No w11 w12 := by rw [ew12]; exact Ch.drew _
      have hszw12 : w12.heap.size = w11.heap.size := by rw [ew12]; rfl
      clear ew12
      have hzw12 := hc.size
      have HC := HC.tr hc
      have hin := hin.no hc
      have hrnd := hrnd.no hc
      have hb3 := hb3.ch hc (fun h => h)
      have hV21 := hV21.ch hc (by first | exact fun _ _ _ h => h | (intro k hk hF ht; have h2 := hF.1; have h3 := hF.2; first | omega | (dsimp only at *; omega)))
      have hM21 := hM21.no hc
      have hV29 := hV29.ch hc (by first | exact fun _ _ _ h => h | (intro k hk hF ht; have h2 := hF.1; have h3 := hF.2; first | omega | (dsimp only at *; omega)))
      have hb8 := hb8.ch hc (fun h => h)
      have hV40 := hV40.ch hc (by first | exact fun _ _ _ h => h | (intro k hk hF ht; have h2 := hF.1; have h3 := hF.2; first | omega | (dsimp only at *; omega)))
      have hV46 := hV46.ch hc (by first | exact fun _ _ _ h => h | (intro k hk hF ht; have h2 := hF.1; have h3 := hF.2; first | omega | (dsimp only at *; omega)))
      have hY49 := hY49.no hc
      have hY54 := hY54.no hc
      have hS : Ch (fun k => k ∈ adsO (some t46) ∨ k ∈ adsO o21 ∨ k ∈ adsO (some t29)) w12 w12 := Ch.refl _ _
      have hRBd : ∀ k, (k ∈ adsO (some t46) ∨ k ∈ adsO o21 ∨ k ∈ adsO (some t29)) → ∃ cs, Blk w12 k 156 cs := fun k h => h.elim (hV46.adsB k) (fun h => h.elim (hV21.adsB k) (fun h => hV29.adsB k h))
      have hb3D := hb3
      refine ws_p rfl rfl rfl rfl (p_mv rfl) ?_
      refine ws_p rfl rfl rfl rfl (p_mv rfl) ?_
      refine ws_pg rfl (gd_ rfl rfl rfl rfl rfl rfl) rfl rfl (p_mv rfl) ?_
      refine ws_p rfl rfl rfl rfl (p_pickT rfl rfl) ?_
      refine ws_p rfl rfl rfl rfl (p_mv rfl) ?_
      refine ws_pg rfl (gd_ rfl rfl rfl rfl rfl rfl) rfl rfl (p_mv rfl) ?_
      refine ws_pg rfl (gd_ rfl rfl rfl rfl rfl rfl) rfl rfl (p_mv rfl) ?_
      refine ws_eg rfl (gd_ rfl rfl rfl rfl rfl rfl) (e_call ent49 rfl rfl (same_two (ms := itemsT (eo o21)) (show SI _ (fun _ => True) _ _ _ _ _ by rw [← hys49]; exact hY49.si.mono (fun _ _ _ => trivial)) (show SI _ (fun _ => True) _ _ _ _ _ by rw [← hys54]; exact hY54.si.mono (fun _ _ _ => trivial)) (by have := hY49.len; rw [hys49, itemsT_cnt] at this; omega)) ?_)
      rintro _ w13 ⟨rfl, hc⟩
      refine ⟨_, rfl, (by first | exact hS.tr hc | exact hS.trans hc (fun _ _ h => h) (fun _ _ h => .inl h) | exact hS.trans hc (fun _ _ h => h) (fun _ _ h => .inr (.inl h)) | exact hS.trans hc (fun _ _ h => h) (fun _ _ h => .inr (.inr (h)))), ?_⟩
      have hzw13 := hc.size
      have HC := HC.tr hc
      have hin := hin.no hc
      have hrnd := hrnd.no hc
      have hb3 := hb3.ch hc (fun h => h)
      have hV21 := hV21.ch hc (by first | exact fun _ _ _ h => h | (intro k hk hF ht; have h2 := hF.1; have h3 := hF.2; first | omega | (dsimp only at *; omega)))
      have hM21 := hM21.after hc
      have hV29 := hV29.ch hc (by first | exact fun _ _ _ h => h | (intro k hk hF ht; have h2 := hF.1; have h3 := hF.2; first | omega | (dsimp only at *; omega)))
      have hb8 := hb8.ch hc (fun h => h)
      have hV40 := hV40.ch hc (by first | exact fun _ _ _ h => h | (intro k hk hF ht; have h2 := hF.1; have h3 := hF.2; first | omega | (dsimp only at *; omega)))
      have hV46 := hV46.ch hc (by first | exact fun _ _ _ h => h | (intro k hk hF ht; have h2 := hF.1; have h3 := hF.2; first | omega | (dsimp only at *; omega)))
      have hY49 := hY49.after hc
      have hY54 := hY54.after hc
      have hS := (by first | exact hS.tr hc | exact hS.trans hc (fun _ _ h => h) (fun _ _ h => .inl h) | exact hS.trans hc (fun _ _ h => h) (fun _ _ h => .inr (.inl h)) | exact hS.trans hc (fun _ _ h => h) (fun _ _ h => .inr (.inr (h))))
      refine ws_p rfl rfl rfl rfl (p_pickT rfl rfl) ?_
      refine ws_p rfl rfl rfl rfl (p_mv rfl) ?_
      refine ws_pg rfl (gd_ rfl rfl rfl rfl rfl rfl) rfl rfl (p_mv rfl) ?_
      refine ws_pg rfl (gd_ rfl rfl rfl rfl rfl rfl) rfl rfl (p_mv rfl) ?_
      refine ws_eg rfl (gd_ rfl rfl rfl rfl rfl rfl) (e_call ent46 rfl rfl (troot_made hV46 hrnd) ?_)
      rintro _ w14 ⟨rfl, hc, hFil, hRB, hRF⟩
      refine ⟨_, rfl, (by first | exact hS.tr hc | exact hS.trans hc (fun _ _ h => h) (fun _ _ h => .inl h) | exact hS.trans hc (fun _ _ h => h) (fun _ _ h => .inr (.inl h)) | exact hS.trans hc (fun _ _ h => h) (fun _ _ h => .inr (.inr (h)))), ?_⟩
      have hR0 := hV46.ot.out hrnd (by omega)
      have hRo : ∀ k, k < w.heap.size → k ∈ adsO (some t46) → False := fun k h1 h2 => absurd (hRF k h2).1 (by omega)
      have hzw14 := hc.size
      have HC := HC.trans hc (fun _ _ h => h) (fun k hk ht => absurd (hRF k ht).1 (by omega))
      have hin := hin.ch hc (fun k hk ht => hRo k hk ht)
      have hrnd := hrnd.ch hc (fun k hk ht => hR0 (hk ▸ ht))
      first | have hb3 := hb3.ch hc (hb3.not_nd hRB) | have hb3 := hb3.ch hc (by assumption)
      have hV21 := hV21.fil hc hRB hFil
      have hM21 := hM21.ty hc (by decide) hRB
      have hV29 := hV29.fil hc hRB hFil
      first | have hb8 := hb8.ch hc (hb8.not_nd hRB) | have hb8 := hb8.ch hc (by assumption)
      have hV40 := hV40.fil hc hRB hFil
      have hV46 := hV46.fil hc hRB hFil
      have hY49 := hY49.ty hc (by decide) hRB
      have hY54 := hY54.ty hc (by decide) hRB
      have hS := (by first | exact hS.tr hc | exact hS.trans hc (fun _ _ h => h) (fun _ _ h => .inl h) | exact hS.trans hc (fun _ _ h => h) (fun _ _ h => .inr (.inl h)) | exact hS.trans hc (fun _ _ h => h) (fun _ _ h => .inr (.inr (h))))
      refine ws_eg rfl (gd_ rfl rfl rfl rfl rfl rfl) (e_call ent46 rfl rfl (troot_made hV21 hrnd) ?_)
      rintro _ w15 ⟨rfl, hc, hFil, hRB, hRF⟩
      refine ⟨_, rfl, (by first | exact hS.tr hc | exact hS.trans hc (fun _ _ h => h) (fun _ _ h => .inl h) | exact hS.trans hc (fun _ _ h => h) (fun _ _ h => .inr (.inl h)) | exact hS.trans hc (fun _ _ h => h) (fun _ _ h => .inr (.inr (h)))), ?_⟩
      have hR0 := hV21.ot.out hrnd (by omega)
      have hRo : ∀ k, k < w.heap.size → k ∈ adsO o21 → False := fun k h1 h2 => absurd (hRF k h2).1 (by omega)
      have hzw15 := hc.size
      have HC := HC.trans hc (fun _ _ h => h) (fun k hk ht => absurd (hRF k ht).1 (by omega))
      have hin := hin.ch hc (fun k hk ht => hRo k hk ht)
      have hrnd := hrnd.ch hc (fun k hk ht => hR0 (hk ▸ ht))
      first | have hb3 := hb3.ch hc (hb3.not_nd hRB) | have hb3 := hb3.ch hc (by assumption)
      have hV21 := hV21.fil hc hRB hFil
      have hM21 := hM21.ty hc (by decide) hRB
      have hV29 := hV29.fil hc hRB hFil
      first | have hb8 := hb8.ch hc (hb8.not_nd hRB) | have hb8 := hb8.ch hc (by assumption)
      have hV40 := hV40.fil hc hRB hFil
      have hV46 := hV46.fil hc hRB hFil
      have hY49 := hY49.ty hc (by decide) hRB
      have hY54 := hY54.ty hc (by decide) hRB
      have hS := (by first | exact hS.tr hc | exact hS.trans hc (fun _ _ h => h) (fun _ _ h => .inl h) | exact hS.trans hc (fun _ _ h => h) (fun _ _ h => .inr (.inl h)) | exact hS.trans hc (fun _ _ h => h) (fun _ _ h => .inr (.inr (h))))
      refine ws_pg rfl (gd_ rfl rfl rfl rfl rfl rfl) rfl rfl (p_eqH (a := (rootT (eo (some t46)))) (b := (rootT (eo o21))) (by kernel_rfl) Tryd.underlying38 Tryd.underlying5 sz5 rfl rfl (rootT_len) (rootT_len)) ?_
      refine ws_p rfl rfl rfl rfl (p_pickT rfl rfl) ?_
      refine ws_p rfl rfl rfl rfl (p_mv rfl) ?_
      refine ws_know (d := 73) (b' := true) rfl (by rw [hew]; simp) ?_
      refine ws_pg rfl (gd_ rfl rfl rfl rfl rfl rfl) rfl rfl (p_mv rfl) ?_
      refine ws_pg rfl (gd_ rfl rfl rfl rfl rfl rfl) rfl rfl (p_mv rfl) ?_
      refine ws_eg rfl (gd_ rfl rfl rfl rfl rfl rfl) (e_call ent46 rfl rfl (troot_made hV21 hrnd) ?_)
      rintro _ w16 ⟨rfl, hc, hFil, hRB, hRF⟩
      refine ⟨_, rfl, (by first | exact hS.tr hc | exact hS.trans hc (fun _ _ h => h) (fun _ _ h => .inl h) | exact hS.trans hc (fun _ _ h => h) (fun _ _ h => .inr (.inl h)) | exact hS.trans hc (fun _ _ h => h) (fun _ _ h => .inr (.inr (h)))), ?_⟩
      have hR0 := hV21.ot.out hrnd (by omega)
      have hRo : ∀ k, k < w.heap.size → k ∈ adsO o21 → False := fun k h1 h2 => absurd (hRF k h2).1 (by omega)
      have hzw16 := hc.size
      have HC := HC.trans hc (fun _ _ h => h) (fun k hk ht => absurd (hRF k ht).1 (by omega))
      have hin := hin.ch hc (fun k hk ht => hRo k hk ht)
      have hrnd := hrnd.ch hc (fun k hk ht => hR0 (hk ▸ ht))
      first | have hb3 := hb3.ch hc (hb3.not_nd hRB) | have hb3 := hb3.ch hc (by assumption)
      have hV21 := hV21.fil hc hRB hFil
      have hM21 := hM21.ty hc (by decide) hRB
      have hV29 := hV29.fil hc hRB hFil
      first | have hb8 := hb8.ch hc (hb8.not_nd hRB) | have hb8 := hb8.ch hc (by assumption)
      have hV40 := hV40.fil hc hRB hFil
      have hV46 := hV46.fil hc hRB hFil
      have hY49 := hY49.ty hc (by decide) hRB
      have hY54 := hY54.ty hc (by decide) hRB
      have hS := (by first | exact hS.tr hc | exact hS.trans hc (fun _ _ h => h) (fun _ _ h => .inl h) | exact hS.trans hc (fun _ _ h => h) (fun _ _ h => .inr (.inl h)) | exact hS.trans hc (fun _ _ h => h) (fun _ _ h => .inr (.inr (h))))
      refine ws_eg rfl (gd_ rfl rfl rfl rfl rfl rfl) (e_call ent50 rfl rfl (rrootO_any (o := (mkA l)) (hM21.si) (by assumption) (by omega)) ?_)
      rintro _ w17 ⟨rfl, hc⟩
      refine ⟨_, rfl, (by first | exact hS.tr hc | exact hS.trans hc (fun _ _ h => h) (fun _ _ h => .inl h) | exact hS.trans hc (fun _ _ h => h) (fun _ _ h => .inr (.inl h)) | exact hS.trans hc (fun _ _ h => h) (fun _ _ h => .inr (.inr (h)))), ?_⟩
      have hzw17 := hc.size
      have HC := HC.tr hc
      have hin := hin.no hc
      have hrnd := hrnd.no hc
      have hb3 := hb3.ch hc (fun h => h)
      have hV21 := hV21.ch hc (by first | exact fun _ _ _ h => h | (intro k hk hF ht; have h2 := hF.1; have h3 := hF.2; first | omega | (dsimp only at *; omega)))
      have hM21 := hM21.after hc
      have hV29 := hV29.ch hc (by first | exact fun _ _ _ h => h | (intro k hk hF ht; have h2 := hF.1; have h3 := hF.2; first | omega | (dsimp only at *; omega)))
      have hb8 := hb8.ch hc (fun h => h)
      have hV40 := hV40.ch hc (by first | exact fun _ _ _ h => h | (intro k hk hF ht; have h2 := hF.1; have h3 := hF.2; first | omega | (dsimp only at *; omega)))
      have hV46 := hV46.ch hc (by first | exact fun _ _ _ h => h | (intro k hk hF ht; have h2 := hF.1; have h3 := hF.2; first | omega | (dsimp only at *; omega)))
      have hY49 := hY49.after hc
      have hY54 := hY54.after hc
      have hS := (by first | exact hS.tr hc | exact hS.trans hc (fun _ _ h => h) (fun _ _ h => .inl h) | exact hS.trans hc (fun _ _ h => h) (fun _ _ h => .inr (.inl h)) | exact hS.trans hc (fun _ _ h => h) (fun _ _ h => .inr (.inr (h))))
      refine ws_pg rfl (gd_ rfl rfl rfl rfl rfl rfl) rfl rfl (p_eqH (a := (rootT (eo o21))) (b := (rootT (mkA l))) (by kernel_rfl) Tryd.underlying38 Tryd.underlying5 sz5 rfl rfl (rootT_len) (rootT_len)) ?_
      refine ws_p rfl rfl rfl rfl (p_pickT rfl rfl) ?_
      refine ws_p rfl rfl rfl rfl (p_mv rfl) ?_
      refine ws_know (d := 80) (b' := true) rfl (by rw [heo21]; simp) ?_
      refine ws_pg rfl (gd_ rfl rfl rfl rfl rfl rfl) rfl rfl (p_mv rfl) ?_
      refine ws_pg rfl (gd_ rfl rfl rfl rfl rfl rfl) rfl rfl (p_mv rfl) ?_
      refine ws_pg rfl (gd_ rfl rfl rfl rfl rfl rfl) rfl rfl (p_fld (j := 0) Tryd.underlying66 rfl ⟨_, by rfl⟩ rfl rfl) ?_
      refine ws_hg rfl (gd_ rfl rfl rfl rfl rfl rfl) rfl rfl (p_ldA (cs := (List.map u8v ak)) Tryd.underlying38 rfl (szL sz38 (by first | rfl | (simp only [List.length_append, List.length_map, List.length_cons, List.length_nil, (show List.length ak = 32 from hak)]; done) | (simp only [List.length_append, List.length_map, List.length_cons, List.length_nil, List.size_toArray, (show List.length ak = 32 from hak)]; done))) rfl (fun _ h => rng_at (p := []) (q := ((List.map u8v ak) : List Value)) (r := (((List.map u8v av) ++ [.bool adr]) : List Value)) (hb3D.ch h (hb3D.not_nd hRBd)) (by simp only [List.append_assoc, List.cons_append, List.nil_append, List.append_nil]) (by first | rfl | (simp only [List.length_append, List.length_map, List.length_cons, List.length_nil]; done) | (simp only [List.length_append, List.length_map, List.length_cons, List.length_nil, List.size_toArray]; done)))) ?_
      refine ws_pg rfl (gd_ rfl rfl rfl rfl rfl rfl) rfl rfl (p_fld (j := 32) Tryd.underlying66 rfl ⟨_, by rfl⟩ rfl rfl) ?_
      refine ws_hg rfl (gd_ rfl rfl rfl rfl rfl rfl) rfl rfl (p_ldA (cs := (List.map u8v av)) Tryd.underlying38 rfl (szL sz38 (by first | rfl | (simp only [List.length_append, List.length_map, List.length_cons, List.length_nil, (show List.length av = 32 from hav)]; done) | (simp only [List.length_append, List.length_map, List.length_cons, List.length_nil, List.size_toArray, (show List.length av = 32 from hav)]; done))) rfl (fun _ h => rng_at (p := ((List.map u8v ak) : List Value)) (q := ((List.map u8v av) : List Value)) (r := ([.bool adr] : List Value)) (hb3D.ch h (hb3D.not_nd hRBd)) (by simp only [List.append_assoc, List.cons_append, List.nil_append, List.append_nil]) (by first | rfl | (simp only [List.length_append, List.length_map, List.length_cons, List.length_nil, (show List.length ak = 32 from hak)]; done) | (simp only [List.length_append, List.length_map, List.length_cons, List.length_nil, List.size_toArray, (show List.length ak = 32 from hak)]; done)))) ?_
      refine ws_eg rfl (gd_ rfl rfl rfl rfl rfl rfl) (e_call ent46 rfl rfl (troot_made hV29 hrnd) ?_)
      rintro _ w18 ⟨rfl, hc, hFil, hRB, hRF⟩
      refine ⟨_, rfl, (by first | exact hS.tr hc | exact hS.trans hc (fun _ _ h => h) (fun _ _ h => .inl h) | exact hS.trans hc (fun _ _ h => h) (fun _ _ h => .inr (.inl h)) | exact hS.trans hc (fun _ _ h => h) (fun _ _ h => .inr (.inr (h)))), ?_⟩
      have hR0 := hV29.ot.out hrnd (by omega)
      have hRo : ∀ k, k < w.heap.size → k ∈ adsO (some t29) → False := fun k h1 h2 => absurd (hRF k h2).1 (by omega)
      have hzw18 := hc.size
      have HC := HC.trans hc (fun _ _ h => h) (fun k hk ht => absurd (hRF k ht).1 (by omega))
      have hin := hin.ch hc (fun k hk ht => hRo k hk ht)
      have hrnd := hrnd.ch hc (fun k hk ht => hR0 (hk ▸ ht))
      first | have hb3 := hb3.ch hc (hb3.not_nd hRB) | have hb3 := hb3.ch hc (by assumption)
      have hV21 := hV21.fil hc hRB hFil
      have hM21 := hM21.ty hc (by decide) hRB
      have hV29 := hV29.fil hc hRB hFil
      first | have hb8 := hb8.ch hc (hb8.not_nd hRB) | have hb8 := hb8.ch hc (by assumption)
      have hV40 := hV40.fil hc hRB hFil
      have hV46 := hV46.fil hc hRB hFil
      have hY49 := hY49.ty hc (by decide) hRB
      have hY54 := hY54.ty hc (by decide) hRB
      have hS := (by first | exact hS.tr hc | exact hS.trans hc (fun _ _ h => h) (fun _ _ h => .inl h) | exact hS.trans hc (fun _ _ h => h) (fun _ _ h => .inr (.inl h)) | exact hS.trans hc (fun _ _ h => h) (fun _ _ h => .inr (.inr (h))))
      refine ws_eg rfl (gd_ rfl rfl rfl rfl rfl rfl) (e_call ent52 rfl rfl (rput_any (hM21.si) (hak) (hav) (by omega)) ?_)
      rintro _ w19 ⟨A88, lm88, cm88, rfl, hM88, hc⟩
      refine ⟨_, rfl, (by first | exact hS.tr hc | exact hS.trans hc (fun _ _ h => h) (fun _ _ h => .inl h) | exact hS.trans hc (fun _ _ h => h) (fun _ _ h => .inr (.inl h)) | exact hS.trans hc (fun _ _ h => h) (fun _ _ h => .inr (.inr (h)))), ?_⟩
      have hzw19 := hc.size
      have HC := HC.tr hc
      have hin := hin.no hc
      have hrnd := hrnd.no hc
      have hb3 := hb3.ch hc (fun h => h)
      have hV21 := hV21.ch hc (by first | exact fun _ _ _ h => h | (intro k hk hF ht; have h2 := hF.1; have h3 := hF.2; first | omega | (dsimp only at *; omega)))
      have hM21 := hM21.after hc
      have hV29 := hV29.ch hc (by first | exact fun _ _ _ h => h | (intro k hk hF ht; have h2 := hF.1; have h3 := hF.2; first | omega | (dsimp only at *; omega)))
      have hb8 := hb8.ch hc (fun h => h)
      have hV40 := hV40.ch hc (by first | exact fun _ _ _ h => h | (intro k hk hF ht; have h2 := hF.1; have h3 := hF.2; first | omega | (dsimp only at *; omega)))
      have hV46 := hV46.ch hc (by first | exact fun _ _ _ h => h | (intro k hk hF ht; have h2 := hF.1; have h3 := hF.2; first | omega | (dsimp only at *; omega)))
      have hY49 := hY49.after hc
      have hY54 := hY54.after hc
      have hMl88 := hM88.len
      have hM88 := hM88.mono (G := fun k => w18.heap.size ≤ k ∧ k < w19.heap.size) (fun k h1 h2 => ⟨h2, h1⟩)
      have hS := (by first | exact hS.tr hc | exact hS.trans hc (fun _ _ h => h) (fun _ _ h => .inl h) | exact hS.trans hc (fun _ _ h => h) (fun _ _ h => .inr (.inl h)) | exact hS.trans hc (fun _ _ h => h) (fun _ _ h => .inr (.inr (h))))
      refine ws_eg rfl (gd_ rfl rfl rfl rfl rfl rfl) (e_call ent50 rfl rfl (rrootO_any (o := (putT (mkA l) ak av)) (by rw [putT_items hwf hak hav]; exact hM88.si) (putT_wf hwf hak hav) (by have h9 := hM88.len; rw [← putT_items hwf hak hav, itemsT_cnt] at h9; have h8 := putT_cnt (o := mkA l) (k := ak) (v := av); omega)) ?_)
      rintro _ w20 ⟨rfl, hc⟩
      refine ⟨_, rfl, (by first | exact hS.tr hc | exact hS.trans hc (fun _ _ h => h) (fun _ _ h => .inl h) | exact hS.trans hc (fun _ _ h => h) (fun _ _ h => .inr (.inl h)) | exact hS.trans hc (fun _ _ h => h) (fun _ _ h => .inr (.inr (h)))), ?_⟩
      have hzw20 := hc.size
      have HC := HC.tr hc
      have hin := hin.no hc
      have hrnd := hrnd.no hc
      have hb3 := hb3.ch hc (fun h => h)
      have hV21 := hV21.ch hc (by first | exact fun _ _ _ h => h | (intro k hk hF ht; have h2 := hF.1; have h3 := hF.2; first | omega | (dsimp only at *; omega)))
      have hM21 := hM21.after hc
      have hV29 := hV29.ch hc (by first | exact fun _ _ _ h => h | (intro k hk hF ht; have h2 := hF.1; have h3 := hF.2; first | omega | (dsimp only at *; omega)))
      have hb8 := hb8.ch hc (fun h => h)
      have hV40 := hV40.ch hc (by first | exact fun _ _ _ h => h | (intro k hk hF ht; have h2 := hF.1; have h3 := hF.2; first | omega | (dsimp only at *; omega)))
      have hV46 := hV46.ch hc (by first | exact fun _ _ _ h => h | (intro k hk hF ht; have h2 := hF.1; have h3 := hF.2; first | omega | (dsimp only at *; omega)))
      have hY49 := hY49.after hc
      have hY54 := hY54.after hc
      have hM88 := hM88.after hc
      have hS := (by first | exact hS.tr hc | exact hS.trans hc (fun _ _ h => h) (fun _ _ h => .inl h) | exact hS.trans hc (fun _ _ h => h) (fun _ _ h => .inr (.inl h)) | exact hS.trans hc (fun _ _ h => h) (fun _ _ h => .inr (.inr (h))))
      refine ws_pg rfl (gd_ rfl rfl rfl rfl rfl rfl) rfl rfl (p_eqH (a := (rootT (eo (some t29)))) (b := (rootT (putT (mkA l) ak av))) (by kernel_rfl) Tryd.underlying38 Tryd.underlying5 sz5 rfl rfl (rootT_len) (rootT_len)) ?_
      refine ws_p rfl rfl rfl rfl (p_pickT rfl rfl) ?_
      refine ws_p rfl rfl rfl rfl (p_mv rfl) ?_
      refine ws_know (d := 92) (b' := true) rfl (by rw [heq29, heo21]; simp) ?_
      refine ws_eg rfl (gd_ rfl rfl rfl rfl rfl rfl) (e_call ent40 rfl rfl (lives11_any hrnd) ?_)
      rintro _ w21 ⟨rfl, hc⟩
      refine ⟨_, rfl, (by first | exact hS.tr hc | exact hS.trans hc (fun _ _ h => h) (fun _ _ h => .inl h) | exact hS.trans hc (fun _ _ h => h) (fun _ _ h => .inr (.inl h)) | exact hS.trans hc (fun _ _ h => h) (fun _ _ h => .inr (.inr (h)))), ?_⟩
      have hzw21 := hc.size
      have HC := HC.tr hc
      have hin := hin.no hc
      have hrnd := hrnd.no hc
      have hb3 := hb3.ch hc (fun h => h)
      have hV21 := hV21.ch hc (by first | exact fun _ _ _ h => h | (intro k hk hF ht; have h2 := hF.1; have h3 := hF.2; first | omega | (dsimp only at *; omega)))
      have hM21 := hM21.after hc
      have hV29 := hV29.ch hc (by first | exact fun _ _ _ h => h | (intro k hk hF ht; have h2 := hF.1; have h3 := hF.2; first | omega | (dsimp only at *; omega)))
      have hb8 := hb8.ch hc (fun h => h)
      have hV40 := hV40.ch hc (by first | exact fun _ _ _ h => h | (intro k hk hF ht; have h2 := hF.1; have h3 := hF.2; first | omega | (dsimp only at *; omega)))
      have hV46 := hV46.ch hc (by first | exact fun _ _ _ h => h | (intro k hk hF ht; have h2 := hF.1; have h3 := hF.2; first | omega | (dsimp only at *; omega)))
      have hY49 := hY49.after hc
      have hY54 := hY54.after hc
      have hM88 := hM88.after hc
      have hS := (by first | exact hS.tr hc | exact hS.trans hc (fun _ _ h => h) (fun _ _ h => .inl h) | exact hS.trans hc (fun _ _ h => h) (fun _ _ h => .inr (.inl h)) | exact hS.trans hc (fun _ _ h => h) (fun _ _ h => .inr (.inr (h))))
      refine ws_p rfl rfl rfl rfl (p_pickT rfl rfl) ?_
      refine ws_p rfl rfl rfl rfl (p_as rfl) ?_
      refine ws_n ?_
      refine x_seq ?_
      refine wc_ret ?_
      refine fin_run ((res1 rfl rfl)) ?_
      exact ⟨rfl, HC⟩
    ·
      have ho34b : ok34 = false := by simpa using c1
      have hgv : getT (eo o21) ak = none := by have h1 := ho34.symm.trans ho34b; simpa using h1
      have hal := alike_ok (x := zeroH) hwfo21 hak hav
      rw [hgv] at hal
      have hew : eo o40 = eo o21 := by rw [heq40, heq29]; exact hal
      refine wc_skip ?_
      refine x_seq ?_
      refine wc_seq ?_
      refine wc_region ?_
      refine wl rfl rfl rfl (p_mv rfl) ?_
      refine wle rfl (e_call ent48 rfl rfl (items_made (n := -1) hV21 (by omega)) ?_)
      rintro _ w22 ⟨A49, l49, c49, ys49, rfl, hY49, hys49, hc⟩
      refine ⟨_, rfl, ?_⟩
      have hzw22 := hc.size
      have HC := HC.tr hc
      have hin := hin.no hc
      have hrnd := hrnd.no hc
      have hb3 := hb3.ch hc (fun h => h)
      have hV21 := hV21.ch hc (by first | exact fun _ _ _ h => h | (intro k hk hF ht; have h2 := hF.1; have h3 := hF.2; first | omega | (dsimp only at *; omega)))
      have hM21 := hM21.after hc
      have hV29 := hV29.ch hc (by first | exact fun _ _ _ h => h | (intro k hk hF ht; have h2 := hF.1; have h3 := hF.2; first | omega | (dsimp only at *; omega)))
      have hb8 := hb8.ch hc (fun h => h)
      have hV40 := hV40.ch hc (by first | exact fun _ _ _ h => h | (intro k hk hF ht; have h2 := hF.1; have h3 := hF.2; first | omega | (dsimp only at *; omega)))
      have hyl49 := hY49.len
      have hY49 := hY49.mono (G := fun k => w8.heap.size ≤ k ∧ k < w22.heap.size) (fun k h1 h2 => ⟨h2, h1⟩)
      rw [if_pos (by omega)] at hys49
      refine wl rfl rfl rfl (p_mv rfl) ?_
      refine wl rfl rfl rfl (p_ext rfl rfl) ?_
      refine wl rfl rfl rfl (p_ext rfl rfl) ?_
      refine wl rfl rfl rfl (p_as rfl) ?_
      refine wl rfl rfl rfl (p_as rfl) ?_
      refine wl_nil ?_
      refine x_seq ?_
      refine wc_seq ?_
      refine wc_region ?_
      refine wl rfl rfl rfl (p_mv rfl) ?_
      have hcnw : cntT (eo o40) ≤ 1000 := by rw [hew]; omega
      refine wle rfl (e_call ent48 rfl rfl (items_made (n := -1) hV40 (by omega)) ?_)
      rintro _ w23 ⟨A54, l54, c54, ys54, rfl, hY54, hys54, hc⟩
      refine ⟨_, rfl, ?_⟩
      have hzw23 := hc.size
      have HC := HC.tr hc
      have hin := hin.no hc
      have hrnd := hrnd.no hc
      have hb3 := hb3.ch hc (fun h => h)
      have hV21 := hV21.ch hc (by first | exact fun _ _ _ h => h | (intro k hk hF ht; have h2 := hF.1; have h3 := hF.2; first | omega | (dsimp only at *; omega)))
      have hM21 := hM21.after hc
      have hV29 := hV29.ch hc (by first | exact fun _ _ _ h => h | (intro k hk hF ht; have h2 := hF.1; have h3 := hF.2; first | omega | (dsimp only at *; omega)))
      have hb8 := hb8.ch hc (fun h => h)
      have hV40 := hV40.ch hc (by first | exact fun _ _ _ h => h | (intro k hk hF ht; have h2 := hF.1; have h3 := hF.2; first | omega | (dsimp only at *; omega)))
      have hY49 := hY49.after hc
      have hyl54 := hY54.len
      have hY54 := hY54.mono (G := fun k => w22.heap.size ≤ k ∧ k < w23.heap.size) (fun k h1 h2 => ⟨h2, h1⟩)
      rw [if_pos (by omega), hew] at hys54
      refine wl rfl rfl rfl (p_mv rfl) ?_
      refine wl rfl rfl rfl (p_ext rfl rfl) ?_
      refine wl rfl rfl rfl (p_ext rfl rfl) ?_
      refine wl rfl rfl rfl (p_as rfl) ?_
      refine wl rfl rfl rfl (p_as rfl) ?_
      refine wl_nil ?_
      refine x_seq ?_
      refine wc_seq ?_
      refine wc_draw (.st 0 0 (.st 1 0 (.st 2 0 (.st 3 0 (.st 4 0 (.st 5 0 (.st 6 0 (.st 7 2 (.st 8 0 (.st 9 0 (.st 10 0 (.st 12 0 (.st 11 2 (.st 13 2 (.st 14 0 (.st 15 0 (.st 16 0 (.st 17 0 (.st 19 0 (.st 18 2 (.st 20 2 (.st 21 0 (.st 22 0 (.st 23 0 (.st 24 0 (.st 26 0 (.st 27 0 (.st 28 1 (.st 29 0 (.st 30 1 (.st 25 2 (.st 31 2 (.st 32 2 (.st 33 0 (.st 34 0 (.st 35 0 (.st 36 2 (.st 37 0 (.st 38 0 .nil))))))))))))))))))))))))))))))))))))))) 39 (by kernel_rfl) (by kernel_rfl) (by kernel_rfl) (by repeat (first | with_reducible exact pan_body | with_reducible apply pan_then | with_reducible apply pan_in)) (fun z => Ch (fun k => k ∈ adsO o40 ∨ k ∈ adsO o21 ∨ k ∈ adsO (some t29)) w23.drew z) (Ch.refl _ _) ?_
      obtain ⟨w24, ew24⟩ : ∃ x, x = w23.drew := ⟨_, rfl⟩
      rw [← ew24]
      have hc : Ch No w23 w24 := by rw [ew24]; exact Ch.drew _
      have hszw24 : w24.heap.size = w23.heap.size := by rw [ew24]; rfl
      clear ew24
      have hzw24 := hc.size
      have HC := HC.tr hc
      have hin := hin.no hc
      have hrnd := hrnd.no hc
      have hb3 := hb3.ch hc (fun h => h)
      have hV21 := hV21.ch hc (by first | exact fun _ _ _ h => h | (intro k hk hF ht; have h2 := hF.1; have h3 := hF.2; first | omega | (dsimp only at *; omega)))
      have hM21 := hM21.no hc
      have hV29 := hV29.ch hc (by first | exact fun _ _ _ h => h | (intro k hk hF ht; have h2 := hF.1; have h3 := hF.2; first | omega | (dsimp only at *; omega)))
      have hb8 := hb8.ch hc (fun h => h)
      have hV40 := hV40.ch hc (by first | exact fun _ _ _ h => h | (intro k hk hF ht; have h2 := hF.1; have h3 := hF.2; first | omega | (dsimp only at *; omega)))
      have hY49 := hY49.no hc
      have hY54 := hY54.no hc
      have hS : Ch (fun k => k ∈ adsO o40 ∨ k ∈ adsO o21 ∨ k ∈ adsO (some t29)) w24 w24 := Ch.refl _ _
      have hRBd : ∀ k, (k ∈ adsO o40 ∨ k ∈ adsO o21 ∨ k ∈ adsO (some t29)) → ∃ cs, Blk w24 k 156 cs := fun k h => h.elim (hV40.adsB k) (fun h => h.elim (hV21.adsB k) (fun h => hV29.adsB k h))
      have hb3D := hb3
      refine ws_p rfl rfl rfl rfl (p_mv rfl) ?_
      refine ws_p rfl rfl rfl rfl (p_mv rfl) ?_
      refine ws_pg rfl (gd_ rfl rfl rfl rfl rfl rfl) rfl rfl (p_mv rfl) ?_
      refine ws_p rfl rfl rfl rfl (p_pickT rfl rfl) ?_
      refine ws_p rfl rfl rfl rfl (p_mv rfl) ?_
      refine ws_pg rfl (gd_ rfl rfl rfl rfl rfl rfl) rfl rfl (p_mv rfl) ?_
      refine ws_pg rfl (gd_ rfl rfl rfl rfl rfl rfl) rfl rfl (p_mv rfl) ?_
      refine ws_eg rfl (gd_ rfl rfl rfl rfl rfl rfl) (e_call ent49 rfl rfl (same_two (ms := itemsT (eo o21)) (show SI _ (fun _ => True) _ _ _ _ _ by rw [← hys49]; exact hY49.si.mono (fun _ _ _ => trivial)) (show SI _ (fun _ => True) _ _ _ _ _ by rw [← hys54]; exact hY54.si.mono (fun _ _ _ => trivial)) (by have := hY49.len; rw [hys49, itemsT_cnt] at this; omega)) ?_)
      rintro _ w25 ⟨rfl, hc⟩
      refine ⟨_, rfl, (by first | exact hS.tr hc | exact hS.trans hc (fun _ _ h => h) (fun _ _ h => .inl h) | exact hS.trans hc (fun _ _ h => h) (fun _ _ h => .inr (.inl h)) | exact hS.trans hc (fun _ _ h => h) (fun _ _ h => .inr (.inr (h)))), ?_⟩
      have hzw25 := hc.size
      have HC := HC.tr hc
      have hin := hin.no hc
      have hrnd := hrnd.no hc
      have hb3 := hb3.ch hc (fun h => h)
      have hV21 := hV21.ch hc (by first | exact fun _ _ _ h => h | (intro k hk hF ht; have h2 := hF.1; have h3 := hF.2; first | omega | (dsimp only at *; omega)))
      have hM21 := hM21.after hc
      have hV29 := hV29.ch hc (by first | exact fun _ _ _ h => h | (intro k hk hF ht; have h2 := hF.1; have h3 := hF.2; first | omega | (dsimp only at *; omega)))
      have hb8 := hb8.ch hc (fun h => h)
      have hV40 := hV40.ch hc (by first | exact fun _ _ _ h => h | (intro k hk hF ht; have h2 := hF.1; have h3 := hF.2; first | omega | (dsimp only at *; omega)))
      have hY49 := hY49.after hc
      have hY54 := hY54.after hc
      have hS := (by first | exact hS.tr hc | exact hS.trans hc (fun _ _ h => h) (fun _ _ h => .inl h) | exact hS.trans hc (fun _ _ h => h) (fun _ _ h => .inr (.inl h)) | exact hS.trans hc (fun _ _ h => h) (fun _ _ h => .inr (.inr (h))))
      refine ws_p rfl rfl rfl rfl (p_pickT rfl rfl) ?_
      refine ws_p rfl rfl rfl rfl (p_mv rfl) ?_
      refine ws_pg rfl (gd_ rfl rfl rfl rfl rfl rfl) rfl rfl (p_mv rfl) ?_
      refine ws_pg rfl (gd_ rfl rfl rfl rfl rfl rfl) rfl rfl (p_mv rfl) ?_
      refine ws_eg rfl (gd_ rfl rfl rfl rfl rfl rfl) (e_call ent46 rfl rfl (troot_made hV40 hrnd) ?_)
      rintro _ w26 ⟨rfl, hc, hFil, hRB, hRF⟩
      refine ⟨_, rfl, (by first | exact hS.tr hc | exact hS.trans hc (fun _ _ h => h) (fun _ _ h => .inl h) | exact hS.trans hc (fun _ _ h => h) (fun _ _ h => .inr (.inl h)) | exact hS.trans hc (fun _ _ h => h) (fun _ _ h => .inr (.inr (h)))), ?_⟩
      have hR0 := hV40.ot.out hrnd (by omega)
      have hRo : ∀ k, k < w.heap.size → k ∈ adsO o40 → False := fun k h1 h2 => absurd (hRF k h2).1 (by omega)
      have hzw26 := hc.size
      have HC := HC.trans hc (fun _ _ h => h) (fun k hk ht => absurd (hRF k ht).1 (by omega))
      have hin := hin.ch hc (fun k hk ht => hRo k hk ht)
      have hrnd := hrnd.ch hc (fun k hk ht => hR0 (hk ▸ ht))
      first | have hb3 := hb3.ch hc (hb3.not_nd hRB) | have hb3 := hb3.ch hc (by assumption)
      have hV21 := hV21.fil hc hRB hFil
      have hM21 := hM21.ty hc (by decide) hRB
      have hV29 := hV29.fil hc hRB hFil
      first | have hb8 := hb8.ch hc (hb8.not_nd hRB) | have hb8 := hb8.ch hc (by assumption)
      have hV40 := hV40.fil hc hRB hFil
      have hY49 := hY49.ty hc (by decide) hRB
      have hY54 := hY54.ty hc (by decide) hRB
      have hS := (by first | exact hS.tr hc | exact hS.trans hc (fun _ _ h => h) (fun _ _ h => .inl h) | exact hS.trans hc (fun _ _ h => h) (fun _ _ h => .inr (.inl h)) | exact hS.trans hc (fun _ _ h => h) (fun _ _ h => .inr (.inr (h))))
      refine ws_eg rfl (gd_ rfl rfl rfl rfl rfl rfl) (e_call ent46 rfl rfl (troot_made hV21 hrnd) ?_)
      rintro _ w27 ⟨rfl, hc, hFil, hRB, hRF⟩
      refine ⟨_, rfl, (by first | exact hS.tr hc | exact hS.trans hc (fun _ _ h => h) (fun _ _ h => .inl h) | exact hS.trans hc (fun _ _ h => h) (fun _ _ h => .inr (.inl h)) | exact hS.trans hc (fun _ _ h => h) (fun _ _ h => .inr (.inr (h)))), ?_⟩
      have hR0 := hV21.ot.out hrnd (by omega)
      have hRo : ∀ k, k < w.heap.size → k ∈ adsO o21 → False := fun k h1 h2 => absurd (hRF k h2).1 (by omega)
      have hzw27 := hc.size
      have HC := HC.trans hc (fun _ _ h => h) (fun k hk ht => absurd (hRF k ht).1 (by omega))
      have hin := hin.ch hc (fun k hk ht => hRo k hk ht)
      have hrnd := hrnd.ch hc (fun k hk ht => hR0 (hk ▸ ht))
      first | have hb3 := hb3.ch hc (hb3.not_nd hRB) | have hb3 := hb3.ch hc (by assumption)
      have hV21 := hV21.fil hc hRB hFil
      have hM21 := hM21.ty hc (by decide) hRB
      have hV29 := hV29.fil hc hRB hFil
      first | have hb8 := hb8.ch hc (hb8.not_nd hRB) | have hb8 := hb8.ch hc (by assumption)
      have hV40 := hV40.fil hc hRB hFil
      have hY49 := hY49.ty hc (by decide) hRB
      have hY54 := hY54.ty hc (by decide) hRB
      have hS := (by first | exact hS.tr hc | exact hS.trans hc (fun _ _ h => h) (fun _ _ h => .inl h) | exact hS.trans hc (fun _ _ h => h) (fun _ _ h => .inr (.inl h)) | exact hS.trans hc (fun _ _ h => h) (fun _ _ h => .inr (.inr (h))))
      refine ws_pg rfl (gd_ rfl rfl rfl rfl rfl rfl) rfl rfl (p_eqH (a := (rootT (eo o40))) (b := (rootT (eo o21))) (by kernel_rfl) Tryd.underlying38 Tryd.underlying5 sz5 rfl rfl (rootT_len) (rootT_len)) ?_
      refine ws_p rfl rfl rfl rfl (p_pickT rfl rfl) ?_
      refine ws_p rfl rfl rfl rfl (p_mv rfl) ?_
      refine ws_know (d := 73) (b' := true) rfl (by rw [hew]; simp) ?_
      refine ws_pg rfl (gd_ rfl rfl rfl rfl rfl rfl) rfl rfl (p_mv rfl) ?_
      refine ws_pg rfl (gd_ rfl rfl rfl rfl rfl rfl) rfl rfl (p_mv rfl) ?_
      refine ws_eg rfl (gd_ rfl rfl rfl rfl rfl rfl) (e_call ent46 rfl rfl (troot_made hV21 hrnd) ?_)
      rintro _ w28 ⟨rfl, hc, hFil, hRB, hRF⟩
      refine ⟨_, rfl, (by first | exact hS.tr hc | exact hS.trans hc (fun _ _ h => h) (fun _ _ h => .inl h) | exact hS.trans hc (fun _ _ h => h) (fun _ _ h => .inr (.inl h)) | exact hS.trans hc (fun _ _ h => h) (fun _ _ h => .inr (.inr (h)))), ?_⟩
      have hR0 := hV21.ot.out hrnd (by omega)
      have hRo : ∀ k, k < w.heap.size → k ∈ adsO o21 → False := fun k h1 h2 => absurd (hRF k h2).1 (by omega)
      have hzw28 := hc.size
      have HC := HC.trans hc (fun _ _ h => h) (fun k hk ht => absurd (hRF k ht).1 (by omega))
      have hin := hin.ch hc (fun k hk ht => hRo k hk ht)
      have hrnd := hrnd.ch hc (fun k hk ht => hR0 (hk ▸ ht))
      first | have hb3 := hb3.ch hc (hb3.not_nd hRB) | have hb3 := hb3.ch hc (by assumption)
      have hV21 := hV21.fil hc hRB hFil
      have hM21 := hM21.ty hc (by decide) hRB
      have hV29 := hV29.fil hc hRB hFil
      first | have hb8 := hb8.ch hc (hb8.not_nd hRB) | have hb8 := hb8.ch hc (by assumption)
      have hV40 := hV40.fil hc hRB hFil
      have hY49 := hY49.ty hc (by decide) hRB
      have hY54 := hY54.ty hc (by decide) hRB
      have hS := (by first | exact hS.tr hc | exact hS.trans hc (fun _ _ h => h) (fun _ _ h => .inl h) | exact hS.trans hc (fun _ _ h => h) (fun _ _ h => .inr (.inl h)) | exact hS.trans hc (fun _ _ h => h) (fun _ _ h => .inr (.inr (h))))
      refine ws_eg rfl (gd_ rfl rfl rfl rfl rfl rfl) (e_call ent50 rfl rfl (rrootO_any (o := (mkA l)) (hM21.si) (by assumption) (by omega)) ?_)
      rintro _ w29 ⟨rfl, hc⟩
      refine ⟨_, rfl, (by first | exact hS.tr hc | exact hS.trans hc (fun _ _ h => h) (fun _ _ h => .inl h) | exact hS.trans hc (fun _ _ h => h) (fun _ _ h => .inr (.inl h)) | exact hS.trans hc (fun _ _ h => h) (fun _ _ h => .inr (.inr (h)))), ?_⟩
      have hzw29 := hc.size
      have HC := HC.tr hc
      have hin := hin.no hc
      have hrnd := hrnd.no hc
      have hb3 := hb3.ch hc (fun h => h)
      have hV21 := hV21.ch hc (by first | exact fun _ _ _ h => h | (intro k hk hF ht; have h2 := hF.1; have h3 := hF.2; first | omega | (dsimp only at *; omega)))
      have hM21 := hM21.after hc
      have hV29 := hV29.ch hc (by first | exact fun _ _ _ h => h | (intro k hk hF ht; have h2 := hF.1; have h3 := hF.2; first | omega | (dsimp only at *; omega)))
      have hb8 := hb8.ch hc (fun h => h)
      have hV40 := hV40.ch hc (by first | exact fun _ _ _ h => h | (intro k hk hF ht; have h2 := hF.1; have h3 := hF.2; first | omega | (dsimp only at *; omega)))
      have hY49 := hY49.after hc
      have hY54 := hY54.after hc
      have hS := (by first | exact hS.tr hc | exact hS.trans hc (fun _ _ h => h) (fun _ _ h => .inl h) | exact hS.trans hc (fun _ _ h => h) (fun _ _ h => .inr (.inl h)) | exact hS.trans hc (fun _ _ h => h) (fun _ _ h => .inr (.inr (h))))
      refine ws_pg rfl (gd_ rfl rfl rfl rfl rfl rfl) rfl rfl (p_eqH (a := (rootT (eo o21))) (b := (rootT (mkA l))) (by kernel_rfl) Tryd.underlying38 Tryd.underlying5 sz5 rfl rfl (rootT_len) (rootT_len)) ?_
      refine ws_p rfl rfl rfl rfl (p_pickT rfl rfl) ?_
      refine ws_p rfl rfl rfl rfl (p_mv rfl) ?_
      refine ws_know (d := 80) (b' := true) rfl (by rw [heo21]; simp) ?_
      refine ws_pg rfl (gd_ rfl rfl rfl rfl rfl rfl) rfl rfl (p_mv rfl) ?_
      refine ws_pg rfl (gd_ rfl rfl rfl rfl rfl rfl) rfl rfl (p_mv rfl) ?_
      refine ws_pg rfl (gd_ rfl rfl rfl rfl rfl rfl) rfl rfl (p_fld (j := 0) Tryd.underlying66 rfl ⟨_, by rfl⟩ rfl rfl) ?_
      refine ws_hg rfl (gd_ rfl rfl rfl rfl rfl rfl) rfl rfl (p_ldA (cs := (List.map u8v ak)) Tryd.underlying38 rfl (szL sz38 (by first | rfl | (simp only [List.length_append, List.length_map, List.length_cons, List.length_nil, (show List.length ak = 32 from hak)]; done) | (simp only [List.length_append, List.length_map, List.length_cons, List.length_nil, List.size_toArray, (show List.length ak = 32 from hak)]; done))) rfl (fun _ h => rng_at (p := []) (q := ((List.map u8v ak) : List Value)) (r := (((List.map u8v av) ++ [.bool adr]) : List Value)) (hb3D.ch h (hb3D.not_nd hRBd)) (by simp only [List.append_assoc, List.cons_append, List.nil_append, List.append_nil]) (by first | rfl | (simp only [List.length_append, List.length_map, List.length_cons, List.length_nil]; done) | (simp only [List.length_append, List.length_map, List.length_cons, List.length_nil, List.size_toArray]; done)))) ?_
      refine ws_pg rfl (gd_ rfl rfl rfl rfl rfl rfl) rfl rfl (p_fld (j := 32) Tryd.underlying66 rfl ⟨_, by rfl⟩ rfl rfl) ?_
      refine ws_hg rfl (gd_ rfl rfl rfl rfl rfl rfl) rfl rfl (p_ldA (cs := (List.map u8v av)) Tryd.underlying38 rfl (szL sz38 (by first | rfl | (simp only [List.length_append, List.length_map, List.length_cons, List.length_nil, (show List.length av = 32 from hav)]; done) | (simp only [List.length_append, List.length_map, List.length_cons, List.length_nil, List.size_toArray, (show List.length av = 32 from hav)]; done))) rfl (fun _ h => rng_at (p := ((List.map u8v ak) : List Value)) (q := ((List.map u8v av) : List Value)) (r := ([.bool adr] : List Value)) (hb3D.ch h (hb3D.not_nd hRBd)) (by simp only [List.append_assoc, List.cons_append, List.nil_append, List.append_nil]) (by first | rfl | (simp only [List.length_append, List.length_map, List.length_cons, List.length_nil, (show List.length ak = 32 from hak)]; done) | (simp only [List.length_append, List.length_map, List.length_cons, List.length_nil, List.size_toArray, (show List.length ak = 32 from hak)]; done)))) ?_
      refine ws_eg rfl (gd_ rfl rfl rfl rfl rfl rfl) (e_call ent46 rfl rfl (troot_made hV29 hrnd) ?_)
      rintro _ w30 ⟨rfl, hc, hFil, hRB, hRF⟩
      refine ⟨_, rfl, (by first | exact hS.tr hc | exact hS.trans hc (fun _ _ h => h) (fun _ _ h => .inl h) | exact hS.trans hc (fun _ _ h => h) (fun _ _ h => .inr (.inl h)) | exact hS.trans hc (fun _ _ h => h) (fun _ _ h => .inr (.inr (h)))), ?_⟩
      have hR0 := hV29.ot.out hrnd (by omega)
      have hRo : ∀ k, k < w.heap.size → k ∈ adsO (some t29) → False := fun k h1 h2 => absurd (hRF k h2).1 (by omega)
      have hzw30 := hc.size
      have HC := HC.trans hc (fun _ _ h => h) (fun k hk ht => absurd (hRF k ht).1 (by omega))
      have hin := hin.ch hc (fun k hk ht => hRo k hk ht)
      have hrnd := hrnd.ch hc (fun k hk ht => hR0 (hk ▸ ht))
      first | have hb3 := hb3.ch hc (hb3.not_nd hRB) | have hb3 := hb3.ch hc (by assumption)
      have hV21 := hV21.fil hc hRB hFil
      have hM21 := hM21.ty hc (by decide) hRB
      have hV29 := hV29.fil hc hRB hFil
      first | have hb8 := hb8.ch hc (hb8.not_nd hRB) | have hb8 := hb8.ch hc (by assumption)
      have hV40 := hV40.fil hc hRB hFil
      have hY49 := hY49.ty hc (by decide) hRB
      have hY54 := hY54.ty hc (by decide) hRB
      have hS := (by first | exact hS.tr hc | exact hS.trans hc (fun _ _ h => h) (fun _ _ h => .inl h) | exact hS.trans hc (fun _ _ h => h) (fun _ _ h => .inr (.inl h)) | exact hS.trans hc (fun _ _ h => h) (fun _ _ h => .inr (.inr (h))))
      refine ws_eg rfl (gd_ rfl rfl rfl rfl rfl rfl) (e_call ent52 rfl rfl (rput_any (hM21.si) (hak) (hav) (by omega)) ?_)
      rintro _ w31 ⟨A88, lm88, cm88, rfl, hM88, hc⟩
      refine ⟨_, rfl, (by first | exact hS.tr hc | exact hS.trans hc (fun _ _ h => h) (fun _ _ h => .inl h) | exact hS.trans hc (fun _ _ h => h) (fun _ _ h => .inr (.inl h)) | exact hS.trans hc (fun _ _ h => h) (fun _ _ h => .inr (.inr (h)))), ?_⟩
      have hzw31 := hc.size
      have HC := HC.tr hc
      have hin := hin.no hc
      have hrnd := hrnd.no hc
      have hb3 := hb3.ch hc (fun h => h)
      have hV21 := hV21.ch hc (by first | exact fun _ _ _ h => h | (intro k hk hF ht; have h2 := hF.1; have h3 := hF.2; first | omega | (dsimp only at *; omega)))
      have hM21 := hM21.after hc
      have hV29 := hV29.ch hc (by first | exact fun _ _ _ h => h | (intro k hk hF ht; have h2 := hF.1; have h3 := hF.2; first | omega | (dsimp only at *; omega)))
      have hb8 := hb8.ch hc (fun h => h)
      have hV40 := hV40.ch hc (by first | exact fun _ _ _ h => h | (intro k hk hF ht; have h2 := hF.1; have h3 := hF.2; first | omega | (dsimp only at *; omega)))
      have hY49 := hY49.after hc
      have hY54 := hY54.after hc
      have hMl88 := hM88.len
      have hM88 := hM88.mono (G := fun k => w30.heap.size ≤ k ∧ k < w31.heap.size) (fun k h1 h2 => ⟨h2, h1⟩)
      have hS := (by first | exact hS.tr hc | exact hS.trans hc (fun _ _ h => h) (fun _ _ h => .inl h) | exact hS.trans hc (fun _ _ h => h) (fun _ _ h => .inr (.inl h)) | exact hS.trans hc (fun _ _ h => h) (fun _ _ h => .inr (.inr (h))))
      refine ws_eg rfl (gd_ rfl rfl rfl rfl rfl rfl) (e_call ent50 rfl rfl (rrootO_any (o := (putT (mkA l) ak av)) (by rw [putT_items hwf hak hav]; exact hM88.si) (putT_wf hwf hak hav) (by have h9 := hM88.len; rw [← putT_items hwf hak hav, itemsT_cnt] at h9; have h8 := putT_cnt (o := mkA l) (k := ak) (v := av); omega)) ?_)
      rintro _ w32 ⟨rfl, hc⟩
      refine ⟨_, rfl, (by first | exact hS.tr hc | exact hS.trans hc (fun _ _ h => h) (fun _ _ h => .inl h) | exact hS.trans hc (fun _ _ h => h) (fun _ _ h => .inr (.inl h)) | exact hS.trans hc (fun _ _ h => h) (fun _ _ h => .inr (.inr (h)))), ?_⟩
      have hzw32 := hc.size
      have HC := HC.tr hc
      have hin := hin.no hc
      have hrnd := hrnd.no hc
      have hb3 := hb3.ch hc (fun h => h)
      have hV21 := hV21.ch hc (by first | exact fun _ _ _ h => h | (intro k hk hF ht; have h2 := hF.1; have h3 := hF.2; first | omega | (dsimp only at *; omega)))
      have hM21 := hM21.after hc
      have hV29 := hV29.ch hc (by first | exact fun _ _ _ h => h | (intro k hk hF ht; have h2 := hF.1; have h3 := hF.2; first | omega | (dsimp only at *; omega)))
      have hb8 := hb8.ch hc (fun h => h)
      have hV40 := hV40.ch hc (by first | exact fun _ _ _ h => h | (intro k hk hF ht; have h2 := hF.1; have h3 := hF.2; first | omega | (dsimp only at *; omega)))
      have hY49 := hY49.after hc
      have hY54 := hY54.after hc
      have hM88 := hM88.after hc
      have hS := (by first | exact hS.tr hc | exact hS.trans hc (fun _ _ h => h) (fun _ _ h => .inl h) | exact hS.trans hc (fun _ _ h => h) (fun _ _ h => .inr (.inl h)) | exact hS.trans hc (fun _ _ h => h) (fun _ _ h => .inr (.inr (h))))
      refine ws_pg rfl (gd_ rfl rfl rfl rfl rfl rfl) rfl rfl (p_eqH (a := (rootT (eo (some t29)))) (b := (rootT (putT (mkA l) ak av))) (by kernel_rfl) Tryd.underlying38 Tryd.underlying5 sz5 rfl rfl (rootT_len) (rootT_len)) ?_
      refine ws_p rfl rfl rfl rfl (p_pickT rfl rfl) ?_
      refine ws_p rfl rfl rfl rfl (p_mv rfl) ?_
      refine ws_know (d := 92) (b' := true) rfl (by rw [heq29, heo21]; simp) ?_
      refine ws_eg rfl (gd_ rfl rfl rfl rfl rfl rfl) (e_call ent40 rfl rfl (lives11_any hrnd) ?_)
      rintro _ w33 ⟨rfl, hc⟩
      refine ⟨_, rfl, (by first | exact hS.tr hc | exact hS.trans hc (fun _ _ h => h) (fun _ _ h => .inl h) | exact hS.trans hc (fun _ _ h => h) (fun _ _ h => .inr (.inl h)) | exact hS.trans hc (fun _ _ h => h) (fun _ _ h => .inr (.inr (h)))), ?_⟩
      have hzw33 := hc.size
      have HC := HC.tr hc
      have hin := hin.no hc
      have hrnd := hrnd.no hc
      have hb3 := hb3.ch hc (fun h => h)
      have hV21 := hV21.ch hc (by first | exact fun _ _ _ h => h | (intro k hk hF ht; have h2 := hF.1; have h3 := hF.2; first | omega | (dsimp only at *; omega)))
      have hM21 := hM21.after hc
      have hV29 := hV29.ch hc (by first | exact fun _ _ _ h => h | (intro k hk hF ht; have h2 := hF.1; have h3 := hF.2; first | omega | (dsimp only at *; omega)))
      have hb8 := hb8.ch hc (fun h => h)
      have hV40 := hV40.ch hc (by first | exact fun _ _ _ h => h | (intro k hk hF ht; have h2 := hF.1; have h3 := hF.2; first | omega | (dsimp only at *; omega)))
      have hY49 := hY49.after hc
      have hY54 := hY54.after hc
      have hM88 := hM88.after hc
      have hS := (by first | exact hS.tr hc | exact hS.trans hc (fun _ _ h => h) (fun _ _ h => .inl h) | exact hS.trans hc (fun _ _ h => h) (fun _ _ h => .inr (.inl h)) | exact hS.trans hc (fun _ _ h => h) (fun _ _ h => .inr (.inr (h))))
      refine ws_p rfl rfl rfl rfl (p_pickT rfl rfl) ?_
      refine ws_p rfl rfl rfl rfl (p_as rfl) ?_
      refine ws_n ?_
      refine x_seq ?_
      refine wc_ret ?_
      refine fin_run ((res1 rfl rfl)) ?_
      exact ⟨rfl, HC⟩
end Go.Proofs.YtkfkdakghjlenaaDoor
