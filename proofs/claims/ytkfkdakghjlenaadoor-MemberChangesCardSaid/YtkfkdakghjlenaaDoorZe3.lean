/-
  Own text, printed by a program of mine (wip/gx): what functions of the program do, walked operation by operation.
-/
import Derived.Test.YtkfkdakghjlenaaDoorProg
import Derived.Test.YtkfkdakghjlenaaDoorGxAgg
import Derived.Test.YtkfkdakghjlenaaDoorTab
import Derived.Test.YtkfkdakghjlenaaDoorGxZer
import Derived.Test.YtkfkdakghjlenaaDoorGxLay
import Derived.Test.YtkfkdakghjlenaaDoorPlPack
import Derived.Test.YtkfkdakghjlenaaDoorPlSum
import Derived.Test.YtkfkdakghjlenaaDoorPlSha
import Derived.Test.YtkfkdakghjlenaaDoorPlTag
import Derived.Test.YtkfkdakghjlenaaDoorPlBits
import Derived.Test.YtkfkdakghjlenaaDoorPlShaSt
import Derived.Test.YtkfkdakghjlenaaDoorPlShaB
import Derived.Test.YtkfkdakghjlenaaDoorPlTrie
import Derived.Test.YtkfkdakghjlenaaDoorPlTrieSt
import Derived.Test.YtkfkdakghjlenaaDoorGxRec
import Derived.Test.YtkfkdakghjlenaaDoorGxYld
import Derived.Test.YtkfkdakghjlenaaDoorPlTrieFil
import Derived.Test.YtkfkdakghjlenaaDoorOnceC
import Derived.Test.YtkfkdakghjlenaaDoorPlTrieW
import Derived.Test.YtkfkdakghjlenaaDoorPlMulti
import Derived.Test.YtkfkdakghjlenaaDoorPlEncs
import Derived.Test.YtkfkdakghjlenaaDoorGxMark
import Derived.Test.YtkfkdakghjlenaaDoorPlTrieLaw
import Derived.Test.YtkfkdakghjlenaaDoorZe0
import Derived.Test.YtkfkdakghjlenaaDoorZe1
import Derived.Test.YtkfkdakghjlenaaDoorZe2
set_option linter.unusedVariables false
set_option linter.unusedSimpArgs false
namespace Go.Proofs.YtkfkdakghjlenaaDoor
open Go.RowKit Go.Gx
open Go.Plain
set_option maxHeartbeats 4000000 in
set_option maxRecDepth 20000 in
theorem memberChanges_walk {w : World}  {Al : Option Addr} {ll cl : Nat} {Fl : Nat → Prop} {l : List (H8 × H8)} {ak av : List UInt8} {k : List UInt8} (hin : SI w Fl eIT Al ll cl l) (hak : ak.length = 32) (hav : av.length = 32) (hk : k.length = 32) (hrnd : Sl w (fun k => k = 0) u32v (some ⟨0, 0, none⟩) 64 64 rk) :
    Calls Tryd.prog 15 #[.slice Al ll cl, .agg ((List.map u8v ak ++ List.map u8v av) : List Value).toArray, hv k] w fun e w' => e = .returned (.bool true) ∧ Ch No w w' := by
  have hn0 : 0 < w.heap.size := hrnd.size (by omega) rfl
  have hn1 := hn0
  have hinl := hin.len
  have hok := hin.ok
  have hin := hin.old
  have HC : Ch No w w := Ch.refl _ _
  refine enter' (args := [.slice Al ll cl, _, hv k]) (n := 100) Tryd.func15 rfl rfl rfl ?_
  refine wc_seq ?_
  refine wc_region ?_
  refine wle rfl (e_box (cs := (((List.map u8v ak) ++ (List.map u8v av)) : List Value).toArray) rfl rfl rfl (fun w1 g4 hg4 hb4 hc hsz4 => ?_))
  have hzw1 := hc.size
  have HC := HC.tr hc
  have hin := hin.no hc
  have hrnd := hrnd.no hc
  have hge4 : w.heap.size ≤ g4 := by have := HC.size; omega
  have hltg4 := hb4.lt
  refine wle rfl (e_box (cs := (List.map u8v k).toArray) rfl rfl rfl (fun w2 g5 hg5 hb5 hc hsz5 => ?_))
  have hzw2 := hc.size
  have HC := HC.tr hc
  have hin := hin.no hc
  have hrnd := hrnd.no hc
  have hb4 := hb4.ch hc (fun h => h)
  have hge5 : w.heap.size ≤ g5 := by have := HC.size; omega
  have neg4_5 : g4 < g5 := by omega
  refine wl rfl rfl rfl (p_as rfl) ?_
  refine wl_nil ?_
  refine x_seq ?_
  refine wc_seq ?_
  refine wc_seq ?_
  refine wc_region ?_
  refine wl rfl rfl rfl (p_mv rfl) ?_
  refine wl rfl rfl rfl (p_lenS Tryd.underlying87 rfl) ?_
  refine wl rfl rfl rfl (p_gt rfl rfl) ?_
  refine wl_nil ?_
  refine x_seq ?_
  refine wc_if rfl (fun c0 => ?_) (fun c0 => ?_)
  ·
    have c0 := of_decide_eq_true c0
    refine wc_seq ?_
    refine wc_region ?_
    refine wle rfl (e_call ent29 rfl rfl (lives12_any hrnd) ?_)
    rintro _ w3 ⟨rfl, hc⟩
    refine ⟨_, rfl, ?_⟩
    have hzw3 := hc.size
    have HC := HC.tr hc
    have hin := hin.no hc
    have hrnd := hrnd.no hc
    have hb4 := hb4.ch hc (fun h => h)
    have hb5 := hb5.ch hc (fun h => h)
    refine wl rfl rfl rfl (p_as rfl) ?_
    refine wl_nil ?_
    refine x_seq ?_
    refine wc_ret ?_
    refine x_then_ret ?_
    refine fin_run ((res1 rfl rfl)) ?_
    exact ⟨rfl, HC⟩
  ·
    have c0 := of_decide_eq_false c0
    refine wc_skip ?_
    refine x_seq ?_
    refine wc_seq ?_
    refine wc_region ?_
    refine wl rfl rfl rfl (p_mv rfl) ?_
    refine wle rfl (e_call ent53 rfl rfl (made12_any hin (by omega)) ?_)
    rintro _ w4 ⟨v28, o28, A28, lm28, cm28, rfl, hV28, heo28, hM28, hc⟩
    refine ⟨_, rfl, ?_⟩
    have hzw4 := hc.size
    have HC := HC.tr hc
    have hin := hin.no hc
    have hrnd := hrnd.no hc
    have hb4 := hb4.ch hc (fun h => h)
    have hb5 := hb5.ch hc (fun h => h)
    obtain ⟨hwf, hmc⟩ := mkT_all hok
    have hml28 : lm28 = cntT (mkT l) := by rw [← itemsT_cnt]; exact hM28.len.symm
    have hszo : szO o28 ≤ 2 * cntT (mkT l) := by rw [← heo28]; exact szO_le
    have hVo := hV28.ot
    have hV28 := hV28.mono (G := fun k => w.heap.size ≤ k ∧ k < w4.heap.size) (fun k h1 h2 => ⟨by first | exact h2 | exact h2.1 | ((try dsimp only at h2); omega), h1⟩)
    have hM28 := hM28.mono (G := fun k => w.heap.size ≤ k ∧ k < w4.heap.size) (fun k h1 h2 => ⟨by first | exact h2 | exact h2.1 | ((try dsimp only at h2); omega), h1⟩)
    have hwfo : WFO (eo o28) := by rw [heo28]; exact hwf
    have hcnt : cntT (eo o28) + 1 ≤ 4611686018427387904 := by rw [heo28]; omega
    refine wl rfl rfl rfl (p_mv rfl) ?_
    refine wl rfl rfl rfl (p_ext rfl rfl) ?_
    refine wl rfl rfl rfl (p_ext rfl rfl) ?_
    refine wl rfl rfl rfl (p_as rfl) ?_
    refine wl rfl rfl rfl (p_as rfl) ?_
    refine wl_nil ?_
    refine x_seq ?_
    refine wc_seq ?_
    refine wc_region ?_
    refine wl rfl rfl rfl (p_mv rfl) ?_
    refine wl rfl rfl rfl (p_ldA (cs := List.map u8v k) Tryd.underlying38 rfl (szL sz38 (by rw [List.length_map]; exact hk)) rfl (fun _ e => e ▸ rngL hb5)) ?_
    refine wle rfl (e_call ent28 rfl rfl (mprove_any hV28 (hk) hrnd (by omega)) ?_)
    rintro _ w5 ⟨A33, l33, c33, lf33, u33, x33, rfl, hu33, hx33, hW33, hen33, hc, hFil, hRB, hRF⟩
    refine ⟨_, rfl, ?_⟩
    have hR0 := hV28.ot.out hrnd (by omega)
    have hRo : ∀ k, k < w.heap.size → k ∈ adsO o28 → False := fun k h1 h2 => absurd (hRF k h2).1 (by omega)
    have hzw5 := hc.size
    have HC := HC.trans hc (fun _ _ h => h) (fun k hk ht => absurd (hRF k ht).1 (by omega))
    have hin := hin.ch hc (fun k hk ht => hRo k hk ht)
    have hrnd := hrnd.ch hc (fun k hk ht => hR0 (hk ▸ ht))
    first | have hb4 := hb4.ch hc (hb4.not_nd hRB) | have hb4 := hb4.ch hc (by assumption)
    first | have hb5 := hb5.ch hc (hb5.not_nd hRB) | have hb5 := hb5.ch hc (by assumption)
    have hV28 := hV28.fil hc hRB hFil
    have hM28 := hM28.ty hc (by decide) hRB
    have hWl33 : l33 ≤ szO o28 := by rw [← hW33.len]; exact way_lenO
    have hW33 := hW33.mono (G := fun k => w4.heap.size ≤ k ∧ k < w5.heap.size) (fun k h1 h2 => ⟨h2, h1⟩)
    have hltg4 := hb4.lt
    have hltg5 := hb5.lt
    refine wle rfl (e_alloc (cs := (([Value.slice none 0 0, Value.bool false] ++ ((List.map u8v (List.replicate 32 (0 : UInt8))) ++ (List.map u8v (List.replicate 32 (0 : UInt8))))) : List Value).toArray) rfl (by rfl) (by rfl) (fun w6 g9 hg9 hb9 hc hsz9 => ?_))
    have hzw6 := hc.size
    have HC := HC.tr hc
    have hin := hin.no hc
    have hrnd := hrnd.no hc
    have hb4 := hb4.ch hc (fun h => h)
    have hb5 := hb5.ch hc (fun h => h)
    have hV28 := hV28.ch hc (by first | exact fun _ _ _ h => h | (intro k hk hF ht; have h2 := hF.1; have h3 := hF.2; first | omega | (dsimp only at *; omega)))
    have hM28 := hM28.after hc
    have hW33 := hW33.after hc
    have hge9 : w.heap.size ≤ g9 := by have := HC.size; omega
    have neg4_9 : g4 < g9 := by omega
    have neg5_9 : g5 < g9 := by omega
    refine wle rfl (e_stW (vs := (([.slice A33 l33 c33, .bool lf33] ++ ((List.map u8v u33) ++ (List.map u8v x33))) : List Value)) (szL sz49 (by first | rfl | (simp only [List.length_append, List.length_map, List.length_cons, List.length_nil, (show List.length u33 = 32 from hu33), (show List.length x33 = 32 from hx33)]; done) | (simp only [List.length_append, List.length_map, List.length_cons, List.length_nil, List.size_toArray, (show List.length u33 = 32 from hu33), (show List.length x33 = 32 from hx33)]; done))) (oneA (allOne rfl) (oneA (oneL one_u8 _) (oneL one_u8 _))) rfl rfl hb9 (by first | rfl | (simp only [List.length_append, List.length_map, List.length_cons, List.length_nil, (show List.length (List.replicate 32 (0 : UInt8)) = 32 from (List.length_replicate ..)), (show List.length (List.replicate 32 (0 : UInt8)) = 32 from (List.length_replicate ..)), (show List.length u33 = 32 from hu33), (show List.length x33 = 32 from hx33)]; done) | (simp only [List.length_append, List.length_map, List.length_cons, List.length_nil, List.size_toArray, (show List.length (List.replicate 32 (0 : UInt8)) = 32 from (List.length_replicate ..)), (show List.length (List.replicate 32 (0 : UInt8)) = 32 from (List.length_replicate ..)), (show List.length u33 = 32 from hu33), (show List.length x33 = 32 from hx33)]; done)) (fun w7 hb9 hc hsz => ?_))
    have hzw7 := hc.size
    have HC := HC.trans hc (fun _ _ h => h) (fun k hk ht => absurd ht (by omega))
    first | have hin := hin.ch hc (by intro k hk ht; first | omega | (dsimp only at *; omega)) | have hin := hin.chT hc (by intro k hz hk ht; first | omega | (dsimp only at *; omega))
    first | have hrnd := hrnd.ch hc (by intro k hk ht; first | omega | (dsimp only at *; omega)) | have hrnd := hrnd.chT hc (by intro k hz hk ht; first | omega | (dsimp only at *; omega))
    have hb4 := hb4.ch hc (by omega)
    have hb5 := hb5.ch hc (by omega)
    have hV28 := hV28.ch hc (by first | exact fun _ _ _ h => h | (intro k hk hF ht; have h2 := hF.1; have h3 := hF.2; first | omega | (dsimp only at *; omega)))
    have hM28 := hM28.ch hc (by intro k hz hk ht; first | omega | (dsimp only at *; omega))
    have hW33 := hW33.ch hc (by intro k hz hk ht; first | omega | (dsimp only at *; omega))
    refine wl_nil ?_
    refine x_seq ?_
    refine wc_seq ?_
    refine wc_region ?_
    refine wl rfl rfl rfl (p_mv rfl) ?_
    refine wl rfl rfl rfl (p_fld (j := 0) Tryd.underlying95 rfl ⟨_, by rfl⟩ rfl rfl) ?_
    refine wl rfl rfl rfl (p_ldA (cs := (List.map u8v ak)) Tryd.underlying38 rfl (szL sz38 (by first | rfl | (simp only [List.length_append, List.length_map, List.length_cons, List.length_nil, (show List.length ak = 32 from hak)]; done) | (simp only [List.length_append, List.length_map, List.length_cons, List.length_nil, List.size_toArray, (show List.length ak = 32 from hak)]; done))) rfl (fun _ e => e ▸ rng_at (p := []) (q := ((List.map u8v ak) : List Value)) (r := ((List.map u8v av) : List Value)) hb4 (by simp only [List.append_assoc, List.cons_append, List.nil_append, List.append_nil]) (by first | rfl | (simp only [List.length_append, List.length_map, List.length_cons, List.length_nil]; done) | (simp only [List.length_append, List.length_map, List.length_cons, List.length_nil, List.size_toArray]; done)))) ?_
    refine wl rfl rfl rfl (p_fld (j := 32) Tryd.underlying95 rfl ⟨_, by rfl⟩ rfl rfl) ?_
    refine wl rfl rfl rfl (p_ldA (cs := (List.map u8v av)) Tryd.underlying38 rfl (szL sz38 (by first | rfl | (simp only [List.length_append, List.length_map, List.length_cons, List.length_nil, (show List.length av = 32 from hav)]; done) | (simp only [List.length_append, List.length_map, List.length_cons, List.length_nil, List.size_toArray, (show List.length av = 32 from hav)]; done))) rfl (fun _ e => e ▸ rng_at (p := ((List.map u8v ak) : List Value)) (q := ((List.map u8v av) : List Value)) (r := []) hb4 (by simp only [List.append_assoc, List.cons_append, List.nil_append, List.append_nil]) (by first | rfl | (simp only [List.length_append, List.length_map, List.length_cons, List.length_nil, (show List.length ak = 32 from hak)]; done) | (simp only [List.length_append, List.length_map, List.length_cons, List.length_nil, List.size_toArray, (show List.length ak = 32 from hak)]; done)))) ?_
    refine wle rfl (e_call ent44 rfl rfl (tput_made (F := fun k => w.heap.size ≤ k) (hV28.mono (fun k _ h => h.1)) (fun j hj => by show w.heap.size ≤ j; omega) (hak) (hav) hcnt) ?_)
    rintro _ w8 ⟨v39, t39, rfl, hV39, heq39, hc⟩
    refine ⟨_, rfl, ?_⟩
    have hzw8 := hc.size
    have HC := HC.tr hc
    have hin := hin.no hc
    have hrnd := hrnd.no hc
    have hb4 := hb4.ch hc (fun h => h)
    have hb5 := hb5.ch hc (fun h => h)
    have hV28 := hV28.ch hc (by first | exact fun _ _ _ h => h | (intro k hk hF ht; have h2 := hF.1; have h3 := hF.2; first | omega | (dsimp only at *; omega)))
    have hM28 := hM28.after hc
    have hW33 := hW33.after hc
    have hb9 := hb9.ch hc (fun h => h)
    have hV39 := hV39.mono (G := fun k => w.heap.size ≤ k ∧ k < w8.heap.size) (fun k h1 h2 => ⟨by first | exact h2 | exact h2.1 | ((try dsimp only at h2); omega), h1⟩)
    have hwfu : WFO (eo (some t39)) := by rw [heq39]; exact putT_wf hwfo hak hav
    have hszu : szO (some t39) ≤ 2 * (cntT (mkT l) + 1) := by have h1 := szO_le (o := some t39); rw [heq39] at h1; have h2 := putT_cnt (o := eo o28) (k := ak) (v := av); rw [heo28] at h1 h2; omega
    refine wl rfl rfl rfl (p_as rfl) ?_
    refine wl_nil ?_
    refine x_seq ?_
    refine wc_seq ?_
    refine wc_draw (.st 0 0 (.st 2 1 (.st 3 1 (.alt (.st 1 2 (.alt (.st 4 2 (.st 5 0 (.st 6 0 (.st 7 0 (.st 8 0 (.st 9 2 (.st 10 3 (.st 11 0 (.st 12 0 .nil))))))))) (.st 9 2 (.st 4 2 (.st 5 0 (.st 6 0 (.st 7 0 (.st 8 0 (.st 10 3 (.st 11 0 (.st 12 0 .nil))))))))))) (.st 9 2 (.st 1 2 (.st 4 2 (.st 5 0 (.st 6 0 (.st 7 0 (.st 8 0 (.st 10 3 (.st 11 0 (.st 12 0 .nil)))))))))))))) 10 (by kernel_rfl) (by kernel_rfl) (by kernel_rfl) (by repeat (first | with_reducible exact pan_body | with_reducible apply pan_then | with_reducible apply pan_in)) (fun z => Ch (fun k => k ∈ adsO o28) w8.drew z) (Ch.refl _ _) ?_
    obtain ⟨w9, ew9⟩ : ∃ x, x = w8.drew := ⟨_, rfl⟩
    rw [← ew9]
    have hc : Ch No w8 w9 := by rw [ew9]; exact Ch.drew _
    have hszw9 : w9.heap.size = w8.heap.size := by rw [ew9]; rfl
    clear ew9
    have hzw9 := hc.size
    have HC := HC.tr hc
    have hin := hin.no hc
    have hrnd := hrnd.no hc
    have hb4 := hb4.ch hc (fun h => h)
    have hb5 := hb5.ch hc (fun h => h)
    have hV28 := hV28.ch hc (by first | exact fun _ _ _ h => h | (intro k hk hF ht; have h2 := hF.1; have h3 := hF.2; first | omega | (dsimp only at *; omega)))
    have hM28 := hM28.no hc
    have hW33 := hW33.no hc
    have hb9 := hb9.ch hc (fun h => h)
    have hV39 := hV39.ch hc (by first | exact fun _ _ _ h => h | (intro k hk hF ht; have h2 := hF.1; have h3 := hF.2; first | omega | (dsimp only at *; omega)))
    have hS : Ch (fun k => k ∈ adsO o28) w9 w9 := Ch.refl _ _
    have hRBd := hV28.adsB
    refine ws_p rfl rfl rfl rfl (p_mv rfl) ?_
    refine ws_h rfl rfl rfl rfl (p_ldA (cs := List.map u8v k) Tryd.underlying38 rfl (szL sz38 (by rw [List.length_map]; exact hk)) rfl (fun _ h => (rngL (hb5.ch h (hb5.not_nd hRBd))))) ?_
    refine ws_h rfl rfl rfl rfl (p_ldA (cs := (([.slice A33 l33 c33, .bool lf33] ++ ((List.map u8v u33) ++ (List.map u8v x33))) : List Value)) Tryd.underlying49 rfl (szL sz49 (by first | rfl | (simp only [List.length_append, List.length_map, List.length_cons, List.length_nil, (show List.length u33 = 32 from hu33), (show List.length x33 = 32 from hx33)]; done) | (simp only [List.length_append, List.length_map, List.length_cons, List.length_nil, List.size_toArray, (show List.length u33 = 32 from hu33), (show List.length x33 = 32 from hx33)]; done))) rfl (fun _ h => (rngL (hb9.ch h (hb9.not_nd hRBd))))) ?_
    refine ws_alt ?_ ?_
    ·
      refine ws_e rfl rfl (e_call ent46 rfl rfl (troot_made hV28 hrnd) ?_)
      rintro _ w10 ⟨rfl, hc, hFil, hRB, hRF⟩
      refine ⟨_, rfl, (by first | exact hS.tr hc | exact hS.trans hc (fun _ _ h => h) (fun _ _ h => h)), ?_⟩
      have hR0 := hV28.ot.out hrnd (by omega)
      have hRo : ∀ k, k < w.heap.size → k ∈ adsO o28 → False := fun k h1 h2 => absurd (hRF k h2).1 (by omega)
      have hzw10 := hc.size
      have HC := HC.trans hc (fun _ _ h => h) (fun k hk ht => absurd (hRF k ht).1 (by omega))
      have hin := hin.ch hc (fun k hk ht => hRo k hk ht)
      have hrnd := hrnd.ch hc (fun k hk ht => hR0 (hk ▸ ht))
      first | have hb4 := hb4.ch hc (hb4.not_nd hRB) | have hb4 := hb4.ch hc (by assumption)
      first | have hb5 := hb5.ch hc (hb5.not_nd hRB) | have hb5 := hb5.ch hc (by assumption)
      have hV28 := hV28.fil hc hRB hFil
      have hM28 := hM28.ty hc (by decide) hRB
      have hW33 := hW33.ty hc (by decide) hRB
      first | have hb9 := hb9.ch hc (hb9.not_nd hRB) | have hb9 := hb9.ch hc (by assumption)
      have hV39 := hV39.fil hc hRB hFil
      have hS := (by first | exact hS.tr hc | exact hS.trans hc (fun _ _ h => h) (fun _ _ h => h))
      refine ws_alt ?_ ?_
      ·
        refine ws_e rfl rfl (e_call ent32 rfl rfl (mcheck_any (rootT_len) (hk) (hW33.si) (hu33) (hx33) (by omega) hrnd) ?_)
        rintro _ w11 ⟨u45, a45, b45, rfl, hu45, hck45, hc⟩
        refine ⟨_, rfl, (by first | exact hS.tr hc | exact hS.trans hc (fun _ _ h => h) (fun _ _ h => h)), ?_⟩
        have hzw11 := hc.size
        have HC := HC.tr hc
        have hin := hin.no hc
        have hrnd := hrnd.no hc
        have hb4 := hb4.ch hc (fun h => h)
        have hb5 := hb5.ch hc (fun h => h)
        have hV28 := hV28.ch hc (by first | exact fun _ _ _ h => h | (intro k hk hF ht; have h2 := hF.1; have h3 := hF.2; first | omega | (dsimp only at *; omega)))
        have hM28 := hM28.after hc
        have hW33 := hW33.after hc
        have hb9 := hb9.ch hc (fun h => h)
        have hV39 := hV39.ch hc (by first | exact fun _ _ _ h => h | (intro k hk hF ht; have h2 := hF.1; have h3 := hF.2; first | omega | (dsimp only at *; omega)))
        have hS := (by first | exact hS.tr hc | exact hS.trans hc (fun _ _ h => h) (fun _ _ h => h))
        refine ws_p rfl rfl rfl rfl (p_mv rfl) ?_
        refine ws_p rfl rfl rfl rfl (p_ext rfl rfl) ?_
        refine ws_p rfl rfl rfl rfl (p_ext rfl rfl) ?_
        refine ws_p rfl rfl rfl rfl (p_ext rfl rfl) ?_
        have hltg4 := hb4.lt
        have hltg5 := hb5.lt
        have hltg9 := hb9.lt
        refine ws_e rfl rfl (e_alloc (cs := ((List.replicate 32 (0 : UInt8)).map u8v).toArray) rfl (by rfl) rfl (fun w12 g11 hg11 hb11 hc hsz11 => ⟨(by first | exact hS.tr hc | exact hS.trans hc (fun _ _ h => h) (fun _ _ h => h)), ?_⟩))
        have hzw12 := hc.size
        have HC := HC.tr hc
        have hin := hin.no hc
        have hrnd := hrnd.no hc
        have hb4 := hb4.ch hc (fun h => h)
        have hb5 := hb5.ch hc (fun h => h)
        have hV28 := hV28.ch hc (by first | exact fun _ _ _ h => h | (intro k hk hF ht; have h2 := hF.1; have h3 := hF.2; first | omega | (dsimp only at *; omega)))
        have hM28 := hM28.after hc
        have hW33 := hW33.after hc
        have hb9 := hb9.ch hc (fun h => h)
        have hV39 := hV39.ch hc (by first | exact fun _ _ _ h => h | (intro k hk hF ht; have h2 := hF.1; have h3 := hF.2; first | omega | (dsimp only at *; omega)))
        have hge11 : w.heap.size ≤ g11 := by have := HC.size; omega
        have neg4_11 : g4 < g11 := by omega
        have neg5_11 : g5 < g11 := by omega
        have neg9_11 : g9 < g11 := by omega
        have hS := (by first | exact hS.tr hc | exact hS.trans hc (fun _ _ h => h) (fun _ _ h => h))
        refine ws_l rfl rfl (e_stW (vs := List.map u8v u45) (szL sz38 (by rw [List.length_map]; exact hu45)) (oneL one_u8 _) rfl rfl hb11 (by simp only [List.size_toArray, List.length_map]; first | done | exact ((List.length_replicate ..)).trans (hu45).symm) (fun w13 hb11 hc hsz => ?_))
        have hzw13 := hc.size
        have HC := HC.trans hc (fun _ _ h => h) (fun k hk ht => absurd ht (by omega))
        first | have hin := hin.ch hc (by intro k hk ht; first | omega | (dsimp only at *; omega)) | have hin := hin.chT hc (by intro k hz hk ht; first | omega | (dsimp only at *; omega))
        first | have hrnd := hrnd.ch hc (by intro k hk ht; first | omega | (dsimp only at *; omega)) | have hrnd := hrnd.chT hc (by intro k hz hk ht; first | omega | (dsimp only at *; omega))
        have hb4 := hb4.ch hc (by omega)
        have hb5 := hb5.ch hc (by omega)
        have hV28 := hV28.ch hc (by first | exact fun _ _ _ h => h | (intro k hk hF ht; have h2 := hF.1; have h3 := hF.2; first | omega | (dsimp only at *; omega)))
        have hM28 := hM28.ch hc (by intro k hz hk ht; first | omega | (dsimp only at *; omega))
        have hW33 := hW33.ch hc (by intro k hz hk ht; first | omega | (dsimp only at *; omega))
        have hb9 := hb9.ch hc (by omega)
        have hV39 := hV39.ch hc (by first | exact fun _ _ _ h => h | (intro k hk hF ht; have h2 := hF.1; have h3 := hF.2; first | omega | (dsimp only at *; omega)))
        refine ws_p rfl rfl rfl rfl (p_as rfl) ?_
        refine ws_p rfl rfl rfl rfl (p_as rfl) ?_
        refine ws_n ?_
        refine x_seq ?_
        refine wc_seq ?_
        refine wc_region ?_
        refine wl rfl rfl rfl (p_mv rfl) ?_
        refine wl rfl rfl rfl (p_ldA (cs := List.map u8v k) Tryd.underlying38 rfl (szL sz38 (by rw [List.length_map]; exact hk)) rfl (fun _ e => e ▸ rngL hb5)) ?_
        refine wle rfl (e_call ent42 rfl rfl (tget_any hV28 (hk)) ?_)
        rintro _ w14 ⟨u52, ok52, rfl, hu52, hg52, hc⟩
        refine ⟨_, rfl, ?_⟩
        have hzw14 := hc.size
        have HC := HC.tr hc
        have hin := hin.no hc
        have hrnd := hrnd.no hc
        have hb4 := hb4.ch hc (fun h => h)
        have hb5 := hb5.ch hc (fun h => h)
        have hV28 := hV28.ch hc (by first | exact fun _ _ _ h => h | (intro k hk hF ht; have h2 := hF.1; have h3 := hF.2; first | omega | (dsimp only at *; omega)))
        have hM28 := hM28.after hc
        have hW33 := hW33.after hc
        have hb9 := hb9.ch hc (fun h => h)
        have hV39 := hV39.ch hc (by first | exact fun _ _ _ h => h | (intro k hk hF ht; have h2 := hF.1; have h3 := hF.2; first | omega | (dsimp only at *; omega)))
        have hb11 := hb11.ch hc (fun h => h)
        obtain ⟨hG, hBt, hAt, hUt⟩ := holds_ok hwfo hen33 hck45 hg52
        refine wl rfl rfl rfl (p_mv rfl) ?_
        refine wl rfl rfl rfl (p_ext rfl rfl) ?_
        refine wl rfl rfl rfl (p_ext rfl rfl) ?_
        have hltg4 := hb4.lt
        have hltg5 := hb5.lt
        have hltg9 := hb9.lt
        have hltg11 := hb11.lt
        refine wle rfl (e_alloc (cs := ((List.replicate 32 (0 : UInt8)).map u8v).toArray) rfl (by rfl) rfl (fun w15 g14 hg14 hb14 hc hsz14 => ?_))
        have hzw15 := hc.size
        have HC := HC.tr hc
        have hin := hin.no hc
        have hrnd := hrnd.no hc
        have hb4 := hb4.ch hc (fun h => h)
        have hb5 := hb5.ch hc (fun h => h)
        have hV28 := hV28.ch hc (by first | exact fun _ _ _ h => h | (intro k hk hF ht; have h2 := hF.1; have h3 := hF.2; first | omega | (dsimp only at *; omega)))
        have hM28 := hM28.after hc
        have hW33 := hW33.after hc
        have hb9 := hb9.ch hc (fun h => h)
        have hV39 := hV39.ch hc (by first | exact fun _ _ _ h => h | (intro k hk hF ht; have h2 := hF.1; have h3 := hF.2; first | omega | (dsimp only at *; omega)))
        have hb11 := hb11.ch hc (fun h => h)
        have hge14 : w.heap.size ≤ g14 := by have := HC.size; omega
        have neg4_14 : g4 < g14 := by omega
        have neg5_14 : g5 < g14 := by omega
        have neg9_14 : g9 < g14 := by omega
        have neg11_14 : g11 < g14 := by omega
        refine wle rfl (e_stW (vs := List.map u8v u52) (szL sz38 (by rw [List.length_map]; exact hu52)) (oneL one_u8 _) rfl rfl hb14 (by simp only [List.size_toArray, List.length_map]; first | done | exact ((List.length_replicate ..)).trans (hu52).symm) (fun w16 hb14 hc hsz => ?_))
        have hzw16 := hc.size
        have HC := HC.trans hc (fun _ _ h => h) (fun k hk ht => absurd ht (by omega))
        first | have hin := hin.ch hc (by intro k hk ht; first | omega | (dsimp only at *; omega)) | have hin := hin.chT hc (by intro k hz hk ht; first | omega | (dsimp only at *; omega))
        first | have hrnd := hrnd.ch hc (by intro k hk ht; first | omega | (dsimp only at *; omega)) | have hrnd := hrnd.chT hc (by intro k hz hk ht; first | omega | (dsimp only at *; omega))
        have hb4 := hb4.ch hc (by omega)
        have hb5 := hb5.ch hc (by omega)
        have hV28 := hV28.ch hc (by first | exact fun _ _ _ h => h | (intro k hk hF ht; have h2 := hF.1; have h3 := hF.2; first | omega | (dsimp only at *; omega)))
        have hM28 := hM28.ch hc (by intro k hz hk ht; first | omega | (dsimp only at *; omega))
        have hW33 := hW33.ch hc (by intro k hz hk ht; first | omega | (dsimp only at *; omega))
        have hb9 := hb9.ch hc (by omega)
        have hV39 := hV39.ch hc (by first | exact fun _ _ _ h => h | (intro k hk hF ht; have h2 := hF.1; have h3 := hF.2; first | omega | (dsimp only at *; omega)))
        have hb11 := hb11.ch hc (by omega)
        refine wl rfl rfl rfl (p_as rfl) ?_
        refine wl_nil ?_
        refine x_seq ?_
        refine wc_seq ?_
        refine wc_region ?_
        refine wl rfl rfl rfl (p_mv rfl) ?_
        refine wl rfl rfl rfl (p_ldA (cs := List.map u8v k) Tryd.underlying38 rfl (szL sz38 (by rw [List.length_map]; exact hk)) rfl (fun _ e => e ▸ rngL hb5)) ?_
        refine wle rfl (e_call ent42 rfl rfl (tget_any hV39 (hk)) ?_)
        rintro _ w17 ⟨u58, ok58, rfl, hu58, hg58, hc⟩
        refine ⟨_, rfl, ?_⟩
        have hzw17 := hc.size
        have HC := HC.tr hc
        have hin := hin.no hc
        have hrnd := hrnd.no hc
        have hb4 := hb4.ch hc (fun h => h)
        have hb5 := hb5.ch hc (fun h => h)
        have hV28 := hV28.ch hc (by first | exact fun _ _ _ h => h | (intro k hk hF ht; have h2 := hF.1; have h3 := hF.2; first | omega | (dsimp only at *; omega)))
        have hM28 := hM28.after hc
        have hW33 := hW33.after hc
        have hb9 := hb9.ch hc (fun h => h)
        have hV39 := hV39.ch hc (by first | exact fun _ _ _ h => h | (intro k hk hF ht; have h2 := hF.1; have h3 := hF.2; first | omega | (dsimp only at *; omega)))
        have hb11 := hb11.ch hc (fun h => h)
        have hb14 := hb14.ch hc (fun h => h)
        refine wl rfl rfl rfl (p_mv rfl) ?_
        refine wl rfl rfl rfl (p_ext rfl rfl) ?_
        refine wl rfl rfl rfl (p_ext rfl rfl) ?_
        have hltg4 := hb4.lt
        have hltg5 := hb5.lt
        have hltg9 := hb9.lt
        have hltg11 := hb11.lt
        have hltg14 := hb14.lt
        refine wle rfl (e_alloc (cs := ((List.replicate 32 (0 : UInt8)).map u8v).toArray) rfl (by rfl) rfl (fun w18 g16 hg16 hb16 hc hsz16 => ?_))
        have hzw18 := hc.size
        have HC := HC.tr hc
        have hin := hin.no hc
        have hrnd := hrnd.no hc
        have hb4 := hb4.ch hc (fun h => h)
        have hb5 := hb5.ch hc (fun h => h)
        have hV28 := hV28.ch hc (by first | exact fun _ _ _ h => h | (intro k hk hF ht; have h2 := hF.1; have h3 := hF.2; first | omega | (dsimp only at *; omega)))
        have hM28 := hM28.after hc
        have hW33 := hW33.after hc
        have hb9 := hb9.ch hc (fun h => h)
        have hV39 := hV39.ch hc (by first | exact fun _ _ _ h => h | (intro k hk hF ht; have h2 := hF.1; have h3 := hF.2; first | omega | (dsimp only at *; omega)))
        have hb11 := hb11.ch hc (fun h => h)
        have hb14 := hb14.ch hc (fun h => h)
        have hge16 : w.heap.size ≤ g16 := by have := HC.size; omega
        have neg4_16 : g4 < g16 := by omega
        have neg5_16 : g5 < g16 := by omega
        have neg9_16 : g9 < g16 := by omega
        have neg11_16 : g11 < g16 := by omega
        have neg14_16 : g14 < g16 := by omega
        refine wle rfl (e_stW (vs := List.map u8v u58) (szL sz38 (by rw [List.length_map]; exact hu58)) (oneL one_u8 _) rfl rfl hb16 (by simp only [List.size_toArray, List.length_map]; first | done | exact ((List.length_replicate ..)).trans (hu58).symm) (fun w19 hb16 hc hsz => ?_))
        have hzw19 := hc.size
        have HC := HC.trans hc (fun _ _ h => h) (fun k hk ht => absurd ht (by omega))
        first | have hin := hin.ch hc (by intro k hk ht; first | omega | (dsimp only at *; omega)) | have hin := hin.chT hc (by intro k hz hk ht; first | omega | (dsimp only at *; omega))
        first | have hrnd := hrnd.ch hc (by intro k hk ht; first | omega | (dsimp only at *; omega)) | have hrnd := hrnd.chT hc (by intro k hz hk ht; first | omega | (dsimp only at *; omega))
        have hb4 := hb4.ch hc (by omega)
        have hb5 := hb5.ch hc (by omega)
        have hV28 := hV28.ch hc (by first | exact fun _ _ _ h => h | (intro k hk hF ht; have h2 := hF.1; have h3 := hF.2; first | omega | (dsimp only at *; omega)))
        have hM28 := hM28.ch hc (by intro k hz hk ht; first | omega | (dsimp only at *; omega))
        have hW33 := hW33.ch hc (by intro k hz hk ht; first | omega | (dsimp only at *; omega))
        have hb9 := hb9.ch hc (by omega)
        have hV39 := hV39.ch hc (by first | exact fun _ _ _ h => h | (intro k hk hF ht; have h2 := hF.1; have h3 := hF.2; first | omega | (dsimp only at *; omega)))
        have hb11 := hb11.ch hc (by omega)
        have hb14 := hb14.ch hc (by omega)
        refine wl rfl rfl rfl (p_as rfl) ?_
        refine wl_nil ?_
        refine x_seq ?_
        refine wc_seq ?_
        refine wc_region ?_
        refine wl rfl rfl rfl (p_mv rfl) ?_
        refine wl rfl rfl rfl (p_ldA (cs := List.map u8v k) Tryd.underlying38 rfl (szL sz38 (by rw [List.length_map]; exact hk)) rfl (fun _ e => e ▸ rngL hb5)) ?_
        refine wle rfl (e_call ent28 rfl rfl (mprove_any hV39 (hk) hrnd (by omega)) ?_)
        rintro _ w20 ⟨A63, l63, c63, lf63, u63, x63, rfl, hu63, hx63, hW63, hen63, hc, hFil, hRB, hRF⟩
        refine ⟨_, rfl, ?_⟩
        have hR0 := hV39.ot.out hrnd (by omega)
        have hRo : ∀ k, k < w.heap.size → k ∈ adsO (some t39) → False := fun k h1 h2 => absurd (hRF k h2).1 (by omega)
        have hzw20 := hc.size
        have HC := HC.trans hc (fun _ _ h => h) (fun k hk ht => absurd (hRF k ht).1 (by omega))
        have hin := hin.ch hc (fun k hk ht => hRo k hk ht)
        have hrnd := hrnd.ch hc (fun k hk ht => hR0 (hk ▸ ht))
        first | have hb4 := hb4.ch hc (hb4.not_nd hRB) | have hb4 := hb4.ch hc (by assumption)
        first | have hb5 := hb5.ch hc (hb5.not_nd hRB) | have hb5 := hb5.ch hc (by assumption)
        have hV28 := hV28.fil hc hRB hFil
        have hM28 := hM28.ty hc (by decide) hRB
        have hW33 := hW33.ty hc (by decide) hRB
        first | have hb9 := hb9.ch hc (hb9.not_nd hRB) | have hb9 := hb9.ch hc (by assumption)
        have hV39 := hV39.fil hc hRB hFil
        first | have hb11 := hb11.ch hc (hb11.not_nd hRB) | have hb11 := hb11.ch hc (by assumption)
        first | have hb14 := hb14.ch hc (hb14.not_nd hRB) | have hb14 := hb14.ch hc (by assumption)
        first | have hb16 := hb16.ch hc (hb16.not_nd hRB) | have hb16 := hb16.ch hc (by assumption)
        have hWl63 : l63 ≤ szO (some t39) := by rw [← hW63.len]; exact way_lenO
        have hW63 := hW63.mono (G := fun k => w19.heap.size ≤ k ∧ k < w20.heap.size) (fun k h1 h2 => ⟨h2, h1⟩)
        have hltg4 := hb4.lt
        have hltg5 := hb5.lt
        have hltg9 := hb9.lt
        have hltg11 := hb11.lt
        have hltg14 := hb14.lt
        have hltg16 := hb16.lt
        refine wle rfl (e_alloc (cs := (([Value.slice none 0 0, Value.bool false] ++ ((List.map u8v (List.replicate 32 (0 : UInt8))) ++ (List.map u8v (List.replicate 32 (0 : UInt8))))) : List Value).toArray) rfl (by rfl) (by rfl) (fun w21 g18 hg18 hb18 hc hsz18 => ?_))
        have hzw21 := hc.size
        have HC := HC.tr hc
        have hin := hin.no hc
        have hrnd := hrnd.no hc
        have hb4 := hb4.ch hc (fun h => h)
        have hb5 := hb5.ch hc (fun h => h)
        have hV28 := hV28.ch hc (by first | exact fun _ _ _ h => h | (intro k hk hF ht; have h2 := hF.1; have h3 := hF.2; first | omega | (dsimp only at *; omega)))
        have hM28 := hM28.after hc
        have hW33 := hW33.after hc
        have hb9 := hb9.ch hc (fun h => h)
        have hV39 := hV39.ch hc (by first | exact fun _ _ _ h => h | (intro k hk hF ht; have h2 := hF.1; have h3 := hF.2; first | omega | (dsimp only at *; omega)))
        have hb11 := hb11.ch hc (fun h => h)
        have hb14 := hb14.ch hc (fun h => h)
        have hb16 := hb16.ch hc (fun h => h)
        have hW63 := hW63.after hc
        have hge18 : w.heap.size ≤ g18 := by have := HC.size; omega
        have neg4_18 : g4 < g18 := by omega
        have neg5_18 : g5 < g18 := by omega
        have neg9_18 : g9 < g18 := by omega
        have neg11_18 : g11 < g18 := by omega
        have neg14_18 : g14 < g18 := by omega
        have neg16_18 : g16 < g18 := by omega
        refine wle rfl (e_stW (vs := (([.slice A63 l63 c63, .bool lf63] ++ ((List.map u8v u63) ++ (List.map u8v x63))) : List Value)) (szL sz49 (by first | rfl | (simp only [List.length_append, List.length_map, List.length_cons, List.length_nil, (show List.length u63 = 32 from hu63), (show List.length x63 = 32 from hx63)]; done) | (simp only [List.length_append, List.length_map, List.length_cons, List.length_nil, List.size_toArray, (show List.length u63 = 32 from hu63), (show List.length x63 = 32 from hx63)]; done))) (oneA (allOne rfl) (oneA (oneL one_u8 _) (oneL one_u8 _))) rfl rfl hb18 (by first | rfl | (simp only [List.length_append, List.length_map, List.length_cons, List.length_nil, (show List.length (List.replicate 32 (0 : UInt8)) = 32 from (List.length_replicate ..)), (show List.length (List.replicate 32 (0 : UInt8)) = 32 from (List.length_replicate ..)), (show List.length u63 = 32 from hu63), (show List.length x63 = 32 from hx63)]; done) | (simp only [List.length_append, List.length_map, List.length_cons, List.length_nil, List.size_toArray, (show List.length (List.replicate 32 (0 : UInt8)) = 32 from (List.length_replicate ..)), (show List.length (List.replicate 32 (0 : UInt8)) = 32 from (List.length_replicate ..)), (show List.length u63 = 32 from hu63), (show List.length x63 = 32 from hx63)]; done)) (fun w22 hb18 hc hsz => ?_))
        have hzw22 := hc.size
        have HC := HC.trans hc (fun _ _ h => h) (fun k hk ht => absurd ht (by omega))
        first | have hin := hin.ch hc (by intro k hk ht; first | omega | (dsimp only at *; omega)) | have hin := hin.chT hc (by intro k hz hk ht; first | omega | (dsimp only at *; omega))
        first | have hrnd := hrnd.ch hc (by intro k hk ht; first | omega | (dsimp only at *; omega)) | have hrnd := hrnd.chT hc (by intro k hz hk ht; first | omega | (dsimp only at *; omega))
        have hb4 := hb4.ch hc (by omega)
        have hb5 := hb5.ch hc (by omega)
        have hV28 := hV28.ch hc (by first | exact fun _ _ _ h => h | (intro k hk hF ht; have h2 := hF.1; have h3 := hF.2; first | omega | (dsimp only at *; omega)))
        have hM28 := hM28.ch hc (by intro k hz hk ht; first | omega | (dsimp only at *; omega))
        have hW33 := hW33.ch hc (by intro k hz hk ht; first | omega | (dsimp only at *; omega))
        have hb9 := hb9.ch hc (by omega)
        have hV39 := hV39.ch hc (by first | exact fun _ _ _ h => h | (intro k hk hF ht; have h2 := hF.1; have h3 := hF.2; first | omega | (dsimp only at *; omega)))
        have hb11 := hb11.ch hc (by omega)
        have hb14 := hb14.ch hc (by omega)
        have hb16 := hb16.ch hc (by omega)
        have hW63 := hW63.ch hc (by intro k hz hk ht; first | omega | (dsimp only at *; omega))
        refine wl_nil ?_
        refine x_seq ?_
        refine wc_seq ?_
        refine wc_draw (.st 0 0 (.st 2 1 (.st 3 1 (.alt (.st 1 2 (.alt (.st 4 2 (.st 5 0 (.st 6 0 (.st 7 0 (.st 8 0 (.st 9 2 (.st 10 3 (.st 11 0 (.st 12 0 .nil))))))))) (.st 9 2 (.st 4 2 (.st 5 0 (.st 6 0 (.st 7 0 (.st 8 0 (.st 10 3 (.st 11 0 (.st 12 0 .nil))))))))))) (.st 9 2 (.st 1 2 (.st 4 2 (.st 5 0 (.st 6 0 (.st 7 0 (.st 8 0 (.st 10 3 (.st 11 0 (.st 12 0 .nil)))))))))))))) 10 (by kernel_rfl) (by kernel_rfl) (by kernel_rfl) (by repeat (first | with_reducible exact pan_body | with_reducible apply pan_then | with_reducible apply pan_in)) (fun z => Ch (fun k => k ∈ adsO (some t39)) w22.drew z) (Ch.refl _ _) ?_
        obtain ⟨w23, ew23⟩ : ∃ x, x = w22.drew := ⟨_, rfl⟩
        rw [← ew23]
        have hc : Ch No w22 w23 := by rw [ew23]; exact Ch.drew _
        have hszw23 : w23.heap.size = w22.heap.size := by rw [ew23]; rfl
        clear ew23
        have hzw23 := hc.size
        have HC := HC.tr hc
        have hin := hin.no hc
        have hrnd := hrnd.no hc
        have hb4 := hb4.ch hc (fun h => h)
        have hb5 := hb5.ch hc (fun h => h)
        have hV28 := hV28.ch hc (by first | exact fun _ _ _ h => h | (intro k hk hF ht; have h2 := hF.1; have h3 := hF.2; first | omega | (dsimp only at *; omega)))
        have hM28 := hM28.no hc
        have hW33 := hW33.no hc
        have hb9 := hb9.ch hc (fun h => h)
        have hV39 := hV39.ch hc (by first | exact fun _ _ _ h => h | (intro k hk hF ht; have h2 := hF.1; have h3 := hF.2; first | omega | (dsimp only at *; omega)))
        have hb11 := hb11.ch hc (fun h => h)
        have hb14 := hb14.ch hc (fun h => h)
        have hb16 := hb16.ch hc (fun h => h)
        have hW63 := hW63.no hc
        have hb18 := hb18.ch hc (fun h => h)
        have hS : Ch (fun k => k ∈ adsO (some t39)) w23 w23 := Ch.refl _ _
        have hRBd := hV39.adsB
        refine ws_p rfl rfl rfl rfl (p_mv rfl) ?_
        refine ws_h rfl rfl rfl rfl (p_ldA (cs := List.map u8v k) Tryd.underlying38 rfl (szL sz38 (by rw [List.length_map]; exact hk)) rfl (fun _ h => (rngL (hb5.ch h (hb5.not_nd hRBd))))) ?_
        refine ws_h rfl rfl rfl rfl (p_ldA (cs := (([.slice A63 l63 c63, .bool lf63] ++ ((List.map u8v u63) ++ (List.map u8v x63))) : List Value)) Tryd.underlying49 rfl (szL sz49 (by first | rfl | (simp only [List.length_append, List.length_map, List.length_cons, List.length_nil, (show List.length u63 = 32 from hu63), (show List.length x63 = 32 from hx63)]; done) | (simp only [List.length_append, List.length_map, List.length_cons, List.length_nil, List.size_toArray, (show List.length u63 = 32 from hu63), (show List.length x63 = 32 from hx63)]; done))) rfl (fun _ h => (rngL (hb18.ch h (hb18.not_nd hRBd))))) ?_
        refine ws_alt ?_ ?_
        ·
          refine ws_e rfl rfl (e_call ent46 rfl rfl (troot_made hV39 hrnd) ?_)
          rintro _ w24 ⟨rfl, hc, hFil, hRB, hRF⟩
          refine ⟨_, rfl, (by first | exact hS.tr hc | exact hS.trans hc (fun _ _ h => h) (fun _ _ h => h)), ?_⟩
          have hR0 := hV39.ot.out hrnd (by omega)
          have hRo : ∀ k, k < w.heap.size → k ∈ adsO (some t39) → False := fun k h1 h2 => absurd (hRF k h2).1 (by omega)
          have hzw24 := hc.size
          have HC := HC.trans hc (fun _ _ h => h) (fun k hk ht => absurd (hRF k ht).1 (by omega))
          have hin := hin.ch hc (fun k hk ht => hRo k hk ht)
          have hrnd := hrnd.ch hc (fun k hk ht => hR0 (hk ▸ ht))
          first | have hb4 := hb4.ch hc (hb4.not_nd hRB) | have hb4 := hb4.ch hc (by assumption)
          first | have hb5 := hb5.ch hc (hb5.not_nd hRB) | have hb5 := hb5.ch hc (by assumption)
          have hV28 := hV28.fil hc hRB hFil
          have hM28 := hM28.ty hc (by decide) hRB
          have hW33 := hW33.ty hc (by decide) hRB
          first | have hb9 := hb9.ch hc (hb9.not_nd hRB) | have hb9 := hb9.ch hc (by assumption)
          have hV39 := hV39.fil hc hRB hFil
          first | have hb11 := hb11.ch hc (hb11.not_nd hRB) | have hb11 := hb11.ch hc (by assumption)
          first | have hb14 := hb14.ch hc (hb14.not_nd hRB) | have hb14 := hb14.ch hc (by assumption)
          first | have hb16 := hb16.ch hc (hb16.not_nd hRB) | have hb16 := hb16.ch hc (by assumption)
          have hW63 := hW63.ty hc (by decide) hRB
          first | have hb18 := hb18.ch hc (hb18.not_nd hRB) | have hb18 := hb18.ch hc (by assumption)
          have hS := (by first | exact hS.tr hc | exact hS.trans hc (fun _ _ h => h) (fun _ _ h => h))
          refine ws_alt ?_ ?_
          ·
            refine ws_e rfl rfl (e_call ent32 rfl rfl (mcheck_any (rootT_len) (hk) (hW63.si) (hu63) (hx63) (by omega) hrnd) ?_)
            rintro _ w25 ⟨u69, a69, b69, rfl, hu69, hck69, hc⟩
            refine ⟨_, rfl, (by first | exact hS.tr hc | exact hS.trans hc (fun _ _ h => h) (fun _ _ h => h)), ?_⟩
            have hzw25 := hc.size
            have HC := HC.tr hc
            have hin := hin.no hc
            have hrnd := hrnd.no hc
            have hb4 := hb4.ch hc (fun h => h)
            have hb5 := hb5.ch hc (fun h => h)
            have hV28 := hV28.ch hc (by first | exact fun _ _ _ h => h | (intro k hk hF ht; have h2 := hF.1; have h3 := hF.2; first | omega | (dsimp only at *; omega)))
            have hM28 := hM28.after hc
            have hW33 := hW33.after hc
            have hb9 := hb9.ch hc (fun h => h)
            have hV39 := hV39.ch hc (by first | exact fun _ _ _ h => h | (intro k hk hF ht; have h2 := hF.1; have h3 := hF.2; first | omega | (dsimp only at *; omega)))
            have hb11 := hb11.ch hc (fun h => h)
            have hb14 := hb14.ch hc (fun h => h)
            have hb16 := hb16.ch hc (fun h => h)
            have hW63 := hW63.after hc
            have hb18 := hb18.ch hc (fun h => h)
            have hS := (by first | exact hS.tr hc | exact hS.trans hc (fun _ _ h => h) (fun _ _ h => h))
            obtain ⟨hG2, hBt2, hAt2, hUt2⟩ := holds_ok hwfu hen63 hck69 hg58
            refine ws_p rfl rfl rfl rfl (p_mv rfl) ?_
            refine ws_p rfl rfl rfl rfl (p_ext rfl rfl) ?_
            refine ws_p rfl rfl rfl rfl (p_ext rfl rfl) ?_
            refine ws_p rfl rfl rfl rfl (p_ext rfl rfl) ?_
            have hltg4 := hb4.lt
            have hltg5 := hb5.lt
            have hltg9 := hb9.lt
            have hltg11 := hb11.lt
            have hltg14 := hb14.lt
            have hltg16 := hb16.lt
            have hltg18 := hb18.lt
            refine ws_e rfl rfl (e_alloc (cs := ((List.replicate 32 (0 : UInt8)).map u8v).toArray) rfl (by rfl) rfl (fun w26 g19 hg19 hb19 hc hsz19 => ⟨(by first | exact hS.tr hc | exact hS.trans hc (fun _ _ h => h) (fun _ _ h => h)), ?_⟩))
            have hzw26 := hc.size
            have HC := HC.tr hc
            have hin := hin.no hc
            have hrnd := hrnd.no hc
            have hb4 := hb4.ch hc (fun h => h)
            have hb5 := hb5.ch hc (fun h => h)
            have hV28 := hV28.ch hc (by first | exact fun _ _ _ h => h | (intro k hk hF ht; have h2 := hF.1; have h3 := hF.2; first | omega | (dsimp only at *; omega)))
            have hM28 := hM28.after hc
            have hW33 := hW33.after hc
            have hb9 := hb9.ch hc (fun h => h)
            have hV39 := hV39.ch hc (by first | exact fun _ _ _ h => h | (intro k hk hF ht; have h2 := hF.1; have h3 := hF.2; first | omega | (dsimp only at *; omega)))
            have hb11 := hb11.ch hc (fun h => h)
            have hb14 := hb14.ch hc (fun h => h)
            have hb16 := hb16.ch hc (fun h => h)
            have hW63 := hW63.after hc
            have hb18 := hb18.ch hc (fun h => h)
            have hge19 : w.heap.size ≤ g19 := by have := HC.size; omega
            have neg4_19 : g4 < g19 := by omega
            have neg5_19 : g5 < g19 := by omega
            have neg9_19 : g9 < g19 := by omega
            have neg11_19 : g11 < g19 := by omega
            have neg14_19 : g14 < g19 := by omega
            have neg16_19 : g16 < g19 := by omega
            have neg18_19 : g18 < g19 := by omega
            have hS := (by first | exact hS.tr hc | exact hS.trans hc (fun _ _ h => h) (fun _ _ h => h))
            refine ws_l rfl rfl (e_stW (vs := List.map u8v u69) (szL sz38 (by rw [List.length_map]; exact hu69)) (oneL one_u8 _) rfl rfl hb19 (by simp only [List.size_toArray, List.length_map]; first | done | exact ((List.length_replicate ..)).trans (hu69).symm) (fun w27 hb19 hc hsz => ?_))
            have hzw27 := hc.size
            have HC := HC.trans hc (fun _ _ h => h) (fun k hk ht => absurd ht (by omega))
            first | have hin := hin.ch hc (by intro k hk ht; first | omega | (dsimp only at *; omega)) | have hin := hin.chT hc (by intro k hz hk ht; first | omega | (dsimp only at *; omega))
            first | have hrnd := hrnd.ch hc (by intro k hk ht; first | omega | (dsimp only at *; omega)) | have hrnd := hrnd.chT hc (by intro k hz hk ht; first | omega | (dsimp only at *; omega))
            have hb4 := hb4.ch hc (by omega)
            have hb5 := hb5.ch hc (by omega)
            have hV28 := hV28.ch hc (by first | exact fun _ _ _ h => h | (intro k hk hF ht; have h2 := hF.1; have h3 := hF.2; first | omega | (dsimp only at *; omega)))
            have hM28 := hM28.ch hc (by intro k hz hk ht; first | omega | (dsimp only at *; omega))
            have hW33 := hW33.ch hc (by intro k hz hk ht; first | omega | (dsimp only at *; omega))
            have hb9 := hb9.ch hc (by omega)
            have hV39 := hV39.ch hc (by first | exact fun _ _ _ h => h | (intro k hk hF ht; have h2 := hF.1; have h3 := hF.2; first | omega | (dsimp only at *; omega)))
            have hb11 := hb11.ch hc (by omega)
            have hb14 := hb14.ch hc (by omega)
            have hb16 := hb16.ch hc (by omega)
            have hW63 := hW63.ch hc (by intro k hz hk ht; first | omega | (dsimp only at *; omega))
            have hb18 := hb18.ch hc (by omega)
            refine ws_p rfl rfl rfl rfl (p_as rfl) ?_
            refine ws_p rfl rfl rfl rfl (p_as rfl) ?_
            refine ws_n ?_
            refine x_seq ?_
            refine wc_seq ?_
            refine wc_region ?_
            refine wl rfl rfl rfl (p_mv rfl) ?_
            refine wl rfl rfl rfl (p_mv rfl) ?_
            refine wl_know (d := 74) (b' := true) rfl (hBt) ?_
            refine wl_g (gd_ rfl rfl rfl rfl rfl rfl) rfl rfl (p_mv rfl) ?_
            refine wl_g (gd_ rfl rfl rfl rfl rfl rfl) rfl rfl (p_mv rfl) ?_
            refine wl_g (gd_ rfl rfl rfl rfl rfl rfl) rfl rfl (p_eqB rfl rfl Tryd.underlying4) ?_
            refine wl rfl rfl rfl (p_pickT rfl rfl) ?_
            refine wl rfl rfl rfl (p_mv rfl) ?_
            refine wl_know (d := 79) (b' := true) rfl (by simp [hAt]) ?_
            refine wl_g (gd_ rfl rfl rfl rfl rfl rfl) rfl rfl (p_ldA (cs := List.map u8v u45) Tryd.underlying38 rfl (szL sz38 (by rw [List.length_map]; exact hu45)) rfl (fun _ e => e ▸ rngL hb11)) ?_
            refine wl_g (gd_ rfl rfl rfl rfl rfl rfl) rfl rfl (p_ldA (cs := List.map u8v u52) Tryd.underlying38 rfl (szL sz38 (by rw [List.length_map]; exact hu52)) rfl (fun _ e => e ▸ rngL hb14)) ?_
            refine wl_g (gd_ rfl rfl rfl rfl rfl rfl) rfl rfl (p_eqH (a := u45) (b := u52) (by kernel_rfl) Tryd.underlying38 Tryd.underlying5 sz5 rfl rfl (hu45) (hu52)) ?_
            refine wl rfl rfl rfl (p_pickT rfl rfl) ?_
            refine wl rfl rfl rfl (p_mv rfl) ?_
            refine wl_know (d := 84) (b' := true) rfl (by simp [hUt]) ?_
            refine wl_g (gd_ rfl rfl rfl rfl rfl rfl) rfl rfl (p_mv rfl) ?_
            refine wl rfl rfl rfl (p_pickT rfl rfl) ?_
            refine wl rfl rfl rfl (p_mv rfl) ?_
            refine wl_know (d := 87) (b' := true) rfl (hBt2) ?_
            refine wl_g (gd_ rfl rfl rfl rfl rfl rfl) rfl rfl (p_mv rfl) ?_
            refine wl_g (gd_ rfl rfl rfl rfl rfl rfl) rfl rfl (p_mv rfl) ?_
            refine wl_g (gd_ rfl rfl rfl rfl rfl rfl) rfl rfl (p_eqB rfl rfl Tryd.underlying4) ?_
            refine wl rfl rfl rfl (p_pickT rfl rfl) ?_
            refine wl rfl rfl rfl (p_mv rfl) ?_
            refine wl_know (d := 92) (b' := true) rfl (by simp [hAt2]) ?_
            refine wl_g (gd_ rfl rfl rfl rfl rfl rfl) rfl rfl (p_ldA (cs := List.map u8v u69) Tryd.underlying38 rfl (szL sz38 (by rw [List.length_map]; exact hu69)) rfl (fun _ e => e ▸ rngL hb19)) ?_
            refine wl_g (gd_ rfl rfl rfl rfl rfl rfl) rfl rfl (p_ldA (cs := List.map u8v u58) Tryd.underlying38 rfl (szL sz38 (by rw [List.length_map]; exact hu58)) rfl (fun _ e => e ▸ rngL hb16)) ?_
            refine wl_g (gd_ rfl rfl rfl rfl rfl rfl) rfl rfl (p_eqH (a := u69) (b := u58) (by kernel_rfl) Tryd.underlying38 Tryd.underlying5 sz5 rfl rfl (hu69) (hu58)) ?_
            refine wl rfl rfl rfl (p_pickT rfl rfl) ?_
            refine wl rfl rfl rfl (p_mv rfl) ?_
            refine wl_know (d := 97) (b' := true) rfl (by simp [hUt2]) ?_
            refine wle_g (gd_ rfl rfl rfl rfl rfl rfl) (e_call ent29 rfl rfl (lives12_any hrnd) ?_)
            rintro _ w28 ⟨rfl, hc⟩
            refine ⟨_, rfl, ?_⟩
            have hzw28 := hc.size
            have HC := HC.tr hc
            have hin := hin.no hc
            have hrnd := hrnd.no hc
            have hb4 := hb4.ch hc (fun h => h)
            have hb5 := hb5.ch hc (fun h => h)
            have hV28 := hV28.ch hc (by first | exact fun _ _ _ h => h | (intro k hk hF ht; have h2 := hF.1; have h3 := hF.2; first | omega | (dsimp only at *; omega)))
            have hM28 := hM28.after hc
            have hW33 := hW33.after hc
            have hb9 := hb9.ch hc (fun h => h)
            have hV39 := hV39.ch hc (by first | exact fun _ _ _ h => h | (intro k hk hF ht; have h2 := hF.1; have h3 := hF.2; first | omega | (dsimp only at *; omega)))
            have hb11 := hb11.ch hc (fun h => h)
            have hb14 := hb14.ch hc (fun h => h)
            have hb16 := hb16.ch hc (fun h => h)
            have hW63 := hW63.after hc
            have hb18 := hb18.ch hc (fun h => h)
            have hb19 := hb19.ch hc (fun h => h)
            refine wl rfl rfl rfl (p_pickT rfl rfl) ?_
            refine wl rfl rfl rfl (p_as rfl) ?_
            refine wl_nil ?_
            refine x_seq ?_
            refine wc_ret ?_
            refine fin_run ((res1 rfl rfl)) ?_
            exact ⟨rfl, HC⟩
          ·
            have hltg4 := hb4.lt
            have hltg5 := hb5.lt
            have hltg9 := hb9.lt
            have hltg11 := hb11.lt
            have hltg14 := hb14.lt
            have hltg16 := hb16.lt
            have hltg18 := hb18.lt
            refine ws_e rfl rfl (e_alloc (cs := ((List.replicate 32 (0 : UInt8)).map u8v).toArray) rfl (by rfl) rfl (fun w29 g19 hg19 hb19 hc hsz19 => ⟨(by first | exact hS.tr hc | exact hS.trans hc (fun _ _ h => h) (fun _ _ h => h)), ?_⟩))
            have hzw29 := hc.size
            have HC := HC.tr hc
            have hin := hin.no hc
            have hrnd := hrnd.no hc
            have hb4 := hb4.ch hc (fun h => h)
            have hb5 := hb5.ch hc (fun h => h)
            have hV28 := hV28.ch hc (by first | exact fun _ _ _ h => h | (intro k hk hF ht; have h2 := hF.1; have h3 := hF.2; first | omega | (dsimp only at *; omega)))
            have hM28 := hM28.after hc
            have hW33 := hW33.after hc
            have hb9 := hb9.ch hc (fun h => h)
            have hV39 := hV39.ch hc (by first | exact fun _ _ _ h => h | (intro k hk hF ht; have h2 := hF.1; have h3 := hF.2; first | omega | (dsimp only at *; omega)))
            have hb11 := hb11.ch hc (fun h => h)
            have hb14 := hb14.ch hc (fun h => h)
            have hb16 := hb16.ch hc (fun h => h)
            have hW63 := hW63.after hc
            have hb18 := hb18.ch hc (fun h => h)
            have hge19 : w.heap.size ≤ g19 := by have := HC.size; omega
            have neg4_19 : g4 < g19 := by omega
            have neg5_19 : g5 < g19 := by omega
            have neg9_19 : g9 < g19 := by omega
            have neg11_19 : g11 < g19 := by omega
            have neg14_19 : g14 < g19 := by omega
            have neg16_19 : g16 < g19 := by omega
            have neg18_19 : g18 < g19 := by omega
            have hS := (by first | exact hS.tr hc | exact hS.trans hc (fun _ _ h => h) (fun _ _ h => h))
            refine ws_e rfl rfl (e_call ent32 rfl rfl (mcheck_any (rootT_len) (hk) (hW63.si) (hu63) (hx63) (by omega) hrnd) ?_)
            rintro _ w30 ⟨u69, a69, b69, rfl, hu69, hck69, hc⟩
            refine ⟨_, rfl, (by first | exact hS.tr hc | exact hS.trans hc (fun _ _ h => h) (fun _ _ h => h)), ?_⟩
            have hzw30 := hc.size
            have HC := HC.tr hc
            have hin := hin.no hc
            have hrnd := hrnd.no hc
            have hb4 := hb4.ch hc (fun h => h)
            have hb5 := hb5.ch hc (fun h => h)
            have hV28 := hV28.ch hc (by first | exact fun _ _ _ h => h | (intro k hk hF ht; have h2 := hF.1; have h3 := hF.2; first | omega | (dsimp only at *; omega)))
            have hM28 := hM28.after hc
            have hW33 := hW33.after hc
            have hb9 := hb9.ch hc (fun h => h)
            have hV39 := hV39.ch hc (by first | exact fun _ _ _ h => h | (intro k hk hF ht; have h2 := hF.1; have h3 := hF.2; first | omega | (dsimp only at *; omega)))
            have hb11 := hb11.ch hc (fun h => h)
            have hb14 := hb14.ch hc (fun h => h)
            have hb16 := hb16.ch hc (fun h => h)
            have hW63 := hW63.after hc
            have hb18 := hb18.ch hc (fun h => h)
            have hb19 := hb19.ch hc (fun h => h)
            have hS := (by first | exact hS.tr hc | exact hS.trans hc (fun _ _ h => h) (fun _ _ h => h))
            obtain ⟨hG2, hBt2, hAt2, hUt2⟩ := holds_ok hwfu hen63 hck69 hg58
            refine ws_p rfl rfl rfl rfl (p_mv rfl) ?_
            refine ws_p rfl rfl rfl rfl (p_ext rfl rfl) ?_
            refine ws_p rfl rfl rfl rfl (p_ext rfl rfl) ?_
            refine ws_p rfl rfl rfl rfl (p_ext rfl rfl) ?_
            refine ws_l rfl rfl (e_stW (vs := List.map u8v u69) (szL sz38 (by rw [List.length_map]; exact hu69)) (oneL one_u8 _) rfl rfl hb19 (by simp only [List.size_toArray, List.length_map]; first | done | exact ((List.length_replicate ..)).trans (hu69).symm) (fun w31 hb19 hc hsz => ?_))
            have hzw31 := hc.size
            have HC := HC.trans hc (fun _ _ h => h) (fun k hk ht => absurd ht (by omega))
            first | have hin := hin.ch hc (by intro k hk ht; first | omega | (dsimp only at *; omega)) | have hin := hin.chT hc (by intro k hz hk ht; first | omega | (dsimp only at *; omega))
            first | have hrnd := hrnd.ch hc (by intro k hk ht; first | omega | (dsimp only at *; omega)) | have hrnd := hrnd.chT hc (by intro k hz hk ht; first | omega | (dsimp only at *; omega))
            have hb4 := hb4.ch hc (by omega)
            have hb5 := hb5.ch hc (by omega)
            have hV28 := hV28.ch hc (by first | exact fun _ _ _ h => h | (intro k hk hF ht; have h2 := hF.1; have h3 := hF.2; first | omega | (dsimp only at *; omega)))
            have hM28 := hM28.ch hc (by intro k hz hk ht; first | omega | (dsimp only at *; omega))
            have hW33 := hW33.ch hc (by intro k hz hk ht; first | omega | (dsimp only at *; omega))
            have hb9 := hb9.ch hc (by omega)
            have hV39 := hV39.ch hc (by first | exact fun _ _ _ h => h | (intro k hk hF ht; have h2 := hF.1; have h3 := hF.2; first | omega | (dsimp only at *; omega)))
            have hb11 := hb11.ch hc (by omega)
            have hb14 := hb14.ch hc (by omega)
            have hb16 := hb16.ch hc (by omega)
            have hW63 := hW63.ch hc (by intro k hz hk ht; first | omega | (dsimp only at *; omega))
            have hb18 := hb18.ch hc (by omega)
            refine ws_p rfl rfl rfl rfl (p_as rfl) ?_
            refine ws_p rfl rfl rfl rfl (p_as rfl) ?_
            refine ws_n ?_
            refine x_seq ?_
            refine wc_seq ?_
            refine wc_region ?_
            refine wl rfl rfl rfl (p_mv rfl) ?_
            refine wl rfl rfl rfl (p_mv rfl) ?_
            refine wl_know (d := 74) (b' := true) rfl (hBt) ?_
            refine wl_g (gd_ rfl rfl rfl rfl rfl rfl) rfl rfl (p_mv rfl) ?_
            refine wl_g (gd_ rfl rfl rfl rfl rfl rfl) rfl rfl (p_mv rfl) ?_
            refine wl_g (gd_ rfl rfl rfl rfl rfl rfl) rfl rfl (p_eqB rfl rfl Tryd.underlying4) ?_
            refine wl rfl rfl rfl (p_pickT rfl rfl) ?_
            refine wl rfl rfl rfl (p_mv rfl) ?_
            refine wl_know (d := 79) (b' := true) rfl (by simp [hAt]) ?_
            refine wl_g (gd_ rfl rfl rfl rfl rfl rfl) rfl rfl (p_ldA (cs := List.map u8v u45) Tryd.underlying38 rfl (szL sz38 (by rw [List.length_map]; exact hu45)) rfl (fun _ e => e ▸ rngL hb11)) ?_
            refine wl_g (gd_ rfl rfl rfl rfl rfl rfl) rfl rfl (p_ldA (cs := List.map u8v u52) Tryd.underlying38 rfl (szL sz38 (by rw [List.length_map]; exact hu52)) rfl (fun _ e => e ▸ rngL hb14)) ?_
            refine wl_g (gd_ rfl rfl rfl rfl rfl rfl) rfl rfl (p_eqH (a := u45) (b := u52) (by kernel_rfl) Tryd.underlying38 Tryd.underlying5 sz5 rfl rfl (hu45) (hu52)) ?_
            refine wl rfl rfl rfl (p_pickT rfl rfl) ?_
            refine wl rfl rfl rfl (p_mv rfl) ?_
            refine wl_know (d := 84) (b' := true) rfl (by simp [hUt]) ?_
            refine wl_g (gd_ rfl rfl rfl rfl rfl rfl) rfl rfl (p_mv rfl) ?_
            refine wl rfl rfl rfl (p_pickT rfl rfl) ?_
            refine wl rfl rfl rfl (p_mv rfl) ?_
            refine wl_know (d := 87) (b' := true) rfl (hBt2) ?_
            refine wl_g (gd_ rfl rfl rfl rfl rfl rfl) rfl rfl (p_mv rfl) ?_
            refine wl_g (gd_ rfl rfl rfl rfl rfl rfl) rfl rfl (p_mv rfl) ?_
            refine wl_g (gd_ rfl rfl rfl rfl rfl rfl) rfl rfl (p_eqB rfl rfl Tryd.underlying4) ?_
            refine wl rfl rfl rfl (p_pickT rfl rfl) ?_
            refine wl rfl rfl rfl (p_mv rfl) ?_
            refine wl_know (d := 92) (b' := true) rfl (by simp [hAt2]) ?_
            refine wl_g (gd_ rfl rfl rfl rfl rfl rfl) rfl rfl (p_ldA (cs := List.map u8v u69) Tryd.underlying38 rfl (szL sz38 (by rw [List.length_map]; exact hu69)) rfl (fun _ e => e ▸ rngL hb19)) ?_
            refine wl_g (gd_ rfl rfl rfl rfl rfl rfl) rfl rfl (p_ldA (cs := List.map u8v u58) Tryd.underlying38 rfl (szL sz38 (by rw [List.length_map]; exact hu58)) rfl (fun _ e => e ▸ rngL hb16)) ?_
            refine wl_g (gd_ rfl rfl rfl rfl rfl rfl) rfl rfl (p_eqH (a := u69) (b := u58) (by kernel_rfl) Tryd.underlying38 Tryd.underlying5 sz5 rfl rfl (hu69) (hu58)) ?_
            refine wl rfl rfl rfl (p_pickT rfl rfl) ?_
            refine wl rfl rfl rfl (p_mv rfl) ?_
            refine wl_know (d := 97) (b' := true) rfl (by simp [hUt2]) ?_
            refine wle_g (gd_ rfl rfl rfl rfl rfl rfl) (e_call ent29 rfl rfl (lives12_any hrnd) ?_)
            rintro _ w32 ⟨rfl, hc⟩
            refine ⟨_, rfl, ?_⟩
            have hzw32 := hc.size
            have HC := HC.tr hc
            have hin := hin.no hc
            have hrnd := hrnd.no hc
            have hb4 := hb4.ch hc (fun h => h)
            have hb5 := hb5.ch hc (fun h => h)
            have hV28 := hV28.ch hc (by first | exact fun _ _ _ h => h | (intro k hk hF ht; have h2 := hF.1; have h3 := hF.2; first | omega | (dsimp only at *; omega)))
            have hM28 := hM28.after hc
            have hW33 := hW33.after hc
            have hb9 := hb9.ch hc (fun h => h)
            have hV39 := hV39.ch hc (by first | exact fun _ _ _ h => h | (intro k hk hF ht; have h2 := hF.1; have h3 := hF.2; first | omega | (dsimp only at *; omega)))
            have hb11 := hb11.ch hc (fun h => h)
            have hb14 := hb14.ch hc (fun h => h)
            have hb16 := hb16.ch hc (fun h => h)
            have hW63 := hW63.after hc
            have hb18 := hb18.ch hc (fun h => h)
            have hb19 := hb19.ch hc (fun h => h)
            refine wl rfl rfl rfl (p_pickT rfl rfl) ?_
            refine wl rfl rfl rfl (p_as rfl) ?_
            refine wl_nil ?_
            refine x_seq ?_
            refine wc_ret ?_
            refine fin_run ((res1 rfl rfl)) ?_
            exact ⟨rfl, HC⟩
        ·
          have hltg4 := hb4.lt
          have hltg5 := hb5.lt
          have hltg9 := hb9.lt
          have hltg11 := hb11.lt
          have hltg14 := hb14.lt
          have hltg16 := hb16.lt
          have hltg18 := hb18.lt
          refine ws_e rfl rfl (e_alloc (cs := ((List.replicate 32 (0 : UInt8)).map u8v).toArray) rfl (by rfl) rfl (fun w33 g19 hg19 hb19 hc hsz19 => ⟨(by first | exact hS.tr hc | exact hS.trans hc (fun _ _ h => h) (fun _ _ h => h)), ?_⟩))
          have hzw33 := hc.size
          have HC := HC.tr hc
          have hin := hin.no hc
          have hrnd := hrnd.no hc
          have hb4 := hb4.ch hc (fun h => h)
          have hb5 := hb5.ch hc (fun h => h)
          have hV28 := hV28.ch hc (by first | exact fun _ _ _ h => h | (intro k hk hF ht; have h2 := hF.1; have h3 := hF.2; first | omega | (dsimp only at *; omega)))
          have hM28 := hM28.after hc
          have hW33 := hW33.after hc
          have hb9 := hb9.ch hc (fun h => h)
          have hV39 := hV39.ch hc (by first | exact fun _ _ _ h => h | (intro k hk hF ht; have h2 := hF.1; have h3 := hF.2; first | omega | (dsimp only at *; omega)))
          have hb11 := hb11.ch hc (fun h => h)
          have hb14 := hb14.ch hc (fun h => h)
          have hb16 := hb16.ch hc (fun h => h)
          have hW63 := hW63.after hc
          have hb18 := hb18.ch hc (fun h => h)
          have hge19 : w.heap.size ≤ g19 := by have := HC.size; omega
          have neg4_19 : g4 < g19 := by omega
          have neg5_19 : g5 < g19 := by omega
          have neg9_19 : g9 < g19 := by omega
          have neg11_19 : g11 < g19 := by omega
          have neg14_19 : g14 < g19 := by omega
          have neg16_19 : g16 < g19 := by omega
          have neg18_19 : g18 < g19 := by omega
          have hS := (by first | exact hS.tr hc | exact hS.trans hc (fun _ _ h => h) (fun _ _ h => h))
          refine ws_e rfl rfl (e_call ent46 rfl rfl (troot_made hV39 hrnd) ?_)
          rintro _ w34 ⟨rfl, hc, hFil, hRB, hRF⟩
          refine ⟨_, rfl, (by first | exact hS.tr hc | exact hS.trans hc (fun _ _ h => h) (fun _ _ h => h)), ?_⟩
          have hR0 := hV39.ot.out hrnd (by omega)
          have hRo : ∀ k, k < w.heap.size → k ∈ adsO (some t39) → False := fun k h1 h2 => absurd (hRF k h2).1 (by omega)
          have hzw34 := hc.size
          have HC := HC.trans hc (fun _ _ h => h) (fun k hk ht => absurd (hRF k ht).1 (by omega))
          have hin := hin.ch hc (fun k hk ht => hRo k hk ht)
          have hrnd := hrnd.ch hc (fun k hk ht => hR0 (hk ▸ ht))
          first | have hb4 := hb4.ch hc (hb4.not_nd hRB) | have hb4 := hb4.ch hc (by assumption)
          first | have hb5 := hb5.ch hc (hb5.not_nd hRB) | have hb5 := hb5.ch hc (by assumption)
          have hV28 := hV28.fil hc hRB hFil
          have hM28 := hM28.ty hc (by decide) hRB
          have hW33 := hW33.ty hc (by decide) hRB
          first | have hb9 := hb9.ch hc (hb9.not_nd hRB) | have hb9 := hb9.ch hc (by assumption)
          have hV39 := hV39.fil hc hRB hFil
          first | have hb11 := hb11.ch hc (hb11.not_nd hRB) | have hb11 := hb11.ch hc (by assumption)
          first | have hb14 := hb14.ch hc (hb14.not_nd hRB) | have hb14 := hb14.ch hc (by assumption)
          first | have hb16 := hb16.ch hc (hb16.not_nd hRB) | have hb16 := hb16.ch hc (by assumption)
          have hW63 := hW63.ty hc (by decide) hRB
          first | have hb18 := hb18.ch hc (hb18.not_nd hRB) | have hb18 := hb18.ch hc (by assumption)
          first | have hb19 := hb19.ch hc (hb19.not_nd hRB) | have hb19 := hb19.ch hc (by assumption)
          have hS := (by first | exact hS.tr hc | exact hS.trans hc (fun _ _ h => h) (fun _ _ h => h))
          refine ws_e rfl rfl (e_call ent32 rfl rfl (mcheck_any (rootT_len) (hk) (hW63.si) (hu63) (hx63) (by omega) hrnd) ?_)
          rintro _ w35 ⟨u69, a69, b69, rfl, hu69, hck69, hc⟩
          refine ⟨_, rfl, (by first | exact hS.tr hc | exact hS.trans hc (fun _ _ h => h) (fun _ _ h => h)), ?_⟩
          have hzw35 := hc.size
          have HC := HC.tr hc
          have hin := hin.no hc
          have hrnd := hrnd.no hc
          have hb4 := hb4.ch hc (fun h => h)
          have hb5 := hb5.ch hc (fun h => h)
          have hV28 := hV28.ch hc (by first | exact fun _ _ _ h => h | (intro k hk hF ht; have h2 := hF.1; have h3 := hF.2; first | omega | (dsimp only at *; omega)))
          have hM28 := hM28.after hc
          have hW33 := hW33.after hc
          have hb9 := hb9.ch hc (fun h => h)
          have hV39 := hV39.ch hc (by first | exact fun _ _ _ h => h | (intro k hk hF ht; have h2 := hF.1; have h3 := hF.2; first | omega | (dsimp only at *; omega)))
          have hb11 := hb11.ch hc (fun h => h)
          have hb14 := hb14.ch hc (fun h => h)
          have hb16 := hb16.ch hc (fun h => h)
          have hW63 := hW63.after hc
          have hb18 := hb18.ch hc (fun h => h)
          have hb19 := hb19.ch hc (fun h => h)
          have hS := (by first | exact hS.tr hc | exact hS.trans hc (fun _ _ h => h) (fun _ _ h => h))
          obtain ⟨hG2, hBt2, hAt2, hUt2⟩ := holds_ok hwfu hen63 hck69 hg58
          refine ws_p rfl rfl rfl rfl (p_mv rfl) ?_
          refine ws_p rfl rfl rfl rfl (p_ext rfl rfl) ?_
          refine ws_p rfl rfl rfl rfl (p_ext rfl rfl) ?_
          refine ws_p rfl rfl rfl rfl (p_ext rfl rfl) ?_
          refine ws_l rfl rfl (e_stW (vs := List.map u8v u69) (szL sz38 (by rw [List.length_map]; exact hu69)) (oneL one_u8 _) rfl rfl hb19 (by simp only [List.size_toArray, List.length_map]; first | done | exact ((List.length_replicate ..)).trans (hu69).symm) (fun w36 hb19 hc hsz => ?_))
          have hzw36 := hc.size
          have HC := HC.trans hc (fun _ _ h => h) (fun k hk ht => absurd ht (by omega))
          first | have hin := hin.ch hc (by intro k hk ht; first | omega | (dsimp only at *; omega)) | have hin := hin.chT hc (by intro k hz hk ht; first | omega | (dsimp only at *; omega))
          first | have hrnd := hrnd.ch hc (by intro k hk ht; first | omega | (dsimp only at *; omega)) | have hrnd := hrnd.chT hc (by intro k hz hk ht; first | omega | (dsimp only at *; omega))
          have hb4 := hb4.ch hc (by omega)
          have hb5 := hb5.ch hc (by omega)
          have hV28 := hV28.ch hc (by first | exact fun _ _ _ h => h | (intro k hk hF ht; have h2 := hF.1; have h3 := hF.2; first | omega | (dsimp only at *; omega)))
          have hM28 := hM28.ch hc (by intro k hz hk ht; first | omega | (dsimp only at *; omega))
          have hW33 := hW33.ch hc (by intro k hz hk ht; first | omega | (dsimp only at *; omega))
          have hb9 := hb9.ch hc (by omega)
          have hV39 := hV39.ch hc (by first | exact fun _ _ _ h => h | (intro k hk hF ht; have h2 := hF.1; have h3 := hF.2; first | omega | (dsimp only at *; omega)))
          have hb11 := hb11.ch hc (by omega)
          have hb14 := hb14.ch hc (by omega)
          have hb16 := hb16.ch hc (by omega)
          have hW63 := hW63.ch hc (by intro k hz hk ht; first | omega | (dsimp only at *; omega))
          have hb18 := hb18.ch hc (by omega)
          refine ws_p rfl rfl rfl rfl (p_as rfl) ?_
          refine ws_p rfl rfl rfl rfl (p_as rfl) ?_
          refine ws_n ?_
          refine x_seq ?_
          refine wc_seq ?_
          refine wc_region ?_
          refine wl rfl rfl rfl (p_mv rfl) ?_
          refine wl rfl rfl rfl (p_mv rfl) ?_
          refine wl_know (d := 74) (b' := true) rfl (hBt) ?_
          refine wl_g (gd_ rfl rfl rfl rfl rfl rfl) rfl rfl (p_mv rfl) ?_
          refine wl_g (gd_ rfl rfl rfl rfl rfl rfl) rfl rfl (p_mv rfl) ?_
          refine wl_g (gd_ rfl rfl rfl rfl rfl rfl) rfl rfl (p_eqB rfl rfl Tryd.underlying4) ?_
          refine wl rfl rfl rfl (p_pickT rfl rfl) ?_
          refine wl rfl rfl rfl (p_mv rfl) ?_
          refine wl_know (d := 79) (b' := true) rfl (by simp [hAt]) ?_
          refine wl_g (gd_ rfl rfl rfl rfl rfl rfl) rfl rfl (p_ldA (cs := List.map u8v u45) Tryd.underlying38 rfl (szL sz38 (by rw [List.length_map]; exact hu45)) rfl (fun _ e => e ▸ rngL hb11)) ?_
          refine wl_g (gd_ rfl rfl rfl rfl rfl rfl) rfl rfl (p_ldA (cs := List.map u8v u52) Tryd.underlying38 rfl (szL sz38 (by rw [List.length_map]; exact hu52)) rfl (fun _ e => e ▸ rngL hb14)) ?_
          refine wl_g (gd_ rfl rfl rfl rfl rfl rfl) rfl rfl (p_eqH (a := u45) (b := u52) (by kernel_rfl) Tryd.underlying38 Tryd.underlying5 sz5 rfl rfl (hu45) (hu52)) ?_
          refine wl rfl rfl rfl (p_pickT rfl rfl) ?_
          refine wl rfl rfl rfl (p_mv rfl) ?_
          refine wl_know (d := 84) (b' := true) rfl (by simp [hUt]) ?_
          refine wl_g (gd_ rfl rfl rfl rfl rfl rfl) rfl rfl (p_mv rfl) ?_
          refine wl rfl rfl rfl (p_pickT rfl rfl) ?_
          refine wl rfl rfl rfl (p_mv rfl) ?_
          refine wl_know (d := 87) (b' := true) rfl (hBt2) ?_
          refine wl_g (gd_ rfl rfl rfl rfl rfl rfl) rfl rfl (p_mv rfl) ?_
          refine wl_g (gd_ rfl rfl rfl rfl rfl rfl) rfl rfl (p_mv rfl) ?_
          refine wl_g (gd_ rfl rfl rfl rfl rfl rfl) rfl rfl (p_eqB rfl rfl Tryd.underlying4) ?_
          refine wl rfl rfl rfl (p_pickT rfl rfl) ?_
          refine wl rfl rfl rfl (p_mv rfl) ?_
          refine wl_know (d := 92) (b' := true) rfl (by simp [hAt2]) ?_
          refine wl_g (gd_ rfl rfl rfl rfl rfl rfl) rfl rfl (p_ldA (cs := List.map u8v u69) Tryd.underlying38 rfl (szL sz38 (by rw [List.length_map]; exact hu69)) rfl (fun _ e => e ▸ rngL hb19)) ?_
          refine wl_g (gd_ rfl rfl rfl rfl rfl rfl) rfl rfl (p_ldA (cs := List.map u8v u58) Tryd.underlying38 rfl (szL sz38 (by rw [List.length_map]; exact hu58)) rfl (fun _ e => e ▸ rngL hb16)) ?_
          refine wl_g (gd_ rfl rfl rfl rfl rfl rfl) rfl rfl (p_eqH (a := u69) (b := u58) (by kernel_rfl) Tryd.underlying38 Tryd.underlying5 sz5 rfl rfl (hu69) (hu58)) ?_
          refine wl rfl rfl rfl (p_pickT rfl rfl) ?_
          refine wl rfl rfl rfl (p_mv rfl) ?_
          refine wl_know (d := 97) (b' := true) rfl (by simp [hUt2]) ?_
          refine wle_g (gd_ rfl rfl rfl rfl rfl rfl) (e_call ent29 rfl rfl (lives12_any hrnd) ?_)
          rintro _ w37 ⟨rfl, hc⟩
          refine ⟨_, rfl, ?_⟩
          have hzw37 := hc.size
          have HC := HC.tr hc
          have hin := hin.no hc
          have hrnd := hrnd.no hc
          have hb4 := hb4.ch hc (fun h => h)
          have hb5 := hb5.ch hc (fun h => h)
          have hV28 := hV28.ch hc (by first | exact fun _ _ _ h => h | (intro k hk hF ht; have h2 := hF.1; have h3 := hF.2; first | omega | (dsimp only at *; omega)))
          have hM28 := hM28.after hc
          have hW33 := hW33.after hc
          have hb9 := hb9.ch hc (fun h => h)
          have hV39 := hV39.ch hc (by first | exact fun _ _ _ h => h | (intro k hk hF ht; have h2 := hF.1; have h3 := hF.2; first | omega | (dsimp only at *; omega)))
          have hb11 := hb11.ch hc (fun h => h)
          have hb14 := hb14.ch hc (fun h => h)
          have hb16 := hb16.ch hc (fun h => h)
          have hW63 := hW63.after hc
          have hb18 := hb18.ch hc (fun h => h)
          have hb19 := hb19.ch hc (fun h => h)
          refine wl rfl rfl rfl (p_pickT rfl rfl) ?_
          refine wl rfl rfl rfl (p_as rfl) ?_
          refine wl_nil ?_
          refine x_seq ?_
          refine wc_ret ?_
          refine fin_run ((res1 rfl rfl)) ?_
          exact ⟨rfl, HC⟩
      ·
        have hltg4 := hb4.lt
        have hltg5 := hb5.lt
        have hltg9 := hb9.lt
        refine ws_e rfl rfl (e_alloc (cs := ((List.replicate 32 (0 : UInt8)).map u8v).toArray) rfl (by rfl) rfl (fun w38 g11 hg11 hb11 hc hsz11 => ⟨(by first | exact hS.tr hc | exact hS.trans hc (fun _ _ h => h) (fun _ _ h => h)), ?_⟩))
        have hzw38 := hc.size
        have HC := HC.tr hc
        have hin := hin.no hc
        have hrnd := hrnd.no hc
        have hb4 := hb4.ch hc (fun h => h)
        have hb5 := hb5.ch hc (fun h => h)
        have hV28 := hV28.ch hc (by first | exact fun _ _ _ h => h | (intro k hk hF ht; have h2 := hF.1; have h3 := hF.2; first | omega | (dsimp only at *; omega)))
        have hM28 := hM28.after hc
        have hW33 := hW33.after hc
        have hb9 := hb9.ch hc (fun h => h)
        have hV39 := hV39.ch hc (by first | exact fun _ _ _ h => h | (intro k hk hF ht; have h2 := hF.1; have h3 := hF.2; first | omega | (dsimp only at *; omega)))
        have hge11 : w.heap.size ≤ g11 := by have := HC.size; omega
        have neg4_11 : g4 < g11 := by omega
        have neg5_11 : g5 < g11 := by omega
        have neg9_11 : g9 < g11 := by omega
        have hS := (by first | exact hS.tr hc | exact hS.trans hc (fun _ _ h => h) (fun _ _ h => h))
        refine ws_e rfl rfl (e_call ent32 rfl rfl (mcheck_any (rootT_len) (hk) (hW33.si) (hu33) (hx33) (by omega) hrnd) ?_)
        rintro _ w39 ⟨u45, a45, b45, rfl, hu45, hck45, hc⟩
        refine ⟨_, rfl, (by first | exact hS.tr hc | exact hS.trans hc (fun _ _ h => h) (fun _ _ h => h)), ?_⟩
        have hzw39 := hc.size
        have HC := HC.tr hc
        have hin := hin.no hc
        have hrnd := hrnd.no hc
        have hb4 := hb4.ch hc (fun h => h)
        have hb5 := hb5.ch hc (fun h => h)
        have hV28 := hV28.ch hc (by first | exact fun _ _ _ h => h | (intro k hk hF ht; have h2 := hF.1; have h3 := hF.2; first | omega | (dsimp only at *; omega)))
        have hM28 := hM28.after hc
        have hW33 := hW33.after hc
        have hb9 := hb9.ch hc (fun h => h)
        have hV39 := hV39.ch hc (by first | exact fun _ _ _ h => h | (intro k hk hF ht; have h2 := hF.1; have h3 := hF.2; first | omega | (dsimp only at *; omega)))
        have hb11 := hb11.ch hc (fun h => h)
        have hS := (by first | exact hS.tr hc | exact hS.trans hc (fun _ _ h => h) (fun _ _ h => h))
        refine ws_p rfl rfl rfl rfl (p_mv rfl) ?_
        refine ws_p rfl rfl rfl rfl (p_ext rfl rfl) ?_
        refine ws_p rfl rfl rfl rfl (p_ext rfl rfl) ?_
        refine ws_p rfl rfl rfl rfl (p_ext rfl rfl) ?_
        refine ws_l rfl rfl (e_stW (vs := List.map u8v u45) (szL sz38 (by rw [List.length_map]; exact hu45)) (oneL one_u8 _) rfl rfl hb11 (by simp only [List.size_toArray, List.length_map]; first | done | exact ((List.length_replicate ..)).trans (hu45).symm) (fun w40 hb11 hc hsz => ?_))
        have hzw40 := hc.size
        have HC := HC.trans hc (fun _ _ h => h) (fun k hk ht => absurd ht (by omega))
        first | have hin := hin.ch hc (by intro k hk ht; first | omega | (dsimp only at *; omega)) | have hin := hin.chT hc (by intro k hz hk ht; first | omega | (dsimp only at *; omega))
        first | have hrnd := hrnd.ch hc (by intro k hk ht; first | omega | (dsimp only at *; omega)) | have hrnd := hrnd.chT hc (by intro k hz hk ht; first | omega | (dsimp only at *; omega))
        have hb4 := hb4.ch hc (by omega)
        have hb5 := hb5.ch hc (by omega)
        have hV28 := hV28.ch hc (by first | exact fun _ _ _ h => h | (intro k hk hF ht; have h2 := hF.1; have h3 := hF.2; first | omega | (dsimp only at *; omega)))
        have hM28 := hM28.ch hc (by intro k hz hk ht; first | omega | (dsimp only at *; omega))
        have hW33 := hW33.ch hc (by intro k hz hk ht; first | omega | (dsimp only at *; omega))
        have hb9 := hb9.ch hc (by omega)
        have hV39 := hV39.ch hc (by first | exact fun _ _ _ h => h | (intro k hk hF ht; have h2 := hF.1; have h3 := hF.2; first | omega | (dsimp only at *; omega)))
        refine ws_p rfl rfl rfl rfl (p_as rfl) ?_
        refine ws_p rfl rfl rfl rfl (p_as rfl) ?_
        refine ws_n ?_
        refine x_seq ?_
        refine wc_seq ?_
        refine wc_region ?_
        refine wl rfl rfl rfl (p_mv rfl) ?_
        refine wl rfl rfl rfl (p_ldA (cs := List.map u8v k) Tryd.underlying38 rfl (szL sz38 (by rw [List.length_map]; exact hk)) rfl (fun _ e => e ▸ rngL hb5)) ?_
        refine wle rfl (e_call ent42 rfl rfl (tget_any hV28 (hk)) ?_)
        rintro _ w41 ⟨u52, ok52, rfl, hu52, hg52, hc⟩
        refine ⟨_, rfl, ?_⟩
        have hzw41 := hc.size
        have HC := HC.tr hc
        have hin := hin.no hc
        have hrnd := hrnd.no hc
        have hb4 := hb4.ch hc (fun h => h)
        have hb5 := hb5.ch hc (fun h => h)
        have hV28 := hV28.ch hc (by first | exact fun _ _ _ h => h | (intro k hk hF ht; have h2 := hF.1; have h3 := hF.2; first | omega | (dsimp only at *; omega)))
        have hM28 := hM28.after hc
        have hW33 := hW33.after hc
        have hb9 := hb9.ch hc (fun h => h)
        have hV39 := hV39.ch hc (by first | exact fun _ _ _ h => h | (intro k hk hF ht; have h2 := hF.1; have h3 := hF.2; first | omega | (dsimp only at *; omega)))
        have hb11 := hb11.ch hc (fun h => h)
        obtain ⟨hG, hBt, hAt, hUt⟩ := holds_ok hwfo hen33 hck45 hg52
        refine wl rfl rfl rfl (p_mv rfl) ?_
        refine wl rfl rfl rfl (p_ext rfl rfl) ?_
        refine wl rfl rfl rfl (p_ext rfl rfl) ?_
        have hltg4 := hb4.lt
        have hltg5 := hb5.lt
        have hltg9 := hb9.lt
        have hltg11 := hb11.lt
        refine wle rfl (e_alloc (cs := ((List.replicate 32 (0 : UInt8)).map u8v).toArray) rfl (by rfl) rfl (fun w42 g14 hg14 hb14 hc hsz14 => ?_))
        have hzw42 := hc.size
        have HC := HC.tr hc
        have hin := hin.no hc
        have hrnd := hrnd.no hc
        have hb4 := hb4.ch hc (fun h => h)
        have hb5 := hb5.ch hc (fun h => h)
        have hV28 := hV28.ch hc (by first | exact fun _ _ _ h => h | (intro k hk hF ht; have h2 := hF.1; have h3 := hF.2; first | omega | (dsimp only at *; omega)))
        have hM28 := hM28.after hc
        have hW33 := hW33.after hc
        have hb9 := hb9.ch hc (fun h => h)
        have hV39 := hV39.ch hc (by first | exact fun _ _ _ h => h | (intro k hk hF ht; have h2 := hF.1; have h3 := hF.2; first | omega | (dsimp only at *; omega)))
        have hb11 := hb11.ch hc (fun h => h)
        have hge14 : w.heap.size ≤ g14 := by have := HC.size; omega
        have neg4_14 : g4 < g14 := by omega
        have neg5_14 : g5 < g14 := by omega
        have neg9_14 : g9 < g14 := by omega
        have neg11_14 : g11 < g14 := by omega
        refine wle rfl (e_stW (vs := List.map u8v u52) (szL sz38 (by rw [List.length_map]; exact hu52)) (oneL one_u8 _) rfl rfl hb14 (by simp only [List.size_toArray, List.length_map]; first | done | exact ((List.length_replicate ..)).trans (hu52).symm) (fun w43 hb14 hc hsz => ?_))
        have hzw43 := hc.size
        have HC := HC.trans hc (fun _ _ h => h) (fun k hk ht => absurd ht (by omega))
        first | have hin := hin.ch hc (by intro k hk ht; first | omega | (dsimp only at *; omega)) | have hin := hin.chT hc (by intro k hz hk ht; first | omega | (dsimp only at *; omega))
        first | have hrnd := hrnd.ch hc (by intro k hk ht; first | omega | (dsimp only at *; omega)) | have hrnd := hrnd.chT hc (by intro k hz hk ht; first | omega | (dsimp only at *; omega))
        have hb4 := hb4.ch hc (by omega)
        have hb5 := hb5.ch hc (by omega)
        have hV28 := hV28.ch hc (by first | exact fun _ _ _ h => h | (intro k hk hF ht; have h2 := hF.1; have h3 := hF.2; first | omega | (dsimp only at *; omega)))
        have hM28 := hM28.ch hc (by intro k hz hk ht; first | omega | (dsimp only at *; omega))
        have hW33 := hW33.ch hc (by intro k hz hk ht; first | omega | (dsimp only at *; omega))
        have hb9 := hb9.ch hc (by omega)
        have hV39 := hV39.ch hc (by first | exact fun _ _ _ h => h | (intro k hk hF ht; have h2 := hF.1; have h3 := hF.2; first | omega | (dsimp only at *; omega)))
        have hb11 := hb11.ch hc (by omega)
        refine wl rfl rfl rfl (p_as rfl) ?_
        refine wl_nil ?_
        refine x_seq ?_
        refine wc_seq ?_
        refine wc_region ?_
        refine wl rfl rfl rfl (p_mv rfl) ?_
        refine wl rfl rfl rfl (p_ldA (cs := List.map u8v k) Tryd.underlying38 rfl (szL sz38 (by rw [List.length_map]; exact hk)) rfl (fun _ e => e ▸ rngL hb5)) ?_
        refine wle rfl (e_call ent42 rfl rfl (tget_any hV39 (hk)) ?_)
        rintro _ w44 ⟨u58, ok58, rfl, hu58, hg58, hc⟩
        refine ⟨_, rfl, ?_⟩
        have hzw44 := hc.size
        have HC := HC.tr hc
        have hin := hin.no hc
        have hrnd := hrnd.no hc
        have hb4 := hb4.ch hc (fun h => h)
        have hb5 := hb5.ch hc (fun h => h)
        have hV28 := hV28.ch hc (by first | exact fun _ _ _ h => h | (intro k hk hF ht; have h2 := hF.1; have h3 := hF.2; first | omega | (dsimp only at *; omega)))
        have hM28 := hM28.after hc
        have hW33 := hW33.after hc
        have hb9 := hb9.ch hc (fun h => h)
        have hV39 := hV39.ch hc (by first | exact fun _ _ _ h => h | (intro k hk hF ht; have h2 := hF.1; have h3 := hF.2; first | omega | (dsimp only at *; omega)))
        have hb11 := hb11.ch hc (fun h => h)
        have hb14 := hb14.ch hc (fun h => h)
        refine wl rfl rfl rfl (p_mv rfl) ?_
        refine wl rfl rfl rfl (p_ext rfl rfl) ?_
        refine wl rfl rfl rfl (p_ext rfl rfl) ?_
        have hltg4 := hb4.lt
        have hltg5 := hb5.lt
        have hltg9 := hb9.lt
        have hltg11 := hb11.lt
        have hltg14 := hb14.lt
        refine wle rfl (e_alloc (cs := ((List.replicate 32 (0 : UInt8)).map u8v).toArray) rfl (by rfl) rfl (fun w45 g16 hg16 hb16 hc hsz16 => ?_))
        have hzw45 := hc.size
        have HC := HC.tr hc
        have hin := hin.no hc
        have hrnd := hrnd.no hc
        have hb4 := hb4.ch hc (fun h => h)
        have hb5 := hb5.ch hc (fun h => h)
        have hV28 := hV28.ch hc (by first | exact fun _ _ _ h => h | (intro k hk hF ht; have h2 := hF.1; have h3 := hF.2; first | omega | (dsimp only at *; omega)))
        have hM28 := hM28.after hc
        have hW33 := hW33.after hc
        have hb9 := hb9.ch hc (fun h => h)
        have hV39 := hV39.ch hc (by first | exact fun _ _ _ h => h | (intro k hk hF ht; have h2 := hF.1; have h3 := hF.2; first | omega | (dsimp only at *; omega)))
        have hb11 := hb11.ch hc (fun h => h)
        have hb14 := hb14.ch hc (fun h => h)
        have hge16 : w.heap.size ≤ g16 := by have := HC.size; omega
        have neg4_16 : g4 < g16 := by omega
        have neg5_16 : g5 < g16 := by omega
        have neg9_16 : g9 < g16 := by omega
        have neg11_16 : g11 < g16 := by omega
        have neg14_16 : g14 < g16 := by omega
        refine wle rfl (e_stW (vs := List.map u8v u58) (szL sz38 (by rw [List.length_map]; exact hu58)) (oneL one_u8 _) rfl rfl hb16 (by simp only [List.size_toArray, List.length_map]; first | done | exact ((List.length_replicate ..)).trans (hu58).symm) (fun w46 hb16 hc hsz => ?_))
        have hzw46 := hc.size
        have HC := HC.trans hc (fun _ _ h => h) (fun k hk ht => absurd ht (by omega))
        first | have hin := hin.ch hc (by intro k hk ht; first | omega | (dsimp only at *; omega)) | have hin := hin.chT hc (by intro k hz hk ht; first | omega | (dsimp only at *; omega))
        first | have hrnd := hrnd.ch hc (by intro k hk ht; first | omega | (dsimp only at *; omega)) | have hrnd := hrnd.chT hc (by intro k hz hk ht; first | omega | (dsimp only at *; omega))
        have hb4 := hb4.ch hc (by omega)
        have hb5 := hb5.ch hc (by omega)
        have hV28 := hV28.ch hc (by first | exact fun _ _ _ h => h | (intro k hk hF ht; have h2 := hF.1; have h3 := hF.2; first | omega | (dsimp only at *; omega)))
        have hM28 := hM28.ch hc (by intro k hz hk ht; first | omega | (dsimp only at *; omega))
        have hW33 := hW33.ch hc (by intro k hz hk ht; first | omega | (dsimp only at *; omega))
        have hb9 := hb9.ch hc (by omega)
        have hV39 := hV39.ch hc (by first | exact fun _ _ _ h => h | (intro k hk hF ht; have h2 := hF.1; have h3 := hF.2; first | omega | (dsimp only at *; omega)))
        have hb11 := hb11.ch hc (by omega)
        have hb14 := hb14.ch hc (by omega)
        refine wl rfl rfl rfl (p_as rfl) ?_
        refine wl_nil ?_
        refine x_seq ?_
        refine wc_seq ?_
        refine wc_region ?_
        refine wl rfl rfl rfl (p_mv rfl) ?_
        refine wl rfl rfl rfl (p_ldA (cs := List.map u8v k) Tryd.underlying38 rfl (szL sz38 (by rw [List.length_map]; exact hk)) rfl (fun _ e => e ▸ rngL hb5)) ?_
        refine wle rfl (e_call ent28 rfl rfl (mprove_any hV39 (hk) hrnd (by omega)) ?_)
        rintro _ w47 ⟨A63, l63, c63, lf63, u63, x63, rfl, hu63, hx63, hW63, hen63, hc, hFil, hRB, hRF⟩
        refine ⟨_, rfl, ?_⟩
        have hR0 := hV39.ot.out hrnd (by omega)
        have hRo : ∀ k, k < w.heap.size → k ∈ adsO (some t39) → False := fun k h1 h2 => absurd (hRF k h2).1 (by omega)
        have hzw47 := hc.size
        have HC := HC.trans hc (fun _ _ h => h) (fun k hk ht => absurd (hRF k ht).1 (by omega))
        have hin := hin.ch hc (fun k hk ht => hRo k hk ht)
        have hrnd := hrnd.ch hc (fun k hk ht => hR0 (hk ▸ ht))
        first | have hb4 := hb4.ch hc (hb4.not_nd hRB) | have hb4 := hb4.ch hc (by assumption)
        first | have hb5 := hb5.ch hc (hb5.not_nd hRB) | have hb5 := hb5.ch hc (by assumption)
        have hV28 := hV28.fil hc hRB hFil
        have hM28 := hM28.ty hc (by decide) hRB
        have hW33 := hW33.ty hc (by decide) hRB
        first | have hb9 := hb9.ch hc (hb9.not_nd hRB) | have hb9 := hb9.ch hc (by assumption)
        have hV39 := hV39.fil hc hRB hFil
        first | have hb11 := hb11.ch hc (hb11.not_nd hRB) | have hb11 := hb11.ch hc (by assumption)
        first | have hb14 := hb14.ch hc (hb14.not_nd hRB) | have hb14 := hb14.ch hc (by assumption)
        first | have hb16 := hb16.ch hc (hb16.not_nd hRB) | have hb16 := hb16.ch hc (by assumption)
        have hWl63 : l63 ≤ szO (some t39) := by rw [← hW63.len]; exact way_lenO
        have hW63 := hW63.mono (G := fun k => w46.heap.size ≤ k ∧ k < w47.heap.size) (fun k h1 h2 => ⟨h2, h1⟩)
        have hltg4 := hb4.lt
        have hltg5 := hb5.lt
        have hltg9 := hb9.lt
        have hltg11 := hb11.lt
        have hltg14 := hb14.lt
        have hltg16 := hb16.lt
        refine wle rfl (e_alloc (cs := (([Value.slice none 0 0, Value.bool false] ++ ((List.map u8v (List.replicate 32 (0 : UInt8))) ++ (List.map u8v (List.replicate 32 (0 : UInt8))))) : List Value).toArray) rfl (by rfl) (by rfl) (fun w48 g18 hg18 hb18 hc hsz18 => ?_))
        have hzw48 := hc.size
        have HC := HC.tr hc
        have hin := hin.no hc
        have hrnd := hrnd.no hc
        have hb4 := hb4.ch hc (fun h => h)
        have hb5 := hb5.ch hc (fun h => h)
        have hV28 := hV28.ch hc (by first | exact fun _ _ _ h => h | (intro k hk hF ht; have h2 := hF.1; have h3 := hF.2; first | omega | (dsimp only at *; omega)))
        have hM28 := hM28.after hc
        have hW33 := hW33.after hc
        have hb9 := hb9.ch hc (fun h => h)
        have hV39 := hV39.ch hc (by first | exact fun _ _ _ h => h | (intro k hk hF ht; have h2 := hF.1; have h3 := hF.2; first | omega | (dsimp only at *; omega)))
        have hb11 := hb11.ch hc (fun h => h)
        have hb14 := hb14.ch hc (fun h => h)
        have hb16 := hb16.ch hc (fun h => h)
        have hW63 := hW63.after hc
        have hge18 : w.heap.size ≤ g18 := by have := HC.size; omega
        have neg4_18 : g4 < g18 := by omega
        have neg5_18 : g5 < g18 := by omega
        have neg9_18 : g9 < g18 := by omega
        have neg11_18 : g11 < g18 := by omega
        have neg14_18 : g14 < g18 := by omega
        have neg16_18 : g16 < g18 := by omega
        refine wle rfl (e_stW (vs := (([.slice A63 l63 c63, .bool lf63] ++ ((List.map u8v u63) ++ (List.map u8v x63))) : List Value)) (szL sz49 (by first | rfl | (simp only [List.length_append, List.length_map, List.length_cons, List.length_nil, (show List.length u63 = 32 from hu63), (show List.length x63 = 32 from hx63)]; done) | (simp only [List.length_append, List.length_map, List.length_cons, List.length_nil, List.size_toArray, (show List.length u63 = 32 from hu63), (show List.length x63 = 32 from hx63)]; done))) (oneA (allOne rfl) (oneA (oneL one_u8 _) (oneL one_u8 _))) rfl rfl hb18 (by first | rfl | (simp only [List.length_append, List.length_map, List.length_cons, List.length_nil, (show List.length (List.replicate 32 (0 : UInt8)) = 32 from (List.length_replicate ..)), (show List.length (List.replicate 32 (0 : UInt8)) = 32 from (List.length_replicate ..)), (show List.length u63 = 32 from hu63), (show List.length x63 = 32 from hx63)]; done) | (simp only [List.length_append, List.length_map, List.length_cons, List.length_nil, List.size_toArray, (show List.length (List.replicate 32 (0 : UInt8)) = 32 from (List.length_replicate ..)), (show List.length (List.replicate 32 (0 : UInt8)) = 32 from (List.length_replicate ..)), (show List.length u63 = 32 from hu63), (show List.length x63 = 32 from hx63)]; done)) (fun w49 hb18 hc hsz => ?_))
        have hzw49 := hc.size
        have HC := HC.trans hc (fun _ _ h => h) (fun k hk ht => absurd ht (by omega))
        first | have hin := hin.ch hc (by intro k hk ht; first | omega | (dsimp only at *; omega)) | have hin := hin.chT hc (by intro k hz hk ht; first | omega | (dsimp only at *; omega))
        first | have hrnd := hrnd.ch hc (by intro k hk ht; first | omega | (dsimp only at *; omega)) | have hrnd := hrnd.chT hc (by intro k hz hk ht; first | omega | (dsimp only at *; omega))
        have hb4 := hb4.ch hc (by omega)
        have hb5 := hb5.ch hc (by omega)
        have hV28 := hV28.ch hc (by first | exact fun _ _ _ h => h | (intro k hk hF ht; have h2 := hF.1; have h3 := hF.2; first | omega | (dsimp only at *; omega)))
        have hM28 := hM28.ch hc (by intro k hz hk ht; first | omega | (dsimp only at *; omega))
        have hW33 := hW33.ch hc (by intro k hz hk ht; first | omega | (dsimp only at *; omega))
        have hb9 := hb9.ch hc (by omega)
        have hV39 := hV39.ch hc (by first | exact fun _ _ _ h => h | (intro k hk hF ht; have h2 := hF.1; have h3 := hF.2; first | omega | (dsimp only at *; omega)))
        have hb11 := hb11.ch hc (by omega)
        have hb14 := hb14.ch hc (by omega)
        have hb16 := hb16.ch hc (by omega)
        have hW63 := hW63.ch hc (by intro k hz hk ht; first | omega | (dsimp only at *; omega))
        refine wl_nil ?_
        refine x_seq ?_
        refine wc_seq ?_
        refine wc_draw (.st 0 0 (.st 2 1 (.st 3 1 (.alt (.st 1 2 (.alt (.st 4 2 (.st 5 0 (.st 6 0 (.st 7 0 (.st 8 0 (.st 9 2 (.st 10 3 (.st 11 0 (.st 12 0 .nil))))))))) (.st 9 2 (.st 4 2 (.st 5 0 (.st 6 0 (.st 7 0 (.st 8 0 (.st 10 3 (.st 11 0 (.st 12 0 .nil))))))))))) (.st 9 2 (.st 1 2 (.st 4 2 (.st 5 0 (.st 6 0 (.st 7 0 (.st 8 0 (.st 10 3 (.st 11 0 (.st 12 0 .nil)))))))))))))) 10 (by kernel_rfl) (by kernel_rfl) (by kernel_rfl) (by repeat (first | with_reducible exact pan_body | with_reducible apply pan_then | with_reducible apply pan_in)) (fun z => Ch (fun k => k ∈ adsO (some t39)) w49.drew z) (Ch.refl _ _) ?_
        obtain ⟨w50, ew50⟩ : ∃ x, x = w49.drew := ⟨_, rfl⟩
        rw [← ew50]
        have hc : Ch No w49 w50 := by rw [ew50]; exact Ch.drew _
        have hszw50 : w50.heap.size = w49.heap.size := by rw [ew50]; rfl
        clear ew50
        have hzw50 := hc.size
        have HC := HC.tr hc
        have hin := hin.no hc
        have hrnd := hrnd.no hc
        have hb4 := hb4.ch hc (fun h => h)
        have hb5 := hb5.ch hc (fun h => h)
        have hV28 := hV28.ch hc (by first | exact fun _ _ _ h => h | (intro k hk hF ht; have h2 := hF.1; have h3 := hF.2; first | omega | (dsimp only at *; omega)))
        have hM28 := hM28.no hc
        have hW33 := hW33.no hc
        have hb9 := hb9.ch hc (fun h => h)
        have hV39 := hV39.ch hc (by first | exact fun _ _ _ h => h | (intro k hk hF ht; have h2 := hF.1; have h3 := hF.2; first | omega | (dsimp only at *; omega)))
        have hb11 := hb11.ch hc (fun h => h)
        have hb14 := hb14.ch hc (fun h => h)
        have hb16 := hb16.ch hc (fun h => h)
        have hW63 := hW63.no hc
        have hb18 := hb18.ch hc (fun h => h)
        have hS : Ch (fun k => k ∈ adsO (some t39)) w50 w50 := Ch.refl _ _
        have hRBd := hV39.adsB
        refine ws_p rfl rfl rfl rfl (p_mv rfl) ?_
        refine ws_h rfl rfl rfl rfl (p_ldA (cs := List.map u8v k) Tryd.underlying38 rfl (szL sz38 (by rw [List.length_map]; exact hk)) rfl (fun _ h => (rngL (hb5.ch h (hb5.not_nd hRBd))))) ?_
        refine ws_h rfl rfl rfl rfl (p_ldA (cs := (([.slice A63 l63 c63, .bool lf63] ++ ((List.map u8v u63) ++ (List.map u8v x63))) : List Value)) Tryd.underlying49 rfl (szL sz49 (by first | rfl | (simp only [List.length_append, List.length_map, List.length_cons, List.length_nil, (show List.length u63 = 32 from hu63), (show List.length x63 = 32 from hx63)]; done) | (simp only [List.length_append, List.length_map, List.length_cons, List.length_nil, List.size_toArray, (show List.length u63 = 32 from hu63), (show List.length x63 = 32 from hx63)]; done))) rfl (fun _ h => (rngL (hb18.ch h (hb18.not_nd hRBd))))) ?_
        refine ws_alt ?_ ?_
        ·
          refine ws_e rfl rfl (e_call ent46 rfl rfl (troot_made hV39 hrnd) ?_)
          rintro _ w51 ⟨rfl, hc, hFil, hRB, hRF⟩
          refine ⟨_, rfl, (by first | exact hS.tr hc | exact hS.trans hc (fun _ _ h => h) (fun _ _ h => h)), ?_⟩
          have hR0 := hV39.ot.out hrnd (by omega)
          have hRo : ∀ k, k < w.heap.size → k ∈ adsO (some t39) → False := fun k h1 h2 => absurd (hRF k h2).1 (by omega)
          have hzw51 := hc.size
          have HC := HC.trans hc (fun _ _ h => h) (fun k hk ht => absurd (hRF k ht).1 (by omega))
          have hin := hin.ch hc (fun k hk ht => hRo k hk ht)
          have hrnd := hrnd.ch hc (fun k hk ht => hR0 (hk ▸ ht))
          first | have hb4 := hb4.ch hc (hb4.not_nd hRB) | have hb4 := hb4.ch hc (by assumption)
          first | have hb5 := hb5.ch hc (hb5.not_nd hRB) | have hb5 := hb5.ch hc (by assumption)
          have hV28 := hV28.fil hc hRB hFil
          have hM28 := hM28.ty hc (by decide) hRB
          have hW33 := hW33.ty hc (by decide) hRB
          first | have hb9 := hb9.ch hc (hb9.not_nd hRB) | have hb9 := hb9.ch hc (by assumption)
          have hV39 := hV39.fil hc hRB hFil
          first | have hb11 := hb11.ch hc (hb11.not_nd hRB) | have hb11 := hb11.ch hc (by assumption)
          first | have hb14 := hb14.ch hc (hb14.not_nd hRB) | have hb14 := hb14.ch hc (by assumption)
          first | have hb16 := hb16.ch hc (hb16.not_nd hRB) | have hb16 := hb16.ch hc (by assumption)
          have hW63 := hW63.ty hc (by decide) hRB
          first | have hb18 := hb18.ch hc (hb18.not_nd hRB) | have hb18 := hb18.ch hc (by assumption)
          have hS := (by first | exact hS.tr hc | exact hS.trans hc (fun _ _ h => h) (fun _ _ h => h))
          refine ws_alt ?_ ?_
          ·
            refine ws_e rfl rfl (e_call ent32 rfl rfl (mcheck_any (rootT_len) (hk) (hW63.si) (hu63) (hx63) (by omega) hrnd) ?_)
            rintro _ w52 ⟨u69, a69, b69, rfl, hu69, hck69, hc⟩
            refine ⟨_, rfl, (by first | exact hS.tr hc | exact hS.trans hc (fun _ _ h => h) (fun _ _ h => h)), ?_⟩
            have hzw52 := hc.size
            have HC := HC.tr hc
            have hin := hin.no hc
            have hrnd := hrnd.no hc
            have hb4 := hb4.ch hc (fun h => h)
            have hb5 := hb5.ch hc (fun h => h)
            have hV28 := hV28.ch hc (by first | exact fun _ _ _ h => h | (intro k hk hF ht; have h2 := hF.1; have h3 := hF.2; first | omega | (dsimp only at *; omega)))
            have hM28 := hM28.after hc
            have hW33 := hW33.after hc
            have hb9 := hb9.ch hc (fun h => h)
            have hV39 := hV39.ch hc (by first | exact fun _ _ _ h => h | (intro k hk hF ht; have h2 := hF.1; have h3 := hF.2; first | omega | (dsimp only at *; omega)))
            have hb11 := hb11.ch hc (fun h => h)
            have hb14 := hb14.ch hc (fun h => h)
            have hb16 := hb16.ch hc (fun h => h)
            have hW63 := hW63.after hc
            have hb18 := hb18.ch hc (fun h => h)
            have hS := (by first | exact hS.tr hc | exact hS.trans hc (fun _ _ h => h) (fun _ _ h => h))
            obtain ⟨hG2, hBt2, hAt2, hUt2⟩ := holds_ok hwfu hen63 hck69 hg58
            refine ws_p rfl rfl rfl rfl (p_mv rfl) ?_
            refine ws_p rfl rfl rfl rfl (p_ext rfl rfl) ?_
            refine ws_p rfl rfl rfl rfl (p_ext rfl rfl) ?_
            refine ws_p rfl rfl rfl rfl (p_ext rfl rfl) ?_
            have hltg4 := hb4.lt
            have hltg5 := hb5.lt
            have hltg9 := hb9.lt
            have hltg11 := hb11.lt
            have hltg14 := hb14.lt
            have hltg16 := hb16.lt
            have hltg18 := hb18.lt
            refine ws_e rfl rfl (e_alloc (cs := ((List.replicate 32 (0 : UInt8)).map u8v).toArray) rfl (by rfl) rfl (fun w53 g19 hg19 hb19 hc hsz19 => ⟨(by first | exact hS.tr hc | exact hS.trans hc (fun _ _ h => h) (fun _ _ h => h)), ?_⟩))
            have hzw53 := hc.size
            have HC := HC.tr hc
            have hin := hin.no hc
            have hrnd := hrnd.no hc
            have hb4 := hb4.ch hc (fun h => h)
            have hb5 := hb5.ch hc (fun h => h)
            have hV28 := hV28.ch hc (by first | exact fun _ _ _ h => h | (intro k hk hF ht; have h2 := hF.1; have h3 := hF.2; first | omega | (dsimp only at *; omega)))
            have hM28 := hM28.after hc
            have hW33 := hW33.after hc
            have hb9 := hb9.ch hc (fun h => h)
            have hV39 := hV39.ch hc (by first | exact fun _ _ _ h => h | (intro k hk hF ht; have h2 := hF.1; have h3 := hF.2; first | omega | (dsimp only at *; omega)))
            have hb11 := hb11.ch hc (fun h => h)
            have hb14 := hb14.ch hc (fun h => h)
            have hb16 := hb16.ch hc (fun h => h)
            have hW63 := hW63.after hc
            have hb18 := hb18.ch hc (fun h => h)
            have hge19 : w.heap.size ≤ g19 := by have := HC.size; omega
            have neg4_19 : g4 < g19 := by omega
            have neg5_19 : g5 < g19 := by omega
            have neg9_19 : g9 < g19 := by omega
            have neg11_19 : g11 < g19 := by omega
            have neg14_19 : g14 < g19 := by omega
            have neg16_19 : g16 < g19 := by omega
            have neg18_19 : g18 < g19 := by omega
            have hS := (by first | exact hS.tr hc | exact hS.trans hc (fun _ _ h => h) (fun _ _ h => h))
            refine ws_l rfl rfl (e_stW (vs := List.map u8v u69) (szL sz38 (by rw [List.length_map]; exact hu69)) (oneL one_u8 _) rfl rfl hb19 (by simp only [List.size_toArray, List.length_map]; first | done | exact ((List.length_replicate ..)).trans (hu69).symm) (fun w54 hb19 hc hsz => ?_))
            have hzw54 := hc.size
            have HC := HC.trans hc (fun _ _ h => h) (fun k hk ht => absurd ht (by omega))
            first | have hin := hin.ch hc (by intro k hk ht; first | omega | (dsimp only at *; omega)) | have hin := hin.chT hc (by intro k hz hk ht; first | omega | (dsimp only at *; omega))
            first | have hrnd := hrnd.ch hc (by intro k hk ht; first | omega | (dsimp only at *; omega)) | have hrnd := hrnd.chT hc (by intro k hz hk ht; first | omega | (dsimp only at *; omega))
            have hb4 := hb4.ch hc (by omega)
            have hb5 := hb5.ch hc (by omega)
            have hV28 := hV28.ch hc (by first | exact fun _ _ _ h => h | (intro k hk hF ht; have h2 := hF.1; have h3 := hF.2; first | omega | (dsimp only at *; omega)))
            have hM28 := hM28.ch hc (by intro k hz hk ht; first | omega | (dsimp only at *; omega))
            have hW33 := hW33.ch hc (by intro k hz hk ht; first | omega | (dsimp only at *; omega))
            have hb9 := hb9.ch hc (by omega)
            have hV39 := hV39.ch hc (by first | exact fun _ _ _ h => h | (intro k hk hF ht; have h2 := hF.1; have h3 := hF.2; first | omega | (dsimp only at *; omega)))
            have hb11 := hb11.ch hc (by omega)
            have hb14 := hb14.ch hc (by omega)
            have hb16 := hb16.ch hc (by omega)
            have hW63 := hW63.ch hc (by intro k hz hk ht; first | omega | (dsimp only at *; omega))
            have hb18 := hb18.ch hc (by omega)
            refine ws_p rfl rfl rfl rfl (p_as rfl) ?_
            refine ws_p rfl rfl rfl rfl (p_as rfl) ?_
            refine ws_n ?_
            refine x_seq ?_
            refine wc_seq ?_
            refine wc_region ?_
            refine wl rfl rfl rfl (p_mv rfl) ?_
            refine wl rfl rfl rfl (p_mv rfl) ?_
            refine wl_know (d := 74) (b' := true) rfl (hBt) ?_
            refine wl_g (gd_ rfl rfl rfl rfl rfl rfl) rfl rfl (p_mv rfl) ?_
            refine wl_g (gd_ rfl rfl rfl rfl rfl rfl) rfl rfl (p_mv rfl) ?_
            refine wl_g (gd_ rfl rfl rfl rfl rfl rfl) rfl rfl (p_eqB rfl rfl Tryd.underlying4) ?_
            refine wl rfl rfl rfl (p_pickT rfl rfl) ?_
            refine wl rfl rfl rfl (p_mv rfl) ?_
            refine wl_know (d := 79) (b' := true) rfl (by simp [hAt]) ?_
            refine wl_g (gd_ rfl rfl rfl rfl rfl rfl) rfl rfl (p_ldA (cs := List.map u8v u45) Tryd.underlying38 rfl (szL sz38 (by rw [List.length_map]; exact hu45)) rfl (fun _ e => e ▸ rngL hb11)) ?_
            refine wl_g (gd_ rfl rfl rfl rfl rfl rfl) rfl rfl (p_ldA (cs := List.map u8v u52) Tryd.underlying38 rfl (szL sz38 (by rw [List.length_map]; exact hu52)) rfl (fun _ e => e ▸ rngL hb14)) ?_
            refine wl_g (gd_ rfl rfl rfl rfl rfl rfl) rfl rfl (p_eqH (a := u45) (b := u52) (by kernel_rfl) Tryd.underlying38 Tryd.underlying5 sz5 rfl rfl (hu45) (hu52)) ?_
            refine wl rfl rfl rfl (p_pickT rfl rfl) ?_
            refine wl rfl rfl rfl (p_mv rfl) ?_
            refine wl_know (d := 84) (b' := true) rfl (by simp [hUt]) ?_
            refine wl_g (gd_ rfl rfl rfl rfl rfl rfl) rfl rfl (p_mv rfl) ?_
            refine wl rfl rfl rfl (p_pickT rfl rfl) ?_
            refine wl rfl rfl rfl (p_mv rfl) ?_
            refine wl_know (d := 87) (b' := true) rfl (hBt2) ?_
            refine wl_g (gd_ rfl rfl rfl rfl rfl rfl) rfl rfl (p_mv rfl) ?_
            refine wl_g (gd_ rfl rfl rfl rfl rfl rfl) rfl rfl (p_mv rfl) ?_
            refine wl_g (gd_ rfl rfl rfl rfl rfl rfl) rfl rfl (p_eqB rfl rfl Tryd.underlying4) ?_
            refine wl rfl rfl rfl (p_pickT rfl rfl) ?_
            refine wl rfl rfl rfl (p_mv rfl) ?_
            refine wl_know (d := 92) (b' := true) rfl (by simp [hAt2]) ?_
            refine wl_g (gd_ rfl rfl rfl rfl rfl rfl) rfl rfl (p_ldA (cs := List.map u8v u69) Tryd.underlying38 rfl (szL sz38 (by rw [List.length_map]; exact hu69)) rfl (fun _ e => e ▸ rngL hb19)) ?_
            refine wl_g (gd_ rfl rfl rfl rfl rfl rfl) rfl rfl (p_ldA (cs := List.map u8v u58) Tryd.underlying38 rfl (szL sz38 (by rw [List.length_map]; exact hu58)) rfl (fun _ e => e ▸ rngL hb16)) ?_
            refine wl_g (gd_ rfl rfl rfl rfl rfl rfl) rfl rfl (p_eqH (a := u69) (b := u58) (by kernel_rfl) Tryd.underlying38 Tryd.underlying5 sz5 rfl rfl (hu69) (hu58)) ?_
            refine wl rfl rfl rfl (p_pickT rfl rfl) ?_
            refine wl rfl rfl rfl (p_mv rfl) ?_
            refine wl_know (d := 97) (b' := true) rfl (by simp [hUt2]) ?_
            refine wle_g (gd_ rfl rfl rfl rfl rfl rfl) (e_call ent29 rfl rfl (lives12_any hrnd) ?_)
            rintro _ w55 ⟨rfl, hc⟩
            refine ⟨_, rfl, ?_⟩
            have hzw55 := hc.size
            have HC := HC.tr hc
            have hin := hin.no hc
            have hrnd := hrnd.no hc
            have hb4 := hb4.ch hc (fun h => h)
            have hb5 := hb5.ch hc (fun h => h)
            have hV28 := hV28.ch hc (by first | exact fun _ _ _ h => h | (intro k hk hF ht; have h2 := hF.1; have h3 := hF.2; first | omega | (dsimp only at *; omega)))
            have hM28 := hM28.after hc
            have hW33 := hW33.after hc
            have hb9 := hb9.ch hc (fun h => h)
            have hV39 := hV39.ch hc (by first | exact fun _ _ _ h => h | (intro k hk hF ht; have h2 := hF.1; have h3 := hF.2; first | omega | (dsimp only at *; omega)))
            have hb11 := hb11.ch hc (fun h => h)
            have hb14 := hb14.ch hc (fun h => h)
            have hb16 := hb16.ch hc (fun h => h)
            have hW63 := hW63.after hc
            have hb18 := hb18.ch hc (fun h => h)
            have hb19 := hb19.ch hc (fun h => h)
            refine wl rfl rfl rfl (p_pickT rfl rfl) ?_
            refine wl rfl rfl rfl (p_as rfl) ?_
            refine wl_nil ?_
            refine x_seq ?_
            refine wc_ret ?_
            refine fin_run ((res1 rfl rfl)) ?_
            exact ⟨rfl, HC⟩
          ·
            have hltg4 := hb4.lt
            have hltg5 := hb5.lt
            have hltg9 := hb9.lt
            have hltg11 := hb11.lt
            have hltg14 := hb14.lt
            have hltg16 := hb16.lt
            have hltg18 := hb18.lt
            refine ws_e rfl rfl (e_alloc (cs := ((List.replicate 32 (0 : UInt8)).map u8v).toArray) rfl (by rfl) rfl (fun w56 g19 hg19 hb19 hc hsz19 => ⟨(by first | exact hS.tr hc | exact hS.trans hc (fun _ _ h => h) (fun _ _ h => h)), ?_⟩))
            have hzw56 := hc.size
            have HC := HC.tr hc
            have hin := hin.no hc
            have hrnd := hrnd.no hc
            have hb4 := hb4.ch hc (fun h => h)
            have hb5 := hb5.ch hc (fun h => h)
            have hV28 := hV28.ch hc (by first | exact fun _ _ _ h => h | (intro k hk hF ht; have h2 := hF.1; have h3 := hF.2; first | omega | (dsimp only at *; omega)))
            have hM28 := hM28.after hc
            have hW33 := hW33.after hc
            have hb9 := hb9.ch hc (fun h => h)
            have hV39 := hV39.ch hc (by first | exact fun _ _ _ h => h | (intro k hk hF ht; have h2 := hF.1; have h3 := hF.2; first | omega | (dsimp only at *; omega)))
            have hb11 := hb11.ch hc (fun h => h)
            have hb14 := hb14.ch hc (fun h => h)
            have hb16 := hb16.ch hc (fun h => h)
            have hW63 := hW63.after hc
            have hb18 := hb18.ch hc (fun h => h)
            have hge19 : w.heap.size ≤ g19 := by have := HC.size; omega
            have neg4_19 : g4 < g19 := by omega
            have neg5_19 : g5 < g19 := by omega
            have neg9_19 : g9 < g19 := by omega
            have neg11_19 : g11 < g19 := by omega
            have neg14_19 : g14 < g19 := by omega
            have neg16_19 : g16 < g19 := by omega
            have neg18_19 : g18 < g19 := by omega
            have hS := (by first | exact hS.tr hc | exact hS.trans hc (fun _ _ h => h) (fun _ _ h => h))
            refine ws_e rfl rfl (e_call ent32 rfl rfl (mcheck_any (rootT_len) (hk) (hW63.si) (hu63) (hx63) (by omega) hrnd) ?_)
            rintro _ w57 ⟨u69, a69, b69, rfl, hu69, hck69, hc⟩
            refine ⟨_, rfl, (by first | exact hS.tr hc | exact hS.trans hc (fun _ _ h => h) (fun _ _ h => h)), ?_⟩
            have hzw57 := hc.size
            have HC := HC.tr hc
            have hin := hin.no hc
            have hrnd := hrnd.no hc
            have hb4 := hb4.ch hc (fun h => h)
            have hb5 := hb5.ch hc (fun h => h)
            have hV28 := hV28.ch hc (by first | exact fun _ _ _ h => h | (intro k hk hF ht; have h2 := hF.1; have h3 := hF.2; first | omega | (dsimp only at *; omega)))
            have hM28 := hM28.after hc
            have hW33 := hW33.after hc
            have hb9 := hb9.ch hc (fun h => h)
            have hV39 := hV39.ch hc (by first | exact fun _ _ _ h => h | (intro k hk hF ht; have h2 := hF.1; have h3 := hF.2; first | omega | (dsimp only at *; omega)))
            have hb11 := hb11.ch hc (fun h => h)
            have hb14 := hb14.ch hc (fun h => h)
            have hb16 := hb16.ch hc (fun h => h)
            have hW63 := hW63.after hc
            have hb18 := hb18.ch hc (fun h => h)
            have hb19 := hb19.ch hc (fun h => h)
            have hS := (by first | exact hS.tr hc | exact hS.trans hc (fun _ _ h => h) (fun _ _ h => h))
            obtain ⟨hG2, hBt2, hAt2, hUt2⟩ := holds_ok hwfu hen63 hck69 hg58
            refine ws_p rfl rfl rfl rfl (p_mv rfl) ?_
            refine ws_p rfl rfl rfl rfl (p_ext rfl rfl) ?_
            refine ws_p rfl rfl rfl rfl (p_ext rfl rfl) ?_
            refine ws_p rfl rfl rfl rfl (p_ext rfl rfl) ?_
            refine ws_l rfl rfl (e_stW (vs := List.map u8v u69) (szL sz38 (by rw [List.length_map]; exact hu69)) (oneL one_u8 _) rfl rfl hb19 (by simp only [List.size_toArray, List.length_map]; first | done | exact ((List.length_replicate ..)).trans (hu69).symm) (fun w58 hb19 hc hsz => ?_))
            have hzw58 := hc.size
            have HC := HC.trans hc (fun _ _ h => h) (fun k hk ht => absurd ht (by omega))
            first | have hin := hin.ch hc (by intro k hk ht; first | omega | (dsimp only at *; omega)) | have hin := hin.chT hc (by intro k hz hk ht; first | omega | (dsimp only at *; omega))
            first | have hrnd := hrnd.ch hc (by intro k hk ht; first | omega | (dsimp only at *; omega)) | have hrnd := hrnd.chT hc (by intro k hz hk ht; first | omega | (dsimp only at *; omega))
            have hb4 := hb4.ch hc (by omega)
            have hb5 := hb5.ch hc (by omega)
            have hV28 := hV28.ch hc (by first | exact fun _ _ _ h => h | (intro k hk hF ht; have h2 := hF.1; have h3 := hF.2; first | omega | (dsimp only at *; omega)))
            have hM28 := hM28.ch hc (by intro k hz hk ht; first | omega | (dsimp only at *; omega))
            have hW33 := hW33.ch hc (by intro k hz hk ht; first | omega | (dsimp only at *; omega))
            have hb9 := hb9.ch hc (by omega)
            have hV39 := hV39.ch hc (by first | exact fun _ _ _ h => h | (intro k hk hF ht; have h2 := hF.1; have h3 := hF.2; first | omega | (dsimp only at *; omega)))
            have hb11 := hb11.ch hc (by omega)
            have hb14 := hb14.ch hc (by omega)
            have hb16 := hb16.ch hc (by omega)
            have hW63 := hW63.ch hc (by intro k hz hk ht; first | omega | (dsimp only at *; omega))
            have hb18 := hb18.ch hc (by omega)
            refine ws_p rfl rfl rfl rfl (p_as rfl) ?_
            refine ws_p rfl rfl rfl rfl (p_as rfl) ?_
            refine ws_n ?_
            refine x_seq ?_
            refine wc_seq ?_
            refine wc_region ?_
            refine wl rfl rfl rfl (p_mv rfl) ?_
            refine wl rfl rfl rfl (p_mv rfl) ?_
            refine wl_know (d := 74) (b' := true) rfl (hBt) ?_
            refine wl_g (gd_ rfl rfl rfl rfl rfl rfl) rfl rfl (p_mv rfl) ?_
            refine wl_g (gd_ rfl rfl rfl rfl rfl rfl) rfl rfl (p_mv rfl) ?_
            refine wl_g (gd_ rfl rfl rfl rfl rfl rfl) rfl rfl (p_eqB rfl rfl Tryd.underlying4) ?_
            refine wl rfl rfl rfl (p_pickT rfl rfl) ?_
            refine wl rfl rfl rfl (p_mv rfl) ?_
            refine wl_know (d := 79) (b' := true) rfl (by simp [hAt]) ?_
            refine wl_g (gd_ rfl rfl rfl rfl rfl rfl) rfl rfl (p_ldA (cs := List.map u8v u45) Tryd.underlying38 rfl (szL sz38 (by rw [List.length_map]; exact hu45)) rfl (fun _ e => e ▸ rngL hb11)) ?_
            refine wl_g (gd_ rfl rfl rfl rfl rfl rfl) rfl rfl (p_ldA (cs := List.map u8v u52) Tryd.underlying38 rfl (szL sz38 (by rw [List.length_map]; exact hu52)) rfl (fun _ e => e ▸ rngL hb14)) ?_
            refine wl_g (gd_ rfl rfl rfl rfl rfl rfl) rfl rfl (p_eqH (a := u45) (b := u52) (by kernel_rfl) Tryd.underlying38 Tryd.underlying5 sz5 rfl rfl (hu45) (hu52)) ?_
            refine wl rfl rfl rfl (p_pickT rfl rfl) ?_
            refine wl rfl rfl rfl (p_mv rfl) ?_
            refine wl_know (d := 84) (b' := true) rfl (by simp [hUt]) ?_
            refine wl_g (gd_ rfl rfl rfl rfl rfl rfl) rfl rfl (p_mv rfl) ?_
            refine wl rfl rfl rfl (p_pickT rfl rfl) ?_
            refine wl rfl rfl rfl (p_mv rfl) ?_
            refine wl_know (d := 87) (b' := true) rfl (hBt2) ?_
            refine wl_g (gd_ rfl rfl rfl rfl rfl rfl) rfl rfl (p_mv rfl) ?_
            refine wl_g (gd_ rfl rfl rfl rfl rfl rfl) rfl rfl (p_mv rfl) ?_
            refine wl_g (gd_ rfl rfl rfl rfl rfl rfl) rfl rfl (p_eqB rfl rfl Tryd.underlying4) ?_
            refine wl rfl rfl rfl (p_pickT rfl rfl) ?_
            refine wl rfl rfl rfl (p_mv rfl) ?_
            refine wl_know (d := 92) (b' := true) rfl (by simp [hAt2]) ?_
            refine wl_g (gd_ rfl rfl rfl rfl rfl rfl) rfl rfl (p_ldA (cs := List.map u8v u69) Tryd.underlying38 rfl (szL sz38 (by rw [List.length_map]; exact hu69)) rfl (fun _ e => e ▸ rngL hb19)) ?_
            refine wl_g (gd_ rfl rfl rfl rfl rfl rfl) rfl rfl (p_ldA (cs := List.map u8v u58) Tryd.underlying38 rfl (szL sz38 (by rw [List.length_map]; exact hu58)) rfl (fun _ e => e ▸ rngL hb16)) ?_
            refine wl_g (gd_ rfl rfl rfl rfl rfl rfl) rfl rfl (p_eqH (a := u69) (b := u58) (by kernel_rfl) Tryd.underlying38 Tryd.underlying5 sz5 rfl rfl (hu69) (hu58)) ?_
            refine wl rfl rfl rfl (p_pickT rfl rfl) ?_
            refine wl rfl rfl rfl (p_mv rfl) ?_
            refine wl_know (d := 97) (b' := true) rfl (by simp [hUt2]) ?_
            refine wle_g (gd_ rfl rfl rfl rfl rfl rfl) (e_call ent29 rfl rfl (lives12_any hrnd) ?_)
            rintro _ w59 ⟨rfl, hc⟩
            refine ⟨_, rfl, ?_⟩
            have hzw59 := hc.size
            have HC := HC.tr hc
            have hin := hin.no hc
            have hrnd := hrnd.no hc
            have hb4 := hb4.ch hc (fun h => h)
            have hb5 := hb5.ch hc (fun h => h)
            have hV28 := hV28.ch hc (by first | exact fun _ _ _ h => h | (intro k hk hF ht; have h2 := hF.1; have h3 := hF.2; first | omega | (dsimp only at *; omega)))
            have hM28 := hM28.after hc
            have hW33 := hW33.after hc
            have hb9 := hb9.ch hc (fun h => h)
            have hV39 := hV39.ch hc (by first | exact fun _ _ _ h => h | (intro k hk hF ht; have h2 := hF.1; have h3 := hF.2; first | omega | (dsimp only at *; omega)))
            have hb11 := hb11.ch hc (fun h => h)
            have hb14 := hb14.ch hc (fun h => h)
            have hb16 := hb16.ch hc (fun h => h)
            have hW63 := hW63.after hc
            have hb18 := hb18.ch hc (fun h => h)
            have hb19 := hb19.ch hc (fun h => h)
            refine wl rfl rfl rfl (p_pickT rfl rfl) ?_
            refine wl rfl rfl rfl (p_as rfl) ?_
            refine wl_nil ?_
            refine x_seq ?_
            refine wc_ret ?_
            refine fin_run ((res1 rfl rfl)) ?_
            exact ⟨rfl, HC⟩
        ·
          have hltg4 := hb4.lt
          have hltg5 := hb5.lt
          have hltg9 := hb9.lt
          have hltg11 := hb11.lt
          have hltg14 := hb14.lt
          have hltg16 := hb16.lt
          have hltg18 := hb18.lt
          refine ws_e rfl rfl (e_alloc (cs := ((List.replicate 32 (0 : UInt8)).map u8v).toArray) rfl (by rfl) rfl (fun w60 g19 hg19 hb19 hc hsz19 => ⟨(by first | exact hS.tr hc | exact hS.trans hc (fun _ _ h => h) (fun _ _ h => h)), ?_⟩))
          have hzw60 := hc.size
          have HC := HC.tr hc
          have hin := hin.no hc
          have hrnd := hrnd.no hc
          have hb4 := hb4.ch hc (fun h => h)
          have hb5 := hb5.ch hc (fun h => h)
          have hV28 := hV28.ch hc (by first | exact fun _ _ _ h => h | (intro k hk hF ht; have h2 := hF.1; have h3 := hF.2; first | omega | (dsimp only at *; omega)))
          have hM28 := hM28.after hc
          have hW33 := hW33.after hc
          have hb9 := hb9.ch hc (fun h => h)
          have hV39 := hV39.ch hc (by first | exact fun _ _ _ h => h | (intro k hk hF ht; have h2 := hF.1; have h3 := hF.2; first | omega | (dsimp only at *; omega)))
          have hb11 := hb11.ch hc (fun h => h)
          have hb14 := hb14.ch hc (fun h => h)
          have hb16 := hb16.ch hc (fun h => h)
          have hW63 := hW63.after hc
          have hb18 := hb18.ch hc (fun h => h)
          have hge19 : w.heap.size ≤ g19 := by have := HC.size; omega
          have neg4_19 : g4 < g19 := by omega
          have neg5_19 : g5 < g19 := by omega
          have neg9_19 : g9 < g19 := by omega
          have neg11_19 : g11 < g19 := by omega
          have neg14_19 : g14 < g19 := by omega
          have neg16_19 : g16 < g19 := by omega
          have neg18_19 : g18 < g19 := by omega
          have hS := (by first | exact hS.tr hc | exact hS.trans hc (fun _ _ h => h) (fun _ _ h => h))
          refine ws_e rfl rfl (e_call ent46 rfl rfl (troot_made hV39 hrnd) ?_)
          rintro _ w61 ⟨rfl, hc, hFil, hRB, hRF⟩
          refine ⟨_, rfl, (by first | exact hS.tr hc | exact hS.trans hc (fun _ _ h => h) (fun _ _ h => h)), ?_⟩
          have hR0 := hV39.ot.out hrnd (by omega)
          have hRo : ∀ k, k < w.heap.size → k ∈ adsO (some t39) → False := fun k h1 h2 => absurd (hRF k h2).1 (by omega)
          have hzw61 := hc.size
          have HC := HC.trans hc (fun _ _ h => h) (fun k hk ht => absurd (hRF k ht).1 (by omega))
          have hin := hin.ch hc (fun k hk ht => hRo k hk ht)
          have hrnd := hrnd.ch hc (fun k hk ht => hR0 (hk ▸ ht))
          first | have hb4 := hb4.ch hc (hb4.not_nd hRB) | have hb4 := hb4.ch hc (by assumption)
          first | have hb5 := hb5.ch hc (hb5.not_nd hRB) | have hb5 := hb5.ch hc (by assumption)
          have hV28 := hV28.fil hc hRB hFil
          have hM28 := hM28.ty hc (by decide) hRB
          have hW33 := hW33.ty hc (by decide) hRB
          first | have hb9 := hb9.ch hc (hb9.not_nd hRB) | have hb9 := hb9.ch hc (by assumption)
          have hV39 := hV39.fil hc hRB hFil
          first | have hb11 := hb11.ch hc (hb11.not_nd hRB) | have hb11 := hb11.ch hc (by assumption)
          first | have hb14 := hb14.ch hc (hb14.not_nd hRB) | have hb14 := hb14.ch hc (by assumption)
          first | have hb16 := hb16.ch hc (hb16.not_nd hRB) | have hb16 := hb16.ch hc (by assumption)
          have hW63 := hW63.ty hc (by decide) hRB
          first | have hb18 := hb18.ch hc (hb18.not_nd hRB) | have hb18 := hb18.ch hc (by assumption)
          first | have hb19 := hb19.ch hc (hb19.not_nd hRB) | have hb19 := hb19.ch hc (by assumption)
          have hS := (by first | exact hS.tr hc | exact hS.trans hc (fun _ _ h => h) (fun _ _ h => h))
          refine ws_e rfl rfl (e_call ent32 rfl rfl (mcheck_any (rootT_len) (hk) (hW63.si) (hu63) (hx63) (by omega) hrnd) ?_)
          rintro _ w62 ⟨u69, a69, b69, rfl, hu69, hck69, hc⟩
          refine ⟨_, rfl, (by first | exact hS.tr hc | exact hS.trans hc (fun _ _ h => h) (fun _ _ h => h)), ?_⟩
          have hzw62 := hc.size
          have HC := HC.tr hc
          have hin := hin.no hc
          have hrnd := hrnd.no hc
          have hb4 := hb4.ch hc (fun h => h)
          have hb5 := hb5.ch hc (fun h => h)
          have hV28 := hV28.ch hc (by first | exact fun _ _ _ h => h | (intro k hk hF ht; have h2 := hF.1; have h3 := hF.2; first | omega | (dsimp only at *; omega)))
          have hM28 := hM28.after hc
          have hW33 := hW33.after hc
          have hb9 := hb9.ch hc (fun h => h)
          have hV39 := hV39.ch hc (by first | exact fun _ _ _ h => h | (intro k hk hF ht; have h2 := hF.1; have h3 := hF.2; first | omega | (dsimp only at *; omega)))
          have hb11 := hb11.ch hc (fun h => h)
          have hb14 := hb14.ch hc (fun h => h)
          have hb16 := hb16.ch hc (fun h => h)
          have hW63 := hW63.after hc
          have hb18 := hb18.ch hc (fun h => h)
          have hb19 := hb19.ch hc (fun h => h)
          have hS := (by first | exact hS.tr hc | exact hS.trans hc (fun _ _ h => h) (fun _ _ h => h))
          obtain ⟨hG2, hBt2, hAt2, hUt2⟩ := holds_ok hwfu hen63 hck69 hg58
          refine ws_p rfl rfl rfl rfl (p_mv rfl) ?_
          refine ws_p rfl rfl rfl rfl (p_ext rfl rfl) ?_
          refine ws_p rfl rfl rfl rfl (p_ext rfl rfl) ?_
          refine ws_p rfl rfl rfl rfl (p_ext rfl rfl) ?_
          refine ws_l rfl rfl (e_stW (vs := List.map u8v u69) (szL sz38 (by rw [List.length_map]; exact hu69)) (oneL one_u8 _) rfl rfl hb19 (by simp only [List.size_toArray, List.length_map]; first | done | exact ((List.length_replicate ..)).trans (hu69).symm) (fun w63 hb19 hc hsz => ?_))
          have hzw63 := hc.size
          have HC := HC.trans hc (fun _ _ h => h) (fun k hk ht => absurd ht (by omega))
          first | have hin := hin.ch hc (by intro k hk ht; first | omega | (dsimp only at *; omega)) | have hin := hin.chT hc (by intro k hz hk ht; first | omega | (dsimp only at *; omega))
          first | have hrnd := hrnd.ch hc (by intro k hk ht; first | omega | (dsimp only at *; omega)) | have hrnd := hrnd.chT hc (by intro k hz hk ht; first | omega | (dsimp only at *; omega))
          have hb4 := hb4.ch hc (by omega)
          have hb5 := hb5.ch hc (by omega)
          have hV28 := hV28.ch hc (by first | exact fun _ _ _ h => h | (intro k hk hF ht; have h2 := hF.1; have h3 := hF.2; first | omega | (dsimp only at *; omega)))
          have hM28 := hM28.ch hc (by intro k hz hk ht; first | omega | (dsimp only at *; omega))
          have hW33 := hW33.ch hc (by intro k hz hk ht; first | omega | (dsimp only at *; omega))
          have hb9 := hb9.ch hc (by omega)
          have hV39 := hV39.ch hc (by first | exact fun _ _ _ h => h | (intro k hk hF ht; have h2 := hF.1; have h3 := hF.2; first | omega | (dsimp only at *; omega)))
          have hb11 := hb11.ch hc (by omega)
          have hb14 := hb14.ch hc (by omega)
          have hb16 := hb16.ch hc (by omega)
          have hW63 := hW63.ch hc (by intro k hz hk ht; first | omega | (dsimp only at *; omega))
          have hb18 := hb18.ch hc (by omega)
          refine ws_p rfl rfl rfl rfl (p_as rfl) ?_
          refine ws_p rfl rfl rfl rfl (p_as rfl) ?_
          refine ws_n ?_
          refine x_seq ?_
          refine wc_seq ?_
          refine wc_region ?_
          refine wl rfl rfl rfl (p_mv rfl) ?_
          refine wl rfl rfl rfl (p_mv rfl) ?_
          refine wl_know (d := 74) (b' := true) rfl (hBt) ?_
          refine wl_g (gd_ rfl rfl rfl rfl rfl rfl) rfl rfl (p_mv rfl) ?_
          refine wl_g (gd_ rfl rfl rfl rfl rfl rfl) rfl rfl (p_mv rfl) ?_
          refine wl_g (gd_ rfl rfl rfl rfl rfl rfl) rfl rfl (p_eqB rfl rfl Tryd.underlying4) ?_
          refine wl rfl rfl rfl (p_pickT rfl rfl) ?_
          refine wl rfl rfl rfl (p_mv rfl) ?_
          refine wl_know (d := 79) (b' := true) rfl (by simp [hAt]) ?_
          refine wl_g (gd_ rfl rfl rfl rfl rfl rfl) rfl rfl (p_ldA (cs := List.map u8v u45) Tryd.underlying38 rfl (szL sz38 (by rw [List.length_map]; exact hu45)) rfl (fun _ e => e ▸ rngL hb11)) ?_
          refine wl_g (gd_ rfl rfl rfl rfl rfl rfl) rfl rfl (p_ldA (cs := List.map u8v u52) Tryd.underlying38 rfl (szL sz38 (by rw [List.length_map]; exact hu52)) rfl (fun _ e => e ▸ rngL hb14)) ?_
          refine wl_g (gd_ rfl rfl rfl rfl rfl rfl) rfl rfl (p_eqH (a := u45) (b := u52) (by kernel_rfl) Tryd.underlying38 Tryd.underlying5 sz5 rfl rfl (hu45) (hu52)) ?_
          refine wl rfl rfl rfl (p_pickT rfl rfl) ?_
          refine wl rfl rfl rfl (p_mv rfl) ?_
          refine wl_know (d := 84) (b' := true) rfl (by simp [hUt]) ?_
          refine wl_g (gd_ rfl rfl rfl rfl rfl rfl) rfl rfl (p_mv rfl) ?_
          refine wl rfl rfl rfl (p_pickT rfl rfl) ?_
          refine wl rfl rfl rfl (p_mv rfl) ?_
          refine wl_know (d := 87) (b' := true) rfl (hBt2) ?_
          refine wl_g (gd_ rfl rfl rfl rfl rfl rfl) rfl rfl (p_mv rfl) ?_
          refine wl_g (gd_ rfl rfl rfl rfl rfl rfl) rfl rfl (p_mv rfl) ?_
          refine wl_g (gd_ rfl rfl rfl rfl rfl rfl) rfl rfl (p_eqB rfl rfl Tryd.underlying4) ?_
          refine wl rfl rfl rfl (p_pickT rfl rfl) ?_
          refine wl rfl rfl rfl (p_mv rfl) ?_
          refine wl_know (d := 92) (b' := true) rfl (by simp [hAt2]) ?_
          refine wl_g (gd_ rfl rfl rfl rfl rfl rfl) rfl rfl (p_ldA (cs := List.map u8v u69) Tryd.underlying38 rfl (szL sz38 (by rw [List.length_map]; exact hu69)) rfl (fun _ e => e ▸ rngL hb19)) ?_
          refine wl_g (gd_ rfl rfl rfl rfl rfl rfl) rfl rfl (p_ldA (cs := List.map u8v u58) Tryd.underlying38 rfl (szL sz38 (by rw [List.length_map]; exact hu58)) rfl (fun _ e => e ▸ rngL hb16)) ?_
          refine wl_g (gd_ rfl rfl rfl rfl rfl rfl) rfl rfl (p_eqH (a := u69) (b := u58) (by kernel_rfl) Tryd.underlying38 Tryd.underlying5 sz5 rfl rfl (hu69) (hu58)) ?_
          refine wl rfl rfl rfl (p_pickT rfl rfl) ?_
          refine wl rfl rfl rfl (p_mv rfl) ?_
          refine wl_know (d := 97) (b' := true) rfl (by simp [hUt2]) ?_
          refine wle_g (gd_ rfl rfl rfl rfl rfl rfl) (e_call ent29 rfl rfl (lives12_any hrnd) ?_)
          rintro _ w65 ⟨rfl, hc⟩
          refine ⟨_, rfl, ?_⟩
          have hzw65 := hc.size
          have HC := HC.tr hc
          have hin := hin.no hc
          have hrnd := hrnd.no hc
          have hb4 := hb4.ch hc (fun h => h)
          have hb5 := hb5.ch hc (fun h => h)
          have hV28 := hV28.ch hc (by first | exact fun _ _ _ h => h | (intro k hk hF ht; have h2 := hF.1; have h3 := hF.2; first | omega | (dsimp only at *; omega)))
          have hM28 := hM28.after hc
          have hW33 := hW33.after hc
          have hb9 := hb9.ch hc (fun h => h)
          have hV39 := hV39.ch hc (by first | exact fun _ _ _ h => h | (intro k hk hF ht; have h2 := hF.1; have h3 := hF.2; first | omega | (dsimp only at *; omega)))
          have hb11 := hb11.ch hc (fun h => h)
          have hb14 := hb14.ch hc (fun h => h)
          have hb16 := hb16.ch hc (fun h => h)
          have hW63 := hW63.after hc
          have hb18 := hb18.ch hc (fun h => h)
          have hb19 := hb19.ch hc (fun h => h)
          refine wl rfl rfl rfl (p_pickT rfl rfl) ?_
          refine wl rfl rfl rfl (p_as rfl) ?_
          refine wl_nil ?_
          refine x_seq ?_
          refine wc_ret ?_
          refine fin_run ((res1 rfl rfl)) ?_
          exact ⟨rfl, HC⟩
    ·
      have hltg4 := hb4.lt
      have hltg5 := hb5.lt
      have hltg9 := hb9.lt
      refine ws_e rfl rfl (e_alloc (cs := ((List.replicate 32 (0 : UInt8)).map u8v).toArray) rfl (by rfl) rfl (fun w66 g11 hg11 hb11 hc hsz11 => ⟨(by first | exact hS.tr hc | exact hS.trans hc (fun _ _ h => h) (fun _ _ h => h)), ?_⟩))
      have hzw66 := hc.size
      have HC := HC.tr hc
      have hin := hin.no hc
      have hrnd := hrnd.no hc
      have hb4 := hb4.ch hc (fun h => h)
      have hb5 := hb5.ch hc (fun h => h)
      have hV28 := hV28.ch hc (by first | exact fun _ _ _ h => h | (intro k hk hF ht; have h2 := hF.1; have h3 := hF.2; first | omega | (dsimp only at *; omega)))
      have hM28 := hM28.after hc
      have hW33 := hW33.after hc
      have hb9 := hb9.ch hc (fun h => h)
      have hV39 := hV39.ch hc (by first | exact fun _ _ _ h => h | (intro k hk hF ht; have h2 := hF.1; have h3 := hF.2; first | omega | (dsimp only at *; omega)))
      have hge11 : w.heap.size ≤ g11 := by have := HC.size; omega
      have neg4_11 : g4 < g11 := by omega
      have neg5_11 : g5 < g11 := by omega
      have neg9_11 : g9 < g11 := by omega
      have hS := (by first | exact hS.tr hc | exact hS.trans hc (fun _ _ h => h) (fun _ _ h => h))
      refine ws_e rfl rfl (e_call ent46 rfl rfl (troot_made hV28 hrnd) ?_)
      rintro _ w67 ⟨rfl, hc, hFil, hRB, hRF⟩
      refine ⟨_, rfl, (by first | exact hS.tr hc | exact hS.trans hc (fun _ _ h => h) (fun _ _ h => h)), ?_⟩
      have hR0 := hV28.ot.out hrnd (by omega)
      have hRo : ∀ k, k < w.heap.size → k ∈ adsO o28 → False := fun k h1 h2 => absurd (hRF k h2).1 (by omega)
      have hzw67 := hc.size
      have HC := HC.trans hc (fun _ _ h => h) (fun k hk ht => absurd (hRF k ht).1 (by omega))
      have hin := hin.ch hc (fun k hk ht => hRo k hk ht)
      have hrnd := hrnd.ch hc (fun k hk ht => hR0 (hk ▸ ht))
      first | have hb4 := hb4.ch hc (hb4.not_nd hRB) | have hb4 := hb4.ch hc (by assumption)
      first | have hb5 := hb5.ch hc (hb5.not_nd hRB) | have hb5 := hb5.ch hc (by assumption)
      have hV28 := hV28.fil hc hRB hFil
      have hM28 := hM28.ty hc (by decide) hRB
      have hW33 := hW33.ty hc (by decide) hRB
      first | have hb9 := hb9.ch hc (hb9.not_nd hRB) | have hb9 := hb9.ch hc (by assumption)
      have hV39 := hV39.fil hc hRB hFil
      first | have hb11 := hb11.ch hc (hb11.not_nd hRB) | have hb11 := hb11.ch hc (by assumption)
      have hS := (by first | exact hS.tr hc | exact hS.trans hc (fun _ _ h => h) (fun _ _ h => h))
      refine ws_e rfl rfl (e_call ent32 rfl rfl (mcheck_any (rootT_len) (hk) (hW33.si) (hu33) (hx33) (by omega) hrnd) ?_)
      rintro _ w68 ⟨u45, a45, b45, rfl, hu45, hck45, hc⟩
      refine ⟨_, rfl, (by first | exact hS.tr hc | exact hS.trans hc (fun _ _ h => h) (fun _ _ h => h)), ?_⟩
      have hzw68 := hc.size
      have HC := HC.tr hc
      have hin := hin.no hc
      have hrnd := hrnd.no hc
      have hb4 := hb4.ch hc (fun h => h)
      have hb5 := hb5.ch hc (fun h => h)
      have hV28 := hV28.ch hc (by first | exact fun _ _ _ h => h | (intro k hk hF ht; have h2 := hF.1; have h3 := hF.2; first | omega | (dsimp only at *; omega)))
      have hM28 := hM28.after hc
      have hW33 := hW33.after hc
      have hb9 := hb9.ch hc (fun h => h)
      have hV39 := hV39.ch hc (by first | exact fun _ _ _ h => h | (intro k hk hF ht; have h2 := hF.1; have h3 := hF.2; first | omega | (dsimp only at *; omega)))
      have hb11 := hb11.ch hc (fun h => h)
      have hS := (by first | exact hS.tr hc | exact hS.trans hc (fun _ _ h => h) (fun _ _ h => h))
      refine ws_p rfl rfl rfl rfl (p_mv rfl) ?_
      refine ws_p rfl rfl rfl rfl (p_ext rfl rfl) ?_
      refine ws_p rfl rfl rfl rfl (p_ext rfl rfl) ?_
      refine ws_p rfl rfl rfl rfl (p_ext rfl rfl) ?_
      refine ws_l rfl rfl (e_stW (vs := List.map u8v u45) (szL sz38 (by rw [List.length_map]; exact hu45)) (oneL one_u8 _) rfl rfl hb11 (by simp only [List.size_toArray, List.length_map]; first | done | exact ((List.length_replicate ..)).trans (hu45).symm) (fun w69 hb11 hc hsz => ?_))
      have hzw69 := hc.size
      have HC := HC.trans hc (fun _ _ h => h) (fun k hk ht => absurd ht (by omega))
      first | have hin := hin.ch hc (by intro k hk ht; first | omega | (dsimp only at *; omega)) | have hin := hin.chT hc (by intro k hz hk ht; first | omega | (dsimp only at *; omega))
      first | have hrnd := hrnd.ch hc (by intro k hk ht; first | omega | (dsimp only at *; omega)) | have hrnd := hrnd.chT hc (by intro k hz hk ht; first | omega | (dsimp only at *; omega))
      have hb4 := hb4.ch hc (by omega)
      have hb5 := hb5.ch hc (by omega)
      have hV28 := hV28.ch hc (by first | exact fun _ _ _ h => h | (intro k hk hF ht; have h2 := hF.1; have h3 := hF.2; first | omega | (dsimp only at *; omega)))
      have hM28 := hM28.ch hc (by intro k hz hk ht; first | omega | (dsimp only at *; omega))
      have hW33 := hW33.ch hc (by intro k hz hk ht; first | omega | (dsimp only at *; omega))
      have hb9 := hb9.ch hc (by omega)
      have hV39 := hV39.ch hc (by first | exact fun _ _ _ h => h | (intro k hk hF ht; have h2 := hF.1; have h3 := hF.2; first | omega | (dsimp only at *; omega)))
      refine ws_p rfl rfl rfl rfl (p_as rfl) ?_
      refine ws_p rfl rfl rfl rfl (p_as rfl) ?_
      refine ws_n ?_
      refine x_seq ?_
      refine wc_seq ?_
      refine wc_region ?_
      refine wl rfl rfl rfl (p_mv rfl) ?_
      refine wl rfl rfl rfl (p_ldA (cs := List.map u8v k) Tryd.underlying38 rfl (szL sz38 (by rw [List.length_map]; exact hk)) rfl (fun _ e => e ▸ rngL hb5)) ?_
      refine wle rfl (e_call ent42 rfl rfl (tget_any hV28 (hk)) ?_)
      rintro _ w70 ⟨u52, ok52, rfl, hu52, hg52, hc⟩
      refine ⟨_, rfl, ?_⟩
      have hzw70 := hc.size
      have HC := HC.tr hc
      have hin := hin.no hc
      have hrnd := hrnd.no hc
      have hb4 := hb4.ch hc (fun h => h)
      have hb5 := hb5.ch hc (fun h => h)
      have hV28 := hV28.ch hc (by first | exact fun _ _ _ h => h | (intro k hk hF ht; have h2 := hF.1; have h3 := hF.2; first | omega | (dsimp only at *; omega)))
      have hM28 := hM28.after hc
      have hW33 := hW33.after hc
      have hb9 := hb9.ch hc (fun h => h)
      have hV39 := hV39.ch hc (by first | exact fun _ _ _ h => h | (intro k hk hF ht; have h2 := hF.1; have h3 := hF.2; first | omega | (dsimp only at *; omega)))
      have hb11 := hb11.ch hc (fun h => h)
      obtain ⟨hG, hBt, hAt, hUt⟩ := holds_ok hwfo hen33 hck45 hg52
      refine wl rfl rfl rfl (p_mv rfl) ?_
      refine wl rfl rfl rfl (p_ext rfl rfl) ?_
      refine wl rfl rfl rfl (p_ext rfl rfl) ?_
      have hltg4 := hb4.lt
      have hltg5 := hb5.lt
      have hltg9 := hb9.lt
      have hltg11 := hb11.lt
      refine wle rfl (e_alloc (cs := ((List.replicate 32 (0 : UInt8)).map u8v).toArray) rfl (by rfl) rfl (fun w71 g14 hg14 hb14 hc hsz14 => ?_))
      have hzw71 := hc.size
      have HC := HC.tr hc
      have hin := hin.no hc
      have hrnd := hrnd.no hc
      have hb4 := hb4.ch hc (fun h => h)
      have hb5 := hb5.ch hc (fun h => h)
      have hV28 := hV28.ch hc (by first | exact fun _ _ _ h => h | (intro k hk hF ht; have h2 := hF.1; have h3 := hF.2; first | omega | (dsimp only at *; omega)))
      have hM28 := hM28.after hc
      have hW33 := hW33.after hc
      have hb9 := hb9.ch hc (fun h => h)
      have hV39 := hV39.ch hc (by first | exact fun _ _ _ h => h | (intro k hk hF ht; have h2 := hF.1; have h3 := hF.2; first | omega | (dsimp only at *; omega)))
      have hb11 := hb11.ch hc (fun h => h)
      have hge14 : w.heap.size ≤ g14 := by have := HC.size; omega
      have neg4_14 : g4 < g14 := by omega
      have neg5_14 : g5 < g14 := by omega
      have neg9_14 : g9 < g14 := by omega
      have neg11_14 : g11 < g14 := by omega
      refine wle rfl (e_stW (vs := List.map u8v u52) (szL sz38 (by rw [List.length_map]; exact hu52)) (oneL one_u8 _) rfl rfl hb14 (by simp only [List.size_toArray, List.length_map]; first | done | exact ((List.length_replicate ..)).trans (hu52).symm) (fun w72 hb14 hc hsz => ?_))
      have hzw72 := hc.size
      have HC := HC.trans hc (fun _ _ h => h) (fun k hk ht => absurd ht (by omega))
      first | have hin := hin.ch hc (by intro k hk ht; first | omega | (dsimp only at *; omega)) | have hin := hin.chT hc (by intro k hz hk ht; first | omega | (dsimp only at *; omega))
      first | have hrnd := hrnd.ch hc (by intro k hk ht; first | omega | (dsimp only at *; omega)) | have hrnd := hrnd.chT hc (by intro k hz hk ht; first | omega | (dsimp only at *; omega))
      have hb4 := hb4.ch hc (by omega)
      have hb5 := hb5.ch hc (by omega)
      have hV28 := hV28.ch hc (by first | exact fun _ _ _ h => h | (intro k hk hF ht; have h2 := hF.1; have h3 := hF.2; first | omega | (dsimp only at *; omega)))
      have hM28 := hM28.ch hc (by intro k hz hk ht; first | omega | (dsimp only at *; omega))
      have hW33 := hW33.ch hc (by intro k hz hk ht; first | omega | (dsimp only at *; omega))
      have hb9 := hb9.ch hc (by omega)
      have hV39 := hV39.ch hc (by first | exact fun _ _ _ h => h | (intro k hk hF ht; have h2 := hF.1; have h3 := hF.2; first | omega | (dsimp only at *; omega)))
      have hb11 := hb11.ch hc (by omega)
      refine wl rfl rfl rfl (p_as rfl) ?_
      refine wl_nil ?_
      refine x_seq ?_
      refine wc_seq ?_
      refine wc_region ?_
      refine wl rfl rfl rfl (p_mv rfl) ?_
      refine wl rfl rfl rfl (p_ldA (cs := List.map u8v k) Tryd.underlying38 rfl (szL sz38 (by rw [List.length_map]; exact hk)) rfl (fun _ e => e ▸ rngL hb5)) ?_
      refine wle rfl (e_call ent42 rfl rfl (tget_any hV39 (hk)) ?_)
      rintro _ w73 ⟨u58, ok58, rfl, hu58, hg58, hc⟩
      refine ⟨_, rfl, ?_⟩
      have hzw73 := hc.size
      have HC := HC.tr hc
      have hin := hin.no hc
      have hrnd := hrnd.no hc
      have hb4 := hb4.ch hc (fun h => h)
      have hb5 := hb5.ch hc (fun h => h)
      have hV28 := hV28.ch hc (by first | exact fun _ _ _ h => h | (intro k hk hF ht; have h2 := hF.1; have h3 := hF.2; first | omega | (dsimp only at *; omega)))
      have hM28 := hM28.after hc
      have hW33 := hW33.after hc
      have hb9 := hb9.ch hc (fun h => h)
      have hV39 := hV39.ch hc (by first | exact fun _ _ _ h => h | (intro k hk hF ht; have h2 := hF.1; have h3 := hF.2; first | omega | (dsimp only at *; omega)))
      have hb11 := hb11.ch hc (fun h => h)
      have hb14 := hb14.ch hc (fun h => h)
      refine wl rfl rfl rfl (p_mv rfl) ?_
      refine wl rfl rfl rfl (p_ext rfl rfl) ?_
      refine wl rfl rfl rfl (p_ext rfl rfl) ?_
      have hltg4 := hb4.lt
      have hltg5 := hb5.lt
      have hltg9 := hb9.lt
      have hltg11 := hb11.lt
      have hltg14 := hb14.lt
      refine wle rfl (e_alloc (cs := ((List.replicate 32 (0 : UInt8)).map u8v).toArray) rfl (by rfl) rfl (fun w74 g16 hg16 hb16 hc hsz16 => ?_))
      have hzw74 := hc.size
      have HC := HC.tr hc
      have hin := hin.no hc
      have hrnd := hrnd.no hc
      have hb4 := hb4.ch hc (fun h => h)
      have hb5 := hb5.ch hc (fun h => h)
      have hV28 := hV28.ch hc (by first | exact fun _ _ _ h => h | (intro k hk hF ht; have h2 := hF.1; have h3 := hF.2; first | omega | (dsimp only at *; omega)))
      have hM28 := hM28.after hc
      have hW33 := hW33.after hc
      have hb9 := hb9.ch hc (fun h => h)
      have hV39 := hV39.ch hc (by first | exact fun _ _ _ h => h | (intro k hk hF ht; have h2 := hF.1; have h3 := hF.2; first | omega | (dsimp only at *; omega)))
      have hb11 := hb11.ch hc (fun h => h)
      have hb14 := hb14.ch hc (fun h => h)
      have hge16 : w.heap.size ≤ g16 := by have := HC.size; omega
      have neg4_16 : g4 < g16 := by omega
      have neg5_16 : g5 < g16 := by omega
      have neg9_16 : g9 < g16 := by omega
      have neg11_16 : g11 < g16 := by omega
      have neg14_16 : g14 < g16 := by omega
      refine wle rfl (e_stW (vs := List.map u8v u58) (szL sz38 (by rw [List.length_map]; exact hu58)) (oneL one_u8 _) rfl rfl hb16 (by simp only [List.size_toArray, List.length_map]; first | done | exact ((List.length_replicate ..)).trans (hu58).symm) (fun w75 hb16 hc hsz => ?_))
      have hzw75 := hc.size
      have HC := HC.trans hc (fun _ _ h => h) (fun k hk ht => absurd ht (by omega))
      first | have hin := hin.ch hc (by intro k hk ht; first | omega | (dsimp only at *; omega)) | have hin := hin.chT hc (by intro k hz hk ht; first | omega | (dsimp only at *; omega))
      first | have hrnd := hrnd.ch hc (by intro k hk ht; first | omega | (dsimp only at *; omega)) | have hrnd := hrnd.chT hc (by intro k hz hk ht; first | omega | (dsimp only at *; omega))
      have hb4 := hb4.ch hc (by omega)
      have hb5 := hb5.ch hc (by omega)
      have hV28 := hV28.ch hc (by first | exact fun _ _ _ h => h | (intro k hk hF ht; have h2 := hF.1; have h3 := hF.2; first | omega | (dsimp only at *; omega)))
      have hM28 := hM28.ch hc (by intro k hz hk ht; first | omega | (dsimp only at *; omega))
      have hW33 := hW33.ch hc (by intro k hz hk ht; first | omega | (dsimp only at *; omega))
      have hb9 := hb9.ch hc (by omega)
      have hV39 := hV39.ch hc (by first | exact fun _ _ _ h => h | (intro k hk hF ht; have h2 := hF.1; have h3 := hF.2; first | omega | (dsimp only at *; omega)))
      have hb11 := hb11.ch hc (by omega)
      have hb14 := hb14.ch hc (by omega)
      refine wl rfl rfl rfl (p_as rfl) ?_
      refine wl_nil ?_
      refine x_seq ?_
      refine wc_seq ?_
      refine wc_region ?_
      refine wl rfl rfl rfl (p_mv rfl) ?_
      refine wl rfl rfl rfl (p_ldA (cs := List.map u8v k) Tryd.underlying38 rfl (szL sz38 (by rw [List.length_map]; exact hk)) rfl (fun _ e => e ▸ rngL hb5)) ?_
      refine wle rfl (e_call ent28 rfl rfl (mprove_any hV39 (hk) hrnd (by omega)) ?_)
      rintro _ w76 ⟨A63, l63, c63, lf63, u63, x63, rfl, hu63, hx63, hW63, hen63, hc, hFil, hRB, hRF⟩
      refine ⟨_, rfl, ?_⟩
      have hR0 := hV39.ot.out hrnd (by omega)
      have hRo : ∀ k, k < w.heap.size → k ∈ adsO (some t39) → False := fun k h1 h2 => absurd (hRF k h2).1 (by omega)
      have hzw76 := hc.size
      have HC := HC.trans hc (fun _ _ h => h) (fun k hk ht => absurd (hRF k ht).1 (by omega))
      have hin := hin.ch hc (fun k hk ht => hRo k hk ht)
      have hrnd := hrnd.ch hc (fun k hk ht => hR0 (hk ▸ ht))
      first | have hb4 := hb4.ch hc (hb4.not_nd hRB) | have hb4 := hb4.ch hc (by assumption)
      first | have hb5 := hb5.ch hc (hb5.not_nd hRB) | have hb5 := hb5.ch hc (by assumption)
      have hV28 := hV28.fil hc hRB hFil
      have hM28 := hM28.ty hc (by decide) hRB
      have hW33 := hW33.ty hc (by decide) hRB
      first | have hb9 := hb9.ch hc (hb9.not_nd hRB) | have hb9 := hb9.ch hc (by assumption)
      have hV39 := hV39.fil hc hRB hFil
      first | have hb11 := hb11.ch hc (hb11.not_nd hRB) | have hb11 := hb11.ch hc (by assumption)
      first | have hb14 := hb14.ch hc (hb14.not_nd hRB) | have hb14 := hb14.ch hc (by assumption)
      first | have hb16 := hb16.ch hc (hb16.not_nd hRB) | have hb16 := hb16.ch hc (by assumption)
      have hWl63 : l63 ≤ szO (some t39) := by rw [← hW63.len]; exact way_lenO
      have hW63 := hW63.mono (G := fun k => w75.heap.size ≤ k ∧ k < w76.heap.size) (fun k h1 h2 => ⟨h2, h1⟩)
      have hltg4 := hb4.lt
      have hltg5 := hb5.lt
      have hltg9 := hb9.lt
      have hltg11 := hb11.lt
      have hltg14 := hb14.lt
      have hltg16 := hb16.lt
      refine wle rfl (e_alloc (cs := (([Value.slice none 0 0, Value.bool false] ++ ((List.map u8v (List.replicate 32 (0 : UInt8))) ++ (List.map u8v (List.replicate 32 (0 : UInt8))))) : List Value).toArray) rfl (by rfl) (by rfl) (fun w77 g18 hg18 hb18 hc hsz18 => ?_))
      have hzw77 := hc.size
      have HC := HC.tr hc
      have hin := hin.no hc
      have hrnd := hrnd.no hc
      have hb4 := hb4.ch hc (fun h => h)
      have hb5 := hb5.ch hc (fun h => h)
      have hV28 := hV28.ch hc (by first | exact fun _ _ _ h => h | (intro k hk hF ht; have h2 := hF.1; have h3 := hF.2; first | omega | (dsimp only at *; omega)))
      have hM28 := hM28.after hc
      have hW33 := hW33.after hc
      have hb9 := hb9.ch hc (fun h => h)
      have hV39 := hV39.ch hc (by first | exact fun _ _ _ h => h | (intro k hk hF ht; have h2 := hF.1; have h3 := hF.2; first | omega | (dsimp only at *; omega)))
      have hb11 := hb11.ch hc (fun h => h)
      have hb14 := hb14.ch hc (fun h => h)
      have hb16 := hb16.ch hc (fun h => h)
      have hW63 := hW63.after hc
      have hge18 : w.heap.size ≤ g18 := by have := HC.size; omega
      have neg4_18 : g4 < g18 := by omega
      have neg5_18 : g5 < g18 := by omega
      have neg9_18 : g9 < g18 := by omega
      have neg11_18 : g11 < g18 := by omega
      have neg14_18 : g14 < g18 := by omega
      have neg16_18 : g16 < g18 := by omega
      refine wle rfl (e_stW (vs := (([.slice A63 l63 c63, .bool lf63] ++ ((List.map u8v u63) ++ (List.map u8v x63))) : List Value)) (szL sz49 (by first | rfl | (simp only [List.length_append, List.length_map, List.length_cons, List.length_nil, (show List.length u63 = 32 from hu63), (show List.length x63 = 32 from hx63)]; done) | (simp only [List.length_append, List.length_map, List.length_cons, List.length_nil, List.size_toArray, (show List.length u63 = 32 from hu63), (show List.length x63 = 32 from hx63)]; done))) (oneA (allOne rfl) (oneA (oneL one_u8 _) (oneL one_u8 _))) rfl rfl hb18 (by first | rfl | (simp only [List.length_append, List.length_map, List.length_cons, List.length_nil, (show List.length (List.replicate 32 (0 : UInt8)) = 32 from (List.length_replicate ..)), (show List.length (List.replicate 32 (0 : UInt8)) = 32 from (List.length_replicate ..)), (show List.length u63 = 32 from hu63), (show List.length x63 = 32 from hx63)]; done) | (simp only [List.length_append, List.length_map, List.length_cons, List.length_nil, List.size_toArray, (show List.length (List.replicate 32 (0 : UInt8)) = 32 from (List.length_replicate ..)), (show List.length (List.replicate 32 (0 : UInt8)) = 32 from (List.length_replicate ..)), (show List.length u63 = 32 from hu63), (show List.length x63 = 32 from hx63)]; done)) (fun w78 hb18 hc hsz => ?_))
      have hzw78 := hc.size
      have HC := HC.trans hc (fun _ _ h => h) (fun k hk ht => absurd ht (by omega))
      first | have hin := hin.ch hc (by intro k hk ht; first | omega | (dsimp only at *; omega)) | have hin := hin.chT hc (by intro k hz hk ht; first | omega | (dsimp only at *; omega))
      first | have hrnd := hrnd.ch hc (by intro k hk ht; first | omega | (dsimp only at *; omega)) | have hrnd := hrnd.chT hc (by intro k hz hk ht; first | omega | (dsimp only at *; omega))
      have hb4 := hb4.ch hc (by omega)
      have hb5 := hb5.ch hc (by omega)
      have hV28 := hV28.ch hc (by first | exact fun _ _ _ h => h | (intro k hk hF ht; have h2 := hF.1; have h3 := hF.2; first | omega | (dsimp only at *; omega)))
      have hM28 := hM28.ch hc (by intro k hz hk ht; first | omega | (dsimp only at *; omega))
      have hW33 := hW33.ch hc (by intro k hz hk ht; first | omega | (dsimp only at *; omega))
      have hb9 := hb9.ch hc (by omega)
      have hV39 := hV39.ch hc (by first | exact fun _ _ _ h => h | (intro k hk hF ht; have h2 := hF.1; have h3 := hF.2; first | omega | (dsimp only at *; omega)))
      have hb11 := hb11.ch hc (by omega)
      have hb14 := hb14.ch hc (by omega)
      have hb16 := hb16.ch hc (by omega)
      have hW63 := hW63.ch hc (by intro k hz hk ht; first | omega | (dsimp only at *; omega))
      refine wl_nil ?_
      refine x_seq ?_
      refine wc_seq ?_
      refine wc_draw (.st 0 0 (.st 2 1 (.st 3 1 (.alt (.st 1 2 (.alt (.st 4 2 (.st 5 0 (.st 6 0 (.st 7 0 (.st 8 0 (.st 9 2 (.st 10 3 (.st 11 0 (.st 12 0 .nil))))))))) (.st 9 2 (.st 4 2 (.st 5 0 (.st 6 0 (.st 7 0 (.st 8 0 (.st 10 3 (.st 11 0 (.st 12 0 .nil))))))))))) (.st 9 2 (.st 1 2 (.st 4 2 (.st 5 0 (.st 6 0 (.st 7 0 (.st 8 0 (.st 10 3 (.st 11 0 (.st 12 0 .nil)))))))))))))) 10 (by kernel_rfl) (by kernel_rfl) (by kernel_rfl) (by repeat (first | with_reducible exact pan_body | with_reducible apply pan_then | with_reducible apply pan_in)) (fun z => Ch (fun k => k ∈ adsO (some t39)) w78.drew z) (Ch.refl _ _) ?_
      obtain ⟨w79, ew79⟩ : ∃ x, x = w78.drew := ⟨_, rfl⟩
      rw [← ew79]
      have hc : Ch No w78 w79 := by rw [ew79]; exact Ch.drew _
      have hszw79 : w79.heap.size = w78.heap.size := by rw [ew79]; rfl
      clear ew79
      have hzw79 := hc.size
      have HC := HC.tr hc
      have hin := hin.no hc
      have hrnd := hrnd.no hc
      have hb4 := hb4.ch hc (fun h => h)
      have hb5 := hb5.ch hc (fun h => h)
      have hV28 := hV28.ch hc (by first | exact fun _ _ _ h => h | (intro k hk hF ht; have h2 := hF.1; have h3 := hF.2; first | omega | (dsimp only at *; omega)))
      have hM28 := hM28.no hc
      have hW33 := hW33.no hc
      have hb9 := hb9.ch hc (fun h => h)
      have hV39 := hV39.ch hc (by first | exact fun _ _ _ h => h | (intro k hk hF ht; have h2 := hF.1; have h3 := hF.2; first | omega | (dsimp only at *; omega)))
      have hb11 := hb11.ch hc (fun h => h)
      have hb14 := hb14.ch hc (fun h => h)
      have hb16 := hb16.ch hc (fun h => h)
      have hW63 := hW63.no hc
      have hb18 := hb18.ch hc (fun h => h)
      have hS : Ch (fun k => k ∈ adsO (some t39)) w79 w79 := Ch.refl _ _
      have hRBd := hV39.adsB
      refine ws_p rfl rfl rfl rfl (p_mv rfl) ?_
      refine ws_h rfl rfl rfl rfl (p_ldA (cs := List.map u8v k) Tryd.underlying38 rfl (szL sz38 (by rw [List.length_map]; exact hk)) rfl (fun _ h => (rngL (hb5.ch h (hb5.not_nd hRBd))))) ?_
      refine ws_h rfl rfl rfl rfl (p_ldA (cs := (([.slice A63 l63 c63, .bool lf63] ++ ((List.map u8v u63) ++ (List.map u8v x63))) : List Value)) Tryd.underlying49 rfl (szL sz49 (by first | rfl | (simp only [List.length_append, List.length_map, List.length_cons, List.length_nil, (show List.length u63 = 32 from hu63), (show List.length x63 = 32 from hx63)]; done) | (simp only [List.length_append, List.length_map, List.length_cons, List.length_nil, List.size_toArray, (show List.length u63 = 32 from hu63), (show List.length x63 = 32 from hx63)]; done))) rfl (fun _ h => (rngL (hb18.ch h (hb18.not_nd hRBd))))) ?_
      refine ws_alt ?_ ?_
      ·
        refine ws_e rfl rfl (e_call ent46 rfl rfl (troot_made hV39 hrnd) ?_)
        rintro _ w80 ⟨rfl, hc, hFil, hRB, hRF⟩
        refine ⟨_, rfl, (by first | exact hS.tr hc | exact hS.trans hc (fun _ _ h => h) (fun _ _ h => h)), ?_⟩
        have hR0 := hV39.ot.out hrnd (by omega)
        have hRo : ∀ k, k < w.heap.size → k ∈ adsO (some t39) → False := fun k h1 h2 => absurd (hRF k h2).1 (by omega)
        have hzw80 := hc.size
        have HC := HC.trans hc (fun _ _ h => h) (fun k hk ht => absurd (hRF k ht).1 (by omega))
        have hin := hin.ch hc (fun k hk ht => hRo k hk ht)
        have hrnd := hrnd.ch hc (fun k hk ht => hR0 (hk ▸ ht))
        first | have hb4 := hb4.ch hc (hb4.not_nd hRB) | have hb4 := hb4.ch hc (by assumption)
        first | have hb5 := hb5.ch hc (hb5.not_nd hRB) | have hb5 := hb5.ch hc (by assumption)
        have hV28 := hV28.fil hc hRB hFil
        have hM28 := hM28.ty hc (by decide) hRB
        have hW33 := hW33.ty hc (by decide) hRB
        first | have hb9 := hb9.ch hc (hb9.not_nd hRB) | have hb9 := hb9.ch hc (by assumption)
        have hV39 := hV39.fil hc hRB hFil
        first | have hb11 := hb11.ch hc (hb11.not_nd hRB) | have hb11 := hb11.ch hc (by assumption)
        first | have hb14 := hb14.ch hc (hb14.not_nd hRB) | have hb14 := hb14.ch hc (by assumption)
        first | have hb16 := hb16.ch hc (hb16.not_nd hRB) | have hb16 := hb16.ch hc (by assumption)
        have hW63 := hW63.ty hc (by decide) hRB
        first | have hb18 := hb18.ch hc (hb18.not_nd hRB) | have hb18 := hb18.ch hc (by assumption)
        have hS := (by first | exact hS.tr hc | exact hS.trans hc (fun _ _ h => h) (fun _ _ h => h))
        refine ws_alt ?_ ?_
        ·
          refine ws_e rfl rfl (e_call ent32 rfl rfl (mcheck_any (rootT_len) (hk) (hW63.si) (hu63) (hx63) (by omega) hrnd) ?_)
          rintro _ w81 ⟨u69, a69, b69, rfl, hu69, hck69, hc⟩
          refine ⟨_, rfl, (by first | exact hS.tr hc | exact hS.trans hc (fun _ _ h => h) (fun _ _ h => h)), ?_⟩
          have hzw81 := hc.size
          have HC := HC.tr hc
          have hin := hin.no hc
          have hrnd := hrnd.no hc
          have hb4 := hb4.ch hc (fun h => h)
          have hb5 := hb5.ch hc (fun h => h)
          have hV28 := hV28.ch hc (by first | exact fun _ _ _ h => h | (intro k hk hF ht; have h2 := hF.1; have h3 := hF.2; first | omega | (dsimp only at *; omega)))
          have hM28 := hM28.after hc
          have hW33 := hW33.after hc
          have hb9 := hb9.ch hc (fun h => h)
          have hV39 := hV39.ch hc (by first | exact fun _ _ _ h => h | (intro k hk hF ht; have h2 := hF.1; have h3 := hF.2; first | omega | (dsimp only at *; omega)))
          have hb11 := hb11.ch hc (fun h => h)
          have hb14 := hb14.ch hc (fun h => h)
          have hb16 := hb16.ch hc (fun h => h)
          have hW63 := hW63.after hc
          have hb18 := hb18.ch hc (fun h => h)
          have hS := (by first | exact hS.tr hc | exact hS.trans hc (fun _ _ h => h) (fun _ _ h => h))
          obtain ⟨hG2, hBt2, hAt2, hUt2⟩ := holds_ok hwfu hen63 hck69 hg58
          refine ws_p rfl rfl rfl rfl (p_mv rfl) ?_
          refine ws_p rfl rfl rfl rfl (p_ext rfl rfl) ?_
          refine ws_p rfl rfl rfl rfl (p_ext rfl rfl) ?_
          refine ws_p rfl rfl rfl rfl (p_ext rfl rfl) ?_
          have hltg4 := hb4.lt
          have hltg5 := hb5.lt
          have hltg9 := hb9.lt
          have hltg11 := hb11.lt
          have hltg14 := hb14.lt
          have hltg16 := hb16.lt
          have hltg18 := hb18.lt
          refine ws_e rfl rfl (e_alloc (cs := ((List.replicate 32 (0 : UInt8)).map u8v).toArray) rfl (by rfl) rfl (fun w82 g19 hg19 hb19 hc hsz19 => ⟨(by first | exact hS.tr hc | exact hS.trans hc (fun _ _ h => h) (fun _ _ h => h)), ?_⟩))
          have hzw82 := hc.size
          have HC := HC.tr hc
          have hin := hin.no hc
          have hrnd := hrnd.no hc
          have hb4 := hb4.ch hc (fun h => h)
          have hb5 := hb5.ch hc (fun h => h)
          have hV28 := hV28.ch hc (by first | exact fun _ _ _ h => h | (intro k hk hF ht; have h2 := hF.1; have h3 := hF.2; first | omega | (dsimp only at *; omega)))
          have hM28 := hM28.after hc
          have hW33 := hW33.after hc
          have hb9 := hb9.ch hc (fun h => h)
          have hV39 := hV39.ch hc (by first | exact fun _ _ _ h => h | (intro k hk hF ht; have h2 := hF.1; have h3 := hF.2; first | omega | (dsimp only at *; omega)))
          have hb11 := hb11.ch hc (fun h => h)
          have hb14 := hb14.ch hc (fun h => h)
          have hb16 := hb16.ch hc (fun h => h)
          have hW63 := hW63.after hc
          have hb18 := hb18.ch hc (fun h => h)
          have hge19 : w.heap.size ≤ g19 := by have := HC.size; omega
          have neg4_19 : g4 < g19 := by omega
          have neg5_19 : g5 < g19 := by omega
          have neg9_19 : g9 < g19 := by omega
          have neg11_19 : g11 < g19 := by omega
          have neg14_19 : g14 < g19 := by omega
          have neg16_19 : g16 < g19 := by omega
          have neg18_19 : g18 < g19 := by omega
          have hS := (by first | exact hS.tr hc | exact hS.trans hc (fun _ _ h => h) (fun _ _ h => h))
          refine ws_l rfl rfl (e_stW (vs := List.map u8v u69) (szL sz38 (by rw [List.length_map]; exact hu69)) (oneL one_u8 _) rfl rfl hb19 (by simp only [List.size_toArray, List.length_map]; first | done | exact ((List.length_replicate ..)).trans (hu69).symm) (fun w83 hb19 hc hsz => ?_))
          have hzw83 := hc.size
          have HC := HC.trans hc (fun _ _ h => h) (fun k hk ht => absurd ht (by omega))
          first | have hin := hin.ch hc (by intro k hk ht; first | omega | (dsimp only at *; omega)) | have hin := hin.chT hc (by intro k hz hk ht; first | omega | (dsimp only at *; omega))
          first | have hrnd := hrnd.ch hc (by intro k hk ht; first | omega | (dsimp only at *; omega)) | have hrnd := hrnd.chT hc (by intro k hz hk ht; first | omega | (dsimp only at *; omega))
          have hb4 := hb4.ch hc (by omega)
          have hb5 := hb5.ch hc (by omega)
          have hV28 := hV28.ch hc (by first | exact fun _ _ _ h => h | (intro k hk hF ht; have h2 := hF.1; have h3 := hF.2; first | omega | (dsimp only at *; omega)))
          have hM28 := hM28.ch hc (by intro k hz hk ht; first | omega | (dsimp only at *; omega))
          have hW33 := hW33.ch hc (by intro k hz hk ht; first | omega | (dsimp only at *; omega))
          have hb9 := hb9.ch hc (by omega)
          have hV39 := hV39.ch hc (by first | exact fun _ _ _ h => h | (intro k hk hF ht; have h2 := hF.1; have h3 := hF.2; first | omega | (dsimp only at *; omega)))
          have hb11 := hb11.ch hc (by omega)
          have hb14 := hb14.ch hc (by omega)
          have hb16 := hb16.ch hc (by omega)
          have hW63 := hW63.ch hc (by intro k hz hk ht; first | omega | (dsimp only at *; omega))
          have hb18 := hb18.ch hc (by omega)
          refine ws_p rfl rfl rfl rfl (p_as rfl) ?_
          refine ws_p rfl rfl rfl rfl (p_as rfl) ?_
          refine ws_n ?_
          refine x_seq ?_
          refine wc_seq ?_
          refine wc_region ?_
          refine wl rfl rfl rfl (p_mv rfl) ?_
          refine wl rfl rfl rfl (p_mv rfl) ?_
          refine wl_know (d := 74) (b' := true) rfl (hBt) ?_
          refine wl_g (gd_ rfl rfl rfl rfl rfl rfl) rfl rfl (p_mv rfl) ?_
          refine wl_g (gd_ rfl rfl rfl rfl rfl rfl) rfl rfl (p_mv rfl) ?_
          refine wl_g (gd_ rfl rfl rfl rfl rfl rfl) rfl rfl (p_eqB rfl rfl Tryd.underlying4) ?_
          refine wl rfl rfl rfl (p_pickT rfl rfl) ?_
          refine wl rfl rfl rfl (p_mv rfl) ?_
          refine wl_know (d := 79) (b' := true) rfl (by simp [hAt]) ?_
          refine wl_g (gd_ rfl rfl rfl rfl rfl rfl) rfl rfl (p_ldA (cs := List.map u8v u45) Tryd.underlying38 rfl (szL sz38 (by rw [List.length_map]; exact hu45)) rfl (fun _ e => e ▸ rngL hb11)) ?_
          refine wl_g (gd_ rfl rfl rfl rfl rfl rfl) rfl rfl (p_ldA (cs := List.map u8v u52) Tryd.underlying38 rfl (szL sz38 (by rw [List.length_map]; exact hu52)) rfl (fun _ e => e ▸ rngL hb14)) ?_
          refine wl_g (gd_ rfl rfl rfl rfl rfl rfl) rfl rfl (p_eqH (a := u45) (b := u52) (by kernel_rfl) Tryd.underlying38 Tryd.underlying5 sz5 rfl rfl (hu45) (hu52)) ?_
          refine wl rfl rfl rfl (p_pickT rfl rfl) ?_
          refine wl rfl rfl rfl (p_mv rfl) ?_
          refine wl_know (d := 84) (b' := true) rfl (by simp [hUt]) ?_
          refine wl_g (gd_ rfl rfl rfl rfl rfl rfl) rfl rfl (p_mv rfl) ?_
          refine wl rfl rfl rfl (p_pickT rfl rfl) ?_
          refine wl rfl rfl rfl (p_mv rfl) ?_
          refine wl_know (d := 87) (b' := true) rfl (hBt2) ?_
          refine wl_g (gd_ rfl rfl rfl rfl rfl rfl) rfl rfl (p_mv rfl) ?_
          refine wl_g (gd_ rfl rfl rfl rfl rfl rfl) rfl rfl (p_mv rfl) ?_
          refine wl_g (gd_ rfl rfl rfl rfl rfl rfl) rfl rfl (p_eqB rfl rfl Tryd.underlying4) ?_
          refine wl rfl rfl rfl (p_pickT rfl rfl) ?_
          refine wl rfl rfl rfl (p_mv rfl) ?_
          refine wl_know (d := 92) (b' := true) rfl (by simp [hAt2]) ?_
          refine wl_g (gd_ rfl rfl rfl rfl rfl rfl) rfl rfl (p_ldA (cs := List.map u8v u69) Tryd.underlying38 rfl (szL sz38 (by rw [List.length_map]; exact hu69)) rfl (fun _ e => e ▸ rngL hb19)) ?_
          refine wl_g (gd_ rfl rfl rfl rfl rfl rfl) rfl rfl (p_ldA (cs := List.map u8v u58) Tryd.underlying38 rfl (szL sz38 (by rw [List.length_map]; exact hu58)) rfl (fun _ e => e ▸ rngL hb16)) ?_
          refine wl_g (gd_ rfl rfl rfl rfl rfl rfl) rfl rfl (p_eqH (a := u69) (b := u58) (by kernel_rfl) Tryd.underlying38 Tryd.underlying5 sz5 rfl rfl (hu69) (hu58)) ?_
          refine wl rfl rfl rfl (p_pickT rfl rfl) ?_
          refine wl rfl rfl rfl (p_mv rfl) ?_
          refine wl_know (d := 97) (b' := true) rfl (by simp [hUt2]) ?_
          refine wle_g (gd_ rfl rfl rfl rfl rfl rfl) (e_call ent29 rfl rfl (lives12_any hrnd) ?_)
          rintro _ w84 ⟨rfl, hc⟩
          refine ⟨_, rfl, ?_⟩
          have hzw84 := hc.size
          have HC := HC.tr hc
          have hin := hin.no hc
          have hrnd := hrnd.no hc
          have hb4 := hb4.ch hc (fun h => h)
          have hb5 := hb5.ch hc (fun h => h)
          have hV28 := hV28.ch hc (by first | exact fun _ _ _ h => h | (intro k hk hF ht; have h2 := hF.1; have h3 := hF.2; first | omega | (dsimp only at *; omega)))
          have hM28 := hM28.after hc
          have hW33 := hW33.after hc
          have hb9 := hb9.ch hc (fun h => h)
          have hV39 := hV39.ch hc (by first | exact fun _ _ _ h => h | (intro k hk hF ht; have h2 := hF.1; have h3 := hF.2; first | omega | (dsimp only at *; omega)))
          have hb11 := hb11.ch hc (fun h => h)
          have hb14 := hb14.ch hc (fun h => h)
          have hb16 := hb16.ch hc (fun h => h)
          have hW63 := hW63.after hc
          have hb18 := hb18.ch hc (fun h => h)
          have hb19 := hb19.ch hc (fun h => h)
          refine wl rfl rfl rfl (p_pickT rfl rfl) ?_
          refine wl rfl rfl rfl (p_as rfl) ?_
          refine wl_nil ?_
          refine x_seq ?_
          refine wc_ret ?_
          refine fin_run ((res1 rfl rfl)) ?_
          exact ⟨rfl, HC⟩
        ·
          have hltg4 := hb4.lt
          have hltg5 := hb5.lt
          have hltg9 := hb9.lt
          have hltg11 := hb11.lt
          have hltg14 := hb14.lt
          have hltg16 := hb16.lt
          have hltg18 := hb18.lt
          refine ws_e rfl rfl (e_alloc (cs := ((List.replicate 32 (0 : UInt8)).map u8v).toArray) rfl (by rfl) rfl (fun w85 g19 hg19 hb19 hc hsz19 => ⟨(by first | exact hS.tr hc | exact hS.trans hc (fun _ _ h => h) (fun _ _ h => h)), ?_⟩))
          have hzw85 := hc.size
          have HC := HC.tr hc
          have hin := hin.no hc
          have hrnd := hrnd.no hc
          have hb4 := hb4.ch hc (fun h => h)
          have hb5 := hb5.ch hc (fun h => h)
          have hV28 := hV28.ch hc (by first | exact fun _ _ _ h => h | (intro k hk hF ht; have h2 := hF.1; have h3 := hF.2; first | omega | (dsimp only at *; omega)))
          have hM28 := hM28.after hc
          have hW33 := hW33.after hc
          have hb9 := hb9.ch hc (fun h => h)
          have hV39 := hV39.ch hc (by first | exact fun _ _ _ h => h | (intro k hk hF ht; have h2 := hF.1; have h3 := hF.2; first | omega | (dsimp only at *; omega)))
          have hb11 := hb11.ch hc (fun h => h)
          have hb14 := hb14.ch hc (fun h => h)
          have hb16 := hb16.ch hc (fun h => h)
          have hW63 := hW63.after hc
          have hb18 := hb18.ch hc (fun h => h)
          have hge19 : w.heap.size ≤ g19 := by have := HC.size; omega
          have neg4_19 : g4 < g19 := by omega
          have neg5_19 : g5 < g19 := by omega
          have neg9_19 : g9 < g19 := by omega
          have neg11_19 : g11 < g19 := by omega
          have neg14_19 : g14 < g19 := by omega
          have neg16_19 : g16 < g19 := by omega
          have neg18_19 : g18 < g19 := by omega
          have hS := (by first | exact hS.tr hc | exact hS.trans hc (fun _ _ h => h) (fun _ _ h => h))
          refine ws_e rfl rfl (e_call ent32 rfl rfl (mcheck_any (rootT_len) (hk) (hW63.si) (hu63) (hx63) (by omega) hrnd) ?_)
          rintro _ w86 ⟨u69, a69, b69, rfl, hu69, hck69, hc⟩
          refine ⟨_, rfl, (by first | exact hS.tr hc | exact hS.trans hc (fun _ _ h => h) (fun _ _ h => h)), ?_⟩
          have hzw86 := hc.size
          have HC := HC.tr hc
          have hin := hin.no hc
          have hrnd := hrnd.no hc
          have hb4 := hb4.ch hc (fun h => h)
          have hb5 := hb5.ch hc (fun h => h)
          have hV28 := hV28.ch hc (by first | exact fun _ _ _ h => h | (intro k hk hF ht; have h2 := hF.1; have h3 := hF.2; first | omega | (dsimp only at *; omega)))
          have hM28 := hM28.after hc
          have hW33 := hW33.after hc
          have hb9 := hb9.ch hc (fun h => h)
          have hV39 := hV39.ch hc (by first | exact fun _ _ _ h => h | (intro k hk hF ht; have h2 := hF.1; have h3 := hF.2; first | omega | (dsimp only at *; omega)))
          have hb11 := hb11.ch hc (fun h => h)
          have hb14 := hb14.ch hc (fun h => h)
          have hb16 := hb16.ch hc (fun h => h)
          have hW63 := hW63.after hc
          have hb18 := hb18.ch hc (fun h => h)
          have hb19 := hb19.ch hc (fun h => h)
          have hS := (by first | exact hS.tr hc | exact hS.trans hc (fun _ _ h => h) (fun _ _ h => h))
          obtain ⟨hG2, hBt2, hAt2, hUt2⟩ := holds_ok hwfu hen63 hck69 hg58
          refine ws_p rfl rfl rfl rfl (p_mv rfl) ?_
          refine ws_p rfl rfl rfl rfl (p_ext rfl rfl) ?_
          refine ws_p rfl rfl rfl rfl (p_ext rfl rfl) ?_
          refine ws_p rfl rfl rfl rfl (p_ext rfl rfl) ?_
          refine ws_l rfl rfl (e_stW (vs := List.map u8v u69) (szL sz38 (by rw [List.length_map]; exact hu69)) (oneL one_u8 _) rfl rfl hb19 (by simp only [List.size_toArray, List.length_map]; first | done | exact ((List.length_replicate ..)).trans (hu69).symm) (fun w87 hb19 hc hsz => ?_))
          have hzw87 := hc.size
          have HC := HC.trans hc (fun _ _ h => h) (fun k hk ht => absurd ht (by omega))
          first | have hin := hin.ch hc (by intro k hk ht; first | omega | (dsimp only at *; omega)) | have hin := hin.chT hc (by intro k hz hk ht; first | omega | (dsimp only at *; omega))
          first | have hrnd := hrnd.ch hc (by intro k hk ht; first | omega | (dsimp only at *; omega)) | have hrnd := hrnd.chT hc (by intro k hz hk ht; first | omega | (dsimp only at *; omega))
          have hb4 := hb4.ch hc (by omega)
          have hb5 := hb5.ch hc (by omega)
          have hV28 := hV28.ch hc (by first | exact fun _ _ _ h => h | (intro k hk hF ht; have h2 := hF.1; have h3 := hF.2; first | omega | (dsimp only at *; omega)))
          have hM28 := hM28.ch hc (by intro k hz hk ht; first | omega | (dsimp only at *; omega))
          have hW33 := hW33.ch hc (by intro k hz hk ht; first | omega | (dsimp only at *; omega))
          have hb9 := hb9.ch hc (by omega)
          have hV39 := hV39.ch hc (by first | exact fun _ _ _ h => h | (intro k hk hF ht; have h2 := hF.1; have h3 := hF.2; first | omega | (dsimp only at *; omega)))
          have hb11 := hb11.ch hc (by omega)
          have hb14 := hb14.ch hc (by omega)
          have hb16 := hb16.ch hc (by omega)
          have hW63 := hW63.ch hc (by intro k hz hk ht; first | omega | (dsimp only at *; omega))
          have hb18 := hb18.ch hc (by omega)
          refine ws_p rfl rfl rfl rfl (p_as rfl) ?_
          refine ws_p rfl rfl rfl rfl (p_as rfl) ?_
          refine ws_n ?_
          refine x_seq ?_
          refine wc_seq ?_
          refine wc_region ?_
          refine wl rfl rfl rfl (p_mv rfl) ?_
          refine wl rfl rfl rfl (p_mv rfl) ?_
          refine wl_know (d := 74) (b' := true) rfl (hBt) ?_
          refine wl_g (gd_ rfl rfl rfl rfl rfl rfl) rfl rfl (p_mv rfl) ?_
          refine wl_g (gd_ rfl rfl rfl rfl rfl rfl) rfl rfl (p_mv rfl) ?_
          refine wl_g (gd_ rfl rfl rfl rfl rfl rfl) rfl rfl (p_eqB rfl rfl Tryd.underlying4) ?_
          refine wl rfl rfl rfl (p_pickT rfl rfl) ?_
          refine wl rfl rfl rfl (p_mv rfl) ?_
          refine wl_know (d := 79) (b' := true) rfl (by simp [hAt]) ?_
          refine wl_g (gd_ rfl rfl rfl rfl rfl rfl) rfl rfl (p_ldA (cs := List.map u8v u45) Tryd.underlying38 rfl (szL sz38 (by rw [List.length_map]; exact hu45)) rfl (fun _ e => e ▸ rngL hb11)) ?_
          refine wl_g (gd_ rfl rfl rfl rfl rfl rfl) rfl rfl (p_ldA (cs := List.map u8v u52) Tryd.underlying38 rfl (szL sz38 (by rw [List.length_map]; exact hu52)) rfl (fun _ e => e ▸ rngL hb14)) ?_
          refine wl_g (gd_ rfl rfl rfl rfl rfl rfl) rfl rfl (p_eqH (a := u45) (b := u52) (by kernel_rfl) Tryd.underlying38 Tryd.underlying5 sz5 rfl rfl (hu45) (hu52)) ?_
          refine wl rfl rfl rfl (p_pickT rfl rfl) ?_
          refine wl rfl rfl rfl (p_mv rfl) ?_
          refine wl_know (d := 84) (b' := true) rfl (by simp [hUt]) ?_
          refine wl_g (gd_ rfl rfl rfl rfl rfl rfl) rfl rfl (p_mv rfl) ?_
          refine wl rfl rfl rfl (p_pickT rfl rfl) ?_
          refine wl rfl rfl rfl (p_mv rfl) ?_
          refine wl_know (d := 87) (b' := true) rfl (hBt2) ?_
          refine wl_g (gd_ rfl rfl rfl rfl rfl rfl) rfl rfl (p_mv rfl) ?_
          refine wl_g (gd_ rfl rfl rfl rfl rfl rfl) rfl rfl (p_mv rfl) ?_
          refine wl_g (gd_ rfl rfl rfl rfl rfl rfl) rfl rfl (p_eqB rfl rfl Tryd.underlying4) ?_
          refine wl rfl rfl rfl (p_pickT rfl rfl) ?_
          refine wl rfl rfl rfl (p_mv rfl) ?_
          refine wl_know (d := 92) (b' := true) rfl (by simp [hAt2]) ?_
          refine wl_g (gd_ rfl rfl rfl rfl rfl rfl) rfl rfl (p_ldA (cs := List.map u8v u69) Tryd.underlying38 rfl (szL sz38 (by rw [List.length_map]; exact hu69)) rfl (fun _ e => e ▸ rngL hb19)) ?_
          refine wl_g (gd_ rfl rfl rfl rfl rfl rfl) rfl rfl (p_ldA (cs := List.map u8v u58) Tryd.underlying38 rfl (szL sz38 (by rw [List.length_map]; exact hu58)) rfl (fun _ e => e ▸ rngL hb16)) ?_
          refine wl_g (gd_ rfl rfl rfl rfl rfl rfl) rfl rfl (p_eqH (a := u69) (b := u58) (by kernel_rfl) Tryd.underlying38 Tryd.underlying5 sz5 rfl rfl (hu69) (hu58)) ?_
          refine wl rfl rfl rfl (p_pickT rfl rfl) ?_
          refine wl rfl rfl rfl (p_mv rfl) ?_
          refine wl_know (d := 97) (b' := true) rfl (by simp [hUt2]) ?_
          refine wle_g (gd_ rfl rfl rfl rfl rfl rfl) (e_call ent29 rfl rfl (lives12_any hrnd) ?_)
          rintro _ w88 ⟨rfl, hc⟩
          refine ⟨_, rfl, ?_⟩
          have hzw88 := hc.size
          have HC := HC.tr hc
          have hin := hin.no hc
          have hrnd := hrnd.no hc
          have hb4 := hb4.ch hc (fun h => h)
          have hb5 := hb5.ch hc (fun h => h)
          have hV28 := hV28.ch hc (by first | exact fun _ _ _ h => h | (intro k hk hF ht; have h2 := hF.1; have h3 := hF.2; first | omega | (dsimp only at *; omega)))
          have hM28 := hM28.after hc
          have hW33 := hW33.after hc
          have hb9 := hb9.ch hc (fun h => h)
          have hV39 := hV39.ch hc (by first | exact fun _ _ _ h => h | (intro k hk hF ht; have h2 := hF.1; have h3 := hF.2; first | omega | (dsimp only at *; omega)))
          have hb11 := hb11.ch hc (fun h => h)
          have hb14 := hb14.ch hc (fun h => h)
          have hb16 := hb16.ch hc (fun h => h)
          have hW63 := hW63.after hc
          have hb18 := hb18.ch hc (fun h => h)
          have hb19 := hb19.ch hc (fun h => h)
          refine wl rfl rfl rfl (p_pickT rfl rfl) ?_
          refine wl rfl rfl rfl (p_as rfl) ?_
          refine wl_nil ?_
          refine x_seq ?_
          refine wc_ret ?_
          refine fin_run ((res1 rfl rfl)) ?_
          exact ⟨rfl, HC⟩
      ·
        have hltg4 := hb4.lt
        have hltg5 := hb5.lt
        have hltg9 := hb9.lt
        have hltg11 := hb11.lt
        have hltg14 := hb14.lt
        have hltg16 := hb16.lt
        have hltg18 := hb18.lt
        refine ws_e rfl rfl (e_alloc (cs := ((List.replicate 32 (0 : UInt8)).map u8v).toArray) rfl (by rfl) rfl (fun w89 g19 hg19 hb19 hc hsz19 => ⟨(by first | exact hS.tr hc | exact hS.trans hc (fun _ _ h => h) (fun _ _ h => h)), ?_⟩))
        have hzw89 := hc.size
        have HC := HC.tr hc
        have hin := hin.no hc
        have hrnd := hrnd.no hc
        have hb4 := hb4.ch hc (fun h => h)
        have hb5 := hb5.ch hc (fun h => h)
        have hV28 := hV28.ch hc (by first | exact fun _ _ _ h => h | (intro k hk hF ht; have h2 := hF.1; have h3 := hF.2; first | omega | (dsimp only at *; omega)))
        have hM28 := hM28.after hc
        have hW33 := hW33.after hc
        have hb9 := hb9.ch hc (fun h => h)
        have hV39 := hV39.ch hc (by first | exact fun _ _ _ h => h | (intro k hk hF ht; have h2 := hF.1; have h3 := hF.2; first | omega | (dsimp only at *; omega)))
        have hb11 := hb11.ch hc (fun h => h)
        have hb14 := hb14.ch hc (fun h => h)
        have hb16 := hb16.ch hc (fun h => h)
        have hW63 := hW63.after hc
        have hb18 := hb18.ch hc (fun h => h)
        have hge19 : w.heap.size ≤ g19 := by have := HC.size; omega
        have neg4_19 : g4 < g19 := by omega
        have neg5_19 : g5 < g19 := by omega
        have neg9_19 : g9 < g19 := by omega
        have neg11_19 : g11 < g19 := by omega
        have neg14_19 : g14 < g19 := by omega
        have neg16_19 : g16 < g19 := by omega
        have neg18_19 : g18 < g19 := by omega
        have hS := (by first | exact hS.tr hc | exact hS.trans hc (fun _ _ h => h) (fun _ _ h => h))
        refine ws_e rfl rfl (e_call ent46 rfl rfl (troot_made hV39 hrnd) ?_)
        rintro _ w90 ⟨rfl, hc, hFil, hRB, hRF⟩
        refine ⟨_, rfl, (by first | exact hS.tr hc | exact hS.trans hc (fun _ _ h => h) (fun _ _ h => h)), ?_⟩
        have hR0 := hV39.ot.out hrnd (by omega)
        have hRo : ∀ k, k < w.heap.size → k ∈ adsO (some t39) → False := fun k h1 h2 => absurd (hRF k h2).1 (by omega)
        have hzw90 := hc.size
        have HC := HC.trans hc (fun _ _ h => h) (fun k hk ht => absurd (hRF k ht).1 (by omega))
        have hin := hin.ch hc (fun k hk ht => hRo k hk ht)
        have hrnd := hrnd.ch hc (fun k hk ht => hR0 (hk ▸ ht))
        first | have hb4 := hb4.ch hc (hb4.not_nd hRB) | have hb4 := hb4.ch hc (by assumption)
        first | have hb5 := hb5.ch hc (hb5.not_nd hRB) | have hb5 := hb5.ch hc (by assumption)
        have hV28 := hV28.fil hc hRB hFil
        have hM28 := hM28.ty hc (by decide) hRB
        have hW33 := hW33.ty hc (by decide) hRB
        first | have hb9 := hb9.ch hc (hb9.not_nd hRB) | have hb9 := hb9.ch hc (by assumption)
        have hV39 := hV39.fil hc hRB hFil
        first | have hb11 := hb11.ch hc (hb11.not_nd hRB) | have hb11 := hb11.ch hc (by assumption)
        first | have hb14 := hb14.ch hc (hb14.not_nd hRB) | have hb14 := hb14.ch hc (by assumption)
        first | have hb16 := hb16.ch hc (hb16.not_nd hRB) | have hb16 := hb16.ch hc (by assumption)
        have hW63 := hW63.ty hc (by decide) hRB
        first | have hb18 := hb18.ch hc (hb18.not_nd hRB) | have hb18 := hb18.ch hc (by assumption)
        first | have hb19 := hb19.ch hc (hb19.not_nd hRB) | have hb19 := hb19.ch hc (by assumption)
        have hS := (by first | exact hS.tr hc | exact hS.trans hc (fun _ _ h => h) (fun _ _ h => h))
        refine ws_e rfl rfl (e_call ent32 rfl rfl (mcheck_any (rootT_len) (hk) (hW63.si) (hu63) (hx63) (by omega) hrnd) ?_)
        rintro _ w91 ⟨u69, a69, b69, rfl, hu69, hck69, hc⟩
        refine ⟨_, rfl, (by first | exact hS.tr hc | exact hS.trans hc (fun _ _ h => h) (fun _ _ h => h)), ?_⟩
        have hzw91 := hc.size
        have HC := HC.tr hc
        have hin := hin.no hc
        have hrnd := hrnd.no hc
        have hb4 := hb4.ch hc (fun h => h)
        have hb5 := hb5.ch hc (fun h => h)
        have hV28 := hV28.ch hc (by first | exact fun _ _ _ h => h | (intro k hk hF ht; have h2 := hF.1; have h3 := hF.2; first | omega | (dsimp only at *; omega)))
        have hM28 := hM28.after hc
        have hW33 := hW33.after hc
        have hb9 := hb9.ch hc (fun h => h)
        have hV39 := hV39.ch hc (by first | exact fun _ _ _ h => h | (intro k hk hF ht; have h2 := hF.1; have h3 := hF.2; first | omega | (dsimp only at *; omega)))
        have hb11 := hb11.ch hc (fun h => h)
        have hb14 := hb14.ch hc (fun h => h)
        have hb16 := hb16.ch hc (fun h => h)
        have hW63 := hW63.after hc
        have hb18 := hb18.ch hc (fun h => h)
        have hb19 := hb19.ch hc (fun h => h)
        have hS := (by first | exact hS.tr hc | exact hS.trans hc (fun _ _ h => h) (fun _ _ h => h))
        obtain ⟨hG2, hBt2, hAt2, hUt2⟩ := holds_ok hwfu hen63 hck69 hg58
        refine ws_p rfl rfl rfl rfl (p_mv rfl) ?_
        refine ws_p rfl rfl rfl rfl (p_ext rfl rfl) ?_
        refine ws_p rfl rfl rfl rfl (p_ext rfl rfl) ?_
        refine ws_p rfl rfl rfl rfl (p_ext rfl rfl) ?_
        refine ws_l rfl rfl (e_stW (vs := List.map u8v u69) (szL sz38 (by rw [List.length_map]; exact hu69)) (oneL one_u8 _) rfl rfl hb19 (by simp only [List.size_toArray, List.length_map]; first | done | exact ((List.length_replicate ..)).trans (hu69).symm) (fun w92 hb19 hc hsz => ?_))
        have hzw92 := hc.size
        have HC := HC.trans hc (fun _ _ h => h) (fun k hk ht => absurd ht (by omega))
        first | have hin := hin.ch hc (by intro k hk ht; first | omega | (dsimp only at *; omega)) | have hin := hin.chT hc (by intro k hz hk ht; first | omega | (dsimp only at *; omega))
        first | have hrnd := hrnd.ch hc (by intro k hk ht; first | omega | (dsimp only at *; omega)) | have hrnd := hrnd.chT hc (by intro k hz hk ht; first | omega | (dsimp only at *; omega))
        have hb4 := hb4.ch hc (by omega)
        have hb5 := hb5.ch hc (by omega)
        have hV28 := hV28.ch hc (by first | exact fun _ _ _ h => h | (intro k hk hF ht; have h2 := hF.1; have h3 := hF.2; first | omega | (dsimp only at *; omega)))
        have hM28 := hM28.ch hc (by intro k hz hk ht; first | omega | (dsimp only at *; omega))
        have hW33 := hW33.ch hc (by intro k hz hk ht; first | omega | (dsimp only at *; omega))
        have hb9 := hb9.ch hc (by omega)
        have hV39 := hV39.ch hc (by first | exact fun _ _ _ h => h | (intro k hk hF ht; have h2 := hF.1; have h3 := hF.2; first | omega | (dsimp only at *; omega)))
        have hb11 := hb11.ch hc (by omega)
        have hb14 := hb14.ch hc (by omega)
        have hb16 := hb16.ch hc (by omega)
        have hW63 := hW63.ch hc (by intro k hz hk ht; first | omega | (dsimp only at *; omega))
        have hb18 := hb18.ch hc (by omega)
        refine ws_p rfl rfl rfl rfl (p_as rfl) ?_
        refine ws_p rfl rfl rfl rfl (p_as rfl) ?_
        refine ws_n ?_
        refine x_seq ?_
        refine wc_seq ?_
        refine wc_region ?_
        refine wl rfl rfl rfl (p_mv rfl) ?_
        refine wl rfl rfl rfl (p_mv rfl) ?_
        refine wl_know (d := 74) (b' := true) rfl (hBt) ?_
        refine wl_g (gd_ rfl rfl rfl rfl rfl rfl) rfl rfl (p_mv rfl) ?_
        refine wl_g (gd_ rfl rfl rfl rfl rfl rfl) rfl rfl (p_mv rfl) ?_
        refine wl_g (gd_ rfl rfl rfl rfl rfl rfl) rfl rfl (p_eqB rfl rfl Tryd.underlying4) ?_
        refine wl rfl rfl rfl (p_pickT rfl rfl) ?_
        refine wl rfl rfl rfl (p_mv rfl) ?_
        refine wl_know (d := 79) (b' := true) rfl (by simp [hAt]) ?_
        refine wl_g (gd_ rfl rfl rfl rfl rfl rfl) rfl rfl (p_ldA (cs := List.map u8v u45) Tryd.underlying38 rfl (szL sz38 (by rw [List.length_map]; exact hu45)) rfl (fun _ e => e ▸ rngL hb11)) ?_
        refine wl_g (gd_ rfl rfl rfl rfl rfl rfl) rfl rfl (p_ldA (cs := List.map u8v u52) Tryd.underlying38 rfl (szL sz38 (by rw [List.length_map]; exact hu52)) rfl (fun _ e => e ▸ rngL hb14)) ?_
        refine wl_g (gd_ rfl rfl rfl rfl rfl rfl) rfl rfl (p_eqH (a := u45) (b := u52) (by kernel_rfl) Tryd.underlying38 Tryd.underlying5 sz5 rfl rfl (hu45) (hu52)) ?_
        refine wl rfl rfl rfl (p_pickT rfl rfl) ?_
        refine wl rfl rfl rfl (p_mv rfl) ?_
        refine wl_know (d := 84) (b' := true) rfl (by simp [hUt]) ?_
        refine wl_g (gd_ rfl rfl rfl rfl rfl rfl) rfl rfl (p_mv rfl) ?_
        refine wl rfl rfl rfl (p_pickT rfl rfl) ?_
        refine wl rfl rfl rfl (p_mv rfl) ?_
        refine wl_know (d := 87) (b' := true) rfl (hBt2) ?_
        refine wl_g (gd_ rfl rfl rfl rfl rfl rfl) rfl rfl (p_mv rfl) ?_
        refine wl_g (gd_ rfl rfl rfl rfl rfl rfl) rfl rfl (p_mv rfl) ?_
        refine wl_g (gd_ rfl rfl rfl rfl rfl rfl) rfl rfl (p_eqB rfl rfl Tryd.underlying4) ?_
        refine wl rfl rfl rfl (p_pickT rfl rfl) ?_
        refine wl rfl rfl rfl (p_mv rfl) ?_
        refine wl_know (d := 92) (b' := true) rfl (by simp [hAt2]) ?_
        refine wl_g (gd_ rfl rfl rfl rfl rfl rfl) rfl rfl (p_ldA (cs := List.map u8v u69) Tryd.underlying38 rfl (szL sz38 (by rw [List.length_map]; exact hu69)) rfl (fun _ e => e ▸ rngL hb19)) ?_
        refine wl_g (gd_ rfl rfl rfl rfl rfl rfl) rfl rfl (p_ldA (cs := List.map u8v u58) Tryd.underlying38 rfl (szL sz38 (by rw [List.length_map]; exact hu58)) rfl (fun _ e => e ▸ rngL hb16)) ?_
        refine wl_g (gd_ rfl rfl rfl rfl rfl rfl) rfl rfl (p_eqH (a := u69) (b := u58) (by kernel_rfl) Tryd.underlying38 Tryd.underlying5 sz5 rfl rfl (hu69) (hu58)) ?_
        refine wl rfl rfl rfl (p_pickT rfl rfl) ?_
        refine wl rfl rfl rfl (p_mv rfl) ?_
        refine wl_know (d := 97) (b' := true) rfl (by simp [hUt2]) ?_
        refine wle_g (gd_ rfl rfl rfl rfl rfl rfl) (e_call ent29 rfl rfl (lives12_any hrnd) ?_)
        rintro _ w93 ⟨rfl, hc⟩
        refine ⟨_, rfl, ?_⟩
        have hzw93 := hc.size
        have HC := HC.tr hc
        have hin := hin.no hc
        have hrnd := hrnd.no hc
        have hb4 := hb4.ch hc (fun h => h)
        have hb5 := hb5.ch hc (fun h => h)
        have hV28 := hV28.ch hc (by first | exact fun _ _ _ h => h | (intro k hk hF ht; have h2 := hF.1; have h3 := hF.2; first | omega | (dsimp only at *; omega)))
        have hM28 := hM28.after hc
        have hW33 := hW33.after hc
        have hb9 := hb9.ch hc (fun h => h)
        have hV39 := hV39.ch hc (by first | exact fun _ _ _ h => h | (intro k hk hF ht; have h2 := hF.1; have h3 := hF.2; first | omega | (dsimp only at *; omega)))
        have hb11 := hb11.ch hc (fun h => h)
        have hb14 := hb14.ch hc (fun h => h)
        have hb16 := hb16.ch hc (fun h => h)
        have hW63 := hW63.after hc
        have hb18 := hb18.ch hc (fun h => h)
        have hb19 := hb19.ch hc (fun h => h)
        refine wl rfl rfl rfl (p_pickT rfl rfl) ?_
        refine wl rfl rfl rfl (p_as rfl) ?_
        refine wl_nil ?_
        refine x_seq ?_
        refine wc_ret ?_
        refine fin_run ((res1 rfl rfl)) ?_
        exact ⟨rfl, HC⟩
end Go.Proofs.YtkfkdakghjlenaaDoor
