/-
  Own text, printed by a program of mine (wip/gx): what functions of the program do, walked operation by operation.
-/
import Derived.Test.YtkfkdakghjlenaaDoorProg
import Derived.Test.YtkfkdakghjlenaaDoorGxAgg
import Derived.Test.YtkfkdakghjlenaaDoorTab
import Derived.Test.YtkfkdakghjlenaaDoorGxZer
import Derived.Test.YtkfkdakghjlenaaDoorGxLay
import Derived.Test.YtkfkdakghjlenaaDoorPlPack
import Derived.Test.YtkfkdakghjlenaaDoorPlSum
import Derived.Test.YtkfkdakghjlenaaDoorPlSha
import Derived.Test.YtkfkdakghjlenaaDoorPlTag
import Derived.Test.YtkfkdakghjlenaaDoorPlBits
import Derived.Test.YtkfkdakghjlenaaDoorPlShaSt
import Derived.Test.YtkfkdakghjlenaaDoorPlShaB
import Derived.Test.YtkfkdakghjlenaaDoorPlTrie
import Derived.Test.YtkfkdakghjlenaaDoorPlTrieSt
import Derived.Test.YtkfkdakghjlenaaDoorGxRec
import Derived.Test.YtkfkdakghjlenaaDoorGxYld
import Derived.Test.YtkfkdakghjlenaaDoorPlTrieFil
import Derived.Test.YtkfkdakghjlenaaDoorOnceC
import Derived.Test.YtkfkdakghjlenaaDoorPlTrieW
import Derived.Test.YtkfkdakghjlenaaDoorPlMulti
import Derived.Test.YtkfkdakghjlenaaDoorPlEncs
import Derived.Test.YtkfkdakghjlenaaDoorGxMark
import Derived.Test.YtkfkdakghjlenaaDoorZb0
import Derived.Test.YtkfkdakghjlenaaDoorZb1
set_option linter.unusedVariables false
set_option linter.unusedSimpArgs false
namespace Go.Proofs.YtkfkdakghjlenaaDoor
open Go.RowKit Go.Gx
open Go.Plain
set_option maxHeartbeats 1000000 in
set_option maxRecDepth 20000 in
theorem rcheck_any {w : World}  {r : List UInt8} {k : List UInt8} {As : Option Addr} {ls cs : Nat} {Fs : Nat → Prop} {st : List Stp} {lf : Bool} {pk pv : List UInt8} (hr : r.length = 32) (hk : k.length = 32) (hst : SI w Fs eST As ls cs st) (hpk : pk.length = 32) (hpv : pv.length = 32) (hls : ls ≤ 1000000) :
    Calls Tryd.prog 33 #[hv r, hv k, .agg (([.slice As ls cs, .bool lf] ++ ((List.map u8v pk) ++ (List.map u8v pv))) : List Value).toArray] w fun e w' => ∃ (u : List UInt8) (a b : Bool), e = .returned (.tuple #[hv u, .bool a, .bool b]) ∧ u.length = 32 ∧ (u, a, b) = checkP r k st lf pk pv ∧ Ch No w w' := by
  have hstl := hst.len
  have hst := hst.old
  have HC : Ch No w w := Ch.refl _ _
  refine enter' (args := [hv r, hv k, _]) (n := 36) Tryd.func33 rfl rfl rfl ?_
  refine wc_seq ?_
  refine wc_region ?_
  refine wle rfl (e_box (cs := (List.map u8v r).toArray) rfl rfl rfl (fun w1 g3 hg3 hb3 hc hsz3 => ?_))
  have hzw1 := hc.size
  have HC := HC.tr hc
  have hst := hst.no hc
  have hge3 : w.heap.size ≤ g3 := by have := HC.size; omega
  have hltg3 := hb3.lt
  refine wle rfl (e_box (cs := (List.map u8v k).toArray) rfl rfl rfl (fun w2 g4 hg4 hb4 hc hsz4 => ?_))
  have hzw2 := hc.size
  have HC := HC.tr hc
  have hst := hst.no hc
  have hb3 := hb3.ch hc (fun h => h)
  have hge4 : w.heap.size ≤ g4 := by have := HC.size; omega
  have neg3_4 : g3 < g4 := by omega
  have hltg3 := hb3.lt
  have hltg4 := hb4.lt
  refine wle rfl (e_box (cs := (([.slice As ls cs, .bool lf] ++ ((List.map u8v pk) ++ (List.map u8v pv))) : List Value).toArray) rfl rfl rfl (fun w3 g5 hg5 hb5 hc hsz5 => ?_))
  have hzw3 := hc.size
  have HC := HC.tr hc
  have hst := hst.no hc
  have hb3 := hb3.ch hc (fun h => h)
  have hb4 := hb4.ch hc (fun h => h)
  have hge5 : w.heap.size ≤ g5 := by have := HC.size; omega
  have neg3_5 : g3 < g5 := by omega
  have neg4_5 : g4 < g5 := by omega
  have hltg3 := hb3.lt
  have hltg4 := hb4.lt
  have hltg5 := hb5.lt
  refine wle rfl (e_alloc (cs := ((List.replicate 32 (0 : UInt8)).map u8v).toArray) rfl (by rfl) rfl (fun w4 g6 hg6 hb6 hc hsz6 => ?_))
  have hzw4 := hc.size
  have HC := HC.tr hc
  have hst := hst.no hc
  have hb3 := hb3.ch hc (fun h => h)
  have hb4 := hb4.ch hc (fun h => h)
  have hb5 := hb5.ch hc (fun h => h)
  have hge6 : w.heap.size ≤ g6 := by have := HC.size; omega
  have neg3_6 : g3 < g6 := by omega
  have neg4_6 : g4 < g6 := by omega
  have neg5_6 : g5 < g6 := by omega
  refine wl rfl rfl rfl (p_as rfl) ?_
  refine wl rfl rfl rfl (p_as rfl) ?_
  refine wl_nil ?_
  refine x_seq ?_
  refine wc_seq ?_
  refine wc_region ?_
  refine wl rfl rfl rfl (p_ldA (cs := List.map u8v k) Tryd.underlying38 rfl (szL sz38 (by rw [List.length_map]; exact hk)) rfl (fun _ e => e ▸ rngL hb4)) ?_
  refine wl rfl rfl rfl (p_ldA (cs := (([.slice As ls cs, .bool lf] ++ ((List.map u8v pk) ++ (List.map u8v pv))) : List Value)) Tryd.underlying45 rfl (szL sz45 (by first | rfl | (simp only [List.length_append, List.length_map, List.length_cons, List.length_nil, (show List.length pk = 32 from hpk), (show List.length pv = 32 from hpv)]; done) | (simp only [List.length_append, List.length_map, List.length_cons, List.length_nil, List.size_toArray, (show List.length pk = 32 from hpk), (show List.length pv = 32 from hpv)]; done))) rfl (fun _ e => e ▸ rngL hb5)) ?_
  refine wle rfl (e_call ent31 rfl rfl (rclimb_any (hk) (hst) (hpk) (hpv) (by omega)) ?_)
  rintro _ w5 ⟨cu, cok, rfl, hcu, hcr, hc⟩
  refine ⟨_, rfl, ?_⟩
  have hzw5 := hc.size
  have HC := HC.tr hc
  have hst := hst.no hc
  have hb3 := hb3.ch hc (fun h => h)
  have hb4 := hb4.ch hc (fun h => h)
  have hb5 := hb5.ch hc (fun h => h)
  have hb6 := hb6.ch hc (fun h => h)
  refine wl rfl rfl rfl (p_mv rfl) ?_
  refine wl rfl rfl rfl (p_ext rfl rfl) ?_
  refine wl rfl rfl rfl (p_ext rfl rfl) ?_
  have hltg3 := hb3.lt
  have hltg4 := hb4.lt
  have hltg5 := hb5.lt
  have hltg6 := hb6.lt
  refine wle rfl (e_alloc (cs := ((List.replicate 32 (0 : UInt8)).map u8v).toArray) rfl (by rfl) rfl (fun w6 g9 hg9 hb9 hc hsz9 => ?_))
  have hzw6 := hc.size
  have HC := HC.tr hc
  have hst := hst.no hc
  have hb3 := hb3.ch hc (fun h => h)
  have hb4 := hb4.ch hc (fun h => h)
  have hb5 := hb5.ch hc (fun h => h)
  have hb6 := hb6.ch hc (fun h => h)
  have hge9 : w.heap.size ≤ g9 := by have := HC.size; omega
  have neg3_9 : g3 < g9 := by omega
  have neg4_9 : g4 < g9 := by omega
  have neg5_9 : g5 < g9 := by omega
  have neg6_9 : g6 < g9 := by omega
  refine wle rfl (e_stW (vs := List.map u8v cu) (szL sz38 (by rw [List.length_map]; exact hcu)) (oneL one_u8 _) rfl rfl hb9 (by simp only [List.size_toArray, List.length_map]; first | done | exact ((List.length_replicate ..)).trans (hcu).symm) (fun w7 hb9 hc hsz => ?_))
  have hzw7 := hc.size
  have HC := HC.trans hc (fun _ _ h => h) (fun k hk ht => absurd ht (by omega))
  first | have hst := hst.ch hc (by intro k hk ht; first | omega | (dsimp only at *; omega)) | have hst := hst.chT hc (by intro k hz hk ht; first | omega | (dsimp only at *; omega))
  have hb3 := hb3.ch hc (by omega)
  have hb4 := hb4.ch hc (by omega)
  have hb5 := hb5.ch hc (by omega)
  have hb6 := hb6.ch hc (by omega)
  refine wl rfl rfl rfl (p_as rfl) ?_
  refine wl_nil ?_
  refine x_seq ?_
  refine wc_seq ?_
  refine wc_seq ?_
  refine wc_region ?_
  refine wl rfl rfl rfl (p_mv rfl) ?_
  refine wl rfl rfl rfl (p_not rfl) ?_
  refine wl rfl rfl rfl (p_mv rfl) ?_
  refine wl_split (d := 19) rfl (fun q19 => ?_) (fun q19 => ?_)
  ·
    refine wl_s (gd_ rfl rfl rfl rfl rfl rfl) rfl rfl ?_
    refine wl_s (gd_ rfl rfl rfl rfl rfl rfl) rfl rfl ?_
    refine wl_s (gd_ rfl rfl rfl rfl rfl rfl) rfl rfl ?_
    refine wl rfl rfl rfl (p_pickT rfl rfl) ?_
    refine wl_nil ?_
    refine x_seq ?_
    refine wc_yes rfl (rfl) ?_
    refine wc_seq ?_
    refine wc_region ?_
    refine wl rfl rfl rfl (p_bldP (cs := ((List.replicate 32 (0 : UInt8)).map u8v).toArray) rfl (fun _ => by kernel_rfl)) ?_
    refine wle rfl (e_stW (vs := List.map u8v (List.replicate 32 (0 : UInt8))) (szL sz38 (by rw [List.length_map]; exact (List.length_replicate ..))) (oneL one_u8 _) rfl rfl hb6 (by simp only [List.size_toArray, List.length_map]; first | done | exact ((List.length_replicate ..)).trans ((List.length_replicate ..)).symm) (fun w8 hb6 hc hsz => ?_))
    have hzw8 := hc.size
    have HC := HC.trans hc (fun _ _ h => h) (fun k hk ht => absurd ht (by omega))
    first | have hst := hst.ch hc (by intro k hk ht; first | omega | (dsimp only at *; omega)) | have hst := hst.chT hc (by intro k hz hk ht; first | omega | (dsimp only at *; omega))
    have hb3 := hb3.ch hc (by omega)
    have hb4 := hb4.ch hc (by omega)
    have hb5 := hb5.ch hc (by omega)
    have hb9 := hb9.ch hc (by omega)
    refine wl rfl rfl rfl (p_as rfl) ?_
    refine wl rfl rfl rfl (p_as rfl) ?_
    refine wl_nil ?_
    refine x_seq ?_
    refine wc_ret ?_
    refine x_then_ret ?_
    refine fin_run (resMany (rs := [.cell 6 38, .tmp 7, .tmp 8]) rfl (.cellA (cs := List.map u8v (List.replicate 32 (0 : UInt8))) rfl Tryd.underlying38 rfl (szL sz38 (by rw [List.length_map]; exact (List.length_replicate ..))) (rngL hb6) (.tmp rfl (.tmp rfl (.nil)))) rfl) ?_
    exact ⟨_, _, _, rfl, by first | exact hpv | exact List.length_replicate .., ck_a hcr q19, HC⟩
  ·
    refine wl_g (gd_ rfl rfl rfl rfl rfl rfl) rfl rfl (p_ldA (cs := List.map u8v cu) Tryd.underlying38 rfl (szL sz38 (by rw [List.length_map]; exact hcu)) rfl (fun _ e => e ▸ rngL hb9)) ?_
    refine wl_g (gd_ rfl rfl rfl rfl rfl rfl) rfl rfl (p_ldA (cs := List.map u8v r) Tryd.underlying38 rfl (szL sz38 (by rw [List.length_map]; exact hr)) rfl (fun _ e => e ▸ rngL hb3)) ?_
    refine wl_g (gd_ rfl rfl rfl rfl rfl rfl) rfl rfl (p_neH (a := cu) (b := r) (by kernel_rfl) Tryd.underlying38 Tryd.underlying5 sz5 rfl rfl (hcu) (hr)) ?_
    refine wl rfl rfl rfl (p_pickF rfl rfl) ?_
    refine wl_nil ?_
    refine x_seq ?_
    refine wc_if rfl (fun c0 => ?_) (fun c0 => ?_)
    ·
      refine wc_seq ?_
      refine wc_region ?_
      refine wl rfl rfl rfl (p_bldP (cs := ((List.replicate 32 (0 : UInt8)).map u8v).toArray) rfl (fun _ => by kernel_rfl)) ?_
      refine wle rfl (e_stW (vs := List.map u8v (List.replicate 32 (0 : UInt8))) (szL sz38 (by rw [List.length_map]; exact (List.length_replicate ..))) (oneL one_u8 _) rfl rfl hb6 (by simp only [List.size_toArray, List.length_map]; first | done | exact ((List.length_replicate ..)).trans ((List.length_replicate ..)).symm) (fun w9 hb6 hc hsz => ?_))
      have hzw9 := hc.size
      have HC := HC.trans hc (fun _ _ h => h) (fun k hk ht => absurd ht (by omega))
      first | have hst := hst.ch hc (by intro k hk ht; first | omega | (dsimp only at *; omega)) | have hst := hst.chT hc (by intro k hz hk ht; first | omega | (dsimp only at *; omega))
      have hb3 := hb3.ch hc (by omega)
      have hb4 := hb4.ch hc (by omega)
      have hb5 := hb5.ch hc (by omega)
      have hb9 := hb9.ch hc (by omega)
      refine wl rfl rfl rfl (p_as rfl) ?_
      refine wl rfl rfl rfl (p_as rfl) ?_
      refine wl_nil ?_
      refine x_seq ?_
      refine wc_ret ?_
      refine x_then_ret ?_
      refine fin_run (resMany (rs := [.cell 6 38, .tmp 7, .tmp 8]) rfl (.cellA (cs := List.map u8v (List.replicate 32 (0 : UInt8))) rfl Tryd.underlying38 rfl (szL sz38 (by rw [List.length_map]; exact (List.length_replicate ..))) (rngL hb6) (.tmp rfl (.tmp rfl (.nil)))) rfl) ?_
      exact ⟨_, _, _, rfl, by first | exact hpv | exact List.length_replicate .., ck_b hcr c0, HC⟩
    ·
      refine wc_skip ?_
      refine x_seq ?_
      refine wc_seq ?_
      refine wc_seq ?_
      refine wc_region ?_
      refine wl rfl rfl rfl (p_fld (j := 1) Tryd.underlying45 rfl ⟨_, by rfl⟩ rfl rfl) ?_
      refine wl rfl rfl rfl (p_ld Tryd.underlying4 rfl rfl (ld (cell_at (p := ([.slice As ls cs] : List Value)) (v := (.bool lf : Value)) (r := (((List.map u8v pk) ++ (List.map u8v pv)) : List Value)) hb5 (by simp only [List.append_assoc, List.cons_append, List.nil_append, List.append_nil]) (by first | rfl | (simp only [List.length_append, List.length_map, List.length_cons, List.length_nil]; done) | (simp only [List.length_append, List.length_map, List.length_cons, List.length_nil, List.size_toArray]; done))))) ?_
      refine wl rfl rfl rfl (p_mv rfl) ?_
      refine wl_split (d := 27) rfl (fun q27 => ?_) (fun q27 => ?_)
      ·
        refine wl_g (gd_ rfl rfl rfl rfl rfl rfl) rfl rfl (p_fld (j := 2) Tryd.underlying45 rfl ⟨_, by rfl⟩ rfl rfl) ?_
        refine wl_g (gd_ rfl rfl rfl rfl rfl rfl) rfl rfl (p_ldA (cs := (List.map u8v pk)) Tryd.underlying38 rfl (szL sz38 (by first | rfl | (simp only [List.length_append, List.length_map, List.length_cons, List.length_nil, (show List.length pk = 32 from hpk)]; done) | (simp only [List.length_append, List.length_map, List.length_cons, List.length_nil, List.size_toArray, (show List.length pk = 32 from hpk)]; done))) rfl (fun _ e => e ▸ rng_at (p := ([.slice As ls cs, .bool lf] : List Value)) (q := ((List.map u8v pk) : List Value)) (r := ((List.map u8v pv) : List Value)) hb5 (by simp only [List.append_assoc, List.cons_append, List.nil_append, List.append_nil]) (by first | rfl | (simp only [List.length_append, List.length_map, List.length_cons, List.length_nil]; done) | (simp only [List.length_append, List.length_map, List.length_cons, List.length_nil, List.size_toArray]; done)))) ?_
        refine wl_g (gd_ rfl rfl rfl rfl rfl rfl) rfl rfl (p_ldA (cs := List.map u8v k) Tryd.underlying38 rfl (szL sz38 (by rw [List.length_map]; exact hk)) rfl (fun _ e => e ▸ rngL hb4)) ?_
        refine wl_g (gd_ rfl rfl rfl rfl rfl rfl) rfl rfl (p_eqH (a := pk) (b := k) (by kernel_rfl) Tryd.underlying38 Tryd.underlying5 sz5 rfl rfl (hpk) (hk)) ?_
        refine wl rfl rfl rfl (p_pickT rfl rfl) ?_
        refine wl_nil ?_
        refine x_seq ?_
        refine wc_if rfl (fun c1 => ?_) (fun c1 => ?_)
        ·
          refine wc_seq ?_
          refine wc_region ?_
          refine wl rfl rfl rfl (p_fld (j := 34) Tryd.underlying45 rfl ⟨_, by rfl⟩ rfl rfl) ?_
          refine wl rfl rfl rfl (p_ldA (cs := (List.map u8v pv)) Tryd.underlying38 rfl (szL sz38 (by first | rfl | (simp only [List.length_append, List.length_map, List.length_cons, List.length_nil, (show List.length pv = 32 from hpv)]; done) | (simp only [List.length_append, List.length_map, List.length_cons, List.length_nil, List.size_toArray, (show List.length pv = 32 from hpv)]; done))) rfl (fun _ e => e ▸ rng_at (p := (([.slice As ls cs, .bool lf] ++ (List.map u8v pk)) : List Value)) (q := ((List.map u8v pv) : List Value)) (r := []) hb5 (by simp only [List.append_assoc, List.cons_append, List.nil_append, List.append_nil]) (by first | rfl | (simp only [List.length_append, List.length_map, List.length_cons, List.length_nil, (show List.length pk = 32 from hpk)]; done) | (simp only [List.length_append, List.length_map, List.length_cons, List.length_nil, List.size_toArray, (show List.length pk = 32 from hpk)]; done)))) ?_
          refine wle rfl (e_stW (vs := List.map u8v pv) (szL sz38 (by rw [List.length_map]; exact hpv)) (oneL one_u8 _) rfl rfl hb6 (by simp only [List.size_toArray, List.length_map]; first | done | exact ((List.length_replicate ..)).trans (hpv).symm) (fun w10 hb6 hc hsz => ?_))
          have hzw10 := hc.size
          have HC := HC.trans hc (fun _ _ h => h) (fun k hk ht => absurd ht (by omega))
          first | have hst := hst.ch hc (by intro k hk ht; first | omega | (dsimp only at *; omega)) | have hst := hst.chT hc (by intro k hz hk ht; first | omega | (dsimp only at *; omega))
          have hb3 := hb3.ch hc (by omega)
          have hb4 := hb4.ch hc (by omega)
          have hb5 := hb5.ch hc (by omega)
          have hb9 := hb9.ch hc (by omega)
          refine wl rfl rfl rfl (p_as rfl) ?_
          refine wl rfl rfl rfl (p_as rfl) ?_
          refine wl_nil ?_
          refine x_seq ?_
          refine wc_ret ?_
          refine x_then_ret ?_
          refine fin_run (resMany (rs := [.cell 6 38, .tmp 7, .tmp 8]) rfl (.cellA (cs := List.map u8v pv) rfl Tryd.underlying38 rfl (szL sz38 (by rw [List.length_map]; exact hpv)) (rngL hb6) (.tmp rfl (.tmp rfl (.nil)))) rfl) ?_
          exact ⟨_, _, _, rfl, by first | exact hpv | exact List.length_replicate .., ck_c hcr q19 c0 q27 c1, HC⟩
        ·
          refine wc_skip ?_
          refine x_seq ?_
          refine wc_seq ?_
          refine wc_region ?_
          refine wl rfl rfl rfl (p_bldP (cs := ((List.replicate 32 (0 : UInt8)).map u8v).toArray) rfl (fun _ => by kernel_rfl)) ?_
          refine wle rfl (e_stW (vs := List.map u8v (List.replicate 32 (0 : UInt8))) (szL sz38 (by rw [List.length_map]; exact (List.length_replicate ..))) (oneL one_u8 _) rfl rfl hb6 (by simp only [List.size_toArray, List.length_map]; first | done | exact ((List.length_replicate ..)).trans ((List.length_replicate ..)).symm) (fun w11 hb6 hc hsz => ?_))
          have hzw11 := hc.size
          have HC := HC.trans hc (fun _ _ h => h) (fun k hk ht => absurd ht (by omega))
          first | have hst := hst.ch hc (by intro k hk ht; first | omega | (dsimp only at *; omega)) | have hst := hst.chT hc (by intro k hz hk ht; first | omega | (dsimp only at *; omega))
          have hb3 := hb3.ch hc (by omega)
          have hb4 := hb4.ch hc (by omega)
          have hb5 := hb5.ch hc (by omega)
          have hb9 := hb9.ch hc (by omega)
          refine wl rfl rfl rfl (p_as rfl) ?_
          refine wl rfl rfl rfl (p_as rfl) ?_
          refine wl_nil ?_
          refine x_seq ?_
          refine wc_ret ?_
          refine fin_run (resMany (rs := [.cell 6 38, .tmp 7, .tmp 8]) rfl (.cellA (cs := List.map u8v (List.replicate 32 (0 : UInt8))) rfl Tryd.underlying38 rfl (szL sz38 (by rw [List.length_map]; exact (List.length_replicate ..))) (rngL hb6) (.tmp rfl (.tmp rfl (.nil)))) rfl) ?_
          exact ⟨_, _, _, rfl, by first | exact hpv | exact List.length_replicate .., ck_f hcr q19 c0 c1, HC⟩
      ·
        refine wl_s (gd_ rfl rfl rfl rfl rfl rfl) rfl rfl ?_
        refine wl_s (gd_ rfl rfl rfl rfl rfl rfl) rfl rfl ?_
        refine wl_s (gd_ rfl rfl rfl rfl rfl rfl) rfl rfl ?_
        refine wl_s (gd_ rfl rfl rfl rfl rfl rfl) rfl rfl ?_
        refine wl rfl rfl rfl (p_pickF rfl rfl) ?_
        refine wl_nil ?_
        refine x_seq ?_
        refine wc_no rfl (rfl) ?_
        refine wc_skip ?_
        refine x_seq ?_
        refine wc_seq ?_
        refine wc_region ?_
        refine wl rfl rfl rfl (p_bldP (cs := ((List.replicate 32 (0 : UInt8)).map u8v).toArray) rfl (fun _ => by kernel_rfl)) ?_
        refine wle rfl (e_stW (vs := List.map u8v (List.replicate 32 (0 : UInt8))) (szL sz38 (by rw [List.length_map]; exact (List.length_replicate ..))) (oneL one_u8 _) rfl rfl hb6 (by simp only [List.size_toArray, List.length_map]; first | done | exact ((List.length_replicate ..)).trans ((List.length_replicate ..)).symm) (fun w12 hb6 hc hsz => ?_))
        have hzw12 := hc.size
        have HC := HC.trans hc (fun _ _ h => h) (fun k hk ht => absurd ht (by omega))
        first | have hst := hst.ch hc (by intro k hk ht; first | omega | (dsimp only at *; omega)) | have hst := hst.chT hc (by intro k hz hk ht; first | omega | (dsimp only at *; omega))
        have hb3 := hb3.ch hc (by omega)
        have hb4 := hb4.ch hc (by omega)
        have hb5 := hb5.ch hc (by omega)
        have hb9 := hb9.ch hc (by omega)
        refine wl rfl rfl rfl (p_as rfl) ?_
        refine wl rfl rfl rfl (p_as rfl) ?_
        refine wl_nil ?_
        refine x_seq ?_
        refine wc_ret ?_
        refine fin_run (resMany (rs := [.cell 6 38, .tmp 7, .tmp 8]) rfl (.cellA (cs := List.map u8v (List.replicate 32 (0 : UInt8))) rfl Tryd.underlying38 rfl (szL sz38 (by rw [List.length_map]; exact (List.length_replicate ..))) (rngL hb6) (.tmp rfl (.tmp rfl (.nil)))) rfl) ?_
        exact ⟨_, _, _, rfl, by first | exact hpv | exact List.length_replicate .., ck_d hcr q19 c0 q27, HC⟩

theorem mprove_new {w : World} {v : Value} {F : Nat → Prop} {k : List UInt8} (hV : TR 41 156 F w v none) (hk : k.length = 32) (hrnd : Sl w (fun k => k = 0) u32v (some ⟨0, 0, none⟩) 64 64 rk) : Calls Tryd.prog 28 #[v, hv k] w fun e w' => ∃ A c, e = .returned (.agg (([.slice A 0 c, .bool false] ++ (List.map u8v zeroH ++ List.map u8v zeroH)) : List Value).toArray) ∧ RI w' (fun k => w.heap.size ≤ k) 126 eST A 0 c [] ∧ Ch No w w' := by
  refine (mprove_any hV hk hrnd (by decide)).mono fun e w' ⟨A, l, c, lf, u, x, h1, h2, h3, h4, h5, h6, _⟩ => ?_
  injection h5 with e1 e2
  injection e2 with e2 e3
  subst e1; subst e2; subst e3
  obtain rfl : l = 0 := h4.len.symm
  exact ⟨A, c, h1, h4, h6.mono (fun _ _ h => by simp [adsO] at h)⟩

set_option maxHeartbeats 1000000 in
set_option maxRecDepth 20000 in
theorem lives12_any {w : World}  (hrnd : Sl w (fun k => k = 0) u32v (some ⟨0, 0, none⟩) 64 64 rk) :
    Calls Tryd.prog 29 #[] w fun e w' => e = .returned (.bool true) ∧ Ch No w w' := by
  have hn0 : 0 < w.heap.size := hrnd.size (by omega) rfl
  have hn1 := hn0
  have HC : Ch No w w := Ch.refl _ _
  refine enter' (args := []) (n := 31) Tryd.func29 rfl rfl rfl ?_
  refine wc_seq ?_
  refine wc_region ?_
  refine wl rfl rfl rfl (p_as rfl) ?_
  refine wl_nil ?_
  refine x_seq ?_
  refine wc_seq ?_
  refine wc_region ?_
  refine wle rfl (e_alloc (cs := ((List.replicate 32 (0 : UInt8)).map u8v).toArray) rfl (by rfl) rfl (fun w1 g1 hg1 hb1 hc hsz1 => ?_))
  have hzw1 := hc.size
  have HC := HC.tr hc
  have hrnd := hrnd.no hc
  have hge1 : w.heap.size ≤ g1 := by have := HC.size; omega
  refine wl_nil ?_
  refine x_seq ?_
  refine wc_seq ?_
  refine wc_draw (.st 1 1 (.alt (.st 0 2 (.alt (.st 2 2 (.st 3 2 (.st 4 3 .nil))) (.st 3 2 (.st 2 2 (.st 4 3 .nil))))) (.st 3 2 (.st 0 2 (.st 2 2 (.st 4 3 .nil)))))) 4 (by kernel_rfl) (by kernel_rfl) (by kernel_rfl) (by repeat (first | with_reducible exact pan_body | with_reducible apply pan_then | with_reducible apply pan_in)) (fun x => Ch No w1.drew x) (Ch.refl _ _) ?_
  obtain ⟨w2, ew2⟩ : ∃ x, x = w1.drew := ⟨_, rfl⟩
  rw [← ew2]
  have hc : Ch No w1 w2 := by rw [ew2]; exact Ch.drew _
  have hszw2 : w2.heap.size = w1.heap.size := by rw [ew2]; rfl
  clear ew2
  have hzw2 := hc.size
  have HC := HC.tr hc
  have hrnd := hrnd.no hc
  have hb1 := hb1.ch hc (fun h => h)
  have hS : Ch No w2 w2 := Ch.refl _ _
  refine ws_h rfl rfl rfl rfl (p_ldA (cs := List.map u8v (List.replicate 32 (0 : UInt8))) Tryd.underlying38 rfl (szL sz38 (by rw [List.length_map]; exact (List.length_replicate ..))) rfl (fun _ h => (rngL (hb1.ch h (fun h => h))))) ?_
  refine ws_alt ?_ ?_
  ·
    refine ws_e rfl rfl (e_call ent51 rfl rfl (new_any) ?_)
    rintro _ w3 ⟨v5, rfl, hV5, hc⟩
    refine ⟨_, rfl, hc, ?_⟩
    have hzw3 := hc.size
    have HC := HC.tr hc
    have hrnd := hrnd.no hc
    have hb1 := hb1.ch hc (fun h => h)
    have hV5 := hV5.mono (G := fun k => w2.heap.size ≤ k ∧ k < w3.heap.size) (fun k h1 h2 => ⟨h2, h1⟩)
    refine ws_narrow (S' := fun x => Ch No w3 x) (Ch.refl _ _) (fun x h => hc.tr h) ?_
    refine ws_alt ?_ ?_
    ·
      refine ws_e rfl rfl (e_call ent28 rfl rfl (mprove_new hV5 ((List.length_replicate ..)) hrnd) ?_)
      rintro _ w4 ⟨A7, c7, rfl, hW7, hc⟩
      refine ⟨_, rfl, hc, ?_⟩
      have hzw4 := hc.size
      have HC := HC.tr hc
      have hrnd := hrnd.no hc
      have hb1 := hb1.ch hc (fun h => h)
      have hV5 := hV5.ch hc (by first | exact fun _ _ _ h => h | (intro k hk hF ht; have h2 := hF.1; have h3 := hF.2; first | omega | (dsimp only at *; omega)))
      refine ws_narrow (S' := fun x => Ch No w4 x) (Ch.refl _ _) (fun x h => hc.tr h) ?_
      have hltg1 := hb1.lt
      refine ws_e rfl rfl (e_alloc (cs := (([Value.slice none 0 0, Value.bool false] ++ ((List.map u8v (List.replicate 32 (0 : UInt8))) ++ (List.map u8v (List.replicate 32 (0 : UInt8))))) : List Value).toArray) rfl (by rfl) (by rfl) (fun w5 g2 hg2 hb2 hc hsz2 => ⟨hc, ?_⟩))
      have hzw5 := hc.size
      have HC := HC.tr hc
      have hrnd := hrnd.no hc
      have hb1 := hb1.ch hc (fun h => h)
      have hV5 := hV5.ch hc (by first | exact fun _ _ _ h => h | (intro k hk hF ht; have h2 := hF.1; have h3 := hF.2; first | omega | (dsimp only at *; omega)))
      have hW7 := hW7.after hc
      have hge2 : w.heap.size ≤ g2 := by have := HC.size; omega
      have neg1_2 : g1 < g2 := by omega
      refine ws_narrow (S' := fun x => Ch No w5 x) (Ch.refl _ _) (fun x h => hc.tr h) ?_
      refine ws_l rfl rfl (e_stW (vs := (([.slice A7 0 c7, .bool false] ++ ((List.map u8v zeroH) ++ (List.map u8v zeroH))) : List Value)) (szL sz49 (by first | rfl | (simp only [List.length_append, List.length_map, List.length_cons, List.length_nil, (show List.length zeroH = 32 from zeroH_len), (show List.length zeroH = 32 from zeroH_len)]; done) | (simp only [List.length_append, List.length_map, List.length_cons, List.length_nil, List.size_toArray, (show List.length zeroH = 32 from zeroH_len), (show List.length zeroH = 32 from zeroH_len)]; done))) (oneA (allOne rfl) (oneA (oneL one_u8 _) (oneL one_u8 _))) rfl rfl hb2 (by first | rfl | (simp only [List.length_append, List.length_map, List.length_cons, List.length_nil, (show List.length (List.replicate 32 (0 : UInt8)) = 32 from (List.length_replicate ..)), (show List.length (List.replicate 32 (0 : UInt8)) = 32 from (List.length_replicate ..)), (show List.length zeroH = 32 from zeroH_len), (show List.length zeroH = 32 from zeroH_len)]; done) | (simp only [List.length_append, List.length_map, List.length_cons, List.length_nil, List.size_toArray, (show List.length (List.replicate 32 (0 : UInt8)) = 32 from (List.length_replicate ..)), (show List.length (List.replicate 32 (0 : UInt8)) = 32 from (List.length_replicate ..)), (show List.length zeroH = 32 from zeroH_len), (show List.length zeroH = 32 from zeroH_len)]; done)) (fun w6 hb2 hc hsz => ?_))
      have hzw6 := hc.size
      have HC := HC.trans hc (fun _ _ h => h) (fun k hk ht => absurd ht (by omega))
      first | have hrnd := hrnd.ch hc (by intro k hk ht; first | omega | (dsimp only at *; omega)) | have hrnd := hrnd.chT hc (by intro k hz hk ht; first | omega | (dsimp only at *; omega))
      have hb1 := hb1.ch hc (by omega)
      have hV5 := hV5.ch hc (by first | exact fun _ _ _ h => h | (intro k hk hF ht; have h2 := hF.1; have h3 := hF.2; first | omega | (dsimp only at *; omega)))
      have hW7 := hW7.ch hc (by intro k hz hk ht; first | omega | (dsimp only at *; omega))
      refine ws_n ?_
      refine x_seq ?_
      refine wc_seq ?_
      refine wc_region ?_
      refine wl rfl rfl rfl (p_ldA (cs := List.map u8v (List.replicate 32 (0 : UInt8))) Tryd.underlying38 rfl (szL sz38 (by rw [List.length_map]; exact (List.length_replicate ..))) rfl (fun _ e => e ▸ rngL hb1)) ?_
      refine wl rfl rfl rfl (p_ldA (cs := (([.slice A7 0 c7, .bool false] ++ ((List.map u8v zeroH) ++ (List.map u8v zeroH))) : List Value)) Tryd.underlying49 rfl (szL sz49 (by first | rfl | (simp only [List.length_append, List.length_map, List.length_cons, List.length_nil, (show List.length zeroH = 32 from zeroH_len), (show List.length zeroH = 32 from zeroH_len)]; done) | (simp only [List.length_append, List.length_map, List.length_cons, List.length_nil, List.size_toArray, (show List.length zeroH = 32 from zeroH_len), (show List.length zeroH = 32 from zeroH_len)]; done))) rfl (fun _ e => e ▸ rngL hb2)) ?_
      refine wle rfl (e_call ent30 rfl rfl (mclimb_any ((List.length_replicate ..)) (hW7.si) (zeroH_len) (zeroH_len) (by omega) hrnd) ?_)
      rintro _ w7 ⟨u11, ok11, rfl, hu11, hcl11, hc⟩
      refine ⟨_, rfl, ?_⟩
      have hzw7 := hc.size
      have HC := HC.tr hc
      have hrnd := hrnd.no hc
      have hb1 := hb1.ch hc (fun h => h)
      have hV5 := hV5.ch hc (by first | exact fun _ _ _ h => h | (intro k hk hF ht; have h2 := hF.1; have h3 := hF.2; first | omega | (dsimp only at *; omega)))
      have hW7 := hW7.after hc
      have hb2 := hb2.ch hc (fun h => h)
      have hcl0 : (u11, ok11) = (noneH, true) := hcl11
      injection hcl0 with hcu hco
      refine wl rfl rfl rfl (p_mv rfl) ?_
      refine wl rfl rfl rfl (p_ext rfl rfl) ?_
      refine wl rfl rfl rfl (p_ext rfl rfl) ?_
      have hltg1 := hb1.lt
      have hltg2 := hb2.lt
      refine wle rfl (e_alloc (cs := ((List.replicate 32 (0 : UInt8)).map u8v).toArray) rfl (by rfl) rfl (fun w8 g3 hg3 hb3 hc hsz3 => ?_))
      have hzw8 := hc.size
      have HC := HC.tr hc
      have hrnd := hrnd.no hc
      have hb1 := hb1.ch hc (fun h => h)
      have hV5 := hV5.ch hc (by first | exact fun _ _ _ h => h | (intro k hk hF ht; have h2 := hF.1; have h3 := hF.2; first | omega | (dsimp only at *; omega)))
      have hW7 := hW7.after hc
      have hb2 := hb2.ch hc (fun h => h)
      have hge3 : w.heap.size ≤ g3 := by have := HC.size; omega
      have neg1_3 : g1 < g3 := by omega
      have neg2_3 : g2 < g3 := by omega
      refine wle rfl (e_stW (vs := List.map u8v u11) (szL sz38 (by rw [List.length_map]; exact hu11)) (oneL one_u8 _) rfl rfl hb3 (by simp only [List.size_toArray, List.length_map]; first | done | exact ((List.length_replicate ..)).trans (hu11).symm) (fun w9 hb3 hc hsz => ?_))
      have hzw9 := hc.size
      have HC := HC.trans hc (fun _ _ h => h) (fun k hk ht => absurd ht (by omega))
      first | have hrnd := hrnd.ch hc (by intro k hk ht; first | omega | (dsimp only at *; omega)) | have hrnd := hrnd.chT hc (by intro k hz hk ht; first | omega | (dsimp only at *; omega))
      have hb1 := hb1.ch hc (by omega)
      have hV5 := hV5.ch hc (by first | exact fun _ _ _ h => h | (intro k hk hF ht; have h2 := hF.1; have h3 := hF.2; first | omega | (dsimp only at *; omega)))
      have hW7 := hW7.ch hc (by intro k hz hk ht; first | omega | (dsimp only at *; omega))
      have hb2 := hb2.ch hc (by omega)
      refine wl rfl rfl rfl (p_as rfl) ?_
      refine wl_nil ?_
      refine x_seq ?_
      refine wc_seq ?_
      refine wc_draw (.st 0 0 (.st 1 1 (.st 2 0 (.st 3 0 (.st 4 0 (.st 5 0 (.st 6 1 (.st 7 0 (.st 8 0 (.st 9 0 (.st 10 0 (.st 11 0 (.st 12 0 (.st 13 1 (.st 14 2 (.st 15 0 (.st 16 0 (.st 17 0 .nil)))))))))))))))))) 18 (by kernel_rfl) (by kernel_rfl) (by kernel_rfl) (by repeat (first | with_reducible exact pan_body | with_reducible apply pan_then | with_reducible apply pan_in)) (fun x => Ch No w9.drew x) (Ch.refl _ _) ?_
      obtain ⟨w10, ew10⟩ : ∃ x, x = w9.drew := ⟨_, rfl⟩
      rw [← ew10]
      have hc : Ch No w9 w10 := by rw [ew10]; exact Ch.drew _
      have hszw10 : w10.heap.size = w9.heap.size := by rw [ew10]; rfl
      clear ew10
      have hzw10 := hc.size
      have HC := HC.tr hc
      have hrnd := hrnd.no hc
      have hb1 := hb1.ch hc (fun h => h)
      have hV5 := hV5.ch hc (by first | exact fun _ _ _ h => h | (intro k hk hF ht; have h2 := hF.1; have h3 := hF.2; first | omega | (dsimp only at *; omega)))
      have hW7 := hW7.no hc
      have hb2 := hb2.ch hc (fun h => h)
      have hb3 := hb3.ch hc (fun h => h)
      have hS : Ch No w10 w10 := Ch.refl _ _
      refine ws_p rfl rfl rfl rfl (p_fld (j := 0) Tryd.underlying49 rfl ⟨_, by rfl⟩ rfl rfl) ?_
      refine ws_h rfl rfl rfl rfl (p_ld Tryd.underlying47 rfl rfl (fun _ h => h.cell (fun h => h) (cell_at (p := []) (v := (.slice A7 0 c7 : Value)) (r := (([.bool false] ++ ((List.map u8v zeroH) ++ (List.map u8v zeroH))) : List Value)) hb2 (by simp only [List.append_assoc, List.cons_append, List.nil_append, List.append_nil]) (by first | rfl | (simp only [List.length_append, List.length_map, List.length_cons, List.length_nil]; done) | (simp only [List.length_append, List.length_map, List.length_cons, List.length_nil, List.size_toArray]; done))))) ?_
      refine ws_p rfl rfl rfl rfl (p_lenS Tryd.underlying47 rfl) ?_
      refine ws_p rfl rfl rfl rfl (p_eq rfl rfl) ?_
      refine ws_p rfl rfl rfl rfl (p_mv rfl) ?_
      refine ws_know (d := 18) (b' := true) rfl (by simp) ?_
      refine ws_pg rfl (gd_ rfl rfl rfl rfl rfl rfl) rfl rfl (p_fld (j := 1) Tryd.underlying49 rfl ⟨_, by rfl⟩ rfl rfl) ?_
      refine ws_hg rfl (gd_ rfl rfl rfl rfl rfl rfl) rfl rfl (p_ld Tryd.underlying4 rfl rfl (fun _ h => h.cell (fun h => h) (cell_at (p := ([.slice A7 0 c7] : List Value)) (v := (.bool false : Value)) (r := (((List.map u8v zeroH) ++ (List.map u8v zeroH)) : List Value)) hb2 (by simp only [List.append_assoc, List.cons_append, List.nil_append, List.append_nil]) (by first | rfl | (simp only [List.length_append, List.length_map, List.length_cons, List.length_nil]; done) | (simp only [List.length_append, List.length_map, List.length_cons, List.length_nil, List.size_toArray]; done))))) ?_
      refine ws_pg rfl (gd_ rfl rfl rfl rfl rfl rfl) rfl rfl (p_not rfl) ?_
      refine ws_p rfl rfl rfl rfl (p_pickT rfl rfl) ?_
      refine ws_p rfl rfl rfl rfl (p_mv rfl) ?_
      refine ws_pg rfl (gd_ rfl rfl rfl rfl rfl rfl) rfl rfl (p_mv rfl) ?_
      refine ws_p rfl rfl rfl rfl (p_pickT rfl rfl) ?_
      refine ws_p rfl rfl rfl rfl (p_mv rfl) ?_
      refine ws_know (d := 26) (b' := true) rfl (by simp [hco]) ?_
      refine ws_hg rfl (gd_ rfl rfl rfl rfl rfl rfl) rfl rfl (p_ldA (cs := List.map u8v u11) Tryd.underlying38 rfl (szL sz38 (by rw [List.length_map]; exact hu11)) rfl (fun _ h => (rngL (hb3.ch h (fun h => h))))) ?_
      refine ws_eg rfl (gd_ rfl rfl rfl rfl rfl rfl) (e_call ent67 rfl rfl (rtnone_any) ?_)
      rintro _ w11 ⟨rfl, hc⟩
      refine ⟨_, rfl, hc, ?_⟩
      have hzw11 := hc.size
      have HC := HC.tr hc
      have hrnd := hrnd.no hc
      have hb1 := hb1.ch hc (fun h => h)
      have hV5 := hV5.ch hc (by first | exact fun _ _ _ h => h | (intro k hk hF ht; have h2 := hF.1; have h3 := hF.2; first | omega | (dsimp only at *; omega)))
      have hW7 := hW7.after hc
      have hb2 := hb2.ch hc (fun h => h)
      have hb3 := hb3.ch hc (fun h => h)
      refine ws_narrow (S' := fun x => Ch No w11 x) (Ch.refl _ _) (fun x h => hc.tr h) ?_
      refine ws_pg rfl (gd_ rfl rfl rfl rfl rfl rfl) rfl rfl (p_eqH (a := u11) (b := noneH) (by kernel_rfl) Tryd.underlying38 Tryd.underlying5 sz5 rfl rfl (hu11) (noneH_len)) ?_
      refine ws_p rfl rfl rfl rfl (p_pickT rfl rfl) ?_
      refine ws_p rfl rfl rfl rfl (p_as rfl) ?_
      refine ws_n ?_
      refine x_seq ?_
      refine wc_ret ?_
      refine fin_run ((res1 rfl rfl)) ?_
      exact ⟨by congr 2; simp [hcu], HC⟩
    ·
      have hltg1 := hb1.lt
      refine ws_e rfl rfl (e_alloc (cs := (([Value.slice none 0 0, Value.bool false] ++ ((List.map u8v (List.replicate 32 (0 : UInt8))) ++ (List.map u8v (List.replicate 32 (0 : UInt8))))) : List Value).toArray) rfl (by rfl) (by rfl) (fun w12 g2 hg2 hb2 hc hsz2 => ⟨hc, ?_⟩))
      have hzw12 := hc.size
      have HC := HC.tr hc
      have hrnd := hrnd.no hc
      have hb1 := hb1.ch hc (fun h => h)
      have hV5 := hV5.ch hc (by first | exact fun _ _ _ h => h | (intro k hk hF ht; have h2 := hF.1; have h3 := hF.2; first | omega | (dsimp only at *; omega)))
      have hge2 : w.heap.size ≤ g2 := by have := HC.size; omega
      have neg1_2 : g1 < g2 := by omega
      refine ws_narrow (S' := fun x => Ch No w12 x) (Ch.refl _ _) (fun x h => hc.tr h) ?_
      refine ws_e rfl rfl (e_call ent28 rfl rfl (mprove_new hV5 ((List.length_replicate ..)) hrnd) ?_)
      rintro _ w13 ⟨A7, c7, rfl, hW7, hc⟩
      refine ⟨_, rfl, hc, ?_⟩
      have hzw13 := hc.size
      have HC := HC.tr hc
      have hrnd := hrnd.no hc
      have hb1 := hb1.ch hc (fun h => h)
      have hV5 := hV5.ch hc (by first | exact fun _ _ _ h => h | (intro k hk hF ht; have h2 := hF.1; have h3 := hF.2; first | omega | (dsimp only at *; omega)))
      have hb2 := hb2.ch hc (fun h => h)
      refine ws_narrow (S' := fun x => Ch No w13 x) (Ch.refl _ _) (fun x h => hc.tr h) ?_
      refine ws_l rfl rfl (e_stW (vs := (([.slice A7 0 c7, .bool false] ++ ((List.map u8v zeroH) ++ (List.map u8v zeroH))) : List Value)) (szL sz49 (by first | rfl | (simp only [List.length_append, List.length_map, List.length_cons, List.length_nil, (show List.length zeroH = 32 from zeroH_len), (show List.length zeroH = 32 from zeroH_len)]; done) | (simp only [List.length_append, List.length_map, List.length_cons, List.length_nil, List.size_toArray, (show List.length zeroH = 32 from zeroH_len), (show List.length zeroH = 32 from zeroH_len)]; done))) (oneA (allOne rfl) (oneA (oneL one_u8 _) (oneL one_u8 _))) rfl rfl hb2 (by first | rfl | (simp only [List.length_append, List.length_map, List.length_cons, List.length_nil, (show List.length (List.replicate 32 (0 : UInt8)) = 32 from (List.length_replicate ..)), (show List.length (List.replicate 32 (0 : UInt8)) = 32 from (List.length_replicate ..)), (show List.length zeroH = 32 from zeroH_len), (show List.length zeroH = 32 from zeroH_len)]; done) | (simp only [List.length_append, List.length_map, List.length_cons, List.length_nil, List.size_toArray, (show List.length (List.replicate 32 (0 : UInt8)) = 32 from (List.length_replicate ..)), (show List.length (List.replicate 32 (0 : UInt8)) = 32 from (List.length_replicate ..)), (show List.length zeroH = 32 from zeroH_len), (show List.length zeroH = 32 from zeroH_len)]; done)) (fun w14 hb2 hc hsz => ?_))
      have hzw14 := hc.size
      have HC := HC.trans hc (fun _ _ h => h) (fun k hk ht => absurd ht (by omega))
      first | have hrnd := hrnd.ch hc (by intro k hk ht; first | omega | (dsimp only at *; omega)) | have hrnd := hrnd.chT hc (by intro k hz hk ht; first | omega | (dsimp only at *; omega))
      have hb1 := hb1.ch hc (by omega)
      have hV5 := hV5.ch hc (by first | exact fun _ _ _ h => h | (intro k hk hF ht; have h2 := hF.1; have h3 := hF.2; first | omega | (dsimp only at *; omega)))
      have hW7 := hW7.ch hc (by intro k hz hk ht; first | omega | (dsimp only at *; omega))
      refine ws_n ?_
      refine x_seq ?_
      refine wc_seq ?_
      refine wc_region ?_
      refine wl rfl rfl rfl (p_ldA (cs := List.map u8v (List.replicate 32 (0 : UInt8))) Tryd.underlying38 rfl (szL sz38 (by rw [List.length_map]; exact (List.length_replicate ..))) rfl (fun _ e => e ▸ rngL hb1)) ?_
      refine wl rfl rfl rfl (p_ldA (cs := (([.slice A7 0 c7, .bool false] ++ ((List.map u8v zeroH) ++ (List.map u8v zeroH))) : List Value)) Tryd.underlying49 rfl (szL sz49 (by first | rfl | (simp only [List.length_append, List.length_map, List.length_cons, List.length_nil, (show List.length zeroH = 32 from zeroH_len), (show List.length zeroH = 32 from zeroH_len)]; done) | (simp only [List.length_append, List.length_map, List.length_cons, List.length_nil, List.size_toArray, (show List.length zeroH = 32 from zeroH_len), (show List.length zeroH = 32 from zeroH_len)]; done))) rfl (fun _ e => e ▸ rngL hb2)) ?_
      refine wle rfl (e_call ent30 rfl rfl (mclimb_any ((List.length_replicate ..)) (hW7.si) (zeroH_len) (zeroH_len) (by omega) hrnd) ?_)
      rintro _ w15 ⟨u11, ok11, rfl, hu11, hcl11, hc⟩
      refine ⟨_, rfl, ?_⟩
      have hzw15 := hc.size
      have HC := HC.tr hc
      have hrnd := hrnd.no hc
      have hb1 := hb1.ch hc (fun h => h)
      have hV5 := hV5.ch hc (by first | exact fun _ _ _ h => h | (intro k hk hF ht; have h2 := hF.1; have h3 := hF.2; first | omega | (dsimp only at *; omega)))
      have hb2 := hb2.ch hc (fun h => h)
      have hW7 := hW7.after hc
      have hcl0 : (u11, ok11) = (noneH, true) := hcl11
      injection hcl0 with hcu hco
      refine wl rfl rfl rfl (p_mv rfl) ?_
      refine wl rfl rfl rfl (p_ext rfl rfl) ?_
      refine wl rfl rfl rfl (p_ext rfl rfl) ?_
      have hltg1 := hb1.lt
      have hltg2 := hb2.lt
      refine wle rfl (e_alloc (cs := ((List.replicate 32 (0 : UInt8)).map u8v).toArray) rfl (by rfl) rfl (fun w16 g3 hg3 hb3 hc hsz3 => ?_))
      have hzw16 := hc.size
      have HC := HC.tr hc
      have hrnd := hrnd.no hc
      have hb1 := hb1.ch hc (fun h => h)
      have hV5 := hV5.ch hc (by first | exact fun _ _ _ h => h | (intro k hk hF ht; have h2 := hF.1; have h3 := hF.2; first | omega | (dsimp only at *; omega)))
      have hb2 := hb2.ch hc (fun h => h)
      have hW7 := hW7.after hc
      have hge3 : w.heap.size ≤ g3 := by have := HC.size; omega
      have neg1_3 : g1 < g3 := by omega
      have neg2_3 : g2 < g3 := by omega
      refine wle rfl (e_stW (vs := List.map u8v u11) (szL sz38 (by rw [List.length_map]; exact hu11)) (oneL one_u8 _) rfl rfl hb3 (by simp only [List.size_toArray, List.length_map]; first | done | exact ((List.length_replicate ..)).trans (hu11).symm) (fun w17 hb3 hc hsz => ?_))
      have hzw17 := hc.size
      have HC := HC.trans hc (fun _ _ h => h) (fun k hk ht => absurd ht (by omega))
      first | have hrnd := hrnd.ch hc (by intro k hk ht; first | omega | (dsimp only at *; omega)) | have hrnd := hrnd.chT hc (by intro k hz hk ht; first | omega | (dsimp only at *; omega))
      have hb1 := hb1.ch hc (by omega)
      have hV5 := hV5.ch hc (by first | exact fun _ _ _ h => h | (intro k hk hF ht; have h2 := hF.1; have h3 := hF.2; first | omega | (dsimp only at *; omega)))
      have hb2 := hb2.ch hc (by omega)
      have hW7 := hW7.ch hc (by intro k hz hk ht; first | omega | (dsimp only at *; omega))
      refine wl rfl rfl rfl (p_as rfl) ?_
      refine wl_nil ?_
      refine x_seq ?_
      refine wc_seq ?_
      refine wc_draw (.st 0 0 (.st 1 1 (.st 2 0 (.st 3 0 (.st 4 0 (.st 5 0 (.st 6 1 (.st 7 0 (.st 8 0 (.st 9 0 (.st 10 0 (.st 11 0 (.st 12 0 (.st 13 1 (.st 14 2 (.st 15 0 (.st 16 0 (.st 17 0 .nil)))))))))))))))))) 18 (by kernel_rfl) (by kernel_rfl) (by kernel_rfl) (by repeat (first | with_reducible exact pan_body | with_reducible apply pan_then | with_reducible apply pan_in)) (fun x => Ch No w17.drew x) (Ch.refl _ _) ?_
      obtain ⟨w18, ew18⟩ : ∃ x, x = w17.drew := ⟨_, rfl⟩
      rw [← ew18]
      have hc : Ch No w17 w18 := by rw [ew18]; exact Ch.drew _
      have hszw18 : w18.heap.size = w17.heap.size := by rw [ew18]; rfl
      clear ew18
      have hzw18 := hc.size
      have HC := HC.tr hc
      have hrnd := hrnd.no hc
      have hb1 := hb1.ch hc (fun h => h)
      have hV5 := hV5.ch hc (by first | exact fun _ _ _ h => h | (intro k hk hF ht; have h2 := hF.1; have h3 := hF.2; first | omega | (dsimp only at *; omega)))
      have hb2 := hb2.ch hc (fun h => h)
      have hW7 := hW7.no hc
      have hb3 := hb3.ch hc (fun h => h)
      have hS : Ch No w18 w18 := Ch.refl _ _
      refine ws_p rfl rfl rfl rfl (p_fld (j := 0) Tryd.underlying49 rfl ⟨_, by rfl⟩ rfl rfl) ?_
      refine ws_h rfl rfl rfl rfl (p_ld Tryd.underlying47 rfl rfl (fun _ h => h.cell (fun h => h) (cell_at (p := []) (v := (.slice A7 0 c7 : Value)) (r := (([.bool false] ++ ((List.map u8v zeroH) ++ (List.map u8v zeroH))) : List Value)) hb2 (by simp only [List.append_assoc, List.cons_append, List.nil_append, List.append_nil]) (by first | rfl | (simp only [List.length_append, List.length_map, List.length_cons, List.length_nil]; done) | (simp only [List.length_append, List.length_map, List.length_cons, List.length_nil, List.size_toArray]; done))))) ?_
      refine ws_p rfl rfl rfl rfl (p_lenS Tryd.underlying47 rfl) ?_
      refine ws_p rfl rfl rfl rfl (p_eq rfl rfl) ?_
      refine ws_p rfl rfl rfl rfl (p_mv rfl) ?_
      refine ws_know (d := 18) (b' := true) rfl (by simp) ?_
      refine ws_pg rfl (gd_ rfl rfl rfl rfl rfl rfl) rfl rfl (p_fld (j := 1) Tryd.underlying49 rfl ⟨_, by rfl⟩ rfl rfl) ?_
      refine ws_hg rfl (gd_ rfl rfl rfl rfl rfl rfl) rfl rfl (p_ld Tryd.underlying4 rfl rfl (fun _ h => h.cell (fun h => h) (cell_at (p := ([.slice A7 0 c7] : List Value)) (v := (.bool false : Value)) (r := (((List.map u8v zeroH) ++ (List.map u8v zeroH)) : List Value)) hb2 (by simp only [List.append_assoc, List.cons_append, List.nil_append, List.append_nil]) (by first | rfl | (simp only [List.length_append, List.length_map, List.length_cons, List.length_nil]; done) | (simp only [List.length_append, List.length_map, List.length_cons, List.length_nil, List.size_toArray]; done))))) ?_
      refine ws_pg rfl (gd_ rfl rfl rfl rfl rfl rfl) rfl rfl (p_not rfl) ?_
      refine ws_p rfl rfl rfl rfl (p_pickT rfl rfl) ?_
      refine ws_p rfl rfl rfl rfl (p_mv rfl) ?_
      refine ws_pg rfl (gd_ rfl rfl rfl rfl rfl rfl) rfl rfl (p_mv rfl) ?_
      refine ws_p rfl rfl rfl rfl (p_pickT rfl rfl) ?_
      refine ws_p rfl rfl rfl rfl (p_mv rfl) ?_
      refine ws_know (d := 26) (b' := true) rfl (by simp [hco]) ?_
      refine ws_hg rfl (gd_ rfl rfl rfl rfl rfl rfl) rfl rfl (p_ldA (cs := List.map u8v u11) Tryd.underlying38 rfl (szL sz38 (by rw [List.length_map]; exact hu11)) rfl (fun _ h => (rngL (hb3.ch h (fun h => h))))) ?_
      refine ws_eg rfl (gd_ rfl rfl rfl rfl rfl rfl) (e_call ent67 rfl rfl (rtnone_any) ?_)
      rintro _ w19 ⟨rfl, hc⟩
      refine ⟨_, rfl, hc, ?_⟩
      have hzw19 := hc.size
      have HC := HC.tr hc
      have hrnd := hrnd.no hc
      have hb1 := hb1.ch hc (fun h => h)
      have hV5 := hV5.ch hc (by first | exact fun _ _ _ h => h | (intro k hk hF ht; have h2 := hF.1; have h3 := hF.2; first | omega | (dsimp only at *; omega)))
      have hb2 := hb2.ch hc (fun h => h)
      have hW7 := hW7.after hc
      have hb3 := hb3.ch hc (fun h => h)
      refine ws_narrow (S' := fun x => Ch No w19 x) (Ch.refl _ _) (fun x h => hc.tr h) ?_
      refine ws_pg rfl (gd_ rfl rfl rfl rfl rfl rfl) rfl rfl (p_eqH (a := u11) (b := noneH) (by kernel_rfl) Tryd.underlying38 Tryd.underlying5 sz5 rfl rfl (hu11) (noneH_len)) ?_
      refine ws_p rfl rfl rfl rfl (p_pickT rfl rfl) ?_
      refine ws_p rfl rfl rfl rfl (p_as rfl) ?_
      refine ws_n ?_
      refine x_seq ?_
      refine wc_ret ?_
      refine fin_run ((res1 rfl rfl)) ?_
      exact ⟨by congr 2; simp [hcu], HC⟩
  ·
    have hltg1 := hb1.lt
    refine ws_e rfl rfl (e_alloc (cs := (([Value.slice none 0 0, Value.bool false] ++ ((List.map u8v (List.replicate 32 (0 : UInt8))) ++ (List.map u8v (List.replicate 32 (0 : UInt8))))) : List Value).toArray) rfl (by rfl) (by rfl) (fun w20 g2 hg2 hb2 hc hsz2 => ⟨hc, ?_⟩))
    have hzw20 := hc.size
    have HC := HC.tr hc
    have hrnd := hrnd.no hc
    have hb1 := hb1.ch hc (fun h => h)
    have hge2 : w.heap.size ≤ g2 := by have := HC.size; omega
    have neg1_2 : g1 < g2 := by omega
    refine ws_narrow (S' := fun x => Ch No w20 x) (Ch.refl _ _) (fun x h => hc.tr h) ?_
    refine ws_e rfl rfl (e_call ent51 rfl rfl (new_any) ?_)
    rintro _ w21 ⟨v5, rfl, hV5, hc⟩
    refine ⟨_, rfl, hc, ?_⟩
    have hzw21 := hc.size
    have HC := HC.tr hc
    have hrnd := hrnd.no hc
    have hb1 := hb1.ch hc (fun h => h)
    have hb2 := hb2.ch hc (fun h => h)
    have hV5 := hV5.mono (G := fun k => w20.heap.size ≤ k ∧ k < w21.heap.size) (fun k h1 h2 => ⟨h2, h1⟩)
    refine ws_narrow (S' := fun x => Ch No w21 x) (Ch.refl _ _) (fun x h => hc.tr h) ?_
    refine ws_e rfl rfl (e_call ent28 rfl rfl (mprove_new hV5 ((List.length_replicate ..)) hrnd) ?_)
    rintro _ w22 ⟨A7, c7, rfl, hW7, hc⟩
    refine ⟨_, rfl, hc, ?_⟩
    have hzw22 := hc.size
    have HC := HC.tr hc
    have hrnd := hrnd.no hc
    have hb1 := hb1.ch hc (fun h => h)
    have hb2 := hb2.ch hc (fun h => h)
    have hV5 := hV5.ch hc (by first | exact fun _ _ _ h => h | (intro k hk hF ht; have h2 := hF.1; have h3 := hF.2; first | omega | (dsimp only at *; omega)))
    refine ws_narrow (S' := fun x => Ch No w22 x) (Ch.refl _ _) (fun x h => hc.tr h) ?_
    refine ws_l rfl rfl (e_stW (vs := (([.slice A7 0 c7, .bool false] ++ ((List.map u8v zeroH) ++ (List.map u8v zeroH))) : List Value)) (szL sz49 (by first | rfl | (simp only [List.length_append, List.length_map, List.length_cons, List.length_nil, (show List.length zeroH = 32 from zeroH_len), (show List.length zeroH = 32 from zeroH_len)]; done) | (simp only [List.length_append, List.length_map, List.length_cons, List.length_nil, List.size_toArray, (show List.length zeroH = 32 from zeroH_len), (show List.length zeroH = 32 from zeroH_len)]; done))) (oneA (allOne rfl) (oneA (oneL one_u8 _) (oneL one_u8 _))) rfl rfl hb2 (by first | rfl | (simp only [List.length_append, List.length_map, List.length_cons, List.length_nil, (show List.length (List.replicate 32 (0 : UInt8)) = 32 from (List.length_replicate ..)), (show List.length (List.replicate 32 (0 : UInt8)) = 32 from (List.length_replicate ..)), (show List.length zeroH = 32 from zeroH_len), (show List.length zeroH = 32 from zeroH_len)]; done) | (simp only [List.length_append, List.length_map, List.length_cons, List.length_nil, List.size_toArray, (show List.length (List.replicate 32 (0 : UInt8)) = 32 from (List.length_replicate ..)), (show List.length (List.replicate 32 (0 : UInt8)) = 32 from (List.length_replicate ..)), (show List.length zeroH = 32 from zeroH_len), (show List.length zeroH = 32 from zeroH_len)]; done)) (fun w23 hb2 hc hsz => ?_))
    have hzw23 := hc.size
    have HC := HC.trans hc (fun _ _ h => h) (fun k hk ht => absurd ht (by omega))
    first | have hrnd := hrnd.ch hc (by intro k hk ht; first | omega | (dsimp only at *; omega)) | have hrnd := hrnd.chT hc (by intro k hz hk ht; first | omega | (dsimp only at *; omega))
    have hb1 := hb1.ch hc (by omega)
    have hV5 := hV5.ch hc (by first | exact fun _ _ _ h => h | (intro k hk hF ht; have h2 := hF.1; have h3 := hF.2; first | omega | (dsimp only at *; omega)))
    have hW7 := hW7.ch hc (by intro k hz hk ht; first | omega | (dsimp only at *; omega))
    refine ws_n ?_
    refine x_seq ?_
    refine wc_seq ?_
    refine wc_region ?_
    refine wl rfl rfl rfl (p_ldA (cs := List.map u8v (List.replicate 32 (0 : UInt8))) Tryd.underlying38 rfl (szL sz38 (by rw [List.length_map]; exact (List.length_replicate ..))) rfl (fun _ e => e ▸ rngL hb1)) ?_
    refine wl rfl rfl rfl (p_ldA (cs := (([.slice A7 0 c7, .bool false] ++ ((List.map u8v zeroH) ++ (List.map u8v zeroH))) : List Value)) Tryd.underlying49 rfl (szL sz49 (by first | rfl | (simp only [List.length_append, List.length_map, List.length_cons, List.length_nil, (show List.length zeroH = 32 from zeroH_len), (show List.length zeroH = 32 from zeroH_len)]; done) | (simp only [List.length_append, List.length_map, List.length_cons, List.length_nil, List.size_toArray, (show List.length zeroH = 32 from zeroH_len), (show List.length zeroH = 32 from zeroH_len)]; done))) rfl (fun _ e => e ▸ rngL hb2)) ?_
    refine wle rfl (e_call ent30 rfl rfl (mclimb_any ((List.length_replicate ..)) (hW7.si) (zeroH_len) (zeroH_len) (by omega) hrnd) ?_)
    rintro _ w24 ⟨u11, ok11, rfl, hu11, hcl11, hc⟩
    refine ⟨_, rfl, ?_⟩
    have hzw24 := hc.size
    have HC := HC.tr hc
    have hrnd := hrnd.no hc
    have hb1 := hb1.ch hc (fun h => h)
    have hb2 := hb2.ch hc (fun h => h)
    have hV5 := hV5.ch hc (by first | exact fun _ _ _ h => h | (intro k hk hF ht; have h2 := hF.1; have h3 := hF.2; first | omega | (dsimp only at *; omega)))
    have hW7 := hW7.after hc
    have hcl0 : (u11, ok11) = (noneH, true) := hcl11
    injection hcl0 with hcu hco
    refine wl rfl rfl rfl (p_mv rfl) ?_
    refine wl rfl rfl rfl (p_ext rfl rfl) ?_
    refine wl rfl rfl rfl (p_ext rfl rfl) ?_
    have hltg1 := hb1.lt
    have hltg2 := hb2.lt
    refine wle rfl (e_alloc (cs := ((List.replicate 32 (0 : UInt8)).map u8v).toArray) rfl (by rfl) rfl (fun w25 g3 hg3 hb3 hc hsz3 => ?_))
    have hzw25 := hc.size
    have HC := HC.tr hc
    have hrnd := hrnd.no hc
    have hb1 := hb1.ch hc (fun h => h)
    have hb2 := hb2.ch hc (fun h => h)
    have hV5 := hV5.ch hc (by first | exact fun _ _ _ h => h | (intro k hk hF ht; have h2 := hF.1; have h3 := hF.2; first | omega | (dsimp only at *; omega)))
    have hW7 := hW7.after hc
    have hge3 : w.heap.size ≤ g3 := by have := HC.size; omega
    have neg1_3 : g1 < g3 := by omega
    have neg2_3 : g2 < g3 := by omega
    refine wle rfl (e_stW (vs := List.map u8v u11) (szL sz38 (by rw [List.length_map]; exact hu11)) (oneL one_u8 _) rfl rfl hb3 (by simp only [List.size_toArray, List.length_map]; first | done | exact ((List.length_replicate ..)).trans (hu11).symm) (fun w26 hb3 hc hsz => ?_))
    have hzw26 := hc.size
    have HC := HC.trans hc (fun _ _ h => h) (fun k hk ht => absurd ht (by omega))
    first | have hrnd := hrnd.ch hc (by intro k hk ht; first | omega | (dsimp only at *; omega)) | have hrnd := hrnd.chT hc (by intro k hz hk ht; first | omega | (dsimp only at *; omega))
    have hb1 := hb1.ch hc (by omega)
    have hb2 := hb2.ch hc (by omega)
    have hV5 := hV5.ch hc (by first | exact fun _ _ _ h => h | (intro k hk hF ht; have h2 := hF.1; have h3 := hF.2; first | omega | (dsimp only at *; omega)))
    have hW7 := hW7.ch hc (by intro k hz hk ht; first | omega | (dsimp only at *; omega))
    refine wl rfl rfl rfl (p_as rfl) ?_
    refine wl_nil ?_
    refine x_seq ?_
    refine wc_seq ?_
    refine wc_draw (.st 0 0 (.st 1 1 (.st 2 0 (.st 3 0 (.st 4 0 (.st 5 0 (.st 6 1 (.st 7 0 (.st 8 0 (.st 9 0 (.st 10 0 (.st 11 0 (.st 12 0 (.st 13 1 (.st 14 2 (.st 15 0 (.st 16 0 (.st 17 0 .nil)))))))))))))))))) 18 (by kernel_rfl) (by kernel_rfl) (by kernel_rfl) (by repeat (first | with_reducible exact pan_body | with_reducible apply pan_then | with_reducible apply pan_in)) (fun x => Ch No w26.drew x) (Ch.refl _ _) ?_
    obtain ⟨w27, ew27⟩ : ∃ x, x = w26.drew := ⟨_, rfl⟩
    rw [← ew27]
    have hc : Ch No w26 w27 := by rw [ew27]; exact Ch.drew _
    have hszw27 : w27.heap.size = w26.heap.size := by rw [ew27]; rfl
    clear ew27
    have hzw27 := hc.size
    have HC := HC.tr hc
    have hrnd := hrnd.no hc
    have hb1 := hb1.ch hc (fun h => h)
    have hb2 := hb2.ch hc (fun h => h)
    have hV5 := hV5.ch hc (by first | exact fun _ _ _ h => h | (intro k hk hF ht; have h2 := hF.1; have h3 := hF.2; first | omega | (dsimp only at *; omega)))
    have hW7 := hW7.no hc
    have hb3 := hb3.ch hc (fun h => h)
    have hS : Ch No w27 w27 := Ch.refl _ _
    refine ws_p rfl rfl rfl rfl (p_fld (j := 0) Tryd.underlying49 rfl ⟨_, by rfl⟩ rfl rfl) ?_
    refine ws_h rfl rfl rfl rfl (p_ld Tryd.underlying47 rfl rfl (fun _ h => h.cell (fun h => h) (cell_at (p := []) (v := (.slice A7 0 c7 : Value)) (r := (([.bool false] ++ ((List.map u8v zeroH) ++ (List.map u8v zeroH))) : List Value)) hb2 (by simp only [List.append_assoc, List.cons_append, List.nil_append, List.append_nil]) (by first | rfl | (simp only [List.length_append, List.length_map, List.length_cons, List.length_nil]; done) | (simp only [List.length_append, List.length_map, List.length_cons, List.length_nil, List.size_toArray]; done))))) ?_
    refine ws_p rfl rfl rfl rfl (p_lenS Tryd.underlying47 rfl) ?_
    refine ws_p rfl rfl rfl rfl (p_eq rfl rfl) ?_
    refine ws_p rfl rfl rfl rfl (p_mv rfl) ?_
    refine ws_know (d := 18) (b' := true) rfl (by simp) ?_
    refine ws_pg rfl (gd_ rfl rfl rfl rfl rfl rfl) rfl rfl (p_fld (j := 1) Tryd.underlying49 rfl ⟨_, by rfl⟩ rfl rfl) ?_
    refine ws_hg rfl (gd_ rfl rfl rfl rfl rfl rfl) rfl rfl (p_ld Tryd.underlying4 rfl rfl (fun _ h => h.cell (fun h => h) (cell_at (p := ([.slice A7 0 c7] : List Value)) (v := (.bool false : Value)) (r := (((List.map u8v zeroH) ++ (List.map u8v zeroH)) : List Value)) hb2 (by simp only [List.append_assoc, List.cons_append, List.nil_append, List.append_nil]) (by first | rfl | (simp only [List.length_append, List.length_map, List.length_cons, List.length_nil]; done) | (simp only [List.length_append, List.length_map, List.length_cons, List.length_nil, List.size_toArray]; done))))) ?_
    refine ws_pg rfl (gd_ rfl rfl rfl rfl rfl rfl) rfl rfl (p_not rfl) ?_
    refine ws_p rfl rfl rfl rfl (p_pickT rfl rfl) ?_
    refine ws_p rfl rfl rfl rfl (p_mv rfl) ?_
    refine ws_pg rfl (gd_ rfl rfl rfl rfl rfl rfl) rfl rfl (p_mv rfl) ?_
    refine ws_p rfl rfl rfl rfl (p_pickT rfl rfl) ?_
    refine ws_p rfl rfl rfl rfl (p_mv rfl) ?_
    refine ws_know (d := 26) (b' := true) rfl (by simp [hco]) ?_
    refine ws_hg rfl (gd_ rfl rfl rfl rfl rfl rfl) rfl rfl (p_ldA (cs := List.map u8v u11) Tryd.underlying38 rfl (szL sz38 (by rw [List.length_map]; exact hu11)) rfl (fun _ h => (rngL (hb3.ch h (fun h => h))))) ?_
    refine ws_eg rfl (gd_ rfl rfl rfl rfl rfl rfl) (e_call ent67 rfl rfl (rtnone_any) ?_)
    rintro _ w28 ⟨rfl, hc⟩
    refine ⟨_, rfl, hc, ?_⟩
    have hzw28 := hc.size
    have HC := HC.tr hc
    have hrnd := hrnd.no hc
    have hb1 := hb1.ch hc (fun h => h)
    have hb2 := hb2.ch hc (fun h => h)
    have hV5 := hV5.ch hc (by first | exact fun _ _ _ h => h | (intro k hk hF ht; have h2 := hF.1; have h3 := hF.2; first | omega | (dsimp only at *; omega)))
    have hW7 := hW7.after hc
    have hb3 := hb3.ch hc (fun h => h)
    refine ws_narrow (S' := fun x => Ch No w28 x) (Ch.refl _ _) (fun x h => hc.tr h) ?_
    refine ws_pg rfl (gd_ rfl rfl rfl rfl rfl rfl) rfl rfl (p_eqH (a := u11) (b := noneH) (by kernel_rfl) Tryd.underlying38 Tryd.underlying5 sz5 rfl rfl (hu11) (noneH_len)) ?_
    refine ws_p rfl rfl rfl rfl (p_pickT rfl rfl) ?_
    refine ws_p rfl rfl rfl rfl (p_as rfl) ?_
    refine ws_n ?_
    refine x_seq ?_
    refine wc_ret ?_
    refine fin_run ((res1 rfl rfl)) ?_
    exact ⟨by congr 2; simp [hcu], HC⟩

set_option maxHeartbeats 1000000 in
set_option maxRecDepth 20000 in
theorem memberChecks_walk {w : World}  {r : List UInt8} {k : List UInt8} {As : Option Addr} {ls cs : Nat} {Fs : Nat → Prop} {st : List Stp} {lf : Bool} {pk pv : List UInt8} (hr : r.length = 32) (hk : k.length = 32) (hst : SI w Fs eST As ls cs st) (hpk : pk.length = 32) (hpv : pv.length = 32) (hls : ls ≤ 4611686018427387904) (hrnd : Sl w (fun k => k = 0) u32v (some ⟨0, 0, none⟩) 64 64 rk) :
    Calls Tryd.prog 5 #[hv r, hv k, .agg (([.slice As ls cs, .bool lf] ++ ((List.map u8v pk) ++ (List.map u8v pv))) : List Value).toArray] w fun e w' => e = .returned (.bool true) ∧ Ch No w w' := by
  have hn0 : 0 < w.heap.size := hrnd.size (by omega) rfl
  have hn1 := hn0
  have hstl := hst.len
  have hst := hst.old
  have HC : Ch No w w := Ch.refl _ _
  refine enter' (args := [hv r, hv k, _]) (n := 123) Tryd.func5 rfl rfl rfl ?_
  refine wc_seq ?_
  refine wc_region ?_
  refine wle rfl (e_box (cs := (List.map u8v r).toArray) rfl rfl rfl (fun w1 g3 hg3 hb3 hc hsz3 => ?_))
  have hzw1 := hc.size
  have HC := HC.tr hc
  have hst := hst.no hc
  have hrnd := hrnd.no hc
  have hge3 : w.heap.size ≤ g3 := by have := HC.size; omega
  have hltg3 := hb3.lt
  refine wle rfl (e_box (cs := (List.map u8v k).toArray) rfl rfl rfl (fun w2 g4 hg4 hb4 hc hsz4 => ?_))
  have hzw2 := hc.size
  have HC := HC.tr hc
  have hst := hst.no hc
  have hrnd := hrnd.no hc
  have hb3 := hb3.ch hc (fun h => h)
  have hge4 : w.heap.size ≤ g4 := by have := HC.size; omega
  have neg3_4 : g3 < g4 := by omega
  have hltg3 := hb3.lt
  have hltg4 := hb4.lt
  refine wle rfl (e_box (cs := (([.slice As ls cs, .bool lf] ++ ((List.map u8v pk) ++ (List.map u8v pv))) : List Value).toArray) rfl rfl rfl (fun w3 g5 hg5 hb5 hc hsz5 => ?_))
  have hzw3 := hc.size
  have HC := HC.tr hc
  have hst := hst.no hc
  have hrnd := hrnd.no hc
  have hb3 := hb3.ch hc (fun h => h)
  have hb4 := hb4.ch hc (fun h => h)
  have hge5 : w.heap.size ≤ g5 := by have := HC.size; omega
  have neg3_5 : g3 < g5 := by omega
  have neg4_5 : g4 < g5 := by omega
  refine wl rfl rfl rfl (p_as rfl) ?_
  refine wl_nil ?_
  refine x_seq ?_
  refine wc_seq ?_
  refine wc_seq ?_
  refine wc_region ?_
  refine wl rfl rfl rfl (p_fld (j := 0) Tryd.underlying49 rfl ⟨_, by rfl⟩ rfl rfl) ?_
  refine wl rfl rfl rfl (p_ld Tryd.underlying47 rfl rfl (ld (cell_at (p := []) (v := (.slice As ls cs : Value)) (r := (([.bool lf] ++ ((List.map u8v pk) ++ (List.map u8v pv))) : List Value)) hb5 (by simp only [List.append_assoc, List.cons_append, List.nil_append, List.append_nil]) (by first | rfl | (simp only [List.length_append, List.length_map, List.length_cons, List.length_nil]; done) | (simp only [List.length_append, List.length_map, List.length_cons, List.length_nil, List.size_toArray]; done))))) ?_
  refine wl rfl rfl rfl (p_lenS Tryd.underlying47 rfl) ?_
  refine wl rfl rfl rfl (p_gt rfl rfl) ?_
  refine wl_nil ?_
  refine x_seq ?_
  refine wc_if rfl (fun c0 => ?_) (fun c0 => ?_)
  ·
    have c0 := of_decide_eq_true c0
    refine wc_seq ?_
    refine wc_region ?_
    refine wle rfl (e_call ent29 rfl rfl (lives12_any hrnd) ?_)
    rintro _ w4 ⟨rfl, hc⟩
    refine ⟨_, rfl, ?_⟩
    have hzw4 := hc.size
    have HC := HC.tr hc
    have hst := hst.no hc
    have hrnd := hrnd.no hc
    have hb3 := hb3.ch hc (fun h => h)
    have hb4 := hb4.ch hc (fun h => h)
    have hb5 := hb5.ch hc (fun h => h)
    refine wl rfl rfl rfl (p_as rfl) ?_
    refine wl_nil ?_
    refine x_seq ?_
    refine wc_ret ?_
    refine x_then_ret ?_
    refine fin_run ((res1 rfl rfl)) ?_
    exact ⟨rfl, HC⟩
  ·
    have c0 := of_decide_eq_false c0
    refine wc_skip ?_
    refine x_seq ?_
    refine wc_seq ?_
    refine wc_region ?_
    refine wl rfl rfl rfl (p_ldA (cs := (([.slice As ls cs, .bool lf] ++ ((List.map u8v pk) ++ (List.map u8v pv))) : List Value)) Tryd.underlying49 rfl (szL sz49 (by first | rfl | (simp only [List.length_append, List.length_map, List.length_cons, List.length_nil, (show List.length pk = 32 from hpk), (show List.length pv = 32 from hpv)]; done) | (simp only [List.length_append, List.length_map, List.length_cons, List.length_nil, List.size_toArray, (show List.length pk = 32 from hpk), (show List.length pv = 32 from hpv)]; done))) rfl (fun _ e => e ▸ rngL hb5)) ?_
    refine wle rfl (e_call ent27 rfl rfl (mplain_any (hst) (hpk) (hpv) (by omega)) ?_)
    rintro _ w5 ⟨A30, l30, c30, rfl, hW30, hc⟩
    refine ⟨_, rfl, ?_⟩
    have hzw5 := hc.size
    have HC := HC.tr hc
    have hst := hst.no hc
    have hrnd := hrnd.no hc
    have hb3 := hb3.ch hc (fun h => h)
    have hb4 := hb4.ch hc (fun h => h)
    have hb5 := hb5.ch hc (fun h => h)
    have hWl30 := hW30.len
    have hltg3 := hb3.lt
    have hltg4 := hb4.lt
    have hltg5 := hb5.lt
    refine wle rfl (e_alloc (cs := (([Value.slice none 0 0, Value.bool false] ++ ((List.map u8v (List.replicate 32 (0 : UInt8))) ++ (List.map u8v (List.replicate 32 (0 : UInt8))))) : List Value).toArray) rfl (by rfl) (by rfl) (fun w6 g7 hg7 hb7 hc hsz7 => ?_))
    have hzw6 := hc.size
    have HC := HC.tr hc
    have hst := hst.no hc
    have hrnd := hrnd.no hc
    have hb3 := hb3.ch hc (fun h => h)
    have hb4 := hb4.ch hc (fun h => h)
    have hb5 := hb5.ch hc (fun h => h)
    have hW30 := hW30.after hc
    have hge7 : w.heap.size ≤ g7 := by have := HC.size; omega
    have neg3_7 : g3 < g7 := by omega
    have neg4_7 : g4 < g7 := by omega
    have neg5_7 : g5 < g7 := by omega
    refine wle rfl (e_stW (vs := (([.slice A30 l30 c30, .bool lf] ++ ((List.map u8v pk) ++ (List.map u8v pv))) : List Value)) (szL sz45 (by first | rfl | (simp only [List.length_append, List.length_map, List.length_cons, List.length_nil, (show List.length pk = 32 from hpk), (show List.length pv = 32 from hpv)]; done) | (simp only [List.length_append, List.length_map, List.length_cons, List.length_nil, List.size_toArray, (show List.length pk = 32 from hpk), (show List.length pv = 32 from hpv)]; done))) (oneA (allOne rfl) (oneA (oneL one_u8 _) (oneL one_u8 _))) rfl rfl hb7 (by first | rfl | (simp only [List.length_append, List.length_map, List.length_cons, List.length_nil, (show List.length (List.replicate 32 (0 : UInt8)) = 32 from (List.length_replicate ..)), (show List.length (List.replicate 32 (0 : UInt8)) = 32 from (List.length_replicate ..)), (show List.length pk = 32 from hpk), (show List.length pv = 32 from hpv)]; done) | (simp only [List.length_append, List.length_map, List.length_cons, List.length_nil, List.size_toArray, (show List.length (List.replicate 32 (0 : UInt8)) = 32 from (List.length_replicate ..)), (show List.length (List.replicate 32 (0 : UInt8)) = 32 from (List.length_replicate ..)), (show List.length pk = 32 from hpk), (show List.length pv = 32 from hpv)]; done)) (fun w7 hb7 hc hsz => ?_))
    have hzw7 := hc.size
    have HC := HC.trans hc (fun _ _ h => h) (fun k hk ht => absurd ht (by omega))
    first | have hst := hst.ch hc (by intro k hk ht; first | omega | (dsimp only at *; omega)) | have hst := hst.chT hc (by intro k hz hk ht; first | omega | (dsimp only at *; omega))
    first | have hrnd := hrnd.ch hc (by intro k hk ht; first | omega | (dsimp only at *; omega)) | have hrnd := hrnd.chT hc (by intro k hz hk ht; first | omega | (dsimp only at *; omega))
    have hb3 := hb3.ch hc (by omega)
    have hb4 := hb4.ch hc (by omega)
    have hb5 := hb5.ch hc (by omega)
    have hW30 := hW30.ch hc (by intro k hz hk ht; first | omega | (dsimp only at *; omega))
    refine wl_nil ?_
    refine x_seq ?_
    refine wc_seq ?_
    refine wc_region ?_
    refine wl rfl rfl rfl (p_ldA (cs := List.map u8v k) Tryd.underlying38 rfl (szL sz38 (by rw [List.length_map]; exact hk)) rfl (fun _ e => e ▸ rngL hb4)) ?_
    refine wl rfl rfl rfl (p_ldA (cs := (([.slice As ls cs, .bool lf] ++ ((List.map u8v pk) ++ (List.map u8v pv))) : List Value)) Tryd.underlying49 rfl (szL sz49 (by first | rfl | (simp only [List.length_append, List.length_map, List.length_cons, List.length_nil, (show List.length pk = 32 from hpk), (show List.length pv = 32 from hpv)]; done) | (simp only [List.length_append, List.length_map, List.length_cons, List.length_nil, List.size_toArray, (show List.length pk = 32 from hpk), (show List.length pv = 32 from hpv)]; done))) rfl (fun _ e => e ▸ rngL hb5)) ?_
    refine wle rfl (e_call ent30 rfl rfl (mclimb_any (hk) (hst) (hpk) (hpv) (by omega) hrnd) ?_)
    rintro _ w8 ⟨u34, ok34, rfl, hu34, hcl34, hc⟩
    refine ⟨_, rfl, ?_⟩
    have hzw8 := hc.size
    have HC := HC.tr hc
    have hst := hst.no hc
    have hrnd := hrnd.no hc
    have hb3 := hb3.ch hc (fun h => h)
    have hb4 := hb4.ch hc (fun h => h)
    have hb5 := hb5.ch hc (fun h => h)
    have hW30 := hW30.after hc
    have hb7 := hb7.ch hc (fun h => h)
    refine wl rfl rfl rfl (p_mv rfl) ?_
    refine wl rfl rfl rfl (p_ext rfl rfl) ?_
    refine wl rfl rfl rfl (p_ext rfl rfl) ?_
    have hltg3 := hb3.lt
    have hltg4 := hb4.lt
    have hltg5 := hb5.lt
    have hltg7 := hb7.lt
    refine wle rfl (e_alloc (cs := ((List.replicate 32 (0 : UInt8)).map u8v).toArray) rfl (by rfl) rfl (fun w9 g8 hg8 hb8 hc hsz8 => ?_))
    have hzw9 := hc.size
    have HC := HC.tr hc
    have hst := hst.no hc
    have hrnd := hrnd.no hc
    have hb3 := hb3.ch hc (fun h => h)
    have hb4 := hb4.ch hc (fun h => h)
    have hb5 := hb5.ch hc (fun h => h)
    have hW30 := hW30.after hc
    have hb7 := hb7.ch hc (fun h => h)
    have hge8 : w.heap.size ≤ g8 := by have := HC.size; omega
    have neg3_8 : g3 < g8 := by omega
    have neg4_8 : g4 < g8 := by omega
    have neg5_8 : g5 < g8 := by omega
    have neg7_8 : g7 < g8 := by omega
    refine wle rfl (e_stW (vs := List.map u8v u34) (szL sz38 (by rw [List.length_map]; exact hu34)) (oneL one_u8 _) rfl rfl hb8 (by simp only [List.size_toArray, List.length_map]; first | done | exact ((List.length_replicate ..)).trans (hu34).symm) (fun w10 hb8 hc hsz => ?_))
    have hzw10 := hc.size
    have HC := HC.trans hc (fun _ _ h => h) (fun k hk ht => absurd ht (by omega))
    first | have hst := hst.ch hc (by intro k hk ht; first | omega | (dsimp only at *; omega)) | have hst := hst.chT hc (by intro k hz hk ht; first | omega | (dsimp only at *; omega))
    first | have hrnd := hrnd.ch hc (by intro k hk ht; first | omega | (dsimp only at *; omega)) | have hrnd := hrnd.chT hc (by intro k hz hk ht; first | omega | (dsimp only at *; omega))
    have hb3 := hb3.ch hc (by omega)
    have hb4 := hb4.ch hc (by omega)
    have hb5 := hb5.ch hc (by omega)
    have hW30 := hW30.ch hc (by intro k hz hk ht; first | omega | (dsimp only at *; omega))
    have hb7 := hb7.ch hc (by omega)
    refine wl rfl rfl rfl (p_as rfl) ?_
    refine wl_nil ?_
    refine x_seq ?_
    refine wc_seq ?_
    refine wc_region ?_
    refine wl rfl rfl rfl (p_ldA (cs := List.map u8v k) Tryd.underlying38 rfl (szL sz38 (by rw [List.length_map]; exact hk)) rfl (fun _ e => e ▸ rngL hb4)) ?_
    refine wl rfl rfl rfl (p_ldA (cs := (([.slice A30 l30 c30, .bool lf] ++ ((List.map u8v pk) ++ (List.map u8v pv))) : List Value)) Tryd.underlying45 rfl (szL sz45 (by first | rfl | (simp only [List.length_append, List.length_map, List.length_cons, List.length_nil, (show List.length pk = 32 from hpk), (show List.length pv = 32 from hpv)]; done) | (simp only [List.length_append, List.length_map, List.length_cons, List.length_nil, List.size_toArray, (show List.length pk = 32 from hpk), (show List.length pv = 32 from hpv)]; done))) rfl (fun _ e => e ▸ rngL hb7)) ?_
    refine wle rfl (e_call ent31 rfl rfl (rclimb_any (hk) (hW30.si) (hpk) (hpv) (by omega)) ?_)
    rintro _ w11 ⟨u40, ok40, rfl, hu40, hcl40, hc⟩
    refine ⟨_, rfl, ?_⟩
    have hzw11 := hc.size
    have HC := HC.tr hc
    have hst := hst.no hc
    have hrnd := hrnd.no hc
    have hb3 := hb3.ch hc (fun h => h)
    have hb4 := hb4.ch hc (fun h => h)
    have hb5 := hb5.ch hc (fun h => h)
    have hW30 := hW30.after hc
    have hb7 := hb7.ch hc (fun h => h)
    have hb8 := hb8.ch hc (fun h => h)
    have hq1 : (u40, ok40) = (u34, ok34) := hcl40.trans hcl34.symm
    injection hq1 with hq1 hq2
    refine wl rfl rfl rfl (p_mv rfl) ?_
    refine wl rfl rfl rfl (p_ext rfl rfl) ?_
    refine wl rfl rfl rfl (p_ext rfl rfl) ?_
    have hltg3 := hb3.lt
    have hltg4 := hb4.lt
    have hltg5 := hb5.lt
    have hltg7 := hb7.lt
    have hltg8 := hb8.lt
    refine wle rfl (e_alloc (cs := ((List.replicate 32 (0 : UInt8)).map u8v).toArray) rfl (by rfl) rfl (fun w12 g10 hg10 hb10 hc hsz10 => ?_))
    have hzw12 := hc.size
    have HC := HC.tr hc
    have hst := hst.no hc
    have hrnd := hrnd.no hc
    have hb3 := hb3.ch hc (fun h => h)
    have hb4 := hb4.ch hc (fun h => h)
    have hb5 := hb5.ch hc (fun h => h)
    have hW30 := hW30.after hc
    have hb7 := hb7.ch hc (fun h => h)
    have hb8 := hb8.ch hc (fun h => h)
    have hge10 : w.heap.size ≤ g10 := by have := HC.size; omega
    have neg3_10 : g3 < g10 := by omega
    have neg4_10 : g4 < g10 := by omega
    have neg5_10 : g5 < g10 := by omega
    have neg7_10 : g7 < g10 := by omega
    have neg8_10 : g8 < g10 := by omega
    refine wle rfl (e_stW (vs := List.map u8v u40) (szL sz38 (by rw [List.length_map]; exact hu40)) (oneL one_u8 _) rfl rfl hb10 (by simp only [List.size_toArray, List.length_map]; first | done | exact ((List.length_replicate ..)).trans (hu40).symm) (fun w13 hb10 hc hsz => ?_))
    have hzw13 := hc.size
    have HC := HC.trans hc (fun _ _ h => h) (fun k hk ht => absurd ht (by omega))
    first | have hst := hst.ch hc (by intro k hk ht; first | omega | (dsimp only at *; omega)) | have hst := hst.chT hc (by intro k hz hk ht; first | omega | (dsimp only at *; omega))
    first | have hrnd := hrnd.ch hc (by intro k hk ht; first | omega | (dsimp only at *; omega)) | have hrnd := hrnd.chT hc (by intro k hz hk ht; first | omega | (dsimp only at *; omega))
    have hb3 := hb3.ch hc (by omega)
    have hb4 := hb4.ch hc (by omega)
    have hb5 := hb5.ch hc (by omega)
    have hW30 := hW30.ch hc (by intro k hz hk ht; first | omega | (dsimp only at *; omega))
    have hb7 := hb7.ch hc (by omega)
    have hb8 := hb8.ch hc (by omega)
    refine wl rfl rfl rfl (p_as rfl) ?_
    refine wl_nil ?_
    refine x_seq ?_
    refine wc_seq ?_
    refine wc_region ?_
    refine wl rfl rfl rfl (p_ldA (cs := List.map u8v r) Tryd.underlying38 rfl (szL sz38 (by rw [List.length_map]; exact hr)) rfl (fun _ e => e ▸ rngL hb3)) ?_
    refine wl rfl rfl rfl (p_ldA (cs := List.map u8v k) Tryd.underlying38 rfl (szL sz38 (by rw [List.length_map]; exact hk)) rfl (fun _ e => e ▸ rngL hb4)) ?_
    refine wl rfl rfl rfl (p_ldA (cs := (([.slice As ls cs, .bool lf] ++ ((List.map u8v pk) ++ (List.map u8v pv))) : List Value)) Tryd.underlying49 rfl (szL sz49 (by first | rfl | (simp only [List.length_append, List.length_map, List.length_cons, List.length_nil, (show List.length pk = 32 from hpk), (show List.length pv = 32 from hpv)]; done) | (simp only [List.length_append, List.length_map, List.length_cons, List.length_nil, List.size_toArray, (show List.length pk = 32 from hpk), (show List.length pv = 32 from hpv)]; done))) rfl (fun _ e => e ▸ rngL hb5)) ?_
    refine wle rfl (e_call ent32 rfl rfl (mcheck_any (hr) (hk) (hst) (hpk) (hpv) (by omega) hrnd) ?_)
    rintro _ w14 ⟨u47, a47, b47, rfl, hu47, hck47, hc⟩
    refine ⟨_, rfl, ?_⟩
    have hzw14 := hc.size
    have HC := HC.tr hc
    have hst := hst.no hc
    have hrnd := hrnd.no hc
    have hb3 := hb3.ch hc (fun h => h)
    have hb4 := hb4.ch hc (fun h => h)
    have hb5 := hb5.ch hc (fun h => h)
    have hW30 := hW30.after hc
    have hb7 := hb7.ch hc (fun h => h)
    have hb8 := hb8.ch hc (fun h => h)
    have hb10 := hb10.ch hc (fun h => h)
    refine wl rfl rfl rfl (p_mv rfl) ?_
    refine wl rfl rfl rfl (p_ext rfl rfl) ?_
    refine wl rfl rfl rfl (p_ext rfl rfl) ?_
    refine wl rfl rfl rfl (p_ext rfl rfl) ?_
    have hltg3 := hb3.lt
    have hltg4 := hb4.lt
    have hltg5 := hb5.lt
    have hltg7 := hb7.lt
    have hltg8 := hb8.lt
    have hltg10 := hb10.lt
    refine wle rfl (e_alloc (cs := ((List.replicate 32 (0 : UInt8)).map u8v).toArray) rfl (by rfl) rfl (fun w15 g12 hg12 hb12 hc hsz12 => ?_))
    have hzw15 := hc.size
    have HC := HC.tr hc
    have hst := hst.no hc
    have hrnd := hrnd.no hc
    have hb3 := hb3.ch hc (fun h => h)
    have hb4 := hb4.ch hc (fun h => h)
    have hb5 := hb5.ch hc (fun h => h)
    have hW30 := hW30.after hc
    have hb7 := hb7.ch hc (fun h => h)
    have hb8 := hb8.ch hc (fun h => h)
    have hb10 := hb10.ch hc (fun h => h)
    have hge12 : w.heap.size ≤ g12 := by have := HC.size; omega
    have neg3_12 : g3 < g12 := by omega
    have neg4_12 : g4 < g12 := by omega
    have neg5_12 : g5 < g12 := by omega
    have neg7_12 : g7 < g12 := by omega
    have neg8_12 : g8 < g12 := by omega
    have neg10_12 : g10 < g12 := by omega
    refine wle rfl (e_stW (vs := List.map u8v u47) (szL sz38 (by rw [List.length_map]; exact hu47)) (oneL one_u8 _) rfl rfl hb12 (by simp only [List.size_toArray, List.length_map]; first | done | exact ((List.length_replicate ..)).trans (hu47).symm) (fun w16 hb12 hc hsz => ?_))
    have hzw16 := hc.size
    have HC := HC.trans hc (fun _ _ h => h) (fun k hk ht => absurd ht (by omega))
    first | have hst := hst.ch hc (by intro k hk ht; first | omega | (dsimp only at *; omega)) | have hst := hst.chT hc (by intro k hz hk ht; first | omega | (dsimp only at *; omega))
    first | have hrnd := hrnd.ch hc (by intro k hk ht; first | omega | (dsimp only at *; omega)) | have hrnd := hrnd.chT hc (by intro k hz hk ht; first | omega | (dsimp only at *; omega))
    have hb3 := hb3.ch hc (by omega)
    have hb4 := hb4.ch hc (by omega)
    have hb5 := hb5.ch hc (by omega)
    have hW30 := hW30.ch hc (by intro k hz hk ht; first | omega | (dsimp only at *; omega))
    have hb7 := hb7.ch hc (by omega)
    have hb8 := hb8.ch hc (by omega)
    have hb10 := hb10.ch hc (by omega)
    refine wl rfl rfl rfl (p_as rfl) ?_
    refine wl rfl rfl rfl (p_as rfl) ?_
    refine wl_nil ?_
    refine x_seq ?_
    refine wc_seq ?_
    refine wc_region ?_
    refine wl rfl rfl rfl (p_ldA (cs := List.map u8v r) Tryd.underlying38 rfl (szL sz38 (by rw [List.length_map]; exact hr)) rfl (fun _ e => e ▸ rngL hb3)) ?_
    refine wl rfl rfl rfl (p_ldA (cs := List.map u8v k) Tryd.underlying38 rfl (szL sz38 (by rw [List.length_map]; exact hk)) rfl (fun _ e => e ▸ rngL hb4)) ?_
    refine wl rfl rfl rfl (p_ldA (cs := (([.slice A30 l30 c30, .bool lf] ++ ((List.map u8v pk) ++ (List.map u8v pv))) : List Value)) Tryd.underlying45 rfl (szL sz45 (by first | rfl | (simp only [List.length_append, List.length_map, List.length_cons, List.length_nil, (show List.length pk = 32 from hpk), (show List.length pv = 32 from hpv)]; done) | (simp only [List.length_append, List.length_map, List.length_cons, List.length_nil, List.size_toArray, (show List.length pk = 32 from hpk), (show List.length pv = 32 from hpv)]; done))) rfl (fun _ e => e ▸ rngL hb7)) ?_
    refine wle rfl (e_call ent33 rfl rfl (rcheck_any (hr) (hk) (hW30.si) (hpk) (hpv) (by omega)) ?_)
    rintro _ w17 ⟨u55, a55, b55, rfl, hu55, hck55, hc⟩
    refine ⟨_, rfl, ?_⟩
    have hzw17 := hc.size
    have HC := HC.tr hc
    have hst := hst.no hc
    have hrnd := hrnd.no hc
    have hb3 := hb3.ch hc (fun h => h)
    have hb4 := hb4.ch hc (fun h => h)
    have hb5 := hb5.ch hc (fun h => h)
    have hW30 := hW30.after hc
    have hb7 := hb7.ch hc (fun h => h)
    have hb8 := hb8.ch hc (fun h => h)
    have hb10 := hb10.ch hc (fun h => h)
    have hb12 := hb12.ch hc (fun h => h)
    have hq3 : (u55, a55, b55) = (u47, a47, b47) := hck55.trans hck47.symm
    injection hq3 with hq3 hq4
    injection hq4 with hq4 hq5
    refine wl rfl rfl rfl (p_mv rfl) ?_
    refine wl rfl rfl rfl (p_ext rfl rfl) ?_
    refine wl rfl rfl rfl (p_ext rfl rfl) ?_
    refine wl rfl rfl rfl (p_ext rfl rfl) ?_
    have hltg3 := hb3.lt
    have hltg4 := hb4.lt
    have hltg5 := hb5.lt
    have hltg7 := hb7.lt
    have hltg8 := hb8.lt
    have hltg10 := hb10.lt
    have hltg12 := hb12.lt
    refine wle rfl (e_alloc (cs := ((List.replicate 32 (0 : UInt8)).map u8v).toArray) rfl (by rfl) rfl (fun w18 g15 hg15 hb15 hc hsz15 => ?_))
    have hzw18 := hc.size
    have HC := HC.tr hc
    have hst := hst.no hc
    have hrnd := hrnd.no hc
    have hb3 := hb3.ch hc (fun h => h)
    have hb4 := hb4.ch hc (fun h => h)
    have hb5 := hb5.ch hc (fun h => h)
    have hW30 := hW30.after hc
    have hb7 := hb7.ch hc (fun h => h)
    have hb8 := hb8.ch hc (fun h => h)
    have hb10 := hb10.ch hc (fun h => h)
    have hb12 := hb12.ch hc (fun h => h)
    have hge15 : w.heap.size ≤ g15 := by have := HC.size; omega
    have neg3_15 : g3 < g15 := by omega
    have neg4_15 : g4 < g15 := by omega
    have neg5_15 : g5 < g15 := by omega
    have neg7_15 : g7 < g15 := by omega
    have neg8_15 : g8 < g15 := by omega
    have neg10_15 : g10 < g15 := by omega
    have neg12_15 : g12 < g15 := by omega
    refine wle rfl (e_stW (vs := List.map u8v u55) (szL sz38 (by rw [List.length_map]; exact hu55)) (oneL one_u8 _) rfl rfl hb15 (by simp only [List.size_toArray, List.length_map]; first | done | exact ((List.length_replicate ..)).trans (hu55).symm) (fun w19 hb15 hc hsz => ?_))
    have hzw19 := hc.size
    have HC := HC.trans hc (fun _ _ h => h) (fun k hk ht => absurd ht (by omega))
    first | have hst := hst.ch hc (by intro k hk ht; first | omega | (dsimp only at *; omega)) | have hst := hst.chT hc (by intro k hz hk ht; first | omega | (dsimp only at *; omega))
    first | have hrnd := hrnd.ch hc (by intro k hk ht; first | omega | (dsimp only at *; omega)) | have hrnd := hrnd.chT hc (by intro k hz hk ht; first | omega | (dsimp only at *; omega))
    have hb3 := hb3.ch hc (by omega)
    have hb4 := hb4.ch hc (by omega)
    have hb5 := hb5.ch hc (by omega)
    have hW30 := hW30.ch hc (by intro k hz hk ht; first | omega | (dsimp only at *; omega))
    have hb7 := hb7.ch hc (by omega)
    have hb8 := hb8.ch hc (by omega)
    have hb10 := hb10.ch hc (by omega)
    have hb12 := hb12.ch hc (by omega)
    refine wl rfl rfl rfl (p_as rfl) ?_
    refine wl rfl rfl rfl (p_as rfl) ?_
    refine wl_nil ?_
    refine x_seq ?_
    refine wc_seq ?_
    refine wc_region ?_
    refine wl rfl rfl rfl (p_ldA (cs := List.map u8v u40) Tryd.underlying38 rfl (szL sz38 (by rw [List.length_map]; exact hu40)) rfl (fun _ e => e ▸ rngL hb10)) ?_
    refine wl rfl rfl rfl (p_ldA (cs := List.map u8v k) Tryd.underlying38 rfl (szL sz38 (by rw [List.length_map]; exact hk)) rfl (fun _ e => e ▸ rngL hb4)) ?_
    refine wl rfl rfl rfl (p_ldA (cs := (([.slice As ls cs, .bool lf] ++ ((List.map u8v pk) ++ (List.map u8v pv))) : List Value)) Tryd.underlying49 rfl (szL sz49 (by first | rfl | (simp only [List.length_append, List.length_map, List.length_cons, List.length_nil, (show List.length pk = 32 from hpk), (show List.length pv = 32 from hpv)]; done) | (simp only [List.length_append, List.length_map, List.length_cons, List.length_nil, List.size_toArray, (show List.length pk = 32 from hpk), (show List.length pv = 32 from hpv)]; done))) rfl (fun _ e => e ▸ rngL hb5)) ?_
    refine wle rfl (e_call ent32 rfl rfl (mcheck_any (hu40) (hk) (hst) (hpk) (hpv) (by omega) hrnd) ?_)
    rintro _ w20 ⟨u63, a63, b63, rfl, hu63, hck63, hc⟩
    refine ⟨_, rfl, ?_⟩
    have hzw20 := hc.size
    have HC := HC.tr hc
    have hst := hst.no hc
    have hrnd := hrnd.no hc
    have hb3 := hb3.ch hc (fun h => h)
    have hb4 := hb4.ch hc (fun h => h)
    have hb5 := hb5.ch hc (fun h => h)
    have hW30 := hW30.after hc
    have hb7 := hb7.ch hc (fun h => h)
    have hb8 := hb8.ch hc (fun h => h)
    have hb10 := hb10.ch hc (fun h => h)
    have hb12 := hb12.ch hc (fun h => h)
    have hb15 := hb15.ch hc (fun h => h)
    refine wl rfl rfl rfl (p_mv rfl) ?_
    refine wl rfl rfl rfl (p_ext rfl rfl) ?_
    refine wl rfl rfl rfl (p_ext rfl rfl) ?_
    refine wl rfl rfl rfl (p_ext rfl rfl) ?_
    have hltg3 := hb3.lt
    have hltg4 := hb4.lt
    have hltg5 := hb5.lt
    have hltg7 := hb7.lt
    have hltg8 := hb8.lt
    have hltg10 := hb10.lt
    have hltg12 := hb12.lt
    have hltg15 := hb15.lt
    refine wle rfl (e_alloc (cs := ((List.replicate 32 (0 : UInt8)).map u8v).toArray) rfl (by rfl) rfl (fun w21 g18 hg18 hb18 hc hsz18 => ?_))
    have hzw21 := hc.size
    have HC := HC.tr hc
    have hst := hst.no hc
    have hrnd := hrnd.no hc
    have hb3 := hb3.ch hc (fun h => h)
    have hb4 := hb4.ch hc (fun h => h)
    have hb5 := hb5.ch hc (fun h => h)
    have hW30 := hW30.after hc
    have hb7 := hb7.ch hc (fun h => h)
    have hb8 := hb8.ch hc (fun h => h)
    have hb10 := hb10.ch hc (fun h => h)
    have hb12 := hb12.ch hc (fun h => h)
    have hb15 := hb15.ch hc (fun h => h)
    have hge18 : w.heap.size ≤ g18 := by have := HC.size; omega
    have neg3_18 : g3 < g18 := by omega
    have neg4_18 : g4 < g18 := by omega
    have neg5_18 : g5 < g18 := by omega
    have neg7_18 : g7 < g18 := by omega
    have neg8_18 : g8 < g18 := by omega
    have neg10_18 : g10 < g18 := by omega
    have neg12_18 : g12 < g18 := by omega
    have neg15_18 : g15 < g18 := by omega
    refine wle rfl (e_stW (vs := List.map u8v u63) (szL sz38 (by rw [List.length_map]; exact hu63)) (oneL one_u8 _) rfl rfl hb18 (by simp only [List.size_toArray, List.length_map]; first | done | exact ((List.length_replicate ..)).trans (hu63).symm) (fun w22 hb18 hc hsz => ?_))
    have hzw22 := hc.size
    have HC := HC.trans hc (fun _ _ h => h) (fun k hk ht => absurd ht (by omega))
    first | have hst := hst.ch hc (by intro k hk ht; first | omega | (dsimp only at *; omega)) | have hst := hst.chT hc (by intro k hz hk ht; first | omega | (dsimp only at *; omega))
    first | have hrnd := hrnd.ch hc (by intro k hk ht; first | omega | (dsimp only at *; omega)) | have hrnd := hrnd.chT hc (by intro k hz hk ht; first | omega | (dsimp only at *; omega))
    have hb3 := hb3.ch hc (by omega)
    have hb4 := hb4.ch hc (by omega)
    have hb5 := hb5.ch hc (by omega)
    have hW30 := hW30.ch hc (by intro k hz hk ht; first | omega | (dsimp only at *; omega))
    have hb7 := hb7.ch hc (by omega)
    have hb8 := hb8.ch hc (by omega)
    have hb10 := hb10.ch hc (by omega)
    have hb12 := hb12.ch hc (by omega)
    have hb15 := hb15.ch hc (by omega)
    refine wl rfl rfl rfl (p_as rfl) ?_
    refine wl rfl rfl rfl (p_as rfl) ?_
    refine wl_nil ?_
    refine x_seq ?_
    refine wc_seq ?_
    refine wc_region ?_
    refine wl rfl rfl rfl (p_ldA (cs := List.map u8v u40) Tryd.underlying38 rfl (szL sz38 (by rw [List.length_map]; exact hu40)) rfl (fun _ e => e ▸ rngL hb10)) ?_
    refine wl rfl rfl rfl (p_ldA (cs := List.map u8v k) Tryd.underlying38 rfl (szL sz38 (by rw [List.length_map]; exact hk)) rfl (fun _ e => e ▸ rngL hb4)) ?_
    refine wl rfl rfl rfl (p_ldA (cs := (([.slice A30 l30 c30, .bool lf] ++ ((List.map u8v pk) ++ (List.map u8v pv))) : List Value)) Tryd.underlying45 rfl (szL sz45 (by first | rfl | (simp only [List.length_append, List.length_map, List.length_cons, List.length_nil, (show List.length pk = 32 from hpk), (show List.length pv = 32 from hpv)]; done) | (simp only [List.length_append, List.length_map, List.length_cons, List.length_nil, List.size_toArray, (show List.length pk = 32 from hpk), (show List.length pv = 32 from hpv)]; done))) rfl (fun _ e => e ▸ rngL hb7)) ?_
    refine wle rfl (e_call ent33 rfl rfl (rcheck_any (hu40) (hk) (hW30.si) (hpk) (hpv) (by omega)) ?_)
    rintro _ w23 ⟨u71, a71, b71, rfl, hu71, hck71, hc⟩
    refine ⟨_, rfl, ?_⟩
    have hzw23 := hc.size
    have HC := HC.tr hc
    have hst := hst.no hc
    have hrnd := hrnd.no hc
    have hb3 := hb3.ch hc (fun h => h)
    have hb4 := hb4.ch hc (fun h => h)
    have hb5 := hb5.ch hc (fun h => h)
    have hW30 := hW30.after hc
    have hb7 := hb7.ch hc (fun h => h)
    have hb8 := hb8.ch hc (fun h => h)
    have hb10 := hb10.ch hc (fun h => h)
    have hb12 := hb12.ch hc (fun h => h)
    have hb15 := hb15.ch hc (fun h => h)
    have hb18 := hb18.ch hc (fun h => h)
    have hq6 : (u71, a71, b71) = (u63, a63, b63) := hck71.trans hck63.symm
    injection hq6 with hq6 hq7
    injection hq7 with hq7 hq8
    refine wl rfl rfl rfl (p_mv rfl) ?_
    refine wl rfl rfl rfl (p_ext rfl rfl) ?_
    refine wl rfl rfl rfl (p_ext rfl rfl) ?_
    refine wl rfl rfl rfl (p_ext rfl rfl) ?_
    have hltg3 := hb3.lt
    have hltg4 := hb4.lt
    have hltg5 := hb5.lt
    have hltg7 := hb7.lt
    have hltg8 := hb8.lt
    have hltg10 := hb10.lt
    have hltg12 := hb12.lt
    have hltg15 := hb15.lt
    have hltg18 := hb18.lt
    refine wle rfl (e_alloc (cs := ((List.replicate 32 (0 : UInt8)).map u8v).toArray) rfl (by rfl) rfl (fun w24 g21 hg21 hb21 hc hsz21 => ?_))
    have hzw24 := hc.size
    have HC := HC.tr hc
    have hst := hst.no hc
    have hrnd := hrnd.no hc
    have hb3 := hb3.ch hc (fun h => h)
    have hb4 := hb4.ch hc (fun h => h)
    have hb5 := hb5.ch hc (fun h => h)
    have hW30 := hW30.after hc
    have hb7 := hb7.ch hc (fun h => h)
    have hb8 := hb8.ch hc (fun h => h)
    have hb10 := hb10.ch hc (fun h => h)
    have hb12 := hb12.ch hc (fun h => h)
    have hb15 := hb15.ch hc (fun h => h)
    have hb18 := hb18.ch hc (fun h => h)
    have hge21 : w.heap.size ≤ g21 := by have := HC.size; omega
    have neg3_21 : g3 < g21 := by omega
    have neg4_21 : g4 < g21 := by omega
    have neg5_21 : g5 < g21 := by omega
    have neg7_21 : g7 < g21 := by omega
    have neg8_21 : g8 < g21 := by omega
    have neg10_21 : g10 < g21 := by omega
    have neg12_21 : g12 < g21 := by omega
    have neg15_21 : g15 < g21 := by omega
    have neg18_21 : g18 < g21 := by omega
    refine wle rfl (e_stW (vs := List.map u8v u71) (szL sz38 (by rw [List.length_map]; exact hu71)) (oneL one_u8 _) rfl rfl hb21 (by simp only [List.size_toArray, List.length_map]; first | done | exact ((List.length_replicate ..)).trans (hu71).symm) (fun w25 hb21 hc hsz => ?_))
    have hzw25 := hc.size
    have HC := HC.trans hc (fun _ _ h => h) (fun k hk ht => absurd ht (by omega))
    first | have hst := hst.ch hc (by intro k hk ht; first | omega | (dsimp only at *; omega)) | have hst := hst.chT hc (by intro k hz hk ht; first | omega | (dsimp only at *; omega))
    first | have hrnd := hrnd.ch hc (by intro k hk ht; first | omega | (dsimp only at *; omega)) | have hrnd := hrnd.chT hc (by intro k hz hk ht; first | omega | (dsimp only at *; omega))
    have hb3 := hb3.ch hc (by omega)
    have hb4 := hb4.ch hc (by omega)
    have hb5 := hb5.ch hc (by omega)
    have hW30 := hW30.ch hc (by intro k hz hk ht; first | omega | (dsimp only at *; omega))
    have hb7 := hb7.ch hc (by omega)
    have hb8 := hb8.ch hc (by omega)
    have hb10 := hb10.ch hc (by omega)
    have hb12 := hb12.ch hc (by omega)
    have hb15 := hb15.ch hc (by omega)
    have hb18 := hb18.ch hc (by omega)
    refine wl rfl rfl rfl (p_as rfl) ?_
    refine wl rfl rfl rfl (p_as rfl) ?_
    refine wl_nil ?_
    refine x_seq ?_
    refine wc_seq ?_
    refine wc_draw (.st 0 1 (.st 2 1 (.st 1 2 (.st 3 2 (.st 4 0 (.st 5 0 (.st 6 1 (.st 7 1 (.st 8 0 (.st 9 0 (.st 10 0 (.st 11 0 (.st 12 0 (.st 13 0 (.st 14 0 (.st 15 0 (.st 16 1 (.st 17 1 (.st 18 0 (.st 19 0 (.st 20 0 (.st 21 0 (.st 22 0 (.st 23 0 (.st 24 0 (.st 25 0 (.st 26 0 (.st 27 0 (.st 28 0 (.st 29 0 (.st 30 0 (.st 31 1 (.st 32 1 (.st 33 0 (.st 34 0 (.st 35 0 (.st 36 0 (.st 37 0 (.st 38 0 (.st 39 0 (.st 40 0 (.st 41 0 (.st 42 0 (.st 43 0 (.st 44 0 (.st 45 0 (.st 46 2 (.st 47 0 (.st 48 0 .nil))))))))))))))))))))))))))))))))))))))))))))))))) 49 (by kernel_rfl) (by kernel_rfl) (by kernel_rfl) (by repeat (first | with_reducible exact pan_body | with_reducible apply pan_then | with_reducible apply pan_in)) (fun x => Ch No w25.drew x) (Ch.refl _ _) ?_
    obtain ⟨w26, ew26⟩ : ∃ x, x = w25.drew := ⟨_, rfl⟩
    rw [← ew26]
    have hc : Ch No w25 w26 := by rw [ew26]; exact Ch.drew _
    have hszw26 : w26.heap.size = w25.heap.size := by rw [ew26]; rfl
    clear ew26
    have hzw26 := hc.size
    have HC := HC.tr hc
    have hst := hst.no hc
    have hrnd := hrnd.no hc
    have hb3 := hb3.ch hc (fun h => h)
    have hb4 := hb4.ch hc (fun h => h)
    have hb5 := hb5.ch hc (fun h => h)
    have hW30 := hW30.no hc
    have hb7 := hb7.ch hc (fun h => h)
    have hb8 := hb8.ch hc (fun h => h)
    have hb10 := hb10.ch hc (fun h => h)
    have hb12 := hb12.ch hc (fun h => h)
    have hb15 := hb15.ch hc (fun h => h)
    have hb18 := hb18.ch hc (fun h => h)
    have hb21 := hb21.ch hc (fun h => h)
    have hS : Ch No w26 w26 := Ch.refl _ _
    refine ws_h rfl rfl rfl rfl (p_ldA (cs := (([.slice As ls cs, .bool lf] ++ ((List.map u8v pk) ++ (List.map u8v pv))) : List Value)) Tryd.underlying49 rfl (szL sz49 (by first | rfl | (simp only [List.length_append, List.length_map, List.length_cons, List.length_nil, (show List.length pk = 32 from hpk), (show List.length pv = 32 from hpv)]; done) | (simp only [List.length_append, List.length_map, List.length_cons, List.length_nil, List.size_toArray, (show List.length pk = 32 from hpk), (show List.length pv = 32 from hpv)]; done))) rfl (fun _ h => (rngL (hb5.ch h (fun h => h))))) ?_
    refine ws_h rfl rfl rfl rfl (p_ldA (cs := (([.slice A30 l30 c30, .bool lf] ++ ((List.map u8v pk) ++ (List.map u8v pv))) : List Value)) Tryd.underlying45 rfl (szL sz45 (by first | rfl | (simp only [List.length_append, List.length_map, List.length_cons, List.length_nil, (show List.length pk = 32 from hpk), (show List.length pv = 32 from hpv)]; done) | (simp only [List.length_append, List.length_map, List.length_cons, List.length_nil, List.size_toArray, (show List.length pk = 32 from hpk), (show List.length pv = 32 from hpv)]; done))) rfl (fun _ h => (rngL (hb7.ch h (fun h => h))))) ?_
    refine ws_e rfl rfl (e_call ent34 rfl rfl (mgood_any (hst) (hpk) (hpv) (by omega)) ?_)
    rintro _ w27 ⟨rfl, hc⟩
    refine ⟨_, rfl, hc, ?_⟩
    have hzw27 := hc.size
    have HC := HC.tr hc
    have hst := hst.no hc
    have hrnd := hrnd.no hc
    have hb3 := hb3.ch hc (fun h => h)
    have hb4 := hb4.ch hc (fun h => h)
    have hb5 := hb5.ch hc (fun h => h)
    have hW30 := hW30.after hc
    have hb7 := hb7.ch hc (fun h => h)
    have hb8 := hb8.ch hc (fun h => h)
    have hb10 := hb10.ch hc (fun h => h)
    have hb12 := hb12.ch hc (fun h => h)
    have hb15 := hb15.ch hc (fun h => h)
    have hb18 := hb18.ch hc (fun h => h)
    have hb21 := hb21.ch hc (fun h => h)
    refine ws_narrow (S' := fun x => Ch No w27 x) (Ch.refl _ _) (fun x h => hc.tr h) ?_
    refine ws_e rfl rfl (e_call ent35 rfl rfl (rgood_any (hW30.si) (hpk) (hpv) (by omega)) ?_)
    rintro _ w28 ⟨rfl, hc⟩
    refine ⟨_, rfl, hc, ?_⟩
    have hzw28 := hc.size
    have HC := HC.tr hc
    have hst := hst.no hc
    have hrnd := hrnd.no hc
    have hb3 := hb3.ch hc (fun h => h)
    have hb4 := hb4.ch hc (fun h => h)
    have hb5 := hb5.ch hc (fun h => h)
    have hW30 := hW30.after hc
    have hb7 := hb7.ch hc (fun h => h)
    have hb8 := hb8.ch hc (fun h => h)
    have hb10 := hb10.ch hc (fun h => h)
    have hb12 := hb12.ch hc (fun h => h)
    have hb15 := hb15.ch hc (fun h => h)
    have hb18 := hb18.ch hc (fun h => h)
    have hb21 := hb21.ch hc (fun h => h)
    refine ws_narrow (S' := fun x => Ch No w28 x) (Ch.refl _ _) (fun x h => hc.tr h) ?_
    refine ws_p rfl rfl rfl rfl (p_eqB rfl rfl Tryd.underlying4) ?_
    refine ws_p rfl rfl rfl rfl (p_mv rfl) ?_
    refine ws_know (d := 80) (b' := true) rfl (by simp) ?_
    refine ws_hg rfl (gd_ rfl rfl rfl rfl rfl rfl) rfl rfl (p_ldA (cs := List.map u8v u34) Tryd.underlying38 rfl (szL sz38 (by rw [List.length_map]; exact hu34)) rfl (fun _ h => (rngL (hb8.ch h (fun h => h))))) ?_
    refine ws_hg rfl (gd_ rfl rfl rfl rfl rfl rfl) rfl rfl (p_ldA (cs := List.map u8v u40) Tryd.underlying38 rfl (szL sz38 (by rw [List.length_map]; exact hu40)) rfl (fun _ h => (rngL (hb10.ch h (fun h => h))))) ?_
    refine ws_pg rfl (gd_ rfl rfl rfl rfl rfl rfl) rfl rfl (p_eqH (a := u34) (b := u40) (by kernel_rfl) Tryd.underlying38 Tryd.underlying5 sz5 rfl rfl (hu34) (hu40)) ?_
    refine ws_p rfl rfl rfl rfl (p_pickT rfl rfl) ?_
    refine ws_p rfl rfl rfl rfl (p_mv rfl) ?_
    refine ws_know (d := 85) (b' := true) rfl (by simp [hq1]) ?_
    refine ws_pg rfl (gd_ rfl rfl rfl rfl rfl rfl) rfl rfl (p_mv rfl) ?_
    refine ws_pg rfl (gd_ rfl rfl rfl rfl rfl rfl) rfl rfl (p_mv rfl) ?_
    refine ws_pg rfl (gd_ rfl rfl rfl rfl rfl rfl) rfl rfl (p_eqB rfl rfl Tryd.underlying4) ?_
    refine ws_p rfl rfl rfl rfl (p_pickT rfl rfl) ?_
    refine ws_p rfl rfl rfl rfl (p_mv rfl) ?_
    refine ws_know (d := 90) (b' := true) rfl (by simp [hq2]) ?_
    refine ws_hg rfl (gd_ rfl rfl rfl rfl rfl rfl) rfl rfl (p_ldA (cs := List.map u8v u47) Tryd.underlying38 rfl (szL sz38 (by rw [List.length_map]; exact hu47)) rfl (fun _ h => (rngL (hb12.ch h (fun h => h))))) ?_
    refine ws_hg rfl (gd_ rfl rfl rfl rfl rfl rfl) rfl rfl (p_ldA (cs := List.map u8v u55) Tryd.underlying38 rfl (szL sz38 (by rw [List.length_map]; exact hu55)) rfl (fun _ h => (rngL (hb15.ch h (fun h => h))))) ?_
    refine ws_pg rfl (gd_ rfl rfl rfl rfl rfl rfl) rfl rfl (p_eqH (a := u47) (b := u55) (by kernel_rfl) Tryd.underlying38 Tryd.underlying5 sz5 rfl rfl (hu47) (hu55)) ?_
    refine ws_p rfl rfl rfl rfl (p_pickT rfl rfl) ?_
    refine ws_p rfl rfl rfl rfl (p_mv rfl) ?_
    refine ws_know (d := 95) (b' := true) rfl (by simp [hq3]) ?_
    refine ws_pg rfl (gd_ rfl rfl rfl rfl rfl rfl) rfl rfl (p_mv rfl) ?_
    refine ws_pg rfl (gd_ rfl rfl rfl rfl rfl rfl) rfl rfl (p_mv rfl) ?_
    refine ws_pg rfl (gd_ rfl rfl rfl rfl rfl rfl) rfl rfl (p_eqB rfl rfl Tryd.underlying4) ?_
    refine ws_p rfl rfl rfl rfl (p_pickT rfl rfl) ?_
    refine ws_p rfl rfl rfl rfl (p_mv rfl) ?_
    refine ws_know (d := 100) (b' := true) rfl (by simp [hq4]) ?_
    refine ws_pg rfl (gd_ rfl rfl rfl rfl rfl rfl) rfl rfl (p_mv rfl) ?_
    refine ws_pg rfl (gd_ rfl rfl rfl rfl rfl rfl) rfl rfl (p_mv rfl) ?_
    refine ws_pg rfl (gd_ rfl rfl rfl rfl rfl rfl) rfl rfl (p_eqB rfl rfl Tryd.underlying4) ?_
    refine ws_p rfl rfl rfl rfl (p_pickT rfl rfl) ?_
    refine ws_p rfl rfl rfl rfl (p_mv rfl) ?_
    refine ws_know (d := 105) (b' := true) rfl (by simp [hq5]) ?_
    refine ws_hg rfl (gd_ rfl rfl rfl rfl rfl rfl) rfl rfl (p_ldA (cs := List.map u8v u63) Tryd.underlying38 rfl (szL sz38 (by rw [List.length_map]; exact hu63)) rfl (fun _ h => (rngL (hb18.ch h (fun h => h))))) ?_
    refine ws_hg rfl (gd_ rfl rfl rfl rfl rfl rfl) rfl rfl (p_ldA (cs := List.map u8v u71) Tryd.underlying38 rfl (szL sz38 (by rw [List.length_map]; exact hu71)) rfl (fun _ h => (rngL (hb21.ch h (fun h => h))))) ?_
    refine ws_pg rfl (gd_ rfl rfl rfl rfl rfl rfl) rfl rfl (p_eqH (a := u63) (b := u71) (by kernel_rfl) Tryd.underlying38 Tryd.underlying5 sz5 rfl rfl (hu63) (hu71)) ?_
    refine ws_p rfl rfl rfl rfl (p_pickT rfl rfl) ?_
    refine ws_p rfl rfl rfl rfl (p_mv rfl) ?_
    refine ws_know (d := 110) (b' := true) rfl (by simp [hq6]) ?_
    refine ws_pg rfl (gd_ rfl rfl rfl rfl rfl rfl) rfl rfl (p_mv rfl) ?_
    refine ws_pg rfl (gd_ rfl rfl rfl rfl rfl rfl) rfl rfl (p_mv rfl) ?_
    refine ws_pg rfl (gd_ rfl rfl rfl rfl rfl rfl) rfl rfl (p_eqB rfl rfl Tryd.underlying4) ?_
    refine ws_p rfl rfl rfl rfl (p_pickT rfl rfl) ?_
    refine ws_p rfl rfl rfl rfl (p_mv rfl) ?_
    refine ws_know (d := 115) (b' := true) rfl (by simp [hq7]) ?_
    refine ws_pg rfl (gd_ rfl rfl rfl rfl rfl rfl) rfl rfl (p_mv rfl) ?_
    refine ws_pg rfl (gd_ rfl rfl rfl rfl rfl rfl) rfl rfl (p_mv rfl) ?_
    refine ws_pg rfl (gd_ rfl rfl rfl rfl rfl rfl) rfl rfl (p_eqB rfl rfl Tryd.underlying4) ?_
    refine ws_p rfl rfl rfl rfl (p_pickT rfl rfl) ?_
    refine ws_p rfl rfl rfl rfl (p_mv rfl) ?_
    refine ws_know (d := 120) (b' := true) rfl (by simp [hq8]) ?_
    refine ws_eg rfl (gd_ rfl rfl rfl rfl rfl rfl) (e_call ent29 rfl rfl (lives12_any hrnd) ?_)
    rintro _ w29 ⟨rfl, hc⟩
    refine ⟨_, rfl, hc, ?_⟩
    have hzw29 := hc.size
    have HC := HC.tr hc
    have hst := hst.no hc
    have hrnd := hrnd.no hc
    have hb3 := hb3.ch hc (fun h => h)
    have hb4 := hb4.ch hc (fun h => h)
    have hb5 := hb5.ch hc (fun h => h)
    have hW30 := hW30.after hc
    have hb7 := hb7.ch hc (fun h => h)
    have hb8 := hb8.ch hc (fun h => h)
    have hb10 := hb10.ch hc (fun h => h)
    have hb12 := hb12.ch hc (fun h => h)
    have hb15 := hb15.ch hc (fun h => h)
    have hb18 := hb18.ch hc (fun h => h)
    have hb21 := hb21.ch hc (fun h => h)
    refine ws_narrow (S' := fun x => Ch No w29 x) (Ch.refl _ _) (fun x h => hc.tr h) ?_
    refine ws_p rfl rfl rfl rfl (p_pickT rfl rfl) ?_
    refine ws_p rfl rfl rfl rfl (p_as rfl) ?_
    refine ws_n ?_
    refine x_seq ?_
    refine wc_ret ?_
    refine fin_run ((res1 rfl rfl)) ?_
    exact ⟨rfl, HC⟩
end Go.Proofs.YtkfkdakghjlenaaDoor
