/-
  Own text, printed by a program of mine (wip/gx): what functions of the program do, walked operation by operation.
-/
import Derived.Test.YtkfkdakghjlenaaDoorProg
import Derived.Test.YtkfkdakghjlenaaDoorGxAgg
import Derived.Test.YtkfkdakghjlenaaDoorTab
import Derived.Test.YtkfkdakghjlenaaDoorGxZer
import Derived.Test.YtkfkdakghjlenaaDoorGxLay
import Derived.Test.YtkfkdakghjlenaaDoorPlPack
import Derived.Test.YtkfkdakghjlenaaDoorPlSum
import Derived.Test.YtkfkdakghjlenaaDoorPlSha
import Derived.Test.YtkfkdakghjlenaaDoorPlTag
import Derived.Test.YtkfkdakghjlenaaDoorPlBits
import Derived.Test.YtkfkdakghjlenaaDoorPlShaSt
import Derived.Test.YtkfkdakghjlenaaDoorPlShaB
import Derived.Test.YtkfkdakghjlenaaDoorPlTrie
import Derived.Test.YtkfkdakghjlenaaDoorPlTrieSt
import Derived.Test.YtkfkdakghjlenaaDoorGxRec
import Derived.Test.YtkfkdakghjlenaaDoorGxYld
import Derived.Test.YtkfkdakghjlenaaDoorPlTrieFil
import Derived.Test.YtkfkdakghjlenaaDoorOnceC
import Derived.Test.YtkfkdakghjlenaaDoorPlTrieW
import Derived.Test.YtkfkdakghjlenaaDoorPlMulti
import Derived.Test.YtkfkdakghjlenaaDoorPlEncs
import Derived.Test.YtkfkdakghjlenaaDoorGxMark
import Derived.Test.YtkfkdakghjlenaaDoorPlTrieLaw
import Derived.Test.YtkfkdakghjlenaaDoorPlTrieAct
import Derived.Test.YtkfkdakghjlenaaDoorGxFun
import Derived.Test.YtkfkdakghjlenaaDoorGxPair
import Derived.Test.YtkfkdakghjlenaaDoorPlMany
import Derived.Test.YtkfkdakghjlenaaDoorZp0
import Derived.Test.YtkfkdakghjlenaaDoorZp1
import Derived.Test.YtkfkdakghjlenaaDoorZp2
set_option linter.unusedVariables false
set_option linter.unusedSimpArgs false
namespace Go.Proofs.YtkfkdakghjlenaaDoor
open Go.RowKit Go.Gx
open Go.Plain
set_option maxHeartbeats 1000000 in
set_option maxRecDepth 20000 in
theorem mprove27_none {w : World} {g : Nat} {Ak : Option Addr} {lk ck : Nat} {Fk : Nat → Prop} {ks : List H8} (hbg : Blk w g 41 [.pointer none, .bool true].toArray) (hks : SI w Fk eH Ak lk ck ks) (hlk : lk ≤ 1000000) (hrnd : Sl w (fun k => k = 0) u32v (some ⟨0, 0, none⟩) 64 64 rk) :
    Calls Tryd.prog 24 #[ndp g, .slice Ak lk ck] w fun e w' => ∃ A l c, e = .returned (.slice A l c) ∧ RI w' (fun k => w.heap.size ≤ k) 115 eND A l c (prvN none ks) ∧ Ch No w w' := by
  have hn0 : 0 < w.heap.size := hrnd.size (by omega) rfl
  have hn1 := hn0
  have hltg := hbg.lt
  have hcnt0 : cntT (eo (none : Option LT)) = 0 := rfl
  have hks := hks.old
  have HC : Ch No w w := Ch.refl _ _
  refine enter' (args := [ndp g, .slice Ak lk ck]) (n := 22) Tryd.func24 rfl rfl rfl ?_
  refine wc_seq ?_
  refine wc_region ?_
  refine wl rfl rfl rfl (p_as rfl) ?_
  refine wl_nil ?_
  refine x_seq ?_
  refine wc_seq ?_
  refine wc_seq ?_
  refine wc_region ?_
  refine wl rfl rfl rfl (p_mv rfl) ?_
  refine wl rfl rfl rfl (p_bldP (cs := ((List.replicate 32 (0 : UInt8)).map u8v).toArray) rfl (fun _ => by kernel_rfl)) ?_
  refine wl rfl rfl rfl (p_bldP (cs := ((List.replicate 32 (0 : UInt8)).map u8v).toArray) rfl (fun _ => by kernel_rfl)) ?_
  refine wle rfl (e_call ent44 rfl rfl (tput_made (F := fun _ => True) (TR.mk' trivial (o := none) hbg (fun t2 e => by cases e)) (fun _ _ => trivial) ((List.length_replicate ..)) ((List.length_replicate ..)) (by omega)) ?_)
  rintro _ w1 ⟨_, t9, rfl, ⟨g9, rfl, _⟩, _, hc⟩
  refine ⟨_, rfl, ?_⟩
  have hzw1 := hc.size
  have HC := HC.tr hc
  have hbg := hbg.ch hc (fun h => h)
  have hks := hks.no hc
  have hrnd := hrnd.no hc
  refine wl rfl rfl rfl (p_eqPN rfl rfl Tryd.underlying25) ?_
  refine wl_nil ?_
  refine x_seq ?_
  refine wc_no rfl (rfl) ?_
  refine wc_skip ?_
  refine x_seq ?_
  refine wc_seq ?_
  refine wc_region ?_
  refine wl rfl rfl rfl (p_mv rfl) ?_
  refine wle rfl (e_call ent69 rfl rfl (all_ptr (g := g)) ?_)
  rintro _ w2 ⟨gB, rfl, hgB, hBn, hc⟩
  refine ⟨_, rfl, ?_⟩
  have hzw2 := hc.size
  have HC := HC.tr hc
  have hbg := hbg.ch hc (fun h => h)
  have hks := hks.no hc
  have hrnd := hrnd.no hc
  refine wle rfl (e_call ent68 rfl rfl (entries_none hBn hbg) ?_)
  rintro _ w3 ⟨A13, l13, c13, rfl, hE13, hc⟩
  refine ⟨_, rfl, ?_⟩
  have hzw3 := hc.size
  have HC := HC.tr hc
  have hbg := hbg.ch hc (fun h => h)
  have hks := hks.no hc
  have hrnd := hrnd.no hc
  have hBn := hBn.ch hc (fun h => h)
  have hEl13 := hE13.len
  have hE13 := hE13.mono (G := fun k => w2.heap.size ≤ k ∧ k < w3.heap.size) (fun k h1 h2 => ⟨h2, h1⟩)
  refine wl rfl rfl rfl (p_as rfl) ?_
  refine wl_nil ?_
  refine x_seq ?_
  refine wc_seq ?_
  refine wc_seq ?_
  refine wc_region ?_
  refine wl rfl rfl rfl (p_mv rfl) ?_
  refine wl rfl rfl rfl (p_lenS Tryd.underlying118 rfl) ?_
  refine wl rfl rfl rfl (p_eq rfl rfl) ?_
  refine wl_nil ?_
  refine x_seq ?_
  refine wc_yes rfl (decide_eq_true (by simp at hEl13; omega)) ?_
  refine wc_seq ?_
  refine wc_region ?_
  refine wl rfl rfl rfl (p_bldX (vs' := [.int .i64 (1)]) (cs := (([.int .i64 (1), Value.int .i64 0] ++ ((List.map u8v (List.replicate 32 (0 : UInt8))) ++ (List.map u8v (List.replicate 32 (0 : UInt8))))) : List Value)) (cs' := (([.int .i64 (1), Value.int .i64 0] ++ ((hx (List.replicate 32 (0 : UInt8))) ++ (hx (List.replicate 32 (0 : UInt8))))) : List Value)) rfl rfl (by simp only [hv, map_hx (List.length_replicate ..)] <;> rfl) (fun _ => by kernel_rfl)) ?_
  have hltg := hbg.lt
  have hltgB := hBn.lt
  refine wle rfl (e_bslX (E := 115) (cs := (([.int .i64 (1), Value.int .i64 0] ++ ((List.map u8v (List.replicate 32 (0 : UInt8))) ++ (List.map u8v (List.replicate 32 (0 : UInt8))))) : List Value)) (cs' := (([.int .i64 (1), Value.int .i64 0] ++ ((hx (List.replicate 32 (0 : UInt8))) ++ (hx (List.replicate 32 (0 : UInt8))))) : List Value)) rfl rfl (by simp only [hv, map_hx (List.length_replicate ..)] <;> rfl) (fun _ => by kernel_rfl) (fun w4 g18 hg18 hb18 hc hsz18 => ?_))
  have hzw4 := hc.size
  have HC := HC.tr hc
  have hbg := hbg.ch hc (fun h => h)
  have hks := hks.no hc
  have hrnd := hrnd.no hc
  have hBn := hBn.ch hc (fun h => h)
  have hE13 := hE13.after hc
  have hge18 : w.heap.size ≤ g18 := by have := HC.size; omega
  have hW18 := (RI.one (E := eND) (x := ⟨(1), (0), (List.replicate 32 (0 : UInt8)), (List.replicate 32 (0 : UInt8))⟩) hb18 rfl ⟨(List.length_replicate ..), (List.length_replicate ..)⟩).mono (G := fun k => g18 ≤ k) (fun k _ h => Nat.le_of_eq (Eq.symm h))
  refine wl rfl rfl rfl (p_as rfl) ?_
  refine wl_nil ?_
  refine x_seq ?_
  refine wc_ret ?_
  refine x_then_ret ?_
  refine fin_run ((res1 rfl rfl)) ?_
  exact ⟨_, _, _, rfl, hW18.mono (fun k _ h => by have h2 : g18 ≤ k := h; show w.heap.size ≤ k; omega), HC⟩

theorem mprove27_any {w : World} {v : Value} {o : Option LT} {F : Nat → Prop} {Ak : Option Addr} {lk ck : Nat} {Fk : Nat → Prop} {ks : List H8} (hV : TR 41 156 F w v o) (hwo : WFO (eo o)) (hcn : cntT (eo o) ≤ 1000) (hks : SI w Fk eH Ak lk ck ks) (hlk : lk ≤ 1000000) (hrnd : Sl w (fun k => k = 0) u32v (some ⟨0, 0, none⟩) 64 64 rk) : Calls Tryd.prog 24 #[v, .slice Ak lk ck] w fun e w' => ∃ A l c, e = .returned (.slice A l c) ∧ RI w' (fun k => w.heap.size ≤ k) 115 eND A l c (prvN (eo o) ks) ∧ Ch No w w' := by
  obtain ⟨g, rfl, hFg, hbg, hT⟩ := hV.opn
  cases o with
  | none => exact mprove27_none hbg hks hlk hrnd
  | some t => exact mprove27_some hbg (hT t rfl).1 (hwo _ rfl) hcn hks hlk hrnd

set_option maxHeartbeats 1000000 in
set_option maxRecDepth 20000 in
theorem lives27_any {w : World}  (hrnd : Sl w (fun k => k = 0) u32v (some ⟨0, 0, none⟩) 64 64 rk) :
    Calls Tryd.prog 20 #[] w fun e w' => e = .returned (.bool true) ∧ Ch No w w' := by
  have hn0 : 0 < w.heap.size := hrnd.size (by omega) rfl
  have hn1 := hn0
  have HC : Ch No w w := Ch.refl _ _
  refine enter' (args := []) (n := 14) Tryd.func20 rfl rfl rfl ?_
  refine wc_seq ?_
  refine wc_region ?_
  refine wl rfl rfl rfl (p_as rfl) ?_
  refine wl_nil ?_
  refine x_seq ?_
  refine wc_seq ?_
  refine wc_region ?_
  refine wle rfl (e_call ent51 rfl rfl (new_any) ?_)
  rintro _ w1 ⟨v2, rfl, hV2, hc⟩
  refine ⟨_, rfl, ?_⟩
  have hzw1 := hc.size
  have HC := HC.tr hc
  have hrnd := hrnd.no hc
  have hV2 := hV2.mono (G := fun k => w.heap.size ≤ k ∧ k < w1.heap.size) (fun k h1 h2 => ⟨h2, h1⟩)
  refine wle rfl (e_call ent24 rfl rfl (mprove27_any hV2 (fun t e => by cases e) (by decide) (SI.nil (F := No)) (by omega) hrnd) ?_)
  rintro _ w2 ⟨A3, l3, c3, rfl, hP3, hc⟩
  refine ⟨_, rfl, ?_⟩
  have hzw2 := hc.size
  have HC := HC.tr hc
  have hrnd := hrnd.no hc
  have hV2 := hV2.ch hc (by first | exact fun _ _ _ h => h | (intro k hk hF ht; have h2 := hF.1; have h3 := hF.2; first | omega | (dsimp only at *; omega)))
  have hPl3 := hP3.len
  have hPb3 : l3 ≤ 2 * cntT (eo none) + 1 := by rw [← hPl3]; exact prvN_len
  have hP3 := hP3.mono (G := fun k => w1.heap.size ≤ k ∧ k < w2.heap.size) (fun k h1 h2 => ⟨h2, h1⟩)
  have hl3 : l3 = 1 := hPl3.symm
  refine wl rfl rfl rfl (p_as rfl) ?_
  refine wl_nil ?_
  refine x_seq ?_
  refine wc_seq ?_
  refine wc_region ?_
  refine wl rfl rfl rfl (p_mv rfl) ?_
  refine wl rfl rfl rfl (p_lenS Tryd.underlying33 rfl) ?_
  refine wl rfl rfl rfl (p_eq rfl rfl) ?_
  refine wl rfl rfl rfl (p_mv rfl) ?_
  refine wl_know (d := 7) (b' := true) rfl (decide_eq_true (by omega)) ?_
  refine wl_g (gd_ rfl rfl rfl rfl rfl rfl) rfl rfl (p_mv rfl) ?_
  obtain ⟨b3, o3, hA3, hF3, hr3⟩ := (hP3.si).opn (i := 0) (d := ND0) (by omega)
  have hok3 := (hP3.si).okAt (i := 0) (d := ND0) (by omega)
  obtain ⟨x3, ex3⟩ : ∃ x_, x_ = List.getD (prvN (eo none) []) (0) ND0 := ⟨_, rfl⟩
  rw [← ex3] at hr3 hok3
  obtain ⟨hx3k, hx3v⟩ := hok3
  have hr3 : w2.rangeAt b3 (o3 + 0 * 66) (([i64 x3.kind, i64 x3.bit] ++ ((List.map u8v x3.key) ++ (List.map u8v x3.val))) : List Value) := hr3
  refine wl_g (gd_ rfl rfl rfl rfl rfl rfl) rfl rfl (p_ixS (j := 0 * 66) Tryd.underlying33 sz115 rfl hA3 rfl (by omega) (by omega) rfl) ?_
  have hx9 : x3 = ND0 := ex3
  refine wl_g (gd_ rfl rfl rfl rfl rfl rfl) rfl rfl (p_fld (j := 0) Tryd.underlying115 rfl ⟨_, by rfl⟩ rfl rfl) ?_
  refine wl_g (gd_ rfl rfl rfl rfl rfl rfl) rfl rfl (p_ld Tryd.underlying3 rfl rfl (ld (cell_sub (v := (i64 x3.kind : Value)) (p := []) (r := (([i64 x3.bit] ++ ((List.map u8v x3.key) ++ (List.map u8v x3.val))) : List Value)) hr3 (by first | rfl | simp only [List.append_assoc, List.cons_append, List.nil_append, List.append_nil]) rfl))) ?_
  refine wl_g (gd_ rfl rfl rfl rfl rfl rfl) rfl rfl (p_eq rfl rfl) ?_
  refine wl rfl rfl rfl (p_pickT rfl rfl) ?_
  refine wl rfl rfl rfl (p_as rfl) ?_
  refine wl_nil ?_
  refine x_seq ?_
  refine wc_ret ?_
  refine fin_run ((res1 rfl rfl)) ?_
  rw [hx9]; exact ⟨rfl, HC⟩

set_option maxHeartbeats 4000000 in
set_option maxRecDepth 20000 in
theorem multiHolds_walk {w : World}  {Al : Option Addr} {ll cl : Nat} {Fl : Nat → Prop} {l : List (H8 × H8)} {Ak : Option Addr} {lk ck : Nat} {Fk : Nat → Prop} {ks : List H8} (hin : SI w Fl eIT Al ll cl l) (hks : SI w Fk eH Ak lk ck ks) (hrnd : Sl w (fun k => k = 0) u32v (some ⟨0, 0, none⟩) 64 64 rk) :
    Calls Tryd.prog 18 #[.slice Al ll cl, .slice Ak lk ck] w fun e w' => e = .returned (.bool true) ∧ Ch No w w' := by
  have hn0 : 0 < w.heap.size := hrnd.size (by omega) rfl
  have hn1 := hn0
  have hinl := hin.len
  have hok := hin.ok
  have hkl := hks.len
  have hin := hin.old
  have hks := hks.old
  have HC : Ch No w w := Ch.refl _ _
  refine enter' (args := [.slice Al ll cl, .slice Ak lk ck]) (n := 89) Tryd.func18 rfl rfl rfl ?_
  refine wc_seq ?_
  refine wc_region ?_
  refine wl rfl rfl rfl (p_as rfl) ?_
  refine wl_nil ?_
  refine x_seq ?_
  refine wc_seq ?_
  refine wc_seq ?_
  refine wc_region ?_
  refine wl rfl rfl rfl (p_mv rfl) ?_
  refine wl rfl rfl rfl (p_lenS Tryd.underlying22 rfl) ?_
  refine wl rfl rfl rfl (p_gt rfl rfl) ?_
  refine wl rfl rfl rfl (p_mv rfl) ?_
  refine wl_split (d := 20) rfl (fun q20 => ?_) (fun q20 => ?_)
  ·
   have q20 := of_decide_eq_true q20
   refine wl_s (gd_ rfl rfl rfl rfl rfl rfl) rfl rfl ?_
   refine wl_s (gd_ rfl rfl rfl rfl rfl rfl) rfl rfl ?_
   refine wl_s (gd_ rfl rfl rfl rfl rfl rfl) rfl rfl ?_
   refine wl rfl rfl rfl (p_pickT rfl rfl) ?_
   refine wl_nil ?_
   refine x_seq ?_
   refine wc_yes rfl (rfl) ?_
   refine wc_seq ?_
   refine wc_region ?_
   refine wle rfl (e_call ent20 rfl rfl (lives27_any hrnd) ?_)
   rintro _ w1 ⟨rfl, hc⟩
   refine ⟨_, rfl, ?_⟩
   have hzw1 := hc.size
   have HC := HC.tr hc
   have hin := hin.no hc
   have hks := hks.no hc
   have hrnd := hrnd.no hc
   refine wl rfl rfl rfl (p_as rfl) ?_
   refine wl_nil ?_
   refine x_seq ?_
   refine wc_ret ?_
   refine x_then_ret ?_
   refine fin_run ((res1 rfl rfl)) ?_
   exact ⟨rfl, HC⟩
  ·
   have q20 := of_decide_eq_false q20
   refine wl_g (gd_ rfl rfl rfl rfl rfl rfl) rfl rfl (p_mv rfl) ?_
   refine wl_g (gd_ rfl rfl rfl rfl rfl rfl) rfl rfl (p_lenS Tryd.underlying23 rfl) ?_
   refine wl_g (gd_ rfl rfl rfl rfl rfl rfl) rfl rfl (p_gt rfl rfl) ?_
   refine wl rfl rfl rfl (p_pickF rfl rfl) ?_
   refine wl_nil ?_
   refine x_seq ?_
   refine wc_if rfl (fun c0 => ?_) (fun c0 => ?_)
   ·
    have c0 := of_decide_eq_true c0
    refine wc_seq ?_
    refine wc_region ?_
    refine wle rfl (e_call ent20 rfl rfl (lives27_any hrnd) ?_)
    rintro _ w2 ⟨rfl, hc⟩
    refine ⟨_, rfl, ?_⟩
    have hzw2 := hc.size
    have HC := HC.tr hc
    have hin := hin.no hc
    have hks := hks.no hc
    have hrnd := hrnd.no hc
    refine wl rfl rfl rfl (p_as rfl) ?_
    refine wl_nil ?_
    refine x_seq ?_
    refine wc_ret ?_
    refine x_then_ret ?_
    refine fin_run ((res1 rfl rfl)) ?_
    exact ⟨rfl, HC⟩
   ·
    have c0 := of_decide_eq_false c0
    refine wc_skip ?_
    refine x_seq ?_
    refine wc_seq ?_
    refine wc_region ?_
    refine wl rfl rfl rfl (p_mv rfl) ?_
    refine wle rfl (e_call ent21 rfl rfl (made27_any hin (by omega)) ?_)
    rintro _ w3 ⟨v28, o28, A28, lm28, cm28, rfl, hV28, heo28, hM28, hc⟩
    refine ⟨_, rfl, ?_⟩
    have hzw3 := hc.size
    have HC := HC.tr hc
    have hin := hin.no hc
    have hks := hks.no hc
    have hrnd := hrnd.no hc
    obtain ⟨hwf, hmc⟩ := mkT_all hok
    have hml28 : lm28 = cntT (mkT l) := by rw [← itemsT_cnt]; exact hM28.len.symm
    have hwfo : WFO (eo o28) := by rw [heo28]; exact hwf
    have hcno : cntT (eo o28) ≤ 1000 := by rw [heo28]; omega
    have hV28 := hV28.mono (G := fun k => w.heap.size ≤ k ∧ k < w3.heap.size) (fun k h1 h2 => ⟨by first | exact h2 | exact h2.1 | ((try dsimp only at h2); omega), h1⟩)
    have hM28 := hM28.mono (G := fun k => w.heap.size ≤ k ∧ k < w3.heap.size) (fun k h1 h2 => ⟨by first | exact h2 | exact h2.1 | ((try dsimp only at h2); omega), h1⟩)
    refine wl rfl rfl rfl (p_mv rfl) ?_
    refine wl rfl rfl rfl (p_ext rfl rfl) ?_
    refine wl rfl rfl rfl (p_ext rfl rfl) ?_
    refine wl rfl rfl rfl (p_as rfl) ?_
    refine wl rfl rfl rfl (p_as rfl) ?_
    refine wl_nil ?_
    refine x_seq ?_
    refine wc_seq ?_
    refine wc_region ?_
    refine wl rfl rfl rfl (p_mv rfl) ?_
    refine wl rfl rfl rfl (p_mv rfl) ?_
    refine wle rfl (e_call ent24 rfl rfl (mprove27_any hV28 hwfo hcno (hks) (by omega) hrnd) ?_)
    rintro _ w4 ⟨A33, l33, c33, rfl, hP33, hc⟩
    refine ⟨_, rfl, ?_⟩
    have hzw4 := hc.size
    have HC := HC.tr hc
    have hin := hin.no hc
    have hks := hks.no hc
    have hrnd := hrnd.no hc
    have hV28 := hV28.ch hc (by first | exact fun _ _ _ h => h | (intro k hk hF ht; have h2 := hF.1; have h3 := hF.2; first | omega | (dsimp only at *; omega)))
    have hM28 := hM28.after hc
    have hPl33 := hP33.len
    have hPb33 : l33 ≤ 2 * cntT (eo o28) + 1 := by rw [← hPl33]; exact prvN_len
    have hP33 := hP33.mono (G := fun k => w3.heap.size ≤ k ∧ k < w4.heap.size) (fun k h1 h2 => ⟨h2, h1⟩)
    refine wl rfl rfl rfl (p_as rfl) ?_
    refine wl_nil ?_
    refine x_seq ?_
    refine wc_seq ?_
    refine wc_region ?_
    refine wl rfl rfl rfl (p_mv rfl) ?_
    refine wle rfl (e_call ent56 rfl rfl (mroot27 (hP33.si) (by omega) hrnd) ?_)
    rintro _ w5 ⟨rfl, hc⟩
    refine ⟨_, rfl, ?_⟩
    have hzw5 := hc.size
    have HC := HC.tr hc
    have hin := hin.no hc
    have hks := hks.no hc
    have hrnd := hrnd.no hc
    have hV28 := hV28.ch hc (by first | exact fun _ _ _ h => h | (intro k hk hF ht; have h2 := hF.1; have h3 := hF.2; first | omega | (dsimp only at *; omega)))
    have hM28 := hM28.after hc
    have hP33 := hP33.after hc
    refine wl rfl rfl rfl (p_mv rfl) ?_
    refine wl rfl rfl rfl (p_ext rfl rfl) ?_
    refine wl rfl rfl rfl (p_ext rfl rfl) ?_
    refine wle rfl (e_alloc (cs := ((List.replicate 32 (0 : UInt8)).map u8v).toArray) rfl (by rfl) rfl (fun w6 g8 hg8 hb8 hc hsz8 => ?_))
    have hzw6 := hc.size
    have HC := HC.tr hc
    have hin := hin.no hc
    have hks := hks.no hc
    have hrnd := hrnd.no hc
    have hV28 := hV28.ch hc (by first | exact fun _ _ _ h => h | (intro k hk hF ht; have h2 := hF.1; have h3 := hF.2; first | omega | (dsimp only at *; omega)))
    have hM28 := hM28.after hc
    have hP33 := hP33.after hc
    have hge8 : w.heap.size ≤ g8 := by have := HC.size; omega
    refine wle rfl (e_stH sz38 (List.length_replicate ..) rootN_len rfl rfl hb8 (fun w7 hb8 hc hsz => ?_))
    have hzw7 := hc.size
    have HC := HC.trans hc (fun _ _ h => h) (fun k hk ht => absurd ht (by omega))
    have hin := hin.ch hc (by intro k hk ht; omega)
    have hks := hks.ch hc (by intro k hk ht; omega)
    first | have hrnd := hrnd.ch hc (by intro k hk ht; omega) | have hrnd := hrnd.chT hc (by intro k hz hk ht; omega)
    have hV28 := hV28.ch hc (by first | exact fun _ _ _ h => h | (intro k hk hF ht; have h2 := hF.1; have h3 := hF.2; first | omega | (dsimp only at *; omega)))
    have hM28 := hM28.ch hc (by intro k hz hk ht; omega)
    have hP33 := hP33.ch hc (by intro k hz hk ht; omega)
    refine wl rfl rfl rfl (p_as rfl) ?_
    refine wl_nil ?_
    refine x_seq ?_
    refine wc_seq ?_
    refine wc_seq ?_
    refine wc_draw (.st 0 0 (.st 1 0 (.st 2 0 (.st 3 1 (.st 4 0 (.st 5 2 (.st 6 0 (.st 7 0 (.st 8 0 (.st 9 0 (.st 12 0 (.st 13 0 (.st 10 2 (.st 11 0 (.st 14 0 (.st 15 0 .nil)))))))))))))))) 16 (by kernel_rfl) (by kernel_rfl) (by kernel_rfl) (by repeat (first | with_reducible exact pan_body | with_reducible apply pan_then | with_reducible apply pan_in)) (fun z => Ch (fun k => k ∈ adsO o28) w7.drew z) (Ch.refl _ _) ?_
    obtain ⟨w8, ew8⟩ : ∃ x, x = w7.drew := ⟨_, rfl⟩
    rw [← ew8]
    have hc : Ch No w7 w8 := by rw [ew8]; exact Ch.drew _
    have hszw8 : w8.heap.size = w7.heap.size := by rw [ew8]; rfl
    clear ew8
    have hzw8 := hc.size
    have HC := HC.tr hc
    have hin := hin.no hc
    have hks := hks.no hc
    have hrnd := hrnd.no hc
    have hV28 := hV28.ch hc (by first | exact fun _ _ _ h => h | (intro k hk hF ht; have h2 := hF.1; have h3 := hF.2; first | omega | (dsimp only at *; omega)))
    have hM28 := hM28.no hc
    have hP33 := hP33.no hc
    have hb8 := hb8.ch hc (fun h => h)
    have hS : Ch (fun k => k ∈ adsO o28) w8 w8 := Ch.refl _ _
    have hRBd := hV28.adsB
    have hrt := prvN_root (ks := ks) hwfo
    refine ws_p rfl rfl rfl rfl (p_mv rfl) ?_
    refine ws_p rfl rfl rfl rfl (p_not rfl) ?_
    refine ws_p rfl rfl rfl rfl (p_mv rfl) ?_
    refine ws_know (d := 41) (b' := false) rfl (by rw [hrt]; rfl) ?_
    refine ws_hg rfl (gd_ rfl rfl rfl rfl rfl rfl) rfl rfl (p_ldH (L := (rootN (prvN (eo o28) ks)).1) Tryd.underlying38 sz38 rootN_len rfl (fun _ h => rngL (hb8.ch h (hb8.not_nd hRBd)))) ?_
    refine ws_pg rfl (gd_ rfl rfl rfl rfl rfl rfl) rfl rfl (p_mv rfl) ?_
    refine ws_eg rfl (gd_ rfl rfl rfl rfl rfl rfl) (e_call ent46 rfl rfl (troot_made hV28 hrnd) ?_)
    rintro _ w9 ⟨rfl, hc, hFil, hRB, hRF⟩
    refine ⟨_, rfl, (by first | exact hS.tr hc | exact hS.trans hc (fun _ _ h => h) (fun _ _ h => h)), ?_⟩
    have hR0 := hV28.ot.out hrnd (by omega)
    have hRo : ∀ k, k < w.heap.size → k ∈ adsO o28 → False := fun k h1 h2 => absurd (hRF k h2).1 (by omega)
    have hzw9 := hc.size
    have HC := HC.trans hc (fun _ _ h => h) (fun k hk ht => absurd (hRF k ht).1 (by omega))
    have hin := hin.ch hc (fun k hk ht => hRo k hk ht)
    have hks := hks.ch hc (fun k hk ht => hRo k hk ht)
    have hrnd := hrnd.ch hc (fun k hk ht => hR0 (hk ▸ ht))
    have hV28 := hV28.fil hc hRB hFil
    have hM28 := hM28.ty hc (by decide) hRB
    have hP33 := hP33.ty hc (by decide) hRB
    first | have hb8 := hb8.ch hc (hb8.not_nd hRB) | have hb8 := hb8.ch hc (by assumption)
    have hS := (by first | exact hS.tr hc | exact hS.trans hc (fun _ _ h => h) (fun _ _ h => h))
    refine ws_pg rfl (gd_ rfl rfl rfl rfl rfl rfl) rfl rfl (p_neH (a := (rootN (prvN (eo o28) ks)).1) (b := (rootT (eo o28))) (by kernel_rfl) Tryd.underlying38 Tryd.underlying5 sz5 rfl rfl (rootN_len) (rootT_len)) ?_
    refine ws_p rfl rfl rfl rfl (p_pickF rfl rfl) ?_
    refine ws_p rfl rfl rfl rfl (p_mv rfl) ?_
    refine ws_know (d := 47) (b' := false) rfl (by rw [hrt]; simp) ?_
    refine ws_pg rfl (gd_ rfl rfl rfl rfl rfl rfl) rfl rfl (p_mv rfl) ?_
    refine ws_pg rfl (gd_ rfl rfl rfl rfl rfl rfl) rfl rfl (p_mv rfl) ?_
    refine ws_pg rfl (gd_ rfl rfl rfl rfl rfl rfl) rfl rfl (p_lenS Tryd.underlying23 rfl) ?_
    refine ws_eg rfl (gd_ rfl rfl rfl rfl rfl rfl) (e_call ent62 rfl rfl (mkeys27 (hP33.si) (by omega) hrnd) ?_)
    rintro _ w10 ⟨A49, c49, l49, rfl, hK49, hc⟩
    refine ⟨_, rfl, (by first | exact hS.tr hc | exact hS.trans hc (fun _ _ h => h) (fun _ _ h => h)), ?_⟩
    have hzw10 := hc.size
    have HC := HC.tr hc
    have hin := hin.no hc
    have hks := hks.no hc
    have hrnd := hrnd.no hc
    have hV28 := hV28.ch hc (by first | exact fun _ _ _ h => h | (intro k hk hF ht; have h2 := hF.1; have h3 := hF.2; first | omega | (dsimp only at *; omega)))
    have hM28 := hM28.after hc
    have hP33 := hP33.after hc
    have hb8 := hb8.ch hc (fun h => h)
    have hKl49 := hK49.len
    have hK49 := hK49.mono (G := fun k => w9.heap.size ≤ k ∧ k < w10.heap.size) (fun k h1 h2 => ⟨h2, h1⟩)
    have hS := (by first | exact hS.tr hc | exact hS.trans hc (fun _ _ h => h) (fun _ _ h => h))
    refine ws_pg rfl (gd_ rfl rfl rfl rfl rfl rfl) rfl rfl (p_lenS Tryd.underlying23 rfl) ?_
    have hkc := prvN_cnt (ks := ks) hwfo
    rw [hKl49, hkl] at hkc
    refine ws_pg rfl (gd_ rfl rfl rfl rfl rfl rfl) rfl rfl (p_gt rfl rfl) ?_
    refine ws_p rfl rfl rfl rfl (p_pickF rfl rfl) ?_
    refine ws_n ?_
    refine x_seq ?_
    refine wc_no rfl (decide_eq_false (by omega)) ?_
    refine wc_skip ?_
    refine x_seq ?_
    refine wc_seq ?_
    refine wc_seq ?_
    refine wc_region ?_
    refine wl rfl rfl rfl (p_mv rfl) ?_
    refine wl rfl rfl rfl (p_lenS Tryd.underlying23 rfl) ?_
    refine wl rfl rfl rfl (p_mv rfl) ?_
    refine wl_nil ?_
    refine x_seq ?_
    refine wc_block ?_
    refine wc_loop (e' := [(5, v28), (7, .slice A33 l33 c33), (8, .pointer (some ⟨g8, 0, none⟩)), (55, .slice Ak lk ck), (56, i64 (lk : Int)), (57, i64 ((0) : Int))]) (fun mz ez uz => ∃ i : Nat, mz = lk - i ∧ ez = [(5, v28), (7, .slice A33 l33 c33), (8, .pointer (some ⟨g8, 0, none⟩)), (55, .slice Ak lk ck), (56, i64 (lk : Int)), (57, i64 (i : Int))] ∧ (i ≤ lk) ∧ (TR 41 156 (fun k => w.heap.size ≤ k) uz v28 o28) ∧ (RI uz (fun k => w.heap.size ≤ k) 115 eND A33 l33 c33 (prvN (eo o28) ks)) ∧ (Blk uz g8 38 (List.map u8v (rootN (prvN (eo o28) ks)).1).toArray) ∧ (SI uz (fun k => k < w.heap.size) eH Ak lk ck ks) ∧ (Sl uz (fun k => k = 0) u32v (some ⟨0, 0, none⟩) 64 64 rk) ∧ (w.heap.size ≤ g8) ∧ (Ch No w uz))
     ⟨rfl, rfl, rfl, rfl, rfl, rfl, trivial⟩ ⟨0, rfl, rfl, (by omega), (hV28.mono (fun k _ h => by first | exact h.1 | exact h | exact h.1.1 | (have := h.1; show w.heap.size ≤ k; omega) | ((try simp only [and_assoc] at h); have := h.1; show w.heap.size ≤ k; omega))), (hP33.mono (fun k _ h => by first | exact h.1 | exact h | exact h.1.1 | (have := h.1; show w.heap.size ≤ k; omega) | ((try simp only [and_assoc] at h); have := h.1; show w.heap.size ≤ k; omega))), hb8, hks, hrnd, (by omega), HC⟩ ?_
    rintro m0 e w11 ⟨i, hm0, rfl, hi, hV28, hP33, hb8, hks, hrnd, hg8w, HC⟩
    have hzw11 := HC.size
    have hV28 := hV28.mono (G := fun k => w.heap.size ≤ k ∧ k < w11.heap.size) (fun k h1 h2 => ⟨by first | exact h2 | exact h2.1 | ((try dsimp only at h2); omega), h1⟩)
    have hP33 := hP33.mono (G := fun k => w.heap.size ≤ k ∧ k < w11.heap.size) (fun k h1 h2 => ⟨by first | exact h2 | exact h2.1 | ((try dsimp only at h2); omega), h1⟩)
    refine wc_seq ?_
    refine wc_region ?_
    refine wl rfl rfl rfl (p_lt rfl rfl) ?_
    refine wl_nil ?_
    refine x_seq ?_
    refine wc_seq ?_
    refine wc_if rfl (fun c2 => ?_) (fun c2 => ?_)
    ·
     have c2 := of_decide_eq_true c2
     refine wc_skip ?_
     refine x_seq ?_
     refine wc_seq ?_
     refine wc_block ?_
     refine wc_seq ?_
     refine wc_region ?_
     obtain ⟨b12, o12, hA12, hF12, hr12⟩ := (hks).opn (i := i) (d := zeroH) (by omega)
     have hok12 := (hks).okAt (i := i) (d := zeroH) (by omega)
     obtain ⟨x12, ex12⟩ : ∃ x_, x_ = List.getD ks (i) zeroH := ⟨_, rfl⟩
     rw [← ex12] at hr12 hok12
     have hx12k : List.length x12 = 32 := hok12
     have hr12 : w11.rangeAt b12 (o12 + i * 32) ((List.map u8v x12) : List Value) := hr12
     refine wl rfl rfl rfl (p_ixS (j := i * 32) Tryd.underlying23 sz38 rfl hA12 rfl (by omega) (by omega) (congrArg (· * 32) (Int.toNat_natCast _))) ?_
     refine wl rfl rfl rfl (p_ldA (cs := ((List.map u8v x12) : List Value)) Tryd.underlying38 rfl (szL sz38 (by first | rfl | (simp only [List.length_append, List.length_map, List.length_cons, List.length_nil, (show List.length x12 = 32 from hx12k)]; done) | (simp only [List.length_append, List.length_map, List.length_cons, List.length_nil, List.size_toArray, (show List.length x12 = 32 from hx12k)]; done))) rfl (fun _ e => e ▸ hr12)) ?_
     have hltg8 := hb8.lt
     refine wle rfl (e_alloc (cs := ((List.replicate 32 (0 : UInt8)).map u8v).toArray) rfl (by rfl) rfl (fun w13 g11 hg11 hb11 hc hsz11 => ?_))
     have hzw13 := hc.size
     have HC := HC.tr hc
     have hV28 := hV28.ch hc (by first | exact fun _ _ _ h => h | (intro k hk hF ht; have h2 := hF.1; have h3 := hF.2; first | omega | (dsimp only at *; omega)))
     have hP33 := hP33.after hc
     have hb8 := hb8.ch hc (fun h => h)
     have hks := hks.no hc
     have hrnd := hrnd.no hc
     have hge11 : w.heap.size ≤ g11 := by have := HC.size; omega
     have neg8_11 : g8 < g11 := by omega
     refine wle rfl (e_stH sz38 (List.length_replicate ..) hx12k rfl rfl hb11 (fun w14 hb11 hc hsz => ?_))
     have hzw14 := hc.size
     have HC := HC.trans hc (fun _ _ h => h) (fun k hk ht => absurd ht (by omega))
     have hV28 := hV28.ch hc (by first | exact fun _ _ _ h => h | (intro k hk hF ht; have h2 := hF.1; have h3 := hF.2; first | omega | (dsimp only at *; omega)))
     have hP33 := hP33.ch hc (by intro k hz hk ht; omega)
     have hb8 := hb8.ch hc (by omega)
     have hks := hks.ch hc (by intro k hk ht; omega)
     first | have hrnd := hrnd.ch hc (by intro k hk ht; omega) | have hrnd := hrnd.chT hc (by intro k hz hk ht; omega)
     refine wl_nil ?_
     refine x_seq ?_
     refine wc_seq ?_
     refine wc_region ?_
     refine wl rfl rfl rfl (p_ldH (L := (rootN (prvN (eo o28) ks)).1) Tryd.underlying38 sz38 rootN_len rfl (fun _ e => e ▸ rngL hb8)) ?_
     refine wl rfl rfl rfl (p_mv rfl) ?_
     refine wl rfl rfl rfl (p_ldH (L := x12) Tryd.underlying38 sz38 hx12k rfl (fun _ e => e ▸ rngL hb11)) ?_
     refine wle rfl (e_call ent58 rfl rfl (mcheck27 (rootN_len) (hP33.si) (by omega) (hx12k) hrnd) ?_)
     rintro _ w15 ⟨rfl, hc⟩
     refine ⟨_, rfl, ?_⟩
     have hzw15 := hc.size
     have HC := HC.tr hc
     have hV28 := hV28.ch hc (by first | exact fun _ _ _ h => h | (intro k hk hF ht; have h2 := hF.1; have h3 := hF.2; first | omega | (dsimp only at *; omega)))
     have hP33 := hP33.after hc
     have hb8 := hb8.ch hc (fun h => h)
     have hks := hks.no hc
     have hrnd := hrnd.no hc
     have hb11 := hb11.ch hc (fun h => h)
     have hmem : x12 ∈ ks := by rw [ex12]; exact getD_mem (by omega)
     have hck : checkN (rootN (prvN (eo o28) ks)).1 (prvN (eo o28) ks) x12 = ((getT (eo o28) x12).getD zeroH, (getT (eo o28) x12).isSome, true) := by rw [hrt]; rcases prvN_check hwfo (ks := ks) (k := x12) with h | h; exact absurd hmem h.2; exact h
     refine wl rfl rfl rfl (p_mv rfl) ?_
     refine wl rfl rfl rfl (p_ext rfl rfl) ?_
     refine wl rfl rfl rfl (p_ext rfl rfl) ?_
     refine wl rfl rfl rfl (p_ext rfl rfl) ?_
     have hltg8 := hb8.lt
     have hltg11 := hb11.lt
     refine wle rfl (e_alloc (cs := ((List.replicate 32 (0 : UInt8)).map u8v).toArray) rfl (by rfl) rfl (fun w16 g12 hg12 hb12 hc hsz12 => ?_))
     have hzw16 := hc.size
     have HC := HC.tr hc
     have hV28 := hV28.ch hc (by first | exact fun _ _ _ h => h | (intro k hk hF ht; have h2 := hF.1; have h3 := hF.2; first | omega | (dsimp only at *; omega)))
     have hP33 := hP33.after hc
     have hb8 := hb8.ch hc (fun h => h)
     have hks := hks.no hc
     have hrnd := hrnd.no hc
     have hb11 := hb11.ch hc (fun h => h)
     have hge12 : w.heap.size ≤ g12 := by have := HC.size; omega
     have neg8_12 : g8 < g12 := by omega
     have neg11_12 : g11 < g12 := by omega
     refine wle rfl (e_stH sz38 (List.length_replicate ..) checkN_len rfl rfl hb12 (fun w17 hb12 hc hsz => ?_))
     have hzw17 := hc.size
     have HC := HC.trans hc (fun _ _ h => h) (fun k hk ht => absurd ht (by omega))
     have hV28 := hV28.ch hc (by first | exact fun _ _ _ h => h | (intro k hk hF ht; have h2 := hF.1; have h3 := hF.2; first | omega | (dsimp only at *; omega)))
     have hP33 := hP33.ch hc (by intro k hz hk ht; omega)
     have hb8 := hb8.ch hc (by omega)
     have hks := hks.ch hc (by intro k hk ht; omega)
     first | have hrnd := hrnd.ch hc (by intro k hk ht; omega) | have hrnd := hrnd.chT hc (by intro k hz hk ht; omega)
     have hb11 := hb11.ch hc (by omega)
     refine wl rfl rfl rfl (p_as rfl) ?_
     refine wl rfl rfl rfl (p_as rfl) ?_
     refine wl_nil ?_
     refine x_seq ?_
     refine wc_seq ?_
     refine wc_region ?_
     refine wl rfl rfl rfl (p_mv rfl) ?_
     refine wl rfl rfl rfl (p_ldH (L := x12) Tryd.underlying38 sz38 hx12k rfl (fun _ e => e ▸ rngL hb11)) ?_
     refine wle rfl (e_call ent42 rfl rfl (tget_any hV28 (hx12k)) ?_)
     rintro _ w18 ⟨u72, ok72, rfl, hu72, hg72, hc⟩
     refine ⟨_, rfl, ?_⟩
     have hzw18 := hc.size
     have HC := HC.tr hc
     have hV28 := hV28.ch hc (by first | exact fun _ _ _ h => h | (intro k hk hF ht; have h2 := hF.1; have h3 := hF.2; first | omega | (dsimp only at *; omega)))
     have hP33 := hP33.after hc
     have hb8 := hb8.ch hc (fun h => h)
     have hks := hks.no hc
     have hrnd := hrnd.no hc
     have hb11 := hb11.ch hc (fun h => h)
     have hb12 := hb12.ch hc (fun h => h)
     obtain ⟨hx72, ho72⟩ : u72 = (getT (eo o28) x12).getD zeroH ∧ ok72 = (getT (eo o28) x12).isSome := by injection hg72 with h1 h2; exact ⟨h1, h2⟩
     refine wl rfl rfl rfl (p_mv rfl) ?_
     refine wl rfl rfl rfl (p_ext rfl rfl) ?_
     refine wl rfl rfl rfl (p_ext rfl rfl) ?_
     have hltg8 := hb8.lt
     have hltg11 := hb11.lt
     have hltg12 := hb12.lt
     refine wle rfl (e_alloc (cs := ((List.replicate 32 (0 : UInt8)).map u8v).toArray) rfl (by rfl) rfl (fun w19 g15 hg15 hb15 hc hsz15 => ?_))
     have hzw19 := hc.size
     have HC := HC.tr hc
     have hV28 := hV28.ch hc (by first | exact fun _ _ _ h => h | (intro k hk hF ht; have h2 := hF.1; have h3 := hF.2; first | omega | (dsimp only at *; omega)))
     have hP33 := hP33.after hc
     have hb8 := hb8.ch hc (fun h => h)
     have hks := hks.no hc
     have hrnd := hrnd.no hc
     have hb11 := hb11.ch hc (fun h => h)
     have hb12 := hb12.ch hc (fun h => h)
     have hge15 : w.heap.size ≤ g15 := by have := HC.size; omega
     have neg8_15 : g8 < g15 := by omega
     have neg11_15 : g11 < g15 := by omega
     have neg12_15 : g12 < g15 := by omega
     refine wle rfl (e_stH sz38 (List.length_replicate ..) hu72 rfl rfl hb15 (fun w20 hb15 hc hsz => ?_))
     have hzw20 := hc.size
     have HC := HC.trans hc (fun _ _ h => h) (fun k hk ht => absurd ht (by omega))
     have hV28 := hV28.ch hc (by first | exact fun _ _ _ h => h | (intro k hk hF ht; have h2 := hF.1; have h3 := hF.2; first | omega | (dsimp only at *; omega)))
     have hP33 := hP33.ch hc (by intro k hz hk ht; omega)
     have hb8 := hb8.ch hc (by omega)
     have hks := hks.ch hc (by intro k hk ht; omega)
     first | have hrnd := hrnd.ch hc (by intro k hk ht; omega) | have hrnd := hrnd.chT hc (by intro k hz hk ht; omega)
     have hb11 := hb11.ch hc (by omega)
     have hb12 := hb12.ch hc (by omega)
     refine wl rfl rfl rfl (p_as rfl) ?_
     refine wl_nil ?_
     refine x_seq ?_
     refine wc_seq ?_
     refine wc_region ?_
     refine wl rfl rfl rfl (p_mv rfl) ?_
     refine wl rfl rfl rfl (p_not rfl) ?_
     refine wl rfl rfl rfl (p_mv rfl) ?_
     refine wl_know (d := 77) (b' := false) rfl (by rw [hck]; rfl) ?_
     refine wl_g (gd_ rfl rfl rfl rfl rfl rfl) rfl rfl (p_mv rfl) ?_
     refine wl_g (gd_ rfl rfl rfl rfl rfl rfl) rfl rfl (p_mv rfl) ?_
     refine wl_g (gd_ rfl rfl rfl rfl rfl rfl) rfl rfl (p_neB rfl rfl Tryd.underlying4) ?_
     refine wl rfl rfl rfl (p_pickF rfl rfl) ?_
     refine wl rfl rfl rfl (p_mv rfl) ?_
     refine wl_know (d := 82) (b' := false) rfl (by rw [hck, ho72]; simp) ?_
     refine wl_g (gd_ rfl rfl rfl rfl rfl rfl) rfl rfl (p_ldH (L := (checkN (rootN (prvN (eo o28) ks)).1 (prvN (eo o28) ks) x12).1) Tryd.underlying38 sz38 checkN_len rfl (fun _ e => e ▸ rngL hb12)) ?_
     refine wl_g (gd_ rfl rfl rfl rfl rfl rfl) rfl rfl (p_ldH (L := u72) Tryd.underlying38 sz38 hu72 rfl (fun _ e => e ▸ rngL hb15)) ?_
     refine wl_g (gd_ rfl rfl rfl rfl rfl rfl) rfl rfl (p_neH (a := (checkN (rootN (prvN (eo o28) ks)).1 (prvN (eo o28) ks) x12).1) (b := u72) (by kernel_rfl) Tryd.underlying38 Tryd.underlying5 sz5 rfl rfl (checkN_len) (hu72)) ?_
     refine wl rfl rfl rfl (p_pickF rfl rfl) ?_
     refine wl_nil ?_
     refine x_seq ?_
     refine wc_no rfl (by rw [hck, hx72]; simp) ?_
     refine wc_skip ?_
     refine x_in_normal ?_
     refine x_seq ?_
     refine wc_region ?_
     refine wl rfl rfl rfl (p_add rfl rfl (w64 (by omega))) ?_
     refine wl rfl rfl rfl (p_mv rfl) ?_
     refine wl_nil ?_
     refine x_round (e' := [(5, v28), (7, .slice A33 l33 c33), (8, .pointer (some ⟨g8, 0, none⟩)), (55, .slice Ak lk ck), (56, i64 (lk : Int)), (57, i64 ((i + 1) : Int))]) ⟨rfl, rfl, rfl, rfl, rfl, rfl, trivial⟩ (by rw [hm0]; omega) ⟨i + 1, rfl, rfl, (by omega), (hV28.mono (fun k _ h => by first | exact h.1 | exact h | exact h.1.1 | (have := h.1; show w.heap.size ≤ k; omega) | ((try simp only [and_assoc] at h); have := h.1; show w.heap.size ≤ k; omega))), (hP33.mono (fun k _ h => by first | exact h.1 | exact h | exact h.1.1 | (have := h.1; show w.heap.size ≤ k; omega) | ((try simp only [and_assoc] at h); have := h.1; show w.heap.size ≤ k; omega))), hb8, hks, hrnd, hg8w, HC⟩
    ·
     have c2 := of_decide_eq_false c2
     refine wc_exit ?_
     refine x_then_exit ?_
     refine x_then_exit ?_
     refine x_in_here ?_
     refine x_seq ?_
     refine wc_seq ?_
     refine wc_region ?_
     refine wle rfl (e_call ent20 rfl rfl (lives27_any hrnd) ?_)
     rintro _ w21 ⟨rfl, hc⟩
     refine ⟨_, rfl, ?_⟩
     have hzw21 := hc.size
     have HC := HC.tr hc
     have hV28 := hV28.ch hc (by first | exact fun _ _ _ h => h | (intro k hk hF ht; have h2 := hF.1; have h3 := hF.2; first | omega | (dsimp only at *; omega)))
     have hP33 := hP33.after hc
     have hb8 := hb8.ch hc (fun h => h)
     have hks := hks.no hc
     have hrnd := hrnd.no hc
     refine wl rfl rfl rfl (p_as rfl) ?_
     refine wl_nil ?_
     refine x_seq ?_
     refine wc_ret ?_
     refine fin_run ((res1 rfl rfl)) ?_
     exact ⟨rfl, HC⟩
end Go.Proofs.YtkfkdakghjlenaaDoor
