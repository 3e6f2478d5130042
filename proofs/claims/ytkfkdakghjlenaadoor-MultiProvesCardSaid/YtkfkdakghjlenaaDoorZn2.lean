/-
  Own text, printed by a program of mine (wip/gx): what functions of the program do, walked operation by operation.
-/
import Derived.Test.YtkfkdakghjlenaaDoorProg
import Derived.Test.YtkfkdakghjlenaaDoorGxAgg
import Derived.Test.YtkfkdakghjlenaaDoorTab
import Derived.Test.YtkfkdakghjlenaaDoorGxZer
import Derived.Test.YtkfkdakghjlenaaDoorGxLay
import Derived.Test.YtkfkdakghjlenaaDoorPlPack
import Derived.Test.YtkfkdakghjlenaaDoorPlSum
import Derived.Test.YtkfkdakghjlenaaDoorPlSha
import Derived.Test.YtkfkdakghjlenaaDoorPlTag
import Derived.Test.YtkfkdakghjlenaaDoorPlBits
import Derived.Test.YtkfkdakghjlenaaDoorPlShaSt
import Derived.Test.YtkfkdakghjlenaaDoorPlShaB
import Derived.Test.YtkfkdakghjlenaaDoorPlTrie
import Derived.Test.YtkfkdakghjlenaaDoorPlTrieSt
import Derived.Test.YtkfkdakghjlenaaDoorGxRec
import Derived.Test.YtkfkdakghjlenaaDoorGxYld
import Derived.Test.YtkfkdakghjlenaaDoorPlTrieFil
import Derived.Test.YtkfkdakghjlenaaDoorOnceC
import Derived.Test.YtkfkdakghjlenaaDoorPlTrieW
import Derived.Test.YtkfkdakghjlenaaDoorPlMulti
import Derived.Test.YtkfkdakghjlenaaDoorPlEncs
import Derived.Test.YtkfkdakghjlenaaDoorGxMark
import Derived.Test.YtkfkdakghjlenaaDoorPlTrieLaw
import Derived.Test.YtkfkdakghjlenaaDoorPlTrieAct
import Derived.Test.YtkfkdakghjlenaaDoorGxFun
import Derived.Test.YtkfkdakghjlenaaDoorGxPair
import Derived.Test.YtkfkdakghjlenaaDoorPlMany
import Derived.Test.YtkfkdakghjlenaaDoorZn0
import Derived.Test.YtkfkdakghjlenaaDoorZn1
set_option linter.unusedVariables false
set_option linter.unusedSimpArgs false
namespace Go.Proofs.YtkfkdakghjlenaaDoor
open Go.RowKit Go.Gx
open Go.Plain
set_option maxHeartbeats 2000000 in
set_option maxRecDepth 20000 in
theorem prove_fork {w : World} {F Fm Fk : Nat → Prop} {Ao Am Ak : Option Addr} {lo co lm cm lk ck : Nat} {xs : List ND} {ks : List H8} {b : Nat} {x y : Tr} (IHx : ProveOK x) (IHy : ProveOK y) (hout : RI w F 115 eND Ao lo co xs) (hF : ∀ k, w.heap.size ≤ k → F k) (hF0 : ¬ F 0) (hm : SI w Fm eIT Am lm cm (Tr.items (Tr.fork b x y))) (hFm : ∀ k, k < w.heap.size → Fm k → ¬ F k) (hks : SI w Fk eH Ak lk ck ks) (hFk : ∀ k, k < w.heap.size → Fk k → ¬ F k) (hw : (Tr.fork b x y).WF) (hl : lm ≤ 1000000) (hlk : lk ≤ 1000000) (hlo : lo + 2 * (Tr.fork b x y).cnt ≤ 1000000000) (hrnd : Sl w (fun k => k = 0) u32v (some ⟨0, 0, none⟩) 64 64 rk) (hk0 : ks ≠ []) :
    Calls Tryd.prog 70 #[.slice Ao lo co, .slice Am lm cm, .slice Ak lk ck] w fun e w' => ∃ A l c, e = .returned (.slice A l c) ∧ RI w' F 115 eND A l c (xs ++ ((Tr.fork b x y).prv ks).nodes) ∧ Ch F w w' := by
  have hn0 : 0 < w.heap.size := hrnd.size (by omega) rfl
  have hn1 := hn0
  have hml := hm.len
  have hkl := hks.len
  have hol := hout.len
  have hm := hm.mono (G := fun k => k < w.heap.size ∧ ¬ F k) (fun k hk h => ⟨hk, hFm k hk h⟩)
  have hks := hks.mono (G := fun k => k < w.heap.size ∧ ¬ F k) (fun k hk h => ⟨hk, hFk k hk h⟩)
  have hlk0 : lk ≠ 0 := by rw [← hkl]; exact fun e => hk0 (List.eq_nil_of_length_eq_zero e)
  obtain ⟨hc1, hc2, hc3⟩ := cut_fork hw
  have px := Tr.cnt_pos x
  have py := Tr.cnt_pos y
  simp only [Tr.cnt] at hlo
  have hout := hout.mono (G := fun k => F k ∧ k < w.heap.size) (fun k hk h => ⟨h, hk⟩)
  have HC : Ch F w w := Ch.refl _ _
  refine enter' (args := [.slice Ao lo co, .slice Am lm cm, .slice Ak lk ck]) (n := 81) Tryd.func70 rfl rfl rfl ?_
  refine wc_seq ?_
  refine wc_region ?_
  refine wl rfl rfl rfl (p_as rfl) ?_
  refine wl_nil ?_
  refine x_seq ?_
  refine wc_seq ?_
  refine wc_block ?_
  refine wc_seq ?_
  refine wc_region ?_
  refine wl rfl rfl rfl (p_mv rfl) ?_
  refine wl rfl rfl rfl (p_lenS Tryd.underlying23 rfl) ?_
  refine wl rfl rfl rfl (p_eq rfl rfl) ?_
  refine wl rfl rfl rfl (p_as rfl) ?_
  refine wl_nil ?_
  refine x_seq ?_
  refine wc_no rfl (decide_eq_false (by omega)) ?_
  refine wc_seq ?_
  refine wc_region ?_
  refine wl rfl rfl rfl (p_mv rfl) ?_
  refine wl rfl rfl rfl (p_lenS Tryd.underlying118 rfl) ?_
  refine wl rfl rfl rfl (p_eq rfl rfl) ?_
  refine wl rfl rfl rfl (p_as rfl) ?_
  refine wl_nil ?_
  refine x_seq ?_
  refine wc_no rfl (decide_eq_false (by omega)) ?_
  refine wc_skip ?_
  refine x_in_normal ?_
  refine x_seq ?_
  refine wc_seq ?_
  refine wc_region ?_
  refine wl rfl rfl rfl (p_mv rfl) ?_
  refine wle rfl (e_call ent100 rfl rfl (mcut_any (hm) hw (by omega)) ?_)
  rintro _ w1 ⟨rfl, hc⟩
  refine ⟨_, rfl, ?_⟩
  have hzw1 := hc.size
  have HC := HC.tr hc
  have hout := hout.after hc
  have hm := hm.no hc
  have hks := hks.no hc
  have hrnd := hrnd.no hc
  refine wl rfl rfl rfl (p_mv rfl) ?_
  refine wl rfl rfl rfl (p_ext rfl rfl) ?_
  refine wl rfl rfl rfl (p_ext rfl rfl) ?_
  refine wl rfl rfl rfl (p_as rfl) ?_
  refine wl rfl rfl rfl (p_as rfl) ?_
  refine wl_nil ?_
  refine x_seq ?_
  refine wc_seq ?_
  refine wc_region ?_
  refine wle rfl (e_alloc (cs := ([Value.slice none 0 0, Value.slice none 0 0] : List Value).toArray) rfl (by rfl) rfl (fun w2 g9 hg9 hb9 hc hsz9 => ?_))
  have hzw2 := hc.size
  have HC := HC.tr hc
  have hout := hout.after hc
  have hm := hm.no hc
  have hks := hks.no hc
  have hrnd := hrnd.no hc
  have hge9 : w.heap.size ≤ g9 := by have := HC.size; omega
  refine wl_nil ?_
  refine x_seq ?_
  refine wc_seq ?_
  refine wc_seq ?_
  refine wc_region ?_
  refine wl rfl rfl rfl (p_mv rfl) ?_
  refine wl rfl rfl rfl (p_lenS Tryd.underlying23 rfl) ?_
  refine wl rfl rfl rfl (p_mv rfl) ?_
  refine wl_nil ?_
  refine x_seq ?_
  refine wc_block ?_
  obtain ⟨n9, hn9⟩ : ∃ z, z = w2.heap.size := ⟨_, rfl⟩
  refine wc_loop (e' := [(0, .slice Ao lo co), (1, .slice Am lm cm), (7, i64 (b : Int)), (8, i64 (x.cnt : Int)), (9, .pointer (some ⟨g9, 0, none⟩)), (44, .slice Ak lk ck), (45, i64 (lk : Int)), (46, i64 ((0) : Int))]) (fun mz ez uz => ∃ i : Nat, ∃ A0 : Option Addr, ∃ l0 : Nat, ∃ c0 : Nat, ∃ A1 : Option Addr, ∃ l1 : Nat, ∃ c1 : Nat, mz = lk - i ∧ ez = [(0, .slice Ao lo co), (1, .slice Am lm cm), (7, i64 (b : Int)), (8, i64 (x.cnt : Int)), (9, .pointer (some ⟨g9, 0, none⟩)), (44, .slice Ak lk ck), (45, i64 (lk : Int)), (46, i64 (i : Int))] ∧ (i ≤ lk) ∧ (l0 ≤ i) ∧ (l1 ≤ i) ∧ (Blk uz g9 178 ([.slice A0 l0 c0, .slice A1 l1 c1] : List Value).toArray) ∧ (R2 uz n9 uz.heap.size 38 eH A0 l0 c0 ((ks.take i).filter (fun k => decide (bitN k b = 0))) A1 l1 c1 ((ks.take i).filter (fun k => decide (bitN k b = 1)))) ∧ (RI uz (fun k => F k ∧ k < w.heap.size) 115 eND Ao lo co xs) ∧ (SI uz (fun k => k < w.heap.size ∧ ¬ F k) eIT Am lm cm (Tr.items (.fork b x y))) ∧ (SI uz (fun k => k < w.heap.size ∧ ¬ F k) eH Ak lk ck ks) ∧ (Sl uz (fun k => k = 0) u32v (some ⟨0, 0, none⟩) 64 64 rk) ∧ (w.heap.size ≤ g9 ∧ g9 < n9 ∧ n9 ≤ uz.heap.size) ∧ (Ch F w uz))
   ⟨rfl, rfl, rfl, rfl, rfl, rfl, rfl, rfl, trivial⟩ ⟨0, none, 0, 0, none, 0, 0, rfl, rfl, (by omega), (by omega), (by omega), hb9, R2.nil _ _ _ _ _, (hout.mono (fun k hk h => ⟨by first | exact h.1 | exact h.1.1 | exact h.1.1.1 | exact h.1.1.1.1 | exact h.1.1.1.1.1, by first | exact h.2 | exact h.1.2 | exact h.1.1.2 | exact h.1.1.1.2 | exact h.1.1.1.1.2 | exact h.1.1.1.1.1.2⟩)), hm, hks, hrnd, (by omega), HC⟩ ?_
  rintro m0 e w3 ⟨i, A0, l0, c0, A1, l1, c1, hm0, rfl, hi, hl0, hl1, hb9, hR2, hout, hm, hks, hrnd, hg9n, HC⟩
  have hzw3 := HC.size
  obtain ⟨m9, hm9⟩ : ∃ z, z = w3.heap.size := ⟨_, rfl⟩
  rw [← hm9] at hR2
  refine wc_seq ?_
  refine wc_region ?_
  refine wl rfl rfl rfl (p_lt rfl rfl) ?_
  refine wl_nil ?_
  refine x_seq ?_
  refine wc_seq ?_
  refine wc_if rfl (fun c2 => ?_) (fun c2 => ?_)
  ·
   have c2 := of_decide_eq_true c2
   refine wc_skip ?_
   refine x_seq ?_
   refine wc_seq ?_
   refine wc_block ?_
   refine wc_seq ?_
   refine wc_region ?_
   obtain ⟨b4, o4, hA4, hF4, hr4⟩ := (hks).opn (i := i) (d := zeroH) (by omega)
   have hok4 := (hks).okAt (i := i) (d := zeroH) (by omega)
   obtain ⟨x4, ex4⟩ : ∃ x_, x_ = List.getD ks (i) zeroH := ⟨_, rfl⟩
   rw [← ex4] at hr4 hok4
   have hx4k : List.length x4 = 32 := hok4
   have hr4 : w3.rangeAt b4 (o4 + i * 32) ((List.map u8v x4) : List Value) := hr4
   refine wl rfl rfl rfl (p_ixS (j := i * 32) Tryd.underlying23 sz38 rfl hA4 rfl (by omega) (by omega) (congrArg (· * 32) (Int.toNat_natCast _))) ?_
   refine wl rfl rfl rfl (p_ldA (cs := ((List.map u8v x4) : List Value)) Tryd.underlying38 rfl (szL sz38 (by first | rfl | (simp only [List.length_append, List.length_map, List.length_cons, List.length_nil, (show List.length x4 = 32 from hx4k)]; done) | (simp only [List.length_append, List.length_map, List.length_cons, List.length_nil, List.size_toArray, (show List.length x4 = 32 from hx4k)]; done))) rfl (fun _ e => e ▸ hr4)) ?_
   have hltg9 := hb9.lt
   refine wle rfl (e_alloc (cs := ((List.replicate 32 (0 : UInt8)).map u8v).toArray) rfl (by rfl) rfl (fun w5 g11 hg11 hb11 hc hsz11 => ?_))
   have hzw5 := hc.size
   have HC := HC.tr hc
   have hout := hout.after hc
   have hm := hm.no hc
   have hks := hks.no hc
   have hrnd := hrnd.no hc
   have hb9 := hb9.ch hc (fun h => h)
   first | have hR2 := hR2.no hc | have hR2 := hR2.ch hc (by intro k h1 h2 ht; first | omega | (dsimp only at *; omega))
   have hge11 : w.heap.size ≤ g11 := by have := HC.size; omega
   have neg9_11 : g9 < g11 := by omega
   refine wle rfl (e_stH sz38 (List.length_replicate ..) hx4k rfl rfl hb11 (fun w6 hb11 hc hsz => ?_))
   have hzw6 := hc.size
   have HC := HC.trans hc (fun _ _ h => h) (fun k hk ht => absurd ht (by omega))
   have hout := hout.ch hc (by intro k hz hk ht; omega)
   have hm := hm.ch hc (by intro k hk ht; have h1 := hk.1; omega)
   have hks := hks.ch hc (by intro k hk ht; have h1 := hk.1; omega)
   have hrnd := hrnd.ch hc (by intro k hk ht; omega)
   have hb9 := hb9.ch hc (by omega)
   first | have hR2 := hR2.no hc | have hR2 := hR2.ch hc (by intro k h1 h2 ht; first | omega | (dsimp only at *; omega))
   refine wl_nil ?_
   refine x_seq ?_
   refine wc_seq ?_
   refine wc_region ?_
   refine wl rfl rfl rfl (p_ldH (L := x4) Tryd.underlying38 sz38 hx4k rfl (fun _ e => e ▸ rngL hb11)) ?_
   refine wl rfl rfl rfl (p_mv rfl) ?_
   refine wle rfl (e_call ent38 rfl rfl (bitS (n := b) (hx4k)) ?_)
   rintro _ w7 ⟨s52, rfl, hs52, hsl52, hc⟩
   refine ⟨_, rfl, ?_⟩
   have hzw7 := hc.size
   have HC := HC.tr hc
   have hout := hout.after hc
   have hm := hm.no hc
   have hks := hks.no hc
   have hrnd := hrnd.no hc
   have hb9 := hb9.ch hc (fun h => h)
   first | have hR2 := hR2.no hc | have hR2 := hR2.ch hc (by intro k h1 h2 ht; first | omega | (dsimp only at *; omega))
   have hb11 := hb11.ch hc (fun h => h)
   refine wl rfl rfl rfl (p_as rfl) ?_
   refine wl_nil ?_
   refine x_seq ?_
   obtain rfl | rfl : s52 = 0 ∨ s52 = 1 := by omega
   ·
    refine wc_draw (.st 0 0 (.st 1 0 (.st 2 0 (.st 3 1 (.st 4 1 (.st 5 2 (.st 6 3 (.st 7 0 (.st 8 3 .nil))))))))) 6 (by kernel_rfl) (by kernel_rfl) (by kernel_rfl) (by repeat (first | with_reducible exact pan_body | with_reducible apply pan_then | with_reducible apply pan_in)) (fun x => Ch No w7.drew x) (Ch.refl _ _) ?_
    obtain ⟨w8, ew8⟩ : ∃ x, x = w7.drew := ⟨_, rfl⟩
    rw [← ew8]
    have hc : Ch No w7 w8 := by rw [ew8]; exact Ch.drew _
    have hszw8 : w8.heap.size = w7.heap.size := by rw [ew8]; rfl
    clear ew8
    have hzw8 := hc.size
    have HC := HC.tr hc
    have hout := hout.no hc
    have hm := hm.no hc
    have hks := hks.no hc
    have hrnd := hrnd.no hc
    have hb9 := hb9.ch hc (fun h => h)
    first | have hR2 := hR2.no hc | have hR2 := hR2.ch hc (by intro k h1 h2 ht; first | omega | (dsimp only at *; omega))
    have hb11 := hb11.ch hc (fun h => h)
    have hS : Ch No w8 w8 := Ch.refl _ _
    refine ws_p rfl rfl rfl rfl (p_mv rfl) ?_
    refine ws_p rfl rfl rfl rfl (p_mv rfl) ?_
    refine ws_p rfl rfl rfl rfl (p_ixA (j := 0) Tryd.underlying178 sz23 rfl rfl (by omega) (by omega) rfl) ?_
    refine ws_h rfl rfl rfl rfl (p_ld Tryd.underlying23 rfl rfl (fun _ h => h.cell (fun h => h) (cell_at (p := []) (v := (.slice A0 l0 c0 : Value)) (r := ([.slice A1 l1 c1] : List Value)) hb9 (by simp only [List.append_assoc, List.cons_append, List.nil_append, List.append_nil]) (by first | rfl | (simp only [List.length_append, List.length_map, List.length_cons, List.length_nil]; done) | (simp only [List.length_append, List.length_map, List.length_cons, List.length_nil, List.size_toArray]; done))))) ?_
    refine ws_h rfl rfl rfl rfl (p_ldH (L := x4) Tryd.underlying38 sz38 hx4k rfl (fun _ h => rngL (hb11.ch h (fun h => h)))) ?_
    have hltg9 := hb9.lt
    have hltg11 := hb11.lt
    refine ws_e rfl rfl (e_bslX (E := 38) (cs := ((List.map u8v x4) : List Value)) (cs' := ((hx x4) : List Value)) rfl rfl (by simp only [hv, map_hx hx4k] <;> rfl) (fun _ => by kernel_rfl) (fun w10 g58 hg58 hb58 hc hsz58 => ⟨hc, ?_⟩))
    have hzw10 := hc.size
    have HC := HC.tr hc
    have hout := hout.after hc
    have hm := hm.no hc
    have hks := hks.no hc
    have hrnd := hrnd.no hc
    have hb9 := hb9.ch hc (fun h => h)
    first | have hR2 := hR2.no hc | have hR2 := hR2.ch hc (by intro k h1 h2 ht; first | omega | (dsimp only at *; omega))
    have hb11 := hb11.ch hc (fun h => h)
    have hge58 : w.heap.size ≤ g58 := by have := HC.size; omega
    have hS58 := SI.oneA (E := eH) (x := x4) hb58 rfl hx4k
    refine ws_narrow (S' := fun x => Ch No w10 x) (Ch.refl _ _) (fun x h => hc.tr h) ?_
    refine ws_l rfl rfl (e_app2 rfl el23 rfl rfl hR2 (hS58) (by omega) (by omega) (by omega) (fun w11 A59 c59 hR2 hc => ?_))
    have hzw11 := hc.size
    have HC := HC.trans hc (fun _ _ h => h) (fun k hk ht => (by first | exact ht | (exfalso; omega) | ((try simp only [and_assoc] at ht); exact ht.1)))
    have hout := hout.afterT hc (by intro k hz hk ht; omega)
    have hm := hm.ch hc (by intro k hk ht; first | exact hk.2 ht | (have h1 := hk.1; omega) | ((try simp only [and_assoc] at ht); exact hk.2 ht.1))
    have hks := hks.ch hc (by intro k hk ht; first | exact hk.2 ht | (have h1 := hk.1; omega) | ((try simp only [and_assoc] at ht); exact hk.2 ht.1))
    have hrnd := hrnd.ch hc (by rintro k rfl ht; first | omega | exact hF0 ht | ((try simp only [and_assoc] at ht); exact hF0 ht.1))
    have hb9 := hb9.ch hc (by omega)
    have hb11 := hb11.ch hc (by omega)
    refine ws_p rfl rfl rfl rfl (p_ixA (j := 0) Tryd.underlying178 sz23 rfl rfl (by omega) (by omega) rfl) ?_
    refine ws_l rfl rfl (e_stC (p := []) (u := (.slice A0 l0 c0 : Value)) (r := ([.slice A1 l1 c1] : List Value)) (v := .slice A59 (l0 + 1) c59) (by rfl) rfl rfl rfl hb9 (by simp only [List.append_assoc, List.cons_append, List.nil_append, List.append_nil]) (by first | rfl | (simp only [List.length_append, List.length_map, List.length_cons, List.length_nil]; done) | (simp only [List.length_append, List.length_map, List.length_cons, List.length_nil, List.size_toArray]; done)) (fun w13 hb9 hc hsz => ?_))
    have hb9 : Blk w13 g9 178 ([.slice A59 (l0 + 1) c59, .slice A1 l1 c1] : List Value).toArray := by have h := hb9; simp only [List.append_assoc, List.cons_append, List.nil_append, List.append_nil] at h ⊢; exact h
    have hzw13 := hc.size
    have HC := HC.trans hc (fun _ _ h => h) (fun k hk ht => absurd ht (by omega))
    have hout := hout.ch hc (by intro k hz hk ht; omega)
    have hm := hm.ch hc (by intro k hk ht; have h1 := hk.1; omega)
    have hks := hks.ch hc (by intro k hk ht; have h1 := hk.1; omega)
    have hrnd := hrnd.ch hc (by intro k hk ht; omega)
    first | have hR2 := hR2.no hc | have hR2 := hR2.ch hc (by intro k h1 h2 ht; first | omega | (dsimp only at *; omega))
    have hb11 := hb11.ch hc (by omega)
    refine ws_n ?_
    refine x_in_normal ?_
    refine x_seq ?_
    refine wc_region ?_
    refine wl rfl rfl rfl (p_add rfl rfl (w64 (by omega))) ?_
    refine wl rfl rfl rfl (p_mv rfl) ?_
    refine wl_nil ?_
    refine x_round (e' := [(0, .slice Ao lo co), (1, .slice Am lm cm), (7, i64 (b : Int)), (8, i64 (x.cnt : Int)), (9, .pointer (some ⟨g9, 0, none⟩)), (44, .slice Ak lk ck), (45, i64 (lk : Int)), (46, i64 ((i + 1) : Int))]) ⟨rfl, rfl, rfl, rfl, rfl, rfl, rfl, rfl, trivial⟩ (by rw [hm0]; omega) ⟨i + 1, A59, l0 + 1, c59, A1, l1, c1, rfl, rfl, (by omega), (by omega), (by omega), hb9, (by rw [filt_yes (p := (fun k => decide (bitN k b = 0))) (d := zeroH) (by omega) (by rw [← ex4, hs52]; rfl), filt_no (p := (fun k => decide (bitN k b = 1))) (d := zeroH) (by omega) (by rw [← ex4, hs52]; rfl), ← ex4]; exact hR2.up (by omega)), (hout.mono (fun k hk h => ⟨by first | exact h.1 | exact h.1.1 | exact h.1.1.1 | exact h.1.1.1.1 | exact h.1.1.1.1.1 | exact h.1.1.1.1.1.1 | exact h.1.1.1.1.1.1.1 | exact h.1.1.1.1.1.1.1.1, by first | exact h.2 | exact h.1.2 | exact h.1.1.2 | exact h.1.1.1.2 | exact h.1.1.1.1.2 | exact h.1.1.1.1.1.2 | exact h.1.1.1.1.1.1.2 | exact h.1.1.1.1.1.1.1.2 | exact h.1.1.1.1.1.1.1.1.2⟩)), hm, hks, hrnd, (by omega), HC⟩
   ·
    refine wc_draw (.st 0 0 (.st 1 0 (.st 2 0 (.st 3 1 (.st 4 1 (.st 5 2 (.st 6 3 (.st 7 0 (.st 8 3 .nil))))))))) 6 (by kernel_rfl) (by kernel_rfl) (by kernel_rfl) (by repeat (first | with_reducible exact pan_body | with_reducible apply pan_then | with_reducible apply pan_in)) (fun x => Ch No w7.drew x) (Ch.refl _ _) ?_
    obtain ⟨w14, ew14⟩ : ∃ x, x = w7.drew := ⟨_, rfl⟩
    rw [← ew14]
    have hc : Ch No w7 w14 := by rw [ew14]; exact Ch.drew _
    have hszw14 : w14.heap.size = w7.heap.size := by rw [ew14]; rfl
    clear ew14
    have hzw14 := hc.size
    have HC := HC.tr hc
    have hout := hout.no hc
    have hm := hm.no hc
    have hks := hks.no hc
    have hrnd := hrnd.no hc
    have hb9 := hb9.ch hc (fun h => h)
    first | have hR2 := hR2.no hc | have hR2 := hR2.ch hc (by intro k h1 h2 ht; first | omega | (dsimp only at *; omega))
    have hb11 := hb11.ch hc (fun h => h)
    have hS : Ch No w14 w14 := Ch.refl _ _
    refine ws_p rfl rfl rfl rfl (p_mv rfl) ?_
    refine ws_p rfl rfl rfl rfl (p_mv rfl) ?_
    refine ws_p rfl rfl rfl rfl (p_ixA (j := 1) Tryd.underlying178 sz23 rfl rfl (by omega) (by omega) rfl) ?_
    refine ws_h rfl rfl rfl rfl (p_ld Tryd.underlying23 rfl rfl (fun _ h => h.cell (fun h => h) (cell_at (p := ([.slice A0 l0 c0] : List Value)) (v := (.slice A1 l1 c1 : Value)) (r := []) hb9 (by simp only [List.append_assoc, List.cons_append, List.nil_append, List.append_nil]) (by first | rfl | (simp only [List.length_append, List.length_map, List.length_cons, List.length_nil]; done) | (simp only [List.length_append, List.length_map, List.length_cons, List.length_nil, List.size_toArray]; done))))) ?_
    refine ws_h rfl rfl rfl rfl (p_ldH (L := x4) Tryd.underlying38 sz38 hx4k rfl (fun _ h => rngL (hb11.ch h (fun h => h)))) ?_
    have hltg9 := hb9.lt
    have hltg11 := hb11.lt
    refine ws_e rfl rfl (e_bslX (E := 38) (cs := ((List.map u8v x4) : List Value)) (cs' := ((hx x4) : List Value)) rfl rfl (by simp only [hv, map_hx hx4k] <;> rfl) (fun _ => by kernel_rfl) (fun w16 g58 hg58 hb58 hc hsz58 => ⟨hc, ?_⟩))
    have hzw16 := hc.size
    have HC := HC.tr hc
    have hout := hout.after hc
    have hm := hm.no hc
    have hks := hks.no hc
    have hrnd := hrnd.no hc
    have hb9 := hb9.ch hc (fun h => h)
    first | have hR2 := hR2.no hc | have hR2 := hR2.ch hc (by intro k h1 h2 ht; first | omega | (dsimp only at *; omega))
    have hb11 := hb11.ch hc (fun h => h)
    have hge58 : w.heap.size ≤ g58 := by have := HC.size; omega
    have hS58 := SI.oneA (E := eH) (x := x4) hb58 rfl hx4k
    refine ws_narrow (S' := fun x => Ch No w16 x) (Ch.refl _ _) (fun x h => hc.tr h) ?_
    refine ws_l rfl rfl (e_app2b rfl el23 rfl rfl hR2 (hS58) (by omega) (by omega) (by omega) (fun w17 A59 c59 hR2 hc => ?_))
    have hzw17 := hc.size
    have HC := HC.trans hc (fun _ _ h => h) (fun k hk ht => (by first | exact ht | (exfalso; omega) | ((try simp only [and_assoc] at ht); exact ht.1)))
    have hout := hout.afterT hc (by intro k hz hk ht; omega)
    have hm := hm.ch hc (by intro k hk ht; first | exact hk.2 ht | (have h1 := hk.1; omega) | ((try simp only [and_assoc] at ht); exact hk.2 ht.1))
    have hks := hks.ch hc (by intro k hk ht; first | exact hk.2 ht | (have h1 := hk.1; omega) | ((try simp only [and_assoc] at ht); exact hk.2 ht.1))
    have hrnd := hrnd.ch hc (by rintro k rfl ht; first | omega | exact hF0 ht | ((try simp only [and_assoc] at ht); exact hF0 ht.1))
    have hb9 := hb9.ch hc (by omega)
    have hb11 := hb11.ch hc (by omega)
    refine ws_p rfl rfl rfl rfl (p_ixA (j := 1) Tryd.underlying178 sz23 rfl rfl (by omega) (by omega) rfl) ?_
    refine ws_l rfl rfl (e_stC (p := ([.slice A0 l0 c0] : List Value)) (u := (.slice A1 l1 c1 : Value)) (r := []) (v := .slice A59 (l1 + 1) c59) (by rfl) rfl rfl rfl hb9 (by simp only [List.append_assoc, List.cons_append, List.nil_append, List.append_nil]) (by first | rfl | (simp only [List.length_append, List.length_map, List.length_cons, List.length_nil]; done) | (simp only [List.length_append, List.length_map, List.length_cons, List.length_nil, List.size_toArray]; done)) (fun w19 hb9 hc hsz => ?_))
    have hb9 : Blk w19 g9 178 ([.slice A0 l0 c0, .slice A59 (l1 + 1) c59] : List Value).toArray := by have h := hb9; simp only [List.append_assoc, List.cons_append, List.nil_append, List.append_nil] at h ⊢; exact h
    have hzw19 := hc.size
    have HC := HC.trans hc (fun _ _ h => h) (fun k hk ht => absurd ht (by omega))
    have hout := hout.ch hc (by intro k hz hk ht; omega)
    have hm := hm.ch hc (by intro k hk ht; have h1 := hk.1; omega)
    have hks := hks.ch hc (by intro k hk ht; have h1 := hk.1; omega)
    have hrnd := hrnd.ch hc (by intro k hk ht; omega)
    first | have hR2 := hR2.no hc | have hR2 := hR2.ch hc (by intro k h1 h2 ht; first | omega | (dsimp only at *; omega))
    have hb11 := hb11.ch hc (by omega)
    refine ws_n ?_
    refine x_in_normal ?_
    refine x_seq ?_
    refine wc_region ?_
    refine wl rfl rfl rfl (p_add rfl rfl (w64 (by omega))) ?_
    refine wl rfl rfl rfl (p_mv rfl) ?_
    refine wl_nil ?_
    refine x_round (e' := [(0, .slice Ao lo co), (1, .slice Am lm cm), (7, i64 (b : Int)), (8, i64 (x.cnt : Int)), (9, .pointer (some ⟨g9, 0, none⟩)), (44, .slice Ak lk ck), (45, i64 (lk : Int)), (46, i64 ((i + 1) : Int))]) ⟨rfl, rfl, rfl, rfl, rfl, rfl, rfl, rfl, trivial⟩ (by rw [hm0]; omega) ⟨i + 1, A0, l0, c0, A59, l1 + 1, c59, rfl, rfl, (by omega), (by omega), (by omega), hb9, (by rw [filt_no (p := (fun k => decide (bitN k b = 0))) (d := zeroH) (by omega) (by rw [← ex4, hs52]; rfl), filt_yes (p := (fun k => decide (bitN k b = 1))) (d := zeroH) (by omega) (by rw [← ex4, hs52]; rfl), ← ex4]; exact hR2.up (by omega)), (hout.mono (fun k hk h => ⟨by first | exact h.1 | exact h.1.1 | exact h.1.1.1 | exact h.1.1.1.1 | exact h.1.1.1.1.1 | exact h.1.1.1.1.1.1 | exact h.1.1.1.1.1.1.1 | exact h.1.1.1.1.1.1.1.1, by first | exact h.2 | exact h.1.2 | exact h.1.1.2 | exact h.1.1.1.2 | exact h.1.1.1.1.2 | exact h.1.1.1.1.1.2 | exact h.1.1.1.1.1.1.2 | exact h.1.1.1.1.1.1.1.2 | exact h.1.1.1.1.1.1.1.1.2⟩)), hm, hks, hrnd, (by omega), HC⟩
  ·
   have c2 := of_decide_eq_false c2
   rw [List.take_of_length_le (by omega)] at hR2
   have hS0 := hR2.fst.si
   have hS1 := hR2.snd.si
   have hs0l := hS0.len
   have hs1l := hS1.len
   have hspl := Tr.split_len ks b
   refine wc_exit ?_
   refine x_then_exit ?_
   refine x_then_exit ?_
   refine x_in_here ?_
   refine x_seq ?_
   refine wc_seq ?_
   refine wc_region ?_
   refine wl rfl rfl rfl (p_mv rfl) ?_
   refine wl rfl rfl rfl (p_mv rfl) ?_
   refine wl rfl rfl rfl (p_bldX (vs' := [.int .i64 (4), i64 (b : Int)]) (cs := (([.int .i64 (4), i64 (b : Int)] ++ ((List.map u8v (List.replicate 32 (0 : UInt8))) ++ (List.map u8v (List.replicate 32 (0 : UInt8))))) : List Value)) (cs' := (([.int .i64 (4), i64 (b : Int)] ++ ((hx (List.replicate 32 (0 : UInt8))) ++ (hx (List.replicate 32 (0 : UInt8))))) : List Value)) rfl rfl (by simp only [hv, map_hx (List.length_replicate ..)] <;> rfl) (fun _ => by kernel_rfl)) ?_
   have hltg9 := hb9.lt
   refine wle rfl (e_bslX (E := 115) (cs := (([.int .i64 (4), i64 (b : Int)] ++ ((List.map u8v (List.replicate 32 (0 : UInt8))) ++ (List.map u8v (List.replicate 32 (0 : UInt8))))) : List Value)) (cs' := (([.int .i64 (4), i64 (b : Int)] ++ ((hx (List.replicate 32 (0 : UInt8))) ++ (hx (List.replicate 32 (0 : UInt8))))) : List Value)) rfl rfl (by simp only [hv, map_hx (List.length_replicate ..)] <;> rfl) (fun _ => by kernel_rfl) (fun w20 g65 hg65 hb65 hc hsz65 => ?_))
   have hzw20 := hc.size
   have HC := HC.tr hc
   have hout := hout.after hc
   have hm := hm.no hc
   have hks := hks.no hc
   have hrnd := hrnd.no hc
   have hb9 := hb9.ch hc (fun h => h)
   have hS0 := hS0.no hc
   have hS1 := hS1.no hc
   have hge65 : w.heap.size ≤ g65 := by have := HC.size; omega
   have hS65 := SI.oneA (E := eND) (x := ⟨(4), (b : Int), (List.replicate 32 (0 : UInt8)), (List.replicate 32 (0 : UInt8))⟩) hb65 rfl ⟨(List.length_replicate ..), (List.length_replicate ..)⟩
   obtain ⟨n13, hn13⟩ : ∃ z, z = w20.heap.size := ⟨_, rfl⟩
   have hout := hout.mono (G := fun k => F k ∧ (k < w.heap.size ∨ n13 ≤ k)) (fun k hk h => ⟨by first | exact h.1 | exact h.1.1 | exact h.1.1.1 | exact h.1.1.1.1 | exact h.1.1.1.1.1 | exact h.1.1.1.1.1.1, by have h9 := h.1; omega⟩)
   have hltg9 := hb9.lt
   refine wle rfl (e_appI rfl el33 rfl rfl hout (hS65) (by omega) (by intro k hk; have hF1 := hF k (by omega); repeat (first | exact hF1 | (refine ⟨?_, by omega⟩))) (fun w21 A66 c66 hout hc => ?_))
   have hzw21 := hc.size
   have HC := HC.trans hc (fun _ _ h => h) (fun k hk ht => (by first | exact ht | (exfalso; omega) | ((try simp only [and_assoc] at ht); exact ht.1)))
   have hm := hm.ch hc (by intro k hk ht; first | exact hk.2 ht | (have h1 := hk.1; omega) | ((try simp only [and_assoc] at ht); exact hk.2 ht.1))
   have hks := hks.ch hc (by intro k hk ht; first | exact hk.2 ht | (have h1 := hk.1; omega) | ((try simp only [and_assoc] at ht); exact hk.2 ht.1))
   have hrnd := hrnd.ch hc (by rintro k rfl ht; first | omega | exact hF0 ht | ((try simp only [and_assoc] at ht); exact hF0 ht.1))
   have hb9 := hb9.ch hc (by omega)
   first | have hS0 := hS0.ch hc (by intro k hk ht; omega) | have hS0 := hS0.chT hc (by intro k hz hk ht; omega)
   first | have hS1 := hS1.ch hc (by intro k hk ht; omega) | have hS1 := hS1.chT hc (by intro k hz hk ht; omega)
   first | have hS65 := hS65.ch hc (by intro k hk ht; omega) | have hS65 := hS65.chT hc (by intro k hz hk ht; omega)
   refine wl rfl rfl rfl (p_as rfl) ?_
   refine wl_nil ?_
   refine x_seq ?_
   refine wc_seq ?_
   refine wc_draw (.st 0 0 (.st 1 0 (.st 2 0 (.st 3 0 (.st 4 0 (.st 5 1 (.st 6 3 (.st 7 0 .nil)))))))) 6 (by kernel_rfl) (by kernel_rfl) (by kernel_rfl) (by repeat (first | with_reducible exact pan_body | with_reducible apply pan_then | with_reducible apply pan_in)) (fun x => Ch No w21.drew x) (Ch.refl _ _) ?_
   obtain ⟨w22, ew22⟩ : ∃ x, x = w21.drew := ⟨_, rfl⟩
   rw [← ew22]
   have hc : Ch No w21 w22 := by rw [ew22]; exact Ch.drew _
   have hszw22 : w22.heap.size = w21.heap.size := by rw [ew22]; rfl
   clear ew22
   have hzw22 := hc.size
   have HC := HC.tr hc
   have hout := hout.no hc
   have hm := hm.no hc
   have hks := hks.no hc
   have hrnd := hrnd.no hc
   have hb9 := hb9.ch hc (fun h => h)
   have hS0 := hS0.no hc
   have hS1 := hS1.no hc
   have hS65 := hS65.no hc
   have hS : Ch No w22 w22 := Ch.refl _ _
   refine ws_p rfl rfl rfl rfl (p_mv rfl) ?_
   refine ws_p rfl rfl rfl rfl (p_mv rfl) ?_
   refine ws_p rfl rfl rfl rfl (p_mv rfl) ?_
   have hS70 : SI w22 (fun k => k < w.heap.size ∧ ¬ F k) eIT (cutA Am cm 0 64) x.cnt (cm - 0) (Tr.items x) := by have h := hm.cut (lo := 0) (hi := x.cnt) (q := x.cnt) (by omega) (by omega) (by omega); rw [List.drop_zero, fork_take] at h; exact h
   refine ws_p rfl rfl rfl rfl (p_slS (l := 0) (h := x.cnt) Tryd.underlying118 sz174 rfl rfl ⟨_, rfl⟩ (by omega) (by have := hm.cap; omega) hm.cap (q := x.cnt) (by omega)) ?_
   refine ws_p rfl rfl rfl rfl (p_ixA (j := 0) Tryd.underlying178 sz23 rfl rfl (by omega) (by omega) rfl) ?_
   refine ws_h rfl rfl rfl rfl (p_ld Tryd.underlying23 rfl rfl (fun _ h => h.cell (fun h => h) (cell_at (p := []) (v := (.slice A0 l0 c0 : Value)) (r := ([.slice A1 l1 c1] : List Value)) hb9 (by simp only [List.append_assoc, List.cons_append, List.nil_append, List.append_nil]) (by first | rfl | (simp only [List.length_append, List.length_map, List.length_cons, List.length_nil]; done) | (simp only [List.length_append, List.length_map, List.length_cons, List.length_nil, List.size_toArray]; done))))) ?_
   have hout := hout.mono (G := fun k => F k ∧ (k < w.heap.size ∨ n13 ≤ k)) (fun k hk h => ⟨by first | exact h.1 | exact h.1.1 | exact h.1.1.1 | exact h.1.1.1.1 | exact h.1.1.1.1.1 | exact h.1.1.1.1.1.1, by omega⟩)
   refine ws_l rfl rfl (e_call ent70 rfl rfl (IHx hout (fun k hk => ⟨hF k (by omega), by omega⟩) (fun h => hF0 h.1) hS70 (fun k _ h1 h2 => h1.2 h2.1) hS0 (fun k _ h1 h2 => by have h3 := h2.2; have h4 := h1.1; have h5 := h1.2; omega) hw.2.1 (by omega) (by omega) (by omega) hrnd) ?_)
   rintro _ w24 ⟨A73, l73, c73, rfl, hout, hc⟩
   refine ⟨_, rfl, ?_⟩
   have hzw24 := hc.size
   have HC := HC.trans hc (fun _ _ h => h) (fun k hk ht => (by first | exact ht | (exfalso; omega) | ((try simp only [and_assoc] at ht); exact ht.1)))
   have hm := hm.ch hc (by intro k hk ht; first | exact hk.2 ht | (have h1 := hk.1; omega) | ((try simp only [and_assoc] at ht); exact hk.2 ht.1))
   have hks := hks.ch hc (by intro k hk ht; first | exact hk.2 ht | (have h1 := hk.1; omega) | ((try simp only [and_assoc] at ht); exact hk.2 ht.1))
   have hrnd := hrnd.ch hc (by rintro k rfl ht; first | omega | exact hF0 ht | ((try simp only [and_assoc] at ht); exact hF0 ht.1))
   have hb9 := hb9.ch hc (by omega)
   first | have hS0 := hS0.ch hc (by intro k hk ht; omega) | have hS0 := hS0.chT hc (by intro k hz hk ht; omega)
   first | have hS1 := hS1.ch hc (by intro k hk ht; omega) | have hS1 := hS1.chT hc (by intro k hz hk ht; omega)
   first | have hS65 := hS65.ch hc (by intro k hk ht; omega) | have hS65 := hS65.chT hc (by intro k hz hk ht; omega)
   have hS70 := hS70.ch hc (by intro k hk ht; first | exact hk.2 ht | (have h1 := hk.1; omega) | ((try simp only [and_assoc] at ht); exact hk.2 ht.1))
   have hol73 := hout.len
   have hpn73 := Tr.prv_nodes (t := x) (ks := ks.filter (fun k => decide (bitN k b = 0)))
   simp only [List.length_append, List.length_singleton] at hol73
   have hcx73 := Tr.cnt_pos x
   refine ws_p rfl rfl rfl rfl (p_as rfl) ?_
   refine ws_n ?_
   refine x_seq ?_
   refine wc_seq ?_
   refine wc_draw (.st 0 0 (.st 1 0 (.st 2 0 (.st 3 0 (.st 4 0 (.st 5 1 (.st 6 3 (.st 7 0 .nil)))))))) 6 (by kernel_rfl) (by kernel_rfl) (by kernel_rfl) (by repeat (first | with_reducible exact pan_body | with_reducible apply pan_then | with_reducible apply pan_in)) (fun x => Ch No w24.drew x) (Ch.refl _ _) ?_
   obtain ⟨w25, ew25⟩ : ∃ x, x = w24.drew := ⟨_, rfl⟩
   rw [← ew25]
   have hc : Ch No w24 w25 := by rw [ew25]; exact Ch.drew _
   have hszw25 : w25.heap.size = w24.heap.size := by rw [ew25]; rfl
   clear ew25
   have hzw25 := hc.size
   have HC := HC.tr hc
   have hout := hout.no hc
   have hm := hm.no hc
   have hks := hks.no hc
   have hrnd := hrnd.no hc
   have hb9 := hb9.ch hc (fun h => h)
   have hS0 := hS0.no hc
   have hS1 := hS1.no hc
   have hS65 := hS65.no hc
   have hS70 := hS70.no hc
   have hS : Ch No w25 w25 := Ch.refl _ _
   refine ws_p rfl rfl rfl rfl (p_mv rfl) ?_
   refine ws_p rfl rfl rfl rfl (p_mv rfl) ?_
   refine ws_p rfl rfl rfl rfl (p_mv rfl) ?_
   have hS77 : SI w25 (fun k => k < w.heap.size ∧ ¬ F k) eIT (cutA Am cm x.cnt 64) (lm - x.cnt) (cm - x.cnt) (Tr.items y) := by have h := hm.cutTo (lo := x.cnt) (by omega); rw [fork_drop] at h; exact h
   refine ws_p rfl rfl rfl rfl (p_slS (l := x.cnt) (h := lm) Tryd.underlying118 sz174 rfl ⟨_, rfl⟩ rfl (by omega) (by have := hm.cap; omega) hm.cap (q := lm - x.cnt) (by omega)) ?_
   refine ws_p rfl rfl rfl rfl (p_ixA (j := 1) Tryd.underlying178 sz23 rfl rfl (by omega) (by omega) rfl) ?_
   refine ws_h rfl rfl rfl rfl (p_ld Tryd.underlying23 rfl rfl (fun _ h => h.cell (fun h => h) (cell_at (p := ([.slice A0 l0 c0] : List Value)) (v := (.slice A1 l1 c1 : Value)) (r := []) hb9 (by simp only [List.append_assoc, List.cons_append, List.nil_append, List.append_nil]) (by first | rfl | (simp only [List.length_append, List.length_map, List.length_cons, List.length_nil]; done) | (simp only [List.length_append, List.length_map, List.length_cons, List.length_nil, List.size_toArray]; done))))) ?_
   have hout := hout.mono (G := fun k => F k ∧ (k < w.heap.size ∨ n13 ≤ k)) (fun k hk h => ⟨by first | exact h.1 | exact h.1.1 | exact h.1.1.1 | exact h.1.1.1.1 | exact h.1.1.1.1.1 | exact h.1.1.1.1.1.1, by omega⟩)
   refine ws_l rfl rfl (e_call ent70 rfl rfl (IHy hout (fun k hk => ⟨hF k (by omega), by omega⟩) (fun h => hF0 h.1) hS77 (fun k _ h1 h2 => h1.2 h2.1) hS1 (fun k _ h1 h2 => by have h3 := h2.2; have h4 := h1.1; have h5 := h1.2; omega) hw.2.2.1 (by omega) (by omega) (by omega) hrnd) ?_)
   rintro _ w27 ⟨A80, l80, c80, rfl, hout, hc⟩
   refine ⟨_, rfl, ?_⟩
   have hzw27 := hc.size
   have HC := HC.trans hc (fun _ _ h => h) (fun k hk ht => (by first | exact ht | (exfalso; omega) | ((try simp only [and_assoc] at ht); exact ht.1)))
   have hm := hm.ch hc (by intro k hk ht; first | exact hk.2 ht | (have h1 := hk.1; omega) | ((try simp only [and_assoc] at ht); exact hk.2 ht.1))
   have hks := hks.ch hc (by intro k hk ht; first | exact hk.2 ht | (have h1 := hk.1; omega) | ((try simp only [and_assoc] at ht); exact hk.2 ht.1))
   have hrnd := hrnd.ch hc (by rintro k rfl ht; first | omega | exact hF0 ht | ((try simp only [and_assoc] at ht); exact hF0 ht.1))
   have hb9 := hb9.ch hc (by omega)
   first | have hS0 := hS0.ch hc (by intro k hk ht; omega) | have hS0 := hS0.chT hc (by intro k hz hk ht; omega)
   first | have hS1 := hS1.ch hc (by intro k hk ht; omega) | have hS1 := hS1.chT hc (by intro k hz hk ht; omega)
   first | have hS65 := hS65.ch hc (by intro k hk ht; omega) | have hS65 := hS65.chT hc (by intro k hz hk ht; omega)
   have hS70 := hS70.ch hc (by intro k hk ht; first | exact hk.2 ht | (have h1 := hk.1; omega) | ((try simp only [and_assoc] at ht); exact hk.2 ht.1))
   have hS77 := hS77.ch hc (by intro k hk ht; first | exact hk.2 ht | (have h1 := hk.1; omega) | ((try simp only [and_assoc] at ht); exact hk.2 ht.1))
   have hol80 := hout.len
   have hpn80 := Tr.prv_nodes (t := y) (ks := ks.filter (fun k => decide (bitN k b = 1)))
   simp only [List.length_append, List.length_singleton] at hol80
   have hcx80 := Tr.cnt_pos y
   refine ws_p rfl rfl rfl rfl (p_as rfl) ?_
   refine ws_n ?_
   refine x_seq ?_
   refine wc_ret ?_
   refine fin_run ((res1 rfl rfl)) ?_
   have hpv : ((Tr.fork b x y).prv ks).nodes = ⟨4, (b : Int), zeroH, zeroH⟩ :: ((x.prv (ks.filter (fun k => decide (bitN k b = 0)))).nodes ++ (y.prv (ks.filter (fun k => decide (bitN k b = 1)))).nodes) := by rw [Tr.prv, if_neg hk0]; rfl
   rw [hpv]
   rw [List.append_assoc, List.append_assoc] at hout
   exact ⟨_, _, _, rfl, hout.mono (fun k hk h => by first | exact h | ((try simp only [and_assoc] at h); exact h.1)), HC⟩

theorem prove_any : ∀ t : Tr, ProveOK t
  | .leaf k v => by
    intro h1 h2 h3 h4 h5 h6 h7 h8 h9 h10 h11 h12
    rename_i w F Fm Fk Ao Am Ak lo co lm cm lk ck xs ks
    by_cases hk : ks = []
    · exact prove_nil h1 h2 h3 h4 h5 h6 h7 h8 h9 h10 h11 h12 hk
    · exact prove_leaf h1 h2 h3 h4 h5 h6 h7 h8 h9 h10 h11 h12 hk
  | .fork b x y => by
    intro h1 h2 h3 h4 h5 h6 h7 h8 h9 h10 h11 h12
    rename_i w F Fm Fk Ao Am Ak lo co lm cm lk ck xs ks
    by_cases hk : ks = []
    · exact prove_nil h1 h2 h3 h4 h5 h6 h7 h8 h9 h10 h11 h12 hk
    · exact prove_fork (prove_any x) (prove_any y) h1 h2 h3 h4 h5 h6 h7 h8 h9 h10 h11 h12 hk

set_option maxHeartbeats 1000000 in
set_option maxRecDepth 20000 in
theorem mprove27_some {w : World} {g : Nat} {t : LT} {Ak : Option Addr} {lk ck : Nat} {Fk : Nat → Prop} {ks : List H8} (hbg : Blk w g 41 [ndp t.adr, .bool true].toArray) (hXt : LAt 156 w t) (hwt : t.er.WF) (hcn : t.er.cnt ≤ 1000) (hks : SI w Fk eH Ak lk ck ks) (hlk : lk ≤ 1000000) (hrnd : Sl w (fun k => k = 0) u32v (some ⟨0, 0, none⟩) 64 64 rk) :
    Calls Tryd.prog 24 #[ndp g, .slice Ak lk ck] w fun e w' => ∃ A l c, e = .returned (.slice A l c) ∧ RI w' (fun k => w.heap.size ≤ k) 115 eND A l c (prvN (some t.er) ks) ∧ Ch No w w' := by
  have hn0 : 0 < w.heap.size := hrnd.size (by omega) rfl
  have hn1 := hn0
  have hltg := hbg.lt
  have htl := hXt.lt
  have hcp := Tr.cnt_pos t.er
  have hitl := Tr.items_cnt t.er
  have hcnt0 : cntT (eo (some t)) = t.er.cnt := rfl
  have hks := hks.old
  have HC : Ch No w w := Ch.refl _ _
  refine enter' (args := [ndp g, .slice Ak lk ck]) (n := 22) Tryd.func24 rfl rfl rfl ?_
  refine wc_seq ?_
  refine wc_region ?_
  refine wl rfl rfl rfl (p_as rfl) ?_
  refine wl_nil ?_
  refine x_seq ?_
  refine wc_seq ?_
  refine wc_seq ?_
  refine wc_region ?_
  refine wl rfl rfl rfl (p_mv rfl) ?_
  refine wl rfl rfl rfl (p_bldP (cs := ((List.replicate 32 (0 : UInt8)).map u8v).toArray) rfl (fun _ => by kernel_rfl)) ?_
  refine wl rfl rfl rfl (p_bldP (cs := ((List.replicate 32 (0 : UInt8)).map u8v).toArray) rfl (fun _ => by kernel_rfl)) ?_
  refine wle rfl (e_call ent44 rfl rfl (tput_made (F := fun _ => True) (TR.mk' trivial (o := some t) hbg (fun t2 e => by cases e; exact ⟨hXt, fun _ _ => trivial⟩)) (fun _ _ => trivial) ((List.length_replicate ..)) ((List.length_replicate ..)) (by omega)) ?_)
  rintro _ w1 ⟨_, t9, rfl, ⟨g9, rfl, _⟩, _, hc⟩
  refine ⟨_, rfl, ?_⟩
  have hzw1 := hc.size
  have HC := HC.tr hc
  have hbg := hbg.ch hc (fun h => h)
  have hXt := hXt.ch hc (by first | exact fun _ _ h => h | (intro a ha ht; have h2 := htl a ha; first | omega | (dsimp only at *; omega)))
  have hks := hks.no hc
  have hrnd := hrnd.no hc
  refine wl rfl rfl rfl (p_eqPN rfl rfl Tryd.underlying25) ?_
  refine wl_nil ?_
  refine x_seq ?_
  refine wc_no rfl (rfl) ?_
  refine wc_skip ?_
  refine x_seq ?_
  refine wc_seq ?_
  refine wc_region ?_
  refine wl rfl rfl rfl (p_mv rfl) ?_
  refine wle rfl (e_call ent69 rfl rfl (all_ptr (g := g)) ?_)
  rintro _ w2 ⟨gB, rfl, hgB, hBn, hc⟩
  refine ⟨_, rfl, ?_⟩
  have hzw2 := hc.size
  have HC := HC.tr hc
  have hbg := hbg.ch hc (fun h => h)
  have hXt := hXt.ch hc (by first | exact fun _ _ h => h | (intro a ha ht; have h2 := htl a ha; first | omega | (dsimp only at *; omega)))
  have hks := hks.no hc
  have hrnd := hrnd.no hc
  refine wle rfl (e_call ent68 rfl rfl (entries_some hBn hbg hXt hcn) ?_)
  rintro _ w3 ⟨A13, l13, c13, rfl, hE13, hc⟩
  refine ⟨_, rfl, ?_⟩
  have hzw3 := hc.size
  have HC := HC.tr hc
  have hbg := hbg.ch hc (fun h => h)
  have hXt := hXt.ch hc (by first | exact fun _ _ h => h | (intro a ha ht; have h2 := htl a ha; first | omega | (dsimp only at *; omega)))
  have hks := hks.no hc
  have hrnd := hrnd.no hc
  have hBn := hBn.ch hc (fun h => h)
  have hEl13 := hE13.len
  have hE13 := hE13.mono (G := fun k => w2.heap.size ≤ k ∧ k < w3.heap.size) (fun k h1 h2 => ⟨h2, h1⟩)
  refine wl rfl rfl rfl (p_as rfl) ?_
  refine wl_nil ?_
  refine x_seq ?_
  refine wc_seq ?_
  refine wc_seq ?_
  refine wc_region ?_
  refine wl rfl rfl rfl (p_mv rfl) ?_
  refine wl rfl rfl rfl (p_lenS Tryd.underlying118 rfl) ?_
  refine wl rfl rfl rfl (p_eq rfl rfl) ?_
  refine wl_nil ?_
  refine x_seq ?_
  refine wc_no rfl (decide_eq_false (by omega)) ?_
  refine wc_skip ?_
  refine x_seq ?_
  refine wc_seq ?_
  refine wc_region ?_
  refine wl rfl rfl rfl (p_mv rfl) ?_
  refine wl rfl rfl rfl (p_mv rfl) ?_
  refine wle rfl (e_call ent70 rfl rfl (prove_any t.er (F := fun k => w3.heap.size ≤ k) (RI.nil _ _ _ _) (fun k hk => hk) (by omega) hE13.si (fun k hk h1 h2 => by omega) hks (fun k hk h1 h2 => by omega) hwt (by omega) (by omega) (by omega) hrnd) ?_)
  rintro _ w4 ⟨A21, l21, c21, rfl, hP21, hc⟩
  refine ⟨_, rfl, ?_⟩
  have hzw4 := hc.size
  have HC := HC.trans hc (fun _ _ h => h) (fun k hk ht => absurd ht (by omega))
  have hbg := hbg.ch hc (by omega)
  have hXt := hXt.ch hc (by first | exact fun _ _ h => h | (intro a ha ht; have h2 := htl a ha; first | omega | (dsimp only at *; omega)))
  have hks := hks.ch hc (by intro k hk ht; omega)
  first | have hrnd := hrnd.ch hc (by intro k hk ht; omega) | have hrnd := hrnd.chT hc (by intro k hz hk ht; omega)
  have hBn := hBn.ch hc (by have h9 := hBn.lt; omega)
  have hE13 := hE13.afterT hc (by intro k hz hk ht; omega)
  have hP21 := hP21.mono (G := fun k => w3.heap.size ≤ k ∧ k < w4.heap.size) (fun k h1 h2 => ⟨h2, h1⟩)
  refine wl rfl rfl rfl (p_as rfl) ?_
  refine wl_nil ?_
  refine x_seq ?_
  refine wc_ret ?_
  refine fin_run ((res1 rfl rfl)) ?_
  exact ⟨_, _, _, rfl, hP21.mono (fun k _ h => by have := h.1; show w.heap.size ≤ k; omega), HC⟩

set_option maxHeartbeats 1000000 in
set_option maxRecDepth 20000 in
theorem mprove27_none {w : World} {g : Nat} {Ak : Option Addr} {lk ck : Nat} {Fk : Nat → Prop} {ks : List H8} (hbg : Blk w g 41 [.pointer none, .bool true].toArray) (hks : SI w Fk eH Ak lk ck ks) (hlk : lk ≤ 1000000) (hrnd : Sl w (fun k => k = 0) u32v (some ⟨0, 0, none⟩) 64 64 rk) :
    Calls Tryd.prog 24 #[ndp g, .slice Ak lk ck] w fun e w' => ∃ A l c, e = .returned (.slice A l c) ∧ RI w' (fun k => w.heap.size ≤ k) 115 eND A l c (prvN none ks) ∧ Ch No w w' := by
  have hn0 : 0 < w.heap.size := hrnd.size (by omega) rfl
  have hn1 := hn0
  have hltg := hbg.lt
  have hcnt0 : cntT (eo (none : Option LT)) = 0 := rfl
  have hks := hks.old
  have HC : Ch No w w := Ch.refl _ _
  refine enter' (args := [ndp g, .slice Ak lk ck]) (n := 22) Tryd.func24 rfl rfl rfl ?_
  refine wc_seq ?_
  refine wc_region ?_
  refine wl rfl rfl rfl (p_as rfl) ?_
  refine wl_nil ?_
  refine x_seq ?_
  refine wc_seq ?_
  refine wc_seq ?_
  refine wc_region ?_
  refine wl rfl rfl rfl (p_mv rfl) ?_
  refine wl rfl rfl rfl (p_bldP (cs := ((List.replicate 32 (0 : UInt8)).map u8v).toArray) rfl (fun _ => by kernel_rfl)) ?_
  refine wl rfl rfl rfl (p_bldP (cs := ((List.replicate 32 (0 : UInt8)).map u8v).toArray) rfl (fun _ => by kernel_rfl)) ?_
  refine wle rfl (e_call ent44 rfl rfl (tput_made (F := fun _ => True) (TR.mk' trivial (o := none) hbg (fun t2 e => by cases e)) (fun _ _ => trivial) ((List.length_replicate ..)) ((List.length_replicate ..)) (by omega)) ?_)
  rintro _ w1 ⟨_, t9, rfl, ⟨g9, rfl, _⟩, _, hc⟩
  refine ⟨_, rfl, ?_⟩
  have hzw1 := hc.size
  have HC := HC.tr hc
  have hbg := hbg.ch hc (fun h => h)
  have hks := hks.no hc
  have hrnd := hrnd.no hc
  refine wl rfl rfl rfl (p_eqPN rfl rfl Tryd.underlying25) ?_
  refine wl_nil ?_
  refine x_seq ?_
  refine wc_no rfl (rfl) ?_
  refine wc_skip ?_
  refine x_seq ?_
  refine wc_seq ?_
  refine wc_region ?_
  refine wl rfl rfl rfl (p_mv rfl) ?_
  refine wle rfl (e_call ent69 rfl rfl (all_ptr (g := g)) ?_)
  rintro _ w2 ⟨gB, rfl, hgB, hBn, hc⟩
  refine ⟨_, rfl, ?_⟩
  have hzw2 := hc.size
  have HC := HC.tr hc
  have hbg := hbg.ch hc (fun h => h)
  have hks := hks.no hc
  have hrnd := hrnd.no hc
  refine wle rfl (e_call ent68 rfl rfl (entries_none hBn hbg) ?_)
  rintro _ w3 ⟨A13, l13, c13, rfl, hE13, hc⟩
  refine ⟨_, rfl, ?_⟩
  have hzw3 := hc.size
  have HC := HC.tr hc
  have hbg := hbg.ch hc (fun h => h)
  have hks := hks.no hc
  have hrnd := hrnd.no hc
  have hBn := hBn.ch hc (fun h => h)
  have hEl13 := hE13.len
  have hE13 := hE13.mono (G := fun k => w2.heap.size ≤ k ∧ k < w3.heap.size) (fun k h1 h2 => ⟨h2, h1⟩)
  refine wl rfl rfl rfl (p_as rfl) ?_
  refine wl_nil ?_
  refine x_seq ?_
  refine wc_seq ?_
  refine wc_seq ?_
  refine wc_region ?_
  refine wl rfl rfl rfl (p_mv rfl) ?_
  refine wl rfl rfl rfl (p_lenS Tryd.underlying118 rfl) ?_
  refine wl rfl rfl rfl (p_eq rfl rfl) ?_
  refine wl_nil ?_
  refine x_seq ?_
  refine wc_yes rfl (decide_eq_true (by simp at hEl13; omega)) ?_
  refine wc_seq ?_
  refine wc_region ?_
  refine wl rfl rfl rfl (p_bldX (vs' := [.int .i64 (1)]) (cs := (([.int .i64 (1), Value.int .i64 0] ++ ((List.map u8v (List.replicate 32 (0 : UInt8))) ++ (List.map u8v (List.replicate 32 (0 : UInt8))))) : List Value)) (cs' := (([.int .i64 (1), Value.int .i64 0] ++ ((hx (List.replicate 32 (0 : UInt8))) ++ (hx (List.replicate 32 (0 : UInt8))))) : List Value)) rfl rfl (by simp only [hv, map_hx (List.length_replicate ..)] <;> rfl) (fun _ => by kernel_rfl)) ?_
  have hltg := hbg.lt
  have hltgB := hBn.lt
  refine wle rfl (e_bslX (E := 115) (cs := (([.int .i64 (1), Value.int .i64 0] ++ ((List.map u8v (List.replicate 32 (0 : UInt8))) ++ (List.map u8v (List.replicate 32 (0 : UInt8))))) : List Value)) (cs' := (([.int .i64 (1), Value.int .i64 0] ++ ((hx (List.replicate 32 (0 : UInt8))) ++ (hx (List.replicate 32 (0 : UInt8))))) : List Value)) rfl rfl (by simp only [hv, map_hx (List.length_replicate ..)] <;> rfl) (fun _ => by kernel_rfl) (fun w4 g18 hg18 hb18 hc hsz18 => ?_))
  have hzw4 := hc.size
  have HC := HC.tr hc
  have hbg := hbg.ch hc (fun h => h)
  have hks := hks.no hc
  have hrnd := hrnd.no hc
  have hBn := hBn.ch hc (fun h => h)
  have hE13 := hE13.after hc
  have hge18 : w.heap.size ≤ g18 := by have := HC.size; omega
  have hW18 := (RI.one (E := eND) (x := ⟨(1), (0), (List.replicate 32 (0 : UInt8)), (List.replicate 32 (0 : UInt8))⟩) hb18 rfl ⟨(List.length_replicate ..), (List.length_replicate ..)⟩).mono (G := fun k => g18 ≤ k) (fun k _ h => Nat.le_of_eq (Eq.symm h))
  refine wl rfl rfl rfl (p_as rfl) ?_
  refine wl_nil ?_
  refine x_seq ?_
  refine wc_ret ?_
  refine x_then_ret ?_
  refine fin_run ((res1 rfl rfl)) ?_
  exact ⟨_, _, _, rfl, hW18.mono (fun k _ h => by have h2 : g18 ≤ k := h; show w.heap.size ≤ k; omega), HC⟩

theorem mprove27_any {w : World} {v : Value} {o : Option LT} {F : Nat → Prop} {Ak : Option Addr} {lk ck : Nat} {Fk : Nat → Prop} {ks : List H8} (hV : TR 41 156 F w v o) (hwo : WFO (eo o)) (hcn : cntT (eo o) ≤ 1000) (hks : SI w Fk eH Ak lk ck ks) (hlk : lk ≤ 1000000) (hrnd : Sl w (fun k => k = 0) u32v (some ⟨0, 0, none⟩) 64 64 rk) : Calls Tryd.prog 24 #[v, .slice Ak lk ck] w fun e w' => ∃ A l c, e = .returned (.slice A l c) ∧ RI w' (fun k => w.heap.size ≤ k) 115 eND A l c (prvN (eo o) ks) ∧ Ch No w w' := by
  obtain ⟨g, rfl, hFg, hbg, hT⟩ := hV.opn
  cases o with
  | none => exact mprove27_none hbg hks hlk hrnd
  | some t => exact mprove27_some hbg (hT t rfl).1 (hwo _ rfl) hcn hks hlk hrnd

set_option maxHeartbeats 1000000 in
set_option maxRecDepth 20000 in
theorem lives27_any {w : World}  (hrnd : Sl w (fun k => k = 0) u32v (some ⟨0, 0, none⟩) 64 64 rk) :
    Calls Tryd.prog 20 #[] w fun e w' => e = .returned (.bool true) ∧ Ch No w w' := by
  have hn0 : 0 < w.heap.size := hrnd.size (by omega) rfl
  have hn1 := hn0
  have HC : Ch No w w := Ch.refl _ _
  refine enter' (args := []) (n := 14) Tryd.func20 rfl rfl rfl ?_
  refine wc_seq ?_
  refine wc_region ?_
  refine wl rfl rfl rfl (p_as rfl) ?_
  refine wl_nil ?_
  refine x_seq ?_
  refine wc_seq ?_
  refine wc_region ?_
  refine wle rfl (e_call ent51 rfl rfl (new_any) ?_)
  rintro _ w1 ⟨v2, rfl, hV2, hc⟩
  refine ⟨_, rfl, ?_⟩
  have hzw1 := hc.size
  have HC := HC.tr hc
  have hrnd := hrnd.no hc
  have hV2 := hV2.mono (G := fun k => w.heap.size ≤ k ∧ k < w1.heap.size) (fun k h1 h2 => ⟨h2, h1⟩)
  refine wle rfl (e_call ent24 rfl rfl (mprove27_any hV2 (fun t e => by cases e) (by decide) (SI.nil (F := No)) (by omega) hrnd) ?_)
  rintro _ w2 ⟨A3, l3, c3, rfl, hP3, hc⟩
  refine ⟨_, rfl, ?_⟩
  have hzw2 := hc.size
  have HC := HC.tr hc
  have hrnd := hrnd.no hc
  have hV2 := hV2.ch hc (by first | exact fun _ _ _ h => h | (intro k hk hF ht; have h2 := hF.1; have h3 := hF.2; first | omega | (dsimp only at *; omega)))
  have hPl3 := hP3.len
  have hPb3 : l3 ≤ 2 * cntT (eo none) + 1 := by rw [← hPl3]; exact prvN_len
  have hP3 := hP3.mono (G := fun k => w1.heap.size ≤ k ∧ k < w2.heap.size) (fun k h1 h2 => ⟨h2, h1⟩)
  have hl3 : l3 = 1 := hPl3.symm
  refine wl rfl rfl rfl (p_as rfl) ?_
  refine wl_nil ?_
  refine x_seq ?_
  refine wc_seq ?_
  refine wc_region ?_
  refine wl rfl rfl rfl (p_mv rfl) ?_
  refine wl rfl rfl rfl (p_lenS Tryd.underlying33 rfl) ?_
  refine wl rfl rfl rfl (p_eq rfl rfl) ?_
  refine wl rfl rfl rfl (p_mv rfl) ?_
  refine wl_know (d := 7) (b' := true) rfl (decide_eq_true (by omega)) ?_
  refine wl_g (gd_ rfl rfl rfl rfl rfl rfl) rfl rfl (p_mv rfl) ?_
  obtain ⟨b3, o3, hA3, hF3, hr3⟩ := (hP3.si).opn (i := 0) (d := ND0) (by omega)
  have hok3 := (hP3.si).okAt (i := 0) (d := ND0) (by omega)
  obtain ⟨x3, ex3⟩ : ∃ x_, x_ = List.getD (prvN (eo none) []) (0) ND0 := ⟨_, rfl⟩
  rw [← ex3] at hr3 hok3
  obtain ⟨hx3k, hx3v⟩ := hok3
  have hr3 : w2.rangeAt b3 (o3 + 0 * 66) (([i64 x3.kind, i64 x3.bit] ++ ((List.map u8v x3.key) ++ (List.map u8v x3.val))) : List Value) := hr3
  refine wl_g (gd_ rfl rfl rfl rfl rfl rfl) rfl rfl (p_ixS (j := 0 * 66) Tryd.underlying33 sz115 rfl hA3 rfl (by omega) (by omega) rfl) ?_
  have hx9 : x3 = ND0 := ex3
  refine wl_g (gd_ rfl rfl rfl rfl rfl rfl) rfl rfl (p_fld (j := 0) Tryd.underlying115 rfl ⟨_, by rfl⟩ rfl rfl) ?_
  refine wl_g (gd_ rfl rfl rfl rfl rfl rfl) rfl rfl (p_ld Tryd.underlying3 rfl rfl (ld (cell_sub (v := (i64 x3.kind : Value)) (p := []) (r := (([i64 x3.bit] ++ ((List.map u8v x3.key) ++ (List.map u8v x3.val))) : List Value)) hr3 (by first | rfl | simp only [List.append_assoc, List.cons_append, List.nil_append, List.append_nil]) rfl))) ?_
  refine wl_g (gd_ rfl rfl rfl rfl rfl rfl) rfl rfl (p_eq rfl rfl) ?_
  refine wl rfl rfl rfl (p_pickT rfl rfl) ?_
  refine wl rfl rfl rfl (p_as rfl) ?_
  refine wl_nil ?_
  refine x_seq ?_
  refine wc_ret ?_
  refine fin_run ((res1 rfl rfl)) ?_
  rw [hx9]; exact ⟨rfl, HC⟩

set_option maxHeartbeats 1000000 in
set_option maxRecDepth 20000 in
theorem rsides_any {w : World} {Ak : Option Addr} {lk ck : Nat} {Fk : Nat → Prop} {ks : List H8} {b : Nat} (hks : SI w Fk eH Ak lk ck ks) (hlk : lk ≤ 1000000) :
    Calls Tryd.prog 101 #[.slice Ak lk ck, i64 (b : Int)] w fun e w' => ∃ A0 l0 c0 A1 l1 c1, e = .returned (.tuple #[.slice A0 l0 c0, .slice A1 l1 c1]) ∧ RI w' (fun k => w.heap.size ≤ k) 38 eH A0 l0 c0 (ks.filter (fun k => decide (bitN k b = 0))) ∧ RI w' (fun k => w.heap.size ≤ k) 38 eH A1 l1 c1 (ks.filter (fun k => decide (bitN k b = 1))) ∧ Ch No w w' := by
  have hkl := hks.len
  have hks := hks.old
  have HC : Ch No w w := Ch.refl _ _
  refine enter' (args := [.slice Ak lk ck, i64 (b : Int)]) (n := 31) Tryd.func101 rfl rfl rfl ?_
  refine wc_seq ?_
  refine wc_region ?_
  refine wl rfl rfl rfl (p_as rfl) ?_
  refine wl rfl rfl rfl (p_as rfl) ?_
  refine wl_nil ?_
  refine x_seq ?_
  refine wc_seq ?_
  refine wc_region ?_
  refine wl rfl rfl rfl (p_as rfl) ?_
  refine wl rfl rfl rfl (p_as rfl) ?_
  refine wl_nil ?_
  refine x_seq ?_
  refine wc_seq ?_
  refine wc_seq ?_
  refine wc_region ?_
  refine wl rfl rfl rfl (p_mv rfl) ?_
  refine wl rfl rfl rfl (p_lenS Tryd.underlying23 rfl) ?_
  refine wl rfl rfl rfl (p_mv rfl) ?_
  refine wl_nil ?_
  refine x_seq ?_
  refine wc_block ?_
  obtain ⟨n9, hn9⟩ : ∃ z, z = w.heap.size := ⟨_, rfl⟩
  refine wc_loop (e' := [(1, i64 (b : Int)), (6, .slice (none) (0) (0)), (7, .slice (none) (0) (0)), (10, .slice Ak lk ck), (11, i64 (lk : Int)), (12, i64 ((0) : Int))]) (fun mz ez uz => ∃ i : Nat, ∃ A0 : Option Addr, ∃ l0 : Nat, ∃ z0 : Nat, ∃ A1 : Option Addr, ∃ l1 : Nat, ∃ z1 : Nat, mz = lk - i ∧ ez = [(1, i64 (b : Int)), (6, .slice A0 l0 z0), (7, .slice A1 l1 z1), (10, .slice Ak lk ck), (11, i64 (lk : Int)), (12, i64 (i : Int))] ∧ (i ≤ lk) ∧ (l0 ≤ i) ∧ (l1 ≤ i) ∧ (R2 uz n9 uz.heap.size 38 eH A0 l0 z0 ((ks.take i).filter (fun k => decide (bitN k b = 0))) A1 l1 z1 ((ks.take i).filter (fun k => decide (bitN k b = 1)))) ∧ (SI uz (fun k => k < w.heap.size) eH Ak lk ck ks) ∧ (w.heap.size ≤ n9 ∧ n9 ≤ uz.heap.size) ∧ (Ch No w uz))
   ⟨rfl, rfl, rfl, rfl, rfl, rfl, trivial⟩ ⟨0, none, 0, 0, none, 0, 0, rfl, rfl, (by omega), (by omega), (by omega), R2.nil _ _ _ _ _, hks, (by omega), HC⟩ ?_
  rintro m0 e w1 ⟨i, A0, l0, z0, A1, l1, z1, hm0, rfl, hi, hl0, hl1, hR2, hks, hn9w, HC⟩
  have hzw1 := HC.size
  obtain ⟨m9, hm9⟩ : ∃ z, z = w1.heap.size := ⟨_, rfl⟩
  rw [← hm9] at hR2
  refine wc_seq ?_
  refine wc_region ?_
  refine wl rfl rfl rfl (p_lt rfl rfl) ?_
  refine wl_nil ?_
  refine x_seq ?_
  refine wc_seq ?_
  refine wc_if rfl (fun c0 => ?_) (fun c0 => ?_)
  ·
   have c0 := of_decide_eq_true c0
   refine wc_skip ?_
   refine x_seq ?_
   refine wc_seq ?_
   refine wc_block ?_
   refine wc_seq ?_
   refine wc_region ?_
   obtain ⟨b2, o2, hA2, hF2, hr2⟩ := (hks).opn (i := i) (d := zeroH) (by omega)
   have hok2 := (hks).okAt (i := i) (d := zeroH) (by omega)
   obtain ⟨x2, ex2⟩ : ∃ x_, x_ = List.getD ks (i) zeroH := ⟨_, rfl⟩
   rw [← ex2] at hr2 hok2
   have hx2k : List.length x2 = 32 := hok2
   have hr2 : w1.rangeAt b2 (o2 + i * 32) ((List.map u8v x2) : List Value) := hr2
   refine wl rfl rfl rfl (p_ixS (j := i * 32) Tryd.underlying23 sz38 rfl hA2 rfl (by omega) (by omega) (congrArg (· * 32) (Int.toNat_natCast _))) ?_
   refine wl rfl rfl rfl (p_ldA (cs := ((List.map u8v x2) : List Value)) Tryd.underlying38 rfl (szL sz38 (by first | rfl | (simp only [List.length_append, List.length_map, List.length_cons, List.length_nil, (show List.length x2 = 32 from hx2k)]; done) | (simp only [List.length_append, List.length_map, List.length_cons, List.length_nil, List.size_toArray, (show List.length x2 = 32 from hx2k)]; done))) rfl (fun _ e => e ▸ hr2)) ?_
   refine wle rfl (e_alloc (cs := ((List.replicate 32 (0 : UInt8)).map u8v).toArray) rfl (by rfl) rfl (fun w3 g9 hg9 hb9 hc hsz9 => ?_))
   have hzw3 := hc.size
   have HC := HC.tr hc
   have hks := hks.no hc
   first | have hR2 := hR2.no hc | have hR2 := hR2.ch hc (by intro k h1 h2 ht; omega)
   have hge9 : w.heap.size ≤ g9 := by have := HC.size; omega
   refine wle rfl (e_stH sz38 (List.length_replicate ..) hx2k rfl rfl hb9 (fun w4 hb9 hc hsz => ?_))
   have hzw4 := hc.size
   have HC := HC.trans hc (fun _ _ h => h) (fun k hk ht => absurd ht (by omega))
   have hks := hks.ch hc (by intro k hk ht; omega)
   first | have hR2 := hR2.no hc | have hR2 := hR2.ch hc (by intro k h1 h2 ht; omega)
   refine wl_nil ?_
   refine x_seq ?_
   refine wc_seq ?_
   refine wc_region ?_
   refine wl rfl rfl rfl (p_ldH (L := x2) Tryd.underlying38 sz38 hx2k rfl (fun _ e => e ▸ rngL hb9)) ?_
   refine wl rfl rfl rfl (p_mv rfl) ?_
   refine wle rfl (e_call ent39 rfl rfl (rbitN_any (n := b) (hx2k)) ?_)
   rintro _ w5 ⟨rfl, hc⟩
   refine ⟨_, rfl, ?_⟩
   have hzw5 := hc.size
   have HC := HC.tr hc
   have hks := hks.no hc
   first | have hR2 := hR2.no hc | have hR2 := hR2.ch hc (by intro k h1 h2 ht; omega)
   have hb9 := hb9.ch hc (fun h => h)
   refine wl rfl rfl rfl (p_eq rfl rfl) ?_
   refine wl_nil ?_
   refine x_seq ?_
   refine wc_if rfl (fun c1 => ?_) (fun c1 => ?_)
   ·
    have c1 := of_decide_eq_true c1
    have hbl := bitN_lt x2 b
    have hsd : bitN x2 b = 0 := by omega
    refine wc_region ?_
    refine wl rfl rfl rfl (p_mv rfl) ?_
    refine wl rfl rfl rfl (p_ldH (L := x2) Tryd.underlying38 sz38 hx2k rfl (fun _ e => e ▸ rngL hb9)) ?_
    have hltg9 := hb9.lt
    refine wle rfl (e_bslX (E := 38) (cs := ((List.map u8v x2) : List Value)) (cs' := ((hx x2) : List Value)) rfl rfl (by simp only [hv, map_hx hx2k] <;> rfl) (fun _ => by kernel_rfl) (fun w6 g22 hg22 hb22 hc hsz22 => ?_))
    have hzw6 := hc.size
    have HC := HC.tr hc
    have hks := hks.no hc
    first | have hR2 := hR2.no hc | have hR2 := hR2.ch hc (by intro k h1 h2 ht; omega)
    have hb9 := hb9.ch hc (fun h => h)
    have hge22 : w.heap.size ≤ g22 := by have := HC.size; omega
    have hS22 := SI.oneA (E := eH) (x := x2) hb22 rfl hx2k
    refine wle rfl (e_app2 rfl el23 rfl rfl hR2 (hS22) (by omega) (by omega) (by omega) (fun w7 A23 c23 hR2 hc => ?_))
    have hzw7 := hc.size
    have HC := HC.trans hc (fun _ _ h => h) (fun k hk ht => absurd ht (by omega))
    have hks := hks.ch hc (by intro k hk ht; omega)
    have hb9 := hb9.ch hc (by omega)
    refine wl rfl rfl rfl (p_as rfl) ?_
    refine wl_nil ?_
    refine x_in_normal ?_
    refine x_seq ?_
    refine wc_region ?_
    refine wl rfl rfl rfl (p_add rfl rfl (w64 (by omega))) ?_
    refine wl rfl rfl rfl (p_mv rfl) ?_
    refine wl_nil ?_
    refine x_round (e' := [(1, i64 (b : Int)), (6, .slice (A23) (l0 + 1) (c23)), (7, .slice (A1) (l1) (z1)), (10, .slice Ak lk ck), (11, i64 (lk : Int)), (12, i64 ((i + 1) : Int))]) ⟨rfl, rfl, rfl, rfl, rfl, rfl, trivial⟩ (by rw [hm0]; omega) ⟨i + 1, A23, l0 + 1, c23, A1, l1, z1, rfl, rfl, (by omega), (by omega), (by omega), (by rw [filt_yes (p := (fun k => decide (bitN k b = 0))) (d := zeroH) (by omega) (by rw [← ex2, hsd]; rfl), filt_no (p := (fun k => decide (bitN k b = 1))) (d := zeroH) (by omega) (by rw [← ex2, hsd]; rfl), ← ex2]; exact hR2.up (by omega)), hks, (by omega), HC⟩
   ·
    have c1 := of_decide_eq_false c1
    have hbl := bitN_lt x2 b
    have hsd : bitN x2 b = 1 := by omega
    refine wc_region ?_
    refine wl rfl rfl rfl (p_mv rfl) ?_
    refine wl rfl rfl rfl (p_ldH (L := x2) Tryd.underlying38 sz38 hx2k rfl (fun _ e => e ▸ rngL hb9)) ?_
    have hltg9 := hb9.lt
    refine wle rfl (e_bslX (E := 38) (cs := ((List.map u8v x2) : List Value)) (cs' := ((hx x2) : List Value)) rfl rfl (by simp only [hv, map_hx hx2k] <;> rfl) (fun _ => by kernel_rfl) (fun w8 g26 hg26 hb26 hc hsz26 => ?_))
    have hzw8 := hc.size
    have HC := HC.tr hc
    have hks := hks.no hc
    first | have hR2 := hR2.no hc | have hR2 := hR2.ch hc (by intro k h1 h2 ht; omega)
    have hb9 := hb9.ch hc (fun h => h)
    have hge26 : w.heap.size ≤ g26 := by have := HC.size; omega
    have hS26 := SI.oneA (E := eH) (x := x2) hb26 rfl hx2k
    refine wle rfl (e_app2b rfl el23 rfl rfl hR2 (hS26) (by omega) (by omega) (by omega) (fun w9 A27 c27 hR2 hc => ?_))
    have hzw9 := hc.size
    have HC := HC.trans hc (fun _ _ h => h) (fun k hk ht => absurd ht (by omega))
    have hks := hks.ch hc (by intro k hk ht; omega)
    have hb9 := hb9.ch hc (by omega)
    refine wl rfl rfl rfl (p_as rfl) ?_
    refine wl_nil ?_
    refine x_in_normal ?_
    refine x_seq ?_
    refine wc_region ?_
    refine wl rfl rfl rfl (p_add rfl rfl (w64 (by omega))) ?_
    refine wl rfl rfl rfl (p_mv rfl) ?_
    refine wl_nil ?_
    refine x_round (e' := [(1, i64 (b : Int)), (6, .slice (A0) (l0) (z0)), (7, .slice (A27) (l1 + 1) (c27)), (10, .slice Ak lk ck), (11, i64 (lk : Int)), (12, i64 ((i + 1) : Int))]) ⟨rfl, rfl, rfl, rfl, rfl, rfl, trivial⟩ (by rw [hm0]; omega) ⟨i + 1, A0, l0, z0, A27, l1 + 1, c27, rfl, rfl, (by omega), (by omega), (by omega), (by rw [filt_no (p := (fun k => decide (bitN k b = 0))) (d := zeroH) (by omega) (by rw [← ex2, hsd]; rfl), filt_yes (p := (fun k => decide (bitN k b = 1))) (d := zeroH) (by omega) (by rw [← ex2, hsd]; rfl), ← ex2]; exact hR2.up (by omega)), hks, (by omega), HC⟩
  ·
   have c0 := of_decide_eq_false c0
   refine wc_exit ?_
   refine x_then_exit ?_
   refine x_then_exit ?_
   refine x_in_here ?_
   refine x_seq ?_
   refine wc_seq ?_
   refine wc_region ?_
   refine wl rfl rfl rfl (p_mv rfl) ?_
   refine wl rfl rfl rfl (p_mv rfl) ?_
   refine wl rfl rfl rfl (p_as rfl) ?_
   refine wl rfl rfl rfl (p_as rfl) ?_
   refine wl_nil ?_
   refine x_seq ?_
   refine wc_ret ?_
   refine fin_run ((res2 rfl rfl rfl)) ?_
   rw [List.take_of_length_le (by omega)] at hR2
   exact ⟨_, _, _, _, _, _, rfl, hR2.fst.mono (fun k _ h => by have := h.1; show w.heap.size ≤ k; omega), hR2.snd.mono (fun k _ h => by have := h.1; show w.heap.size ≤ k; omega), HC⟩

def RProveOK (t : Tr) : Prop := ∀ {w : World} {Fm Fk : Nat → Prop} {Am Ak : Option Addr} {lm cm lk ck : Nat} {ks : List H8}, SI w Fm eIT Am lm cm t.items → SI w Fk eH Ak lk ck ks → t.WF → lm ≤ 100000 → lk ≤ 1000000 → Calls Tryd.prog 71 #[.slice Am lm cm, .slice Ak lk ck] w fun e w' => ∃ A l c, e = .returned (.slice A l c) ∧ RI w' (fun k => w.heap.size ≤ k) 117 eND A l c (t.prv ks).nodes ∧ Ch No w w'

theorem rcut_fork {w : World} {Am : Option Addr} {lm cm : Nat} {Fm : Nat → Prop} {b : Nat} {x y : Tr} (hm : SI w Fm eIT Am lm cm (Tr.items (.fork b x y))) (hw : (Tr.fork b x y).WF) (hl : lm ≤ 1000000) : Calls Tryd.prog 86 #[.slice Am lm cm] w fun e w' => e = .returned (.tuple #[i64 (b : Int), i64 (x.cnt : Int)]) ∧ Ch No w w' := by
  obtain ⟨hc1, hc2, hc3⟩ := cut_fork hw
  refine (rcut_any hm (by have h1 := hm.len; have h2 := Tr.cnt_pos x; omega) hl).mono ?_
  rintro e w' ⟨i, n, h1, h2, h3, h4⟩
  rw [hc1] at h2
  subst h2
  rw [hc2] at h3
  subst h3
  exact ⟨h1, h4⟩

set_option maxHeartbeats 1000000 in
set_option maxRecDepth 20000 in
theorem rprove_nil27 {w : World} {Fm Fk : Nat → Prop} {Am Ak : Option Addr} {lm cm lk ck : Nat} {ks : List H8} {t : Tr} (hm : SI w Fm eIT Am lm cm (Tr.items (t))) (hks : SI w Fk eH Ak lk ck ks) (hw : (t).WF) (hl : lm ≤ 100000) (hlk : lk ≤ 1000000) (hk0 : ks = []) :
    Calls Tryd.prog 71 #[.slice Am lm cm, .slice Ak lk ck] w fun e w' => ∃ A l c, e = .returned (.slice A l c) ∧ RI w' (fun k => w.heap.size ≤ k) 117 eND A l c ((t).prv ks).nodes ∧ Ch No w w' := by
  have hml := hm.len
  have hkl := hks.len
  have hlk0 : lk = 0 := by rw [← hkl, hk0]; rfl
  have hm := hm.old
  have hks := hks.old
  have HC : Ch No w w := Ch.refl _ _
  refine enter' (args := [.slice Am lm cm, .slice Ak lk ck]) (n := 55) Tryd.func71 rfl rfl rfl ?_
  refine wc_seq ?_
  refine wc_region ?_
  refine wl rfl rfl rfl (p_as rfl) ?_
  refine wl_nil ?_
  refine x_seq ?_
  refine wc_seq ?_
  refine wc_seq ?_
  refine wc_region ?_
  refine wl rfl rfl rfl (p_mv rfl) ?_
  refine wl rfl rfl rfl (p_lenS Tryd.underlying23 rfl) ?_
  refine wl rfl rfl rfl (p_eq rfl rfl) ?_
  refine wl_nil ?_
  refine x_seq ?_
  refine wc_yes rfl (decide_eq_true (by omega)) ?_
  refine wc_seq ?_
  refine wc_region ?_
  refine wl rfl rfl rfl (p_mv rfl) ?_
  refine wle rfl (e_call ent50 rfl rfl (rroot_any t (hm) hw (by omega)) ?_)
  rintro _ w1 ⟨rfl, hc⟩
  refine ⟨_, rfl, ?_⟩
  have hzw1 := hc.size
  have HC := HC.tr hc
  have hm := hm.no hc
  have hks := hks.no hc
  refine wl rfl rfl rfl (p_bldX (vs' := [.int .i64 (2), (.agg ((hx (Tr.root t)) : List Value).toArray)]) (cs := (([.int .i64 (2), Value.int .i64 0] ++ ((List.map u8v (List.replicate 32 (0 : UInt8))) ++ (List.map u8v (Tr.root t)))) : List Value)) (cs' := (([.int .i64 (2), Value.int .i64 0] ++ ((hx (List.replicate 32 (0 : UInt8))) ++ (hx (Tr.root t)))) : List Value)) rfl (by simp only [hv, map_hx (List.length_replicate ..), map_hx Tr.root_len] <;> rfl) (by simp only [hv, map_hx (List.length_replicate ..), map_hx Tr.root_len] <;> rfl) (fun _ => by kernel_rfl)) ?_
  refine wle rfl (e_bslX (E := 117) (cs := (([.int .i64 (2), Value.int .i64 0] ++ ((List.map u8v (List.replicate 32 (0 : UInt8))) ++ (List.map u8v (Tr.root t)))) : List Value)) (cs' := (([.int .i64 (2), Value.int .i64 0] ++ ((hx (List.replicate 32 (0 : UInt8))) ++ (hx (Tr.root t)))) : List Value)) rfl rfl (by simp only [hv, map_hx (List.length_replicate ..), map_hx Tr.root_len] <;> rfl) (fun _ => by kernel_rfl) (fun w2 g15 hg15 hb15 hc hsz15 => ?_))
  have hzw2 := hc.size
  have HC := HC.tr hc
  have hm := hm.no hc
  have hks := hks.no hc
  have hge15 : w.heap.size ≤ g15 := by have := HC.size; omega
  have hW15 := (RI.one (E := eND) (x := ⟨(2), (0), (List.replicate 32 (0 : UInt8)), (Tr.root t)⟩) hb15 rfl ⟨(List.length_replicate ..), Tr.root_len⟩).mono (G := fun k => g15 ≤ k) (fun k _ h => Nat.le_of_eq (Eq.symm h))
  refine wl rfl rfl rfl (p_as rfl) ?_
  refine wl_nil ?_
  refine x_seq ?_
  refine wc_ret ?_
  refine x_then_ret ?_
  refine fin_run ((res1 rfl rfl)) ?_
  have hpv : (t.prv ks).nodes = [⟨2, 0, zeroH, t.root⟩] := by subst hk0; cases t <;> rfl
  rw [hpv]
  exact ⟨_, _, _, rfl, hW15.mono (fun k _ h => by have h2 : g15 ≤ k := h; show w.heap.size ≤ k; omega), HC⟩

set_option maxHeartbeats 1000000 in
set_option maxRecDepth 20000 in
theorem rprove_leaf27 {w : World} {Fm Fk : Nat → Prop} {Am Ak : Option Addr} {lm cm lk ck : Nat} {ks : List H8} {k : List UInt8} {u : List UInt8} (hm : SI w Fm eIT Am lm cm (Tr.items (.leaf k u))) (hks : SI w Fk eH Ak lk ck ks) (hw : (Tr.leaf k u).WF) (hl : lm ≤ 100000) (hlk : lk ≤ 1000000) (hk0 : ks ≠ []) :
    Calls Tryd.prog 71 #[.slice Am lm cm, .slice Ak lk ck] w fun e w' => ∃ A l c, e = .returned (.slice A l c) ∧ RI w' (fun k => w.heap.size ≤ k) 117 eND A l c ((Tr.leaf k u).prv ks).nodes ∧ Ch No w w' := by
  have hml := hm.len
  have hkl := hks.len
  have hlk0 : lk ≠ 0 := by rw [← hkl]; exact fun e => hk0 (List.eq_nil_of_length_eq_zero e)
  have hl1 : lm = 1 := by rw [← hml]; rfl
  have hm := hm.old
  have hks := hks.old
  have HC : Ch No w w := Ch.refl _ _
  refine enter' (args := [.slice Am lm cm, .slice Ak lk ck]) (n := 55) Tryd.func71 rfl rfl rfl ?_
  refine wc_seq ?_
  refine wc_region ?_
  refine wl rfl rfl rfl (p_as rfl) ?_
  refine wl_nil ?_
  refine x_seq ?_
  refine wc_seq ?_
  refine wc_seq ?_
  refine wc_region ?_
  refine wl rfl rfl rfl (p_mv rfl) ?_
  refine wl rfl rfl rfl (p_lenS Tryd.underlying23 rfl) ?_
  refine wl rfl rfl rfl (p_eq rfl rfl) ?_
  refine wl_nil ?_
  refine x_seq ?_
  refine wc_no rfl (decide_eq_false (by omega)) ?_
  refine wc_skip ?_
  refine x_seq ?_
  refine wc_seq ?_
  refine wc_seq ?_
  refine wc_region ?_
  refine wl rfl rfl rfl (p_mv rfl) ?_
  refine wl rfl rfl rfl (p_lenS Tryd.underlying27 rfl) ?_
  refine wl rfl rfl rfl (p_eq rfl rfl) ?_
  refine wl_nil ?_
  refine x_seq ?_
  refine wc_yes rfl (decide_eq_true (by omega)) ?_
  refine wc_seq ?_
  refine wc_draw (.st 0 0 (.st 1 0 (.st 2 0 (.st 3 1 (.st 4 0 (.st 5 0 (.st 6 0 (.st 7 1 (.st 8 0 (.st 9 2 (.st 10 0 .nil))))))))))) 11 (by kernel_rfl) (by kernel_rfl) (by kernel_rfl) (by repeat (first | with_reducible exact pan_body | with_reducible apply pan_then | with_reducible apply pan_in)) (fun x => Ch No w.drew x) (Ch.refl _ _) ?_
  obtain ⟨w1, ew1⟩ : ∃ x, x = w.drew := ⟨_, rfl⟩
  rw [← ew1]
  have hc : Ch No w w1 := by rw [ew1]; exact Ch.drew _
  have hszw1 : w1.heap.size = w.heap.size := by rw [ew1]; rfl
  clear ew1
  have hzw1 := hc.size
  have HC := HC.tr hc
  have hm := hm.no hc
  have hks := hks.no hc
  have hS : Ch No w1 w1 := Ch.refl _ _
  refine ws_p rfl rfl rfl rfl (p_mv rfl) ?_
  obtain ⟨b2, o2, hA2, hF2, hr2⟩ := (hm).opn (i := 0) (d := (zeroH, zeroH)) (by omega)
  have hok2 := (hm).okAt (i := 0) (d := (zeroH, zeroH)) (by omega)
  obtain ⟨x2, ex2⟩ : ∃ x_, x_ = List.getD (Tr.items (.leaf k u)) (0) (zeroH, zeroH) := ⟨_, rfl⟩
  rw [← ex2] at hr2 hok2
  obtain ⟨hx2k, hx2v⟩ := hok2
  have hr2 : w1.rangeAt b2 (o2 + 0 * 64) (((List.map u8v x2.1) ++ (List.map u8v x2.2)) : List Value) := hr2
  refine ws_p rfl rfl rfl rfl (p_ixS (j := 0 * 64) Tryd.underlying27 sz81 rfl hA2 rfl (by omega) (by omega) rfl) ?_
  have hkx : x2 = (k, u) := ex2
  refine ws_p rfl rfl rfl rfl (p_fld (j := 0) Tryd.underlying81 rfl ⟨_, by rfl⟩ rfl rfl) ?_
  refine ws_h rfl rfl rfl rfl (p_ldA (cs := (List.map u8v x2.1)) Tryd.underlying38 rfl (szL sz38 (by first | rfl | (simp only [List.length_append, List.length_map, List.length_cons, List.length_nil, (show List.length x2.1 = 32 from hx2k)]; done) | (simp only [List.length_append, List.length_map, List.length_cons, List.length_nil, List.size_toArray, (show List.length x2.1 = 32 from hx2k)]; done))) rfl (fun _ h => rng_sub (q := (List.map u8v x2.1)) (p := []) (r := ((List.map u8v x2.2) : List Value)) (rng_no hr2 h) (by first | rfl | simp only [List.append_assoc, List.cons_append, List.nil_append, List.append_nil]) rfl)) ?_
  refine ws_p rfl rfl rfl rfl (p_mv rfl) ?_
  obtain ⟨b3, o3, hA3, hF3, hr3⟩ := (hm).opn (i := 0) (d := (zeroH, zeroH)) (by omega)
  have hok3 := (hm).okAt (i := 0) (d := (zeroH, zeroH)) (by omega)
  obtain ⟨x3, ex3⟩ : ∃ x_, x_ = List.getD (Tr.items (.leaf k u)) (0) (zeroH, zeroH) := ⟨_, rfl⟩
  rw [← ex3] at hr3 hok3
  obtain ⟨hx3k, hx3v⟩ := hok3
  have hr3 : w1.rangeAt b3 (o3 + 0 * 64) (((List.map u8v x3.1) ++ (List.map u8v x3.2)) : List Value) := hr3
  refine ws_p rfl rfl rfl rfl (p_ixS (j := 0 * 64) Tryd.underlying27 sz81 rfl hA3 rfl (by omega) (by omega) rfl) ?_
  have hky : x3 = (k, u) := ex3
  refine ws_p rfl rfl rfl rfl (p_fld (j := 32) Tryd.underlying81 rfl ⟨_, by rfl⟩ rfl rfl) ?_
  refine ws_h rfl rfl rfl rfl (p_ldA (cs := (List.map u8v x3.2)) Tryd.underlying38 rfl (szL sz38 (by first | rfl | (simp only [List.length_append, List.length_map, List.length_cons, List.length_nil, (show List.length x3.2 = 32 from hx3v)]; done) | (simp only [List.length_append, List.length_map, List.length_cons, List.length_nil, List.size_toArray, (show List.length x3.2 = 32 from hx3v)]; done))) rfl (fun _ h => rng_sub (q := (List.map u8v x3.2)) (p := ((List.map u8v x3.1) : List Value)) (r := []) (rng_no hr3 h) (by first | rfl | simp only [List.append_assoc, List.cons_append, List.nil_append, List.append_nil]) (by first | rfl | (simp only [List.length_append, List.length_map, List.length_cons, List.length_nil, (show List.length x3.1 = 32 from hx3k)]; done) | (simp only [List.length_append, List.length_map, List.length_cons, List.length_nil, List.size_toArray, (show List.length x3.1 = 32 from hx3k)]; done)))) ?_
  refine ws_p rfl rfl rfl rfl (p_bldX (vs' := [.int .i64 (3), (.agg ((hx x2.1) : List Value).toArray), (.agg ((hx x3.2) : List Value).toArray)]) (cs := (([.int .i64 (3), Value.int .i64 0] ++ ((List.map u8v x2.1) ++ (List.map u8v x3.2))) : List Value)) (cs' := (([.int .i64 (3), Value.int .i64 0] ++ ((hx x2.1) ++ (hx x3.2))) : List Value)) rfl (by simp only [hv, map_hx hx2k, map_hx hx3v] <;> rfl) (by simp only [hv, map_hx hx2k, map_hx hx3v] <;> rfl) (fun _ => by kernel_rfl)) ?_
  refine ws_e rfl rfl (e_bslX (E := 117) (cs := (([.int .i64 (3), Value.int .i64 0] ++ ((List.map u8v x2.1) ++ (List.map u8v x3.2))) : List Value)) (cs' := (([.int .i64 (3), Value.int .i64 0] ++ ((hx x2.1) ++ (hx x3.2))) : List Value)) rfl rfl (by simp only [hv, map_hx hx2k, map_hx hx3v] <;> rfl) (fun _ => by kernel_rfl) (fun w4 g28 hg28 hb28 hc hsz28 => ⟨hc, ?_⟩))
  have hzw4 := hc.size
  have HC := HC.tr hc
  have hm := hm.no hc
  have hks := hks.no hc
  have hge28 : w.heap.size ≤ g28 := by have := HC.size; omega
  have hW28 := (RI.one (E := eND) (x := ⟨(3), (0), x2.1, x3.2⟩) hb28 rfl ⟨hx2k, hx3v⟩).mono (G := fun k => g28 ≤ k) (fun k _ h => Nat.le_of_eq (Eq.symm h))
  refine ws_narrow (S' := fun x => Ch No w4 x) (Ch.refl _ _) (fun x h => hc.tr h) ?_
  refine ws_p rfl rfl rfl rfl (p_as rfl) ?_
  refine ws_n ?_
  refine x_seq ?_
  refine wc_ret ?_
  refine x_then_ret ?_
  refine fin_run ((res1 rfl rfl)) ?_
  have hpv : ((Tr.leaf k u).prv ks).nodes = [⟨3, 0, k, u⟩] := by rw [Tr.prv, if_neg hk0]; rfl
  rw [hpv]
  rw [hkx, hky] at hW28
  exact ⟨_, _, _, rfl, hW28.mono (fun k _ h => by have h2 : g28 ≤ k := h; show w.heap.size ≤ k; omega), HC⟩

set_option maxHeartbeats 2000000 in
set_option maxRecDepth 20000 in
theorem rprove_fork27 {w : World} {Fm Fk : Nat → Prop} {Am Ak : Option Addr} {lm cm lk ck : Nat} {ks : List H8} {b : Nat} {x y : Tr} (IHx : RProveOK x) (IHy : RProveOK y) (hm : SI w Fm eIT Am lm cm (Tr.items (.fork b x y))) (hks : SI w Fk eH Ak lk ck ks) (hw : (Tr.fork b x y).WF) (hl : lm ≤ 100000) (hlk : lk ≤ 1000000) (hk0 : ks ≠ []) :
    Calls Tryd.prog 71 #[.slice Am lm cm, .slice Ak lk ck] w fun e w' => ∃ A l c, e = .returned (.slice A l c) ∧ RI w' (fun k => w.heap.size ≤ k) 117 eND A l c ((Tr.fork b x y).prv ks).nodes ∧ Ch No w w' := by
  have hml := hm.len
  have hkl := hks.len
  have hlk0 : lk ≠ 0 := by rw [← hkl]; exact fun e => hk0 (List.eq_nil_of_length_eq_zero e)
  obtain ⟨hc1, hc2, hc3⟩ := cut_fork hw
  have px := Tr.cnt_pos x
  have py := Tr.cnt_pos y
  have hm := hm.old
  have hks := hks.old
  have HC : Ch No w w := Ch.refl _ _
  refine enter' (args := [.slice Am lm cm, .slice Ak lk ck]) (n := 55) Tryd.func71 rfl rfl rfl ?_
  refine wc_seq ?_
  refine wc_region ?_
  refine wl rfl rfl rfl (p_as rfl) ?_
  refine wl_nil ?_
  refine x_seq ?_
  refine wc_seq ?_
  refine wc_seq ?_
  refine wc_region ?_
  refine wl rfl rfl rfl (p_mv rfl) ?_
  refine wl rfl rfl rfl (p_lenS Tryd.underlying23 rfl) ?_
  refine wl rfl rfl rfl (p_eq rfl rfl) ?_
  refine wl_nil ?_
  refine x_seq ?_
  refine wc_no rfl (decide_eq_false (by omega)) ?_
  refine wc_skip ?_
  refine x_seq ?_
  refine wc_seq ?_
  refine wc_seq ?_
  refine wc_region ?_
  refine wl rfl rfl rfl (p_mv rfl) ?_
  refine wl rfl rfl rfl (p_lenS Tryd.underlying27 rfl) ?_
  refine wl rfl rfl rfl (p_eq rfl rfl) ?_
  refine wl_nil ?_
  refine x_seq ?_
  refine wc_no rfl (decide_eq_false (by omega)) ?_
  refine wc_skip ?_
  refine x_seq ?_
  refine wc_seq ?_
  refine wc_region ?_
  refine wl rfl rfl rfl (p_mv rfl) ?_
  refine wle rfl (e_call ent86 rfl rfl (rcut_fork (hm) hw (by omega)) ?_)
  rintro _ w1 ⟨rfl, hc⟩
  refine ⟨_, rfl, ?_⟩
  have hzw1 := hc.size
  have HC := HC.tr hc
  have hm := hm.no hc
  have hks := hks.no hc
  refine wl rfl rfl rfl (p_mv rfl) ?_
  refine wl rfl rfl rfl (p_ext rfl rfl) ?_
  refine wl rfl rfl rfl (p_ext rfl rfl) ?_
  refine wl rfl rfl rfl (p_as rfl) ?_
  refine wl rfl rfl rfl (p_as rfl) ?_
  refine wl_nil ?_
  refine x_seq ?_
  refine wc_seq ?_
  refine wc_region ?_
  refine wl rfl rfl rfl (p_mv rfl) ?_
  refine wl rfl rfl rfl (p_mv rfl) ?_
  refine wle rfl (e_call ent101 rfl rfl (rsides_any (b := b) hks (by omega)) ?_)
  rintro _ w2 ⟨B0, m0, e0, B1, m1, e1, rfl, hD0, hD1, hc⟩
  refine ⟨_, rfl, ?_⟩
  have hzw2 := hc.size
  have HC := HC.tr hc
  have hm := hm.no hc
  have hks := hks.no hc
  have hDl0 := hD0.len
  have hD0 := hD0.mono (G := fun k => w1.heap.size ≤ k ∧ k < w2.heap.size) (fun k h1 h2 => ⟨h2, h1⟩)
  have hDl1 := hD1.len
  have hD1 := hD1.mono (G := fun k => w1.heap.size ≤ k ∧ k < w2.heap.size) (fun k h1 h2 => ⟨h2, h1⟩)
  have hspl : m0 + m1 = lk := by rw [← hDl0, ← hDl1, ← hkl]; exact Tr.split_len ks b
  refine wl rfl rfl rfl (p_mv rfl) ?_
  refine wl rfl rfl rfl (p_ext rfl rfl) ?_
  refine wl rfl rfl rfl (p_ext rfl rfl) ?_
  refine wl rfl rfl rfl (p_as rfl) ?_
  refine wl rfl rfl rfl (p_as rfl) ?_
  refine wl_nil ?_
  refine x_seq ?_
  refine wc_seq ?_
  refine wc_draw (.st 0 0 (.st 1 0 (.st 3 0 (.st 4 0 (.st 5 0 (.st 6 0 (.st 9 0 (.st 10 0 (.st 11 0 (.st 12 0 (.alt (.st 2 2 (.st 7 2 (.st 8 2 (.st 13 2 (.st 14 2 (.st 15 0 .nil)))))) (.st 7 2 (.st 2 2 (.st 8 2 (.st 13 2 (.st 14 2 (.st 15 0 .nil))))))))))))))))) 16 (by kernel_rfl) (by kernel_rfl) (by kernel_rfl) (by repeat (first | with_reducible exact pan_body | with_reducible apply pan_then | with_reducible apply pan_in)) (fun z => Ch (No) w2.drew z) (Ch.refl _ _) ?_
  obtain ⟨w3, ew3⟩ : ∃ x, x = w2.drew := ⟨_, rfl⟩
  rw [← ew3]
  have hc : Ch No w2 w3 := by rw [ew3]; exact Ch.drew _
  have hszw3 : w3.heap.size = w2.heap.size := by rw [ew3]; rfl
  clear ew3
  have hzw3 := hc.size
  have HC := HC.tr hc
  have hm := hm.no hc
  have hks := hks.no hc
  have hD0 := hD0.no hc
  have hD1 := hD1.no hc
  have hS : Ch (No) w3 w3 := Ch.refl _ _
  refine ws_p rfl rfl rfl rfl (p_mv rfl) ?_
  refine ws_p rfl rfl rfl rfl (p_bldX (vs' := [.int .i64 (4), i64 (b : Int)]) (cs := (([.int .i64 (4), i64 (b : Int)] ++ ((List.map u8v (List.replicate 32 (0 : UInt8))) ++ (List.map u8v (List.replicate 32 (0 : UInt8))))) : List Value)) (cs' := (([.int .i64 (4), i64 (b : Int)] ++ ((hx (List.replicate 32 (0 : UInt8))) ++ (hx (List.replicate 32 (0 : UInt8))))) : List Value)) rfl rfl (by simp only [hv, map_hx (List.length_replicate ..)] <;> rfl) (fun _ => by kernel_rfl)) ?_
  refine ws_p rfl rfl rfl rfl (p_mv rfl) ?_
  refine ws_p rfl rfl rfl rfl (p_mv rfl) ?_
  have hS45 : SI w3 (fun k => k < w.heap.size) eIT (cutA Am cm 0 64) x.cnt (cm - 0) (Tr.items x) := by have h := hm.cut (lo := 0) (hi := x.cnt) (q := x.cnt) (by omega) (by omega) (by omega); rw [List.drop_zero, fork_take] at h; exact h
  refine ws_p rfl rfl rfl rfl (p_slS (l := 0) (h := x.cnt) Tryd.underlying27 sz81 rfl rfl ⟨_, rfl⟩ (by omega) (by have := hm.cap; omega) hm.cap (q := x.cnt) (by omega)) ?_
  refine ws_p rfl rfl rfl rfl (p_mv rfl) ?_
  refine ws_p rfl rfl rfl rfl (p_mv rfl) ?_
  refine ws_p rfl rfl rfl rfl (p_mv rfl) ?_
  have hS51 : SI w3 (fun k => k < w.heap.size) eIT (cutA Am cm x.cnt 64) (lm - x.cnt) (cm - x.cnt) (Tr.items y) := by have h := hm.cutTo (lo := x.cnt) (by omega); rw [fork_drop] at h; exact h
  refine ws_p rfl rfl rfl rfl (p_slS (l := x.cnt) (h := lm) Tryd.underlying27 sz81 rfl ⟨_, rfl⟩ rfl (by omega) (by have := hm.cap; omega) hm.cap (q := lm - x.cnt) (by omega)) ?_
  refine ws_p rfl rfl rfl rfl (p_mv rfl) ?_
  refine ws_alt ?_ ?_
  ·
   refine ws_e rfl rfl (e_bslX (E := 117) (cs := (([.int .i64 (4), i64 (b : Int)] ++ ((List.map u8v (List.replicate 32 (0 : UInt8))) ++ (List.map u8v (List.replicate 32 (0 : UInt8))))) : List Value)) (cs' := (([.int .i64 (4), i64 (b : Int)] ++ ((hx (List.replicate 32 (0 : UInt8))) ++ (hx (List.replicate 32 (0 : UInt8))))) : List Value)) rfl rfl (by simp only [hv, map_hx (List.length_replicate ..)] <;> rfl) (fun _ => by kernel_rfl) (fun w4 g42 hg42 hb42 hc hsz42 => ⟨hS.tr hc, ?_⟩))
   have hzw4 := hc.size
   have HC := HC.tr hc
   have hm := hm.no hc
   have hks := hks.no hc
   have hD0 := hD0.after hc
   have hD1 := hD1.after hc
   have hS45 := hS45.no hc
   have hS51 := hS51.no hc
   have hge42 : w.heap.size ≤ g42 := by have := HC.size; omega
   have hW42 := (RI.one (E := eND) (x := ⟨(4), (b : Int), (List.replicate 32 (0 : UInt8)), (List.replicate 32 (0 : UInt8))⟩) hb42 rfl ⟨(List.length_replicate ..), (List.length_replicate ..)⟩).mono (G := fun k => g42 ≤ k) (fun k _ h => Nat.le_of_eq (Eq.symm h))
   have hS := hS.tr hc
   refine ws_e rfl rfl (e_call ent71 rfl rfl (IHx hS45 hD0.si hw.2.1 (by omega) (by omega)) ?_)
   rintro _ w5 ⟨A47, l47, c47, rfl, hQ47, hc⟩
   refine ⟨_, rfl, hS.tr hc, ?_⟩
   have hzw5 := hc.size
   have HC := HC.tr hc
   have hm := hm.no hc
   have hks := hks.no hc
   have hD0 := hD0.after hc
   have hD1 := hD1.after hc
   have hS45 := hS45.no hc
   have hS51 := hS51.no hc
   have hW42 := hW42.after hc
   have hQl47 := hQ47.len
   have hpn47 := Tr.prv_nodes (t := x) (ks := ks.filter (fun k => decide (bitN k b = 0)))
   have hQ47 := hQ47.mono (G := fun k => w4.heap.size ≤ k ∧ k < w5.heap.size) (fun k h1 h2 => ⟨h2, h1⟩)
   have hS := hS.tr hc
   refine ws_e rfl rfl (e_appI rfl el31 rfl rfl hW42 (hQ47.si) (by omega) (by intro k hk; first | omega | (dsimp only at *; omega)) (fun w6 A48 c48 hW42 hc => ⟨(hS.nw hc (by intro k hk ht; omega)), ?_⟩))
   have hzw6 := hc.size
   have HC := HC.trans hc (fun _ _ h => h) (fun k hk ht => absurd ht (by omega))
   have hm := hm.ch hc (by intro k hk ht; omega)
   have hks := hks.ch hc (by intro k hk ht; omega)
   have hD0 := hD0.afterT hc (by intro k hz hk ht; omega)
   have hD1 := hD1.afterT hc (by intro k hz hk ht; omega)
   first | have hS45 := hS45.ch hc (by intro k hk ht; omega) | have hS45 := hS45.chT hc (by intro k hz hk ht; omega)
   first | have hS51 := hS51.ch hc (by intro k hk ht; omega) | have hS51 := hS51.chT hc (by intro k hz hk ht; omega)
   have hQ47 := hQ47.afterT hc (by intro k hz hk ht; omega)
   have hS := (hS.nw hc (by intro k hk ht; omega))
   refine ws_e rfl rfl (e_call ent71 rfl rfl (IHy hS51 hD1.si hw.2.2.1 (by omega) (by omega)) ?_)
   rintro _ w7 ⟨A53, l53, c53, rfl, hQ53, hc⟩
   refine ⟨_, rfl, hS.tr hc, ?_⟩
   have hzw7 := hc.size
   have HC := HC.tr hc
   have hm := hm.no hc
   have hks := hks.no hc
   have hD0 := hD0.after hc
   have hD1 := hD1.after hc
   have hS45 := hS45.no hc
   have hS51 := hS51.no hc
   have hW42 := hW42.after hc
   have hQ47 := hQ47.after hc
   have hQl53 := hQ53.len
   have hpn53 := Tr.prv_nodes (t := y) (ks := ks.filter (fun k => decide (bitN k b = 1)))
   have hQ53 := hQ53.mono (G := fun k => w6.heap.size ≤ k ∧ k < w7.heap.size) (fun k h1 h2 => ⟨h2, h1⟩)
   have hS := hS.tr hc
   refine ws_e rfl rfl (e_appI rfl el31 rfl rfl hW42 (hQ53.si) (by omega) (by intro k hk; first | omega | (dsimp only at *; omega)) (fun w8 A54 c54 hW42 hc => ⟨(hS.nw hc (by intro k hk ht; omega)), ?_⟩))
   have hzw8 := hc.size
   have HC := HC.trans hc (fun _ _ h => h) (fun k hk ht => absurd ht (by omega))
   have hm := hm.ch hc (by intro k hk ht; omega)
   have hks := hks.ch hc (by intro k hk ht; omega)
   have hD0 := hD0.afterT hc (by intro k hz hk ht; omega)
   have hD1 := hD1.afterT hc (by intro k hz hk ht; omega)
   first | have hS45 := hS45.ch hc (by intro k hk ht; omega) | have hS45 := hS45.chT hc (by intro k hz hk ht; omega)
   first | have hS51 := hS51.ch hc (by intro k hk ht; omega) | have hS51 := hS51.chT hc (by intro k hz hk ht; omega)
   have hQ47 := hQ47.afterT hc (by intro k hz hk ht; omega)
   have hQ53 := hQ53.afterT hc (by intro k hz hk ht; omega)
   have hS := (hS.nw hc (by intro k hk ht; omega))
   refine ws_p rfl rfl rfl rfl (p_as rfl) ?_
   refine ws_n ?_
   refine x_seq ?_
   refine wc_ret ?_
   refine fin_run ((res1 rfl rfl)) ?_
   have hpv : ((Tr.fork b x y).prv ks).nodes = ⟨4, (b : Int), zeroH, zeroH⟩ :: ((x.prv (ks.filter (fun k => decide (bitN k b = 0)))).nodes ++ (y.prv (ks.filter (fun k => decide (bitN k b = 1)))).nodes) := by rw [Tr.prv, if_neg hk0]; rfl
   rw [hpv]
   rw [List.append_assoc] at hW42
   exact ⟨_, _, _, rfl, hW42.mono (fun k _ h => by (try simp only [and_assoc] at h); have h2 := h.1; show w.heap.size ≤ k; omega), HC⟩
  ·
   refine ws_e rfl rfl (e_call ent71 rfl rfl (IHx hS45 hD0.si hw.2.1 (by omega) (by omega)) ?_)
   rintro _ w9 ⟨A47, l47, c47, rfl, hQ47, hc⟩
   refine ⟨_, rfl, hS.tr hc, ?_⟩
   have hzw9 := hc.size
   have HC := HC.tr hc
   have hm := hm.no hc
   have hks := hks.no hc
   have hD0 := hD0.after hc
   have hD1 := hD1.after hc
   have hS45 := hS45.no hc
   have hS51 := hS51.no hc
   have hQl47 := hQ47.len
   have hpn47 := Tr.prv_nodes (t := x) (ks := ks.filter (fun k => decide (bitN k b = 0)))
   have hQ47 := hQ47.mono (G := fun k => w3.heap.size ≤ k ∧ k < w9.heap.size) (fun k h1 h2 => ⟨h2, h1⟩)
   have hS := hS.tr hc
   refine ws_e rfl rfl (e_bslX (E := 117) (cs := (([.int .i64 (4), i64 (b : Int)] ++ ((List.map u8v (List.replicate 32 (0 : UInt8))) ++ (List.map u8v (List.replicate 32 (0 : UInt8))))) : List Value)) (cs' := (([.int .i64 (4), i64 (b : Int)] ++ ((hx (List.replicate 32 (0 : UInt8))) ++ (hx (List.replicate 32 (0 : UInt8))))) : List Value)) rfl rfl (by simp only [hv, map_hx (List.length_replicate ..)] <;> rfl) (fun _ => by kernel_rfl) (fun w10 g42 hg42 hb42 hc hsz42 => ⟨hS.tr hc, ?_⟩))
   have hzw10 := hc.size
   have HC := HC.tr hc
   have hm := hm.no hc
   have hks := hks.no hc
   have hD0 := hD0.after hc
   have hD1 := hD1.after hc
   have hS45 := hS45.no hc
   have hS51 := hS51.no hc
   have hQ47 := hQ47.after hc
   have hge42 : w.heap.size ≤ g42 := by have := HC.size; omega
   have hW42 := (RI.one (E := eND) (x := ⟨(4), (b : Int), (List.replicate 32 (0 : UInt8)), (List.replicate 32 (0 : UInt8))⟩) hb42 rfl ⟨(List.length_replicate ..), (List.length_replicate ..)⟩).mono (G := fun k => g42 ≤ k) (fun k _ h => Nat.le_of_eq (Eq.symm h))
   have hS := hS.tr hc
   refine ws_e rfl rfl (e_appI rfl el31 rfl rfl hW42 (hQ47.si) (by omega) (by intro k hk; first | omega | (dsimp only at *; omega)) (fun w11 A48 c48 hW42 hc => ⟨(hS.nw hc (by intro k hk ht; omega)), ?_⟩))
   have hzw11 := hc.size
   have HC := HC.trans hc (fun _ _ h => h) (fun k hk ht => absurd ht (by omega))
   have hm := hm.ch hc (by intro k hk ht; omega)
   have hks := hks.ch hc (by intro k hk ht; omega)
   have hD0 := hD0.afterT hc (by intro k hz hk ht; omega)
   have hD1 := hD1.afterT hc (by intro k hz hk ht; omega)
   first | have hS45 := hS45.ch hc (by intro k hk ht; omega) | have hS45 := hS45.chT hc (by intro k hz hk ht; omega)
   first | have hS51 := hS51.ch hc (by intro k hk ht; omega) | have hS51 := hS51.chT hc (by intro k hz hk ht; omega)
   have hQ47 := hQ47.afterT hc (by intro k hz hk ht; omega)
   have hS := (hS.nw hc (by intro k hk ht; omega))
   refine ws_e rfl rfl (e_call ent71 rfl rfl (IHy hS51 hD1.si hw.2.2.1 (by omega) (by omega)) ?_)
   rintro _ w12 ⟨A53, l53, c53, rfl, hQ53, hc⟩
   refine ⟨_, rfl, hS.tr hc, ?_⟩
   have hzw12 := hc.size
   have HC := HC.tr hc
   have hm := hm.no hc
   have hks := hks.no hc
   have hD0 := hD0.after hc
   have hD1 := hD1.after hc
   have hS45 := hS45.no hc
   have hS51 := hS51.no hc
   have hQ47 := hQ47.after hc
   have hW42 := hW42.after hc
   have hQl53 := hQ53.len
   have hpn53 := Tr.prv_nodes (t := y) (ks := ks.filter (fun k => decide (bitN k b = 1)))
   have hQ53 := hQ53.mono (G := fun k => w11.heap.size ≤ k ∧ k < w12.heap.size) (fun k h1 h2 => ⟨h2, h1⟩)
   have hS := hS.tr hc
   refine ws_e rfl rfl (e_appI rfl el31 rfl rfl hW42 (hQ53.si) (by omega) (by intro k hk; first | omega | (dsimp only at *; omega)) (fun w13 A54 c54 hW42 hc => ⟨(hS.nw hc (by intro k hk ht; omega)), ?_⟩))
   have hzw13 := hc.size
   have HC := HC.trans hc (fun _ _ h => h) (fun k hk ht => absurd ht (by omega))
   have hm := hm.ch hc (by intro k hk ht; omega)
   have hks := hks.ch hc (by intro k hk ht; omega)
   have hD0 := hD0.afterT hc (by intro k hz hk ht; omega)
   have hD1 := hD1.afterT hc (by intro k hz hk ht; omega)
   first | have hS45 := hS45.ch hc (by intro k hk ht; omega) | have hS45 := hS45.chT hc (by intro k hz hk ht; omega)
   first | have hS51 := hS51.ch hc (by intro k hk ht; omega) | have hS51 := hS51.chT hc (by intro k hz hk ht; omega)
   have hQ47 := hQ47.afterT hc (by intro k hz hk ht; omega)
   have hQ53 := hQ53.afterT hc (by intro k hz hk ht; omega)
   have hS := (hS.nw hc (by intro k hk ht; omega))
   refine ws_p rfl rfl rfl rfl (p_as rfl) ?_
   refine ws_n ?_
   refine x_seq ?_
   refine wc_ret ?_
   refine fin_run ((res1 rfl rfl)) ?_
   have hpv : ((Tr.fork b x y).prv ks).nodes = ⟨4, (b : Int), zeroH, zeroH⟩ :: ((x.prv (ks.filter (fun k => decide (bitN k b = 0)))).nodes ++ (y.prv (ks.filter (fun k => decide (bitN k b = 1)))).nodes) := by rw [Tr.prv, if_neg hk0]; rfl
   rw [hpv]
   rw [List.append_assoc] at hW42
   exact ⟨_, _, _, rfl, hW42.mono (fun k _ h => by (try simp only [and_assoc] at h); have h2 := h.1; show w.heap.size ≤ k; omega), HC⟩

theorem rprove_any27 : ∀ t : Tr, RProveOK t
  | .leaf k v => by
    intro h1 h2 h3 h4 h5
    rename_i w Fm Fk Am Ak lm cm lk ck ks
    by_cases hk : ks = []
    · exact rprove_nil27 h1 h2 h3 h4 h5 hk
    · exact rprove_leaf27 h1 h2 h3 h4 h5 hk
  | .fork b x y => by
    intro h1 h2 h3 h4 h5
    rename_i w Fm Fk Am Ak lm cm lk ck ks
    by_cases hk : ks = []
    · exact rprove_nil27 h1 h2 h3 h4 h5 hk
    · exact rprove_fork27 (rprove_any27 x) (rprove_any27 y) h1 h2 h3 h4 h5 hk

set_option maxHeartbeats 1000000 in
set_option maxRecDepth 20000 in
theorem rProve_none {w : World} {Fm Fk : Nat → Prop} {Am Ak : Option Addr} {lm cm lk ck : Nat} {ks : List H8} (hl0 : lm = 0) (hks : SI w Fk eH Ak lk ck ks) (hlk : lk ≤ 1000000) :
    Calls Tryd.prog 25 #[.slice Am lm cm, .slice Ak lk ck] w fun e w' => ∃ A l c, e = .returned (.slice A l c) ∧ RI w' (fun k => w.heap.size ≤ k) 117 eND A l c (prvN none ks) ∧ Ch No w w' := by
  have hks := hks.old
  have HC : Ch No w w := Ch.refl _ _
  refine enter' (args := [.slice Am lm cm, .slice Ak lk ck]) (n := 13) Tryd.func25 rfl rfl rfl ?_
  refine wc_seq ?_
  refine wc_region ?_
  refine wl rfl rfl rfl (p_as rfl) ?_
  refine wl_nil ?_
  refine x_seq ?_
  refine wc_seq ?_
  refine wc_seq ?_
  refine wc_region ?_
  refine wl rfl rfl rfl (p_mv rfl) ?_
  refine wl rfl rfl rfl (p_lenS Tryd.underlying27 rfl) ?_
  refine wl rfl rfl rfl (p_eq rfl rfl) ?_
  refine wl_nil ?_
  refine x_seq ?_
  refine wc_yes rfl (decide_eq_true (by omega)) ?_
  refine wc_seq ?_
  refine wc_region ?_
  refine wl rfl rfl rfl (p_bldX (vs' := [.int .i64 (1)]) (cs := (([.int .i64 (1), Value.int .i64 0] ++ ((List.map u8v (List.replicate 32 (0 : UInt8))) ++ (List.map u8v (List.replicate 32 (0 : UInt8))))) : List Value)) (cs' := (([.int .i64 (1), Value.int .i64 0] ++ ((hx (List.replicate 32 (0 : UInt8))) ++ (hx (List.replicate 32 (0 : UInt8))))) : List Value)) rfl rfl (by simp only [hv, map_hx (List.length_replicate ..)] <;> rfl) (fun _ => by kernel_rfl)) ?_
  refine wle rfl (e_bslX (E := 117) (cs := (([.int .i64 (1), Value.int .i64 0] ++ ((List.map u8v (List.replicate 32 (0 : UInt8))) ++ (List.map u8v (List.replicate 32 (0 : UInt8))))) : List Value)) (cs' := (([.int .i64 (1), Value.int .i64 0] ++ ((hx (List.replicate 32 (0 : UInt8))) ++ (hx (List.replicate 32 (0 : UInt8))))) : List Value)) rfl rfl (by simp only [hv, map_hx (List.length_replicate ..)] <;> rfl) (fun _ => by kernel_rfl) (fun w1 g9 hg9 hb9 hc hsz9 => ?_))
  have hzw1 := hc.size
  have HC := HC.tr hc
  have hks := hks.no hc
  have hge9 : w.heap.size ≤ g9 := by have := HC.size; omega
  have hW9 := (RI.one (E := eND) (x := ⟨(1), (0), (List.replicate 32 (0 : UInt8)), (List.replicate 32 (0 : UInt8))⟩) hb9 rfl ⟨(List.length_replicate ..), (List.length_replicate ..)⟩).mono (G := fun k => g9 ≤ k) (fun k _ h => Nat.le_of_eq (Eq.symm h))
  refine wl rfl rfl rfl (p_as rfl) ?_
  refine wl_nil ?_
  refine x_seq ?_
  refine wc_ret ?_
  refine x_then_ret ?_
  refine fin_run ((res1 rfl rfl)) ?_
  exact ⟨_, _, _, rfl, hW9.mono (fun k _ h => by have h2 : g9 ≤ k := h; show w.heap.size ≤ k; omega), HC⟩

set_option maxHeartbeats 1000000 in
set_option maxRecDepth 20000 in
theorem rProve_some {w : World} {Fm Fk : Nat → Prop} {Am Ak : Option Addr} {lm cm lk ck : Nat} {ks : List H8} {t : Tr} (hm : SI w Fm eIT Am lm cm (Tr.items (t))) (hks : SI w Fk eH Ak lk ck ks) (hw : (t).WF) (hl : lm ≤ 100000) (hlk : lk ≤ 1000000) :
    Calls Tryd.prog 25 #[.slice Am lm cm, .slice Ak lk ck] w fun e w' => ∃ A l c, e = .returned (.slice A l c) ∧ RI w' (fun k => w.heap.size ≤ k) 117 eND A l c (prvN (some t) ks) ∧ Ch No w w' := by
  have hml := hm.len
  have hkl := hks.len
  have hcp := Tr.cnt_pos t
  have hic := Tr.items_cnt t
  have hm := hm.old
  have hks := hks.old
  have HC : Ch No w w := Ch.refl _ _
  refine enter' (args := [.slice Am lm cm, .slice Ak lk ck]) (n := 13) Tryd.func25 rfl rfl rfl ?_
  refine wc_seq ?_
  refine wc_region ?_
  refine wl rfl rfl rfl (p_as rfl) ?_
  refine wl_nil ?_
  refine x_seq ?_
  refine wc_seq ?_
  refine wc_seq ?_
  refine wc_region ?_
  refine wl rfl rfl rfl (p_mv rfl) ?_
  refine wl rfl rfl rfl (p_lenS Tryd.underlying27 rfl) ?_
  refine wl rfl rfl rfl (p_eq rfl rfl) ?_
  refine wl_nil ?_
  refine x_seq ?_
  refine wc_no rfl (decide_eq_false (by omega)) ?_
  refine wc_skip ?_
  refine x_seq ?_
  refine wc_seq ?_
  refine wc_region ?_
  refine wl rfl rfl rfl (p_mv rfl) ?_
  refine wl rfl rfl rfl (p_mv rfl) ?_
  refine wle rfl (e_call ent71 rfl rfl (rprove_any27 t (hm) (hks) hw (by omega) (by omega)) ?_)
  rintro _ w1 ⟨A12, l12, c12, rfl, hQ12, hc⟩
  refine ⟨_, rfl, ?_⟩
  have hzw1 := hc.size
  have HC := HC.tr hc
  have hm := hm.no hc
  have hks := hks.no hc
  have hQ12 := hQ12.mono (G := fun k => w.heap.size ≤ k ∧ k < w1.heap.size) (fun k h1 h2 => ⟨h2, h1⟩)
  refine wl rfl rfl rfl (p_as rfl) ?_
  refine wl_nil ?_
  refine x_seq ?_
  refine wc_ret ?_
  refine fin_run ((res1 rfl rfl)) ?_
  exact ⟨_, _, _, rfl, hQ12.mono (fun k _ h => by have := h.1; show w.heap.size ≤ k; omega), HC⟩

theorem rProve_any {w : World} {Fm Fk : Nat → Prop} {Am Ak : Option Addr} {lm cm lk ck : Nat} {ks : List H8} {o : Option Tr} (hm : SI w Fm eIT Am lm cm (itemsT o)) (hks : SI w Fk eH Ak lk ck ks) (hw : WFO o) (hl : lm ≤ 100000) (hlk : lk ≤ 1000000) : Calls Tryd.prog 25 #[.slice Am lm cm, .slice Ak lk ck] w fun e w' => ∃ A l c, e = .returned (.slice A l c) ∧ RI w' (fun k => w.heap.size ≤ k) 117 eND A l c (prvN o ks) ∧ Ch No w w' := by
  cases o with
  | none => exact rProve_none (Fm := No) hm.len.symm hks hlk
  | some t => exact rProve_some hm hks (hw t rfl) hl hlk

set_option maxHeartbeats 2000000 in
set_option maxRecDepth 20000 in
theorem multiProves_walk {w : World}  {Al : Option Addr} {ll cl : Nat} {Fl : Nat → Prop} {l : List (H8 × H8)} {Ak : Option Addr} {lk ck : Nat} {Fk : Nat → Prop} {ks : List H8} (hin : SI w Fl eIT Al ll cl l) (hks : SI w Fk eH Ak lk ck ks) (hrnd : Sl w (fun k => k = 0) u32v (some ⟨0, 0, none⟩) 64 64 rk) :
    Calls Tryd.prog 3 #[.slice Al ll cl, .slice Ak lk ck] w fun e w' => e = .returned (.bool true) ∧ Ch No w w' := by
  have hn0 : 0 < w.heap.size := hrnd.size (by omega) rfl
  have hn1 := hn0
  have hinl := hin.len
  have hok := hin.ok
  have hkl := hks.len
  have hin := hin.old
  have hks := hks.old
  have HC : Ch No w w := Ch.refl _ _
  refine enter' (args := [.slice Al ll cl, .slice Ak lk ck]) (n := 32) Tryd.func3 rfl rfl rfl ?_
  refine wc_seq ?_
  refine wc_region ?_
  refine wl rfl rfl rfl (p_as rfl) ?_
  refine wl_nil ?_
  refine x_seq ?_
  refine wc_seq ?_
  refine wc_seq ?_
  refine wc_region ?_
  refine wl rfl rfl rfl (p_mv rfl) ?_
  refine wl rfl rfl rfl (p_lenS Tryd.underlying22 rfl) ?_
  refine wl rfl rfl rfl (p_gt rfl rfl) ?_
  refine wl rfl rfl rfl (p_mv rfl) ?_
  refine wl_split (d := 10) rfl (fun q10 => ?_) (fun q10 => ?_)
  ·
   have q10 := of_decide_eq_true q10
   refine wl_s (gd_ rfl rfl rfl rfl rfl rfl) rfl rfl ?_
   refine wl_s (gd_ rfl rfl rfl rfl rfl rfl) rfl rfl ?_
   refine wl_s (gd_ rfl rfl rfl rfl rfl rfl) rfl rfl ?_
   refine wl rfl rfl rfl (p_pickT rfl rfl) ?_
   refine wl_nil ?_
   refine x_seq ?_
   refine wc_yes rfl (rfl) ?_
   refine wc_seq ?_
   refine wc_region ?_
   refine wle rfl (e_call ent20 rfl rfl (lives27_any hrnd) ?_)
   rintro _ w1 ⟨rfl, hc⟩
   refine ⟨_, rfl, ?_⟩
   have hzw1 := hc.size
   have HC := HC.tr hc
   have hin := hin.no hc
   have hks := hks.no hc
   have hrnd := hrnd.no hc
   refine wl rfl rfl rfl (p_as rfl) ?_
   refine wl_nil ?_
   refine x_seq ?_
   refine wc_ret ?_
   refine x_then_ret ?_
   refine fin_run ((res1 rfl rfl)) ?_
   exact ⟨rfl, HC⟩
  ·
   have q10 := of_decide_eq_false q10
   refine wl_g (gd_ rfl rfl rfl rfl rfl rfl) rfl rfl (p_mv rfl) ?_
   refine wl_g (gd_ rfl rfl rfl rfl rfl rfl) rfl rfl (p_lenS Tryd.underlying23 rfl) ?_
   refine wl_g (gd_ rfl rfl rfl rfl rfl rfl) rfl rfl (p_gt rfl rfl) ?_
   refine wl rfl rfl rfl (p_pickF rfl rfl) ?_
   refine wl_nil ?_
   refine x_seq ?_
   refine wc_if rfl (fun c0 => ?_) (fun c0 => ?_)
   ·
    have c0 := of_decide_eq_true c0
    refine wc_seq ?_
    refine wc_region ?_
    refine wle rfl (e_call ent20 rfl rfl (lives27_any hrnd) ?_)
    rintro _ w2 ⟨rfl, hc⟩
    refine ⟨_, rfl, ?_⟩
    have hzw2 := hc.size
    have HC := HC.tr hc
    have hin := hin.no hc
    have hks := hks.no hc
    have hrnd := hrnd.no hc
    refine wl rfl rfl rfl (p_as rfl) ?_
    refine wl_nil ?_
    refine x_seq ?_
    refine wc_ret ?_
    refine x_then_ret ?_
    refine fin_run ((res1 rfl rfl)) ?_
    exact ⟨rfl, HC⟩
   ·
    have c0 := of_decide_eq_false c0
    refine wc_skip ?_
    refine x_seq ?_
    refine wc_seq ?_
    refine wc_region ?_
    refine wl rfl rfl rfl (p_mv rfl) ?_
    refine wle rfl (e_call ent21 rfl rfl (made27_any hin (by omega)) ?_)
    rintro _ w3 ⟨v18, o18, A18, lm18, cm18, rfl, hV18, heo18, hM18, hc⟩
    refine ⟨_, rfl, ?_⟩
    have hzw3 := hc.size
    have HC := HC.tr hc
    have hin := hin.no hc
    have hks := hks.no hc
    have hrnd := hrnd.no hc
    obtain ⟨hwf, hmc⟩ := mkT_all hok
    have hml18 : lm18 = cntT (mkT l) := by rw [← itemsT_cnt]; exact hM18.len.symm
    have hwfo : WFO (eo o18) := by rw [heo18]; exact hwf
    have hcno : cntT (eo o18) ≤ 1000 := by rw [heo18]; omega
    have hV18 := hV18.mono (G := fun k => w.heap.size ≤ k ∧ k < w3.heap.size) (fun k h1 h2 => ⟨by first | exact h2 | exact h2.1 | ((try dsimp only at h2); omega), h1⟩)
    have hM18 := hM18.mono (G := fun k => w.heap.size ≤ k ∧ k < w3.heap.size) (fun k h1 h2 => ⟨by first | exact h2 | exact h2.1 | ((try dsimp only at h2); omega), h1⟩)
    refine wl rfl rfl rfl (p_mv rfl) ?_
    refine wl rfl rfl rfl (p_ext rfl rfl) ?_
    refine wl rfl rfl rfl (p_ext rfl rfl) ?_
    refine wl rfl rfl rfl (p_as rfl) ?_
    refine wl rfl rfl rfl (p_as rfl) ?_
    refine wl_nil ?_
    refine x_seq ?_
    refine wc_seq ?_
    refine wc_region ?_
    refine wl rfl rfl rfl (p_mv rfl) ?_
    refine wl rfl rfl rfl (p_mv rfl) ?_
    refine wle rfl (e_call ent24 rfl rfl (mprove27_any hV18 hwfo hcno (hks) (by omega) hrnd) ?_)
    rintro _ w4 ⟨A23, l23, c23, rfl, hP23, hc⟩
    refine ⟨_, rfl, ?_⟩
    have hzw4 := hc.size
    have HC := HC.tr hc
    have hin := hin.no hc
    have hks := hks.no hc
    have hrnd := hrnd.no hc
    have hV18 := hV18.ch hc (by first | exact fun _ _ _ h => h | (intro k hk hF ht; have h2 := hF.1; have h3 := hF.2; first | omega | (dsimp only at *; omega)))
    have hM18 := hM18.after hc
    have hPl23 := hP23.len
    have hPb23 : l23 ≤ 2 * cntT (eo o18) + 1 := by rw [← hPl23]; exact prvN_len
    have hP23 := hP23.mono (G := fun k => w3.heap.size ≤ k ∧ k < w4.heap.size) (fun k h1 h2 => ⟨h2, h1⟩)
    refine wle rfl (e_call ent23 rfl rfl (plain27 (hP23.si) (by omega)) ?_)
    rintro _ w5 ⟨A24, c24, rfl, hP24, hc⟩
    refine ⟨_, rfl, ?_⟩
    have hzw5 := hc.size
    have HC := HC.tr hc
    have hin := hin.no hc
    have hks := hks.no hc
    have hrnd := hrnd.no hc
    have hV18 := hV18.ch hc (by first | exact fun _ _ _ h => h | (intro k hk hF ht; have h2 := hF.1; have h3 := hF.2; first | omega | (dsimp only at *; omega)))
    have hM18 := hM18.after hc
    have hP23 := hP23.after hc
    have hP24 := hP24.mono (G := fun k => w4.heap.size ≤ k ∧ k < w5.heap.size) (fun k h1 h2 => ⟨h2, h1⟩)
    rw [heo18] at hP24
    refine wl rfl rfl rfl (p_mv rfl) ?_
    refine wl rfl rfl rfl (p_mv rfl) ?_
    refine wle rfl (e_call ent25 rfl rfl (rProve_any (o := mkT l) (hM18.si) (hks) hwf (by omega) (by omega)) ?_)
    rintro _ w6 ⟨A27, l27, c27, rfl, hQ27, hc⟩
    refine ⟨_, rfl, ?_⟩
    have hzw6 := hc.size
    have HC := HC.tr hc
    have hin := hin.no hc
    have hks := hks.no hc
    have hrnd := hrnd.no hc
    have hV18 := hV18.ch hc (by first | exact fun _ _ _ h => h | (intro k hk hF ht; have h2 := hF.1; have h3 := hF.2; first | omega | (dsimp only at *; omega)))
    have hM18 := hM18.after hc
    have hP23 := hP23.after hc
    have hP24 := hP24.after hc
    have hQl27 := hQ27.len
    have hQ27 := hQ27.mono (G := fun k => w5.heap.size ≤ k ∧ k < w6.heap.size) (fun k h1 h2 => ⟨h2, h1⟩)
    refine wle rfl (e_call ent22 rfl rfl (rsame27 (ms := prvN (mkT l) ks) (hP24.si) (hQ27.si) (by have h1 := prvN_len (o := eo o18) (ks := ks); omega)) ?_)
    rintro _ w7 ⟨rfl, hc⟩
    refine ⟨_, rfl, ?_⟩
    have hzw7 := hc.size
    have HC := HC.tr hc
    have hin := hin.no hc
    have hks := hks.no hc
    have hrnd := hrnd.no hc
    have hV18 := hV18.ch hc (by first | exact fun _ _ _ h => h | (intro k hk hF ht; have h2 := hF.1; have h3 := hF.2; first | omega | (dsimp only at *; omega)))
    have hM18 := hM18.after hc
    have hP23 := hP23.after hc
    have hP24 := hP24.after hc
    have hQ27 := hQ27.after hc
    refine wl rfl rfl rfl (p_mv rfl) ?_
    refine wle_g (gd_ rfl rfl rfl rfl rfl rfl) (e_call ent20 rfl rfl (lives27_any hrnd) ?_)
    rintro _ w8 ⟨rfl, hc⟩
    refine ⟨_, rfl, ?_⟩
    have hzw8 := hc.size
    have HC := HC.tr hc
    have hin := hin.no hc
    have hks := hks.no hc
    have hrnd := hrnd.no hc
    have hV18 := hV18.ch hc (by first | exact fun _ _ _ h => h | (intro k hk hF ht; have h2 := hF.1; have h3 := hF.2; first | omega | (dsimp only at *; omega)))
    have hM18 := hM18.after hc
    have hP23 := hP23.after hc
    have hP24 := hP24.after hc
    have hQ27 := hQ27.after hc
    refine wl rfl rfl rfl (p_pickT rfl rfl) ?_
    refine wl rfl rfl rfl (p_as rfl) ?_
    refine wl_nil ?_
    refine x_seq ?_
    refine wc_ret ?_
    refine fin_run ((res1 rfl rfl)) ?_
    exact ⟨rfl, HC⟩
end Go.Proofs.YtkfkdakghjlenaaDoor
