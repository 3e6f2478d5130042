/-
  Own text, printed by a program of mine (wip/gx): what functions of the program do, walked operation by operation.
-/
import Derived.Test.YtkfkdakghjlenaaDoorProg
import Derived.Test.YtkfkdakghjlenaaDoorGxAgg
import Derived.Test.YtkfkdakghjlenaaDoorTab
import Derived.Test.YtkfkdakghjlenaaDoorGxZer
import Derived.Test.YtkfkdakghjlenaaDoorGxLay
import Derived.Test.YtkfkdakghjlenaaDoorPlPack
import Derived.Test.YtkfkdakghjlenaaDoorPlSum
import Derived.Test.YtkfkdakghjlenaaDoorPlSha
import Derived.Test.YtkfkdakghjlenaaDoorPlTag
import Derived.Test.YtkfkdakghjlenaaDoorPlBits
import Derived.Test.YtkfkdakghjlenaaDoorPlShaSt
import Derived.Test.YtkfkdakghjlenaaDoorPlShaB
import Derived.Test.YtkfkdakghjlenaaDoorPlTrie
import Derived.Test.YtkfkdakghjlenaaDoorPlTrieSt
import Derived.Test.YtkfkdakghjlenaaDoorGxRec
import Derived.Test.YtkfkdakghjlenaaDoorGxYld
import Derived.Test.YtkfkdakghjlenaaDoorPlTrieFil
import Derived.Test.YtkfkdakghjlenaaDoorOnceC
import Derived.Test.YtkfkdakghjlenaaDoorPlTrieW
import Derived.Test.YtkfkdakghjlenaaDoorPlMulti
import Derived.Test.YtkfkdakghjlenaaDoorPlEncs
import Derived.Test.YtkfkdakghjlenaaDoorGxMark
import Derived.Test.YtkfkdakghjlenaaDoorPlTrieLaw
import Derived.Test.YtkfkdakghjlenaaDoorPlTrieAct
import Derived.Test.YtkfkdakghjlenaaDoorGxFun
import Derived.Test.YtkfkdakghjlenaaDoorGxPair
import Derived.Test.YtkfkdakghjlenaaDoorPlMany
import Derived.Test.YtkfkdakghjlenaaDoorGxCon
import Derived.Test.YtkfkdakghjlenaaDoorZr0
import Derived.Test.YtkfkdakghjlenaaDoorZr1
set_option linter.unusedVariables false
set_option linter.unusedSimpArgs false
namespace Go.Proofs.YtkfkdakghjlenaaDoor
open Go.RowKit Go.Gx
open Go.Plain
set_option maxHeartbeats 2000000 in
set_option maxRecDepth 20000 in
theorem prove_fork {w : World} {F Fm Fk : Nat → Prop} {Ao Am Ak : Option Addr} {lo co lm cm lk ck : Nat} {xs : List ND} {ks : List H8} {b : Nat} {x y : Tr} (IHx : ProveOK x) (IHy : ProveOK y) (hout : RI w F 115 eND Ao lo co xs) (hF : ∀ k, w.heap.size ≤ k → F k) (hF0 : ¬ F 0) (hm : SI w Fm eIT Am lm cm (Tr.items (Tr.fork b x y))) (hFm : ∀ k, k < w.heap.size → Fm k → ¬ F k) (hks : SI w Fk eH Ak lk ck ks) (hFk : ∀ k, k < w.heap.size → Fk k → ¬ F k) (hw : (Tr.fork b x y).WF) (hl : lm ≤ 1000000) (hlk : lk ≤ 1000000) (hlo : lo + 2 * (Tr.fork b x y).cnt ≤ 1000000000) (hrnd : Sl w (fun k => k = 0) u32v (some ⟨0, 0, none⟩) 64 64 rk) (hk0 : ks ≠ []) :
    Calls Tryd.prog 70 #[.slice Ao lo co, .slice Am lm cm, .slice Ak lk ck] w fun e w' => ∃ A l c, e = .returned (.slice A l c) ∧ RI w' F 115 eND A l c (xs ++ ((Tr.fork b x y).prv ks).nodes) ∧ Ch F w w' := by
  have hn0 : 0 < w.heap.size := hrnd.size (by omega) rfl
  have hn1 := hn0
  have hml := hm.len
  have hkl := hks.len
  have hol := hout.len
  have hm := hm.mono (G := fun k => k < w.heap.size ∧ ¬ F k) (fun k hk h => ⟨hk, hFm k hk h⟩)
  have hks := hks.mono (G := fun k => k < w.heap.size ∧ ¬ F k) (fun k hk h => ⟨hk, hFk k hk h⟩)
  have hlk0 : lk ≠ 0 := by rw [← hkl]; exact fun e => hk0 (List.eq_nil_of_length_eq_zero e)
  obtain ⟨hc1, hc2, hc3⟩ := cut_fork hw
  have px := Tr.cnt_pos x
  have py := Tr.cnt_pos y
  simp only [Tr.cnt] at hlo
  have hout := hout.mono (G := fun k => F k ∧ k < w.heap.size) (fun k hk h => ⟨h, hk⟩)
  have HC : Ch F w w := Ch.refl _ _
  refine enter' (args := [.slice Ao lo co, .slice Am lm cm, .slice Ak lk ck]) (n := 81) Tryd.func70 rfl rfl rfl ?_
  refine wc_seq ?_
  refine wc_region ?_
  refine wl rfl rfl rfl (p_as rfl) ?_
  refine wl_nil ?_
  refine x_seq ?_
  refine wc_seq ?_
  refine wc_block ?_
  refine wc_seq ?_
  refine wc_region ?_
  refine wl rfl rfl rfl (p_mv rfl) ?_
  refine wl rfl rfl rfl (p_lenS Tryd.underlying23 rfl) ?_
  refine wl rfl rfl rfl (p_eq rfl rfl) ?_
  refine wl rfl rfl rfl (p_as rfl) ?_
  refine wl_nil ?_
  refine x_seq ?_
  refine wc_no rfl (decide_eq_false (by omega)) ?_
  refine wc_seq ?_
  refine wc_region ?_
  refine wl rfl rfl rfl (p_mv rfl) ?_
  refine wl rfl rfl rfl (p_lenS Tryd.underlying118 rfl) ?_
  refine wl rfl rfl rfl (p_eq rfl rfl) ?_
  refine wl rfl rfl rfl (p_as rfl) ?_
  refine wl_nil ?_
  refine x_seq ?_
  refine wc_no rfl (decide_eq_false (by omega)) ?_
  refine wc_skip ?_
  refine x_in_normal ?_
  refine x_seq ?_
  refine wc_seq ?_
  refine wc_region ?_
  refine wl rfl rfl rfl (p_mv rfl) ?_
  refine wle rfl (e_call ent100 rfl rfl (mcut_any (hm) hw (by omega)) ?_)
  rintro _ w1 ⟨rfl, hc⟩
  refine ⟨_, rfl, ?_⟩
  have hzw1 := hc.size
  have HC := HC.tr hc
  have hout := hout.after hc
  have hm := hm.no hc
  have hks := hks.no hc
  have hrnd := hrnd.no hc
  refine wl rfl rfl rfl (p_mv rfl) ?_
  refine wl rfl rfl rfl (p_ext rfl rfl) ?_
  refine wl rfl rfl rfl (p_ext rfl rfl) ?_
  refine wl rfl rfl rfl (p_as rfl) ?_
  refine wl rfl rfl rfl (p_as rfl) ?_
  refine wl_nil ?_
  refine x_seq ?_
  refine wc_seq ?_
  refine wc_region ?_
  refine wle rfl (e_alloc (cs := ([Value.slice none 0 0, Value.slice none 0 0] : List Value).toArray) rfl (by rfl) rfl (fun w2 g9 hg9 hb9 hc hsz9 => ?_))
  have hzw2 := hc.size
  have HC := HC.tr hc
  have hout := hout.after hc
  have hm := hm.no hc
  have hks := hks.no hc
  have hrnd := hrnd.no hc
  have hge9 : w.heap.size ≤ g9 := by have := HC.size; omega
  refine wl_nil ?_
  refine x_seq ?_
  refine wc_seq ?_
  refine wc_seq ?_
  refine wc_region ?_
  refine wl rfl rfl rfl (p_mv rfl) ?_
  refine wl rfl rfl rfl (p_lenS Tryd.underlying23 rfl) ?_
  refine wl rfl rfl rfl (p_mv rfl) ?_
  refine wl_nil ?_
  refine x_seq ?_
  refine wc_block ?_
  obtain ⟨n9, hn9⟩ : ∃ z, z = w2.heap.size := ⟨_, rfl⟩
  refine wc_loop (e' := [(0, .slice Ao lo co), (1, .slice Am lm cm), (7, i64 (b : Int)), (8, i64 (x.cnt : Int)), (9, .pointer (some ⟨g9, 0, none⟩)), (44, .slice Ak lk ck), (45, i64 (lk : Int)), (46, i64 ((0) : Int))]) (fun mz ez uz => ∃ i : Nat, ∃ A0 : Option Addr, ∃ l0 : Nat, ∃ c0 : Nat, ∃ A1 : Option Addr, ∃ l1 : Nat, ∃ c1 : Nat, mz = lk - i ∧ ez = [(0, .slice Ao lo co), (1, .slice Am lm cm), (7, i64 (b : Int)), (8, i64 (x.cnt : Int)), (9, .pointer (some ⟨g9, 0, none⟩)), (44, .slice Ak lk ck), (45, i64 (lk : Int)), (46, i64 (i : Int))] ∧ (i ≤ lk) ∧ (l0 ≤ i) ∧ (l1 ≤ i) ∧ (Blk uz g9 178 ([.slice A0 l0 c0, .slice A1 l1 c1] : List Value).toArray) ∧ (R2 uz n9 uz.heap.size 38 eH A0 l0 c0 ((ks.take i).filter (fun k => decide (bitN k b = 0))) A1 l1 c1 ((ks.take i).filter (fun k => decide (bitN k b = 1)))) ∧ (RI uz (fun k => F k ∧ k < w.heap.size) 115 eND Ao lo co xs) ∧ (SI uz (fun k => k < w.heap.size ∧ ¬ F k) eIT Am lm cm (Tr.items (.fork b x y))) ∧ (SI uz (fun k => k < w.heap.size ∧ ¬ F k) eH Ak lk ck ks) ∧ (Sl uz (fun k => k = 0) u32v (some ⟨0, 0, none⟩) 64 64 rk) ∧ (w.heap.size ≤ g9 ∧ g9 < n9 ∧ n9 ≤ uz.heap.size) ∧ (Ch F w uz))
   ⟨rfl, rfl, rfl, rfl, rfl, rfl, rfl, rfl, trivial⟩ ⟨0, none, 0, 0, none, 0, 0, rfl, rfl, (by omega), (by omega), (by omega), hb9, R2.nil _ _ _ _ _, (hout.mono (fun k hk h => ⟨by first | exact h.1 | exact h.1.1 | exact h.1.1.1 | exact h.1.1.1.1 | exact h.1.1.1.1.1, by first | exact h.2 | exact h.1.2 | exact h.1.1.2 | exact h.1.1.1.2 | exact h.1.1.1.1.2 | exact h.1.1.1.1.1.2⟩)), hm, hks, hrnd, (by omega), HC⟩ ?_
  rintro m0 e w3 ⟨i, A0, l0, c0, A1, l1, c1, hm0, rfl, hi, hl0, hl1, hb9, hR2, hout, hm, hks, hrnd, hg9n, HC⟩
  have hzw3 := HC.size
  obtain ⟨m9, hm9⟩ : ∃ z, z = w3.heap.size := ⟨_, rfl⟩
  rw [← hm9] at hR2
  refine wc_seq ?_
  refine wc_region ?_
  refine wl rfl rfl rfl (p_lt rfl rfl) ?_
  refine wl_nil ?_
  refine x_seq ?_
  refine wc_seq ?_
  refine wc_if rfl (fun c2 => ?_) (fun c2 => ?_)
  ·
   have c2 := of_decide_eq_true c2
   refine wc_skip ?_
   refine x_seq ?_
   refine wc_seq ?_
   refine wc_block ?_
   refine wc_seq ?_
   refine wc_region ?_
   obtain ⟨b4, o4, hA4, hF4, hr4⟩ := (hks).opn (i := i) (d := zeroH) (by omega)
   have hok4 := (hks).okAt (i := i) (d := zeroH) (by omega)
   obtain ⟨x4, ex4⟩ : ∃ x_, x_ = List.getD ks (i) zeroH := ⟨_, rfl⟩
   rw [← ex4] at hr4 hok4
   have hx4k : List.length x4 = 32 := hok4
   have hr4 : w3.rangeAt b4 (o4 + i * 32) ((List.map u8v x4) : List Value) := hr4
   refine wl rfl rfl rfl (p_ixS (j := i * 32) Tryd.underlying23 sz38 rfl hA4 rfl (by omega) (by omega) (congrArg (· * 32) (Int.toNat_natCast _))) ?_
   refine wl rfl rfl rfl (p_ldA (cs := ((List.map u8v x4) : List Value)) Tryd.underlying38 rfl (szL sz38 (by first | rfl | (simp only [List.length_append, List.length_map, List.length_cons, List.length_nil, (show List.length x4 = 32 from hx4k)]; done) | (simp only [List.length_append, List.length_map, List.length_cons, List.length_nil, List.size_toArray, (show List.length x4 = 32 from hx4k)]; done))) rfl (fun _ e => e ▸ hr4)) ?_
   have hltg9 := hb9.lt
   refine wle rfl (e_alloc (cs := ((List.replicate 32 (0 : UInt8)).map u8v).toArray) rfl (by rfl) rfl (fun w5 g11 hg11 hb11 hc hsz11 => ?_))
   have hzw5 := hc.size
   have HC := HC.tr hc
   have hout := hout.after hc
   have hm := hm.no hc
   have hks := hks.no hc
   have hrnd := hrnd.no hc
   have hb9 := hb9.ch hc (fun h => h)
   first | have hR2 := hR2.no hc | have hR2 := hR2.ch hc (by intro k h1 h2 ht; first | omega | (dsimp only at *; omega))
   have hge11 : w.heap.size ≤ g11 := by have := HC.size; omega
   have neg9_11 : g9 < g11 := by omega
   refine wle rfl (e_stH sz38 (List.length_replicate ..) hx4k rfl rfl hb11 (fun w6 hb11 hc hsz => ?_))
   have hzw6 := hc.size
   have HC := HC.trans hc (fun _ _ h => h) (fun k hk ht => absurd ht (by omega))
   have hout := hout.ch hc (by intro k hz hk ht; omega)
   have hm := hm.ch hc (by intro k hk ht; have h1 := hk.1; omega)
   have hks := hks.ch hc (by intro k hk ht; have h1 := hk.1; omega)
   have hrnd := hrnd.ch hc (by intro k hk ht; omega)
   have hb9 := hb9.ch hc (by omega)
   first | have hR2 := hR2.no hc | have hR2 := hR2.ch hc (by intro k h1 h2 ht; first | omega | (dsimp only at *; omega))
   refine wl_nil ?_
   refine x_seq ?_
   refine wc_seq ?_
   refine wc_region ?_
   refine wl rfl rfl rfl (p_ldH (L := x4) Tryd.underlying38 sz38 hx4k rfl (fun _ e => e ▸ rngL hb11)) ?_
   refine wl rfl rfl rfl (p_mv rfl) ?_
   refine wle rfl (e_call ent38 rfl rfl (bitS (n := b) (hx4k)) ?_)
   rintro _ w7 ⟨s52, rfl, hs52, hsl52, hc⟩
   refine ⟨_, rfl, ?_⟩
   have hzw7 := hc.size
   have HC := HC.tr hc
   have hout := hout.after hc
   have hm := hm.no hc
   have hks := hks.no hc
   have hrnd := hrnd.no hc
   have hb9 := hb9.ch hc (fun h => h)
   first | have hR2 := hR2.no hc | have hR2 := hR2.ch hc (by intro k h1 h2 ht; first | omega | (dsimp only at *; omega))
   have hb11 := hb11.ch hc (fun h => h)
   refine wl rfl rfl rfl (p_as rfl) ?_
   refine wl_nil ?_
   refine x_seq ?_
   obtain rfl | rfl : s52 = 0 ∨ s52 = 1 := by omega
   ·
    refine wc_draw (.st 0 0 (.st 1 0 (.st 2 0 (.st 3 1 (.st 4 1 (.st 5 2 (.st 6 3 (.st 7 0 (.st 8 3 .nil))))))))) 6 (by kernel_rfl) (by kernel_rfl) (by kernel_rfl) (by repeat (first | with_reducible exact pan_body | with_reducible apply pan_then | with_reducible apply pan_in)) (fun x => Ch No w7.drew x) (Ch.refl _ _) ?_
    obtain ⟨w8, ew8⟩ : ∃ x, x = w7.drew := ⟨_, rfl⟩
    rw [← ew8]
    have hc : Ch No w7 w8 := by rw [ew8]; exact Ch.drew _
    have hszw8 : w8.heap.size = w7.heap.size := by rw [ew8]; rfl
    clear ew8
    have hzw8 := hc.size
    have HC := HC.tr hc
    have hout := hout.no hc
    have hm := hm.no hc
    have hks := hks.no hc
    have hrnd := hrnd.no hc
    have hb9 := hb9.ch hc (fun h => h)
    first | have hR2 := hR2.no hc | have hR2 := hR2.ch hc (by intro k h1 h2 ht; first | omega | (dsimp only at *; omega))
    have hb11 := hb11.ch hc (fun h => h)
    have hS : Ch No w8 w8 := Ch.refl _ _
    refine ws_p rfl rfl rfl rfl (p_mv rfl) ?_
    refine ws_p rfl rfl rfl rfl (p_mv rfl) ?_
    refine ws_p rfl rfl rfl rfl (p_ixA (j := 0) Tryd.underlying178 sz23 rfl rfl (by omega) (by omega) rfl) ?_
    refine ws_h rfl rfl rfl rfl (p_ld Tryd.underlying23 rfl rfl (fun _ h => h.cell (fun h => h) (cell_at (p := []) (v := (.slice A0 l0 c0 : Value)) (r := ([.slice A1 l1 c1] : List Value)) hb9 (by simp only [List.append_assoc, List.cons_append, List.nil_append, List.append_nil]) (by first | rfl | (simp only [List.length_append, List.length_map, List.length_cons, List.length_nil]; done) | (simp only [List.length_append, List.length_map, List.length_cons, List.length_nil, List.size_toArray]; done))))) ?_
    refine ws_h rfl rfl rfl rfl (p_ldH (L := x4) Tryd.underlying38 sz38 hx4k rfl (fun _ h => rngL (hb11.ch h (fun h => h)))) ?_
    have hltg9 := hb9.lt
    have hltg11 := hb11.lt
    refine ws_e rfl rfl (e_bslX (E := 38) (cs := ((List.map u8v x4) : List Value)) (cs' := ((hx x4) : List Value)) rfl rfl (by simp only [hv, map_hx hx4k] <;> rfl) (fun _ => by kernel_rfl) (fun w10 g58 hg58 hb58 hc hsz58 => ⟨hc, ?_⟩))
    have hzw10 := hc.size
    have HC := HC.tr hc
    have hout := hout.after hc
    have hm := hm.no hc
    have hks := hks.no hc
    have hrnd := hrnd.no hc
    have hb9 := hb9.ch hc (fun h => h)
    first | have hR2 := hR2.no hc | have hR2 := hR2.ch hc (by intro k h1 h2 ht; first | omega | (dsimp only at *; omega))
    have hb11 := hb11.ch hc (fun h => h)
    have hge58 : w.heap.size ≤ g58 := by have := HC.size; omega
    have hS58 := SI.oneA (E := eH) (x := x4) hb58 rfl hx4k
    refine ws_narrow (S' := fun x => Ch No w10 x) (Ch.refl _ _) (fun x h => hc.tr h) ?_
    refine ws_l rfl rfl (e_app2 rfl el23 rfl rfl hR2 (hS58) (by omega) (by omega) (by omega) (fun w11 A59 c59 hR2 hc => ?_))
    have hzw11 := hc.size
    have HC := HC.trans hc (fun _ _ h => h) (fun k hk ht => (by first | exact ht | (exfalso; omega) | ((try simp only [and_assoc] at ht); exact ht.1)))
    have hout := hout.afterT hc (by intro k hz hk ht; omega)
    have hm := hm.ch hc (by intro k hk ht; first | exact hk.2 ht | (have h1 := hk.1; omega) | ((try simp only [and_assoc] at ht); exact hk.2 ht.1))
    have hks := hks.ch hc (by intro k hk ht; first | exact hk.2 ht | (have h1 := hk.1; omega) | ((try simp only [and_assoc] at ht); exact hk.2 ht.1))
    have hrnd := hrnd.ch hc (by rintro k rfl ht; first | omega | exact hF0 ht | ((try simp only [and_assoc] at ht); exact hF0 ht.1))
    have hb9 := hb9.ch hc (by omega)
    have hb11 := hb11.ch hc (by omega)
    refine ws_p rfl rfl rfl rfl (p_ixA (j := 0) Tryd.underlying178 sz23 rfl rfl (by omega) (by omega) rfl) ?_
    refine ws_l rfl rfl (e_stC (p := []) (u := (.slice A0 l0 c0 : Value)) (r := ([.slice A1 l1 c1] : List Value)) (v := .slice A59 (l0 + 1) c59) (by rfl) rfl rfl rfl hb9 (by simp only [List.append_assoc, List.cons_append, List.nil_append, List.append_nil]) (by first | rfl | (simp only [List.length_append, List.length_map, List.length_cons, List.length_nil]; done) | (simp only [List.length_append, List.length_map, List.length_cons, List.length_nil, List.size_toArray]; done)) (fun w13 hb9 hc hsz => ?_))
    have hb9 : Blk w13 g9 178 ([.slice A59 (l0 + 1) c59, .slice A1 l1 c1] : List Value).toArray := by have h := hb9; simp only [List.append_assoc, List.cons_append, List.nil_append, List.append_nil] at h ⊢; exact h
    have hzw13 := hc.size
    have HC := HC.trans hc (fun _ _ h => h) (fun k hk ht => absurd ht (by omega))
    have hout := hout.ch hc (by intro k hz hk ht; omega)
    have hm := hm.ch hc (by intro k hk ht; have h1 := hk.1; omega)
    have hks := hks.ch hc (by intro k hk ht; have h1 := hk.1; omega)
    have hrnd := hrnd.ch hc (by intro k hk ht; omega)
    first | have hR2 := hR2.no hc | have hR2 := hR2.ch hc (by intro k h1 h2 ht; first | omega | (dsimp only at *; omega))
    have hb11 := hb11.ch hc (by omega)
    refine ws_n ?_
    refine x_in_normal ?_
    refine x_seq ?_
    refine wc_region ?_
    refine wl rfl rfl rfl (p_add rfl rfl (w64 (by omega))) ?_
    refine wl rfl rfl rfl (p_mv rfl) ?_
    refine wl_nil ?_
    refine x_round (e' := [(0, .slice Ao lo co), (1, .slice Am lm cm), (7, i64 (b : Int)), (8, i64 (x.cnt : Int)), (9, .pointer (some ⟨g9, 0, none⟩)), (44, .slice Ak lk ck), (45, i64 (lk : Int)), (46, i64 ((i + 1) : Int))]) ⟨rfl, rfl, rfl, rfl, rfl, rfl, rfl, rfl, trivial⟩ (by rw [hm0]; omega) ⟨i + 1, A59, l0 + 1, c59, A1, l1, c1, rfl, rfl, (by omega), (by omega), (by omega), hb9, (by rw [filt_yes (p := (fun k => decide (bitN k b = 0))) (d := zeroH) (by omega) (by rw [← ex4, hs52]; rfl), filt_no (p := (fun k => decide (bitN k b = 1))) (d := zeroH) (by omega) (by rw [← ex4, hs52]; rfl), ← ex4]; exact hR2.up (by omega)), (hout.mono (fun k hk h => ⟨by first | exact h.1 | exact h.1.1 | exact h.1.1.1 | exact h.1.1.1.1 | exact h.1.1.1.1.1 | exact h.1.1.1.1.1.1 | exact h.1.1.1.1.1.1.1 | exact h.1.1.1.1.1.1.1.1, by first | exact h.2 | exact h.1.2 | exact h.1.1.2 | exact h.1.1.1.2 | exact h.1.1.1.1.2 | exact h.1.1.1.1.1.2 | exact h.1.1.1.1.1.1.2 | exact h.1.1.1.1.1.1.1.2 | exact h.1.1.1.1.1.1.1.1.2⟩)), hm, hks, hrnd, (by omega), HC⟩
   ·
    refine wc_draw (.st 0 0 (.st 1 0 (.st 2 0 (.st 3 1 (.st 4 1 (.st 5 2 (.st 6 3 (.st 7 0 (.st 8 3 .nil))))))))) 6 (by kernel_rfl) (by kernel_rfl) (by kernel_rfl) (by repeat (first | with_reducible exact pan_body | with_reducible apply pan_then | with_reducible apply pan_in)) (fun x => Ch No w7.drew x) (Ch.refl _ _) ?_
    obtain ⟨w14, ew14⟩ : ∃ x, x = w7.drew := ⟨_, rfl⟩
    rw [← ew14]
    have hc : Ch No w7 w14 := by rw [ew14]; exact Ch.drew _
    have hszw14 : w14.heap.size = w7.heap.size := by rw [ew14]; rfl
    clear ew14
    have hzw14 := hc.size
    have HC := HC.tr hc
    have hout := hout.no hc
    have hm := hm.no hc
    have hks := hks.no hc
    have hrnd := hrnd.no hc
    have hb9 := hb9.ch hc (fun h => h)
    first | have hR2 := hR2.no hc | have hR2 := hR2.ch hc (by intro k h1 h2 ht; first | omega | (dsimp only at *; omega))
    have hb11 := hb11.ch hc (fun h => h)
    have hS : Ch No w14 w14 := Ch.refl _ _
    refine ws_p rfl rfl rfl rfl (p_mv rfl) ?_
    refine ws_p rfl rfl rfl rfl (p_mv rfl) ?_
    refine ws_p rfl rfl rfl rfl (p_ixA (j := 1) Tryd.underlying178 sz23 rfl rfl (by omega) (by omega) rfl) ?_
    refine ws_h rfl rfl rfl rfl (p_ld Tryd.underlying23 rfl rfl (fun _ h => h.cell (fun h => h) (cell_at (p := ([.slice A0 l0 c0] : List Value)) (v := (.slice A1 l1 c1 : Value)) (r := []) hb9 (by simp only [List.append_assoc, List.cons_append, List.nil_append, List.append_nil]) (by first | rfl | (simp only [List.length_append, List.length_map, List.length_cons, List.length_nil]; done) | (simp only [List.length_append, List.length_map, List.length_cons, List.length_nil, List.size_toArray]; done))))) ?_
    refine ws_h rfl rfl rfl rfl (p_ldH (L := x4) Tryd.underlying38 sz38 hx4k rfl (fun _ h => rngL (hb11.ch h (fun h => h)))) ?_
    have hltg9 := hb9.lt
    have hltg11 := hb11.lt
    refine ws_e rfl rfl (e_bslX (E := 38) (cs := ((List.map u8v x4) : List Value)) (cs' := ((hx x4) : List Value)) rfl rfl (by simp only [hv, map_hx hx4k] <;> rfl) (fun _ => by kernel_rfl) (fun w16 g58 hg58 hb58 hc hsz58 => ⟨hc, ?_⟩))
    have hzw16 := hc.size
    have HC := HC.tr hc
    have hout := hout.after hc
    have hm := hm.no hc
    have hks := hks.no hc
    have hrnd := hrnd.no hc
    have hb9 := hb9.ch hc (fun h => h)
    first | have hR2 := hR2.no hc | have hR2 := hR2.ch hc (by intro k h1 h2 ht; first | omega | (dsimp only at *; omega))
    have hb11 := hb11.ch hc (fun h => h)
    have hge58 : w.heap.size ≤ g58 := by have := HC.size; omega
    have hS58 := SI.oneA (E := eH) (x := x4) hb58 rfl hx4k
    refine ws_narrow (S' := fun x => Ch No w16 x) (Ch.refl _ _) (fun x h => hc.tr h) ?_
    refine ws_l rfl rfl (e_app2b rfl el23 rfl rfl hR2 (hS58) (by omega) (by omega) (by omega) (fun w17 A59 c59 hR2 hc => ?_))
    have hzw17 := hc.size
    have HC := HC.trans hc (fun _ _ h => h) (fun k hk ht => (by first | exact ht | (exfalso; omega) | ((try simp only [and_assoc] at ht); exact ht.1)))
    have hout := hout.afterT hc (by intro k hz hk ht; omega)
    have hm := hm.ch hc (by intro k hk ht; first | exact hk.2 ht | (have h1 := hk.1; omega) | ((try simp only [and_assoc] at ht); exact hk.2 ht.1))
    have hks := hks.ch hc (by intro k hk ht; first | exact hk.2 ht | (have h1 := hk.1; omega) | ((try simp only [and_assoc] at ht); exact hk.2 ht.1))
    have hrnd := hrnd.ch hc (by rintro k rfl ht; first | omega | exact hF0 ht | ((try simp only [and_assoc] at ht); exact hF0 ht.1))
    have hb9 := hb9.ch hc (by omega)
    have hb11 := hb11.ch hc (by omega)
    refine ws_p rfl rfl rfl rfl (p_ixA (j := 1) Tryd.underlying178 sz23 rfl rfl (by omega) (by omega) rfl) ?_
    refine ws_l rfl rfl (e_stC (p := ([.slice A0 l0 c0] : List Value)) (u := (.slice A1 l1 c1 : Value)) (r := []) (v := .slice A59 (l1 + 1) c59) (by rfl) rfl rfl rfl hb9 (by simp only [List.append_assoc, List.cons_append, List.nil_append, List.append_nil]) (by first | rfl | (simp only [List.length_append, List.length_map, List.length_cons, List.length_nil]; done) | (simp only [List.length_append, List.length_map, List.length_cons, List.length_nil, List.size_toArray]; done)) (fun w19 hb9 hc hsz => ?_))
    have hb9 : Blk w19 g9 178 ([.slice A0 l0 c0, .slice A59 (l1 + 1) c59] : List Value).toArray := by have h := hb9; simp only [List.append_assoc, List.cons_append, List.nil_append, List.append_nil] at h ⊢; exact h
    have hzw19 := hc.size
    have HC := HC.trans hc (fun _ _ h => h) (fun k hk ht => absurd ht (by omega))
    have hout := hout.ch hc (by intro k hz hk ht; omega)
    have hm := hm.ch hc (by intro k hk ht; have h1 := hk.1; omega)
    have hks := hks.ch hc (by intro k hk ht; have h1 := hk.1; omega)
    have hrnd := hrnd.ch hc (by intro k hk ht; omega)
    first | have hR2 := hR2.no hc | have hR2 := hR2.ch hc (by intro k h1 h2 ht; first | omega | (dsimp only at *; omega))
    have hb11 := hb11.ch hc (by omega)
    refine ws_n ?_
    refine x_in_normal ?_
    refine x_seq ?_
    refine wc_region ?_
    refine wl rfl rfl rfl (p_add rfl rfl (w64 (by omega))) ?_
    refine wl rfl rfl rfl (p_mv rfl) ?_
    refine wl_nil ?_
    refine x_round (e' := [(0, .slice Ao lo co), (1, .slice Am lm cm), (7, i64 (b : Int)), (8, i64 (x.cnt : Int)), (9, .pointer (some ⟨g9, 0, none⟩)), (44, .slice Ak lk ck), (45, i64 (lk : Int)), (46, i64 ((i + 1) : Int))]) ⟨rfl, rfl, rfl, rfl, rfl, rfl, rfl, rfl, trivial⟩ (by rw [hm0]; omega) ⟨i + 1, A0, l0, c0, A59, l1 + 1, c59, rfl, rfl, (by omega), (by omega), (by omega), hb9, (by rw [filt_no (p := (fun k => decide (bitN k b = 0))) (d := zeroH) (by omega) (by rw [← ex4, hs52]; rfl), filt_yes (p := (fun k => decide (bitN k b = 1))) (d := zeroH) (by omega) (by rw [← ex4, hs52]; rfl), ← ex4]; exact hR2.up (by omega)), (hout.mono (fun k hk h => ⟨by first | exact h.1 | exact h.1.1 | exact h.1.1.1 | exact h.1.1.1.1 | exact h.1.1.1.1.1 | exact h.1.1.1.1.1.1 | exact h.1.1.1.1.1.1.1 | exact h.1.1.1.1.1.1.1.1, by first | exact h.2 | exact h.1.2 | exact h.1.1.2 | exact h.1.1.1.2 | exact h.1.1.1.1.2 | exact h.1.1.1.1.1.2 | exact h.1.1.1.1.1.1.2 | exact h.1.1.1.1.1.1.1.2 | exact h.1.1.1.1.1.1.1.1.2⟩)), hm, hks, hrnd, (by omega), HC⟩
  ·
   have c2 := of_decide_eq_false c2
   rw [List.take_of_length_le (by omega)] at hR2
   have hS0 := hR2.fst.si
   have hS1 := hR2.snd.si
   have hs0l := hS0.len
   have hs1l := hS1.len
   have hspl := Tr.split_len ks b
   refine wc_exit ?_
   refine x_then_exit ?_
   refine x_then_exit ?_
   refine x_in_here ?_
   refine x_seq ?_
   refine wc_seq ?_
   refine wc_region ?_
   refine wl rfl rfl rfl (p_mv rfl) ?_
   refine wl rfl rfl rfl (p_mv rfl) ?_
   refine wl rfl rfl rfl (p_bldX (vs' := [.int .i64 (4), i64 (b : Int)]) (cs := (([.int .i64 (4), i64 (b : Int)] ++ ((List.map u8v (List.replicate 32 (0 : UInt8))) ++ (List.map u8v (List.replicate 32 (0 : UInt8))))) : List Value)) (cs' := (([.int .i64 (4), i64 (b : Int)] ++ ((hx (List.replicate 32 (0 : UInt8))) ++ (hx (List.replicate 32 (0 : UInt8))))) : List Value)) rfl rfl (by simp only [hv, map_hx (List.length_replicate ..)] <;> rfl) (fun _ => by kernel_rfl)) ?_
   have hltg9 := hb9.lt
   refine wle rfl (e_bslX (E := 115) (cs := (([.int .i64 (4), i64 (b : Int)] ++ ((List.map u8v (List.replicate 32 (0 : UInt8))) ++ (List.map u8v (List.replicate 32 (0 : UInt8))))) : List Value)) (cs' := (([.int .i64 (4), i64 (b : Int)] ++ ((hx (List.replicate 32 (0 : UInt8))) ++ (hx (List.replicate 32 (0 : UInt8))))) : List Value)) rfl rfl (by simp only [hv, map_hx (List.length_replicate ..)] <;> rfl) (fun _ => by kernel_rfl) (fun w20 g65 hg65 hb65 hc hsz65 => ?_))
   have hzw20 := hc.size
   have HC := HC.tr hc
   have hout := hout.after hc
   have hm := hm.no hc
   have hks := hks.no hc
   have hrnd := hrnd.no hc
   have hb9 := hb9.ch hc (fun h => h)
   have hS0 := hS0.no hc
   have hS1 := hS1.no hc
   have hge65 : w.heap.size ≤ g65 := by have := HC.size; omega
   have hS65 := SI.oneA (E := eND) (x := ⟨(4), (b : Int), (List.replicate 32 (0 : UInt8)), (List.replicate 32 (0 : UInt8))⟩) hb65 rfl ⟨(List.length_replicate ..), (List.length_replicate ..)⟩
   obtain ⟨n13, hn13⟩ : ∃ z, z = w20.heap.size := ⟨_, rfl⟩
   have hout := hout.mono (G := fun k => F k ∧ (k < w.heap.size ∨ n13 ≤ k)) (fun k hk h => ⟨by first | exact h.1 | exact h.1.1 | exact h.1.1.1 | exact h.1.1.1.1 | exact h.1.1.1.1.1 | exact h.1.1.1.1.1.1, by have h9 := h.1; omega⟩)
   have hltg9 := hb9.lt
   refine wle rfl (e_appI rfl el33 rfl rfl hout (hS65) (by omega) (by intro k hk; have hF1 := hF k (by omega); repeat (first | exact hF1 | (refine ⟨?_, by omega⟩))) (fun w21 A66 c66 hout hc => ?_))
   have hzw21 := hc.size
   have HC := HC.trans hc (fun _ _ h => h) (fun k hk ht => (by first | exact ht | (exfalso; omega) | ((try simp only [and_assoc] at ht); exact ht.1)))
   have hm := hm.ch hc (by intro k hk ht; first | exact hk.2 ht | (have h1 := hk.1; omega) | ((try simp only [and_assoc] at ht); exact hk.2 ht.1))
   have hks := hks.ch hc (by intro k hk ht; first | exact hk.2 ht | (have h1 := hk.1; omega) | ((try simp only [and_assoc] at ht); exact hk.2 ht.1))
   have hrnd := hrnd.ch hc (by rintro k rfl ht; first | omega | exact hF0 ht | ((try simp only [and_assoc] at ht); exact hF0 ht.1))
   have hb9 := hb9.ch hc (by omega)
   first | have hS0 := hS0.ch hc (by intro k hk ht; omega) | have hS0 := hS0.chT hc (by intro k hz hk ht; omega)
   first | have hS1 := hS1.ch hc (by intro k hk ht; omega) | have hS1 := hS1.chT hc (by intro k hz hk ht; omega)
   first | have hS65 := hS65.ch hc (by intro k hk ht; omega) | have hS65 := hS65.chT hc (by intro k hz hk ht; omega)
   refine wl rfl rfl rfl (p_as rfl) ?_
   refine wl_nil ?_
   refine x_seq ?_
   refine wc_seq ?_
   refine wc_draw (.st 0 0 (.st 1 0 (.st 2 0 (.st 3 0 (.st 4 0 (.st 5 1 (.st 6 3 (.st 7 0 .nil)))))))) 6 (by kernel_rfl) (by kernel_rfl) (by kernel_rfl) (by repeat (first | with_reducible exact pan_body | with_reducible apply pan_then | with_reducible apply pan_in)) (fun x => Ch No w21.drew x) (Ch.refl _ _) ?_
   obtain ⟨w22, ew22⟩ : ∃ x, x = w21.drew := ⟨_, rfl⟩
   rw [← ew22]
   have hc : Ch No w21 w22 := by rw [ew22]; exact Ch.drew _
   have hszw22 : w22.heap.size = w21.heap.size := by rw [ew22]; rfl
   clear ew22
   have hzw22 := hc.size
   have HC := HC.tr hc
   have hout := hout.no hc
   have hm := hm.no hc
   have hks := hks.no hc
   have hrnd := hrnd.no hc
   have hb9 := hb9.ch hc (fun h => h)
   have hS0 := hS0.no hc
   have hS1 := hS1.no hc
   have hS65 := hS65.no hc
   have hS : Ch No w22 w22 := Ch.refl _ _
   refine ws_p rfl rfl rfl rfl (p_mv rfl) ?_
   refine ws_p rfl rfl rfl rfl (p_mv rfl) ?_
   refine ws_p rfl rfl rfl rfl (p_mv rfl) ?_
   have hS70 : SI w22 (fun k => k < w.heap.size ∧ ¬ F k) eIT (cutA Am cm 0 64) x.cnt (cm - 0) (Tr.items x) := by have h := hm.cut (lo := 0) (hi := x.cnt) (q := x.cnt) (by omega) (by omega) (by omega); rw [List.drop_zero, fork_take] at h; exact h
   refine ws_p rfl rfl rfl rfl (p_slS (l := 0) (h := x.cnt) Tryd.underlying118 sz174 rfl rfl ⟨_, rfl⟩ (by omega) (by have := hm.cap; omega) hm.cap (q := x.cnt) (by omega)) ?_
   refine ws_p rfl rfl rfl rfl (p_ixA (j := 0) Tryd.underlying178 sz23 rfl rfl (by omega) (by omega) rfl) ?_
   refine ws_h rfl rfl rfl rfl (p_ld Tryd.underlying23 rfl rfl (fun _ h => h.cell (fun h => h) (cell_at (p := []) (v := (.slice A0 l0 c0 : Value)) (r := ([.slice A1 l1 c1] : List Value)) hb9 (by simp only [List.append_assoc, List.cons_append, List.nil_append, List.append_nil]) (by first | rfl | (simp only [List.length_append, List.length_map, List.length_cons, List.length_nil]; done) | (simp only [List.length_append, List.length_map, List.length_cons, List.length_nil, List.size_toArray]; done))))) ?_
   have hout := hout.mono (G := fun k => F k ∧ (k < w.heap.size ∨ n13 ≤ k)) (fun k hk h => ⟨by first | exact h.1 | exact h.1.1 | exact h.1.1.1 | exact h.1.1.1.1 | exact h.1.1.1.1.1 | exact h.1.1.1.1.1.1, by omega⟩)
   refine ws_l rfl rfl (e_call ent70 rfl rfl (IHx hout (fun k hk => ⟨hF k (by omega), by omega⟩) (fun h => hF0 h.1) hS70 (fun k _ h1 h2 => h1.2 h2.1) hS0 (fun k _ h1 h2 => by have h3 := h2.2; have h4 := h1.1; have h5 := h1.2; omega) hw.2.1 (by omega) (by omega) (by omega) hrnd) ?_)
   rintro _ w24 ⟨A73, l73, c73, rfl, hout, hc⟩
   refine ⟨_, rfl, ?_⟩
   have hzw24 := hc.size
   have HC := HC.trans hc (fun _ _ h => h) (fun k hk ht => (by first | exact ht | (exfalso; omega) | ((try simp only [and_assoc] at ht); exact ht.1)))
   have hm := hm.ch hc (by intro k hk ht; first | exact hk.2 ht | (have h1 := hk.1; omega) | ((try simp only [and_assoc] at ht); exact hk.2 ht.1))
   have hks := hks.ch hc (by intro k hk ht; first | exact hk.2 ht | (have h1 := hk.1; omega) | ((try simp only [and_assoc] at ht); exact hk.2 ht.1))
   have hrnd := hrnd.ch hc (by rintro k rfl ht; first | omega | exact hF0 ht | ((try simp only [and_assoc] at ht); exact hF0 ht.1))
   have hb9 := hb9.ch hc (by omega)
   first | have hS0 := hS0.ch hc (by intro k hk ht; omega) | have hS0 := hS0.chT hc (by intro k hz hk ht; omega)
   first | have hS1 := hS1.ch hc (by intro k hk ht; omega) | have hS1 := hS1.chT hc (by intro k hz hk ht; omega)
   first | have hS65 := hS65.ch hc (by intro k hk ht; omega) | have hS65 := hS65.chT hc (by intro k hz hk ht; omega)
   have hS70 := hS70.ch hc (by intro k hk ht; first | exact hk.2 ht | (have h1 := hk.1; omega) | ((try simp only [and_assoc] at ht); exact hk.2 ht.1))
   have hol73 := hout.len
   have hpn73 := Tr.prv_nodes (t := x) (ks := ks.filter (fun k => decide (bitN k b = 0)))
   simp only [List.length_append, List.length_singleton] at hol73
   have hcx73 := Tr.cnt_pos x
   refine ws_p rfl rfl rfl rfl (p_as rfl) ?_
   refine ws_n ?_
   refine x_seq ?_
   refine wc_seq ?_
   refine wc_draw (.st 0 0 (.st 1 0 (.st 2 0 (.st 3 0 (.st 4 0 (.st 5 1 (.st 6 3 (.st 7 0 .nil)))))))) 6 (by kernel_rfl) (by kernel_rfl) (by kernel_rfl) (by repeat (first | with_reducible exact pan_body | with_reducible apply pan_then | with_reducible apply pan_in)) (fun x => Ch No w24.drew x) (Ch.refl _ _) ?_
   obtain ⟨w25, ew25⟩ : ∃ x, x = w24.drew := ⟨_, rfl⟩
   rw [← ew25]
   have hc : Ch No w24 w25 := by rw [ew25]; exact Ch.drew _
   have hszw25 : w25.heap.size = w24.heap.size := by rw [ew25]; rfl
   clear ew25
   have hzw25 := hc.size
   have HC := HC.tr hc
   have hout := hout.no hc
   have hm := hm.no hc
   have hks := hks.no hc
   have hrnd := hrnd.no hc
   have hb9 := hb9.ch hc (fun h => h)
   have hS0 := hS0.no hc
   have hS1 := hS1.no hc
   have hS65 := hS65.no hc
   have hS70 := hS70.no hc
   have hS : Ch No w25 w25 := Ch.refl _ _
   refine ws_p rfl rfl rfl rfl (p_mv rfl) ?_
   refine ws_p rfl rfl rfl rfl (p_mv rfl) ?_
   refine ws_p rfl rfl rfl rfl (p_mv rfl) ?_
   have hS77 : SI w25 (fun k => k < w.heap.size ∧ ¬ F k) eIT (cutA Am cm x.cnt 64) (lm - x.cnt) (cm - x.cnt) (Tr.items y) := by have h := hm.cutTo (lo := x.cnt) (by omega); rw [fork_drop] at h; exact h
   refine ws_p rfl rfl rfl rfl (p_slS (l := x.cnt) (h := lm) Tryd.underlying118 sz174 rfl ⟨_, rfl⟩ rfl (by omega) (by have := hm.cap; omega) hm.cap (q := lm - x.cnt) (by omega)) ?_
   refine ws_p rfl rfl rfl rfl (p_ixA (j := 1) Tryd.underlying178 sz23 rfl rfl (by omega) (by omega) rfl) ?_
   refine ws_h rfl rfl rfl rfl (p_ld Tryd.underlying23 rfl rfl (fun _ h => h.cell (fun h => h) (cell_at (p := ([.slice A0 l0 c0] : List Value)) (v := (.slice A1 l1 c1 : Value)) (r := []) hb9 (by simp only [List.append_assoc, List.cons_append, List.nil_append, List.append_nil]) (by first | rfl | (simp only [List.length_append, List.length_map, List.length_cons, List.length_nil]; done) | (simp only [List.length_append, List.length_map, List.length_cons, List.length_nil, List.size_toArray]; done))))) ?_
   have hout := hout.mono (G := fun k => F k ∧ (k < w.heap.size ∨ n13 ≤ k)) (fun k hk h => ⟨by first | exact h.1 | exact h.1.1 | exact h.1.1.1 | exact h.1.1.1.1 | exact h.1.1.1.1.1 | exact h.1.1.1.1.1.1, by omega⟩)
   refine ws_l rfl rfl (e_call ent70 rfl rfl (IHy hout (fun k hk => ⟨hF k (by omega), by omega⟩) (fun h => hF0 h.1) hS77 (fun k _ h1 h2 => h1.2 h2.1) hS1 (fun k _ h1 h2 => by have h3 := h2.2; have h4 := h1.1; have h5 := h1.2; omega) hw.2.2.1 (by omega) (by omega) (by omega) hrnd) ?_)
   rintro _ w27 ⟨A80, l80, c80, rfl, hout, hc⟩
   refine ⟨_, rfl, ?_⟩
   have hzw27 := hc.size
   have HC := HC.trans hc (fun _ _ h => h) (fun k hk ht => (by first | exact ht | (exfalso; omega) | ((try simp only [and_assoc] at ht); exact ht.1)))
   have hm := hm.ch hc (by intro k hk ht; first | exact hk.2 ht | (have h1 := hk.1; omega) | ((try simp only [and_assoc] at ht); exact hk.2 ht.1))
   have hks := hks.ch hc (by intro k hk ht; first | exact hk.2 ht | (have h1 := hk.1; omega) | ((try simp only [and_assoc] at ht); exact hk.2 ht.1))
   have hrnd := hrnd.ch hc (by rintro k rfl ht; first | omega | exact hF0 ht | ((try simp only [and_assoc] at ht); exact hF0 ht.1))
   have hb9 := hb9.ch hc (by omega)
   first | have hS0 := hS0.ch hc (by intro k hk ht; omega) | have hS0 := hS0.chT hc (by intro k hz hk ht; omega)
   first | have hS1 := hS1.ch hc (by intro k hk ht; omega) | have hS1 := hS1.chT hc (by intro k hz hk ht; omega)
   first | have hS65 := hS65.ch hc (by intro k hk ht; omega) | have hS65 := hS65.chT hc (by intro k hz hk ht; omega)
   have hS70 := hS70.ch hc (by intro k hk ht; first | exact hk.2 ht | (have h1 := hk.1; omega) | ((try simp only [and_assoc] at ht); exact hk.2 ht.1))
   have hS77 := hS77.ch hc (by intro k hk ht; first | exact hk.2 ht | (have h1 := hk.1; omega) | ((try simp only [and_assoc] at ht); exact hk.2 ht.1))
   have hol80 := hout.len
   have hpn80 := Tr.prv_nodes (t := y) (ks := ks.filter (fun k => decide (bitN k b = 1)))
   simp only [List.length_append, List.length_singleton] at hol80
   have hcx80 := Tr.cnt_pos y
   refine ws_p rfl rfl rfl rfl (p_as rfl) ?_
   refine ws_n ?_
   refine x_seq ?_
   refine wc_ret ?_
   refine fin_run ((res1 rfl rfl)) ?_
   have hpv : ((Tr.fork b x y).prv ks).nodes = ⟨4, (b : Int), zeroH, zeroH⟩ :: ((x.prv (ks.filter (fun k => decide (bitN k b = 0)))).nodes ++ (y.prv (ks.filter (fun k => decide (bitN k b = 1)))).nodes) := by rw [Tr.prv, if_neg hk0]; rfl
   rw [hpv]
   rw [List.append_assoc, List.append_assoc] at hout
   exact ⟨_, _, _, rfl, hout.mono (fun k hk h => by first | exact h | ((try simp only [and_assoc] at h); exact h.1)), HC⟩

theorem prove_any : ∀ t : Tr, ProveOK t
  | .leaf k v => by
    intro h1 h2 h3 h4 h5 h6 h7 h8 h9 h10 h11 h12
    rename_i w F Fm Fk Ao Am Ak lo co lm cm lk ck xs ks
    by_cases hk : ks = []
    · exact prove_nil h1 h2 h3 h4 h5 h6 h7 h8 h9 h10 h11 h12 hk
    · exact prove_leaf h1 h2 h3 h4 h5 h6 h7 h8 h9 h10 h11 h12 hk
  | .fork b x y => by
    intro h1 h2 h3 h4 h5 h6 h7 h8 h9 h10 h11 h12
    rename_i w F Fm Fk Ao Am Ak lo co lm cm lk ck xs ks
    by_cases hk : ks = []
    · exact prove_nil h1 h2 h3 h4 h5 h6 h7 h8 h9 h10 h11 h12 hk
    · exact prove_fork (prove_any x) (prove_any y) h1 h2 h3 h4 h5 h6 h7 h8 h9 h10 h11 h12 hk

set_option maxHeartbeats 1000000 in
set_option maxRecDepth 20000 in
theorem mprove27_some {w : World} {g : Nat} {t : LT} {Ak : Option Addr} {lk ck : Nat} {Fk : Nat → Prop} {ks : List H8} (hbg : Blk w g 41 [ndp t.adr, .bool true].toArray) (hXt : LAt 156 w t) (hwt : t.er.WF) (hcn : t.er.cnt ≤ 1000) (hks : SI w Fk eH Ak lk ck ks) (hlk : lk ≤ 1000000) (hrnd : Sl w (fun k => k = 0) u32v (some ⟨0, 0, none⟩) 64 64 rk) :
    Calls Tryd.prog 24 #[ndp g, .slice Ak lk ck] w fun e w' => ∃ A l c, e = .returned (.slice A l c) ∧ RI w' (fun k => w.heap.size ≤ k) 115 eND A l c (prvN (some t.er) ks) ∧ Ch No w w' := by
  have hn0 : 0 < w.heap.size := hrnd.size (by omega) rfl
  have hn1 := hn0
  have hltg := hbg.lt
  have htl := hXt.lt
  have hcp := Tr.cnt_pos t.er
  have hitl := Tr.items_cnt t.er
  have hcnt0 : cntT (eo (some t)) = t.er.cnt := rfl
  have hks := hks.old
  have HC : Ch No w w := Ch.refl _ _
  refine enter' (args := [ndp g, .slice Ak lk ck]) (n := 22) Tryd.func24 rfl rfl rfl ?_
  refine wc_seq ?_
  refine wc_region ?_
  refine wl rfl rfl rfl (p_as rfl) ?_
  refine wl_nil ?_
  refine x_seq ?_
  refine wc_seq ?_
  refine wc_seq ?_
  refine wc_region ?_
  refine wl rfl rfl rfl (p_mv rfl) ?_
  refine wl rfl rfl rfl (p_bldP (cs := ((List.replicate 32 (0 : UInt8)).map u8v).toArray) rfl (fun _ => by kernel_rfl)) ?_
  refine wl rfl rfl rfl (p_bldP (cs := ((List.replicate 32 (0 : UInt8)).map u8v).toArray) rfl (fun _ => by kernel_rfl)) ?_
  refine wle rfl (e_call ent44 rfl rfl (tput_made (F := fun _ => True) (TR.mk' trivial (o := some t) hbg (fun t2 e => by cases e; exact ⟨hXt, fun _ _ => trivial⟩)) (fun _ _ => trivial) ((List.length_replicate ..)) ((List.length_replicate ..)) (by omega)) ?_)
  rintro _ w1 ⟨_, t9, rfl, ⟨g9, rfl, _⟩, _, hc⟩
  refine ⟨_, rfl, ?_⟩
  have hzw1 := hc.size
  have HC := HC.tr hc
  have hbg := hbg.ch hc (fun h => h)
  have hXt := hXt.ch hc (by first | exact fun _ _ h => h | (intro a ha ht; have h2 := htl a ha; first | omega | (dsimp only at *; omega)))
  have hks := hks.no hc
  have hrnd := hrnd.no hc
  refine wl rfl rfl rfl (p_eqPN rfl rfl Tryd.underlying25) ?_
  refine wl_nil ?_
  refine x_seq ?_
  refine wc_no rfl (rfl) ?_
  refine wc_skip ?_
  refine x_seq ?_
  refine wc_seq ?_
  refine wc_region ?_
  refine wl rfl rfl rfl (p_mv rfl) ?_
  refine wle rfl (e_call ent69 rfl rfl (all_ptr (g := g)) ?_)
  rintro _ w2 ⟨gB, rfl, hgB, hBn, hc⟩
  refine ⟨_, rfl, ?_⟩
  have hzw2 := hc.size
  have HC := HC.tr hc
  have hbg := hbg.ch hc (fun h => h)
  have hXt := hXt.ch hc (by first | exact fun _ _ h => h | (intro a ha ht; have h2 := htl a ha; first | omega | (dsimp only at *; omega)))
  have hks := hks.no hc
  have hrnd := hrnd.no hc
  refine wle rfl (e_call ent68 rfl rfl (entries_some hBn hbg hXt hcn) ?_)
  rintro _ w3 ⟨A13, l13, c13, rfl, hE13, hc⟩
  refine ⟨_, rfl, ?_⟩
  have hzw3 := hc.size
  have HC := HC.tr hc
  have hbg := hbg.ch hc (fun h => h)
  have hXt := hXt.ch hc (by first | exact fun _ _ h => h | (intro a ha ht; have h2 := htl a ha; first | omega | (dsimp only at *; omega)))
  have hks := hks.no hc
  have hrnd := hrnd.no hc
  have hBn := hBn.ch hc (fun h => h)
  have hEl13 := hE13.len
  have hE13 := hE13.mono (G := fun k => w2.heap.size ≤ k ∧ k < w3.heap.size) (fun k h1 h2 => ⟨h2, h1⟩)
  refine wl rfl rfl rfl (p_as rfl) ?_
  refine wl_nil ?_
  refine x_seq ?_
  refine wc_seq ?_
  refine wc_seq ?_
  refine wc_region ?_
  refine wl rfl rfl rfl (p_mv rfl) ?_
  refine wl rfl rfl rfl (p_lenS Tryd.underlying118 rfl) ?_
  refine wl rfl rfl rfl (p_eq rfl rfl) ?_
  refine wl_nil ?_
  refine x_seq ?_
  refine wc_no rfl (decide_eq_false (by omega)) ?_
  refine wc_skip ?_
  refine x_seq ?_
  refine wc_seq ?_
  refine wc_region ?_
  refine wl rfl rfl rfl (p_mv rfl) ?_
  refine wl rfl rfl rfl (p_mv rfl) ?_
  refine wle rfl (e_call ent70 rfl rfl (prove_any t.er (F := fun k => w3.heap.size ≤ k) (RI.nil _ _ _ _) (fun k hk => hk) (by omega) hE13.si (fun k hk h1 h2 => by omega) hks (fun k hk h1 h2 => by omega) hwt (by omega) (by omega) (by omega) hrnd) ?_)
  rintro _ w4 ⟨A21, l21, c21, rfl, hP21, hc⟩
  refine ⟨_, rfl, ?_⟩
  have hzw4 := hc.size
  have HC := HC.trans hc (fun _ _ h => h) (fun k hk ht => absurd ht (by omega))
  have hbg := hbg.ch hc (by omega)
  have hXt := hXt.ch hc (by first | exact fun _ _ h => h | (intro a ha ht; have h2 := htl a ha; first | omega | (dsimp only at *; omega)))
  have hks := hks.ch hc (by intro k hk ht; omega)
  first | have hrnd := hrnd.ch hc (by intro k hk ht; omega) | have hrnd := hrnd.chT hc (by intro k hz hk ht; omega)
  have hBn := hBn.ch hc (by have h9 := hBn.lt; omega)
  have hE13 := hE13.afterT hc (by intro k hz hk ht; omega)
  have hP21 := hP21.mono (G := fun k => w3.heap.size ≤ k ∧ k < w4.heap.size) (fun k h1 h2 => ⟨h2, h1⟩)
  refine wl rfl rfl rfl (p_as rfl) ?_
  refine wl_nil ?_
  refine x_seq ?_
  refine wc_ret ?_
  refine fin_run ((res1 rfl rfl)) ?_
  exact ⟨_, _, _, rfl, hP21.mono (fun k _ h => by have := h.1; show w.heap.size ≤ k; omega), HC⟩

set_option maxHeartbeats 1000000 in
set_option maxRecDepth 20000 in
theorem mprove27_none {w : World} {g : Nat} {Ak : Option Addr} {lk ck : Nat} {Fk : Nat → Prop} {ks : List H8} (hbg : Blk w g 41 [.pointer none, .bool true].toArray) (hks : SI w Fk eH Ak lk ck ks) (hlk : lk ≤ 1000000) (hrnd : Sl w (fun k => k = 0) u32v (some ⟨0, 0, none⟩) 64 64 rk) :
    Calls Tryd.prog 24 #[ndp g, .slice Ak lk ck] w fun e w' => ∃ A l c, e = .returned (.slice A l c) ∧ RI w' (fun k => w.heap.size ≤ k) 115 eND A l c (prvN none ks) ∧ Ch No w w' := by
  have hn0 : 0 < w.heap.size := hrnd.size (by omega) rfl
  have hn1 := hn0
  have hltg := hbg.lt
  have hcnt0 : cntT (eo (none : Option LT)) = 0 := rfl
  have hks := hks.old
  have HC : Ch No w w := Ch.refl _ _
  refine enter' (args := [ndp g, .slice Ak lk ck]) (n := 22) Tryd.func24 rfl rfl rfl ?_
  refine wc_seq ?_
  refine wc_region ?_
  refine wl rfl rfl rfl (p_as rfl) ?_
  refine wl_nil ?_
  refine x_seq ?_
  refine wc_seq ?_
  refine wc_seq ?_
  refine wc_region ?_
  refine wl rfl rfl rfl (p_mv rfl) ?_
  refine wl rfl rfl rfl (p_bldP (cs := ((List.replicate 32 (0 : UInt8)).map u8v).toArray) rfl (fun _ => by kernel_rfl)) ?_
  refine wl rfl rfl rfl (p_bldP (cs := ((List.replicate 32 (0 : UInt8)).map u8v).toArray) rfl (fun _ => by kernel_rfl)) ?_
  refine wle rfl (e_call ent44 rfl rfl (tput_made (F := fun _ => True) (TR.mk' trivial (o := none) hbg (fun t2 e => by cases e)) (fun _ _ => trivial) ((List.length_replicate ..)) ((List.length_replicate ..)) (by omega)) ?_)
  rintro _ w1 ⟨_, t9, rfl, ⟨g9, rfl, _⟩, _, hc⟩
  refine ⟨_, rfl, ?_⟩
  have hzw1 := hc.size
  have HC := HC.tr hc
  have hbg := hbg.ch hc (fun h => h)
  have hks := hks.no hc
  have hrnd := hrnd.no hc
  refine wl rfl rfl rfl (p_eqPN rfl rfl Tryd.underlying25) ?_
  refine wl_nil ?_
  refine x_seq ?_
  refine wc_no rfl (rfl) ?_
  refine wc_skip ?_
  refine x_seq ?_
  refine wc_seq ?_
  refine wc_region ?_
  refine wl rfl rfl rfl (p_mv rfl) ?_
  refine wle rfl (e_call ent69 rfl rfl (all_ptr (g := g)) ?_)
  rintro _ w2 ⟨gB, rfl, hgB, hBn, hc⟩
  refine ⟨_, rfl, ?_⟩
  have hzw2 := hc.size
  have HC := HC.tr hc
  have hbg := hbg.ch hc (fun h => h)
  have hks := hks.no hc
  have hrnd := hrnd.no hc
  refine wle rfl (e_call ent68 rfl rfl (entries_none hBn hbg) ?_)
  rintro _ w3 ⟨A13, l13, c13, rfl, hE13, hc⟩
  refine ⟨_, rfl, ?_⟩
  have hzw3 := hc.size
  have HC := HC.tr hc
  have hbg := hbg.ch hc (fun h => h)
  have hks := hks.no hc
  have hrnd := hrnd.no hc
  have hBn := hBn.ch hc (fun h => h)
  have hEl13 := hE13.len
  have hE13 := hE13.mono (G := fun k => w2.heap.size ≤ k ∧ k < w3.heap.size) (fun k h1 h2 => ⟨h2, h1⟩)
  refine wl rfl rfl rfl (p_as rfl) ?_
  refine wl_nil ?_
  refine x_seq ?_
  refine wc_seq ?_
  refine wc_seq ?_
  refine wc_region ?_
  refine wl rfl rfl rfl (p_mv rfl) ?_
  refine wl rfl rfl rfl (p_lenS Tryd.underlying118 rfl) ?_
  refine wl rfl rfl rfl (p_eq rfl rfl) ?_
  refine wl_nil ?_
  refine x_seq ?_
  refine wc_yes rfl (decide_eq_true (by simp at hEl13; omega)) ?_
  refine wc_seq ?_
  refine wc_region ?_
  refine wl rfl rfl rfl (p_bldX (vs' := [.int .i64 (1)]) (cs := (([.int .i64 (1), Value.int .i64 0] ++ ((List.map u8v (List.replicate 32 (0 : UInt8))) ++ (List.map u8v (List.replicate 32 (0 : UInt8))))) : List Value)) (cs' := (([.int .i64 (1), Value.int .i64 0] ++ ((hx (List.replicate 32 (0 : UInt8))) ++ (hx (List.replicate 32 (0 : UInt8))))) : List Value)) rfl rfl (by simp only [hv, map_hx (List.length_replicate ..)] <;> rfl) (fun _ => by kernel_rfl)) ?_
  have hltg := hbg.lt
  have hltgB := hBn.lt
  refine wle rfl (e_bslX (E := 115) (cs := (([.int .i64 (1), Value.int .i64 0] ++ ((List.map u8v (List.replicate 32 (0 : UInt8))) ++ (List.map u8v (List.replicate 32 (0 : UInt8))))) : List Value)) (cs' := (([.int .i64 (1), Value.int .i64 0] ++ ((hx (List.replicate 32 (0 : UInt8))) ++ (hx (List.replicate 32 (0 : UInt8))))) : List Value)) rfl rfl (by simp only [hv, map_hx (List.length_replicate ..)] <;> rfl) (fun _ => by kernel_rfl) (fun w4 g18 hg18 hb18 hc hsz18 => ?_))
  have hzw4 := hc.size
  have HC := HC.tr hc
  have hbg := hbg.ch hc (fun h => h)
  have hks := hks.no hc
  have hrnd := hrnd.no hc
  have hBn := hBn.ch hc (fun h => h)
  have hE13 := hE13.after hc
  have hge18 : w.heap.size ≤ g18 := by have := HC.size; omega
  have hW18 := (RI.one (E := eND) (x := ⟨(1), (0), (List.replicate 32 (0 : UInt8)), (List.replicate 32 (0 : UInt8))⟩) hb18 rfl ⟨(List.length_replicate ..), (List.length_replicate ..)⟩).mono (G := fun k => g18 ≤ k) (fun k _ h => Nat.le_of_eq (Eq.symm h))
  refine wl rfl rfl rfl (p_as rfl) ?_
  refine wl_nil ?_
  refine x_seq ?_
  refine wc_ret ?_
  refine x_then_ret ?_
  refine fin_run ((res1 rfl rfl)) ?_
  exact ⟨_, _, _, rfl, hW18.mono (fun k _ h => by have h2 : g18 ≤ k := h; show w.heap.size ≤ k; omega), HC⟩

theorem mprove27_any {w : World} {v : Value} {o : Option LT} {F : Nat → Prop} {Ak : Option Addr} {lk ck : Nat} {Fk : Nat → Prop} {ks : List H8} (hV : TR 41 156 F w v o) (hwo : WFO (eo o)) (hcn : cntT (eo o) ≤ 1000) (hks : SI w Fk eH Ak lk ck ks) (hlk : lk ≤ 1000000) (hrnd : Sl w (fun k => k = 0) u32v (some ⟨0, 0, none⟩) 64 64 rk) : Calls Tryd.prog 24 #[v, .slice Ak lk ck] w fun e w' => ∃ A l c, e = .returned (.slice A l c) ∧ RI w' (fun k => w.heap.size ≤ k) 115 eND A l c (prvN (eo o) ks) ∧ Ch No w w' := by
  obtain ⟨g, rfl, hFg, hbg, hT⟩ := hV.opn
  cases o with
  | none => exact mprove27_none hbg hks hlk hrnd
  | some t => exact mprove27_some hbg (hT t rfl).1 (hwo _ rfl) hcn hks hlk hrnd

set_option maxHeartbeats 1000000 in
set_option maxRecDepth 20000 in
theorem lives27_any {w : World}  (hrnd : Sl w (fun k => k = 0) u32v (some ⟨0, 0, none⟩) 64 64 rk) :
    Calls Tryd.prog 20 #[] w fun e w' => e = .returned (.bool true) ∧ Ch No w w' := by
  have hn0 : 0 < w.heap.size := hrnd.size (by omega) rfl
  have hn1 := hn0
  have HC : Ch No w w := Ch.refl _ _
  refine enter' (args := []) (n := 14) Tryd.func20 rfl rfl rfl ?_
  refine wc_seq ?_
  refine wc_region ?_
  refine wl rfl rfl rfl (p_as rfl) ?_
  refine wl_nil ?_
  refine x_seq ?_
  refine wc_seq ?_
  refine wc_region ?_
  refine wle rfl (e_call ent51 rfl rfl (new_any) ?_)
  rintro _ w1 ⟨v2, rfl, hV2, hc⟩
  refine ⟨_, rfl, ?_⟩
  have hzw1 := hc.size
  have HC := HC.tr hc
  have hrnd := hrnd.no hc
  have hV2 := hV2.mono (G := fun k => w.heap.size ≤ k ∧ k < w1.heap.size) (fun k h1 h2 => ⟨h2, h1⟩)
  refine wle rfl (e_call ent24 rfl rfl (mprove27_any hV2 (fun t e => by cases e) (by decide) (SI.nil (F := No)) (by omega) hrnd) ?_)
  rintro _ w2 ⟨A3, l3, c3, rfl, hP3, hc⟩
  refine ⟨_, rfl, ?_⟩
  have hzw2 := hc.size
  have HC := HC.tr hc
  have hrnd := hrnd.no hc
  have hV2 := hV2.ch hc (by first | exact fun _ _ _ h => h | (intro k hk hF ht; have h2 := hF.1; have h3 := hF.2; first | omega | (dsimp only at *; omega)))
  have hPl3 := hP3.len
  have hPb3 : l3 ≤ 2 * cntT (eo none) + 1 := by rw [← hPl3]; exact prvN_len
  have hP3 := hP3.mono (G := fun k => w1.heap.size ≤ k ∧ k < w2.heap.size) (fun k h1 h2 => ⟨h2, h1⟩)
  have hl3 : l3 = 1 := hPl3.symm
  refine wl rfl rfl rfl (p_as rfl) ?_
  refine wl_nil ?_
  refine x_seq ?_
  refine wc_seq ?_
  refine wc_region ?_
  refine wl rfl rfl rfl (p_mv rfl) ?_
  refine wl rfl rfl rfl (p_lenS Tryd.underlying33 rfl) ?_
  refine wl rfl rfl rfl (p_eq rfl rfl) ?_
  refine wl rfl rfl rfl (p_mv rfl) ?_
  refine wl_know (d := 7) (b' := true) rfl (decide_eq_true (by omega)) ?_
  refine wl_g (gd_ rfl rfl rfl rfl rfl rfl) rfl rfl (p_mv rfl) ?_
  obtain ⟨b3, o3, hA3, hF3, hr3⟩ := (hP3.si).opn (i := 0) (d := ND0) (by omega)
  have hok3 := (hP3.si).okAt (i := 0) (d := ND0) (by omega)
  obtain ⟨x3, ex3⟩ : ∃ x_, x_ = List.getD (prvN (eo none) []) (0) ND0 := ⟨_, rfl⟩
  rw [← ex3] at hr3 hok3
  obtain ⟨hx3k, hx3v⟩ := hok3
  have hr3 : w2.rangeAt b3 (o3 + 0 * 66) (([i64 x3.kind, i64 x3.bit] ++ ((List.map u8v x3.key) ++ (List.map u8v x3.val))) : List Value) := hr3
  refine wl_g (gd_ rfl rfl rfl rfl rfl rfl) rfl rfl (p_ixS (j := 0 * 66) Tryd.underlying33 sz115 rfl hA3 rfl (by omega) (by omega) rfl) ?_
  have hx9 : x3 = ND0 := ex3
  refine wl_g (gd_ rfl rfl rfl rfl rfl rfl) rfl rfl (p_fld (j := 0) Tryd.underlying115 rfl ⟨_, by rfl⟩ rfl rfl) ?_
  refine wl_g (gd_ rfl rfl rfl rfl rfl rfl) rfl rfl (p_ld Tryd.underlying3 rfl rfl (ld (cell_sub (v := (i64 x3.kind : Value)) (p := []) (r := (([i64 x3.bit] ++ ((List.map u8v x3.key) ++ (List.map u8v x3.val))) : List Value)) hr3 (by first | rfl | simp only [List.append_assoc, List.cons_append, List.nil_append, List.append_nil]) rfl))) ?_
  refine wl_g (gd_ rfl rfl rfl rfl rfl rfl) rfl rfl (p_eq rfl rfl) ?_
  refine wl rfl rfl rfl (p_pickT rfl rfl) ?_
  refine wl rfl rfl rfl (p_as rfl) ?_
  refine wl_nil ?_
  refine x_seq ?_
  refine wc_ret ?_
  refine fin_run ((res1 rfl rfl)) ?_
  rw [hx9]; exact ⟨rfl, HC⟩

set_option maxHeartbeats 1000000 in
set_option maxRecDepth 20000 in
theorem within_any {w : World} {gr : Nat} {Al Ab : Option Addr} {ll cl lb cb : Nat} {bd : Bool} {Fa : Nat → Prop} {ab : List TN} {k : List UInt8} (hbr : Blk w gr 164 ([.slice Al ll cl, .slice Ab lb cb, .bool bd] : List Value).toArray) (hab : SI w Fa eTN Ab lb cb ab) (hlb : lb ≤ 1000000000) (hk : k.length = 32) :
    Calls Tryd.prog 109 #[.pointer (some ⟨gr, 0, none⟩), hv k] w fun e w' => e = .returned (.bool (withinB k ab)) ∧ Ch No w w' := by
  have hltgr := hbr.lt
  have habl := hab.len
  have hab := hab.old
  have HC : Ch No w w := Ch.refl _ _
  refine enter' (args := [.pointer (some ⟨gr, 0, none⟩), hv k]) (n := 24) Tryd.func109 rfl rfl rfl ?_
  refine wc_seq ?_
  refine wc_region ?_
  have hltgr := hbr.lt
  refine wle rfl (e_box (cs := (List.map u8v k).toArray) rfl rfl rfl (fun w1 g3 hg3 hb3 hc hsz3 => ?_))
  have hzw1 := hc.size
  have HC := HC.tr hc
  have hbr := hbr.ch hc (fun h => h)
  have hab := hab.no hc
  have hge3 : w.heap.size ≤ g3 := by have := HC.size; omega
  have negr_3 : gr < g3 := by omega
  refine wl rfl rfl rfl (p_as rfl) ?_
  refine wl_nil ?_
  refine x_seq ?_
  refine wc_seq ?_
  refine wc_seq ?_
  refine wc_region ?_
  refine wl rfl rfl rfl (p_mv rfl) ?_
  refine wl rfl rfl rfl (p_nck rfl) ?_
  refine wl rfl rfl rfl (p_fld (j := 1) Tryd.underlying164 rfl ⟨_, by rfl⟩ rfl rfl) ?_
  refine wl rfl rfl rfl (p_ld Tryd.underlying162 rfl rfl (ld (cell_at (p := ([.slice Al ll cl] : List Value)) (v := (.slice Ab lb cb : Value)) (r := ([.bool bd] : List Value)) hbr (by simp only [List.append_assoc, List.cons_append, List.nil_append, List.append_nil]) (by first | rfl | (simp only [List.length_append, List.length_map, List.length_cons, List.length_nil]; done) | (simp only [List.length_append, List.length_map, List.length_cons, List.length_nil, List.size_toArray]; done))))) ?_
  refine wl rfl rfl rfl (p_lenS Tryd.underlying162 rfl) ?_
  refine wl rfl rfl rfl (p_mv rfl) ?_
  refine wl_nil ?_
  refine x_seq ?_
  refine wc_block ?_
  refine wc_loop (e' := [(3, .pointer (some ⟨g3, 0, none⟩)), (10, .slice Ab lb cb), (11, i64 (lb : Int)), (12, i64 ((0) : Int))]) (fun mz ez uz => ∃ i : Nat, mz = lb - i ∧ ez = [(3, .pointer (some ⟨g3, 0, none⟩)), (10, .slice Ab lb cb), (11, i64 (lb : Int)), (12, i64 (i : Int))] ∧ (i ≤ lb) ∧ (withinB k ab = withinB k (ab.drop i)) ∧ (SI uz (fun k => k < w.heap.size) eTN Ab lb cb ab) ∧ (Blk uz g3 38 (List.map u8v k).toArray) ∧ (w.heap.size ≤ g3) ∧ (Ch No w uz))
   ⟨rfl, rfl, rfl, rfl, trivial⟩ ⟨0, rfl, rfl, (by omega), rfl, hab, hb3, (by omega), HC⟩ ?_
  rintro m0 e w2 ⟨i, hm0, rfl, hi, hwn, hab, hb3, hg3w, HC⟩
  have hzw2 := HC.size
  refine wc_seq ?_
  refine wc_region ?_
  refine wl rfl rfl rfl (p_lt rfl rfl) ?_
  refine wl_nil ?_
  refine x_seq ?_
  refine wc_seq ?_
  refine wc_if rfl (fun c0 => ?_) (fun c0 => ?_)
  ·
   have c0 := of_decide_eq_true c0
   refine wc_skip ?_
   refine x_seq ?_
   refine wc_seq ?_
   refine wc_block ?_
   refine wc_seq ?_
   refine wc_region ?_
   obtain ⟨b3, o3, hA3, hF3, hr3⟩ := (hab).opn (i := i) (d := ⟨0, 0⟩) (by omega)
   have hok3 := (hab).okAt (i := i) (d := ⟨0, 0⟩) (by omega)
   obtain ⟨x3, ex3⟩ : ∃ x_, x_ = List.getD ab (i) ⟨0, 0⟩ := ⟨_, rfl⟩
   rw [← ex3] at hr3 hok3
   have hr3 : w2.rangeAt b3 (o3 + i * 2) ([i64 x3.bit, i64 x3.side] : List Value) := hr3
   refine wl rfl rfl rfl (p_ixS (j := i * 2) Tryd.underlying162 sz187 rfl hA3 rfl (by omega) (by omega) (congrArg (· * 2) (Int.toNat_natCast _))) ?_
   have hdr : ab.drop i = x3 :: ab.drop (i + 1) := by rw [ex3]; exact getD_drop (by omega)
   refine wl rfl rfl rfl (p_ldA (cs := ([i64 x3.bit, i64 x3.side] : List Value)) Tryd.underlying187 rfl (szL sz187 (by first | rfl | (simp only [List.length_append, List.length_map, List.length_cons, List.length_nil]; done) | (simp only [List.length_append, List.length_map, List.length_cons, List.length_nil, List.size_toArray]; done))) rfl (fun _ e => e ▸ hr3)) ?_
   have hltg3 := hb3.lt
   refine wle rfl (e_alloc (cs := ([Value.int .i64 0, Value.int .i64 0] : List Value).toArray) rfl (by rfl) rfl (fun w4 g6 hg6 hb6 hc hsz6 => ?_))
   have hzw4 := hc.size
   have HC := HC.tr hc
   have hab := hab.no hc
   have hb3 := hb3.ch hc (fun h => h)
   have hge6 : w.heap.size ≤ g6 := by have := HC.size; omega
   have neg3_6 : g3 < g6 := by omega
   refine wle rfl (e_stW (vs := ([i64 x3.bit, i64 x3.side] : List Value)) (szL sz187 (by first | rfl | (simp only [List.length_append, List.length_map, List.length_cons, List.length_nil]; done) | (simp only [List.length_append, List.length_map, List.length_cons, List.length_nil, List.size_toArray]; done))) (allOne rfl) rfl rfl hb6 (by first | rfl | (simp only [List.length_append, List.length_map, List.length_cons, List.length_nil]; done) | (simp only [List.length_append, List.length_map, List.length_cons, List.length_nil, List.size_toArray]; done)) (fun w5 hb6 hc hsz => ?_))
   have hzw5 := hc.size
   have HC := HC.trans hc (fun _ _ h => h) (fun k hk ht => absurd ht (by omega))
   have hab := hab.ch hc (by intro k hk ht; omega)
   have hb3 := hb3.ch hc (by omega)
   refine wl_nil ?_
   refine x_seq ?_
   refine wc_seq ?_
   refine wc_draw (.st 0 1 (.st 1 0 (.st 2 1 (.st 4 0 (.st 5 1 (.st 3 2 (.st 6 0 .nil))))))) 7 (by kernel_rfl) (by kernel_rfl) (by kernel_rfl) (by repeat (first | with_reducible exact pan_body | with_reducible apply pan_then | with_reducible apply pan_in)) (fun x => Ch No w5.drew x) (Ch.refl _ _) ?_
   obtain ⟨w6, ew6⟩ : ∃ x, x = w5.drew := ⟨_, rfl⟩
   rw [← ew6]
   have hc : Ch No w5 w6 := by rw [ew6]; exact Ch.drew _
   have hszw6 : w6.heap.size = w5.heap.size := by rw [ew6]; rfl
   clear ew6
   have hzw6 := hc.size
   have HC := HC.tr hc
   have hab := hab.no hc
   have hb3 := hb3.ch hc (fun h => h)
   have hb6 := hb6.ch hc (fun h => h)
   have hS : Ch No w6 w6 := Ch.refl _ _
   refine ws_h rfl rfl rfl rfl (p_ldH (L := k) Tryd.underlying38 sz38 hk rfl (fun _ h => rngL (hb3.ch h (fun h => h)))) ?_
   refine ws_p rfl rfl rfl rfl (p_fld (j := 0) Tryd.underlying187 rfl ⟨_, by rfl⟩ rfl rfl) ?_
   refine ws_h rfl rfl rfl rfl (p_ld Tryd.underlying3 rfl rfl (fun _ h => h.cell (fun h => h) (cell_at (p := []) (v := (i64 x3.bit : Value)) (r := ([i64 x3.side] : List Value)) hb6 (by simp only [List.append_assoc, List.cons_append, List.nil_append, List.append_nil]) (by first | rfl | (simp only [List.length_append, List.length_map, List.length_cons, List.length_nil]; done) | (simp only [List.length_append, List.length_map, List.length_cons, List.length_nil, List.size_toArray]; done))))) ?_
   refine ws_p rfl rfl rfl rfl (p_fld (j := 1) Tryd.underlying187 rfl ⟨_, by rfl⟩ rfl rfl) ?_
   refine ws_h rfl rfl rfl rfl (p_ld Tryd.underlying3 rfl rfl (fun _ h => h.cell (fun h => h) (cell_at (p := ([i64 x3.bit] : List Value)) (v := (i64 x3.side : Value)) (r := []) hb6 (by simp only [List.append_assoc, List.cons_append, List.nil_append, List.append_nil]) (by first | rfl | (simp only [List.length_append, List.length_map, List.length_cons, List.length_nil]; done) | (simp only [List.length_append, List.length_map, List.length_cons, List.length_nil, List.size_toArray]; done))))) ?_
   refine ws_e rfl rfl (e_call ent38 rfl rfl (bit_any (hk)) ?_)
   rintro _ w7 ⟨rfl, hc⟩
   refine ⟨_, rfl, hc, ?_⟩
   have hzw7 := hc.size
   have HC := HC.tr hc
   have hab := hab.no hc
   have hb3 := hb3.ch hc (fun h => h)
   have hb6 := hb6.ch hc (fun h => h)
   refine ws_narrow (S' := fun x => Ch No w7 x) (Ch.refl _ _) (fun x h => hc.tr h) ?_
   refine ws_p rfl rfl rfl rfl (p_ne rfl rfl) ?_
   refine ws_n ?_
   refine x_seq ?_
   refine wc_if rfl (fun c1 => ?_) (fun c1 => ?_)
   ·
    have c1 := of_decide_eq_true c1
    refine wc_seq ?_
    refine wc_region ?_
    refine wl rfl rfl rfl (p_as rfl) ?_
    refine wl_nil ?_
    refine x_seq ?_
    refine wc_ret ?_
    refine x_in_ret ?_
    refine x_then_ret ?_
    refine x_then_ret ?_
    refine x_in_ret ?_
    refine x_then_ret ?_
    refine fin_run ((res1 rfl rfl)) ?_
    have hx : ¬ ((bitI k x3.bit : Nat) : Int) = x3.side := (by simpa using c1); rw [show withinB k ab = false from by rw [hwn, hdr]; simp [withinB, hx]]; exact ⟨rfl, HC⟩
   ·
    have c1 := of_decide_eq_false c1
    refine wc_skip ?_
    refine x_in_normal ?_
    refine x_seq ?_
    refine wc_region ?_
    refine wl rfl rfl rfl (p_add rfl rfl (w64 (by omega))) ?_
    refine wl rfl rfl rfl (p_mv rfl) ?_
    refine wl_nil ?_
    refine x_round (e' := [(3, .pointer (some ⟨g3, 0, none⟩)), (10, .slice Ab lb cb), (11, i64 (lb : Int)), (12, i64 ((i + 1) : Int))]) ⟨rfl, rfl, rfl, rfl, trivial⟩ (by rw [hm0]; omega) ⟨i + 1, rfl, rfl, (by omega), (by have hx : ((bitI k x3.bit : Nat) : Int) = x3.side := (by simpa using c1); rw [hwn, hdr]; simp [withinB, hx]), hab, hb3, hg3w, HC⟩
  ·
   have c0 := of_decide_eq_false c0
   refine wc_exit ?_
   refine x_then_exit ?_
   refine x_then_exit ?_
   refine x_in_here ?_
   refine x_seq ?_
   refine wc_seq ?_
   refine wc_region ?_
   refine wl rfl rfl rfl (p_as rfl) ?_
   refine wl_nil ?_
   refine x_seq ?_
   refine wc_ret ?_
   refine fin_run ((res1 rfl rfl)) ?_
   rw [show withinB k ab = true from by rw [hwn, List.drop_of_length_le (by omega)]; rfl]; exact ⟨rfl, HC⟩

set_option maxHeartbeats 1000000 in
set_option maxRecDepth 20000 in
theorem rises_any {w : World} {gr : Nat} {Al Ab : Option Addr} {ll cl lb cb : Nat} {bd : Bool} {Fa : Nat → Prop} {ab : List TN} {bt : Int} (hbr : Blk w gr 164 ([.slice Al ll cl, .slice Ab lb cb, .bool bd] : List Value).toArray) (hab : SI w Fa eTN Ab lb cb ab) (hlb : lb ≤ 1000000000) :
    Calls Tryd.prog 110 #[.pointer (some ⟨gr, 0, none⟩), i64 bt] w fun e w' => e = .returned (.bool (risesB bt ab)) ∧ Ch No w w' := by
  have hltgr := hbr.lt
  have habl := hab.len
  have hab := hab.old
  have HC : Ch No w w := Ch.refl _ _
  refine enter' (args := [.pointer (some ⟨gr, 0, none⟩), i64 bt]) (n := 34) Tryd.func110 rfl rfl rfl ?_
  refine wc_seq ?_
  refine wc_region ?_
  refine wl rfl rfl rfl (p_as rfl) ?_
  refine wl_nil ?_
  refine x_seq ?_
  refine wc_seq ?_
  refine wc_region ?_
  refine wl rfl rfl rfl (p_mv rfl) ?_
  refine wl rfl rfl rfl (p_nck rfl) ?_
  refine wl rfl rfl rfl (p_fld (j := 1) Tryd.underlying164 rfl ⟨_, by rfl⟩ rfl rfl) ?_
  refine wl rfl rfl rfl (p_ld Tryd.underlying162 rfl rfl (ld (cell_at (p := ([.slice Al ll cl] : List Value)) (v := (.slice Ab lb cb : Value)) (r := ([.bool bd] : List Value)) hbr (by simp only [List.append_assoc, List.cons_append, List.nil_append, List.append_nil]) (by first | rfl | (simp only [List.length_append, List.length_map, List.length_cons, List.length_nil]; done) | (simp only [List.length_append, List.length_map, List.length_cons, List.length_nil, List.size_toArray]; done))))) ?_
  refine wl rfl rfl rfl (p_lenS Tryd.underlying162 rfl) ?_
  refine wl rfl rfl rfl (p_as rfl) ?_
  refine wl_nil ?_
  refine x_seq ?_
  refine wc_seq ?_
  refine wc_region ?_
  refine wl rfl rfl rfl (p_mv rfl) ?_
  refine wl rfl rfl rfl (p_ge rfl rfl) ?_
  refine wl rfl rfl rfl (p_mv rfl) ?_
  refine wl_split (d := 13) rfl (fun q13 => ?_) (fun q13 => ?_)
  ·
   have q13 := of_decide_eq_true q13
   refine wl_g (gd_ rfl rfl rfl rfl rfl rfl) rfl rfl (p_mv rfl) ?_
   refine wl_g (gd_ rfl rfl rfl rfl rfl rfl) rfl rfl (p_le rfl rfl) ?_
   refine wl rfl rfl rfl (p_pickT rfl rfl) ?_
   refine wl rfl rfl rfl (p_mv rfl) ?_
   refine wl_split (d := 17) rfl (fun q17 => ?_) (fun q17 => ?_)
   ·
    have q17 := of_decide_eq_true q17
    refine wl_g (gd_ rfl rfl rfl rfl rfl rfl) rfl rfl (p_mv rfl) ?_
    refine wl_g (gd_ rfl rfl rfl rfl rfl rfl) rfl rfl (p_eq rfl rfl) ?_
    refine wl_g (gd_ rfl rfl rfl rfl rfl rfl) rfl rfl (p_mv rfl) ?_
    refine wl_split (d := 20) rfl (fun q20 => ?_) (fun q20 => ?_)
    ·
     have q20 := of_decide_eq_true q20
     refine wl_s (gd_ rfl rfl rfl rfl rfl rfl) rfl rfl ?_
     refine wl_s (gd_ rfl rfl rfl rfl rfl rfl) rfl rfl ?_
     refine wl_s (gd_ rfl rfl rfl rfl rfl rfl) rfl rfl ?_
     refine wl_s (gd_ rfl rfl rfl rfl rfl rfl) rfl rfl ?_
     refine wl_s (gd_ rfl rfl rfl rfl rfl rfl) rfl rfl ?_
     refine wl_s (gd_ rfl rfl rfl rfl rfl rfl) rfl rfl ?_
     refine wl_s (gd_ rfl rfl rfl rfl rfl rfl) rfl rfl ?_
     refine wl_s (gd_ rfl rfl rfl rfl rfl rfl) rfl rfl ?_
     refine wl_s (gd_ rfl rfl rfl rfl rfl rfl) rfl rfl ?_
     refine wl_s (gd_ rfl rfl rfl rfl rfl rfl) rfl rfl ?_
     refine wl_s (gd_ rfl rfl rfl rfl rfl rfl) rfl rfl ?_
     refine wl_g (gd_ rfl rfl rfl rfl rfl rfl) rfl rfl (p_pickT rfl rfl) ?_
     refine wl rfl rfl rfl (p_pickT rfl rfl) ?_
     refine wl rfl rfl rfl (p_as rfl) ?_
     refine wl_nil ?_
     refine x_seq ?_
     refine wc_ret ?_
     refine fin_run ((res1 rfl rfl)) ?_
     exact ⟨congrArg (fun b => Ending.returned (Value.bool b)) (show _ = risesB bt ab by unfold risesB; rw [decide_eq_true (show (0 : Int) ≤ bt by omega), decide_eq_true (show bt ≤ (255 : Int) by omega), habl, decide_eq_true (show (lb : Int) = 0 by omega)]; rfl), HC⟩
    ·
     have q20 := of_decide_eq_false q20
     refine wl_g (gd_ rfl rfl rfl rfl rfl rfl) rfl rfl (p_mv rfl) ?_
     refine wl_g (gd_ rfl rfl rfl rfl rfl rfl) rfl rfl (p_nck rfl) ?_
     refine wl_g (gd_ rfl rfl rfl rfl rfl rfl) rfl rfl (p_fld (j := 1) Tryd.underlying164 rfl ⟨_, by rfl⟩ rfl rfl) ?_
     refine wl_g (gd_ rfl rfl rfl rfl rfl rfl) rfl rfl (p_ld Tryd.underlying162 rfl rfl (ld (cell_at (p := ([.slice Al ll cl] : List Value)) (v := (.slice Ab lb cb : Value)) (r := ([.bool bd] : List Value)) hbr (by simp only [List.append_assoc, List.cons_append, List.nil_append, List.append_nil]) (by first | rfl | (simp only [List.length_append, List.length_map, List.length_cons, List.length_nil]; done) | (simp only [List.length_append, List.length_map, List.length_cons, List.length_nil, List.size_toArray]; done))))) ?_
     refine wl_g (gd_ rfl rfl rfl rfl rfl rfl) rfl rfl (p_mv rfl) ?_
     refine wl_g (gd_ rfl rfl rfl rfl rfl rfl) rfl rfl (p_sub (Z := ((lb - 1 : Nat) : Int)) rfl rfl (by rw [w64 (by omega)]; omega)) ?_
     obtain ⟨b1, o1, hA1, hF1, hr1⟩ := (hab).opn (i := (lb - 1)) (d := ⟨0, 0⟩) (by omega)
     have hok1 := (hab).okAt (i := (lb - 1)) (d := ⟨0, 0⟩) (by omega)
     obtain ⟨x1, ex1⟩ : ∃ x_, x_ = List.getD ab ((lb - 1)) ⟨0, 0⟩ := ⟨_, rfl⟩
     rw [← ex1] at hr1 hok1
     have hr1 : w.rangeAt b1 (o1 + ((lb - 1)) * 2) ([i64 x1.bit, i64 x1.side] : List Value) := hr1
     refine wl_g (gd_ rfl rfl rfl rfl rfl rfl) rfl rfl (p_ixS (j := ((lb - 1)) * 2) Tryd.underlying162 sz187 rfl hA1 rfl (by omega) (by omega) (congrArg (· * 2) (Int.toNat_natCast _))) ?_
     refine wl_g (gd_ rfl rfl rfl rfl rfl rfl) rfl rfl (p_fld (j := 0) Tryd.underlying187 rfl ⟨_, by rfl⟩ rfl rfl) ?_
     refine wl_g (gd_ rfl rfl rfl rfl rfl rfl) rfl rfl (p_ld Tryd.underlying3 rfl rfl (ld (cell_sub (v := (i64 x1.bit : Value)) (p := []) (r := ([i64 x1.side] : List Value)) hr1 (by first | rfl | simp only [List.append_assoc, List.cons_append, List.nil_append, List.append_nil]) rfl))) ?_
     refine wl_g (gd_ rfl rfl rfl rfl rfl rfl) rfl rfl (p_mv rfl) ?_
     refine wl_g (gd_ rfl rfl rfl rfl rfl rfl) rfl rfl (p_lt rfl rfl) ?_
     refine wl_g (gd_ rfl rfl rfl rfl rfl rfl) rfl rfl (p_pickF rfl rfl) ?_
     refine wl rfl rfl rfl (p_pickT rfl rfl) ?_
     refine wl rfl rfl rfl (p_as rfl) ?_
     refine wl_nil ?_
     refine x_seq ?_
     refine wc_ret ?_
     refine fin_run ((res1 rfl rfl)) ?_
     exact ⟨congrArg (fun b => Ending.returned (Value.bool b)) (show _ = risesB bt ab by unfold risesB; rw [decide_eq_true (show (0 : Int) ≤ bt by omega), decide_eq_true (show bt ≤ (255 : Int) by omega), habl, decide_eq_false (show ¬ (lb : Int) = 0 by omega), ex1]; rfl), HC⟩
   ·
    have q17 := of_decide_eq_false q17
    refine wl_s (gd_ rfl rfl rfl rfl rfl rfl) rfl rfl ?_
    refine wl_s (gd_ rfl rfl rfl rfl rfl rfl) rfl rfl ?_
    refine wl_s (gd_ rfl rfl rfl rfl rfl rfl) rfl rfl ?_
    refine wl_s (gd_ rfl rfl rfl rfl rfl rfl) rfl rfl ?_
    refine wl_s (gd_ rfl rfl rfl rfl rfl rfl) rfl rfl ?_
    refine wl_s (gd_ rfl rfl rfl rfl rfl rfl) rfl rfl ?_
    refine wl_s (gd_ rfl rfl rfl rfl rfl rfl) rfl rfl ?_
    refine wl_s (gd_ rfl rfl rfl rfl rfl rfl) rfl rfl ?_
    refine wl_s (gd_ rfl rfl rfl rfl rfl rfl) rfl rfl ?_
    refine wl_s (gd_ rfl rfl rfl rfl rfl rfl) rfl rfl ?_
    refine wl_s (gd_ rfl rfl rfl rfl rfl rfl) rfl rfl ?_
    refine wl_s (gd_ rfl rfl rfl rfl rfl rfl) rfl rfl ?_
    refine wl_s (gd_ rfl rfl rfl rfl rfl rfl) rfl rfl ?_
    refine wl_s (gd_ rfl rfl rfl rfl rfl rfl) rfl rfl ?_
    refine wl_s (gd_ rfl rfl rfl rfl rfl rfl) rfl rfl ?_
    refine wl rfl rfl rfl (p_pickF rfl rfl) ?_
    refine wl rfl rfl rfl (p_as rfl) ?_
    refine wl_nil ?_
    refine x_seq ?_
    refine wc_ret ?_
    refine fin_run ((res1 rfl rfl)) ?_
    exact ⟨congrArg (fun b => Ending.returned (Value.bool b)) (show _ = risesB bt ab by unfold risesB; rw [decide_eq_true (show (0 : Int) ≤ bt by omega), decide_eq_false (show ¬ bt ≤ (255 : Int) by omega)]; rfl), HC⟩
  ·
   have q13 := of_decide_eq_false q13
   refine wl_s (gd_ rfl rfl rfl rfl rfl rfl) rfl rfl ?_
   refine wl_s (gd_ rfl rfl rfl rfl rfl rfl) rfl rfl ?_
   refine wl rfl rfl rfl (p_pickF rfl rfl) ?_
   refine wl rfl rfl rfl (p_mv rfl) ?_
   refine wl_s (gd_ rfl rfl rfl rfl rfl rfl) rfl rfl ?_
   refine wl_s (gd_ rfl rfl rfl rfl rfl rfl) rfl rfl ?_
   refine wl_s (gd_ rfl rfl rfl rfl rfl rfl) rfl rfl ?_
   refine wl_s (gd_ rfl rfl rfl rfl rfl rfl) rfl rfl ?_
   refine wl_s (gd_ rfl rfl rfl rfl rfl rfl) rfl rfl ?_
   refine wl_s (gd_ rfl rfl rfl rfl rfl rfl) rfl rfl ?_
   refine wl_s (gd_ rfl rfl rfl rfl rfl rfl) rfl rfl ?_
   refine wl_s (gd_ rfl rfl rfl rfl rfl rfl) rfl rfl ?_
   refine wl_s (gd_ rfl rfl rfl rfl rfl rfl) rfl rfl ?_
   refine wl_s (gd_ rfl rfl rfl rfl rfl rfl) rfl rfl ?_
   refine wl_s (gd_ rfl rfl rfl rfl rfl rfl) rfl rfl ?_
   refine wl_s (gd_ rfl rfl rfl rfl rfl rfl) rfl rfl ?_
   refine wl_s (gd_ rfl rfl rfl rfl rfl rfl) rfl rfl ?_
   refine wl_s (gd_ rfl rfl rfl rfl rfl rfl) rfl rfl ?_
   refine wl_s (gd_ rfl rfl rfl rfl rfl rfl) rfl rfl ?_
   refine wl rfl rfl rfl (p_pickF rfl rfl) ?_
   refine wl rfl rfl rfl (p_as rfl) ?_
   refine wl_nil ?_
   refine x_seq ?_
   refine wc_ret ?_
   refine fin_run ((res1 rfl rfl)) ?_
   exact ⟨congrArg (fun b => Ending.returned (Value.bool b)) (show _ = risesB bt ab by unfold risesB; rw [decide_eq_false (show ¬ (0 : Int) ≤ bt by omega)]; rfl), HC⟩

def PartOK (n : Nat) : Prop := ∀ {w : World} {gr : Nat} {Al Ab : Option Addr} {ll cl lb cb : Nat} {bd : Bool} {F Fl : Nat → Prop} {l : List ND} {ab : List TN}, l.length ≤ n → Blk w gr 164 ([.slice Al ll cl, .slice Ab lb cb, .bool bd] : List Value).toArray → SI w Fl eND Al ll cl l → RI w F 187 eTN Ab lb cb ab → (∀ k, w.heap.size ≤ k → F k) → ¬ F 0 → ¬ F gr → gr ≠ 0 → (∀ k, Fl k → k < w.heap.size ∧ ¬ F k ∧ k ≠ gr) → ll ≤ 100000000 → lb + n ≤ 100000000 → Sl w (fun k => k = 0) u32v (some ⟨0, 0, none⟩) 64 64 rk → Calls Tryd.prog 88 #[.pointer (some ⟨gr, 0, none⟩)] w fun e w' => ∃ h Al' ll' cl' Ab' cb' bd' l', e = .returned (hv h) ∧ Blk w' gr 164 ([.slice Al' ll' cl', .slice Ab' lb cb', .bool bd'] : List Value).toArray ∧ SI w' Fl eND Al' ll' cl' l' ∧ RI w' F 187 eTN Ab' lb cb' ab ∧ PR ab l bd h l' bd' ∧ Ch (fun k => F k ∨ k = gr) w w'

def SideOK (n : Nat) : Prop := ∀ {w : World} {gr : Nat} {Al Ab : Option Addr} {ll cl lb cb : Nat} {bd : Bool} {F Fl : Nat → Prop} {l : List ND} {ab : List TN} {sd : Int} {bt : Int}, l.length ≤ n → Blk w gr 164 ([.slice Al ll cl, .slice Ab lb cb, .bool bd] : List Value).toArray → SI w Fl eND Al ll cl l → RI w F 187 eTN Ab lb cb ab → (∀ k, w.heap.size ≤ k → F k) → ¬ F 0 → ¬ F gr → gr ≠ 0 → (∀ k, Fl k → k < w.heap.size ∧ ¬ F k ∧ k ≠ gr) → ll ≤ 100000000 → lb + 1 + n ≤ 100000000 → Sl w (fun k => k = 0) u32v (some ⟨0, 0, none⟩) 64 64 rk → Calls Tryd.prog 111 #[.pointer (some ⟨gr, 0, none⟩), .agg ([i64 bt, i64 sd] : List Value).toArray] w fun e w' => ∃ h Al' ll' cl' Ab' cb' bd' l', e = .returned (hv h) ∧ Blk w' gr 164 ([.slice Al' ll' cl', .slice Ab' lb cb', .bool bd'] : List Value).toArray ∧ SI w' Fl eND Al' ll' cl' l' ∧ RI w' F 187 eTN Ab' lb cb' ab ∧ PR (ab ++ [⟨bt, sd⟩]) l bd h l' bd' ∧ Ch (fun k => F k ∨ k = gr) w w'

set_option maxHeartbeats 2000000 in
set_option maxRecDepth 20000 in
theorem side_step {w : World} {gr : Nat} {Al Ab : Option Addr} {ll cl lb cb : Nat} {bd : Bool} {F Fl : Nat → Prop} {l : List ND} {ab : List TN} {n : Nat} {sd bt : Int} (IH : PartOK n) (hln : l.length ≤ n) (hbr : Blk w gr 164 ([.slice Al ll cl, .slice Ab lb cb, .bool bd] : List Value).toArray) (hl : SI w Fl eND Al ll cl l) (hab : RI w F 187 eTN Ab lb cb ab) (hF : (∀ k, w.heap.size ≤ k → F k)) (hF0 : ¬ F 0) (hFgr : ¬ F gr) (hgr0 : gr ≠ 0) (hFl : (∀ k, Fl k → k < w.heap.size ∧ ¬ F k ∧ k ≠ gr)) (hll : ll ≤ 100000000) (hlbn : lb + 1 + n ≤ 100000000) (hrnd : Sl w (fun k => k = 0) u32v (some ⟨0, 0, none⟩) 64 64 rk) :
    Calls Tryd.prog 111 #[.pointer (some ⟨gr, 0, none⟩), .agg ([i64 bt, i64 sd] : List Value).toArray] w fun e w' => ∃ h Al' ll' cl' Ab' cb' bd' l', e = .returned (hv h) ∧ Blk w' gr 164 ([.slice Al' ll' cl', .slice Ab' lb cb', .bool bd'] : List Value).toArray ∧ SI w' Fl eND Al' ll' cl' l' ∧ RI w' F 187 eTN Ab' lb cb' ab ∧ PR (ab ++ [⟨bt, sd⟩]) l bd h l' bd' ∧ Ch (fun k => F k ∨ k = gr) w w' := by
  have hltgr := hbr.lt
  have hlle := hl.len
  have habl := hab.len
  have hn0 : 0 < w.heap.size := hrnd.size (by omega) rfl
  have hn1 := hn0
  have HC : Ch (fun k => F k ∨ k = gr) w w := Ch.refl _ _
  refine enter' (args := [.pointer (some ⟨gr, 0, none⟩), .agg ([i64 bt, i64 sd] : List Value).toArray]) (n := 33) Tryd.func111 rfl rfl rfl ?_
  refine wc_seq ?_
  refine wc_region ?_
  have hltgr := hbr.lt
  refine wle rfl (e_box (cs := ([i64 bt, i64 sd] : List Value).toArray) rfl rfl rfl (fun w1 g3 hg3 hb3 hc hsz3 => ?_))
  have hzw1 := hc.size
  have HC := HC.tr hc
  have hbr := hbr.ch hc (fun h => h)
  have hl := hl.no hc
  have hab := hab.after hc
  have hrnd := hrnd.no hc
  have hge3 : w.heap.size ≤ g3 := by have := HC.size; omega
  have negr_3 : gr < g3 := by omega
  have hltgr := hbr.lt
  have hltg3 := hb3.lt
  refine wle rfl (e_alloc (cs := ((List.replicate 32 (0 : UInt8)).map u8v).toArray) rfl (by rfl) rfl (fun w2 g4 hg4 hb4 hc hsz4 => ?_))
  have hzw2 := hc.size
  have HC := HC.tr hc
  have hbr := hbr.ch hc (fun h => h)
  have hl := hl.no hc
  have hab := hab.after hc
  have hrnd := hrnd.no hc
  have hb3 := hb3.ch hc (fun h => h)
  have hge4 : w.heap.size ≤ g4 := by have := HC.size; omega
  have negr_4 : gr < g4 := by omega
  have neg3_4 : g3 < g4 := by omega
  refine wl_nil ?_
  refine x_seq ?_
  refine wc_seq ?_
  refine wc_draw (.st 0 0 (.st 1 0 (.st 2 0 (.st 3 0 (.st 4 1 (.st 5 1 (.st 6 2 (.st 7 3 (.st 8 0 (.st 9 0 (.st 10 3 .nil))))))))))) 7 (by kernel_rfl) (by kernel_rfl) (by kernel_rfl) (by repeat (first | with_reducible exact pan_body | with_reducible apply pan_then | with_reducible apply pan_in)) (fun x => Ch No w2.drew x) (Ch.refl _ _) ?_
  obtain ⟨w3, ew3⟩ : ∃ x, x = w2.drew := ⟨_, rfl⟩
  rw [← ew3]
  have hc : Ch No w2 w3 := by rw [ew3]; exact Ch.drew _
  have hszw3 : w3.heap.size = w2.heap.size := by rw [ew3]; rfl
  clear ew3
  have hzw3 := hc.size
  have HC := HC.tr hc
  have hbr := hbr.ch hc (fun h => h)
  have hl := hl.no hc
  have hab := hab.no hc
  have hrnd := hrnd.no hc
  have hb3 := hb3.ch hc (fun h => h)
  have hb4 := hb4.ch hc (fun h => h)
  have hS : Ch No w3 w3 := Ch.refl _ _
  refine ws_p rfl rfl rfl rfl (p_mv rfl) ?_
  refine ws_p rfl rfl rfl rfl (p_mv rfl) ?_
  refine ws_p rfl rfl rfl rfl (p_nck rfl) ?_
  refine ws_p rfl rfl rfl rfl (p_fld (j := 1) Tryd.underlying164 rfl ⟨_, by rfl⟩ rfl rfl) ?_
  refine ws_h rfl rfl rfl rfl (p_ld Tryd.underlying162 rfl rfl (fun _ h => h.cell (fun h => h) (cell_at (p := ([.slice Al ll cl] : List Value)) (v := (.slice Ab lb cb : Value)) (r := ([.bool bd] : List Value)) hbr (by simp only [List.append_assoc, List.cons_append, List.nil_append, List.append_nil]) (by first | rfl | (simp only [List.length_append, List.length_map, List.length_cons, List.length_nil]; done) | (simp only [List.length_append, List.length_map, List.length_cons, List.length_nil, List.size_toArray]; done))))) ?_
  refine ws_h rfl rfl rfl rfl (p_ldA (cs := ([i64 bt, i64 sd] : List Value)) Tryd.underlying187 rfl (szL sz187 (by first | rfl | (simp only [List.length_append, List.length_map, List.length_cons, List.length_nil]; done) | (simp only [List.length_append, List.length_map, List.length_cons, List.length_nil, List.size_toArray]; done))) rfl (fun _ h => (rngL (hb3.ch h (fun h => h))))) ?_
  have hltgr := hbr.lt
  have hltg3 := hb3.lt
  have hltg4 := hb4.lt
  refine ws_e rfl rfl (e_bslX (E := 187) (cs := ([i64 bt, i64 sd] : List Value)) (cs' := ([i64 bt, i64 sd] : List Value)) rfl rfl rfl (fun _ => by kernel_rfl) (fun w4 g12 hg12 hb12 hc hsz12 => ⟨hc, ?_⟩))
  have hzw4 := hc.size
  have HC := HC.tr hc
  have hbr := hbr.ch hc (fun h => h)
  have hl := hl.no hc
  have hab := hab.after hc
  have hrnd := hrnd.no hc
  have hb3 := hb3.ch hc (fun h => h)
  have hb4 := hb4.ch hc (fun h => h)
  have hge12 : w.heap.size ≤ g12 := by have := HC.size; omega
  have hS12 := SI.oneA (E := eTN) (x := ⟨bt, sd⟩) hb12 rfl trivial
  refine ws_narrow (S' := fun x => Ch No w4 x) (Ch.refl _ _) (fun x h => hc.tr h) ?_
  have hltgr := hbr.lt
  have hltg3 := hb3.lt
  have hltg4 := hb4.lt
  refine ws_l rfl rfl (e_appI rfl el162 rfl rfl hab (hS12) (by omega) (by intro k hk; have hF1 := hF k (by omega); repeat (first | exact hF1 | (refine ⟨?_, by omega⟩))) (fun w5 A13 c13 hab hc => ?_))
  have hzw5 := hc.size
  have HC := HC.trans hc (fun _ _ h => h) (fun k hk ht => (by first | exact .inl ht | (simp only [and_assoc] at ht; exact .inl ht.1)))
  have hbr := hbr.ch hc (by intro ht; first | exact hFgr ht | (simp only [and_assoc] at ht; exact hFgr ht.1))
  have hl := hl.ch hc (by intro k hk ht; have h2 := (hFl k hk).2.1; first | exact h2 ht | (simp only [and_assoc] at ht; exact h2 ht.1))
  have hrnd := hrnd.ch hc (by rintro k rfl ht; first | exact hF0 ht | (simp only [and_assoc] at ht; exact hF0 ht.1))
  have hb3 := hb3.ch hc (by omega)
  have hb4 := hb4.ch hc (by omega)
  first | have hS12 := hS12.ch hc (by intro k hk ht; omega) | have hS12 := hS12.chT hc (by intro k hz hk ht; omega)
  refine ws_p rfl rfl rfl rfl (p_nck rfl) ?_
  refine ws_p rfl rfl rfl rfl (p_fld (j := 1) Tryd.underlying164 rfl ⟨_, by rfl⟩ rfl rfl) ?_
  refine ws_l rfl rfl (e_stC (p := ([.slice Al ll cl] : List Value)) (u := (.slice Ab lb cb : Value)) (r := ([.bool bd] : List Value)) (v := .slice A13 (lb + 1) c13) (by rfl) rfl rfl rfl hbr (by simp only [List.append_assoc, List.cons_append, List.nil_append, List.append_nil]) (by first | rfl | (simp only [List.length_append, List.length_map, List.length_cons, List.length_nil]; done) | (simp only [List.length_append, List.length_map, List.length_cons, List.length_nil, List.size_toArray]; done)) (fun w6 hbr hc hsz => ?_))
  have hbr : Blk w6 gr 164 ([.slice Al ll cl, .slice A13 (lb + 1) c13, .bool bd] : List Value).toArray := by have h := hbr; simp only [List.append_assoc, List.cons_append, List.nil_append, List.append_nil] at h ⊢; exact h
  have hzw6 := hc.size
  have HC := HC.trans hc (fun _ _ h => h) (fun k hk ht => .inr ht)
  have hl := hl.ch hc (by intro k hk ht; exact (hFl k hk).2.2 ht)
  have hab := hab.ch hc (by intro k hz hk ht; (subst ht; first | exact absurd hk hFgr | (simp only [and_assoc] at hk; exact absurd hk.1 hFgr)))
  have hrnd := hrnd.ch hc (by intro k hk ht; omega)
  have hb3 := hb3.ch hc (by omega)
  have hb4 := hb4.ch hc (by omega)
  first | have hS12 := hS12.ch hc (by intro k hk ht; omega) | have hS12 := hS12.chT hc (by intro k hz hk ht; omega)
  refine ws_n ?_
  refine x_seq ?_
  refine wc_seq ?_
  refine wc_region ?_
  refine wl rfl rfl rfl (p_mv rfl) ?_
  have hlt_17 := hbr.lt
  refine wle rfl (e_call ent88 rfl rfl (IH (by omega) hbr hl hab (by intro k hk; have hF1 := hF k (by omega); repeat (first | exact hF1 | (refine ⟨?_, by omega⟩))) (by intro ht; first | exact hF0 ht | (simp only [and_assoc] at ht; exact hF0 ht.1)) (by intro ht; first | exact hFgr ht | (simp only [and_assoc] at ht; exact hFgr ht.1)) hgr0 (by intro k hk; obtain ⟨h1, h2, h3⟩ := hFl k hk; exact ⟨by omega, by intro ht; first | exact h2 ht | (simp only [and_assoc] at ht; exact h2 ht.1), h3⟩) (by omega) (by omega) hrnd) ?_)
  rintro _ w7 ⟨h17, Al17, ll17, cl17, Ab17, cb17, bd17, l17, rfl, hbr, hl, hab, hpr17, hc⟩
  refine ⟨_, rfl, ?_⟩
  have hzw7 := hc.size
  have HC := HC.trans hc (fun _ _ h => h) (fun k hk ht => ht.elim (fun ht => by first | exact .inl ht | (simp only [and_assoc] at ht; exact .inl ht.1)) .inr)
  have hrnd := hrnd.ch hc (fun k hk ht => by subst hk; exact ht.elim (fun ht => by first | exact hF0 ht | (simp only [and_assoc] at ht; exact hF0 ht.1)) (fun ht => hgr0 ht.symm))
  have hb3 := hb3.ch hc (by omega)
  have hb4 := hb4.ch hc (by omega)
  first | have hS12 := hS12.ch hc (by intro k hk ht; omega) | have hS12 := hS12.chT hc (by intro k hz hk ht; omega)
  have hln17 := hl.len
  have hsl17 := hpr17.suf_len
  have hltg3 := hb3.lt
  have hltg4 := hb4.lt
  have hltgr := hbr.lt
  refine wle rfl (e_alloc (cs := ((List.replicate 32 (0 : UInt8)).map u8v).toArray) rfl (by rfl) rfl (fun w8 g5 hg5 hb5 hc hsz5 => ?_))
  have hzw8 := hc.size
  have HC := HC.tr hc
  have hrnd := hrnd.no hc
  have hb3 := hb3.ch hc (fun h => h)
  have hb4 := hb4.ch hc (fun h => h)
  have hS12 := hS12.no hc
  have hbr := hbr.ch hc (fun h => h)
  have hl := hl.no hc
  have hab := hab.after hc
  have hge5 : w.heap.size ≤ g5 := by have := HC.size; omega
  have neg3_5 : g3 < g5 := by omega
  have neg4_5 : g4 < g5 := by omega
  have negr_5 : gr < g5 := by omega
  refine wle rfl (e_stH sz38 (List.length_replicate ..) hpr17.len rfl rfl hb5 (fun w9 hb5 hc hsz => ?_))
  have hzw9 := hc.size
  have HC := HC.trans hc (fun _ _ h => h) (fun k hk ht => absurd ht (by omega))
  have hrnd := hrnd.ch hc (by intro k hk ht; omega)
  have hb3 := hb3.ch hc (by omega)
  have hb4 := hb4.ch hc (by omega)
  first | have hS12 := hS12.ch hc (by intro k hk ht; omega) | have hS12 := hS12.chT hc (by intro k hz hk ht; omega)
  have hbr := hbr.ch hc (by omega)
  have hl := hl.ch hc (by intro k hk ht; have h1 := (hFl k hk).1; omega)
  have hab := hab.ch hc (by intro k hz hk ht; omega)
  refine wl_nil ?_
  refine x_seq ?_
  refine wc_seq ?_
  refine wc_draw (.st 0 0 (.st 1 0 (.st 2 0 (.st 3 0 (.st 4 1 (.st 5 0 (.st 6 0 (.st 7 0 (.st 8 1 (.st 9 0 (.st 10 0 (.st 11 0 (.st 12 0 (.st 13 0 (.st 14 3 .nil))))))))))))))) 14 (by kernel_rfl) (by kernel_rfl) (by kernel_rfl) (by repeat (first | with_reducible exact pan_body | with_reducible apply pan_then | with_reducible apply pan_in)) (fun x => Ch No w9.drew x) (Ch.refl _ _) ?_
  obtain ⟨w10, ew10⟩ : ∃ x, x = w9.drew := ⟨_, rfl⟩
  rw [← ew10]
  have hc : Ch No w9 w10 := by rw [ew10]; exact Ch.drew _
  have hszw10 : w10.heap.size = w9.heap.size := by rw [ew10]; rfl
  clear ew10
  have hzw10 := hc.size
  have HC := HC.tr hc
  have hrnd := hrnd.no hc
  have hb3 := hb3.ch hc (fun h => h)
  have hb4 := hb4.ch hc (fun h => h)
  have hS12 := hS12.no hc
  have hbr := hbr.ch hc (fun h => h)
  have hl := hl.no hc
  have hab := hab.no hc
  have hb5 := hb5.ch hc (fun h => h)
  have hS : Ch No w10 w10 := Ch.refl _ _
  refine ws_p rfl rfl rfl rfl (p_mv rfl) ?_
  refine ws_p rfl rfl rfl rfl (p_mv rfl) ?_
  refine ws_p rfl rfl rfl rfl (p_nck rfl) ?_
  refine ws_p rfl rfl rfl rfl (p_fld (j := 1) Tryd.underlying164 rfl ⟨_, by rfl⟩ rfl rfl) ?_
  refine ws_h rfl rfl rfl rfl (p_ld Tryd.underlying162 rfl rfl (fun _ h => h.cell (fun h => h) (cell_at (p := ([.slice Al17 ll17 cl17] : List Value)) (v := (.slice Ab17 (lb + 1) cb17 : Value)) (r := ([.bool bd17] : List Value)) hbr (by simp only [List.append_assoc, List.cons_append, List.nil_append, List.append_nil]) (by first | rfl | (simp only [List.length_append, List.length_map, List.length_cons, List.length_nil]; done) | (simp only [List.length_append, List.length_map, List.length_cons, List.length_nil, List.size_toArray]; done))))) ?_
  refine ws_p rfl rfl rfl rfl (p_mv rfl) ?_
  refine ws_p rfl rfl rfl rfl (p_nck rfl) ?_
  refine ws_p rfl rfl rfl rfl (p_fld (j := 1) Tryd.underlying164 rfl ⟨_, by rfl⟩ rfl rfl) ?_
  refine ws_h rfl rfl rfl rfl (p_ld Tryd.underlying162 rfl rfl (fun _ h => h.cell (fun h => h) (cell_at (p := ([.slice Al17 ll17 cl17] : List Value)) (v := (.slice Ab17 (lb + 1) cb17 : Value)) (r := ([.bool bd17] : List Value)) hbr (by simp only [List.append_assoc, List.cons_append, List.nil_append, List.append_nil]) (by first | rfl | (simp only [List.length_append, List.length_map, List.length_cons, List.length_nil]; done) | (simp only [List.length_append, List.length_map, List.length_cons, List.length_nil, List.size_toArray]; done))))) ?_
  refine ws_p rfl rfl rfl rfl (p_lenS Tryd.underlying162 rfl) ?_
  refine ws_p rfl rfl rfl rfl (p_sub (Z := (lb : Int)) rfl rfl (by rw [w64 (by omega)]; omega)) ?_
  have hcp29 := hab.si.cap
  have hab := hab.head0 (k := lb) (by omega)
  rw [show (ab ++ [(⟨bt, sd⟩ : TN)]).take lb = ab from by rw [← habl, List.take_left]] at hab
  refine ws_p rfl rfl rfl rfl (p_slS (l := 0) (h := lb) Tryd.underlying162 sz187 rfl rfl ⟨_, rfl⟩ (by omega) (by omega) hcp29 (q := lb) (by omega)) ?_
  refine ws_p rfl rfl rfl rfl (p_nck rfl) ?_
  refine ws_p rfl rfl rfl rfl (p_fld (j := 1) Tryd.underlying164 rfl ⟨_, by rfl⟩ rfl rfl) ?_
  refine ws_l rfl rfl (e_stC (p := ([.slice Al17 ll17 cl17] : List Value)) (u := (.slice Ab17 (lb + 1) cb17 : Value)) (r := ([.bool bd17] : List Value)) (v := .slice (cutA Ab17 cb17 0 2) lb (cb17 - 0)) (by rfl) rfl rfl rfl hbr (by simp only [List.append_assoc, List.cons_append, List.nil_append, List.append_nil]) (by first | rfl | (simp only [List.length_append, List.length_map, List.length_cons, List.length_nil]; done) | (simp only [List.length_append, List.length_map, List.length_cons, List.length_nil, List.size_toArray]; done)) (fun w11 hbr hc hsz => ?_))
  have hbr : Blk w11 gr 164 ([.slice Al17 ll17 cl17, .slice (cutA Ab17 cb17 0 2) lb (cb17 - 0), .bool bd17] : List Value).toArray := by have h := hbr; simp only [List.append_assoc, List.cons_append, List.nil_append, List.append_nil] at h ⊢; exact h
  have hzw11 := hc.size
  have HC := HC.trans hc (fun _ _ h => h) (fun k hk ht => .inr ht)
  have hrnd := hrnd.ch hc (by intro k hk ht; omega)
  have hb3 := hb3.ch hc (by omega)
  have hb4 := hb4.ch hc (by omega)
  first | have hS12 := hS12.ch hc (by intro k hk ht; omega) | have hS12 := hS12.chT hc (by intro k hz hk ht; omega)
  have hl := hl.ch hc (by intro k hk ht; exact (hFl k hk).2.2 ht)
  have hab := hab.ch hc (by intro k hz hk ht; (subst ht; first | exact absurd hk hFgr | (simp only [and_assoc] at hk; exact absurd hk.1 hFgr)))
  have hb5 := hb5.ch hc (by omega)
  refine ws_n ?_
  refine x_seq ?_
  refine wc_seq ?_
  refine wc_region ?_
  refine wl rfl rfl rfl (p_ldH (L := h17) Tryd.underlying38 sz38 hpr17.len rfl (fun _ e => e ▸ rngL hb5)) ?_
  refine wle rfl (e_stH sz38 (List.length_replicate ..) hpr17.len rfl rfl hb4 (fun w12 hb4 hc hsz => ?_))
  have hzw12 := hc.size
  have HC := HC.trans hc (fun _ _ h => h) (fun k hk ht => absurd ht (by omega))
  have hrnd := hrnd.ch hc (by intro k hk ht; omega)
  have hb3 := hb3.ch hc (by omega)
  first | have hS12 := hS12.ch hc (by intro k hk ht; omega) | have hS12 := hS12.chT hc (by intro k hz hk ht; omega)
  have hbr := hbr.ch hc (by omega)
  have hl := hl.ch hc (by intro k hk ht; have h1 := (hFl k hk).1; omega)
  have hab := hab.ch hc (by intro k hz hk ht; omega)
  have hb5 := hb5.ch hc (by omega)
  refine wl_nil ?_
  refine x_seq ?_
  refine wc_ret ?_
  refine fin_run (resC (cs := List.map u8v h17) rfl rfl Tryd.underlying38 rfl (szL sz38 (by rw [List.length_map]; exact hpr17.len)) (rngL hb4)) ?_
  exact ⟨_, _, _, _, _, _, _, _, rfl, hbr, hl, hab.mono (by intro k hk h; first | exact h | (simp only [and_assoc] at h; exact h.1)), hpr17, HC⟩

set_option maxHeartbeats 4000000 in
set_option maxRecDepth 20000 in
theorem part_step {w : World} {gr : Nat} {Al Ab : Option Addr} {ll cl lb cb : Nat} {bd : Bool} {F Fl : Nat → Prop} {l : List ND} {ab : List TN} {n : Nat} (IH : ∀ m, m + 1 ≤ n → SideOK m) (hln : l.length ≤ n) (hbr : Blk w gr 164 ([.slice Al ll cl, .slice Ab lb cb, .bool bd] : List Value).toArray) (hl : SI w Fl eND Al ll cl l) (hab : RI w F 187 eTN Ab lb cb ab) (hF : (∀ k, w.heap.size ≤ k → F k)) (hF0 : ¬ F 0) (hFgr : ¬ F gr) (hgr0 : gr ≠ 0) (hFl : (∀ k, Fl k → k < w.heap.size ∧ ¬ F k ∧ k ≠ gr)) (hll : ll ≤ 100000000) (hlbn : lb + n ≤ 100000000) (hrnd : Sl w (fun k => k = 0) u32v (some ⟨0, 0, none⟩) 64 64 rk) :
    Calls Tryd.prog 88 #[.pointer (some ⟨gr, 0, none⟩)] w fun e w' => ∃ h Al' ll' cl' Ab' cb' bd' l', e = .returned (hv h) ∧ Blk w' gr 164 ([.slice Al' ll' cl', .slice Ab' lb cb', .bool bd'] : List Value).toArray ∧ SI w' Fl eND Al' ll' cl' l' ∧ RI w' F 187 eTN Ab' lb cb' ab ∧ PR ab l bd h l' bd' ∧ Ch (fun k => F k ∨ k = gr) w w' := by
  have hltgr := hbr.lt
  have hlle := hl.len
  have habl := hab.len
  have hn0 : 0 < w.heap.size := hrnd.size (by omega) rfl
  have hn1 := hn0
  have HC : Ch (fun k => F k ∨ k = gr) w w := Ch.refl _ _
  refine enter' (args := [.pointer (some ⟨gr, 0, none⟩)]) (n := 123) Tryd.func88 rfl rfl rfl ?_
  refine wc_seq ?_
  refine wc_region ?_
  have hltgr := hbr.lt
  refine wle rfl (e_alloc (cs := ((List.replicate 32 (0 : UInt8)).map u8v).toArray) rfl (by rfl) rfl (fun w1 g2 hg2 hb2 hc hsz2 => ?_))
  have hzw1 := hc.size
  have HC := HC.tr hc
  have hbr := hbr.ch hc (fun h => h)
  have hl := hl.no hc
  have hab := hab.after hc
  have hrnd := hrnd.no hc
  have hge2 : w.heap.size ≤ g2 := by have := HC.size; omega
  have negr_2 : gr < g2 := by omega
  refine wl_nil ?_
  refine x_seq ?_
  refine wc_seq ?_
  refine wc_seq ?_
  refine wc_region ?_
  refine wl rfl rfl rfl (p_mv rfl) ?_
  refine wl rfl rfl rfl (p_nck rfl) ?_
  refine wl rfl rfl rfl (p_fld (j := 2) Tryd.underlying164 rfl ⟨_, by rfl⟩ rfl rfl) ?_
  refine wl rfl rfl rfl (p_ld Tryd.underlying4 rfl rfl (ld (cell_at (p := ([.slice Al ll cl, .slice Ab lb cb] : List Value)) (v := (.bool bd : Value)) (r := []) hbr (by simp only [List.append_assoc, List.cons_append, List.nil_append, List.append_nil]) (by first | rfl | (simp only [List.length_append, List.length_map, List.length_cons, List.length_nil]; done) | (simp only [List.length_append, List.length_map, List.length_cons, List.length_nil, List.size_toArray]; done))))) ?_
  refine wl rfl rfl rfl (p_mv rfl) ?_
  refine wl_split (d := 11) rfl (fun q11 => ?_) (fun q11 => ?_)
  ·
   refine wl_s (gd_ rfl rfl rfl rfl rfl rfl) rfl rfl ?_
   refine wl_s (gd_ rfl rfl rfl rfl rfl rfl) rfl rfl ?_
   refine wl_s (gd_ rfl rfl rfl rfl rfl rfl) rfl rfl ?_
   refine wl_s (gd_ rfl rfl rfl rfl rfl rfl) rfl rfl ?_
   refine wl_s (gd_ rfl rfl rfl rfl rfl rfl) rfl rfl ?_
   refine wl_s (gd_ rfl rfl rfl rfl rfl rfl) rfl rfl ?_
   refine wl rfl rfl rfl (p_pickT rfl rfl) ?_
   refine wl_nil ?_
   refine x_seq ?_
   refine wc_yes rfl (rfl) ?_
   refine wc_seq ?_
   refine wc_region ?_
   refine wl rfl rfl rfl (p_mv rfl) ?_
   refine wl rfl rfl rfl (p_nck rfl) ?_
   refine wl rfl rfl rfl (p_fld (j := 2) Tryd.underlying164 rfl ⟨_, by rfl⟩ rfl rfl) ?_
   refine wle rfl (e_stC (p := ([.slice Al ll cl, .slice Ab lb cb] : List Value)) (u := (.bool bd : Value)) (r := []) (v := .bool true) (by rfl) rfl rfl rfl hbr (by simp only [List.append_assoc, List.cons_append, List.nil_append, List.append_nil]) (by first | rfl | (simp only [List.length_append, List.length_map, List.length_cons, List.length_nil]; done) | (simp only [List.length_append, List.length_map, List.length_cons, List.length_nil, List.size_toArray]; done)) (fun w2 hbr hc hsz => ?_))
   have hbr : Blk w2 gr 164 ([.slice Al ll cl, .slice Ab lb cb, .bool true] : List Value).toArray := by have h := hbr; simp only [List.append_assoc, List.cons_append, List.nil_append, List.append_nil] at h ⊢; exact h
   have hzw2 := hc.size
   have HC := HC.trans hc (fun _ _ h => h) (fun k hk ht => .inr ht)
   have hl := hl.ch hc (by intro k hk ht; exact (hFl k hk).2.2 ht)
   have hab := hab.ch hc (by intro k hz hk ht; (subst ht; first | exact absurd hk hFgr | ((try simp only [and_assoc] at hk); exact absurd hk.1 hFgr)))
   have hrnd := hrnd.ch hc (by intro k hk ht; omega)
   have hb2 := hb2.ch hc (by omega)
   refine wl_nil ?_
   refine x_seq ?_
   refine wc_seq ?_
   refine wc_region ?_
   refine wl rfl rfl rfl (p_bldP (cs := ((List.replicate 32 (0 : UInt8)).map u8v).toArray) rfl (fun _ => by kernel_rfl)) ?_
   refine wle rfl (e_stH sz38 (List.length_replicate ..) (List.length_replicate ..) rfl rfl hb2 (fun w3 hb2 hc hsz => ?_))
   have hzw3 := hc.size
   have HC := HC.trans hc (fun _ _ h => h) (fun k hk ht => absurd ht (by omega))
   have hbr := hbr.ch hc (by omega)
   have hl := hl.ch hc (by intro k hk ht; have h1 := (hFl k hk).1; omega)
   have hab := hab.ch hc (by intro k hz hk ht; omega)
   have hrnd := hrnd.ch hc (by intro k hk ht; omega)
   refine wl_nil ?_
   refine x_seq ?_
   refine wc_ret ?_
   refine x_then_ret ?_
   refine fin_run (resC (cs := List.map u8v (List.replicate 32 (0 : UInt8))) rfl rfl Tryd.underlying38 rfl (szL sz38 (by rw [List.length_map]; exact (List.length_replicate ..))) (rngL hb2)) ?_
   exact ⟨_, _, _, _, _, _, _, _, rfl, hbr, hl, hab.mono (by intro k hk h; first | exact h | ((try simp only [and_assoc] at h); exact h.1)), (by rw [show bd = true by simpa using q11]; exact PR.bad), HC⟩
  ·
   refine wl_g (gd_ rfl rfl rfl rfl rfl rfl) rfl rfl (p_mv rfl) ?_
   refine wl_g (gd_ rfl rfl rfl rfl rfl rfl) rfl rfl (p_nck rfl) ?_
   refine wl_g (gd_ rfl rfl rfl rfl rfl rfl) rfl rfl (p_fld (j := 0) Tryd.underlying164 rfl ⟨_, by rfl⟩ rfl rfl) ?_
   refine wl_g (gd_ rfl rfl rfl rfl rfl rfl) rfl rfl (p_ld Tryd.underlying33 rfl rfl (ld (cell_at (p := []) (v := (.slice Al ll cl : Value)) (r := ([.slice Ab lb cb, .bool bd] : List Value)) hbr (by simp only [List.append_assoc, List.cons_append, List.nil_append, List.append_nil]) (by first | rfl | (simp only [List.length_append, List.length_map, List.length_cons, List.length_nil]; done) | (simp only [List.length_append, List.length_map, List.length_cons, List.length_nil, List.size_toArray]; done))))) ?_
   refine wl_g (gd_ rfl rfl rfl rfl rfl rfl) rfl rfl (p_lenS Tryd.underlying33 rfl) ?_
   refine wl_g (gd_ rfl rfl rfl rfl rfl rfl) rfl rfl (p_eq rfl rfl) ?_
   refine wl rfl rfl rfl (p_pickF rfl rfl) ?_
   refine wl_nil ?_
   refine x_seq ?_
   refine wc_if rfl (fun c0 => ?_) (fun c0 => ?_)
   ·
    have c0 := of_decide_eq_true c0
    refine wc_seq ?_
    refine wc_region ?_
    refine wl rfl rfl rfl (p_mv rfl) ?_
    refine wl rfl rfl rfl (p_nck rfl) ?_
    refine wl rfl rfl rfl (p_fld (j := 2) Tryd.underlying164 rfl ⟨_, by rfl⟩ rfl rfl) ?_
    refine wle rfl (e_stC (p := ([.slice Al ll cl, .slice Ab lb cb] : List Value)) (u := (.bool bd : Value)) (r := []) (v := .bool true) (by rfl) rfl rfl rfl hbr (by simp only [List.append_assoc, List.cons_append, List.nil_append, List.append_nil]) (by first | rfl | (simp only [List.length_append, List.length_map, List.length_cons, List.length_nil]; done) | (simp only [List.length_append, List.length_map, List.length_cons, List.length_nil, List.size_toArray]; done)) (fun w4 hbr hc hsz => ?_))
    have hbr : Blk w4 gr 164 ([.slice Al ll cl, .slice Ab lb cb, .bool true] : List Value).toArray := by have h := hbr; simp only [List.append_assoc, List.cons_append, List.nil_append, List.append_nil] at h ⊢; exact h
    have hzw4 := hc.size
    have HC := HC.trans hc (fun _ _ h => h) (fun k hk ht => .inr ht)
    have hl := hl.ch hc (by intro k hk ht; exact (hFl k hk).2.2 ht)
    have hab := hab.ch hc (by intro k hz hk ht; (subst ht; first | exact absurd hk hFgr | ((try simp only [and_assoc] at hk); exact absurd hk.1 hFgr)))
    have hrnd := hrnd.ch hc (by intro k hk ht; omega)
    have hb2 := hb2.ch hc (by omega)
    refine wl_nil ?_
    refine x_seq ?_
    refine wc_seq ?_
    refine wc_region ?_
    refine wl rfl rfl rfl (p_bldP (cs := ((List.replicate 32 (0 : UInt8)).map u8v).toArray) rfl (fun _ => by kernel_rfl)) ?_
    refine wle rfl (e_stH sz38 (List.length_replicate ..) (List.length_replicate ..) rfl rfl hb2 (fun w5 hb2 hc hsz => ?_))
    have hzw5 := hc.size
    have HC := HC.trans hc (fun _ _ h => h) (fun k hk ht => absurd ht (by omega))
    have hbr := hbr.ch hc (by omega)
    have hl := hl.ch hc (by intro k hk ht; have h1 := (hFl k hk).1; omega)
    have hab := hab.ch hc (by intro k hz hk ht; omega)
    have hrnd := hrnd.ch hc (by intro k hk ht; omega)
    refine wl_nil ?_
    refine x_seq ?_
    refine wc_ret ?_
    refine x_then_ret ?_
    refine fin_run (resC (cs := List.map u8v (List.replicate 32 (0 : UInt8))) rfl rfl Tryd.underlying38 rfl (szL sz38 (by rw [List.length_map]; exact (List.length_replicate ..))) (rngL hb2)) ?_
    have hbd : bd = false := by simpa using q11
    exact ⟨_, _, _, _, _, _, _, _, rfl, hbr, hl, hab.mono (by intro k hk h; first | exact h | ((try simp only [and_assoc] at h); exact h.1)), (by rw [List.eq_nil_of_length_eq_zero (show l.length = 0 by omega)]; exact PR.nil), HC⟩
   ·
    have c0 := of_decide_eq_false c0
    refine wc_skip ?_
    refine x_seq ?_
    refine wc_seq ?_
    refine wc_region ?_
    refine wl rfl rfl rfl (p_mv rfl) ?_
    refine wl rfl rfl rfl (p_nck rfl) ?_
    refine wl rfl rfl rfl (p_fld (j := 0) Tryd.underlying164 rfl ⟨_, by rfl⟩ rfl rfl) ?_
    refine wl rfl rfl rfl (p_ld Tryd.underlying33 rfl rfl (ld (cell_at (p := []) (v := (.slice Al ll cl : Value)) (r := ([.slice Ab lb cb, .bool bd] : List Value)) hbr (by simp only [List.append_assoc, List.cons_append, List.nil_append, List.append_nil]) (by first | rfl | (simp only [List.length_append, List.length_map, List.length_cons, List.length_nil]; done) | (simp only [List.length_append, List.length_map, List.length_cons, List.length_nil, List.size_toArray]; done))))) ?_
    obtain ⟨b6, o6, hA6, hF6, hr6⟩ := (hl).opn (i := 0) (d := ND0) (by omega)
    have hok6 := (hl).okAt (i := 0) (d := ND0) (by omega)
    obtain ⟨x6, ex6⟩ : ∃ x_, x_ = List.getD l (0) ND0 := ⟨_, rfl⟩
    rw [← ex6] at hr6 hok6
    obtain ⟨hx6k, hx6v⟩ := hok6
    have hr6 : w1.rangeAt b6 (o6 + 0 * 66) (([i64 x6.kind, i64 x6.bit] ++ ((List.map u8v x6.key) ++ (List.map u8v x6.val))) : List Value) := hr6
    refine wl rfl rfl rfl (p_ixS (j := 0 * 66) Tryd.underlying33 sz115 rfl hA6 rfl (by omega) (by omega) rfl) ?_
    have hlx : l = x6 :: l.drop 1 := by rw [ex6]; exact List.drop_zero.symm.trans (getD_drop (by omega))
    refine wl rfl rfl rfl (p_ldA (cs := (([i64 x6.kind, i64 x6.bit] ++ ((List.map u8v x6.key) ++ (List.map u8v x6.val))) : List Value)) Tryd.underlying115 rfl (szL sz115 (by first | rfl | (simp only [List.length_append, List.length_map, List.length_cons, List.length_nil, (show List.length x6.key = 32 from hx6k), (show List.length x6.val = 32 from hx6v)]; done) | (simp only [List.length_append, List.length_map, List.length_cons, List.length_nil, List.size_toArray, (show List.length x6.key = 32 from hx6k), (show List.length x6.val = 32 from hx6v)]; done))) rfl (fun _ e => e ▸ hr6)) ?_
    have hltgr := hbr.lt
    have hltg2 := hb2.lt
    refine wle rfl (e_alloc (cs := (([Value.int .i64 0, Value.int .i64 0] ++ ((List.map u8v (List.replicate 32 (0 : UInt8))) ++ (List.map u8v (List.replicate 32 (0 : UInt8))))) : List Value).toArray) rfl (by rfl) (by rfl) (fun w7 g3 hg3 hb3 hc hsz3 => ?_))
    have hzw7 := hc.size
    have HC := HC.tr hc
    have hbr := hbr.ch hc (fun h => h)
    have hl := hl.no hc
    have hab := hab.after hc
    have hrnd := hrnd.no hc
    have hb2 := hb2.ch hc (fun h => h)
    have hge3 : w.heap.size ≤ g3 := by have := HC.size; omega
    have negr_3 : gr < g3 := by omega
    have neg2_3 : g2 < g3 := by omega
    refine wle rfl (e_stW (vs := (([i64 x6.kind, i64 x6.bit] ++ ((List.map u8v x6.key) ++ (List.map u8v x6.val))) : List Value)) (szL sz115 (by first | rfl | (simp only [List.length_append, List.length_map, List.length_cons, List.length_nil, (show List.length x6.key = 32 from hx6k), (show List.length x6.val = 32 from hx6v)]; done) | (simp only [List.length_append, List.length_map, List.length_cons, List.length_nil, List.size_toArray, (show List.length x6.key = 32 from hx6k), (show List.length x6.val = 32 from hx6v)]; done))) (oneA (allOne rfl) (oneA (oneL one_u8 _) (oneL one_u8 _))) rfl rfl hb3 (by first | rfl | (simp only [List.length_append, List.length_map, List.length_cons, List.length_nil, (show List.length (List.replicate 32 (0 : UInt8)) = 32 from (List.length_replicate ..)), (show List.length (List.replicate 32 (0 : UInt8)) = 32 from (List.length_replicate ..)), (show List.length x6.key = 32 from hx6k), (show List.length x6.val = 32 from hx6v)]; done) | (simp only [List.length_append, List.length_map, List.length_cons, List.length_nil, List.size_toArray, (show List.length (List.replicate 32 (0 : UInt8)) = 32 from (List.length_replicate ..)), (show List.length (List.replicate 32 (0 : UInt8)) = 32 from (List.length_replicate ..)), (show List.length x6.key = 32 from hx6k), (show List.length x6.val = 32 from hx6v)]; done)) (fun w8 hb3 hc hsz => ?_))
    have hzw8 := hc.size
    have HC := HC.trans hc (fun _ _ h => h) (fun k hk ht => absurd ht (by omega))
    have hbr := hbr.ch hc (by omega)
    have hl := hl.ch hc (by intro k hk ht; have h1 := (hFl k hk).1; omega)
    have hab := hab.ch hc (by intro k hz hk ht; omega)
    have hrnd := hrnd.ch hc (by intro k hk ht; omega)
    have hb2 := hb2.ch hc (by omega)
    refine wl_nil ?_
    refine x_seq ?_
    refine wc_seq ?_
    refine wc_region ?_
    refine wl rfl rfl rfl (p_mv rfl) ?_
    refine wl rfl rfl rfl (p_mv rfl) ?_
    refine wl rfl rfl rfl (p_nck rfl) ?_
    refine wl rfl rfl rfl (p_fld (j := 0) Tryd.underlying164 rfl ⟨_, by rfl⟩ rfl rfl) ?_
    refine wl rfl rfl rfl (p_ld Tryd.underlying33 rfl rfl (ld (cell_at (p := []) (v := (.slice Al ll cl : Value)) (r := ([.slice Ab lb cb, .bool bd] : List Value)) hbr (by simp only [List.append_assoc, List.cons_append, List.nil_append, List.append_nil]) (by first | rfl | (simp only [List.length_append, List.length_map, List.length_cons, List.length_nil]; done) | (simp only [List.length_append, List.length_map, List.length_cons, List.length_nil, List.size_toArray]; done))))) ?_
    have hcp34 := hl.cap
    have hl := hl.cutTo (lo := 1) (by omega)
    obtain ⟨r, hr⟩ : ∃ r, r = l.drop 1 := ⟨_, rfl⟩
    rw [← hr] at hl hlx
    have hrl : r.length + 1 = l.length := by rw [hlx]; rfl
    refine wl rfl rfl rfl (p_slS (l := 1) (h := ll) Tryd.underlying33 sz115 rfl ⟨_, rfl⟩ rfl (by omega) (by have := hcp34; omega) hcp34 (q := ll - 1) (by omega)) ?_
    refine wl rfl rfl rfl (p_nck rfl) ?_
    refine wl rfl rfl rfl (p_fld (j := 0) Tryd.underlying164 rfl ⟨_, by rfl⟩ rfl rfl) ?_
    refine wle rfl (e_stC (p := []) (u := (.slice Al ll cl : Value)) (r := ([.slice Ab lb cb, .bool bd] : List Value)) (v := .slice (cutA Al cl 1 66) (ll - 1) (cl - 1)) (by rfl) rfl rfl rfl hbr (by simp only [List.append_assoc, List.cons_append, List.nil_append, List.append_nil]) (by first | rfl | (simp only [List.length_append, List.length_map, List.length_cons, List.length_nil]; done) | (simp only [List.length_append, List.length_map, List.length_cons, List.length_nil, List.size_toArray]; done)) (fun w9 hbr hc hsz => ?_))
    have hbr : Blk w9 gr 164 ([.slice (cutA Al cl 1 66) (ll - 1) (cl - 1), .slice Ab lb cb, .bool bd] : List Value).toArray := by have h := hbr; simp only [List.append_assoc, List.cons_append, List.nil_append, List.append_nil] at h ⊢; exact h
    have hzw9 := hc.size
    have HC := HC.trans hc (fun _ _ h => h) (fun k hk ht => .inr ht)
    have hab := hab.ch hc (by intro k hz hk ht; (subst ht; first | exact absurd hk hFgr | ((try simp only [and_assoc] at hk); exact absurd hk.1 hFgr)))
    have hrnd := hrnd.ch hc (by intro k hk ht; omega)
    have hb2 := hb2.ch hc (by omega)
    have hb3 := hb3.ch hc (by omega)
    have hl := hl.ch hc (by intro k hk ht; exact (hFl k hk).2.2 ht)
    refine wl_nil ?_
    refine x_seq ?_
    refine wc_seq ?_
    refine wc_region ?_
    refine wl rfl rfl rfl (p_fld (j := 0) Tryd.underlying115 rfl ⟨_, by rfl⟩ rfl rfl) ?_
    refine wl rfl rfl rfl (p_ld Tryd.underlying3 rfl rfl (ld (cell_at (p := []) (v := (i64 x6.kind : Value)) (r := (([i64 x6.bit] ++ ((List.map u8v x6.key) ++ (List.map u8v x6.val))) : List Value)) hb3 (by simp only [List.append_assoc, List.cons_append, List.nil_append, List.append_nil]) (by first | rfl | (simp only [List.length_append, List.length_map, List.length_cons, List.length_nil]; done) | (simp only [List.length_append, List.length_map, List.length_cons, List.length_nil, List.size_toArray]; done))))) ?_
    refine wl rfl rfl rfl (p_bldX (vs' := [i64 x6.kind]) (cs := (([i64 x6.kind, Value.int .i64 0] ++ ((List.map u8v (List.replicate 32 (0 : UInt8))) ++ (List.map u8v (List.replicate 32 (0 : UInt8))))) : List Value)) (cs' := (([i64 x6.kind, Value.int .i64 0] ++ ((hx (List.replicate 32 (0 : UInt8))) ++ (hx (List.replicate 32 (0 : UInt8))))) : List Value)) rfl rfl (by simp only [hv, map_hx (List.length_replicate ..)] <;> rfl) (fun _ => by kernel_rfl)) ?_
    have hltgr := hbr.lt
    have hltg2 := hb2.lt
    have hltg3 := hb3.lt
    refine wle rfl (e_alloc (cs := (([Value.int .i64 0, Value.int .i64 0] ++ ((List.map u8v (List.replicate 32 (0 : UInt8))) ++ (List.map u8v (List.replicate 32 (0 : UInt8))))) : List Value).toArray) rfl (by rfl) (by rfl) (fun w10 g4 hg4 hb4 hc hsz4 => ?_))
    have hzw10 := hc.size
    have HC := HC.tr hc
    have hbr := hbr.ch hc (fun h => h)
    have hab := hab.after hc
    have hrnd := hrnd.no hc
    have hb2 := hb2.ch hc (fun h => h)
    have hb3 := hb3.ch hc (fun h => h)
    have hl := hl.no hc
    have hge4 : w.heap.size ≤ g4 := by have := HC.size; omega
    have negr_4 : gr < g4 := by omega
    have neg2_4 : g2 < g4 := by omega
    have neg3_4 : g3 < g4 := by omega
    refine wle rfl (e_stW (vs := (([i64 x6.kind, Value.int .i64 0] ++ ((List.map u8v (List.replicate 32 (0 : UInt8))) ++ (List.map u8v (List.replicate 32 (0 : UInt8))))) : List Value)) (szL sz115 (by first | rfl | (simp only [List.length_append, List.length_map, List.length_cons, List.length_nil, (show List.length (List.replicate 32 (0 : UInt8)) = 32 from (List.length_replicate ..)), (show List.length (List.replicate 32 (0 : UInt8)) = 32 from (List.length_replicate ..))]; done) | (simp only [List.length_append, List.length_map, List.length_cons, List.length_nil, List.size_toArray, (show List.length (List.replicate 32 (0 : UInt8)) = 32 from (List.length_replicate ..)), (show List.length (List.replicate 32 (0 : UInt8)) = 32 from (List.length_replicate ..))]; done))) (oneA (allOne rfl) (oneA (oneL one_u8 _) (oneL one_u8 _))) rfl rfl hb4 (by first | rfl | (simp only [List.length_append, List.length_map, List.length_cons, List.length_nil, (show List.length (List.replicate 32 (0 : UInt8)) = 32 from (List.length_replicate ..)), (show List.length (List.replicate 32 (0 : UInt8)) = 32 from (List.length_replicate ..)), (show List.length (List.replicate 32 (0 : UInt8)) = 32 from (List.length_replicate ..)), (show List.length (List.replicate 32 (0 : UInt8)) = 32 from (List.length_replicate ..))]; done) | (simp only [List.length_append, List.length_map, List.length_cons, List.length_nil, List.size_toArray, (show List.length (List.replicate 32 (0 : UInt8)) = 32 from (List.length_replicate ..)), (show List.length (List.replicate 32 (0 : UInt8)) = 32 from (List.length_replicate ..)), (show List.length (List.replicate 32 (0 : UInt8)) = 32 from (List.length_replicate ..)), (show List.length (List.replicate 32 (0 : UInt8)) = 32 from (List.length_replicate ..))]; done)) (fun w11 hb4 hc hsz => ?_))
    have hzw11 := hc.size
    have HC := HC.trans hc (fun _ _ h => h) (fun k hk ht => absurd ht (by omega))
    have hbr := hbr.ch hc (by omega)
    have hab := hab.ch hc (by intro k hz hk ht; omega)
    have hrnd := hrnd.ch hc (by intro k hk ht; omega)
    have hb2 := hb2.ch hc (by omega)
    have hb3 := hb3.ch hc (by omega)
    have hl := hl.ch hc (by intro k hk ht; have h1 := (hFl k hk).1; omega)
    refine wl_nil ?_
    refine x_seq ?_
    refine wc_seq ?_
    refine wc_seq ?_
    refine wc_region ?_
    refine wl rfl rfl rfl (p_fld (j := 0) Tryd.underlying115 rfl ⟨_, by rfl⟩ rfl rfl) ?_
    refine wl rfl rfl rfl (p_ld Tryd.underlying3 rfl rfl (ld (cell_at (p := []) (v := (i64 x6.kind : Value)) (r := (([i64 x6.bit] ++ ((List.map u8v x6.key) ++ (List.map u8v x6.val))) : List Value)) hb3 (by simp only [List.append_assoc, List.cons_append, List.nil_append, List.append_nil]) (by first | rfl | (simp only [List.length_append, List.length_map, List.length_cons, List.length_nil]; done) | (simp only [List.length_append, List.length_map, List.length_cons, List.length_nil, List.size_toArray]; done))))) ?_
    refine wl_nil ?_
    refine x_seq ?_
    refine wc_block ?_
    refine wc_seq ?_
    refine wc_region ?_
    refine wl rfl rfl rfl (p_eq rfl rfl) ?_
    refine wl rfl rfl rfl (p_as rfl) ?_
    refine wl_nil ?_
    refine x_seq ?_
    refine wc_if rfl (fun c1 => ?_) (fun c1 => ?_)
    ·
     have c1 := of_decide_eq_true c1
     refine wc_seq ?_
     refine wc_region ?_
     refine wl rfl rfl rfl (p_fld (j := 34) Tryd.underlying115 rfl ⟨_, by rfl⟩ rfl rfl) ?_
     refine wl rfl rfl rfl (p_ldA (cs := (List.map u8v x6.val)) Tryd.underlying38 rfl (szL sz38 (by first | rfl | (simp only [List.length_append, List.length_map, List.length_cons, List.length_nil, (show List.length x6.val = 32 from hx6v)]; done) | (simp only [List.length_append, List.length_map, List.length_cons, List.length_nil, List.size_toArray, (show List.length x6.val = 32 from hx6v)]; done))) rfl (fun _ e => e ▸ rng_at (p := (([i64 x6.kind, i64 x6.bit] ++ (List.map u8v x6.key)) : List Value)) (q := ((List.map u8v x6.val) : List Value)) (r := []) hb3 (by simp only [List.append_assoc, List.cons_append, List.nil_append, List.append_nil]) (by first | rfl | (simp only [List.length_append, List.length_map, List.length_cons, List.length_nil, (show List.length x6.key = 32 from hx6k)]; done) | (simp only [List.length_append, List.length_map, List.length_cons, List.length_nil, List.size_toArray, (show List.length x6.key = 32 from hx6k)]; done)))) ?_
     refine wl rfl rfl rfl (p_fld (j := 34) Tryd.underlying115 rfl ⟨_, by rfl⟩ rfl rfl) ?_
     refine wle rfl (e_stR2 (p := (([i64 x6.kind, Value.int .i64 0] ++ (List.map u8v (List.replicate 32 (0 : UInt8)))) : List Value)) (q := ((List.map u8v (List.replicate 32 (0 : UInt8))) : List Value)) (r := []) (vs := ((List.map u8v x6.val) : List Value)) (szL sz38 (by first | rfl | (simp only [List.length_append, List.length_map, List.length_cons, List.length_nil, (show List.length x6.val = 32 from hx6v)]; done) | (simp only [List.length_append, List.length_map, List.length_cons, List.length_nil, List.size_toArray, (show List.length x6.val = 32 from hx6v)]; done))) (oneL one_u8 _) rfl rfl hb4 (by simp only [List.append_assoc, List.cons_append, List.nil_append, List.append_nil]) (by first | rfl | (simp only [List.length_append, List.length_map, List.length_cons, List.length_nil, (show List.length (List.replicate 32 (0 : UInt8)) = 32 from (List.length_replicate ..))]; done) | (simp only [List.length_append, List.length_map, List.length_cons, List.length_nil, List.size_toArray, (show List.length (List.replicate 32 (0 : UInt8)) = 32 from (List.length_replicate ..))]; done)) (by first | rfl | (simp only [List.length_append, List.length_map, List.length_cons, List.length_nil, (show List.length x6.val = 32 from hx6v), (show List.length (List.replicate 32 (0 : UInt8)) = 32 from (List.length_replicate ..))]; done) | (simp only [List.length_append, List.length_map, List.length_cons, List.length_nil, List.size_toArray, (show List.length x6.val = 32 from hx6v), (show List.length (List.replicate 32 (0 : UInt8)) = 32 from (List.length_replicate ..))]; done)) (fun w12 hb4 hc hsz => ?_))
     have hb4 : Blk w12 g4 115 (([i64 x6.kind, Value.int .i64 0] ++ ((List.map u8v (List.replicate 32 (0 : UInt8))) ++ (List.map u8v x6.val))) : List Value).toArray := by have h := hb4; simp only [List.append_assoc, List.cons_append, List.nil_append, List.append_nil] at h ⊢; exact h
     have hzw12 := hc.size
     have HC := HC.trans hc (fun _ _ h => h) (fun k hk ht => absurd ht (by omega))
     have hbr := hbr.ch hc (by omega)
     have hab := hab.ch hc (by intro k hz hk ht; omega)
     have hrnd := hrnd.ch hc (by intro k hk ht; omega)
     have hb2 := hb2.ch hc (by omega)
     have hb3 := hb3.ch hc (by omega)
     have hl := hl.ch hc (by intro k hk ht; have h1 := (hFl k hk).1; omega)
     refine wl_nil ?_
     refine x_seq ?_
     refine wc_seq ?_
     refine wc_region ?_
     refine wl rfl rfl rfl (p_mv rfl) ?_
     refine wl rfl rfl rfl (p_ldA (cs := (([i64 x6.kind, i64 x6.bit] ++ ((List.map u8v x6.key) ++ (List.map u8v x6.val))) : List Value)) Tryd.underlying115 rfl (szL sz115 (by first | rfl | (simp only [List.length_append, List.length_map, List.length_cons, List.length_nil, (show List.length x6.key = 32 from hx6k), (show List.length x6.val = 32 from hx6v)]; done) | (simp only [List.length_append, List.length_map, List.length_cons, List.length_nil, List.size_toArray, (show List.length x6.key = 32 from hx6k), (show List.length x6.val = 32 from hx6v)]; done))) rfl (fun _ e => e ▸ rngL hb3)) ?_
     refine wl rfl rfl rfl (p_ldA (cs := (([i64 x6.kind, Value.int .i64 0] ++ ((List.map u8v (List.replicate 32 (0 : UInt8))) ++ (List.map u8v x6.val))) : List Value)) Tryd.underlying115 rfl (szL sz115 (by first | rfl | (simp only [List.length_append, List.length_map, List.length_cons, List.length_nil, (show List.length (List.replicate 32 (0 : UInt8)) = 32 from (List.length_replicate ..)), (show List.length x6.val = 32 from hx6v)]; done) | (simp only [List.length_append, List.length_map, List.length_cons, List.length_nil, List.size_toArray, (show List.length (List.replicate 32 (0 : UInt8)) = 32 from (List.length_replicate ..)), (show List.length x6.val = 32 from hx6v)]; done))) rfl (fun _ e => e ▸ rngL hb4)) ?_
     refine wl rfl rfl rfl (p_neV (by kernel_rfl) rfl rfl (eqv_struct Tryd.underlying115 (by kernel_rfl) (eqf_cons rfl (part_c (cs := (([i64 x6.kind, i64 x6.bit] ++ ((List.map u8v x6.key) ++ (List.map u8v x6.val))) : List Value)) (p := []) (v := i64 x6.kind) (r := (([i64 x6.bit] ++ ((List.map u8v x6.key) ++ (List.map u8v x6.val))) : List Value)) Tryd.underlying3 rfl (by first | rfl | simp only [List.append_assoc, List.cons_append, List.nil_append, List.append_nil]) rfl) (part_c (cs := (([i64 x6.kind, Value.int .i64 0] ++ ((List.map u8v (List.replicate 32 (0 : UInt8))) ++ (List.map u8v x6.val))) : List Value)) (p := []) (v := i64 x6.kind) (r := (([Value.int .i64 0] ++ ((List.map u8v (List.replicate 32 (0 : UInt8))) ++ (List.map u8v x6.val))) : List Value)) Tryd.underlying3 rfl (by first | rfl | simp only [List.append_assoc, List.cons_append, List.nil_append, List.append_nil]) rfl) (eqv_int Tryd.underlying3) (eqf_cons rfl (part_c (cs := (([i64 x6.kind, i64 x6.bit] ++ ((List.map u8v x6.key) ++ (List.map u8v x6.val))) : List Value)) (p := ([i64 x6.kind] : List Value)) (v := i64 x6.bit) (r := (((List.map u8v x6.key) ++ (List.map u8v x6.val)) : List Value)) Tryd.underlying3 rfl (by first | rfl | simp only [List.append_assoc, List.cons_append, List.nil_append, List.append_nil]) (by first | rfl | (simp only [List.length_append, List.length_map, List.length_cons, List.length_nil]; done) | (simp only [List.length_append, List.length_map, List.length_cons, List.length_nil, List.size_toArray]; done))) (part_c (cs := (([i64 x6.kind, Value.int .i64 0] ++ ((List.map u8v (List.replicate 32 (0 : UInt8))) ++ (List.map u8v x6.val))) : List Value)) (p := ([i64 x6.kind] : List Value)) (v := Value.int .i64 0) (r := (((List.map u8v (List.replicate 32 (0 : UInt8))) ++ (List.map u8v x6.val)) : List Value)) Tryd.underlying3 rfl (by first | rfl | simp only [List.append_assoc, List.cons_append, List.nil_append, List.append_nil]) (by first | rfl | (simp only [List.length_append, List.length_map, List.length_cons, List.length_nil]; done) | (simp only [List.length_append, List.length_map, List.length_cons, List.length_nil, List.size_toArray]; done))) (eqv_int Tryd.underlying3) (eqf_cons rfl (part_h (cs := (([i64 x6.kind, i64 x6.bit] ++ ((List.map u8v x6.key) ++ (List.map u8v x6.val))) : List Value)) (p := ([i64 x6.kind, i64 x6.bit] : List Value)) (L := x6.key) (r := ((List.map u8v x6.val) : List Value)) Tryd.underlying38 rfl sz38 (hx6k) (by first | rfl | simp only [List.append_assoc, List.cons_append, List.nil_append, List.append_nil]) (by first | rfl | (simp only [List.length_append, List.length_map, List.length_cons, List.length_nil]; done) | (simp only [List.length_append, List.length_map, List.length_cons, List.length_nil, List.size_toArray]; done))) (part_h (cs := (([i64 x6.kind, Value.int .i64 0] ++ ((List.map u8v (List.replicate 32 (0 : UInt8))) ++ (List.map u8v x6.val))) : List Value)) (p := ([i64 x6.kind, Value.int .i64 0] : List Value)) (L := (List.replicate 32 (0 : UInt8))) (r := ((List.map u8v x6.val) : List Value)) Tryd.underlying38 rfl sz38 ((List.length_replicate ..)) (by first | rfl | simp only [List.append_assoc, List.cons_append, List.nil_append, List.append_nil]) (by first | rfl | (simp only [List.length_append, List.length_map, List.length_cons, List.length_nil]; done) | (simp only [List.length_append, List.length_map, List.length_cons, List.length_nil, List.size_toArray]; done))) (eqv_hash Tryd.underlying38 Tryd.underlying5 sz5 (hx6k) ((List.length_replicate ..))) (eqf_cons rfl (part_h (cs := (([i64 x6.kind, i64 x6.bit] ++ ((List.map u8v x6.key) ++ (List.map u8v x6.val))) : List Value)) (p := (([i64 x6.kind, i64 x6.bit] ++ (List.map u8v x6.key)) : List Value)) (L := x6.val) (r := []) Tryd.underlying38 rfl sz38 (hx6v) (by first | rfl | simp only [List.append_assoc, List.cons_append, List.nil_append, List.append_nil]) (by first | rfl | (simp only [List.length_append, List.length_map, List.length_cons, List.length_nil, (show List.length x6.key = 32 from hx6k)]; done) | (simp only [List.length_append, List.length_map, List.length_cons, List.length_nil, List.size_toArray, (show List.length x6.key = 32 from hx6k)]; done))) (part_h (cs := (([i64 x6.kind, Value.int .i64 0] ++ ((List.map u8v (List.replicate 32 (0 : UInt8))) ++ (List.map u8v x6.val))) : List Value)) (p := (([i64 x6.kind, Value.int .i64 0] ++ (List.map u8v (List.replicate 32 (0 : UInt8)))) : List Value)) (L := x6.val) (r := []) Tryd.underlying38 rfl sz38 (hx6v) (by first | rfl | simp only [List.append_assoc, List.cons_append, List.nil_append, List.append_nil]) (by first | rfl | (simp only [List.length_append, List.length_map, List.length_cons, List.length_nil, (show List.length (List.replicate 32 (0 : UInt8)) = 32 from (List.length_replicate ..))]; done) | (simp only [List.length_append, List.length_map, List.length_cons, List.length_nil, List.size_toArray, (show List.length (List.replicate 32 (0 : UInt8)) = 32 from (List.length_replicate ..))]; done))) (eqv_hash Tryd.underlying38 Tryd.underlying5 sz5 (hx6v) (hx6v)) (eqf_nil))))))) ?_
     refine wl rfl rfl rfl (p_nck rfl) ?_
     refine wl rfl rfl rfl (p_fld (j := 2) Tryd.underlying164 rfl ⟨_, by rfl⟩ rfl rfl) ?_
     refine wle rfl (e_stC (p := ([.slice (cutA Al cl 1 66) (ll - 1) (cl - 1), .slice Ab lb cb] : List Value)) (u := (.bool bd : Value)) (r := []) (v := .bool (!(decide (x6.kind = x6.kind) && (decide (x6.bit = 0) && ((x6.key == List.replicate 32 (0 : UInt8)) && ((x6.val == x6.val) && true)))))) (by rfl) rfl rfl rfl hbr (by simp only [List.append_assoc, List.cons_append, List.nil_append, List.append_nil]) (by first | rfl | (simp only [List.length_append, List.length_map, List.length_cons, List.length_nil]; done) | (simp only [List.length_append, List.length_map, List.length_cons, List.length_nil, List.size_toArray]; done)) (fun w13 hbr hc hsz => ?_))
     have hbr : Blk w13 gr 164 ([.slice (cutA Al cl 1 66) (ll - 1) (cl - 1), .slice Ab lb cb, .bool (!(decide (x6.kind = x6.kind) && (decide (x6.bit = 0) && ((x6.key == List.replicate 32 (0 : UInt8)) && ((x6.val == x6.val) && true)))))] : List Value).toArray := by have h := hbr; simp only [List.append_assoc, List.cons_append, List.nil_append, List.append_nil] at h ⊢; exact h
     have hzw13 := hc.size
     have HC := HC.trans hc (fun _ _ h => h) (fun k hk ht => .inr ht)
     have hab := hab.ch hc (by intro k hz hk ht; (subst ht; first | exact absurd hk hFgr | ((try simp only [and_assoc] at hk); exact absurd hk.1 hFgr)))
     have hrnd := hrnd.ch hc (by intro k hk ht; omega)
     have hb2 := hb2.ch hc (by omega)
     have hb3 := hb3.ch hc (by omega)
     have hl := hl.ch hc (by intro k hk ht; exact (hFl k hk).2.2 ht)
     have hb4 := hb4.ch hc (by omega)
     refine wl_nil ?_
     refine x_seq ?_
     refine wc_seq ?_
     refine wc_region ?_
     refine wl rfl rfl rfl (p_fld (j := 34) Tryd.underlying115 rfl ⟨_, by rfl⟩ rfl rfl) ?_
     refine wl rfl rfl rfl (p_ldA (cs := (List.map u8v x6.val)) Tryd.underlying38 rfl (szL sz38 (by first | rfl | (simp only [List.length_append, List.length_map, List.length_cons, List.length_nil, (show List.length x6.val = 32 from hx6v)]; done) | (simp only [List.length_append, List.length_map, List.length_cons, List.length_nil, List.size_toArray, (show List.length x6.val = 32 from hx6v)]; done))) rfl (fun _ e => e ▸ rng_at (p := (([i64 x6.kind, i64 x6.bit] ++ (List.map u8v x6.key)) : List Value)) (q := ((List.map u8v x6.val) : List Value)) (r := []) hb3 (by simp only [List.append_assoc, List.cons_append, List.nil_append, List.append_nil]) (by first | rfl | (simp only [List.length_append, List.length_map, List.length_cons, List.length_nil, (show List.length x6.key = 32 from hx6k)]; done) | (simp only [List.length_append, List.length_map, List.length_cons, List.length_nil, List.size_toArray, (show List.length x6.key = 32 from hx6k)]; done)))) ?_
     refine wle rfl (e_stH sz38 (List.length_replicate ..) hx6v rfl rfl hb2 (fun w14 hb2 hc hsz => ?_))
     have hzw14 := hc.size
     have HC := HC.trans hc (fun _ _ h => h) (fun k hk ht => absurd ht (by omega))
     have hbr := hbr.ch hc (by omega)
     have hab := hab.ch hc (by intro k hz hk ht; omega)
     have hrnd := hrnd.ch hc (by intro k hk ht; omega)
     have hb3 := hb3.ch hc (by omega)
     have hl := hl.ch hc (by intro k hk ht; have h1 := (hFl k hk).1; omega)
     have hb4 := hb4.ch hc (by omega)
     refine wl_nil ?_
     refine x_seq ?_
     refine wc_ret ?_
     refine x_in_ret ?_
     refine x_then_ret ?_
     refine fin_run (resC (cs := List.map u8v x6.val) rfl rfl Tryd.underlying38 rfl (szL sz38 (by rw [List.length_map]; exact hx6v)) (rngL hb2)) ?_
     have hbd : bd = false := by simpa using q11
     exact ⟨_, _, _, _, _, _, _, _, rfl, hbr, hl, hab.mono (by intro k hk h; first | exact h | ((try simp only [and_assoc] at h); exact h.1)), (by rw [hlx, hbd]; exact PR.cut c1 hx6v (by simp [zeroH])), HC⟩
    ·
     have c1 := of_decide_eq_false c1
     refine wc_seq ?_
     refine wc_region ?_
     refine wl rfl rfl rfl (p_eq rfl rfl) ?_
     refine wl rfl rfl rfl (p_as rfl) ?_
     refine wl_nil ?_
     refine x_seq ?_
     refine wc_if rfl (fun c2 => ?_) (fun c2 => ?_)
     ·
      have c2 := of_decide_eq_true c2
      refine wc_seq ?_
      refine wc_draw (.st 0 0 (.st 1 1 (.st 2 0 (.st 3 1 (.st 4 0 (.st 5 2 (.st 6 0 (.st 7 3 .nil)))))))) 7 (by kernel_rfl) (by kernel_rfl) (by kernel_rfl) (by repeat (first | with_reducible exact pan_body | with_reducible apply pan_then | with_reducible apply pan_in)) (fun z => Ch (fun k => k = g4) w11.drew z) (Ch.refl _ _) ?_
      obtain ⟨w15, ew15⟩ : ∃ x, x = w11.drew := ⟨_, rfl⟩
      rw [← ew15]
      have hc : Ch No w11 w15 := by rw [ew15]; exact Ch.drew _
      have hszw15 : w15.heap.size = w11.heap.size := by rw [ew15]; rfl
      clear ew15
      have hzw15 := hc.size
      have HC := HC.tr hc
      have hbr := hbr.ch hc (fun h => h)
      have hab := hab.no hc
      have hrnd := hrnd.no hc
      have hb2 := hb2.ch hc (fun h => h)
      have hb3 := hb3.ch hc (fun h => h)
      have hl := hl.no hc
      have hb4 := hb4.ch hc (fun h => h)
      have hS : Ch (fun k => k = g4) w15 w15 := Ch.refl _ _
      refine ws_p rfl rfl rfl rfl (p_fld (j := 2) Tryd.underlying115 rfl ⟨_, by rfl⟩ rfl rfl) ?_
      refine ws_h rfl rfl rfl rfl (p_ldA (cs := (List.map u8v x6.key)) Tryd.underlying38 rfl (szL sz38 (by first | rfl | (simp only [List.length_append, List.length_map, List.length_cons, List.length_nil, (show List.length x6.key = 32 from hx6k)]; done) | (simp only [List.length_append, List.length_map, List.length_cons, List.length_nil, List.size_toArray, (show List.length x6.key = 32 from hx6k)]; done))) rfl (fun _ h => rng_at (p := ([i64 x6.kind, i64 x6.bit] : List Value)) (q := ((List.map u8v x6.key) : List Value)) (r := ((List.map u8v x6.val) : List Value)) (hb3.ch h (fun ht => absurd ht (by omega))) (by simp only [List.append_assoc, List.cons_append, List.nil_append, List.append_nil]) (by first | rfl | (simp only [List.length_append, List.length_map, List.length_cons, List.length_nil]; done) | (simp only [List.length_append, List.length_map, List.length_cons, List.length_nil, List.size_toArray]; done)))) ?_
      refine ws_p rfl rfl rfl rfl (p_fld (j := 34) Tryd.underlying115 rfl ⟨_, by rfl⟩ rfl rfl) ?_
      refine ws_h rfl rfl rfl rfl (p_ldA (cs := (List.map u8v x6.val)) Tryd.underlying38 rfl (szL sz38 (by first | rfl | (simp only [List.length_append, List.length_map, List.length_cons, List.length_nil, (show List.length x6.val = 32 from hx6v)]; done) | (simp only [List.length_append, List.length_map, List.length_cons, List.length_nil, List.size_toArray, (show List.length x6.val = 32 from hx6v)]; done))) rfl (fun _ h => rng_at (p := (([i64 x6.kind, i64 x6.bit] ++ (List.map u8v x6.key)) : List Value)) (q := ((List.map u8v x6.val) : List Value)) (r := []) (hb3.ch h (fun ht => absurd ht (by omega))) (by simp only [List.append_assoc, List.cons_append, List.nil_append, List.append_nil]) (by first | rfl | (simp only [List.length_append, List.length_map, List.length_cons, List.length_nil, (show List.length x6.key = 32 from hx6k)]; done) | (simp only [List.length_append, List.length_map, List.length_cons, List.length_nil, List.size_toArray, (show List.length x6.key = 32 from hx6k)]; done)))) ?_
      refine ws_p rfl rfl rfl rfl (p_fld (j := 2) Tryd.underlying115 rfl ⟨_, by rfl⟩ rfl rfl) ?_
      refine ws_e rfl rfl (e_stR2 (p := ([i64 x6.kind, Value.int .i64 0] : List Value)) (q := ((List.map u8v (List.replicate 32 (0 : UInt8))) : List Value)) (r := ((List.map u8v (List.replicate 32 (0 : UInt8))) : List Value)) (vs := ((List.map u8v x6.key) : List Value)) (szL sz38 (by first | rfl | (simp only [List.length_append, List.length_map, List.length_cons, List.length_nil, (show List.length x6.key = 32 from hx6k)]; done) | (simp only [List.length_append, List.length_map, List.length_cons, List.length_nil, List.size_toArray, (show List.length x6.key = 32 from hx6k)]; done))) (oneL one_u8 _) rfl rfl hb4 (by simp only [List.append_assoc, List.cons_append, List.nil_append, List.append_nil]) (by first | rfl | (simp only [List.length_append, List.length_map, List.length_cons, List.length_nil]; done) | (simp only [List.length_append, List.length_map, List.length_cons, List.length_nil, List.size_toArray]; done)) (by first | rfl | (simp only [List.length_append, List.length_map, List.length_cons, List.length_nil, (show List.length x6.key = 32 from hx6k), (show List.length (List.replicate 32 (0 : UInt8)) = 32 from (List.length_replicate ..))]; done) | (simp only [List.length_append, List.length_map, List.length_cons, List.length_nil, List.size_toArray, (show List.length x6.key = 32 from hx6k), (show List.length (List.replicate 32 (0 : UInt8)) = 32 from (List.length_replicate ..))]; done)) (fun w16 hb4 hc hsz => ⟨(hS.trans hc (fun _ _ h => h) (fun _ _ h => h)), ?_⟩))
      have hb4 : Blk w16 g4 115 (([i64 x6.kind, Value.int .i64 0] ++ ((List.map u8v x6.key) ++ (List.map u8v (List.replicate 32 (0 : UInt8))))) : List Value).toArray := by have h := hb4; simp only [List.append_assoc, List.cons_append, List.nil_append, List.append_nil] at h ⊢; exact h
      have hzw16 := hc.size
      have HC := HC.trans hc (fun _ _ h => h) (fun k hk ht => absurd ht (by omega))
      have hbr := hbr.ch hc (by omega)
      have hab := hab.ch hc (by intro k hz hk ht; omega)
      have hrnd := hrnd.ch hc (by intro k hk ht; omega)
      have hb2 := hb2.ch hc (by omega)
      have hb3 := hb3.ch hc (by omega)
      have hl := hl.ch hc (by intro k hk ht; have h1 := (hFl k hk).1; omega)
      have hS := (hS.trans hc (fun _ _ h => h) (fun _ _ h => h))
      refine ws_p rfl rfl rfl rfl (p_fld (j := 34) Tryd.underlying115 rfl ⟨_, by rfl⟩ rfl rfl) ?_
      refine ws_l rfl rfl (e_stR2 (p := (([i64 x6.kind, Value.int .i64 0] ++ (List.map u8v x6.key)) : List Value)) (q := ((List.map u8v (List.replicate 32 (0 : UInt8))) : List Value)) (r := []) (vs := ((List.map u8v x6.val) : List Value)) (szL sz38 (by first | rfl | (simp only [List.length_append, List.length_map, List.length_cons, List.length_nil, (show List.length x6.val = 32 from hx6v)]; done) | (simp only [List.length_append, List.length_map, List.length_cons, List.length_nil, List.size_toArray, (show List.length x6.val = 32 from hx6v)]; done))) (oneL one_u8 _) rfl rfl hb4 (by simp only [List.append_assoc, List.cons_append, List.nil_append, List.append_nil]) (by first | rfl | (simp only [List.length_append, List.length_map, List.length_cons, List.length_nil, (show List.length x6.key = 32 from hx6k)]; done) | (simp only [List.length_append, List.length_map, List.length_cons, List.length_nil, List.size_toArray, (show List.length x6.key = 32 from hx6k)]; done)) (by first | rfl | (simp only [List.length_append, List.length_map, List.length_cons, List.length_nil, (show List.length x6.val = 32 from hx6v), (show List.length (List.replicate 32 (0 : UInt8)) = 32 from (List.length_replicate ..))]; done) | (simp only [List.length_append, List.length_map, List.length_cons, List.length_nil, List.size_toArray, (show List.length x6.val = 32 from hx6v), (show List.length (List.replicate 32 (0 : UInt8)) = 32 from (List.length_replicate ..))]; done)) (fun w17 hb4 hc hsz => ?_))
      have hb4 : Blk w17 g4 115 (([i64 x6.kind, Value.int .i64 0] ++ ((List.map u8v x6.key) ++ (List.map u8v x6.val))) : List Value).toArray := by have h := hb4; simp only [List.append_assoc, List.cons_append, List.nil_append, List.append_nil] at h ⊢; exact h
      have hzw17 := hc.size
      have HC := HC.trans hc (fun _ _ h => h) (fun k hk ht => absurd ht (by omega))
      have hbr := hbr.ch hc (by omega)
      have hab := hab.ch hc (by intro k hz hk ht; omega)
      have hrnd := hrnd.ch hc (by intro k hk ht; omega)
      have hb2 := hb2.ch hc (by omega)
      have hb3 := hb3.ch hc (by omega)
      have hl := hl.ch hc (by intro k hk ht; have h1 := (hFl k hk).1; omega)
      refine ws_n ?_
      refine x_seq ?_
      refine wc_seq ?_
      refine wc_region ?_
      refine wl rfl rfl rfl (p_mv rfl) ?_
      refine wl rfl rfl rfl (p_ldA (cs := (([i64 x6.kind, i64 x6.bit] ++ ((List.map u8v x6.key) ++ (List.map u8v x6.val))) : List Value)) Tryd.underlying115 rfl (szL sz115 (by first | rfl | (simp only [List.length_append, List.length_map, List.length_cons, List.length_nil, (show List.length x6.key = 32 from hx6k), (show List.length x6.val = 32 from hx6v)]; done) | (simp only [List.length_append, List.length_map, List.length_cons, List.length_nil, List.size_toArray, (show List.length x6.key = 32 from hx6k), (show List.length x6.val = 32 from hx6v)]; done))) rfl (fun _ e => e ▸ rngL hb3)) ?_
      refine wl rfl rfl rfl (p_ldA (cs := (([i64 x6.kind, Value.int .i64 0] ++ ((List.map u8v x6.key) ++ (List.map u8v x6.val))) : List Value)) Tryd.underlying115 rfl (szL sz115 (by first | rfl | (simp only [List.length_append, List.length_map, List.length_cons, List.length_nil, (show List.length x6.key = 32 from hx6k), (show List.length x6.val = 32 from hx6v)]; done) | (simp only [List.length_append, List.length_map, List.length_cons, List.length_nil, List.size_toArray, (show List.length x6.key = 32 from hx6k), (show List.length x6.val = 32 from hx6v)]; done))) rfl (fun _ e => e ▸ rngL hb4)) ?_
      refine wl rfl rfl rfl (p_neV (by kernel_rfl) rfl rfl (eqv_struct Tryd.underlying115 (by kernel_rfl) (eqf_cons rfl (part_c (cs := (([i64 x6.kind, i64 x6.bit] ++ ((List.map u8v x6.key) ++ (List.map u8v x6.val))) : List Value)) (p := []) (v := i64 x6.kind) (r := (([i64 x6.bit] ++ ((List.map u8v x6.key) ++ (List.map u8v x6.val))) : List Value)) Tryd.underlying3 rfl (by first | rfl | simp only [List.append_assoc, List.cons_append, List.nil_append, List.append_nil]) rfl) (part_c (cs := (([i64 x6.kind, Value.int .i64 0] ++ ((List.map u8v x6.key) ++ (List.map u8v x6.val))) : List Value)) (p := []) (v := i64 x6.kind) (r := (([Value.int .i64 0] ++ ((List.map u8v x6.key) ++ (List.map u8v x6.val))) : List Value)) Tryd.underlying3 rfl (by first | rfl | simp only [List.append_assoc, List.cons_append, List.nil_append, List.append_nil]) rfl) (eqv_int Tryd.underlying3) (eqf_cons rfl (part_c (cs := (([i64 x6.kind, i64 x6.bit] ++ ((List.map u8v x6.key) ++ (List.map u8v x6.val))) : List Value)) (p := ([i64 x6.kind] : List Value)) (v := i64 x6.bit) (r := (((List.map u8v x6.key) ++ (List.map u8v x6.val)) : List Value)) Tryd.underlying3 rfl (by first | rfl | simp only [List.append_assoc, List.cons_append, List.nil_append, List.append_nil]) (by first | rfl | (simp only [List.length_append, List.length_map, List.length_cons, List.length_nil]; done) | (simp only [List.length_append, List.length_map, List.length_cons, List.length_nil, List.size_toArray]; done))) (part_c (cs := (([i64 x6.kind, Value.int .i64 0] ++ ((List.map u8v x6.key) ++ (List.map u8v x6.val))) : List Value)) (p := ([i64 x6.kind] : List Value)) (v := Value.int .i64 0) (r := (((List.map u8v x6.key) ++ (List.map u8v x6.val)) : List Value)) Tryd.underlying3 rfl (by first | rfl | simp only [List.append_assoc, List.cons_append, List.nil_append, List.append_nil]) (by first | rfl | (simp only [List.length_append, List.length_map, List.length_cons, List.length_nil]; done) | (simp only [List.length_append, List.length_map, List.length_cons, List.length_nil, List.size_toArray]; done))) (eqv_int Tryd.underlying3) (eqf_cons rfl (part_h (cs := (([i64 x6.kind, i64 x6.bit] ++ ((List.map u8v x6.key) ++ (List.map u8v x6.val))) : List Value)) (p := ([i64 x6.kind, i64 x6.bit] : List Value)) (L := x6.key) (r := ((List.map u8v x6.val) : List Value)) Tryd.underlying38 rfl sz38 (hx6k) (by first | rfl | simp only [List.append_assoc, List.cons_append, List.nil_append, List.append_nil]) (by first | rfl | (simp only [List.length_append, List.length_map, List.length_cons, List.length_nil]; done) | (simp only [List.length_append, List.length_map, List.length_cons, List.length_nil, List.size_toArray]; done))) (part_h (cs := (([i64 x6.kind, Value.int .i64 0] ++ ((List.map u8v x6.key) ++ (List.map u8v x6.val))) : List Value)) (p := ([i64 x6.kind, Value.int .i64 0] : List Value)) (L := x6.key) (r := ((List.map u8v x6.val) : List Value)) Tryd.underlying38 rfl sz38 (hx6k) (by first | rfl | simp only [List.append_assoc, List.cons_append, List.nil_append, List.append_nil]) (by first | rfl | (simp only [List.length_append, List.length_map, List.length_cons, List.length_nil]; done) | (simp only [List.length_append, List.length_map, List.length_cons, List.length_nil, List.size_toArray]; done))) (eqv_hash Tryd.underlying38 Tryd.underlying5 sz5 (hx6k) (hx6k)) (eqf_cons rfl (part_h (cs := (([i64 x6.kind, i64 x6.bit] ++ ((List.map u8v x6.key) ++ (List.map u8v x6.val))) : List Value)) (p := (([i64 x6.kind, i64 x6.bit] ++ (List.map u8v x6.key)) : List Value)) (L := x6.val) (r := []) Tryd.underlying38 rfl sz38 (hx6v) (by first | rfl | simp only [List.append_assoc, List.cons_append, List.nil_append, List.append_nil]) (by first | rfl | (simp only [List.length_append, List.length_map, List.length_cons, List.length_nil, (show List.length x6.key = 32 from hx6k)]; done) | (simp only [List.length_append, List.length_map, List.length_cons, List.length_nil, List.size_toArray, (show List.length x6.key = 32 from hx6k)]; done))) (part_h (cs := (([i64 x6.kind, Value.int .i64 0] ++ ((List.map u8v x6.key) ++ (List.map u8v x6.val))) : List Value)) (p := (([i64 x6.kind, Value.int .i64 0] ++ (List.map u8v x6.key)) : List Value)) (L := x6.val) (r := []) Tryd.underlying38 rfl sz38 (hx6v) (by first | rfl | simp only [List.append_assoc, List.cons_append, List.nil_append, List.append_nil]) (by first | rfl | (simp only [List.length_append, List.length_map, List.length_cons, List.length_nil, (show List.length x6.key = 32 from hx6k)]; done) | (simp only [List.length_append, List.length_map, List.length_cons, List.length_nil, List.size_toArray, (show List.length x6.key = 32 from hx6k)]; done))) (eqv_hash Tryd.underlying38 Tryd.underlying5 sz5 (hx6v) (hx6v)) (eqf_nil))))))) ?_
      refine wl rfl rfl rfl (p_mv rfl) ?_
      refine wl_split (d := 67) rfl (fun q67 => ?_) (fun q67 => ?_)
      ·
       refine wl_s (gd_ rfl rfl rfl rfl rfl rfl) rfl rfl ?_
       refine wl_s (gd_ rfl rfl rfl rfl rfl rfl) rfl rfl ?_
       refine wl_s (gd_ rfl rfl rfl rfl rfl rfl) rfl rfl ?_
       refine wl_s (gd_ rfl rfl rfl rfl rfl rfl) rfl rfl ?_
       refine wl_s (gd_ rfl rfl rfl rfl rfl rfl) rfl rfl ?_
       refine wl rfl rfl rfl (p_pickT rfl rfl) ?_
       refine wl rfl rfl rfl (p_nck rfl) ?_
       refine wl rfl rfl rfl (p_fld (j := 2) Tryd.underlying164 rfl ⟨_, by rfl⟩ rfl rfl) ?_
       refine wle rfl (e_stC (p := ([.slice (cutA Al cl 1 66) (ll - 1) (cl - 1), .slice Ab lb cb] : List Value)) (u := (.bool bd : Value)) (r := []) (v := .bool true) (by rfl) rfl rfl rfl hbr (by simp only [List.append_assoc, List.cons_append, List.nil_append, List.append_nil]) (by first | rfl | (simp only [List.length_append, List.length_map, List.length_cons, List.length_nil]; done) | (simp only [List.length_append, List.length_map, List.length_cons, List.length_nil, List.size_toArray]; done)) (fun w18 hbr hc hsz => ?_))
       have hbr : Blk w18 gr 164 ([.slice (cutA Al cl 1 66) (ll - 1) (cl - 1), .slice Ab lb cb, .bool true] : List Value).toArray := by have h := hbr; simp only [List.append_assoc, List.cons_append, List.nil_append, List.append_nil] at h ⊢; exact h
       have hzw18 := hc.size
       have HC := HC.trans hc (fun _ _ h => h) (fun k hk ht => .inr ht)
       have hab := hab.ch hc (by intro k hz hk ht; (subst ht; first | exact absurd hk hFgr | ((try simp only [and_assoc] at hk); exact absurd hk.1 hFgr)))
       have hrnd := hrnd.ch hc (by intro k hk ht; omega)
       have hb2 := hb2.ch hc (by omega)
       have hb3 := hb3.ch hc (by omega)
       have hl := hl.ch hc (by intro k hk ht; exact (hFl k hk).2.2 ht)
       have hb4 := hb4.ch hc (by omega)
       refine wl_nil ?_
       refine x_seq ?_
       refine wc_seq ?_
       refine wc_region ?_
       refine wl rfl rfl rfl (p_fld (j := 2) Tryd.underlying115 rfl ⟨_, by rfl⟩ rfl rfl) ?_
       refine wl rfl rfl rfl (p_ldA (cs := (List.map u8v x6.key)) Tryd.underlying38 rfl (szL sz38 (by first | rfl | (simp only [List.length_append, List.length_map, List.length_cons, List.length_nil, (show List.length x6.key = 32 from hx6k)]; done) | (simp only [List.length_append, List.length_map, List.length_cons, List.length_nil, List.size_toArray, (show List.length x6.key = 32 from hx6k)]; done))) rfl (fun _ e => e ▸ rng_at (p := ([i64 x6.kind, i64 x6.bit] : List Value)) (q := ((List.map u8v x6.key) : List Value)) (r := ((List.map u8v x6.val) : List Value)) hb3 (by simp only [List.append_assoc, List.cons_append, List.nil_append, List.append_nil]) (by first | rfl | (simp only [List.length_append, List.length_map, List.length_cons, List.length_nil]; done) | (simp only [List.length_append, List.length_map, List.length_cons, List.length_nil, List.size_toArray]; done)))) ?_
       refine wl rfl rfl rfl (p_fld (j := 34) Tryd.underlying115 rfl ⟨_, by rfl⟩ rfl rfl) ?_
       refine wl rfl rfl rfl (p_ldA (cs := (List.map u8v x6.val)) Tryd.underlying38 rfl (szL sz38 (by first | rfl | (simp only [List.length_append, List.length_map, List.length_cons, List.length_nil, (show List.length x6.val = 32 from hx6v)]; done) | (simp only [List.length_append, List.length_map, List.length_cons, List.length_nil, List.size_toArray, (show List.length x6.val = 32 from hx6v)]; done))) rfl (fun _ e => e ▸ rng_at (p := (([i64 x6.kind, i64 x6.bit] ++ (List.map u8v x6.key)) : List Value)) (q := ((List.map u8v x6.val) : List Value)) (r := []) hb3 (by simp only [List.append_assoc, List.cons_append, List.nil_append, List.append_nil]) (by first | rfl | (simp only [List.length_append, List.length_map, List.length_cons, List.length_nil, (show List.length x6.key = 32 from hx6k)]; done) | (simp only [List.length_append, List.length_map, List.length_cons, List.length_nil, List.size_toArray, (show List.length x6.key = 32 from hx6k)]; done)))) ?_
       refine wle rfl (e_call ent74 rfl rfl (titem_any (hx6k) (hx6v) hrnd) ?_)
       rintro _ w19 ⟨rfl, hc⟩
       refine ⟨_, rfl, ?_⟩
       have hzw19 := hc.size
       have HC := HC.tr hc
       have hbr := hbr.ch hc (fun h => h)
       have hab := hab.after hc
       have hrnd := hrnd.no hc
       have hb2 := hb2.ch hc (fun h => h)
       have hb3 := hb3.ch hc (fun h => h)
       have hl := hl.no hc
       have hb4 := hb4.ch hc (fun h => h)
       refine wle rfl (e_stH sz38 (List.length_replicate ..) (itemH_len _ _ ) rfl rfl hb2 (fun w20 hb2 hc hsz => ?_))
       have hzw20 := hc.size
       have HC := HC.trans hc (fun _ _ h => h) (fun k hk ht => absurd ht (by omega))
       have hbr := hbr.ch hc (by omega)
       have hab := hab.ch hc (by intro k hz hk ht; omega)
       have hrnd := hrnd.ch hc (by intro k hk ht; omega)
       have hb3 := hb3.ch hc (by omega)
       have hl := hl.ch hc (by intro k hk ht; have h1 := (hFl k hk).1; omega)
       have hb4 := hb4.ch hc (by omega)
       refine wl_nil ?_
       refine x_seq ?_
       refine wc_ret ?_
       refine x_in_ret ?_
       refine x_then_ret ?_
       refine fin_run (resC (cs := List.map u8v (itemH x6.key x6.val)) rfl rfl Tryd.underlying38 rfl (szL sz38 (by rw [List.length_map]; exact (itemH_len _ _ ))) (rngL hb2)) ?_
       have hbd : bd = false := by simpa using q11
       exact ⟨_, _, _, _, _, _, _, _, rfl, hbr, hl, hab.mono (by intro k hk h; first | exact h | ((try simp only [and_assoc] at h); exact h.1)), (by rw [hlx, hbd]; exact PR.item (q := false) c2 hx6k hx6v (by have h := q67; simp at h; simp [h])), HC⟩
      ·
       refine wl_g (gd_ rfl rfl rfl rfl rfl rfl) rfl rfl (p_mv rfl) ?_
       refine wl_g (gd_ rfl rfl rfl rfl rfl rfl) rfl rfl (p_fld (j := 2) Tryd.underlying115 rfl ⟨_, by rfl⟩ rfl rfl) ?_
       refine wl_g (gd_ rfl rfl rfl rfl rfl rfl) rfl rfl (p_ldA (cs := (List.map u8v x6.key)) Tryd.underlying38 rfl (szL sz38 (by first | rfl | (simp only [List.length_append, List.length_map, List.length_cons, List.length_nil, (show List.length x6.key = 32 from hx6k)]; done) | (simp only [List.length_append, List.length_map, List.length_cons, List.length_nil, List.size_toArray, (show List.length x6.key = 32 from hx6k)]; done))) rfl (fun _ e => e ▸ rng_at (p := ([i64 x6.kind, i64 x6.bit] : List Value)) (q := ((List.map u8v x6.key) : List Value)) (r := ((List.map u8v x6.val) : List Value)) hb3 (by simp only [List.append_assoc, List.cons_append, List.nil_append, List.append_nil]) (by first | rfl | (simp only [List.length_append, List.length_map, List.length_cons, List.length_nil]; done) | (simp only [List.length_append, List.length_map, List.length_cons, List.length_nil, List.size_toArray]; done)))) ?_
       refine wle_g (gd_ rfl rfl rfl rfl rfl rfl) (e_call ent109 rfl rfl (within_any hbr hab.si (by omega) (hx6k)) ?_)
       rintro _ w21 ⟨rfl, hc⟩
       refine ⟨_, rfl, ?_⟩
       have hzw21 := hc.size
       have HC := HC.tr hc
       have hbr := hbr.ch hc (fun h => h)
       have hab := hab.after hc
       have hrnd := hrnd.no hc
       have hb2 := hb2.ch hc (fun h => h)
       have hb3 := hb3.ch hc (fun h => h)
       have hl := hl.no hc
       have hb4 := hb4.ch hc (fun h => h)
       refine wl_g (gd_ rfl rfl rfl rfl rfl rfl) rfl rfl (p_not rfl) ?_
       refine wl rfl rfl rfl (p_pickF rfl rfl) ?_
       refine wl rfl rfl rfl (p_nck rfl) ?_
       refine wl rfl rfl rfl (p_fld (j := 2) Tryd.underlying164 rfl ⟨_, by rfl⟩ rfl rfl) ?_
       refine wle rfl (e_stC (p := ([.slice (cutA Al cl 1 66) (ll - 1) (cl - 1), .slice Ab lb cb] : List Value)) (u := (.bool bd : Value)) (r := []) (v := .bool (!withinB x6.key ab)) (by rfl) rfl rfl rfl hbr (by simp only [List.append_assoc, List.cons_append, List.nil_append, List.append_nil]) (by first | rfl | (simp only [List.length_append, List.length_map, List.length_cons, List.length_nil]; done) | (simp only [List.length_append, List.length_map, List.length_cons, List.length_nil, List.size_toArray]; done)) (fun w22 hbr hc hsz => ?_))
       have hbr : Blk w22 gr 164 ([.slice (cutA Al cl 1 66) (ll - 1) (cl - 1), .slice Ab lb cb, .bool (!withinB x6.key ab)] : List Value).toArray := by have h := hbr; simp only [List.append_assoc, List.cons_append, List.nil_append, List.append_nil] at h ⊢; exact h
       have hzw22 := hc.size
       have HC := HC.trans hc (fun _ _ h => h) (fun k hk ht => .inr ht)
       have hab := hab.ch hc (by intro k hz hk ht; (subst ht; first | exact absurd hk hFgr | ((try simp only [and_assoc] at hk); exact absurd hk.1 hFgr)))
       have hrnd := hrnd.ch hc (by intro k hk ht; omega)
       have hb2 := hb2.ch hc (by omega)
       have hb3 := hb3.ch hc (by omega)
       have hl := hl.ch hc (by intro k hk ht; exact (hFl k hk).2.2 ht)
       have hb4 := hb4.ch hc (by omega)
       refine wl_nil ?_
       refine x_seq ?_
       refine wc_seq ?_
       refine wc_region ?_
       refine wl rfl rfl rfl (p_fld (j := 2) Tryd.underlying115 rfl ⟨_, by rfl⟩ rfl rfl) ?_
       refine wl rfl rfl rfl (p_ldA (cs := (List.map u8v x6.key)) Tryd.underlying38 rfl (szL sz38 (by first | rfl | (simp only [List.length_append, List.length_map, List.length_cons, List.length_nil, (show List.length x6.key = 32 from hx6k)]; done) | (simp only [List.length_append, List.length_map, List.length_cons, List.length_nil, List.size_toArray, (show List.length x6.key = 32 from hx6k)]; done))) rfl (fun _ e => e ▸ rng_at (p := ([i64 x6.kind, i64 x6.bit] : List Value)) (q := ((List.map u8v x6.key) : List Value)) (r := ((List.map u8v x6.val) : List Value)) hb3 (by simp only [List.append_assoc, List.cons_append, List.nil_append, List.append_nil]) (by first | rfl | (simp only [List.length_append, List.length_map, List.length_cons, List.length_nil]; done) | (simp only [List.length_append, List.length_map, List.length_cons, List.length_nil, List.size_toArray]; done)))) ?_
       refine wl rfl rfl rfl (p_fld (j := 34) Tryd.underlying115 rfl ⟨_, by rfl⟩ rfl rfl) ?_
       refine wl rfl rfl rfl (p_ldA (cs := (List.map u8v x6.val)) Tryd.underlying38 rfl (szL sz38 (by first | rfl | (simp only [List.length_append, List.length_map, List.length_cons, List.length_nil, (show List.length x6.val = 32 from hx6v)]; done) | (simp only [List.length_append, List.length_map, List.length_cons, List.length_nil, List.size_toArray, (show List.length x6.val = 32 from hx6v)]; done))) rfl (fun _ e => e ▸ rng_at (p := (([i64 x6.kind, i64 x6.bit] ++ (List.map u8v x6.key)) : List Value)) (q := ((List.map u8v x6.val) : List Value)) (r := []) hb3 (by simp only [List.append_assoc, List.cons_append, List.nil_append, List.append_nil]) (by first | rfl | (simp only [List.length_append, List.length_map, List.length_cons, List.length_nil, (show List.length x6.key = 32 from hx6k)]; done) | (simp only [List.length_append, List.length_map, List.length_cons, List.length_nil, List.size_toArray, (show List.length x6.key = 32 from hx6k)]; done)))) ?_
       refine wle rfl (e_call ent74 rfl rfl (titem_any (hx6k) (hx6v) hrnd) ?_)
       rintro _ w23 ⟨rfl, hc⟩
       refine ⟨_, rfl, ?_⟩
       have hzw23 := hc.size
       have HC := HC.tr hc
       have hbr := hbr.ch hc (fun h => h)
       have hab := hab.after hc
       have hrnd := hrnd.no hc
       have hb2 := hb2.ch hc (fun h => h)
       have hb3 := hb3.ch hc (fun h => h)
       have hl := hl.no hc
       have hb4 := hb4.ch hc (fun h => h)
       refine wle rfl (e_stH sz38 (List.length_replicate ..) (itemH_len _ _ ) rfl rfl hb2 (fun w24 hb2 hc hsz => ?_))
       have hzw24 := hc.size
       have HC := HC.trans hc (fun _ _ h => h) (fun k hk ht => absurd ht (by omega))
       have hbr := hbr.ch hc (by omega)
       have hab := hab.ch hc (by intro k hz hk ht; omega)
       have hrnd := hrnd.ch hc (by intro k hk ht; omega)
       have hb3 := hb3.ch hc (by omega)
       have hl := hl.ch hc (by intro k hk ht; have h1 := (hFl k hk).1; omega)
       have hb4 := hb4.ch hc (by omega)
       refine wl_nil ?_
       refine x_seq ?_
       refine wc_ret ?_
       refine x_in_ret ?_
       refine x_then_ret ?_
       refine fin_run (resC (cs := List.map u8v (itemH x6.key x6.val)) rfl rfl Tryd.underlying38 rfl (szL sz38 (by rw [List.length_map]; exact (itemH_len _ _ ))) (rngL hb2)) ?_
       have hbd : bd = false := by simpa using q11
       exact ⟨_, _, _, _, _, _, _, _, rfl, hbr, hl, hab.mono (by intro k hk h; first | exact h | ((try simp only [and_assoc] at h); exact h.1)), (by rw [hlx, hbd]; exact PR.item (q := (withinB x6.key ab)) c2 hx6k hx6v (by have h := q67; simp at h; simp [h])), HC⟩
     ·
      have c2 := of_decide_eq_false c2
      refine wc_seq ?_
      refine wc_region ?_
      refine wl rfl rfl rfl (p_eq rfl rfl) ?_
      refine wl rfl rfl rfl (p_as rfl) ?_
      refine wl_nil ?_
      refine x_seq ?_
      refine wc_if rfl (fun c3 => ?_) (fun c3 => ?_)
      ·
       have c3 := of_decide_eq_true c3
       refine wc_seq ?_
       refine wc_region ?_
       refine wl rfl rfl rfl (p_fld (j := 1) Tryd.underlying115 rfl ⟨_, by rfl⟩ rfl rfl) ?_
       refine wl rfl rfl rfl (p_ld Tryd.underlying3 rfl rfl (ld (cell_at (p := ([i64 x6.kind] : List Value)) (v := (i64 x6.bit : Value)) (r := (((List.map u8v x6.key) ++ (List.map u8v x6.val)) : List Value)) hb3 (by simp only [List.append_assoc, List.cons_append, List.nil_append, List.append_nil]) (by first | rfl | (simp only [List.length_append, List.length_map, List.length_cons, List.length_nil]; done) | (simp only [List.length_append, List.length_map, List.length_cons, List.length_nil, List.size_toArray]; done))))) ?_
       refine wl rfl rfl rfl (p_fld (j := 1) Tryd.underlying115 rfl ⟨_, by rfl⟩ rfl rfl) ?_
       refine wle rfl (e_stC (p := ([i64 x6.kind] : List Value)) (u := (Value.int .i64 0 : Value)) (r := (((List.map u8v (List.replicate 32 (0 : UInt8))) ++ (List.map u8v (List.replicate 32 (0 : UInt8)))) : List Value)) (v := i64 x6.bit) (by rfl) rfl rfl rfl hb4 (by simp only [List.append_assoc, List.cons_append, List.nil_append, List.append_nil]) (by first | rfl | (simp only [List.length_append, List.length_map, List.length_cons, List.length_nil]; done) | (simp only [List.length_append, List.length_map, List.length_cons, List.length_nil, List.size_toArray]; done)) (fun w25 hb4 hc hsz => ?_))
       have hb4 : Blk w25 g4 115 (([i64 x6.kind, i64 x6.bit] ++ ((List.map u8v (List.replicate 32 (0 : UInt8))) ++ (List.map u8v (List.replicate 32 (0 : UInt8))))) : List Value).toArray := by have h := hb4; simp only [List.append_assoc, List.cons_append, List.nil_append, List.append_nil] at h ⊢; exact h
       have hzw25 := hc.size
       have HC := HC.trans hc (fun _ _ h => h) (fun k hk ht => absurd ht (by omega))
       have hbr := hbr.ch hc (by omega)
       have hab := hab.ch hc (by intro k hz hk ht; omega)
       have hrnd := hrnd.ch hc (by intro k hk ht; omega)
       have hb2 := hb2.ch hc (by omega)
       have hb3 := hb3.ch hc (by omega)
       have hl := hl.ch hc (by intro k hk ht; have h1 := (hFl k hk).1; omega)
       refine wl_nil ?_
       refine x_seq ?_
       refine wc_seq ?_
       refine wc_seq ?_
       refine wc_region ?_
       refine wl rfl rfl rfl (p_mv rfl) ?_
       refine wl rfl rfl rfl (p_ldA (cs := (([i64 x6.kind, i64 x6.bit] ++ ((List.map u8v x6.key) ++ (List.map u8v x6.val))) : List Value)) Tryd.underlying115 rfl (szL sz115 (by first | rfl | (simp only [List.length_append, List.length_map, List.length_cons, List.length_nil, (show List.length x6.key = 32 from hx6k), (show List.length x6.val = 32 from hx6v)]; done) | (simp only [List.length_append, List.length_map, List.length_cons, List.length_nil, List.size_toArray, (show List.length x6.key = 32 from hx6k), (show List.length x6.val = 32 from hx6v)]; done))) rfl (fun _ e => e ▸ rngL hb3)) ?_
       refine wl rfl rfl rfl (p_ldA (cs := (([i64 x6.kind, i64 x6.bit] ++ ((List.map u8v (List.replicate 32 (0 : UInt8))) ++ (List.map u8v (List.replicate 32 (0 : UInt8))))) : List Value)) Tryd.underlying115 rfl (szL sz115 (by first | rfl | (simp only [List.length_append, List.length_map, List.length_cons, List.length_nil, (show List.length (List.replicate 32 (0 : UInt8)) = 32 from (List.length_replicate ..)), (show List.length (List.replicate 32 (0 : UInt8)) = 32 from (List.length_replicate ..))]; done) | (simp only [List.length_append, List.length_map, List.length_cons, List.length_nil, List.size_toArray, (show List.length (List.replicate 32 (0 : UInt8)) = 32 from (List.length_replicate ..)), (show List.length (List.replicate 32 (0 : UInt8)) = 32 from (List.length_replicate ..))]; done))) rfl (fun _ e => e ▸ rngL hb4)) ?_
       refine wl rfl rfl rfl (p_neV (by kernel_rfl) rfl rfl (eqv_struct Tryd.underlying115 (by kernel_rfl) (eqf_cons rfl (part_c (cs := (([i64 x6.kind, i64 x6.bit] ++ ((List.map u8v x6.key) ++ (List.map u8v x6.val))) : List Value)) (p := []) (v := i64 x6.kind) (r := (([i64 x6.bit] ++ ((List.map u8v x6.key) ++ (List.map u8v x6.val))) : List Value)) Tryd.underlying3 rfl (by first | rfl | simp only [List.append_assoc, List.cons_append, List.nil_append, List.append_nil]) rfl) (part_c (cs := (([i64 x6.kind, i64 x6.bit] ++ ((List.map u8v (List.replicate 32 (0 : UInt8))) ++ (List.map u8v (List.replicate 32 (0 : UInt8))))) : List Value)) (p := []) (v := i64 x6.kind) (r := (([i64 x6.bit] ++ ((List.map u8v (List.replicate 32 (0 : UInt8))) ++ (List.map u8v (List.replicate 32 (0 : UInt8))))) : List Value)) Tryd.underlying3 rfl (by first | rfl | simp only [List.append_assoc, List.cons_append, List.nil_append, List.append_nil]) rfl) (eqv_int Tryd.underlying3) (eqf_cons rfl (part_c (cs := (([i64 x6.kind, i64 x6.bit] ++ ((List.map u8v x6.key) ++ (List.map u8v x6.val))) : List Value)) (p := ([i64 x6.kind] : List Value)) (v := i64 x6.bit) (r := (((List.map u8v x6.key) ++ (List.map u8v x6.val)) : List Value)) Tryd.underlying3 rfl (by first | rfl | simp only [List.append_assoc, List.cons_append, List.nil_append, List.append_nil]) (by first | rfl | (simp only [List.length_append, List.length_map, List.length_cons, List.length_nil]; done) | (simp only [List.length_append, List.length_map, List.length_cons, List.length_nil, List.size_toArray]; done))) (part_c (cs := (([i64 x6.kind, i64 x6.bit] ++ ((List.map u8v (List.replicate 32 (0 : UInt8))) ++ (List.map u8v (List.replicate 32 (0 : UInt8))))) : List Value)) (p := ([i64 x6.kind] : List Value)) (v := i64 x6.bit) (r := (((List.map u8v (List.replicate 32 (0 : UInt8))) ++ (List.map u8v (List.replicate 32 (0 : UInt8)))) : List Value)) Tryd.underlying3 rfl (by first | rfl | simp only [List.append_assoc, List.cons_append, List.nil_append, List.append_nil]) (by first | rfl | (simp only [List.length_append, List.length_map, List.length_cons, List.length_nil]; done) | (simp only [List.length_append, List.length_map, List.length_cons, List.length_nil, List.size_toArray]; done))) (eqv_int Tryd.underlying3) (eqf_cons rfl (part_h (cs := (([i64 x6.kind, i64 x6.bit] ++ ((List.map u8v x6.key) ++ (List.map u8v x6.val))) : List Value)) (p := ([i64 x6.kind, i64 x6.bit] : List Value)) (L := x6.key) (r := ((List.map u8v x6.val) : List Value)) Tryd.underlying38 rfl sz38 (hx6k) (by first | rfl | simp only [List.append_assoc, List.cons_append, List.nil_append, List.append_nil]) (by first | rfl | (simp only [List.length_append, List.length_map, List.length_cons, List.length_nil]; done) | (simp only [List.length_append, List.length_map, List.length_cons, List.length_nil, List.size_toArray]; done))) (part_h (cs := (([i64 x6.kind, i64 x6.bit] ++ ((List.map u8v (List.replicate 32 (0 : UInt8))) ++ (List.map u8v (List.replicate 32 (0 : UInt8))))) : List Value)) (p := ([i64 x6.kind, i64 x6.bit] : List Value)) (L := (List.replicate 32 (0 : UInt8))) (r := ((List.map u8v (List.replicate 32 (0 : UInt8))) : List Value)) Tryd.underlying38 rfl sz38 ((List.length_replicate ..)) (by first | rfl | simp only [List.append_assoc, List.cons_append, List.nil_append, List.append_nil]) (by first | rfl | (simp only [List.length_append, List.length_map, List.length_cons, List.length_nil]; done) | (simp only [List.length_append, List.length_map, List.length_cons, List.length_nil, List.size_toArray]; done))) (eqv_hash Tryd.underlying38 Tryd.underlying5 sz5 (hx6k) ((List.length_replicate ..))) (eqf_cons rfl (part_h (cs := (([i64 x6.kind, i64 x6.bit] ++ ((List.map u8v x6.key) ++ (List.map u8v x6.val))) : List Value)) (p := (([i64 x6.kind, i64 x6.bit] ++ (List.map u8v x6.key)) : List Value)) (L := x6.val) (r := []) Tryd.underlying38 rfl sz38 (hx6v) (by first | rfl | simp only [List.append_assoc, List.cons_append, List.nil_append, List.append_nil]) (by first | rfl | (simp only [List.length_append, List.length_map, List.length_cons, List.length_nil, (show List.length x6.key = 32 from hx6k)]; done) | (simp only [List.length_append, List.length_map, List.length_cons, List.length_nil, List.size_toArray, (show List.length x6.key = 32 from hx6k)]; done))) (part_h (cs := (([i64 x6.kind, i64 x6.bit] ++ ((List.map u8v (List.replicate 32 (0 : UInt8))) ++ (List.map u8v (List.replicate 32 (0 : UInt8))))) : List Value)) (p := (([i64 x6.kind, i64 x6.bit] ++ (List.map u8v (List.replicate 32 (0 : UInt8)))) : List Value)) (L := (List.replicate 32 (0 : UInt8))) (r := []) Tryd.underlying38 rfl sz38 ((List.length_replicate ..)) (by first | rfl | simp only [List.append_assoc, List.cons_append, List.nil_append, List.append_nil]) (by first | rfl | (simp only [List.length_append, List.length_map, List.length_cons, List.length_nil, (show List.length (List.replicate 32 (0 : UInt8)) = 32 from (List.length_replicate ..))]; done) | (simp only [List.length_append, List.length_map, List.length_cons, List.length_nil, List.size_toArray, (show List.length (List.replicate 32 (0 : UInt8)) = 32 from (List.length_replicate ..))]; done))) (eqv_hash Tryd.underlying38 Tryd.underlying5 sz5 (hx6v) ((List.length_replicate ..))) (eqf_nil))))))) ?_
       refine wl rfl rfl rfl (p_mv rfl) ?_
       refine wl_split (d := 90) rfl (fun q90 => ?_) (fun q90 => ?_)
       ·
        refine wl_s (gd_ rfl rfl rfl rfl rfl rfl) rfl rfl ?_
        refine wl_s (gd_ rfl rfl rfl rfl rfl rfl) rfl rfl ?_
        refine wl_s (gd_ rfl rfl rfl rfl rfl rfl) rfl rfl ?_
        refine wl_s (gd_ rfl rfl rfl rfl rfl rfl) rfl rfl ?_
        refine wl_s (gd_ rfl rfl rfl rfl rfl rfl) rfl rfl ?_
        refine wl rfl rfl rfl (p_pickT rfl rfl) ?_
        refine wl rfl rfl rfl (p_nck rfl) ?_
        refine wl rfl rfl rfl (p_fld (j := 2) Tryd.underlying164 rfl ⟨_, by rfl⟩ rfl rfl) ?_
        refine wle rfl (e_stC (p := ([.slice (cutA Al cl 1 66) (ll - 1) (cl - 1), .slice Ab lb cb] : List Value)) (u := (.bool bd : Value)) (r := []) (v := .bool true) (by rfl) rfl rfl rfl hbr (by simp only [List.append_assoc, List.cons_append, List.nil_append, List.append_nil]) (by first | rfl | (simp only [List.length_append, List.length_map, List.length_cons, List.length_nil]; done) | (simp only [List.length_append, List.length_map, List.length_cons, List.length_nil, List.size_toArray]; done)) (fun w26 hbr hc hsz => ?_))
        have hbr : Blk w26 gr 164 ([.slice (cutA Al cl 1 66) (ll - 1) (cl - 1), .slice Ab lb cb, .bool true] : List Value).toArray := by have h := hbr; simp only [List.append_assoc, List.cons_append, List.nil_append, List.append_nil] at h ⊢; exact h
        have hzw26 := hc.size
        have HC := HC.trans hc (fun _ _ h => h) (fun k hk ht => .inr ht)
        have hab := hab.ch hc (by intro k hz hk ht; (subst ht; first | exact absurd hk hFgr | ((try simp only [and_assoc] at hk); exact absurd hk.1 hFgr)))
        have hrnd := hrnd.ch hc (by intro k hk ht; omega)
        have hb2 := hb2.ch hc (by omega)
        have hb3 := hb3.ch hc (by omega)
        have hl := hl.ch hc (by intro k hk ht; exact (hFl k hk).2.2 ht)
        have hb4 := hb4.ch hc (by omega)
        refine wl_nil ?_
        refine x_seq ?_
        refine wc_seq ?_
        refine wc_region ?_
        refine wl rfl rfl rfl (p_mv rfl) ?_
        refine wl rfl rfl rfl (p_nck rfl) ?_
        refine wl rfl rfl rfl (p_fld (j := 2) Tryd.underlying164 rfl ⟨_, by rfl⟩ rfl rfl) ?_
        refine wl rfl rfl rfl (p_ld Tryd.underlying4 rfl rfl (ld (cell_at (p := ([.slice (cutA Al cl 1 66) (ll - 1) (cl - 1), .slice Ab lb cb] : List Value)) (v := (.bool true : Value)) (r := []) hbr (by simp only [List.append_assoc, List.cons_append, List.nil_append, List.append_nil]) (by first | rfl | (simp only [List.length_append, List.length_map, List.length_cons, List.length_nil]; done) | (simp only [List.length_append, List.length_map, List.length_cons, List.length_nil, List.size_toArray]; done))))) ?_
        refine wl_nil ?_
        refine x_seq ?_
        refine wc_yes rfl (rfl) ?_
        refine wc_seq ?_
        refine wc_region ?_
        refine wl rfl rfl rfl (p_bldP (cs := ((List.replicate 32 (0 : UInt8)).map u8v).toArray) rfl (fun _ => by kernel_rfl)) ?_
        refine wle rfl (e_stH sz38 (List.length_replicate ..) (List.length_replicate ..) rfl rfl hb2 (fun w27 hb2 hc hsz => ?_))
        have hzw27 := hc.size
        have HC := HC.trans hc (fun _ _ h => h) (fun k hk ht => absurd ht (by omega))
        have hbr := hbr.ch hc (by omega)
        have hab := hab.ch hc (by intro k hz hk ht; omega)
        have hrnd := hrnd.ch hc (by intro k hk ht; omega)
        have hb3 := hb3.ch hc (by omega)
        have hl := hl.ch hc (by intro k hk ht; have h1 := (hFl k hk).1; omega)
        have hb4 := hb4.ch hc (by omega)
        refine wl_nil ?_
        refine x_seq ?_
        refine wc_ret ?_
        refine x_then_ret ?_
        refine x_in_ret ?_
        refine x_then_ret ?_
        refine fin_run (resC (cs := List.map u8v (List.replicate 32 (0 : UInt8))) rfl rfl Tryd.underlying38 rfl (szL sz38 (by rw [List.length_map]; exact (List.length_replicate ..))) (rngL hb2)) ?_
        have hbd : bd = false := by simpa using q11
        exact ⟨_, _, _, _, _, _, _, _, rfl, hbr, hl, hab.mono (by intro k hk h; first | exact h | ((try simp only [and_assoc] at h); exact h.1)), (by rw [hlx, hbd]; exact PR.fork_no c3 (by have h := q90; rintro ⟨h1, h2, _⟩; simp [h1, h2, zeroH] at h)), HC⟩
       ·
        refine wl_g (gd_ rfl rfl rfl rfl rfl rfl) rfl rfl (p_mv rfl) ?_
        refine wl_g (gd_ rfl rfl rfl rfl rfl rfl) rfl rfl (p_fld (j := 1) Tryd.underlying115 rfl ⟨_, by rfl⟩ rfl rfl) ?_
        refine wl_g (gd_ rfl rfl rfl rfl rfl rfl) rfl rfl (p_ld Tryd.underlying3 rfl rfl (ld (cell_at (p := ([i64 x6.kind] : List Value)) (v := (i64 x6.bit : Value)) (r := (((List.map u8v x6.key) ++ (List.map u8v x6.val)) : List Value)) hb3 (by simp only [List.append_assoc, List.cons_append, List.nil_append, List.append_nil]) (by first | rfl | (simp only [List.length_append, List.length_map, List.length_cons, List.length_nil]; done) | (simp only [List.length_append, List.length_map, List.length_cons, List.length_nil, List.size_toArray]; done))))) ?_
        refine wle_g (gd_ rfl rfl rfl rfl rfl rfl) (e_call ent110 rfl rfl (rises_any hbr hab.si (by omega)) ?_)
        rintro _ w28 ⟨rfl, hc⟩
        refine ⟨_, rfl, ?_⟩
        have hzw28 := hc.size
        have HC := HC.tr hc
        have hbr := hbr.ch hc (fun h => h)
        have hab := hab.after hc
        have hrnd := hrnd.no hc
        have hb2 := hb2.ch hc (fun h => h)
        have hb3 := hb3.ch hc (fun h => h)
        have hl := hl.no hc
        have hb4 := hb4.ch hc (fun h => h)
        refine wl_g (gd_ rfl rfl rfl rfl rfl rfl) rfl rfl (p_not rfl) ?_
        refine wl rfl rfl rfl (p_pickF rfl rfl) ?_
        refine wl rfl rfl rfl (p_nck rfl) ?_
        refine wl rfl rfl rfl (p_fld (j := 2) Tryd.underlying164 rfl ⟨_, by rfl⟩ rfl rfl) ?_
        refine wle rfl (e_stC (p := ([.slice (cutA Al cl 1 66) (ll - 1) (cl - 1), .slice Ab lb cb] : List Value)) (u := (.bool bd : Value)) (r := []) (v := .bool (!risesB x6.bit ab)) (by rfl) rfl rfl rfl hbr (by simp only [List.append_assoc, List.cons_append, List.nil_append, List.append_nil]) (by first | rfl | (simp only [List.length_append, List.length_map, List.length_cons, List.length_nil]; done) | (simp only [List.length_append, List.length_map, List.length_cons, List.length_nil, List.size_toArray]; done)) (fun w29 hbr hc hsz => ?_))
        have hbr : Blk w29 gr 164 ([.slice (cutA Al cl 1 66) (ll - 1) (cl - 1), .slice Ab lb cb, .bool (!risesB x6.bit ab)] : List Value).toArray := by have h := hbr; simp only [List.append_assoc, List.cons_append, List.nil_append, List.append_nil] at h ⊢; exact h
        have hzw29 := hc.size
        have HC := HC.trans hc (fun _ _ h => h) (fun k hk ht => .inr ht)
        have hab := hab.ch hc (by intro k hz hk ht; (subst ht; first | exact absurd hk hFgr | ((try simp only [and_assoc] at hk); exact absurd hk.1 hFgr)))
        have hrnd := hrnd.ch hc (by intro k hk ht; omega)
        have hb2 := hb2.ch hc (by omega)
        have hb3 := hb3.ch hc (by omega)
        have hl := hl.ch hc (by intro k hk ht; exact (hFl k hk).2.2 ht)
        have hb4 := hb4.ch hc (by omega)
        refine wl_nil ?_
        refine x_seq ?_
        refine wc_seq ?_
        refine wc_region ?_
        refine wl rfl rfl rfl (p_mv rfl) ?_
        refine wl rfl rfl rfl (p_nck rfl) ?_
        refine wl rfl rfl rfl (p_fld (j := 2) Tryd.underlying164 rfl ⟨_, by rfl⟩ rfl rfl) ?_
        refine wl rfl rfl rfl (p_ld Tryd.underlying4 rfl rfl (ld (cell_at (p := ([.slice (cutA Al cl 1 66) (ll - 1) (cl - 1), .slice Ab lb cb] : List Value)) (v := (.bool (!risesB x6.bit ab) : Value)) (r := []) hbr (by simp only [List.append_assoc, List.cons_append, List.nil_append, List.append_nil]) (by first | rfl | (simp only [List.length_append, List.length_map, List.length_cons, List.length_nil]; done) | (simp only [List.length_append, List.length_map, List.length_cons, List.length_nil, List.size_toArray]; done))))) ?_
        refine wl_nil ?_
        refine x_seq ?_
        refine wc_if rfl (fun c4 => ?_) (fun c4 => ?_)
        ·
         refine wc_seq ?_
         refine wc_region ?_
         refine wl rfl rfl rfl (p_bldP (cs := ((List.replicate 32 (0 : UInt8)).map u8v).toArray) rfl (fun _ => by kernel_rfl)) ?_
         refine wle rfl (e_stH sz38 (List.length_replicate ..) (List.length_replicate ..) rfl rfl hb2 (fun w30 hb2 hc hsz => ?_))
         have hzw30 := hc.size
         have HC := HC.trans hc (fun _ _ h => h) (fun k hk ht => absurd ht (by omega))
         have hbr := hbr.ch hc (by omega)
         have hab := hab.ch hc (by intro k hz hk ht; omega)
         have hrnd := hrnd.ch hc (by intro k hk ht; omega)
         have hb3 := hb3.ch hc (by omega)
         have hl := hl.ch hc (by intro k hk ht; have h1 := (hFl k hk).1; omega)
         have hb4 := hb4.ch hc (by omega)
         refine wl_nil ?_
         refine x_seq ?_
         refine wc_ret ?_
         refine x_then_ret ?_
         refine x_in_ret ?_
         refine x_then_ret ?_
         refine fin_run (resC (cs := List.map u8v (List.replicate 32 (0 : UInt8))) rfl rfl Tryd.underlying38 rfl (szL sz38 (by rw [List.length_map]; exact (List.length_replicate ..))) (rngL hb2)) ?_
         have hbd : bd = false := by simpa using q11
         have hrs : risesB x6.bit ab = false := by simpa using c4
         exact ⟨_, _, _, _, _, _, _, _, rfl, hbr, hl, hab.mono (by intro k hk h; first | exact h | ((try simp only [and_assoc] at h); exact h.1)), (by rw [hlx, hbd]; exact (by rw [hrs]; exact PR.fork_no c3 (by rintro ⟨_, _, h3⟩; have h4 := risesB_iff.2 h3; rw [hrs] at h4; exact absurd h4 (by simp)))), HC⟩
        ·
         refine wc_skip ?_
         refine x_seq ?_
         refine wc_seq ?_
         refine wc_region ?_
         refine wl rfl rfl rfl (p_mv rfl) ?_
         refine wl rfl rfl rfl (p_fld (j := 1) Tryd.underlying115 rfl ⟨_, by rfl⟩ rfl rfl) ?_
         refine wl rfl rfl rfl (p_ld Tryd.underlying3 rfl rfl (ld (cell_at (p := ([i64 x6.kind] : List Value)) (v := (i64 x6.bit : Value)) (r := (((List.map u8v x6.key) ++ (List.map u8v x6.val)) : List Value)) hb3 (by simp only [List.append_assoc, List.cons_append, List.nil_append, List.append_nil]) (by first | rfl | (simp only [List.length_append, List.length_map, List.length_cons, List.length_nil]; done) | (simp only [List.length_append, List.length_map, List.length_cons, List.length_nil, List.size_toArray]; done))))) ?_
         refine wl rfl rfl rfl (p_bldX (vs' := [i64 x6.bit, .int .i64 (0)]) (cs := ([i64 x6.bit, .int .i64 (0)] : List Value)) (cs' := ([i64 x6.bit, .int .i64 (0)] : List Value)) rfl rfl rfl (fun _ => by kernel_rfl)) ?_
         have hlt_108 := hbr.lt
         refine wle rfl (e_call ent111 rfl rfl (IH (n - 1) (by omega) (by omega) hbr hl hab (by intro k hk; have hF1 := hF k (by omega); repeat (first | exact hF1 | (refine ⟨?_, by omega⟩))) (by intro ht; first | exact hF0 ht | ((try simp only [and_assoc] at ht); exact hF0 ht.1)) (by intro ht; first | exact hFgr ht | ((try simp only [and_assoc] at ht); exact hFgr ht.1)) hgr0 (by intro k hk; obtain ⟨h1, h2, h3⟩ := hFl k hk; exact ⟨by omega, by intro ht; first | exact h2 ht | ((try simp only [and_assoc] at ht); exact h2 ht.1), h3⟩) (by omega) (by omega) hrnd) ?_)
         rintro _ w31 ⟨h108, Al108, ll108, cl108, Ab108, cb108, bd108, l108, rfl, hbr, hl, hab, hpr108, hc⟩
         refine ⟨_, rfl, ?_⟩
         have hzw31 := hc.size
         have HC := HC.trans hc (fun _ _ h => h) (fun k hk ht => ht.elim (fun ht => by first | exact .inl ht | ((try simp only [and_assoc] at ht); exact .inl ht.1)) .inr)
         have hrnd := hrnd.ch hc (fun k hk ht => by subst hk; exact ht.elim (fun ht => by first | exact hF0 ht | ((try simp only [and_assoc] at ht); exact hF0 ht.1)) (fun ht => hgr0 ht.symm))
         have hb2 := hb2.ch hc (by omega)
         have hb3 := hb3.ch hc (by omega)
         have hb4 := hb4.ch hc (by omega)
         have hln108 := hl.len
         have hsl108 := hpr108.suf_len
         have hltg2 := hb2.lt
         have hltg3 := hb3.lt
         have hltg4 := hb4.lt
         have hltgr := hbr.lt
         refine wle rfl (e_alloc (cs := ((List.replicate 32 (0 : UInt8)).map u8v).toArray) rfl (by rfl) rfl (fun w32 g5 hg5 hb5 hc hsz5 => ?_))
         have hzw32 := hc.size
         have HC := HC.tr hc
         have hrnd := hrnd.no hc
         have hb2 := hb2.ch hc (fun h => h)
         have hb3 := hb3.ch hc (fun h => h)
         have hb4 := hb4.ch hc (fun h => h)
         have hbr := hbr.ch hc (fun h => h)
         have hl := hl.no hc
         have hab := hab.after hc
         have hge5 : w.heap.size ≤ g5 := by have := HC.size; omega
         have neg2_5 : g2 < g5 := by omega
         have neg3_5 : g3 < g5 := by omega
         have neg4_5 : g4 < g5 := by omega
         have negr_5 : gr < g5 := by omega
         refine wle rfl (e_stH sz38 (List.length_replicate ..) hpr108.len rfl rfl hb5 (fun w33 hb5 hc hsz => ?_))
         have hzw33 := hc.size
         have HC := HC.trans hc (fun _ _ h => h) (fun k hk ht => absurd ht (by omega))
         have hrnd := hrnd.ch hc (by intro k hk ht; omega)
         have hb2 := hb2.ch hc (by omega)
         have hb3 := hb3.ch hc (by omega)
         have hb4 := hb4.ch hc (by omega)
         have hbr := hbr.ch hc (by omega)
         have hl := hl.ch hc (by intro k hk ht; have h1 := (hFl k hk).1; omega)
         have hab := hab.ch hc (by intro k hz hk ht; omega)
         refine wl_nil ?_
         refine x_seq ?_
         refine wc_seq ?_
         refine wc_region ?_
         refine wl rfl rfl rfl (p_mv rfl) ?_
         refine wl rfl rfl rfl (p_fld (j := 1) Tryd.underlying115 rfl ⟨_, by rfl⟩ rfl rfl) ?_
         refine wl rfl rfl rfl (p_ld Tryd.underlying3 rfl rfl (ld (cell_at (p := ([i64 x6.kind] : List Value)) (v := (i64 x6.bit : Value)) (r := (((List.map u8v x6.key) ++ (List.map u8v x6.val)) : List Value)) hb3 (by simp only [List.append_assoc, List.cons_append, List.nil_append, List.append_nil]) (by first | rfl | (simp only [List.length_append, List.length_map, List.length_cons, List.length_nil]; done) | (simp only [List.length_append, List.length_map, List.length_cons, List.length_nil, List.size_toArray]; done))))) ?_
         refine wl rfl rfl rfl (p_bldX (vs' := [i64 x6.bit, .int .i64 (1)]) (cs := ([i64 x6.bit, .int .i64 (1)] : List Value)) (cs' := ([i64 x6.bit, .int .i64 (1)] : List Value)) rfl rfl rfl (fun _ => by kernel_rfl)) ?_
         have hlt_113 := hbr.lt
         refine wle rfl (e_call ent111 rfl rfl (IH (n - 1) (by omega) (by omega) hbr hl hab (by intro k hk; have hF1 := hF k (by omega); repeat (first | exact hF1 | (refine ⟨?_, by omega⟩))) (by intro ht; first | exact hF0 ht | ((try simp only [and_assoc] at ht); exact hF0 ht.1)) (by intro ht; first | exact hFgr ht | ((try simp only [and_assoc] at ht); exact hFgr ht.1)) hgr0 (by intro k hk; obtain ⟨h1, h2, h3⟩ := hFl k hk; exact ⟨by omega, by intro ht; first | exact h2 ht | ((try simp only [and_assoc] at ht); exact h2 ht.1), h3⟩) (by omega) (by omega) hrnd) ?_)
         rintro _ w34 ⟨h113, Al113, ll113, cl113, Ab113, cb113, bd113, l113, rfl, hbr, hl, hab, hpr113, hc⟩
         refine ⟨_, rfl, ?_⟩
         have hzw34 := hc.size
         have HC := HC.trans hc (fun _ _ h => h) (fun k hk ht => ht.elim (fun ht => by first | exact .inl ht | ((try simp only [and_assoc] at ht); exact .inl ht.1)) .inr)
         have hrnd := hrnd.ch hc (fun k hk ht => by subst hk; exact ht.elim (fun ht => by first | exact hF0 ht | ((try simp only [and_assoc] at ht); exact hF0 ht.1)) (fun ht => hgr0 ht.symm))
         have hb2 := hb2.ch hc (by omega)
         have hb3 := hb3.ch hc (by omega)
         have hb4 := hb4.ch hc (by omega)
         have hb5 := hb5.ch hc (by omega)
         have hln113 := hl.len
         have hsl113 := hpr113.suf_len
         have hltg2 := hb2.lt
         have hltg3 := hb3.lt
         have hltg4 := hb4.lt
         have hltg5 := hb5.lt
         have hltgr := hbr.lt
         refine wle rfl (e_alloc (cs := ((List.replicate 32 (0 : UInt8)).map u8v).toArray) rfl (by rfl) rfl (fun w35 g6 hg6 hb6 hc hsz6 => ?_))
         have hzw35 := hc.size
         have HC := HC.tr hc
         have hrnd := hrnd.no hc
         have hb2 := hb2.ch hc (fun h => h)
         have hb3 := hb3.ch hc (fun h => h)
         have hb4 := hb4.ch hc (fun h => h)
         have hb5 := hb5.ch hc (fun h => h)
         have hbr := hbr.ch hc (fun h => h)
         have hl := hl.no hc
         have hab := hab.after hc
         have hge6 : w.heap.size ≤ g6 := by have := HC.size; omega
         have neg2_6 : g2 < g6 := by omega
         have neg3_6 : g3 < g6 := by omega
         have neg4_6 : g4 < g6 := by omega
         have neg5_6 : g5 < g6 := by omega
         have negr_6 : gr < g6 := by omega
         refine wle rfl (e_stH sz38 (List.length_replicate ..) hpr113.len rfl rfl hb6 (fun w36 hb6 hc hsz => ?_))
         have hzw36 := hc.size
         have HC := HC.trans hc (fun _ _ h => h) (fun k hk ht => absurd ht (by omega))
         have hrnd := hrnd.ch hc (by intro k hk ht; omega)
         have hb2 := hb2.ch hc (by omega)
         have hb3 := hb3.ch hc (by omega)
         have hb4 := hb4.ch hc (by omega)
         have hb5 := hb5.ch hc (by omega)
         have hbr := hbr.ch hc (by omega)
         have hl := hl.ch hc (by intro k hk ht; have h1 := (hFl k hk).1; omega)
         have hab := hab.ch hc (by intro k hz hk ht; omega)
         refine wl_nil ?_
         refine x_seq ?_
         refine wc_seq ?_
         refine wc_region ?_
         refine wl rfl rfl rfl (p_fld (j := 1) Tryd.underlying115 rfl ⟨_, by rfl⟩ rfl rfl) ?_
         refine wl rfl rfl rfl (p_ld Tryd.underlying3 rfl rfl (ld (cell_at (p := ([i64 x6.kind] : List Value)) (v := (i64 x6.bit : Value)) (r := (((List.map u8v x6.key) ++ (List.map u8v x6.val)) : List Value)) hb3 (by simp only [List.append_assoc, List.cons_append, List.nil_append, List.append_nil]) (by first | rfl | (simp only [List.length_append, List.length_map, List.length_cons, List.length_nil]; done) | (simp only [List.length_append, List.length_map, List.length_cons, List.length_nil, List.size_toArray]; done))))) ?_
         refine wl rfl rfl rfl (p_ldH (L := h108) Tryd.underlying38 sz38 hpr108.len rfl (fun _ e => e ▸ rngL hb5)) ?_
         refine wl rfl rfl rfl (p_ldH (L := h113) Tryd.underlying38 sz38 hpr113.len rfl (fun _ e => e ▸ rngL hb6)) ?_
         refine wle rfl (e_call ent76 rfl rfl (tfork_any (hpr108.len) (hpr113.len) hrnd) ?_)
         rintro _ w37 ⟨rfl, hc⟩
         refine ⟨_, rfl, ?_⟩
         have hzw37 := hc.size
         have HC := HC.tr hc
         have hrnd := hrnd.no hc
         have hb2 := hb2.ch hc (fun h => h)
         have hb3 := hb3.ch hc (fun h => h)
         have hb4 := hb4.ch hc (fun h => h)
         have hb5 := hb5.ch hc (fun h => h)
         have hbr := hbr.ch hc (fun h => h)
         have hl := hl.no hc
         have hab := hab.after hc
         have hb6 := hb6.ch hc (fun h => h)
         refine wle rfl (e_stH sz38 (List.length_replicate ..) (forkH_len _ _ _ ) rfl rfl hb2 (fun w38 hb2 hc hsz => ?_))
         have hzw38 := hc.size
         have HC := HC.trans hc (fun _ _ h => h) (fun k hk ht => absurd ht (by omega))
         have hrnd := hrnd.ch hc (by intro k hk ht; omega)
         have hb3 := hb3.ch hc (by omega)
         have hb4 := hb4.ch hc (by omega)
         have hb5 := hb5.ch hc (by omega)
         have hbr := hbr.ch hc (by omega)
         have hl := hl.ch hc (by intro k hk ht; have h1 := (hFl k hk).1; omega)
         have hab := hab.ch hc (by intro k hz hk ht; omega)
         have hb6 := hb6.ch hc (by omega)
         refine wl_nil ?_
         refine x_seq ?_
         refine wc_ret ?_
         refine x_in_ret ?_
         refine x_then_ret ?_
         refine fin_run (resC (cs := List.map u8v (forkH (b8i (x6.bit)) h108 h113)) rfl rfl Tryd.underlying38 rfl (szL sz38 (by rw [List.length_map]; exact (forkH_len _ _ _ ))) (rngL hb2)) ?_
         have hbd : bd = false := by simpa using q11
         have hrs : risesB x6.bit ab = true := by simpa using c4
         rw [hrs] at hpr108
         have hkz : x6.key = zeroH ∧ x6.val = zeroH := by have h := q90; simp at h; exact h
         exact ⟨_, _, _, _, _, _, _, _, rfl, hbr, hl, hab.mono (by intro k hk h; first | exact h | ((try simp only [and_assoc] at h); exact h.1)), (by rw [hlx, hbd]; exact PR.fork c3 hkz.1 hkz.2 (risesB_iff.1 hrs) hpr108 hpr113), HC⟩
      ·
       have c3 := of_decide_eq_false c3
       refine wc_skip ?_
       refine x_in_normal ?_
       refine x_seq ?_
       refine wc_seq ?_
       refine wc_region ?_
       refine wl rfl rfl rfl (p_mv rfl) ?_
       refine wl rfl rfl rfl (p_nck rfl) ?_
       refine wl rfl rfl rfl (p_fld (j := 2) Tryd.underlying164 rfl ⟨_, by rfl⟩ rfl rfl) ?_
       refine wle rfl (e_stC (p := ([.slice (cutA Al cl 1 66) (ll - 1) (cl - 1), .slice Ab lb cb] : List Value)) (u := (.bool bd : Value)) (r := []) (v := .bool true) (by rfl) rfl rfl rfl hbr (by simp only [List.append_assoc, List.cons_append, List.nil_append, List.append_nil]) (by first | rfl | (simp only [List.length_append, List.length_map, List.length_cons, List.length_nil]; done) | (simp only [List.length_append, List.length_map, List.length_cons, List.length_nil, List.size_toArray]; done)) (fun w39 hbr hc hsz => ?_))
       have hbr : Blk w39 gr 164 ([.slice (cutA Al cl 1 66) (ll - 1) (cl - 1), .slice Ab lb cb, .bool true] : List Value).toArray := by have h := hbr; simp only [List.append_assoc, List.cons_append, List.nil_append, List.append_nil] at h ⊢; exact h
       have hzw39 := hc.size
       have HC := HC.trans hc (fun _ _ h => h) (fun k hk ht => .inr ht)
       have hab := hab.ch hc (by intro k hz hk ht; (subst ht; first | exact absurd hk hFgr | ((try simp only [and_assoc] at hk); exact absurd hk.1 hFgr)))
       have hrnd := hrnd.ch hc (by intro k hk ht; omega)
       have hb2 := hb2.ch hc (by omega)
       have hb3 := hb3.ch hc (by omega)
       have hl := hl.ch hc (by intro k hk ht; exact (hFl k hk).2.2 ht)
       have hb4 := hb4.ch hc (by omega)
       refine wl_nil ?_
       refine x_seq ?_
       refine wc_seq ?_
       refine wc_region ?_
       refine wl rfl rfl rfl (p_bldP (cs := ((List.replicate 32 (0 : UInt8)).map u8v).toArray) rfl (fun _ => by kernel_rfl)) ?_
       refine wle rfl (e_stH sz38 (List.length_replicate ..) (List.length_replicate ..) rfl rfl hb2 (fun w40 hb2 hc hsz => ?_))
       have hzw40 := hc.size
       have HC := HC.trans hc (fun _ _ h => h) (fun k hk ht => absurd ht (by omega))
       have hbr := hbr.ch hc (by omega)
       have hab := hab.ch hc (by intro k hz hk ht; omega)
       have hrnd := hrnd.ch hc (by intro k hk ht; omega)
       have hb3 := hb3.ch hc (by omega)
       have hl := hl.ch hc (by intro k hk ht; have h1 := (hFl k hk).1; omega)
       have hb4 := hb4.ch hc (by omega)
       refine wl_nil ?_
       refine x_seq ?_
       refine wc_ret ?_
       refine fin_run (resC (cs := List.map u8v (List.replicate 32 (0 : UInt8))) rfl rfl Tryd.underlying38 rfl (szL sz38 (by rw [List.length_map]; exact (List.length_replicate ..))) (rngL hb2)) ?_
       have hbd : bd = false := by simpa using q11
       exact ⟨_, _, _, _, _, _, _, _, rfl, hbr, hl, hab.mono (by intro k hk h; first | exact h | ((try simp only [and_assoc] at h); exact h.1)), (by rw [hlx, hbd]; exact PR.other (by rintro (h | h | h); exact c1 h; exact c2 h; exact c3 h)), HC⟩

theorem side_of {n : Nat} (IH : PartOK n) : SideOK n := by
  intro w gr Al Ab ll cl lb cb bd F Fl l ab sd bt h1 h2 h3 h4 h5 h6 h7 h8 h9 h10 h11 h12
  exact side_step IH h1 h2 h3 h4 h5 h6 h7 h8 h9 h10 h11 h12

theorem part_any (n : Nat) : PartOK n := by
  induction n using Nat.strongRecOn with
  | _ n ih =>
    intro w gr Al Ab ll cl lb cb bd F Fl l ab h1 h2 h3 h4 h5 h6 h7 h8 h9 h10 h11 h12
    exact part_step (fun m hm => side_of (ih m hm)) h1 h2 h3 h4 h5 h6 h7 h8 h9 h10 h11 h12

set_option maxHeartbeats 2000000 in
set_option maxRecDepth 20000 in
theorem mroot27 {w : World}  {Am : Option Addr} {lm cm : Nat} {Fm : Nat → Prop} {l : List ND} (hm : SI w Fm eND Am lm cm l) (hl : lm ≤ 1000000) (hrnd : Sl w (fun k => k = 0) u32v (some ⟨0, 0, none⟩) 64 64 rk) :
    Calls Tryd.prog 56 #[.slice Am lm cm] w fun e w' => e = .returned (.tuple #[hv (rootN l).1, .bool (rootN l).2]) ∧ Ch No w w' := by
  have hn0 : 0 < w.heap.size := hrnd.size (by omega) rfl
  have hn1 := hn0
  have hml := hm.len
  have hm := hm.old
  have HC : Ch No w w := Ch.refl _ _
  refine enter' (args := [.slice Am lm cm]) (n := 36) Tryd.func56 rfl rfl rfl ?_
  refine wc_seq ?_
  refine wc_region ?_
  refine wle rfl (e_alloc (cs := ((List.replicate 32 (0 : UInt8)).map u8v).toArray) rfl (by rfl) rfl (fun w1 g2 hg2 hb2 hc hsz2 => ?_))
  have hzw1 := hc.size
  have HC := HC.tr hc
  have hm := hm.no hc
  have hrnd := hrnd.no hc
  have hge2 : w.heap.size ≤ g2 := by have := HC.size; omega
  refine wl rfl rfl rfl (p_as rfl) ?_
  refine wl_nil ?_
  refine x_seq ?_
  refine wc_seq ?_
  refine wc_seq ?_
  refine wc_region ?_
  refine wl rfl rfl rfl (p_mv rfl) ?_
  refine wl rfl rfl rfl (p_lenS Tryd.underlying33 rfl) ?_
  refine wl rfl rfl rfl (p_eq rfl rfl) ?_
  refine wl rfl rfl rfl (p_mv rfl) ?_
  refine wl_split (d := 9) rfl (fun q9 => ?_) (fun q9 => ?_)
  ·
   have q9 := of_decide_eq_true q9
   refine wl_g (gd_ rfl rfl rfl rfl rfl rfl) rfl rfl (p_mv rfl) ?_
   obtain ⟨b2, o2, hA2, hF2, hr2⟩ := (hm).opn (i := 0) (d := ND0) (by omega)
   have hok2 := (hm).okAt (i := 0) (d := ND0) (by omega)
   obtain ⟨x2, ex2⟩ : ∃ x_, x_ = List.getD l (0) ND0 := ⟨_, rfl⟩
   rw [← ex2] at hr2 hok2
   obtain ⟨hx2k, hx2v⟩ := hok2
   have hr2 : w1.rangeAt b2 (o2 + 0 * 66) (([i64 x2.kind, i64 x2.bit] ++ ((List.map u8v x2.key) ++ (List.map u8v x2.val))) : List Value) := hr2
   refine wl_g (gd_ rfl rfl rfl rfl rfl rfl) rfl rfl (p_ixS (j := 0 * 66) Tryd.underlying33 sz115 rfl hA2 rfl (by omega) (by omega) rfl) ?_
   have hl1 : l = [x2] := by rw [ex2]; cases l with | nil => simp at hml; omega | cons y r => cases r with | nil => rfl | cons z r => simp at hml; omega
   refine wl_g (gd_ rfl rfl rfl rfl rfl rfl) rfl rfl (p_ldA (cs := (([i64 x2.kind, i64 x2.bit] ++ ((List.map u8v x2.key) ++ (List.map u8v x2.val))) : List Value)) Tryd.underlying115 rfl (szL sz115 (by first | rfl | (simp only [List.length_append, List.length_map, List.length_cons, List.length_nil, (show List.length x2.key = 32 from hx2k), (show List.length x2.val = 32 from hx2v)]; done) | (simp only [List.length_append, List.length_map, List.length_cons, List.length_nil, List.size_toArray, (show List.length x2.key = 32 from hx2k), (show List.length x2.val = 32 from hx2v)]; done))) rfl (fun _ e => e ▸ hr2)) ?_
   refine wl_g (gd_ rfl rfl rfl rfl rfl rfl) rfl rfl (p_bldX (vs' := [.int .i64 (1)]) (cs := (([.int .i64 (1), Value.int .i64 0] ++ ((List.map u8v (List.replicate 32 (0 : UInt8))) ++ (List.map u8v (List.replicate 32 (0 : UInt8))))) : List Value)) (cs' := (([.int .i64 (1), Value.int .i64 0] ++ ((hx (List.replicate 32 (0 : UInt8))) ++ (hx (List.replicate 32 (0 : UInt8))))) : List Value)) rfl rfl (by simp only [hv, map_hx (List.length_replicate ..)] <;> rfl) (fun _ => by kernel_rfl)) ?_
   refine wl_g (gd_ rfl rfl rfl rfl rfl rfl) rfl rfl (p_eqV (by kernel_rfl) rfl rfl (eqv_struct Tryd.underlying115 (by kernel_rfl) (eqf_cons rfl (part_c (cs := (([i64 x2.kind, i64 x2.bit] ++ ((List.map u8v x2.key) ++ (List.map u8v x2.val))) : List Value)) (p := []) (v := i64 x2.kind) (r := (([i64 x2.bit] ++ ((List.map u8v x2.key) ++ (List.map u8v x2.val))) : List Value)) Tryd.underlying3 rfl (by first | rfl | simp only [List.append_assoc, List.cons_append, List.nil_append, List.append_nil]) rfl) (part_c (cs := (([.int .i64 (1), Value.int .i64 0] ++ ((List.map u8v (List.replicate 32 (0 : UInt8))) ++ (List.map u8v (List.replicate 32 (0 : UInt8))))) : List Value)) (p := []) (v := .int .i64 (1)) (r := (([Value.int .i64 0] ++ ((List.map u8v (List.replicate 32 (0 : UInt8))) ++ (List.map u8v (List.replicate 32 (0 : UInt8))))) : List Value)) Tryd.underlying3 rfl (by first | rfl | simp only [List.append_assoc, List.cons_append, List.nil_append, List.append_nil]) rfl) (eqv_int Tryd.underlying3) (eqf_cons rfl (part_c (cs := (([i64 x2.kind, i64 x2.bit] ++ ((List.map u8v x2.key) ++ (List.map u8v x2.val))) : List Value)) (p := ([i64 x2.kind] : List Value)) (v := i64 x2.bit) (r := (((List.map u8v x2.key) ++ (List.map u8v x2.val)) : List Value)) Tryd.underlying3 rfl (by first | rfl | simp only [List.append_assoc, List.cons_append, List.nil_append, List.append_nil]) (by first | rfl | (simp only [List.length_append, List.length_map, List.length_cons, List.length_nil]; done) | (simp only [List.length_append, List.length_map, List.length_cons, List.length_nil, List.size_toArray]; done))) (part_c (cs := (([.int .i64 (1), Value.int .i64 0] ++ ((List.map u8v (List.replicate 32 (0 : UInt8))) ++ (List.map u8v (List.replicate 32 (0 : UInt8))))) : List Value)) (p := ([.int .i64 (1)] : List Value)) (v := Value.int .i64 0) (r := (((List.map u8v (List.replicate 32 (0 : UInt8))) ++ (List.map u8v (List.replicate 32 (0 : UInt8)))) : List Value)) Tryd.underlying3 rfl (by first | rfl | simp only [List.append_assoc, List.cons_append, List.nil_append, List.append_nil]) (by first | rfl | (simp only [List.length_append, List.length_map, List.length_cons, List.length_nil]; done) | (simp only [List.length_append, List.length_map, List.length_cons, List.length_nil, List.size_toArray]; done))) (eqv_int Tryd.underlying3) (eqf_cons rfl (part_h (cs := (([i64 x2.kind, i64 x2.bit] ++ ((List.map u8v x2.key) ++ (List.map u8v x2.val))) : List Value)) (p := ([i64 x2.kind, i64 x2.bit] : List Value)) (L := x2.key) (r := ((List.map u8v x2.val) : List Value)) Tryd.underlying38 rfl sz38 (hx2k) (by first | rfl | simp only [List.append_assoc, List.cons_append, List.nil_append, List.append_nil]) (by first | rfl | (simp only [List.length_append, List.length_map, List.length_cons, List.length_nil]; done) | (simp only [List.length_append, List.length_map, List.length_cons, List.length_nil, List.size_toArray]; done))) (part_h (cs := (([.int .i64 (1), Value.int .i64 0] ++ ((List.map u8v (List.replicate 32 (0 : UInt8))) ++ (List.map u8v (List.replicate 32 (0 : UInt8))))) : List Value)) (p := ([.int .i64 (1), Value.int .i64 0] : List Value)) (L := (List.replicate 32 (0 : UInt8))) (r := ((List.map u8v (List.replicate 32 (0 : UInt8))) : List Value)) Tryd.underlying38 rfl sz38 ((List.length_replicate ..)) (by first | rfl | simp only [List.append_assoc, List.cons_append, List.nil_append, List.append_nil]) (by first | rfl | (simp only [List.length_append, List.length_map, List.length_cons, List.length_nil]; done) | (simp only [List.length_append, List.length_map, List.length_cons, List.length_nil, List.size_toArray]; done))) (eqv_hash Tryd.underlying38 Tryd.underlying5 sz5 (hx2k) ((List.length_replicate ..))) (eqf_cons rfl (part_h (cs := (([i64 x2.kind, i64 x2.bit] ++ ((List.map u8v x2.key) ++ (List.map u8v x2.val))) : List Value)) (p := (([i64 x2.kind, i64 x2.bit] ++ (List.map u8v x2.key)) : List Value)) (L := x2.val) (r := []) Tryd.underlying38 rfl sz38 (hx2v) (by first | rfl | simp only [List.append_assoc, List.cons_append, List.nil_append, List.append_nil]) (by first | rfl | (simp only [List.length_append, List.length_map, List.length_cons, List.length_nil, (show List.length x2.key = 32 from hx2k)]; done) | (simp only [List.length_append, List.length_map, List.length_cons, List.length_nil, List.size_toArray, (show List.length x2.key = 32 from hx2k)]; done))) (part_h (cs := (([.int .i64 (1), Value.int .i64 0] ++ ((List.map u8v (List.replicate 32 (0 : UInt8))) ++ (List.map u8v (List.replicate 32 (0 : UInt8))))) : List Value)) (p := (([.int .i64 (1), Value.int .i64 0] ++ (List.map u8v (List.replicate 32 (0 : UInt8)))) : List Value)) (L := (List.replicate 32 (0 : UInt8))) (r := []) Tryd.underlying38 rfl sz38 ((List.length_replicate ..)) (by first | rfl | simp only [List.append_assoc, List.cons_append, List.nil_append, List.append_nil]) (by first | rfl | (simp only [List.length_append, List.length_map, List.length_cons, List.length_nil, (show List.length (List.replicate 32 (0 : UInt8)) = 32 from (List.length_replicate ..))]; done) | (simp only [List.length_append, List.length_map, List.length_cons, List.length_nil, List.size_toArray, (show List.length (List.replicate 32 (0 : UInt8)) = 32 from (List.length_replicate ..))]; done))) (eqv_hash Tryd.underlying38 Tryd.underlying5 sz5 (hx2v) ((List.length_replicate ..))) (eqf_nil))))))) ?_
   refine wl rfl rfl rfl (p_pickT rfl rfl) ?_
   refine wl_nil ?_
   refine x_seq ?_
   refine wc_if rfl (fun c0 => ?_) (fun c0 => ?_)
   ·
    have hln1 : l = [ND0] := by rw [hl1]; exact congrArg (fun z => [z]) (nd_ext.2 (by have h := c0; simp at h; simpa [ND0, zeroH] using h))
    refine wc_seq ?_
    refine wc_region ?_
    refine wle rfl (e_call ent73 rfl rfl (tnone_any hrnd) ?_)
    rintro _ w3 ⟨rfl, hc⟩
    refine ⟨_, rfl, ?_⟩
    have hzw3 := hc.size
    have HC := HC.tr hc
    have hm := hm.no hc
    have hrnd := hrnd.no hc
    have hb2 := hb2.ch hc (fun h => h)
    refine wle rfl (e_stH sz38 (List.length_replicate ..) noneH_len rfl rfl hb2 (fun w4 hb2 hc hsz => ?_))
    have hzw4 := hc.size
    have HC := HC.trans hc (fun _ _ h => h) (fun k hk ht => absurd ht (by omega))
    have hm := hm.ch hc (by intro k hk ht; omega)
    first | have hrnd := hrnd.ch hc (by intro k hk ht; omega) | have hrnd := hrnd.chT hc (by intro k hz hk ht; omega)
    refine wl rfl rfl rfl (p_as rfl) ?_
    refine wl_nil ?_
    refine x_seq ?_
    refine wc_ret ?_
    refine x_then_ret ?_
    refine fin_run (resMany (rs := [.cell 2 38, .tmp 3]) rfl (.cellA (cs := List.map u8v noneH) rfl Tryd.underlying38 rfl (szL sz38 (by rw [List.length_map]; exact noneH_len)) (rngL hb2) (.tmp rfl (.nil))) rfl) ?_
    rw [hln1, root_nothing]; exact ⟨rfl, HC⟩
   ·
    have hne : l ≠ [ND0] := fun e => by have e2 := hl1.symm.trans e; injection e2 with e2 _; rw [e2] at c0; simp [ND0, zeroH] at c0
    refine wc_skip ?_
    refine x_seq ?_
    refine wc_seq ?_
    refine wc_region ?_
    refine wl rfl rfl rfl (p_mv rfl) ?_
    refine wl rfl rfl rfl (p_bldX (vs' := [.slice Am lm cm]) (cs := ([.slice Am lm cm, Value.slice none 0 0, Value.bool false] : List Value)) (cs' := ([.slice Am lm cm, Value.slice none 0 0, Value.bool false] : List Value)) rfl rfl rfl (fun _ => by kernel_rfl)) ?_
    have hltg2 := hb2.lt
    refine wle rfl (e_box (cs := ([.slice Am lm cm, Value.slice none 0 0, Value.bool false] : List Value).toArray) rfl rfl rfl (fun w5 g19 hg19 hb19 hc hsz19 => ?_))
    have hzw5 := hc.size
    have HC := HC.tr hc
    have hm := hm.no hc
    have hrnd := hrnd.no hc
    have hb2 := hb2.ch hc (fun h => h)
    have hge19 : w.heap.size ≤ g19 := by have := HC.size; omega
    have neg2_19 : g2 < g19 := by omega
    refine wl rfl rfl rfl (p_as rfl) ?_
    refine wl_nil ?_
    refine x_seq ?_
    refine wc_seq ?_
    refine wc_region ?_
    refine wl rfl rfl rfl (p_mv rfl) ?_
    have hlt_21 := hb19.lt
    refine wle rfl (e_call ent88 rfl rfl (part_any l.length (F := fun k => w5.heap.size ≤ k) (Nat.le_refl _) hb19 hm (RI.nil _ _ _ _) (fun k hk => hk) (by omega) (by omega) (by omega) (fun k hk => ⟨by omega, by omega, by omega⟩) (by omega) (by omega) hrnd) ?_)
    rintro _ w6 ⟨h21, Al21, ll21, cl21, Ab21, cb21, bd21, l21, rfl, hbr21, hl21, hab21, hpr21, hc⟩
    refine ⟨_, rfl, ?_⟩
    have hzw6 := hc.size
    have HC := HC.trans hc (fun _ _ h => h) (fun k hk ht => absurd ht (by omega))
    have hm := hm.ch hc (by intro k hk ht; omega)
    first | have hrnd := hrnd.ch hc (by intro k hk ht; omega) | have hrnd := hrnd.chT hc (by intro k hz hk ht; omega)
    have hb2 := hb2.ch hc (by omega)
    have hln21 := hl21.len
    have hltg2 := hb2.lt
    have hltg19 := hbr21.lt
    refine wle rfl (e_alloc (cs := ((List.replicate 32 (0 : UInt8)).map u8v).toArray) rfl (by rfl) rfl (fun w7 g5 hg5 hb5 hc hsz5 => ?_))
    have hzw7 := hc.size
    have HC := HC.tr hc
    have hm := hm.no hc
    have hrnd := hrnd.no hc
    have hb2 := hb2.ch hc (fun h => h)
    have hbr21 := hbr21.ch hc (fun h => h)
    have hge5 : w.heap.size ≤ g5 := by have := HC.size; omega
    have neg2_5 : g2 < g5 := by omega
    have neg19_5 : g19 < g5 := by omega
    refine wle rfl (e_stH sz38 (List.length_replicate ..) hpr21.len rfl rfl hb5 (fun w8 hb5 hc hsz => ?_))
    have hzw8 := hc.size
    have HC := HC.trans hc (fun _ _ h => h) (fun k hk ht => absurd ht (by omega))
    have hm := hm.ch hc (by intro k hk ht; omega)
    first | have hrnd := hrnd.ch hc (by intro k hk ht; omega) | have hrnd := hrnd.chT hc (by intro k hz hk ht; omega)
    have hb2 := hb2.ch hc (by omega)
    have hbr21 := hbr21.ch hc (by omega)
    refine wl_nil ?_
    refine x_seq ?_
    refine wc_seq ?_
    refine wc_seq ?_
    refine wc_region ?_
    refine wl rfl rfl rfl (p_mv rfl) ?_
    refine wl rfl rfl rfl (p_nck rfl) ?_
    refine wl rfl rfl rfl (p_fld (j := 2) Tryd.underlying164 rfl ⟨_, by rfl⟩ rfl rfl) ?_
    refine wl rfl rfl rfl (p_ld Tryd.underlying4 rfl rfl (ld (cell_at (p := ([.slice Al21 ll21 cl21, .slice Ab21 0 cb21] : List Value)) (v := (.bool bd21 : Value)) (r := []) hbr21 (by simp only [List.append_assoc, List.cons_append, List.nil_append, List.append_nil]) (by first | rfl | (simp only [List.length_append, List.length_map, List.length_cons, List.length_nil]; done) | (simp only [List.length_append, List.length_map, List.length_cons, List.length_nil, List.size_toArray]; done))))) ?_
    refine wl rfl rfl rfl (p_mv rfl) ?_
    refine wl_split (d := 26) rfl (fun q26 => ?_) (fun q26 => ?_)
    ·
     refine wl_s (gd_ rfl rfl rfl rfl rfl rfl) rfl rfl ?_
     refine wl_s (gd_ rfl rfl rfl rfl rfl rfl) rfl rfl ?_
     refine wl_s (gd_ rfl rfl rfl rfl rfl rfl) rfl rfl ?_
     refine wl_s (gd_ rfl rfl rfl rfl rfl rfl) rfl rfl ?_
     refine wl_s (gd_ rfl rfl rfl rfl rfl rfl) rfl rfl ?_
     refine wl_s (gd_ rfl rfl rfl rfl rfl rfl) rfl rfl ?_
     refine wl rfl rfl rfl (p_pickT rfl rfl) ?_
     refine wl_nil ?_
     refine x_seq ?_
     refine wc_yes rfl (rfl) ?_
     refine wc_seq ?_
     refine wc_region ?_
     refine wl rfl rfl rfl (p_bldP (cs := ((List.replicate 32 (0 : UInt8)).map u8v).toArray) rfl (fun _ => by kernel_rfl)) ?_
     refine wle rfl (e_stH sz38 (List.length_replicate ..) (List.length_replicate ..) rfl rfl hb2 (fun w9 hb2 hc hsz => ?_))
     have hzw9 := hc.size
     have HC := HC.trans hc (fun _ _ h => h) (fun k hk ht => absurd ht (by omega))
     have hm := hm.ch hc (by intro k hk ht; omega)
     first | have hrnd := hrnd.ch hc (by intro k hk ht; omega) | have hrnd := hrnd.chT hc (by intro k hz hk ht; omega)
     have hbr21 := hbr21.ch hc (by omega)
     have hb5 := hb5.ch hc (by omega)
     refine wl rfl rfl rfl (p_as rfl) ?_
     refine wl_nil ?_
     refine x_seq ?_
     refine wc_ret ?_
     refine x_then_ret ?_
     refine fin_run (resMany (rs := [.cell 2 38, .tmp 3]) rfl (.cellA (cs := List.map u8v (List.replicate 32 (0 : UInt8))) rfl Tryd.underlying38 rfl (szL sz38 (by rw [List.length_map]; exact (List.length_replicate ..))) (rngL hb2) (.tmp rfl (.nil))) rfl) ?_
     have hrt := root_part hpr21 hne
     rw [hrt, if_pos (.inl (by simpa using q26))]; exact ⟨rfl, HC⟩
    ·
     refine wl_g (gd_ rfl rfl rfl rfl rfl rfl) rfl rfl (p_mv rfl) ?_
     refine wl_g (gd_ rfl rfl rfl rfl rfl rfl) rfl rfl (p_nck rfl) ?_
     refine wl_g (gd_ rfl rfl rfl rfl rfl rfl) rfl rfl (p_fld (j := 0) Tryd.underlying164 rfl ⟨_, by rfl⟩ rfl rfl) ?_
     refine wl_g (gd_ rfl rfl rfl rfl rfl rfl) rfl rfl (p_ld Tryd.underlying33 rfl rfl (ld (cell_at (p := []) (v := (.slice Al21 ll21 cl21 : Value)) (r := ([.slice Ab21 0 cb21, .bool bd21] : List Value)) hbr21 (by simp only [List.append_assoc, List.cons_append, List.nil_append, List.append_nil]) (by first | rfl | (simp only [List.length_append, List.length_map, List.length_cons, List.length_nil]; done) | (simp only [List.length_append, List.length_map, List.length_cons, List.length_nil, List.size_toArray]; done))))) ?_
     refine wl_g (gd_ rfl rfl rfl rfl rfl rfl) rfl rfl (p_lenS Tryd.underlying33 rfl) ?_
     refine wl_g (gd_ rfl rfl rfl rfl rfl rfl) rfl rfl (p_gt rfl rfl) ?_
     refine wl rfl rfl rfl (p_pickF rfl rfl) ?_
     refine wl_nil ?_
     refine x_seq ?_
     refine wc_if rfl (fun c1 => ?_) (fun c1 => ?_)
     ·
      have c1 := of_decide_eq_true c1
      refine wc_seq ?_
      refine wc_region ?_
      refine wl rfl rfl rfl (p_bldP (cs := ((List.replicate 32 (0 : UInt8)).map u8v).toArray) rfl (fun _ => by kernel_rfl)) ?_
      refine wle rfl (e_stH sz38 (List.length_replicate ..) (List.length_replicate ..) rfl rfl hb2 (fun w10 hb2 hc hsz => ?_))
      have hzw10 := hc.size
      have HC := HC.trans hc (fun _ _ h => h) (fun k hk ht => absurd ht (by omega))
      have hm := hm.ch hc (by intro k hk ht; omega)
      first | have hrnd := hrnd.ch hc (by intro k hk ht; omega) | have hrnd := hrnd.chT hc (by intro k hz hk ht; omega)
      have hbr21 := hbr21.ch hc (by omega)
      have hb5 := hb5.ch hc (by omega)
      refine wl rfl rfl rfl (p_as rfl) ?_
      refine wl_nil ?_
      refine x_seq ?_
      refine wc_ret ?_
      refine x_then_ret ?_
      refine fin_run (resMany (rs := [.cell 2 38, .tmp 3]) rfl (.cellA (cs := List.map u8v (List.replicate 32 (0 : UInt8))) rfl Tryd.underlying38 rfl (szL sz38 (by rw [List.length_map]; exact (List.length_replicate ..))) (rngL hb2) (.tmp rfl (.nil))) rfl) ?_
      have hrt := root_part hpr21 hne
      rw [hrt, if_pos (.inr (by omega))]; exact ⟨rfl, HC⟩
     ·
      have c1 := of_decide_eq_false c1
      refine wc_skip ?_
      refine x_seq ?_
      refine wc_seq ?_
      refine wc_region ?_
      refine wl rfl rfl rfl (p_ldH (L := h21) Tryd.underlying38 sz38 hpr21.len rfl (fun _ e => e ▸ rngL hb5)) ?_
      refine wle rfl (e_stH sz38 (List.length_replicate ..) hpr21.len rfl rfl hb2 (fun w11 hb2 hc hsz => ?_))
      have hzw11 := hc.size
      have HC := HC.trans hc (fun _ _ h => h) (fun k hk ht => absurd ht (by omega))
      have hm := hm.ch hc (by intro k hk ht; omega)
      first | have hrnd := hrnd.ch hc (by intro k hk ht; omega) | have hrnd := hrnd.chT hc (by intro k hz hk ht; omega)
      have hbr21 := hbr21.ch hc (by omega)
      have hb5 := hb5.ch hc (by omega)
      refine wl rfl rfl rfl (p_as rfl) ?_
      refine wl_nil ?_
      refine x_seq ?_
      refine wc_ret ?_
      refine fin_run (resMany (rs := [.cell 2 38, .tmp 3]) rfl (.cellA (cs := List.map u8v h21) rfl Tryd.underlying38 rfl (szL sz38 (by rw [List.length_map]; exact hpr21.len)) (rngL hb2) (.tmp rfl (.nil))) rfl) ?_
      have hrt := root_part hpr21 hne
      rw [hrt, if_neg (by rintro (h | h); rw [h] at q26; simp at q26; omega)]; exact ⟨rfl, HC⟩
  ·
   have q9 := of_decide_eq_false q9
   have hne : l ≠ [ND0] := fun e => by rw [e] at hml; simp at hml; omega
   refine wl_s (gd_ rfl rfl rfl rfl rfl rfl) rfl rfl ?_
   refine wl_s (gd_ rfl rfl rfl rfl rfl rfl) rfl rfl ?_
   refine wl_s (gd_ rfl rfl rfl rfl rfl rfl) rfl rfl ?_
   refine wl_s (gd_ rfl rfl rfl rfl rfl rfl) rfl rfl ?_
   refine wl_s (gd_ rfl rfl rfl rfl rfl rfl) rfl rfl ?_
   refine wl rfl rfl rfl (p_pickF rfl rfl) ?_
   refine wl_nil ?_
   refine x_seq ?_
   refine wc_no rfl (rfl) ?_
   refine wc_skip ?_
   refine x_seq ?_
   refine wc_seq ?_
   refine wc_region ?_
   refine wl rfl rfl rfl (p_mv rfl) ?_
   refine wl rfl rfl rfl (p_bldX (vs' := [.slice Am lm cm]) (cs := ([.slice Am lm cm, Value.slice none 0 0, Value.bool false] : List Value)) (cs' := ([.slice Am lm cm, Value.slice none 0 0, Value.bool false] : List Value)) rfl rfl rfl (fun _ => by kernel_rfl)) ?_
   have hltg2 := hb2.lt
   refine wle rfl (e_box (cs := ([.slice Am lm cm, Value.slice none 0 0, Value.bool false] : List Value).toArray) rfl rfl rfl (fun w12 g19 hg19 hb19 hc hsz19 => ?_))
   have hzw12 := hc.size
   have HC := HC.tr hc
   have hm := hm.no hc
   have hrnd := hrnd.no hc
   have hb2 := hb2.ch hc (fun h => h)
   have hge19 : w.heap.size ≤ g19 := by have := HC.size; omega
   have neg2_19 : g2 < g19 := by omega
   refine wl rfl rfl rfl (p_as rfl) ?_
   refine wl_nil ?_
   refine x_seq ?_
   refine wc_seq ?_
   refine wc_region ?_
   refine wl rfl rfl rfl (p_mv rfl) ?_
   have hlt_21 := hb19.lt
   refine wle rfl (e_call ent88 rfl rfl (part_any l.length (F := fun k => w12.heap.size ≤ k) (Nat.le_refl _) hb19 hm (RI.nil _ _ _ _) (fun k hk => hk) (by omega) (by omega) (by omega) (fun k hk => ⟨by omega, by omega, by omega⟩) (by omega) (by omega) hrnd) ?_)
   rintro _ w13 ⟨h21, Al21, ll21, cl21, Ab21, cb21, bd21, l21, rfl, hbr21, hl21, hab21, hpr21, hc⟩
   refine ⟨_, rfl, ?_⟩
   have hzw13 := hc.size
   have HC := HC.trans hc (fun _ _ h => h) (fun k hk ht => absurd ht (by omega))
   have hm := hm.ch hc (by intro k hk ht; omega)
   first | have hrnd := hrnd.ch hc (by intro k hk ht; omega) | have hrnd := hrnd.chT hc (by intro k hz hk ht; omega)
   have hb2 := hb2.ch hc (by omega)
   have hln21 := hl21.len
   have hltg2 := hb2.lt
   have hltg19 := hbr21.lt
   refine wle rfl (e_alloc (cs := ((List.replicate 32 (0 : UInt8)).map u8v).toArray) rfl (by rfl) rfl (fun w14 g5 hg5 hb5 hc hsz5 => ?_))
   have hzw14 := hc.size
   have HC := HC.tr hc
   have hm := hm.no hc
   have hrnd := hrnd.no hc
   have hb2 := hb2.ch hc (fun h => h)
   have hbr21 := hbr21.ch hc (fun h => h)
   have hge5 : w.heap.size ≤ g5 := by have := HC.size; omega
   have neg2_5 : g2 < g5 := by omega
   have neg19_5 : g19 < g5 := by omega
   refine wle rfl (e_stH sz38 (List.length_replicate ..) hpr21.len rfl rfl hb5 (fun w15 hb5 hc hsz => ?_))
   have hzw15 := hc.size
   have HC := HC.trans hc (fun _ _ h => h) (fun k hk ht => absurd ht (by omega))
   have hm := hm.ch hc (by intro k hk ht; omega)
   first | have hrnd := hrnd.ch hc (by intro k hk ht; omega) | have hrnd := hrnd.chT hc (by intro k hz hk ht; omega)
   have hb2 := hb2.ch hc (by omega)
   have hbr21 := hbr21.ch hc (by omega)
   refine wl_nil ?_
   refine x_seq ?_
   refine wc_seq ?_
   refine wc_seq ?_
   refine wc_region ?_
   refine wl rfl rfl rfl (p_mv rfl) ?_
   refine wl rfl rfl rfl (p_nck rfl) ?_
   refine wl rfl rfl rfl (p_fld (j := 2) Tryd.underlying164 rfl ⟨_, by rfl⟩ rfl rfl) ?_
   refine wl rfl rfl rfl (p_ld Tryd.underlying4 rfl rfl (ld (cell_at (p := ([.slice Al21 ll21 cl21, .slice Ab21 0 cb21] : List Value)) (v := (.bool bd21 : Value)) (r := []) hbr21 (by simp only [List.append_assoc, List.cons_append, List.nil_append, List.append_nil]) (by first | rfl | (simp only [List.length_append, List.length_map, List.length_cons, List.length_nil]; done) | (simp only [List.length_append, List.length_map, List.length_cons, List.length_nil, List.size_toArray]; done))))) ?_
   refine wl rfl rfl rfl (p_mv rfl) ?_
   refine wl_split (d := 26) rfl (fun q26 => ?_) (fun q26 => ?_)
   ·
    refine wl_s (gd_ rfl rfl rfl rfl rfl rfl) rfl rfl ?_
    refine wl_s (gd_ rfl rfl rfl rfl rfl rfl) rfl rfl ?_
    refine wl_s (gd_ rfl rfl rfl rfl rfl rfl) rfl rfl ?_
    refine wl_s (gd_ rfl rfl rfl rfl rfl rfl) rfl rfl ?_
    refine wl_s (gd_ rfl rfl rfl rfl rfl rfl) rfl rfl ?_
    refine wl_s (gd_ rfl rfl rfl rfl rfl rfl) rfl rfl ?_
    refine wl rfl rfl rfl (p_pickT rfl rfl) ?_
    refine wl_nil ?_
    refine x_seq ?_
    refine wc_yes rfl (rfl) ?_
    refine wc_seq ?_
    refine wc_region ?_
    refine wl rfl rfl rfl (p_bldP (cs := ((List.replicate 32 (0 : UInt8)).map u8v).toArray) rfl (fun _ => by kernel_rfl)) ?_
    refine wle rfl (e_stH sz38 (List.length_replicate ..) (List.length_replicate ..) rfl rfl hb2 (fun w16 hb2 hc hsz => ?_))
    have hzw16 := hc.size
    have HC := HC.trans hc (fun _ _ h => h) (fun k hk ht => absurd ht (by omega))
    have hm := hm.ch hc (by intro k hk ht; omega)
    first | have hrnd := hrnd.ch hc (by intro k hk ht; omega) | have hrnd := hrnd.chT hc (by intro k hz hk ht; omega)
    have hbr21 := hbr21.ch hc (by omega)
    have hb5 := hb5.ch hc (by omega)
    refine wl rfl rfl rfl (p_as rfl) ?_
    refine wl_nil ?_
    refine x_seq ?_
    refine wc_ret ?_
    refine x_then_ret ?_
    refine fin_run (resMany (rs := [.cell 2 38, .tmp 3]) rfl (.cellA (cs := List.map u8v (List.replicate 32 (0 : UInt8))) rfl Tryd.underlying38 rfl (szL sz38 (by rw [List.length_map]; exact (List.length_replicate ..))) (rngL hb2) (.tmp rfl (.nil))) rfl) ?_
    have hrt := root_part hpr21 hne
    rw [hrt, if_pos (.inl (by simpa using q26))]; exact ⟨rfl, HC⟩
   ·
    refine wl_g (gd_ rfl rfl rfl rfl rfl rfl) rfl rfl (p_mv rfl) ?_
    refine wl_g (gd_ rfl rfl rfl rfl rfl rfl) rfl rfl (p_nck rfl) ?_
    refine wl_g (gd_ rfl rfl rfl rfl rfl rfl) rfl rfl (p_fld (j := 0) Tryd.underlying164 rfl ⟨_, by rfl⟩ rfl rfl) ?_
    refine wl_g (gd_ rfl rfl rfl rfl rfl rfl) rfl rfl (p_ld Tryd.underlying33 rfl rfl (ld (cell_at (p := []) (v := (.slice Al21 ll21 cl21 : Value)) (r := ([.slice Ab21 0 cb21, .bool bd21] : List Value)) hbr21 (by simp only [List.append_assoc, List.cons_append, List.nil_append, List.append_nil]) (by first | rfl | (simp only [List.length_append, List.length_map, List.length_cons, List.length_nil]; done) | (simp only [List.length_append, List.length_map, List.length_cons, List.length_nil, List.size_toArray]; done))))) ?_
    refine wl_g (gd_ rfl rfl rfl rfl rfl rfl) rfl rfl (p_lenS Tryd.underlying33 rfl) ?_
    refine wl_g (gd_ rfl rfl rfl rfl rfl rfl) rfl rfl (p_gt rfl rfl) ?_
    refine wl rfl rfl rfl (p_pickF rfl rfl) ?_
    refine wl_nil ?_
    refine x_seq ?_
    refine wc_if rfl (fun c1 => ?_) (fun c1 => ?_)
    ·
     have c1 := of_decide_eq_true c1
     refine wc_seq ?_
     refine wc_region ?_
     refine wl rfl rfl rfl (p_bldP (cs := ((List.replicate 32 (0 : UInt8)).map u8v).toArray) rfl (fun _ => by kernel_rfl)) ?_
     refine wle rfl (e_stH sz38 (List.length_replicate ..) (List.length_replicate ..) rfl rfl hb2 (fun w17 hb2 hc hsz => ?_))
     have hzw17 := hc.size
     have HC := HC.trans hc (fun _ _ h => h) (fun k hk ht => absurd ht (by omega))
     have hm := hm.ch hc (by intro k hk ht; omega)
     first | have hrnd := hrnd.ch hc (by intro k hk ht; omega) | have hrnd := hrnd.chT hc (by intro k hz hk ht; omega)
     have hbr21 := hbr21.ch hc (by omega)
     have hb5 := hb5.ch hc (by omega)
     refine wl rfl rfl rfl (p_as rfl) ?_
     refine wl_nil ?_
     refine x_seq ?_
     refine wc_ret ?_
     refine x_then_ret ?_
     refine fin_run (resMany (rs := [.cell 2 38, .tmp 3]) rfl (.cellA (cs := List.map u8v (List.replicate 32 (0 : UInt8))) rfl Tryd.underlying38 rfl (szL sz38 (by rw [List.length_map]; exact (List.length_replicate ..))) (rngL hb2) (.tmp rfl (.nil))) rfl) ?_
     have hrt := root_part hpr21 hne
     rw [hrt, if_pos (.inr (by omega))]; exact ⟨rfl, HC⟩
    ·
     have c1 := of_decide_eq_false c1
     refine wc_skip ?_
     refine x_seq ?_
     refine wc_seq ?_
     refine wc_region ?_
     refine wl rfl rfl rfl (p_ldH (L := h21) Tryd.underlying38 sz38 hpr21.len rfl (fun _ e => e ▸ rngL hb5)) ?_
     refine wle rfl (e_stH sz38 (List.length_replicate ..) hpr21.len rfl rfl hb2 (fun w18 hb2 hc hsz => ?_))
     have hzw18 := hc.size
     have HC := HC.trans hc (fun _ _ h => h) (fun k hk ht => absurd ht (by omega))
     have hm := hm.ch hc (by intro k hk ht; omega)
     first | have hrnd := hrnd.ch hc (by intro k hk ht; omega) | have hrnd := hrnd.chT hc (by intro k hz hk ht; omega)
     have hbr21 := hbr21.ch hc (by omega)
     have hb5 := hb5.ch hc (by omega)
     refine wl rfl rfl rfl (p_as rfl) ?_
     refine wl_nil ?_
     refine x_seq ?_
     refine wc_ret ?_
     refine fin_run (resMany (rs := [.cell 2 38, .tmp 3]) rfl (.cellA (cs := List.map u8v h21) rfl Tryd.underlying38 rfl (szL sz38 (by rw [List.length_map]; exact hpr21.len)) (rngL hb2) (.tmp rfl (.nil))) rfl) ?_
     have hrt := root_part hpr21 hne
     rw [hrt, if_neg (by rintro (h | h); rw [h] at q26; simp at q26; omega)]; exact ⟨rfl, HC⟩

set_option maxHeartbeats 1000000 in
set_option maxRecDepth 20000 in
theorem mgood27 {w : World}  {Am : Option Addr} {lm cm : Nat} {Fm : Nat → Prop} {l : List ND} (hm : SI w Fm eND Am lm cm l) (hl : lm ≤ 1000000) (hrnd : Sl w (fun k => k = 0) u32v (some ⟨0, 0, none⟩) 64 64 rk) :
    Calls Tryd.prog 60 #[.slice Am lm cm] w fun e w' => e = .returned (.bool (rootN l).2) ∧ Ch No w w' := by
  have hn0 : 0 < w.heap.size := hrnd.size (by omega) rfl
  have hn1 := hn0
  have hm := hm.old
  have HC : Ch No w w := Ch.refl _ _
  refine enter' (args := [.slice Am lm cm]) (n := 11) Tryd.func60 rfl rfl rfl ?_
  refine wc_seq ?_
  refine wc_region ?_
  refine wl rfl rfl rfl (p_as rfl) ?_
  refine wl_nil ?_
  refine x_seq ?_
  refine wc_seq ?_
  refine wc_region ?_
  refine wl rfl rfl rfl (p_mv rfl) ?_
  refine wle rfl (e_call ent56 rfl rfl (mroot27 (hm) (by omega) hrnd) ?_)
  rintro _ w1 ⟨rfl, hc⟩
  refine ⟨_, rfl, ?_⟩
  have hzw1 := hc.size
  have HC := HC.tr hc
  have hm := hm.no hc
  have hrnd := hrnd.no hc
  refine wl rfl rfl rfl (p_mv rfl) ?_
  refine wl rfl rfl rfl (p_ext rfl rfl) ?_
  refine wl rfl rfl rfl (p_ext rfl rfl) ?_
  refine wle rfl (e_alloc (cs := ((List.replicate 32 (0 : UInt8)).map u8v).toArray) rfl (by rfl) rfl (fun w2 g3 hg3 hb3 hc hsz3 => ?_))
  have hzw2 := hc.size
  have HC := HC.tr hc
  have hm := hm.no hc
  have hrnd := hrnd.no hc
  have hge3 : w.heap.size ≤ g3 := by have := HC.size; omega
  refine wle rfl (e_stH sz38 (List.length_replicate ..) rootN_len rfl rfl hb3 (fun w3 hb3 hc hsz => ?_))
  have hzw3 := hc.size
  have HC := HC.trans hc (fun _ _ h => h) (fun k hk ht => absurd ht (by omega))
  have hm := hm.ch hc (by intro k hk ht; omega)
  first | have hrnd := hrnd.ch hc (by intro k hk ht; omega) | have hrnd := hrnd.chT hc (by intro k hz hk ht; omega)
  refine wl rfl rfl rfl (p_as rfl) ?_
  refine wl_nil ?_
  refine x_seq ?_
  refine wc_seq ?_
  refine wc_region ?_
  refine wl rfl rfl rfl (p_mv rfl) ?_
  refine wl rfl rfl rfl (p_as rfl) ?_
  refine wl_nil ?_
  refine x_seq ?_
  refine wc_ret ?_
  refine fin_run ((res1 rfl rfl)) ?_
  exact ⟨rfl, HC⟩

set_option maxHeartbeats 1000000 in
set_option maxRecDepth 20000 in
theorem grow_nil {w : World} {n : Nat} (hn : n ≤ 1000000000) :
    Calls Tryd.prog 112 #[.slice none 0 0, i64 (n : Int)] w fun e w' => ∃ A c, e = .returned (.slice A 0 c) ∧ Row w' (fun k => w.heap.size ≤ k) 5 1 (.slice A 0 c) 0 [] ∧ Ch No w w' := by
  have HC : Ch No w w := Ch.refl _ _
  refine enter' (args := [.slice none 0 0, i64 (n : Int)]) (n := 27) Tryd.func112 rfl rfl rfl ?_
  refine wc_seq ?_
  refine wc_region ?_
  refine wl rfl rfl rfl (p_as rfl) ?_
  refine wl_nil ?_
  refine x_seq ?_
  refine wc_seq ?_
  refine wc_seq ?_
  refine wc_region ?_
  refine wl rfl rfl rfl (p_mv rfl) ?_
  refine wl rfl rfl rfl (p_lt rfl rfl) ?_
  refine wl_nil ?_
  refine x_seq ?_
  refine wc_no rfl (decide_eq_false (by omega)) ?_
  refine wc_skip ?_
  refine x_seq ?_
  refine wc_seq ?_
  refine wc_seq ?_
  refine wc_region ?_
  refine wl rfl rfl rfl (p_mv rfl) ?_
  refine wl rfl rfl rfl (p_mv rfl) ?_
  refine wl rfl rfl rfl (p_capS Tryd.underlying107 rfl) ?_
  refine wl rfl rfl rfl (p_mv rfl) ?_
  refine wl rfl rfl rfl (p_lenS Tryd.underlying107 rfl) ?_
  refine wl rfl rfl rfl (p_sub (Z := 0) rfl rfl (by rw [w64 (by omega)]; rfl)) ?_
  refine wl rfl rfl rfl (p_sub (Z := (n : Int)) rfl rfl (by rw [w64 (by omega)]; omega)) ?_
  refine wl rfl rfl rfl (p_as rfl) ?_
  refine wl_nil ?_
  refine x_seq ?_
  refine wc_seq ?_
  refine wc_region ?_
  refine wl rfl rfl rfl (p_mv rfl) ?_
  refine wl rfl rfl rfl (p_gt rfl rfl) ?_
  refine wl_nil ?_
  refine x_seq ?_
  refine wc_if rfl (fun c1 => ?_) (fun c1 => ?_)
  ·
   have c1 := of_decide_eq_true c1
   refine wc_region ?_
   refine wl rfl rfl rfl (p_mv rfl) ?_
   refine wl rfl rfl rfl (p_mv rfl) ?_
   refine wl rfl rfl rfl (p_capS Tryd.underlying107 rfl) ?_
   refine wl rfl rfl rfl ((p_slS (lo := none) (hi := some (.tmp 19)) (A := none) (l := 0) (h := 0) Tryd.underlying107 sz5 rfl rfl ⟨_, rfl⟩ (by omega) (by omega) (by omega) (q := 0) rfl).to (show _ = Value.slice none 0 0 from rfl)) ?_
   refine wl rfl rfl rfl (p_mv rfl) ?_
   refine wle rfl (e_appZ0 rfl el107 (by rfl) Tryd.underlying3 rfl rfl (by omega) (by omega) (fun w1 A22 c22 hW22 hc => ?_))
   have hzw1 := hc.size
   have HC := HC.tr hc
   refine wl rfl rfl rfl (p_mv rfl) ?_
   refine wl rfl rfl rfl (p_lenS Tryd.underlying107 rfl) ?_
   have hcp := hW22.cap_
   have hW25 := hW22.head0 (k := 0) (by omega)
   refine wl rfl rfl rfl (p_slS (l := 0) (h := 0) Tryd.underlying107 sz5 rfl rfl ⟨_, rfl⟩ (by omega) (by omega) hcp (q := 0) rfl) ?_
   refine wl rfl rfl rfl (p_as rfl) ?_
   refine wl_nil ?_
   refine x_seq ?_
   refine wc_seq ?_
   refine wc_region ?_
   refine wl rfl rfl rfl (p_mv rfl) ?_
   refine wl rfl rfl rfl (p_as rfl) ?_
   refine wl_nil ?_
   refine x_seq ?_
   refine wc_ret ?_
   refine fin_run ((res1 rfl rfl)) ?_
   first | exact ⟨_, _, rfl, hW25.mono (fun k _ h => by have h2 := h.1; omega), HC⟩ | exact ⟨_, _, rfl, hW25.mono (fun k _ h => by omega), HC⟩ | exact ⟨_, _, rfl, Row.nil _ _ _ _, HC⟩
  ·
   have c1 := of_decide_eq_false c1
   refine wc_skip ?_
   refine x_seq ?_
   refine wc_seq ?_
   refine wc_region ?_
   refine wl rfl rfl rfl (p_mv rfl) ?_
   refine wl rfl rfl rfl (p_as rfl) ?_
   refine wl_nil ?_
   refine x_seq ?_
   refine wc_ret ?_
   refine fin_run ((res1 rfl rfl)) ?_
   first | exact ⟨_, _, rfl, hW25.mono (fun k _ h => by have h2 := h.1; omega), HC⟩ | exact ⟨_, _, rfl, hW25.mono (fun k _ h => by omega), HC⟩ | exact ⟨_, _, rfl, Row.nil _ _ _ _, HC⟩

set_option maxHeartbeats 1000000 in
set_option maxRecDepth 20000 in
theorem concat_any {w : World} {Aq : Option Addr} {lq cq : Nat} {Fq : Nat → Prop} {q : List (List UInt8)} (hq : SB w Fq Aq lq cq q) (hn : lq ≤ 1000) (hl : q.flatten.length ≤ 1000000000) :
    Calls Tryd.prog 94 #[.slice Aq lq cq] w fun e w' => ∃ A c, e = .returned (.slice A (q.flatten.length) c) ∧ Row w' (fun k => w.heap.size ≤ k) 5 1 (.slice A (q.flatten.length) c) (q.flatten.length) (q.flatten.map u8v) ∧ Ch No w w' := by
  have hql := hq.len
  have hq := hq.old
  have HC : Ch No w w := Ch.refl _ _
  refine enter' (args := [.slice Aq lq cq]) (n := 36) Tryd.func94 rfl rfl rfl ?_
  refine wc_seq ?_
  refine wc_region ?_
  refine wl rfl rfl rfl (p_as rfl) ?_
  refine wl_nil ?_
  refine x_seq ?_
  refine wc_seq ?_
  refine wc_region ?_
  refine wl rfl rfl rfl (p_as rfl) ?_
  refine wl_nil ?_
  refine x_seq ?_
  refine wc_seq ?_
  refine wc_seq ?_
  refine wc_region ?_
  refine wl rfl rfl rfl (p_mv rfl) ?_
  refine wl rfl rfl rfl (p_lenS Tryd.underlying191 rfl) ?_
  refine wl rfl rfl rfl (p_mv rfl) ?_
  refine wl_nil ?_
  refine x_seq ?_
  refine wc_block ?_
  refine wc_loop (e' := [(0, .slice Aq lq cq), (3, i64 ((q.take (0)).flatten.length : Int)), (9, .slice Aq lq cq), (10, i64 (lq : Int)), (11, i64 ((0) : Int))]) (fun mz ez uz => ∃ i : Nat, mz = lq - i ∧ ez = [(0, .slice Aq lq cq), (3, i64 ((q.take i).flatten.length : Int)), (9, .slice Aq lq cq), (10, i64 (lq : Int)), (11, i64 (i : Int))] ∧ (i ≤ lq) ∧ (SB uz (fun k => k < w.heap.size) Aq lq cq q) ∧ (Ch No w uz))
   ⟨rfl, rfl, rfl, rfl, rfl, trivial⟩ ⟨0, rfl, rfl, (by omega), hq, HC⟩ ?_
  rintro m0 e w1 ⟨i, hm0, rfl, hi, hq, HC⟩
  have hzw1 := HC.size
  refine wc_seq ?_
  refine wc_region ?_
  refine wl rfl rfl rfl (p_lt rfl rfl) ?_
  refine wl_nil ?_
  refine x_seq ?_
  refine wc_seq ?_
  refine wc_if rfl (fun c0 => ?_) (fun c0 => ?_)
  ·
   have c0 := of_decide_eq_true c0
   have hnx := cat_next (q := q) (i := i) (by omega)
   have hle := cat_le q (i + 1)
   refine wc_skip ?_
   refine x_seq ?_
   refine wc_seq ?_
   refine wc_block ?_
   refine wc_seq ?_
   refine wc_region ?_
   obtain ⟨b2, o2, hA2, hF2, hc2⟩ := hq.opn (by omega)
   obtain ⟨SA13, sl13, sc13, hcc2, hS13⟩ := hc2 i (by omega)
   have hSl13 := hS13.len
   refine wl rfl rfl rfl (p_ixS1 (j := i) Tryd.underlying191 sz107 rfl hA2 rfl (by omega) (by omega) rfl) ?_
   refine wl rfl rfl rfl (p_ld Tryd.underlying107 rfl rfl (ld (hcc2))) ?_
   have hqi : (q.getD i []).length = sl13 := hSl13
   have hnl : (q.take i).flatten.length + sl13 = (q.take (i + 1)).flatten.length := by rw [← hnx, List.length_append, hqi]
   refine wl rfl rfl rfl (p_as rfl) ?_
   refine wl_nil ?_
   refine x_seq ?_
   refine wc_seq ?_
   refine wc_region ?_
   refine wl rfl rfl rfl (p_mv rfl) ?_
   refine wl rfl rfl rfl (p_mv rfl) ?_
   refine wl rfl rfl rfl (p_lenS Tryd.underlying107 rfl) ?_
   refine wl rfl rfl rfl (p_add (Z := (((q.take (i + 1)).flatten.length : Nat) : Int)) rfl rfl (by rw [w64 (by omega)]; omega)) ?_
   refine wl rfl rfl rfl (p_as rfl) ?_
   refine wl_nil ?_
   refine x_seq ?_
   refine wc_seq ?_
   refine wc_region ?_
   refine wl rfl rfl rfl (p_mv rfl) ?_
   refine wl rfl rfl rfl (p_lt rfl rfl) ?_
   refine wl_nil ?_
   refine x_seq ?_
   refine wc_no rfl (decide_eq_false (by omega)) ?_
   refine wc_skip ?_
   refine x_in_normal ?_
   refine x_seq ?_
   refine wc_region ?_
   refine wl rfl rfl rfl (p_add rfl rfl (w64 (by omega))) ?_
   refine wl rfl rfl rfl (p_mv rfl) ?_
   refine wl_nil ?_
   refine x_round (e' := [(0, .slice Aq lq cq), (3, i64 ((q.take (i + 1)).flatten.length : Int)), (9, .slice Aq lq cq), (10, i64 (lq : Int)), (11, i64 ((i + 1) : Int))]) ⟨rfl, rfl, rfl, rfl, rfl, trivial⟩ (by rw [hm0]; omega) ⟨i + 1, rfl, rfl, (by omega), hq, HC⟩
  ·
   have c0 := of_decide_eq_false c0
   have ht : q.take i = q := List.take_of_length_le (by omega)
   rw [ht]
   refine wc_exit ?_
   refine x_then_exit ?_
   refine x_then_exit ?_
   refine x_in_here ?_
   refine x_seq ?_
   refine wc_seq ?_
   refine wc_region ?_
   refine wl rfl rfl rfl (p_mv rfl) ?_
   refine wle rfl (e_call ent112 rfl rfl (grow_nil (n := q.flatten.length) (by omega)) ?_)
   rintro _ w3 ⟨A24, c24, rfl, hW, hc⟩
   refine ⟨_, rfl, ?_⟩
   have hzw3 := hc.size
   have HC := HC.tr hc
   have hq := hq.no hc
   refine wl rfl rfl rfl (p_as rfl) ?_
   refine wl_nil ?_
   refine x_seq ?_
   refine wc_seq ?_
   refine wc_seq ?_
   refine wc_region ?_
   refine wl rfl rfl rfl (p_mv rfl) ?_
   refine wl rfl rfl rfl (p_lenS Tryd.underlying191 rfl) ?_
   refine wl rfl rfl rfl (p_mv rfl) ?_
   refine wl_nil ?_
   refine x_seq ?_
   refine wc_block ?_
   refine wc_loop (e' := [(6, .slice (_) ((q.take (0)).flatten.length) (_)), (25, .slice Aq lq cq), (26, i64 (lq : Int)), (27, i64 ((0) : Int))]) (fun mz ez uz => ∃ i : Nat, ∃ A : Option Addr, ∃ c : Nat, mz = lq - i ∧ ez = [(6, .slice A ((q.take i).flatten.length) c), (25, .slice Aq lq cq), (26, i64 (lq : Int)), (27, i64 (i : Int))] ∧ (i ≤ lq) ∧ (Row uz (fun k => w.heap.size ≤ k) 5 1 (.slice A ((q.take i).flatten.length) c) ((q.take i).flatten.length) ((q.take i).flatten.map u8v)) ∧ (SB uz (fun k => k < w.heap.size) Aq lq cq q) ∧ (Ch No w uz))
    ⟨rfl, rfl, rfl, rfl, trivial⟩ ⟨0, _, _, rfl, rfl, (by omega), (hW.mono (fun k _ hk => by first | omega | (have h2 := hk.1; omega))), hq, HC⟩ ?_
   rintro m1 e w4 ⟨i, A, c, hm1, rfl, hi, hW, hq, HC⟩
   have hzw4 := HC.size
   refine wc_seq ?_
   refine wc_region ?_
   refine wl rfl rfl rfl (p_lt rfl rfl) ?_
   refine wl_nil ?_
   refine x_seq ?_
   refine wc_seq ?_
   refine wc_if rfl (fun c2 => ?_) (fun c2 => ?_)
   ·
    have c2 := of_decide_eq_true c2
    have hnx := cat_next (q := q) (i := i) (by omega)
    have hle := cat_le q (i + 1)
    refine wc_skip ?_
    refine x_seq ?_
    refine wc_seq ?_
    refine wc_block ?_
    refine wc_seq ?_
    refine wc_region ?_
    obtain ⟨b5, o5, hA5, hF5, hc5⟩ := hq.opn (by omega)
    obtain ⟨SA29, sl29, sc29, hcc5, hS29⟩ := hc5 i (by omega)
    have hSl29 := hS29.len
    refine wl rfl rfl rfl (p_ixS1 (j := i) Tryd.underlying191 sz107 rfl hA5 rfl (by omega) (by omega) rfl) ?_
    refine wl rfl rfl rfl (p_ld Tryd.underlying107 rfl rfl (ld (hcc5))) ?_
    have hqi : (q.getD i []).length = sl29 := hSl29
    have hnl : (q.take i).flatten.length + sl29 = (q.take (i + 1)).flatten.length := by rw [← hnx, List.length_append, hqi]
    refine wl rfl rfl rfl (p_as rfl) ?_
    refine wl_nil ?_
    refine x_seq ?_
    refine wc_region ?_
    refine wl rfl rfl rfl (p_mv rfl) ?_
    refine wl rfl rfl rfl (p_mv rfl) ?_
    refine wle rfl (e_appS rfl el107 one_u8 rfl rfl hW hS29 (by omega) (by intro k hk; first | omega | (dsimp only at *; omega)) (fun w6 A33 c33 hW hc => ?_))
    have hzw6 := hc.size
    have HC := HC.trans hc (fun _ _ h => h) (fun k hk ht => absurd ht (by omega))
    first | have hq := hq.ch hc (by intro k hk ht; first | omega | (dsimp only at *; omega)) | have hq := hq.chT hc (by intro k hz hk ht; first | omega | (dsimp only at *; omega))
    have hS29 := hS29.ch hc (by intro k hk ht; omega)
    refine wl rfl rfl rfl (p_as rfl) ?_
    refine wl_nil ?_
    refine x_in_normal ?_
    refine x_seq ?_
    refine wc_region ?_
    refine wl rfl rfl rfl (p_add rfl rfl (w64 (by omega))) ?_
    refine wl rfl rfl rfl (p_mv rfl) ?_
    refine wl_nil ?_
    refine x_round (e' := [(6, .slice (A33) ((q.take (i + 1)).flatten.length) (c33)), (25, .slice Aq lq cq), (26, i64 (lq : Int)), (27, i64 ((i + 1) : Int))]) ⟨(by rw [← hnl]; rfl), rfl, rfl, rfl, trivial⟩ (by rw [hm1]; omega) ⟨i + 1, A33, c33, rfl, rfl, (by omega), (by rw [← hnl, ← hnx]; exact hW.mono (fun k _ hk => by first | omega | (have h2 := hk.1; omega))), hq, HC⟩
   ·
    have c2 := of_decide_eq_false c2
    refine wc_exit ?_
    refine x_then_exit ?_
    refine x_then_exit ?_
    refine x_in_here ?_
    refine x_seq ?_
    refine wc_seq ?_
    refine wc_region ?_
    refine wl rfl rfl rfl (p_mv rfl) ?_
    refine wl rfl rfl rfl (p_as rfl) ?_
    refine wl_nil ?_
    refine x_seq ?_
    refine wc_ret ?_
    refine fin_run ((res1 rfl rfl)) ?_
    have ht : q.take i = q := List.take_of_length_le (by omega)
    rw [ht] at hW
    rw [ht]
    exact ⟨_, _, rfl, hW, HC⟩

set_option maxHeartbeats 2000000 in
set_option maxRecDepth 20000 in
theorem mbytes27 {w : World}  {Am : Option Addr} {lm cm : Nat} {Fm : Nat → Prop} {l : List ND} (hm : SI w Fm eND Am lm cm l) (hl : lm ≤ 1000000) (hrnd : Sl w (fun k => k = 0) u32v (some ⟨0, 0, none⟩) 64 64 rk) :
    Calls Tryd.prog 65 #[.slice Am lm cm] w fun e w' => ∃ A lb c, e = .returned (.slice A lb c) ∧ Sl w' (fun k => w.heap.size ≤ k) u8v A lb c (bytesN l) ∧ Ch No w w' := by
  have hn0 : 0 < w.heap.size := hrnd.size (by omega) rfl
  have hn1 := hn0
  have hml := hm.len
  have hm := hm.old
  have HC : Ch No w w := Ch.refl _ _
  refine enter' (args := [.slice Am lm cm]) (n := 48) Tryd.func65 rfl rfl rfl ?_
  refine wc_seq ?_
  refine wc_region ?_
  refine wl rfl rfl rfl (p_as rfl) ?_
  refine wl_nil ?_
  refine x_seq ?_
  refine wc_seq ?_
  refine wc_seq ?_
  refine wc_region ?_
  refine wl rfl rfl rfl (p_mv rfl) ?_
  refine wle rfl (e_call ent60 rfl rfl (mgood27 (hm) (by omega) hrnd) ?_)
  rintro _ w1 ⟨rfl, hc⟩
  refine ⟨_, rfl, ?_⟩
  have hzw1 := hc.size
  have HC := HC.tr hc
  have hm := hm.no hc
  have hrnd := hrnd.no hc
  refine wl rfl rfl rfl (p_not rfl) ?_
  refine wl_nil ?_
  refine x_seq ?_
  refine wc_if rfl (fun c0 => ?_) (fun c0 => ?_)
  ·
   have hg0 : (rootN l).2 = false := by simpa using c0
   refine wc_seq ?_
   refine wc_region ?_
   refine wl rfl rfl rfl (p_as rfl) ?_
   refine wl_nil ?_
   refine x_seq ?_
   refine wc_ret ?_
   refine x_then_ret ?_
   refine fin_run ((res1 rfl rfl)) ?_
   exact ⟨_, _, _, rfl, by rw [bytes_no hg0]; exact Sl.nil, HC⟩
  ·
   have hg1 : (rootN l).2 = true := by simpa using c0
   refine wc_skip ?_
   refine x_seq ?_
   refine wc_seq ?_
   refine wc_region ?_
   refine wl rfl rfl rfl (p_as rfl) ?_
   refine wl_nil ?_
   refine x_seq ?_
   refine wc_seq ?_
   refine wc_seq ?_
   refine wc_region ?_
   refine wl rfl rfl rfl (p_mv rfl) ?_
   refine wl rfl rfl rfl (p_lenS Tryd.underlying33 rfl) ?_
   refine wl rfl rfl rfl (p_mv rfl) ?_
   refine wl_nil ?_
   refine x_seq ?_
   refine wc_block ?_
   refine wc_loop (e' := [(3, .slice (none) (0) (0)), (9, .slice Am lm cm), (10, i64 (lm : Int)), (11, i64 ((0) : Int))]) (fun mz ez uz => ∃ i : Nat, ∃ ys : List UInt8, ∃ A : Option Addr, ∃ lw : Nat, ∃ c : Nat, mz = lm - i ∧ ez = [(3, .slice A lw c), (9, .slice Am lm cm), (10, i64 (lm : Int)), (11, i64 (i : Int))] ∧ (i ≤ lm) ∧ (lw ≤ 65 * i) ∧ (Row uz (fun k => w.heap.size ≤ k) 5 1 (.slice A lw c) lw (ys.map u8v)) ∧ (ys = (l.take i).flatMap bytN) ∧ (SI uz (fun k => k < w.heap.size) eND Am lm cm l) ∧ (Ch No w uz))
    ⟨rfl, rfl, rfl, rfl, trivial⟩ ⟨0, [], none, 0, 0, rfl, rfl, (by omega), (by omega), Row.nil _ _ _ _, rfl, hm, HC⟩ ?_
   rintro m0 e w2 ⟨i, ys, A, lw, c, hm0, rfl, hi, hlw, hW, hys, hm, HC⟩
   have hzw2 := HC.size
   have hyl := hW.sl.len
   refine wc_seq ?_
   refine wc_region ?_
   refine wl rfl rfl rfl (p_lt rfl rfl) ?_
   refine wl_nil ?_
   refine x_seq ?_
   refine wc_seq ?_
   refine wc_if rfl (fun c1 => ?_) (fun c1 => ?_)
   ·
    have c1 := of_decide_eq_true c1
    refine wc_skip ?_
    refine x_seq ?_
    refine wc_seq ?_
    refine wc_block ?_
    refine wc_seq ?_
    refine wc_region ?_
    obtain ⟨b3, o3, hA3, hF3, hr3⟩ := (hm).opn (i := i) (d := ND0) (by omega)
    have hok3 := (hm).okAt (i := i) (d := ND0) (by omega)
    obtain ⟨x3, ex3⟩ : ∃ x_, x_ = List.getD l (i) ND0 := ⟨_, rfl⟩
    rw [← ex3] at hr3 hok3
    obtain ⟨hx3k, hx3v⟩ := hok3
    have hr3 : w2.rangeAt b3 (o3 + i * 66) (([i64 x3.kind, i64 x3.bit] ++ ((List.map u8v x3.key) ++ (List.map u8v x3.val))) : List Value) := hr3
    refine wl rfl rfl rfl (p_ixS (j := i * 66) Tryd.underlying33 sz115 rfl hA3 rfl (by omega) (by omega) (congrArg (· * 66) (Int.toNat_natCast _))) ?_
    have hdr : l.take (i + 1) = l.take i ++ [x3] := by rw [ex3]; exact getD_take (by omega)
    refine wl rfl rfl rfl (p_ldA (cs := (([i64 x3.kind, i64 x3.bit] ++ ((List.map u8v x3.key) ++ (List.map u8v x3.val))) : List Value)) Tryd.underlying115 rfl (szL sz115 (by first | rfl | (simp only [List.length_append, List.length_map, List.length_cons, List.length_nil, (show List.length x3.key = 32 from hx3k), (show List.length x3.val = 32 from hx3v)]; done) | (simp only [List.length_append, List.length_map, List.length_cons, List.length_nil, List.size_toArray, (show List.length x3.key = 32 from hx3k), (show List.length x3.val = 32 from hx3v)]; done))) rfl (fun _ e => e ▸ hr3)) ?_
    refine wle rfl (e_alloc (cs := (([Value.int .i64 0, Value.int .i64 0] ++ ((List.map u8v (List.replicate 32 (0 : UInt8))) ++ (List.map u8v (List.replicate 32 (0 : UInt8))))) : List Value).toArray) rfl (by rfl) (by rfl) (fun w4 g5 hg5 hb5 hc hsz5 => ?_))
    have hzw4 := hc.size
    have HC := HC.tr hc
    have hm := hm.no hc
    have hW := hW.after hc
    have hge5 : w.heap.size ≤ g5 := by have := HC.size; omega
    refine wle rfl (e_stW (vs := (([i64 x3.kind, i64 x3.bit] ++ ((List.map u8v x3.key) ++ (List.map u8v x3.val))) : List Value)) (szL sz115 (by first | rfl | (simp only [List.length_append, List.length_map, List.length_cons, List.length_nil, (show List.length x3.key = 32 from hx3k), (show List.length x3.val = 32 from hx3v)]; done) | (simp only [List.length_append, List.length_map, List.length_cons, List.length_nil, List.size_toArray, (show List.length x3.key = 32 from hx3k), (show List.length x3.val = 32 from hx3v)]; done))) (oneA (allOne rfl) (oneA (oneL one_u8 _) (oneL one_u8 _))) rfl rfl hb5 (by first | rfl | (simp only [List.length_append, List.length_map, List.length_cons, List.length_nil, (show List.length (List.replicate 32 (0 : UInt8)) = 32 from (List.length_replicate ..)), (show List.length (List.replicate 32 (0 : UInt8)) = 32 from (List.length_replicate ..)), (show List.length x3.key = 32 from hx3k), (show List.length x3.val = 32 from hx3v)]; done) | (simp only [List.length_append, List.length_map, List.length_cons, List.length_nil, List.size_toArray, (show List.length (List.replicate 32 (0 : UInt8)) = 32 from (List.length_replicate ..)), (show List.length (List.replicate 32 (0 : UInt8)) = 32 from (List.length_replicate ..)), (show List.length x3.key = 32 from hx3k), (show List.length x3.val = 32 from hx3v)]; done)) (fun w5 hb5 hc hsz => ?_))
    have hzw5 := hc.size
    have HC := HC.trans hc (fun _ _ h => h) (fun k hk ht => absurd ht (by omega))
    have hm := hm.ch hc (by intro k hk ht; omega)
    have hW := hW.ch hc (by intro k hz hk ht; omega)
    refine wl_nil ?_
    refine x_seq ?_
    refine wc_seq ?_
    refine wc_region ?_
    refine wl rfl rfl rfl (p_mv rfl) ?_
    refine wl rfl rfl rfl (p_fld (j := 0) Tryd.underlying115 rfl ⟨_, by rfl⟩ rfl rfl) ?_
    refine wl rfl rfl rfl (p_ld Tryd.underlying3 rfl rfl (ld (cell_at (p := []) (v := (i64 x3.kind : Value)) (r := (([i64 x3.bit] ++ ((List.map u8v x3.key) ++ (List.map u8v x3.val))) : List Value)) hb5 (by simp only [List.append_assoc, List.cons_append, List.nil_append, List.append_nil]) (by first | rfl | (simp only [List.length_append, List.length_map, List.length_cons, List.length_nil]; done) | (simp only [List.length_append, List.length_map, List.length_cons, List.length_nil, List.size_toArray]; done))))) ?_
    refine wl rfl rfl rfl (p_conv Tryd.underlying3 Tryd.underlying5 rfl (wrap_b8i _)) ?_
    have hltg5 := hb5.lt
    refine wle rfl (e_bslV (E := 5) rfl rfl (fun _ => by kernel_rfl) (fun w6 g19 hg19 hb19 hc hsz19 => ?_))
    have hzw6 := hc.size
    have HC := HC.tr hc
    have hm := hm.no hc
    have hW := hW.after hc
    have hb5 := hb5.ch hc (fun h => h)
    have hge19 : w.heap.size ≤ g19 := by have := HC.size; omega
    have hS19 := Sl.lit1 (f := u8v) hb19
    have hltg5 := hb5.lt
    refine wle rfl (e_appS rfl el107 one_u8 rfl rfl hW hS19 (by omega) (by intro k hk; first | omega | (dsimp only at *; omega)) (fun w7 A20 c20 hW hc => ?_))
    have hzw7 := hc.size
    have HC := HC.trans hc (fun _ _ h => h) (fun k hk ht => absurd ht (by omega))
    have hm := hm.ch hc (by intro k hk ht; omega)
    have hb5 := hb5.ch hc (by omega)
    have hS19 := hS19.ch hc (by intro k hk ht; omega)
    refine wl rfl rfl rfl (p_as rfl) ?_
    refine wl_nil ?_
    refine x_seq ?_
    refine wc_seq ?_
    refine wc_region ?_
    refine wl rfl rfl rfl (p_fld (j := 0) Tryd.underlying115 rfl ⟨_, by rfl⟩ rfl rfl) ?_
    refine wl rfl rfl rfl (p_ld Tryd.underlying3 rfl rfl (ld (cell_at (p := []) (v := (i64 x3.kind : Value)) (r := (([i64 x3.bit] ++ ((List.map u8v x3.key) ++ (List.map u8v x3.val))) : List Value)) hb5 (by simp only [List.append_assoc, List.cons_append, List.nil_append, List.append_nil]) (by first | rfl | (simp only [List.length_append, List.length_map, List.length_cons, List.length_nil]; done) | (simp only [List.length_append, List.length_map, List.length_cons, List.length_nil, List.size_toArray]; done))))) ?_
    refine wl_nil ?_
    refine x_seq ?_
    refine wc_block ?_
    refine wc_seq ?_
    refine wc_region ?_
    refine wl rfl rfl rfl (p_eq rfl rfl) ?_
    refine wl rfl rfl rfl (p_as rfl) ?_
    refine wl_nil ?_
    refine x_seq ?_
    refine wc_if rfl (fun c2 => ?_) (fun c2 => ?_)
    ·
     have c2 := of_decide_eq_true c2
     refine wc_region ?_
     refine wl rfl rfl rfl (p_mv rfl) ?_
     refine wl rfl rfl rfl (p_fld (j := 34) Tryd.underlying115 rfl ⟨_, by rfl⟩ rfl rfl) ?_
     have hS27 : Sl w7 (fun k => k = g5) u8v (some ⟨g5, 0 + 34, none⟩) 32 32 x3.val := sl_fld (rng_at (p := (([i64 x3.kind, i64 x3.bit] ++ (List.map u8v x3.key)) : List Value)) (q := ((List.map u8v x3.val) : List Value)) (r := []) hb5 (by simp only [List.append_assoc, List.cons_append, List.nil_append, List.append_nil]) (by first | rfl | (simp only [List.length_append, List.length_map, List.length_cons, List.length_nil, (show List.length x3.key = 32 from hx3k)]; done) | (simp only [List.length_append, List.length_map, List.length_cons, List.length_nil, List.size_toArray, (show List.length x3.key = 32 from hx3k)]; done))) hx3v
     refine wl rfl rfl rfl (p_slW (N := 31) Tryd.underlying38 sz5 rfl) ?_
     have hltg5 := hb5.lt
     refine wle rfl (e_appS rfl el107 one_u8 rfl rfl hW hS27 (by omega) (by intro k hk; first | omega | (dsimp only at *; omega)) (fun w8 A28 c28 hW hc => ?_))
     have hzw8 := hc.size
     have HC := HC.trans hc (fun _ _ h => h) (fun k hk ht => absurd ht (by omega))
     have hm := hm.ch hc (by intro k hk ht; omega)
     have hb5 := hb5.ch hc (by omega)
     have hS19 := hS19.ch hc (by intro k hk ht; omega)
     first | have hS27 := hS27.ch hc (by intro k hk ht; omega) | have hS27 := hS27.chT hc (by intro k hz hk ht; omega)
     refine wl rfl rfl rfl (p_as rfl) ?_
     refine wl_nil ?_
     refine x_in_normal ?_
     refine x_in_normal ?_
     refine x_seq ?_
     refine wc_region ?_
     refine wl rfl rfl rfl (p_add rfl rfl (w64 (by omega))) ?_
     refine wl rfl rfl rfl (p_mv rfl) ?_
     refine wl_nil ?_
     refine x_round (e' := [(3, .slice (_) (_) (_)), (9, .slice Am lm cm), (10, i64 (lm : Int)), (11, i64 ((i + 1) : Int))]) ⟨rfl, rfl, rfl, rfl, trivial⟩ (by rw [hm0]; omega) ⟨i + 1, _, _, _, _, rfl, rfl, (by omega), (by omega), (hW.mono (fun k _ hk => by first | exact hk | omega | ((try simp only [and_assoc] at hk); have h2 := hk.1; omega))), (by rw [hdr, List.flatMap_append, ← hys]; simp [bytN, c2]), hm, HC⟩
    ·
     have c2 := of_decide_eq_false c2
     refine wc_seq ?_
     refine wc_region ?_
     refine wl rfl rfl rfl (p_eq rfl rfl) ?_
     refine wl rfl rfl rfl (p_as rfl) ?_
     refine wl_nil ?_
     refine x_seq ?_
     refine wc_if rfl (fun c3 => ?_) (fun c3 => ?_)
     ·
      have c3 := of_decide_eq_true c3
      refine wc_draw (.st 0 0 (.st 1 0 (.st 2 0 (.st 3 0 (.st 4 0 (.st 5 2 (.st 6 2 (.st 7 0 .nil)))))))) 8 (by kernel_rfl) (by kernel_rfl) (by kernel_rfl) (by repeat (first | with_reducible exact pan_body | with_reducible apply pan_then | with_reducible apply pan_in)) (fun x => Ch No w7.drew x) (Ch.refl _ _) ?_
      obtain ⟨w9, ew9⟩ : ∃ x, x = w7.drew := ⟨_, rfl⟩
      rw [← ew9]
      have hc : Ch No w7 w9 := by rw [ew9]; exact Ch.drew _
      have hszw9 : w9.heap.size = w7.heap.size := by rw [ew9]; rfl
      clear ew9
      have hzw9 := hc.size
      have HC := HC.tr hc
      have hm := hm.no hc
      have hW := hW.no hc
      have hb5 := hb5.ch hc (fun h => h)
      have hS19 := hS19.no hc
      have hS : Ch No w9 w9 := Ch.refl _ _
      refine ws_p rfl rfl rfl rfl (p_mv rfl) ?_
      refine ws_p rfl rfl rfl rfl (p_fld (j := 2) Tryd.underlying115 rfl ⟨_, by rfl⟩ rfl rfl) ?_
      have hS33 : Sl w9 (fun k => k = g5) u8v (some ⟨g5, 0 + 2, none⟩) 32 32 x3.key := sl_fld (rng_at (p := ([i64 x3.kind, i64 x3.bit] : List Value)) (q := ((List.map u8v x3.key) : List Value)) (r := ((List.map u8v x3.val) : List Value)) hb5 (by simp only [List.append_assoc, List.cons_append, List.nil_append, List.append_nil]) (by first | rfl | (simp only [List.length_append, List.length_map, List.length_cons, List.length_nil]; done) | (simp only [List.length_append, List.length_map, List.length_cons, List.length_nil, List.size_toArray]; done))) hx3k
      refine ws_p rfl rfl rfl rfl (p_slW (N := 31) Tryd.underlying38 sz5 rfl) ?_
      refine ws_p rfl rfl rfl rfl (p_fld (j := 34) Tryd.underlying115 rfl ⟨_, by rfl⟩ rfl rfl) ?_
      have hS35 : Sl w9 (fun k => k = g5) u8v (some ⟨g5, 0 + 34, none⟩) 32 32 x3.val := sl_fld (rng_at (p := (([i64 x3.kind, i64 x3.bit] ++ (List.map u8v x3.key)) : List Value)) (q := ((List.map u8v x3.val) : List Value)) (r := []) hb5 (by simp only [List.append_assoc, List.cons_append, List.nil_append, List.append_nil]) (by first | rfl | (simp only [List.length_append, List.length_map, List.length_cons, List.length_nil, (show List.length x3.key = 32 from hx3k)]; done) | (simp only [List.length_append, List.length_map, List.length_cons, List.length_nil, List.size_toArray, (show List.length x3.key = 32 from hx3k)]; done))) hx3v
      refine ws_p rfl rfl rfl rfl (p_slW (N := 31) Tryd.underlying38 sz5 rfl) ?_
      have hltg5 := hb5.lt
      refine ws_e rfl rfl (e_bslV (E := 107) rfl rfl (fun _ => by kernel_rfl) (fun w10 g36 hg36 hb36 hc hsz36 => ⟨hc, ?_⟩))
      have hzw10 := hc.size
      have HC := HC.tr hc
      have hm := hm.no hc
      have hW := hW.after hc
      have hb5 := hb5.ch hc (fun h => h)
      have hS19 := hS19.no hc
      have hS33 := hS33.no hc
      have hS35 := hS35.no hc
      have hge36 : w.heap.size ≤ g36 := by have := HC.size; omega
      have hQ36 := SB.lit3 hb36 (hW.sl) (hS33) (hS35)
      refine ws_narrow (S' := fun x => Ch No w10 x) (Ch.refl _ _) (fun x h => hc.tr h) ?_
      refine ws_e rfl rfl (e_call ent94 rfl rfl (concat_any hQ36 (by omega) (by simp only [List.flatten_cons, List.flatten_nil, List.length_append, List.length_nil, List.length_singleton, hyl, hx3k, hx3v]; omega)) ?_)
      rintro _ w11 ⟨A37, c37, rfl, hWn, hc⟩
      refine ⟨_, rfl, hc, ?_⟩
      have hzw11 := hc.size
      have HC := HC.tr hc
      have hm := hm.no hc
      have hW := hW.after hc
      have hb5 := hb5.ch hc (fun h => h)
      have hS19 := hS19.no hc
      have hS33 := hS33.no hc
      have hS35 := hS35.no hc
      have hQ36 := hQ36.no hc
      have hW := hWn
      refine ws_narrow (S' := fun x => Ch No w11 x) (Ch.refl _ _) (fun x h => hc.tr h) ?_
      refine ws_p rfl rfl rfl rfl (p_as rfl) ?_
      refine ws_n ?_
      refine x_in_normal ?_
      refine x_in_normal ?_
      refine x_seq ?_
      refine wc_region ?_
      refine wl rfl rfl rfl (p_add rfl rfl (w64 (by omega))) ?_
      refine wl rfl rfl rfl (p_mv rfl) ?_
      refine wl_nil ?_
      refine x_round (e' := [(3, .slice (_) (_) (_)), (9, .slice Am lm cm), (10, i64 (lm : Int)), (11, i64 ((i + 1) : Int))]) ⟨rfl, rfl, rfl, rfl, trivial⟩ (by rw [hm0]; omega) ⟨i + 1, _, _, _, _, rfl, rfl, (by omega), (by simp only [List.flatten_cons, List.flatten_nil, List.length_append, List.length_nil, List.length_singleton, hyl, hx3k, hx3v]; omega), (hW.mono (fun k _ hk => by first | exact hk | omega | ((try simp only [and_assoc] at hk); have h2 := hk.1; omega))), (by rw [hdr, List.flatMap_append, ← hys]; simp [bytN, c2, c3]), hm, HC⟩
     ·
      have c3 := of_decide_eq_false c3
      refine wc_seq ?_
      refine wc_region ?_
      refine wl rfl rfl rfl (p_eq rfl rfl) ?_
      refine wl rfl rfl rfl (p_as rfl) ?_
      refine wl_nil ?_
      refine x_seq ?_
      refine wc_if rfl (fun c4 => ?_) (fun c4 => ?_)
      ·
       have c4 := of_decide_eq_true c4
       refine wc_region ?_
       refine wl rfl rfl rfl (p_mv rfl) ?_
       refine wl rfl rfl rfl (p_fld (j := 1) Tryd.underlying115 rfl ⟨_, by rfl⟩ rfl rfl) ?_
       refine wl rfl rfl rfl (p_ld Tryd.underlying3 rfl rfl (ld (cell_at (p := ([i64 x3.kind] : List Value)) (v := (i64 x3.bit : Value)) (r := (((List.map u8v x3.key) ++ (List.map u8v x3.val)) : List Value)) hb5 (by simp only [List.append_assoc, List.cons_append, List.nil_append, List.append_nil]) (by first | rfl | (simp only [List.length_append, List.length_map, List.length_cons, List.length_nil]; done) | (simp only [List.length_append, List.length_map, List.length_cons, List.length_nil, List.size_toArray]; done))))) ?_
       refine wl rfl rfl rfl (p_conv Tryd.underlying3 Tryd.underlying5 rfl (wrap_b8i _)) ?_
       have hltg5 := hb5.lt
       refine wle rfl (e_bslV (E := 5) rfl rfl (fun _ => by kernel_rfl) (fun w12 g44 hg44 hb44 hc hsz44 => ?_))
       have hzw12 := hc.size
       have HC := HC.tr hc
       have hm := hm.no hc
       have hW := hW.after hc
       have hb5 := hb5.ch hc (fun h => h)
       have hS19 := hS19.no hc
       have hge44 : w.heap.size ≤ g44 := by have := HC.size; omega
       have hS44 := Sl.lit1 (f := u8v) hb44
       have hltg5 := hb5.lt
       refine wle rfl (e_appS rfl el107 one_u8 rfl rfl hW hS44 (by omega) (by intro k hk; first | omega | (dsimp only at *; omega)) (fun w13 A45 c45 hW hc => ?_))
       have hzw13 := hc.size
       have HC := HC.trans hc (fun _ _ h => h) (fun k hk ht => absurd ht (by omega))
       have hm := hm.ch hc (by intro k hk ht; omega)
       have hb5 := hb5.ch hc (by omega)
       have hS19 := hS19.ch hc (by intro k hk ht; omega)
       have hS44 := hS44.ch hc (by intro k hk ht; omega)
       refine wl rfl rfl rfl (p_as rfl) ?_
       refine wl_nil ?_
       refine x_in_normal ?_
       refine x_in_normal ?_
       refine x_seq ?_
       refine wc_region ?_
       refine wl rfl rfl rfl (p_add rfl rfl (w64 (by omega))) ?_
       refine wl rfl rfl rfl (p_mv rfl) ?_
       refine wl_nil ?_
       refine x_round (e' := [(3, .slice (_) (_) (_)), (9, .slice Am lm cm), (10, i64 (lm : Int)), (11, i64 ((i + 1) : Int))]) ⟨rfl, rfl, rfl, rfl, trivial⟩ (by rw [hm0]; omega) ⟨i + 1, _, _, _, _, rfl, rfl, (by omega), (by omega), (hW.mono (fun k _ hk => by first | exact hk | omega | ((try simp only [and_assoc] at hk); have h2 := hk.1; omega))), (by rw [hdr, List.flatMap_append, ← hys]; simp [bytN, c2, c3, c4]), hm, HC⟩
      ·
       have c4 := of_decide_eq_false c4
       refine wc_skip ?_
       refine x_in_normal ?_
       refine x_in_normal ?_
       refine x_seq ?_
       refine wc_region ?_
       refine wl rfl rfl rfl (p_add rfl rfl (w64 (by omega))) ?_
       refine wl rfl rfl rfl (p_mv rfl) ?_
       refine wl_nil ?_
       refine x_round (e' := [(3, .slice (_) (_) (_)), (9, .slice Am lm cm), (10, i64 (lm : Int)), (11, i64 ((i + 1) : Int))]) ⟨rfl, rfl, rfl, rfl, trivial⟩ (by rw [hm0]; omega) ⟨i + 1, _, _, _, _, rfl, rfl, (by omega), (by omega), (hW.mono (fun k _ hk => by first | exact hk | omega | ((try simp only [and_assoc] at hk); have h2 := hk.1; omega))), (by rw [hdr, List.flatMap_append, ← hys]; simp [bytN, c2, c3, c4]), hm, HC⟩
   ·
    have c1 := of_decide_eq_false c1
    refine wc_exit ?_
    refine x_then_exit ?_
    refine x_then_exit ?_
    refine x_in_here ?_
    refine x_seq ?_
    refine wc_seq ?_
    refine wc_region ?_
    refine wl rfl rfl rfl (p_mv rfl) ?_
    refine wl rfl rfl rfl (p_as rfl) ?_
    refine wl_nil ?_
    refine x_seq ?_
    refine wc_ret ?_
    refine fin_run ((res1 rfl rfl)) ?_
    rw [List.take_of_length_le (by omega), ← bytes_yes hg1] at hys
    exact ⟨_, _, _, rfl, (hys ▸ hW).sl, HC⟩

def RInv (xs : List UInt8) (ys : List ND) (bs : List UInt8) (bd : Bool) : Prop := (bd = false → (∀ y ∈ ys, CanN y) ∧ ys.flatMap bytN ++ bs = xs) ∧ (bd = true → ¬ ∃ n : List ND, (∀ y ∈ n, CanN y) ∧ n.flatMap bytN = xs)

theorem RInv.next {xs bs cs : List UInt8} {ys : List ND} {y : ND} (h : RInv xs ys bs false) (hy : CanN y) (e : bs = bytN y ++ cs) : RInv xs (ys ++ [y]) cs false := by
  obtain ⟨h1, h2⟩ := h.1 rfl
  refine ⟨fun _ => ⟨fun z hz => (List.mem_append.1 hz).elim (h1 z) (fun hz => by rw [List.mem_singleton.1 hz]; exact hy), ?_⟩, fun e => by simp at e⟩
  rw [← h2, e]; simp [List.append_assoc]

theorem RInv.short {xs bs : List UInt8} {ys zs : List ND} {v : UInt8} (h : RInv xs ys bs false) (hb : bs.take 1 = [v]) (hk : (v.toNat : Int) = 2 ∧ bs.length < 33 ∨ (v.toNat : Int) = 3 ∧ bs.length < 65 ∨ (v.toNat : Int) = 4 ∧ bs.length < 2) (cs : List UInt8) : RInv xs zs cs true := by
  obtain ⟨h1, h2⟩ := h.1 rfl
  refine ⟨fun e => by simp at e, fun _ => ?_⟩
  rintro ⟨n, hn, e⟩
  obtain ⟨q, rfl, e2⟩ := dec_uniq h1 hn (h2.trans e.symm)
  cases q with
  | nil => rw [List.flatMap_nil] at e2; rw [← e2] at hb; simp at hb
  | cons y q =>
    have hy := hn y (by simp)
    rw [List.flatMap_cons] at e2
    have hk2 : b8i y.kind = v := by rw [← e2] at hb; simpa [bytN] using hb
    have hyk : y.kind = (v.toNat : Int) := by
      have h3 : ((b8i y.kind).toNat : Int) = y.kind := by have := hy.1; unfold b8i; simp; omega
      rw [hk2] at h3; exact h3.symm
    have hl : (bytN y).length ≤ bs.length := by rw [← e2, List.length_append]; omega
    rcases hk with ⟨k1, k2⟩ | ⟨k1, k2⟩ | ⟨k1, k2⟩
    · have : (bytN y).length = 33 := by simp [bytN, show y.kind = 2 by omega, hy.2.2.1]
      omega
    · have : (bytN y).length = 65 := by simp [bytN, show y.kind = 3 by omega, hy.2.1, hy.2.2.1]
      omega
    · have : (bytN y).length = 2 := by simp [bytN, show y.kind = 4 by omega]
      omega

theorem byte_head {bs : List UInt8} (h : 0 < bs.length) : bs.take 1 = [(bs.take 1).getD 0 0] ∧ bs = (bs.take 1).getD 0 0 :: bs.drop 1 := by
  cases bs with
  | nil => simp at h
  | cons x r => exact ⟨rfl, rfl⟩

theorem b8_nat (v : UInt8) : b8i (v.toNat : Int) = v := by
  apply UInt8.toNat_inj.1
  have := v.toNat_lt
  unfold b8i; simp; omega

set_option maxHeartbeats 1000000 in
set_option maxRecDepth 20000 in
theorem take_ok {w : World} {g4 g1 : Nat} {At : Option Addr} {lt ct : Nat} {Fb : Nat → Prop} {xs : List UInt8} {n : Nat} (hb4 : Blk w g4 4 #[.bool false]) (hb1 : Blk w g1 107 #[.slice At lt ct]) (hbs : Sl w Fb u8v At lt ct xs) (hFb : ∀ k, Fb k → k < w.heap.size ∧ k ≠ g4 ∧ k ≠ g1) (hlt : lt ≤ 1000000) (hn : n ≤ lt) :
    Calls Tryd.prog 93 #[i64 (n : Int), .pointer (some ⟨g4, 0, none⟩), .pointer (some ⟨g1, 0, none⟩)] w fun e w' => ∃ A c A2 c2, e = .returned (.slice A n c) ∧ Sl w' Fb u8v A n c (xs.take n) ∧ Blk w' g4 4 #[.bool false] ∧ Blk w' g1 107 #[.slice A2 (lt - n) c2] ∧ Sl w' Fb u8v A2 (lt - n) c2 (xs.drop n) ∧ Ch (fun k => k = g4 ∨ k = g1) w w' := by
  have hbl := hbs.len
  have hltg4 := hb4.lt
  have hltg1 := hb1.lt
  have hne : g4 ≠ g1 := fun e => hb4.ne hb1 (by decide) e
  have HC : Ch (fun k => k = g4 ∨ k = g1) w w := Ch.refl _ _
  refine enter' (args := [i64 (n : Int), .pointer (some ⟨g4, 0, none⟩), .pointer (some ⟨g1, 0, none⟩)]) (n := 23) Tryd.func93 rfl rfl rfl ?_
  refine wc_seq ?_
  refine wc_region ?_
  refine wl rfl rfl rfl (p_as rfl) ?_
  refine wl_nil ?_
  refine x_seq ?_
  refine wc_seq ?_
  refine wc_seq ?_
  refine wc_region ?_
  refine wl rfl rfl rfl (p_ld Tryd.underlying4 rfl rfl (ld (hb4.cell rfl))) ?_
  refine wl rfl rfl rfl (p_mv rfl) ?_
  refine wl_g (gd_ rfl rfl rfl rfl rfl rfl) rfl rfl (p_ld Tryd.underlying107 rfl rfl (ld (hb1.cell rfl))) ?_
  refine wl_g (gd_ rfl rfl rfl rfl rfl rfl) rfl rfl (p_lenS Tryd.underlying107 rfl) ?_
  refine wl_g (gd_ rfl rfl rfl rfl rfl rfl) rfl rfl (p_mv rfl) ?_
  refine wl_g (gd_ rfl rfl rfl rfl rfl rfl) rfl rfl (p_lt rfl rfl) ?_
  refine wl rfl rfl rfl (p_pickF rfl rfl) ?_
  refine wle rfl (e_st1 (by rfl) rfl rfl rfl hb4 (fun w1 hb4 hc hsz => ?_))
  have hzw1 := hc.size
  have HC := HC.trans hc (fun _ _ h => h) (fun k hk ht => .inl ht)
  have hb1 := hb1.ch hc (by omega)
  have hbs := hbs.ch hc (by intro k hk ht; have h9 := hFb k hk; omega)
  refine wl_nil ?_
  refine x_seq ?_
  refine wc_seq ?_
  refine wc_region ?_
  refine wl rfl rfl rfl (p_ld Tryd.underlying4 rfl rfl (ld (hb4.cell rfl))) ?_
  refine wl_nil ?_
  refine x_seq ?_
  refine wc_no rfl (decide_eq_false (by omega)) ?_
  refine wc_skip ?_
  refine x_seq ?_
  refine wc_seq ?_
  refine wc_region ?_
  refine wl rfl rfl rfl (p_ld Tryd.underlying107 rfl rfl (ld (hb1.cell rfl))) ?_
  refine wl rfl rfl rfl (p_mv rfl) ?_
  have hS18 := hbs.cut (lo := 0) (hi := n) (q := n) (by omega) (by omega) (by omega)
  rw [List.drop_zero] at hS18
  refine wl rfl rfl rfl (p_slS (l := 0) (h := n) Tryd.underlying107 sz5 rfl rfl ⟨_, rfl⟩ (by omega) (by have := hbs.cap; omega) hbs.cap (q := n) (by omega)) ?_
  refine wl rfl rfl rfl (p_as rfl) ?_
  refine wl_nil ?_
  refine x_seq ?_
  refine wc_seq ?_
  refine wc_region ?_
  refine wl rfl rfl rfl (p_ld Tryd.underlying107 rfl rfl (ld (hb1.cell rfl))) ?_
  refine wl rfl rfl rfl (p_mv rfl) ?_
  have hS21 := hbs.cutTo (lo := n) (by omega)
  refine wl rfl rfl rfl (p_slS (l := n) (h := lt) Tryd.underlying107 sz5 rfl ⟨_, rfl⟩ rfl (by omega) (by have := hbs.cap; omega) hbs.cap (q := lt - n) (by omega)) ?_
  refine wle rfl (e_st1 (by rfl) rfl rfl rfl hb1 (fun w2 hb1 hc hsz => ?_))
  have hzw2 := hc.size
  have HC := HC.trans hc (fun _ _ h => h) (fun k hk ht => .inr ht)
  have hb4 := hb4.ch hc (by omega)
  have hbs := hbs.ch hc (by intro k hk ht; have h9 := hFb k hk; omega)
  have hS18 := hS18.ch hc (by intro k hk ht; have h9 := hFb k hk; omega)
  have hS21 := hS21.ch hc (by intro k hk ht; have h9 := hFb k hk; omega)
  refine wl_nil ?_
  refine x_seq ?_
  refine wc_seq ?_
  refine wc_region ?_
  refine wl rfl rfl rfl (p_mv rfl) ?_
  refine wl rfl rfl rfl (p_as rfl) ?_
  refine wl_nil ?_
  refine x_seq ?_
  refine wc_ret ?_
  refine fin_run ((res1 rfl rfl)) ?_
  rw [decide_eq_false (show ¬ (lt : Int) < (n : Int) by omega)] at hb4
  exact ⟨_, _, _, _, rfl, hS18, hb4, hb1, hS21, HC⟩

set_option maxHeartbeats 1000000 in
set_option maxRecDepth 20000 in
theorem take_no1 {w : World} {g4 g1 : Nat} {At : Option Addr} {lt ct : Nat} {Fb : Nat → Prop} {xs : List UInt8} {bd : Bool} (hb4 : Blk w g4 4 #[.bool bd]) (hb1 : Blk w g1 107 #[.slice At lt ct]) (hbs : Sl w Fb u8v At lt ct xs) (hFb : ∀ k, Fb k → k < w.heap.size ∧ k ≠ g4 ∧ k ≠ g1) (hlt : lt ≤ 1000000) (hno : bd = true ∨ lt < 1) :
    Calls Tryd.prog 93 #[i64 1, .pointer (some ⟨g4, 0, none⟩), .pointer (some ⟨g1, 0, none⟩)] w fun e w' => ∃ A c, e = .returned (.slice A 1 c) ∧ Sl w' (fun k => w.heap.size ≤ k) u8v A 1 c (List.replicate 1 0) ∧ Blk w' g4 4 #[.bool true] ∧ Blk w' g1 107 #[.slice At lt ct] ∧ Sl w' Fb u8v At lt ct xs ∧ Ch (fun k => k = g4 ∨ k = g1) w w' := by
  have hbl := hbs.len
  have hltg4 := hb4.lt
  have hltg1 := hb1.lt
  have hne : g4 ≠ g1 := fun e => hb4.ne hb1 (by decide) e
  have HC : Ch (fun k => k = g4 ∨ k = g1) w w := Ch.refl _ _
  refine enter' (args := [i64 1, .pointer (some ⟨g4, 0, none⟩), .pointer (some ⟨g1, 0, none⟩)]) (n := 23) Tryd.func93 rfl rfl rfl ?_
  refine wc_seq ?_
  refine wc_region ?_
  refine wl rfl rfl rfl (p_as rfl) ?_
  refine wl_nil ?_
  refine x_seq ?_
  refine wc_seq ?_
  refine wc_seq ?_
  refine wc_region ?_
  refine wl rfl rfl rfl (p_ld Tryd.underlying4 rfl rfl (ld (hb4.cell rfl))) ?_
  refine wl rfl rfl rfl (p_mv rfl) ?_
  refine wl_split (d := 7) rfl (fun q7 => ?_) (fun q7 => ?_)
  ·
   refine wl_s (gd_ rfl rfl rfl rfl rfl rfl) rfl rfl ?_
   refine wl_s (gd_ rfl rfl rfl rfl rfl rfl) rfl rfl ?_
   refine wl_s (gd_ rfl rfl rfl rfl rfl rfl) rfl rfl ?_
   refine wl_s (gd_ rfl rfl rfl rfl rfl rfl) rfl rfl ?_
   refine wl rfl rfl rfl (p_pickT rfl rfl) ?_
   refine wle rfl (e_st1 (by rfl) rfl rfl rfl hb4 (fun w1 hb4 hc hsz => ?_))
   have hzw1 := hc.size
   have HC := HC.trans hc (fun _ _ h => h) (fun k hk ht => .inl ht)
   have hb1 := hb1.ch hc (by omega)
   have hbs := hbs.ch hc (by intro k hk ht; have h9 := hFb k hk; omega)
   refine wl_nil ?_
   refine x_seq ?_
   refine wc_seq ?_
   refine wc_region ?_
   refine wl rfl rfl rfl (p_ld Tryd.underlying4 rfl rfl (ld (hb4.cell rfl))) ?_
   refine wl_nil ?_
   refine x_seq ?_
   refine wc_yes rfl (rfl) ?_
   refine wc_seq ?_
   refine wc_region ?_
   refine wl rfl rfl rfl (p_mv rfl) ?_
   have hltg4 := hb4.lt
   have hltg1 := hb1.lt
   refine wle rfl (e_mkZ (c := 1) (v := u8v 0) (sz := 1) (by_ := 1) rfl Tryd.underlying107 (by rfl) (by rfl) (by omega) rfl rfl (by omega) (by omega) (fun w2 g15 hg15 hb15 hc hsz15 => ?_))
   have hb15 : Blk w2 g15 5 ((List.replicate 1 (0 : UInt8)).map u8v).toArray := by rw [List.map_replicate]; exact hb15
   have hzw2 := hc.size
   have HC := HC.tr hc
   have hb4 := hb4.ch hc (fun h => h)
   have hb1 := hb1.ch hc (fun h => h)
   have hbs := hbs.no hc
   have hge15 : w.heap.size ≤ g15 := by have := HC.size; omega
   have neg4_15 : g4 < g15 := by omega
   have neg1_15 : g1 < g15 := by omega
   refine wl rfl rfl rfl (p_as rfl) ?_
   refine wl_nil ?_
   refine x_seq ?_
   refine wc_ret ?_
   refine x_then_ret ?_
   refine fin_run ((res1 rfl rfl)) ?_
   have hS15 : Sl w2 (fun k => w.heap.size ≤ k) u8v (some ⟨g15, 0, none⟩) 1 1 (List.replicate 1 (0 : UInt8)) := (Sl.lit hb15 rfl (List.length_replicate ..)).mono (fun k _ h => by have h2 : k = g15 := h; omega)
   exact ⟨_, _, rfl, hS15, hb4, hb1, hbs, HC⟩
  ·
   have hl9 : lt < 1 := by rcases hno with h | h; rw [h] at q7; simp at q7; exact h
   have c0t : decide ((lt : Int) < 1) = true := decide_eq_true (by omega)
   refine wl_g (gd_ rfl rfl rfl rfl rfl rfl) rfl rfl (p_ld Tryd.underlying107 rfl rfl (ld (hb1.cell rfl))) ?_
   refine wl_g (gd_ rfl rfl rfl rfl rfl rfl) rfl rfl (p_lenS Tryd.underlying107 rfl) ?_
   refine wl_g (gd_ rfl rfl rfl rfl rfl rfl) rfl rfl (p_mv rfl) ?_
   refine wl_g (gd_ rfl rfl rfl rfl rfl rfl) rfl rfl (p_lt rfl rfl) ?_
   refine wl rfl rfl rfl (p_pickF rfl rfl) ?_
   refine wle rfl (e_st1 (by rfl) rfl rfl rfl hb4 (fun w3 hb4 hc hsz => ?_))
   have hzw3 := hc.size
   have HC := HC.trans hc (fun _ _ h => h) (fun k hk ht => .inl ht)
   have hb1 := hb1.ch hc (by omega)
   have hbs := hbs.ch hc (by intro k hk ht; have h9 := hFb k hk; omega)
   refine wl_nil ?_
   refine x_seq ?_
   refine wc_seq ?_
   refine wc_region ?_
   refine wl rfl rfl rfl (p_ld Tryd.underlying4 rfl rfl (ld (hb4.cell rfl))) ?_
   refine wl_nil ?_
   refine x_seq ?_
   refine wc_yes rfl (c0t) ?_
   refine wc_seq ?_
   refine wc_region ?_
   refine wl rfl rfl rfl (p_mv rfl) ?_
   have hltg4 := hb4.lt
   have hltg1 := hb1.lt
   refine wle rfl (e_mkZ (c := 1) (v := u8v 0) (sz := 1) (by_ := 1) rfl Tryd.underlying107 (by rfl) (by rfl) (by omega) rfl rfl (by omega) (by omega) (fun w4 g15 hg15 hb15 hc hsz15 => ?_))
   have hb15 : Blk w4 g15 5 ((List.replicate 1 (0 : UInt8)).map u8v).toArray := by rw [List.map_replicate]; exact hb15
   have hzw4 := hc.size
   have HC := HC.tr hc
   have hb4 := hb4.ch hc (fun h => h)
   have hb1 := hb1.ch hc (fun h => h)
   have hbs := hbs.no hc
   have hge15 : w.heap.size ≤ g15 := by have := HC.size; omega
   have neg4_15 : g4 < g15 := by omega
   have neg1_15 : g1 < g15 := by omega
   refine wl rfl rfl rfl (p_as rfl) ?_
   refine wl_nil ?_
   refine x_seq ?_
   refine wc_ret ?_
   refine x_then_ret ?_
   refine fin_run ((res1 rfl rfl)) ?_
   have hS15 : Sl w4 (fun k => w.heap.size ≤ k) u8v (some ⟨g15, 0, none⟩) 1 1 (List.replicate 1 (0 : UInt8)) := (Sl.lit hb15 rfl (List.length_replicate ..)).mono (fun k _ h => by have h2 : k = g15 := h; omega)
   rw [c0t] at hb4
   exact ⟨_, _, rfl, hS15, hb4, hb1, hbs, HC⟩

set_option maxHeartbeats 1000000 in
set_option maxRecDepth 20000 in
theorem take_no32 {w : World} {g4 g1 : Nat} {At : Option Addr} {lt ct : Nat} {Fb : Nat → Prop} {xs : List UInt8} {bd : Bool} (hb4 : Blk w g4 4 #[.bool bd]) (hb1 : Blk w g1 107 #[.slice At lt ct]) (hbs : Sl w Fb u8v At lt ct xs) (hFb : ∀ k, Fb k → k < w.heap.size ∧ k ≠ g4 ∧ k ≠ g1) (hlt : lt ≤ 1000000) (hno : bd = true ∨ lt < 32) :
    Calls Tryd.prog 93 #[i64 32, .pointer (some ⟨g4, 0, none⟩), .pointer (some ⟨g1, 0, none⟩)] w fun e w' => ∃ A c, e = .returned (.slice A 32 c) ∧ Sl w' (fun k => w.heap.size ≤ k) u8v A 32 c (List.replicate 32 0) ∧ Blk w' g4 4 #[.bool true] ∧ Blk w' g1 107 #[.slice At lt ct] ∧ Sl w' Fb u8v At lt ct xs ∧ Ch (fun k => k = g4 ∨ k = g1) w w' := by
  have hbl := hbs.len
  have hltg4 := hb4.lt
  have hltg1 := hb1.lt
  have hne : g4 ≠ g1 := fun e => hb4.ne hb1 (by decide) e
  have HC : Ch (fun k => k = g4 ∨ k = g1) w w := Ch.refl _ _
  refine enter' (args := [i64 32, .pointer (some ⟨g4, 0, none⟩), .pointer (some ⟨g1, 0, none⟩)]) (n := 23) Tryd.func93 rfl rfl rfl ?_
  refine wc_seq ?_
  refine wc_region ?_
  refine wl rfl rfl rfl (p_as rfl) ?_
  refine wl_nil ?_
  refine x_seq ?_
  refine wc_seq ?_
  refine wc_seq ?_
  refine wc_region ?_
  refine wl rfl rfl rfl (p_ld Tryd.underlying4 rfl rfl (ld (hb4.cell rfl))) ?_
  refine wl rfl rfl rfl (p_mv rfl) ?_
  refine wl_split (d := 7) rfl (fun q7 => ?_) (fun q7 => ?_)
  ·
   refine wl_s (gd_ rfl rfl rfl rfl rfl rfl) rfl rfl ?_
   refine wl_s (gd_ rfl rfl rfl rfl rfl rfl) rfl rfl ?_
   refine wl_s (gd_ rfl rfl rfl rfl rfl rfl) rfl rfl ?_
   refine wl_s (gd_ rfl rfl rfl rfl rfl rfl) rfl rfl ?_
   refine wl rfl rfl rfl (p_pickT rfl rfl) ?_
   refine wle rfl (e_st1 (by rfl) rfl rfl rfl hb4 (fun w1 hb4 hc hsz => ?_))
   have hzw1 := hc.size
   have HC := HC.trans hc (fun _ _ h => h) (fun k hk ht => .inl ht)
   have hb1 := hb1.ch hc (by omega)
   have hbs := hbs.ch hc (by intro k hk ht; have h9 := hFb k hk; omega)
   refine wl_nil ?_
   refine x_seq ?_
   refine wc_seq ?_
   refine wc_region ?_
   refine wl rfl rfl rfl (p_ld Tryd.underlying4 rfl rfl (ld (hb4.cell rfl))) ?_
   refine wl_nil ?_
   refine x_seq ?_
   refine wc_yes rfl (rfl) ?_
   refine wc_seq ?_
   refine wc_region ?_
   refine wl rfl rfl rfl (p_mv rfl) ?_
   have hltg4 := hb4.lt
   have hltg1 := hb1.lt
   refine wle rfl (e_mkZ (c := 32) (v := u8v 0) (sz := 1) (by_ := 1) rfl Tryd.underlying107 (by rfl) (by rfl) (by omega) rfl rfl (by omega) (by omega) (fun w2 g15 hg15 hb15 hc hsz15 => ?_))
   have hb15 : Blk w2 g15 5 ((List.replicate 32 (0 : UInt8)).map u8v).toArray := by rw [List.map_replicate]; exact hb15
   have hzw2 := hc.size
   have HC := HC.tr hc
   have hb4 := hb4.ch hc (fun h => h)
   have hb1 := hb1.ch hc (fun h => h)
   have hbs := hbs.no hc
   have hge15 : w.heap.size ≤ g15 := by have := HC.size; omega
   have neg4_15 : g4 < g15 := by omega
   have neg1_15 : g1 < g15 := by omega
   refine wl rfl rfl rfl (p_as rfl) ?_
   refine wl_nil ?_
   refine x_seq ?_
   refine wc_ret ?_
   refine x_then_ret ?_
   refine fin_run ((res1 rfl rfl)) ?_
   have hS15 : Sl w2 (fun k => w.heap.size ≤ k) u8v (some ⟨g15, 0, none⟩) 32 32 (List.replicate 32 (0 : UInt8)) := (Sl.lit hb15 rfl (List.length_replicate ..)).mono (fun k _ h => by have h2 : k = g15 := h; omega)
   exact ⟨_, _, rfl, hS15, hb4, hb1, hbs, HC⟩
  ·
   have hl9 : lt < 32 := by rcases hno with h | h; rw [h] at q7; simp at q7; exact h
   have c0t : decide ((lt : Int) < 32) = true := decide_eq_true (by omega)
   refine wl_g (gd_ rfl rfl rfl rfl rfl rfl) rfl rfl (p_ld Tryd.underlying107 rfl rfl (ld (hb1.cell rfl))) ?_
   refine wl_g (gd_ rfl rfl rfl rfl rfl rfl) rfl rfl (p_lenS Tryd.underlying107 rfl) ?_
   refine wl_g (gd_ rfl rfl rfl rfl rfl rfl) rfl rfl (p_mv rfl) ?_
   refine wl_g (gd_ rfl rfl rfl rfl rfl rfl) rfl rfl (p_lt rfl rfl) ?_
   refine wl rfl rfl rfl (p_pickF rfl rfl) ?_
   refine wle rfl (e_st1 (by rfl) rfl rfl rfl hb4 (fun w3 hb4 hc hsz => ?_))
   have hzw3 := hc.size
   have HC := HC.trans hc (fun _ _ h => h) (fun k hk ht => .inl ht)
   have hb1 := hb1.ch hc (by omega)
   have hbs := hbs.ch hc (by intro k hk ht; have h9 := hFb k hk; omega)
   refine wl_nil ?_
   refine x_seq ?_
   refine wc_seq ?_
   refine wc_region ?_
   refine wl rfl rfl rfl (p_ld Tryd.underlying4 rfl rfl (ld (hb4.cell rfl))) ?_
   refine wl_nil ?_
   refine x_seq ?_
   refine wc_yes rfl (c0t) ?_
   refine wc_seq ?_
   refine wc_region ?_
   refine wl rfl rfl rfl (p_mv rfl) ?_
   have hltg4 := hb4.lt
   have hltg1 := hb1.lt
   refine wle rfl (e_mkZ (c := 32) (v := u8v 0) (sz := 1) (by_ := 1) rfl Tryd.underlying107 (by rfl) (by rfl) (by omega) rfl rfl (by omega) (by omega) (fun w4 g15 hg15 hb15 hc hsz15 => ?_))
   have hb15 : Blk w4 g15 5 ((List.replicate 32 (0 : UInt8)).map u8v).toArray := by rw [List.map_replicate]; exact hb15
   have hzw4 := hc.size
   have HC := HC.tr hc
   have hb4 := hb4.ch hc (fun h => h)
   have hb1 := hb1.ch hc (fun h => h)
   have hbs := hbs.no hc
   have hge15 : w.heap.size ≤ g15 := by have := HC.size; omega
   have neg4_15 : g4 < g15 := by omega
   have neg1_15 : g1 < g15 := by omega
   refine wl rfl rfl rfl (p_as rfl) ?_
   refine wl_nil ?_
   refine x_seq ?_
   refine wc_ret ?_
   refine x_then_ret ?_
   refine fin_run ((res1 rfl rfl)) ?_
   have hS15 : Sl w4 (fun k => w.heap.size ≤ k) u8v (some ⟨g15, 0, none⟩) 32 32 (List.replicate 32 (0 : UInt8)) := (Sl.lit hb15 rfl (List.length_replicate ..)).mono (fun k _ h => by have h2 : k = g15 := h; omega)
   rw [c0t] at hb4
   exact ⟨_, _, rfl, hS15, hb4, hb1, hbs, HC⟩

theorem RInv.cutN {xs bs r : List UInt8} {ys : List ND} {v : UInt8} (h : RInv xs ys bs false) (hb : bs = v :: r) (hk : (v.toNat : Int) = 2) (hl : 32 ≤ r.length) : RInv xs (ys ++ [⟨(v.toNat : Int), 0, zeroH, r.take 32⟩]) (r.drop 32) false :=
  h.next ⟨by show 0 ≤ (v.toNat : Int) ∧ (v.toNat : Int) ≤ 255; omega, zeroH_len, by simp; omega, fun e => by simp only at e; omega, fun _ => rfl, fun _ => rfl, fun e => absurd hk e⟩ (by rw [hb]; simp [bytN, hk]; rw [← hk, b8_nat])

theorem RInv.itemN {xs bs r : List UInt8} {ys : List ND} {v : UInt8} (h : RInv xs ys bs false) (hb : bs = v :: r) (hk : (v.toNat : Int) = 3) (hl : 64 ≤ r.length) : RInv xs (ys ++ [⟨(v.toNat : Int), 0, r.take 32, (r.drop 32).take 32⟩]) ((r.drop 32).drop 32) false :=
  h.next ⟨by show 0 ≤ (v.toNat : Int) ∧ (v.toNat : Int) ≤ 255; omega, by simp; omega, by simp; omega, fun e => by simp only at e; omega, fun _ => rfl, fun e => absurd hk e, fun _ e => absurd hk e⟩ (by
    rw [hb]
    have e1 : bytN ⟨(v.toNat : Int), 0, r.take 32, (r.drop 32).take 32⟩ = v :: (r.take 32 ++ (r.drop 32).take 32) := by simp only [bytN]; rw [if_neg (by omega), if_pos hk, b8_nat]
    rw [e1, List.cons_append, List.append_assoc, List.take_append_drop, List.take_append_drop])

theorem RInv.forkN {xs bs r : List UInt8} {ys : List ND} {v u : UInt8} (h : RInv xs ys bs false) (hb : bs = v :: r) (hk : (v.toNat : Int) = 4) (hl : 1 ≤ r.length) (hu : u = (r.take 1).getD 0 0) : RInv xs (ys ++ [⟨(v.toNat : Int), (u.toNat : Int), zeroH, zeroH⟩]) (r.drop 1) false :=
  h.next ⟨by show 0 ≤ (v.toNat : Int) ∧ (v.toNat : Int) ≤ 255; omega, zeroH_len, zeroH_len, fun _ => by show 0 ≤ (u.toNat : Int) ∧ (u.toNat : Int) ≤ 255; have := u.toNat_lt; omega, fun e => absurd hk e, fun _ => rfl, fun _ _ => rfl⟩ (by
    have e1 : bytN ⟨(v.toNat : Int), (u.toNat : Int), zeroH, zeroH⟩ = [v, u] := by simp only [bytN]; rw [if_neg (by omega), if_neg (by omega), if_pos hk, b8_nat, b8_nat]
    obtain ⟨_, h2⟩ := byte_head (bs := r) (by omega)
    rw [← hu] at h2
    rw [hb, e1, h2]; rfl)

theorem RInv.otherN {xs bs r : List UInt8} {ys : List ND} {v : UInt8} (h : RInv xs ys bs false) (hb : bs = v :: r) (h2 : ¬ (v.toNat : Int) = 2) (h3 : ¬ (v.toNat : Int) = 3) (h4 : ¬ (v.toNat : Int) = 4) : RInv xs (ys ++ [⟨(v.toNat : Int), 0, zeroH, zeroH⟩]) r false :=
  h.next ⟨by show 0 ≤ (v.toNat : Int) ∧ (v.toNat : Int) ≤ 255; have := v.toNat_lt; omega, zeroH_len, zeroH_len, fun e => absurd e h4, fun _ => rfl, fun _ => rfl, fun _ _ => rfl⟩ (by
    have e1 : bytN ⟨(v.toNat : Int), 0, zeroH, zeroH⟩ = [v] := by simp only [bytN]; rw [if_neg h2, if_neg h3, if_neg h4, b8_nat]
    rw [hb, e1]; rfl)

theorem RInv.done {xs : List UInt8} {ys : List ND} (h : RInv xs ys [] false) (hg : (rootN ys).2 = true) : ReadOK xs ys := ⟨(h.1 rfl).1, hg, by have := (h.1 rfl).2; rwa [List.append_nil] at this⟩

theorem RInv.none1 {xs bs : List UInt8} {ys : List ND} (h : RInv xs ys bs true) : ¬ ∃ n, ReadOK xs n := fun ⟨n, h1, _, h3⟩ => h.2 rfl ⟨n, h1, h3⟩

theorem RInv.none2 {xs : List UInt8} {ys : List ND} (h : RInv xs ys [] false) (hg : (rootN ys).2 = false) : ¬ ∃ n, ReadOK xs n := fun ⟨n, h1, h2, h3⟩ => by
  obtain ⟨q, rfl, e⟩ := dec_uniq (h.1 rfl).1 h1 ((h.1 rfl).2.trans h3.symm)
  cases q with
  | nil => rw [List.append_nil] at h2; rw [hg] at h2; simp at h2
  | cons y q => rw [List.flatMap_cons] at e; have := enc_pos y; have e3 := congrArg List.length e; rw [List.length_append, List.length_nil] at e3; omega
end Go.Proofs.YtkfkdakghjlenaaDoor
