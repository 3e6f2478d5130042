/-
  Own text, printed by a program of mine (wip/gx): what functions of the program do, walked operation by operation.
-/
import Derived.Test.YtcgapjieidmkpaaProg
import Derived.Test.YtcgapjieidmkpaaGxAgg
import Derived.Test.YtcgapjieidmkpaaTab
import Derived.Test.YtcgapjieidmkpaaPlDisk
import Derived.Test.YtcgapjieidmkpaaPlDiskSt
import Derived.Test.YtcgapjieidmkpaaPlDiskOk
import Derived.Test.YtcgapjieidmkpaaPlDiskC
import Derived.Test.YtcgapjieidmkpaaPlActD
import Derived.Test.YtcgapjieidmkpaaPlActs
import Derived.Test.YtcgapjieidmkpaaPlDiskLaw
import Derived.Test.YtcgapjieidmkpaaDTb
import Derived.Test.YtcgapjieidmkpaaDX
import Derived.Test.YtcgapjieidmkpaaDxC
import Derived.Test.YtcgapjieidmkpaaW0
import Derived.Test.YtcgapjieidmkpaaW2
import Derived.Test.YtcgapjieidmkpaaW7
set_option linter.unusedVariables false
namespace Go.Proofs.Ytcgapjieidmkpaa
open Go.RowKit Go.Gx
open Go.Plain
set_option maxHeartbeats 16000000 in
set_option maxRecDepth 20000 in
theorem diskCopies_walk {w : World} {Aq : Option Addr} {lq cq : Nat} {Fq : Nat → Prop} {q : List ActD} {Am : Option Addr} {lm cm : Nat} {Fm : Nat → Prop} {qm : List ActD} (hq : SA w Fq Aq lq cq q) (hm : SA w Fm Am lm cm qm) (hcq : cq ≤ 1954687338211) (hcm : cm ≤ 1954687338211) :
    Calls Try.prog 9 #[.slice Aq lq cq, .slice Am lm cm] w fun e w' => e = .returned (.bool true) ∧ Ch No w w' := by
  have hql := hq.len
  have hqc := hq.cap
  have hml := hm.len
  have hmc := hm.cap
  have hq := hq.old
  have hm := hm.old
  have HC : Ch No w w := Ch.refl _ _
  refine enter' (args := [.slice Aq lq cq, .slice Am lm cm]) (n := 124) Try.func9 rfl rfl rfl ?_
  refine wc_seq ?_
  refine wc_region ?_
  refine wl rfl rfl rfl (p_as rfl) ?_
  refine wl_nil ?_
  refine x_seq ?_
  refine wc_seq ?_
  refine wc_region ?_
  refine wle rfl (e_call ent10 rfl rfl (new_any (n := 10) (by omega) (by omega)) ?_)
  rintro _ w1 ⟨g20, rfl, hg20, hdk, hc⟩
  refine ⟨_, rfl, ?_⟩
  have hzw1 := hc.size
  have HC := HC.tr hc
  have hq := hq.no hc
  have hm := hm.no hc
  obtain ⟨O20, hd20, hOl20⟩ := CD.first (w0 := w) hdk (newD_ok _) (by omega) (Nat.zero_le _) (Nat.zero_le _) (by omega)
  refine wl rfl rfl rfl (p_as rfl) ?_
  refine wl_nil ?_
  refine x_seq ?_
  refine wc_seq ?_
  refine wc_seq ?_
  refine wc_region ?_
  refine wl rfl rfl rfl (p_mv rfl) ?_
  refine wl rfl rfl rfl (p_eqPN rfl rfl Try.underlying23) ?_
  refine wl rfl rfl rfl (p_mv rfl) ?_
  refine wl_g (gd_ rfl rfl rfl rfl rfl rfl) rfl rfl (p_mv rfl) ?_
  refine wle_g (gd_ rfl rfl rfl rfl rfl rfl) (e_call ent17 rfl rfl (light_any hq (by omega)) ?_)
  rintro _ w2 ⟨y25, rfl, hc⟩
  refine ⟨_, rfl, ?_⟩
  have hzw2 := hc.size
  have HC := HC.tr hc
  have hq := hq.no hc
  have hm := hm.no hc
  have hphd20 := hd20.hi
  have hd20 := hd20.no hc
  refine wl_g (gd_ rfl rfl rfl rfl rfl rfl) rfl rfl (p_not rfl) ?_
  refine wl rfl rfl rfl (p_pickF rfl rfl) ?_
  refine wl rfl rfl rfl (p_mv rfl) ?_
  refine wl_split (d := 28) rfl (fun q28 => ?_) (fun q28 => ?_)
  ·
    refine wl_s (gd_ rfl rfl rfl rfl rfl rfl) rfl rfl ?_
    refine wl_s (gd_ rfl rfl rfl rfl rfl rfl) rfl rfl ?_
    refine wl_s (gd_ rfl rfl rfl rfl rfl rfl) rfl rfl ?_
    refine wl rfl rfl rfl (p_pickT rfl rfl) ?_
    refine wl_nil ?_
    refine x_seq ?_
    refine wc_yes rfl (rfl) ?_
    refine wc_seq ?_
    refine wc_region ?_
    refine wl rfl rfl rfl (p_mv rfl) ?_
    refine wl rfl rfl rfl (p_nePN rfl rfl Try.underlying23) ?_
    refine wl rfl rfl rfl (p_mv rfl) ?_
    refine wle_g (gd_ rfl rfl rfl rfl rfl rfl) (e_call ent16 rfl rfl (lives5_any) ?_)
    rintro _ w3 ⟨rfl, hc⟩
    refine ⟨_, rfl, ?_⟩
    have hzw3 := hc.size
    have HC := HC.tr hc
    have hq := hq.no hc
    have hm := hm.no hc
    have hphd20 := hd20.hi
    have hd20 := hd20.no hc
    refine wl rfl rfl rfl (p_pickT rfl rfl) ?_
    refine wl rfl rfl rfl (p_as rfl) ?_
    refine wl_nil ?_
    refine x_seq ?_
    refine wc_ret ?_
    refine x_then_ret ?_
    refine fin_run (res1 rfl rfl) ?_
    exact ⟨rfl, HC⟩
  ·
    refine wl_g (gd_ rfl rfl rfl rfl rfl rfl) rfl rfl (p_mv rfl) ?_
    refine wle_g (gd_ rfl rfl rfl rfl rfl rfl) (e_call ent17 rfl rfl (light_any hm (by omega)) ?_)
    rintro _ w4 ⟨y30, rfl, hc⟩
    refine ⟨_, rfl, ?_⟩
    have hzw4 := hc.size
    have HC := HC.tr hc
    have hq := hq.no hc
    have hm := hm.no hc
    have hphd20 := hd20.hi
    have hd20 := hd20.no hc
    refine wl_g (gd_ rfl rfl rfl rfl rfl rfl) rfl rfl (p_not rfl) ?_
    refine wl rfl rfl rfl (p_pickF rfl rfl) ?_
    refine wl_nil ?_
    refine x_seq ?_
    refine wc_if rfl (fun c0 => ?_) (fun c0 => ?_)
    ·
      refine wc_seq ?_
      refine wc_region ?_
      refine wl rfl rfl rfl (p_mv rfl) ?_
      refine wl rfl rfl rfl (p_nePN rfl rfl Try.underlying23) ?_
      refine wl rfl rfl rfl (p_mv rfl) ?_
      refine wle_g (gd_ rfl rfl rfl rfl rfl rfl) (e_call ent16 rfl rfl (lives5_any) ?_)
      rintro _ w5 ⟨rfl, hc⟩
      refine ⟨_, rfl, ?_⟩
      have hzw5 := hc.size
      have HC := HC.tr hc
      have hq := hq.no hc
      have hm := hm.no hc
      have hphd20 := hd20.hi
      have hd20 := hd20.no hc
      refine wl rfl rfl rfl (p_pickT rfl rfl) ?_
      refine wl rfl rfl rfl (p_as rfl) ?_
      refine wl_nil ?_
      refine x_seq ?_
      refine wc_ret ?_
      refine x_then_ret ?_
      refine fin_run (res1 rfl rfl) ?_
      exact ⟨rfl, HC⟩
    ·
      refine wc_skip ?_
      refine x_seq ?_
      refine wc_seq ?_
      refine wc_seq ?_
      refine wc_region ?_
      refine wl rfl rfl rfl (p_mv rfl) ?_
      refine wl rfl rfl rfl (p_lenS Try.underlying34 rfl) ?_
      refine wl rfl rfl rfl (p_mv rfl) ?_
      refine wl_nil ?_
      refine x_seq ?_
      refine wc_block ?_
      refine wc_loop (e' := [(1, .slice Am lm cm), (4, .bool false), (5, .pointer (some ⟨g20, 0, none⟩)), (38, .slice Aq lq cq), (39, i64 (lq : Int)), (40, i64 ((0) : Int))]) (fun mz ez uz => ∃ i : Nat, ∃ O : Nat → Prop, ∃ dd : DS, mz = lq - i ∧ ez = [(1, .slice Am lm cm), (4, .bool false), (5, .pointer (some ⟨g20, 0, none⟩)), (38, .slice Aq lq cq), (39, i64 (lq : Int)), (40, i64 (i : Int))] ∧ (i ≤ lq) ∧ (CD TD w uz O g20 10 dd) ∧ (SA uz (fun k => k < w.heap.size) Aq lq cq q) ∧ (SA uz (fun k => k < w.heap.size) Am lm cm qm) ∧ (Ch No w uz))
        ⟨rfl, rfl, rfl, rfl, rfl, rfl, trivial⟩ ⟨0, O20, newD 10, rfl, rfl, by omega, hd20, hq, hm, HC⟩ ?_
      rintro m0 e w6 ⟨i, O, dd, hm0, rfl, hi, hd20, hq, hm, HC⟩
      have hzw6 := HC.size
      refine wc_seq ?_
      refine wc_region ?_
      refine wl rfl rfl rfl (p_lt rfl rfl) ?_
      refine wl_nil ?_
      refine x_seq ?_
      refine wc_seq ?_
      refine wc_if rfl (fun c1 => ?_) (fun c1 => ?_)
      ·
        have c1 := of_decide_eq_true c1
        refine wc_skip ?_
        refine x_seq ?_
        refine wc_seq ?_
        refine wc_block ?_
        refine wc_seq ?_
        refine wc_region ?_
        obtain ⟨a42, ha42, b42, o42, bA42, bl42, bc42, kA42, kl42, kc42, hA42, hr42, hB42, hK42, hbz42, hkz42, h1a42, h2a42, h1n42, h2n42⟩ := hq.opn5 (i := i) (by omega)
        have hBl42 := hB42.len
        have hBc42 := hB42.cap
        have hKl42 := hK42.len
        have hKc42 := hK42.cap
        refine wl rfl rfl rfl (p_ixS (j := i * 5) Try.underlying34 sz37 rfl hA42 rfl (by omega) (by omega) (congrArg (· * 5) (Int.toNat_natCast _))) ?_
        refine wl rfl rfl rfl (p_ldA (cs := [i64 a42.kind, i64 a42.a, i64 a42.n, .slice bA42 bl42 bc42, .slice kA42 kl42 kc42]) Try.underlying37 rfl sz37 rfl (fun _ e => e ▸ hr42)) ?_
        refine wle rfl (e_alloc (cs := #[.int .i64 0, .int .i64 0, .int .i64 0, .slice none 0 0, .slice none 0 0]) rfl (by rfl) rfl (fun w8 g7 hg7 hb7 hc hsz7 => ?_))
        have hzw8 := hc.size
        have HC := HC.tr hc
        have hq := hq.no hc
        have hm := hm.no hc
        have hphd20 := hd20.hi
        have hd20 := hd20.no hc
        have hB42 := hB42.no hc
        have hK42 := hK42.no hc
        have hohb7_hd20 : ∀ k, O k → k ≠ g7 := fun k h e => by have := hphd20 k h; omega
        have hge7 : w.heap.size ≤ g7 := by have := HC.size; omega
        refine wle rfl (e_stW (vs := [i64 a42.kind, i64 a42.a, i64 a42.n, .slice bA42 bl42 bc42, .slice kA42 kl42 kc42]) sz37 (allOne rfl) rfl rfl hb7 (by rfl) (fun w9 hb7 hc hsz => ?_))
        have hzw9 := hc.size
        have HC := HC.trans hc (fun _ _ h => h) (fun k hk ht => absurd ht (by omega))
        have hq := hq.ch hc (by intro k hk ht; have h2 : k < w.heap.size := hk; first | omega | (dsimp only at *; omega))
        have hm := hm.ch hc (by intro k hk ht; have h2 : k < w.heap.size := hk; first | omega | (dsimp only at *; omega))
        have hd20 := hd20.other hc (fun k hk ht => by have h1 := hohb7_hd20 k hk; have h2 : k = g7 := ht; omega)
        first | have hB42 := hB42.ch hc (by intro k hk ht; first | omega | (dsimp only at *; omega)) | have hB42 := hB42.chT hc (by intro k hz hk ht; first | omega | (dsimp only at *; omega))
        first | have hK42 := hK42.ch hc (by intro k hk ht; first | omega | (dsimp only at *; omega)) | have hK42 := hK42.chT hc (by intro k hz hk ht; first | omega | (dsimp only at *; omega))
        refine wl_nil ?_
        refine x_seq ?_
        refine wc_region ?_
        refine wl rfl rfl rfl (p_mv rfl) ?_
        refine wl rfl rfl rfl (p_ldA (cs := [i64 a42.kind, i64 a42.a, i64 a42.n, .slice bA42 bl42 bc42, .slice kA42 kl42 kc42]) Try.underlying37 rfl sz37 rfl (fun _ e => e ▸ rngL hb7)) ?_
        refine wle rfl (e_call ent24 rfl rfl (one_any hd20 hB42 hK42 (by omega) (by omega) (by omega) (by omega) (by omega) (by omega) (by omega)) ?_)
        rintro _ w10 ⟨O46, rfl, hdn, hO46, hc⟩
        refine ⟨_, rfl, ?_⟩
        have hzw10 := hc.size
        have HC := HC.trans hc (fun _ _ h => h) (fun k hk ht => absurd hk (by have := hd20.lo k ht; omega))
        have hq := hq.ch hc (fun k hk ht => by have h1 := hd20.lo k ht; have h2 : k < w.heap.size := hk; omega)
        have hm := hm.ch hc (fun k hk ht => by have h1 := hd20.lo k ht; have h2 : k < w.heap.size := hk; omega)
        have hB42 := hB42.ch hc (fun k hk ht => by have h1 := hd20.lo k ht; have h2 : k < w.heap.size := hk; omega)
        have hK42 := hK42.ch hc (fun k hk ht => by have h1 := hd20.lo k ht; have h2 : k < w.heap.size := hk; omega)
        have hltg7 := hb7.lt
        have hb7 := hb7.ch hc (fun ht => hohb7_hd20 _ ht rfl)
        have hohb7_hd20 : ∀ k, O46 k → k ≠ g7 := fun k h => (hO46 k h).elim (hohb7_hd20 k) (fun h => by omega)
        have hd20 := hdn
        refine wl_nil ?_
        refine x_in_normal ?_
        refine x_seq ?_
        refine wc_region ?_
        refine wl rfl rfl rfl (p_add rfl rfl (w64 (by omega))) ?_
        refine wl rfl rfl rfl (p_mv rfl) ?_
        refine wl_nil ?_
        refine x_round (e' := [(1, .slice Am lm cm), (4, .bool false), (5, .pointer (some ⟨g20, 0, none⟩)), (38, .slice Aq lq cq), (39, i64 (lq : Int)), (40, i64 ((i + 1) : Int))]) ⟨rfl, rfl, rfl, rfl, rfl, rfl, trivial⟩ (by rw [hm0]; omega) ⟨i + 1, _, _, rfl, rfl, by omega, hd20, hq, hm, HC⟩
      ·
        have c1 := of_decide_eq_false c1
        refine wc_exit ?_
        refine x_then_exit ?_
        refine x_then_exit ?_
        refine x_in_here ?_
        refine x_seq ?_
        refine wc_seq ?_
        refine wc_region ?_
        refine wl rfl rfl rfl (p_mv rfl) ?_
        refine wle rfl (e_call ent14 rfl rfl (read_any (a := 0) (m := 320) hd20.at_ hd20.ok hd20.hn (by omega) (by omega) (by omega) (by omega)) ?_)
        rintro _ w11 ⟨A50, l50, c50, rfl, hl50, hS50, hc⟩
        refine ⟨_, rfl, ?_⟩
        have hzw11 := hc.size
        have HC := HC.tr hc
        have hq := hq.no hc
        have hm := hm.no hc
        have hphd20 := hd20.hi
        have hd20 := hd20.no hc
        have hS50 := hS50.mono (G := fun k => w6.heap.size ≤ k ∧ k < w11.heap.size) (fun k h1 h2 => ⟨by first | exact h2 | (have h3 : k = _ := h2; omega), h1⟩)
        have hohS50_hd20 : ∀ k, O k → k < w6.heap.size ∨ w11.heap.size ≤ k := fun k h => .inl (hphd20 k h)
        refine wl rfl rfl rfl (p_mv rfl) ?_
        refine wl rfl rfl rfl (p_ext rfl rfl) ?_
        refine wl rfl rfl rfl (p_ext rfl rfl) ?_
        refine wl rfl rfl rfl (p_as rfl) ?_
        refine wl rfl rfl rfl (p_as rfl) ?_
        refine wl_nil ?_
        refine x_seq ?_
        refine wc_seq ?_
        refine wc_region ?_
        refine wl rfl rfl rfl (p_mv rfl) ?_
        refine wle rfl (e_call ent23 rfl rfl (copy_any hd20.at_ hd20.ok hd20.hn (by omega) hd20.kp) ?_)
        rintro _ w12 ⟨g54, rfl, hdk, hc⟩
        refine ⟨_, rfl, ?_⟩
        have hzw12 := hc.size
        have HC := HC.tr hc
        have hq := hq.no hc
        have hm := hm.no hc
        have hphd20 := hd20.hi
        have hd20 := hd20.no hc
        have hS50 := hS50.no hc
        obtain ⟨O54, hd54, hOl54⟩ := CD.first (w0 := w) hdk hd20.ok hd20.hn hd20.arm hd20.kp (by omega)
        have aphd20_hd54 : ∀ k, O k → ¬ O54 k := fun k h1 h2 => by have := hphd20 k h1; have := hOl54 k h2; omega
        have hohS50_hd54 : ∀ k, O54 k → k < w6.heap.size ∨ w11.heap.size ≤ k := fun k h => .inr (by have := hOl54 k h; omega)
        refine wl rfl rfl rfl (p_mv rfl) ?_
        refine wle rfl (e_call ent23 rfl rfl (copy_any hd20.at_ hd20.ok hd20.hn (by omega) hd20.kp) ?_)
        rintro _ w13 ⟨g56, rfl, hdk, hc⟩
        refine ⟨_, rfl, ?_⟩
        have hzw13 := hc.size
        have HC := HC.tr hc
        have hq := hq.no hc
        have hm := hm.no hc
        have hphd20 := hd20.hi
        have hd20 := hd20.no hc
        have hS50 := hS50.no hc
        have hphd54 := hd54.hi
        have hd54 := hd54.no hc
        obtain ⟨O56, hd56, hOl56⟩ := CD.first (w0 := w) hdk hd20.ok hd20.hn hd20.arm hd20.kp (by omega)
        have aphd20_hd56 : ∀ k, O k → ¬ O56 k := fun k h1 h2 => by have := hphd20 k h1; have := hOl56 k h2; omega
        have hohS50_hd56 : ∀ k, O56 k → k < w6.heap.size ∨ w11.heap.size ≤ k := fun k h => .inr (by have := hOl56 k h; omega)
        have aphd54_hd56 : ∀ k, O54 k → ¬ O56 k := fun k h1 h2 => by have := hphd54 k h1; have := hOl56 k h2; omega
        refine wl rfl rfl rfl (p_as rfl) ?_
        refine wl rfl rfl rfl (p_as rfl) ?_
        refine wl_nil ?_
        refine x_seq ?_
        refine wc_seq ?_
        refine wc_seq ?_
        refine wc_region ?_
        refine wl rfl rfl rfl (p_mv rfl) ?_
        refine wl rfl rfl rfl (p_lenS Try.underlying34 rfl) ?_
        refine wl rfl rfl rfl (p_mv rfl) ?_
        refine wl_nil ?_
        refine x_seq ?_
        refine wc_block ?_
        refine wc_loop (e' := [(4, .bool false), (5, .pointer (some ⟨g20, 0, none⟩)), (8, .slice A50 l50 c50), (9, i64 (rdS 10 dd 0 320).2), (10, .pointer (some ⟨g54, 0, none⟩)), (11, .pointer (some ⟨g56, 0, none⟩)), (57, .slice Am lm cm), (58, i64 (lm : Int)), (59, i64 ((0) : Int))]) (fun mz ez uz => ∃ i : Nat, ∃ de : DS, ∃ Od : Nat → Prop, ∃ Oc : Nat → Prop, ∃ Ox : Nat → Prop, mz = lm - i ∧ ez = [(4, .bool false), (5, .pointer (some ⟨g20, 0, none⟩)), (8, .slice A50 l50 c50), (9, i64 (rdS 10 dd 0 320).2), (10, .pointer (some ⟨g54, 0, none⟩)), (11, .pointer (some ⟨g56, 0, none⟩)), (57, .slice Am lm cm), (58, i64 (lm : Int)), (59, i64 (i : Int))] ∧ (i ≤ lm) ∧ (CD TD w uz Od g20 10 dd) ∧ (CD TD w uz Oc g54 10 de) ∧ (CD TD w uz Ox g56 10 de) ∧ (∀ k, Od k → ¬ Oc k) ∧ (∀ k, Od k → ¬ Ox k) ∧ (∀ k, Oc k → ¬ Ox k) ∧ (SA uz (fun k => k < w.heap.size) Am lm cm qm) ∧ (Sl uz (fun k => w6.heap.size ≤ k ∧ k < w11.heap.size) u8v A50 l50 c50 (rdS 10 dd 0 320).1) ∧ (∀ k, Od k → k < w6.heap.size ∨ w11.heap.size ≤ k) ∧ (∀ k, Oc k → k < w6.heap.size ∨ w11.heap.size ≤ k) ∧ (∀ k, Ox k → k < w6.heap.size ∨ w11.heap.size ≤ k) ∧ (w11.heap.size ≤ uz.heap.size) ∧ (Ch No w uz))
          ⟨rfl, rfl, rfl, rfl, rfl, rfl, rfl, rfl, rfl, trivial⟩ ⟨0, dd, O, O54, O56, rfl, rfl, by omega, hd20, hd54, hd56, aphd20_hd54, aphd20_hd56, aphd54_hd56, hm, hS50, hohS50_hd20, hohS50_hd54, hohS50_hd56, by omega, HC⟩ ?_
        rintro m1 e w14 ⟨i, de, Od, Oc, Ox, hm1, rfl, hi, hd20, hd54, hd56, aphd20_hd54, aphd20_hd56, aphd54_hd56, hm, hS50, hohS50_hd20, hohS50_hd54, hohS50_hd56, hzb, HC⟩
        have hzw14 := HC.size
        refine wc_seq ?_
        refine wc_region ?_
        refine wl rfl rfl rfl (p_lt rfl rfl) ?_
        refine wl_nil ?_
        refine x_seq ?_
        refine wc_seq ?_
        refine wc_if rfl (fun c2 => ?_) (fun c2 => ?_)
        ·
          have c2 := of_decide_eq_true c2
          refine wc_skip ?_
          refine x_seq ?_
          refine wc_seq ?_
          refine wc_block ?_
          refine wc_seq ?_
          refine wc_region ?_
          obtain ⟨a61, ha61, b61, o61, bA61, bl61, bc61, kA61, kl61, kc61, hA61, hr61, hB61, hK61, hbz61, hkz61, h1a61, h2a61, h1n61, h2n61⟩ := hm.opn5 (i := i) (by omega)
          have hBl61 := hB61.len
          have hBc61 := hB61.cap
          have hKl61 := hK61.len
          have hKc61 := hK61.cap
          refine wl rfl rfl rfl (p_ixS (j := i * 5) Try.underlying34 sz37 rfl hA61 rfl (by omega) (by omega) (congrArg (· * 5) (Int.toNat_natCast _))) ?_
          refine wl rfl rfl rfl (p_ldA (cs := [i64 a61.kind, i64 a61.a, i64 a61.n, .slice bA61 bl61 bc61, .slice kA61 kl61 kc61]) Try.underlying37 rfl sz37 rfl (fun _ e => e ▸ hr61)) ?_
          refine wle rfl (e_alloc (cs := #[.int .i64 0, .int .i64 0, .int .i64 0, .slice none 0 0, .slice none 0 0]) rfl (by rfl) rfl (fun w16 g13 hg13 hb13 hc hsz13 => ?_))
          have hzw16 := hc.size
          have HC := HC.tr hc
          have hm := hm.no hc
          have hphd20 := hd20.hi
          have hd20 := hd20.no hc
          have hphd54 := hd54.hi
          have hd54 := hd54.no hc
          have hphd56 := hd56.hi
          have hd56 := hd56.no hc
          have hS50 := hS50.no hc
          have hB61 := hB61.no hc
          have hK61 := hK61.no hc
          have hohb13_hd20 : ∀ k, Od k → k ≠ g13 := fun k h e => by have := hphd20 k h; omega
          have hohb13_hd54 : ∀ k, Oc k → k ≠ g13 := fun k h e => by have := hphd54 k h; omega
          have hohb13_hd56 : ∀ k, Ox k → k ≠ g13 := fun k h e => by have := hphd56 k h; omega
          have hge13 : w.heap.size ≤ g13 := by have := HC.size; omega
          refine wle rfl (e_stW (vs := [i64 a61.kind, i64 a61.a, i64 a61.n, .slice bA61 bl61 bc61, .slice kA61 kl61 kc61]) sz37 (allOne rfl) rfl rfl hb13 (by rfl) (fun w17 hb13 hc hsz => ?_))
          have hzw17 := hc.size
          have HC := HC.trans hc (fun _ _ h => h) (fun k hk ht => absurd ht (by omega))
          have hm := hm.ch hc (by intro k hk ht; have h2 : k < w.heap.size := hk; first | omega | (dsimp only at *; omega))
          have hd20 := hd20.other hc (fun k hk ht => by have h1 := hohb13_hd20 k hk; have h2 : k = g13 := ht; omega)
          have hd54 := hd54.other hc (fun k hk ht => by have h1 := hohb13_hd54 k hk; have h2 : k = g13 := ht; omega)
          have hd56 := hd56.other hc (fun k hk ht => by have h1 := hohb13_hd56 k hk; have h2 : k = g13 := ht; omega)
          first | have hS50 := hS50.ch hc (by intro k hk ht; first | omega | (dsimp only at *; omega)) | have hS50 := hS50.chT hc (by intro k hz hk ht; first | omega | (dsimp only at *; omega))
          first | have hB61 := hB61.ch hc (by intro k hk ht; first | omega | (dsimp only at *; omega)) | have hB61 := hB61.chT hc (by intro k hz hk ht; first | omega | (dsimp only at *; omega))
          first | have hK61 := hK61.ch hc (by intro k hk ht; first | omega | (dsimp only at *; omega)) | have hK61 := hK61.chT hc (by intro k hz hk ht; first | omega | (dsimp only at *; omega))
          refine wl_nil ?_
          refine x_seq ?_
          refine wc_seq ?_
          refine wc_region ?_
          refine wl rfl rfl rfl (p_mv rfl) ?_
          refine wl rfl rfl rfl (p_ldA (cs := [i64 a61.kind, i64 a61.a, i64 a61.n, .slice bA61 bl61 bc61, .slice kA61 kl61 kc61]) Try.underlying37 rfl sz37 rfl (fun _ e => e ▸ rngL hb13)) ?_
          refine wle rfl (e_call ent24 rfl rfl (one_any hd54 hB61 hK61 (by omega) (by omega) (by omega) (by omega) (by omega) (by omega) (by omega)) ?_)
          rintro _ w18 ⟨O65, rfl, hdn, hO65, hc⟩
          refine ⟨_, rfl, ?_⟩
          have hzw18 := hc.size
          have HC := HC.trans hc (fun _ _ h => h) (fun k hk ht => absurd hk (by have := hd54.lo k ht; omega))
          have hm := hm.ch hc (fun k hk ht => by have h1 := hd54.lo k ht; have h2 : k < w.heap.size := hk; omega)
          have hphd20 := hd20.hi
          have hd20 := hd20.other hc (fun k hk ht => (fun k h1 h2 => aphd20_hd54 k h2 h1) k ht hk)
          have hphd56 := hd56.hi
          have hd56 := hd56.other hc (fun k hk ht => aphd54_hd56 k ht hk)
          have hS50 := hS50.ch hc (fun k hk ht => by have h1 := hohS50_hd54 k ht; have h2 : w6.heap.size ≤ k ∧ k < w11.heap.size := hk; omega)
          have hB61 := hB61.ch hc (fun k hk ht => by have h1 := hd54.lo k ht; have h2 : k < w.heap.size := hk; omega)
          have hK61 := hK61.ch hc (fun k hk ht => by have h1 := hd54.lo k ht; have h2 : k < w.heap.size := hk; omega)
          have hltg13 := hb13.lt
          have hb13 := hb13.ch hc (fun ht => hohb13_hd54 _ ht rfl)
          have aphd20_hd54 : ∀ k, Od k → ¬ O65 k := fun k h1 h2 => (hO65 k h2).elim (fun h => aphd20_hd54 k h1 h) (fun h => by have := hphd20 k h1; omega)
          have aphd54_hd56 : ∀ k, O65 k → ¬ Ox k := fun k h1 h2 => (hO65 k h1).elim (fun h => aphd54_hd56 k h h2) (fun h => by have := hphd56 k h2; omega)
          have hohS50_hd54 : ∀ k, O65 k → k < w6.heap.size ∨ w11.heap.size ≤ k := fun k h => (hO65 k h).elim (hohS50_hd54 k) (fun h => .inr (by omega))
          have hohb13_hd54 : ∀ k, O65 k → k ≠ g13 := fun k h => (hO65 k h).elim (hohb13_hd54 k) (fun h => by omega)
          have hd54 := hdn
          refine wl_nil ?_
          refine x_seq ?_
          refine wc_region ?_
          refine wl rfl rfl rfl (p_mv rfl) ?_
          refine wl rfl rfl rfl (p_ldA (cs := [i64 a61.kind, i64 a61.a, i64 a61.n, .slice bA61 bl61 bc61, .slice kA61 kl61 kc61]) Try.underlying37 rfl sz37 rfl (fun _ e => e ▸ rngL hb13)) ?_
          refine wle rfl (e_call ent24 rfl rfl (one_any hd56 hB61 hK61 (by omega) (by omega) (by omega) (by omega) (by omega) (by omega) (by omega)) ?_)
          rintro _ w19 ⟨O68, rfl, hdn, hO68, hc⟩
          refine ⟨_, rfl, ?_⟩
          have hzw19 := hc.size
          have HC := HC.trans hc (fun _ _ h => h) (fun k hk ht => absurd hk (by have := hd56.lo k ht; omega))
          have hm := hm.ch hc (fun k hk ht => by have h1 := hd56.lo k ht; have h2 : k < w.heap.size := hk; omega)
          have hphd20 := hd20.hi
          have hd20 := hd20.other hc (fun k hk ht => (fun k h1 h2 => aphd20_hd56 k h2 h1) k ht hk)
          have hphd54 := hd54.hi
          have hd54 := hd54.other hc (fun k hk ht => (fun k h1 h2 => aphd54_hd56 k h2 h1) k ht hk)
          have hS50 := hS50.ch hc (fun k hk ht => by have h1 := hohS50_hd56 k ht; have h2 : w6.heap.size ≤ k ∧ k < w11.heap.size := hk; omega)
          have hB61 := hB61.ch hc (fun k hk ht => by have h1 := hd56.lo k ht; have h2 : k < w.heap.size := hk; omega)
          have hK61 := hK61.ch hc (fun k hk ht => by have h1 := hd56.lo k ht; have h2 : k < w.heap.size := hk; omega)
          have hltg13 := hb13.lt
          have hb13 := hb13.ch hc (fun ht => hohb13_hd56 _ ht rfl)
          have aphd20_hd56 : ∀ k, Od k → ¬ O68 k := fun k h1 h2 => (hO68 k h2).elim (fun h => aphd20_hd56 k h1 h) (fun h => by have := hphd20 k h1; omega)
          have aphd54_hd56 : ∀ k, O65 k → ¬ O68 k := fun k h1 h2 => (hO68 k h2).elim (fun h => aphd54_hd56 k h1 h) (fun h => by have := hphd54 k h1; omega)
          have hohS50_hd56 : ∀ k, O68 k → k < w6.heap.size ∨ w11.heap.size ≤ k := fun k h => (hO68 k h).elim (hohS50_hd56 k) (fun h => .inr (by omega))
          have hohb13_hd56 : ∀ k, O68 k → k ≠ g13 := fun k h => (hO68 k h).elim (hohb13_hd56 k) (fun h => by omega)
          have hd56 := hdn
          refine wl_nil ?_
          refine x_in_normal ?_
          refine x_seq ?_
          refine wc_region ?_
          refine wl rfl rfl rfl (p_add rfl rfl (w64 (by omega))) ?_
          refine wl rfl rfl rfl (p_mv rfl) ?_
          refine wl_nil ?_
          refine x_round (e' := [(4, .bool false), (5, .pointer (some ⟨g20, 0, none⟩)), (8, .slice A50 l50 c50), (9, i64 (rdS 10 dd 0 320).2), (10, .pointer (some ⟨g54, 0, none⟩)), (11, .pointer (some ⟨g56, 0, none⟩)), (57, .slice Am lm cm), (58, i64 (lm : Int)), (59, i64 ((i + 1) : Int))]) ⟨rfl, rfl, rfl, rfl, rfl, rfl, rfl, rfl, rfl, trivial⟩ (by rw [hm1]; omega) ⟨i + 1, _, _, _, _, rfl, rfl, by omega, hd20, hd54, hd56, aphd20_hd54, aphd20_hd56, aphd54_hd56, hm, hS50, hohS50_hd20, hohS50_hd54, hohS50_hd56, by omega, HC⟩
        ·
          have c2 := of_decide_eq_false c2
          refine wc_exit ?_
          refine x_then_exit ?_
          refine x_then_exit ?_
          refine x_in_here ?_
          refine x_seq ?_
          refine wc_seq ?_
          refine wc_region ?_
          refine wl rfl rfl rfl (p_mv rfl) ?_
          refine wle rfl (e_call ent14 rfl rfl (read_any (a := 0) (m := 320) hd20.at_ hd20.ok hd20.hn (by omega) (by omega) (by omega) (by omega)) ?_)
          rintro _ w20 ⟨A72, l72, c72, rfl, hl72, hS72, hc⟩
          refine ⟨_, rfl, ?_⟩
          have hzw20 := hc.size
          have HC := HC.tr hc
          have hm := hm.no hc
          have hphd20 := hd20.hi
          have hd20 := hd20.no hc
          have hphd54 := hd54.hi
          have hd54 := hd54.no hc
          have hphd56 := hd56.hi
          have hd56 := hd56.no hc
          have hS50 := hS50.no hc
          have hS72 := hS72.mono (G := fun k => w14.heap.size ≤ k ∧ k < w20.heap.size) (fun k h1 h2 => ⟨by first | exact h2 | (have h3 : k = _ := h2; omega), h1⟩)
          have hohS72_hd20 : ∀ k, Od k → k < w14.heap.size ∨ w20.heap.size ≤ k := fun k h => .inl (hphd20 k h)
          have hohS72_hd54 : ∀ k, Oc k → k < w14.heap.size ∨ w20.heap.size ≤ k := fun k h => .inl (hphd54 k h)
          have hohS72_hd56 : ∀ k, Ox k → k < w14.heap.size ∨ w20.heap.size ≤ k := fun k h => .inl (hphd56 k h)
          refine wl rfl rfl rfl (p_mv rfl) ?_
          refine wl rfl rfl rfl (p_ext rfl rfl) ?_
          refine wl rfl rfl rfl (p_ext rfl rfl) ?_
          refine wl rfl rfl rfl (p_as rfl) ?_
          refine wl rfl rfl rfl (p_as rfl) ?_
          refine wl_nil ?_
          refine x_seq ?_
          refine wc_seq ?_
          refine wc_region ?_
          refine wl rfl rfl rfl (p_mv rfl) ?_
          refine wle rfl (e_call ent14 rfl rfl (read_any (a := 0) (m := 320) hd54.at_ hd54.ok hd54.hn (by omega) (by omega) (by omega) (by omega)) ?_)
          rintro _ w21 ⟨A77, l77, c77, rfl, hl77, hS77, hc⟩
          refine ⟨_, rfl, ?_⟩
          have hzw21 := hc.size
          have HC := HC.tr hc
          have hm := hm.no hc
          have hphd20 := hd20.hi
          have hd20 := hd20.no hc
          have hphd54 := hd54.hi
          have hd54 := hd54.no hc
          have hphd56 := hd56.hi
          have hd56 := hd56.no hc
          have hS50 := hS50.no hc
          have hS72 := hS72.no hc
          have hS77 := hS77.mono (G := fun k => w20.heap.size ≤ k ∧ k < w21.heap.size) (fun k h1 h2 => ⟨by first | exact h2 | (have h3 : k = _ := h2; omega), h1⟩)
          have hohS77_hd20 : ∀ k, Od k → k < w20.heap.size ∨ w21.heap.size ≤ k := fun k h => .inl (hphd20 k h)
          have hohS77_hd54 : ∀ k, Oc k → k < w20.heap.size ∨ w21.heap.size ≤ k := fun k h => .inl (hphd54 k h)
          have hohS77_hd56 : ∀ k, Ox k → k < w20.heap.size ∨ w21.heap.size ≤ k := fun k h => .inl (hphd56 k h)
          refine wl rfl rfl rfl (p_mv rfl) ?_
          refine wl rfl rfl rfl (p_ext rfl rfl) ?_
          refine wl rfl rfl rfl (p_ext rfl rfl) ?_
          refine wl rfl rfl rfl (p_as rfl) ?_
          refine wl rfl rfl rfl (p_as rfl) ?_
          refine wl_nil ?_
          refine x_seq ?_
          refine wc_seq ?_
          refine wc_region ?_
          refine wl rfl rfl rfl (p_mv rfl) ?_
          refine wle rfl (e_call ent14 rfl rfl (read_any (a := 0) (m := 320) hd56.at_ hd56.ok hd56.hn (by omega) (by omega) (by omega) (by omega)) ?_)
          rintro _ w22 ⟨A82, l82, c82, rfl, hl82, hS82, hc⟩
          refine ⟨_, rfl, ?_⟩
          have hzw22 := hc.size
          have HC := HC.tr hc
          have hm := hm.no hc
          have hphd20 := hd20.hi
          have hd20 := hd20.no hc
          have hphd54 := hd54.hi
          have hd54 := hd54.no hc
          have hphd56 := hd56.hi
          have hd56 := hd56.no hc
          have hS50 := hS50.no hc
          have hS72 := hS72.no hc
          have hS77 := hS77.no hc
          have hS82 := hS82.mono (G := fun k => w21.heap.size ≤ k ∧ k < w22.heap.size) (fun k h1 h2 => ⟨by first | exact h2 | (have h3 : k = _ := h2; omega), h1⟩)
          have hohS82_hd20 : ∀ k, Od k → k < w21.heap.size ∨ w22.heap.size ≤ k := fun k h => .inl (hphd20 k h)
          have hohS82_hd54 : ∀ k, Oc k → k < w21.heap.size ∨ w22.heap.size ≤ k := fun k h => .inl (hphd54 k h)
          have hohS82_hd56 : ∀ k, Ox k → k < w21.heap.size ∨ w22.heap.size ≤ k := fun k h => .inl (hphd56 k h)
          refine wl rfl rfl rfl (p_mv rfl) ?_
          refine wl rfl rfl rfl (p_ext rfl rfl) ?_
          refine wl rfl rfl rfl (p_ext rfl rfl) ?_
          refine wl rfl rfl rfl (p_as rfl) ?_
          refine wl rfl rfl rfl (p_as rfl) ?_
          refine wl_nil ?_
          refine x_seq ?_
          refine wc_seq ?_
          refine wc_region ?_
          refine wl rfl rfl rfl (p_mv rfl) ?_
          refine wl rfl rfl rfl (p_bts Try.underlying29 Try.underlying5 Try.underlying9 rfl ((hS50).mono (G := fun _ => True) (fun _ _ _ => trivial)).len (fun _ e => e ▸ ((hS50).mono (G := fun _ => True) (fun _ _ _ => trivial)).rd)) ?_
          refine wl rfl rfl rfl (p_mv rfl) ?_
          refine wl rfl rfl rfl (p_bts Try.underlying29 Try.underlying5 Try.underlying9 rfl ((hS72).mono (G := fun _ => True) (fun _ _ _ => trivial)).len (fun _ e => e ▸ ((hS72).mono (G := fun _ => True) (fun _ _ _ => trivial)).rd)) ?_
          refine wl rfl rfl rfl (p_eqT rfl rfl) ?_
          refine wl rfl rfl rfl (p_mv rfl) ?_
          refine wl_know (d := 90) (b' := true) rfl (strs_of rfl) ?_
          refine wl_g (gd_ rfl rfl rfl rfl rfl rfl) rfl rfl (p_mv rfl) ?_
          refine wl_g (gd_ rfl rfl rfl rfl rfl rfl) rfl rfl (p_mv rfl) ?_
          refine wl_g (gd_ rfl rfl rfl rfl rfl rfl) rfl rfl (p_eq rfl rfl) ?_
          refine wl rfl rfl rfl (p_pickT rfl rfl) ?_
          refine wl rfl rfl rfl (p_mv rfl) ?_
          refine wl_know (d := 95) (b' := true) rfl (decide_eq_true rfl) ?_
          refine wl_g (gd_ rfl rfl rfl rfl rfl rfl) rfl rfl (p_mv rfl) ?_
          refine wl_g (gd_ rfl rfl rfl rfl rfl rfl) rfl rfl (p_bts Try.underlying29 Try.underlying5 Try.underlying9 rfl ((hS77).mono (G := fun _ => True) (fun _ _ _ => trivial)).len (fun _ e => e ▸ ((hS77).mono (G := fun _ => True) (fun _ _ _ => trivial)).rd)) ?_
          refine wl_g (gd_ rfl rfl rfl rfl rfl rfl) rfl rfl (p_mv rfl) ?_
          refine wl_g (gd_ rfl rfl rfl rfl rfl rfl) rfl rfl (p_bts Try.underlying29 Try.underlying5 Try.underlying9 rfl ((hS82).mono (G := fun _ => True) (fun _ _ _ => trivial)).len (fun _ e => e ▸ ((hS82).mono (G := fun _ => True) (fun _ _ _ => trivial)).rd)) ?_
          refine wl_g (gd_ rfl rfl rfl rfl rfl rfl) rfl rfl (p_eqT rfl rfl) ?_
          refine wl rfl rfl rfl (p_pickT rfl rfl) ?_
          refine wl rfl rfl rfl (p_mv rfl) ?_
          refine wl_know (d := 102) (b' := true) rfl (strs_of rfl) ?_
          refine wl_g (gd_ rfl rfl rfl rfl rfl rfl) rfl rfl (p_mv rfl) ?_
          refine wl_g (gd_ rfl rfl rfl rfl rfl rfl) rfl rfl (p_mv rfl) ?_
          refine wl_g (gd_ rfl rfl rfl rfl rfl rfl) rfl rfl (p_eq rfl rfl) ?_
          refine wl rfl rfl rfl (p_pickT rfl rfl) ?_
          refine wl rfl rfl rfl (p_mv rfl) ?_
          refine wl_know (d := 107) (b' := true) rfl (decide_eq_true rfl) ?_
          refine wl_g (gd_ rfl rfl rfl rfl rfl rfl) rfl rfl (p_mv rfl) ?_
          refine wle_g (gd_ rfl rfl rfl rfl rfl rfl) (e_call ent13 rfl rfl (on_any hd54.at_) ?_)
          rintro _ w23 ⟨rfl, hc⟩
          refine ⟨_, rfl, ?_⟩
          have hzw23 := hc.size
          have HC := HC.tr hc
          have hm := hm.no hc
          have hphd20 := hd20.hi
          have hd20 := hd20.no hc
          have hphd54 := hd54.hi
          have hd54 := hd54.no hc
          have hphd56 := hd56.hi
          have hd56 := hd56.no hc
          have hS50 := hS50.no hc
          have hS72 := hS72.no hc
          have hS77 := hS77.no hc
          have hS82 := hS82.no hc
          refine wl_g (gd_ rfl rfl rfl rfl rfl rfl) rfl rfl (p_mv rfl) ?_
          refine wle_g (gd_ rfl rfl rfl rfl rfl rfl) (e_call ent13 rfl rfl (on_any hd56.at_) ?_)
          rintro _ w24 ⟨rfl, hc⟩
          refine ⟨_, rfl, ?_⟩
          have hzw24 := hc.size
          have HC := HC.tr hc
          have hm := hm.no hc
          have hphd20 := hd20.hi
          have hd20 := hd20.no hc
          have hphd54 := hd54.hi
          have hd54 := hd54.no hc
          have hphd56 := hd56.hi
          have hd56 := hd56.no hc
          have hS50 := hS50.no hc
          have hS72 := hS72.no hc
          have hS77 := hS77.no hc
          have hS82 := hS82.no hc
          refine wl_g (gd_ rfl rfl rfl rfl rfl rfl) rfl rfl (p_eqB rfl rfl Try.underlying4) ?_
          refine wl rfl rfl rfl (p_pickT rfl rfl) ?_
          refine wl rfl rfl rfl (p_mv rfl) ?_
          refine wl_know (d := 114) (b' := true) rfl (beq_self_eq_true _) ?_
          refine wl_g (gd_ rfl rfl rfl rfl rfl rfl) rfl rfl (p_mv rfl) ?_
          refine wle_g (gd_ rfl rfl rfl rfl rfl rfl) (e_call ent19 rfl rfl (dirty_any hd54.at_ (Nat.le_trans (ord_le hd54.ok) hd54.hn)) ?_)
          rintro _ w25 ⟨A116, c116, l116, rfl, hl116, hW116, hc⟩
          refine ⟨_, rfl, ?_⟩
          have hzw25 := hc.size
          have HC := HC.tr hc
          have hm := hm.no hc
          have hphd20 := hd20.hi
          have hd20 := hd20.no hc
          have hphd54 := hd54.hi
          have hd54 := hd54.no hc
          have hphd56 := hd56.hi
          have hd56 := hd56.no hc
          have hS50 := hS50.no hc
          have hS72 := hS72.no hc
          have hS77 := hS77.no hc
          have hS82 := hS82.no hc
          have hS116 := hW116.sl
          have hlb116 : l116 ≤ 4096 := by rw [hl116]; exact Nat.le_trans (ord_le hd54.ok) hd54.hn
          have hS116 := hS116.mono (G := fun k => w24.heap.size ≤ k ∧ k < w25.heap.size) (fun k h1 h2 => ⟨by first | exact h2 | (have h3 : k = _ := h2; omega), h1⟩)
          have hohS116_hd20 : ∀ k, Od k → k < w24.heap.size ∨ w25.heap.size ≤ k := fun k h => .inl (hphd20 k h)
          have hohS116_hd54 : ∀ k, Oc k → k < w24.heap.size ∨ w25.heap.size ≤ k := fun k h => .inl (hphd54 k h)
          have hohS116_hd56 : ∀ k, Ox k → k < w24.heap.size ∨ w25.heap.size ≤ k := fun k h => .inl (hphd56 k h)
          refine wl_g (gd_ rfl rfl rfl rfl rfl rfl) rfl rfl (p_mv rfl) ?_
          refine wle_g (gd_ rfl rfl rfl rfl rfl rfl) (e_call ent19 rfl rfl (dirty_any hd56.at_ (Nat.le_trans (ord_le hd56.ok) hd56.hn)) ?_)
          rintro _ w26 ⟨A118, c118, l118, rfl, hl118, hW118, hc⟩
          refine ⟨_, rfl, ?_⟩
          have hzw26 := hc.size
          have HC := HC.tr hc
          have hm := hm.no hc
          have hphd20 := hd20.hi
          have hd20 := hd20.no hc
          have hphd54 := hd54.hi
          have hd54 := hd54.no hc
          have hphd56 := hd56.hi
          have hd56 := hd56.no hc
          have hS50 := hS50.no hc
          have hS72 := hS72.no hc
          have hS77 := hS77.no hc
          have hS82 := hS82.no hc
          have hS116 := hS116.no hc
          have hS118 := hW118.sl
          have hlb118 : l118 ≤ 4096 := by rw [hl118]; exact Nat.le_trans (ord_le hd56.ok) hd56.hn
          have hS118 := hS118.mono (G := fun k => w25.heap.size ≤ k ∧ k < w26.heap.size) (fun k h1 h2 => ⟨by first | exact h2 | (have h3 : k = _ := h2; omega), h1⟩)
          have hohS118_hd20 : ∀ k, Od k → k < w25.heap.size ∨ w26.heap.size ≤ k := fun k h => .inl (hphd20 k h)
          have hohS118_hd54 : ∀ k, Oc k → k < w25.heap.size ∨ w26.heap.size ≤ k := fun k h => .inl (hphd54 k h)
          have hohS118_hd56 : ∀ k, Ox k → k < w25.heap.size ∨ w26.heap.size ≤ k := fun k h => .inl (hphd56 k h)
          refine wle_g (gd_ rfl rfl rfl rfl rfl rfl) (e_call ent21 rfl rfl (ints_any (sl_nv hS116) (sl_nv hS118) (by omega)) ?_)
          rintro _ w27 ⟨rfl, hc⟩
          refine ⟨_, rfl, ?_⟩
          have hzw27 := hc.size
          have HC := HC.tr hc
          have hm := hm.no hc
          have hphd20 := hd20.hi
          have hd20 := hd20.no hc
          have hphd54 := hd54.hi
          have hd54 := hd54.no hc
          have hphd56 := hd56.hi
          have hd56 := hd56.no hc
          have hS50 := hS50.no hc
          have hS72 := hS72.no hc
          have hS77 := hS77.no hc
          have hS82 := hS82.no hc
          have hS116 := hS116.no hc
          have hS118 := hS118.no hc
          refine wl rfl rfl rfl (p_pickT rfl rfl) ?_
          refine wl rfl rfl rfl (p_mv rfl) ?_
          refine wl_know (d := 121) (b' := true) rfl (decide_eq_true rfl) ?_
          refine wle_g (gd_ rfl rfl rfl rfl rfl rfl) (e_call ent16 rfl rfl (lives5_any) ?_)
          rintro _ w28 ⟨rfl, hc⟩
          refine ⟨_, rfl, ?_⟩
          have hzw28 := hc.size
          have HC := HC.tr hc
          have hm := hm.no hc
          have hphd20 := hd20.hi
          have hd20 := hd20.no hc
          have hphd54 := hd54.hi
          have hd54 := hd54.no hc
          have hphd56 := hd56.hi
          have hd56 := hd56.no hc
          have hS50 := hS50.no hc
          have hS72 := hS72.no hc
          have hS77 := hS77.no hc
          have hS82 := hS82.no hc
          have hS116 := hS116.no hc
          have hS118 := hS118.no hc
          refine wl rfl rfl rfl (p_pickT rfl rfl) ?_
          refine wl rfl rfl rfl (p_as rfl) ?_
          refine wl_nil ?_
          refine x_seq ?_
          refine wc_ret ?_
          refine fin_run (res1 rfl rfl) ?_
          exact ⟨rfl, HC⟩
end Go.Proofs.Ytcgapjieidmkpaa
