/-
  Own text, printed by a program of mine (wip/gx): what functions of the program do, walked operation by operation.
-/
import Derived.Test.YtcgapjieidmkpaaProg
import Derived.Test.YtcgapjieidmkpaaGxAgg
import Derived.Test.YtcgapjieidmkpaaTab
import Derived.Test.YtcgapjieidmkpaaPlDisk
import Derived.Test.YtcgapjieidmkpaaPlDiskSt
import Derived.Test.YtcgapjieidmkpaaPlDiskOk
import Derived.Test.YtcgapjieidmkpaaPlDiskC
import Derived.Test.YtcgapjieidmkpaaPlActD
import Derived.Test.YtcgapjieidmkpaaPlActs
import Derived.Test.YtcgapjieidmkpaaPlDiskLaw
import Derived.Test.YtcgapjieidmkpaaDTb
import Derived.Test.YtcgapjieidmkpaaDX
import Derived.Test.YtcgapjieidmkpaaW0
import Derived.Test.YtcgapjieidmkpaaW2
set_option linter.unusedVariables false
namespace Go.Proofs.Ytcgapjieidmkpaa
open Go.RowKit Go.Gx
open Go.Plain
set_option maxHeartbeats 8000000 in
set_option maxRecDepth 20000 in
theorem diskDirty_walk {w : World} {Aq : Option Addr} {lq cq : Nat} {Fq : Nat → Prop} {q : List ActD} (hq : SA w Fq Aq lq cq q) (hcq : cq ≤ 1954687338211) :
    Calls Try.prog 6 #[.slice Aq lq cq] w fun e w' => e = .returned (.bool true) ∧ Ch No w w' := by
  have hql := hq.len
  have hqc := hq.cap
  have hq := hq.old
  have HC : Ch No w w := Ch.refl _ _
  refine enter' (args := [.slice Aq lq cq]) (n := 84) Try.func6 rfl rfl rfl ?_
  refine wc_seq ?_
  refine wc_region ?_
  refine wl rfl rfl rfl (p_as rfl) ?_
  refine wl_nil ?_
  refine x_seq ?_
  refine wc_seq ?_
  refine wc_region ?_
  refine wle rfl (e_call ent10 rfl rfl (new_any (n := 10) (by omega) (by omega)) ?_)
  rintro _ w1 ⟨g12, rfl, hg12, hdk, hc⟩
  refine ⟨_, rfl, ?_⟩
  have hzw1 := hc.size
  have HC := HC.tr hc
  have hq := hq.no hc
  obtain ⟨O12, hd12, hOl12⟩ := CD.first (w0 := w) hdk (newD_ok _) (by omega) (Nat.zero_le _) (by omega)
  refine wl rfl rfl rfl (p_as rfl) ?_
  refine wl_nil ?_
  refine x_seq ?_
  refine wc_seq ?_
  refine wc_seq ?_
  refine wc_region ?_
  refine wl rfl rfl rfl (p_mv rfl) ?_
  refine wl rfl rfl rfl (p_eqPN rfl rfl Try.underlying23) ?_
  refine wl rfl rfl rfl (p_mv rfl) ?_
  refine wl_g (gd_ rfl rfl rfl rfl rfl rfl) rfl rfl (p_mv rfl) ?_
  refine wle_g (gd_ rfl rfl rfl rfl rfl rfl) (e_call ent17 rfl rfl (light_any hq (by omega)) ?_)
  rintro _ w2 ⟨y17, rfl, hc⟩
  refine ⟨_, rfl, ?_⟩
  have hzw2 := hc.size
  have HC := HC.tr hc
  have hq := hq.no hc
  have hphd12 := hd12.hi
  have hd12 := hd12.no hc
  refine wl_g (gd_ rfl rfl rfl rfl rfl rfl) rfl rfl (p_not rfl) ?_
  refine wl rfl rfl rfl (p_pickF rfl rfl) ?_
  refine wl_nil ?_
  refine x_seq ?_
  refine wc_if rfl (fun c0 => ?_) (fun c0 => ?_)
  ·
    refine wc_seq ?_
    refine wc_region ?_
    refine wl rfl rfl rfl (p_mv rfl) ?_
    refine wl rfl rfl rfl (p_nePN rfl rfl Try.underlying23) ?_
    refine wl rfl rfl rfl (p_mv rfl) ?_
    refine wle_g (gd_ rfl rfl rfl rfl rfl rfl) (e_call ent16 rfl rfl (lives5_any) ?_)
    rintro _ w3 ⟨rfl, hc⟩
    refine ⟨_, rfl, ?_⟩
    have hzw3 := hc.size
    have HC := HC.tr hc
    have hq := hq.no hc
    have hphd12 := hd12.hi
    have hd12 := hd12.no hc
    refine wl rfl rfl rfl (p_pickT rfl rfl) ?_
    refine wl rfl rfl rfl (p_as rfl) ?_
    refine wl_nil ?_
    refine x_seq ?_
    refine wc_ret ?_
    refine x_then_ret ?_
    refine fin_run (res1 rfl rfl) ?_
    exact ⟨rfl, HC⟩
  ·
    refine wc_skip ?_
    refine x_seq ?_
    refine wc_seq ?_
    refine wc_region ?_
    refine wl rfl rfl rfl (p_as rfl) ?_
    refine wl_nil ?_
    refine x_seq ?_
    refine wc_seq ?_
    refine wc_seq ?_
    refine wc_region ?_
    have hw := CR.nil w w2 3
    have aphd12_hw : ∀ k, O12 k → ¬ (fun _ : Nat => False) k := fun k _ h => h
    refine wl rfl rfl rfl (p_mv rfl) ?_
    refine wl rfl rfl rfl (p_lenS Try.underlying34 rfl) ?_
    refine wl rfl rfl rfl (p_mv rfl) ?_
    refine wl_nil ?_
    refine x_seq ?_
    refine wc_block ?_
    refine wc_loop (e' := [(0, .slice Aq lq cq), (2, .bool false), (3, .pointer (some ⟨g12, 0, none⟩)), (4, .slice (none) (0) (0)), (25, .slice Aq lq cq), (26, i64 (lq : Int)), (27, i64 ((0) : Int))]) (fun mz ez uz => ∃ i : Nat, ∃ O : Nat → Prop, ∃ dd : DS, ∃ A : Option Addr, ∃ lo : Nat, ∃ c : Nat, ∃ G : Nat → Prop, mz = lq - i ∧ ez = [(0, .slice Aq lq cq), (2, .bool false), (3, .pointer (some ⟨g12, 0, none⟩)), (4, .slice A lo c), (25, .slice Aq lq cq), (26, i64 (lq : Int)), (27, i64 (i : Int))] ∧ (i ≤ lq) ∧ (CD TD w uz O g12 10 dd) ∧ (CalmD dd 10) ∧ (CR w uz G 3 (.slice A lo c) lo (dd.ord.map nv)) ∧ (lo = dd.ord.length) ∧ (∀ k, O k → ¬ G k) ∧ (SA uz (fun k => k < w.heap.size) Aq lq cq q) ∧ (Ch No w uz))
      ⟨rfl, rfl, rfl, rfl, rfl, rfl, rfl, trivial⟩ ⟨0, O12, newD 10, none, 0, 0, _, rfl, rfl, by omega, hd12, calm_new 10, hw, rfl, aphd12_hw, hq, HC⟩ ?_
    rintro m0 e w4 ⟨i, O, dd, A, lo, c, G, hm0, rfl, hi, hd12, hcalm, hw, hlo, aphd12_hw, hq, HC⟩
    have hzw4 := HC.size
    subst hlo
    refine wc_seq ?_
    refine wc_region ?_
    refine wl rfl rfl rfl (p_lt rfl rfl) ?_
    refine wl_nil ?_
    refine x_seq ?_
    refine wc_seq ?_
    refine wc_if rfl (fun c1 => ?_) (fun c1 => ?_)
    ·
      have c1 := of_decide_eq_true c1
      refine wc_skip ?_
      refine x_seq ?_
      refine wc_seq ?_
      refine wc_block ?_
      refine wc_seq ?_
      refine wc_region ?_
      obtain ⟨a29, ha29, b29, o29, bA29, bl29, bc29, kA29, kl29, kc29, hA29, hr29, hB29, hK29, hbz29, hkz29, h1a29, h2a29, h1n29, h2n29⟩ := hq.opn5 (i := i) (by omega)
      have hBl29 := hB29.len
      have hBc29 := hB29.cap
      have hKl29 := hK29.len
      have hKc29 := hK29.cap
      refine wl rfl rfl rfl (p_ixS (j := i * 5) Try.underlying34 sz37 rfl hA29 rfl (by omega) (by omega) (congrArg (· * 5) (Int.toNat_natCast _))) ?_
      refine wl rfl rfl rfl (p_ldA (cs := [i64 a29.kind, i64 a29.a, i64 a29.n, .slice bA29 bl29 bc29, .slice kA29 kl29 kc29]) Try.underlying37 rfl sz37 rfl (fun _ e => e ▸ hr29)) ?_
      refine wle rfl (e_alloc (cs := #[.int .i64 0, .int .i64 0, .int .i64 0, .slice none 0 0, .slice none 0 0]) rfl (by rfl) rfl (fun w6 g6 hg6 hb6 hc hsz6 => ?_))
      have hzw6 := hc.size
      have HC := HC.tr hc
      have hq := hq.no hc
      have hphd12 := hd12.hi
      have hd12 := hd12.no hc
      have hphw := hw.hi
      have hw := hw.no hc
      have hB29 := hB29.no hc
      have hK29 := hK29.no hc
      have hohb6_hd12 : ∀ k, O k → k ≠ g6 := fun k h e => by have := hphd12 k h; omega
      have hohb6_hw : ∀ k, G k → k ≠ g6 := fun k h e => by have := hphw k h; omega
      have hge6 : w.heap.size ≤ g6 := by have := HC.size; omega
      refine wle rfl (e_stW (vs := [i64 a29.kind, i64 a29.a, i64 a29.n, .slice bA29 bl29 bc29, .slice kA29 kl29 kc29]) sz37 (allOne rfl) rfl rfl hb6 (by rfl) (fun w7 hb6 hc hsz => ?_))
      have hzw7 := hc.size
      have HC := HC.trans hc (fun _ _ h => h) (fun k hk ht => absurd ht (by omega))
      have hq := hq.ch hc (by intro k hk ht; have h2 : k < w.heap.size := hk; first | omega | (dsimp only at *; omega))
      have hd12 := hd12.other hc (fun k hk ht => by have h1 := hohb6_hd12 k hk; have h2 : k = g6 := ht; omega)
      have hw := hw.other hc (fun k hk ht => by have h1 := hohb6_hw k hk; have h2 : k = g6 := ht; omega)
      first | have hB29 := hB29.ch hc (by intro k hk ht; first | omega | (dsimp only at *; omega)) | have hB29 := hB29.chT hc (by intro k hz hk ht; first | omega | (dsimp only at *; omega))
      first | have hK29 := hK29.ch hc (by intro k hk ht; first | omega | (dsimp only at *; omega)) | have hK29 := hK29.chT hc (by intro k hz hk ht; first | omega | (dsimp only at *; omega))
      refine wl_nil ?_
      refine x_seq ?_
      refine wc_seq ?_
      refine wc_seq ?_
      refine wc_region ?_
      refine wl rfl rfl rfl (p_fld (j := 0) Try.underlying37 rfl ⟨_, by rfl⟩ rfl rfl) ?_
      refine wl rfl rfl rfl (p_ld Try.underlying3 rfl rfl (ld (hb6.cell rfl))) ?_
      refine wl_nil ?_
      refine x_seq ?_
      refine wc_block ?_
      refine wc_seq ?_
      refine wc_region ?_
      refine wl rfl rfl rfl (p_eq rfl rfl) ?_
      refine wl rfl rfl rfl (p_as rfl) ?_
      refine wl_nil ?_
      refine x_seq ?_
      refine wc_if rfl (fun c2 => ?_) (fun c2 => ?_)
      ·
        have c2 := of_decide_eq_true c2
        refine wc_seq ?_
        refine wc_seq ?_
        refine wc_region ?_
        refine wl rfl rfl rfl (p_mv rfl) ?_
        refine wl rfl rfl rfl (p_fld (j := 1) Try.underlying37 rfl ⟨_, by rfl⟩ rfl rfl) ?_
        refine wl rfl rfl rfl (p_ld Try.underlying3 rfl rfl (ld (hb6.cell rfl))) ?_
        refine wl rfl rfl rfl (p_fld (j := 3) Try.underlying37 rfl ⟨_, by rfl⟩ rfl rfl) ?_
        refine wl rfl rfl rfl (p_ld Try.underlying29 rfl rfl (ld (hb6.cell rfl))) ?_
        have hd0 := hd12
        refine wle rfl (e_call ent12 rfl rfl (write_any hd12.at_ hd12.ok hd12.hn (fun _ h => .inr h) hd12.arm (by omega) (by omega) (hB29) (fun k hk => (fun hf => hf.elim (fun h => by have h1 := hd12.lo k h; have h2 : k < w.heap.size := hk; omega) (fun h => by have h2 : k < w.heap.size := hk; omega))) (by omega)) ?_)
        rintro _ w8 ⟨rfl, hdk, hc⟩
        refine ⟨_, rfl, ?_⟩
        obtain ⟨O40, hdn, hO40, hc⟩ := hd12.next hdk hc (wr_ok hd12.ok _ _) (Nat.le_trans (wr_arm _ _) hd12.arm) (by omega)
        have hzw8 := hc.size
        have HC := HC.trans hc (fun _ _ h => h) (fun k hk ht => absurd hk (by have := hd12.lo k ht; omega))
        have hq := hq.ch hc (fun k hk ht => by have h1 := hd12.lo k ht; have h2 : k < w.heap.size := hk; omega)
        have hphw := hw.hi
        have hw := hw.other hc (fun k hk ht => aphd12_hw k ht hk)
        have hB29 := hB29.ch hc (fun k hk ht => by have h1 := hd12.lo k ht; have h2 : k < w.heap.size := hk; omega)
        have hK29 := hK29.ch hc (fun k hk ht => by have h1 := hd12.lo k ht; have h2 : k < w.heap.size := hk; omega)
        have hltg6 := hb6.lt
        have hb6 := hb6.ch hc (fun ht => hohb6_hd12 _ ht rfl)
        have aphd12_hw : ∀ k, O40 k → ¬ G k := fun k h1 h2 => (hO40 k h1).elim (fun h => aphd12_hw k h h2) (fun h => by have := hphw k h2; omega)
        have hohb6_hd12 : ∀ k, O40 k → k ≠ g6 := fun k h => (hO40 k h).elim (hohb6_hd12 k) (fun h => by omega)
        have hd12 := hdn
        have h0f := hcalm.wr0 (a := a29.a) (b := a29.b)
        have h0 := h0f
        unfold fits at h0
        have hol := ord_le hd0.ok
        refine wl rfl rfl rfl (p_ne rfl rfl) ?_
        refine wl_nil ?_
        refine x_seq ?_
        refine wc_if rfl (fun c3 => ?_) (fun c3 => ?_)
        ·
          have c3 := of_decide_eq_true c3
          have hno := (hcalm.wrno (fun h => c3 (h0f.2 h))).2
          rw [hno] at hd12
          refine wc_exit ?_
          refine x_then_exit ?_
          refine x_in_on rfl ?_
          refine x_then_exit ?_
          refine x_in_here ?_
          refine x_seq ?_
          refine wc_region ?_
          refine wl rfl rfl rfl (p_add rfl rfl (w64 (by omega))) ?_
          refine wl rfl rfl rfl (p_mv rfl) ?_
          refine wl_nil ?_
          refine x_round (e' := [(0, .slice Aq lq cq), (2, .bool false), (3, .pointer (some ⟨g12, 0, none⟩)), (4, .slice (_) (_) (_)), (25, .slice Aq lq cq), (26, i64 (lq : Int)), (27, i64 ((i + 1) : Int))]) ⟨rfl, rfl, rfl, rfl, rfl, rfl, rfl, trivial⟩ (by rw [hm0]; omega) ⟨i + 1, _, _, _, _, _, _, rfl, rfl, by omega, hd12, hcalm, by first | exact hw | (rw [ho76]; exact hw), by first | rfl | (rw [ho76]; rfl), aphd12_hw, hq, HC⟩
        ·
          have c3 := of_decide_eq_false c3
          have c3 := Decidable.not_not.1 c3
          have hwr := hcalm.wr (h0f.1 c3)
          obtain ⟨x, hx⟩ := Int.eq_ofNat_of_zero_le (show 0 ≤ a29.a by omega)
          obtain ⟨d40, hd40⟩ : ∃ z, z = (wrS 10 dd a29.a a29.b).2 := ⟨_, rfl⟩
          rw [← hd40] at hd12 hwr
          have hcalm := hwr.2.2.2.2
          have hto := hwr.2.2.1
          rw [hx, Int.toNat_natCast, hBl29] at hto
          refine wc_skip ?_
          refine x_seq ?_
          refine wc_seq ?_
          refine wc_region ?_
          refine wl rfl rfl rfl (p_fld (j := 3) Try.underlying37 rfl ⟨_, by rfl⟩ rfl rfl) ?_
          refine wl rfl rfl rfl (p_ld Try.underlying29 rfl rfl (ld (hb6.cell rfl))) ?_
          refine wl rfl rfl rfl (p_lenS Try.underlying29 rfl) ?_
          refine wl rfl rfl rfl (p_mv rfl) ?_
          refine wl_nil ?_
          refine x_seq ?_
          refine wc_block ?_
          refine wc_loop (e' := [(0, .slice Aq lq cq), (2, .bool false), (3, .pointer (some ⟨g12, 0, none⟩)), (4, .slice (A) (touch dd.ord (x / 32) (cnt x (0))).length (c)), (6, .pointer (some ⟨g6, 0, none⟩)), (25, .slice Aq lq cq), (26, i64 (lq : Int)), (27, i64 (i : Int)), (43, .slice bA29 bl29 bc29), (44, i64 (bl29 : Int)), (45, i64 ((0) : Int))]) (fun mz ez uz => ∃ j : Nat, ∃ A : Option Addr, ∃ c : Nat, ∃ G : Nat → Prop, mz = bl29 - j ∧ ez = [(0, .slice Aq lq cq), (2, .bool false), (3, .pointer (some ⟨g12, 0, none⟩)), (4, .slice A (touch dd.ord (x / 32) (cnt x j)).length c), (6, .pointer (some ⟨g6, 0, none⟩)), (25, .slice Aq lq cq), (26, i64 (lq : Int)), (27, i64 (i : Int)), (43, .slice bA29 bl29 bc29), (44, i64 (bl29 : Int)), (45, i64 (j : Int))] ∧ (j ≤ bl29) ∧ (CD TD w uz O40 g12 10 d40) ∧ (CR w uz G 3 (.slice A (touch dd.ord (x / 32) (cnt x j)).length c) (touch dd.ord (x / 32) (cnt x j)).length ((touch dd.ord (x / 32) (cnt x j)).map nv)) ∧ (∀ k, O40 k → ¬ G k) ∧ (Blk uz g6 37 #[i64 a29.kind, i64 a29.a, i64 a29.n, .slice bA29 bl29 bc29, .slice kA29 kl29 kc29]) ∧ (∀ k, O40 k → k ≠ g6) ∧ (∀ k, G k → k ≠ g6) ∧ (SA uz (fun k => k < w.heap.size) Aq lq cq q) ∧ (Sl uz (fun k => k < w.heap.size) u8v bA29 bl29 bc29 a29.b) ∧ (Ch No w uz))
            ⟨rfl, rfl, rfl, rfl, rfl, rfl, rfl, rfl, rfl, rfl, rfl, trivial⟩ ⟨0, A, c, G, rfl, rfl, by omega, hd12, hw, aphd12_hw, hb6, hohb6_hd12, hohb6_hw, hq, hB29, HC⟩ ?_
          rintro m1 e w9 ⟨j, A, c, G, hm1, rfl, hj, hd12, hw, aphd12_hw, hb6, hohb6_hd12, hohb6_hw, hq, hB29, HC⟩
          have hzw9 := HC.size
          refine wc_seq ?_
          refine wc_region ?_
          refine wl rfl rfl rfl (p_lt rfl rfl) ?_
          refine wl_nil ?_
          refine x_seq ?_
          refine wc_seq ?_
          refine wc_if rfl (fun c4 => ?_) (fun c4 => ?_)
          ·
            have c4 := of_decide_eq_true c4
            refine wc_skip ?_
            refine x_seq ?_
            refine wc_seq ?_
            refine wc_block ?_
            refine wc_seq ?_
            refine wc_region ?_
            refine wl rfl rfl rfl (p_mv rfl) ?_
            refine wl rfl rfl rfl (p_as rfl) ?_
            refine wl_nil ?_
            refine x_seq ?_
            refine wc_seq ?_
            refine wc_region ?_
            refine wl rfl rfl rfl (p_fld (j := 1) Try.underlying37 rfl ⟨_, by rfl⟩ rfl rfl) ?_
            refine wl rfl rfl rfl ((p_ld Try.underlying3 rfl rfl (ld (hb6.cell rfl))).to (congrArg i64 hx)) ?_
            refine wl rfl rfl rfl (p_mv rfl) ?_
            refine wl rfl rfl rfl (p_add (Z := ((x + j : Nat) : Int)) rfl rfl (by rw [w64 (by omega)]; omega)) ?_
            refine wl rfl rfl rfl (p_quo (Z := ((((x + j) / 32) : Nat) : Int)) rfl rfl (by omega) (by rw [show ((x + j : Nat) : Int).tdiv 32 = ((((x + j) / 32) : Nat) : Int) from rfl, w64 (by omega)])) ?_
            refine wl rfl rfl rfl (p_as rfl) ?_
            refine wl_nil ?_
            refine x_seq ?_
            refine wc_seq ?_
            refine wc_region ?_
            refine wl rfl rfl rfl (p_as rfl) ?_
            refine wl_nil ?_
            refine x_seq ?_
            refine wc_seq ?_
            refine wc_seq ?_
            refine wc_region ?_
            refine wl rfl rfl rfl (p_mv rfl) ?_
            refine wl rfl rfl rfl (p_lenS Try.underlying26 rfl) ?_
            refine wl rfl rfl rfl (p_mv rfl) ?_
            refine wl_nil ?_
            refine x_seq ?_
            refine wc_block ?_
            refine wc_loop (e' := [(0, .slice Aq lq cq), (2, .bool false), (3, .pointer (some ⟨g12, 0, none⟩)), (4, .slice A (touch dd.ord (x / 32) (cnt x j)).length c), (6, .pointer (some ⟨g6, 0, none⟩)), (7, i64 (j : Int)), (8, nv ((x + j) / 32)), (9, .bool (false)), (25, .slice Aq lq cq), (26, i64 (lq : Int)), (27, i64 (i : Int)), (43, .slice bA29 bl29 bc29), (44, i64 (bl29 : Int)), (45, i64 (j : Int)), (53, .slice A (touch dd.ord (x / 32) (cnt x j)).length c), (54, i64 (((touch dd.ord (x / 32) (cnt x j)).length : Nat) : Int)), (55, i64 ((0) : Int))]) (fun mz ez uz => ∃ m : Nat, ∃ hs : Bool, mz = (touch dd.ord (x / 32) (cnt x j)).length - m ∧ ez = [(0, .slice Aq lq cq), (2, .bool false), (3, .pointer (some ⟨g12, 0, none⟩)), (4, .slice A (touch dd.ord (x / 32) (cnt x j)).length c), (6, .pointer (some ⟨g6, 0, none⟩)), (7, i64 (j : Int)), (8, nv ((x + j) / 32)), (9, .bool hs), (25, .slice Aq lq cq), (26, i64 (lq : Int)), (27, i64 (i : Int)), (43, .slice bA29 bl29 bc29), (44, i64 (bl29 : Int)), (45, i64 (j : Int)), (53, .slice A (touch dd.ord (x / 32) (cnt x j)).length c), (54, i64 (((touch dd.ord (x / 32) (cnt x j)).length : Nat) : Int)), (55, i64 (m : Int))] ∧ (m ≤ (touch dd.ord (x / 32) (cnt x j)).length) ∧ (hs = true ↔ ((x + j) / 32) ∈ (touch dd.ord (x / 32) (cnt x j)).take m) ∧ (CD TD w uz O40 g12 10 d40) ∧ (CR w uz G 3 (.slice A (touch dd.ord (x / 32) (cnt x j)).length c) (touch dd.ord (x / 32) (cnt x j)).length ((touch dd.ord (x / 32) (cnt x j)).map nv)) ∧ (∀ k, O40 k → ¬ G k) ∧ (Blk uz g6 37 #[i64 a29.kind, i64 a29.a, i64 a29.n, .slice bA29 bl29 bc29, .slice kA29 kl29 kc29]) ∧ (∀ k, O40 k → k ≠ g6) ∧ (∀ k, G k → k ≠ g6) ∧ (SA uz (fun k => k < w.heap.size) Aq lq cq q) ∧ (Sl uz (fun k => k < w.heap.size) u8v bA29 bl29 bc29 a29.b) ∧ (Ch No w uz))
              ⟨rfl, rfl, rfl, rfl, rfl, rfl, rfl, rfl, rfl, rfl, rfl, rfl, rfl, rfl, rfl, rfl, rfl, trivial⟩ ⟨0, false, rfl, rfl, by omega, by simp, hd12, hw, aphd12_hw, hb6, hohb6_hd12, hohb6_hw, hq, hB29, HC⟩ ?_
            rintro m2 e w10 ⟨m, hs, hm2, rfl, hm, hhs, hd12, hw, aphd12_hw, hb6, hohb6_hd12, hohb6_hw, hq, hB29, HC⟩
            have hzw10 := HC.size
            have htl := touch_len (ord := dd.ord) (i := x / 32) (m := cnt x j)
            have hcl := cnt_le x j
            refine wc_seq ?_
            refine wc_region ?_
            refine wl rfl rfl rfl (p_lt rfl rfl) ?_
            refine wl_nil ?_
            refine x_seq ?_
            refine wc_seq ?_
            refine wc_if rfl (fun c5 => ?_) (fun c5 => ?_)
            ·
              have c5 := of_decide_eq_true c5
              have hmn := mem_take_next (l := (touch dd.ord (x / 32) (cnt x j))) (m := m) (s := ((x + j) / 32)) (by omega)
              refine wc_skip ?_
              refine x_seq ?_
              refine wc_seq ?_
              refine wc_block ?_
              refine wc_seq ?_
              refine wc_region ?_
              obtain ⟨b11, o11, hA11, hF11, hc11⟩ := (hw.at_.sl).opn (d := 0) (by omega)
              refine wl rfl rfl rfl (p_ixS1 Try.underlying26 sz3 rfl hA11 rfl (by omega) (by omega) (Int.toNat_natCast _)) ?_
              refine wl rfl rfl rfl (p_ld Try.underlying3 rfl rfl (ld (hc11 _ (by omega)))) ?_
              refine wl rfl rfl rfl (p_as rfl) ?_
              refine wl_nil ?_
              refine x_seq ?_
              refine wc_region ?_
              refine wl rfl rfl rfl (p_mv rfl) ?_
              refine wl rfl rfl rfl (p_mv rfl) ?_
              refine wl_split (d := 60) rfl (fun q60 => ?_) (fun q60 => ?_)
              ·
                refine wl_s (gd_ rfl rfl rfl rfl rfl rfl) rfl rfl ?_
                refine wl_s (gd_ rfl rfl rfl rfl rfl rfl) rfl rfl ?_
                refine wl_s (gd_ rfl rfl rfl rfl rfl rfl) rfl rfl ?_
                refine wl rfl rfl rfl (p_pickT rfl rfl) ?_
                refine wl rfl rfl rfl (p_as rfl) ?_
                refine wl_nil ?_
                refine x_in_normal ?_
                refine x_seq ?_
                refine wc_region ?_
                refine wl rfl rfl rfl (p_add rfl rfl (w64 (by omega))) ?_
                refine wl rfl rfl rfl (p_mv rfl) ?_
                refine wl_nil ?_
                refine x_round (e' := [(0, .slice Aq lq cq), (2, .bool false), (3, .pointer (some ⟨g12, 0, none⟩)), (4, .slice A (touch dd.ord (x / 32) (cnt x j)).length c), (6, .pointer (some ⟨g6, 0, none⟩)), (7, i64 (j : Int)), (8, nv ((x + j) / 32)), (9, .bool (_)), (25, .slice Aq lq cq), (26, i64 (lq : Int)), (27, i64 (i : Int)), (43, .slice bA29 bl29 bc29), (44, i64 (bl29 : Int)), (45, i64 (j : Int)), (53, .slice A (touch dd.ord (x / 32) (cnt x j)).length c), (54, i64 (((touch dd.ord (x / 32) (cnt x j)).length : Nat) : Int)), (55, i64 ((m + 1) : Int))]) ⟨rfl, rfl, rfl, rfl, rfl, rfl, rfl, rfl, rfl, rfl, rfl, rfl, rfl, rfl, rfl, rfl, rfl, trivial⟩ (by rw [hm2]; omega) ⟨m + 1, _, rfl, rfl, by omega, by rw [hmn]; first | exact ⟨fun _ => .inl (hhs.1 q60), fun _ => rfl⟩ | exact ⟨fun h => .inr (by have h := of_decide_eq_true h; omega), fun h => decide_eq_true (by have := h.resolve_left (fun h => by rw [hhs.2 h] at q60; cases q60); omega)⟩, hd12, hw, aphd12_hw, hb6, hohb6_hd12, hohb6_hw, hq, hB29, HC⟩
              ·
                refine wl_g (gd_ rfl rfl rfl rfl rfl rfl) rfl rfl (p_mv rfl) ?_
                refine wl_g (gd_ rfl rfl rfl rfl rfl rfl) rfl rfl (p_mv rfl) ?_
                refine wl_g (gd_ rfl rfl rfl rfl rfl rfl) rfl rfl (p_eq rfl rfl) ?_
                refine wl rfl rfl rfl (p_pickF rfl rfl) ?_
                refine wl rfl rfl rfl (p_as rfl) ?_
                refine wl_nil ?_
                refine x_in_normal ?_
                refine x_seq ?_
                refine wc_region ?_
                refine wl rfl rfl rfl (p_add rfl rfl (w64 (by omega))) ?_
                refine wl rfl rfl rfl (p_mv rfl) ?_
                refine wl_nil ?_
                refine x_round (e' := [(0, .slice Aq lq cq), (2, .bool false), (3, .pointer (some ⟨g12, 0, none⟩)), (4, .slice A (touch dd.ord (x / 32) (cnt x j)).length c), (6, .pointer (some ⟨g6, 0, none⟩)), (7, i64 (j : Int)), (8, nv ((x + j) / 32)), (9, .bool (_)), (25, .slice Aq lq cq), (26, i64 (lq : Int)), (27, i64 (i : Int)), (43, .slice bA29 bl29 bc29), (44, i64 (bl29 : Int)), (45, i64 (j : Int)), (53, .slice A (touch dd.ord (x / 32) (cnt x j)).length c), (54, i64 (((touch dd.ord (x / 32) (cnt x j)).length : Nat) : Int)), (55, i64 ((m + 1) : Int))]) ⟨rfl, rfl, rfl, rfl, rfl, rfl, rfl, rfl, rfl, rfl, rfl, rfl, rfl, rfl, rfl, rfl, rfl, trivial⟩ (by rw [hm2]; omega) ⟨m + 1, _, rfl, rfl, by omega, by rw [hmn]; first | exact ⟨fun _ => .inl (hhs.1 q60), fun _ => rfl⟩ | exact ⟨fun h => .inr (by have h := of_decide_eq_true h; omega), fun h => decide_eq_true (by have := h.resolve_left (fun h => by rw [hhs.2 h] at q60; cases q60); omega)⟩, hd12, hw, aphd12_hw, hb6, hohb6_hd12, hohb6_hw, hq, hB29, HC⟩
            ·
              have c5 := of_decide_eq_false c5
              have hmt : (touch dd.ord (x / 32) (cnt x j)).take m = (touch dd.ord (x / 32) (cnt x j)) := List.take_of_length_le (by omega)
              refine wc_exit ?_
              refine x_then_exit ?_
              refine x_then_exit ?_
              refine x_in_here ?_
              refine x_seq ?_
              refine wc_seq ?_
              refine wc_region ?_
              refine wl rfl rfl rfl (p_mv rfl) ?_
              refine wl rfl rfl rfl (p_not rfl) ?_
              refine wl_nil ?_
              refine x_seq ?_
              refine wc_if rfl (fun c6 => ?_) (fun c6 => ?_)
              ·
                have hnin : ((x + j) / 32) ∉ (touch dd.ord (x / 32) (cnt x j)) := fun h => by rw [hhs.2 (by rw [hmt]; exact h)] at c6; cases c6
                have htb := touch_byte (ord := dd.ord) (a := x) (i := j)
                rw [if_neg hnin] at htb
                refine wc_region ?_
                refine wl rfl rfl rfl (p_mv rfl) ?_
                refine wl rfl rfl rfl (p_mv rfl) ?_
                have hltg6 := hb6.lt
                refine wle rfl (e_bslV (E := 3) rfl rfl (fun _ => by kernel_rfl) (fun w12 g70 hg70 hb70 hc hsz70 => ?_))
                have hzw12 := hc.size
                have HC := HC.tr hc
                have hq := hq.no hc
                have hphd12 := hd12.hi
                have hd12 := hd12.no hc
                have hphw := hw.hi
                have hw := hw.no hc
                have hb6 := hb6.ch hc (fun h => h)
                have hB29 := hB29.no hc
                have hge70 : w.heap.size ≤ g70 := by have := HC.size; omega
                have hS70 := Sl.lit1 (f := i64) hb70
                have hS70 := hS70.mono (G := fun k => w10.heap.size ≤ k ∧ k < w12.heap.size) (fun k h1 h2 => ⟨by first | exact h2 | (have h3 : k = _ := h2; omega), h1⟩)
                have hohS70_hd12 : ∀ k, O40 k → k < w10.heap.size ∨ w12.heap.size ≤ k := fun k h => .inl (hphd12 k h)
                have hohS70_hw : ∀ k, G k → k < w10.heap.size ∨ w12.heap.size ≤ k := fun k h => .inl (hphw k h)
                have hltg6 := hb6.lt
                refine wle rfl (e_appS rfl el26 (fun _ => rfl) rfl rfl hw.at_ (sl_one hS70) (by have := touch_len (ord := dd.ord) (i := x / 32) (m := cnt x j); have := cnt_le x j; omega) (fun _ h => .inr h) (fun w13 A71 c71 hw71 hc => ?_))
                obtain ⟨G71, hdn, hG71, hc⟩ := hw.next hw71 hc (by omega)
                have hzw13 := hc.size
                have HC := HC.trans hc (fun _ _ h => h) (fun k hk ht => absurd hk (by have := hw.lo k ht; omega))
                have hq := hq.ch hc (fun k hk ht => by have h1 := hw.lo k ht; have h2 : k < w.heap.size := hk; omega)
                have hphd12 := hd12.hi
                have hd12 := hd12.other hc (fun k hk ht => (fun k h1 h2 => aphd12_hw k h2 h1) k ht hk)
                have hltg6 := hb6.lt
                have hb6 := hb6.ch hc (fun ht => hohb6_hw _ ht rfl)
                have hB29 := hB29.ch hc (fun k hk ht => by have h1 := hw.lo k ht; have h2 : k < w.heap.size := hk; omega)
                have hS70 := hS70.ch hc (fun k hk ht => by have h1 := hohS70_hw k ht; have h2 : w10.heap.size ≤ k ∧ k < w12.heap.size := hk; omega)
                have aphd12_hw : ∀ k, O40 k → ¬ G71 k := fun k h1 h2 => (hG71 k h2).elim (fun h => aphd12_hw k h1 h) (fun h => by have := hphd12 k h1; omega)
                have hohb6_hw : ∀ k, G71 k → k ≠ g6 := fun k h => (hG71 k h).elim (hohb6_hw k) (fun h => by omega)
                have hohS70_hw : ∀ k, G71 k → k < w10.heap.size ∨ w12.heap.size ≤ k := fun k h => (hG71 k h).elim (hohS70_hw k) (fun h => .inr (by omega))
                have hw := hdn
                refine wl rfl rfl rfl (p_as rfl) ?_
                refine wl_nil ?_
                refine x_in_normal ?_
                refine x_seq ?_
                refine wc_region ?_
                refine wl rfl rfl rfl (p_add rfl rfl (w64 (by omega))) ?_
                refine wl rfl rfl rfl (p_mv rfl) ?_
                refine wl_nil ?_
                refine x_round (e' := [(0, .slice Aq lq cq), (2, .bool false), (3, .pointer (some ⟨g12, 0, none⟩)), (4, .slice (_) (touch dd.ord (x / 32) (cnt x (j + 1))).length (_)), (6, .pointer (some ⟨g6, 0, none⟩)), (25, .slice Aq lq cq), (26, i64 (lq : Int)), (27, i64 (i : Int)), (43, .slice bA29 bl29 bc29), (44, i64 (bl29 : Int)), (45, i64 ((j + 1) : Int))]) ⟨rfl, rfl, rfl, (by rw [htb]; first | rfl | (rw [List.length_append]; rfl)), rfl, rfl, rfl, rfl, rfl, rfl, rfl, trivial⟩ (by rw [hm1]; omega) ⟨j + 1, _, _, _, rfl, rfl, by omega, hd12, by rw [htb]; first | exact hw | (rw [List.length_append]; exact hw), aphd12_hw, hb6, hohb6_hd12, hohb6_hw, hq, hB29, HC⟩
              ·
                have hin : ((x + j) / 32) ∈ (touch dd.ord (x / 32) (cnt x j)) := by rw [← hmt]; exact hhs.1 (by cases hs; cases c6; rfl)
                have htb := touch_byte (ord := dd.ord) (a := x) (i := j)
                rw [if_pos hin] at htb
                refine wc_skip ?_
                refine x_in_normal ?_
                refine x_seq ?_
                refine wc_region ?_
                refine wl rfl rfl rfl (p_add rfl rfl (w64 (by omega))) ?_
                refine wl rfl rfl rfl (p_mv rfl) ?_
                refine wl_nil ?_
                refine x_round (e' := [(0, .slice Aq lq cq), (2, .bool false), (3, .pointer (some ⟨g12, 0, none⟩)), (4, .slice (_) (touch dd.ord (x / 32) (cnt x (j + 1))).length (_)), (6, .pointer (some ⟨g6, 0, none⟩)), (25, .slice Aq lq cq), (26, i64 (lq : Int)), (27, i64 (i : Int)), (43, .slice bA29 bl29 bc29), (44, i64 (bl29 : Int)), (45, i64 ((j + 1) : Int))]) ⟨rfl, rfl, rfl, (by rw [htb]; first | rfl | (rw [List.length_append]; rfl)), rfl, rfl, rfl, rfl, rfl, rfl, rfl, trivial⟩ (by rw [hm1]; omega) ⟨j + 1, _, _, _, rfl, rfl, by omega, hd12, by rw [htb]; first | exact hw | (rw [List.length_append]; exact hw), aphd12_hw, hb6, hohb6_hd12, hohb6_hw, hq, hB29, HC⟩
          ·
            have c4 := of_decide_eq_false c4
            obtain rfl : j = bl29 := by omega
            rw [← hto] at hw ⊢
            refine wc_exit ?_
            refine x_then_exit ?_
            refine x_then_exit ?_
            refine x_in_here ?_
            refine x_in_normal ?_
            refine x_seq ?_
            refine wc_seq ?_
            refine wc_region ?_
            refine wl rfl rfl rfl (p_mv rfl) ?_
            refine wle rfl (e_call ent19 rfl rfl (dirty_any hd12.at_ (Nat.le_trans (ord_le hd12.ok) hd12.hn)) ?_)
            rintro _ w14 ⟨A78, c78, l78, rfl, hl78, hW78, hc⟩
            refine ⟨_, rfl, ?_⟩
            have hzw14 := hc.size
            have HC := HC.tr hc
            have hq := hq.no hc
            have hphd12 := hd12.hi
            have hd12 := hd12.no hc
            have hphw := hw.hi
            have hw := hw.no hc
            have hb6 := hb6.ch hc (fun h => h)
            have hB29 := hB29.no hc
            have hS78 := hW78.sl
            have hlb78 : l78 ≤ 4096 := by rw [hl78]; exact Nat.le_trans (ord_le hd12.ok) hd12.hn
            have hS78 := hS78.mono (G := fun k => w9.heap.size ≤ k ∧ k < w14.heap.size) (fun k h1 h2 => ⟨by first | exact h2 | (have h3 : k = _ := h2; omega), h1⟩)
            have hohS78_hd12 : ∀ k, O40 k → k < w9.heap.size ∨ w14.heap.size ≤ k := fun k h => .inl (hphd12 k h)
            have hohS78_hw : ∀ k, G k → k < w9.heap.size ∨ w14.heap.size ≤ k := fun k h => .inl (hphw k h)
            refine wl rfl rfl rfl (p_mv rfl) ?_
            refine wle rfl (e_call ent21 rfl rfl (ints_any (sl_nv hS78) (sl_nv hw.at_.sl) (by omega)) ?_)
            rintro _ w15 ⟨rfl, hc⟩
            refine ⟨_, rfl, ?_⟩
            have hzw15 := hc.size
            have HC := HC.tr hc
            have hq := hq.no hc
            have hphd12 := hd12.hi
            have hd12 := hd12.no hc
            have hphw := hw.hi
            have hw := hw.no hc
            have hb6 := hb6.ch hc (fun h => h)
            have hB29 := hB29.no hc
            have hS78 := hS78.no hc
            refine wl rfl rfl rfl (p_not rfl) ?_
            refine wl_nil ?_
            refine x_seq ?_
            refine wc_no rfl (nd (by first | rfl | (rw [ho76]; rfl))) ?_
            refine wc_skip ?_
            refine x_in_normal ?_
            refine x_seq ?_
            refine wc_region ?_
            refine wl rfl rfl rfl (p_add rfl rfl (w64 (by omega))) ?_
            refine wl rfl rfl rfl (p_mv rfl) ?_
            refine wl_nil ?_
            refine x_round (e' := [(0, .slice Aq lq cq), (2, .bool false), (3, .pointer (some ⟨g12, 0, none⟩)), (4, .slice (_) (_) (_)), (25, .slice Aq lq cq), (26, i64 (lq : Int)), (27, i64 ((i + 1) : Int))]) ⟨rfl, rfl, rfl, rfl, rfl, rfl, rfl, trivial⟩ (by rw [hm0]; omega) ⟨i + 1, _, _, _, _, _, _, rfl, rfl, by omega, hd12, hcalm, by first | exact hw | (rw [ho76]; exact hw), by first | rfl | (rw [ho76]; rfl), aphd12_hw, hq, HC⟩
      ·
        have c2 := of_decide_eq_false c2
        refine wc_seq ?_
        refine wc_region ?_
        refine wl rfl rfl rfl (p_eq rfl rfl) ?_
        refine wl rfl rfl rfl (p_as rfl) ?_
        refine wl_nil ?_
        refine x_seq ?_
        refine wc_if rfl (fun c7 => ?_) (fun c7 => ?_)
        ·
          have c7 := of_decide_eq_true c7
          refine wc_seq ?_
          refine wc_region ?_
          refine wl rfl rfl rfl (p_mv rfl) ?_
          refine wle rfl (e_call ent18 rfl rfl (sync_any hd12.at_ hd12.ok hd12.hn (fun _ h => .inr h) hd12.arm) ?_)
          rintro _ w16 ⟨rfl, hdk, hc⟩
          refine ⟨_, rfl, ?_⟩
          obtain ⟨O76, hdn, hO76, hc⟩ := hd12.next hdk hc (sy_ok hd12.ok) (Nat.le_trans sy_arm hd12.arm) (by omega)
          have hzw16 := hc.size
          have HC := HC.trans hc (fun _ _ h => h) (fun k hk ht => absurd hk (by have := hd12.lo k ht; omega))
          have hq := hq.ch hc (fun k hk ht => by have h1 := hd12.lo k ht; have h2 : k < w.heap.size := hk; omega)
          have hphw := hw.hi
          have hw := hw.other hc (fun k hk ht => aphd12_hw k ht hk)
          have hB29 := hB29.ch hc (fun k hk ht => by have h1 := hd12.lo k ht; have h2 : k < w.heap.size := hk; omega)
          have hK29 := hK29.ch hc (fun k hk ht => by have h1 := hd12.lo k ht; have h2 : k < w.heap.size := hk; omega)
          have hltg6 := hb6.lt
          have hb6 := hb6.ch hc (fun ht => hohb6_hd12 _ ht rfl)
          have aphd12_hw : ∀ k, O76 k → ¬ G k := fun k h1 h2 => (hO76 k h1).elim (fun h => aphd12_hw k h h2) (fun h => by have := hphw k h2; omega)
          have hohb6_hd12 : ∀ k, O76 k → k ≠ g6 := fun k h => (hO76 k h).elim (hohb6_hd12 k) (fun h => by omega)
          have hd12 := hdn
          have hcs := hcalm.sy
          obtain ⟨d76, hd76⟩ : ∃ x, x = (syS dd).2 := ⟨_, rfl⟩
          rw [← hd76] at hd12 hcs
          have hcalm := hcs.2.2.2
          have ho76 := hcs.2.2.1
          have hw := CR.nil w w16 3
          have aphd12_hw : ∀ k, O76 k → ¬ (fun _ : Nat => False) k := fun k _ h => h
          refine wl_nil ?_
          refine x_seq ?_
          refine wc_region ?_
          refine wl rfl rfl rfl (p_as rfl) ?_
          refine wl_nil ?_
          refine x_in_normal ?_
          refine x_seq ?_
          refine wc_seq ?_
          refine wc_region ?_
          refine wl rfl rfl rfl (p_mv rfl) ?_
          refine wle rfl (e_call ent19 rfl rfl (dirty_any hd12.at_ (Nat.le_trans (ord_le hd12.ok) hd12.hn)) ?_)
          rintro _ w17 ⟨A78, c78, l78, rfl, hl78, hW78, hc⟩
          refine ⟨_, rfl, ?_⟩
          have hzw17 := hc.size
          have HC := HC.tr hc
          have hq := hq.no hc
          have hphd12 := hd12.hi
          have hd12 := hd12.no hc
          have hB29 := hB29.no hc
          have hK29 := hK29.no hc
          have hb6 := hb6.ch hc (fun h => h)
          have hphw := hw.hi
          have hw := hw.no hc
          have hS78 := hW78.sl
          have hlb78 : l78 ≤ 4096 := by rw [hl78]; exact Nat.le_trans (ord_le hd12.ok) hd12.hn
          have hS78 := hS78.mono (G := fun k => w16.heap.size ≤ k ∧ k < w17.heap.size) (fun k h1 h2 => ⟨by first | exact h2 | (have h3 : k = _ := h2; omega), h1⟩)
          have hohS78_hd12 : ∀ k, O76 k → k < w16.heap.size ∨ w17.heap.size ≤ k := fun k h => .inl (hphd12 k h)
          have hohS78_hw : ∀ k, (fun _ : Nat => False) k → k < w16.heap.size ∨ w17.heap.size ≤ k := fun k h => .inl (hphw k h)
          refine wl rfl rfl rfl (p_mv rfl) ?_
          refine wle rfl (e_call ent21 rfl rfl (ints_any (sl_nv hS78) (Sl.nil (F := No)) (by omega)) ?_)
          rintro _ w18 ⟨rfl, hc⟩
          refine ⟨_, rfl, ?_⟩
          have hzw18 := hc.size
          have HC := HC.tr hc
          have hq := hq.no hc
          have hphd12 := hd12.hi
          have hd12 := hd12.no hc
          have hB29 := hB29.no hc
          have hK29 := hK29.no hc
          have hb6 := hb6.ch hc (fun h => h)
          have hphw := hw.hi
          have hw := hw.no hc
          have hS78 := hS78.no hc
          refine wl rfl rfl rfl (p_not rfl) ?_
          refine wl_nil ?_
          refine x_seq ?_
          refine wc_no rfl (nd (by first | rfl | (rw [ho76]; rfl))) ?_
          refine wc_skip ?_
          refine x_in_normal ?_
          refine x_seq ?_
          refine wc_region ?_
          refine wl rfl rfl rfl (p_add rfl rfl (w64 (by omega))) ?_
          refine wl rfl rfl rfl (p_mv rfl) ?_
          refine wl_nil ?_
          refine x_round (e' := [(0, .slice Aq lq cq), (2, .bool false), (3, .pointer (some ⟨g12, 0, none⟩)), (4, .slice (_) (_) (_)), (25, .slice Aq lq cq), (26, i64 (lq : Int)), (27, i64 ((i + 1) : Int))]) ⟨rfl, rfl, rfl, rfl, rfl, rfl, rfl, trivial⟩ (by rw [hm0]; omega) ⟨i + 1, _, _, _, _, _, _, rfl, rfl, by omega, hd12, hcalm, by first | exact hw | (rw [ho76]; exact hw), by first | rfl | (rw [ho76]; rfl), aphd12_hw, hq, HC⟩
        ·
          have c7 := of_decide_eq_false c7
          refine wc_skip ?_
          refine x_in_normal ?_
          refine x_seq ?_
          refine wc_seq ?_
          refine wc_region ?_
          refine wl rfl rfl rfl (p_mv rfl) ?_
          refine wle rfl (e_call ent19 rfl rfl (dirty_any hd12.at_ (Nat.le_trans (ord_le hd12.ok) hd12.hn)) ?_)
          rintro _ w19 ⟨A78, c78, l78, rfl, hl78, hW78, hc⟩
          refine ⟨_, rfl, ?_⟩
          have hzw19 := hc.size
          have HC := HC.tr hc
          have hq := hq.no hc
          have hphd12 := hd12.hi
          have hd12 := hd12.no hc
          have hphw := hw.hi
          have hw := hw.no hc
          have hB29 := hB29.no hc
          have hK29 := hK29.no hc
          have hb6 := hb6.ch hc (fun h => h)
          have hS78 := hW78.sl
          have hlb78 : l78 ≤ 4096 := by rw [hl78]; exact Nat.le_trans (ord_le hd12.ok) hd12.hn
          have hS78 := hS78.mono (G := fun k => w7.heap.size ≤ k ∧ k < w19.heap.size) (fun k h1 h2 => ⟨by first | exact h2 | (have h3 : k = _ := h2; omega), h1⟩)
          have hohS78_hd12 : ∀ k, O k → k < w7.heap.size ∨ w19.heap.size ≤ k := fun k h => .inl (hphd12 k h)
          have hohS78_hw : ∀ k, G k → k < w7.heap.size ∨ w19.heap.size ≤ k := fun k h => .inl (hphw k h)
          refine wl rfl rfl rfl (p_mv rfl) ?_
          refine wle rfl (e_call ent21 rfl rfl (ints_any (sl_nv hS78) (sl_nv hw.at_.sl) (by omega)) ?_)
          rintro _ w20 ⟨rfl, hc⟩
          refine ⟨_, rfl, ?_⟩
          have hzw20 := hc.size
          have HC := HC.tr hc
          have hq := hq.no hc
          have hphd12 := hd12.hi
          have hd12 := hd12.no hc
          have hphw := hw.hi
          have hw := hw.no hc
          have hB29 := hB29.no hc
          have hK29 := hK29.no hc
          have hb6 := hb6.ch hc (fun h => h)
          have hS78 := hS78.no hc
          refine wl rfl rfl rfl (p_not rfl) ?_
          refine wl_nil ?_
          refine x_seq ?_
          refine wc_no rfl (nd (by first | rfl | (rw [ho76]; rfl))) ?_
          refine wc_skip ?_
          refine x_in_normal ?_
          refine x_seq ?_
          refine wc_region ?_
          refine wl rfl rfl rfl (p_add rfl rfl (w64 (by omega))) ?_
          refine wl rfl rfl rfl (p_mv rfl) ?_
          refine wl_nil ?_
          refine x_round (e' := [(0, .slice Aq lq cq), (2, .bool false), (3, .pointer (some ⟨g12, 0, none⟩)), (4, .slice (_) (_) (_)), (25, .slice Aq lq cq), (26, i64 (lq : Int)), (27, i64 ((i + 1) : Int))]) ⟨rfl, rfl, rfl, rfl, rfl, rfl, rfl, trivial⟩ (by rw [hm0]; omega) ⟨i + 1, _, _, _, _, _, _, rfl, rfl, by omega, hd12, hcalm, by first | exact hw | (rw [ho76]; exact hw), by first | rfl | (rw [ho76]; rfl), aphd12_hw, hq, HC⟩
    ·
      have c1 := of_decide_eq_false c1
      refine wc_exit ?_
      refine x_then_exit ?_
      refine x_then_exit ?_
      refine x_in_here ?_
      refine x_seq ?_
      refine wc_seq ?_
      refine wc_region ?_
      refine wle rfl (e_call ent16 rfl rfl (lives5_any) ?_)
      rintro _ w21 ⟨rfl, hc⟩
      refine ⟨_, rfl, ?_⟩
      have hzw21 := hc.size
      have HC := HC.tr hc
      have hq := hq.no hc
      have hphd12 := hd12.hi
      have hd12 := hd12.no hc
      have hphw := hw.hi
      have hw := hw.no hc
      refine wl rfl rfl rfl (p_as rfl) ?_
      refine wl_nil ?_
      refine x_seq ?_
      refine wc_ret ?_
      refine fin_run (res1 rfl rfl) ?_
      exact ⟨rfl, HC⟩
end Go.Proofs.Ytcgapjieidmkpaa
