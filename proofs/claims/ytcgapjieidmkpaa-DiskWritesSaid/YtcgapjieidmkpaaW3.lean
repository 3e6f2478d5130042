/-
  Own text, printed by a program of mine (wip/gx): what functions of the program do, walked operation by operation.
-/
import Derived.Test.YtcgapjieidmkpaaProg
import Derived.Test.YtcgapjieidmkpaaGxAgg
import Derived.Test.YtcgapjieidmkpaaTab
import Derived.Test.YtcgapjieidmkpaaPlDisk
import Derived.Test.YtcgapjieidmkpaaPlDiskSt
import Derived.Test.YtcgapjieidmkpaaPlDiskOk
import Derived.Test.YtcgapjieidmkpaaPlDiskC
import Derived.Test.YtcgapjieidmkpaaPlActD
import Derived.Test.YtcgapjieidmkpaaPlActs
import Derived.Test.YtcgapjieidmkpaaPlDiskLaw
import Derived.Test.YtcgapjieidmkpaaDTb
import Derived.Test.YtcgapjieidmkpaaDX
import Derived.Test.YtcgapjieidmkpaaW0
import Derived.Test.YtcgapjieidmkpaaW2
set_option linter.unusedVariables false
namespace Go.Proofs.Ytcgapjieidmkpaa
open Go.RowKit Go.Gx
open Go.Plain
set_option maxHeartbeats 8000000 in
set_option maxRecDepth 20000 in
theorem diskWrites_walk {w : World} {Aq : Option Addr} {lq cq : Nat} {Fq : Nat → Prop} {q : List ActD} (hq : SA w Fq Aq lq cq q) (hcq : cq ≤ 1954687338211) :
    Calls Try.prog 4 #[.slice Aq lq cq] w fun e w' => e = .returned (.bool true) ∧ Ch No w w' := by
  have hql := hq.len
  have hqc := hq.cap
  have hq := hq.old
  have HC : Ch No w w := Ch.refl _ _
  refine enter' (args := [.slice Aq lq cq]) (n := 95) Try.func4 rfl rfl rfl ?_
  refine wc_seq ?_
  refine wc_region ?_
  refine wl rfl rfl rfl (p_as rfl) ?_
  refine wl_nil ?_
  refine x_seq ?_
  refine wc_seq ?_
  refine wc_region ?_
  refine wle rfl (e_call ent10 rfl rfl (new_any (n := 10) (by omega) (by omega)) ?_)
  rintro _ w1 ⟨g10, rfl, hg10, hdk, hc⟩
  refine ⟨_, rfl, ?_⟩
  have hzw1 := hc.size
  have HC := HC.tr hc
  have hq := hq.no hc
  obtain ⟨O10, hd10, hOl10⟩ := CD.first (w0 := w) hdk (newD_ok _) (by omega) (Nat.zero_le _) (by omega)
  refine wl rfl rfl rfl (p_as rfl) ?_
  refine wl_nil ?_
  refine x_seq ?_
  refine wc_seq ?_
  refine wc_seq ?_
  refine wc_region ?_
  refine wl rfl rfl rfl (p_mv rfl) ?_
  refine wl rfl rfl rfl (p_eqPN rfl rfl Try.underlying23) ?_
  refine wl rfl rfl rfl (p_mv rfl) ?_
  refine wl_g (gd_ rfl rfl rfl rfl rfl rfl) rfl rfl (p_mv rfl) ?_
  refine wle_g (gd_ rfl rfl rfl rfl rfl rfl) (e_call ent17 rfl rfl (light_any hq (by omega)) ?_)
  rintro _ w2 ⟨y15, rfl, hc⟩
  refine ⟨_, rfl, ?_⟩
  have hzw2 := hc.size
  have HC := HC.tr hc
  have hq := hq.no hc
  have hphd10 := hd10.hi
  have hd10 := hd10.no hc
  refine wl_g (gd_ rfl rfl rfl rfl rfl rfl) rfl rfl (p_not rfl) ?_
  refine wl rfl rfl rfl (p_pickF rfl rfl) ?_
  refine wl_nil ?_
  refine x_seq ?_
  refine wc_if rfl (fun c0 => ?_) (fun c0 => ?_)
  ·
    refine wc_seq ?_
    refine wc_region ?_
    refine wl rfl rfl rfl (p_mv rfl) ?_
    refine wl rfl rfl rfl (p_nePN rfl rfl Try.underlying23) ?_
    refine wl rfl rfl rfl (p_mv rfl) ?_
    refine wle_g (gd_ rfl rfl rfl rfl rfl rfl) (e_call ent16 rfl rfl (lives5_any) ?_)
    rintro _ w3 ⟨rfl, hc⟩
    refine ⟨_, rfl, ?_⟩
    have hzw3 := hc.size
    have HC := HC.tr hc
    have hq := hq.no hc
    have hphd10 := hd10.hi
    have hd10 := hd10.no hc
    refine wl rfl rfl rfl (p_pickT rfl rfl) ?_
    refine wl rfl rfl rfl (p_as rfl) ?_
    refine wl_nil ?_
    refine x_seq ?_
    refine wc_ret ?_
    refine x_then_ret ?_
    refine fin_run (res1 rfl rfl) ?_
    exact ⟨rfl, HC⟩
  ·
    refine wc_skip ?_
    refine x_seq ?_
    refine wc_seq ?_
    refine wc_region ?_
    refine wle rfl (e_mkZ (c := 320) (v := u8v 0) (sz := 1) (by_ := 1) rfl Try.underlying29 (by rfl) (by rfl) (by omega) rfl rfl (by omega) (by omega) (fun w4 g23 hg23 hb23 hc hsz23 => ?_))
    have hb23 : Blk w4 g23 5 ((List.replicate 320 (0 : UInt8)).map u8v).toArray := by rw [List.map_replicate]; exact hb23
    have hzw4 := hc.size
    have HC := HC.tr hc
    have hq := hq.no hc
    have hphd10 := hd10.hi
    have hd10 := hd10.no hc
    have hge23 : w.heap.size ≤ g23 := by have := HC.size; omega
    have hohb23_hd10 : ∀ k, O10 k → k ≠ g23 := fun k h e => by have := hphd10 k h; omega
    refine wl rfl rfl rfl (p_as rfl) ?_
    refine wl_nil ?_
    refine x_seq ?_
    refine wc_seq ?_
    refine wc_seq ?_
    refine wc_region ?_
    refine wl rfl rfl rfl (p_mv rfl) ?_
    refine wl rfl rfl rfl (p_lenS Try.underlying34 rfl) ?_
    refine wl rfl rfl rfl (p_mv rfl) ?_
    refine wl_nil ?_
    refine x_seq ?_
    refine wc_block ?_
    refine wc_loop (e' := [(0, .slice Aq lq cq), (2, .bool false), (3, .pointer (some ⟨g10, 0, none⟩)), (4, .slice (some ⟨g23, 0, none⟩) 320 320), (24, .slice Aq lq cq), (25, i64 (lq : Int)), (26, i64 ((0) : Int))]) (fun mz ez uz => ∃ i : Nat, ∃ O : Nat → Prop, ∃ dd : DS, mz = lq - i ∧ ez = [(0, .slice Aq lq cq), (2, .bool false), (3, .pointer (some ⟨g10, 0, none⟩)), (4, .slice (some ⟨g23, 0, none⟩) 320 320), (24, .slice Aq lq cq), (25, i64 (lq : Int)), (26, i64 (i : Int))] ∧ (i ≤ lq) ∧ (CD TD w uz O g10 10 dd) ∧ (CalmD dd 10) ∧ (Blk uz g23 5 (dd.now.map u8v).toArray) ∧ (∀ k, O k → k ≠ g23) ∧ (SA uz (fun k => k < w.heap.size) Aq lq cq q) ∧ (Ch No w uz))
      ⟨rfl, rfl, rfl, rfl, rfl, rfl, rfl, trivial⟩ ⟨0, O10, newD 10, rfl, rfl, by omega, hd10, calm_new 10, hb23, hohb23_hd10, hq, HC⟩ ?_
    rintro m0 e w5 ⟨i, O, dd, hm0, rfl, hi, hd10, hcalm, hb23, hohb23_hd10, hq, HC⟩
    have hzw5 := HC.size
    refine wc_seq ?_
    refine wc_region ?_
    refine wl rfl rfl rfl (p_lt rfl rfl) ?_
    refine wl_nil ?_
    refine x_seq ?_
    refine wc_seq ?_
    refine wc_if rfl (fun c1 => ?_) (fun c1 => ?_)
    ·
      have c1 := of_decide_eq_true c1
      refine wc_skip ?_
      refine x_seq ?_
      refine wc_seq ?_
      refine wc_block ?_
      refine wc_seq ?_
      refine wc_region ?_
      obtain ⟨a28, ha28, b28, o28, bA28, bl28, bc28, kA28, kl28, kc28, hA28, hr28, hB28, hK28, hbz28, hkz28, h1a28, h2a28, h1n28, h2n28⟩ := hq.opn5 (i := i) (by omega)
      have hBl28 := hB28.len
      have hBc28 := hB28.cap
      have hKl28 := hK28.len
      have hKc28 := hK28.cap
      refine wl rfl rfl rfl (p_ixS (j := i * 5) Try.underlying34 sz37 rfl hA28 rfl (by omega) (by omega) (congrArg (· * 5) (Int.toNat_natCast _))) ?_
      refine wl rfl rfl rfl (p_ldA (cs := [i64 a28.kind, i64 a28.a, i64 a28.n, .slice bA28 bl28 bc28, .slice kA28 kl28 kc28]) Try.underlying37 rfl sz37 rfl (fun _ e => e ▸ hr28)) ?_
      have hltg23 := hb23.lt
      refine wle rfl (e_alloc (cs := #[.int .i64 0, .int .i64 0, .int .i64 0, .slice none 0 0, .slice none 0 0]) rfl (by rfl) rfl (fun w7 g6 hg6 hb6 hc hsz6 => ?_))
      have hzw7 := hc.size
      have HC := HC.tr hc
      have hq := hq.no hc
      have hphd10 := hd10.hi
      have hd10 := hd10.no hc
      have hb23 := hb23.ch hc (fun h => h)
      have hB28 := hB28.no hc
      have hK28 := hK28.no hc
      have hohb6_hd10 : ∀ k, O k → k ≠ g6 := fun k h e => by have := hphd10 k h; omega
      have hge6 : w.heap.size ≤ g6 := by have := HC.size; omega
      have neg23_6 : g23 < g6 := by omega
      refine wle rfl (e_stW (vs := [i64 a28.kind, i64 a28.a, i64 a28.n, .slice bA28 bl28 bc28, .slice kA28 kl28 kc28]) sz37 (allOne rfl) rfl rfl hb6 (by rfl) (fun w8 hb6 hc hsz => ?_))
      have hzw8 := hc.size
      have HC := HC.trans hc (fun _ _ h => h) (fun k hk ht => absurd ht (by omega))
      have hq := hq.ch hc (by intro k hk ht; have h2 : k < w.heap.size := hk; first | omega | (dsimp only at *; omega))
      have hd10 := hd10.other hc (fun k hk ht => by have h1 := hohb6_hd10 k hk; have h2 : k = g6 := ht; omega)
      have hb23 := hb23.ch hc (by omega)
      first | have hB28 := hB28.ch hc (by intro k hk ht; first | omega | (dsimp only at *; omega)) | have hB28 := hB28.chT hc (by intro k hz hk ht; first | omega | (dsimp only at *; omega))
      first | have hK28 := hK28.ch hc (by intro k hk ht; first | omega | (dsimp only at *; omega)) | have hK28 := hK28.chT hc (by intro k hz hk ht; first | omega | (dsimp only at *; omega))
      refine wl_nil ?_
      refine x_seq ?_
      refine wc_seq ?_
      refine wc_seq ?_
      refine wc_region ?_
      refine wl rfl rfl rfl (p_fld (j := 0) Try.underlying37 rfl ⟨_, by rfl⟩ rfl rfl) ?_
      refine wl rfl rfl rfl (p_ld Try.underlying3 rfl rfl (ld (hb6.cell rfl))) ?_
      refine wl rfl rfl rfl (p_eq rfl rfl) ?_
      refine wl_nil ?_
      refine x_seq ?_
      refine wc_if rfl (fun c2 => ?_) (fun c2 => ?_)
      ·
        have c2 := of_decide_eq_true c2
        refine wc_region ?_
        refine wl rfl rfl rfl (p_mv rfl) ?_
        refine wle rfl (e_call ent18 rfl rfl (sync_any hd10.at_ hd10.ok hd10.hn (fun _ h => .inr h) hd10.arm) ?_)
        rintro _ w9 ⟨rfl, hdk, hc⟩
        refine ⟨_, rfl, ?_⟩
        obtain ⟨O34, hdn, hO34, hc⟩ := hd10.next hdk hc (sy_ok hd10.ok) (Nat.le_trans sy_arm hd10.arm) (by omega)
        have hzw9 := hc.size
        have HC := HC.trans hc (fun _ _ h => h) (fun k hk ht => absurd hk (by have := hd10.lo k ht; omega))
        have hq := hq.ch hc (fun k hk ht => by have h1 := hd10.lo k ht; have h2 : k < w.heap.size := hk; omega)
        have hltg23 := hb23.lt
        have hb23 := hb23.ch hc (fun ht => hohb23_hd10 _ ht rfl)
        have hB28 := hB28.ch hc (fun k hk ht => by have h1 := hd10.lo k ht; have h2 : k < w.heap.size := hk; omega)
        have hK28 := hK28.ch hc (fun k hk ht => by have h1 := hd10.lo k ht; have h2 : k < w.heap.size := hk; omega)
        have hltg6 := hb6.lt
        have hb6 := hb6.ch hc (fun ht => hohb6_hd10 _ ht rfl)
        have hohb23_hd10 : ∀ k, O34 k → k ≠ g23 := fun k h => (hO34 k h).elim (hohb23_hd10 k) (fun h => by omega)
        have hohb6_hd10 : ∀ k, O34 k → k ≠ g6 := fun k h => (hO34 k h).elim (hohb6_hd10 k) (fun h => by omega)
        have hd10 := hdn
        have hcs := hcalm.sy
        obtain ⟨d34, hd34⟩ : ∃ x, x = (syS dd).2 := ⟨_, rfl⟩
        rw [← hd34] at hd10 hcs
        have hcalm := hcs.2.2.2
        rw [← hcs.2.1] at hb23
        refine wl_nil ?_
        refine x_seq ?_
        refine wc_seq ?_
        refine wc_seq ?_
        refine wc_region ?_
        refine wl rfl rfl rfl (p_fld (j := 0) Try.underlying37 rfl ⟨_, by rfl⟩ rfl rfl) ?_
        refine wl rfl rfl rfl (p_ld Try.underlying3 rfl rfl (ld (hb6.cell rfl))) ?_
        refine wl rfl rfl rfl (p_ne rfl rfl) ?_
        refine wl_nil ?_
        refine x_seq ?_
        refine wc_yes rfl (decide_eq_true (by omega)) ?_
        refine wc_exit ?_
        refine x_then_exit ?_
        refine x_in_here ?_
        refine x_seq ?_
        refine wc_region ?_
        refine wl rfl rfl rfl (p_add rfl rfl (w64 (by omega))) ?_
        refine wl rfl rfl rfl (p_mv rfl) ?_
        refine wl_nil ?_
        refine x_round (e' := [(0, .slice Aq lq cq), (2, .bool false), (3, .pointer (some ⟨g10, 0, none⟩)), (4, .slice (some ⟨g23, 0, none⟩) 320 320), (24, .slice Aq lq cq), (25, i64 (lq : Int)), (26, i64 ((i + 1) : Int))]) ⟨rfl, rfl, rfl, rfl, rfl, rfl, rfl, trivial⟩ (by rw [hm0]; omega) ⟨i + 1, _, _, rfl, rfl, by omega, hd10, hcalm, hb23, hohb23_hd10, hq, HC⟩
      ·
        have c2 := of_decide_eq_false c2
        refine wc_skip ?_
        refine x_seq ?_
        refine wc_seq ?_
        refine wc_seq ?_
        refine wc_region ?_
        refine wl rfl rfl rfl (p_fld (j := 0) Try.underlying37 rfl ⟨_, by rfl⟩ rfl rfl) ?_
        refine wl rfl rfl rfl (p_ld Try.underlying3 rfl rfl (ld (hb6.cell rfl))) ?_
        refine wl rfl rfl rfl (p_ne rfl rfl) ?_
        refine wl_nil ?_
        refine x_seq ?_
        refine wc_if rfl (fun c3 => ?_) (fun c3 => ?_)
        ·
          have c3 := of_decide_eq_true c3
          refine wc_exit ?_
          refine x_then_exit ?_
          refine x_in_here ?_
          refine x_seq ?_
          refine wc_region ?_
          refine wl rfl rfl rfl (p_add rfl rfl (w64 (by omega))) ?_
          refine wl rfl rfl rfl (p_mv rfl) ?_
          refine wl_nil ?_
          refine x_round (e' := [(0, .slice Aq lq cq), (2, .bool false), (3, .pointer (some ⟨g10, 0, none⟩)), (4, .slice (some ⟨g23, 0, none⟩) 320 320), (24, .slice Aq lq cq), (25, i64 (lq : Int)), (26, i64 ((i + 1) : Int))]) ⟨rfl, rfl, rfl, rfl, rfl, rfl, rfl, trivial⟩ (by rw [hm0]; omega) ⟨i + 1, _, _, rfl, rfl, by omega, hd10, hcalm, hb23, hohb23_hd10, hq, HC⟩
        ·
          have c3 := of_decide_eq_false c3
          refine wc_skip ?_
          refine x_seq ?_
          refine wc_seq ?_
          refine wc_region ?_
          refine wl rfl rfl rfl (p_mv rfl) ?_
          refine wl rfl rfl rfl (p_fld (j := 1) Try.underlying37 rfl ⟨_, by rfl⟩ rfl rfl) ?_
          refine wl rfl rfl rfl (p_ld Try.underlying3 rfl rfl (ld (hb6.cell rfl))) ?_
          refine wl rfl rfl rfl (p_fld (j := 3) Try.underlying37 rfl ⟨_, by rfl⟩ rfl rfl) ?_
          refine wl rfl rfl rfl (p_ld Try.underlying29 rfl rfl (ld (hb6.cell rfl))) ?_
          have hd0 := hd10
          refine wle rfl (e_call ent12 rfl rfl (write_any hd10.at_ hd10.ok hd10.hn (fun _ h => .inr h) hd10.arm (by omega) (by omega) (hB28) (fun k hk => (fun hf => hf.elim (fun h => by have h1 := hd10.lo k h; have h2 : k < w.heap.size := hk; omega) (fun h => by have h2 : k < w.heap.size := hk; omega))) (by omega)) ?_)
          rintro _ w10 ⟨rfl, hdk, hc⟩
          refine ⟨_, rfl, ?_⟩
          obtain ⟨O43, hdn, hO43, hc⟩ := hd10.next hdk hc (wr_ok hd10.ok _ _) (Nat.le_trans (wr_arm _ _) hd10.arm) (by omega)
          have hzw10 := hc.size
          have HC := HC.trans hc (fun _ _ h => h) (fun k hk ht => absurd hk (by have := hd10.lo k ht; omega))
          have hq := hq.ch hc (fun k hk ht => by have h1 := hd10.lo k ht; have h2 : k < w.heap.size := hk; omega)
          have hltg23 := hb23.lt
          have hb23 := hb23.ch hc (fun ht => hohb23_hd10 _ ht rfl)
          have hB28 := hB28.ch hc (fun k hk ht => by have h1 := hd10.lo k ht; have h2 : k < w.heap.size := hk; omega)
          have hK28 := hK28.ch hc (fun k hk ht => by have h1 := hd10.lo k ht; have h2 : k < w.heap.size := hk; omega)
          have hltg6 := hb6.lt
          have hb6 := hb6.ch hc (fun ht => hohb6_hd10 _ ht rfl)
          have hohb23_hd10 : ∀ k, O43 k → k ≠ g23 := fun k h => (hO43 k h).elim (hohb23_hd10 k) (fun h => by omega)
          have hohb6_hd10 : ∀ k, O43 k → k ≠ g6 := fun k h => (hO43 k h).elim (hohb6_hd10 k) (fun h => by omega)
          have hd10 := hdn
          refine wl rfl rfl rfl (p_as rfl) ?_
          refine wl_nil ?_
          refine x_seq ?_
          refine wc_seq ?_
          refine wc_seq ?_
          refine wc_region ?_
          have h0f := hcalm.wr0 (a := a28.a) (b := a28.b)
          have h0 := h0f
          unfold fits at h0
          refine wl rfl rfl rfl (p_mv rfl) ?_
          refine wl rfl rfl rfl (p_eq rfl rfl) ?_
          refine wl rfl rfl rfl (p_fld (j := 1) Try.underlying37 rfl ⟨_, by rfl⟩ rfl rfl) ?_
          refine wl rfl rfl rfl (p_ld Try.underlying3 rfl rfl (ld (hb6.cell rfl))) ?_
          refine wl rfl rfl rfl (p_ge rfl rfl) ?_
          refine wl rfl rfl rfl (p_mv rfl) ?_
          refine wl_split (d := 49) rfl (fun q49 => ?_) (fun q49 => ?_)
          ·
            have q49 := of_decide_eq_true q49
            refine wl_g (gd_ rfl rfl rfl rfl rfl rfl) rfl rfl (p_fld (j := 1) Try.underlying37 rfl ⟨_, by rfl⟩ rfl rfl) ?_
            refine wl_g (gd_ rfl rfl rfl rfl rfl rfl) rfl rfl (p_ld Try.underlying3 rfl rfl (ld (hb6.cell rfl))) ?_
            refine wl_g (gd_ rfl rfl rfl rfl rfl rfl) rfl rfl (p_le rfl rfl) ?_
            refine wl rfl rfl rfl (p_pickT rfl rfl) ?_
            refine wl rfl rfl rfl (p_mv rfl) ?_
            refine wl_split (d := 54) rfl (fun q54 => ?_) (fun q54 => ?_)
            ·
              have q54 := of_decide_eq_true q54
              refine wl_g (gd_ rfl rfl rfl rfl rfl rfl) rfl rfl (p_fld (j := 3) Try.underlying37 rfl ⟨_, by rfl⟩ rfl rfl) ?_
              refine wl_g (gd_ rfl rfl rfl rfl rfl rfl) rfl rfl (p_ld Try.underlying29 rfl rfl (ld (hb6.cell rfl))) ?_
              refine wl_g (gd_ rfl rfl rfl rfl rfl rfl) rfl rfl (p_lenS Try.underlying29 rfl) ?_
              refine wl_g (gd_ rfl rfl rfl rfl rfl rfl) rfl rfl (p_fld (j := 1) Try.underlying37 rfl ⟨_, by rfl⟩ rfl rfl) ?_
              refine wl_g (gd_ rfl rfl rfl rfl rfl rfl) rfl rfl (p_ld Try.underlying3 rfl rfl (ld (hb6.cell rfl))) ?_
              refine wl_g (gd_ rfl rfl rfl rfl rfl rfl) rfl rfl (p_sub (Z := 320 - a28.a) rfl rfl (w64 (by omega))) ?_
              refine wl_g (gd_ rfl rfl rfl rfl rfl rfl) rfl rfl (p_le rfl rfl) ?_
              refine wl rfl rfl rfl (p_pickT rfl rfl) ?_
              refine wl rfl rfl rfl (p_neB rfl rfl Try.underlying4) ?_
              refine wl_nil ?_
              refine x_seq ?_
              refine wc_no rfl (by first | exact bne_dec (by omega) | exact bne_f (by omega)) ?_
              refine wc_skip ?_
              refine x_seq ?_
              refine wc_seq ?_
              refine wc_region ?_
              refine wl rfl rfl rfl (p_mv rfl) ?_
              refine wl rfl rfl rfl (p_eq rfl rfl) ?_
              refine wl_nil ?_
              refine x_seq ?_
              refine wc_if rfl (fun c5 => ?_) (fun c5 => ?_)
              ·
                have c5 := of_decide_eq_true c5
                have hw := hcalm.wr (h0f.1 c5)
                obtain ⟨x, hx⟩ := Int.eq_ofNat_of_zero_le (show 0 ≤ a28.a by omega)
                obtain ⟨d43, hd43⟩ : ∃ z, z = (wrS 10 dd a28.a a28.b).2 := ⟨_, rfl⟩
                rw [← hd43] at hd10 hw
                have hcalm := hw.2.2.2.2
                obtain ⟨o69, ho69⟩ : ∃ o, o = if 320 = x then 0 else x := ⟨_, rfl⟩
                refine wc_draw (.st 0 0 (.st 1 0 (.st 2 1 (.st 3 0 (.st 4 0 (.st 5 1 (.st 6 3 .nil))))))) 6 (by kernel_rfl) (by kernel_rfl) (by kernel_rfl) (by repeat (first | with_reducible exact pan_body | with_reducible apply pan_then | with_reducible apply pan_in)) (fun x => Ch No w10.drew x) (Ch.refl _ _) ?_
                obtain ⟨w11, ew11⟩ : ∃ x, x = w10.drew := ⟨_, rfl⟩
                rw [← ew11]
                have hc : Ch No w10 w11 := by rw [ew11]; exact Ch.drew _
                have hszw11 : w11.heap.size = w10.heap.size := by rw [ew11]; rfl
                clear ew11
                have hzw11 := hc.size
                have HC := HC.tr hc
                have hq := hq.no hc
                have hphd10 := hd10.hi
                have hd10 := hd10.no hc
                have hb23 := hb23.ch hc (fun h => h)
                have hB28 := hB28.no hc
                have hK28 := hK28.no hc
                have hb6 := hb6.ch hc (fun h => h)
                have hS : Ch No w11 w11 := Ch.refl _ _
                refine ws_p rfl rfl rfl rfl (p_mv rfl) ?_
                refine ws_p rfl rfl rfl rfl (p_fld (j := 1) Try.underlying37 rfl ⟨_, by rfl⟩ rfl rfl) ?_
                refine ws_h rfl rfl rfl rfl ((p_ld Try.underlying3 rfl rfl (fun _ h => h.cell (fun h => h) (hb6.cell rfl))).to (congrArg i64 hx)) ?_
                refine ws_p rfl rfl rfl rfl ((p_slS (lo := some (.tmp 68)) (hi := none) (l := x) (h := 320) Try.underlying29 sz5 rfl ⟨_, rfl⟩ rfl (by omega) (by omega) (by omega) (q := 320 - x) rfl).to (show _ = Value.slice (some ⟨g23, o69, none⟩) (320 - x) (320 - x) from by rw [ho69]; unfold cutA; split <;> simp [Addr.add_mid])) ?_
                refine ws_p rfl rfl rfl rfl (p_fld (j := 3) Try.underlying37 rfl ⟨_, by rfl⟩ rfl rfl) ?_
                refine ws_h rfl rfl rfl rfl (p_ld Try.underlying29 rfl rfl (fun _ h => h.cell (fun h => h) (hb6.cell rfl))) ?_
                refine ws_l rfl rfl (e_copyP (o := o69) (L := dd.now) rfl Try.underlying29 sz5 rfl rfl hb23 hB28 (by rw [hd0.ok.w, ho69]; split <;> omega) (fun w12 hb23 hc hsz => ?_))
                have hzw12 := hc.size
                have HC := HC.trans hc (fun _ _ h => h) (fun k hk ht => absurd ht (by omega))
                have hq := hq.ch hc (by intro k hk ht; have h2 : k < w.heap.size := hk; first | omega | (dsimp only at *; omega))
                have hd10 := hd10.other hc (fun k hk ht => by have h1 := hohb23_hd10 k hk; have h2 : k = g23 := ht; omega)
                first | have hB28 := hB28.ch hc (by intro k hk ht; first | omega | (dsimp only at *; omega)) | have hB28 := hB28.chT hc (by intro k hz hk ht; first | omega | (dsimp only at *; omega))
                first | have hK28 := hK28.ch hc (by intro k hk ht; first | omega | (dsimp only at *; omega)) | have hK28 := hK28.chT hc (by intro k hz hk ht; first | omega | (dsimp only at *; omega))
                have hb6 := hb6.ch hc (by omega)
                rw [spl_copy hd0.ok.w ho69 (by omega) hBl28 (by omega)] at hb23
                rw [hx, Int.toNat_natCast] at hw
                rw [← hw.2.1] at hb23
                refine ws_n ?_
                refine x_in_normal ?_
                refine x_seq ?_
                refine wc_region ?_
                refine wl rfl rfl rfl (p_add rfl rfl (w64 (by omega))) ?_
                refine wl rfl rfl rfl (p_mv rfl) ?_
                refine wl_nil ?_
                refine x_round (e' := [(0, .slice Aq lq cq), (2, .bool false), (3, .pointer (some ⟨g10, 0, none⟩)), (4, .slice (some ⟨g23, 0, none⟩) 320 320), (24, .slice Aq lq cq), (25, i64 (lq : Int)), (26, i64 ((i + 1) : Int))]) ⟨rfl, rfl, rfl, rfl, rfl, rfl, rfl, trivial⟩ (by rw [hm0]; omega) ⟨i + 1, _, _, rfl, rfl, by omega, hd10, hcalm, hb23, hohb23_hd10, hq, HC⟩
              ·
                have c5 := of_decide_eq_false c5
                have hno := (hcalm.wrno (fun h => c5 (h0f.2 h))).2
                rw [hno] at hd10
                refine wc_skip ?_
                refine x_in_normal ?_
                refine x_seq ?_
                refine wc_region ?_
                refine wl rfl rfl rfl (p_add rfl rfl (w64 (by omega))) ?_
                refine wl rfl rfl rfl (p_mv rfl) ?_
                refine wl_nil ?_
                refine x_round (e' := [(0, .slice Aq lq cq), (2, .bool false), (3, .pointer (some ⟨g10, 0, none⟩)), (4, .slice (some ⟨g23, 0, none⟩) 320 320), (24, .slice Aq lq cq), (25, i64 (lq : Int)), (26, i64 ((i + 1) : Int))]) ⟨rfl, rfl, rfl, rfl, rfl, rfl, rfl, trivial⟩ (by rw [hm0]; omega) ⟨i + 1, _, _, rfl, rfl, by omega, hd10, hcalm, hb23, hohb23_hd10, hq, HC⟩
            ·
              have q54 := of_decide_eq_false q54
              refine wl_s (gd_ rfl rfl rfl rfl rfl rfl) rfl rfl ?_
              refine wl_s (gd_ rfl rfl rfl rfl rfl rfl) rfl rfl ?_
              refine wl_s (gd_ rfl rfl rfl rfl rfl rfl) rfl rfl ?_
              refine wl_s (gd_ rfl rfl rfl rfl rfl rfl) rfl rfl ?_
              refine wl_s (gd_ rfl rfl rfl rfl rfl rfl) rfl rfl ?_
              refine wl_s (gd_ rfl rfl rfl rfl rfl rfl) rfl rfl ?_
              refine wl_s (gd_ rfl rfl rfl rfl rfl rfl) rfl rfl ?_
              refine wl rfl rfl rfl (p_pickF rfl rfl) ?_
              refine wl rfl rfl rfl (p_neB rfl rfl Try.underlying4) ?_
              refine wl_nil ?_
              refine x_seq ?_
              refine wc_no rfl (by first | exact bne_dec (by omega) | exact bne_f (by omega)) ?_
              refine wc_skip ?_
              refine x_seq ?_
              refine wc_seq ?_
              refine wc_region ?_
              refine wl rfl rfl rfl (p_mv rfl) ?_
              refine wl rfl rfl rfl (p_eq rfl rfl) ?_
              refine wl_nil ?_
              refine x_seq ?_
              refine wc_if rfl (fun c5 => ?_) (fun c5 => ?_)
              ·
                have c5 := of_decide_eq_true c5
                have hw := hcalm.wr (h0f.1 c5)
                obtain ⟨x, hx⟩ := Int.eq_ofNat_of_zero_le (show 0 ≤ a28.a by omega)
                obtain ⟨d43, hd43⟩ : ∃ z, z = (wrS 10 dd a28.a a28.b).2 := ⟨_, rfl⟩
                rw [← hd43] at hd10 hw
                have hcalm := hw.2.2.2.2
                obtain ⟨o69, ho69⟩ : ∃ o, o = if 320 = x then 0 else x := ⟨_, rfl⟩
                refine wc_draw (.st 0 0 (.st 1 0 (.st 2 1 (.st 3 0 (.st 4 0 (.st 5 1 (.st 6 3 .nil))))))) 6 (by kernel_rfl) (by kernel_rfl) (by kernel_rfl) (by repeat (first | with_reducible exact pan_body | with_reducible apply pan_then | with_reducible apply pan_in)) (fun x => Ch No w10.drew x) (Ch.refl _ _) ?_
                obtain ⟨w13, ew13⟩ : ∃ x, x = w10.drew := ⟨_, rfl⟩
                rw [← ew13]
                have hc : Ch No w10 w13 := by rw [ew13]; exact Ch.drew _
                have hszw13 : w13.heap.size = w10.heap.size := by rw [ew13]; rfl
                clear ew13
                have hzw13 := hc.size
                have HC := HC.tr hc
                have hq := hq.no hc
                have hphd10 := hd10.hi
                have hd10 := hd10.no hc
                have hb23 := hb23.ch hc (fun h => h)
                have hB28 := hB28.no hc
                have hK28 := hK28.no hc
                have hb6 := hb6.ch hc (fun h => h)
                have hS : Ch No w13 w13 := Ch.refl _ _
                refine ws_p rfl rfl rfl rfl (p_mv rfl) ?_
                refine ws_p rfl rfl rfl rfl (p_fld (j := 1) Try.underlying37 rfl ⟨_, by rfl⟩ rfl rfl) ?_
                refine ws_h rfl rfl rfl rfl ((p_ld Try.underlying3 rfl rfl (fun _ h => h.cell (fun h => h) (hb6.cell rfl))).to (congrArg i64 hx)) ?_
                refine ws_p rfl rfl rfl rfl ((p_slS (lo := some (.tmp 68)) (hi := none) (l := x) (h := 320) Try.underlying29 sz5 rfl ⟨_, rfl⟩ rfl (by omega) (by omega) (by omega) (q := 320 - x) rfl).to (show _ = Value.slice (some ⟨g23, o69, none⟩) (320 - x) (320 - x) from by rw [ho69]; unfold cutA; split <;> simp [Addr.add_mid])) ?_
                refine ws_p rfl rfl rfl rfl (p_fld (j := 3) Try.underlying37 rfl ⟨_, by rfl⟩ rfl rfl) ?_
                refine ws_h rfl rfl rfl rfl (p_ld Try.underlying29 rfl rfl (fun _ h => h.cell (fun h => h) (hb6.cell rfl))) ?_
                refine ws_l rfl rfl (e_copyP (o := o69) (L := dd.now) rfl Try.underlying29 sz5 rfl rfl hb23 hB28 (by rw [hd0.ok.w, ho69]; split <;> omega) (fun w14 hb23 hc hsz => ?_))
                have hzw14 := hc.size
                have HC := HC.trans hc (fun _ _ h => h) (fun k hk ht => absurd ht (by omega))
                have hq := hq.ch hc (by intro k hk ht; have h2 : k < w.heap.size := hk; first | omega | (dsimp only at *; omega))
                have hd10 := hd10.other hc (fun k hk ht => by have h1 := hohb23_hd10 k hk; have h2 : k = g23 := ht; omega)
                first | have hB28 := hB28.ch hc (by intro k hk ht; first | omega | (dsimp only at *; omega)) | have hB28 := hB28.chT hc (by intro k hz hk ht; first | omega | (dsimp only at *; omega))
                first | have hK28 := hK28.ch hc (by intro k hk ht; first | omega | (dsimp only at *; omega)) | have hK28 := hK28.chT hc (by intro k hz hk ht; first | omega | (dsimp only at *; omega))
                have hb6 := hb6.ch hc (by omega)
                rw [spl_copy hd0.ok.w ho69 (by omega) hBl28 (by omega)] at hb23
                rw [hx, Int.toNat_natCast] at hw
                rw [← hw.2.1] at hb23
                refine ws_n ?_
                refine x_in_normal ?_
                refine x_seq ?_
                refine wc_region ?_
                refine wl rfl rfl rfl (p_add rfl rfl (w64 (by omega))) ?_
                refine wl rfl rfl rfl (p_mv rfl) ?_
                refine wl_nil ?_
                refine x_round (e' := [(0, .slice Aq lq cq), (2, .bool false), (3, .pointer (some ⟨g10, 0, none⟩)), (4, .slice (some ⟨g23, 0, none⟩) 320 320), (24, .slice Aq lq cq), (25, i64 (lq : Int)), (26, i64 ((i + 1) : Int))]) ⟨rfl, rfl, rfl, rfl, rfl, rfl, rfl, trivial⟩ (by rw [hm0]; omega) ⟨i + 1, _, _, rfl, rfl, by omega, hd10, hcalm, hb23, hohb23_hd10, hq, HC⟩
              ·
                have c5 := of_decide_eq_false c5
                have hno := (hcalm.wrno (fun h => c5 (h0f.2 h))).2
                rw [hno] at hd10
                refine wc_skip ?_
                refine x_in_normal ?_
                refine x_seq ?_
                refine wc_region ?_
                refine wl rfl rfl rfl (p_add rfl rfl (w64 (by omega))) ?_
                refine wl rfl rfl rfl (p_mv rfl) ?_
                refine wl_nil ?_
                refine x_round (e' := [(0, .slice Aq lq cq), (2, .bool false), (3, .pointer (some ⟨g10, 0, none⟩)), (4, .slice (some ⟨g23, 0, none⟩) 320 320), (24, .slice Aq lq cq), (25, i64 (lq : Int)), (26, i64 ((i + 1) : Int))]) ⟨rfl, rfl, rfl, rfl, rfl, rfl, rfl, trivial⟩ (by rw [hm0]; omega) ⟨i + 1, _, _, rfl, rfl, by omega, hd10, hcalm, hb23, hohb23_hd10, hq, HC⟩
          ·
            have q49 := of_decide_eq_false q49
            refine wl_s (gd_ rfl rfl rfl rfl rfl rfl) rfl rfl ?_
            refine wl_s (gd_ rfl rfl rfl rfl rfl rfl) rfl rfl ?_
            refine wl_s (gd_ rfl rfl rfl rfl rfl rfl) rfl rfl ?_
            refine wl rfl rfl rfl (p_pickF rfl rfl) ?_
            refine wl rfl rfl rfl (p_mv rfl) ?_
            refine wl_s (gd_ rfl rfl rfl rfl rfl rfl) rfl rfl ?_
            refine wl_s (gd_ rfl rfl rfl rfl rfl rfl) rfl rfl ?_
            refine wl_s (gd_ rfl rfl rfl rfl rfl rfl) rfl rfl ?_
            refine wl_s (gd_ rfl rfl rfl rfl rfl rfl) rfl rfl ?_
            refine wl_s (gd_ rfl rfl rfl rfl rfl rfl) rfl rfl ?_
            refine wl_s (gd_ rfl rfl rfl rfl rfl rfl) rfl rfl ?_
            refine wl_s (gd_ rfl rfl rfl rfl rfl rfl) rfl rfl ?_
            refine wl rfl rfl rfl (p_pickF rfl rfl) ?_
            refine wl rfl rfl rfl (p_neB rfl rfl Try.underlying4) ?_
            refine wl_nil ?_
            refine x_seq ?_
            refine wc_no rfl (by first | exact bne_dec (by omega) | exact bne_f (by omega)) ?_
            refine wc_skip ?_
            refine x_seq ?_
            refine wc_seq ?_
            refine wc_region ?_
            refine wl rfl rfl rfl (p_mv rfl) ?_
            refine wl rfl rfl rfl (p_eq rfl rfl) ?_
            refine wl_nil ?_
            refine x_seq ?_
            refine wc_if rfl (fun c5 => ?_) (fun c5 => ?_)
            ·
              have c5 := of_decide_eq_true c5
              have hw := hcalm.wr (h0f.1 c5)
              obtain ⟨x, hx⟩ := Int.eq_ofNat_of_zero_le (show 0 ≤ a28.a by omega)
              obtain ⟨d43, hd43⟩ : ∃ z, z = (wrS 10 dd a28.a a28.b).2 := ⟨_, rfl⟩
              rw [← hd43] at hd10 hw
              have hcalm := hw.2.2.2.2
              obtain ⟨o69, ho69⟩ : ∃ o, o = if 320 = x then 0 else x := ⟨_, rfl⟩
              refine wc_draw (.st 0 0 (.st 1 0 (.st 2 1 (.st 3 0 (.st 4 0 (.st 5 1 (.st 6 3 .nil))))))) 6 (by kernel_rfl) (by kernel_rfl) (by kernel_rfl) (by repeat (first | with_reducible exact pan_body | with_reducible apply pan_then | with_reducible apply pan_in)) (fun x => Ch No w10.drew x) (Ch.refl _ _) ?_
              obtain ⟨w15, ew15⟩ : ∃ x, x = w10.drew := ⟨_, rfl⟩
              rw [← ew15]
              have hc : Ch No w10 w15 := by rw [ew15]; exact Ch.drew _
              have hszw15 : w15.heap.size = w10.heap.size := by rw [ew15]; rfl
              clear ew15
              have hzw15 := hc.size
              have HC := HC.tr hc
              have hq := hq.no hc
              have hphd10 := hd10.hi
              have hd10 := hd10.no hc
              have hb23 := hb23.ch hc (fun h => h)
              have hB28 := hB28.no hc
              have hK28 := hK28.no hc
              have hb6 := hb6.ch hc (fun h => h)
              have hS : Ch No w15 w15 := Ch.refl _ _
              refine ws_p rfl rfl rfl rfl (p_mv rfl) ?_
              refine ws_p rfl rfl rfl rfl (p_fld (j := 1) Try.underlying37 rfl ⟨_, by rfl⟩ rfl rfl) ?_
              refine ws_h rfl rfl rfl rfl ((p_ld Try.underlying3 rfl rfl (fun _ h => h.cell (fun h => h) (hb6.cell rfl))).to (congrArg i64 hx)) ?_
              refine ws_p rfl rfl rfl rfl ((p_slS (lo := some (.tmp 68)) (hi := none) (l := x) (h := 320) Try.underlying29 sz5 rfl ⟨_, rfl⟩ rfl (by omega) (by omega) (by omega) (q := 320 - x) rfl).to (show _ = Value.slice (some ⟨g23, o69, none⟩) (320 - x) (320 - x) from by rw [ho69]; unfold cutA; split <;> simp [Addr.add_mid])) ?_
              refine ws_p rfl rfl rfl rfl (p_fld (j := 3) Try.underlying37 rfl ⟨_, by rfl⟩ rfl rfl) ?_
              refine ws_h rfl rfl rfl rfl (p_ld Try.underlying29 rfl rfl (fun _ h => h.cell (fun h => h) (hb6.cell rfl))) ?_
              refine ws_l rfl rfl (e_copyP (o := o69) (L := dd.now) rfl Try.underlying29 sz5 rfl rfl hb23 hB28 (by rw [hd0.ok.w, ho69]; split <;> omega) (fun w16 hb23 hc hsz => ?_))
              have hzw16 := hc.size
              have HC := HC.trans hc (fun _ _ h => h) (fun k hk ht => absurd ht (by omega))
              have hq := hq.ch hc (by intro k hk ht; have h2 : k < w.heap.size := hk; first | omega | (dsimp only at *; omega))
              have hd10 := hd10.other hc (fun k hk ht => by have h1 := hohb23_hd10 k hk; have h2 : k = g23 := ht; omega)
              first | have hB28 := hB28.ch hc (by intro k hk ht; first | omega | (dsimp only at *; omega)) | have hB28 := hB28.chT hc (by intro k hz hk ht; first | omega | (dsimp only at *; omega))
              first | have hK28 := hK28.ch hc (by intro k hk ht; first | omega | (dsimp only at *; omega)) | have hK28 := hK28.chT hc (by intro k hz hk ht; first | omega | (dsimp only at *; omega))
              have hb6 := hb6.ch hc (by omega)
              rw [spl_copy hd0.ok.w ho69 (by omega) hBl28 (by omega)] at hb23
              rw [hx, Int.toNat_natCast] at hw
              rw [← hw.2.1] at hb23
              refine ws_n ?_
              refine x_in_normal ?_
              refine x_seq ?_
              refine wc_region ?_
              refine wl rfl rfl rfl (p_add rfl rfl (w64 (by omega))) ?_
              refine wl rfl rfl rfl (p_mv rfl) ?_
              refine wl_nil ?_
              refine x_round (e' := [(0, .slice Aq lq cq), (2, .bool false), (3, .pointer (some ⟨g10, 0, none⟩)), (4, .slice (some ⟨g23, 0, none⟩) 320 320), (24, .slice Aq lq cq), (25, i64 (lq : Int)), (26, i64 ((i + 1) : Int))]) ⟨rfl, rfl, rfl, rfl, rfl, rfl, rfl, trivial⟩ (by rw [hm0]; omega) ⟨i + 1, _, _, rfl, rfl, by omega, hd10, hcalm, hb23, hohb23_hd10, hq, HC⟩
            ·
              have c5 := of_decide_eq_false c5
              have hno := (hcalm.wrno (fun h => c5 (h0f.2 h))).2
              rw [hno] at hd10
              refine wc_skip ?_
              refine x_in_normal ?_
              refine x_seq ?_
              refine wc_region ?_
              refine wl rfl rfl rfl (p_add rfl rfl (w64 (by omega))) ?_
              refine wl rfl rfl rfl (p_mv rfl) ?_
              refine wl_nil ?_
              refine x_round (e' := [(0, .slice Aq lq cq), (2, .bool false), (3, .pointer (some ⟨g10, 0, none⟩)), (4, .slice (some ⟨g23, 0, none⟩) 320 320), (24, .slice Aq lq cq), (25, i64 (lq : Int)), (26, i64 ((i + 1) : Int))]) ⟨rfl, rfl, rfl, rfl, rfl, rfl, rfl, trivial⟩ (by rw [hm0]; omega) ⟨i + 1, _, _, rfl, rfl, by omega, hd10, hcalm, hb23, hohb23_hd10, hq, HC⟩
    ·
      have c1 := of_decide_eq_false c1
      refine wc_exit ?_
      refine x_then_exit ?_
      refine x_then_exit ?_
      refine x_in_here ?_
      refine x_seq ?_
      refine wc_seq ?_
      refine wc_region ?_
      refine wl rfl rfl rfl (p_mv rfl) ?_
      refine wle rfl (e_call ent14 rfl rfl (read_any (a := 0) (m := 320) hd10.at_ hd10.ok hd10.hn (by omega) (by omega) (by omega) (by omega)) ?_)
      rintro _ w17 ⟨A76, l76, c76, rfl, hl76, hS76, hc⟩
      refine ⟨_, rfl, ?_⟩
      have hzw17 := hc.size
      have HC := HC.tr hc
      have hq := hq.no hc
      have hphd10 := hd10.hi
      have hd10 := hd10.no hc
      have hb23 := hb23.ch hc (fun h => h)
      have hS76 := hS76.mono (G := fun k => w5.heap.size ≤ k ∧ k < w17.heap.size) (fun k h1 h2 => ⟨by first | exact h2 | (have h3 : k = _ := h2; omega), h1⟩)
      have hohS76_hd10 : ∀ k, O k → k < w5.heap.size ∨ w17.heap.size ≤ k := fun k h => .inl (hphd10 k h)
      have e76 : rdS 10 dd 0 320 = (dd.now, 0) := hcalm.rd hd10.ok.w
      rw [e76] at hl76 hS76
      refine wl rfl rfl rfl (p_mv rfl) ?_
      refine wl rfl rfl rfl (p_ext rfl rfl) ?_
      refine wl rfl rfl rfl (p_ext rfl rfl) ?_
      refine wl rfl rfl rfl (p_as rfl) ?_
      refine wl rfl rfl rfl (p_as rfl) ?_
      refine wl_nil ?_
      refine x_seq ?_
      refine wc_seq ?_
      refine wc_region ?_
      refine wl rfl rfl rfl (p_mv rfl) ?_
      refine wl rfl rfl rfl (p_eq rfl rfl) ?_
      refine wl rfl rfl rfl (p_mv rfl) ?_
      refine wl_know (d := 81) (b' := true) rfl (decide_eq_true (by rw [e76])) ?_
      refine wl_g (gd_ rfl rfl rfl rfl rfl rfl) rfl rfl (p_mv rfl) ?_
      refine wl_g (gd_ rfl rfl rfl rfl rfl rfl) rfl rfl (p_bts Try.underlying29 Try.underlying5 Try.underlying9 rfl ((hS76).mono (G := fun _ => True) (fun _ _ _ => trivial)).len (fun _ e => e ▸ ((hS76).mono (G := fun _ => True) (fun _ _ _ => trivial)).rd)) ?_
      refine wl_g (gd_ rfl rfl rfl rfl rfl rfl) rfl rfl (p_mv rfl) ?_
      refine wl_g (gd_ rfl rfl rfl rfl rfl rfl) rfl rfl (p_bts Try.underlying29 Try.underlying5 Try.underlying9 rfl ((Sl.lit hb23 rfl hd10.ok.w)).len (fun _ e => e ▸ ((Sl.lit hb23 rfl hd10.ok.w)).rd)) ?_
      refine wl_g (gd_ rfl rfl rfl rfl rfl rfl) rfl rfl (p_eqT rfl rfl) ?_
      refine wl rfl rfl rfl (p_pickT rfl rfl) ?_
      refine wl rfl rfl rfl (p_mv rfl) ?_
      refine wl_know (d := 88) (b' := true) rfl (beq_self_eq_true _) ?_
      refine wl_g (gd_ rfl rfl rfl rfl rfl rfl) rfl rfl (p_mv rfl) ?_
      refine wle_g (gd_ rfl rfl rfl rfl rfl rfl) (e_call ent13 rfl rfl (on_any hd10.at_) ?_)
      rintro _ w18 ⟨rfl, hc⟩
      refine ⟨_, rfl, ?_⟩
      have hzw18 := hc.size
      have HC := HC.tr hc
      have hq := hq.no hc
      have hphd10 := hd10.hi
      have hd10 := hd10.no hc
      have hb23 := hb23.ch hc (fun h => h)
      have hS76 := hS76.no hc
      refine wl rfl rfl rfl (p_pickT rfl rfl) ?_
      refine wl rfl rfl rfl (p_mv rfl) ?_
      refine wl_know (d := 92) (b' := true) rfl (by rw [hcalm.off]; rfl) ?_
      refine wle_g (gd_ rfl rfl rfl rfl rfl rfl) (e_call ent16 rfl rfl (lives5_any) ?_)
      rintro _ w19 ⟨rfl, hc⟩
      refine ⟨_, rfl, ?_⟩
      have hzw19 := hc.size
      have HC := HC.tr hc
      have hq := hq.no hc
      have hphd10 := hd10.hi
      have hd10 := hd10.no hc
      have hb23 := hb23.ch hc (fun h => h)
      have hS76 := hS76.no hc
      refine wl rfl rfl rfl (p_pickT rfl rfl) ?_
      refine wl rfl rfl rfl (p_as rfl) ?_
      refine wl_nil ?_
      refine x_seq ?_
      refine wc_ret ?_
      refine fin_run (res1 rfl rfl) ?_
      exact ⟨rfl, HC⟩
end Go.Proofs.Ytcgapjieidmkpaa
