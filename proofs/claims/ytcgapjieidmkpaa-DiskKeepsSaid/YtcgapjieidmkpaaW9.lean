/-
  Own text, printed by a program of mine (wip/gx): what functions of the program do, walked operation by operation.
-/
import Derived.Test.YtcgapjieidmkpaaProg
import Derived.Test.YtcgapjieidmkpaaGxAgg
import Derived.Test.YtcgapjieidmkpaaTab
import Derived.Test.YtcgapjieidmkpaaPlDisk
import Derived.Test.YtcgapjieidmkpaaPlDiskSt
import Derived.Test.YtcgapjieidmkpaaPlDiskOk
import Derived.Test.YtcgapjieidmkpaaPlDiskC
import Derived.Test.YtcgapjieidmkpaaPlActD
import Derived.Test.YtcgapjieidmkpaaPlActs
import Derived.Test.YtcgapjieidmkpaaPlDiskLaw
import Derived.Test.YtcgapjieidmkpaaDTb
import Derived.Test.YtcgapjieidmkpaaDX
import Derived.Test.YtcgapjieidmkpaaDxC
import Derived.Test.YtcgapjieidmkpaaW0
import Derived.Test.YtcgapjieidmkpaaW2
set_option linter.unusedVariables false
namespace Go.Proofs.Ytcgapjieidmkpaa
open Go.RowKit Go.Gx
open Go.Plain
set_option maxHeartbeats 16000000 in
set_option maxRecDepth 20000 in
theorem diskKeeps_walk {w : World} {Aq : Option Addr} {lq cq : Nat} {Fq : Nat → Prop} {q : List ActD} {a : ActD} {bA kA : Option Addr} {bl bc kl kc : Nat} {FB FK : Nat → Prop} (hq : SA w Fq Aq lq cq q) (hB : Sl w FB u8v bA bl bc a.b) (hK : Sl w FK i64 kA kl kc a.keep) (hcq : cq ≤ 1954687338211) (hbz : bc ≤ 140737488351232) (hkz : kc ≤ 17592186044416) (h1a : -9223372036854775808 ≤ a.a) (h2a : a.a ≤ 9223372036854775807) (h1n : -9223372036854775808 ≤ a.n) (h2n : a.n ≤ 9223372036854775807) :
    Calls Try.prog 7 #[.slice Aq lq cq, .agg #[i64 a.kind, i64 a.a, i64 a.n, .slice bA bl bc, .slice kA kl kc]] w fun e w' => e = .returned (.bool true) ∧ Ch No w w' := by
  have hql := hq.len
  have hqc := hq.cap
  have hkl := hK.len
  have hkc := hK.cap
  have hq := hq.old
  have hB := hB.old
  have hK := hK.old
  have HC : Ch No w w := Ch.refl _ _
  refine enter' (args := [.slice Aq lq cq, .agg #[i64 a.kind, i64 a.a, i64 a.n, .slice bA bl bc, .slice kA kl kc]]) (n := 190) Try.func7 rfl rfl rfl ?_
  refine wc_seq ?_
  refine wc_region ?_
  refine wle rfl (e_box (cs := #[i64 a.kind, i64 a.a, i64 a.n, .slice bA bl bc, .slice kA kl kc]) rfl rfl rfl (fun w1 g3 hg3 hb3 hc hsz3 => ?_))
  have hzw1 := hc.size
  have HC := HC.tr hc
  have hq := hq.no hc
  have hB := hB.no hc
  have hK := hK.no hc
  have hge3 : w.heap.size ≤ g3 := by have := HC.size; omega
  refine wl rfl rfl rfl (p_as rfl) ?_
  refine wl_nil ?_
  refine x_seq ?_
  refine wc_seq ?_
  refine wc_region ?_
  refine wle rfl (e_call ent10 rfl rfl (new_any (n := 12) (by omega) (by omega)) ?_)
  rintro _ w2 ⟨g21, rfl, hg21, hdk, hc⟩
  refine ⟨_, rfl, ?_⟩
  have hzw2 := hc.size
  have HC := HC.tr hc
  have hq := hq.no hc
  have hB := hB.no hc
  have hK := hK.no hc
  have hb3 := hb3.ch hc (fun h => h)
  obtain ⟨O21, hd21, hOl21⟩ := CD.first (w0 := w) hdk (newD_ok _) (by omega) (Nat.zero_le _) (Nat.zero_le _) (by omega)
  have hohb3_hd21 : ∀ k, O21 k → k ≠ g3 := fun k h e => by have := hOl21 k h; have := hb3.lt; omega
  refine wl rfl rfl rfl (p_as rfl) ?_
  refine wl_nil ?_
  refine x_seq ?_
  refine wc_seq ?_
  refine wc_seq ?_
  refine wc_region ?_
  refine wl rfl rfl rfl (p_mv rfl) ?_
  refine wl rfl rfl rfl (p_eqPN rfl rfl Try.underlying23) ?_
  refine wl rfl rfl rfl (p_mv rfl) ?_
  refine wl_g (gd_ rfl rfl rfl rfl rfl rfl) rfl rfl (p_mv rfl) ?_
  refine wle_g (gd_ rfl rfl rfl rfl rfl rfl) (e_call ent17 rfl rfl (light_any hq (by omega)) ?_)
  rintro _ w3 ⟨y26, rfl, hc⟩
  refine ⟨_, rfl, ?_⟩
  have hzw3 := hc.size
  have HC := HC.tr hc
  have hq := hq.no hc
  have hB := hB.no hc
  have hK := hK.no hc
  have hb3 := hb3.ch hc (fun h => h)
  have hphd21 := hd21.hi
  have hd21 := hd21.no hc
  refine wl_g (gd_ rfl rfl rfl rfl rfl rfl) rfl rfl (p_not rfl) ?_
  refine wl rfl rfl rfl (p_pickF rfl rfl) ?_
  refine wl rfl rfl rfl (p_mv rfl) ?_
  refine wl_split (d := 29) rfl (fun q29 => ?_) (fun q29 => ?_)
  ·
    refine wl_s (gd_ rfl rfl rfl rfl rfl rfl) rfl rfl ?_
    refine wl_s (gd_ rfl rfl rfl rfl rfl rfl) rfl rfl ?_
    refine wl_s (gd_ rfl rfl rfl rfl rfl rfl) rfl rfl ?_
    refine wl_s (gd_ rfl rfl rfl rfl rfl rfl) rfl rfl ?_
    refine wl rfl rfl rfl (p_pickT rfl rfl) ?_
    refine wl_nil ?_
    refine x_seq ?_
    refine wc_yes rfl (rfl) ?_
    refine wc_seq ?_
    refine wc_region ?_
    refine wl rfl rfl rfl (p_mv rfl) ?_
    refine wl rfl rfl rfl (p_nePN rfl rfl Try.underlying23) ?_
    refine wl rfl rfl rfl (p_mv rfl) ?_
    refine wle_g (gd_ rfl rfl rfl rfl rfl rfl) (e_call ent16 rfl rfl (lives5_any) ?_)
    rintro _ w4 ⟨rfl, hc⟩
    refine ⟨_, rfl, ?_⟩
    have hzw4 := hc.size
    have HC := HC.tr hc
    have hq := hq.no hc
    have hB := hB.no hc
    have hK := hK.no hc
    have hb3 := hb3.ch hc (fun h => h)
    have hphd21 := hd21.hi
    have hd21 := hd21.no hc
    refine wl rfl rfl rfl (p_pickT rfl rfl) ?_
    refine wl rfl rfl rfl (p_as rfl) ?_
    refine wl_nil ?_
    refine x_seq ?_
    refine wc_ret ?_
    refine x_then_ret ?_
    refine fin_run (res1 rfl rfl) ?_
    exact ⟨rfl, HC⟩
  ·
    refine wl_g (gd_ rfl rfl rfl rfl rfl rfl) rfl rfl (p_ldA (cs := [i64 a.kind, i64 a.a, i64 a.n, .slice bA bl bc, .slice kA kl kc]) Try.underlying37 rfl sz37 rfl (fun _ e => e ▸ rngL hb3)) ?_
    have hltg3 := hb3.lt
    refine wle_g (gd_ rfl rfl rfl rfl rfl rfl) (e_bslC (E := 37) rfl rfl (fun _ => by kernel_rfl) (fun w5 g31 hg31 hb31 hc hsz31 => ?_))
    have hzw5 := hc.size
    have HC := HC.tr hc
    have hq := hq.no hc
    have hB := hB.no hc
    have hK := hK.no hc
    have hb3 := hb3.ch hc (fun h => h)
    have hphd21 := hd21.hi
    have hd21 := hd21.no hc
    have hQ31 := SA.one (r := ⟨a.kind, a.a, a.n, bA, bl, bc, kA, kl, kc⟩) (a := a) hb31 ⟨rfl, rfl, rfl, hB, hK, hbz, hkz, h1a, h2a, h1n, h2n⟩
    refine wle_g (gd_ rfl rfl rfl rfl rfl rfl) (e_call ent17 rfl rfl (light_any hQ31 (by omega)) ?_)
    rintro _ w6 ⟨y32, rfl, hc⟩
    refine ⟨_, rfl, ?_⟩
    have hzw6 := hc.size
    have HC := HC.tr hc
    have hq := hq.no hc
    have hB := hB.no hc
    have hK := hK.no hc
    have hb3 := hb3.ch hc (fun h => h)
    have hphd21 := hd21.hi
    have hd21 := hd21.no hc
    refine wl_g (gd_ rfl rfl rfl rfl rfl rfl) rfl rfl (p_not rfl) ?_
    refine wl rfl rfl rfl (p_pickF rfl rfl) ?_
    refine wl_nil ?_
    refine x_seq ?_
    refine wc_if rfl (fun c0 => ?_) (fun c0 => ?_)
    ·
      refine wc_seq ?_
      refine wc_region ?_
      refine wl rfl rfl rfl (p_mv rfl) ?_
      refine wl rfl rfl rfl (p_nePN rfl rfl Try.underlying23) ?_
      refine wl rfl rfl rfl (p_mv rfl) ?_
      refine wle_g (gd_ rfl rfl rfl rfl rfl rfl) (e_call ent16 rfl rfl (lives5_any) ?_)
      rintro _ w7 ⟨rfl, hc⟩
      refine ⟨_, rfl, ?_⟩
      have hzw7 := hc.size
      have HC := HC.tr hc
      have hq := hq.no hc
      have hB := hB.no hc
      have hK := hK.no hc
      have hb3 := hb3.ch hc (fun h => h)
      have hphd21 := hd21.hi
      have hd21 := hd21.no hc
      refine wl rfl rfl rfl (p_pickT rfl rfl) ?_
      refine wl rfl rfl rfl (p_as rfl) ?_
      refine wl_nil ?_
      refine x_seq ?_
      refine wc_ret ?_
      refine x_then_ret ?_
      refine fin_run (res1 rfl rfl) ?_
      exact ⟨rfl, HC⟩
    ·
      refine wc_skip ?_
      refine x_seq ?_
      refine wc_seq ?_
      refine wc_seq ?_
      refine wc_region ?_
      refine wl rfl rfl rfl (p_mv rfl) ?_
      refine wl rfl rfl rfl (p_lenS Try.underlying34 rfl) ?_
      refine wl rfl rfl rfl (p_mv rfl) ?_
      refine wl_nil ?_
      refine x_seq ?_
      refine wc_block ?_
      refine wc_loop (e' := [(3, .pointer (some ⟨g3, 0, none⟩)), (4, .bool false), (5, .pointer (some ⟨g21, 0, none⟩)), (40, .slice Aq lq cq), (41, i64 (lq : Int)), (42, i64 ((0) : Int))]) (fun mz ez uz => ∃ i : Nat, ∃ O : Nat → Prop, ∃ dd : DS, mz = lq - i ∧ ez = [(3, .pointer (some ⟨g3, 0, none⟩)), (4, .bool false), (5, .pointer (some ⟨g21, 0, none⟩)), (40, .slice Aq lq cq), (41, i64 (lq : Int)), (42, i64 (i : Int))] ∧ (i ≤ lq) ∧ (CD TD w uz O g21 12 dd) ∧ (CalmD dd 12) ∧ (Blk uz g3 37 #[i64 a.kind, i64 a.a, i64 a.n, .slice bA bl bc, .slice kA kl kc]) ∧ (∀ k, O k → k ≠ g3) ∧ (SA uz (fun k => k < w.heap.size) Aq lq cq q) ∧ (Sl uz (fun k => k < w.heap.size) i64 kA kl kc a.keep) ∧ (Ch No w uz))
        ⟨rfl, rfl, rfl, rfl, rfl, rfl, trivial⟩ ⟨0, O21, newD 12, rfl, rfl, by omega, hd21, calm_new 12, hb3, hohb3_hd21, hq, hK, HC⟩ ?_
      rintro m0 e w8 ⟨i, O, dd, hm0, rfl, hi, hd21, hcalm, hb3, hohb3_hd21, hq, hK, HC⟩
      have hzw8 := HC.size
      refine wc_seq ?_
      refine wc_region ?_
      refine wl rfl rfl rfl (p_lt rfl rfl) ?_
      refine wl_nil ?_
      refine x_seq ?_
      refine wc_seq ?_
      refine wc_if rfl (fun c1 => ?_) (fun c1 => ?_)
      ·
        have c1 := of_decide_eq_true c1
        refine wc_skip ?_
        refine x_seq ?_
        refine wc_seq ?_
        refine wc_block ?_
        refine wc_seq ?_
        refine wc_region ?_
        obtain ⟨a44, ha44, b44, o44, bA44, bl44, bc44, kA44, kl44, kc44, hA44, hr44, hB44, hK44, hbz44, hkz44, h1a44, h2a44, h1n44, h2n44⟩ := hq.opn5 (i := i) (by omega)
        have hBl44 := hB44.len
        have hBc44 := hB44.cap
        have hKl44 := hK44.len
        have hKc44 := hK44.cap
        refine wl rfl rfl rfl (p_ixS (j := i * 5) Try.underlying34 sz37 rfl hA44 rfl (by omega) (by omega) (congrArg (· * 5) (Int.toNat_natCast _))) ?_
        refine wl rfl rfl rfl (p_ldA (cs := [i64 a44.kind, i64 a44.a, i64 a44.n, .slice bA44 bl44 bc44, .slice kA44 kl44 kc44]) Try.underlying37 rfl sz37 rfl (fun _ e => e ▸ hr44)) ?_
        have hltg3 := hb3.lt
        refine wle rfl (e_alloc (cs := #[.int .i64 0, .int .i64 0, .int .i64 0, .slice none 0 0, .slice none 0 0]) rfl (by rfl) rfl (fun w10 g7 hg7 hb7 hc hsz7 => ?_))
        have hzw10 := hc.size
        have HC := HC.tr hc
        have hq := hq.no hc
        have hphd21 := hd21.hi
        have hd21 := hd21.no hc
        have hb3 := hb3.ch hc (fun h => h)
        have hK := hK.no hc
        have hB44 := hB44.no hc
        have hK44 := hK44.no hc
        have hohb7_hd21 : ∀ k, O k → k ≠ g7 := fun k h e => by have := hphd21 k h; omega
        have hge7 : w.heap.size ≤ g7 := by have := HC.size; omega
        have neg3_7 : g3 < g7 := by omega
        refine wle rfl (e_stW (vs := [i64 a44.kind, i64 a44.a, i64 a44.n, .slice bA44 bl44 bc44, .slice kA44 kl44 kc44]) sz37 (allOne rfl) rfl rfl hb7 (by rfl) (fun w11 hb7 hc hsz => ?_))
        have hzw11 := hc.size
        have HC := HC.trans hc (fun _ _ h => h) (fun k hk ht => absurd ht (by omega))
        have hq := hq.ch hc (by intro k hk ht; have h2 : k < w.heap.size := hk; first | omega | (dsimp only at *; omega))
        have hd21 := hd21.other hc (fun k hk ht => by have h1 := hohb7_hd21 k hk; have h2 : k = g7 := ht; omega)
        have hb3 := hb3.ch hc (by omega)
        first | have hK := hK.ch hc (by intro k hk ht; first | omega | (dsimp only at *; omega)) | have hK := hK.chT hc (by intro k hz hk ht; first | omega | (dsimp only at *; omega))
        first | have hB44 := hB44.ch hc (by intro k hk ht; first | omega | (dsimp only at *; omega)) | have hB44 := hB44.chT hc (by intro k hz hk ht; first | omega | (dsimp only at *; omega))
        first | have hK44 := hK44.ch hc (by intro k hk ht; first | omega | (dsimp only at *; omega)) | have hK44 := hK44.chT hc (by intro k hz hk ht; first | omega | (dsimp only at *; omega))
        refine wl_nil ?_
        refine x_seq ?_
        refine wc_seq ?_
        refine wc_seq ?_
        refine wc_region ?_
        refine wl rfl rfl rfl (p_fld (j := 0) Try.underlying37 rfl ⟨_, by rfl⟩ rfl rfl) ?_
        refine wl rfl rfl rfl (p_ld Try.underlying3 rfl rfl (ld (hb7.cell rfl))) ?_
        refine wl rfl rfl rfl (p_eq rfl rfl) ?_
        refine wl rfl rfl rfl (p_mv rfl) ?_
        refine wl_split (d := 49) rfl (fun q49 => ?_) (fun q49 => ?_)
        ·
          have q49 := of_decide_eq_true q49
          refine wl_g (gd_ rfl rfl rfl rfl rfl rfl) rfl rfl (p_fld (j := 3) Try.underlying37 rfl ⟨_, by rfl⟩ rfl rfl) ?_
          refine wl_g (gd_ rfl rfl rfl rfl rfl rfl) rfl rfl (p_ld Try.underlying29 rfl rfl (ld (hb7.cell rfl))) ?_
          refine wl_g (gd_ rfl rfl rfl rfl rfl rfl) rfl rfl (p_lenS Try.underlying29 rfl) ?_
          refine wl_g (gd_ rfl rfl rfl rfl rfl rfl) rfl rfl (p_lt rfl rfl) ?_
          refine wl rfl rfl rfl (p_pickT rfl rfl) ?_
          refine wl_nil ?_
          refine x_seq ?_
          refine wc_if rfl (fun c2 => ?_) (fun c2 => ?_)
          ·
            have c2 := of_decide_eq_true c2
            refine wc_region ?_
            refine wl rfl rfl rfl (p_mv rfl) ?_
            refine wl rfl rfl rfl (p_fld (j := 1) Try.underlying37 rfl ⟨_, by rfl⟩ rfl rfl) ?_
            refine wl rfl rfl rfl (p_ld Try.underlying3 rfl rfl (ld (hb7.cell rfl))) ?_
            refine wl rfl rfl rfl (p_fld (j := 3) Try.underlying37 rfl ⟨_, by rfl⟩ rfl rfl) ?_
            refine wl rfl rfl rfl (p_ld Try.underlying29 rfl rfl (ld (hb7.cell rfl))) ?_
            refine wle rfl (e_call ent12 rfl rfl (write_any hd21.at_ hd21.ok hd21.hn (fun _ h => .inr h) hd21.arm (by omega) (by omega) (hB44) (fun k hk => (fun hf => hf.elim (fun h => by have h1 := hd21.lo k h; have h2 : k < w.heap.size := hk; omega) (fun h => by have h2 : k < w.heap.size := hk; omega))) (by omega)) ?_)
            rintro _ w12 ⟨rfl, hdk, hc⟩
            refine ⟨_, rfl, ?_⟩
            obtain ⟨O60, hdn, hO60, hc⟩ := hd21.next hdk hc (wr_ok hd21.ok _ _) (Nat.le_trans (wr_arm _ _) hd21.arm) (by rw [wr_keep]; exact hd21.kp) (by omega)
            have hzw12 := hc.size
            have HC := HC.trans hc (fun _ _ h => h) (fun k hk ht => absurd hk (by have := hd21.lo k ht; omega))
            have hq := hq.ch hc (fun k hk ht => by have h1 := hd21.lo k ht; have h2 : k < w.heap.size := hk; omega)
            have hltg3 := hb3.lt
            have hb3 := hb3.ch hc (fun ht => hohb3_hd21 _ ht rfl)
            have hK := hK.ch hc (fun k hk ht => by have h1 := hd21.lo k ht; have h2 : k < w.heap.size := hk; omega)
            have hB44 := hB44.ch hc (fun k hk ht => by have h1 := hd21.lo k ht; have h2 : k < w.heap.size := hk; omega)
            have hK44 := hK44.ch hc (fun k hk ht => by have h1 := hd21.lo k ht; have h2 : k < w.heap.size := hk; omega)
            have hltg7 := hb7.lt
            have hb7 := hb7.ch hc (fun ht => hohb7_hd21 _ ht rfl)
            have hohb3_hd21 : ∀ k, O60 k → k ≠ g3 := fun k h => (hO60 k h).elim (hohb3_hd21 k) (fun h => by omega)
            have hohb7_hd21 : ∀ k, O60 k → k ≠ g7 := fun k h => (hO60 k h).elim (hohb7_hd21 k) (fun h => by omega)
            have hd21 := hdn
            have hcalm := hcalm.wrC a44.a a44.b
            refine wl_nil ?_
            refine x_seq ?_
            refine wc_seq ?_
            refine wc_region ?_
            refine wl rfl rfl rfl (p_fld (j := 0) Try.underlying37 rfl ⟨_, by rfl⟩ rfl rfl) ?_
            refine wl rfl rfl rfl (p_ld Try.underlying3 rfl rfl (ld (hb7.cell rfl))) ?_
            refine wl rfl rfl rfl (p_eq rfl rfl) ?_
            refine wl_nil ?_
            refine x_seq ?_
            refine wc_if rfl (fun c3 => ?_) (fun c3 => ?_)
            ·
              have c3 := of_decide_eq_true c3
              refine wc_region ?_
              refine wl rfl rfl rfl (p_mv rfl) ?_
              refine wle rfl (e_call ent18 rfl rfl (sync_any hd21.at_ hd21.ok hd21.hn (fun _ h => .inr h) hd21.arm) ?_)
              rintro _ w13 ⟨rfl, hdk, hc⟩
              refine ⟨_, rfl, ?_⟩
              obtain ⟨O65, hdn, hO65, hc⟩ := hd21.next hdk hc (sy_ok hd21.ok) (Nat.le_trans sy_arm hd21.arm) (by rw [sy_keep]; exact hd21.kp) (by omega)
              have hzw13 := hc.size
              have HC := HC.trans hc (fun _ _ h => h) (fun k hk ht => absurd hk (by have := hd21.lo k ht; omega))
              have hq := hq.ch hc (fun k hk ht => by have h1 := hd21.lo k ht; have h2 : k < w.heap.size := hk; omega)
              have hltg3 := hb3.lt
              have hb3 := hb3.ch hc (fun ht => hohb3_hd21 _ ht rfl)
              have hK := hK.ch hc (fun k hk ht => by have h1 := hd21.lo k ht; have h2 : k < w.heap.size := hk; omega)
              have hB44 := hB44.ch hc (fun k hk ht => by have h1 := hd21.lo k ht; have h2 : k < w.heap.size := hk; omega)
              have hK44 := hK44.ch hc (fun k hk ht => by have h1 := hd21.lo k ht; have h2 : k < w.heap.size := hk; omega)
              have hltg7 := hb7.lt
              have hb7 := hb7.ch hc (fun ht => hohb7_hd21 _ ht rfl)
              have hohb3_hd21 : ∀ k, O65 k → k ≠ g3 := fun k h => (hO65 k h).elim (hohb3_hd21 k) (fun h => by omega)
              have hohb7_hd21 : ∀ k, O65 k → k ≠ g7 := fun k h => (hO65 k h).elim (hohb7_hd21 k) (fun h => by omega)
              have hd21 := hdn
              have hcalm := hcalm.sy.2.2.2
              refine wl_nil ?_
              refine x_in_normal ?_
              refine x_seq ?_
              refine wc_region ?_
              refine wl rfl rfl rfl (p_add rfl rfl (w64 (by omega))) ?_
              refine wl rfl rfl rfl (p_mv rfl) ?_
              refine wl_nil ?_
              refine x_round (e' := [(3, .pointer (some ⟨g3, 0, none⟩)), (4, .bool false), (5, .pointer (some ⟨g21, 0, none⟩)), (40, .slice Aq lq cq), (41, i64 (lq : Int)), (42, i64 ((i + 1) : Int))]) ⟨rfl, rfl, rfl, rfl, rfl, rfl, trivial⟩ (by rw [hm0]; omega) ⟨i + 1, _, _, rfl, rfl, by omega, hd21, hcalm, hb3, hohb3_hd21, hq, hK, HC⟩
            ·
              have c3 := of_decide_eq_false c3
              refine wc_skip ?_
              refine x_in_normal ?_
              refine x_seq ?_
              refine wc_region ?_
              refine wl rfl rfl rfl (p_add rfl rfl (w64 (by omega))) ?_
              refine wl rfl rfl rfl (p_mv rfl) ?_
              refine wl_nil ?_
              refine x_round (e' := [(3, .pointer (some ⟨g3, 0, none⟩)), (4, .bool false), (5, .pointer (some ⟨g21, 0, none⟩)), (40, .slice Aq lq cq), (41, i64 (lq : Int)), (42, i64 ((i + 1) : Int))]) ⟨rfl, rfl, rfl, rfl, rfl, rfl, trivial⟩ (by rw [hm0]; omega) ⟨i + 1, _, _, rfl, rfl, by omega, hd21, hcalm, hb3, hohb3_hd21, hq, hK, HC⟩
          ·
            have c2 := of_decide_eq_false c2
            refine wc_skip ?_
            refine x_seq ?_
            refine wc_seq ?_
            refine wc_region ?_
            refine wl rfl rfl rfl (p_fld (j := 0) Try.underlying37 rfl ⟨_, by rfl⟩ rfl rfl) ?_
            refine wl rfl rfl rfl (p_ld Try.underlying3 rfl rfl (ld (hb7.cell rfl))) ?_
            refine wl rfl rfl rfl (p_eq rfl rfl) ?_
            refine wl_nil ?_
            refine x_seq ?_
            refine wc_if rfl (fun c3 => ?_) (fun c3 => ?_)
            ·
              have c3 := of_decide_eq_true c3
              refine wc_region ?_
              refine wl rfl rfl rfl (p_mv rfl) ?_
              refine wle rfl (e_call ent18 rfl rfl (sync_any hd21.at_ hd21.ok hd21.hn (fun _ h => .inr h) hd21.arm) ?_)
              rintro _ w14 ⟨rfl, hdk, hc⟩
              refine ⟨_, rfl, ?_⟩
              obtain ⟨O65, hdn, hO65, hc⟩ := hd21.next hdk hc (sy_ok hd21.ok) (Nat.le_trans sy_arm hd21.arm) (by rw [sy_keep]; exact hd21.kp) (by omega)
              have hzw14 := hc.size
              have HC := HC.trans hc (fun _ _ h => h) (fun k hk ht => absurd hk (by have := hd21.lo k ht; omega))
              have hq := hq.ch hc (fun k hk ht => by have h1 := hd21.lo k ht; have h2 : k < w.heap.size := hk; omega)
              have hltg3 := hb3.lt
              have hb3 := hb3.ch hc (fun ht => hohb3_hd21 _ ht rfl)
              have hK := hK.ch hc (fun k hk ht => by have h1 := hd21.lo k ht; have h2 : k < w.heap.size := hk; omega)
              have hB44 := hB44.ch hc (fun k hk ht => by have h1 := hd21.lo k ht; have h2 : k < w.heap.size := hk; omega)
              have hK44 := hK44.ch hc (fun k hk ht => by have h1 := hd21.lo k ht; have h2 : k < w.heap.size := hk; omega)
              have hltg7 := hb7.lt
              have hb7 := hb7.ch hc (fun ht => hohb7_hd21 _ ht rfl)
              have hohb3_hd21 : ∀ k, O65 k → k ≠ g3 := fun k h => (hO65 k h).elim (hohb3_hd21 k) (fun h => by omega)
              have hohb7_hd21 : ∀ k, O65 k → k ≠ g7 := fun k h => (hO65 k h).elim (hohb7_hd21 k) (fun h => by omega)
              have hd21 := hdn
              have hcalm := hcalm.sy.2.2.2
              refine wl_nil ?_
              refine x_in_normal ?_
              refine x_seq ?_
              refine wc_region ?_
              refine wl rfl rfl rfl (p_add rfl rfl (w64 (by omega))) ?_
              refine wl rfl rfl rfl (p_mv rfl) ?_
              refine wl_nil ?_
              refine x_round (e' := [(3, .pointer (some ⟨g3, 0, none⟩)), (4, .bool false), (5, .pointer (some ⟨g21, 0, none⟩)), (40, .slice Aq lq cq), (41, i64 (lq : Int)), (42, i64 ((i + 1) : Int))]) ⟨rfl, rfl, rfl, rfl, rfl, rfl, trivial⟩ (by rw [hm0]; omega) ⟨i + 1, _, _, rfl, rfl, by omega, hd21, hcalm, hb3, hohb3_hd21, hq, hK, HC⟩
            ·
              have c3 := of_decide_eq_false c3
              refine wc_skip ?_
              refine x_in_normal ?_
              refine x_seq ?_
              refine wc_region ?_
              refine wl rfl rfl rfl (p_add rfl rfl (w64 (by omega))) ?_
              refine wl rfl rfl rfl (p_mv rfl) ?_
              refine wl_nil ?_
              refine x_round (e' := [(3, .pointer (some ⟨g3, 0, none⟩)), (4, .bool false), (5, .pointer (some ⟨g21, 0, none⟩)), (40, .slice Aq lq cq), (41, i64 (lq : Int)), (42, i64 ((i + 1) : Int))]) ⟨rfl, rfl, rfl, rfl, rfl, rfl, trivial⟩ (by rw [hm0]; omega) ⟨i + 1, _, _, rfl, rfl, by omega, hd21, hcalm, hb3, hohb3_hd21, hq, hK, HC⟩
        ·
          have q49 := of_decide_eq_false q49
          refine wl_s (gd_ rfl rfl rfl rfl rfl rfl) rfl rfl ?_
          refine wl_s (gd_ rfl rfl rfl rfl rfl rfl) rfl rfl ?_
          refine wl_s (gd_ rfl rfl rfl rfl rfl rfl) rfl rfl ?_
          refine wl_s (gd_ rfl rfl rfl rfl rfl rfl) rfl rfl ?_
          refine wl rfl rfl rfl (p_pickF rfl rfl) ?_
          refine wl_nil ?_
          refine x_seq ?_
          refine wc_no rfl (rfl) ?_
          refine wc_skip ?_
          refine x_seq ?_
          refine wc_seq ?_
          refine wc_region ?_
          refine wl rfl rfl rfl (p_fld (j := 0) Try.underlying37 rfl ⟨_, by rfl⟩ rfl rfl) ?_
          refine wl rfl rfl rfl (p_ld Try.underlying3 rfl rfl (ld (hb7.cell rfl))) ?_
          refine wl rfl rfl rfl (p_eq rfl rfl) ?_
          refine wl_nil ?_
          refine x_seq ?_
          refine wc_if rfl (fun c3 => ?_) (fun c3 => ?_)
          ·
            have c3 := of_decide_eq_true c3
            refine wc_region ?_
            refine wl rfl rfl rfl (p_mv rfl) ?_
            refine wle rfl (e_call ent18 rfl rfl (sync_any hd21.at_ hd21.ok hd21.hn (fun _ h => .inr h) hd21.arm) ?_)
            rintro _ w15 ⟨rfl, hdk, hc⟩
            refine ⟨_, rfl, ?_⟩
            obtain ⟨O65, hdn, hO65, hc⟩ := hd21.next hdk hc (sy_ok hd21.ok) (Nat.le_trans sy_arm hd21.arm) (by rw [sy_keep]; exact hd21.kp) (by omega)
            have hzw15 := hc.size
            have HC := HC.trans hc (fun _ _ h => h) (fun k hk ht => absurd hk (by have := hd21.lo k ht; omega))
            have hq := hq.ch hc (fun k hk ht => by have h1 := hd21.lo k ht; have h2 : k < w.heap.size := hk; omega)
            have hltg3 := hb3.lt
            have hb3 := hb3.ch hc (fun ht => hohb3_hd21 _ ht rfl)
            have hK := hK.ch hc (fun k hk ht => by have h1 := hd21.lo k ht; have h2 : k < w.heap.size := hk; omega)
            have hB44 := hB44.ch hc (fun k hk ht => by have h1 := hd21.lo k ht; have h2 : k < w.heap.size := hk; omega)
            have hK44 := hK44.ch hc (fun k hk ht => by have h1 := hd21.lo k ht; have h2 : k < w.heap.size := hk; omega)
            have hltg7 := hb7.lt
            have hb7 := hb7.ch hc (fun ht => hohb7_hd21 _ ht rfl)
            have hohb3_hd21 : ∀ k, O65 k → k ≠ g3 := fun k h => (hO65 k h).elim (hohb3_hd21 k) (fun h => by omega)
            have hohb7_hd21 : ∀ k, O65 k → k ≠ g7 := fun k h => (hO65 k h).elim (hohb7_hd21 k) (fun h => by omega)
            have hd21 := hdn
            have hcalm := hcalm.sy.2.2.2
            refine wl_nil ?_
            refine x_in_normal ?_
            refine x_seq ?_
            refine wc_region ?_
            refine wl rfl rfl rfl (p_add rfl rfl (w64 (by omega))) ?_
            refine wl rfl rfl rfl (p_mv rfl) ?_
            refine wl_nil ?_
            refine x_round (e' := [(3, .pointer (some ⟨g3, 0, none⟩)), (4, .bool false), (5, .pointer (some ⟨g21, 0, none⟩)), (40, .slice Aq lq cq), (41, i64 (lq : Int)), (42, i64 ((i + 1) : Int))]) ⟨rfl, rfl, rfl, rfl, rfl, rfl, trivial⟩ (by rw [hm0]; omega) ⟨i + 1, _, _, rfl, rfl, by omega, hd21, hcalm, hb3, hohb3_hd21, hq, hK, HC⟩
          ·
            have c3 := of_decide_eq_false c3
            refine wc_skip ?_
            refine x_in_normal ?_
            refine x_seq ?_
            refine wc_region ?_
            refine wl rfl rfl rfl (p_add rfl rfl (w64 (by omega))) ?_
            refine wl rfl rfl rfl (p_mv rfl) ?_
            refine wl_nil ?_
            refine x_round (e' := [(3, .pointer (some ⟨g3, 0, none⟩)), (4, .bool false), (5, .pointer (some ⟨g21, 0, none⟩)), (40, .slice Aq lq cq), (41, i64 (lq : Int)), (42, i64 ((i + 1) : Int))]) ⟨rfl, rfl, rfl, rfl, rfl, rfl, trivial⟩ (by rw [hm0]; omega) ⟨i + 1, _, _, rfl, rfl, by omega, hd21, hcalm, hb3, hohb3_hd21, hq, hK, HC⟩
      ·
        have c1 := of_decide_eq_false c1
        refine wc_exit ?_
        refine x_then_exit ?_
        refine x_then_exit ?_
        refine x_in_here ?_
        refine x_seq ?_
        refine wc_seq ?_
        refine wc_region ?_
        refine wl rfl rfl rfl (p_mv rfl) ?_
        refine wle rfl (e_call ent19 rfl rfl (dirty_any hd21.at_ (Nat.le_trans (ord_le hd21.ok) hd21.hn)) ?_)
        rintro _ w16 ⟨A68, c68, l68, rfl, hl68, hW68, hc⟩
        refine ⟨_, rfl, ?_⟩
        have hzw16 := hc.size
        have HC := HC.tr hc
        have hq := hq.no hc
        have hphd21 := hd21.hi
        have hd21 := hd21.no hc
        have hb3 := hb3.ch hc (fun h => h)
        have hK := hK.no hc
        have hS68 := hW68.sl
        have hlb68 : l68 ≤ 4096 := by rw [hl68]; exact Nat.le_trans (ord_le hd21.ok) hd21.hn
        have hS68 := hS68.mono (G := fun k => w8.heap.size ≤ k ∧ k < w16.heap.size) (fun k h1 h2 => ⟨by first | exact h2 | (have h3 : k = _ := h2; omega), h1⟩)
        have hohS68_hd21 : ∀ k, O k → k < w8.heap.size ∨ w16.heap.size ≤ k := fun k h => .inl (hphd21 k h)
        refine wl rfl rfl rfl (p_as rfl) ?_
        refine wl_nil ?_
        refine x_seq ?_
        refine wc_seq ?_
        refine wc_region ?_
        refine wl rfl rfl rfl (p_mv rfl) ?_
        refine wl rfl rfl rfl (p_mv rfl) ?_
        refine wle rfl (e_call ent22 rfl rfl (size_any hd21.at_ hd21.hn) ?_)
        rintro _ w17 ⟨rfl, hc⟩
        refine ⟨_, rfl, ?_⟩
        have hzw17 := hc.size
        have HC := HC.tr hc
        have hq := hq.no hc
        have hphd21 := hd21.hi
        have hd21 := hd21.no hc
        have hb3 := hb3.ch hc (fun h => h)
        have hK := hK.no hc
        have hS68 := hS68.no hc
        refine wle rfl (e_call ent14 rfl rfl (read_any (a := 0) hd21.at_ hd21.ok hd21.hn (by omega) (by omega) (by omega) (by omega)) ?_)
        rintro _ w18 ⟨A73, l73, c73, rfl, hl73, hS73, hc⟩
        refine ⟨_, rfl, ?_⟩
        have hzw18 := hc.size
        have HC := HC.tr hc
        have hq := hq.no hc
        have hphd21 := hd21.hi
        have hd21 := hd21.no hc
        have hb3 := hb3.ch hc (fun h => h)
        have hK := hK.no hc
        have hS68 := hS68.no hc
        have hS73 := hS73.mono (G := fun k => w17.heap.size ≤ k ∧ k < w18.heap.size) (fun k h1 h2 => ⟨by first | exact h2 | (have h3 : k = _ := h2; omega), h1⟩)
        have hohS73_hd21 : ∀ k, O k → k < w17.heap.size ∨ w18.heap.size ≤ k := fun k h => .inl (hphd21 k h)
        have e73 : rdS 12 dd 0 ((32 * 12 : Nat) : Int) = (dd.now, 0) := hcalm.rd hd21.ok.w
        rw [e73] at hl73 hS73
        obtain rfl : l73 = 384 := by rw [hl73]; exact hd21.ok.w
        have hok21 := hd21.ok
        refine wl rfl rfl rfl (p_mv rfl) ?_
        refine wl rfl rfl rfl (p_ext rfl rfl) ?_
        refine wl rfl rfl rfl (p_ext rfl rfl) ?_
        refine wl rfl rfl rfl (p_as rfl) ?_
        refine wl rfl rfl rfl (p_as rfl) ?_
        refine wl_nil ?_
        refine x_seq ?_
        refine wc_seq ?_
        refine wc_region ?_
        refine wl rfl rfl rfl (p_mv rfl) ?_
        have hltg3 := hb3.lt
        refine wle rfl (e_call ent23 rfl rfl (copy_any hd21.at_ hd21.ok hd21.hn (by omega) hd21.kp) ?_)
        rintro _ w19 ⟨g77, rfl, hdk, hc⟩
        refine ⟨_, rfl, ?_⟩
        have hzw19 := hc.size
        have HC := HC.tr hc
        have hq := hq.no hc
        have hphd21 := hd21.hi
        have hd21 := hd21.no hc
        have hb3 := hb3.ch hc (fun h => h)
        have hK := hK.no hc
        have hS68 := hS68.no hc
        have hS73 := hS73.no hc
        obtain ⟨O77, hd77, hOl77⟩ := CD.first (w0 := w) hdk hd21.ok hd21.hn hd21.arm hd21.kp (by omega)
        have aphd21_hd77 : ∀ k, O k → ¬ O77 k := fun k h1 h2 => by have := hphd21 k h1; have := hOl77 k h2; omega
        have hohb3_hd77 : ∀ k, O77 k → k ≠ g3 := fun k h e => by have := hOl77 k h; have := hltg3; omega
        have hohS68_hd77 : ∀ k, O77 k → k < w8.heap.size ∨ w16.heap.size ≤ k := fun k h => .inr (by have := hOl77 k h; omega)
        have hohS73_hd77 : ∀ k, O77 k → k < w17.heap.size ∨ w18.heap.size ≤ k := fun k h => .inr (by have := hOl77 k h; omega)
        refine wl rfl rfl rfl (p_mv rfl) ?_
        have hltg3 := hb3.lt
        refine wle rfl (e_call ent23 rfl rfl (copy_any hd21.at_ hd21.ok hd21.hn (by omega) hd21.kp) ?_)
        rintro _ w20 ⟨g79, rfl, hdk, hc⟩
        refine ⟨_, rfl, ?_⟩
        have hzw20 := hc.size
        have HC := HC.tr hc
        have hq := hq.no hc
        have hphd21 := hd21.hi
        have hd21 := hd21.no hc
        have hb3 := hb3.ch hc (fun h => h)
        have hK := hK.no hc
        have hS68 := hS68.no hc
        have hS73 := hS73.no hc
        have hphd77 := hd77.hi
        have hd77 := hd77.no hc
        obtain ⟨O79, hd79, hOl79⟩ := CD.first (w0 := w) hdk hd21.ok hd21.hn hd21.arm hd21.kp (by omega)
        have aphd21_hd79 : ∀ k, O k → ¬ O79 k := fun k h1 h2 => by have := hphd21 k h1; have := hOl79 k h2; omega
        have hohb3_hd79 : ∀ k, O79 k → k ≠ g3 := fun k h e => by have := hOl79 k h; have := hltg3; omega
        have hohS68_hd79 : ∀ k, O79 k → k < w8.heap.size ∨ w16.heap.size ≤ k := fun k h => .inr (by have := hOl79 k h; omega)
        have hohS73_hd79 : ∀ k, O79 k → k < w17.heap.size ∨ w18.heap.size ≤ k := fun k h => .inr (by have := hOl79 k h; omega)
        have aphd77_hd79 : ∀ k, O77 k → ¬ O79 k := fun k h1 h2 => by have := hphd77 k h1; have := hOl79 k h2; omega
        refine wl rfl rfl rfl (p_as rfl) ?_
        refine wl rfl rfl rfl (p_as rfl) ?_
        refine wl_nil ?_
        refine x_seq ?_
        refine wc_seq ?_
        refine wc_seq ?_
        refine wc_region ?_
        refine wl rfl rfl rfl (p_mv rfl) ?_
        refine wl rfl rfl rfl (p_ne rfl rfl) ?_
        refine wl rfl rfl rfl (p_mv rfl) ?_
        refine wl_know (d := 82) (b' := false) rfl (decide_eq_false (by rw [e73]; exact fun h => h rfl)) ?_
        refine wl_g (gd_ rfl rfl rfl rfl rfl rfl) rfl rfl (p_mv rfl) ?_
        refine wl_g (gd_ rfl rfl rfl rfl rfl rfl) rfl rfl (p_mv rfl) ?_
        refine wle_g (gd_ rfl rfl rfl rfl rfl rfl) (e_call ent20 rfl rfl (crash_any (tn := 0) hd77.at_ ((sl_nv hS68)) (by have := ((sl_nv hS68)).cap; omega) (fun k hk => .inl (fun hf => hf.elim (fun h => by have h1 := hohS68_hd77 k h; have h2 : w8.heap.size ≤ k ∧ k < w16.heap.size := hk; omega) (fun h => by have h2 : w8.heap.size ≤ k ∧ k < w16.heap.size := hk; omega))) hd77.ok hd77.hn (fun _ h => .inr h)) ?_)
        rintro _ w21 ⟨rfl, hdk, hc⟩
        refine ⟨_, rfl, ?_⟩
        obtain ⟨O85, hdn, hO85, hc⟩ := hd77.next hdk hc (cr_ok hd77.ok _ _) (Nat.le_trans (cr_arm _ _) hd77.arm) (by rw [cr_keep]; exact hd77.kp) (by omega)
        have hzw21 := hc.size
        have HC := HC.trans hc (fun _ _ h => h) (fun k hk ht => absurd hk (by have := hd77.lo k ht; omega))
        have hq := hq.ch hc (fun k hk ht => by have h1 := hd77.lo k ht; have h2 : k < w.heap.size := hk; omega)
        have hphd21 := hd21.hi
        have hd21 := hd21.other hc (fun k hk ht => (fun k h1 h2 => aphd21_hd77 k h2 h1) k ht hk)
        have hltg3 := hb3.lt
        have hb3 := hb3.ch hc (fun ht => hohb3_hd77 _ ht rfl)
        have hK := hK.ch hc (fun k hk ht => by have h1 := hd77.lo k ht; have h2 : k < w.heap.size := hk; omega)
        have hS68 := hS68.ch hc (fun k hk ht => by have h1 := hohS68_hd77 k ht; have h2 : w8.heap.size ≤ k ∧ k < w16.heap.size := hk; omega)
        have hS73 := hS73.ch hc (fun k hk ht => by have h1 := hohS73_hd77 k ht; have h2 : w17.heap.size ≤ k ∧ k < w18.heap.size := hk; omega)
        have hphd79 := hd79.hi
        have hd79 := hd79.other hc (fun k hk ht => aphd77_hd79 k ht hk)
        have aphd21_hd77 : ∀ k, O k → ¬ O85 k := fun k h1 h2 => (hO85 k h2).elim (fun h => aphd21_hd77 k h1 h) (fun h => by have := hphd21 k h1; omega)
        have hohb3_hd77 : ∀ k, O85 k → k ≠ g3 := fun k h => (hO85 k h).elim (hohb3_hd77 k) (fun h => by omega)
        have hohS68_hd77 : ∀ k, O85 k → k < w8.heap.size ∨ w16.heap.size ≤ k := fun k h => (hO85 k h).elim (hohS68_hd77 k) (fun h => .inr (by omega))
        have hohS73_hd77 : ∀ k, O85 k → k < w17.heap.size ∨ w18.heap.size ≤ k := fun k h => (hO85 k h).elim (hohS73_hd77 k) (fun h => .inr (by omega))
        have aphd77_hd79 : ∀ k, O85 k → ¬ O79 k := fun k h1 h2 => (hO85 k h1).elim (fun h => aphd77_hd79 k h h2) (fun h => by have := hphd79 k h2; omega)
        have hd77 := hdn
        rw [crS_on hcalm.off] at hd77
        dsimp only at hd77
        refine wl_g (gd_ rfl rfl rfl rfl rfl rfl) rfl rfl (p_not rfl) ?_
        refine wl rfl rfl rfl (p_pickF rfl rfl) ?_
        refine wl rfl rfl rfl (p_mv rfl) ?_
        refine wl_know (d := 88) (b' := false) rfl (by rw [crS_on hcalm.off]; rfl) ?_
        refine wl_g (gd_ rfl rfl rfl rfl rfl rfl) rfl rfl (p_mv rfl) ?_
        refine wle_g (gd_ rfl rfl rfl rfl rfl rfl) (e_call ent15 rfl rfl (start_any hd77.at_ ) ?_)
        rintro _ w22 ⟨rfl, hdk, hc⟩
        refine ⟨_, rfl, ?_⟩
        obtain ⟨O90, hdn, hO90, hc⟩ := hd77.next hdk hc (st_ok hd77.ok) (Nat.le_trans st_arm hd77.arm) (by rw [st_keep]; exact hd77.kp) (by omega)
        have hzw22 := hc.size
        have HC := HC.trans hc (fun _ _ h => h) (fun k hk ht => absurd hk (by have := hd77.lo k ht; omega))
        have hq := hq.ch hc (fun k hk ht => by have h1 := hd77.lo k ht; have h2 : k < w.heap.size := hk; omega)
        have hphd21 := hd21.hi
        have hd21 := hd21.other hc (fun k hk ht => (fun k h1 h2 => aphd21_hd77 k h2 h1) k ht hk)
        have hltg3 := hb3.lt
        have hb3 := hb3.ch hc (fun ht => hohb3_hd77 _ ht rfl)
        have hK := hK.ch hc (fun k hk ht => by have h1 := hd77.lo k ht; have h2 : k < w.heap.size := hk; omega)
        have hS68 := hS68.ch hc (fun k hk ht => by have h1 := hohS68_hd77 k ht; have h2 : w8.heap.size ≤ k ∧ k < w16.heap.size := hk; omega)
        have hS73 := hS73.ch hc (fun k hk ht => by have h1 := hohS73_hd77 k ht; have h2 : w17.heap.size ≤ k ∧ k < w18.heap.size := hk; omega)
        have hphd79 := hd79.hi
        have hd79 := hd79.other hc (fun k hk ht => aphd77_hd79 k ht hk)
        have aphd21_hd77 : ∀ k, O k → ¬ O90 k := fun k h1 h2 => (hO90 k h2).elim (fun h => aphd21_hd77 k h1 h) (fun h => by have := hphd21 k h1; omega)
        have hohb3_hd77 : ∀ k, O90 k → k ≠ g3 := fun k h => (hO90 k h).elim (hohb3_hd77 k) (fun h => by omega)
        have hohS68_hd77 : ∀ k, O90 k → k < w8.heap.size ∨ w16.heap.size ≤ k := fun k h => (hO90 k h).elim (hohS68_hd77 k) (fun h => .inr (by omega))
        have hohS73_hd77 : ∀ k, O90 k → k < w17.heap.size ∨ w18.heap.size ≤ k := fun k h => (hO90 k h).elim (hohS73_hd77 k) (fun h => .inr (by omega))
        have aphd77_hd79 : ∀ k, O90 k → ¬ O79 k := fun k h1 h2 => (hO90 k h1).elim (fun h => aphd77_hd79 k h h2) (fun h => by have := hphd79 k h2; omega)
        have hd77 := hdn
        obtain ⟨d90, hd90⟩ : ∃ z, z = (stS (crash dd (dd.ord.map fun i : Nat => (i : Int)) 0)).2 := ⟨_, rfl⟩
        have hst90 : d90.now = dd.now ∧ d90.ord = [] ∧ CalmD d90 12 := by rw [hd90]; exact ⟨crash_all hok21 0, rfl, rfl, rfl⟩
        rw [← hd90] at hd77
        refine wl_g (gd_ rfl rfl rfl rfl rfl rfl) rfl rfl (p_not rfl) ?_
        refine wl rfl rfl rfl (p_pickF rfl rfl) ?_
        refine wl rfl rfl rfl (p_mv rfl) ?_
        refine wl_know (d := 93) (b' := false) rfl (rfl) ?_
        refine wl_g (gd_ rfl rfl rfl rfl rfl rfl) rfl rfl (p_mv rfl) ?_
        refine wl_g (gd_ rfl rfl rfl rfl rfl rfl) rfl rfl (p_fld (j := 4) Try.underlying37 rfl ⟨_, by rfl⟩ rfl rfl) ?_
        refine wl_g (gd_ rfl rfl rfl rfl rfl rfl) rfl rfl (p_ld Try.underlying26 rfl rfl (ld (hb3.cell rfl))) ?_
        refine wl_g (gd_ rfl rfl rfl rfl rfl rfl) rfl rfl (p_fld (j := 2) Try.underlying37 rfl ⟨_, by rfl⟩ rfl rfl) ?_
        refine wl_g (gd_ rfl rfl rfl rfl rfl rfl) rfl rfl (p_ld Try.underlying3 rfl rfl (ld (hb3.cell rfl))) ?_
        refine wle_g (gd_ rfl rfl rfl rfl rfl rfl) (e_call ent20 rfl rfl (crash_any hd79.at_ (hK) (by have := (hK).cap; omega) (fun k hk => .inl (fun hf => hf.elim (fun h => by have h1 := hd79.lo k h; have h2 : k < w.heap.size := hk; omega) (fun h => by have h2 : k < w.heap.size := hk; omega))) hd79.ok hd79.hn (fun _ h => .inr h)) ?_)
        rintro _ w23 ⟨rfl, hdk, hc⟩
        refine ⟨_, rfl, ?_⟩
        obtain ⟨O99, hdn, hO99, hc⟩ := hd79.next hdk hc (cr_ok hd79.ok _ _) (Nat.le_trans (cr_arm _ _) hd79.arm) (by rw [cr_keep]; exact hd79.kp) (by omega)
        have hzw23 := hc.size
        have HC := HC.trans hc (fun _ _ h => h) (fun k hk ht => absurd hk (by have := hd79.lo k ht; omega))
        have hq := hq.ch hc (fun k hk ht => by have h1 := hd79.lo k ht; have h2 : k < w.heap.size := hk; omega)
        have hphd21 := hd21.hi
        have hd21 := hd21.other hc (fun k hk ht => (fun k h1 h2 => aphd21_hd79 k h2 h1) k ht hk)
        have hltg3 := hb3.lt
        have hb3 := hb3.ch hc (fun ht => hohb3_hd79 _ ht rfl)
        have hK := hK.ch hc (fun k hk ht => by have h1 := hd79.lo k ht; have h2 : k < w.heap.size := hk; omega)
        have hS68 := hS68.ch hc (fun k hk ht => by have h1 := hohS68_hd79 k ht; have h2 : w8.heap.size ≤ k ∧ k < w16.heap.size := hk; omega)
        have hS73 := hS73.ch hc (fun k hk ht => by have h1 := hohS73_hd79 k ht; have h2 : w17.heap.size ≤ k ∧ k < w18.heap.size := hk; omega)
        have hphd77 := hd77.hi
        have hd77 := hd77.other hc (fun k hk ht => (fun k h1 h2 => aphd77_hd79 k h2 h1) k ht hk)
        have aphd21_hd79 : ∀ k, O k → ¬ O99 k := fun k h1 h2 => (hO99 k h2).elim (fun h => aphd21_hd79 k h1 h) (fun h => by have := hphd21 k h1; omega)
        have hohb3_hd79 : ∀ k, O99 k → k ≠ g3 := fun k h => (hO99 k h).elim (hohb3_hd79 k) (fun h => by omega)
        have hohS68_hd79 : ∀ k, O99 k → k < w8.heap.size ∨ w16.heap.size ≤ k := fun k h => (hO99 k h).elim (hohS68_hd79 k) (fun h => .inr (by omega))
        have hohS73_hd79 : ∀ k, O99 k → k < w17.heap.size ∨ w18.heap.size ≤ k := fun k h => (hO99 k h).elim (hohS73_hd79 k) (fun h => .inr (by omega))
        have aphd77_hd79 : ∀ k, O90 k → ¬ O99 k := fun k h1 h2 => (hO99 k h2).elim (fun h => aphd77_hd79 k h1 h) (fun h => by have := hphd77 k h1; omega)
        have hd79 := hdn
        rw [crS_on hcalm.off] at hd79
        dsimp only at hd79
        refine wl_g (gd_ rfl rfl rfl rfl rfl rfl) rfl rfl (p_not rfl) ?_
        refine wl rfl rfl rfl (p_pickF rfl rfl) ?_
        refine wl rfl rfl rfl (p_mv rfl) ?_
        refine wl_know (d := 102) (b' := false) rfl (by rw [crS_on hcalm.off]; rfl) ?_
        refine wl_g (gd_ rfl rfl rfl rfl rfl rfl) rfl rfl (p_mv rfl) ?_
        refine wle_g (gd_ rfl rfl rfl rfl rfl rfl) (e_call ent15 rfl rfl (start_any hd79.at_ ) ?_)
        rintro _ w24 ⟨rfl, hdk, hc⟩
        refine ⟨_, rfl, ?_⟩
        obtain ⟨O104, hdn, hO104, hc⟩ := hd79.next hdk hc (st_ok hd79.ok) (Nat.le_trans st_arm hd79.arm) (by rw [st_keep]; exact hd79.kp) (by omega)
        have hzw24 := hc.size
        have HC := HC.trans hc (fun _ _ h => h) (fun k hk ht => absurd hk (by have := hd79.lo k ht; omega))
        have hq := hq.ch hc (fun k hk ht => by have h1 := hd79.lo k ht; have h2 : k < w.heap.size := hk; omega)
        have hphd21 := hd21.hi
        have hd21 := hd21.other hc (fun k hk ht => (fun k h1 h2 => aphd21_hd79 k h2 h1) k ht hk)
        have hltg3 := hb3.lt
        have hb3 := hb3.ch hc (fun ht => hohb3_hd79 _ ht rfl)
        have hK := hK.ch hc (fun k hk ht => by have h1 := hd79.lo k ht; have h2 : k < w.heap.size := hk; omega)
        have hS68 := hS68.ch hc (fun k hk ht => by have h1 := hohS68_hd79 k ht; have h2 : w8.heap.size ≤ k ∧ k < w16.heap.size := hk; omega)
        have hS73 := hS73.ch hc (fun k hk ht => by have h1 := hohS73_hd79 k ht; have h2 : w17.heap.size ≤ k ∧ k < w18.heap.size := hk; omega)
        have hphd77 := hd77.hi
        have hd77 := hd77.other hc (fun k hk ht => (fun k h1 h2 => aphd77_hd79 k h2 h1) k ht hk)
        have aphd21_hd79 : ∀ k, O k → ¬ O104 k := fun k h1 h2 => (hO104 k h2).elim (fun h => aphd21_hd79 k h1 h) (fun h => by have := hphd21 k h1; omega)
        have hohb3_hd79 : ∀ k, O104 k → k ≠ g3 := fun k h => (hO104 k h).elim (hohb3_hd79 k) (fun h => by omega)
        have hohS68_hd79 : ∀ k, O104 k → k < w8.heap.size ∨ w16.heap.size ≤ k := fun k h => (hO104 k h).elim (hohS68_hd79 k) (fun h => .inr (by omega))
        have hohS73_hd79 : ∀ k, O104 k → k < w17.heap.size ∨ w18.heap.size ≤ k := fun k h => (hO104 k h).elim (hohS73_hd79 k) (fun h => .inr (by omega))
        have aphd77_hd79 : ∀ k, O90 k → ¬ O104 k := fun k h1 h2 => (hO104 k h2).elim (fun h => aphd77_hd79 k h1 h) (fun h => by have := hphd77 k h1; omega)
        have hd79 := hdn
        obtain ⟨d104, hd104⟩ : ∃ z, z = (stS (crash dd a.keep a.n)).2 := ⟨_, rfl⟩
        have hst104 : d104.now = crashed dd a.keep a.n ∧ d104.ord = [] ∧ CalmD d104 12 := by rw [hd104]; exact ⟨rfl, rfl, rfl, rfl⟩
        rw [← hd104] at hd79
        refine wl_g (gd_ rfl rfl rfl rfl rfl rfl) rfl rfl (p_not rfl) ?_
        refine wl rfl rfl rfl (p_pickF rfl rfl) ?_
        refine wl_nil ?_
        refine x_seq ?_
        refine wc_no rfl (rfl) ?_
        refine wc_skip ?_
        refine x_seq ?_
        refine wc_seq ?_
        refine wc_region ?_
        refine wl rfl rfl rfl (p_mv rfl) ?_
        refine wl rfl rfl rfl (p_mv rfl) ?_
        refine wle rfl (e_call ent22 rfl rfl (size_any hd77.at_ hd77.hn) ?_)
        rintro _ w25 ⟨rfl, hc⟩
        refine ⟨_, rfl, ?_⟩
        have hzw25 := hc.size
        have HC := HC.tr hc
        have hq := hq.no hc
        have hphd21 := hd21.hi
        have hd21 := hd21.no hc
        have hb3 := hb3.ch hc (fun h => h)
        have hK := hK.no hc
        have hS68 := hS68.no hc
        have hS73 := hS73.no hc
        have hphd77 := hd77.hi
        have hd77 := hd77.no hc
        have hphd79 := hd79.hi
        have hd79 := hd79.no hc
        refine wle rfl (e_call ent14 rfl rfl (read_any (a := 0) hd77.at_ hd77.ok hd77.hn (by omega) (by omega) (by omega) (by omega)) ?_)
        rintro _ w26 ⟨A111, l111, c111, rfl, hl111, hS111, hc⟩
        refine ⟨_, rfl, ?_⟩
        have hzw26 := hc.size
        have HC := HC.tr hc
        have hq := hq.no hc
        have hphd21 := hd21.hi
        have hd21 := hd21.no hc
        have hb3 := hb3.ch hc (fun h => h)
        have hK := hK.no hc
        have hS68 := hS68.no hc
        have hS73 := hS73.no hc
        have hphd77 := hd77.hi
        have hd77 := hd77.no hc
        have hphd79 := hd79.hi
        have hd79 := hd79.no hc
        have hS111 := hS111.mono (G := fun k => w25.heap.size ≤ k ∧ k < w26.heap.size) (fun k h1 h2 => ⟨by first | exact h2 | (have h3 : k = _ := h2; omega), h1⟩)
        have hohS111_hd21 : ∀ k, O k → k < w25.heap.size ∨ w26.heap.size ≤ k := fun k h => .inl (hphd21 k h)
        have hohS111_hd77 : ∀ k, O90 k → k < w25.heap.size ∨ w26.heap.size ≤ k := fun k h => .inl (hphd77 k h)
        have hohS111_hd79 : ∀ k, O104 k → k < w25.heap.size ∨ w26.heap.size ≤ k := fun k h => .inl (hphd79 k h)
        have e111 : rdS 12 d90 0 ((32 * 12 : Nat) : Int) = (d90.now, 0) := hst90.2.2.rd hd77.ok.w
        rw [e111] at hl111 hS111
        refine wl rfl rfl rfl (p_mv rfl) ?_
        refine wl rfl rfl rfl (p_ext rfl rfl) ?_
        refine wl rfl rfl rfl (p_ext rfl rfl) ?_
        refine wl rfl rfl rfl (p_as rfl) ?_
        refine wl rfl rfl rfl (p_as rfl) ?_
        refine wl_nil ?_
        refine x_seq ?_
        refine wc_seq ?_
        refine wc_region ?_
        refine wl rfl rfl rfl (p_mv rfl) ?_
        refine wl rfl rfl rfl (p_mv rfl) ?_
        refine wle rfl (e_call ent22 rfl rfl (size_any hd79.at_ hd79.hn) ?_)
        rintro _ w27 ⟨rfl, hc⟩
        refine ⟨_, rfl, ?_⟩
        have hzw27 := hc.size
        have HC := HC.tr hc
        have hq := hq.no hc
        have hphd21 := hd21.hi
        have hd21 := hd21.no hc
        have hb3 := hb3.ch hc (fun h => h)
        have hK := hK.no hc
        have hS68 := hS68.no hc
        have hS73 := hS73.no hc
        have hphd77 := hd77.hi
        have hd77 := hd77.no hc
        have hphd79 := hd79.hi
        have hd79 := hd79.no hc
        have hS111 := hS111.no hc
        refine wle rfl (e_call ent14 rfl rfl (read_any (a := 0) hd79.at_ hd79.ok hd79.hn (by omega) (by omega) (by omega) (by omega)) ?_)
        rintro _ w28 ⟨A118, l118, c118, rfl, hl118, hS118, hc⟩
        refine ⟨_, rfl, ?_⟩
        have hzw28 := hc.size
        have HC := HC.tr hc
        have hq := hq.no hc
        have hphd21 := hd21.hi
        have hd21 := hd21.no hc
        have hb3 := hb3.ch hc (fun h => h)
        have hK := hK.no hc
        have hS68 := hS68.no hc
        have hS73 := hS73.no hc
        have hphd77 := hd77.hi
        have hd77 := hd77.no hc
        have hphd79 := hd79.hi
        have hd79 := hd79.no hc
        have hS111 := hS111.no hc
        have hS118 := hS118.mono (G := fun k => w27.heap.size ≤ k ∧ k < w28.heap.size) (fun k h1 h2 => ⟨by first | exact h2 | (have h3 : k = _ := h2; omega), h1⟩)
        have hohS118_hd21 : ∀ k, O k → k < w27.heap.size ∨ w28.heap.size ≤ k := fun k h => .inl (hphd21 k h)
        have hohS118_hd77 : ∀ k, O90 k → k < w27.heap.size ∨ w28.heap.size ≤ k := fun k h => .inl (hphd77 k h)
        have hohS118_hd79 : ∀ k, O104 k → k < w27.heap.size ∨ w28.heap.size ≤ k := fun k h => .inl (hphd79 k h)
        have e118 : rdS 12 d104 0 ((32 * 12 : Nat) : Int) = (d104.now, 0) := hst104.2.2.rd hd79.ok.w
        rw [e118] at hl118 hS118
        obtain rfl : l118 = 384 := by rw [hl118]; exact hd79.ok.w
        refine wl rfl rfl rfl (p_mv rfl) ?_
        refine wl rfl rfl rfl (p_ext rfl rfl) ?_
        refine wl rfl rfl rfl (p_ext rfl rfl) ?_
        refine wl rfl rfl rfl (p_as rfl) ?_
        refine wl rfl rfl rfl (p_as rfl) ?_
        refine wl_nil ?_
        refine x_seq ?_
        refine wc_seq ?_
        refine wc_seq ?_
        refine wc_region ?_
        refine wl rfl rfl rfl (p_mv rfl) ?_
        refine wl rfl rfl rfl (p_ne rfl rfl) ?_
        refine wl rfl rfl rfl (p_mv rfl) ?_
        refine wl_know (d := 123) (b' := false) rfl (decide_eq_false (by rw [e111]; exact fun h => h rfl)) ?_
        refine wl_g (gd_ rfl rfl rfl rfl rfl rfl) rfl rfl (p_mv rfl) ?_
        refine wl_g (gd_ rfl rfl rfl rfl rfl rfl) rfl rfl (p_ne rfl rfl) ?_
        refine wl rfl rfl rfl (p_pickF rfl rfl) ?_
        refine wl rfl rfl rfl (p_mv rfl) ?_
        refine wl_know (d := 127) (b' := false) rfl (decide_eq_false (by rw [e118]; exact fun h => h rfl)) ?_
        refine wl_g (gd_ rfl rfl rfl rfl rfl rfl) rfl rfl (p_mv rfl) ?_
        refine wl_g (gd_ rfl rfl rfl rfl rfl rfl) rfl rfl (p_bts Try.underlying29 Try.underlying5 Try.underlying9 rfl ((hS111).mono (G := fun _ => True) (fun _ _ _ => trivial)).len (fun _ e => e ▸ ((hS111).mono (G := fun _ => True) (fun _ _ _ => trivial)).rd)) ?_
        refine wl_g (gd_ rfl rfl rfl rfl rfl rfl) rfl rfl (p_mv rfl) ?_
        refine wl_g (gd_ rfl rfl rfl rfl rfl rfl) rfl rfl (p_bts Try.underlying29 Try.underlying5 Try.underlying9 rfl ((hS73).mono (G := fun _ => True) (fun _ _ _ => trivial)).len (fun _ e => e ▸ ((hS73).mono (G := fun _ => True) (fun _ _ _ => trivial)).rd)) ?_
        refine wl_g (gd_ rfl rfl rfl rfl rfl rfl) rfl rfl (p_neT rfl rfl) ?_
        refine wl rfl rfl rfl (p_pickF rfl rfl) ?_
        refine wl rfl rfl rfl (p_mv rfl) ?_
        refine wl_know (d := 134) (b' := false) rfl (strs_not hst90.1) ?_
        refine wl_g (gd_ rfl rfl rfl rfl rfl rfl) rfl rfl (p_mv rfl) ?_
        refine wl_g (gd_ rfl rfl rfl rfl rfl rfl) rfl rfl (p_lenS Try.underlying29 rfl) ?_
        refine wl_g (gd_ rfl rfl rfl rfl rfl rfl) rfl rfl (p_mv rfl) ?_
        refine wl_g (gd_ rfl rfl rfl rfl rfl rfl) rfl rfl (p_lenS Try.underlying29 rfl) ?_
        refine wl_g (gd_ rfl rfl rfl rfl rfl rfl) rfl rfl (p_ne rfl rfl) ?_
        refine wl rfl rfl rfl (p_pickF rfl rfl) ?_
        refine wl_nil ?_
        refine x_seq ?_
        refine wc_no rfl (rfl) ?_
        refine wc_skip ?_
        refine x_seq ?_
        refine wc_seq ?_
        refine wc_seq ?_
        refine wc_region ?_
        refine wl rfl rfl rfl (p_mv rfl) ?_
        refine wl rfl rfl rfl (p_lenS Try.underlying29 rfl) ?_
        refine wl rfl rfl rfl (p_mv rfl) ?_
        refine wl_nil ?_
        refine x_seq ?_
        refine wc_block ?_
        refine wc_loop (e' := [(4, .bool false), (5, .pointer (some ⟨g21, 0, none⟩)), (8, .slice A68 l68 c68), (9, .slice A73 384 c73), (11, .pointer (some ⟨g77, 0, none⟩)), (12, .pointer (some ⟨g79, 0, none⟩)), (15, .slice A118 384 c118), (142, i64 ((384 : Nat) : Int)), (143, i64 ((0) : Int))]) (fun mz ez uz => ∃ i : Nat, mz = 384 - i ∧ ez = [(4, .bool false), (5, .pointer (some ⟨g21, 0, none⟩)), (8, .slice A68 l68 c68), (9, .slice A73 384 c73), (11, .pointer (some ⟨g77, 0, none⟩)), (12, .pointer (some ⟨g79, 0, none⟩)), (15, .slice A118 384 c118), (142, i64 ((384 : Nat) : Int)), (143, i64 (i : Int))] ∧ (i ≤ 384) ∧ (CD TD w uz O g21 12 dd) ∧ (CD TD w uz O90 g77 12 d90) ∧ (CD TD w uz O104 g79 12 d104) ∧ (Sl uz (fun k => w8.heap.size ≤ k ∧ k < w16.heap.size) nv A68 l68 c68 dd.ord) ∧ (Sl uz (fun k => w17.heap.size ≤ k ∧ k < w18.heap.size) u8v A73 384 c73 dd.now) ∧ (Sl uz (fun k => w27.heap.size ≤ k ∧ k < w28.heap.size) u8v A118 384 c118 d104.now) ∧ (Ch No w uz))
          ⟨rfl, rfl, rfl, rfl, rfl, rfl, rfl, rfl, rfl, trivial⟩ ⟨0, rfl, rfl, by omega, hd21, hd77, hd79, hS68, hS73, hS118, HC⟩ ?_
        rintro m1 e w29 ⟨i, hm1, rfl, hi, hd21, hd77, hd79, hS68, hS73, hS118, HC⟩
        have hzw29 := HC.size
        refine wc_seq ?_
        refine wc_region ?_
        refine wl rfl rfl rfl (p_lt rfl rfl) ?_
        refine wl_nil ?_
        refine x_seq ?_
        refine wc_seq ?_
        refine wc_if rfl (fun c6 => ?_) (fun c6 => ?_)
        ·
          have c6 := of_decide_eq_true c6
          refine wc_skip ?_
          refine x_seq ?_
          refine wc_seq ?_
          refine wc_block ?_
          refine wc_seq ?_
          refine wc_region ?_
          refine wl rfl rfl rfl (p_mv rfl) ?_
          refine wl rfl rfl rfl (p_as rfl) ?_
          refine wl_nil ?_
          refine x_seq ?_
          refine wc_seq ?_
          refine wc_region ?_
          refine wl rfl rfl rfl (p_as rfl) ?_
          refine wl_nil ?_
          refine x_seq ?_
          refine wc_seq ?_
          refine wc_seq ?_
          refine wc_region ?_
          refine wl rfl rfl rfl (p_mv rfl) ?_
          refine wl rfl rfl rfl (p_lenS Try.underlying26 rfl) ?_
          refine wl rfl rfl rfl (p_mv rfl) ?_
          refine wl_nil ?_
          refine x_seq ?_
          refine wc_block ?_
          refine wc_loop (e' := [(4, .bool false), (5, .pointer (some ⟨g21, 0, none⟩)), (8, .slice A68 l68 c68), (9, .slice A73 384 c73), (11, .pointer (some ⟨g77, 0, none⟩)), (12, .pointer (some ⟨g79, 0, none⟩)), (15, .slice A118 384 c118), (17, i64 (i : Int)), (18, .bool (true)), (142, i64 ((384 : Nat) : Int)), (143, i64 (i : Int)), (146, .slice A68 l68 c68), (147, i64 (l68 : Int)), (148, i64 ((0) : Int))]) (fun mz ez uz => ∃ m : Nat, ∃ cl : Bool, mz = l68 - m ∧ ez = [(4, .bool false), (5, .pointer (some ⟨g21, 0, none⟩)), (8, .slice A68 l68 c68), (9, .slice A73 384 c73), (11, .pointer (some ⟨g77, 0, none⟩)), (12, .pointer (some ⟨g79, 0, none⟩)), (15, .slice A118 384 c118), (17, i64 (i : Int)), (18, .bool cl), (142, i64 ((384 : Nat) : Int)), (143, i64 (i : Int)), (146, .slice A68 l68 c68), (147, i64 (l68 : Int)), (148, i64 (m : Int))] ∧ (m ≤ l68) ∧ (cl = true ↔ i / 32 ∉ dd.ord.take m) ∧ (CD TD w uz O g21 12 dd) ∧ (CD TD w uz O90 g77 12 d90) ∧ (CD TD w uz O104 g79 12 d104) ∧ (Sl uz (fun k => w8.heap.size ≤ k ∧ k < w16.heap.size) nv A68 l68 c68 dd.ord) ∧ (Sl uz (fun k => w17.heap.size ≤ k ∧ k < w18.heap.size) u8v A73 384 c73 dd.now) ∧ (Sl uz (fun k => w27.heap.size ≤ k ∧ k < w28.heap.size) u8v A118 384 c118 d104.now) ∧ (Ch No w uz))
            ⟨rfl, rfl, rfl, rfl, rfl, rfl, rfl, rfl, rfl, rfl, rfl, rfl, rfl, rfl, trivial⟩ ⟨0, true, rfl, rfl, by omega, by simp, hd21, hd77, hd79, hS68, hS73, hS118, HC⟩ ?_
          rintro m2 e w30 ⟨m, cl, hm2, rfl, hm, hcl, hd21, hd77, hd79, hS68, hS73, hS118, HC⟩
          have hzw30 := HC.size
          refine wc_seq ?_
          refine wc_region ?_
          refine wl rfl rfl rfl (p_lt rfl rfl) ?_
          refine wl_nil ?_
          refine x_seq ?_
          refine wc_seq ?_
          refine wc_if rfl (fun c7 => ?_) (fun c7 => ?_)
          ·
            have c7 := of_decide_eq_true c7
            have hmn := mem_take_next (l := dd.ord) (m := m) (s := i / 32) (by omega)
            refine wc_skip ?_
            refine x_seq ?_
            refine wc_seq ?_
            refine wc_block ?_
            refine wc_seq ?_
            refine wc_region ?_
            obtain ⟨b31, o31, hA31, hF31, hc31⟩ := (hS68).opn (d := 0) (by omega)
            refine wl rfl rfl rfl (p_ixS1 Try.underlying26 sz3 rfl hA31 rfl (by omega) (by omega) (Int.toNat_natCast _)) ?_
            refine wl rfl rfl rfl (p_ld Try.underlying3 rfl rfl (ld (hc31 _ (by omega)))) ?_
            refine wl rfl rfl rfl (p_as rfl) ?_
            refine wl_nil ?_
            refine x_seq ?_
            refine wc_region ?_
            refine wl rfl rfl rfl (p_mv rfl) ?_
            refine wl rfl rfl rfl (p_mv rfl) ?_
            refine wl_split (d := 153) rfl (fun q153 => ?_) (fun q153 => ?_)
            ·
              refine wl_g (gd_ rfl rfl rfl rfl rfl rfl) rfl rfl (p_mv rfl) ?_
              refine wl_g (gd_ rfl rfl rfl rfl rfl rfl) rfl rfl (p_mv rfl) ?_
              refine wl_g (gd_ rfl rfl rfl rfl rfl rfl) rfl rfl (p_quo (Z := ((i / 32 : Nat) : Int)) rfl rfl (by omega) (by rw [show ((i : Nat) : Int).tdiv 32 = ((i / 32 : Nat) : Int) from rfl, w64 (by omega)])) ?_
              refine wl_g (gd_ rfl rfl rfl rfl rfl rfl) rfl rfl (p_ne rfl rfl) ?_
              refine wl rfl rfl rfl (p_pickT rfl rfl) ?_
              refine wl rfl rfl rfl (p_as rfl) ?_
              refine wl_nil ?_
              refine x_in_normal ?_
              refine x_seq ?_
              refine wc_region ?_
              refine wl rfl rfl rfl (p_add rfl rfl (w64 (by omega))) ?_
              refine wl rfl rfl rfl (p_mv rfl) ?_
              refine wl_nil ?_
              refine x_round (e' := [(4, .bool false), (5, .pointer (some ⟨g21, 0, none⟩)), (8, .slice A68 l68 c68), (9, .slice A73 384 c73), (11, .pointer (some ⟨g77, 0, none⟩)), (12, .pointer (some ⟨g79, 0, none⟩)), (15, .slice A118 384 c118), (17, i64 (i : Int)), (18, .bool (_)), (142, i64 ((384 : Nat) : Int)), (143, i64 (i : Int)), (146, .slice A68 l68 c68), (147, i64 (l68 : Int)), (148, i64 ((m + 1) : Int))]) ⟨rfl, rfl, rfl, rfl, rfl, rfl, rfl, rfl, rfl, rfl, rfl, rfl, rfl, rfl, trivial⟩ (by rw [hm2]; omega) ⟨m + 1, _, rfl, rfl, by omega, by rw [hmn]; first | exact ⟨fun h => by have h := of_decide_eq_true h; rintro (h1 | h1); exact hcl.1 q153 h1; omega, fun h => decide_eq_true (fun e => h (.inr (by omega)))⟩ | exact ⟨fun h => (by cases h), fun h => absurd (hcl.2 (fun h1 => h (.inl h1))) (by rw [q153]; decide)⟩, hd21, hd77, hd79, hS68, hS73, hS118, HC⟩
            ·
              refine wl_s (gd_ rfl rfl rfl rfl rfl rfl) rfl rfl ?_
              refine wl_s (gd_ rfl rfl rfl rfl rfl rfl) rfl rfl ?_
              refine wl_s (gd_ rfl rfl rfl rfl rfl rfl) rfl rfl ?_
              refine wl_s (gd_ rfl rfl rfl rfl rfl rfl) rfl rfl ?_
              refine wl rfl rfl rfl (p_pickF rfl rfl) ?_
              refine wl rfl rfl rfl (p_as rfl) ?_
              refine wl_nil ?_
              refine x_in_normal ?_
              refine x_seq ?_
              refine wc_region ?_
              refine wl rfl rfl rfl (p_add rfl rfl (w64 (by omega))) ?_
              refine wl rfl rfl rfl (p_mv rfl) ?_
              refine wl_nil ?_
              refine x_round (e' := [(4, .bool false), (5, .pointer (some ⟨g21, 0, none⟩)), (8, .slice A68 l68 c68), (9, .slice A73 384 c73), (11, .pointer (some ⟨g77, 0, none⟩)), (12, .pointer (some ⟨g79, 0, none⟩)), (15, .slice A118 384 c118), (17, i64 (i : Int)), (18, .bool (_)), (142, i64 ((384 : Nat) : Int)), (143, i64 (i : Int)), (146, .slice A68 l68 c68), (147, i64 (l68 : Int)), (148, i64 ((m + 1) : Int))]) ⟨rfl, rfl, rfl, rfl, rfl, rfl, rfl, rfl, rfl, rfl, rfl, rfl, rfl, rfl, trivial⟩ (by rw [hm2]; omega) ⟨m + 1, _, rfl, rfl, by omega, by rw [hmn]; first | exact ⟨fun h => by have h := of_decide_eq_true h; rintro (h1 | h1); exact hcl.1 q153 h1; omega, fun h => decide_eq_true (fun e => h (.inr (by omega)))⟩ | exact ⟨fun h => (by cases h), fun h => absurd (hcl.2 (fun h1 => h (.inl h1))) (by rw [q153]; decide)⟩, hd21, hd77, hd79, hS68, hS73, hS118, HC⟩
          ·
            have c7 := of_decide_eq_false c7
            rw [show dd.ord.take m = dd.ord from List.take_of_length_le (by omega)] at hcl
            refine wc_exit ?_
            refine x_then_exit ?_
            refine x_then_exit ?_
            refine x_in_here ?_
            refine x_seq ?_
            refine wc_seq ?_
            refine wc_draw (.st 0 0 (.st 1 0 (.st 2 0 (.st 3 0 (.st 4 0 (.st 5 1 (.st 6 0 (.st 7 0 (.st 8 0 (.st 9 1 (.st 10 0 (.st 11 0 .nil)))))))))))) 12 (by kernel_rfl) (by kernel_rfl) (by kernel_rfl) (by repeat (first | with_reducible exact pan_body | with_reducible apply pan_then | with_reducible apply pan_in)) (fun x => Ch No w30.drew x) (Ch.refl _ _) ?_
            obtain ⟨w32, ew32⟩ : ∃ x, x = w30.drew := ⟨_, rfl⟩
            rw [← ew32]
            have hc : Ch No w30 w32 := by rw [ew32]; exact Ch.drew _
            have hszw32 : w32.heap.size = w30.heap.size := by rw [ew32]; rfl
            clear ew32
            have hzw32 := hc.size
            have HC := HC.tr hc
            have hphd21 := hd21.hi
            have hd21 := hd21.no hc
            have hphd77 := hd77.hi
            have hd77 := hd77.no hc
            have hphd79 := hd79.hi
            have hd79 := hd79.no hc
            have hS68 := hS68.no hc
            have hS73 := hS73.no hc
            have hS118 := hS118.no hc
            have hS : Ch No w32 w32 := Ch.refl _ _
            refine ws_p rfl rfl rfl rfl (p_mv rfl) ?_
            refine ws_p rfl rfl rfl rfl (p_mv rfl) ?_
            refine ws_split (d := 161) rfl (fun q161 => ?_) (fun q161 => ?_)
            ·
              refine ws_pg rfl (gd_ rfl rfl rfl rfl rfl rfl) rfl rfl (p_mv rfl) ?_
              refine ws_pg rfl (gd_ rfl rfl rfl rfl rfl rfl) rfl rfl (p_mv rfl) ?_
              obtain ⟨b33, o33, hA33, hF33, hc33⟩ := (hS118).opn (d := 0) (by omega)
              refine ws_pg rfl (gd_ rfl rfl rfl rfl rfl rfl) rfl rfl (p_ixS1 Try.underlying29 sz5 rfl hA33 rfl (by omega) (by omega) (Int.toNat_natCast _)) ?_
              refine ws_hg rfl (gd_ rfl rfl rfl rfl rfl rfl) rfl rfl (p_ld Try.underlying5 rfl rfl (fun _ h => h.cell (fun h => h) (hc33 _ (by omega)))) ?_
              refine ws_pg rfl (gd_ rfl rfl rfl rfl rfl rfl) rfl rfl (p_mv rfl) ?_
              refine ws_pg rfl (gd_ rfl rfl rfl rfl rfl rfl) rfl rfl (p_mv rfl) ?_
              obtain ⟨b34, o34, hA34, hF34, hc34⟩ := (hS73).opn (d := 0) (by omega)
              refine ws_pg rfl (gd_ rfl rfl rfl rfl rfl rfl) rfl rfl (p_ixS1 Try.underlying29 sz5 rfl hA34 rfl (by omega) (by omega) (Int.toNat_natCast _)) ?_
              refine ws_hg rfl (gd_ rfl rfl rfl rfl rfl rfl) rfl rfl (p_ld Try.underlying5 rfl rfl (fun _ h => h.cell (fun h => h) (hc34 _ (by omega)))) ?_
              refine ws_pg rfl (gd_ rfl rfl rfl rfl rfl rfl) rfl rfl (p_ne rfl rfl) ?_
              refine ws_p rfl rfl rfl rfl (p_pickT rfl rfl) ?_
              refine ws_n ?_
              refine x_seq ?_
              refine wc_no rfl (decide_eq_false (fun h => h (by rw [hst104.1, crash_clean hok21 a.keep a.n rfl (by omega) (hcl.1 q161)]))) ?_
              refine wc_skip ?_
              refine x_in_normal ?_
              refine x_seq ?_
              refine wc_region ?_
              refine wl rfl rfl rfl (p_add rfl rfl (w64 (by omega))) ?_
              refine wl rfl rfl rfl (p_mv rfl) ?_
              refine wl_nil ?_
              refine x_round (e' := [(4, .bool false), (5, .pointer (some ⟨g21, 0, none⟩)), (8, .slice A68 l68 c68), (9, .slice A73 384 c73), (11, .pointer (some ⟨g77, 0, none⟩)), (12, .pointer (some ⟨g79, 0, none⟩)), (15, .slice A118 384 c118), (142, i64 ((384 : Nat) : Int)), (143, i64 ((i + 1) : Int))]) ⟨rfl, rfl, rfl, rfl, rfl, rfl, rfl, rfl, rfl, trivial⟩ (by rw [hm1]; omega) ⟨i + 1, rfl, rfl, by omega, hd21, hd77, hd79, hS68, hS73, hS118, HC⟩
            ·
              refine ws_s rfl (gd_ rfl rfl rfl rfl rfl rfl) rfl rfl ?_
              refine ws_s rfl (gd_ rfl rfl rfl rfl rfl rfl) rfl rfl ?_
              refine ws_s rfl (gd_ rfl rfl rfl rfl rfl rfl) rfl rfl ?_
              refine ws_s rfl (gd_ rfl rfl rfl rfl rfl rfl) rfl rfl ?_
              refine ws_s rfl (gd_ rfl rfl rfl rfl rfl rfl) rfl rfl ?_
              refine ws_s rfl (gd_ rfl rfl rfl rfl rfl rfl) rfl rfl ?_
              refine ws_s rfl (gd_ rfl rfl rfl rfl rfl rfl) rfl rfl ?_
              refine ws_s rfl (gd_ rfl rfl rfl rfl rfl rfl) rfl rfl ?_
              refine ws_s rfl (gd_ rfl rfl rfl rfl rfl rfl) rfl rfl ?_
              refine ws_p rfl rfl rfl rfl (p_pickF rfl rfl) ?_
              refine ws_n ?_
              refine x_seq ?_
              refine wc_no rfl (rfl) ?_
              refine wc_skip ?_
              refine x_in_normal ?_
              refine x_seq ?_
              refine wc_region ?_
              refine wl rfl rfl rfl (p_add rfl rfl (w64 (by omega))) ?_
              refine wl rfl rfl rfl (p_mv rfl) ?_
              refine wl_nil ?_
              refine x_round (e' := [(4, .bool false), (5, .pointer (some ⟨g21, 0, none⟩)), (8, .slice A68 l68 c68), (9, .slice A73 384 c73), (11, .pointer (some ⟨g77, 0, none⟩)), (12, .pointer (some ⟨g79, 0, none⟩)), (15, .slice A118 384 c118), (142, i64 ((384 : Nat) : Int)), (143, i64 ((i + 1) : Int))]) ⟨rfl, rfl, rfl, rfl, rfl, rfl, rfl, rfl, rfl, trivial⟩ (by rw [hm1]; omega) ⟨i + 1, rfl, rfl, by omega, hd21, hd77, hd79, hS68, hS73, hS118, HC⟩
        ·
          have c6 := of_decide_eq_false c6
          refine wc_exit ?_
          refine x_then_exit ?_
          refine x_then_exit ?_
          refine x_in_here ?_
          refine x_seq ?_
          refine wc_seq ?_
          refine wc_region ?_
          refine wl rfl rfl rfl (p_mv rfl) ?_
          refine wle rfl (e_call ent19 rfl rfl (dirty_any hd77.at_ (Nat.le_trans (ord_le hd77.ok) hd77.hn)) ?_)
          rintro _ w35 ⟨A174, c174, l174, rfl, hl174, hW174, hc⟩
          refine ⟨_, rfl, ?_⟩
          have hzw35 := hc.size
          have HC := HC.tr hc
          have hphd21 := hd21.hi
          have hd21 := hd21.no hc
          have hphd77 := hd77.hi
          have hd77 := hd77.no hc
          have hphd79 := hd79.hi
          have hd79 := hd79.no hc
          have hS68 := hS68.no hc
          have hS73 := hS73.no hc
          have hS118 := hS118.no hc
          have hS174 := hW174.sl
          have hlb174 : l174 ≤ 4096 := by rw [hl174]; exact Nat.le_trans (ord_le hd77.ok) hd77.hn
          have hS174 := hS174.mono (G := fun k => w29.heap.size ≤ k ∧ k < w35.heap.size) (fun k h1 h2 => ⟨by first | exact h2 | (have h3 : k = _ := h2; omega), h1⟩)
          have hohS174_hd21 : ∀ k, O k → k < w29.heap.size ∨ w35.heap.size ≤ k := fun k h => .inl (hphd21 k h)
          have hohS174_hd77 : ∀ k, O90 k → k < w29.heap.size ∨ w35.heap.size ≤ k := fun k h => .inl (hphd77 k h)
          have hohS174_hd79 : ∀ k, O104 k → k < w29.heap.size ∨ w35.heap.size ≤ k := fun k h => .inl (hphd79 k h)
          rw [hst90.2.1] at hl174
          have hl174 : l174 = 0 := hl174
          refine wl rfl rfl rfl (p_lenS Try.underlying26 rfl) ?_
          refine wl rfl rfl rfl (p_mv rfl) ?_
          refine wle rfl (e_call ent19 rfl rfl (dirty_any hd79.at_ (Nat.le_trans (ord_le hd79.ok) hd79.hn)) ?_)
          rintro _ w36 ⟨A177, c177, l177, rfl, hl177, hW177, hc⟩
          refine ⟨_, rfl, ?_⟩
          have hzw36 := hc.size
          have HC := HC.tr hc
          have hphd21 := hd21.hi
          have hd21 := hd21.no hc
          have hphd77 := hd77.hi
          have hd77 := hd77.no hc
          have hphd79 := hd79.hi
          have hd79 := hd79.no hc
          have hS68 := hS68.no hc
          have hS73 := hS73.no hc
          have hS118 := hS118.no hc
          have hS174 := hS174.no hc
          have hS177 := hW177.sl
          have hlb177 : l177 ≤ 4096 := by rw [hl177]; exact Nat.le_trans (ord_le hd79.ok) hd79.hn
          have hS177 := hS177.mono (G := fun k => w35.heap.size ≤ k ∧ k < w36.heap.size) (fun k h1 h2 => ⟨by first | exact h2 | (have h3 : k = _ := h2; omega), h1⟩)
          have hohS177_hd21 : ∀ k, O k → k < w35.heap.size ∨ w36.heap.size ≤ k := fun k h => .inl (hphd21 k h)
          have hohS177_hd77 : ∀ k, O90 k → k < w35.heap.size ∨ w36.heap.size ≤ k := fun k h => .inl (hphd77 k h)
          have hohS177_hd79 : ∀ k, O104 k → k < w35.heap.size ∨ w36.heap.size ≤ k := fun k h => .inl (hphd79 k h)
          rw [hst104.2.1] at hl177
          have hl177 : l177 = 0 := hl177
          refine wl rfl rfl rfl (p_lenS Try.underlying26 rfl) ?_
          refine wl rfl rfl rfl (p_add rfl rfl (w64 (by omega))) ?_
          refine wl rfl rfl rfl (p_eq rfl rfl) ?_
          refine wl rfl rfl rfl (p_mv rfl) ?_
          refine wl_know (d := 181) (b' := true) rfl (decide_eq_true (by omega)) ?_
          refine wl_g (gd_ rfl rfl rfl rfl rfl rfl) rfl rfl (p_mv rfl) ?_
          refine wle_g (gd_ rfl rfl rfl rfl rfl rfl) (e_call ent19 rfl rfl (dirty_any hd21.at_ (Nat.le_trans (ord_le hd21.ok) hd21.hn)) ?_)
          rintro _ w37 ⟨A183, c183, l183, rfl, hl183, hW183, hc⟩
          refine ⟨_, rfl, ?_⟩
          have hzw37 := hc.size
          have HC := HC.tr hc
          have hphd21 := hd21.hi
          have hd21 := hd21.no hc
          have hphd77 := hd77.hi
          have hd77 := hd77.no hc
          have hphd79 := hd79.hi
          have hd79 := hd79.no hc
          have hS68 := hS68.no hc
          have hS73 := hS73.no hc
          have hS118 := hS118.no hc
          have hS174 := hS174.no hc
          have hS177 := hS177.no hc
          have hS183 := hW183.sl
          have hlb183 : l183 ≤ 4096 := by rw [hl183]; exact Nat.le_trans (ord_le hd21.ok) hd21.hn
          have hS183 := hS183.mono (G := fun k => w36.heap.size ≤ k ∧ k < w37.heap.size) (fun k h1 h2 => ⟨by first | exact h2 | (have h3 : k = _ := h2; omega), h1⟩)
          have hohS183_hd21 : ∀ k, O k → k < w36.heap.size ∨ w37.heap.size ≤ k := fun k h => .inl (hphd21 k h)
          have hohS183_hd77 : ∀ k, O90 k → k < w36.heap.size ∨ w37.heap.size ≤ k := fun k h => .inl (hphd77 k h)
          have hohS183_hd79 : ∀ k, O104 k → k < w36.heap.size ∨ w37.heap.size ≤ k := fun k h => .inl (hphd79 k h)
          refine wl_g (gd_ rfl rfl rfl rfl rfl rfl) rfl rfl (p_mv rfl) ?_
          refine wle_g (gd_ rfl rfl rfl rfl rfl rfl) (e_call ent21 rfl rfl (ints_any (sl_nv hS183) (sl_nv hS68) (by omega)) ?_)
          rintro _ w38 ⟨rfl, hc⟩
          refine ⟨_, rfl, ?_⟩
          have hzw38 := hc.size
          have HC := HC.tr hc
          have hphd21 := hd21.hi
          have hd21 := hd21.no hc
          have hphd77 := hd77.hi
          have hd77 := hd77.no hc
          have hphd79 := hd79.hi
          have hd79 := hd79.no hc
          have hS68 := hS68.no hc
          have hS73 := hS73.no hc
          have hS118 := hS118.no hc
          have hS174 := hS174.no hc
          have hS177 := hS177.no hc
          have hS183 := hS183.no hc
          refine wl rfl rfl rfl (p_pickT rfl rfl) ?_
          refine wl rfl rfl rfl (p_mv rfl) ?_
          refine wl_know (d := 187) (b' := true) rfl (decide_eq_true rfl) ?_
          refine wle_g (gd_ rfl rfl rfl rfl rfl rfl) (e_call ent16 rfl rfl (lives5_any) ?_)
          rintro _ w39 ⟨rfl, hc⟩
          refine ⟨_, rfl, ?_⟩
          have hzw39 := hc.size
          have HC := HC.tr hc
          have hphd21 := hd21.hi
          have hd21 := hd21.no hc
          have hphd77 := hd77.hi
          have hd77 := hd77.no hc
          have hphd79 := hd79.hi
          have hd79 := hd79.no hc
          have hS68 := hS68.no hc
          have hS73 := hS73.no hc
          have hS118 := hS118.no hc
          have hS174 := hS174.no hc
          have hS177 := hS177.no hc
          have hS183 := hS183.no hc
          refine wl rfl rfl rfl (p_pickT rfl rfl) ?_
          refine wl rfl rfl rfl (p_as rfl) ?_
          refine wl_nil ?_
          refine x_seq ?_
          refine wc_ret ?_
          refine fin_run (res1 rfl rfl) ?_
          exact ⟨rfl, HC⟩
end Go.Proofs.Ytcgapjieidmkpaa
