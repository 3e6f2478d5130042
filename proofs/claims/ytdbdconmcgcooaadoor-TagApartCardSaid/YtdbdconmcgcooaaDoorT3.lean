/-
  Own text, printed by a program of mine (wip/gx): what functions of the program do, walked operation by operation.
-/
import Derived.Test.YtdbdconmcgcooaaDoorProg
import Derived.Test.YtdbdconmcgcooaaDoorGxAgg
import Derived.Test.YtdbdconmcgcooaaDoorTab
import Derived.Test.YtdbdconmcgcooaaDoorPlPack
import Derived.Test.YtdbdconmcgcooaaDoorPlSum
import Derived.Test.YtdbdconmcgcooaaDoorPlSha
import Derived.Test.YtdbdconmcgcooaaDoorPlShaSt
import Derived.Test.YtdbdconmcgcooaaDoorPlShaB
import Derived.Test.YtdbdconmcgcooaaDoorPlTag
import Derived.Test.YtdbdconmcgcooaaDoorSX
set_option linter.unusedVariables false
namespace Go.Proofs.YtdbdconmcgcooaaDoor
open Go.RowKit Go.Gx
open Go.Plain
set_option maxHeartbeats 1000000 in
set_option maxRecDepth 20000 in
theorem rtbytes_any {w : World} {t : UInt8} {Aq : Option Addr} {lq cq : Nat} {Fq : Nat → Prop} {q : List (List UInt8)} (hq : SB w Fq Aq lq cq q) (hn : lq ≤ 1099511627000) (hl : q.flatten.length ≤ 1099511627000) :
    Calls Tryd.prog 27 #[u8v t, .slice Aq lq cq] w fun e w' => ∃ A c, e = .returned (.slice A (1 + q.flatten.length) c) ∧ Row w' (fun k => w.heap.size ≤ k) 5 1 (.slice A (1 + q.flatten.length) c) (1 + q.flatten.length) (([t] ++ q.flatten).map u8v) ∧ Ch No w w' := by
  have hql := hq.len
  have hq := hq.old
  have HC : Ch No w w := Ch.refl _ _
  refine enter' (args := [u8v t, .slice Aq lq cq]) (n := 21) Tryd.func27 rfl rfl rfl ?_
  refine wc_seq ?_
  refine wc_region ?_
  refine wl rfl rfl rfl (p_as rfl) ?_
  refine wl_nil ?_
  refine x_seq ?_
  refine wc_seq ?_
  refine wc_region ?_
  refine wl rfl rfl rfl (p_mv rfl) ?_
  refine wle rfl (e_bslV (E := 5) rfl rfl (fun _ => by kernel_rfl) (fun w1 g9 hg9 hb9 hc hsz9 => ?_))
  have hzw1 := hc.size
  have HC := HC.tr hc
  have hq := hq.no hc
  have hge9 : w.heap.size ≤ g9 := by have := HC.size; omega
  have hW9 := Row.lit (l := 1) (f := u8v) (xs := [t]) (F := fun k => g9 ≤ k) hb9 (by first | omega | (dsimp only; omega)) rfl rfl (by simp [maxLen])
  refine wl rfl rfl rfl (p_as rfl) ?_
  refine wl_nil ?_
  refine x_seq ?_
  refine wc_seq ?_
  refine wc_seq ?_
  refine wc_region ?_
  refine wl rfl rfl rfl (p_mv rfl) ?_
  refine wl rfl rfl rfl (p_lenS Tryd.underlying34 rfl) ?_
  refine wl rfl rfl rfl (p_mv rfl) ?_
  refine wl_nil ?_
  refine x_seq ?_
  refine wc_block ?_
  refine wc_loop (e' := [(5, .slice (_) (1 + (q.take (0)).flatten.length) (_)), (10, .slice Aq lq cq), (11, i64 (lq : Int)), (12, i64 ((0) : Int))]) (fun mz ez uz => ∃ i : Nat, ∃ A : Option Addr, ∃ c : Nat, mz = lq - i ∧ ez = [(5, .slice A (1 + (q.take i).flatten.length) c), (10, .slice Aq lq cq), (11, i64 (lq : Int)), (12, i64 (i : Int))] ∧ (i ≤ lq) ∧ (Row uz (fun k => w.heap.size ≤ k) 5 1 (.slice A (1 + (q.take i).flatten.length) c) (1 + (q.take i).flatten.length) (([t] ++ (q.take i).flatten).map u8v)) ∧ (SB uz (fun k => k < w.heap.size) Aq lq cq q) ∧ (Ch No w uz))
    ⟨rfl, rfl, rfl, rfl, trivial⟩ ⟨0, _, _, rfl, rfl, by omega, hW9.mono (fun k _ hk => by first | omega | (dsimp only at *; omega)), hq, HC⟩ ?_
  rintro m0 e w2 ⟨i, A, c, hm0, rfl, hi, hW9, hq, HC⟩
  have hzw2 := HC.size
  refine wc_seq ?_
  refine wc_region ?_
  refine wl rfl rfl rfl (p_lt rfl rfl) ?_
  refine wl_nil ?_
  refine x_seq ?_
  refine wc_seq ?_
  refine wc_if rfl (fun c0 => ?_) (fun c0 => ?_)
  ·
    have c0 := of_decide_eq_true c0
    have hnx := cat_next (q := q) (i := i) (by omega)
    have hle := cat_le q (i + 1)
    refine wc_skip ?_
    refine x_seq ?_
    refine wc_seq ?_
    refine wc_block ?_
    refine wc_seq ?_
    refine wc_region ?_
    obtain ⟨b3, o3, hA3, hF3, hc3⟩ := hq.opn (by omega)
    obtain ⟨SA14, sl14, sc14, hcc3, hS14⟩ := hc3 i (by omega)
    have hSl14 := hS14.len
    refine wl rfl rfl rfl (p_ixS1 (j := i) Tryd.underlying34 sz22 rfl hA3 rfl (by omega) (by omega) (Int.toNat_natCast _)) ?_
    refine wl rfl rfl rfl (p_ld Tryd.underlying22 rfl rfl (ld (hcc3))) ?_
    have hqi : (q.getD i []).length = sl14 := hSl14
    have hnl : (q.take i).flatten.length + sl14 = (q.take (i + 1)).flatten.length := by rw [← hnx, List.length_append, hqi]
    refine wl rfl rfl rfl (p_as rfl) ?_
    refine wl_nil ?_
    refine x_seq ?_
    refine wc_region ?_
    refine wl rfl rfl rfl (p_mv rfl) ?_
    refine wl rfl rfl rfl (p_mv rfl) ?_
    refine wle rfl (e_appS rfl el22 one_u8 rfl rfl hW9 hS14 (by omega) (by intro k hk; first | omega | (dsimp only at *; omega)) (fun w4 A18 c18 hW9 hc => ?_))
    have hzw4 := hc.size
    have HC := HC.trans hc (fun _ _ h => h) (fun k hk ht => absurd ht (by first | omega | (dsimp only at *; omega)))
    first | have hq := hq.ch hc (by intro k hk ht; first | omega | (dsimp only at *; omega)) | have hq := hq.chT hc (by intro k hz hk ht; first | omega | (dsimp only at *; omega))
    first | have hS14 := hS14.ch hc (by intro k hk ht; first | omega | (dsimp only at *; omega)) | have hS14 := hS14.chT hc (by intro k hz hk ht; first | omega | (dsimp only at *; omega))
    refine wl rfl rfl rfl (p_as rfl) ?_
    refine wl_nil ?_
    refine x_in_normal ?_
    refine x_seq ?_
    refine wc_region ?_
    refine wl rfl rfl rfl (p_add rfl rfl (w64 (by omega))) ?_
    refine wl rfl rfl rfl (p_mv rfl) ?_
    refine wl_nil ?_
    refine x_round (e' := [(5, .slice (A18) (1 + (q.take (i + 1)).flatten.length) (c18)), (10, .slice Aq lq cq), (11, i64 (lq : Int)), (12, i64 ((i + 1) : Int))]) ⟨(by rw [← hnl, ← Nat.add_assoc]; rfl), rfl, rfl, rfl, trivial⟩ (by rw [hm0]; omega) ⟨i + 1, A18, c18, rfl, rfl, by omega, by rw [← hnl, ← hnx, ← List.append_assoc, ← Nat.add_assoc]; exact hW9.mono (fun k _ hk => by first | omega | (dsimp only at *; omega)), hq, HC⟩
  ·
    have c0 := of_decide_eq_false c0
    refine wc_exit ?_
    refine x_then_exit ?_
    refine x_then_exit ?_
    refine x_in_here ?_
    refine x_seq ?_
    refine wc_seq ?_
    refine wc_region ?_
    refine wl rfl rfl rfl (p_mv rfl) ?_
    refine wl rfl rfl rfl (p_as rfl) ?_
    refine wl_nil ?_
    refine x_seq ?_
    refine wc_ret ?_
    refine fin_run (res1 rfl rfl) ?_
    have ht : q.take i = q := List.take_of_length_le (by omega)
    rw [ht] at hW9
    rw [ht]
    exact ⟨_, _, rfl, hW9, HC⟩

set_option maxHeartbeats 1000000 in
set_option maxRecDepth 20000 in
theorem rtof_any {w : World} {t : UInt8} {Aq : Option Addr} {lq cq : Nat} {Fq : Nat → Prop} {q : List (List UInt8)} (hq : SB w Fq Aq lq cq q) (hn : lq ≤ 1099511627000) (hl : q.flatten.length ≤ 1099511627000) :
    Calls Tryd.prog 71 #[u8v t, .slice Aq lq cq] w fun e w' => e = .returned (hv (shaF ([t] ++ q.flatten))) ∧ Ch No w w' := by
  have hq := hq.old
  have HC : Ch No w w := Ch.refl _ _
  refine enter' (args := [u8v t, .slice Aq lq cq]) (n := 9) Tryd.func71 rfl rfl rfl ?_
  refine wc_seq ?_
  refine wc_region ?_
  refine wle rfl (e_alloc (cs := ((List.replicate 32 (0 : UInt8)).map u8v).toArray) rfl (by rfl) rfl (fun w1 g4 hg4 hb4 hc hsz4 => ?_))
  have hzw1 := hc.size
  have HC := HC.tr hc
  have hq := hq.no hc
  have hge4 : w.heap.size ≤ g4 := by have := HC.size; omega
  refine wl_nil ?_
  refine x_seq ?_
  refine wc_seq ?_
  refine wc_region ?_
  refine wl rfl rfl rfl (p_mv rfl) ?_
  refine wl rfl rfl rfl (p_mv rfl) ?_
  refine wle rfl (e_call ent27 rfl rfl (rtbytes_any (hq) (by omega) (by first | omega | (simp only [List.flatten_cons, List.flatten_nil, List.length_append, List.length_nil, List.length_cons]; omega))) ?_)
  rintro _ w2 ⟨A7, c7, rfl, hW7, hc⟩
  refine ⟨_, rfl, ?_⟩
  have hzw2 := hc.size
  have HC := HC.tr hc
  have hq := hq.no hc
  have hb4 := hb4.ch hc (fun h => h)
  refine wle rfl (e_call ent20 rfl rfl (rsum_any (hW7.sl) (by first | omega | (simp only [List.flatten_cons, List.flatten_nil, List.length_append, List.length_nil, List.length_cons]; omega))) ?_)
  rintro _ w3 ⟨rfl, hc⟩
  refine ⟨_, rfl, ?_⟩
  have hzw3 := hc.size
  have HC := HC.tr hc
  have hq := hq.no hc
  have hb4 := hb4.ch hc (fun h => h)
  have hW7 := hW7.after hc
  refine wle rfl (e_stW (vs := List.map u8v (shaF _)) (szL sz25 (by rw [List.length_map]; exact shaF_len _)) (oneL one_u8 _) rfl rfl hb4 (by simp only [List.size_toArray, List.length_map]; first | done | exact ((List.length_replicate ..)).trans (shaF_len _).symm) (fun w4 hb4 hc hsz => ?_))
  have hzw4 := hc.size
  have HC := HC.trans hc (fun _ _ h => h) (fun k hk ht => absurd ht (by omega))
  first | have hq := hq.ch hc (by intro k hk ht; first | omega | (dsimp only at *; omega)) | have hq := hq.chT hc (by intro k hz hk ht; first | omega | (dsimp only at *; omega))
  have hW7 := hW7.ch hc (by intro k hz hk ht; first | omega | (dsimp only at *; omega))
  refine wl_nil ?_
  refine x_seq ?_
  refine wc_ret ?_
  refine fin_run (resC (cs := List.map u8v (shaF _)) rfl rfl Tryd.underlying25 rfl (szL sz25 (by rw [List.length_map]; exact shaF_len _)) (rngL hb4)) ?_
  exact ⟨rfl, HC⟩
end Go.Proofs.YtdbdconmcgcooaaDoor
