/-
  Own text, printed by a program of mine (wip/gx): what functions of the program do, walked operation by operation.
-/
import Derived.Test.YtdbdconmcgcooaaProg
import Derived.Test.YtdbdconmcgcooaaGxAux
import Derived.Test.YtdbdconmcgcooaaTab
import Derived.Test.YtdbdconmcgcooaaPlPack
set_option linter.unusedVariables false
namespace Go.Proofs.Ytdbdconmcgcooaa
open Go.RowKit Go.Gx
open Go.Plain
set_option maxHeartbeats 1000000 in
set_option maxRecDepth 20000 in
theorem same_any {w : World}  {Ap : Option Addr} {lp cp : Nat} {Fp : Nat → Prop} {p : List ByteArray} {Aq : Option Addr} {lq cq : Nat} {Fq : Nat → Prop} {q : List ByteArray} (hp : Sl w Fp Value.string Ap lp cp p) (hq : Sl w Fq Value.string Aq lq cq q) (hlp : lp ≤ 9223372036854775806) (hlq : lq ≤ 9223372036854775806) :
    Calls Try.prog 14 #[.slice Ap lp cp, .slice Aq lq cq] w fun e w' => e = .returned (.bool (decide (p = q))) ∧ Ch No w w' := by
  have hpl := hp.len
  have hql := hq.len
  have hp := hp.old
  have hq := hq.old
  have HC : Ch No w w := Ch.refl _ _
  refine enter' (args := [.slice Ap lp cp, .slice Aq lq cq]) (n := 26) Try.func14 rfl rfl rfl ?_
  refine wc_seq ?_
  refine wc_region ?_
  refine wl rfl rfl rfl (p_as rfl) ?_
  refine wl_nil ?_
  refine x_seq ?_
  refine wc_seq ?_
  refine wc_seq ?_
  refine wc_region ?_
  refine wl rfl rfl rfl (p_mv rfl) ?_
  refine wl rfl rfl rfl (p_lenS Try.underlying23 rfl) ?_
  refine wl rfl rfl rfl (p_mv rfl) ?_
  refine wl rfl rfl rfl (p_lenS Try.underlying23 rfl) ?_
  refine wl rfl rfl rfl (p_ne rfl rfl) ?_
  refine wl_nil ?_
  refine x_seq ?_
  refine wc_if rfl (fun c0 => ?_) (fun c0 => ?_)
  ·
    have c0 := of_decide_eq_true c0
    have eS : decide (p = q) = false := decide_eq_false (fun h => by rw [h] at hpl; omega)
    refine wc_seq ?_
    refine wc_region ?_
    refine wl rfl rfl rfl (p_as rfl) ?_
    refine wl_nil ?_
    refine x_seq ?_
    refine wc_ret ?_
    refine x_then_ret ?_
    refine fin_run (res1 rfl rfl) ?_
    rw [eS]; exact ⟨rfl, HC⟩
  ·
    have c0 := of_decide_eq_false c0
    refine wc_skip ?_
    refine x_seq ?_
    refine wc_seq ?_
    refine wc_seq ?_
    refine wc_region ?_
    refine wl rfl rfl rfl (p_mv rfl) ?_
    refine wl rfl rfl rfl (p_lenS Try.underlying23 rfl) ?_
    refine wl rfl rfl rfl (p_mv rfl) ?_
    refine wl_nil ?_
    refine x_seq ?_
    refine wc_block ?_
    refine wc_loop (e' := [(0, .slice Ap lp cp), (1, .slice Aq lq cq), (12, i64 (lp : Int)), (13, i64 ((0) : Int))]) (fun m e u => ∃ k : Nat, m = lp - k ∧ e = [(0, .slice Ap lp cp), (1, .slice Aq lq cq), (12, i64 (lp : Int)), (13, i64 (k : Int))] ∧ p.take k = q.take k ∧ k ≤ lp ∧ Sl u (fun k => k < w.heap.size) Value.string Ap lp cp p ∧ Sl u (fun k => k < w.heap.size) Value.string Aq lq cq q ∧ Ch No w u)
      ⟨rfl, rfl, rfl, rfl, trivial⟩ ⟨0, rfl, rfl, by simp, by omega, hp, hq, HC⟩ ?_
    rintro m e w1 ⟨k, hm, rfl, hkl, hk, hp, hq, HC⟩
    have hzw1 := HC.size
    refine wc_seq ?_
    refine wc_region ?_
    refine wl rfl rfl rfl (p_lt rfl rfl) ?_
    refine wl_nil ?_
    refine x_seq ?_
    refine wc_seq ?_
    refine wc_if rfl (fun c1 => ?_) (fun c1 => ?_)
    ·
      have c1 := of_decide_eq_true c1
      have hkp : k < p.length := by omega
      have hkq : k < q.length := by omega
      refine wc_skip ?_
      refine x_seq ?_
      refine wc_seq ?_
      refine wc_block ?_
      refine wc_seq ?_
      refine wc_region ?_
      refine wl rfl rfl rfl (p_mv rfl) ?_
      refine wl rfl rfl rfl (p_as rfl) ?_
      refine wl_nil ?_
      refine x_seq ?_
      refine wc_seq ?_
      refine wc_draw [(0, 0), (1, 0), (2, 0), (3, 1), (4, 0), (5, 0), (6, 0), (7, 1), (8, 0)] 9 (by kernel_rfl) (by kernel_rfl) (by kernel_rfl) (by repeat (first | with_reducible exact pan_body | with_reducible apply pan_then | with_reducible apply pan_in)) (fun x => Ch No w1.drew x) (Ch.refl _ _) ?_
      obtain ⟨w2, ew2⟩ : ∃ x, x = w1.drew := ⟨_, rfl⟩
      rw [← ew2]
      have hc : Ch No w1 w2 := by rw [ew2]; exact Ch.drew _
      have hszw2 : w2.heap.size = w1.heap.size := by rw [ew2]; rfl
      clear ew2
      have hzw2 := hc.size
      have HC := HC.tr hc
      have hp := hp.no hc
      have hq := hq.no hc
      have hS : Ch No w2 w2 := Ch.refl _ _
      refine ws_p rfl rfl rfl rfl (p_mv rfl) ?_
      refine ws_p rfl rfl rfl rfl (p_mv rfl) ?_
      obtain ⟨b3, o3, hA3, hF3, hc3⟩ := (hp).opn (d := ByteArray.empty) (by omega)
      refine ws_p rfl rfl rfl rfl (p_ixS1 Try.underlying23 sz9 rfl hA3 rfl (by omega) (by omega) (Int.toNat_natCast _)) ?_
      refine ws_h rfl rfl rfl rfl (p_ld Try.underlying9 rfl rfl (fun _ h => h.cell (fun h => h) (hc3 _ (by omega)))) ?_
      refine ws_p rfl rfl rfl rfl (p_mv rfl) ?_
      refine ws_p rfl rfl rfl rfl (p_mv rfl) ?_
      obtain ⟨b4, o4, hA4, hF4, hc4⟩ := (hq).opn (d := ByteArray.empty) (by omega)
      refine ws_p rfl rfl rfl rfl (p_ixS1 Try.underlying23 sz9 rfl hA4 rfl (by omega) (by omega) (Int.toNat_natCast _)) ?_
      refine ws_h rfl rfl rfl rfl (p_ld Try.underlying9 rfl rfl (fun _ h => h.cell (fun h => h) (hc4 _ (by omega)))) ?_
      refine ws_p rfl rfl rfl rfl (p_neT rfl rfl) ?_
      refine ws_n ?_
      refine x_seq ?_
      refine wc_if rfl (fun c2 => ?_) (fun c2 => ?_)
      ·
        have eS : decide (p = q) = false := decide_eq_false (fun h => neT_true c2 (by rw [h]))
        refine wc_seq ?_
        refine wc_region ?_
        refine wl rfl rfl rfl (p_as rfl) ?_
        refine wl_nil ?_
        refine x_seq ?_
        refine wc_ret ?_
        refine x_in_ret ?_
        refine x_then_ret ?_
        refine x_then_ret ?_
        refine x_in_ret ?_
        refine x_then_ret ?_
        refine fin_run (res1 rfl rfl) ?_
        rw [eS]; exact ⟨rfl, HC⟩
      ·
        have hkl : p.take (k + 1) = q.take (k + 1) := take_same hkp hkq hkl (neT_false c2)
        refine wc_skip ?_
        refine x_in_normal ?_
        refine x_seq ?_
        refine wc_region ?_
        refine wl rfl rfl rfl (p_add rfl rfl (w64 (by omega))) ?_
        refine wl rfl rfl rfl (p_mv rfl) ?_
        refine wl_nil ?_
        refine x_round (e' := [(0, .slice Ap lp cp), (1, .slice Aq lq cq), (12, i64 (lp : Int)), (13, i64 ((k + 1) : Int))]) ⟨rfl, rfl, rfl, rfl, trivial⟩ (by rw [hm]; omega) ⟨k + 1, rfl, rfl, hkl, by omega, hp, hq, HC⟩
    ·
      have c1 := of_decide_eq_false c1
      have eS : decide (p = q) = true := decide_eq_true (same_all hkl (by omega) (by omega))
      refine wc_exit ?_
      refine x_then_exit ?_
      refine x_then_exit ?_
      refine x_in_here ?_
      refine x_seq ?_
      refine wc_seq ?_
      refine wc_region ?_
      refine wl rfl rfl rfl (p_as rfl) ?_
      refine wl_nil ?_
      refine x_seq ?_
      refine wc_ret ?_
      refine fin_run (res1 rfl rfl) ?_
      rw [eS]; exact ⟨rfl, HC⟩

set_option maxHeartbeats 1000000 in
set_option maxRecDepth 20000 in
theorem light_any {w : World}  {Aq : Option Addr} {lq cq : Nat} {Fq : Nat → Prop} {q : List ByteArray} (hq : Sl w Fq Value.string Aq lq cq q) (hs : ∀ s ∈ q, s.size ≤ 140737488351232) :
    Calls Try.prog 10 #[.slice Aq lq cq] w fun e w' => e = .returned (.bool (lightB q)) ∧ Ch No w w' := by
  have hql := hq.len
  have hcap := hq.cap
  have hq := hq.old
  have HC : Ch No w w := Ch.refl _ _
  refine enter' (args := [.slice Aq lq cq]) (n := 23) Try.func10 rfl rfl rfl ?_
  refine wc_seq ?_
  refine wc_region ?_
  refine wl rfl rfl rfl (p_as rfl) ?_
  refine wl_nil ?_
  refine x_seq ?_
  refine wc_seq ?_
  refine wc_region ?_
  refine wl rfl rfl rfl (p_mv rfl) ?_
  refine wl rfl rfl rfl (p_lenS Try.underlying23 rfl) ?_
  refine wl rfl rfl rfl (p_as rfl) ?_
  refine wl_nil ?_
  refine x_seq ?_
  refine wc_seq ?_
  refine wc_seq ?_
  refine wc_region ?_
  refine wl rfl rfl rfl (p_mv rfl) ?_
  refine wl rfl rfl rfl (p_gt rfl rfl) ?_
  refine wl_nil ?_
  refine x_seq ?_
  refine wc_if rfl (fun c0 => ?_) (fun c0 => ?_)
  ·
    have c0 := of_decide_eq_true c0
    have eS : lightB q = false := light_long (by omega)
    refine wc_seq ?_
    refine wc_region ?_
    refine wl rfl rfl rfl (p_as rfl) ?_
    refine wl_nil ?_
    refine x_seq ?_
    refine wc_ret ?_
    refine x_then_ret ?_
    refine fin_run (res1 rfl rfl) ?_
    rw [eS]; exact ⟨rfl, HC⟩
  ·
    have c0 := of_decide_eq_false c0
    refine wc_skip ?_
    refine x_seq ?_
    refine wc_seq ?_
    refine wc_seq ?_
    refine wc_region ?_
    refine wl rfl rfl rfl (p_mv rfl) ?_
    refine wl rfl rfl rfl (p_lenS Try.underlying23 rfl) ?_
    refine wl rfl rfl rfl (p_mv rfl) ?_
    refine wl_nil ?_
    refine x_seq ?_
    refine wc_block ?_
    refine wc_loop (e' := [(3, i64 ((lq + tot (q.take (0)) : Nat) : Int)), (10, .slice Aq lq cq), (11, i64 (lq : Int)), (12, i64 ((0) : Int))]) (fun m e u => ∃ k : Nat, m = lq - k ∧ e = [(3, i64 ((lq + tot (q.take k) : Nat) : Int)), (10, .slice Aq lq cq), (11, i64 (lq : Int)), (12, i64 (k : Int))] ∧ lq + tot (q.take k) ≤ 4000 ∧ k ≤ lq ∧ Sl u (fun k => k < w.heap.size) Value.string Aq lq cq q ∧ Ch No w u)
      ⟨(show some (i64 (lq : Int)) = some (i64 ((lq + tot (q.take 0) : Nat) : Int)) from by simp [tot]), rfl, rfl, rfl, trivial⟩ ⟨0, rfl, rfl, by simp [tot]; omega, by omega, hq, HC⟩ ?_
    rintro m e w1 ⟨k, hm, rfl, hn, hk, hq, HC⟩
    have hzw1 := HC.size
    refine wc_seq ?_
    refine wc_region ?_
    refine wl rfl rfl rfl (p_lt rfl rfl) ?_
    refine wl_nil ?_
    refine x_seq ?_
    refine wc_seq ?_
    refine wc_if rfl (fun c1 => ?_) (fun c1 => ?_)
    ·
      have c1 := of_decide_eq_true c1
      have hkq : k < q.length := by omega
      have hst := tot_succ hkq
      have hsz := hs _ (getD_mem (d := ByteArray.empty) hkq)
      have htl := tot_take q (k + 1)
      refine wc_skip ?_
      refine x_seq ?_
      refine wc_seq ?_
      refine wc_block ?_
      refine wc_seq ?_
      refine wc_region ?_
      obtain ⟨b2, o2, hA2, hF2, hc2⟩ := (hq).opn (d := ByteArray.empty) (by omega)
      refine wl rfl rfl rfl (p_ixS1 Try.underlying23 sz9 rfl hA2 rfl (by omega) (by omega) (Int.toNat_natCast _)) ?_
      refine wl rfl rfl rfl (p_ld Try.underlying9 rfl rfl (ld (hc2 _ (by omega)))) ?_
      refine wl rfl rfl rfl (p_as rfl) ?_
      refine wl_nil ?_
      refine x_seq ?_
      refine wc_seq ?_
      refine wc_region ?_
      refine wl rfl rfl rfl (p_mv rfl) ?_
      refine wl rfl rfl rfl (p_mv rfl) ?_
      refine wl rfl rfl rfl (p_lenT Try.underlying9 rfl) ?_
      refine wl rfl rfl rfl (p_add rfl rfl (w64 (by omega))) ?_
      refine wl rfl rfl rfl (p_as rfl) ?_
      refine wl_nil ?_
      refine x_seq ?_
      refine wc_seq ?_
      refine wc_region ?_
      refine wl rfl rfl rfl (p_mv rfl) ?_
      refine wl rfl rfl rfl (p_gt rfl rfl) ?_
      refine wl_nil ?_
      refine x_seq ?_
      refine wc_if rfl (fun c2 => ?_) (fun c2 => ?_)
      ·
        have c2 := of_decide_eq_true c2
        have eS : lightB q = false := light_heavy (by omega)
        refine wc_seq ?_
        refine wc_region ?_
        refine wl rfl rfl rfl (p_as rfl) ?_
        refine wl_nil ?_
        refine x_seq ?_
        refine wc_ret ?_
        refine x_in_ret ?_
        refine x_then_ret ?_
        refine x_then_ret ?_
        refine x_in_ret ?_
        refine x_then_ret ?_
        refine fin_run (res1 rfl rfl) ?_
        rw [eS]; exact ⟨rfl, HC⟩
      ·
        have c2 := of_decide_eq_false c2
        refine wc_skip ?_
        refine x_in_normal ?_
        refine x_seq ?_
        refine wc_region ?_
        refine wl rfl rfl rfl (p_add rfl rfl (w64 (by omega))) ?_
        refine wl rfl rfl rfl (p_mv rfl) ?_
        refine wl_nil ?_
        refine x_round (e' := [(3, i64 ((lq + tot (q.take (k + 1)) : Nat) : Int)), (10, .slice Aq lq cq), (11, i64 (lq : Int)), (12, i64 ((k + 1) : Int))]) ⟨(congrArg some (congrArg i64 (by omega))), rfl, rfl, rfl, trivial⟩ (by rw [hm]; omega) ⟨k + 1, rfl, rfl, by omega, by omega, hq, HC⟩
    ·
      have c1 := of_decide_eq_false c1
      have eS : lightB q = true := light_yes (by omega) (by rw [show k = q.length by omega] at hn; rw [List.take_length] at hn; omega)
      refine wc_exit ?_
      refine x_then_exit ?_
      refine x_then_exit ?_
      refine x_in_here ?_
      refine x_seq ?_
      refine wc_seq ?_
      refine wc_region ?_
      refine wl rfl rfl rfl (p_as rfl) ?_
      refine wl_nil ?_
      refine x_seq ?_
      refine wc_ret ?_
      refine fin_run (res1 rfl rfl) ?_
      rw [eS]; exact ⟨rfl, HC⟩
end Go.Proofs.Ytdbdconmcgcooaa
