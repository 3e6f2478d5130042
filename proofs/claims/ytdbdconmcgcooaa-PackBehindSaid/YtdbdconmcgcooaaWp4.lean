/-
  Own text, printed by a program of mine (wip/gx): what functions of the program do, walked operation by operation.
-/
import Derived.Test.YtdbdconmcgcooaaProg
import Derived.Test.YtdbdconmcgcooaaGxAux
import Derived.Test.YtdbdconmcgcooaaTab
import Derived.Test.YtdbdconmcgcooaaPlPack
import Derived.Test.YtdbdconmcgcooaaWp3
set_option linter.unusedVariables false
namespace Go.Proofs.Ytdbdconmcgcooaa
open Go.RowKit Go.Gx
open Go.Plain
set_option maxHeartbeats 1000000 in
set_option maxRecDepth 20000 in
theorem getstr_any {w : World} {Ab : Option Addr} {lb cb : Nat} {Fb : Nat → Prop} {b : List UInt8} {most : Int} (hb : Sl w Fb u8v Ab lb cb b) (hl : lb ≤ 140737488355328) (hm1 : -9223372036854775808 ≤ most) (hm2 : most ≤ 9223372036854775807) :
    Calls Try.prog 20 #[.slice Ab lb cb, i64 most] w fun e w' => e = .returned (.tuple #[.string (gss b most), i64 (gsk b most : Int), .bool (gso b most)]) ∧ Ch No w w' := by
  have hbl := hb.len
  have hgk := gnk_le b
  have hgv := gnv_lt b
  obtain ⟨M, hM, hM2⟩ : ∃ M : Nat, (if (0 : Int) > most then 0 else most) = (M : Int) ∧ most.toNat = M := ⟨most.toNat, by split <;> omega, rfl⟩
  have hb := hb.old
  have HC : Ch No w w := Ch.refl _ _
  refine enter' (args := [.slice Ab lb cb, i64 most]) (n := 45) Try.func20 rfl rfl rfl ?_
  refine wc_seq ?_
  refine wc_region ?_
  refine wl rfl rfl rfl (p_as rfl) ?_
  refine wl rfl rfl rfl (p_as rfl) ?_
  refine wl rfl rfl rfl (p_as rfl) ?_
  refine wl_nil ?_
  refine x_seq ?_
  refine wc_seq ?_
  refine wc_region ?_
  refine wl rfl rfl rfl (p_mv rfl) ?_
  refine wle rfl (e_call ent17 rfl rfl (getnum_any (hb) (by omega)) ?_)
  rintro _ w1 ⟨rfl, hc⟩
  refine ⟨_, rfl, ?_⟩
  have hzw1 := hc.size
  have HC := HC.tr hc
  have hb := hb.no hc
  refine wl rfl rfl rfl (p_mv rfl) ?_
  refine wl rfl rfl rfl (p_ext rfl rfl) ?_
  refine wl rfl rfl rfl (p_ext rfl rfl) ?_
  refine wl rfl rfl rfl (p_ext rfl rfl) ?_
  refine wl rfl rfl rfl (p_as rfl) ?_
  refine wl rfl rfl rfl (p_as rfl) ?_
  refine wl rfl rfl rfl (p_as rfl) ?_
  refine wl_nil ?_
  refine x_seq ?_
  refine wc_seq ?_
  refine wc_seq ?_
  refine wc_region ?_
  refine wl rfl rfl rfl (p_mv rfl) ?_
  refine wl rfl rfl rfl (p_not rfl) ?_
  refine wl rfl rfl rfl (p_mv rfl) ?_
  refine wl_split (d := 19) rfl (fun q19 => ?_) (fun q19 => ?_)
  ·
    have hg : gn b = none := by
      cases h : gn b with
      | none => rfl
      | some p => rw [(gn_some (n := p.1) (k := p.2) h).2.2] at q19; cases q19
    have eg : gs b most = none := by unfold gs; rw [hg]
    refine wl_s (gd_ rfl rfl rfl rfl rfl rfl) rfl rfl ?_
    refine wl_s (gd_ rfl rfl rfl rfl rfl rfl) rfl rfl ?_
    refine wl_s (gd_ rfl rfl rfl rfl rfl rfl) rfl rfl ?_
    refine wl_s (gd_ rfl rfl rfl rfl rfl rfl) rfl rfl ?_
    refine wl_s (gd_ rfl rfl rfl rfl rfl rfl) rfl rfl ?_
    refine wl rfl rfl rfl (p_pickT rfl rfl) ?_
    refine wl rfl rfl rfl (p_mv rfl) ?_
    refine wl_s (gd_ rfl rfl rfl rfl rfl rfl) rfl rfl ?_
    refine wl_s (gd_ rfl rfl rfl rfl rfl rfl) rfl rfl ?_
    refine wl_s (gd_ rfl rfl rfl rfl rfl rfl) rfl rfl ?_
    refine wl_s (gd_ rfl rfl rfl rfl rfl rfl) rfl rfl ?_
    refine wl_s (gd_ rfl rfl rfl rfl rfl rfl) rfl rfl ?_
    refine wl_s (gd_ rfl rfl rfl rfl rfl rfl) rfl rfl ?_
    refine wl_s (gd_ rfl rfl rfl rfl rfl rfl) rfl rfl ?_
    refine wl rfl rfl rfl (p_pickT rfl rfl) ?_
    refine wl_nil ?_
    refine x_seq ?_
    refine wc_yes rfl (rfl) ?_
    refine wc_seq ?_
    refine wc_region ?_
    refine wl rfl rfl rfl (p_as rfl) ?_
    refine wl rfl rfl rfl (p_as rfl) ?_
    refine wl rfl rfl rfl (p_as rfl) ?_
    refine wl_nil ?_
    refine x_seq ?_
    refine wc_ret ?_
    refine x_then_ret ?_
    refine fin_run (res3 rfl rfl rfl rfl) ?_
    first
      | (obtain ⟨e1, e2, e3⟩ := gs_none eg; rw [e1, e2, e3]; exact ⟨rfl, HC⟩)
      | (obtain ⟨e1, e2, e3⟩ := gs_some eg; rw [e1, e2, e3]; exact ⟨rfl, HC⟩)
  ·
    have hgn := gn_of (b := b) (by simpa using q19)
    refine wl_g (gd_ rfl rfl rfl rfl rfl rfl) rfl rfl (p_mv rfl) ?_
    refine wl_g (gd_ rfl rfl rfl rfl rfl rfl) rfl rfl (p_mv rfl) ?_
    refine wl_g (gd_ rfl rfl rfl rfl rfl rfl) rfl rfl (p_maxE rfl rfl hM) ?_
    refine wl_g (gd_ rfl rfl rfl rfl rfl rfl) rfl rfl (p_conv Try.underlying3 Try.underlying22 rfl (wu64 (by omega))) ?_
    refine wl_g (gd_ rfl rfl rfl rfl rfl rfl) rfl rfl (p_gt rfl rfl) ?_
    refine wl rfl rfl rfl (p_pickF rfl rfl) ?_
    refine wl rfl rfl rfl (p_mv rfl) ?_
    refine wl_split (d := 26) rfl (fun q26 => ?_) (fun q26 => ?_)
    ·
      have q26 := of_decide_eq_true q26
      have eg : gs b most = none := by unfold gs; rw [hgn]; simp only []; rw [if_pos (by omega)]
      refine wl_s (gd_ rfl rfl rfl rfl rfl rfl) rfl rfl ?_
      refine wl_s (gd_ rfl rfl rfl rfl rfl rfl) rfl rfl ?_
      refine wl_s (gd_ rfl rfl rfl rfl rfl rfl) rfl rfl ?_
      refine wl_s (gd_ rfl rfl rfl rfl rfl rfl) rfl rfl ?_
      refine wl_s (gd_ rfl rfl rfl rfl rfl rfl) rfl rfl ?_
      refine wl_s (gd_ rfl rfl rfl rfl rfl rfl) rfl rfl ?_
      refine wl_s (gd_ rfl rfl rfl rfl rfl rfl) rfl rfl ?_
      refine wl rfl rfl rfl (p_pickT rfl rfl) ?_
      refine wl_nil ?_
      refine x_seq ?_
      refine wc_yes rfl (rfl) ?_
      refine wc_seq ?_
      refine wc_region ?_
      refine wl rfl rfl rfl (p_as rfl) ?_
      refine wl rfl rfl rfl (p_as rfl) ?_
      refine wl rfl rfl rfl (p_as rfl) ?_
      refine wl_nil ?_
      refine x_seq ?_
      refine wc_ret ?_
      refine x_then_ret ?_
      refine fin_run (res3 rfl rfl rfl rfl) ?_
      first
        | (obtain ⟨e1, e2, e3⟩ := gs_none eg; rw [e1, e2, e3]; exact ⟨rfl, HC⟩)
        | (obtain ⟨e1, e2, e3⟩ := gs_some eg; rw [e1, e2, e3]; exact ⟨rfl, HC⟩)
    ·
      have q26 := of_decide_eq_false q26
      refine wl_g (gd_ rfl rfl rfl rfl rfl rfl) rfl rfl (p_mv rfl) ?_
      refine wl_g (gd_ rfl rfl rfl rfl rfl rfl) rfl rfl (p_mv rfl) ?_
      refine wl_g (gd_ rfl rfl rfl rfl rfl rfl) rfl rfl (p_lenS Try.underlying27 rfl) ?_
      refine wl_g (gd_ rfl rfl rfl rfl rfl rfl) rfl rfl (p_mv rfl) ?_
      refine wl_g (gd_ rfl rfl rfl rfl rfl rfl) rfl rfl (p_sub rfl rfl (w64 (by omega))) ?_
      refine wl_g (gd_ rfl rfl rfl rfl rfl rfl) rfl rfl (p_conv Try.underlying3 Try.underlying22 rfl (wu64 (by omega))) ?_
      refine wl_g (gd_ rfl rfl rfl rfl rfl rfl) rfl rfl (p_gt rfl rfl) ?_
      refine wl rfl rfl rfl (p_pickF rfl rfl) ?_
      refine wl_nil ?_
      refine x_seq ?_
      refine wc_if rfl (fun c0 => ?_) (fun c0 => ?_)
      ·
        have c0 := of_decide_eq_true c0
        have eg : gs b most = none := by unfold gs; rw [hgn]; simp only []; rw [if_pos (by omega)]
        refine wc_seq ?_
        refine wc_region ?_
        refine wl rfl rfl rfl (p_as rfl) ?_
        refine wl rfl rfl rfl (p_as rfl) ?_
        refine wl rfl rfl rfl (p_as rfl) ?_
        refine wl_nil ?_
        refine x_seq ?_
        refine wc_ret ?_
        refine x_then_ret ?_
        refine fin_run (res3 rfl rfl rfl rfl) ?_
        first
          | (obtain ⟨e1, e2, e3⟩ := gs_none eg; rw [e1, e2, e3]; exact ⟨rfl, HC⟩)
          | (obtain ⟨e1, e2, e3⟩ := gs_some eg; rw [e1, e2, e3]; exact ⟨rfl, HC⟩)
      ·
        have c0 := of_decide_eq_false c0
        have eg : gs b most = some ((b.drop (gnk b)).take (gnv b), gnk b + gnv b) := by unfold gs; rw [hgn]; simp only []; rw [if_neg (by omega)]
        refine wc_skip ?_
        refine x_seq ?_
        refine wc_seq ?_
        refine wc_region ?_
        refine wl rfl rfl rfl (p_mv rfl) ?_
        refine wl rfl rfl rfl (p_mv rfl) ?_
        refine wl rfl rfl rfl (p_conv Try.underlying22 Try.underlying3 rfl (w64 (by omega))) ?_
        refine wl rfl rfl rfl (p_add rfl rfl (w64 (by omega))) ?_
        refine wl rfl rfl rfl (p_as rfl) ?_
        refine wl_nil ?_
        refine x_seq ?_
        refine wc_seq ?_
        refine wc_region ?_
        refine wl rfl rfl rfl (p_mv rfl) ?_
        refine wl rfl rfl rfl (p_mv rfl) ?_
        refine wl rfl rfl rfl (p_mv rfl) ?_
        have hS42 := hb.cut (lo := gnk b) (hi := gnk b + gnv b) (q := gnv b) (by omega) (by omega) (by omega)
        refine wl rfl rfl rfl (p_slS (l := gnk b) (h := gnk b + gnv b) Try.underlying27 sz5 rfl ⟨_, rfl⟩ ⟨_, rfl⟩ (by omega) (by have := hb.cap; omega) hb.cap (q := gnv b) (by omega)) ?_
        refine wl rfl rfl rfl (p_bts Try.underlying27 Try.underlying5 Try.underlying9 rfl (hS42).len (fun _ e => e ▸ (hS42).rd)) ?_
        refine wl rfl rfl rfl (p_mv rfl) ?_
        refine wl rfl rfl rfl (p_as rfl) ?_
        refine wl rfl rfl rfl (p_as rfl) ?_
        refine wl rfl rfl rfl (p_as rfl) ?_
        refine wl_nil ?_
        refine x_seq ?_
        refine wc_ret ?_
        refine fin_run (res3 rfl rfl rfl rfl) ?_
        first
          | (obtain ⟨e1, e2, e3⟩ := gs_none eg; rw [e1, e2, e3]; exact ⟨rfl, HC⟩)
          | (obtain ⟨e1, e2, e3⟩ := gs_some eg; rw [e1, e2, e3]; exact ⟨rfl, HC⟩)

set_option maxHeartbeats 1000000 in
set_option maxRecDepth 20000 in
theorem rgetstr_any {w : World} {Ab : Option Addr} {lb cb : Nat} {Fb : Nat → Prop} {b : List UInt8} {most : Int} (hb : Sl w Fb u8v Ab lb cb b) (hl : lb ≤ 140737488355328) (hm1 : -9223372036854775808 ≤ most) (hm2 : most ≤ 9223372036854775807) :
    Calls Try.prog 21 #[.slice Ab lb cb, i64 most] w fun e w' => e = .returned (.tuple #[.string (gss b most), i64 (gsk b most : Int), .bool (gso b most)]) ∧ Ch No w w' := by
  have hbl := hb.len
  have hgk := gnk_le b
  have hgv := gnv_lt b
  have hb := hb.old
  have HC : Ch No w w := Ch.refl _ _
  refine enter' (args := [.slice Ab lb cb, i64 most]) (n := 47) Try.func21 rfl rfl rfl ?_
  refine wc_seq ?_
  refine wc_region ?_
  refine wl rfl rfl rfl (p_as rfl) ?_
  refine wl rfl rfl rfl (p_as rfl) ?_
  refine wl rfl rfl rfl (p_as rfl) ?_
  refine wl_nil ?_
  refine x_seq ?_
  refine wc_seq ?_
  refine wc_seq ?_
  refine wc_region ?_
  refine wl rfl rfl rfl (p_mv rfl) ?_
  refine wl rfl rfl rfl (p_lt rfl rfl) ?_
  refine wl_nil ?_
  refine x_seq ?_
  refine wc_if rfl (fun c0 => ?_) (fun c0 => ?_)
  ·
    have c0 := of_decide_eq_true c0
    refine wc_region ?_
    refine wl rfl rfl rfl (p_as rfl) ?_
    refine wl_nil ?_
    refine x_seq ?_
    refine wc_seq ?_
    refine wc_region ?_
    refine wl rfl rfl rfl (p_mv rfl) ?_
    refine wle rfl (e_call ent18 rfl rfl (rgetnum_any (hb) (by omega)) ?_)
    rintro _ w1 ⟨rfl, hc⟩
    refine ⟨_, rfl, ?_⟩
    have hzw1 := hc.size
    have HC := HC.tr hc
    have hb := hb.no hc
    refine wl rfl rfl rfl (p_mv rfl) ?_
    refine wl rfl rfl rfl (p_ext rfl rfl) ?_
    refine wl rfl rfl rfl (p_ext rfl rfl) ?_
    refine wl rfl rfl rfl (p_ext rfl rfl) ?_
    refine wl rfl rfl rfl (p_as rfl) ?_
    refine wl rfl rfl rfl (p_as rfl) ?_
    refine wl rfl rfl rfl (p_as rfl) ?_
    refine wl_nil ?_
    refine x_seq ?_
    refine wc_seq ?_
    refine wc_seq ?_
    refine wc_region ?_
    refine wl rfl rfl rfl (p_mv rfl) ?_
    refine wl rfl rfl rfl (p_not rfl) ?_
    refine wl rfl rfl rfl (p_mv rfl) ?_
    refine wl_split (d := 20) rfl (fun q20 => ?_) (fun q20 => ?_)
    ·
      have hg : gn b = none := by
        cases h : gn b with
        | none => rfl
        | some p => rw [(gn_some (n := p.1) (k := p.2) h).2.2] at q20; cases q20
      have eg : gs b most = none := by unfold gs; rw [hg]
      refine wl_s (gd_ rfl rfl rfl rfl rfl rfl) rfl rfl ?_
      refine wl_s (gd_ rfl rfl rfl rfl rfl rfl) rfl rfl ?_
      refine wl_s (gd_ rfl rfl rfl rfl rfl rfl) rfl rfl ?_
      refine wl_s (gd_ rfl rfl rfl rfl rfl rfl) rfl rfl ?_
      refine wl rfl rfl rfl (p_pickT rfl rfl) ?_
      refine wl rfl rfl rfl (p_mv rfl) ?_
      refine wl_s (gd_ rfl rfl rfl rfl rfl rfl) rfl rfl ?_
      refine wl_s (gd_ rfl rfl rfl rfl rfl rfl) rfl rfl ?_
      refine wl_s (gd_ rfl rfl rfl rfl rfl rfl) rfl rfl ?_
      refine wl_s (gd_ rfl rfl rfl rfl rfl rfl) rfl rfl ?_
      refine wl_s (gd_ rfl rfl rfl rfl rfl rfl) rfl rfl ?_
      refine wl_s (gd_ rfl rfl rfl rfl rfl rfl) rfl rfl ?_
      refine wl_s (gd_ rfl rfl rfl rfl rfl rfl) rfl rfl ?_
      refine wl rfl rfl rfl (p_pickT rfl rfl) ?_
      refine wl_nil ?_
      refine x_seq ?_
      refine wc_yes rfl (rfl) ?_
      refine wc_seq ?_
      refine wc_region ?_
      refine wl rfl rfl rfl (p_as rfl) ?_
      refine wl rfl rfl rfl (p_as rfl) ?_
      refine wl rfl rfl rfl (p_as rfl) ?_
      refine wl_nil ?_
      refine x_seq ?_
      refine wc_ret ?_
      refine x_then_ret ?_
      refine fin_run (res3 rfl rfl rfl rfl) ?_
      first
        | (obtain ⟨e1, e2, e3⟩ := gs_none eg; rw [e1, e2, e3]; exact ⟨rfl, HC⟩)
        | (obtain ⟨e1, e2, e3⟩ := gs_some eg; rw [e1, e2, e3]; exact ⟨rfl, HC⟩)
    ·
      have hgn := gn_of (b := b) (by simpa using q20)
      refine wl_g (gd_ rfl rfl rfl rfl rfl rfl) rfl rfl (p_mv rfl) ?_
      refine wl_g (gd_ rfl rfl rfl rfl rfl rfl) rfl rfl (p_mv rfl) ?_
      refine wl_g (gd_ rfl rfl rfl rfl rfl rfl) rfl rfl (p_conv Try.underlying3 Try.underlying22 rfl (wu64 (by omega))) ?_
      refine wl_g (gd_ rfl rfl rfl rfl rfl rfl) rfl rfl (p_gt rfl rfl) ?_
      refine wl rfl rfl rfl (p_pickF rfl rfl) ?_
      refine wl rfl rfl rfl (p_mv rfl) ?_
      refine wl_split (d := 26) rfl (fun q26 => ?_) (fun q26 => ?_)
      ·
        have q26 := of_decide_eq_true q26
        have eg : gs b most = none := by unfold gs; rw [hgn]; simp only []; rw [if_pos (by omega)]
        refine wl_s (gd_ rfl rfl rfl rfl rfl rfl) rfl rfl ?_
        refine wl_s (gd_ rfl rfl rfl rfl rfl rfl) rfl rfl ?_
        refine wl_s (gd_ rfl rfl rfl rfl rfl rfl) rfl rfl ?_
        refine wl_s (gd_ rfl rfl rfl rfl rfl rfl) rfl rfl ?_
        refine wl_s (gd_ rfl rfl rfl rfl rfl rfl) rfl rfl ?_
        refine wl_s (gd_ rfl rfl rfl rfl rfl rfl) rfl rfl ?_
        refine wl_s (gd_ rfl rfl rfl rfl rfl rfl) rfl rfl ?_
        refine wl rfl rfl rfl (p_pickT rfl rfl) ?_
        refine wl_nil ?_
        refine x_seq ?_
        refine wc_yes rfl (rfl) ?_
        refine wc_seq ?_
        refine wc_region ?_
        refine wl rfl rfl rfl (p_as rfl) ?_
        refine wl rfl rfl rfl (p_as rfl) ?_
        refine wl rfl rfl rfl (p_as rfl) ?_
        refine wl_nil ?_
        refine x_seq ?_
        refine wc_ret ?_
        refine x_then_ret ?_
        refine fin_run (res3 rfl rfl rfl rfl) ?_
        first
          | (obtain ⟨e1, e2, e3⟩ := gs_none eg; rw [e1, e2, e3]; exact ⟨rfl, HC⟩)
          | (obtain ⟨e1, e2, e3⟩ := gs_some eg; rw [e1, e2, e3]; exact ⟨rfl, HC⟩)
      ·
        have q26 := of_decide_eq_false q26
        refine wl_g (gd_ rfl rfl rfl rfl rfl rfl) rfl rfl (p_mv rfl) ?_
        refine wl_g (gd_ rfl rfl rfl rfl rfl rfl) rfl rfl (p_mv rfl) ?_
        refine wl_g (gd_ rfl rfl rfl rfl rfl rfl) rfl rfl (p_lenS Try.underlying27 rfl) ?_
        refine wl_g (gd_ rfl rfl rfl rfl rfl rfl) rfl rfl (p_mv rfl) ?_
        refine wl_g (gd_ rfl rfl rfl rfl rfl rfl) rfl rfl (p_sub rfl rfl (w64 (by omega))) ?_
        refine wl_g (gd_ rfl rfl rfl rfl rfl rfl) rfl rfl (p_conv Try.underlying3 Try.underlying22 rfl (wu64 (by omega))) ?_
        refine wl_g (gd_ rfl rfl rfl rfl rfl rfl) rfl rfl (p_gt rfl rfl) ?_
        refine wl rfl rfl rfl (p_pickF rfl rfl) ?_
        refine wl_nil ?_
        refine x_seq ?_
        refine wc_if rfl (fun c1 => ?_) (fun c1 => ?_)
        ·
          have c1 := of_decide_eq_true c1
          have eg : gs b most = none := by unfold gs; rw [hgn]; simp only []; rw [if_pos (by omega)]
          refine wc_seq ?_
          refine wc_region ?_
          refine wl rfl rfl rfl (p_as rfl) ?_
          refine wl rfl rfl rfl (p_as rfl) ?_
          refine wl rfl rfl rfl (p_as rfl) ?_
          refine wl_nil ?_
          refine x_seq ?_
          refine wc_ret ?_
          refine x_then_ret ?_
          refine fin_run (res3 rfl rfl rfl rfl) ?_
          first
            | (obtain ⟨e1, e2, e3⟩ := gs_none eg; rw [e1, e2, e3]; exact ⟨rfl, HC⟩)
            | (obtain ⟨e1, e2, e3⟩ := gs_some eg; rw [e1, e2, e3]; exact ⟨rfl, HC⟩)
        ·
          have c1 := of_decide_eq_false c1
          have eg : gs b most = some ((b.drop (gnk b)).take (gnv b), gnk b + gnv b) := by unfold gs; rw [hgn]; simp only []; rw [if_neg (by omega)]
          refine wc_skip ?_
          refine x_seq ?_
          refine wc_seq ?_
          refine wc_region ?_
          refine wl rfl rfl rfl (p_mv rfl) ?_
          refine wl rfl rfl rfl (p_mv rfl) ?_
          refine wl rfl rfl rfl (p_mv rfl) ?_
          refine wl rfl rfl rfl (p_mv rfl) ?_
          refine wl rfl rfl rfl (p_conv Try.underlying22 Try.underlying3 rfl (w64 (by omega))) ?_
          refine wl rfl rfl rfl (p_add rfl rfl (w64 (by omega))) ?_
          have hS41 := hb.cut (lo := gnk b) (hi := gnk b + gnv b) (q := gnv b) (by omega) (by omega) (by omega)
          refine wl rfl rfl rfl (p_slS (l := gnk b) (h := gnk b + gnv b) Try.underlying27 sz5 rfl ⟨_, rfl⟩ ⟨_, rfl⟩ (by omega) (by have := hb.cap; omega) hb.cap (q := gnv b) (by omega)) ?_
          refine wl rfl rfl rfl (p_bts Try.underlying27 Try.underlying5 Try.underlying9 rfl (hS41).len (fun _ e => e ▸ (hS41).rd)) ?_
          refine wl rfl rfl rfl (p_mv rfl) ?_
          refine wl rfl rfl rfl (p_mv rfl) ?_
          refine wl rfl rfl rfl (p_conv Try.underlying22 Try.underlying3 rfl (w64 (by omega))) ?_
          refine wl rfl rfl rfl (p_add rfl rfl (w64 (by omega))) ?_
          refine wl rfl rfl rfl (p_as rfl) ?_
          refine wl rfl rfl rfl (p_as rfl) ?_
          refine wl rfl rfl rfl (p_as rfl) ?_
          refine wl_nil ?_
          refine x_seq ?_
          refine wc_ret ?_
          refine fin_run (res3 rfl rfl rfl rfl) ?_
          first
            | (obtain ⟨e1, e2, e3⟩ := gs_none eg; rw [e1, e2, e3]; exact ⟨rfl, HC⟩)
            | (obtain ⟨e1, e2, e3⟩ := gs_some eg; rw [e1, e2, e3]; exact ⟨rfl, HC⟩)
  ·
    have c0 := of_decide_eq_false c0
    refine wc_skip ?_
    refine x_seq ?_
    refine wc_seq ?_
    refine wc_region ?_
    refine wl rfl rfl rfl (p_mv rfl) ?_
    refine wle rfl (e_call ent18 rfl rfl (rgetnum_any (hb) (by omega)) ?_)
    rintro _ w2 ⟨rfl, hc⟩
    refine ⟨_, rfl, ?_⟩
    have hzw2 := hc.size
    have HC := HC.tr hc
    have hb := hb.no hc
    refine wl rfl rfl rfl (p_mv rfl) ?_
    refine wl rfl rfl rfl (p_ext rfl rfl) ?_
    refine wl rfl rfl rfl (p_ext rfl rfl) ?_
    refine wl rfl rfl rfl (p_ext rfl rfl) ?_
    refine wl rfl rfl rfl (p_as rfl) ?_
    refine wl rfl rfl rfl (p_as rfl) ?_
    refine wl rfl rfl rfl (p_as rfl) ?_
    refine wl_nil ?_
    refine x_seq ?_
    refine wc_seq ?_
    refine wc_seq ?_
    refine wc_region ?_
    refine wl rfl rfl rfl (p_mv rfl) ?_
    refine wl rfl rfl rfl (p_not rfl) ?_
    refine wl rfl rfl rfl (p_mv rfl) ?_
    refine wl_split (d := 20) rfl (fun q20 => ?_) (fun q20 => ?_)
    ·
      have hg : gn b = none := by
        cases h : gn b with
        | none => rfl
        | some p => rw [(gn_some (n := p.1) (k := p.2) h).2.2] at q20; cases q20
      have eg : gs b most = none := by unfold gs; rw [hg]
      refine wl_s (gd_ rfl rfl rfl rfl rfl rfl) rfl rfl ?_
      refine wl_s (gd_ rfl rfl rfl rfl rfl rfl) rfl rfl ?_
      refine wl_s (gd_ rfl rfl rfl rfl rfl rfl) rfl rfl ?_
      refine wl_s (gd_ rfl rfl rfl rfl rfl rfl) rfl rfl ?_
      refine wl rfl rfl rfl (p_pickT rfl rfl) ?_
      refine wl rfl rfl rfl (p_mv rfl) ?_
      refine wl_s (gd_ rfl rfl rfl rfl rfl rfl) rfl rfl ?_
      refine wl_s (gd_ rfl rfl rfl rfl rfl rfl) rfl rfl ?_
      refine wl_s (gd_ rfl rfl rfl rfl rfl rfl) rfl rfl ?_
      refine wl_s (gd_ rfl rfl rfl rfl rfl rfl) rfl rfl ?_
      refine wl_s (gd_ rfl rfl rfl rfl rfl rfl) rfl rfl ?_
      refine wl_s (gd_ rfl rfl rfl rfl rfl rfl) rfl rfl ?_
      refine wl_s (gd_ rfl rfl rfl rfl rfl rfl) rfl rfl ?_
      refine wl rfl rfl rfl (p_pickT rfl rfl) ?_
      refine wl_nil ?_
      refine x_seq ?_
      refine wc_yes rfl (rfl) ?_
      refine wc_seq ?_
      refine wc_region ?_
      refine wl rfl rfl rfl (p_as rfl) ?_
      refine wl rfl rfl rfl (p_as rfl) ?_
      refine wl rfl rfl rfl (p_as rfl) ?_
      refine wl_nil ?_
      refine x_seq ?_
      refine wc_ret ?_
      refine x_then_ret ?_
      refine fin_run (res3 rfl rfl rfl rfl) ?_
      first
        | (obtain ⟨e1, e2, e3⟩ := gs_none eg; rw [e1, e2, e3]; exact ⟨rfl, HC⟩)
        | (obtain ⟨e1, e2, e3⟩ := gs_some eg; rw [e1, e2, e3]; exact ⟨rfl, HC⟩)
    ·
      have hgn := gn_of (b := b) (by simpa using q20)
      refine wl_g (gd_ rfl rfl rfl rfl rfl rfl) rfl rfl (p_mv rfl) ?_
      refine wl_g (gd_ rfl rfl rfl rfl rfl rfl) rfl rfl (p_mv rfl) ?_
      refine wl_g (gd_ rfl rfl rfl rfl rfl rfl) rfl rfl (p_conv Try.underlying3 Try.underlying22 rfl (wu64 (by omega))) ?_
      refine wl_g (gd_ rfl rfl rfl rfl rfl rfl) rfl rfl (p_gt rfl rfl) ?_
      refine wl rfl rfl rfl (p_pickF rfl rfl) ?_
      refine wl rfl rfl rfl (p_mv rfl) ?_
      refine wl_split (d := 26) rfl (fun q26 => ?_) (fun q26 => ?_)
      ·
        have q26 := of_decide_eq_true q26
        have eg : gs b most = none := by unfold gs; rw [hgn]; simp only []; rw [if_pos (by omega)]
        refine wl_s (gd_ rfl rfl rfl rfl rfl rfl) rfl rfl ?_
        refine wl_s (gd_ rfl rfl rfl rfl rfl rfl) rfl rfl ?_
        refine wl_s (gd_ rfl rfl rfl rfl rfl rfl) rfl rfl ?_
        refine wl_s (gd_ rfl rfl rfl rfl rfl rfl) rfl rfl ?_
        refine wl_s (gd_ rfl rfl rfl rfl rfl rfl) rfl rfl ?_
        refine wl_s (gd_ rfl rfl rfl rfl rfl rfl) rfl rfl ?_
        refine wl_s (gd_ rfl rfl rfl rfl rfl rfl) rfl rfl ?_
        refine wl rfl rfl rfl (p_pickT rfl rfl) ?_
        refine wl_nil ?_
        refine x_seq ?_
        refine wc_yes rfl (rfl) ?_
        refine wc_seq ?_
        refine wc_region ?_
        refine wl rfl rfl rfl (p_as rfl) ?_
        refine wl rfl rfl rfl (p_as rfl) ?_
        refine wl rfl rfl rfl (p_as rfl) ?_
        refine wl_nil ?_
        refine x_seq ?_
        refine wc_ret ?_
        refine x_then_ret ?_
        refine fin_run (res3 rfl rfl rfl rfl) ?_
        first
          | (obtain ⟨e1, e2, e3⟩ := gs_none eg; rw [e1, e2, e3]; exact ⟨rfl, HC⟩)
          | (obtain ⟨e1, e2, e3⟩ := gs_some eg; rw [e1, e2, e3]; exact ⟨rfl, HC⟩)
      ·
        have q26 := of_decide_eq_false q26
        refine wl_g (gd_ rfl rfl rfl rfl rfl rfl) rfl rfl (p_mv rfl) ?_
        refine wl_g (gd_ rfl rfl rfl rfl rfl rfl) rfl rfl (p_mv rfl) ?_
        refine wl_g (gd_ rfl rfl rfl rfl rfl rfl) rfl rfl (p_lenS Try.underlying27 rfl) ?_
        refine wl_g (gd_ rfl rfl rfl rfl rfl rfl) rfl rfl (p_mv rfl) ?_
        refine wl_g (gd_ rfl rfl rfl rfl rfl rfl) rfl rfl (p_sub rfl rfl (w64 (by omega))) ?_
        refine wl_g (gd_ rfl rfl rfl rfl rfl rfl) rfl rfl (p_conv Try.underlying3 Try.underlying22 rfl (wu64 (by omega))) ?_
        refine wl_g (gd_ rfl rfl rfl rfl rfl rfl) rfl rfl (p_gt rfl rfl) ?_
        refine wl rfl rfl rfl (p_pickF rfl rfl) ?_
        refine wl_nil ?_
        refine x_seq ?_
        refine wc_if rfl (fun c1 => ?_) (fun c1 => ?_)
        ·
          have c1 := of_decide_eq_true c1
          have eg : gs b most = none := by unfold gs; rw [hgn]; simp only []; rw [if_pos (by omega)]
          refine wc_seq ?_
          refine wc_region ?_
          refine wl rfl rfl rfl (p_as rfl) ?_
          refine wl rfl rfl rfl (p_as rfl) ?_
          refine wl rfl rfl rfl (p_as rfl) ?_
          refine wl_nil ?_
          refine x_seq ?_
          refine wc_ret ?_
          refine x_then_ret ?_
          refine fin_run (res3 rfl rfl rfl rfl) ?_
          first
            | (obtain ⟨e1, e2, e3⟩ := gs_none eg; rw [e1, e2, e3]; exact ⟨rfl, HC⟩)
            | (obtain ⟨e1, e2, e3⟩ := gs_some eg; rw [e1, e2, e3]; exact ⟨rfl, HC⟩)
        ·
          have c1 := of_decide_eq_false c1
          have eg : gs b most = some ((b.drop (gnk b)).take (gnv b), gnk b + gnv b) := by unfold gs; rw [hgn]; simp only []; rw [if_neg (by omega)]
          refine wc_skip ?_
          refine x_seq ?_
          refine wc_seq ?_
          refine wc_region ?_
          refine wl rfl rfl rfl (p_mv rfl) ?_
          refine wl rfl rfl rfl (p_mv rfl) ?_
          refine wl rfl rfl rfl (p_mv rfl) ?_
          refine wl rfl rfl rfl (p_mv rfl) ?_
          refine wl rfl rfl rfl (p_conv Try.underlying22 Try.underlying3 rfl (w64 (by omega))) ?_
          refine wl rfl rfl rfl (p_add rfl rfl (w64 (by omega))) ?_
          have hS41 := hb.cut (lo := gnk b) (hi := gnk b + gnv b) (q := gnv b) (by omega) (by omega) (by omega)
          refine wl rfl rfl rfl (p_slS (l := gnk b) (h := gnk b + gnv b) Try.underlying27 sz5 rfl ⟨_, rfl⟩ ⟨_, rfl⟩ (by omega) (by have := hb.cap; omega) hb.cap (q := gnv b) (by omega)) ?_
          refine wl rfl rfl rfl (p_bts Try.underlying27 Try.underlying5 Try.underlying9 rfl (hS41).len (fun _ e => e ▸ (hS41).rd)) ?_
          refine wl rfl rfl rfl (p_mv rfl) ?_
          refine wl rfl rfl rfl (p_mv rfl) ?_
          refine wl rfl rfl rfl (p_conv Try.underlying22 Try.underlying3 rfl (w64 (by omega))) ?_
          refine wl rfl rfl rfl (p_add rfl rfl (w64 (by omega))) ?_
          refine wl rfl rfl rfl (p_as rfl) ?_
          refine wl rfl rfl rfl (p_as rfl) ?_
          refine wl rfl rfl rfl (p_as rfl) ?_
          refine wl_nil ?_
          refine x_seq ?_
          refine wc_ret ?_
          refine fin_run (res3 rfl rfl rfl rfl) ?_
          first
            | (obtain ⟨e1, e2, e3⟩ := gs_none eg; rw [e1, e2, e3]; exact ⟨rfl, HC⟩)
            | (obtain ⟨e1, e2, e3⟩ := gs_some eg; rw [e1, e2, e3]; exact ⟨rfl, HC⟩)

set_option maxHeartbeats 1000000 in
set_option maxRecDepth 20000 in
theorem getflag_any {w : World} {Ab : Option Addr} {lb cb : Nat} {Fb : Nat → Prop} {b : List UInt8} (hb : Sl w Fb u8v Ab lb cb b) :
    Calls Try.prog 22 #[.slice Ab lb cb] w fun e w' => e = .returned (.tuple #[.bool (gfv b), i64 (gfk b : Int), .bool (gfo b)]) ∧ Ch No w w' := by
  have hbl := hb.len
  have hb := hb.old
  have HC : Ch No w w := Ch.refl _ _
  refine enter' (args := [.slice Ab lb cb]) (n := 18) Try.func22 rfl rfl rfl ?_
  refine wc_seq ?_
  refine wc_region ?_
  refine wl rfl rfl rfl (p_as rfl) ?_
  refine wl rfl rfl rfl (p_as rfl) ?_
  refine wl rfl rfl rfl (p_as rfl) ?_
  refine wl_nil ?_
  refine x_seq ?_
  refine wc_seq ?_
  refine wc_seq ?_
  refine wc_region ?_
  refine wl rfl rfl rfl (p_mv rfl) ?_
  refine wl rfl rfl rfl (p_lenS Try.underlying27 rfl) ?_
  refine wl rfl rfl rfl (p_eq rfl rfl) ?_
  refine wl rfl rfl rfl (p_mv rfl) ?_
  refine wl_split (d := 8) rfl (fun q8 => ?_) (fun q8 => ?_)
  ·
    have q8 := of_decide_eq_true q8
    have eo : gfo b = false := by rw [gfo, decide_eq_false (by omega)]; rfl
    refine wl_s (gd_ rfl rfl rfl rfl rfl rfl) rfl rfl ?_
    refine wl_s (gd_ rfl rfl rfl rfl rfl rfl) rfl rfl ?_
    refine wl_s (gd_ rfl rfl rfl rfl rfl rfl) rfl rfl ?_
    refine wl_s (gd_ rfl rfl rfl rfl rfl rfl) rfl rfl ?_
    refine wl rfl rfl rfl (p_pickT rfl rfl) ?_
    refine wl_nil ?_
    refine x_seq ?_
    refine wc_yes rfl (rfl) ?_
    refine wc_seq ?_
    refine wc_region ?_
    refine wl rfl rfl rfl (p_as rfl) ?_
    refine wl rfl rfl rfl (p_as rfl) ?_
    refine wl rfl rfl rfl (p_as rfl) ?_
    refine wl_nil ?_
    refine x_seq ?_
    refine wc_ret ?_
    refine x_then_ret ?_
    refine fin_run (res3 rfl rfl rfl rfl) ?_
    first
      | exact ⟨by rw [gfv, gfk, eo]; rfl, HC⟩
      | (refine ⟨?_, HC⟩; rw [gfv, gfk, eo, ex]; rfl)
  ·
    have q8 := of_decide_eq_false q8
    refine wl_g (gd_ rfl rfl rfl rfl rfl rfl) rfl rfl (p_mv rfl) ?_
    obtain ⟨b1, o1, hA1, hF1, hc1⟩ := (hb).opn (d := 0) (by omega)
    refine wl_g (gd_ rfl rfl rfl rfl rfl rfl) rfl rfl (p_ixS1 (j := 0) Try.underlying27 sz5 rfl hA1 rfl (by omega) (by omega) rfl) ?_
    refine wl_g (gd_ rfl rfl rfl rfl rfl rfl) rfl rfl (p_ld Try.underlying5 rfl rfl (ld (hc1 _ (by omega)))) ?_
    refine wl_g (gd_ rfl rfl rfl rfl rfl rfl) rfl rfl (p_gt rfl rfl) ?_
    refine wl rfl rfl rfl (p_pickF rfl rfl) ?_
    refine wl_nil ?_
    refine x_seq ?_
    refine wc_if rfl (fun c0 => ?_) (fun c0 => ?_)
    ·
      have c0 := of_decide_eq_true c0
      have eo : gfo b = false := by rw [gfo, decide_eq_false (show ¬ (b.getD 0 0).toNat ≤ 1 by omega), Bool.and_false]
      refine wc_seq ?_
      refine wc_region ?_
      refine wl rfl rfl rfl (p_as rfl) ?_
      refine wl rfl rfl rfl (p_as rfl) ?_
      refine wl rfl rfl rfl (p_as rfl) ?_
      refine wl_nil ?_
      refine x_seq ?_
      refine wc_ret ?_
      refine x_then_ret ?_
      refine fin_run (res3 rfl rfl rfl rfl) ?_
      first
        | exact ⟨by rw [gfv, gfk, eo]; rfl, HC⟩
        | (refine ⟨?_, HC⟩; rw [gfv, gfk, eo, ex]; rfl)
    ·
      have c0 := of_decide_eq_false c0
      have eo : gfo b = true := by rw [gfo, decide_eq_true (show 0 < b.length by omega), decide_eq_true (show (b.getD 0 0).toNat ≤ 1 by omega)]; rfl
      have ex : decide (((b.getD 0 0).toNat : Int) = 1) = decide ((b.getD 0 0).toNat = 1) := decide_eq_decide.2 (by omega)
      refine wc_skip ?_
      refine x_seq ?_
      refine wc_seq ?_
      refine wc_region ?_
      refine wl rfl rfl rfl (p_mv rfl) ?_
      obtain ⟨b2, o2, hA2, hF2, hc2⟩ := (hb).opn (d := 0) (by omega)
      refine wl rfl rfl rfl (p_ixS1 (j := 0) Try.underlying27 sz5 rfl hA2 rfl (by omega) (by omega) rfl) ?_
      refine wl rfl rfl rfl (p_ld Try.underlying5 rfl rfl (ld (hc2 _ (by omega)))) ?_
      refine wl rfl rfl rfl (p_eq rfl rfl) ?_
      refine wl rfl rfl rfl (p_as rfl) ?_
      refine wl rfl rfl rfl (p_as rfl) ?_
      refine wl rfl rfl rfl (p_as rfl) ?_
      refine wl_nil ?_
      refine x_seq ?_
      refine wc_ret ?_
      refine fin_run (res3 rfl rfl rfl rfl) ?_
      first
        | exact ⟨by rw [gfv, gfk, eo]; rfl, HC⟩
        | (refine ⟨?_, HC⟩; rw [gfv, gfk, eo, ex]; rfl)

set_option maxHeartbeats 1000000 in
set_option maxRecDepth 20000 in
theorem rgetflag_any {w : World} {Ab : Option Addr} {lb cb : Nat} {Fb : Nat → Prop} {b : List UInt8} (hb : Sl w Fb u8v Ab lb cb b) :
    Calls Try.prog 23 #[.slice Ab lb cb] w fun e w' => e = .returned (.tuple #[.bool (gfv b), i64 (gfk b : Int), .bool (gfo b)]) ∧ Ch No w w' := by
  have hbl := hb.len
  have hb := hb.old
  have HC : Ch No w w := Ch.refl _ _
  refine enter' (args := [.slice Ab lb cb]) (n := 18) Try.func23 rfl rfl rfl ?_
  refine wc_seq ?_
  refine wc_region ?_
  refine wl rfl rfl rfl (p_as rfl) ?_
  refine wl rfl rfl rfl (p_as rfl) ?_
  refine wl rfl rfl rfl (p_as rfl) ?_
  refine wl_nil ?_
  refine x_seq ?_
  refine wc_seq ?_
  refine wc_seq ?_
  refine wc_region ?_
  refine wl rfl rfl rfl (p_mv rfl) ?_
  refine wl rfl rfl rfl (p_lenS Try.underlying27 rfl) ?_
  refine wl rfl rfl rfl (p_eq rfl rfl) ?_
  refine wl rfl rfl rfl (p_mv rfl) ?_
  refine wl_split (d := 8) rfl (fun q8 => ?_) (fun q8 => ?_)
  ·
    have q8 := of_decide_eq_true q8
    have eo : gfo b = false := by rw [gfo, decide_eq_false (by omega)]; rfl
    refine wl_s (gd_ rfl rfl rfl rfl rfl rfl) rfl rfl ?_
    refine wl_s (gd_ rfl rfl rfl rfl rfl rfl) rfl rfl ?_
    refine wl_s (gd_ rfl rfl rfl rfl rfl rfl) rfl rfl ?_
    refine wl_s (gd_ rfl rfl rfl rfl rfl rfl) rfl rfl ?_
    refine wl rfl rfl rfl (p_pickT rfl rfl) ?_
    refine wl_nil ?_
    refine x_seq ?_
    refine wc_yes rfl (rfl) ?_
    refine wc_seq ?_
    refine wc_region ?_
    refine wl rfl rfl rfl (p_as rfl) ?_
    refine wl rfl rfl rfl (p_as rfl) ?_
    refine wl rfl rfl rfl (p_as rfl) ?_
    refine wl_nil ?_
    refine x_seq ?_
    refine wc_ret ?_
    refine x_then_ret ?_
    refine fin_run (res3 rfl rfl rfl rfl) ?_
    first
      | exact ⟨by rw [gfv, gfk, eo]; rfl, HC⟩
      | (refine ⟨?_, HC⟩; rw [gfv, gfk, eo, ex]; rfl)
  ·
    have q8 := of_decide_eq_false q8
    refine wl_g (gd_ rfl rfl rfl rfl rfl rfl) rfl rfl (p_mv rfl) ?_
    obtain ⟨b1, o1, hA1, hF1, hc1⟩ := (hb).opn (d := 0) (by omega)
    refine wl_g (gd_ rfl rfl rfl rfl rfl rfl) rfl rfl (p_ixS1 (j := 0) Try.underlying27 sz5 rfl hA1 rfl (by omega) (by omega) rfl) ?_
    refine wl_g (gd_ rfl rfl rfl rfl rfl rfl) rfl rfl (p_ld Try.underlying5 rfl rfl (ld (hc1 _ (by omega)))) ?_
    refine wl_g (gd_ rfl rfl rfl rfl rfl rfl) rfl rfl (p_gt rfl rfl) ?_
    refine wl rfl rfl rfl (p_pickF rfl rfl) ?_
    refine wl_nil ?_
    refine x_seq ?_
    refine wc_if rfl (fun c0 => ?_) (fun c0 => ?_)
    ·
      have c0 := of_decide_eq_true c0
      have eo : gfo b = false := by rw [gfo, decide_eq_false (show ¬ (b.getD 0 0).toNat ≤ 1 by omega), Bool.and_false]
      refine wc_seq ?_
      refine wc_region ?_
      refine wl rfl rfl rfl (p_as rfl) ?_
      refine wl rfl rfl rfl (p_as rfl) ?_
      refine wl rfl rfl rfl (p_as rfl) ?_
      refine wl_nil ?_
      refine x_seq ?_
      refine wc_ret ?_
      refine x_then_ret ?_
      refine fin_run (res3 rfl rfl rfl rfl) ?_
      first
        | exact ⟨by rw [gfv, gfk, eo]; rfl, HC⟩
        | (refine ⟨?_, HC⟩; rw [gfv, gfk, eo, ex]; rfl)
    ·
      have c0 := of_decide_eq_false c0
      have eo : gfo b = true := by rw [gfo, decide_eq_true (show 0 < b.length by omega), decide_eq_true (show (b.getD 0 0).toNat ≤ 1 by omega)]; rfl
      have ex : decide (((b.getD 0 0).toNat : Int) = 1) = decide ((b.getD 0 0).toNat = 1) := decide_eq_decide.2 (by omega)
      refine wc_skip ?_
      refine x_seq ?_
      refine wc_seq ?_
      refine wc_region ?_
      refine wl rfl rfl rfl (p_mv rfl) ?_
      obtain ⟨b2, o2, hA2, hF2, hc2⟩ := (hb).opn (d := 0) (by omega)
      refine wl rfl rfl rfl (p_ixS1 (j := 0) Try.underlying27 sz5 rfl hA2 rfl (by omega) (by omega) rfl) ?_
      refine wl rfl rfl rfl (p_ld Try.underlying5 rfl rfl (ld (hc2 _ (by omega)))) ?_
      refine wl rfl rfl rfl (p_eq rfl rfl) ?_
      refine wl rfl rfl rfl (p_as rfl) ?_
      refine wl rfl rfl rfl (p_as rfl) ?_
      refine wl rfl rfl rfl (p_as rfl) ?_
      refine wl_nil ?_
      refine x_seq ?_
      refine wc_ret ?_
      refine fin_run (res3 rfl rfl rfl rfl) ?_
      first
        | exact ⟨by rw [gfv, gfk, eo]; rfl, HC⟩
        | (refine ⟨?_, HC⟩; rw [gfv, gfk, eo, ex]; rfl)
end Go.Proofs.Ytdbdconmcgcooaa
