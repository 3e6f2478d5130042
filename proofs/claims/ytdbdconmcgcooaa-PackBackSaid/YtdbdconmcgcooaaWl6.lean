/-
  Own text, printed by a program of mine (wip/gx): what functions of the program do, walked operation by operation.
-/
import Derived.Test.YtdbdconmcgcooaaProg
import Derived.Test.YtdbdconmcgcooaaGxAux
import Derived.Test.YtdbdconmcgcooaaTab
import Derived.Test.YtdbdconmcgcooaaPlPack
import Derived.Test.YtdbdconmcgcooaaPlPackB
import Derived.Test.YtdbdconmcgcooaaWp7
import Derived.Test.YtdbdconmcgcooaaWp8
import Derived.Test.YtdbdconmcgcooaaWp9
import Derived.Test.YtdbdconmcgcooaaWp6
import Derived.Test.YtdbdconmcgcooaaWp5
set_option linter.unusedVariables false
namespace Go.Proofs.Ytdbdconmcgcooaa
open Go.RowKit Go.Gx
open Go.Plain
set_option maxHeartbeats 1000000 in
set_option maxRecDepth 20000 in
theorem packBack_walk {w : World}  {Aq : Option Addr} {lq cq : Nat} {Fq : Nat → Prop} {q : List ByteArray}{Ab : Option Addr} {lb cb : Nat} {Fb : Nat → Prop} {b : List UInt8} {x : Nat} (hq : Sl w Fq Value.string Aq lq cq q) (hb : Sl w Fb u8v Ab lb cb b) (hs : ∀ s ∈ q, s.size ≤ 140737488351232) (hx : x < 18446744073709551616) :
    Calls Try.prog 8 #[.slice Aq lq cq, u64v x, .slice Ab lb cb] w fun e w' => e = .returned (.bool true) ∧ Ch No w w' := by
  have hq := hq.old
  have hb := hb.old
  have HC : Ch No w w := Ch.refl _ _
  refine enter' (args := [.slice Aq lq cq, u64v x, .slice Ab lb cb]) (n := 109) Try.func8 rfl rfl rfl ?_
  refine wc_seq ?_
  refine wc_region ?_
  refine wl rfl rfl rfl (p_as rfl) ?_
  refine wl_nil ?_
  refine x_seq ?_
  refine wc_seq ?_
  refine wc_seq ?_
  refine wc_region ?_
  refine wl rfl rfl rfl (p_mv rfl) ?_
  refine wle rfl (e_call ent10 rfl rfl (light_any (hq) (by assumption)) ?_)
  rintro _ w1 ⟨rfl, hc⟩
  refine ⟨_, rfl, ?_⟩
  have hzw1 := hc.size
  have HC := HC.tr hc
  have hq := hq.no hc
  have hb := hb.no hc
  refine wl rfl rfl rfl (p_not rfl) ?_
  refine wl rfl rfl rfl (p_mv rfl) ?_
  refine wl_split (d := 24) rfl (fun q24 => ?_) (fun q24 => ?_)
  ·
    refine wl_s (gd_ rfl rfl rfl rfl rfl rfl) rfl rfl ?_
    refine wl_s (gd_ rfl rfl rfl rfl rfl rfl) rfl rfl ?_
    refine wl_s (gd_ rfl rfl rfl rfl rfl rfl) rfl rfl ?_
    refine wl rfl rfl rfl (p_pickT rfl rfl) ?_
    refine wl_nil ?_
    refine x_seq ?_
    refine wc_yes rfl (rfl) ?_
    refine wc_seq ?_
    refine wc_region ?_
    refine wle rfl (e_call ent11 rfl rfl (lives_any) ?_)
    rintro _ w2 ⟨rfl, hc⟩
    refine ⟨_, rfl, ?_⟩
    have hzw2 := hc.size
    have HC := HC.tr hc
    have hq := hq.no hc
    have hb := hb.no hc
    refine wl rfl rfl rfl (p_as rfl) ?_
    refine wl_nil ?_
    refine x_seq ?_
    refine wc_ret ?_
    refine x_then_ret ?_
    refine fin_run (res1 rfl rfl) ?_
    exact ⟨rfl, HC⟩
  ·
    have hlq := light_is (by simpa using q24)
    have hlz := lstSz_eq q
    have hql := hq.len
    have hel := encN_len hx
    have hg3 := gn_some (gn_enc hx b)
    have hbl := hb.len
    have hgl := gl_some (back_l hlq b)
    have hsz := encL_le q hlq.2
    have hLp := encL_pos q
    have hsh := gl_none (back_short hlq)
    have hfw := back_few hlq hql
    refine wl_g (gd_ rfl rfl rfl rfl rfl rfl) rfl rfl (p_mv rfl) ?_
    refine wl_g (gd_ rfl rfl rfl rfl rfl rfl) rfl rfl (p_lenS Try.underlying27 rfl) ?_
    refine wl_g (gd_ rfl rfl rfl rfl rfl rfl) rfl rfl (p_gt rfl rfl) ?_
    refine wl rfl rfl rfl (p_pickF rfl rfl) ?_
    refine wl_nil ?_
    refine x_seq ?_
    refine wc_if rfl (fun c0 => ?_) (fun c0 => ?_)
    ·
      have c0 := of_decide_eq_true c0
      refine wc_seq ?_
      refine wc_region ?_
      refine wle rfl (e_call ent11 rfl rfl (lives_any) ?_)
      rintro _ w3 ⟨rfl, hc⟩
      refine ⟨_, rfl, ?_⟩
      have hzw3 := hc.size
      have HC := HC.tr hc
      have hq := hq.no hc
      have hb := hb.no hc
      refine wl rfl rfl rfl (p_as rfl) ?_
      refine wl_nil ?_
      refine x_seq ?_
      refine wc_ret ?_
      refine x_then_ret ?_
      refine fin_run (res1 rfl rfl) ?_
      exact ⟨rfl, HC⟩
    ·
      have c0 := of_decide_eq_false c0
      refine wc_skip ?_
      refine x_seq ?_
      refine wc_seq ?_
      refine wc_region ?_
      refine wl rfl rfl rfl (p_mv rfl) ?_
      refine wle rfl (e_call ent12 rfl rfl (num_any (Sl.nil (F := No)) (by omega) (by omega)) ?_)
      rintro _ w4 ⟨A31, c31, rfl, hW31, hc⟩
      refine ⟨_, rfl, ?_⟩
      have hzw4 := hc.size
      have HC := HC.tr hc
      have hq := hq.no hc
      have hb := hb.no hc
      refine wl rfl rfl rfl (p_as rfl) ?_
      refine wl_nil ?_
      refine x_seq ?_
      refine wc_seq ?_
      refine wc_region ?_
      refine wle rfl (e_bsl (cs := #[]) (E := 5) rfl rfl (fun _ => by kernel_rfl) (fun w5 g33 hg33 hb33 hc hsz33 => ?_))
      have hzw5 := hc.size
      have HC := HC.tr hc
      have hq := hq.no hc
      have hb := hb.no hc
      have hW31 := hW31.after hc
      have hge33 : w.heap.size ≤ g33 := by have := HC.size; omega
      have hW33 := Row.lit (l := 0) (f := u8v) (xs := []) (F := fun k => g33 ≤ k) hb33 (by first | omega | (dsimp only; omega)) rfl rfl (by simp [maxLen])
      refine wl rfl rfl rfl (p_mv rfl) ?_
      refine wle rfl (e_appS rfl el27 one_u8 rfl rfl hW33 hW31.sl (by omega) (by intro k hk; first | omega | (dsimp only at *; omega)) (fun w6 A35 c35 hW33 hc => ?_))
      have hzw6 := hc.size
      have HC := HC.trans hc (fun _ _ h => h) (fun k hk ht => absurd ht (by first | omega | (dsimp only at *; omega)))
      first | have hq := hq.ch hc (by intro k hk ht; first | omega | (dsimp only at *; omega)) | have hq := hq.chT hc (by intro k hz hk ht; first | omega | (dsimp only at *; omega))
      first | have hb := hb.ch hc (by intro k hk ht; first | omega | (dsimp only at *; omega)) | have hb := hb.chT hc (by intro k hz hk ht; first | omega | (dsimp only at *; omega))
      have hW31 := hW31.afterT hc (by intro k hz hk ht; first | omega | (dsimp only at *; omega))
      refine wl rfl rfl rfl (p_mv rfl) ?_
      refine wle rfl (e_appS rfl el27 one_u8 rfl rfl hW33 hb (by omega) (by intro k hk; first | omega | (dsimp only at *; omega)) (fun w7 A37 c37 hW33 hc => ?_))
      have hzw7 := hc.size
      have HC := HC.trans hc (fun _ _ h => h) (fun k hk ht => absurd ht (by first | omega | (dsimp only at *; omega)))
      first | have hq := hq.ch hc (by intro k hk ht; first | omega | (dsimp only at *; omega)) | have hq := hq.chT hc (by intro k hz hk ht; first | omega | (dsimp only at *; omega))
      first | have hb := hb.ch hc (by intro k hk ht; first | omega | (dsimp only at *; omega)) | have hb := hb.chT hc (by intro k hz hk ht; first | omega | (dsimp only at *; omega))
      have hW31 := hW31.afterT hc (by intro k hz hk ht; first | omega | (dsimp only at *; omega))
      refine wle rfl (e_call ent17 rfl rfl (getnum_any (hW33.sl) (by omega)) ?_)
      rintro _ w8 ⟨rfl, hc⟩
      refine ⟨_, rfl, ?_⟩
      have hzw8 := hc.size
      have HC := HC.tr hc
      have hq := hq.no hc
      have hb := hb.no hc
      have hW31 := hW31.after hc
      have hW33 := hW33.after hc
      refine wl rfl rfl rfl (p_mv rfl) ?_
      refine wl rfl rfl rfl (p_ext rfl rfl) ?_
      refine wl rfl rfl rfl (p_ext rfl rfl) ?_
      refine wl rfl rfl rfl (p_ext rfl rfl) ?_
      refine wl rfl rfl rfl (p_as rfl) ?_
      refine wl rfl rfl rfl (p_as rfl) ?_
      refine wl rfl rfl rfl (p_as rfl) ?_
      refine wl_nil ?_
      refine x_seq ?_
      refine wc_seq ?_
      refine wc_seq ?_
      refine wc_region ?_
      refine wl rfl rfl rfl (p_mv rfl) ?_
      refine wl rfl rfl rfl (p_not rfl) ?_
      refine wl rfl rfl rfl (p_mv rfl) ?_
      refine wl_know (d := 44) (b' := false) rfl ((congrArg (fun z => !z) hg3.2.2)) ?_
      refine wl_g (gd_ rfl rfl rfl rfl rfl rfl) rfl rfl (p_mv rfl) ?_
      refine wl_g (gd_ rfl rfl rfl rfl rfl rfl) rfl rfl (p_mv rfl) ?_
      refine wl_g (gd_ rfl rfl rfl rfl rfl rfl) rfl rfl (p_ne rfl rfl) ?_
      refine wl rfl rfl rfl (p_pickF rfl rfl) ?_
      refine wl rfl rfl rfl (p_mv rfl) ?_
      refine wl_know (d := 49) (b' := false) rfl ((decide_eq_false (fun h => h (congrArg (fun z : Nat => (z : Int)) hg3.1)))) ?_
      refine wl_g (gd_ rfl rfl rfl rfl rfl rfl) rfl rfl (p_mv rfl) ?_
      refine wl_g (gd_ rfl rfl rfl rfl rfl rfl) rfl rfl (p_mv rfl) ?_
      refine wl_g (gd_ rfl rfl rfl rfl rfl rfl) rfl rfl (p_lenS Try.underlying27 rfl) ?_
      refine wl_g (gd_ rfl rfl rfl rfl rfl rfl) rfl rfl (p_ne rfl rfl) ?_
      refine wl rfl rfl rfl (p_pickF rfl rfl) ?_
      refine wl_nil ?_
      refine x_seq ?_
      refine wc_no rfl ((decide_eq_false (fun h => h (by rw [Nat.zero_add]; exact (congrArg (fun z : Nat => (z : Int)) hg3.2.1))))) ?_
      refine wc_skip ?_
      refine x_seq ?_
      refine wc_seq ?_
      refine wc_region ?_
      refine wl rfl rfl rfl (p_mv rfl) ?_
      refine wle rfl (e_call ent13 rfl rfl (list_any (Sl.nil (F := No)) (hq) (by omega)) ?_)
      rintro _ w9 ⟨A56, c56, rfl, hW56, hc⟩
      refine ⟨_, rfl, ?_⟩
      have hzw9 := hc.size
      have HC := HC.tr hc
      have hq := hq.no hc
      have hb := hb.no hc
      have hW31 := hW31.after hc
      have hW33 := hW33.after hc
      refine wl rfl rfl rfl (p_as rfl) ?_
      refine wl_nil ?_
      refine x_seq ?_
      refine wc_seq ?_
      refine wc_region ?_
      refine wle rfl (e_bsl (cs := #[]) (E := 5) rfl rfl (fun _ => by kernel_rfl) (fun w10 g58 hg58 hb58 hc hsz58 => ?_))
      have hzw10 := hc.size
      have HC := HC.tr hc
      have hq := hq.no hc
      have hb := hb.no hc
      have hW31 := hW31.after hc
      have hW33 := hW33.after hc
      have hW56 := hW56.after hc
      have hge58 : w.heap.size ≤ g58 := by have := HC.size; omega
      have hW58 := Row.lit (l := 0) (f := u8v) (xs := []) (F := fun k => g58 ≤ k) hb58 (by first | omega | (dsimp only; omega)) rfl rfl (by simp [maxLen])
      refine wl rfl rfl rfl (p_mv rfl) ?_
      refine wle rfl (e_appS rfl el27 one_u8 rfl rfl hW58 hW56.sl (by omega) (by intro k hk; first | omega | (dsimp only at *; omega)) (fun w11 A60 c60 hW58 hc => ?_))
      have hzw11 := hc.size
      have HC := HC.trans hc (fun _ _ h => h) (fun k hk ht => absurd ht (by first | omega | (dsimp only at *; omega)))
      first | have hq := hq.ch hc (by intro k hk ht; first | omega | (dsimp only at *; omega)) | have hq := hq.chT hc (by intro k hz hk ht; first | omega | (dsimp only at *; omega))
      first | have hb := hb.ch hc (by intro k hk ht; first | omega | (dsimp only at *; omega)) | have hb := hb.chT hc (by intro k hz hk ht; first | omega | (dsimp only at *; omega))
      have hW31 := hW31.afterT hc (by intro k hz hk ht; first | omega | (dsimp only at *; omega))
      have hW33 := hW33.afterT hc (by intro k hz hk ht; first | omega | (dsimp only at *; omega))
      have hW56 := hW56.afterT hc (by intro k hz hk ht; first | omega | (dsimp only at *; omega))
      refine wl rfl rfl rfl (p_mv rfl) ?_
      refine wle rfl (e_appS rfl el27 one_u8 rfl rfl hW58 hb (by omega) (by intro k hk; first | omega | (dsimp only at *; omega)) (fun w12 A62 c62 hW58 hc => ?_))
      have hzw12 := hc.size
      have HC := HC.trans hc (fun _ _ h => h) (fun k hk ht => absurd ht (by first | omega | (dsimp only at *; omega)))
      first | have hq := hq.ch hc (by intro k hk ht; first | omega | (dsimp only at *; omega)) | have hq := hq.chT hc (by intro k hz hk ht; first | omega | (dsimp only at *; omega))
      first | have hb := hb.ch hc (by intro k hk ht; first | omega | (dsimp only at *; omega)) | have hb := hb.chT hc (by intro k hz hk ht; first | omega | (dsimp only at *; omega))
      have hW31 := hW31.afterT hc (by intro k hz hk ht; first | omega | (dsimp only at *; omega))
      have hW33 := hW33.afterT hc (by intro k hz hk ht; first | omega | (dsimp only at *; omega))
      have hW56 := hW56.afterT hc (by intro k hz hk ht; first | omega | (dsimp only at *; omega))
      refine wle rfl (e_call ent26 rfl rfl (getlist_any (hW58.sl) (by omega) (by omega) (by omega) (by omega) (by omega)) ?_)
      rintro _ w13 ⟨A63, c63, rfl, hL63, hc⟩
      refine ⟨_, rfl, ?_⟩
      have hzw13 := hc.size
      have HC := HC.tr hc
      have hq := hq.no hc
      have hb := hb.no hc
      have hW31 := hW31.after hc
      have hW33 := hW33.after hc
      have hW56 := hW56.after hc
      have hW58 := hW58.after hc
      refine wl rfl rfl rfl (p_mv rfl) ?_
      refine wl rfl rfl rfl (p_ext rfl rfl) ?_
      refine wl rfl rfl rfl (p_ext rfl rfl) ?_
      refine wl rfl rfl rfl (p_ext rfl rfl) ?_
      refine wl rfl rfl rfl (p_as rfl) ?_
      refine wl rfl rfl rfl (p_as rfl) ?_
      refine wl rfl rfl rfl (p_as rfl) ?_
      refine wl_nil ?_
      refine x_seq ?_
      refine wc_seq ?_
      refine wc_seq ?_
      refine wc_region ?_
      refine wl rfl rfl rfl (p_mv rfl) ?_
      refine wl rfl rfl rfl (p_not rfl) ?_
      refine wl rfl rfl rfl (p_mv rfl) ?_
      refine wl_know (d := 69) (b' := false) rfl ((congrArg (fun z => !z) hgl.2.2)) ?_
      refine wl_g (gd_ rfl rfl rfl rfl rfl rfl) rfl rfl (p_mv rfl) ?_
      refine wl_g (gd_ rfl rfl rfl rfl rfl rfl) rfl rfl (p_mv rfl) ?_
      refine wl_g (gd_ rfl rfl rfl rfl rfl rfl) rfl rfl (p_lenS Try.underlying27 rfl) ?_
      refine wl_g (gd_ rfl rfl rfl rfl rfl rfl) rfl rfl (p_ne rfl rfl) ?_
      refine wl rfl rfl rfl (p_pickF rfl rfl) ?_
      refine wl rfl rfl rfl (p_mv rfl) ?_
      refine wl_know (d := 75) (b' := false) rfl ((decide_eq_false (fun h => h (by rw [Nat.zero_add]; exact (congrArg (fun z : Nat => (z : Int)) hgl.2.1))))) ?_
      refine wl_g (gd_ rfl rfl rfl rfl rfl rfl) rfl rfl (p_mv rfl) ?_
      refine wl_g (gd_ rfl rfl rfl rfl rfl rfl) rfl rfl (p_mv rfl) ?_
      have hLl : (glL ([] ++ ([] ++ encL q) ++ b) 300 4000).length = q.length := congrArg List.length hgl.1
      refine wle_g (gd_ rfl rfl rfl rfl rfl rfl) (e_call ent14 rfl rfl (same_any (hL63) (hq) (by omega) (by omega)) ?_)
      rintro _ w14 ⟨rfl, hc⟩
      refine ⟨_, rfl, ?_⟩
      have hzw14 := hc.size
      have HC := HC.tr hc
      have hq := hq.no hc
      have hb := hb.no hc
      have hW31 := hW31.after hc
      have hW33 := hW33.after hc
      have hW56 := hW56.after hc
      have hW58 := hW58.after hc
      have hL63 := hL63.no hc
      refine wl_g (gd_ rfl rfl rfl rfl rfl rfl) rfl rfl (p_not rfl) ?_
      refine wl rfl rfl rfl (p_pickF rfl rfl) ?_
      refine wl_nil ?_
      refine x_seq ?_
      refine wc_no rfl ((congrArg (fun z => !z) (decide_eq_true hgl.1))) ?_
      refine wc_skip ?_
      refine x_seq ?_
      refine wc_seq ?_
      refine wc_seq ?_
      refine wc_region ?_
      refine wl rfl rfl rfl (p_mv rfl) ?_
      refine wl rfl rfl rfl (p_mv rfl) ?_
      refine wl rfl rfl rfl (p_lenS Try.underlying27 rfl) ?_
      refine wl rfl rfl rfl (p_sub (Z := (((encL q).length - 1 : Nat) : Int)) rfl rfl (by rw [w64 (by omega)]; omega)) ?_
      have hcp := hW56.cap_
      have hS86 := hW56.sl.cut (lo := 0) (hi := (encL q).length - 1) (q := (encL q).length - 1) (by omega) (by omega) rfl
      refine wl rfl rfl rfl (p_slS (l := 0) (h := (encL q).length - 1) Try.underlying27 sz5 rfl rfl ⟨_, rfl⟩ (by omega) (by omega) hcp (q := (encL q).length - 1) rfl) ?_
      refine wle rfl (e_call ent26 rfl rfl (getlist_any (hS86) (by omega) (by omega) (by omega) (by omega) (by omega)) ?_)
      rintro _ w15 ⟨A87, c87, rfl, hL87, hc⟩
      refine ⟨_, rfl, ?_⟩
      have hzw15 := hc.size
      have HC := HC.tr hc
      have hq := hq.no hc
      have hb := hb.no hc
      have hW31 := hW31.after hc
      have hW33 := hW33.after hc
      have hW56 := hW56.after hc
      have hW58 := hW58.after hc
      have hL63 := hL63.no hc
      have hS86 := hS86.no hc
      refine wl rfl rfl rfl (p_mv rfl) ?_
      refine wl rfl rfl rfl (p_ext rfl rfl) ?_
      refine wl rfl rfl rfl (p_ext rfl rfl) ?_
      refine wl rfl rfl rfl (p_ext rfl rfl) ?_
      refine wl rfl rfl rfl (p_as rfl) ?_
      refine wl rfl rfl rfl (p_as rfl) ?_
      refine wl rfl rfl rfl (p_as rfl) ?_
      refine wl_nil ?_
      refine x_seq ?_
      refine wc_seq ?_
      refine wc_region ?_
      refine wl rfl rfl rfl (p_mv rfl) ?_
      refine wl_nil ?_
      refine x_seq ?_
      refine wc_no rfl (hsh.2.2) ?_
      refine wc_skip ?_
      refine x_seq ?_
      refine wc_seq ?_
      refine wc_region ?_
      refine wl rfl rfl rfl (p_mv rfl) ?_
      refine wl rfl rfl rfl (p_mv rfl) ?_
      refine wl rfl rfl rfl (p_lenS Try.underlying23 rfl) ?_
      refine wl rfl rfl rfl (p_sub rfl rfl (w64 (by omega))) ?_
      refine wle rfl (e_call ent26 rfl rfl (getlist_any (hW56.sl) (by omega) (by omega) (by omega) (by omega) (by omega)) ?_)
      rintro _ w16 ⟨A97, c97, rfl, hL97, hc⟩
      refine ⟨_, rfl, ?_⟩
      have hzw16 := hc.size
      have HC := HC.tr hc
      have hq := hq.no hc
      have hb := hb.no hc
      have hW31 := hW31.after hc
      have hW33 := hW33.after hc
      have hW56 := hW56.after hc
      have hW58 := hW58.after hc
      have hL63 := hL63.no hc
      have hS86 := hS86.no hc
      have hL87 := hL87.no hc
      refine wl rfl rfl rfl (p_mv rfl) ?_
      refine wl rfl rfl rfl (p_ext rfl rfl) ?_
      refine wl rfl rfl rfl (p_ext rfl rfl) ?_
      refine wl rfl rfl rfl (p_ext rfl rfl) ?_
      refine wl rfl rfl rfl (p_as rfl) ?_
      refine wl rfl rfl rfl (p_as rfl) ?_
      refine wl rfl rfl rfl (p_as rfl) ?_
      refine wl_nil ?_
      refine x_seq ?_
      refine wc_seq ?_
      refine wc_region ?_
      refine wl rfl rfl rfl (p_mv rfl) ?_
      refine wl rfl rfl rfl (p_mv rfl) ?_
      refine wl rfl rfl rfl (p_lenS Try.underlying23 rfl) ?_
      refine wl rfl rfl rfl (p_eq rfl rfl) ?_
      refine wl rfl rfl rfl (p_eqB rfl rfl Try.underlying4) ?_
      refine wl rfl rfl rfl (p_mv rfl) ?_
      refine wl_know (d := 106) (b' := true) rfl (hfw) ?_
      refine wle_g (gd_ rfl rfl rfl rfl rfl rfl) (e_call ent11 rfl rfl (lives_any) ?_)
      rintro _ w17 ⟨rfl, hc⟩
      refine ⟨_, rfl, ?_⟩
      have hzw17 := hc.size
      have HC := HC.tr hc
      have hq := hq.no hc
      have hb := hb.no hc
      have hW31 := hW31.after hc
      have hW33 := hW33.after hc
      have hW56 := hW56.after hc
      have hW58 := hW58.after hc
      have hL63 := hL63.no hc
      have hS86 := hS86.no hc
      have hL87 := hL87.no hc
      have hL97 := hL97.no hc
      refine wl rfl rfl rfl (p_pickT rfl rfl) ?_
      refine wl rfl rfl rfl (p_as rfl) ?_
      refine wl_nil ?_
      refine x_seq ?_
      refine wc_ret ?_
      refine fin_run (res1 rfl rfl) ?_
      exact ⟨rfl, HC⟩
end Go.Proofs.Ytdbdconmcgcooaa
