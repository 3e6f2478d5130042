/-
  Own text, printed by a program of mine (wip/gx): what functions of the program do, walked operation by operation.
-/
import Derived.Test.YtcgapjieidmkpaaDoorProg
import Derived.Test.YtcgapjieidmkpaaDoorGxAgg
import Derived.Test.YtcgapjieidmkpaaDoorTab
import Derived.Test.YtcgapjieidmkpaaDoorPlPack
set_option linter.unusedVariables false
namespace Go.Proofs.YtcgapjieidmkpaaDoor
open Go.RowKit Go.Gx
open Go.Plain
set_option maxHeartbeats 1000000 in
set_option maxRecDepth 20000 in
theorem clone_any {w : World} {Ab : Option Addr} {lb cb : Nat} {Fb : Nat → Prop} {b : List UInt8} (hb : Sl w Fb u8v Ab lb cb b) (hl : lb ≤ 140737488355328) :
    Calls Tryd.prog 51 #[.slice Ab lb cb] w fun e w' => ∃ A c, e = .returned (.slice A (lb) c) ∧ Row w' (fun k => w.heap.size ≤ k) 5 1 (.slice A (lb) c) (lb) ((b).map u8v) ∧ Ch No w w' := by
  have hb := hb.old
  have HC : Ch No w w := Ch.refl _ _
  refine enter' (args := [.slice Ab lb cb]) (n := 8) Tryd.func51 rfl rfl rfl ?_
  refine wc_seq ?_
  refine wc_region ?_
  refine wl rfl rfl rfl (p_as rfl) ?_
  refine wl_nil ?_
  refine x_seq ?_
  refine wc_seq ?_
  refine wc_seq ?_
  refine wc_region ?_
  refine wl rfl rfl rfl (p_mv rfl) ?_
  refine wl rfl rfl rfl (p_eqnil rfl rfl Tryd.underlying22) ?_
  refine wl_nil ?_
  refine x_seq ?_
  refine wc_if rfl (fun c0 => ?_) (fun c0 => ?_)
  ·
    obtain rfl : Ab = none := by cases Ab <;> simp_all
    obtain ⟨rfl, rfl⟩ := hb.none_len
    refine wc_seq ?_
    refine wc_region ?_
    refine wl rfl rfl rfl (p_as rfl) ?_
    refine wl_nil ?_
    refine x_seq ?_
    refine wc_ret ?_
    refine x_then_ret ?_
    refine fin_run (res1 rfl rfl) ?_
    first | exact ⟨_, _, rfl, Row.nil _ _ _ _, HC⟩ | (rw [Nat.zero_add] at hW5; rw [Nat.zero_add]; exact ⟨_, _, rfl, hW5.mono (fun k _ hk => by first | omega | (dsimp only at *; omega)), HC⟩)
  ·
    refine wc_skip ?_
    refine x_seq ?_
    refine wc_seq ?_
    refine wc_region ?_
    refine wle rfl (e_bsl (cs := #[]) (E := 5) rfl rfl (fun _ => by kernel_rfl) (fun w1 g5 hg5 hb5 hc hsz5 => ?_))
    have hzw1 := hc.size
    have HC := HC.tr hc
    have hb := hb.no hc
    have hge5 : w.heap.size ≤ g5 := by have := HC.size; omega
    have hW5 := Row.lit (l := 0) (f := u8v) (xs := []) (F := fun k => g5 ≤ k) hb5 (by first | omega | (dsimp only; omega)) rfl rfl (by simp [maxLen])
    refine wl rfl rfl rfl (p_mv rfl) ?_
    refine wle rfl (e_appS rfl el22 one_u8 rfl rfl hW5 hb (by omega) (by intro k hk; first | omega | (dsimp only at *; omega)) (fun w2 A7 c7 hW5 hc => ?_))
    have hzw2 := hc.size
    have HC := HC.trans hc (fun _ _ h => h) (fun k hk ht => absurd ht (by first | omega | (dsimp only at *; omega)))
    first | have hb := hb.ch hc (by intro k hk ht; first | omega | (dsimp only at *; omega)) | have hb := hb.chT hc (by intro k hz hk ht; first | omega | (dsimp only at *; omega))
    refine wl rfl rfl rfl (p_as rfl) ?_
    refine wl_nil ?_
    refine x_seq ?_
    refine wc_ret ?_
    refine fin_run (res1 rfl rfl) ?_
    first | exact ⟨_, _, rfl, Row.nil _ _ _ _, HC⟩ | (rw [Nat.zero_add] at hW5; rw [Nat.zero_add]; exact ⟨_, _, rfl, hW5.mono (fun k _ hk => by first | omega | (dsimp only at *; omega)), HC⟩)

set_option maxHeartbeats 1000000 in
set_option maxRecDepth 20000 in
theorem num_any {w : World} {Ab : Option Addr} {lb cb : Nat} {Fb : Nat → Prop} {b : List UInt8} {x : Nat} (hb : Sl w Fb u8v Ab lb cb b) (hl : lb ≤ 140737488355318) (hx : x < 18446744073709551616) :
    Calls Tryd.prog 46 #[.slice Ab lb cb, u64v x] w fun e w' => ∃ A c, e = .returned (.slice A (lb + (encN x).length) c) ∧ Row w' (fun k => w.heap.size ≤ k) 5 1 (.slice A (lb + (encN x).length) c) (lb + (encN x).length) ((b ++ encN x).map u8v) ∧ Ch No w w' := by
  have hb := hb.old
  have HC : Ch No w w := Ch.refl _ _
  refine enter' (args := [.slice Ab lb cb, u64v x]) (n := 35) Tryd.func46 rfl rfl rfl ?_
  refine wc_seq ?_
  refine wc_region ?_
  refine wl rfl rfl rfl (p_as rfl) ?_
  refine wl_nil ?_
  refine x_seq ?_
  refine wc_seq ?_
  refine wc_region ?_
  refine wl rfl rfl rfl (p_mv rfl) ?_
  refine wle rfl (e_call ent51 rfl rfl (clone_any (hb) (by omega)) ?_)
  rintro _ w1 ⟨A8, c8, rfl, hW8, hc⟩
  refine ⟨_, rfl, ?_⟩
  have hzw1 := hc.size
  have HC := HC.tr hc
  have hb := hb.no hc
  refine wl rfl rfl rfl (p_as rfl) ?_
  refine wl_nil ?_
  refine x_seq ?_
  refine wc_seq ?_
  refine wc_seq ?_
  refine wc_region ?_
  refine wl rfl rfl rfl (p_mv rfl) ?_
  refine wl rfl rfl rfl (p_lt rfl rfl) ?_
  refine wl_nil ?_
  refine x_seq ?_
  refine wc_if rfl (fun c0 => ?_) (fun c0 => ?_)
  ·
    have c0 := of_decide_eq_true c0
    have hx8 : x < 248 := by omega
    have eN := encN_small hx8
    refine wc_seq ?_
    refine wc_region ?_
    refine wl rfl rfl rfl (p_mv rfl) ?_
    refine wl rfl rfl rfl (p_mv rfl) ?_
    refine wl rfl rfl rfl (p_convN8 Tryd.underlying76 Tryd.underlying5 rfl) ?_
    refine wle rfl (e_bslV (E := 5) rfl rfl (fun _ => by kernel_rfl) (fun w2 g14 hg14 hb14 hc hsz14 => ?_))
    have hzw2 := hc.size
    have HC := HC.tr hc
    have hb := hb.no hc
    have hW8 := hW8.after hc
    have hge14 : w.heap.size ≤ g14 := by have := HC.size; omega
    have hS14 := Sl.lit1 (f := u8v) hb14
    refine wle rfl (e_appS rfl el22 one_u8 rfl rfl hW8 hS14 (by omega) (by intro k hk; first | omega | (dsimp only at *; omega)) (fun w3 A15 c15 hW8 hc => ?_))
    have hzw3 := hc.size
    have HC := HC.trans hc (fun _ _ h => h) (fun k hk ht => absurd ht (by first | omega | (dsimp only at *; omega)))
    first | have hb := hb.ch hc (by intro k hk ht; first | omega | (dsimp only at *; omega)) | have hb := hb.chT hc (by intro k hz hk ht; first | omega | (dsimp only at *; omega))
    first | have hS14 := hS14.ch hc (by intro k hk ht; first | omega | (dsimp only at *; omega)) | have hS14 := hS14.chT hc (by intro k hz hk ht; first | omega | (dsimp only at *; omega))
    refine wl rfl rfl rfl (p_as rfl) ?_
    refine wl_nil ?_
    refine x_seq ?_
    refine wc_ret ?_
    refine x_then_ret ?_
    refine fin_run (res1 rfl rfl) ?_
    rw [eN]
    first
      | exact ⟨_, _, rfl, hW8.mono (fun k _ hk => by first | omega | (dsimp only at *; omega)), HC⟩
      | (rw [hbe, List.append_assoc, show (255 - ((8 - r.length : Nat) : Int)).toNat = 247 + r.length by omega, show lb + 1 + (8 - (8 - r.length)) = lb + (UInt8.ofNat (247 + r.length) :: r).length by simp only [List.length_cons]; omega] at *; exact ⟨_, _, rfl, hW8.mono (fun k _ hk => by first | omega | (dsimp only at *; omega)), HC⟩)
  ·
    have c0 := of_decide_eq_false c0
    have hx8 : 248 ≤ x := by omega
    have eN := encN_great hx8
    have hbl := be_len hx
    refine wc_skip ?_
    refine x_seq ?_
    refine wc_seq ?_
    refine wc_region ?_
    refine wle rfl (e_alloc (cs := ((List.replicate 8 (0 : UInt8)).map u8v).toArray) rfl (by rfl) rfl (fun w4 g5 hg5 hb5 hc hsz5 => ?_))
    have hzw4 := hc.size
    have HC := HC.tr hc
    have hb := hb.no hc
    have hW8 := hW8.after hc
    have hge5 : w.heap.size ≤ g5 := by have := HC.size; omega
    refine wl_nil ?_
    refine x_seq ?_
    refine wc_seq ?_
    refine wc_region ?_
    refine wl rfl rfl rfl (p_as rfl) ?_
    refine wl_nil ?_
    refine x_seq ?_
    refine wc_seq ?_
    refine wc_block ?_
    refine wc_loop (e' := [(0, .slice A8 lb c8), (1, u64v (x)), (5, .pointer (some ⟨g5, 0, none⟩)), (6, i64 ((8 - ([]).length : Nat) : Int))]) (fun mz ez uz => ∃ y : Nat, ∃ r : List UInt8, mz = y ∧ ez = [(0, .slice A8 lb c8), (1, u64v y), (5, .pointer (some ⟨g5, 0, none⟩)), (6, i64 ((8 - r.length : Nat) : Int))] ∧ (Row uz (fun k => w.heap.size ≤ k ∧ k ≠ g5) 5 1 (.slice A8 lb c8) lb (b.map u8v)) ∧ (Blk uz g5 84 ((List.replicate (8 - r.length) (0 : UInt8) ++ r).map u8v).toArray) ∧ (r.length ≤ 8) ∧ (be x = be y ++ r) ∧ (y < 256 ^ (8 - r.length)) ∧ (Ch No w uz))
      ⟨rfl, rfl, rfl, rfl, trivial⟩ ⟨x, [], rfl, rfl, hW8.mono (fun k hk hF => by first | omega | (dsimp only at *; omega)), by simpa using hb5, by simp, by simp, by simpa using hx, HC⟩ ?_
    rintro m0 e w5 ⟨y, r, hm0, rfl, hW8, hb5, hr, hbe, hy, HC⟩
    have hzw5 := HC.size
    refine wc_seq ?_
    refine wc_seq ?_
    refine wc_region ?_
    refine wl rfl rfl rfl (p_mv rfl) ?_
    refine wl rfl rfl rfl (p_gt rfl rfl) ?_
    refine wl_nil ?_
    refine x_seq ?_
    refine wc_if rfl (fun c1 => ?_) (fun c1 => ?_)
    ·
      have c1 := of_decide_eq_true c1
      have hr8 : r.length < 8 := by
        rcases Nat.lt_or_ge r.length 8 with h | h
        · exact h
        · rw [show 8 - r.length = 0 by omega] at hy; simp at hy; omega
      refine wc_skip ?_
      refine x_seq ?_
      refine wc_seq ?_
      refine wc_block ?_
      refine wc_seq ?_
      refine wc_region ?_
      refine wl rfl rfl rfl (p_mv rfl) ?_
      refine wl rfl rfl rfl (p_sub rfl rfl (w64 (by omega))) ?_
      refine wl rfl rfl rfl (p_as rfl) ?_
      refine wl_nil ?_
      refine x_seq ?_
      refine wc_region ?_
      refine wl rfl rfl rfl (p_mv rfl) ?_
      refine wl rfl rfl rfl (p_mv rfl) ?_
      refine wl rfl rfl rfl (p_convN8 Tryd.underlying76 Tryd.underlying5 rfl) ?_
      refine wl rfl rfl rfl (p_ixA1 Tryd.underlying84 sz5 rfl rfl (by omega) (by omega) rfl) ?_
      refine wle rfl (e_stL one_u8 (by rfl) rfl rfl hb5 (by first | (simp; done) | (simp; omega) | omega) (fun w7 hb5 hc hsz => ?_))
      have hzw7 := hc.size
      have HC := HC.trans hc (fun _ _ h => h) (fun k hk ht => absurd ht (by omega))
      have hW8 := hW8.ch hc (by intro k hz hk ht; first | omega | (dsimp only at *; omega))
      refine wl_nil ?_
      refine x_in_normal ?_
      refine x_seq ?_
      refine wc_region ?_
      refine wl rfl rfl rfl (p_mv rfl) ?_
      refine wl rfl rfl rfl (p_shrN (Y := 8) rfl rfl rfl) ?_
      refine wl rfl rfl rfl (p_as rfl) ?_
      refine wl_nil ?_
      have e1 : ((8 - r.length : Nat) : Int) - 1 = ((7 - r.length : Nat) : Int) := by omega
      rw [e1, Int.toNat_natCast, show 8 - r.length = (7 - r.length) + 1 by omega, set_rep, show 7 - r.length = 8 - (UInt8.ofNat y :: r).length by simp only [List.length_cons]; omega] at hb5
      have hbe : be x = be (y / 2 ^ 8) ++ (UInt8.ofNat y :: r) := by rw [hbe, be_pos (x := y) (by omega)]; simp
      have hy : y / 2 ^ 8 < 256 ^ (8 - (UInt8.ofNat y :: r).length) := by
        rw [List.length_cons, Nat.div_lt_iff_lt_mul (by omega)]; rw [show 8 - r.length = (8 - (r.length + 1)) + 1 by omega, Nat.pow_succ] at hy; exact hy
      refine x_round (e' := [(0, .slice A8 lb c8), (1, u64v (y / 2 ^ 8)), (5, .pointer (some ⟨g5, 0, none⟩)), (6, i64 ((8 - (UInt8.ofNat y :: r).length : Nat) : Int))]) ⟨rfl, rfl, rfl, (congrArg some (congrArg i64 (by simp only [List.length_cons]; omega))), trivial⟩ (by rw [hm0]; exact Nat.div_lt_self (show 0 < y by omega) (show 1 < 2 ^ 8 by omega)) ⟨y / 2 ^ 8, UInt8.ofNat y :: r, rfl, rfl, hW8, hb5, by simp only [List.length_cons]; omega, hbe, hy, HC⟩
    ·
      have c1 := of_decide_eq_false c1
      have hy0 : y = 0 := by omega
      subst hy0
      rw [be_zero, List.nil_append] at hbe
      refine wc_exit ?_
      refine x_then_exit ?_
      refine x_then_exit ?_
      refine x_in_here ?_
      refine x_seq ?_
      refine wc_seq ?_
      refine wc_draw (.st 0 0 (.st 1 0 (.st 2 0 (.st 3 0 (.st 6 0 (.st 7 0 (.st 4 2 (.st 5 3 (.st 8 3 (.st 9 0 .nil)))))))))) 5 (by kernel_rfl) (by kernel_rfl) (by kernel_rfl) (by repeat (first | with_reducible exact pan_body | with_reducible apply pan_then | with_reducible apply pan_in)) (fun x => Ch No w5.drew x) (Ch.refl _ _) ?_
      obtain ⟨w8, ew8⟩ : ∃ x, x = w5.drew := ⟨_, rfl⟩
      rw [← ew8]
      have hc : Ch No w5 w8 := by rw [ew8]; exact Ch.drew _
      have hszw8 : w8.heap.size = w5.heap.size := by rw [ew8]; rfl
      clear ew8
      have hzw8 := hc.size
      have HC := HC.tr hc
      have hW8 := hW8.no hc
      have hb5 := hb5.ch hc (fun h => h)
      have hS : Ch No w8 w8 := Ch.refl _ _
      refine ws_p rfl rfl rfl rfl (p_mv rfl) ?_
      refine ws_p rfl rfl rfl rfl (p_mv rfl) ?_
      refine ws_p rfl rfl rfl rfl (p_sub rfl rfl (w64 (by omega))) ?_
      refine ws_p rfl rfl rfl rfl (p_convU8 Tryd.underlying3 Tryd.underlying5 rfl (by omega)) ?_
      refine ws_p rfl rfl rfl rfl (p_mv rfl) ?_
      have hS33 := Sl.arr hb5 (N := 8) (lo := 8 - r.length) (by simp; omega) (by omega)
      rw [drop_rep] at hS33
      refine ws_p rfl rfl rfl rfl (p_slA (l := 8 - r.length) (h := 8) Tryd.underlying84 sz5 rfl ⟨_, rfl⟩ rfl (by omega) (by omega)) ?_
      have hltg5 := hb5.lt
      refine ws_e rfl rfl (e_bslV (E := 5) rfl rfl (fun _ => by kernel_rfl) (fun w9 g30 hg30 hb30 hc hsz30 => ⟨hc, ?_⟩))
      have hzw9 := hc.size
      have HC := HC.tr hc
      have hW8 := hW8.after hc
      have hb5 := hb5.ch hc (fun h => h)
      have hS33 := hS33.no hc
      have hge30 : w.heap.size ≤ g30 := by have := HC.size; omega
      have hS30 := Sl.lit1 (f := u8v) hb30
      refine ws_narrow (S' := fun x => Ch No w9 x) (Ch.refl _ _) (fun x h => hc.tr h) ?_
      have hltg5 := hb5.lt
      refine ws_l rfl rfl (e_appS rfl el22 one_u8 rfl rfl hW8 hS30 (by omega) (by intro k hk; first | omega | (dsimp only at *; omega)) (fun w10 A31 c31 hW8 hc => ?_))
      have hzw10 := hc.size
      have HC := HC.trans hc (fun _ _ h => h) (fun k hk ht => absurd ht (by first | omega | (dsimp only at *; omega)))
      have hb5 := hb5.ch hc (by first | omega | (dsimp only; omega))
      first | have hS33 := hS33.ch hc (by intro k hk ht; first | omega | (dsimp only at *; omega)) | have hS33 := hS33.chT hc (by intro k hz hk ht; first | omega | (dsimp only at *; omega))
      first | have hS30 := hS30.ch hc (by intro k hk ht; first | omega | (dsimp only at *; omega)) | have hS30 := hS30.chT hc (by intro k hz hk ht; first | omega | (dsimp only at *; omega))
      have hltg5 := hb5.lt
      refine ws_l rfl rfl (e_appS rfl el22 one_u8 rfl rfl hW8 hS33 (by omega) (by intro k hk; first | omega | (dsimp only at *; omega)) (fun w11 A34 c34 hW8 hc => ?_))
      have hzw11 := hc.size
      have HC := HC.trans hc (fun _ _ h => h) (fun k hk ht => absurd ht (by first | omega | (dsimp only at *; omega)))
      have hb5 := hb5.ch hc (by first | omega | (dsimp only; omega))
      first | have hS33 := hS33.ch hc (by intro k hk ht; first | omega | (dsimp only at *; omega)) | have hS33 := hS33.chT hc (by intro k hz hk ht; first | omega | (dsimp only at *; omega))
      first | have hS30 := hS30.ch hc (by intro k hk ht; first | omega | (dsimp only at *; omega)) | have hS30 := hS30.chT hc (by intro k hz hk ht; first | omega | (dsimp only at *; omega))
      refine ws_p rfl rfl rfl rfl (p_as rfl) ?_
      refine ws_n ?_
      refine x_seq ?_
      refine wc_ret ?_
      refine fin_run (res1 rfl rfl) ?_
      rw [eN]
      first
        | exact ⟨_, _, rfl, hW8.mono (fun k _ hk => by first | omega | (dsimp only at *; omega)), HC⟩
        | (rw [hbe, List.append_assoc, show (255 - ((8 - r.length : Nat) : Int)).toNat = 247 + r.length by omega, show lb + 1 + (8 - (8 - r.length)) = lb + (UInt8.ofNat (247 + r.length) :: r).length by simp only [List.length_cons]; omega] at *; exact ⟨_, _, rfl, hW8.mono (fun k _ hk => by first | omega | (dsimp only at *; omega)), HC⟩)

set_option maxHeartbeats 1000000 in
set_option maxRecDepth 20000 in
theorem getnum_any {w : World} {Ab : Option Addr} {lb cb : Nat} {Fb : Nat → Prop} {b : List UInt8} (hb : Sl w Fb u8v Ab lb cb b) (hl : lb ≤ 140737488355328) :
    Calls Tryd.prog 50 #[.slice Ab lb cb] w fun e w' => e = .returned (.tuple #[u64v (gnv b), i64 (gnk b : Int), .bool (gno b)]) ∧ Ch No w w' := by
  have hbl := hb.len
  have hx0 := (b.getD 0 0).toNat_lt
  have hx1 := (b.getD 1 0).toNat_lt
  have hb := hb.old
  have HC : Ch No w w := Ch.refl _ _
  refine enter' (args := [.slice Ab lb cb]) (n := 59) Tryd.func50 rfl rfl rfl ?_
  refine wc_seq ?_
  refine wc_region ?_
  refine wl rfl rfl rfl (p_as rfl) ?_
  refine wl rfl rfl rfl (p_as rfl) ?_
  refine wl rfl rfl rfl (p_as rfl) ?_
  refine wl_nil ?_
  refine x_seq ?_
  refine wc_seq ?_
  refine wc_seq ?_
  refine wc_region ?_
  refine wl rfl rfl rfl (p_mv rfl) ?_
  refine wl rfl rfl rfl (p_lenS Tryd.underlying22 rfl) ?_
  refine wl rfl rfl rfl (p_eq rfl rfl) ?_
  refine wl_nil ?_
  refine x_seq ?_
  refine wc_if rfl (fun c0 => ?_) (fun c0 => ?_)
  ·
    have c0 := of_decide_eq_true c0
    have eg : gn b = none := by unfold gn; rw [if_pos (by omega)]
    refine wc_seq ?_
    refine wc_region ?_
    refine wl rfl rfl rfl (p_as rfl) ?_
    refine wl rfl rfl rfl (p_as rfl) ?_
    refine wl rfl rfl rfl (p_as rfl) ?_
    refine wl_nil ?_
    refine x_seq ?_
    refine wc_ret ?_
    refine x_then_ret ?_
    refine fin_run (res3 rfl rfl rfl rfl) ?_
    first
      | (obtain ⟨e1, e2, e3⟩ := gn_none eg; rw [e1, e2, e3]; exact ⟨rfl, HC⟩)
      | (obtain ⟨e1, e2, e3⟩ := gn_some eg; rw [e1, e2, e3]; exact ⟨rfl, HC⟩)
  ·
    have c0 := of_decide_eq_false c0
    refine wc_skip ?_
    refine x_seq ?_
    refine wc_seq ?_
    refine wc_seq ?_
    refine wc_region ?_
    refine wl rfl rfl rfl (p_mv rfl) ?_
    obtain ⟨b1, o1, hA1, hF1, hc1⟩ := (hb).opn (d := 0) (by omega)
    refine wl rfl rfl rfl (p_ixS1 (j := 0) Tryd.underlying22 sz5 rfl hA1 rfl (by omega) (by omega) rfl) ?_
    refine wl rfl rfl rfl (p_ld Tryd.underlying5 rfl rfl (ld (hc1 _ (by omega)))) ?_
    refine wl rfl rfl rfl (p_lt rfl rfl) ?_
    refine wl_nil ?_
    refine x_seq ?_
    refine wc_if rfl (fun c1 => ?_) (fun c1 => ?_)
    ·
      have c1 := of_decide_eq_true c1
      have eg : gn b = some ((b.getD 0 0).toNat, 1) := by unfold gn; rw [if_neg (by omega), if_pos (by omega)]
      refine wc_seq ?_
      refine wc_region ?_
      refine wl rfl rfl rfl (p_mv rfl) ?_
      obtain ⟨b2, o2, hA2, hF2, hc2⟩ := (hb).opn (d := 0) (by omega)
      refine wl rfl rfl rfl (p_ixS1 (j := 0) Tryd.underlying22 sz5 rfl hA2 rfl (by omega) (by omega) rfl) ?_
      refine wl rfl rfl rfl (p_ld Tryd.underlying5 rfl rfl (ld (hc2 _ (by omega)))) ?_
      refine wl rfl rfl rfl (p_conv Tryd.underlying5 Tryd.underlying76 rfl (wB_u64 _)) ?_
      refine wl rfl rfl rfl (p_as rfl) ?_
      refine wl rfl rfl rfl (p_as rfl) ?_
      refine wl rfl rfl rfl (p_as rfl) ?_
      refine wl_nil ?_
      refine x_seq ?_
      refine wc_ret ?_
      refine x_then_ret ?_
      refine fin_run (res3 rfl rfl rfl rfl) ?_
      first
        | (obtain ⟨e1, e2, e3⟩ := gn_none eg; rw [e1, e2, e3]; exact ⟨rfl, HC⟩)
        | (obtain ⟨e1, e2, e3⟩ := gn_some eg; rw [e1, e2, e3]; exact ⟨rfl, HC⟩)
    ·
      have c1 := of_decide_eq_false c1
      obtain ⟨k, hk⟩ : ∃ k, k = (b.getD 0 0).toNat - 247 := ⟨_, rfl⟩
      have hk9 : k ≤ 8 := by omega
      have hk1 : 1 ≤ k := by omega
      refine wc_skip ?_
      refine x_seq ?_
      refine wc_seq ?_
      refine wc_region ?_
      refine wle rfl (e_alloc (cs := ((List.replicate 8 (0 : UInt8)).map u8v).toArray) rfl (by rfl) rfl (fun w3 g5 hg5 hb5 hc hsz5 => ?_))
      have hzw3 := hc.size
      have HC := HC.tr hc
      have hb := hb.no hc
      have hge5 : w.heap.size ≤ g5 := by have := HC.size; omega
      refine wl_nil ?_
      refine x_seq ?_
      refine wc_seq ?_
      refine wc_region ?_
      refine wl rfl rfl rfl (p_mv rfl) ?_
      obtain ⟨b4, o4, hA4, hF4, hc4⟩ := (hb).opn (d := 0) (by omega)
      refine wl rfl rfl rfl (p_ixS1 (j := 0) Tryd.underlying22 sz5 rfl hA4 rfl (by omega) (by omega) rfl) ?_
      refine wl rfl rfl rfl (p_ld Tryd.underlying5 rfl rfl (ld (hc4 _ (by omega)))) ?_
      refine wl rfl rfl rfl (p_sub rfl rfl (wu8 (by omega))) ?_
      refine wl rfl rfl rfl (p_conv Tryd.underlying5 Tryd.underlying3 rfl (show IntKind.i64.wrap (((b.getD 0 0).toNat : Int) - 247) = ((k : Nat) : Int) from by rw [w64 (by omega)]; omega)) ?_
      refine wl rfl rfl rfl (p_as rfl) ?_
      refine wl_nil ?_
      refine x_seq ?_
      refine wc_seq ?_
      refine wc_seq ?_
      refine wc_region ?_
      refine wl rfl rfl rfl (p_mv rfl) ?_
      refine wl rfl rfl rfl (p_lenS Tryd.underlying22 rfl) ?_
      refine wl rfl rfl rfl (p_mv rfl) ?_
      refine wl rfl rfl rfl (p_le rfl rfl) ?_
      refine wl rfl rfl rfl (p_mv rfl) ?_
      refine wl_split (d := 30) rfl (fun q30 => ?_) (fun q30 => ?_)
      ·
        have q30 := of_decide_eq_true q30
        have eg : gn b = none := by unfold gn; rw [if_neg (by omega), if_neg (by omega), if_pos (.inl (by omega))]
        refine wl_s (gd_ rfl rfl rfl rfl rfl rfl) rfl rfl ?_
        refine wl_s (gd_ rfl rfl rfl rfl rfl rfl) rfl rfl ?_
        refine wl_s (gd_ rfl rfl rfl rfl rfl rfl) rfl rfl ?_
        refine wl_s (gd_ rfl rfl rfl rfl rfl rfl) rfl rfl ?_
        refine wl rfl rfl rfl (p_pickT rfl rfl) ?_
        refine wl_nil ?_
        refine x_seq ?_
        refine wc_yes rfl (rfl) ?_
        refine wc_seq ?_
        refine wc_region ?_
        refine wl rfl rfl rfl (p_as rfl) ?_
        refine wl rfl rfl rfl (p_as rfl) ?_
        refine wl rfl rfl rfl (p_as rfl) ?_
        refine wl_nil ?_
        refine x_seq ?_
        refine wc_ret ?_
        refine x_then_ret ?_
        refine fin_run (res3 rfl rfl rfl rfl) ?_
        first
          | (obtain ⟨e1, e2, e3⟩ := gn_none eg; rw [e1, e2, e3]; exact ⟨rfl, HC⟩)
          | (obtain ⟨e1, e2, e3⟩ := gn_some eg; rw [e1, e2, e3]; exact ⟨rfl, HC⟩)
      ·
        have q30 := of_decide_eq_false q30
        refine wl_g (gd_ rfl rfl rfl rfl rfl rfl) rfl rfl (p_mv rfl) ?_
        obtain ⟨b5, o5, hA5, hF5, hc5⟩ := (hb).opn (d := 0) (by omega)
        refine wl_g (gd_ rfl rfl rfl rfl rfl rfl) rfl rfl (p_ixS1 (j := 1) Tryd.underlying22 sz5 rfl hA5 rfl (by omega) (by omega) rfl) ?_
        refine wl_g (gd_ rfl rfl rfl rfl rfl rfl) rfl rfl (p_ld Tryd.underlying5 rfl rfl (ld (hc5 _ (by omega)))) ?_
        refine wl_g (gd_ rfl rfl rfl rfl rfl rfl) rfl rfl (p_eq rfl rfl) ?_
        refine wl rfl rfl rfl (p_pickF rfl rfl) ?_
        refine wl_nil ?_
        refine x_seq ?_
        refine wc_if rfl (fun c2 => ?_) (fun c2 => ?_)
        ·
          have c2 := of_decide_eq_true c2
          have eg : gn b = none := by unfold gn; rw [if_neg (by omega), if_neg (by omega), if_pos (.inr (by omega))]
          refine wc_seq ?_
          refine wc_region ?_
          refine wl rfl rfl rfl (p_as rfl) ?_
          refine wl rfl rfl rfl (p_as rfl) ?_
          refine wl rfl rfl rfl (p_as rfl) ?_
          refine wl_nil ?_
          refine x_seq ?_
          refine wc_ret ?_
          refine x_then_ret ?_
          refine fin_run (res3 rfl rfl rfl rfl) ?_
          first
            | (obtain ⟨e1, e2, e3⟩ := gn_none eg; rw [e1, e2, e3]; exact ⟨rfl, HC⟩)
            | (obtain ⟨e1, e2, e3⟩ := gn_some eg; rw [e1, e2, e3]; exact ⟨rfl, HC⟩)
        ·
          have c2 := of_decide_eq_false c2
          have hnn : ¬ (b.length ≤ (b.getD 0 0).toNat - 247 ∨ (b.getD 1 0).toNat = 0) := by omega
          have hyl : ((b.drop 1).take k).length = k := by rw [List.length_take, List.length_drop]; omega
          refine wc_skip ?_
          refine x_seq ?_
          refine wc_seq ?_
          refine wc_draw (.st 0 0 (.st 1 0 (.st 2 0 (.st 3 0 (.st 4 0 (.st 5 0 (.st 6 0 (.st 7 3 .nil)))))))) 7 (by kernel_rfl) (by kernel_rfl) (by kernel_rfl) (by repeat (first | with_reducible exact pan_body | with_reducible apply pan_then | with_reducible apply pan_in)) (fun x => Ch No w3.drew x) (Ch.refl _ _) ?_
          obtain ⟨w6, ew6⟩ : ∃ x, x = w3.drew := ⟨_, rfl⟩
          rw [← ew6]
          have hc : Ch No w3 w6 := by rw [ew6]; exact Ch.drew _
          have hszw6 : w6.heap.size = w3.heap.size := by rw [ew6]; rfl
          clear ew6
          have hzw6 := hc.size
          have HC := HC.tr hc
          have hb := hb.no hc
          have hb5 := hb5.ch hc (fun h => h)
          refine ws_p rfl rfl rfl rfl (p_mv rfl) ?_
          refine ws_p rfl rfl rfl rfl (p_sub rfl rfl (show IntKind.i64.wrap (8 - (k : Int)) = ((8 - k : Nat) : Int) from by rw [w64 (by omega)]; omega)) ?_
          refine ws_p rfl rfl rfl rfl (p_slA1 (l := 8 - k) (h := 8) Tryd.underlying84 sz5 rfl ⟨_, rfl⟩ rfl (by omega) (by omega) (by omega)) ?_
          refine ws_p rfl rfl rfl rfl (p_mv rfl) ?_
          refine ws_p rfl rfl rfl rfl (p_mv rfl) ?_
          refine ws_p rfl rfl rfl rfl (p_add rfl rfl (show IntKind.i64.wrap (1 + (k : Int)) = ((1 + k : Nat) : Int) from by rw [w64 (by omega)]; omega)) ?_
          have hS42 := hb.cut (lo := 1) (hi := 1 + k) (q := k) (by omega) (by omega) (by omega)
          refine ws_p rfl rfl rfl rfl (p_slS (l := 1) (h := 1 + k) Tryd.underlying22 sz5 rfl ⟨_, rfl⟩ ⟨_, rfl⟩ (by omega) (by have := hb.cap; omega) hb.cap (q := k) (by omega)) ?_
          refine ws_l rfl rfl (e_copy rfl Tryd.underlying22 sz5 one_u8 rfl rfl hb5 hS42 (by first | (simp; done) | (simp; omega) | omega) (fun w7 hb5 hc hsz => ?_))
          have hzw7 := hc.size
          have HC := HC.trans hc (fun _ _ h => h) (fun k hk ht => absurd ht (by omega))
          first | have hb := hb.ch hc (by intro k hk ht; first | omega | (dsimp only at *; omega)) | have hb := hb.chT hc (by intro k hz hk ht; first | omega | (dsimp only at *; omega))
          first | have hS42 := hS42.ch hc (by intro k hk ht; first | omega | (dsimp only at *; omega)) | have hS42 := hS42.chT hc (by intro k hz hk ht; first | omega | (dsimp only at *; omega))
          rw [splice8 hk9 hyl _ (by omega)] at hb5
          have hZ : (List.replicate (8 - k) (0 : UInt8) ++ ((b.drop 1).take k)).length = 8 := by rw [List.length_append, List.length_replicate, hyl]; omega
          refine ws_n ?_
          refine x_seq ?_
          refine wc_seq ?_
          refine wc_region ?_
          refine wl rfl rfl rfl (p_as rfl) ?_
          refine wl_nil ?_
          refine x_seq ?_
          refine wc_seq ?_
          refine wc_seq ?_
          refine wc_region ?_
          refine wl rfl rfl rfl (p_ldA (cs := _) Tryd.underlying84 rfl (szL sz84 (by rw [List.length_map]; first | assumption | (simp; done) | (simp; omega) | omega)) rfl (fun _ e => e ▸ rngL hb5)) ?_
          refine wl rfl rfl rfl (p_mv rfl) ?_
          refine wl_nil ?_
          refine x_seq ?_
          refine wc_block ?_
          refine wc_loop (e' := [(0, .slice Ab lb cb), (6, i64 (k : Int)), (7, u64v (val ((List.replicate (8 - k) (0 : UInt8) ++ ((b.drop 1).take k)).take (0)))), (44, .agg ((List.replicate (8 - k) (0 : UInt8) ++ ((b.drop 1).take k)).map u8v).toArray), (45, i64 ((0) : Int))]) (fun mz ez uz => ∃ j : Nat, mz = 8 - j ∧ ez = [(0, .slice Ab lb cb), (6, i64 (k : Int)), (7, u64v (val ((List.replicate (8 - k) (0 : UInt8) ++ ((b.drop 1).take k)).take j))), (44, .agg ((List.replicate (8 - k) (0 : UInt8) ++ ((b.drop 1).take k)).map u8v).toArray), (45, i64 (j : Int))] ∧ (j ≤ 8) ∧ (Ch No w uz))
            ⟨rfl, rfl, rfl, rfl, rfl, trivial⟩ ⟨0, rfl, rfl, by omega, HC⟩ ?_
          rintro m0 e w8 ⟨j, hm0, rfl, hj, HC⟩
          have hzw8 := HC.size
          refine wc_seq ?_
          refine wc_region ?_
          refine wl rfl rfl rfl (p_lt rfl rfl) ?_
          refine wl_nil ?_
          refine x_seq ?_
          refine wc_seq ?_
          refine wc_if rfl (fun c3 => ?_) (fun c3 => ?_)
          ·
            have c3 := of_decide_eq_true c3
            refine wc_skip ?_
            refine x_seq ?_
            refine wc_seq ?_
            refine wc_block ?_
            refine wc_seq ?_
            refine wc_region ?_
            refine wl rfl rfl rfl (p_ixG (f := u8v) (d0 := 0) Tryd.underlying84 Tryd.underlying5 rfl sz5 rfl rfl (by omega) (by omega) (by first | (simp; done) | (simp; omega) | omega) (Int.toNat_natCast _)) ?_
            refine wl rfl rfl rfl (p_as rfl) ?_
            refine wl_nil ?_
            refine x_seq ?_
            refine wc_region ?_
            refine wl rfl rfl rfl (p_mv rfl) ?_
            refine wl rfl rfl rfl (p_shl64 (Y := 8) rfl rfl rfl) ?_
            refine wl rfl rfl rfl (p_mv rfl) ?_
            refine wl rfl rfl rfl (p_conv Tryd.underlying5 Tryd.underlying76 rfl (wB_u64 _)) ?_
            refine wl rfl rfl rfl (p_or64 rfl rfl (Nat.mod_lt _ (by omega)) (by have := UInt8.toNat_lt ((List.replicate (8 - k) (0 : UInt8) ++ ((b.drop 1).take k)).getD j 0); omega)) ?_
            refine wl rfl rfl rfl (p_as rfl) ?_
            refine wl_nil ?_
            refine x_in_normal ?_
            refine x_seq ?_
            refine wc_region ?_
            refine wl rfl rfl rfl (p_add rfl rfl (w64 (by omega))) ?_
            refine wl rfl rfl rfl (p_mv rfl) ?_
            refine wl_nil ?_
            have hst := val_take_succ (Z := List.replicate (8 - k) (0 : UInt8) ++ ((b.drop 1).take k)) (j := j) (by omega)
            refine x_round (e' := [(0, .slice Ab lb cb), (6, i64 (k : Int)), (7, u64v (val ((List.replicate (8 - k) (0 : UInt8) ++ ((b.drop 1).take k)).take (j + 1)))), (44, .agg ((List.replicate (8 - k) (0 : UInt8) ++ ((b.drop 1).take k)).map u8v).toArray), (45, i64 ((j + 1) : Int))]) ⟨rfl, rfl, (by rw [val_or (val_take_lt (by omega)), ← hst]; rfl), rfl, rfl, trivial⟩ (by rw [hm0]; omega) ⟨j + 1, rfl, rfl, by omega, HC⟩
          ·
            have c3 := of_decide_eq_false c3
            obtain rfl : j = 8 := by omega
            have hv : val ((List.replicate (8 - k) (0 : UInt8) ++ ((b.drop 1).take k)).take 8) = val ((b.drop 1).take k) := by rw [List.take_of_length_le (by omega), val_zeros]
            rw [hv]
            refine wc_exit ?_
            refine x_then_exit ?_
            refine x_then_exit ?_
            refine x_in_here ?_
            refine x_seq ?_
            refine wc_seq ?_
            refine wc_seq ?_
            refine wc_region ?_
            refine wl rfl rfl rfl (p_mv rfl) ?_
            refine wl rfl rfl rfl (p_lt rfl rfl) ?_
            refine wl_nil ?_
            refine x_seq ?_
            refine wc_if rfl (fun c4 => ?_) (fun c4 => ?_)
            ·
              have c4 := of_decide_eq_true c4
              have eg : gn b = none := by unfold gn; rw [if_neg (by omega), if_neg (by omega), if_neg hnn, ← hk, if_pos (by omega)]
              refine wc_seq ?_
              refine wc_region ?_
              refine wl rfl rfl rfl (p_as rfl) ?_
              refine wl rfl rfl rfl (p_as rfl) ?_
              refine wl rfl rfl rfl (p_as rfl) ?_
              refine wl_nil ?_
              refine x_seq ?_
              refine wc_ret ?_
              refine x_then_ret ?_
              refine fin_run (res3 rfl rfl rfl rfl) ?_
              first
                | (obtain ⟨e1, e2, e3⟩ := gn_none eg; rw [e1, e2, e3]; exact ⟨rfl, HC⟩)
                | (obtain ⟨e1, e2, e3⟩ := gn_some eg; rw [e1, e2, e3]; exact ⟨rfl, HC⟩)
            ·
              have c4 := of_decide_eq_false c4
              have eg : gn b = some (val ((b.drop 1).take k), 1 + k) := by unfold gn; rw [if_neg (by omega), if_neg (by omega), if_neg hnn, ← hk, if_neg (by omega)]
              refine wc_skip ?_
              refine x_seq ?_
              refine wc_seq ?_
              refine wc_region ?_
              refine wl rfl rfl rfl (p_mv rfl) ?_
              refine wl rfl rfl rfl (p_mv rfl) ?_
              refine wl rfl rfl rfl (p_add rfl rfl (show IntKind.i64.wrap (1 + (k : Int)) = ((1 + k : Nat) : Int) from by rw [w64 (by omega)]; omega)) ?_
              refine wl rfl rfl rfl (p_as rfl) ?_
              refine wl rfl rfl rfl (p_as rfl) ?_
              refine wl rfl rfl rfl (p_as rfl) ?_
              refine wl_nil ?_
              refine x_seq ?_
              refine wc_ret ?_
              refine fin_run (res3 rfl rfl rfl rfl) ?_
              first
                | (obtain ⟨e1, e2, e3⟩ := gn_none eg; rw [e1, e2, e3]; exact ⟨rfl, HC⟩)
                | (obtain ⟨e1, e2, e3⟩ := gn_some eg; rw [e1, e2, e3]; exact ⟨rfl, HC⟩)

set_option maxHeartbeats 1000000 in
set_option maxRecDepth 20000 in
theorem rgetnum_any {w : World} {Ab : Option Addr} {lb cb : Nat} {Fb : Nat → Prop} {b : List UInt8} (hb : Sl w Fb u8v Ab lb cb b) (hl : lb ≤ 140737488355328) :
    Calls Tryd.prog 44 #[.slice Ab lb cb] w fun e w' => e = .returned (.tuple #[u64v (gnv b), i64 (gnk b : Int), .bool (gno b)]) ∧ Ch No w w' := by
  have hbl := hb.len
  have hx0 := (b.getD 0 0).toNat_lt
  have hx1 := (b.getD 1 0).toNat_lt
  have hb := hb.old
  have HC : Ch No w w := Ch.refl _ _
  refine enter' (args := [.slice Ab lb cb]) (n := 56) Tryd.func44 rfl rfl rfl ?_
  refine wc_seq ?_
  refine wc_region ?_
  refine wl rfl rfl rfl (p_as rfl) ?_
  refine wl rfl rfl rfl (p_as rfl) ?_
  refine wl rfl rfl rfl (p_as rfl) ?_
  refine wl_nil ?_
  refine x_seq ?_
  refine wc_seq ?_
  refine wc_seq ?_
  refine wc_region ?_
  refine wl rfl rfl rfl (p_mv rfl) ?_
  refine wl rfl rfl rfl (p_lenS Tryd.underlying22 rfl) ?_
  refine wl rfl rfl rfl (p_eq rfl rfl) ?_
  refine wl_nil ?_
  refine x_seq ?_
  refine wc_if rfl (fun c0 => ?_) (fun c0 => ?_)
  ·
    have c0 := of_decide_eq_true c0
    have eg : gn b = none := by unfold gn; rw [if_pos (by omega)]
    refine wc_seq ?_
    refine wc_region ?_
    refine wl rfl rfl rfl (p_as rfl) ?_
    refine wl rfl rfl rfl (p_as rfl) ?_
    refine wl rfl rfl rfl (p_as rfl) ?_
    refine wl_nil ?_
    refine x_seq ?_
    refine wc_ret ?_
    refine x_then_ret ?_
    refine fin_run (res3 rfl rfl rfl rfl) ?_
    first
      | (obtain ⟨e1, e2, e3⟩ := gn_none eg; rw [e1, e2, e3]; exact ⟨rfl, HC⟩)
      | (obtain ⟨e1, e2, e3⟩ := gn_some eg; rw [e1, e2, e3]; exact ⟨rfl, HC⟩)
  ·
    have c0 := of_decide_eq_false c0
    refine wc_skip ?_
    refine x_seq ?_
    refine wc_seq ?_
    refine wc_seq ?_
    refine wc_region ?_
    refine wl rfl rfl rfl (p_mv rfl) ?_
    obtain ⟨b1, o1, hA1, hF1, hc1⟩ := (hb).opn (d := 0) (by omega)
    refine wl rfl rfl rfl (p_ixS1 (j := 0) Tryd.underlying22 sz5 rfl hA1 rfl (by omega) (by omega) rfl) ?_
    refine wl rfl rfl rfl (p_ld Tryd.underlying5 rfl rfl (ld (hc1 _ (by omega)))) ?_
    refine wl rfl rfl rfl (p_lt rfl rfl) ?_
    refine wl_nil ?_
    refine x_seq ?_
    refine wc_if rfl (fun c1 => ?_) (fun c1 => ?_)
    ·
      have c1 := of_decide_eq_true c1
      have eg : gn b = some ((b.getD 0 0).toNat, 1) := by unfold gn; rw [if_neg (by omega), if_pos (by omega)]
      refine wc_seq ?_
      refine wc_region ?_
      refine wl rfl rfl rfl (p_mv rfl) ?_
      obtain ⟨b2, o2, hA2, hF2, hc2⟩ := (hb).opn (d := 0) (by omega)
      refine wl rfl rfl rfl (p_ixS1 (j := 0) Tryd.underlying22 sz5 rfl hA2 rfl (by omega) (by omega) rfl) ?_
      refine wl rfl rfl rfl (p_ld Tryd.underlying5 rfl rfl (ld (hc2 _ (by omega)))) ?_
      refine wl rfl rfl rfl (p_conv Tryd.underlying5 Tryd.underlying76 rfl (wB_u64 _)) ?_
      refine wl rfl rfl rfl (p_as rfl) ?_
      refine wl rfl rfl rfl (p_as rfl) ?_
      refine wl rfl rfl rfl (p_as rfl) ?_
      refine wl_nil ?_
      refine x_seq ?_
      refine wc_ret ?_
      refine x_then_ret ?_
      refine fin_run (res3 rfl rfl rfl rfl) ?_
      first
        | (obtain ⟨e1, e2, e3⟩ := gn_none eg; rw [e1, e2, e3]; exact ⟨rfl, HC⟩)
        | (obtain ⟨e1, e2, e3⟩ := gn_some eg; rw [e1, e2, e3]; exact ⟨rfl, HC⟩)
    ·
      have c1 := of_decide_eq_false c1
      obtain ⟨k, hk⟩ : ∃ k, k = (b.getD 0 0).toNat - 247 := ⟨_, rfl⟩
      have hk9 : k ≤ 8 := by omega
      have hk1 : 1 ≤ k := by omega
      refine wc_skip ?_
      refine x_seq ?_
      refine wc_seq ?_
      refine wc_region ?_
      refine wl rfl rfl rfl (p_mv rfl) ?_
      obtain ⟨b3, o3, hA3, hF3, hc3⟩ := (hb).opn (d := 0) (by omega)
      refine wl rfl rfl rfl (p_ixS1 (j := 0) Tryd.underlying22 sz5 rfl hA3 rfl (by omega) (by omega) rfl) ?_
      refine wl rfl rfl rfl (p_ld Tryd.underlying5 rfl rfl (ld (hc3 _ (by omega)))) ?_
      refine wl rfl rfl rfl (p_conv Tryd.underlying5 Tryd.underlying3 rfl (wB_i64 _)) ?_
      refine wl rfl rfl rfl (p_sub rfl rfl (show IntKind.i64.wrap (((b.getD 0 0).toNat : Int) - 247) = ((k : Nat) : Int) from by rw [w64 (by omega)]; omega)) ?_
      refine wl rfl rfl rfl (p_as rfl) ?_
      refine wl_nil ?_
      refine x_seq ?_
      refine wc_seq ?_
      refine wc_seq ?_
      refine wc_region ?_
      refine wl rfl rfl rfl (p_mv rfl) ?_
      refine wl rfl rfl rfl (p_lenS Tryd.underlying22 rfl) ?_
      refine wl rfl rfl rfl (p_mv rfl) ?_
      refine wl rfl rfl rfl (p_add rfl rfl (w64 (by omega))) ?_
      refine wl rfl rfl rfl (p_lt rfl rfl) ?_
      refine wl rfl rfl rfl (p_mv rfl) ?_
      refine wl_split (d := 30) rfl (fun q30 => ?_) (fun q30 => ?_)
      ·
        have q30 := of_decide_eq_true q30
        have eg : gn b = none := by unfold gn; rw [if_neg (by omega), if_neg (by omega), if_pos (.inl (by omega))]
        refine wl_s (gd_ rfl rfl rfl rfl rfl rfl) rfl rfl ?_
        refine wl_s (gd_ rfl rfl rfl rfl rfl rfl) rfl rfl ?_
        refine wl_s (gd_ rfl rfl rfl rfl rfl rfl) rfl rfl ?_
        refine wl_s (gd_ rfl rfl rfl rfl rfl rfl) rfl rfl ?_
        refine wl rfl rfl rfl (p_pickT rfl rfl) ?_
        refine wl_nil ?_
        refine x_seq ?_
        refine wc_yes rfl (rfl) ?_
        refine wc_seq ?_
        refine wc_region ?_
        refine wl rfl rfl rfl (p_as rfl) ?_
        refine wl rfl rfl rfl (p_as rfl) ?_
        refine wl rfl rfl rfl (p_as rfl) ?_
        refine wl_nil ?_
        refine x_seq ?_
        refine wc_ret ?_
        refine x_then_ret ?_
        refine fin_run (res3 rfl rfl rfl rfl) ?_
        first
          | (obtain ⟨e1, e2, e3⟩ := gn_none eg; rw [e1, e2, e3]; exact ⟨rfl, HC⟩)
          | (obtain ⟨e1, e2, e3⟩ := gn_some eg; rw [e1, e2, e3]; exact ⟨rfl, HC⟩)
      ·
        have q30 := of_decide_eq_false q30
        refine wl_g (gd_ rfl rfl rfl rfl rfl rfl) rfl rfl (p_mv rfl) ?_
        obtain ⟨b4, o4, hA4, hF4, hc4⟩ := (hb).opn (d := 0) (by omega)
        refine wl_g (gd_ rfl rfl rfl rfl rfl rfl) rfl rfl (p_ixS1 (j := 1) Tryd.underlying22 sz5 rfl hA4 rfl (by omega) (by omega) rfl) ?_
        refine wl_g (gd_ rfl rfl rfl rfl rfl rfl) rfl rfl (p_ld Tryd.underlying5 rfl rfl (ld (hc4 _ (by omega)))) ?_
        refine wl_g (gd_ rfl rfl rfl rfl rfl rfl) rfl rfl (p_eq rfl rfl) ?_
        refine wl rfl rfl rfl (p_pickF rfl rfl) ?_
        refine wl_nil ?_
        refine x_seq ?_
        refine wc_if rfl (fun c2 => ?_) (fun c2 => ?_)
        ·
          have c2 := of_decide_eq_true c2
          have eg : gn b = none := by unfold gn; rw [if_neg (by omega), if_neg (by omega), if_pos (.inr (by omega))]
          refine wc_seq ?_
          refine wc_region ?_
          refine wl rfl rfl rfl (p_as rfl) ?_
          refine wl rfl rfl rfl (p_as rfl) ?_
          refine wl rfl rfl rfl (p_as rfl) ?_
          refine wl_nil ?_
          refine x_seq ?_
          refine wc_ret ?_
          refine x_then_ret ?_
          refine fin_run (res3 rfl rfl rfl rfl) ?_
          first
            | (obtain ⟨e1, e2, e3⟩ := gn_none eg; rw [e1, e2, e3]; exact ⟨rfl, HC⟩)
            | (obtain ⟨e1, e2, e3⟩ := gn_some eg; rw [e1, e2, e3]; exact ⟨rfl, HC⟩)
        ·
          have c2 := of_decide_eq_false c2
          have hnn : ¬ (b.length ≤ (b.getD 0 0).toNat - 247 ∨ (b.getD 1 0).toNat = 0) := by omega
          have hyl : ((b.drop 1).take k).length = k := by rw [List.length_take, List.length_drop]; omega
          refine wc_skip ?_
          refine x_seq ?_
          refine wc_seq ?_
          refine wc_region ?_
          refine wl rfl rfl rfl (p_as rfl) ?_
          refine wl_nil ?_
          refine x_seq ?_
          refine wc_seq ?_
          refine wc_seq ?_
          refine wc_region ?_
          refine wl rfl rfl rfl (p_mv rfl) ?_
          refine wl rfl rfl rfl (p_mv rfl) ?_
          refine wl rfl rfl rfl (p_add rfl rfl (show IntKind.i64.wrap (1 + (k : Int)) = ((1 + k : Nat) : Int) from by rw [w64 (by omega)]; omega)) ?_
          have hS39 := hb.cut (lo := 1) (hi := 1 + k) (q := k) (by omega) (by omega) (by omega)
          refine wl rfl rfl rfl (p_slS (l := 1) (h := 1 + k) Tryd.underlying22 sz5 rfl ⟨_, rfl⟩ ⟨_, rfl⟩ (by omega) (by have := hb.cap; omega) hb.cap (q := k) (by omega)) ?_
          refine wl rfl rfl rfl (p_lenS Tryd.underlying22 rfl) ?_
          refine wl rfl rfl rfl (p_mv rfl) ?_
          refine wl_nil ?_
          refine x_seq ?_
          refine wc_block ?_
          refine wc_loop (e' := [(0, .slice Ab lb cb), (5, i64 (k : Int)), (6, u64v (val (((b.drop 1).take k).take (0)))), (39, .slice (cutA Ab cb 1 1) k (cb - 1)), (40, i64 (k : Int)), (41, i64 ((0) : Int))]) (fun mz ez uz => ∃ j : Nat, mz = k - j ∧ ez = [(0, .slice Ab lb cb), (5, i64 (k : Int)), (6, u64v (val (((b.drop 1).take k).take j))), (39, .slice (cutA Ab cb 1 1) k (cb - 1)), (40, i64 (k : Int)), (41, i64 (j : Int))] ∧ (Sl uz (fun k => k < w.heap.size) u8v (cutA Ab cb 1 1) k (cb - 1) ((b.drop 1).take k)) ∧ (j ≤ k) ∧ (Ch No w uz))
            ⟨rfl, rfl, rfl, rfl, rfl, rfl, trivial⟩ ⟨0, rfl, rfl, hS39, by omega, HC⟩ ?_
          rintro m0 e w5 ⟨j, hm0, rfl, hS39, hj, HC⟩
          have hzw5 := HC.size
          refine wc_seq ?_
          refine wc_region ?_
          refine wl rfl rfl rfl (p_lt rfl rfl) ?_
          refine wl_nil ?_
          refine x_seq ?_
          refine wc_seq ?_
          refine wc_if rfl (fun c3 => ?_) (fun c3 => ?_)
          ·
            have c3 := of_decide_eq_true c3
            refine wc_skip ?_
            refine x_seq ?_
            refine wc_seq ?_
            refine wc_block ?_
            refine wc_seq ?_
            refine wc_region ?_
            obtain ⟨b6, o6, hA6, hF6, hc6⟩ := (hS39).opn (d := 0) (by omega)
            refine wl rfl rfl rfl (p_ixS1 Tryd.underlying22 sz5 rfl hA6 rfl (by omega) (by omega) (Int.toNat_natCast _)) ?_
            refine wl rfl rfl rfl (p_ld Tryd.underlying5 rfl rfl (ld (hc6 _ (by omega)))) ?_
            refine wl rfl rfl rfl (p_as rfl) ?_
            refine wl_nil ?_
            refine x_seq ?_
            refine wc_region ?_
            refine wl rfl rfl rfl (p_mv rfl) ?_
            refine wl rfl rfl rfl (p_shl64 (Y := 8) rfl rfl rfl) ?_
            refine wl rfl rfl rfl (p_mv rfl) ?_
            refine wl rfl rfl rfl (p_conv Tryd.underlying5 Tryd.underlying76 rfl (wB_u64 _)) ?_
            refine wl rfl rfl rfl (p_add (Z := ((val (((b.drop 1).take k).take (j + 1)) : Nat) : Int)) rfl rfl (by have hst := val_take_succ (Z := ((b.drop 1).take k)) (j := j) (by omega); have hvl := val_take_lt (Z := ((b.drop 1).take k)) (j := j) (by omega); have hxx := UInt8.toNat_lt (((b.drop 1).take k).getD j 0); rw [wu64 (by omega)]; omega)) ?_
            refine wl rfl rfl rfl (p_as rfl) ?_
            refine wl_nil ?_
            refine x_in_normal ?_
            refine x_seq ?_
            refine wc_region ?_
            refine wl rfl rfl rfl (p_add rfl rfl (w64 (by omega))) ?_
            refine wl rfl rfl rfl (p_mv rfl) ?_
            refine wl_nil ?_
            have hst := val_take_succ (Z := ((b.drop 1).take k)) (j := j) (by omega)
            have hvl := val_take_lt (Z := ((b.drop 1).take k)) (j := j) (by omega)
            refine x_round (e' := [(0, .slice Ab lb cb), (5, i64 (k : Int)), (6, u64v (val (((b.drop 1).take k).take (j + 1)))), (39, .slice (cutA Ab cb 1 1) k (cb - 1)), (40, i64 (k : Int)), (41, i64 ((j + 1) : Int))]) ⟨rfl, rfl, rfl, rfl, rfl, rfl, trivial⟩ (by rw [hm0]; omega) ⟨j + 1, rfl, rfl, hS39, by omega, HC⟩
          ·
            have c3 := of_decide_eq_false c3
            obtain rfl : j = k := by omega
            have hv : val (((b.drop 1).take j).take j) = val ((b.drop 1).take j) := by rw [List.take_of_length_le (by omega)]
            rw [hv]
            refine wc_exit ?_
            refine x_then_exit ?_
            refine x_then_exit ?_
            refine x_in_here ?_
            refine x_seq ?_
            refine wc_seq ?_
            refine wc_seq ?_
            refine wc_region ?_
            refine wl rfl rfl rfl (p_mv rfl) ?_
            refine wl rfl rfl rfl (p_lt rfl rfl) ?_
            refine wl_nil ?_
            refine x_seq ?_
            refine wc_if rfl (fun c4 => ?_) (fun c4 => ?_)
            ·
              have c4 := of_decide_eq_true c4
              have eg : gn b = none := by unfold gn; rw [if_neg (by omega), if_neg (by omega), if_neg hnn, ← hk, if_pos (by omega)]
              refine wc_seq ?_
              refine wc_region ?_
              refine wl rfl rfl rfl (p_as rfl) ?_
              refine wl rfl rfl rfl (p_as rfl) ?_
              refine wl rfl rfl rfl (p_as rfl) ?_
              refine wl_nil ?_
              refine x_seq ?_
              refine wc_ret ?_
              refine x_then_ret ?_
              refine fin_run (res3 rfl rfl rfl rfl) ?_
              first
                | (obtain ⟨e1, e2, e3⟩ := gn_none eg; rw [e1, e2, e3]; exact ⟨rfl, HC⟩)
                | (obtain ⟨e1, e2, e3⟩ := gn_some eg; rw [e1, e2, e3]; exact ⟨rfl, HC⟩)
            ·
              have c4 := of_decide_eq_false c4
              have eg : gn b = some (val ((b.drop 1).take j), 1 + j) := by unfold gn; rw [if_neg (by omega), if_neg (by omega), if_neg hnn, ← hk, if_neg (by omega)]
              refine wc_skip ?_
              refine x_seq ?_
              refine wc_seq ?_
              refine wc_region ?_
              refine wl rfl rfl rfl (p_mv rfl) ?_
              refine wl rfl rfl rfl (p_mv rfl) ?_
              refine wl rfl rfl rfl (p_add rfl rfl (show IntKind.i64.wrap (1 + (j : Int)) = ((1 + j : Nat) : Int) from by rw [w64 (by omega)]; omega)) ?_
              refine wl rfl rfl rfl (p_as rfl) ?_
              refine wl rfl rfl rfl (p_as rfl) ?_
              refine wl rfl rfl rfl (p_as rfl) ?_
              refine wl_nil ?_
              refine x_seq ?_
              refine wc_ret ?_
              refine fin_run (res3 rfl rfl rfl rfl) ?_
              first
                | (obtain ⟨e1, e2, e3⟩ := gn_none eg; rw [e1, e2, e3]; exact ⟨rfl, HC⟩)
                | (obtain ⟨e1, e2, e3⟩ := gn_some eg; rw [e1, e2, e3]; exact ⟨rfl, HC⟩)
end Go.Proofs.YtcgapjieidmkpaaDoor
