/-
  Own text, printed by a program of mine (wip/gx): what functions of the program do, walked operation by operation.
-/
import Derived.Test.YtdbdconmcgcooaaDoorProg
import Derived.Test.YtdbdconmcgcooaaDoorGxAux
import Derived.Test.YtdbdconmcgcooaaDoorTab
import Derived.Test.YtdbdconmcgcooaaDoorPlPack
set_option linter.unusedVariables false
namespace Go.Proofs.YtdbdconmcgcooaaDoor
open Go.RowKit Go.Gx
open Go.Plain
set_option maxHeartbeats 1000000 in
set_option maxRecDepth 20000 in
theorem clone_any {w : World} {Ab : Option Addr} {lb cb : Nat} {Fb : Nat → Prop} {b : List UInt8} (hb : Sl w Fb u8v Ab lb cb b) (hl : lb ≤ 140737488355328) :
    Calls Tryd.prog 67 #[.slice Ab lb cb] w fun e w' => ∃ A c, e = .returned (.slice A (lb) c) ∧ Row w' (fun k => w.heap.size ≤ k) 5 1 (.slice A (lb) c) (lb) ((b).map u8v) ∧ Ch No w w' := by
  have hb := hb.old
  have HC : Ch No w w := Ch.refl _ _
  refine enter' (args := [.slice Ab lb cb]) (n := 8) Tryd.func67 rfl rfl rfl ?_
  refine wc_seq ?_
  refine wc_region ?_
  refine wl rfl rfl rfl (p_as rfl) ?_
  refine wl_nil ?_
  refine x_seq ?_
  refine wc_seq ?_
  refine wc_seq ?_
  refine wc_region ?_
  refine wl rfl rfl rfl (p_mv rfl) ?_
  refine wl rfl rfl rfl (p_eqnil rfl rfl Tryd.underlying22) ?_
  refine wl_nil ?_
  refine x_seq ?_
  refine wc_if rfl (fun c0 => ?_) (fun c0 => ?_)
  ·
    obtain rfl : Ab = none := by cases Ab <;> simp_all
    obtain ⟨rfl, rfl⟩ := hb.none_len
    refine wc_seq ?_
    refine wc_region ?_
    refine wl rfl rfl rfl (p_as rfl) ?_
    refine wl_nil ?_
    refine x_seq ?_
    refine wc_ret ?_
    refine x_then_ret ?_
    refine fin_run (res1 rfl rfl) ?_
    first | exact ⟨_, _, rfl, Row.nil _ _ _ _, HC⟩ | (rw [Nat.zero_add] at hW5; rw [Nat.zero_add]; exact ⟨_, _, rfl, hW5.mono (fun k _ hk => by first | omega | (dsimp only at *; omega)), HC⟩)
  ·
    refine wc_skip ?_
    refine x_seq ?_
    refine wc_seq ?_
    refine wc_region ?_
    refine wle rfl (e_bsl (cs := #[]) (E := 5) rfl rfl (fun _ => by kernel_rfl) (fun w1 g5 hg5 hb5 hc hsz5 => ?_))
    have hzw1 := hc.size
    have HC := HC.tr hc
    have hb := hb.no hc
    have hge5 : w.heap.size ≤ g5 := by have := HC.size; omega
    have hW5 := Row.lit (l := 0) (f := u8v) (xs := []) (F := fun k => g5 ≤ k) hb5 (by first | omega | (dsimp only; omega)) rfl rfl (by simp [maxLen])
    refine wl rfl rfl rfl (p_mv rfl) ?_
    refine wle rfl (e_appS rfl el22 one_u8 rfl rfl hW5 hb (by omega) (by intro k hk; first | omega | (dsimp only at *; omega)) (fun w2 A7 c7 hW5 hc => ?_))
    have hzw2 := hc.size
    have HC := HC.trans hc (fun _ _ h => h) (fun k hk ht => absurd ht (by first | omega | (dsimp only at *; omega)))
    first | have hb := hb.ch hc (by intro k hk ht; first | omega | (dsimp only at *; omega)) | have hb := hb.chT hc (by intro k hz hk ht; first | omega | (dsimp only at *; omega))
    refine wl rfl rfl rfl (p_as rfl) ?_
    refine wl_nil ?_
    refine x_seq ?_
    refine wc_ret ?_
    refine fin_run (res1 rfl rfl) ?_
    first | exact ⟨_, _, rfl, Row.nil _ _ _ _, HC⟩ | (rw [Nat.zero_add] at hW5; rw [Nat.zero_add]; exact ⟨_, _, rfl, hW5.mono (fun k _ hk => by first | omega | (dsimp only at *; omega)), HC⟩)

set_option maxHeartbeats 1000000 in
set_option maxRecDepth 20000 in
theorem num_any {w : World} {Ab : Option Addr} {lb cb : Nat} {Fb : Nat → Prop} {b : List UInt8} {x : Nat} (hb : Sl w Fb u8v Ab lb cb b) (hl : lb ≤ 140737488355318) (hx : x < 18446744073709551616) :
    Calls Tryd.prog 65 #[.slice Ab lb cb, u64v x] w fun e w' => ∃ A c, e = .returned (.slice A (lb + (encN x).length) c) ∧ Row w' (fun k => w.heap.size ≤ k) 5 1 (.slice A (lb + (encN x).length) c) (lb + (encN x).length) ((b ++ encN x).map u8v) ∧ Ch No w w' := by
  have hb := hb.old
  have HC : Ch No w w := Ch.refl _ _
  refine enter' (args := [.slice Ab lb cb, u64v x]) (n := 35) Tryd.func65 rfl rfl rfl ?_
  refine wc_seq ?_
  refine wc_region ?_
  refine wl rfl rfl rfl (p_as rfl) ?_
  refine wl_nil ?_
  refine x_seq ?_
  refine wc_seq ?_
  refine wc_region ?_
  refine wl rfl rfl rfl (p_mv rfl) ?_
  refine wle rfl (e_call ent67 rfl rfl (clone_any (hb) (by omega)) ?_)
  rintro _ w1 ⟨A8, c8, rfl, hW8, hc⟩
  refine ⟨_, rfl, ?_⟩
  have hzw1 := hc.size
  have HC := HC.tr hc
  have hb := hb.no hc
  refine wl rfl rfl rfl (p_as rfl) ?_
  refine wl_nil ?_
  refine x_seq ?_
  refine wc_seq ?_
  refine wc_seq ?_
  refine wc_region ?_
  refine wl rfl rfl rfl (p_mv rfl) ?_
  refine wl rfl rfl rfl (p_lt rfl rfl) ?_
  refine wl_nil ?_
  refine x_seq ?_
  refine wc_if rfl (fun c0 => ?_) (fun c0 => ?_)
  ·
    have c0 := of_decide_eq_true c0
    have hx8 : x < 248 := by omega
    have eN := encN_small hx8
    refine wc_seq ?_
    refine wc_region ?_
    refine wl rfl rfl rfl (p_mv rfl) ?_
    refine wl rfl rfl rfl (p_mv rfl) ?_
    refine wl rfl rfl rfl (p_convN8 Tryd.underlying79 Tryd.underlying5 rfl) ?_
    refine wle rfl (e_bslV (E := 5) rfl rfl (fun _ => by kernel_rfl) (fun w2 g14 hg14 hb14 hc hsz14 => ?_))
    have hzw2 := hc.size
    have HC := HC.tr hc
    have hb := hb.no hc
    have hW8 := hW8.after hc
    have hge14 : w.heap.size ≤ g14 := by have := HC.size; omega
    have hS14 := Sl.lit1 (f := u8v) hb14
    refine wle rfl (e_appS rfl el22 one_u8 rfl rfl hW8 hS14 (by omega) (by intro k hk; first | omega | (dsimp only at *; omega)) (fun w3 A15 c15 hW8 hc => ?_))
    have hzw3 := hc.size
    have HC := HC.trans hc (fun _ _ h => h) (fun k hk ht => absurd ht (by first | omega | (dsimp only at *; omega)))
    first | have hb := hb.ch hc (by intro k hk ht; first | omega | (dsimp only at *; omega)) | have hb := hb.chT hc (by intro k hz hk ht; first | omega | (dsimp only at *; omega))
    first | have hS14 := hS14.ch hc (by intro k hk ht; first | omega | (dsimp only at *; omega)) | have hS14 := hS14.chT hc (by intro k hz hk ht; first | omega | (dsimp only at *; omega))
    refine wl rfl rfl rfl (p_as rfl) ?_
    refine wl_nil ?_
    refine x_seq ?_
    refine wc_ret ?_
    refine x_then_ret ?_
    refine fin_run (res1 rfl rfl) ?_
    rw [eN]
    first
      | exact ⟨_, _, rfl, hW8.mono (fun k _ hk => by first | omega | (dsimp only at *; omega)), HC⟩
      | (rw [hbe, List.append_assoc, show (255 - ((8 - r.length : Nat) : Int)).toNat = 247 + r.length by omega, show lb + 1 + (8 - (8 - r.length)) = lb + (UInt8.ofNat (247 + r.length) :: r).length by simp only [List.length_cons]; omega] at *; exact ⟨_, _, rfl, hW8.mono (fun k _ hk => by first | omega | (dsimp only at *; omega)), HC⟩)
  ·
    have c0 := of_decide_eq_false c0
    have hx8 : 248 ≤ x := by omega
    have eN := encN_great hx8
    have hbl := be_len hx
    refine wc_skip ?_
    refine x_seq ?_
    refine wc_seq ?_
    refine wc_region ?_
    refine wle rfl (e_alloc (cs := ((List.replicate 8 (0 : UInt8)).map u8v).toArray) rfl (by rfl) rfl (fun w4 g5 hg5 hb5 hc hsz5 => ?_))
    have hzw4 := hc.size
    have HC := HC.tr hc
    have hb := hb.no hc
    have hW8 := hW8.after hc
    have hge5 : w.heap.size ≤ g5 := by have := HC.size; omega
    refine wl_nil ?_
    refine x_seq ?_
    refine wc_seq ?_
    refine wc_region ?_
    refine wl rfl rfl rfl (p_as rfl) ?_
    refine wl_nil ?_
    refine x_seq ?_
    refine wc_seq ?_
    refine wc_block ?_
    refine wc_loop (e' := [(0, .slice A8 lb c8), (1, u64v (x)), (5, .pointer (some ⟨g5, 0, none⟩)), (6, i64 ((8 - ([]).length : Nat) : Int))]) (fun m e u => ∃ y : Nat, ∃ r : List UInt8, m = y ∧ e = [(0, .slice A8 lb c8), (1, u64v y), (5, .pointer (some ⟨g5, 0, none⟩)), (6, i64 ((8 - r.length : Nat) : Int))] ∧ Row u (fun k => w.heap.size ≤ k ∧ k ≠ g5) 5 1 (.slice A8 lb c8) lb (b.map u8v) ∧ Blk u g5 88 ((List.replicate (8 - r.length) (0 : UInt8) ++ r).map u8v).toArray ∧ r.length ≤ 8 ∧ be x = be y ++ r ∧ y < 256 ^ (8 - r.length) ∧ Ch No w u)
      ⟨rfl, rfl, rfl, rfl, trivial⟩ ⟨x, [], rfl, rfl, hW8.mono (fun k hk hF => by first | omega | (dsimp only at *; omega)), by simpa using hb5, by simp, by simp, by simpa using hx, HC⟩ ?_
    rintro m0 e w5 ⟨y, r, hm0, rfl, hW8, hb5, hr, hbe, hy, HC⟩
    have hzw5 := HC.size
    refine wc_seq ?_
    refine wc_seq ?_
    refine wc_region ?_
    refine wl rfl rfl rfl (p_mv rfl) ?_
    refine wl rfl rfl rfl (p_gt rfl rfl) ?_
    refine wl_nil ?_
    refine x_seq ?_
    refine wc_if rfl (fun c1 => ?_) (fun c1 => ?_)
    ·
      have c1 := of_decide_eq_true c1
      have hr8 : r.length < 8 := by
        rcases Nat.lt_or_ge r.length 8 with h | h
        · exact h
        · rw [show 8 - r.length = 0 by omega] at hy; simp at hy; omega
      refine wc_skip ?_
      refine x_seq ?_
      refine wc_seq ?_
      refine wc_block ?_
      refine wc_seq ?_
      refine wc_region ?_
      refine wl rfl rfl rfl (p_mv rfl) ?_
      refine wl rfl rfl rfl (p_sub rfl rfl (w64 (by omega))) ?_
      refine wl rfl rfl rfl (p_as rfl) ?_
      refine wl_nil ?_
      refine x_seq ?_
      refine wc_region ?_
      refine wl rfl rfl rfl (p_mv rfl) ?_
      refine wl rfl rfl rfl (p_mv rfl) ?_
      refine wl rfl rfl rfl (p_convN8 Tryd.underlying79 Tryd.underlying5 rfl) ?_
      refine wl rfl rfl rfl (p_ixA1 Tryd.underlying88 sz5 rfl rfl (by omega) (by omega) rfl) ?_
      refine wle rfl (e_stL one_u8 (by rfl) rfl rfl hb5 (by first | (simp; done) | (simp; omega) | omega) (fun w7 hb5 hc hsz => ?_))
      have hzw7 := hc.size
      have HC := HC.trans hc (fun _ _ h => h) (fun k hk ht => absurd ht (by omega))
      have hW8 := hW8.ch hc (by intro k hz hk ht; first | omega | (dsimp only at *; omega))
      refine wl_nil ?_
      refine x_in_normal ?_
      refine x_seq ?_
      refine wc_region ?_
      refine wl rfl rfl rfl (p_mv rfl) ?_
      refine wl rfl rfl rfl (p_shrN (Y := 8) rfl rfl rfl) ?_
      refine wl rfl rfl rfl (p_as rfl) ?_
      refine wl_nil ?_
      have e1 : ((8 - r.length : Nat) : Int) - 1 = ((7 - r.length : Nat) : Int) := by omega
      rw [e1, Int.toNat_natCast, show 8 - r.length = (7 - r.length) + 1 by omega, set_rep, show 7 - r.length = 8 - (UInt8.ofNat y :: r).length by simp only [List.length_cons]; omega] at hb5
      have hbe : be x = be (y / 2 ^ 8) ++ (UInt8.ofNat y :: r) := by rw [hbe, be_pos (x := y) (by omega)]; simp
      have hy : y / 2 ^ 8 < 256 ^ (8 - (UInt8.ofNat y :: r).length) := by
        rw [List.length_cons, Nat.div_lt_iff_lt_mul (by omega)]; rw [show 8 - r.length = (8 - (r.length + 1)) + 1 by omega, Nat.pow_succ] at hy; exact hy
      refine x_round (e' := [(0, .slice A8 lb c8), (1, u64v (y / 2 ^ 8)), (5, .pointer (some ⟨g5, 0, none⟩)), (6, i64 ((8 - (UInt8.ofNat y :: r).length : Nat) : Int))]) ⟨rfl, rfl, rfl, (congrArg some (congrArg i64 (by simp only [List.length_cons]; omega))), trivial⟩ (by rw [hm0]; exact Nat.div_lt_self (show 0 < y by omega) (show 1 < 2 ^ 8 by omega)) ⟨y / 2 ^ 8, UInt8.ofNat y :: r, rfl, rfl, hW8, hb5, by simp only [List.length_cons]; omega, hbe, hy, HC⟩
    ·
      have c1 := of_decide_eq_false c1
      have hy0 : y = 0 := by omega
      subst hy0
      rw [be_zero, List.nil_append] at hbe
      refine wc_exit ?_
      refine x_then_exit ?_
      refine x_then_exit ?_
      refine x_in_here ?_
      refine x_seq ?_
      refine wc_seq ?_
      refine wc_draw [(0, 0), (1, 0), (2, 0), (3, 0), (6, 0), (7, 0), (4, 2), (5, 3), (8, 3), (9, 0)] 5 (by kernel_rfl) (by kernel_rfl) (by kernel_rfl) (by repeat (first | with_reducible exact pan_body | with_reducible apply pan_then | with_reducible apply pan_in)) (fun x => Ch No w5.drew x) (Ch.refl _ _) ?_
      obtain ⟨w8, ew8⟩ : ∃ x, x = w5.drew := ⟨_, rfl⟩
      rw [← ew8]
      have hc : Ch No w5 w8 := by rw [ew8]; exact Ch.drew _
      have hszw8 : w8.heap.size = w5.heap.size := by rw [ew8]; rfl
      clear ew8
      have hzw8 := hc.size
      have HC := HC.tr hc
      have hW8 := hW8.no hc
      have hb5 := hb5.ch hc (fun h => h)
      have hS : Ch No w8 w8 := Ch.refl _ _
      refine ws_p rfl rfl rfl rfl (p_mv rfl) ?_
      refine ws_p rfl rfl rfl rfl (p_mv rfl) ?_
      refine ws_p rfl rfl rfl rfl (p_sub rfl rfl (w64 (by omega))) ?_
      refine ws_p rfl rfl rfl rfl (p_convU8 Tryd.underlying3 Tryd.underlying5 rfl (by omega)) ?_
      refine ws_p rfl rfl rfl rfl (p_mv rfl) ?_
      have hS33 := Sl.arr hb5 (N := 8) (lo := 8 - r.length) (by simp; omega) (by omega)
      rw [drop_rep] at hS33
      refine ws_p rfl rfl rfl rfl (p_slA (l := 8 - r.length) (h := 8) Tryd.underlying88 sz5 rfl ⟨_, rfl⟩ rfl (by omega) (by omega)) ?_
      have hltg5 := hb5.lt
      refine ws_e rfl rfl (e_bslV (E := 5) rfl rfl (fun _ => by kernel_rfl) (fun w9 g30 hg30 hb30 hc hsz30 => ⟨hc, ?_⟩))
      have hzw9 := hc.size
      have HC := HC.tr hc
      have hW8 := hW8.after hc
      have hb5 := hb5.ch hc (fun h => h)
      have hS33 := hS33.no hc
      have hge30 : w.heap.size ≤ g30 := by have := HC.size; omega
      have hS30 := Sl.lit1 (f := u8v) hb30
      refine ws_narrow (S' := fun x => Ch No w9 x) (Ch.refl _ _) (fun x h => hc.tr h) ?_
      have hltg5 := hb5.lt
      refine ws_l rfl rfl (e_appS rfl el22 one_u8 rfl rfl hW8 hS30 (by omega) (by intro k hk; first | omega | (dsimp only at *; omega)) (fun w10 A31 c31 hW8 hc => ?_))
      have hzw10 := hc.size
      have HC := HC.trans hc (fun _ _ h => h) (fun k hk ht => absurd ht (by first | omega | (dsimp only at *; omega)))
      have hb5 := hb5.ch hc (by first | omega | (dsimp only; omega))
      first | have hS33 := hS33.ch hc (by intro k hk ht; first | omega | (dsimp only at *; omega)) | have hS33 := hS33.chT hc (by intro k hz hk ht; first | omega | (dsimp only at *; omega))
      first | have hS30 := hS30.ch hc (by intro k hk ht; first | omega | (dsimp only at *; omega)) | have hS30 := hS30.chT hc (by intro k hz hk ht; first | omega | (dsimp only at *; omega))
      have hltg5 := hb5.lt
      refine ws_l rfl rfl (e_appS rfl el22 one_u8 rfl rfl hW8 hS33 (by omega) (by intro k hk; first | omega | (dsimp only at *; omega)) (fun w11 A34 c34 hW8 hc => ?_))
      have hzw11 := hc.size
      have HC := HC.trans hc (fun _ _ h => h) (fun k hk ht => absurd ht (by first | omega | (dsimp only at *; omega)))
      have hb5 := hb5.ch hc (by first | omega | (dsimp only; omega))
      first | have hS33 := hS33.ch hc (by intro k hk ht; first | omega | (dsimp only at *; omega)) | have hS33 := hS33.chT hc (by intro k hz hk ht; first | omega | (dsimp only at *; omega))
      first | have hS30 := hS30.ch hc (by intro k hk ht; first | omega | (dsimp only at *; omega)) | have hS30 := hS30.chT hc (by intro k hz hk ht; first | omega | (dsimp only at *; omega))
      refine ws_p rfl rfl rfl rfl (p_as rfl) ?_
      refine ws_n ?_
      refine x_seq ?_
      refine wc_ret ?_
      refine fin_run (res1 rfl rfl) ?_
      rw [eN]
      first
        | exact ⟨_, _, rfl, hW8.mono (fun k _ hk => by first | omega | (dsimp only at *; omega)), HC⟩
        | (rw [hbe, List.append_assoc, show (255 - ((8 - r.length : Nat) : Int)).toNat = 247 + r.length by omega, show lb + 1 + (8 - (8 - r.length)) = lb + (UInt8.ofNat (247 + r.length) :: r).length by simp only [List.length_cons]; omega] at *; exact ⟨_, _, rfl, hW8.mono (fun k _ hk => by first | omega | (dsimp only at *; omega)), HC⟩)
end Go.Proofs.YtdbdconmcgcooaaDoor
