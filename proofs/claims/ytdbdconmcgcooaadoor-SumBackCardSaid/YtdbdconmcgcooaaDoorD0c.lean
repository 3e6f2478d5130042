/-
  Own text, printed by a program of mine (wip/gx): what functions of the program do, walked operation by operation.
-/
import Derived.Test.YtdbdconmcgcooaaDoorProg
import Derived.Test.YtdbdconmcgcooaaDoorGxAux
import Derived.Test.YtdbdconmcgcooaaDoorTab
import Derived.Test.YtdbdconmcgcooaaDoorPlPack
set_option linter.unusedVariables false
namespace Go.Proofs.YtdbdconmcgcooaaDoor
open Go.RowKit Go.Gx
open Go.Plain
set_option maxHeartbeats 1000000 in
set_option maxRecDepth 20000 in
theorem rnum_any {w : World} {Ab : Option Addr} {lb cb : Nat} {Fb : Nat → Prop} {b : List UInt8} {x : Nat} (hb : Sl w Fb u8v Ab lb cb b) (hl : lb ≤ 140737488355318) (hx : x < 18446744073709551616) :
    Calls Tryd.prog 70 #[.slice Ab lb cb, u64v x] w fun e w' => ∃ A c, e = .returned (.slice A (lb + (encN x).length) c) ∧ Row w' (fun k => w.heap.size ≤ k) 5 1 (.slice A (lb + (encN x).length) c) (lb + (encN x).length) ((b ++ encN x).map u8v) ∧ Ch No w w' := by
  have hb := hb.old
  have HC : Ch No w w := Ch.refl _ _
  refine enter' (args := [.slice Ab lb cb, u64v x]) (n := 37) Tryd.func70 rfl rfl rfl ?_
  refine wc_seq ?_
  refine wc_region ?_
  refine wl rfl rfl rfl (p_as rfl) ?_
  refine wl_nil ?_
  refine x_seq ?_
  refine wc_seq ?_
  refine wc_region ?_
  refine wle rfl (e_bsl (cs := #[]) (E := 5) rfl rfl (fun _ => by kernel_rfl) (fun w1 g8 hg8 hb8 hc hsz8 => ?_))
  have hzw1 := hc.size
  have HC := HC.tr hc
  have hb := hb.no hc
  have hge8 : w.heap.size ≤ g8 := by have := HC.size; omega
  have hW8 := Row.lit (l := 0) (f := u8v) (xs := []) (F := fun k => g8 ≤ k) hb8 (by first | omega | (dsimp only; omega)) rfl rfl (by simp [maxLen])
  refine wl rfl rfl rfl (p_mv rfl) ?_
  refine wle rfl (e_appS rfl el22 one_u8 rfl rfl hW8 hb (by omega) (by intro k hk; first | omega | (dsimp only at *; omega)) (fun w2 A10 c10 hW8 hc => ?_))
  have hzw2 := hc.size
  have HC := HC.trans hc (fun _ _ h => h) (fun k hk ht => absurd ht (by first | omega | (dsimp only at *; omega)))
  first | have hb := hb.ch hc (by intro k hk ht; first | omega | (dsimp only at *; omega)) | have hb := hb.chT hc (by intro k hz hk ht; first | omega | (dsimp only at *; omega))
  refine wl rfl rfl rfl (p_as rfl) ?_
  refine wl_nil ?_
  refine x_seq ?_
  refine wc_seq ?_
  refine wc_seq ?_
  refine wc_region ?_
  refine wl rfl rfl rfl (p_mv rfl) ?_
  refine wl rfl rfl rfl (p_lt rfl rfl) ?_
  refine wl_nil ?_
  refine x_seq ?_
  refine wc_if rfl (fun c0 => ?_) (fun c0 => ?_)
  ·
    have c0 := of_decide_eq_true c0
    have hx8 : x < 248 := by omega
    have eN := encN_small hx8
    refine wc_seq ?_
    refine wc_region ?_
    refine wl rfl rfl rfl (p_mv rfl) ?_
    refine wl rfl rfl rfl (p_mv rfl) ?_
    refine wl rfl rfl rfl (p_convN8 Tryd.underlying79 Tryd.underlying5 rfl) ?_
    refine wle rfl (e_bslV (E := 5) rfl rfl (fun _ => by kernel_rfl) (fun w3 g16 hg16 hb16 hc hsz16 => ?_))
    have hzw3 := hc.size
    have HC := HC.tr hc
    have hb := hb.no hc
    have hW8 := hW8.after hc
    have hge16 : w.heap.size ≤ g16 := by have := HC.size; omega
    have hS16 := Sl.lit1 (f := u8v) hb16
    refine wle rfl (e_appS rfl el22 one_u8 rfl rfl hW8 hS16 (by omega) (by intro k hk; first | omega | (dsimp only at *; omega)) (fun w4 A17 c17 hW8 hc => ?_))
    have hzw4 := hc.size
    have HC := HC.trans hc (fun _ _ h => h) (fun k hk ht => absurd ht (by first | omega | (dsimp only at *; omega)))
    first | have hb := hb.ch hc (by intro k hk ht; first | omega | (dsimp only at *; omega)) | have hb := hb.chT hc (by intro k hz hk ht; first | omega | (dsimp only at *; omega))
    first | have hS16 := hS16.ch hc (by intro k hk ht; first | omega | (dsimp only at *; omega)) | have hS16 := hS16.chT hc (by intro k hz hk ht; first | omega | (dsimp only at *; omega))
    refine wl rfl rfl rfl (p_as rfl) ?_
    refine wl_nil ?_
    refine x_seq ?_
    refine wc_ret ?_
    refine x_then_ret ?_
    refine fin_run (res1 rfl rfl) ?_
    rw [Nat.zero_add] at hW8
    rw [Nat.zero_add]
    rw [eN]
    first
      | exact ⟨_, _, rfl, hW8.mono (fun k _ hk => by first | omega | (dsimp only at *; omega)), HC⟩
      | (rw [hbe, show (247 + (r.length : Int)).toNat = 247 + r.length by omega, List.append_assoc, show lb + 1 + r.length = lb + (UInt8.ofNat (247 + r.length) :: r).length by simp only [List.length_cons]; omega] at *; exact ⟨_, _, rfl, hW8.mono (fun k _ hk => by first | omega | (dsimp only at *; omega)), HC⟩)
  ·
    have c0 := of_decide_eq_false c0
    have hx8 : 248 ≤ x := by omega
    have eN := encN_great hx8
    have hbl := be_len hx
    refine wc_skip ?_
    refine x_seq ?_
    refine wc_seq ?_
    refine wc_region ?_
    refine wl rfl rfl rfl (p_as rfl) ?_
    refine wl_nil ?_
    refine x_seq ?_
    refine wc_seq ?_
    refine wc_seq ?_
    refine wc_region ?_
    refine wl rfl rfl rfl (p_mv rfl) ?_
    refine wl rfl rfl rfl (p_as rfl) ?_
    refine wl_nil ?_
    refine x_seq ?_
    refine wc_block ?_
    obtain ⟨mm, hmm⟩ : ∃ mm, mm = w2.heap.size := ⟨_, rfl⟩
    refine wc_loop (e' := [(5, .slice A10 (0 + lb) c10), (6, .slice (none) ([]).length (0)), (7, u64v (x))]) (fun m e u => ∃ y : Nat, ∃ r : List UInt8, ∃ A6 : Option Addr, ∃ c6 : Nat, m = y ∧ e = [(5, .slice A10 (0 + lb) c10), (6, .slice A6 r.length c6), (7, u64v y)] ∧ Row u (fun k => w.heap.size ≤ k ∧ k < mm) 5 1 (.slice A10 (0 + lb) c10) (0 + lb) (b.map u8v) ∧ Sl u (fun k => mm ≤ k) u8v A6 r.length c6 r ∧ mm ≤ u.heap.size ∧ r.length ≤ 8 ∧ be x = be y ++ r ∧ y < 256 ^ (8 - r.length) ∧ Ch No w u)
      ⟨rfl, rfl, rfl, trivial⟩ ⟨x, [], none, 0, rfl, rfl, hW8.mono (fun k hk hF => by first | omega | (dsimp only at *; omega)), Sl.nil, by omega, by simp, by simp, by simpa using hx, HC⟩ ?_
    rintro m0 e w5 ⟨y, r, A6, c6, hm0, rfl, hW8, hS6, hmm, hr, hbe, hy, HC⟩
    have hzw5 := HC.size
    have hS6 := (Sl.mono hS6 (G := fun k => mm ≤ k ∧ k < w5.heap.size) (fun k h1 h2 => ⟨h2, h1⟩))
    refine wc_seq ?_
    refine wc_seq ?_
    refine wc_region ?_
    refine wl rfl rfl rfl (p_mv rfl) ?_
    refine wl rfl rfl rfl (p_gt rfl rfl) ?_
    refine wl_nil ?_
    refine x_seq ?_
    refine wc_if rfl (fun c1 => ?_) (fun c1 => ?_)
    ·
      have c1 := of_decide_eq_true c1
      have hr8 : r.length < 8 := by
        rcases Nat.lt_or_ge r.length 8 with h | h
        · exact h
        · rw [show 8 - r.length = 0 by omega] at hy; simp at hy; omega
      refine wc_skip ?_
      refine x_seq ?_
      refine wc_seq ?_
      refine wc_block ?_
      refine wc_region ?_
      refine wl rfl rfl rfl (p_mv rfl) ?_
      refine wl rfl rfl rfl (p_convN8 Tryd.underlying79 Tryd.underlying5 rfl) ?_
      refine wle rfl (e_bslV (E := 5) rfl rfl (fun _ => by kernel_rfl) (fun w6 g25 hg25 hb25 hc hsz25 => ?_))
      have hzw6 := hc.size
      have HC := HC.tr hc
      have hW8 := hW8.after hc
      have hS6 := hS6.no hc
      have hge25 : w.heap.size ≤ g25 := by have := HC.size; omega
      have hW25 := Row.lit (l := 1) (f := u8v) (xs := [UInt8.ofNat y]) (F := fun k => g25 ≤ k) hb25 (by first | omega | (dsimp only; omega)) rfl rfl (by simp [maxLen])
      refine wl rfl rfl rfl (p_mv rfl) ?_
      refine wle rfl (e_appS rfl el22 one_u8 rfl rfl hW25 hS6 (by omega) (by intro k hk; first | omega | (dsimp only at *; omega)) (fun w7 A27 c27 hW25 hc => ?_))
      have hzw7 := hc.size
      have HC := HC.trans hc (fun _ _ h => h) (fun k hk ht => absurd ht (by first | omega | (dsimp only at *; omega)))
      have hW8 := hW8.afterT hc (by intro k hz hk ht; first | omega | (dsimp only at *; omega))
      first | have hS6 := hS6.ch hc (by intro k hk ht; first | omega | (dsimp only at *; omega)) | have hS6 := hS6.chT hc (by intro k hz hk ht; first | omega | (dsimp only at *; omega))
      refine wl rfl rfl rfl (p_as rfl) ?_
      refine wl_nil ?_
      refine x_in_normal ?_
      refine x_seq ?_
      refine wc_region ?_
      refine wl rfl rfl rfl (p_mv rfl) ?_
      refine wl rfl rfl rfl (p_shrN (Y := 8) rfl rfl rfl) ?_
      refine wl rfl rfl rfl (p_as rfl) ?_
      refine wl_nil ?_
      have hbe : be x = be (y / 2 ^ 8) ++ (UInt8.ofNat y :: r) := by rw [hbe, be_pos (x := y) (by omega)]; simp
      have hy : y / 2 ^ 8 < 256 ^ (8 - (UInt8.ofNat y :: r).length) := by
        rw [List.length_cons, Nat.div_lt_iff_lt_mul (by omega)]; rw [show 8 - r.length = (8 - (r.length + 1)) + 1 by omega, Nat.pow_succ] at hy; exact hy
      refine x_round (e' := [(5, .slice A10 (0 + lb) c10), (6, .slice (A27) (UInt8.ofNat y :: r).length (c27)), (7, u64v (y / 2 ^ 8))]) ⟨rfl, (congrArg some (congrArg (fun z => Value.slice A27 z c27) (by simp only [List.length_cons]; omega))), rfl, trivial⟩ (by rw [hm0]; exact Nat.div_lt_self (show 0 < y by omega) (show 1 < 2 ^ 8 by omega)) ⟨y / 2 ^ 8, UInt8.ofNat y :: r, A27, c27, rfl, rfl, hW8.mono (fun k _ hk => by first | omega | (dsimp only at *; omega)), by rw [List.length_cons, Nat.add_comm]; exact hW25.sl.mono (fun k _ hk => by first | omega | (dsimp only at *; omega)), by omega, by simp only [List.length_cons]; omega, hbe, hy, HC⟩
    ·
      have c1 := of_decide_eq_false c1
      have hy0 : y = 0 := by omega
      subst hy0
      rw [be_zero, List.nil_append] at hbe
      have hW8 := hW8.mono (G := fun k => w.heap.size ≤ k ∧ (k < mm ∨ w5.heap.size ≤ k)) (fun k _ hk => by first | omega | (dsimp only at *; omega))
      refine wc_exit ?_
      refine x_then_exit ?_
      refine x_then_exit ?_
      refine x_in_here ?_
      refine x_seq ?_
      refine wc_seq ?_
      refine wc_region ?_
      refine wl rfl rfl rfl (p_mv rfl) ?_
      refine wl rfl rfl rfl (p_mv rfl) ?_
      refine wl rfl rfl rfl (p_lenS Tryd.underlying22 rfl) ?_
      refine wl rfl rfl rfl (p_add rfl rfl (w64 (by omega))) ?_
      refine wl rfl rfl rfl (p_convU8 Tryd.underlying3 Tryd.underlying5 rfl (by omega)) ?_
      refine wle rfl (e_bslV (E := 5) rfl rfl (fun _ => by kernel_rfl) (fun w8 g33 hg33 hb33 hc hsz33 => ?_))
      have hzw8 := hc.size
      have HC := HC.tr hc
      have hW8 := hW8.after hc
      have hS6 := hS6.no hc
      have hge33 : w.heap.size ≤ g33 := by have := HC.size; omega
      have hS33 := Sl.lit1 (f := u8v) hb33
      refine wle rfl (e_appS rfl el22 one_u8 rfl rfl hW8 hS33 (by omega) (by intro k hk; first | omega | (dsimp only at *; omega)) (fun w9 A34 c34 hW8 hc => ?_))
      have hzw9 := hc.size
      have HC := HC.trans hc (fun _ _ h => h) (fun k hk ht => absurd ht (by first | omega | (dsimp only at *; omega)))
      first | have hS6 := hS6.ch hc (by intro k hk ht; first | omega | (dsimp only at *; omega)) | have hS6 := hS6.chT hc (by intro k hz hk ht; first | omega | (dsimp only at *; omega))
      first | have hS33 := hS33.ch hc (by intro k hk ht; first | omega | (dsimp only at *; omega)) | have hS33 := hS33.chT hc (by intro k hz hk ht; first | omega | (dsimp only at *; omega))
      refine wl rfl rfl rfl (p_mv rfl) ?_
      refine wle rfl (e_appS rfl el22 one_u8 rfl rfl hW8 hS6 (by omega) (by intro k hk; first | omega | (dsimp only at *; omega)) (fun w10 A36 c36 hW8 hc => ?_))
      have hzw10 := hc.size
      have HC := HC.trans hc (fun _ _ h => h) (fun k hk ht => absurd ht (by first | omega | (dsimp only at *; omega)))
      first | have hS6 := hS6.ch hc (by intro k hk ht; first | omega | (dsimp only at *; omega)) | have hS6 := hS6.chT hc (by intro k hz hk ht; first | omega | (dsimp only at *; omega))
      first | have hS33 := hS33.ch hc (by intro k hk ht; first | omega | (dsimp only at *; omega)) | have hS33 := hS33.chT hc (by intro k hz hk ht; first | omega | (dsimp only at *; omega))
      refine wl rfl rfl rfl (p_as rfl) ?_
      refine wl_nil ?_
      refine x_seq ?_
      refine wc_ret ?_
      refine fin_run (res1 rfl rfl) ?_
      rw [Nat.zero_add] at hW8
      rw [Nat.zero_add]
      rw [eN]
      first
        | exact ⟨_, _, rfl, hW8.mono (fun k _ hk => by first | omega | (dsimp only at *; omega)), HC⟩
        | (rw [hbe, show (247 + (r.length : Int)).toNat = 247 + r.length by omega, List.append_assoc, show lb + 1 + r.length = lb + (UInt8.ofNat (247 + r.length) :: r).length by simp only [List.length_cons]; omega] at *; exact ⟨_, _, rfl, hW8.mono (fun k _ hk => by first | omega | (dsimp only at *; omega)), HC⟩)
end Go.Proofs.YtdbdconmcgcooaaDoor
