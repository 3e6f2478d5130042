/-
  Own text, printed by a program of mine (wip/gx): what functions of the program do, walked operation by operation.
-/
import Derived.Test.YtdbdconmcgcooaaProg
import Derived.Test.YtdbdconmcgcooaaGxAux
import Derived.Test.YtdbdconmcgcooaaTab
import Derived.Test.YtdbdconmcgcooaaPlPack
import Derived.Test.YtdbdconmcgcooaaWp1
set_option linter.unusedVariables false
namespace Go.Proofs.Ytdbdconmcgcooaa
open Go.RowKit Go.Gx
open Go.Plain
set_option maxHeartbeats 1000000 in
set_option maxRecDepth 20000 in
theorem str_any {w : World} {Ab : Option Addr} {lb cb : Nat} {Fb : Nat → Prop} {b : List UInt8} {s : ByteArray} (hb : Sl w Fb u8v Ab lb cb b) (hl : lb + s.size ≤ 140737488355318) :
    Calls Try.prog 15 #[.slice Ab lb cb, .string s] w fun e w' => ∃ A c, e = .returned (.slice A (lb + (encS s).length) c) ∧ Row w' (fun k => w.heap.size ≤ k) 5 1 (.slice A (lb + (encS s).length) c) (lb + (encS s).length) ((b ++ encS s).map u8v) ∧ Ch No w w' := by
  have hb := hb.old
  have HC : Ch No w w := Ch.refl _ _
  refine enter' (args := [.slice Ab lb cb, .string s]) (n := 12) Try.func15 rfl rfl rfl ?_
  refine wc_seq ?_
  refine wc_region ?_
  refine wl rfl rfl rfl (p_as rfl) ?_
  refine wl_nil ?_
  refine x_seq ?_
  refine wc_seq ?_
  refine wc_region ?_
  refine wl rfl rfl rfl (p_mv rfl) ?_
  refine wl rfl rfl rfl (p_mv rfl) ?_
  refine wl rfl rfl rfl (p_lenT Try.underlying9 rfl) ?_
  refine wl rfl rfl rfl (p_conv Try.underlying3 Try.underlying22 rfl (wu64 (by omega))) ?_
  have hle := encN_len (x := s.size) (by omega)
  refine wle rfl (e_call ent12 rfl rfl (num_any (hb) (by omega) (by omega)) ?_)
  rintro _ w1 ⟨A9, c9, rfl, hW9, hc⟩
  refine ⟨_, rfl, ?_⟩
  have hzw1 := hc.size
  have HC := HC.tr hc
  have hb := hb.no hc
  refine wl rfl rfl rfl (p_mv rfl) ?_
  refine wle rfl (e_appB rfl el27 (by rfl) Try.underlying9 rfl rfl hW9 (by omega) (by intro k hk; first | omega | (dsimp only at *; omega)) (fun w2 A11 c11 hW9 hc => ?_))
  have hzw2 := hc.size
  have HC := HC.trans hc (fun _ _ h => h) (fun k hk ht => absurd ht (by first | omega | (dsimp only at *; omega)))
  first | have hb := hb.ch hc (by intro k hk ht; first | omega | (dsimp only at *; omega)) | have hb := hb.chT hc (by intro k hz hk ht; first | omega | (dsimp only at *; omega))
  refine wl rfl rfl rfl (p_as rfl) ?_
  refine wl_nil ?_
  refine x_seq ?_
  refine wc_ret ?_
  refine fin_run (res1 rfl rfl) ?_
  exact ⟨_, _, by rw [encS_length, ← Nat.add_assoc], by rw [encS_length, ← Nat.add_assoc, encS, ← List.append_assoc]; exact hW9.mono (fun k _ hk => by first | omega | (dsimp only at *; omega)), HC⟩

set_option maxHeartbeats 1000000 in
set_option maxRecDepth 20000 in
theorem flag_any {w : World} {Ab : Option Addr} {lb cb : Nat} {Fb : Nat → Prop} {b : List UInt8} {f : Bool} (hb : Sl w Fb u8v Ab lb cb b) (hl : lb ≤ 140737488355318) :
    Calls Try.prog 16 #[.slice Ab lb cb, .bool f] w fun e w' => ∃ A c, e = .returned (.slice A (lb + 1) c) ∧ Row w' (fun k => w.heap.size ≤ k) 5 1 (.slice A (lb + 1) c) (lb + 1) ((b ++ [if f then 1 else 0]).map u8v) ∧ Ch No w w' := by
  have hb := hb.old
  have HC : Ch No w w := Ch.refl _ _
  refine enter' (args := [.slice Ab lb cb, .bool f]) (n := 12) Try.func16 rfl rfl rfl ?_
  refine wc_seq ?_
  refine wc_region ?_
  refine wl rfl rfl rfl (p_as rfl) ?_
  refine wl_nil ?_
  refine x_seq ?_
  refine wc_seq ?_
  refine wc_region ?_
  refine wl rfl rfl rfl (p_as rfl) ?_
  refine wl_nil ?_
  refine x_seq ?_
  refine wc_seq ?_
  refine wc_seq ?_
  refine wc_region ?_
  refine wl rfl rfl rfl (p_mv rfl) ?_
  refine wl_nil ?_
  refine x_seq ?_
  refine wc_if rfl (fun c0 => ?_) (fun c0 => ?_)
  ·
    refine wc_region ?_
    refine wl rfl rfl rfl (p_as rfl) ?_
    refine wl_nil ?_
    refine x_seq ?_
    refine wc_seq ?_
    refine wc_region ?_
    refine wl rfl rfl rfl (p_mv rfl) ?_
    refine wle rfl (e_call ent29 rfl rfl (clone_any (hb) (by omega)) ?_)
    rintro _ w1 ⟨A8, c8, rfl, hW8, hc⟩
    refine ⟨_, rfl, ?_⟩
    have hzw1 := hc.size
    have HC := HC.tr hc
    have hb := hb.no hc
    refine wl rfl rfl rfl (p_mv rfl) ?_
    refine wle rfl (e_bslV (E := 5) rfl rfl (fun _ => by kernel_rfl) (fun w2 g10 hg10 hb10 hc hsz10 => ?_))
    have hzw2 := hc.size
    have HC := HC.tr hc
    have hb := hb.no hc
    have hW8 := hW8.after hc
    have hge10 : w.heap.size ≤ g10 := by have := HC.size; omega
    have hS10 := Sl.lit1 (f := u8v) (x := 1) hb10
    refine wle rfl (e_appS rfl el27 one_u8 rfl rfl hW8 hS10 (by omega) (by intro k hk; first | omega | (dsimp only at *; omega)) (fun w3 A11 c11 hW8 hc => ?_))
    have hzw3 := hc.size
    have HC := HC.trans hc (fun _ _ h => h) (fun k hk ht => absurd ht (by first | omega | (dsimp only at *; omega)))
    first | have hb := hb.ch hc (by intro k hk ht; first | omega | (dsimp only at *; omega)) | have hb := hb.chT hc (by intro k hz hk ht; first | omega | (dsimp only at *; omega))
    first | have hS10 := hS10.ch hc (by intro k hk ht; first | omega | (dsimp only at *; omega)) | have hS10 := hS10.chT hc (by intro k hz hk ht; first | omega | (dsimp only at *; omega))
    refine wl rfl rfl rfl (p_as rfl) ?_
    refine wl_nil ?_
    refine x_seq ?_
    refine wc_ret ?_
    refine fin_run (res1 rfl rfl) ?_
    first | (rw [c0]; exact ⟨_, _, rfl, hW8.mono (fun k _ hk => by first | omega | (dsimp only at *; omega)), HC⟩)
  ·
    refine wc_skip ?_
    refine x_seq ?_
    refine wc_seq ?_
    refine wc_region ?_
    refine wl rfl rfl rfl (p_mv rfl) ?_
    refine wle rfl (e_call ent29 rfl rfl (clone_any (hb) (by omega)) ?_)
    rintro _ w4 ⟨A8, c8, rfl, hW8, hc⟩
    refine ⟨_, rfl, ?_⟩
    have hzw4 := hc.size
    have HC := HC.tr hc
    have hb := hb.no hc
    refine wl rfl rfl rfl (p_mv rfl) ?_
    refine wle rfl (e_bslV (E := 5) rfl rfl (fun _ => by kernel_rfl) (fun w5 g10 hg10 hb10 hc hsz10 => ?_))
    have hzw5 := hc.size
    have HC := HC.tr hc
    have hb := hb.no hc
    have hW8 := hW8.after hc
    have hge10 : w.heap.size ≤ g10 := by have := HC.size; omega
    have hS10 := Sl.lit1 (f := u8v) (x := 0) hb10
    refine wle rfl (e_appS rfl el27 one_u8 rfl rfl hW8 hS10 (by omega) (by intro k hk; first | omega | (dsimp only at *; omega)) (fun w6 A11 c11 hW8 hc => ?_))
    have hzw6 := hc.size
    have HC := HC.trans hc (fun _ _ h => h) (fun k hk ht => absurd ht (by first | omega | (dsimp only at *; omega)))
    first | have hb := hb.ch hc (by intro k hk ht; first | omega | (dsimp only at *; omega)) | have hb := hb.chT hc (by intro k hz hk ht; first | omega | (dsimp only at *; omega))
    first | have hS10 := hS10.ch hc (by intro k hk ht; first | omega | (dsimp only at *; omega)) | have hS10 := hS10.chT hc (by intro k hz hk ht; first | omega | (dsimp only at *; omega))
    refine wl rfl rfl rfl (p_as rfl) ?_
    refine wl_nil ?_
    refine x_seq ?_
    refine wc_ret ?_
    refine fin_run (res1 rfl rfl) ?_
    first | (rw [c0]; exact ⟨_, _, rfl, hW8.mono (fun k _ hk => by first | omega | (dsimp only at *; omega)), HC⟩)

set_option maxHeartbeats 1000000 in
set_option maxRecDepth 20000 in
theorem list_any {w : World} {Ab : Option Addr} {lb cb : Nat} {Fb : Nat → Prop} {b : List UInt8} {Aq : Option Addr} {lq cq : Nat} {Fq : Nat → Prop} {q : List ByteArray} (hb : Sl w Fb u8v Ab lb cb b) (hq : Sl w Fq Value.string Aq lq cq q) (hl : lb + lstSz q ≤ 140737488355300) :
    Calls Try.prog 13 #[.slice Ab lb cb, .slice Aq lq cq] w fun e w' => ∃ A c, e = .returned (.slice A (lb + (encL q).length) c) ∧ Row w' (fun k => w.heap.size ≤ k) 5 1 (.slice A (lb + (encL q).length) c) (lb + (encL q).length) ((b ++ encL q).map u8v) ∧ Ch No w w' := by
  have hql := hq.len
  have hlq := len_lstSz q
  have hlq2 : lq + 9 ≤ lstSz q := by omega
  have hle := encN_len (x := q.length) (by omega)
  rw [hql] at hle
  have hb := hb.old
  have hq := hq.old
  have HC : Ch No w w := Ch.refl _ _
  refine enter' (args := [.slice Ab lb cb, .slice Aq lq cq]) (n := 23) Try.func13 rfl rfl rfl ?_
  refine wc_seq ?_
  refine wc_region ?_
  refine wl rfl rfl rfl (p_as rfl) ?_
  refine wl_nil ?_
  refine x_seq ?_
  refine wc_seq ?_
  refine wc_region ?_
  refine wl rfl rfl rfl (p_mv rfl) ?_
  refine wl rfl rfl rfl (p_mv rfl) ?_
  refine wl rfl rfl rfl (p_lenS Try.underlying23 rfl) ?_
  refine wl rfl rfl rfl (p_conv Try.underlying3 Try.underlying22 rfl (wu64 (by omega))) ?_
  refine wle rfl (e_call ent12 rfl rfl (num_any (hb) (by omega) (by omega)) ?_)
  rintro _ w1 ⟨A11, c11, rfl, hW11, hc⟩
  refine ⟨_, rfl, ?_⟩
  have hzw1 := hc.size
  have HC := HC.tr hc
  have hb := hb.no hc
  have hq := hq.no hc
  refine wl rfl rfl rfl (p_as rfl) ?_
  refine wl_nil ?_
  refine x_seq ?_
  refine wc_seq ?_
  refine wc_seq ?_
  refine wc_region ?_
  refine wl rfl rfl rfl (p_mv rfl) ?_
  refine wl rfl rfl rfl (p_lenS Try.underlying23 rfl) ?_
  refine wl rfl rfl rfl (p_mv rfl) ?_
  refine wl_nil ?_
  refine x_seq ?_
  refine wc_block ?_
  rw [← hql] at hW11
  refine wc_loop (e' := [(0, .slice (A11) (lb + (encP q (0)).length) (c11)), (12, .slice Aq lq cq), (13, i64 (lq : Int)), (14, i64 ((0) : Int))]) (fun m e u => ∃ k : Nat, ∃ A : Option Addr, ∃ c : Nat, m = lq - k ∧ e = [(0, .slice A (lb + (encP q k).length) c), (12, .slice Aq lq cq), (13, i64 (lq : Int)), (14, i64 (k : Int))] ∧ Row u (fun k => w.heap.size ≤ k) 5 1 (.slice A (lb + (encP q k).length) c) (lb + (encP q k).length) ((b ++ encP q k).map u8v) ∧ Sl u (fun k => k < w.heap.size) Value.string Aq lq cq q ∧ k ≤ lq ∧ Ch No w u)
    ⟨(by rw [encP_zero, hql]; rfl), rfl, rfl, rfl, trivial⟩ ⟨0, A11, c11, rfl, rfl, by rw [encP_zero]; exact hW11.mono (fun k _ hk => by first | omega | (dsimp only at *; omega)), hq, by omega, HC⟩ ?_
  rintro m e w2 ⟨k, A, c, hm, rfl, hW11, hq, hkl, HC⟩
  have hzw2 := HC.size
  refine wc_seq ?_
  refine wc_region ?_
  refine wl rfl rfl rfl (p_lt rfl rfl) ?_
  refine wl_nil ?_
  refine x_seq ?_
  refine wc_seq ?_
  refine wc_if rfl (fun c0 => ?_) (fun c0 => ?_)
  ·
    have c0 := of_decide_eq_true c0
    have hkq : k < q.length := by have := hq.len; omega
    have hlk := lstSz_take hkq (by rw [hql]; exact hle) (fun s hs => by have := size_lstSz hs; omega)
    refine wc_skip ?_
    refine x_seq ?_
    refine wc_seq ?_
    refine wc_block ?_
    refine wc_seq ?_
    refine wc_region ?_
    obtain ⟨b3, o3, hA3, hF3, hc3⟩ := (hq).opn (d := ByteArray.empty) (by omega)
    refine wl rfl rfl rfl (p_ixS1 Try.underlying23 sz9 rfl hA3 rfl (by omega) (by omega) (Int.toNat_natCast _)) ?_
    refine wl rfl rfl rfl (p_ld Try.underlying9 rfl rfl (ld (hc3 _ (by omega)))) ?_
    refine wl rfl rfl rfl (p_as rfl) ?_
    refine wl_nil ?_
    refine x_seq ?_
    refine wc_region ?_
    refine wl rfl rfl rfl (p_mv rfl) ?_
    refine wl rfl rfl rfl (p_mv rfl) ?_
    refine wle rfl (e_call ent15 rfl rfl (str_any (hW11.sl) (by first | omega | decide)) ?_)
    rintro _ w4 ⟨A20, c20, rfl, hW20, hc⟩
    refine ⟨_, rfl, ?_⟩
    have hzw4 := hc.size
    have HC := HC.tr hc
    have hW11 := hW11.after hc
    have hq := hq.no hc
    refine wl rfl rfl rfl (p_as rfl) ?_
    refine wl_nil ?_
    refine x_in_normal ?_
    refine x_seq ?_
    refine wc_region ?_
    refine wl rfl rfl rfl (p_add rfl rfl (w64 (by omega))) ?_
    refine wl rfl rfl rfl (p_mv rfl) ?_
    refine wl_nil ?_
    have eP := encP_succ hkq
    rw [show k + 1 = k + 1 from rfl] at *
    refine x_round (e' := [(0, .slice (A20) (lb + (encP q (k + 1)).length) (c20)), (12, .slice Aq lq cq), (13, i64 (lq : Int)), (14, i64 ((k + 1) : Int))]) ⟨(by rw [eP, List.length_append, ← Nat.add_assoc]; rfl), rfl, rfl, rfl, trivial⟩ (by rw [hm]; omega) ⟨k + 1, A20, c20, rfl, rfl, by rw [eP, List.length_append, ← List.append_assoc, ← Nat.add_assoc]; exact hW20.mono (fun k _ hk => by first | omega | (dsimp only at *; omega)), hq, by omega, HC⟩
  ·
    have c0 := of_decide_eq_false c0
    refine wc_exit ?_
    refine x_then_exit ?_
    refine x_then_exit ?_
    refine x_in_here ?_
    refine x_seq ?_
    refine wc_seq ?_
    refine wc_region ?_
    refine wl rfl rfl rfl (p_mv rfl) ?_
    refine wl rfl rfl rfl (p_as rfl) ?_
    refine wl_nil ?_
    refine x_seq ?_
    refine wc_ret ?_
    have hkq : k = q.length := by have := hq.len; omega
    subst hkq
    have eE := encP_all q
    refine fin_run (res1 rfl rfl) ?_
    rw [eE] at hW11; rw [eE]; exact ⟨_, _, rfl, hW11, HC⟩
end Go.Proofs.Ytdbdconmcgcooaa
