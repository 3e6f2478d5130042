/-
  Own text, printed by a program of mine (wip/gx): what functions of the program do, walked operation by operation.
-/
import Derived.Test.YtdbdconmcgcooaaProg
import Derived.Test.YtdbdconmcgcooaaGxAux
import Derived.Test.YtdbdconmcgcooaaTab
import Derived.Test.YtdbdconmcgcooaaPlPack
import Derived.Test.YtdbdconmcgcooaaWp7
set_option linter.unusedVariables false
namespace Go.Proofs.Ytdbdconmcgcooaa
open Go.RowKit Go.Gx
open Go.Plain
set_option maxHeartbeats 1000000 in
set_option maxRecDepth 20000 in
theorem getlist_any {w : World} {Ab : Option Addr} {lb cb : Nat} {Fb : Nat → Prop} {b : List UInt8} {count most : Int} (hb : Sl w Fb u8v Ab lb cb b) (hl : lb ≤ 8796093022000) (hc1 : -9223372036854775808 ≤ count) (hc2 : count ≤ 9223372036854775807) (hm1 : -9223372036854775808 ≤ most) (hm2 : most ≤ 9223372036854775807) :
    Calls Try.prog 26 #[.slice Ab lb cb, i64 count, i64 most] w fun e w' => ∃ A c, e = .returned (.tuple #[.slice A (glL b count most).length c, i64 (glK b count most : Int), .bool (glO b count most)]) ∧ Sl w' (fun k => w.heap.size ≤ k) Value.string A (glL b count most).length c (glL b count most) ∧ Ch No w w' := by
  have hbl := hb.len
  have hgk := gnk_le b
  have hgv := gnv_lt b
  obtain ⟨M, hM, hM2⟩ : ∃ M : Nat, (if (0 : Int) > count then 0 else count) = (M : Int) ∧ count.toNat = M := ⟨count.toNat, by split <;> omega, rfl⟩
  have hb := hb.old
  have HC : Ch No w w := Ch.refl _ _
  refine enter' (args := [.slice Ab lb cb, i64 count, i64 most]) (n := 49) Try.func26 rfl rfl rfl ?_
  refine wc_seq ?_
  refine wc_region ?_
  refine wle rfl (e_box (cs := #[_]) rfl rfl rfl (fun w1 g3 hg3 hb3 hc hsz3 => ?_))
  have hzw1 := hc.size
  have HC := HC.tr hc
  have hb := hb.no hc
  have hge3 : w.heap.size ≤ g3 := by have := HC.size; omega
  have hltg3 := hb3.lt
  refine wle rfl (e_box (cs := #[_]) rfl rfl rfl (fun w2 g5 hg5 hb5 hc hsz5 => ?_))
  have hzw2 := hc.size
  have HC := HC.tr hc
  have hb := hb.no hc
  have hb3 := hb3.ch hc (fun h => h)
  have hge5 : w.heap.size ≤ g5 := by have := HC.size; omega
  have neg3_5 : g3 < g5 := by omega
  refine wl rfl rfl rfl (p_as rfl) ?_
  refine wl rfl rfl rfl (p_as rfl) ?_
  refine wl rfl rfl rfl (p_as rfl) ?_
  refine wl_nil ?_
  refine x_seq ?_
  refine wc_seq ?_
  refine wc_region ?_
  refine wl rfl rfl rfl (p_ld Try.underlying27 rfl rfl (ld (hb3.cell rfl))) ?_
  refine wle rfl (e_call ent17 rfl rfl (getnum_any (hb) (by omega)) ?_)
  rintro _ w3 ⟨rfl, hc⟩
  refine ⟨_, rfl, ?_⟩
  have hzw3 := hc.size
  have HC := HC.tr hc
  have hb := hb.no hc
  have hb3 := hb3.ch hc (fun h => h)
  have hb5 := hb5.ch hc (fun h => h)
  refine wl rfl rfl rfl (p_mv rfl) ?_
  refine wl rfl rfl rfl (p_ext rfl rfl) ?_
  refine wl rfl rfl rfl (p_ext rfl rfl) ?_
  refine wl rfl rfl rfl (p_ext rfl rfl) ?_
  have hltg3 := hb3.lt
  have hltg5 := hb5.lt
  refine wle rfl (e_alloc (cs := #[.int .i64 0]) rfl (by rfl) rfl (fun w4 g10 hg10 hb10 hc hsz10 => ?_))
  have hzw4 := hc.size
  have HC := HC.tr hc
  have hb := hb.no hc
  have hb3 := hb3.ch hc (fun h => h)
  have hb5 := hb5.ch hc (fun h => h)
  have hge10 : w.heap.size ≤ g10 := by have := HC.size; omega
  have neg3_10 : g3 < g10 := by omega
  have neg5_10 : g5 < g10 := by omega
  refine wl rfl rfl rfl (p_as rfl) ?_
  refine wle rfl (e_st1 (by rfl) rfl rfl rfl hb10 (fun w5 hb10 hc hsz => ?_))
  have hzw5 := hc.size
  have HC := HC.trans hc (fun _ _ h => h) (fun k hk ht => absurd ht (by omega))
  first | have hb := hb.ch hc (by intro k hk ht; first | omega | (dsimp only at *; omega)) | have hb := hb.chT hc (by intro k hz hk ht; first | omega | (dsimp only at *; omega))
  have hb3 := hb3.ch hc (by omega)
  have hb5 := hb5.ch hc (by omega)
  refine wl rfl rfl rfl (p_as rfl) ?_
  refine wl_nil ?_
  refine x_seq ?_
  refine wc_seq ?_
  refine wc_seq ?_
  refine wc_region ?_
  refine wl rfl rfl rfl (p_mv rfl) ?_
  refine wl rfl rfl rfl (p_not rfl) ?_
  refine wl rfl rfl rfl (p_mv rfl) ?_
  refine wl_split (d := 24) rfl (fun q24 => ?_) (fun q24 => ?_)
  ·
    have hg : gn b = none := gn_not q24
    have eg : gl b count most = none := by unfold gl; rw [hg]
    refine wl_s (gd_ rfl rfl rfl rfl rfl rfl) rfl rfl ?_
    refine wl_s (gd_ rfl rfl rfl rfl rfl rfl) rfl rfl ?_
    refine wl_s (gd_ rfl rfl rfl rfl rfl rfl) rfl rfl ?_
    refine wl_s (gd_ rfl rfl rfl rfl rfl rfl) rfl rfl ?_
    refine wl_s (gd_ rfl rfl rfl rfl rfl rfl) rfl rfl ?_
    refine wl rfl rfl rfl (p_pickT rfl rfl) ?_
    refine wl_nil ?_
    refine x_seq ?_
    refine wc_yes rfl (rfl) ?_
    refine wc_seq ?_
    refine wc_region ?_
    refine wl rfl rfl rfl (p_as rfl) ?_
    refine wl rfl rfl rfl (p_as rfl) ?_
    refine wl rfl rfl rfl (p_as rfl) ?_
    refine wl_nil ?_
    refine x_seq ?_
    refine wc_ret ?_
    refine x_then_ret ?_
    refine fin_run (res3 rfl rfl rfl rfl) ?_
    first
      | (obtain ⟨e1, e2, e3⟩ := gl_none eg; rw [e1, e2, e3]; exact ⟨_, _, rfl, Sl.nil, HC⟩)
      | (obtain ⟨e1, e2, e3⟩ := gl_some eg; rw [e1, e2, e3, hll]; exact ⟨_, _, rfl, hW.sl.mono (fun k _ hk => by first | omega | (dsimp only at *; omega)), HC⟩)
  ·
    have hgn := gn_of (b := b) (by simpa using q24)
    refine wl_g (gd_ rfl rfl rfl rfl rfl rfl) rfl rfl (p_mv rfl) ?_
    refine wl_g (gd_ rfl rfl rfl rfl rfl rfl) rfl rfl (p_mv rfl) ?_
    refine wl_g (gd_ rfl rfl rfl rfl rfl rfl) rfl rfl (p_maxE rfl rfl hM) ?_
    refine wl_g (gd_ rfl rfl rfl rfl rfl rfl) rfl rfl (p_conv Try.underlying3 Try.underlying22 rfl (wu64 (by omega))) ?_
    refine wl_g (gd_ rfl rfl rfl rfl rfl rfl) rfl rfl (p_gt rfl rfl) ?_
    refine wl rfl rfl rfl (p_pickF rfl rfl) ?_
    refine wl_nil ?_
    refine x_seq ?_
    refine wc_if rfl (fun c0 => ?_) (fun c0 => ?_)
    ·
      have c0 := of_decide_eq_true c0
      have eg : gl b count most = none := by unfold gl; rw [hgn]; simp only []; rw [if_pos (by omega)]
      refine wc_seq ?_
      refine wc_region ?_
      refine wl rfl rfl rfl (p_as rfl) ?_
      refine wl rfl rfl rfl (p_as rfl) ?_
      refine wl rfl rfl rfl (p_as rfl) ?_
      refine wl_nil ?_
      refine x_seq ?_
      refine wc_ret ?_
      refine x_then_ret ?_
      refine fin_run (res3 rfl rfl rfl rfl) ?_
      first
        | (obtain ⟨e1, e2, e3⟩ := gl_none eg; rw [e1, e2, e3]; exact ⟨_, _, rfl, Sl.nil, HC⟩)
        | (obtain ⟨e1, e2, e3⟩ := gl_some eg; rw [e1, e2, e3, hll]; exact ⟨_, _, rfl, hW.sl.mono (fun k _ hk => by first | omega | (dsimp only at *; omega)), HC⟩)
    ·
      have c0 := of_decide_eq_false c0
      refine wc_skip ?_
      refine x_seq ?_
      refine wc_seq ?_
      refine wc_region ?_
      refine wl rfl rfl rfl (p_mkf rfl) ?_
      refine wl rfl rfl rfl (p_as rfl) ?_
      refine wl_nil ?_
      refine x_seq ?_
      refine wc_seq ?_
      refine wc_region ?_
      refine wl rfl rfl rfl (p_as rfl) ?_
      refine wl_nil ?_
      refine x_seq ?_
      refine wc_seq ?_
      refine wc_seq ?_
      refine wc_region ?_
      refine wl rfl rfl rfl (p_mv rfl) ?_
      refine wl rfl rfl rfl (p_mv rfl) ?_
      refine wl_nil ?_
      refine x_seq ?_
      refine wc_block ?_
      refine wc_loop (e' := [(10, .pointer (some ⟨g10, 0, none⟩)), (12, .func (.func 30) #[] #[.pointer (some ⟨g3, 0, none⟩), .pointer (some ⟨g10, 0, none⟩), .pointer (some ⟨g5, 0, none⟩)]), (13, .slice (none) (0) (0)), (32, u64v (gnv b)), (33, u64v (0))]) (fun m e u => ∃ k : Nat, ∃ A : Option Addr, ∃ c : Nat, ∃ l : List ByteArray, ∃ i : Nat, m = gnv b - k ∧ e = [(10, .pointer (some ⟨g10, 0, none⟩)), (12, .func (.func 30) #[] #[.pointer (some ⟨g3, 0, none⟩), .pointer (some ⟨g10, 0, none⟩), .pointer (some ⟨g5, 0, none⟩)]), (13, .slice A k c), (32, u64v (gnv b)), (33, u64v k)] ∧ Row u (fun k => g10 < k) 9 1 (.slice A k c) k (l.map Value.string) ∧ glk b most (gnk b) k = some (l, i) ∧ k ≤ gnv b ∧ Sl u (fun k => k < w.heap.size) u8v Ab lb cb b ∧ Blk u g3 27 #[.slice Ab lb cb] ∧ Blk u g10 3 #[i64 (i : Int)] ∧ Blk u g5 3 #[i64 most] ∧ Ch No w u)
        ⟨rfl, rfl, rfl, rfl, rfl, trivial⟩ ⟨0, none, 0, [], gnk b, rfl, rfl, Row.nil _ _ _ _, rfl, by omega, hb, hb3, hb10, hb5, HC⟩ ?_
      rintro m e w6 ⟨k, A, c, l, i, hm, rfl, hW, hg, hkn, hb, hb3, hb10, hb5, HC⟩
      have hzw6 := HC.size
      have hgi3 := glk_len hg
      have hgi := glk_at (a := gnk b) (by omega) hg
      have hgi2 := hgi.2.2
      have hgi1 := hgi.1
      have hglk := hgi.2.1
      refine wc_seq ?_
      refine wc_region ?_
      refine wl rfl rfl rfl (p_lt rfl rfl) ?_
      refine wl_nil ?_
      refine x_seq ?_
      refine wc_seq ?_
      refine wc_if rfl (fun c1 => ?_) (fun c1 => ?_)
      ·
        have c1 := of_decide_eq_true c1
        refine wc_skip ?_
        refine x_seq ?_
        refine wc_seq ?_
        refine wc_block ?_
        refine wc_seq ?_
        refine wc_region ?_
        refine wl rfl rfl rfl (p_mv rfl) ?_
        refine wle rfl (e_callV ent30 rfl rfl rfl (getlist1_any (most := most) hb3 hb10 hb5 (hb) (by omega) (by omega) (by omega) (by omega) (by omega) (by omega) (by intro k hk; omega) (by omega)) ?_)
        rintro _ w7 ⟨rfl, hc, hb10⟩
        refine ⟨_, rfl, ?_⟩
        have hzw7 := hc.size
        have HC := HC.trans hc (fun _ _ h => h) (fun k hk ht => absurd ht (by omega))
        have hW := hW.ch hc (by intro k hz hk ht; first | omega | (dsimp only at *; omega))
        first | have hb := hb.ch hc (by intro k hk ht; first | omega | (dsimp only at *; omega)) | have hb := hb.chT hc (by intro k hz hk ht; first | omega | (dsimp only at *; omega))
        have hb3 := hb3.ch hc (by omega)
        have hb5 := hb5.ch hc (by omega)
        refine wl rfl rfl rfl (p_mv rfl) ?_
        refine wl rfl rfl rfl (p_ext rfl rfl) ?_
        refine wl rfl rfl rfl (p_ext rfl rfl) ?_
        refine wl rfl rfl rfl (p_as rfl) ?_
        refine wl rfl rfl rfl (p_as rfl) ?_
        refine wl_nil ?_
        refine x_seq ?_
        refine wc_seq ?_
        refine wc_seq ?_
        refine wc_region ?_
        refine wl rfl rfl rfl (p_mv rfl) ?_
        refine wl rfl rfl rfl (p_not rfl) ?_
        refine wl_nil ?_
        refine x_seq ?_
        refine wc_if rfl (fun c2 => ?_) (fun c2 => ?_)
        ·
          have eg : gl b count most = none := by unfold gl; rw [hgn]; simp only []; rw [if_neg (by omega)]; exact glk_fail hg (by omega) (gs_not c2)
          refine wc_seq ?_
          refine wc_region ?_
          refine wl rfl rfl rfl (p_as rfl) ?_
          refine wl rfl rfl rfl (p_as rfl) ?_
          refine wl rfl rfl rfl (p_as rfl) ?_
          refine wl_nil ?_
          refine x_seq ?_
          refine wc_ret ?_
          refine x_then_ret ?_
          refine x_in_ret ?_
          refine x_then_ret ?_
          refine x_then_ret ?_
          refine x_in_ret ?_
          refine x_then_ret ?_
          refine fin_run (res3 rfl rfl rfl rfl) ?_
          first
            | (obtain ⟨e1, e2, e3⟩ := gl_none eg; rw [e1, e2, e3]; exact ⟨_, _, rfl, Sl.nil, HC⟩)
            | (obtain ⟨e1, e2, e3⟩ := gl_some eg; rw [e1, e2, e3, hll]; exact ⟨_, _, rfl, hW.sl.mono (fun k _ hk => by first | omega | (dsimp only at *; omega)), HC⟩)
        ·
          have hso : gso (b.drop i) most = true := by simpa using c2
          have hsk := gsk_le (b.drop i) most
          rw [List.length_drop] at hsk
          refine wc_skip ?_
          refine x_seq ?_
          refine wc_region ?_
          refine wl rfl rfl rfl (p_mv rfl) ?_
          refine wl rfl rfl rfl (p_mv rfl) ?_
          have hltg3 := hb3.lt
          have hltg10 := hb10.lt
          have hltg5 := hb5.lt
          refine wle rfl (e_bslV (E := 9) rfl rfl (fun _ => by kernel_rfl) (fun w8 g44 hg44 hb44 hc hsz44 => ?_))
          have hzw8 := hc.size
          have HC := HC.tr hc
          have hW := hW.after hc
          have hb := hb.no hc
          have hb3 := hb3.ch hc (fun h => h)
          have hb10 := hb10.ch hc (fun h => h)
          have hb5 := hb5.ch hc (fun h => h)
          have hge44 : w.heap.size ≤ g44 := by have := HC.size; omega
          have hS44 := Sl.lit1 (f := Value.string) hb44
          have hltg3 := hb3.lt
          have hltg10 := hb10.lt
          have hltg5 := hb5.lt
          refine wle rfl (e_appS rfl el23 one_str rfl rfl hW hS44 (by omega) (by intro k hk; first | omega | (dsimp only at *; omega)) (fun w9 A45 c45 hW hc => ?_))
          have hzw9 := hc.size
          have HC := HC.trans hc (fun _ _ h => h) (fun k hk ht => absurd ht (by first | omega | (dsimp only at *; omega)))
          first | have hb := hb.ch hc (by intro k hk ht; first | omega | (dsimp only at *; omega)) | have hb := hb.chT hc (by intro k hz hk ht; first | omega | (dsimp only at *; omega))
          have hb3 := hb3.ch hc (by first | omega | (dsimp only; omega))
          have hb10 := hb10.ch hc (by first | omega | (dsimp only; omega))
          have hb5 := hb5.ch hc (by first | omega | (dsimp only; omega))
          first | have hS44 := hS44.ch hc (by intro k hk ht; first | omega | (dsimp only at *; omega)) | have hS44 := hS44.chT hc (by intro k hz hk ht; first | omega | (dsimp only at *; omega))
          refine wl rfl rfl rfl (p_as rfl) ?_
          refine wl_nil ?_
          refine x_in_normal ?_
          refine x_seq ?_
          refine wc_region ?_
          refine wl rfl rfl rfl (p_add rfl rfl (wu64 (by omega))) ?_
          refine wl rfl rfl rfl (p_mv rfl) ?_
          refine wl_nil ?_
          refine x_round (e' := [(10, .pointer (some ⟨g10, 0, none⟩)), (12, .func (.func 30) #[] #[.pointer (some ⟨g3, 0, none⟩), .pointer (some ⟨g10, 0, none⟩), .pointer (some ⟨g5, 0, none⟩)]), (13, .slice (A45) (k + 1) (c45)), (32, u64v (gnv b)), (33, u64v (k + 1))]) ⟨rfl, rfl, rfl, rfl, rfl, trivial⟩ (by rw [hm]; omega) ⟨k + 1, A45, c45, l ++ [gss (b.drop i) most], i + gsk (b.drop i) most, rfl, rfl, hW.mono (fun k _ hk => by first | omega | (dsimp only at *; omega)), glk_succ hg hso, by omega, hb, hb3, hb10, hb5, HC⟩
      ·
        have c1 := of_decide_eq_false c1
        have eg : gl b count most = some (l, i) := by unfold gl; rw [hgn]; simp only []; rw [if_neg (by omega), ← show k = gnv b by omega]; exact hg
        have hll := (glk_at (a := gnk b) (by omega) hg).2.1
        refine wc_exit ?_
        refine x_then_exit ?_
        refine x_then_exit ?_
        refine x_in_here ?_
        refine x_seq ?_
        refine wc_seq ?_
        refine wc_draw [(0, 0), (1, 1), (2, 0), (3, 0), (4, 0)] 5 (by kernel_rfl) (by kernel_rfl) (by kernel_rfl) (by repeat (first | with_reducible exact pan_body | with_reducible apply pan_then | with_reducible apply pan_in)) (fun x => Ch No w6.drew x) (Ch.refl _ _) ?_
        obtain ⟨w10, ew10⟩ : ∃ x, x = w6.drew := ⟨_, rfl⟩
        rw [← ew10]
        have hc : Ch No w6 w10 := by rw [ew10]; exact Ch.drew _
        have hszw10 : w10.heap.size = w6.heap.size := by rw [ew10]; rfl
        clear ew10
        have hzw10 := hc.size
        have HC := HC.tr hc
        have hW := hW.no hc
        have hb := hb.no hc
        have hb3 := hb3.ch hc (fun h => h)
        have hb10 := hb10.ch hc (fun h => h)
        have hb5 := hb5.ch hc (fun h => h)
        have hS : Ch No w10 w10 := Ch.refl _ _
        refine ws_p rfl rfl rfl rfl (p_mv rfl) ?_
        refine ws_h rfl rfl rfl rfl (p_ld Try.underlying3 rfl rfl (fun _ h => h.cell (fun h => h) (hb10.cell rfl))) ?_
        refine ws_p rfl rfl rfl rfl (p_as rfl) ?_
        refine ws_p rfl rfl rfl rfl (p_as rfl) ?_
        refine ws_p rfl rfl rfl rfl (p_as rfl) ?_
        refine ws_n ?_
        refine x_seq ?_
        refine wc_ret ?_
        refine fin_run (res3 rfl rfl rfl rfl) ?_
        first
          | (obtain ⟨e1, e2, e3⟩ := gl_none eg; rw [e1, e2, e3]; exact ⟨_, _, rfl, Sl.nil, HC⟩)
          | (obtain ⟨e1, e2, e3⟩ := gl_some eg; rw [e1, e2, e3, hll]; exact ⟨_, _, rfl, hW.sl.mono (fun k _ hk => by first | omega | (dsimp only at *; omega)), HC⟩)

set_option maxHeartbeats 1000000 in
set_option maxRecDepth 20000 in
theorem rgetlist_any {w : World} {Ab : Option Addr} {lb cb : Nat} {Fb : Nat → Prop} {b : List UInt8} {count most : Int} (hb : Sl w Fb u8v Ab lb cb b) (hl : lb ≤ 8796093022000) (hc1 : -9223372036854775808 ≤ count) (hc2 : count ≤ 9223372036854775807) (hm1 : -9223372036854775808 ≤ most) (hm2 : most ≤ 9223372036854775807) :
    Calls Try.prog 27 #[.slice Ab lb cb, i64 count, i64 most] w fun e w' => ∃ A c, e = .returned (.tuple #[.slice A (glL b count most).length c, i64 (glK b count most : Int), .bool (glO b count most)]) ∧ Sl w' (fun k => w.heap.size ≤ k) Value.string A (glL b count most).length c (glL b count most) ∧ Ch No w w' := by
  have hbl := hb.len
  have hgk := gnk_le b
  have hgv := gnv_lt b
  have hb := hb.old
  have HC : Ch No w w := Ch.refl _ _
  refine enter' (args := [.slice Ab lb cb, i64 count, i64 most]) (n := 58) Try.func27 rfl rfl rfl ?_
  refine wc_seq ?_
  refine wc_region ?_
  refine wl rfl rfl rfl (p_as rfl) ?_
  refine wl rfl rfl rfl (p_as rfl) ?_
  refine wl rfl rfl rfl (p_as rfl) ?_
  refine wl_nil ?_
  refine x_seq ?_
  refine wc_seq ?_
  refine wc_seq ?_
  refine wc_region ?_
  refine wl rfl rfl rfl (p_mv rfl) ?_
  refine wl rfl rfl rfl (p_lt rfl rfl) ?_
  refine wl_nil ?_
  refine x_seq ?_
  refine wc_if rfl (fun c0 => ?_) (fun c0 => ?_)
  ·
    have c0 := of_decide_eq_true c0
    refine wc_region ?_
    refine wl rfl rfl rfl (p_as rfl) ?_
    refine wl_nil ?_
    refine x_seq ?_
    refine wc_seq ?_
    refine wc_region ?_
    refine wl rfl rfl rfl (p_mv rfl) ?_
    refine wle rfl (e_call ent18 rfl rfl (rgetnum_any (hb) (by omega)) ?_)
    rintro _ w1 ⟨rfl, hc⟩
    refine ⟨_, rfl, ?_⟩
    have hzw1 := hc.size
    have HC := HC.tr hc
    have hb := hb.no hc
    refine wl rfl rfl rfl (p_mv rfl) ?_
    refine wl rfl rfl rfl (p_ext rfl rfl) ?_
    refine wl rfl rfl rfl (p_ext rfl rfl) ?_
    refine wl rfl rfl rfl (p_ext rfl rfl) ?_
    refine wl rfl rfl rfl (p_as rfl) ?_
    refine wl rfl rfl rfl (p_as rfl) ?_
    refine wl rfl rfl rfl (p_as rfl) ?_
    refine wl_nil ?_
    refine x_seq ?_
    refine wc_seq ?_
    refine wc_seq ?_
    refine wc_region ?_
    refine wl rfl rfl rfl (p_mv rfl) ?_
    refine wl rfl rfl rfl (p_not rfl) ?_
    refine wl rfl rfl rfl (p_mv rfl) ?_
    refine wl_split (d := 27) rfl (fun q27 => ?_) (fun q27 => ?_)
    ·
      have hg : gn b = none := gn_not q27
      have eg : gl b count most = none := by unfold gl; rw [hg]
      refine wl_s (gd_ rfl rfl rfl rfl rfl rfl) rfl rfl ?_
      refine wl_s (gd_ rfl rfl rfl rfl rfl rfl) rfl rfl ?_
      refine wl_s (gd_ rfl rfl rfl rfl rfl rfl) rfl rfl ?_
      refine wl_s (gd_ rfl rfl rfl rfl rfl rfl) rfl rfl ?_
      refine wl rfl rfl rfl (p_pickT rfl rfl) ?_
      refine wl_nil ?_
      refine x_seq ?_
      refine wc_yes rfl (rfl) ?_
      refine wc_seq ?_
      refine wc_region ?_
      refine wl rfl rfl rfl (p_as rfl) ?_
      refine wl rfl rfl rfl (p_as rfl) ?_
      refine wl rfl rfl rfl (p_as rfl) ?_
      refine wl_nil ?_
      refine x_seq ?_
      refine wc_ret ?_
      refine x_then_ret ?_
      refine fin_run (res3 rfl rfl rfl rfl) ?_
      first
        | (obtain ⟨e1, e2, e3⟩ := gl_none eg; rw [e1, e2, e3]; exact ⟨_, _, rfl, Sl.nil, HC⟩)
        | (obtain ⟨e1, e2, e3⟩ := gl_some eg; rw [e1, e2, e3, hll]; exact ⟨_, _, rfl, hW.sl.mono (fun k _ hk => by first | omega | (dsimp only at *; omega)), HC⟩)
    ·
      have hgn := gn_of (b := b) (by simpa using q27)
      refine wl_g (gd_ rfl rfl rfl rfl rfl rfl) rfl rfl (p_mv rfl) ?_
      refine wl_g (gd_ rfl rfl rfl rfl rfl rfl) rfl rfl (p_mv rfl) ?_
      refine wl_g (gd_ rfl rfl rfl rfl rfl rfl) rfl rfl (p_conv Try.underlying3 Try.underlying22 rfl (wu64 (by omega))) ?_
      refine wl_g (gd_ rfl rfl rfl rfl rfl rfl) rfl rfl (p_gt rfl rfl) ?_
      refine wl rfl rfl rfl (p_pickF rfl rfl) ?_
      refine wl_nil ?_
      refine x_seq ?_
      refine wc_if rfl (fun c1 => ?_) (fun c1 => ?_)
      ·
        have c1 := of_decide_eq_true c1
        have eg : gl b count most = none := by unfold gl; rw [hgn]; simp only []; rw [if_pos (by omega)]
        refine wc_seq ?_
        refine wc_region ?_
        refine wl rfl rfl rfl (p_as rfl) ?_
        refine wl rfl rfl rfl (p_as rfl) ?_
        refine wl rfl rfl rfl (p_as rfl) ?_
        refine wl_nil ?_
        refine x_seq ?_
        refine wc_ret ?_
        refine x_then_ret ?_
        refine fin_run (res3 rfl rfl rfl rfl) ?_
        first
          | (obtain ⟨e1, e2, e3⟩ := gl_none eg; rw [e1, e2, e3]; exact ⟨_, _, rfl, Sl.nil, HC⟩)
          | (obtain ⟨e1, e2, e3⟩ := gl_some eg; rw [e1, e2, e3, hll]; exact ⟨_, _, rfl, hW.sl.mono (fun k _ hk => by first | omega | (dsimp only at *; omega)), HC⟩)
      ·
        have c1 := of_decide_eq_false c1
        refine wc_skip ?_
        refine x_seq ?_
        refine wc_seq ?_
        refine wc_region ?_
        refine wl rfl rfl rfl (p_as rfl) ?_
        refine wl_nil ?_
        refine x_seq ?_
        refine wc_seq ?_
        refine wc_seq ?_
        refine wc_region ?_
        refine wl rfl rfl rfl (p_as rfl) ?_
        refine wl_nil ?_
        refine x_seq ?_
        refine wc_block ?_
        refine wc_loop (e' := [(0, .slice Ab lb cb), (2, i64 most), (9, u64v (gnv b)), (10, i64 ((gnk b) : Int)), (12, .slice (none) (0) (0)), (13, u64v (0))]) (fun m e u => ∃ k : Nat, ∃ A : Option Addr, ∃ c : Nat, ∃ l : List ByteArray, ∃ i : Nat, m = gnv b - k ∧ e = [(0, .slice Ab lb cb), (2, i64 most), (9, u64v (gnv b)), (10, i64 (i : Int)), (12, .slice A k c), (13, u64v k)] ∧ Row u (fun k => w.heap.size ≤ k) 9 1 (.slice A k c) k (l.map Value.string) ∧ glk b most (gnk b) k = some (l, i) ∧ k ≤ gnv b ∧ Sl u (fun k => k < w.heap.size) u8v Ab lb cb b ∧ Ch No w u)
          ⟨rfl, rfl, rfl, rfl, rfl, rfl, trivial⟩ ⟨0, none, 0, [], gnk b, rfl, rfl, Row.nil _ _ _ _, rfl, by omega, hb, HC⟩ ?_
        rintro m e w2 ⟨k, A, c, l, i, hm, rfl, hW, hg, hkn, hb, HC⟩
        have hzw2 := HC.size
        have hgi3 := glk_len hg
        have hgi := glk_at (a := gnk b) (by omega) hg
        have hgi2 := hgi.2.2
        have hgi1 := hgi.1
        have hglk := hgi.2.1
        refine wc_seq ?_
        refine wc_seq ?_
        refine wc_region ?_
        refine wl rfl rfl rfl (p_mv rfl) ?_
        refine wl rfl rfl rfl (p_mv rfl) ?_
        refine wl rfl rfl rfl (p_lt rfl rfl) ?_
        refine wl_nil ?_
        refine x_seq ?_
        refine wc_if rfl (fun c2 => ?_) (fun c2 => ?_)
        ·
          have c2 := of_decide_eq_true c2
          refine wc_skip ?_
          refine x_seq ?_
          refine wc_seq ?_
          refine wc_block ?_
          refine wc_seq ?_
          refine wc_region ?_
          refine wl rfl rfl rfl (p_mv rfl) ?_
          refine wl rfl rfl rfl (p_mv rfl) ?_
          have hS41 := hb.cutTo (lo := i) (by omega)
          refine wl rfl rfl rfl (p_slS (l := i) (h := lb) Try.underlying27 sz5 rfl ⟨_, rfl⟩ rfl (by omega) (by have := hb.cap; omega) hb.cap (q := lb - i) rfl) ?_
          refine wl rfl rfl rfl (p_mv rfl) ?_
          refine wle rfl (e_call ent21 rfl rfl (rgetstr_any (hS41) (by omega) (by omega) (by omega)) ?_)
          rintro _ w3 ⟨rfl, hc⟩
          refine ⟨_, rfl, ?_⟩
          have hzw3 := hc.size
          have HC := HC.tr hc
          have hW := hW.after hc
          have hb := hb.no hc
          have hS41 := hS41.no hc
          refine wl rfl rfl rfl (p_mv rfl) ?_
          refine wl rfl rfl rfl (p_ext rfl rfl) ?_
          refine wl rfl rfl rfl (p_ext rfl rfl) ?_
          refine wl rfl rfl rfl (p_ext rfl rfl) ?_
          refine wl rfl rfl rfl (p_as rfl) ?_
          refine wl rfl rfl rfl (p_as rfl) ?_
          refine wl rfl rfl rfl (p_as rfl) ?_
          refine wl_nil ?_
          refine x_seq ?_
          refine wc_seq ?_
          refine wc_seq ?_
          refine wc_region ?_
          refine wl rfl rfl rfl (p_mv rfl) ?_
          refine wl rfl rfl rfl (p_not rfl) ?_
          refine wl_nil ?_
          refine x_seq ?_
          refine wc_if rfl (fun c3 => ?_) (fun c3 => ?_)
          ·
            have eg : gl b count most = none := by unfold gl; rw [hgn]; simp only []; rw [if_neg (by omega)]; exact glk_fail hg (by omega) (gs_not c3)
            refine wc_seq ?_
            refine wc_region ?_
            refine wl rfl rfl rfl (p_as rfl) ?_
            refine wl rfl rfl rfl (p_as rfl) ?_
            refine wl rfl rfl rfl (p_as rfl) ?_
            refine wl_nil ?_
            refine x_seq ?_
            refine wc_ret ?_
            refine x_then_ret ?_
            refine x_in_ret ?_
            refine x_then_ret ?_
            refine x_then_ret ?_
            refine x_in_ret ?_
            refine x_then_ret ?_
            refine fin_run (res3 rfl rfl rfl rfl) ?_
            first
              | (obtain ⟨e1, e2, e3⟩ := gl_none eg; rw [e1, e2, e3]; exact ⟨_, _, rfl, Sl.nil, HC⟩)
              | (obtain ⟨e1, e2, e3⟩ := gl_some eg; rw [e1, e2, e3, hll]; exact ⟨_, _, rfl, hW.sl.mono (fun k _ hk => by first | omega | (dsimp only at *; omega)), HC⟩)
          ·
            have hso : gso (b.drop i) most = true := by simpa using c3
            have hsk := gsk_le (b.drop i) most
            rw [List.length_drop] at hsk
            refine wc_skip ?_
            refine x_seq ?_
            refine wc_seq ?_
            refine wc_region ?_
            refine wl rfl rfl rfl (p_mv rfl) ?_
            refine wl rfl rfl rfl (p_mv rfl) ?_
            refine wle rfl (e_bslV (E := 9) rfl rfl (fun _ => by kernel_rfl) (fun w4 g51 hg51 hb51 hc hsz51 => ?_))
            have hzw4 := hc.size
            have HC := HC.tr hc
            have hW := hW.after hc
            have hb := hb.no hc
            have hS41 := hS41.no hc
            have hge51 : w.heap.size ≤ g51 := by have := HC.size; omega
            have hS51 := Sl.lit1 (f := Value.string) hb51
            refine wle rfl (e_appS rfl el23 one_str rfl rfl hW hS51 (by omega) (by intro k hk; first | omega | (dsimp only at *; omega)) (fun w5 A52 c52 hW hc => ?_))
            have hzw5 := hc.size
            have HC := HC.trans hc (fun _ _ h => h) (fun k hk ht => absurd ht (by first | omega | (dsimp only at *; omega)))
            first | have hb := hb.ch hc (by intro k hk ht; first | omega | (dsimp only at *; omega)) | have hb := hb.chT hc (by intro k hz hk ht; first | omega | (dsimp only at *; omega))
            first | have hS41 := hS41.ch hc (by intro k hk ht; first | omega | (dsimp only at *; omega)) | have hS41 := hS41.chT hc (by intro k hz hk ht; first | omega | (dsimp only at *; omega))
            first | have hS51 := hS51.ch hc (by intro k hk ht; first | omega | (dsimp only at *; omega)) | have hS51 := hS51.chT hc (by intro k hz hk ht; first | omega | (dsimp only at *; omega))
            refine wl rfl rfl rfl (p_as rfl) ?_
            refine wl_nil ?_
            refine x_seq ?_
            refine wc_region ?_
            refine wl rfl rfl rfl (p_mv rfl) ?_
            refine wl rfl rfl rfl (p_mv rfl) ?_
            refine wl rfl rfl rfl (p_add (Z := ((i + gsk (b.drop i) most : Nat) : Int)) rfl rfl (by rw [w64 (by omega)]; omega)) ?_
            refine wl rfl rfl rfl (p_as rfl) ?_
            refine wl_nil ?_
            refine x_in_normal ?_
            refine x_seq ?_
            refine wc_region ?_
            refine wl rfl rfl rfl (p_mv rfl) ?_
            refine wl rfl rfl rfl (p_add rfl rfl (wu64 (by omega))) ?_
            refine wl rfl rfl rfl (p_as rfl) ?_
            refine wl_nil ?_
            refine x_round (e' := [(0, .slice Ab lb cb), (2, i64 most), (9, u64v (gnv b)), (10, i64 ((i + gsk (b.drop i) most) : Int)), (12, .slice (A52) (k + 1) (c52)), (13, u64v (k + 1))]) ⟨rfl, rfl, rfl, rfl, rfl, rfl, trivial⟩ (by rw [hm]; omega) ⟨k + 1, A52, c52, l ++ [gss (b.drop i) most], i + gsk (b.drop i) most, rfl, rfl, hW.mono (fun k _ hk => by first | omega | (dsimp only at *; omega)), glk_succ hg hso, by omega, hb, HC⟩
        ·
          have c2 := of_decide_eq_false c2
          have eg : gl b count most = some (l, i) := by unfold gl; rw [hgn]; simp only []; rw [if_neg (by omega), ← show k = gnv b by omega]; exact hg
          have hll := (glk_at (a := gnk b) (by omega) hg).2.1
          refine wc_exit ?_
          refine x_then_exit ?_
          refine x_then_exit ?_
          refine x_in_here ?_
          refine x_seq ?_
          refine wc_seq ?_
          refine wc_region ?_
          refine wl rfl rfl rfl (p_mv rfl) ?_
          refine wl rfl rfl rfl (p_mv rfl) ?_
          refine wl rfl rfl rfl (p_as rfl) ?_
          refine wl rfl rfl rfl (p_as rfl) ?_
          refine wl rfl rfl rfl (p_as rfl) ?_
          refine wl_nil ?_
          refine x_seq ?_
          refine wc_ret ?_
          refine fin_run (res3 rfl rfl rfl rfl) ?_
          first
            | (obtain ⟨e1, e2, e3⟩ := gl_none eg; rw [e1, e2, e3]; exact ⟨_, _, rfl, Sl.nil, HC⟩)
            | (obtain ⟨e1, e2, e3⟩ := gl_some eg; rw [e1, e2, e3, hll]; exact ⟨_, _, rfl, hW.sl.mono (fun k _ hk => by first | omega | (dsimp only at *; omega)), HC⟩)
  ·
    have c0 := of_decide_eq_false c0
    refine wc_skip ?_
    refine x_seq ?_
    refine wc_seq ?_
    refine wc_region ?_
    refine wl rfl rfl rfl (p_mv rfl) ?_
    refine wle rfl (e_call ent18 rfl rfl (rgetnum_any (hb) (by omega)) ?_)
    rintro _ w6 ⟨rfl, hc⟩
    refine ⟨_, rfl, ?_⟩
    have hzw6 := hc.size
    have HC := HC.tr hc
    have hb := hb.no hc
    refine wl rfl rfl rfl (p_mv rfl) ?_
    refine wl rfl rfl rfl (p_ext rfl rfl) ?_
    refine wl rfl rfl rfl (p_ext rfl rfl) ?_
    refine wl rfl rfl rfl (p_ext rfl rfl) ?_
    refine wl rfl rfl rfl (p_as rfl) ?_
    refine wl rfl rfl rfl (p_as rfl) ?_
    refine wl rfl rfl rfl (p_as rfl) ?_
    refine wl_nil ?_
    refine x_seq ?_
    refine wc_seq ?_
    refine wc_seq ?_
    refine wc_region ?_
    refine wl rfl rfl rfl (p_mv rfl) ?_
    refine wl rfl rfl rfl (p_not rfl) ?_
    refine wl rfl rfl rfl (p_mv rfl) ?_
    refine wl_split (d := 27) rfl (fun q27 => ?_) (fun q27 => ?_)
    ·
      have hg : gn b = none := gn_not q27
      have eg : gl b count most = none := by unfold gl; rw [hg]
      refine wl_s (gd_ rfl rfl rfl rfl rfl rfl) rfl rfl ?_
      refine wl_s (gd_ rfl rfl rfl rfl rfl rfl) rfl rfl ?_
      refine wl_s (gd_ rfl rfl rfl rfl rfl rfl) rfl rfl ?_
      refine wl_s (gd_ rfl rfl rfl rfl rfl rfl) rfl rfl ?_
      refine wl rfl rfl rfl (p_pickT rfl rfl) ?_
      refine wl_nil ?_
      refine x_seq ?_
      refine wc_yes rfl (rfl) ?_
      refine wc_seq ?_
      refine wc_region ?_
      refine wl rfl rfl rfl (p_as rfl) ?_
      refine wl rfl rfl rfl (p_as rfl) ?_
      refine wl rfl rfl rfl (p_as rfl) ?_
      refine wl_nil ?_
      refine x_seq ?_
      refine wc_ret ?_
      refine x_then_ret ?_
      refine fin_run (res3 rfl rfl rfl rfl) ?_
      first
        | (obtain ⟨e1, e2, e3⟩ := gl_none eg; rw [e1, e2, e3]; exact ⟨_, _, rfl, Sl.nil, HC⟩)
        | (obtain ⟨e1, e2, e3⟩ := gl_some eg; rw [e1, e2, e3, hll]; exact ⟨_, _, rfl, hW.sl.mono (fun k _ hk => by first | omega | (dsimp only at *; omega)), HC⟩)
    ·
      have hgn := gn_of (b := b) (by simpa using q27)
      refine wl_g (gd_ rfl rfl rfl rfl rfl rfl) rfl rfl (p_mv rfl) ?_
      refine wl_g (gd_ rfl rfl rfl rfl rfl rfl) rfl rfl (p_mv rfl) ?_
      refine wl_g (gd_ rfl rfl rfl rfl rfl rfl) rfl rfl (p_conv Try.underlying3 Try.underlying22 rfl (wu64 (by omega))) ?_
      refine wl_g (gd_ rfl rfl rfl rfl rfl rfl) rfl rfl (p_gt rfl rfl) ?_
      refine wl rfl rfl rfl (p_pickF rfl rfl) ?_
      refine wl_nil ?_
      refine x_seq ?_
      refine wc_if rfl (fun c1 => ?_) (fun c1 => ?_)
      ·
        have c1 := of_decide_eq_true c1
        have eg : gl b count most = none := by unfold gl; rw [hgn]; simp only []; rw [if_pos (by omega)]
        refine wc_seq ?_
        refine wc_region ?_
        refine wl rfl rfl rfl (p_as rfl) ?_
        refine wl rfl rfl rfl (p_as rfl) ?_
        refine wl rfl rfl rfl (p_as rfl) ?_
        refine wl_nil ?_
        refine x_seq ?_
        refine wc_ret ?_
        refine x_then_ret ?_
        refine fin_run (res3 rfl rfl rfl rfl) ?_
        first
          | (obtain ⟨e1, e2, e3⟩ := gl_none eg; rw [e1, e2, e3]; exact ⟨_, _, rfl, Sl.nil, HC⟩)
          | (obtain ⟨e1, e2, e3⟩ := gl_some eg; rw [e1, e2, e3, hll]; exact ⟨_, _, rfl, hW.sl.mono (fun k _ hk => by first | omega | (dsimp only at *; omega)), HC⟩)
      ·
        have c1 := of_decide_eq_false c1
        refine wc_skip ?_
        refine x_seq ?_
        refine wc_seq ?_
        refine wc_region ?_
        refine wl rfl rfl rfl (p_as rfl) ?_
        refine wl_nil ?_
        refine x_seq ?_
        refine wc_seq ?_
        refine wc_seq ?_
        refine wc_region ?_
        refine wl rfl rfl rfl (p_as rfl) ?_
        refine wl_nil ?_
        refine x_seq ?_
        refine wc_block ?_
        refine wc_loop (e' := [(0, .slice Ab lb cb), (2, i64 most), (9, u64v (gnv b)), (10, i64 ((gnk b) : Int)), (12, .slice (none) (0) (0)), (13, u64v (0))]) (fun m e u => ∃ k : Nat, ∃ A : Option Addr, ∃ c : Nat, ∃ l : List ByteArray, ∃ i : Nat, m = gnv b - k ∧ e = [(0, .slice Ab lb cb), (2, i64 most), (9, u64v (gnv b)), (10, i64 (i : Int)), (12, .slice A k c), (13, u64v k)] ∧ Row u (fun k => w.heap.size ≤ k) 9 1 (.slice A k c) k (l.map Value.string) ∧ glk b most (gnk b) k = some (l, i) ∧ k ≤ gnv b ∧ Sl u (fun k => k < w.heap.size) u8v Ab lb cb b ∧ Ch No w u)
          ⟨rfl, rfl, rfl, rfl, rfl, rfl, trivial⟩ ⟨0, none, 0, [], gnk b, rfl, rfl, Row.nil _ _ _ _, rfl, by omega, hb, HC⟩ ?_
        rintro m e w7 ⟨k, A, c, l, i, hm, rfl, hW, hg, hkn, hb, HC⟩
        have hzw7 := HC.size
        have hgi3 := glk_len hg
        have hgi := glk_at (a := gnk b) (by omega) hg
        have hgi2 := hgi.2.2
        have hgi1 := hgi.1
        have hglk := hgi.2.1
        refine wc_seq ?_
        refine wc_seq ?_
        refine wc_region ?_
        refine wl rfl rfl rfl (p_mv rfl) ?_
        refine wl rfl rfl rfl (p_mv rfl) ?_
        refine wl rfl rfl rfl (p_lt rfl rfl) ?_
        refine wl_nil ?_
        refine x_seq ?_
        refine wc_if rfl (fun c2 => ?_) (fun c2 => ?_)
        ·
          have c2 := of_decide_eq_true c2
          refine wc_skip ?_
          refine x_seq ?_
          refine wc_seq ?_
          refine wc_block ?_
          refine wc_seq ?_
          refine wc_region ?_
          refine wl rfl rfl rfl (p_mv rfl) ?_
          refine wl rfl rfl rfl (p_mv rfl) ?_
          have hS41 := hb.cutTo (lo := i) (by omega)
          refine wl rfl rfl rfl (p_slS (l := i) (h := lb) Try.underlying27 sz5 rfl ⟨_, rfl⟩ rfl (by omega) (by have := hb.cap; omega) hb.cap (q := lb - i) rfl) ?_
          refine wl rfl rfl rfl (p_mv rfl) ?_
          refine wle rfl (e_call ent21 rfl rfl (rgetstr_any (hS41) (by omega) (by omega) (by omega)) ?_)
          rintro _ w8 ⟨rfl, hc⟩
          refine ⟨_, rfl, ?_⟩
          have hzw8 := hc.size
          have HC := HC.tr hc
          have hW := hW.after hc
          have hb := hb.no hc
          have hS41 := hS41.no hc
          refine wl rfl rfl rfl (p_mv rfl) ?_
          refine wl rfl rfl rfl (p_ext rfl rfl) ?_
          refine wl rfl rfl rfl (p_ext rfl rfl) ?_
          refine wl rfl rfl rfl (p_ext rfl rfl) ?_
          refine wl rfl rfl rfl (p_as rfl) ?_
          refine wl rfl rfl rfl (p_as rfl) ?_
          refine wl rfl rfl rfl (p_as rfl) ?_
          refine wl_nil ?_
          refine x_seq ?_
          refine wc_seq ?_
          refine wc_seq ?_
          refine wc_region ?_
          refine wl rfl rfl rfl (p_mv rfl) ?_
          refine wl rfl rfl rfl (p_not rfl) ?_
          refine wl_nil ?_
          refine x_seq ?_
          refine wc_if rfl (fun c3 => ?_) (fun c3 => ?_)
          ·
            have eg : gl b count most = none := by unfold gl; rw [hgn]; simp only []; rw [if_neg (by omega)]; exact glk_fail hg (by omega) (gs_not c3)
            refine wc_seq ?_
            refine wc_region ?_
            refine wl rfl rfl rfl (p_as rfl) ?_
            refine wl rfl rfl rfl (p_as rfl) ?_
            refine wl rfl rfl rfl (p_as rfl) ?_
            refine wl_nil ?_
            refine x_seq ?_
            refine wc_ret ?_
            refine x_then_ret ?_
            refine x_in_ret ?_
            refine x_then_ret ?_
            refine x_then_ret ?_
            refine x_in_ret ?_
            refine x_then_ret ?_
            refine fin_run (res3 rfl rfl rfl rfl) ?_
            first
              | (obtain ⟨e1, e2, e3⟩ := gl_none eg; rw [e1, e2, e3]; exact ⟨_, _, rfl, Sl.nil, HC⟩)
              | (obtain ⟨e1, e2, e3⟩ := gl_some eg; rw [e1, e2, e3, hll]; exact ⟨_, _, rfl, hW.sl.mono (fun k _ hk => by first | omega | (dsimp only at *; omega)), HC⟩)
          ·
            have hso : gso (b.drop i) most = true := by simpa using c3
            have hsk := gsk_le (b.drop i) most
            rw [List.length_drop] at hsk
            refine wc_skip ?_
            refine x_seq ?_
            refine wc_seq ?_
            refine wc_region ?_
            refine wl rfl rfl rfl (p_mv rfl) ?_
            refine wl rfl rfl rfl (p_mv rfl) ?_
            refine wle rfl (e_bslV (E := 9) rfl rfl (fun _ => by kernel_rfl) (fun w9 g51 hg51 hb51 hc hsz51 => ?_))
            have hzw9 := hc.size
            have HC := HC.tr hc
            have hW := hW.after hc
            have hb := hb.no hc
            have hS41 := hS41.no hc
            have hge51 : w.heap.size ≤ g51 := by have := HC.size; omega
            have hS51 := Sl.lit1 (f := Value.string) hb51
            refine wle rfl (e_appS rfl el23 one_str rfl rfl hW hS51 (by omega) (by intro k hk; first | omega | (dsimp only at *; omega)) (fun w10 A52 c52 hW hc => ?_))
            have hzw10 := hc.size
            have HC := HC.trans hc (fun _ _ h => h) (fun k hk ht => absurd ht (by first | omega | (dsimp only at *; omega)))
            first | have hb := hb.ch hc (by intro k hk ht; first | omega | (dsimp only at *; omega)) | have hb := hb.chT hc (by intro k hz hk ht; first | omega | (dsimp only at *; omega))
            first | have hS41 := hS41.ch hc (by intro k hk ht; first | omega | (dsimp only at *; omega)) | have hS41 := hS41.chT hc (by intro k hz hk ht; first | omega | (dsimp only at *; omega))
            first | have hS51 := hS51.ch hc (by intro k hk ht; first | omega | (dsimp only at *; omega)) | have hS51 := hS51.chT hc (by intro k hz hk ht; first | omega | (dsimp only at *; omega))
            refine wl rfl rfl rfl (p_as rfl) ?_
            refine wl_nil ?_
            refine x_seq ?_
            refine wc_region ?_
            refine wl rfl rfl rfl (p_mv rfl) ?_
            refine wl rfl rfl rfl (p_mv rfl) ?_
            refine wl rfl rfl rfl (p_add (Z := ((i + gsk (b.drop i) most : Nat) : Int)) rfl rfl (by rw [w64 (by omega)]; omega)) ?_
            refine wl rfl rfl rfl (p_as rfl) ?_
            refine wl_nil ?_
            refine x_in_normal ?_
            refine x_seq ?_
            refine wc_region ?_
            refine wl rfl rfl rfl (p_mv rfl) ?_
            refine wl rfl rfl rfl (p_add rfl rfl (wu64 (by omega))) ?_
            refine wl rfl rfl rfl (p_as rfl) ?_
            refine wl_nil ?_
            refine x_round (e' := [(0, .slice Ab lb cb), (2, i64 most), (9, u64v (gnv b)), (10, i64 ((i + gsk (b.drop i) most) : Int)), (12, .slice (A52) (k + 1) (c52)), (13, u64v (k + 1))]) ⟨rfl, rfl, rfl, rfl, rfl, rfl, trivial⟩ (by rw [hm]; omega) ⟨k + 1, A52, c52, l ++ [gss (b.drop i) most], i + gsk (b.drop i) most, rfl, rfl, hW.mono (fun k _ hk => by first | omega | (dsimp only at *; omega)), glk_succ hg hso, by omega, hb, HC⟩
        ·
          have c2 := of_decide_eq_false c2
          have eg : gl b count most = some (l, i) := by unfold gl; rw [hgn]; simp only []; rw [if_neg (by omega), ← show k = gnv b by omega]; exact hg
          have hll := (glk_at (a := gnk b) (by omega) hg).2.1
          refine wc_exit ?_
          refine x_then_exit ?_
          refine x_then_exit ?_
          refine x_in_here ?_
          refine x_seq ?_
          refine wc_seq ?_
          refine wc_region ?_
          refine wl rfl rfl rfl (p_mv rfl) ?_
          refine wl rfl rfl rfl (p_mv rfl) ?_
          refine wl rfl rfl rfl (p_as rfl) ?_
          refine wl rfl rfl rfl (p_as rfl) ?_
          refine wl rfl rfl rfl (p_as rfl) ?_
          refine wl_nil ?_
          refine x_seq ?_
          refine wc_ret ?_
          refine fin_run (res3 rfl rfl rfl rfl) ?_
          first
            | (obtain ⟨e1, e2, e3⟩ := gl_none eg; rw [e1, e2, e3]; exact ⟨_, _, rfl, Sl.nil, HC⟩)
            | (obtain ⟨e1, e2, e3⟩ := gl_some eg; rw [e1, e2, e3, hll]; exact ⟨_, _, rfl, hW.sl.mono (fun k _ hk => by first | omega | (dsimp only at *; omega)), HC⟩)
end Go.Proofs.Ytdbdconmcgcooaa
