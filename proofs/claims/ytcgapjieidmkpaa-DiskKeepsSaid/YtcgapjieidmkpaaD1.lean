/-
  Own text, printed by a program of mine (wip/gx): what functions of the program do, walked operation by operation.
-/
import Derived.Test.YtcgapjieidmkpaaProg
import Derived.Test.YtcgapjieidmkpaaGxAgg
import Derived.Test.YtcgapjieidmkpaaTab
import Derived.Test.YtcgapjieidmkpaaPlDisk
import Derived.Test.YtcgapjieidmkpaaPlDiskSt
import Derived.Test.YtcgapjieidmkpaaDTb
set_option linter.unusedVariables false
namespace Go.Proofs.Ytcgapjieidmkpaa
open Go.RowKit Go.Gx
open Go.Plain
set_option maxHeartbeats 1000000 in
set_option maxRecDepth 20000 in
theorem index_any {w : World} {Ax : Option Addr} {lx cx : Nat} {Fx : Nat → Prop} {x : List Int} {v : Int} (hx : Sl w Fx i64 Ax lx cx x) (hl : lx ≤ 9223372036854775807) :
    Calls Try.prog 33 #[.slice Ax lx cx, i64 v] w fun e w' => ∃ z : Int, e = .returned (i64 z) ∧ (0 ≤ z ↔ v ∈ x) ∧ Ch No w w' := by
  have hxl := hx.len
  have hx := hx.old
  have HC : Ch No w w := Ch.refl _ _
  refine enter' (args := [.slice Ax lx cx, i64 v]) (n := 19) Try.func33 rfl rfl rfl ?_
  refine wc_seq ?_
  refine wc_region ?_
  refine wl rfl rfl rfl (p_as rfl) ?_
  refine wl_nil ?_
  refine x_seq ?_
  refine wc_seq ?_
  refine wc_seq ?_
  refine wc_region ?_
  refine wl rfl rfl rfl (p_mv rfl) ?_
  refine wl rfl rfl rfl (p_lenS Try.underlying26 rfl) ?_
  refine wl rfl rfl rfl (p_mv rfl) ?_
  refine wl_nil ?_
  refine x_seq ?_
  refine wc_block ?_
  refine wc_loop (e' := [(0, .slice Ax lx cx), (1, i64 v), (7, i64 (lx : Int)), (8, i64 ((0) : Int))]) (fun mz ez uz => ∃ k : Nat, mz = lx - k ∧ ez = [(0, .slice Ax lx cx), (1, i64 v), (7, i64 (lx : Int)), (8, i64 (k : Int))] ∧ (k ≤ lx) ∧ (∀ j, j < k → x.getD j 0 ≠ v) ∧ (Sl uz (fun k => k < w.heap.size) i64 Ax lx cx x) ∧ (Ch No w uz))
    ⟨rfl, rfl, rfl, rfl, trivial⟩ ⟨0, rfl, rfl, by omega, (fun j hj => by omega), hx, HC⟩ ?_
  rintro m0 e w1 ⟨k, hm0, rfl, hk, hno, hx, HC⟩
  have hzw1 := HC.size
  refine wc_seq ?_
  refine wc_region ?_
  refine wl rfl rfl rfl (p_lt rfl rfl) ?_
  refine wl_nil ?_
  refine x_seq ?_
  refine wc_seq ?_
  refine wc_if rfl (fun c0 => ?_) (fun c0 => ?_)
  ·
    have c0 := of_decide_eq_true c0
    refine wc_skip ?_
    refine x_seq ?_
    refine wc_seq ?_
    refine wc_block ?_
    refine wc_seq ?_
    refine wc_region ?_
    refine wl rfl rfl rfl (p_mv rfl) ?_
    refine wl rfl rfl rfl (p_as rfl) ?_
    refine wl_nil ?_
    refine x_seq ?_
    refine wc_seq ?_
    refine wc_region ?_
    refine wl rfl rfl rfl (p_mv rfl) ?_
    refine wl rfl rfl rfl (p_mv rfl) ?_
    refine wl rfl rfl rfl (p_mv rfl) ?_
    obtain ⟨b2, o2, hA2, hF2, hc2⟩ := (hx).opn (d := 0) (by omega)
    refine wl rfl rfl rfl (p_ixS1 Try.underlying26 sz3 rfl hA2 rfl (by omega) (by omega) (Int.toNat_natCast _)) ?_
    refine wl rfl rfl rfl (p_ld Try.underlying3 rfl rfl (ld (hc2 _ (by omega)))) ?_
    refine wl rfl rfl rfl (p_eq rfl rfl) ?_
    refine wl_nil ?_
    refine x_seq ?_
    refine wc_if rfl (fun c1 => ?_) (fun c1 => ?_)
    ·
      have c1 := of_decide_eq_true c1
      have hv : v ∈ x := by rw [c1]; exact getD_memI (by omega)
      refine wc_seq ?_
      refine wc_region ?_
      refine wl rfl rfl rfl (p_mv rfl) ?_
      refine wl rfl rfl rfl (p_as rfl) ?_
      refine wl_nil ?_
      refine x_seq ?_
      refine wc_ret ?_
      refine x_in_ret ?_
      refine x_then_ret ?_
      refine x_then_ret ?_
      refine x_in_ret ?_
      refine x_then_ret ?_
      refine fin_run (res1 rfl rfl) ?_
      first
        | exact ⟨_, rfl, ⟨fun _ => hv, fun _ => by omega⟩, HC⟩
        | exact ⟨_, rfl, ⟨fun h => absurd h (by omega), fun h => absurd h hv⟩, HC⟩
    ·
      have c1 := of_decide_eq_false c1
      have hno : ∀ j, j < k + 1 → x.getD j 0 ≠ v := fun j hj => by
        rcases Nat.lt_or_ge j k with h | h
        · exact hno j h
        · have : j = k := by omega
          rw [this]; exact fun e => c1 e.symm
      refine wc_skip ?_
      refine x_in_normal ?_
      refine x_seq ?_
      refine wc_region ?_
      refine wl rfl rfl rfl (p_add rfl rfl (w64 (by omega))) ?_
      refine wl rfl rfl rfl (p_mv rfl) ?_
      refine wl_nil ?_
      refine x_round (e' := [(0, .slice Ax lx cx), (1, i64 v), (7, i64 (lx : Int)), (8, i64 ((k + 1) : Int))]) ⟨rfl, rfl, rfl, rfl, trivial⟩ (by rw [hm0]; omega) ⟨k + 1, rfl, rfl, by omega, hno, hx, HC⟩
  ·
    have c0 := of_decide_eq_false c0
    have hv : v ∉ x := not_memI (fun j hj => hno j (by omega))
    refine wc_exit ?_
    refine x_then_exit ?_
    refine x_then_exit ?_
    refine x_in_here ?_
    refine x_seq ?_
    refine wc_seq ?_
    refine wc_region ?_
    refine wl rfl rfl rfl (p_as rfl) ?_
    refine wl_nil ?_
    refine x_seq ?_
    refine wc_ret ?_
    refine fin_run (res1 rfl rfl) ?_
    first
      | exact ⟨_, rfl, ⟨fun _ => hv, fun _ => by omega⟩, HC⟩
      | exact ⟨_, rfl, ⟨fun h => absurd h (by omega), fun h => absurd h hv⟩, HC⟩

set_option maxHeartbeats 1000000 in
set_option maxRecDepth 20000 in
theorem contains_any {w : World} {Ax : Option Addr} {lx cx : Nat} {Fx : Nat → Prop} {x : List Int} {v : Int} (hx : Sl w Fx i64 Ax lx cx x) (hl : lx ≤ 9223372036854775807) :
    Calls Try.prog 31 #[.slice Ax lx cx, i64 v] w fun e w' => e = .returned (.bool (decide (v ∈ x))) ∧ Ch No w w' := by
  have hx := hx.old
  have HC : Ch No w w := Ch.refl _ _
  refine enter' (args := [.slice Ax lx cx, i64 v]) (n := 9) Try.func31 rfl rfl rfl ?_
  refine wc_seq ?_
  refine wc_region ?_
  refine wl rfl rfl rfl (p_as rfl) ?_
  refine wl_nil ?_
  refine x_seq ?_
  refine wc_seq ?_
  refine wc_region ?_
  refine wl rfl rfl rfl (p_mv rfl) ?_
  refine wl rfl rfl rfl (p_mv rfl) ?_
  refine wle rfl (e_call ent33 rfl rfl (index_any (hx) (by omega)) ?_)
  rintro _ w1 ⟨z7, rfl, hz7, hc⟩
  refine ⟨_, rfl, ?_⟩
  have hzw1 := hc.size
  have HC := HC.tr hc
  have hx := hx.no hc
  refine wl rfl rfl rfl (p_ge rfl rfl) ?_
  refine wl rfl rfl rfl (p_as rfl) ?_
  refine wl_nil ?_
  refine x_seq ?_
  refine wc_ret ?_
  refine fin_run (res1 rfl rfl) ?_
  rw [show decide (0 ≤ z7) = decide (v ∈ x) from decide_eq_decide.2 hz7]; exact ⟨rfl, HC⟩

set_option maxHeartbeats 1000000 in
set_option maxRecDepth 20000 in
theorem clonei_any {w : World} {Ax : Option Addr} {lx cx : Nat} {Fx : Nat → Prop} {x : List Int} (hx : Sl w Fx i64 Ax lx cx x) (hl : lx ≤ 17592186044416) :
    Calls Try.prog 26 #[.slice Ax lx cx] w fun e w' => ∃ A c, e = .returned (.slice A lx c) ∧ Row w' (fun k => w.heap.size ≤ k) 3 1 (.slice A lx c) lx (x.map i64) ∧ Ch No w w' := by
  have hx := hx.old
  have HC : Ch No w w := Ch.refl _ _
  refine enter' (args := [.slice Ax lx cx]) (n := 8) Try.func26 rfl rfl rfl ?_
  refine wc_seq ?_
  refine wc_region ?_
  refine wl rfl rfl rfl (p_as rfl) ?_
  refine wl_nil ?_
  refine x_seq ?_
  refine wc_seq ?_
  refine wc_seq ?_
  refine wc_region ?_
  refine wl rfl rfl rfl (p_mv rfl) ?_
  refine wl rfl rfl rfl (p_eqnil rfl rfl Try.underlying26) ?_
  refine wl_nil ?_
  refine x_seq ?_
  refine wc_if rfl (fun c0 => ?_) (fun c0 => ?_)
  ·
    obtain rfl : Ax = none := by cases Ax <;> simp_all
    obtain ⟨rfl, rfl⟩ := hx.none_len
    refine wc_seq ?_
    refine wc_region ?_
    refine wl rfl rfl rfl (p_as rfl) ?_
    refine wl_nil ?_
    refine x_seq ?_
    refine wc_ret ?_
    refine x_then_ret ?_
    refine fin_run (res1 rfl rfl) ?_
    first | exact ⟨_, _, rfl, Row.nil _ _ _ _, HC⟩ | (rw [Nat.zero_add] at hW5; rw [Nat.zero_add]; exact ⟨_, _, rfl, hW5.mono (fun k _ hk => by first | omega | (dsimp only at *; omega)), HC⟩)
  ·
    refine wc_skip ?_
    refine x_seq ?_
    refine wc_seq ?_
    refine wc_region ?_
    refine wle rfl (e_bsl (cs := #[]) (E := 3) rfl rfl (fun _ => by kernel_rfl) (fun w1 g5 hg5 hb5 hc hsz5 => ?_))
    have hzw1 := hc.size
    have HC := HC.tr hc
    have hx := hx.no hc
    have hge5 : w.heap.size ≤ g5 := by have := HC.size; omega
    have hW5 := Row.lit (l := 0) (f := i64) (xs := []) (F := fun k => g5 ≤ k) hb5 (by first | omega | (dsimp only; omega)) rfl rfl (by simp [maxLen])
    refine wl rfl rfl rfl (p_mv rfl) ?_
    refine wle rfl (e_appS rfl el26 one_i64 rfl rfl hW5 hx (by omega) (by intro k hk; first | omega | (dsimp only at *; omega)) (fun w2 A7 c7 hW5 hc => ?_))
    have hzw2 := hc.size
    have HC := HC.trans hc (fun _ _ h => h) (fun k hk ht => absurd ht (by first | omega | (dsimp only at *; omega)))
    first | have hx := hx.ch hc (by intro k hk ht; first | omega | (dsimp only at *; omega)) | have hx := hx.chT hc (by intro k hz hk ht; first | omega | (dsimp only at *; omega))
    refine wl rfl rfl rfl (p_as rfl) ?_
    refine wl_nil ?_
    refine x_seq ?_
    refine wc_ret ?_
    refine fin_run (res1 rfl rfl) ?_
    first | exact ⟨_, _, rfl, Row.nil _ _ _ _, HC⟩ | (rw [Nat.zero_add] at hW5; rw [Nat.zero_add]; exact ⟨_, _, rfl, hW5.mono (fun k _ hk => by first | omega | (dsimp only at *; omega)), HC⟩)

set_option maxHeartbeats 1000000 in
set_option maxRecDepth 20000 in
theorem made_any {w : World} {F : Nat → Prop} {g n : Nat} {d : DS} (hd : DkAt TD w F g n d) :
    Calls Try.prog 25 #[.pointer (some ⟨g, 0, none⟩)] w fun e w' => e = .returned (.bool true) ∧ Ch No w w' := by
  obtain ⟨gs, cs, gm, Ao, lo, co, Ak, lk, ck, hD, hR⟩ := hd
  have HC : Ch No w w := Ch.refl _ _
  refine enter' (args := [.pointer (some ⟨g, 0, none⟩)]) (n := 12) Try.func25 rfl rfl rfl ?_
  refine wc_seq ?_
  refine wc_region ?_
  refine wl rfl rfl rfl (p_as rfl) ?_
  refine wl_nil ?_
  refine x_seq ?_
  refine wc_seq ?_
  refine wc_region ?_
  refine wl rfl rfl rfl (p_mv rfl) ?_
  refine wl rfl rfl rfl (p_nePN rfl rfl Try.underlying23) ?_
  refine wl rfl rfl rfl (p_mv rfl) ?_
  refine wl_g (gd_ rfl rfl rfl rfl rfl rfl) rfl rfl (p_mv rfl) ?_
  refine wl_g (gd_ rfl rfl rfl rfl rfl rfl) rfl rfl (p_nck rfl) ?_
  refine wl_g (gd_ rfl rfl rfl rfl rfl rfl) rfl rfl (p_fld (j := 0) Try.underlying49 rfl ⟨_, by rfl⟩ rfl rfl) ?_
  refine wl_g (gd_ rfl rfl rfl rfl rfl rfl) rfl rfl (p_ld Try.underlying46 rfl rfl (ld (hD.cell rfl))) ?_
  refine wl_g (gd_ rfl rfl rfl rfl rfl rfl) rfl rfl (p_nenil rfl rfl Try.underlying46) ?_
  refine wl rfl rfl rfl (p_pickT rfl rfl) ?_
  refine wl rfl rfl rfl (p_as rfl) ?_
  refine wl_nil ?_
  refine x_seq ?_
  refine wc_ret ?_
  refine fin_run (res1 rfl rfl) ?_
  exact ⟨rfl, HC⟩

set_option maxHeartbeats 1000000 in
set_option maxRecDepth 20000 in
theorem may_any {w : World} {F : Nat → Prop} {g n : Nat} {d : DS} (hd : DkAt TD w F g n d) :
    Calls Try.prog 27 #[.pointer (some ⟨g, 0, none⟩)] w fun e w' => e = .returned (i64 (if d.off then 7 else 0)) ∧ Ch No w w' := by
  obtain ⟨gs, cs, gm, Ao, lo, co, Ak, lk, ck, hD, hR⟩ := hd
  have HC : Ch No w w := Ch.refl _ _
  refine enter' (args := [.pointer (some ⟨g, 0, none⟩)]) (n := 12) Try.func27 rfl rfl rfl ?_
  refine wc_seq ?_
  refine wc_region ?_
  refine wl rfl rfl rfl (p_as rfl) ?_
  refine wl_nil ?_
  refine x_seq ?_
  refine wc_seq ?_
  refine wc_block ?_
  refine wc_seq ?_
  refine wc_region ?_
  refine wl rfl rfl rfl (p_mv rfl) ?_
  refine wle rfl (e_call ent25 rfl rfl (made_any ⟨_, _, _, _, _, _, _, _, _, hD, hR⟩) ?_)
  rintro _ w1 ⟨rfl, hc⟩
  refine ⟨_, rfl, ?_⟩
  have hzw1 := hc.size
  have HC := HC.tr hc
  have hD := hD.ch hc (fun h => h)
  first | have hR := hR.no hc | have hR := hR.ch hc (by intro k hz hk ht; first | omega | (dsimp only at *; omega))
  refine wl rfl rfl rfl (p_not rfl) ?_
  refine wl rfl rfl rfl (p_as rfl) ?_
  refine wl_nil ?_
  refine x_seq ?_
  refine wc_no rfl (rfl) ?_
  refine wc_seq ?_
  refine wc_region ?_
  refine wl rfl rfl rfl (p_mv rfl) ?_
  refine wl rfl rfl rfl (p_nck rfl) ?_
  refine wl rfl rfl rfl (p_fld (j := 3) Try.underlying49 rfl ⟨_, by rfl⟩ rfl rfl) ?_
  refine wl rfl rfl rfl (p_ld Try.underlying4 rfl rfl (ld (hD.cell rfl))) ?_
  refine wl rfl rfl rfl (p_as rfl) ?_
  refine wl_nil ?_
  refine x_seq ?_
  refine wc_if rfl (fun c1 => ?_) (fun c1 => ?_)
  ·
    refine wc_seq ?_
    refine wc_region ?_
    refine wl rfl rfl rfl (p_as rfl) ?_
    refine wl_nil ?_
    refine x_seq ?_
    refine wc_ret ?_
    refine x_in_ret ?_
    refine x_then_ret ?_
    refine fin_run (res1 rfl rfl) ?_
    rw [c1]; exact ⟨rfl, HC⟩
  ·
    refine wc_skip ?_
    refine x_in_normal ?_
    refine x_seq ?_
    refine wc_seq ?_
    refine wc_region ?_
    refine wl rfl rfl rfl (p_as rfl) ?_
    refine wl_nil ?_
    refine x_seq ?_
    refine wc_ret ?_
    refine fin_run (res1 rfl rfl) ?_
    rw [c1]; exact ⟨rfl, HC⟩

set_option maxHeartbeats 1000000 in
set_option maxRecDepth 20000 in
theorem size_any {w : World} {F : Nat → Prop} {g n : Nat} {d : DS} (hd : DkAt TD w F g n d) (hn : n ≤ 4096) :
    Calls Try.prog 22 #[.pointer (some ⟨g, 0, none⟩)] w fun e w' => e = .returned (i64 ((32 * n : Nat) : Int)) ∧ Ch No w w' := by
  obtain ⟨gs, cs, gm, Ao, lo, co, Ak, lk, ck, hD, hR⟩ := hd
  have HC : Ch No w w := Ch.refl _ _
  refine enter' (args := [.pointer (some ⟨g, 0, none⟩)]) (n := 12) Try.func22 rfl rfl rfl ?_
  refine wc_seq ?_
  refine wc_region ?_
  refine wl rfl rfl rfl (p_as rfl) ?_
  refine wl_nil ?_
  refine x_seq ?_
  refine wc_seq ?_
  refine wc_seq ?_
  refine wc_region ?_
  refine wl rfl rfl rfl (p_mv rfl) ?_
  refine wle rfl (e_call ent25 rfl rfl (made_any ⟨_, _, _, _, _, _, _, _, _, hD, hR⟩) ?_)
  rintro _ w1 ⟨rfl, hc⟩
  refine ⟨_, rfl, ?_⟩
  have hzw1 := hc.size
  have HC := HC.tr hc
  have hD := hD.ch hc (fun h => h)
  first | have hR := hR.no hc | have hR := hR.ch hc (by intro k hz hk ht; first | omega | (dsimp only at *; omega))
  refine wl rfl rfl rfl (p_not rfl) ?_
  refine wl_nil ?_
  refine x_seq ?_
  refine wc_no rfl (rfl) ?_
  refine wc_skip ?_
  refine x_seq ?_
  refine wc_seq ?_
  refine wc_region ?_
  refine wl rfl rfl rfl (p_mv rfl) ?_
  refine wl rfl rfl rfl (p_nck rfl) ?_
  refine wl rfl rfl rfl (p_fld (j := 0) Try.underlying49 rfl ⟨_, by rfl⟩ rfl rfl) ?_
  refine wl rfl rfl rfl (p_ld Try.underlying46 rfl rfl (ld (hD.cell rfl))) ?_
  refine wl rfl rfl rfl (p_lenS Try.underlying46 rfl) ?_
  refine wl rfl rfl rfl (p_mul (Z := ((32 * n : Nat) : Int)) rfl rfl (by rw [w64 (by omega)]; omega)) ?_
  refine wl rfl rfl rfl (p_as rfl) ?_
  refine wl_nil ?_
  refine x_seq ?_
  refine wc_ret ?_
  refine fin_run (res1 rfl rfl) ?_
  exact ⟨rfl, HC⟩

set_option maxHeartbeats 1000000 in
set_option maxRecDepth 20000 in
theorem on_any {w : World} {F : Nat → Prop} {g n : Nat} {d : DS} (hd : DkAt TD w F g n d) :
    Calls Try.prog 13 #[.pointer (some ⟨g, 0, none⟩)] w fun e w' => e = .returned (.bool (!d.off)) ∧ Ch No w w' := by
  obtain ⟨gs, cs, gm, Ao, lo, co, Ak, lk, ck, hD, hR⟩ := hd
  have HC : Ch No w w := Ch.refl _ _
  refine enter' (args := [.pointer (some ⟨g, 0, none⟩)]) (n := 12) Try.func13 rfl rfl rfl ?_
  refine wc_seq ?_
  refine wc_region ?_
  refine wl rfl rfl rfl (p_as rfl) ?_
  refine wl_nil ?_
  refine x_seq ?_
  refine wc_seq ?_
  refine wc_region ?_
  refine wl rfl rfl rfl (p_mv rfl) ?_
  refine wle rfl (e_call ent25 rfl rfl (made_any ⟨_, _, _, _, _, _, _, _, _, hD, hR⟩) ?_)
  rintro _ w1 ⟨rfl, hc⟩
  refine ⟨_, rfl, ?_⟩
  have hzw1 := hc.size
  have HC := HC.tr hc
  have hD := hD.ch hc (fun h => h)
  first | have hR := hR.no hc | have hR := hR.ch hc (by intro k hz hk ht; first | omega | (dsimp only at *; omega))
  refine wl rfl rfl rfl (p_mv rfl) ?_
  refine wl_g (gd_ rfl rfl rfl rfl rfl rfl) rfl rfl (p_mv rfl) ?_
  refine wl_g (gd_ rfl rfl rfl rfl rfl rfl) rfl rfl (p_nck rfl) ?_
  refine wl_g (gd_ rfl rfl rfl rfl rfl rfl) rfl rfl (p_fld (j := 3) Try.underlying49 rfl ⟨_, by rfl⟩ rfl rfl) ?_
  refine wl_g (gd_ rfl rfl rfl rfl rfl rfl) rfl rfl (p_ld Try.underlying4 rfl rfl (ld (hD.cell rfl))) ?_
  refine wl_g (gd_ rfl rfl rfl rfl rfl rfl) rfl rfl (p_not rfl) ?_
  refine wl rfl rfl rfl (p_pickT rfl rfl) ?_
  refine wl rfl rfl rfl (p_as rfl) ?_
  refine wl_nil ?_
  refine x_seq ?_
  refine wc_ret ?_
  refine fin_run (res1 rfl rfl) ?_
  exact ⟨rfl, HC⟩
end Go.Proofs.Ytcgapjieidmkpaa
