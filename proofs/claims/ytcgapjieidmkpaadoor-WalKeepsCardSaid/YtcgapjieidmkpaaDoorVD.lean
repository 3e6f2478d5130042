/-
  Own text, printed by a program of mine (wip/gx): what functions of the program do, walked operation by operation.
-/
import Derived.Test.YtcgapjieidmkpaaDoorProg
import Derived.Test.YtcgapjieidmkpaaDoorGxAgg
import Derived.Test.YtcgapjieidmkpaaDoorTab
import Derived.Test.YtcgapjieidmkpaaDoorPlDisk
import Derived.Test.YtcgapjieidmkpaaDoorPlDiskSt
import Derived.Test.YtcgapjieidmkpaaDoorDTd
set_option linter.unusedVariables false
namespace Go.Proofs.YtcgapjieidmkpaaDoor
open Go.RowKit Go.Gx
open Go.Plain
set_option maxHeartbeats 1000000 in
set_option maxRecDepth 20000 in
theorem index_any {w : World} {Ax : Option Addr} {lx cx : Nat} {Fx : Nat → Prop} {x : List Int} {v : Int} (hx : Sl w Fx i64 Ax lx cx x) (hl : lx ≤ 9223372036854775807) :
    Calls Tryd.prog 49 #[.slice Ax lx cx, i64 v] w fun e w' => ∃ z : Int, e = .returned (i64 z) ∧ (0 ≤ z ↔ v ∈ x) ∧ Ch No w w' := by
  have hxl := hx.len
  have hx := hx.old
  have HC : Ch No w w := Ch.refl _ _
  refine enter' (args := [.slice Ax lx cx, i64 v]) (n := 19) Tryd.func49 rfl rfl rfl ?_
  refine wc_seq ?_
  refine wc_region ?_
  refine wl rfl rfl rfl (p_as rfl) ?_
  refine wl_nil ?_
  refine x_seq ?_
  refine wc_seq ?_
  refine wc_seq ?_
  refine wc_region ?_
  refine wl rfl rfl rfl (p_mv rfl) ?_
  refine wl rfl rfl rfl (p_lenS Tryd.underlying45 rfl) ?_
  refine wl rfl rfl rfl (p_mv rfl) ?_
  refine wl_nil ?_
  refine x_seq ?_
  refine wc_block ?_
  refine wc_loop (e' := [(0, .slice Ax lx cx), (1, i64 v), (7, i64 (lx : Int)), (8, i64 ((0) : Int))]) (fun mz ez uz => ∃ k : Nat, mz = lx - k ∧ ez = [(0, .slice Ax lx cx), (1, i64 v), (7, i64 (lx : Int)), (8, i64 (k : Int))] ∧ (k ≤ lx) ∧ (∀ j, j < k → x.getD j 0 ≠ v) ∧ (Sl uz (fun k => k < w.heap.size) i64 Ax lx cx x) ∧ (Ch No w uz))
    ⟨rfl, rfl, rfl, rfl, trivial⟩ ⟨0, rfl, rfl, by omega, (fun j hj => by omega), hx, HC⟩ ?_
  rintro m0 e w1 ⟨k, hm0, rfl, hk, hno, hx, HC⟩
  have hzw1 := HC.size
  refine wc_seq ?_
  refine wc_region ?_
  refine wl rfl rfl rfl (p_lt rfl rfl) ?_
  refine wl_nil ?_
  refine x_seq ?_
  refine wc_seq ?_
  refine wc_if rfl (fun c0 => ?_) (fun c0 => ?_)
  ·
    have c0 := of_decide_eq_true c0
    refine wc_skip ?_
    refine x_seq ?_
    refine wc_seq ?_
    refine wc_block ?_
    refine wc_seq ?_
    refine wc_region ?_
    refine wl rfl rfl rfl (p_mv rfl) ?_
    refine wl rfl rfl rfl (p_as rfl) ?_
    refine wl_nil ?_
    refine x_seq ?_
    refine wc_seq ?_
    refine wc_region ?_
    refine wl rfl rfl rfl (p_mv rfl) ?_
    refine wl rfl rfl rfl (p_mv rfl) ?_
    refine wl rfl rfl rfl (p_mv rfl) ?_
    obtain ⟨b2, o2, hA2, hF2, hc2⟩ := (hx).opn (d := 0) (by omega)
    refine wl rfl rfl rfl (p_ixS1 Tryd.underlying45 sz3 rfl hA2 rfl (by omega) (by omega) (Int.toNat_natCast _)) ?_
    refine wl rfl rfl rfl (p_ld Tryd.underlying3 rfl rfl (ld (hc2 _ (by omega)))) ?_
    refine wl rfl rfl rfl (p_eq rfl rfl) ?_
    refine wl_nil ?_
    refine x_seq ?_
    refine wc_if rfl (fun c1 => ?_) (fun c1 => ?_)
    ·
      have c1 := of_decide_eq_true c1
      have hv : v ∈ x := by rw [c1]; exact getD_memI (by omega)
      refine wc_seq ?_
      refine wc_region ?_
      refine wl rfl rfl rfl (p_mv rfl) ?_
      refine wl rfl rfl rfl (p_as rfl) ?_
      refine wl_nil ?_
      refine x_seq ?_
      refine wc_ret ?_
      refine x_in_ret ?_
      refine x_then_ret ?_
      refine x_then_ret ?_
      refine x_in_ret ?_
      refine x_then_ret ?_
      refine fin_run (res1 rfl rfl) ?_
      first
        | exact ⟨_, rfl, ⟨fun _ => hv, fun _ => by omega⟩, HC⟩
        | exact ⟨_, rfl, ⟨fun h => absurd h (by omega), fun h => absurd h hv⟩, HC⟩
    ·
      have c1 := of_decide_eq_false c1
      have hno : ∀ j, j < k + 1 → x.getD j 0 ≠ v := fun j hj => by
        rcases Nat.lt_or_ge j k with h | h
        · exact hno j h
        · have : j = k := by omega
          rw [this]; exact fun e => c1 e.symm
      refine wc_skip ?_
      refine x_in_normal ?_
      refine x_seq ?_
      refine wc_region ?_
      refine wl rfl rfl rfl (p_add rfl rfl (w64 (by omega))) ?_
      refine wl rfl rfl rfl (p_mv rfl) ?_
      refine wl_nil ?_
      refine x_round (e' := [(0, .slice Ax lx cx), (1, i64 v), (7, i64 (lx : Int)), (8, i64 ((k + 1) : Int))]) ⟨rfl, rfl, rfl, rfl, trivial⟩ (by rw [hm0]; omega) ⟨k + 1, rfl, rfl, by omega, hno, hx, HC⟩
  ·
    have c0 := of_decide_eq_false c0
    have hv : v ∉ x := not_memI (fun j hj => hno j (by omega))
    refine wc_exit ?_
    refine x_then_exit ?_
    refine x_then_exit ?_
    refine x_in_here ?_
    refine x_seq ?_
    refine wc_seq ?_
    refine wc_region ?_
    refine wl rfl rfl rfl (p_as rfl) ?_
    refine wl_nil ?_
    refine x_seq ?_
    refine wc_ret ?_
    refine fin_run (res1 rfl rfl) ?_
    first
      | exact ⟨_, rfl, ⟨fun _ => hv, fun _ => by omega⟩, HC⟩
      | exact ⟨_, rfl, ⟨fun h => absurd h (by omega), fun h => absurd h hv⟩, HC⟩

set_option maxHeartbeats 1000000 in
set_option maxRecDepth 20000 in
theorem contains_any {w : World} {Ax : Option Addr} {lx cx : Nat} {Fx : Nat → Prop} {x : List Int} {v : Int} (hx : Sl w Fx i64 Ax lx cx x) (hl : lx ≤ 9223372036854775807) :
    Calls Tryd.prog 36 #[.slice Ax lx cx, i64 v] w fun e w' => e = .returned (.bool (decide (v ∈ x))) ∧ Ch No w w' := by
  have hx := hx.old
  have HC : Ch No w w := Ch.refl _ _
  refine enter' (args := [.slice Ax lx cx, i64 v]) (n := 9) Tryd.func36 rfl rfl rfl ?_
  refine wc_seq ?_
  refine wc_region ?_
  refine wl rfl rfl rfl (p_as rfl) ?_
  refine wl_nil ?_
  refine x_seq ?_
  refine wc_seq ?_
  refine wc_region ?_
  refine wl rfl rfl rfl (p_mv rfl) ?_
  refine wl rfl rfl rfl (p_mv rfl) ?_
  refine wle rfl (e_call ent49 rfl rfl (index_any (hx) (by omega)) ?_)
  rintro _ w1 ⟨z7, rfl, hz7, hc⟩
  refine ⟨_, rfl, ?_⟩
  have hzw1 := hc.size
  have HC := HC.tr hc
  have hx := hx.no hc
  refine wl rfl rfl rfl (p_ge rfl rfl) ?_
  refine wl rfl rfl rfl (p_as rfl) ?_
  refine wl_nil ?_
  refine x_seq ?_
  refine wc_ret ?_
  refine fin_run (res1 rfl rfl) ?_
  rw [show decide (0 ≤ z7) = decide (v ∈ x) from decide_eq_decide.2 hz7]; exact ⟨rfl, HC⟩

set_option maxHeartbeats 1000000 in
set_option maxRecDepth 20000 in
theorem clonei_any {w : World} {Ax : Option Addr} {lx cx : Nat} {Fx : Nat → Prop} {x : List Int} (hx : Sl w Fx i64 Ax lx cx x) (hl : lx ≤ 17592186044416) :
    Calls Tryd.prog 38 #[.slice Ax lx cx] w fun e w' => ∃ A c, e = .returned (.slice A lx c) ∧ Row w' (fun k => w.heap.size ≤ k) 3 1 (.slice A lx c) lx (x.map i64) ∧ Ch No w w' := by
  have hx := hx.old
  have HC : Ch No w w := Ch.refl _ _
  refine enter' (args := [.slice Ax lx cx]) (n := 8) Tryd.func38 rfl rfl rfl ?_
  refine wc_seq ?_
  refine wc_region ?_
  refine wl rfl rfl rfl (p_as rfl) ?_
  refine wl_nil ?_
  refine x_seq ?_
  refine wc_seq ?_
  refine wc_seq ?_
  refine wc_region ?_
  refine wl rfl rfl rfl (p_mv rfl) ?_
  refine wl rfl rfl rfl (p_eqnil rfl rfl Tryd.underlying45) ?_
  refine wl_nil ?_
  refine x_seq ?_
  refine wc_if rfl (fun c0 => ?_) (fun c0 => ?_)
  ·
    obtain rfl : Ax = none := by cases Ax <;> simp_all
    obtain ⟨rfl, rfl⟩ := hx.none_len
    refine wc_seq ?_
    refine wc_region ?_
    refine wl rfl rfl rfl (p_as rfl) ?_
    refine wl_nil ?_
    refine x_seq ?_
    refine wc_ret ?_
    refine x_then_ret ?_
    refine fin_run (res1 rfl rfl) ?_
    first | exact ⟨_, _, rfl, Row.nil _ _ _ _, HC⟩ | (rw [Nat.zero_add] at hW5; rw [Nat.zero_add]; exact ⟨_, _, rfl, hW5.mono (fun k _ hk => by first | omega | (dsimp only at *; omega)), HC⟩)
  ·
    refine wc_skip ?_
    refine x_seq ?_
    refine wc_seq ?_
    refine wc_region ?_
    refine wle rfl (e_bsl (cs := #[]) (E := 3) rfl rfl (fun _ => by kernel_rfl) (fun w1 g5 hg5 hb5 hc hsz5 => ?_))
    have hzw1 := hc.size
    have HC := HC.tr hc
    have hx := hx.no hc
    have hge5 : w.heap.size ≤ g5 := by have := HC.size; omega
    have hW5 := Row.lit (l := 0) (f := i64) (xs := []) (F := fun k => g5 ≤ k) hb5 (by first | omega | (dsimp only; omega)) rfl rfl (by simp [maxLen])
    refine wl rfl rfl rfl (p_mv rfl) ?_
    refine wle rfl (e_appS rfl el45 one_i64 rfl rfl hW5 hx (by omega) (by intro k hk; first | omega | (dsimp only at *; omega)) (fun w2 A7 c7 hW5 hc => ?_))
    have hzw2 := hc.size
    have HC := HC.trans hc (fun _ _ h => h) (fun k hk ht => absurd ht (by first | omega | (dsimp only at *; omega)))
    first | have hx := hx.ch hc (by intro k hk ht; first | omega | (dsimp only at *; omega)) | have hx := hx.chT hc (by intro k hz hk ht; first | omega | (dsimp only at *; omega))
    refine wl rfl rfl rfl (p_as rfl) ?_
    refine wl_nil ?_
    refine x_seq ?_
    refine wc_ret ?_
    refine fin_run (res1 rfl rfl) ?_
    first | exact ⟨_, _, rfl, Row.nil _ _ _ _, HC⟩ | (rw [Nat.zero_add] at hW5; rw [Nat.zero_add]; exact ⟨_, _, rfl, hW5.mono (fun k _ hk => by first | omega | (dsimp only at *; omega)), HC⟩)

set_option maxHeartbeats 1000000 in
set_option maxRecDepth 20000 in
theorem made_any {w : World} {F : Nat → Prop} {g n : Nat} {d : DS} (hd : DkAt TD w F g n d) :
    Calls Tryd.prog 35 #[.pointer (some ⟨g, 0, none⟩)] w fun e w' => e = .returned (.bool true) ∧ Ch No w w' := by
  obtain ⟨gs, cs, gm, Ao, lo, co, Ak, lk, ck, hD, hR⟩ := hd
  have HC : Ch No w w := Ch.refl _ _
  refine enter' (args := [.pointer (some ⟨g, 0, none⟩)]) (n := 12) Tryd.func35 rfl rfl rfl ?_
  refine wc_seq ?_
  refine wc_region ?_
  refine wl rfl rfl rfl (p_as rfl) ?_
  refine wl_nil ?_
  refine x_seq ?_
  refine wc_seq ?_
  refine wc_region ?_
  refine wl rfl rfl rfl (p_mv rfl) ?_
  refine wl rfl rfl rfl (p_nePN rfl rfl Tryd.underlying31) ?_
  refine wl rfl rfl rfl (p_mv rfl) ?_
  refine wl_g (gd_ rfl rfl rfl rfl rfl rfl) rfl rfl (p_mv rfl) ?_
  refine wl_g (gd_ rfl rfl rfl rfl rfl rfl) rfl rfl (p_nck rfl) ?_
  refine wl_g (gd_ rfl rfl rfl rfl rfl rfl) rfl rfl (p_fld (j := 0) Tryd.underlying47 rfl ⟨_, by rfl⟩ rfl rfl) ?_
  refine wl_g (gd_ rfl rfl rfl rfl rfl rfl) rfl rfl (p_ld Tryd.underlying43 rfl rfl (ld (hD.cell rfl))) ?_
  refine wl_g (gd_ rfl rfl rfl rfl rfl rfl) rfl rfl (p_nenil rfl rfl Tryd.underlying43) ?_
  refine wl rfl rfl rfl (p_pickT rfl rfl) ?_
  refine wl rfl rfl rfl (p_as rfl) ?_
  refine wl_nil ?_
  refine x_seq ?_
  refine wc_ret ?_
  refine fin_run (res1 rfl rfl) ?_
  exact ⟨rfl, HC⟩

set_option maxHeartbeats 1000000 in
set_option maxRecDepth 20000 in
theorem may_any {w : World} {F : Nat → Prop} {g n : Nat} {d : DS} (hd : DkAt TD w F g n d) :
    Calls Tryd.prog 39 #[.pointer (some ⟨g, 0, none⟩)] w fun e w' => e = .returned (i64 (if d.off then 7 else 0)) ∧ Ch No w w' := by
  obtain ⟨gs, cs, gm, Ao, lo, co, Ak, lk, ck, hD, hR⟩ := hd
  have HC : Ch No w w := Ch.refl _ _
  refine enter' (args := [.pointer (some ⟨g, 0, none⟩)]) (n := 12) Tryd.func39 rfl rfl rfl ?_
  refine wc_seq ?_
  refine wc_region ?_
  refine wl rfl rfl rfl (p_as rfl) ?_
  refine wl_nil ?_
  refine x_seq ?_
  refine wc_seq ?_
  refine wc_block ?_
  refine wc_seq ?_
  refine wc_region ?_
  refine wl rfl rfl rfl (p_mv rfl) ?_
  refine wle rfl (e_call ent35 rfl rfl (made_any ⟨_, _, _, _, _, _, _, _, _, hD, hR⟩) ?_)
  rintro _ w1 ⟨rfl, hc⟩
  refine ⟨_, rfl, ?_⟩
  have hzw1 := hc.size
  have HC := HC.tr hc
  have hD := hD.ch hc (fun h => h)
  first | have hR := hR.no hc | have hR := hR.ch hc (by intro k hz hk ht; first | omega | (dsimp only at *; omega))
  refine wl rfl rfl rfl (p_not rfl) ?_
  refine wl rfl rfl rfl (p_as rfl) ?_
  refine wl_nil ?_
  refine x_seq ?_
  refine wc_no rfl (rfl) ?_
  refine wc_seq ?_
  refine wc_region ?_
  refine wl rfl rfl rfl (p_mv rfl) ?_
  refine wl rfl rfl rfl (p_nck rfl) ?_
  refine wl rfl rfl rfl (p_fld (j := 3) Tryd.underlying47 rfl ⟨_, by rfl⟩ rfl rfl) ?_
  refine wl rfl rfl rfl (p_ld Tryd.underlying4 rfl rfl (ld (hD.cell rfl))) ?_
  refine wl rfl rfl rfl (p_as rfl) ?_
  refine wl_nil ?_
  refine x_seq ?_
  refine wc_if rfl (fun c1 => ?_) (fun c1 => ?_)
  ·
    refine wc_seq ?_
    refine wc_region ?_
    refine wl rfl rfl rfl (p_as rfl) ?_
    refine wl_nil ?_
    refine x_seq ?_
    refine wc_ret ?_
    refine x_in_ret ?_
    refine x_then_ret ?_
    refine fin_run (res1 rfl rfl) ?_
    rw [c1]; exact ⟨rfl, HC⟩
  ·
    refine wc_skip ?_
    refine x_in_normal ?_
    refine x_seq ?_
    refine wc_seq ?_
    refine wc_region ?_
    refine wl rfl rfl rfl (p_as rfl) ?_
    refine wl_nil ?_
    refine x_seq ?_
    refine wc_ret ?_
    refine fin_run (res1 rfl rfl) ?_
    rw [c1]; exact ⟨rfl, HC⟩

set_option maxHeartbeats 1000000 in
set_option maxRecDepth 20000 in
theorem size_any {w : World} {F : Nat → Prop} {g n : Nat} {d : DS} (hd : DkAt TD w F g n d) (hn : n ≤ 4096) :
    Calls Tryd.prog 28 #[.pointer (some ⟨g, 0, none⟩)] w fun e w' => e = .returned (i64 ((32 * n : Nat) : Int)) ∧ Ch No w w' := by
  obtain ⟨gs, cs, gm, Ao, lo, co, Ak, lk, ck, hD, hR⟩ := hd
  have HC : Ch No w w := Ch.refl _ _
  refine enter' (args := [.pointer (some ⟨g, 0, none⟩)]) (n := 12) Tryd.func28 rfl rfl rfl ?_
  refine wc_seq ?_
  refine wc_region ?_
  refine wl rfl rfl rfl (p_as rfl) ?_
  refine wl_nil ?_
  refine x_seq ?_
  refine wc_seq ?_
  refine wc_seq ?_
  refine wc_region ?_
  refine wl rfl rfl rfl (p_mv rfl) ?_
  refine wle rfl (e_call ent35 rfl rfl (made_any ⟨_, _, _, _, _, _, _, _, _, hD, hR⟩) ?_)
  rintro _ w1 ⟨rfl, hc⟩
  refine ⟨_, rfl, ?_⟩
  have hzw1 := hc.size
  have HC := HC.tr hc
  have hD := hD.ch hc (fun h => h)
  first | have hR := hR.no hc | have hR := hR.ch hc (by intro k hz hk ht; first | omega | (dsimp only at *; omega))
  refine wl rfl rfl rfl (p_not rfl) ?_
  refine wl_nil ?_
  refine x_seq ?_
  refine wc_no rfl (rfl) ?_
  refine wc_skip ?_
  refine x_seq ?_
  refine wc_seq ?_
  refine wc_region ?_
  refine wl rfl rfl rfl (p_mv rfl) ?_
  refine wl rfl rfl rfl (p_nck rfl) ?_
  refine wl rfl rfl rfl (p_fld (j := 0) Tryd.underlying47 rfl ⟨_, by rfl⟩ rfl rfl) ?_
  refine wl rfl rfl rfl (p_ld Tryd.underlying43 rfl rfl (ld (hD.cell rfl))) ?_
  refine wl rfl rfl rfl (p_lenS Tryd.underlying43 rfl) ?_
  refine wl rfl rfl rfl (p_mul (Z := ((32 * n : Nat) : Int)) rfl rfl (by rw [w64 (by omega)]; omega)) ?_
  refine wl rfl rfl rfl (p_as rfl) ?_
  refine wl_nil ?_
  refine x_seq ?_
  refine wc_ret ?_
  refine fin_run (res1 rfl rfl) ?_
  exact ⟨rfl, HC⟩

set_option maxHeartbeats 1000000 in
set_option maxRecDepth 20000 in
theorem on_any {w : World} {F : Nat → Prop} {g n : Nat} {d : DS} (hd : DkAt TD w F g n d) :
    Calls Tryd.prog 24 #[.pointer (some ⟨g, 0, none⟩)] w fun e w' => e = .returned (.bool (!d.off)) ∧ Ch No w w' := by
  obtain ⟨gs, cs, gm, Ao, lo, co, Ak, lk, ck, hD, hR⟩ := hd
  have HC : Ch No w w := Ch.refl _ _
  refine enter' (args := [.pointer (some ⟨g, 0, none⟩)]) (n := 12) Tryd.func24 rfl rfl rfl ?_
  refine wc_seq ?_
  refine wc_region ?_
  refine wl rfl rfl rfl (p_as rfl) ?_
  refine wl_nil ?_
  refine x_seq ?_
  refine wc_seq ?_
  refine wc_region ?_
  refine wl rfl rfl rfl (p_mv rfl) ?_
  refine wle rfl (e_call ent35 rfl rfl (made_any ⟨_, _, _, _, _, _, _, _, _, hD, hR⟩) ?_)
  rintro _ w1 ⟨rfl, hc⟩
  refine ⟨_, rfl, ?_⟩
  have hzw1 := hc.size
  have HC := HC.tr hc
  have hD := hD.ch hc (fun h => h)
  first | have hR := hR.no hc | have hR := hR.ch hc (by intro k hz hk ht; first | omega | (dsimp only at *; omega))
  refine wl rfl rfl rfl (p_mv rfl) ?_
  refine wl_g (gd_ rfl rfl rfl rfl rfl rfl) rfl rfl (p_mv rfl) ?_
  refine wl_g (gd_ rfl rfl rfl rfl rfl rfl) rfl rfl (p_nck rfl) ?_
  refine wl_g (gd_ rfl rfl rfl rfl rfl rfl) rfl rfl (p_fld (j := 3) Tryd.underlying47 rfl ⟨_, by rfl⟩ rfl rfl) ?_
  refine wl_g (gd_ rfl rfl rfl rfl rfl rfl) rfl rfl (p_ld Tryd.underlying4 rfl rfl (ld (hD.cell rfl))) ?_
  refine wl_g (gd_ rfl rfl rfl rfl rfl rfl) rfl rfl (p_not rfl) ?_
  refine wl rfl rfl rfl (p_pickT rfl rfl) ?_
  refine wl rfl rfl rfl (p_as rfl) ?_
  refine wl_nil ?_
  refine x_seq ?_
  refine wc_ret ?_
  refine fin_run (res1 rfl rfl) ?_
  exact ⟨rfl, HC⟩

set_option maxHeartbeats 1000000 in
set_option maxRecDepth 20000 in
theorem start_any {w : World} {F : Nat → Prop} {g n : Nat} {d : DS} (hd : DkAt TD w F g n d) :
    Calls Tryd.prog 22 #[.pointer (some ⟨g, 0, none⟩)] w fun e w' => e = .returned (.bool (stS d).1) ∧ DkAt TD w' F g n (stS d).2 ∧ Ch F w w' := by
  obtain ⟨gs, cs, gm, Ao, lo, co, Ak, lk, ck, hD, hR⟩ := hd
  have HC : Ch F w w := Ch.refl _ _
  refine enter' (args := [.pointer (some ⟨g, 0, none⟩)]) (n := 16) Tryd.func22 rfl rfl rfl ?_
  refine wc_seq ?_
  refine wc_region ?_
  refine wl rfl rfl rfl (p_as rfl) ?_
  refine wl_nil ?_
  refine x_seq ?_
  refine wc_seq ?_
  refine wc_seq ?_
  refine wc_region ?_
  refine wl rfl rfl rfl (p_mv rfl) ?_
  refine wle rfl (e_call ent35 rfl rfl (made_any ⟨_, _, _, _, _, _, _, _, _, hD, hR⟩) ?_)
  rintro _ w1 ⟨rfl, hc⟩
  refine ⟨_, rfl, ?_⟩
  have hzw1 := hc.size
  have HC := HC.tr hc
  have hD := hD.ch hc (fun h => h)
  first | have hR := hR.no hc | have hR := hR.ch hc (by intro k hz hk ht; first | omega | (dsimp only at *; omega))
  refine wl rfl rfl rfl (p_not rfl) ?_
  refine wl rfl rfl rfl (p_mv rfl) ?_
  refine wl_g (gd_ rfl rfl rfl rfl rfl rfl) rfl rfl (p_mv rfl) ?_
  refine wl_g (gd_ rfl rfl rfl rfl rfl rfl) rfl rfl (p_nck rfl) ?_
  refine wl_g (gd_ rfl rfl rfl rfl rfl rfl) rfl rfl (p_fld (j := 3) Tryd.underlying47 rfl ⟨_, by rfl⟩ rfl rfl) ?_
  refine wl_g (gd_ rfl rfl rfl rfl rfl rfl) rfl rfl (p_ld Tryd.underlying4 rfl rfl (ld (hD.cell rfl))) ?_
  refine wl_g (gd_ rfl rfl rfl rfl rfl rfl) rfl rfl (p_not rfl) ?_
  refine wl rfl rfl rfl (p_pickF rfl rfl) ?_
  refine wl_nil ?_
  refine x_seq ?_
  refine wc_if rfl (fun c0 => ?_) (fun c0 => ?_)
  ·
    have hst : stS d = (false, d) := stS_off (b_of_nt c0)
    refine wc_seq ?_
    refine wc_region ?_
    refine wl rfl rfl rfl (p_as rfl) ?_
    refine wl_nil ?_
    refine x_seq ?_
    refine wc_ret ?_
    refine x_then_ret ?_
    refine fin_run (res1 rfl rfl) ?_
    rw [hst]; exact ⟨rfl, ⟨_, _, _, _, _, _, _, _, _, hD, hR⟩, HC⟩
  ·
    have hst : stS d = (true, { d with off := false }) := stS_on (b_of_nf c0)
    refine wc_skip ?_
    refine x_seq ?_
    refine wc_seq ?_
    refine wc_region ?_
    refine wl rfl rfl rfl (p_mv rfl) ?_
    refine wl rfl rfl rfl (p_nck rfl) ?_
    refine wl rfl rfl rfl (p_fld (j := 3) Tryd.underlying47 rfl ⟨_, by rfl⟩ rfl rfl) ?_
    refine wle rfl (e_stD (T := TD) (j := 3) (by rfl) rfl rfl rfl hD hR (show 3 < 7 by decide) (fun w2 hD hR hc hsz => ?_))
    have hzw2 := hc.size
    have HC := HC.trans hc (fun _ _ h => h) (fun k hk ht => (by rw [ht]; exact hR.fg))
    refine wl_nil ?_
    refine x_seq ?_
    refine wc_seq ?_
    refine wc_region ?_
    refine wl rfl rfl rfl (p_as rfl) ?_
    refine wl_nil ?_
    refine x_seq ?_
    refine wc_ret ?_
    refine fin_run (res1 rfl rfl) ?_
    rw [hst]; exact ⟨rfl, ⟨_, _, _, _, _, _, _, _, _, hD, hR⟩, HC⟩

set_option maxHeartbeats 1000000 in
set_option maxRecDepth 20000 in
theorem settle_any {w : World} {F : Nat → Prop} {g n gs gm cs : Nat} {Ao : Option Addr} {lo co : Nat} {Ak : Option Addr} {lk ck : Nat} {sf nw : List UInt8} {ord : List Nat} {keep : List Int} {ks : List Nat} {off : Bool} {armed i : Nat} {torn : Int} (hD : Blk w g 47 (dcell gs n cs gm Ao lo co off armed Ak lk ck torn)) (hR : DR TD w F g n gs gm Ao lo co Ak lk ck sf nw ord keep ks) (hik : i ∈ ks) (hin : i < n) (hn : n ≤ 4096) (hsl : sf.length = 32 * n) (hnl : nw.length = 32 * n) :
    Calls Tryd.prog 37 #[.pointer (some ⟨g, 0, none⟩), nv i] w fun e w' => e = .returned (.tuple #[]) ∧ Ch (fun k => k = gs ∨ k = gm) w w' ∧ Blk w' g 47 (dcell gs n cs gm Ao lo co off armed Ak lk ck torn) ∧ DR TD w' F g n gs gm Ao lo co Ak lk ck (spl sf (32 * i) (sec nw i)) nw ord keep (ks.filter (· != i)) := by
  have hne1 : g ≠ gs := hR.neS hD (by decide)
  have hne2 : g ≠ gm := by obtain ⟨l, clk, h1, _⟩ := hR.ex; exact (h1.ne hD).symm
  have HC : Ch (fun k => k = gs ∨ k = gm) w w := Ch.refl _ _
  refine enter' (args := [.pointer (some ⟨g, 0, none⟩), nv i]) (n := 23) Tryd.func37 rfl rfl rfl ?_
  refine wc_seq ?_
  refine wc_draw (.st 0 0 (.st 1 0 (.st 2 0 (.st 3 1 (.st 4 0 (.st 5 0 (.st 6 0 (.st 7 0 (.st 8 1 (.st 9 0 (.st 10 1 (.st 11 0 (.st 12 1 (.st 13 0 (.st 14 3 .nil))))))))))))))) 14 (by kernel_rfl) (by kernel_rfl) (by kernel_rfl) (by repeat (first | with_reducible exact pan_body | with_reducible apply pan_then | with_reducible apply pan_in)) (fun x => Ch No w.drew x) (Ch.refl _ _) ?_
  obtain ⟨w1, ew1⟩ : ∃ x, x = w.drew := ⟨_, rfl⟩
  rw [← ew1]
  have hc : Ch No w w1 := by rw [ew1]; exact Ch.drew _
  have hszw1 : w1.heap.size = w.heap.size := by rw [ew1]; rfl
  clear ew1
  have hzw1 := hc.size
  have HC := HC.tr hc
  have hD := hD.ch hc (fun h => h)
  first | have hR := hR.no hc | have hR := hR.ch hc (by intro k hz hk ht; first | omega | (dsimp only at *; omega))
  have hS : Ch No w1 w1 := Ch.refl _ _
  refine ws_p rfl rfl rfl rfl (p_mv rfl) ?_
  refine ws_p rfl rfl rfl rfl (p_nck rfl) ?_
  refine ws_p rfl rfl rfl rfl (p_fld (j := 0) Tryd.underlying47 rfl ⟨_, by rfl⟩ rfl rfl) ?_
  refine ws_h rfl rfl rfl rfl (p_ld Tryd.underlying43 rfl rfl (fun _ h => h.cell (fun h => h) (hD.cell rfl))) ?_
  refine ws_p rfl rfl rfl rfl (p_mv rfl) ?_
  refine ws_p rfl rfl rfl rfl (p_mv rfl) ?_
  refine ws_p rfl rfl rfl rfl (p_nck rfl) ?_
  refine ws_p rfl rfl rfl rfl (p_fld (j := 1) Tryd.underlying47 rfl ⟨_, by rfl⟩ rfl rfl) ?_
  refine ws_h rfl rfl rfl rfl (p_ld Tryd.underlying44 rfl rfl (fun _ h => h.cell (fun h => h) (hD.cell rfl))) ?_
  refine ws_p rfl rfl rfl rfl (p_mv rfl) ?_
  obtain ⟨p, hp, hpc⟩ := hR.find Tryd.underlying44 Tryd.underlying3 (by rfl) i
  obtain ⟨b, rfl, _, hbE, hbne, hbF, hbin⟩ := hpc.resolve_left (fun h => h.2 hik)
  refine ws_h rfl rfl rfl rfl (p_lookR rfl rfl (fun x h => hp x h)) ?_
  refine ws_p rfl rfl rfl rfl (p_nck rfl) ?_
  refine ws_h rfl rfl rfl rfl (p_ldA (cs := List.map u8v (sec nw i)) Tryd.underlying71 rfl (szL sz71 (by rw [List.length_map]; exact (sec_len hnl hin))) rfl (fun _ h => (rngL (hbE.ch h (fun h => h))))) ?_
  refine ws_p rfl rfl rfl rfl (p_ixS (j := i * 32) Tryd.underlying43 sz71 rfl rfl rfl (by omega) (by omega) (congrArg (· * 32) (Int.toNat_natCast _))) ?_
  obtain ⟨zz, hS0⟩ := hR.hZ
  refine ws_l rfl rfl (e_stZ (o := 0 + i * 32) (L := sf) (v := sec nw i) (by rw [sec_len hnl hin]; exact sz71) rfl rfl hS0 (by rw [sec_len hnl hin]; omega) (fun w2 hs2 hc hsz => ?_))
  rw [show 0 + i * 32 = 32 * i by omega] at hs2
  have hD := hD.ch hc hne1
  have hR := hR.safe hc ⟨zz, hs2⟩
  have HC := HC.trans hc (fun _ _ h => h) (fun k hk ht => .inl ht)
  have hzw2 := hc.size
  refine ws_n ?_
  refine x_seq ?_
  refine wc_region ?_
  refine wl rfl rfl rfl (p_mv rfl) ?_
  refine wl rfl rfl rfl (p_nck rfl) ?_
  refine wl rfl rfl rfl (p_fld (j := 1) Tryd.underlying47 rfl ⟨_, by rfl⟩ rfl rfl) ?_
  refine wl rfl rfl rfl (p_ld Tryd.underlying44 rfl rfl (ld (hD.cell rfl))) ?_
  refine wl rfl rfl rfl (p_mv rfl) ?_
  refine wle rfl (e_dDel Tryd.underlying44 rfl Tryd.underlying3 rfl rfl hR hik (fun w3 hR hc hsz => ?_))
  have hD := hD.ch hc hne2
  have HC := HC.trans hc (fun _ _ h => h) (fun k hk ht => .inr ht)
  refine wl_nil ?_
  refine fin_run_n (res0 rfl) ?_
  exact ⟨rfl, HC, hD, hR⟩

set_option maxHeartbeats 2000000 in
set_option maxRecDepth 20000 in
theorem crash_any {w : World} {F : Nat → Prop} {g n : Nat} {d : DS} {Ax : Option Addr} {lx cx : Nat} {Fx : Nat → Prop} {x : List Int} {tn : Int} (hd : DkAt TD w F g n d) (hx : Sl w Fx i64 Ax lx cx x) (hlx : lx ≤ 9223372036854775807) (hdis : ∀ k, Fx k → ¬ F k ∨ ∃ cs, Blk w k 3 cs) (hok : d.Ok n) (hn : n ≤ 4096) (hF : ∀ k, w.heap.size ≤ k → F k) :
    Calls Tryd.prog 21 #[.pointer (some ⟨g, 0, none⟩), .slice Ax lx cx, i64 tn] w fun e w' => e = .returned (.bool (crS d x tn).1) ∧ DkAt TD w' F g n (crS d x tn).2 ∧ Ch F w w' := by
  obtain ⟨gs, cs, gm, Ao, lo, co, Ak, lk, ck, hD, hR⟩ := hd
  have hne1 : g ≠ gs := hR.neS hD (by decide)
  have hne2 : g ≠ gm := by obtain ⟨l, clk, h1, _⟩ := hR.ex; exact (h1.ne hD).symm
  have hne3 : gs ≠ gm := hR.neM
  have hgl := hD.lt
  have hol := hR.hO.sl.len
  have hx : Sl w (fun k => k ≠ g ∧ k ≠ gs ∧ k ≠ gm ∧ k < w.heap.size) i64 Ax lx cx x := hx.mono (fun k hk hf => by have h := dis_of hD hR (hdis k hf); exact ⟨h.1, h.2.1, h.2.2, hk⟩)
  have hxl := hx.len
  have hom := ord_le hok
  have hct := clampT_le tn
  have HC : Ch F w w := Ch.refl _ _
  refine enter' (args := [.pointer (some ⟨g, 0, none⟩), .slice Ax lx cx, i64 tn]) (n := 74) Tryd.func21 rfl rfl rfl ?_
  refine wc_seq ?_
  refine wc_region ?_
  refine wl rfl rfl rfl (p_as rfl) ?_
  refine wl_nil ?_
  refine x_seq ?_
  refine wc_seq ?_
  refine wc_seq ?_
  refine wc_region ?_
  refine wl rfl rfl rfl (p_mv rfl) ?_
  refine wle rfl (e_call ent35 rfl rfl (made_any ⟨_, _, _, _, _, _, _, _, _, hD, hR⟩) ?_)
  rintro _ w1 ⟨rfl, hc⟩
  refine ⟨_, rfl, ?_⟩
  have hzw1 := hc.size
  have HC := HC.tr hc
  have hD := hD.ch hc (fun h => h)
  first | have hR := hR.no hc | have hR := hR.ch hc (by intro k hz hk ht; first | omega | (dsimp only at *; omega))
  have hx := hx.no hc
  refine wl rfl rfl rfl (p_not rfl) ?_
  refine wl rfl rfl rfl (p_mv rfl) ?_
  refine wl_g (gd_ rfl rfl rfl rfl rfl rfl) rfl rfl (p_mv rfl) ?_
  refine wl_g (gd_ rfl rfl rfl rfl rfl rfl) rfl rfl (p_nck rfl) ?_
  refine wl_g (gd_ rfl rfl rfl rfl rfl rfl) rfl rfl (p_fld (j := 3) Tryd.underlying47 rfl ⟨_, by rfl⟩ rfl rfl) ?_
  refine wl_g (gd_ rfl rfl rfl rfl rfl rfl) rfl rfl (p_ld Tryd.underlying4 rfl rfl (ld (hD.cell rfl))) ?_
  refine wl rfl rfl rfl (p_pickF rfl rfl) ?_
  refine wl_nil ?_
  refine x_seq ?_
  refine wc_if rfl (fun c0 => ?_) (fun c0 => ?_)
  ·
    have hcr : crS d x tn = (false, d) := crS_off c0
    refine wc_seq ?_
    refine wc_region ?_
    refine wl rfl rfl rfl (p_as rfl) ?_
    refine wl_nil ?_
    refine x_seq ?_
    refine wc_ret ?_
    refine x_then_ret ?_
    refine fin_run (res1 rfl rfl) ?_
    rw [hcr]; first | exact ⟨rfl, ⟨_, _, _, _, _, _, _, _, _, hD, hR⟩, HC⟩ | exact ⟨rfl, ⟨_, _, _, _, _, _, _, _, _, hD, hR.fresh hm65 (hF g65 hge65)⟩, HC⟩
  ·
    have hoff := c0
    have hcr : crS d x tn = (true, crash d x tn) := crS_on c0
    refine wc_skip ?_
    refine x_seq ?_
    refine wc_seq ?_
    refine wc_region ?_
    refine wl rfl rfl rfl (p_as rfl) ?_
    refine wl_nil ?_
    refine x_seq ?_
    refine wc_seq ?_
    refine wc_seq ?_
    refine wc_region ?_
    refine wl rfl rfl rfl (p_mv rfl) ?_
    refine wl rfl rfl rfl (p_nck rfl) ?_
    refine wl rfl rfl rfl (p_fld (j := 2) Tryd.underlying47 rfl ⟨_, by rfl⟩ rfl rfl) ?_
    refine wl rfl rfl rfl (p_ld Tryd.underlying45 rfl rfl (ld (hD.cell rfl))) ?_
    refine wl rfl rfl rfl (p_lenS Tryd.underlying45 rfl) ?_
    refine wl rfl rfl rfl (p_mv rfl) ?_
    refine wl_nil ?_
    refine x_seq ?_
    refine wc_block ?_
    refine wc_loop (e' := [(0, .pointer (some ⟨g, 0, none⟩)), (1, .slice Ax lx cx), (2, i64 tn), (7, .bool (crK d x tn (0)).2), (23, .slice Ao lo co), (24, i64 (lo : Int)), (25, i64 ((0) : Int))]) (fun mz ez uz => ∃ k : Nat, mz = lo - k ∧ ez = [(0, .pointer (some ⟨g, 0, none⟩)), (1, .slice Ax lx cx), (2, i64 tn), (7, .bool (crK d x tn k).2), (23, .slice Ao lo co), (24, i64 (lo : Int)), (25, i64 (k : Int))] ∧ (k ≤ lo) ∧ (∃ ks, Blk uz g 47 (dcell gs n cs gm Ao lo co d.off d.armed Ak lk ck d.torn) ∧ DR TD uz F g n gs gm Ao lo co Ak lk ck (crK d x tn k).1 d.now d.ord d.keep ks ∧ ∀ i ∈ d.ord.drop k, i ∈ ks) ∧ (Sl uz (fun k => k ≠ g ∧ k ≠ gs ∧ k ≠ gm ∧ k < w.heap.size) i64 Ax lx cx x) ∧ (Ch F w uz))
      ⟨rfl, rfl, rfl, rfl, rfl, rfl, rfl, trivial⟩ ⟨0, rfl, rfl, by omega, ⟨d.ord, hD, hR, fun i hi => List.mem_of_mem_drop hi⟩, hx, HC⟩ ?_
    rintro m0 e w2 ⟨k, hm0, rfl, hk, hst, hx, HC⟩
    have hzw2 := HC.size
    obtain ⟨ks, hD, hR, hks⟩ := hst
    refine wc_seq ?_
    refine wc_region ?_
    refine wl rfl rfl rfl (p_lt rfl rfl) ?_
    refine wl_nil ?_
    refine x_seq ?_
    refine wc_seq ?_
    refine wc_if rfl (fun c1 => ?_) (fun c1 => ?_)
    ·
      have c1 := of_decide_eq_true c1
      have hkl : k < d.ord.length := by omega
      refine wc_skip ?_
      refine x_seq ?_
      refine wc_seq ?_
      refine wc_block ?_
      refine wc_seq ?_
      refine wc_region ?_
      obtain ⟨b3, o3, hA3, hF3, hc3⟩ := (hR.hO.sl).opn (d := 0) (by omega)
      refine wl rfl rfl rfl (p_ixS1 Tryd.underlying45 sz3 rfl hA3 rfl (by omega) (by omega) (Int.toNat_natCast _)) ?_
      refine wl rfl rfl rfl (p_ld Tryd.underlying3 rfl rfl (ld (hc3 _ (by omega)))) ?_
      obtain ⟨i, hi⟩ : ∃ i, i = d.ord.getD k 0 := ⟨_, rfl⟩
      rw [← hi]
      have hid : i ∈ d.ord.drop k := by rw [hi]; exact drop_head hkl
      have hin : i < n := hok.lt i (List.mem_of_mem_drop hid)
      have hnx := crK_next (d := d) (keep := x) (torn := tn) hkl
      rw [← hi] at hnx
      have hrest : ∀ j ∈ d.ord.drop (k + 1), j ∈ d.ord.drop k ∧ j ≠ i := fun j hj => by rw [hi]; exact drop_rest hkl hok.nd hj
      refine wl rfl rfl rfl (p_as rfl) ?_
      refine wl_nil ?_
      refine x_seq ?_
      refine wc_block ?_
      refine wc_seq ?_
      refine wc_region ?_
      refine wl rfl rfl rfl (p_mv rfl) ?_
      refine wl rfl rfl rfl (p_mv rfl) ?_
      refine wle rfl (e_call ent36 rfl rfl (contains_any (hx) (by have := (hx).cap; omega)) ?_)
      rintro _ w4 ⟨rfl, hc⟩
      refine ⟨_, rfl, ?_⟩
      have hzw4 := hc.size
      have HC := HC.tr hc
      have hx := hx.no hc
      have hD := hD.ch hc (fun h => h)
      first | have hR := hR.no hc | have hR := hR.ch hc (by intro k hz hk ht; first | omega | (dsimp only at *; omega))
      refine wl rfl rfl rfl (p_as rfl) ?_
      refine wl_nil ?_
      refine x_seq ?_
      refine wc_if rfl (fun c2 => ?_) (fun c2 => ?_)
      ·
        have c2 := of_decide_eq_true c2
        rw [crash1_keep c2] at hnx
        refine wc_region ?_
        refine wl rfl rfl rfl (p_mv rfl) ?_
        refine wl rfl rfl rfl (p_mv rfl) ?_
        refine wle rfl (e_call ent37 rfl rfl (settle_any hD hR (hks i hid) hin hn (crK_len hok x tn k) hok.w) ?_)
        rintro _ w5 ⟨rfl, hc, hD, hR⟩
        refine ⟨_, rfl, ?_⟩
        have HC := HC.trans hc (fun _ _ h => h) (fun k hk ht => by rcases ht with rfl | rfl; exact hR.fs; exact hR.fm)
        have hx := hx.ch hc (by intro k hk ht; omega)
        have hzw5 := hc.size
        refine wl_nil ?_
        refine x_in_normal ?_
        refine x_in_normal ?_
        refine x_seq ?_
        refine wc_region ?_
        refine wl rfl rfl rfl (p_add rfl rfl (w64 (by omega))) ?_
        refine wl rfl rfl rfl (p_mv rfl) ?_
        refine wl_nil ?_
        refine x_round (e' := [(0, .pointer (some ⟨g, 0, none⟩)), (1, .slice Ax lx cx), (2, i64 tn), (7, .bool (crK d x tn (k + 1)).2), (23, .slice Ao lo co), (24, i64 (lo : Int)), (25, i64 ((k + 1) : Int))]) ⟨rfl, rfl, rfl, (by rw [hnx]; first | rfl | (rw [b_of_nf c3]; rfl)), rfl, rfl, rfl, trivial⟩ (by rw [hm0]; omega) ⟨k + 1, rfl, rfl, by omega, by first | exact ⟨_, hD, by rw [hnx]; exact hR, fun j hj => List.mem_filter.2 ⟨hks j (hrest j hj).1, by simpa using (hrest j hj).2⟩⟩ | exact ⟨_, hD, by rw [hnx]; exact hR, fun j hj => hks j (hrest j hj).1⟩, hx, HC⟩
      ·
        have c2 := of_decide_eq_false c2
        refine wc_seq ?_
        refine wc_region ?_
        refine wl rfl rfl rfl (p_mv rfl) ?_
        refine wl rfl rfl rfl (p_not rfl) ?_
        refine wl rfl rfl rfl (p_as rfl) ?_
        refine wl_nil ?_
        refine x_seq ?_
        refine wc_if rfl (fun c3 => ?_) (fun c3 => ?_)
        ·
          rw [crash1_torn c2 (b_of_nt c3)] at hnx
          refine wc_seq ?_
          refine wc_region ?_
          refine wl rfl rfl rfl (p_as rfl) ?_
          refine wl_nil ?_
          refine x_seq ?_
          refine wc_seq ?_
          refine wc_region ?_
          refine wl rfl rfl rfl (p_mv rfl) ?_
          refine wl rfl rfl rfl ((p_min rfl rfl).to (congrArg i64 (show (if (32 : Int) < tn then 32 else tn) = min tn 32 by split <;> omega))) ?_
          refine wl rfl rfl rfl ((p_max rfl rfl).to (congrArg i64 (show (if (0 : Int) > min tn 32 then 0 else min tn 32) = ((clampT tn : Nat) : Int) by unfold clampT; split <;> omega))) ?_
          refine wl rfl rfl rfl (p_as rfl) ?_
          refine wl_nil ?_
          refine x_seq ?_
          refine wc_draw (.st 0 0 (.st 1 0 (.st 2 0 (.st 3 1 (.st 4 0 (.st 5 0 (.st 6 0 (.st 7 0 (.st 8 0 (.st 9 0 (.st 10 0 (.st 11 1 (.st 12 0 (.st 13 1 (.st 14 0 (.st 15 0 (.st 16 0 (.st 17 3 .nil)))))))))))))))))) 17 (by kernel_rfl) (by kernel_rfl) (by kernel_rfl) (by repeat (first | with_reducible exact pan_body | with_reducible apply pan_then | with_reducible apply pan_in)) (fun x => Ch No w4.drew x) (Ch.refl _ _) ?_
          obtain ⟨w6, ew6⟩ : ∃ x, x = w4.drew := ⟨_, rfl⟩
          rw [← ew6]
          have hc : Ch No w4 w6 := by rw [ew6]; exact Ch.drew _
          have hszw6 : w6.heap.size = w4.heap.size := by rw [ew6]; rfl
          clear ew6
          have hzw6 := hc.size
          have HC := HC.tr hc
          have hx := hx.no hc
          have hD := hD.ch hc (fun h => h)
          first | have hR := hR.no hc | have hR := hR.ch hc (by intro k hz hk ht; first | omega | (dsimp only at *; omega))
          have hS : Ch No w6 w6 := Ch.refl _ _
          refine ws_p rfl rfl rfl rfl (p_mv rfl) ?_
          refine ws_p rfl rfl rfl rfl (p_nck rfl) ?_
          refine ws_p rfl rfl rfl rfl (p_fld (j := 0) Tryd.underlying47 rfl ⟨_, by rfl⟩ rfl rfl) ?_
          refine ws_h rfl rfl rfl rfl (p_ld Tryd.underlying43 rfl rfl (fun _ h => h.cell (fun h => h) (hD.cell rfl))) ?_
          refine ws_p rfl rfl rfl rfl (p_mv rfl) ?_
          refine ws_p rfl rfl rfl rfl (p_ixS (j := i * 32) Tryd.underlying43 sz71 rfl rfl rfl (by omega) (by omega) (congrArg (· * 32) (Int.toNat_natCast _))) ?_
          refine ws_p rfl rfl rfl rfl (p_mv rfl) ?_
          refine ws_p rfl rfl rfl rfl (p_slTo (N := 31) (h := clampT tn) Tryd.underlying71 sz5 rfl rfl (clampT_le tn)) ?_
          refine ws_p rfl rfl rfl rfl (p_mv rfl) ?_
          refine ws_p rfl rfl rfl rfl (p_nck rfl) ?_
          refine ws_p rfl rfl rfl rfl (p_fld (j := 1) Tryd.underlying47 rfl ⟨_, by rfl⟩ rfl rfl) ?_
          refine ws_h rfl rfl rfl rfl (p_ld Tryd.underlying44 rfl rfl (fun _ h => h.cell (fun h => h) (hD.cell rfl))) ?_
          refine ws_p rfl rfl rfl rfl (p_mv rfl) ?_
          obtain ⟨p, hp, hpc⟩ := hR.find Tryd.underlying44 Tryd.underlying3 (by rfl) i
          obtain ⟨b, rfl, _, hbE, hbne, hbF, hbin⟩ := hpc.resolve_left (fun h => h.2 (hks i hid))
          refine ws_h rfl rfl rfl rfl (p_lookR rfl rfl (fun x h => hp x h)) ?_
          refine ws_p rfl rfl rfl rfl (p_nck rfl) ?_
          refine ws_p rfl rfl rfl rfl (p_mv rfl) ?_
          have hS58 := Sl.to (h := clampT tn) hbE (sec_len hok.w hin) (clampT_le tn)
          refine ws_p rfl rfl rfl rfl (p_slTo (N := 31) (h := clampT tn) Tryd.underlying71 sz5 rfl rfl (clampT_le tn)) ?_
          obtain ⟨zz, hS0⟩ := hR.hZ
          refine ws_l rfl rfl (e_copyZ (o := 0 + i * 32) (L := (crK d x tn k).1) rfl Tryd.underlying22 sz5 rfl rfl hS0 hS58 (by rw [crK_len hok]; omega) (fun w7 hs2 hc hsz => ?_))
          rw [show 0 + i * 32 = 32 * i by omega, Nat.min_self, List.take_take, Nat.min_self] at hs2
          have hD := hD.ch hc hne1
          have hR := hR.safe hc ⟨zz, hs2⟩
          have HC := HC.trans hc (fun _ _ h => h) (fun k hk ht => by rw [ht]; exact hR.fs)
          have hx := hx.ch hc (by intro k hk ht; omega)
          have hzw7 := hc.size
          refine ws_n ?_
          refine x_in_normal ?_
          refine x_in_normal ?_
          refine x_seq ?_
          refine wc_region ?_
          refine wl rfl rfl rfl (p_add rfl rfl (w64 (by omega))) ?_
          refine wl rfl rfl rfl (p_mv rfl) ?_
          refine wl_nil ?_
          refine x_round (e' := [(0, .pointer (some ⟨g, 0, none⟩)), (1, .slice Ax lx cx), (2, i64 tn), (7, .bool (crK d x tn (k + 1)).2), (23, .slice Ao lo co), (24, i64 (lo : Int)), (25, i64 ((k + 1) : Int))]) ⟨rfl, rfl, rfl, (by rw [hnx]; first | rfl | (rw [b_of_nf c3]; rfl)), rfl, rfl, rfl, trivial⟩ (by rw [hm0]; omega) ⟨k + 1, rfl, rfl, by omega, by first | exact ⟨_, hD, by rw [hnx]; exact hR, fun j hj => List.mem_filter.2 ⟨hks j (hrest j hj).1, by simpa using (hrest j hj).2⟩⟩ | exact ⟨_, hD, by rw [hnx]; exact hR, fun j hj => hks j (hrest j hj).1⟩, hx, HC⟩
        ·
          rw [crash1_two c2 (b_of_nf c3)] at hnx
          refine wc_skip ?_
          refine x_in_normal ?_
          refine x_in_normal ?_
          refine x_seq ?_
          refine wc_region ?_
          refine wl rfl rfl rfl (p_add rfl rfl (w64 (by omega))) ?_
          refine wl rfl rfl rfl (p_mv rfl) ?_
          refine wl_nil ?_
          refine x_round (e' := [(0, .pointer (some ⟨g, 0, none⟩)), (1, .slice Ax lx cx), (2, i64 tn), (7, .bool (crK d x tn (k + 1)).2), (23, .slice Ao lo co), (24, i64 (lo : Int)), (25, i64 ((k + 1) : Int))]) ⟨rfl, rfl, rfl, (by rw [hnx]; first | rfl | (rw [b_of_nf c3]; rfl)), rfl, rfl, rfl, trivial⟩ (by rw [hm0]; omega) ⟨k + 1, rfl, rfl, by omega, by first | exact ⟨_, hD, by rw [hnx]; exact hR, fun j hj => List.mem_filter.2 ⟨hks j (hrest j hj).1, by simpa using (hrest j hj).2⟩⟩ | exact ⟨_, hD, by rw [hnx]; exact hR, fun j hj => hks j (hrest j hj).1⟩, hx, HC⟩
    ·
      have c1 := of_decide_eq_false c1
      have hkl : k = d.ord.length := by omega
      subst hkl
      rw [crK_all] at hR
      refine wc_exit ?_
      refine x_then_exit ?_
      refine x_then_exit ?_
      refine x_in_here ?_
      refine x_seq ?_
      refine wc_seq ?_
      refine wc_region ?_
      refine wl rfl rfl rfl (p_mv rfl) ?_
      refine wl rfl rfl rfl (p_mv rfl) ?_
      refine wl rfl rfl rfl (p_mv rfl) ?_
      refine wl rfl rfl rfl (p_mv rfl) ?_
      refine wle rfl (e_mkMap rfl (fun w8 g65 hg65 hm65 hc hsz65 => ?_))
      have hzw8 := hc.size
      have HC := HC.tr hc
      have hx := hx.no hc
      have hD := hD.ch hc (fun h => h)
      first | have hR := hR.no hc | have hR := hR.ch hc (by intro k hz hk ht; first | omega | (dsimp only at *; omega))
      have hge65 : w.heap.size ≤ g65 := by have := HC.size; omega
      refine wl rfl rfl rfl (p_nck rfl) ?_
      refine wl rfl rfl rfl (p_fld (j := 1) Tryd.underlying47 rfl ⟨_, by rfl⟩ rfl rfl) ?_
      refine wle rfl (e_stD (T := TD) (j := 1) (by rfl) rfl rfl rfl hD hR (show 1 < 7 by decide) (fun w9 hD hR hc hsz => ?_))
      have hzw9 := hc.size
      have HC := HC.trans hc (fun _ _ h => h) (fun k hk ht => (by rw [ht]; exact hR.fg))
      first | have hx := hx.ch hc (by intro k hk ht; first | omega | (dsimp only at *; omega)) | have hx := hx.chT hc (by intro k hz hk ht; first | omega | (dsimp only at *; omega))
      first | have hm65 := hm65.ch hc (fun h => h) | have hm65 := hm65.ch hc (by omega)
      refine wl rfl rfl rfl (p_nck rfl) ?_
      refine wl rfl rfl rfl (p_fld (j := 2) Tryd.underlying47 rfl ⟨_, by rfl⟩ rfl rfl) ?_
      refine wle rfl (e_stD (T := TD) (j := 2) (by rfl) rfl rfl rfl hD hR (show 2 < 7 by decide) (fun w10 hD hR hc hsz => ?_))
      have hzw10 := hc.size
      have HC := HC.trans hc (fun _ _ h => h) (fun k hk ht => (by rw [ht]; exact hR.fg))
      first | have hx := hx.ch hc (by intro k hk ht; first | omega | (dsimp only at *; omega)) | have hx := hx.chT hc (by intro k hz hk ht; first | omega | (dsimp only at *; omega))
      first | have hm65 := hm65.ch hc (fun h => h) | have hm65 := hm65.ch hc (by omega)
      refine wl rfl rfl rfl (p_nck rfl) ?_
      refine wl rfl rfl rfl (p_fld (j := 3) Tryd.underlying47 rfl ⟨_, by rfl⟩ rfl rfl) ?_
      refine wle rfl (e_stD (T := TD) (j := 3) (by rfl) rfl rfl rfl hD hR (show 3 < 7 by decide) (fun w11 hD hR hc hsz => ?_))
      have hzw11 := hc.size
      have HC := HC.trans hc (fun _ _ h => h) (fun k hk ht => (by rw [ht]; exact hR.fg))
      first | have hx := hx.ch hc (by intro k hk ht; first | omega | (dsimp only at *; omega)) | have hx := hx.chT hc (by intro k hz hk ht; first | omega | (dsimp only at *; omega))
      first | have hm65 := hm65.ch hc (fun h => h) | have hm65 := hm65.ch hc (by omega)
      refine wl rfl rfl rfl (p_nck rfl) ?_
      refine wl rfl rfl rfl (p_fld (j := 4) Tryd.underlying47 rfl ⟨_, by rfl⟩ rfl rfl) ?_
      refine wle rfl (e_stD (T := TD) (j := 4) (by rfl) rfl rfl rfl hD hR (show 4 < 7 by decide) (fun w12 hD hR hc hsz => ?_))
      have hzw12 := hc.size
      have HC := HC.trans hc (fun _ _ h => h) (fun k hk ht => (by rw [ht]; exact hR.fg))
      first | have hx := hx.ch hc (by intro k hk ht; first | omega | (dsimp only at *; omega)) | have hx := hx.chT hc (by intro k hz hk ht; first | omega | (dsimp only at *; omega))
      first | have hm65 := hm65.ch hc (fun h => h) | have hm65 := hm65.ch hc (by omega)
      refine wl_nil ?_
      refine x_seq ?_
      refine wc_seq ?_
      refine wc_region ?_
      refine wl rfl rfl rfl (p_as rfl) ?_
      refine wl_nil ?_
      refine x_seq ?_
      refine wc_ret ?_
      refine fin_run (res1 rfl rfl) ?_
      rw [hcr]; first | exact ⟨rfl, ⟨_, _, _, _, _, _, _, _, _, hD, hR⟩, HC⟩ | exact ⟨rfl, ⟨_, _, _, _, _, _, _, _, _, hD, hR.fresh hm65 (hF g65 hge65)⟩, HC⟩

set_option maxHeartbeats 1000000 in
set_option maxRecDepth 20000 in
theorem strikes_any {w : World} {F : Nat → Prop} {g n : Nat} {d : DS} (hd : DkAt TD w F g n d) (hok : d.Ok n) (hn : n ≤ 4096) (hF : ∀ k, w.heap.size ≤ k → F k) (hoff : d.off = false) (harm : d.armed ≤ 9223372036854775807) :
    Calls Tryd.prog 48 #[.pointer (some ⟨g, 0, none⟩)] w fun e w' => e = .returned (.bool (strk d).1) ∧ DkAt TD w' F g n (strk d).2 ∧ Ch F w w' := by
  obtain ⟨gs, cs, gm, Ao, lo, co, Ak, lk, ck, hD, hR⟩ := hd
  have hlk := hR.kcap
  have hgl := hD.lt
  have HC : Ch F w w := Ch.refl _ _
  refine enter' (args := [.pointer (some ⟨g, 0, none⟩)]) (n := 30) Tryd.func48 rfl rfl rfl ?_
  refine wc_seq ?_
  refine wc_region ?_
  refine wl rfl rfl rfl (p_as rfl) ?_
  refine wl_nil ?_
  refine x_seq ?_
  refine wc_seq ?_
  refine wc_seq ?_
  refine wc_region ?_
  refine wl rfl rfl rfl (p_mv rfl) ?_
  refine wl rfl rfl rfl (p_nck rfl) ?_
  refine wl rfl rfl rfl (p_fld (j := 4) Tryd.underlying47 rfl ⟨_, by rfl⟩ rfl rfl) ?_
  refine wl rfl rfl rfl (p_ld Tryd.underlying3 rfl rfl (ld (hD.cell rfl))) ?_
  refine wl rfl rfl rfl (p_eq rfl rfl) ?_
  refine wl_nil ?_
  refine x_seq ?_
  refine wc_if rfl (fun c0 => ?_) (fun c0 => ?_)
  ·
    have c0 := of_decide_eq_true c0
    have hst : strk d = (false, d) := strk_0 (by omega)
    refine wc_seq ?_
    refine wc_region ?_
    refine wl rfl rfl rfl (p_as rfl) ?_
    refine wl_nil ?_
    refine x_seq ?_
    refine wc_ret ?_
    refine x_then_ret ?_
    refine fin_run (res1 rfl rfl) ?_
    rw [hst]; first | exact ⟨rfl, ⟨_, _, _, _, _, _, _, _, _, hD, hR⟩, HC⟩ | exact ⟨rfl, hd, HC⟩
  ·
    have c0 := of_decide_eq_false c0
    refine wc_skip ?_
    refine x_seq ?_
    refine wc_seq ?_
    refine wc_seq ?_
    refine wc_region ?_
    refine wl rfl rfl rfl (p_mv rfl) ?_
    refine wl rfl rfl rfl (p_nck rfl) ?_
    refine wl rfl rfl rfl (p_fld (j := 4) Tryd.underlying47 rfl ⟨_, by rfl⟩ rfl rfl) ?_
    refine wl rfl rfl rfl (p_ld Tryd.underlying3 rfl rfl (ld (hD.cell rfl))) ?_
    refine wl rfl rfl rfl (p_sub (Z := ((d.armed - 1 : Nat) : Int)) rfl rfl (by rw [w64 (by have := harm; omega)]; omega)) ?_
    refine wl rfl rfl rfl (p_nck rfl) ?_
    refine wl rfl rfl rfl (p_fld (j := 4) Tryd.underlying47 rfl ⟨_, by rfl⟩ rfl rfl) ?_
    refine wle rfl (e_stD (T := TD) (j := 4) (by rfl) rfl rfl rfl hD hR (show 4 < 7 by decide) (fun w1 hD hR hc hsz => ?_))
    have hzw1 := hc.size
    have HC := HC.trans hc (fun _ _ h => h) (fun k hk ht => (by rw [ht]; exact hR.fg))
    refine wl_nil ?_
    refine x_seq ?_
    refine wc_seq ?_
    refine wc_region ?_
    refine wl rfl rfl rfl (p_mv rfl) ?_
    refine wl rfl rfl rfl (p_nck rfl) ?_
    refine wl rfl rfl rfl (p_fld (j := 4) Tryd.underlying47 rfl ⟨_, by rfl⟩ rfl rfl) ?_
    refine wl rfl rfl rfl (p_ld Tryd.underlying3 rfl rfl (ld (hD.cell rfl))) ?_
    refine wl rfl rfl rfl (p_gt rfl rfl) ?_
    refine wl_nil ?_
    refine x_seq ?_
    refine wc_if rfl (fun c1 => ?_) (fun c1 => ?_)
    ·
      have c1 := of_decide_eq_true c1
      have hst : strk d = (false, { d with armed := d.armed - 1 }) := strk_n (by omega)
      refine wc_seq ?_
      refine wc_region ?_
      refine wl rfl rfl rfl (p_as rfl) ?_
      refine wl_nil ?_
      refine x_seq ?_
      refine wc_ret ?_
      refine x_then_ret ?_
      refine fin_run (res1 rfl rfl) ?_
      rw [hst]; first | exact ⟨rfl, ⟨_, _, _, _, _, _, _, _, _, hD, hR⟩, HC⟩ | exact ⟨rfl, hd, HC⟩
    ·
      have c1 := of_decide_eq_false c1
      have hst : strk d = (true, crash d d.keep d.torn) := strk_1 (by omega)
      refine wc_skip ?_
      refine x_seq ?_
      refine wc_seq ?_
      refine wc_draw (.st 0 0 (.st 1 0 (.st 2 0 (.st 3 0 (.st 4 1 (.st 5 0 (.st 6 0 (.st 7 0 (.st 8 1 (.st 9 3 (.st 10 0 .nil))))))))))) 9 (by kernel_rfl) (by kernel_rfl) (by kernel_rfl) (by repeat (first | with_reducible exact pan_body | with_reducible apply pan_then | with_reducible apply pan_in)) (fun x => Ch No w1.drew x) (Ch.refl _ _) ?_
      obtain ⟨w2, ew2⟩ : ∃ x, x = w1.drew := ⟨_, rfl⟩
      rw [← ew2]
      have hc : Ch No w1 w2 := by rw [ew2]; exact Ch.drew _
      have hszw2 : w2.heap.size = w1.heap.size := by rw [ew2]; rfl
      clear ew2
      have hzw2 := hc.size
      have HC := HC.tr hc
      have hD := hD.ch hc (fun h => h)
      first | have hR := hR.no hc | have hR := hR.ch hc (by intro k hz hk ht; first | omega | (dsimp only at *; omega))
      have hS : Ch No w2 w2 := Ch.refl _ _
      refine ws_p rfl rfl rfl rfl (p_mv rfl) ?_
      refine ws_p rfl rfl rfl rfl (p_mv rfl) ?_
      refine ws_p rfl rfl rfl rfl (p_nck rfl) ?_
      refine ws_p rfl rfl rfl rfl (p_fld (j := 5) Tryd.underlying47 rfl ⟨_, by rfl⟩ rfl rfl) ?_
      refine ws_h rfl rfl rfl rfl (p_ld Tryd.underlying45 rfl rfl (fun _ h => h.cell (fun h => h) (hD.cell rfl))) ?_
      refine ws_p rfl rfl rfl rfl (p_mv rfl) ?_
      refine ws_p rfl rfl rfl rfl (p_nck rfl) ?_
      refine ws_p rfl rfl rfl rfl (p_fld (j := 6) Tryd.underlying47 rfl ⟨_, by rfl⟩ rfl rfl) ?_
      refine ws_h rfl rfl rfl rfl (p_ld Tryd.underlying3 rfl rfl (fun _ h => h.cell (fun h => h) (hD.cell rfl))) ?_
      refine ws_l rfl rfl (e_call ent21 rfl rfl (crash_any (d := { d with armed := d.armed - 1 }) ⟨_, _, _, _, _, _, _, _, _, hD, hR⟩ hR.kSl (by have := hR.kSl.cap; have := hlk; omega) (by intro k hk; exact .inr hk) ⟨hok.s, hok.w, hok.nd, hok.lt, hok.same⟩ hn (by intro k hk; exact hF k (by omega))) ?_)
      rintro _ w3 ⟨rfl, hd, hc⟩
      refine ⟨_, rfl, ?_⟩
      have HC := HC.trans hc (fun _ _ h => h) (fun _ _ h => h)
      have hzw3 := hc.size
      rw [crS_on (d := { d with armed := d.armed - 1 }) hoff] at hd ⊢
      refine ws_p rfl rfl rfl rfl (p_as rfl) ?_
      refine ws_n ?_
      refine x_seq ?_
      refine wc_ret ?_
      refine fin_run (res1 rfl rfl) ?_
      rw [hst]; first | exact ⟨rfl, ⟨_, _, _, _, _, _, _, _, _, hD, hR⟩, HC⟩ | exact ⟨rfl, hd, HC⟩

set_option maxHeartbeats 1000000 in
set_option maxRecDepth 20000 in
theorem arm_any {w : World} {F : Nat → Prop} {g n : Nat} {d : DS} {Ax : Option Addr} {lx cx : Nat} {Fx : Nat → Prop} {x : List Int} {tn : Int} {v : Int} (hd : DkAt TD w F g n d) (hx : Sl w Fx i64 Ax lx cx x) (hlx : lx ≤ 17592186044416) (hF : ∀ k, w.heap.size ≤ k → F k) :
    Calls Tryd.prog 23 #[.pointer (some ⟨g, 0, none⟩), i64 v, .slice Ax lx cx, i64 tn] w fun e w' => e = .returned (.tuple #[]) ∧ DkAt TD w' F g n (armS d v x tn) ∧ Ch F w w' := by
  obtain ⟨gs, cs, gm, Ao, lo, co, Ak, lk, ck, hD, hR⟩ := hd
  have hgl := hD.lt
  have hool : ∀ k, (Value.slice Ao lo co).ownBlock = some k → k < w.heap.size := fun k hk => (hR.hO.own.lt k hk).2
  have HC : Ch F w w := Ch.refl _ _
  refine enter' (args := [.pointer (some ⟨g, 0, none⟩), i64 v, .slice Ax lx cx, i64 tn]) (n := 24) Tryd.func23 rfl rfl rfl ?_
  refine wc_seq ?_
  refine wc_region ?_
  refine wl rfl rfl rfl (p_mv rfl) ?_
  refine wle rfl (e_call ent35 rfl rfl (made_any ⟨_, _, _, _, _, _, _, _, _, hD, hR⟩) ?_)
  rintro _ w1 ⟨rfl, hc⟩
  refine ⟨_, rfl, ?_⟩
  have hzw1 := hc.size
  have HC := HC.tr hc
  have hD := hD.ch hc (fun h => h)
  first | have hR := hR.no hc | have hR := hR.ch hc (by intro k hz hk ht; first | omega | (dsimp only at *; omega))
  have hx := hx.no hc
  refine wl_nil ?_
  refine x_seq ?_
  refine wc_yes rfl (rfl) ?_
  refine wc_region ?_
  refine wl rfl rfl rfl (p_mv rfl) ?_
  refine wl rfl rfl rfl (p_mv rfl) ?_
  refine wl rfl rfl rfl (p_mv rfl) ?_
  refine wl rfl rfl rfl (p_mv rfl) ?_
  refine wl rfl rfl rfl ((p_max rfl rfl).to (congrArg i64 armS_max)) ?_
  refine wl rfl rfl rfl (p_mv rfl) ?_
  refine wle rfl (e_call ent38 rfl rfl (clonei_any (hx) (by first | omega | (have := (hx).cap; omega))) ?_)
  rintro _ w2 ⟨A16, c16, rfl, hW16, hc⟩
  refine ⟨_, rfl, ?_⟩
  have hzw2 := hc.size
  have HC := HC.tr hc
  have hD := hD.ch hc (fun h => h)
  first | have hR := hR.no hc | have hR := hR.ch hc (by intro k hz hk ht; first | omega | (dsimp only at *; omega))
  have hx := hx.no hc
  have hdk : ∀ k, (Value.slice Ao lo co).ownBlock = some k → (Value.slice A16 lx c16).ownBlock ≠ some k := fun k hk e => by have := hool k hk; have := hW16.at_ k e; have := HC.size; omega
  refine wl rfl rfl rfl (p_mv rfl) ?_
  refine wl rfl rfl rfl (p_nck rfl) ?_
  refine wl rfl rfl rfl (p_fld (j := 4) Tryd.underlying47 rfl ⟨_, by rfl⟩ rfl rfl) ?_
  refine wle rfl (e_stD (T := TD) (j := 4) (by rfl) rfl rfl rfl hD hR (show 4 < 7 by decide) (fun w3 hD hR hc hsz => ?_))
  have hzw3 := hc.size
  have HC := HC.trans hc (fun _ _ h => h) (fun k hk ht => (by rw [ht]; exact hR.fg))
  have hW16 := hW16.ch hc (by intro k hz hk ht; first | omega | (dsimp only at *; omega))
  refine wl rfl rfl rfl (p_nck rfl) ?_
  refine wl rfl rfl rfl (p_fld (j := 5) Tryd.underlying47 rfl ⟨_, by rfl⟩ rfl rfl) ?_
  refine wle rfl (e_stD (T := TD) (j := 5) (by rfl) rfl rfl rfl hD hR (show 5 < 7 by decide) (fun w4 hD hR hc hsz => ?_))
  have hzw4 := hc.size
  have HC := HC.trans hc (fun _ _ h => h) (fun k hk ht => (by rw [ht]; exact hR.fg))
  have hW16 := hW16.ch hc (by intro k hz hk ht; first | omega | (dsimp only at *; omega))
  refine wl rfl rfl rfl (p_nck rfl) ?_
  refine wl rfl rfl rfl (p_fld (j := 6) Tryd.underlying47 rfl ⟨_, by rfl⟩ rfl rfl) ?_
  refine wle rfl (e_stD (T := TD) (j := 6) (by rfl) rfl rfl rfl hD hR (show 6 < 7 by decide) (fun w5 hD hR hc hsz => ?_))
  have hzw5 := hc.size
  have HC := HC.trans hc (fun _ _ h => h) (fun k hk ht => (by rw [ht]; exact hR.fg))
  have hW16 := hW16.ch hc (by intro k hz hk ht; first | omega | (dsimp only at *; omega))
  refine wl_nil ?_
  refine fin_run_n (res0 rfl) ?_
  first | exact ⟨rfl, ⟨_, _, _, _, _, _, _, _, _, hD, hR.setKeep (hW16.mono (fun k _ hk => hF k (by first | omega | (dsimp only at *; omega)))) hdk⟩, HC⟩

set_option maxHeartbeats 2000000 in
set_option maxRecDepth 20000 in
theorem sync_any {w : World} {F : Nat → Prop} {g n : Nat} {d : DS} (hd : DkAt TD w F g n d) (hok : d.Ok n) (hn : n ≤ 4096) (hF : ∀ k, w.heap.size ≤ k → F k) (harm : d.armed ≤ 9223372036854775807) :
    Calls Tryd.prog 34 #[.pointer (some ⟨g, 0, none⟩)] w fun e w' => e = .returned (i64 (syS d).1) ∧ DkAt TD w' F g n (syS d).2 ∧ Ch F w w' := by
  obtain ⟨gs, cs, gm, Ao, lo, co, Ak, lk, ck, hD, hR⟩ := hd
  have hol0 := hR.hO.sl.len
  have HC : Ch F w w := Ch.refl _ _
  refine enter' (args := [.pointer (some ⟨g, 0, none⟩)]) (n := 35) Tryd.func34 rfl rfl rfl ?_
  refine wc_seq ?_
  refine wc_region ?_
  refine wl rfl rfl rfl (p_as rfl) ?_
  refine wl_nil ?_
  refine x_seq ?_
  refine wc_seq ?_
  refine wc_seq ?_
  refine wc_region ?_
  refine wl rfl rfl rfl (p_mv rfl) ?_
  refine wle rfl (e_call ent39 rfl rfl (may_any ⟨_, _, _, _, _, _, _, _, _, hD, hR⟩) ?_)
  rintro _ w1 ⟨rfl, hc⟩
  refine ⟨_, rfl, ?_⟩
  have hzw1 := hc.size
  have HC := HC.tr hc
  have hD := hD.ch hc (fun h => h)
  first | have hR := hR.no hc | have hR := hR.ch hc (by intro k hz hk ht; first | omega | (dsimp only at *; omega))
  refine wl rfl rfl rfl (p_as rfl) ?_
  refine wl_nil ?_
  refine x_seq ?_
  refine wc_seq ?_
  refine wc_region ?_
  refine wl rfl rfl rfl (p_mv rfl) ?_
  refine wl rfl rfl rfl (p_ne rfl rfl) ?_
  refine wl_nil ?_
  refine x_seq ?_
  refine wc_if rfl (fun c0 => ?_) (fun c0 => ?_)
  ·
    have c0 := of_decide_eq_true c0
    have hst : syS d = (7, d) := syS_off (off_of c0)
    have hoff := off_of c0
    refine wc_seq ?_
    refine wc_region ?_
    refine wl rfl rfl rfl (p_mv rfl) ?_
    refine wl rfl rfl rfl (p_as rfl) ?_
    refine wl_nil ?_
    refine x_seq ?_
    refine wc_ret ?_
    refine x_then_ret ?_
    refine fin_run (res1 rfl rfl) ?_
    rw [hst]
    first
      | exact ⟨rfl, ⟨_, _, _, _, _, _, _, _, _, hD, hR⟩, HC⟩
      | exact ⟨by rw [hoff]; rfl, ⟨_, _, _, _, _, _, _, _, _, hD, hR⟩, HC⟩
      | exact ⟨rfl, hd, HC⟩
      | exact ⟨rfl, ⟨_, _, _, _, _, _, _, _, _, hD, hR.clean hkn⟩, HC⟩
  ·
    have c0 := of_decide_eq_false c0
    have hoff := on_of c0
    refine wc_skip ?_
    refine x_seq ?_
    refine wc_seq ?_
    refine wc_seq ?_
    refine wc_region ?_
    refine wl rfl rfl rfl (p_mv rfl) ?_
    refine wl rfl rfl rfl (p_nck rfl) ?_
    refine wl rfl rfl rfl (p_fld (j := 2) Tryd.underlying47 rfl ⟨_, by rfl⟩ rfl rfl) ?_
    refine wl rfl rfl rfl (p_ld Tryd.underlying45 rfl rfl (ld (hD.cell rfl))) ?_
    refine wl rfl rfl rfl (p_lenS Tryd.underlying45 rfl) ?_
    refine wl rfl rfl rfl (p_eq rfl rfl) ?_
    refine wl_nil ?_
    refine x_seq ?_
    refine wc_if rfl (fun c1 => ?_) (fun c1 => ?_)
    ·
      have c1 := of_decide_eq_true c1
      have hst : syS d = (0, d) := syS_none hoff (List.eq_nil_of_length_eq_zero (by omega))
      refine wc_seq ?_
      refine wc_region ?_
      refine wl rfl rfl rfl (p_as rfl) ?_
      refine wl_nil ?_
      refine x_seq ?_
      refine wc_ret ?_
      refine x_then_ret ?_
      refine fin_run (res1 rfl rfl) ?_
      rw [hst]
      first
        | exact ⟨rfl, ⟨_, _, _, _, _, _, _, _, _, hD, hR⟩, HC⟩
        | exact ⟨by rw [hoff]; rfl, ⟨_, _, _, _, _, _, _, _, _, hD, hR⟩, HC⟩
        | exact ⟨rfl, hd, HC⟩
        | exact ⟨rfl, ⟨_, _, _, _, _, _, _, _, _, hD, hR.clean hkn⟩, HC⟩
    ·
      have c1 := of_decide_eq_false c1
      have hne0 : d.ord ≠ [] := fun e => c1 (by rw [← hol0, e]; rfl)
      refine wc_skip ?_
      refine x_seq ?_
      refine wc_seq ?_
      refine wc_seq ?_
      refine wc_region ?_
      refine wl rfl rfl rfl (p_mv rfl) ?_
      refine wle rfl (e_call ent48 rfl rfl (strikes_any ⟨_, _, _, _, _, _, _, _, _, hD, hR⟩ hok hn (by intro k hk; exact hF k (by omega)) hoff harm) ?_)
      rintro _ w2 ⟨rfl, hd, hc⟩
      refine ⟨_, rfl, ?_⟩
      have HC := HC.trans hc (fun _ _ h => h) (fun _ _ h => h)
      have hzw2 := hc.size
      refine wl_nil ?_
      refine x_seq ?_
      refine wc_if rfl (fun c2 => ?_) (fun c2 => ?_)
      ·
        have hst := syS_strk hoff hne0 c2
        refine wc_seq ?_
        refine wc_region ?_
        refine wl rfl rfl rfl (p_as rfl) ?_
        refine wl_nil ?_
        refine x_seq ?_
        refine wc_ret ?_
        refine x_then_ret ?_
        refine fin_run (res1 rfl rfl) ?_
        rw [hst]
        first
          | exact ⟨rfl, ⟨_, _, _, _, _, _, _, _, _, hD, hR⟩, HC⟩
          | exact ⟨by rw [hoff]; rfl, ⟨_, _, _, _, _, _, _, _, _, hD, hR⟩, HC⟩
          | exact ⟨rfl, hd, HC⟩
          | exact ⟨rfl, ⟨_, _, _, _, _, _, _, _, _, hD, hR.clean hkn⟩, HC⟩
      ·
        have hst := syS_done hoff hne0 c2
        obtain ⟨d2, hd2⟩ : ∃ x, x = (strk d).2 := ⟨_, rfl⟩
        rw [← hd2] at hd
        have hok2 : d2.Ok n := hd2 ▸ strk_ok hok
        obtain ⟨gs, cs, gm, Ao, lo, co, Ak, lk, ck, hD, hR⟩ := hd
        have hne1 : g ≠ gs := hR.neS hD (by decide)
        have hne2 : g ≠ gm := by obtain ⟨l, clk, h1, _⟩ := hR.ex; exact (h1.ne hD).symm
        have hgl := hD.lt
        have hol := hR.hO.sl.len
        have hom2 := ord_le hok2
        rw [← hd2] at hst
        refine wc_skip ?_
        refine x_seq ?_
        refine wc_seq ?_
        refine wc_seq ?_
        refine wc_region ?_
        refine wl rfl rfl rfl (p_mv rfl) ?_
        refine wl rfl rfl rfl (p_nck rfl) ?_
        refine wl rfl rfl rfl (p_fld (j := 2) Tryd.underlying47 rfl ⟨_, by rfl⟩ rfl rfl) ?_
        refine wl rfl rfl rfl (p_ld Tryd.underlying45 rfl rfl (ld (hD.cell rfl))) ?_
        refine wl rfl rfl rfl (p_lenS Tryd.underlying45 rfl) ?_
        refine wl rfl rfl rfl (p_mv rfl) ?_
        refine wl_nil ?_
        refine x_seq ?_
        refine wc_block ?_
        refine wc_loop (e' := [(0, .pointer (some ⟨g, 0, none⟩)), (22, .slice Ao lo co), (23, i64 (lo : Int)), (24, i64 ((0) : Int))]) (fun mz ez uz => ∃ k : Nat, mz = lo - k ∧ ez = [(0, .pointer (some ⟨g, 0, none⟩)), (22, .slice Ao lo co), (23, i64 (lo : Int)), (24, i64 (k : Int))] ∧ (k ≤ lo) ∧ (∃ ks, Blk uz g 47 (dcell gs n cs gm Ao lo co d2.off d2.armed Ak lk ck d2.torn) ∧ DR TD uz F g n gs gm Ao lo co Ak lk ck (seK d2 k) d2.now d2.ord d2.keep ks ∧ (∀ i ∈ d2.ord.drop k, i ∈ ks) ∧ ∀ i ∈ ks, i ∈ d2.ord.drop k) ∧ (Ch F w uz))
          ⟨rfl, rfl, rfl, rfl, trivial⟩ ⟨0, rfl, rfl, by omega, ⟨d2.ord, hD, hR, fun i hi => List.mem_of_mem_drop hi, fun i hi => by simpa using hi⟩, HC⟩ ?_
        rintro m0 e w3 ⟨k, hm0, rfl, hk, hst2, HC⟩
        have hzw3 := HC.size
        obtain ⟨ks, hD, hR, hks, hks2⟩ := hst2
        refine wc_seq ?_
        refine wc_region ?_
        refine wl rfl rfl rfl (p_lt rfl rfl) ?_
        refine wl_nil ?_
        refine x_seq ?_
        refine wc_seq ?_
        refine wc_if rfl (fun c3 => ?_) (fun c3 => ?_)
        ·
          have c3 := of_decide_eq_true c3
          have hkl : k < d2.ord.length := by omega
          refine wc_skip ?_
          refine x_seq ?_
          refine wc_seq ?_
          refine wc_block ?_
          refine wc_seq ?_
          refine wc_region ?_
          obtain ⟨b4, o4, hA4, hF4, hc4⟩ := (hR.hO.sl).opn (d := 0) (by omega)
          refine wl rfl rfl rfl (p_ixS1 Tryd.underlying45 sz3 rfl hA4 rfl (by omega) (by omega) (Int.toNat_natCast _)) ?_
          refine wl rfl rfl rfl (p_ld Tryd.underlying3 rfl rfl (ld (hc4 _ (by omega)))) ?_
          obtain ⟨i, hi⟩ : ∃ i, i = d2.ord.getD k 0 := ⟨_, rfl⟩
          rw [← hi]
          have hid : i ∈ d2.ord.drop k := by rw [hi]; exact drop_head hkl
          have hin : i < n := hok2.lt i (List.mem_of_mem_drop hid)
          have hnx := seK_next (d := d2) hkl
          rw [← hi] at hnx
          have hrest : ∀ j ∈ d2.ord.drop (k + 1), j ∈ d2.ord.drop k ∧ j ≠ i := fun j hj => by rw [hi]; exact drop_rest hkl hok2.nd hj
          have hsplit : ∀ j ∈ d2.ord.drop k, j ≠ i → j ∈ d2.ord.drop (k + 1) := fun j hj hne => by rw [hi] at hne; exact drop_split hkl hj hne
          refine wl rfl rfl rfl (p_as rfl) ?_
          refine wl_nil ?_
          refine x_seq ?_
          refine wc_region ?_
          refine wl rfl rfl rfl (p_mv rfl) ?_
          refine wl rfl rfl rfl (p_mv rfl) ?_
          refine wle rfl (e_call ent37 rfl rfl (settle_any hD hR (hks i hid) hin hn (seK_len hok2 (by omega)) hok2.w) ?_)
          rintro _ w5 ⟨rfl, hc, hD, hR⟩
          refine ⟨_, rfl, ?_⟩
          have HC := HC.trans hc (fun _ _ h => h) (fun k hk ht => by rcases ht with rfl | rfl; exact hR.fs; exact hR.fm)
          have hzw5 := hc.size
          refine wl_nil ?_
          refine x_in_normal ?_
          refine x_seq ?_
          refine wc_region ?_
          refine wl rfl rfl rfl (p_add rfl rfl (w64 (by omega))) ?_
          refine wl rfl rfl rfl (p_mv rfl) ?_
          refine wl_nil ?_
          refine x_round (e' := [(0, .pointer (some ⟨g, 0, none⟩)), (22, .slice Ao lo co), (23, i64 (lo : Int)), (24, i64 ((k + 1) : Int))]) ⟨rfl, rfl, rfl, rfl, trivial⟩ (by rw [hm0]; omega) ⟨k + 1, rfl, rfl, by omega, ⟨_, hD, by rw [hnx]; exact hR, fun j hj => List.mem_filter.2 ⟨hks j (hrest j hj).1, by simpa using (hrest j hj).2⟩, fun j hj => hsplit j (hks2 j (List.mem_filter.1 hj).1) (by simpa using (List.mem_filter.1 hj).2)⟩, HC⟩
        ·
          have c3 := of_decide_eq_false c3
          have hkl : k = d2.ord.length := by omega
          subst hkl
          rw [seK_all hok2] at hR
          have hkn : ∀ j, j ∉ ks := fun j hj => by have := hks2 j hj; simp at this
          refine wc_exit ?_
          refine x_then_exit ?_
          refine x_then_exit ?_
          refine x_in_here ?_
          refine x_seq ?_
          refine wc_seq ?_
          refine wc_region ?_
          refine wl rfl rfl rfl (p_mv rfl) ?_
          refine wl rfl rfl rfl (p_nck rfl) ?_
          refine wl rfl rfl rfl (p_fld (j := 2) Tryd.underlying47 rfl ⟨_, by rfl⟩ rfl rfl) ?_
          refine wle rfl (e_stD (T := TD) (j := 2) (by rfl) rfl rfl rfl hD hR (show 2 < 7 by decide) (fun w6 hD hR hc hsz => ?_))
          have hzw6 := hc.size
          have HC := HC.trans hc (fun _ _ h => h) (fun k hk ht => (by rw [ht]; exact hR.fg))
          refine wl_nil ?_
          refine x_seq ?_
          refine wc_seq ?_
          refine wc_region ?_
          refine wl rfl rfl rfl (p_as rfl) ?_
          refine wl_nil ?_
          refine x_seq ?_
          refine wc_ret ?_
          refine fin_run (res1 rfl rfl) ?_
          rw [hst]
          first
            | exact ⟨rfl, ⟨_, _, _, _, _, _, _, _, _, hD, hR⟩, HC⟩
            | exact ⟨by rw [hoff]; rfl, ⟨_, _, _, _, _, _, _, _, _, hD, hR⟩, HC⟩
            | exact ⟨rfl, hd, HC⟩
            | exact ⟨rfl, ⟨_, _, _, _, _, _, _, _, _, hD, hR.clean hkn⟩, HC⟩

set_option maxHeartbeats 1000000 in
set_option maxRecDepth 20000 in
theorem new_any {w : World} {n : Nat} (h1 : 1 ≤ n) (h2 : n ≤ 4096) :
    Calls Tryd.prog 13 #[i64 (n : Int)] w fun e w' => ∃ g, e = .returned (.pointer (some ⟨g, 0, none⟩)) ∧ w.heap.size ≤ g ∧ DkAt TD w' (fun k => w.heap.size ≤ k) g n (newD n) ∧ Ch No w w' := by
  have HC : Ch No w w := Ch.refl _ _
  refine enter' (args := [i64 (n : Int)]) (n := 14) Tryd.func13 rfl rfl rfl ?_
  refine wc_seq ?_
  refine wc_region ?_
  refine wl rfl rfl rfl (p_as rfl) ?_
  refine wl_nil ?_
  refine x_seq ?_
  refine wc_seq ?_
  refine wc_seq ?_
  refine wc_region ?_
  refine wl rfl rfl rfl (p_mv rfl) ?_
  refine wl rfl rfl rfl (p_lt rfl rfl) ?_
  refine wl rfl rfl rfl (p_mv rfl) ?_
  refine wl_know (d := 5) (b' := false) rfl (decide_eq_false (by omega)) ?_
  refine wl_g (gd_ rfl rfl rfl rfl rfl rfl) rfl rfl (p_mv rfl) ?_
  refine wl_g (gd_ rfl rfl rfl rfl rfl rfl) rfl rfl (p_gt rfl rfl) ?_
  refine wl rfl rfl rfl (p_pickF rfl rfl) ?_
  refine wl_nil ?_
  refine x_seq ?_
  refine wc_no rfl (decide_eq_false (by omega)) ?_
  refine wc_skip ?_
  refine x_seq ?_
  refine wc_seq ?_
  refine wc_region ?_
  refine wl rfl rfl rfl (p_mv rfl) ?_
  refine wle rfl (e_mkZ (v := u8v 0) (sz := 32) (by_ := 32) rfl Tryd.underlying43 (by rfl) (by rfl) (by omega) rfl rfl (by omega) (by omega) (fun w1 g10 hg10 hb10 hc hsz10 => ?_))
  have hzw1 := hc.size
  have HC := HC.tr hc
  have hge10 : w.heap.size ≤ g10 := by have := HC.size; omega
  refine wle rfl (e_mkMap rfl (fun w2 g11 hg11 hm11 hc hsz11 => ?_))
  have hzw2 := hc.size
  have HC := HC.tr hc
  have hb10 := hb10.ch hc (fun h => h)
  have hge11 : w.heap.size ≤ g11 := by have := HC.size; omega
  refine wl rfl rfl rfl (p_bldP (cs := dcell g10 n n g11 Option.none 0 0 false 0 Option.none 0 0 0) rfl (fun _ => by kernel_rfl)) ?_
  have hne : g10 < g11 := by omega
  have hgl10 := hb10.lt
  have hgl11 := hm11.lt
  have hltg10 := hb10.lt
  refine wle rfl (e_box rfl rfl rfl (fun w3 g13 hg13 hb13 hc hsz13 => ?_))
  have hzw3 := hc.size
  have HC := HC.tr hc
  have hb10 := hb10.ch hc (fun h => h)
  first | have hm11 := hm11.ch hc (fun h => h) | have hm11 := hm11.ch hc (by omega)
  have hge13 : w.heap.size ≤ g13 := by have := HC.size; omega
  have neg10_13 : g10 < g13 := by omega
  refine wl rfl rfl rfl (p_as rfl) ?_
  refine wl_nil ?_
  refine x_seq ?_
  refine wc_ret ?_
  refine fin_run (res1 rfl rfl) ?_
  refine ⟨g13, rfl, hge13, ⟨g10, n, g11, _, _, _, _, _, _, hb13, ⟨⟨[], ?_⟩, ⟨[], 0, hm11, by simp, by simp [newD], by simp, by simp⟩, Row.nil _ _ _ _, Row.nil _ _ _ _, by simp [Value.ownBlock], hge13, hge10, hge11⟩⟩, HC⟩
  have : (List.replicate (n * 32) (u8v 0)).toArray = ((newD n).safe.map u8v).toArray := by simp [newD, Nat.mul_comm]
  rw [List.append_nil, ← this]; exact hb10

set_option maxHeartbeats 1000000 in
set_option maxRecDepth 20000 in
theorem now_any {w : World} {F : Nat → Prop} {g n : Nat} {d : DS} {i : Nat} (hd : DkAt TD w F g n d) (hok : d.Ok n) (hin : i < n) (hn : n ≤ 4096) :
    Calls Tryd.prog 40 #[.pointer (some ⟨g, 0, none⟩), nv i] w fun e w' => ∃ b o, e = .returned (.pointer (some ⟨b, o, none⟩)) ∧ w.rangeAt b o ((sec d.now i).map u8v) ∧ F b ∧ Ch No w w' := by
  obtain ⟨gs, cs, gm, Ao, lo, co, Ak, lk, ck, hD, hR⟩ := hd
  have hR0 := hR
  have hw0 : ∀ (b o : Nat) (l : List Value), w.rangeAt b o l → w.rangeAt b o l := fun _ _ _ h => h
  have HC : Ch No w w := Ch.refl _ _
  refine enter' (args := [.pointer (some ⟨g, 0, none⟩), nv i]) (n := 21) Tryd.func40 rfl rfl rfl ?_
  refine wc_seq ?_
  refine wc_region ?_
  refine wl rfl rfl rfl (p_as rfl) ?_
  refine wl_nil ?_
  refine x_seq ?_
  refine wc_seq ?_
  refine wc_seq ?_
  refine wc_region ?_
  refine wl rfl rfl rfl (p_mv rfl) ?_
  refine wl rfl rfl rfl (p_nck rfl) ?_
  refine wl rfl rfl rfl (p_fld (j := 1) Tryd.underlying47 rfl ⟨_, by rfl⟩ rfl rfl) ?_
  refine wl rfl rfl rfl (p_ld Tryd.underlying44 rfl rfl (ld (hD.cell rfl))) ?_
  refine wl rfl rfl rfl (p_mv rfl) ?_
  obtain ⟨p, hp, hpc⟩ := hR.find Tryd.underlying44 Tryd.underlying3 (by rfl) i
  refine wl rfl rfl rfl (p_lookR rfl rfl (fun x e => by rw [e]; exact hp _ (Ch.refl _ _))) ?_
  refine wl rfl rfl rfl (p_as rfl) ?_
  refine wl_nil ?_
  refine x_seq ?_
  refine wc_seq ?_
  refine wc_region ?_
  refine wl rfl rfl rfl (p_mv rfl) ?_
  refine wl rfl rfl rfl (p_nePN rfl rfl Tryd.underlying72) ?_
  refine wl_nil ?_
  refine x_seq ?_
  refine wc_if rfl (fun c0 => ?_) (fun c0 => ?_)
  ·
    obtain ⟨b, rfl, _, hbE, _, hbF, _⟩ := hpc.resolve_left (fun h => by rw [h.1] at c0; cases c0)
    have hrg : w.rangeAt b 0 ((sec d.now i).map u8v) := rng_blk hbE (by simp; exact List.take_of_length_le (by simp))
    refine wc_seq ?_
    refine wc_region ?_
    refine wl rfl rfl rfl (p_mv rfl) ?_
    refine wl rfl rfl rfl (p_as rfl) ?_
    refine wl_nil ?_
    refine x_seq ?_
    refine wc_ret ?_
    refine x_then_ret ?_
    refine fin_run (res1 rfl rfl) ?_
    first | exact ⟨_, _, rfl, hrg, hbF, HC⟩ | exact ⟨_, _, rfl, hrg, hR0.fs, HC⟩
  ·
    have hni : i ∉ d.ord := by rcases hpc with h | ⟨b, hb, _⟩; exact h.2; rw [hb] at c0; cases c0
    have hrg : w.rangeAt gs (0 + i * 32) ((sec d.now i).map u8v) := by rw [hok.same i hin hni]; exact hR0.rng (by rw [hok.s]; omega)
    refine wc_skip ?_
    refine x_seq ?_
    refine wc_seq ?_
    refine wc_region ?_
    refine wl rfl rfl rfl (p_mv rfl) ?_
    refine wl rfl rfl rfl (p_nck rfl) ?_
    refine wl rfl rfl rfl (p_fld (j := 0) Tryd.underlying47 rfl ⟨_, by rfl⟩ rfl rfl) ?_
    refine wl rfl rfl rfl (p_ld Tryd.underlying43 rfl rfl (ld (hD.cell rfl))) ?_
    refine wl rfl rfl rfl (p_mv rfl) ?_
    refine wl rfl rfl rfl (p_ixS (j := i * 32) Tryd.underlying43 sz71 rfl rfl rfl (by omega) (by omega) (congrArg (· * 32) (Int.toNat_natCast _))) ?_
    refine wl rfl rfl rfl (p_as rfl) ?_
    refine wl_nil ?_
    refine x_seq ?_
    refine wc_ret ?_
    refine fin_run (res1 rfl rfl) ?_
    first | exact ⟨_, _, rfl, hrg, hbF, HC⟩ | exact ⟨_, _, rfl, hrg, hR0.fs, HC⟩

set_option maxHeartbeats 1000000 in
set_option maxRecDepth 20000 in
theorem read_any {w : World} {F : Nat → Prop} {g n : Nat} {d : DS} {a m : Int} (hd : DkAt TD w F g n d) (hok : d.Ok n) (hn : n ≤ 4096) (ha1 : -9223372036854775808 ≤ a) (ha2 : a ≤ 9223372036854775807) (hm1 : -9223372036854775808 ≤ m) (hm2 : m ≤ 9223372036854775807) :
    Calls Tryd.prog 25 #[.pointer (some ⟨g, 0, none⟩), i64 a, i64 m] w fun e w' => ∃ A l c, e = .returned (.tuple #[.slice A l c, i64 (rdS n d a m).2]) ∧ l = (rdS n d a m).1.length ∧ Sl w' (fun k => w.heap.size ≤ k) u8v A l c (rdS n d a m).1 ∧ Ch No w w' := by
  obtain ⟨gs, cs, gm, Ao, lo, co, Ak, lk, ck, hD, hR⟩ := hd
  have hgl := hD.lt
  have hR := hR.mono (G := (fun k => F k ∧ k < w.heap.size)) (fun k h1 h2 => ⟨h2, h1⟩) hD.lt
  have HC : Ch No w w := Ch.refl _ _
  refine enter' (args := [.pointer (some ⟨g, 0, none⟩), i64 a, i64 m]) (n := 69) Tryd.func25 rfl rfl rfl ?_
  refine wc_seq ?_
  refine wc_region ?_
  refine wl rfl rfl rfl (p_as rfl) ?_
  refine wl rfl rfl rfl (p_as rfl) ?_
  refine wl_nil ?_
  refine x_seq ?_
  refine wc_seq ?_
  refine wc_seq ?_
  refine wc_region ?_
  refine wl rfl rfl rfl (p_mv rfl) ?_
  refine wle rfl (e_call ent39 rfl rfl (may_any ⟨_, _, _, _, _, _, _, _, _, hD, hR⟩) ?_)
  rintro _ w1 ⟨rfl, hc⟩
  refine ⟨_, rfl, ?_⟩
  have hzw1 := hc.size
  have HC := HC.tr hc
  have hD := hD.ch hc (fun h => h)
  first | have hR := hR.no hc | have hR := hR.ch hc (by intro k hz hk ht; first | omega | (dsimp only at *; omega))
  refine wl rfl rfl rfl (p_as rfl) ?_
  refine wl_nil ?_
  refine x_seq ?_
  refine wc_seq ?_
  refine wc_region ?_
  refine wl rfl rfl rfl (p_mv rfl) ?_
  refine wl rfl rfl rfl (p_ne rfl rfl) ?_
  refine wl_nil ?_
  refine x_seq ?_
  refine wc_if rfl (fun c0 => ?_) (fun c0 => ?_)
  ·
    have c0 := of_decide_eq_true c0
    have hoff := off_of c0
    have hst := rdS_off (n := n) (a := a) (m := m) hoff
    refine wc_seq ?_
    refine wc_region ?_
    refine wl rfl rfl rfl (p_mv rfl) ?_
    refine wl rfl rfl rfl (p_as rfl) ?_
    refine wl rfl rfl rfl (p_as rfl) ?_
    refine wl_nil ?_
    refine x_seq ?_
    refine wc_ret ?_
    refine x_then_ret ?_
    refine fin_run (res2 rfl rfl rfl) ?_
    first | rw [hst] | rw [rdS_bad (n := n) (a := a) (m := m) hoff (by omega)]
    first
      | exact ⟨_, _, _, by rw [hoff]; rfl, rfl, Sl.nil, HC⟩
      | exact ⟨_, _, _, rfl, rfl, Sl.nil, HC⟩
      | exact ⟨A, _, c, rfl, by rw [List.length_take, List.length_drop, hok.w]; omega, by rw [← hjy]; exact hW.sl.mono (fun k _ hk => by first | omega | (dsimp only at *; omega)), HC⟩
  ·
    have c0 := of_decide_eq_false c0
    have hoff := on_of c0
    refine wc_skip ?_
    refine x_seq ?_
    refine wc_seq ?_
    refine wc_seq ?_
    refine wc_region ?_
    refine wl rfl rfl rfl (p_mv rfl) ?_
    refine wl rfl rfl rfl (p_lt rfl rfl) ?_
    refine wl rfl rfl rfl (p_mv rfl) ?_
    refine wl_split (d := 19) rfl (fun q19 => ?_) (fun q19 => ?_)
    ·
      have q19 := of_decide_eq_true q19
      refine wl_s (gd_ rfl rfl rfl rfl rfl rfl) rfl rfl ?_
      refine wl_s (gd_ rfl rfl rfl rfl rfl rfl) rfl rfl ?_
      refine wl rfl rfl rfl (p_pickT rfl rfl) ?_
      refine wl rfl rfl rfl (p_mv rfl) ?_
      refine wl_s (gd_ rfl rfl rfl rfl rfl rfl) rfl rfl ?_
      refine wl_s (gd_ rfl rfl rfl rfl rfl rfl) rfl rfl ?_
      refine wl_s (gd_ rfl rfl rfl rfl rfl rfl) rfl rfl ?_
      refine wl_s (gd_ rfl rfl rfl rfl rfl rfl) rfl rfl ?_
      refine wl rfl rfl rfl (p_pickT rfl rfl) ?_
      refine wl rfl rfl rfl (p_mv rfl) ?_
      refine wl_s (gd_ rfl rfl rfl rfl rfl rfl) rfl rfl ?_
      refine wl_s (gd_ rfl rfl rfl rfl rfl rfl) rfl rfl ?_
      refine wl_s (gd_ rfl rfl rfl rfl rfl rfl) rfl rfl ?_
      refine wl_s (gd_ rfl rfl rfl rfl rfl rfl) rfl rfl ?_
      refine wl_s (gd_ rfl rfl rfl rfl rfl rfl) rfl rfl ?_
      refine wl_s (gd_ rfl rfl rfl rfl rfl rfl) rfl rfl ?_
      refine wl rfl rfl rfl (p_pickT rfl rfl) ?_
      refine wl_nil ?_
      refine x_seq ?_
      refine wc_yes rfl (rfl) ?_
      refine wc_seq ?_
      refine wc_region ?_
      refine wl rfl rfl rfl (p_as rfl) ?_
      refine wl rfl rfl rfl (p_as rfl) ?_
      refine wl_nil ?_
      refine x_seq ?_
      refine wc_ret ?_
      refine x_then_ret ?_
      refine fin_run (res2 rfl rfl rfl) ?_
      first | rw [hst] | rw [rdS_bad (n := n) (a := a) (m := m) hoff (by omega)]
      first
        | exact ⟨_, _, _, by rw [hoff]; rfl, rfl, Sl.nil, HC⟩
        | exact ⟨_, _, _, rfl, rfl, Sl.nil, HC⟩
        | exact ⟨A, _, c, rfl, by rw [List.length_take, List.length_drop, hok.w]; omega, by rw [← hjy]; exact hW.sl.mono (fun k _ hk => by first | omega | (dsimp only at *; omega)), HC⟩
    ·
      have q19 := of_decide_eq_false q19
      refine wl_g (gd_ rfl rfl rfl rfl rfl rfl) rfl rfl (p_mv rfl) ?_
      refine wl_g (gd_ rfl rfl rfl rfl rfl rfl) rfl rfl (p_lt rfl rfl) ?_
      refine wl rfl rfl rfl (p_pickF rfl rfl) ?_
      refine wl rfl rfl rfl (p_mv rfl) ?_
      refine wl_split (d := 23) rfl (fun q23 => ?_) (fun q23 => ?_)
      ·
        have q23 := of_decide_eq_true q23
        refine wl_s (gd_ rfl rfl rfl rfl rfl rfl) rfl rfl ?_
        refine wl_s (gd_ rfl rfl rfl rfl rfl rfl) rfl rfl ?_
        refine wl_s (gd_ rfl rfl rfl rfl rfl rfl) rfl rfl ?_
        refine wl_s (gd_ rfl rfl rfl rfl rfl rfl) rfl rfl ?_
        refine wl rfl rfl rfl (p_pickT rfl rfl) ?_
        refine wl rfl rfl rfl (p_mv rfl) ?_
        refine wl_s (gd_ rfl rfl rfl rfl rfl rfl) rfl rfl ?_
        refine wl_s (gd_ rfl rfl rfl rfl rfl rfl) rfl rfl ?_
        refine wl_s (gd_ rfl rfl rfl rfl rfl rfl) rfl rfl ?_
        refine wl_s (gd_ rfl rfl rfl rfl rfl rfl) rfl rfl ?_
        refine wl_s (gd_ rfl rfl rfl rfl rfl rfl) rfl rfl ?_
        refine wl_s (gd_ rfl rfl rfl rfl rfl rfl) rfl rfl ?_
        refine wl rfl rfl rfl (p_pickT rfl rfl) ?_
        refine wl_nil ?_
        refine x_seq ?_
        refine wc_yes rfl (rfl) ?_
        refine wc_seq ?_
        refine wc_region ?_
        refine wl rfl rfl rfl (p_as rfl) ?_
        refine wl rfl rfl rfl (p_as rfl) ?_
        refine wl_nil ?_
        refine x_seq ?_
        refine wc_ret ?_
        refine x_then_ret ?_
        refine fin_run (res2 rfl rfl rfl) ?_
        first | rw [hst] | rw [rdS_bad (n := n) (a := a) (m := m) hoff (by omega)]
        first
          | exact ⟨_, _, _, by rw [hoff]; rfl, rfl, Sl.nil, HC⟩
          | exact ⟨_, _, _, rfl, rfl, Sl.nil, HC⟩
          | exact ⟨A, _, c, rfl, by rw [List.length_take, List.length_drop, hok.w]; omega, by rw [← hjy]; exact hW.sl.mono (fun k _ hk => by first | omega | (dsimp only at *; omega)), HC⟩
      ·
        have q23 := of_decide_eq_false q23
        refine wl_g (gd_ rfl rfl rfl rfl rfl rfl) rfl rfl (p_mv rfl) ?_
        refine wl_g (gd_ rfl rfl rfl rfl rfl rfl) rfl rfl (p_mv rfl) ?_
        refine wle_g (gd_ rfl rfl rfl rfl rfl rfl) (e_call ent28 rfl rfl (size_any ⟨_, _, _, _, _, _, _, _, _, hD, hR⟩ (by omega)) ?_)
        rintro _ w2 ⟨rfl, hc⟩
        refine ⟨_, rfl, ?_⟩
        have hzw2 := hc.size
        have HC := HC.tr hc
        have hD := hD.ch hc (fun h => h)
        first | have hR := hR.no hc | have hR := hR.ch hc (by intro k hz hk ht; first | omega | (dsimp only at *; omega))
        refine wl_g (gd_ rfl rfl rfl rfl rfl rfl) rfl rfl (p_gt rfl rfl) ?_
        refine wl rfl rfl rfl (p_pickF rfl rfl) ?_
        refine wl rfl rfl rfl (p_mv rfl) ?_
        refine wl_split (d := 29) rfl (fun q29 => ?_) (fun q29 => ?_)
        ·
          have q29 := of_decide_eq_true q29
          refine wl_s (gd_ rfl rfl rfl rfl rfl rfl) rfl rfl ?_
          refine wl_s (gd_ rfl rfl rfl rfl rfl rfl) rfl rfl ?_
          refine wl_s (gd_ rfl rfl rfl rfl rfl rfl) rfl rfl ?_
          refine wl_s (gd_ rfl rfl rfl rfl rfl rfl) rfl rfl ?_
          refine wl_s (gd_ rfl rfl rfl rfl rfl rfl) rfl rfl ?_
          refine wl_s (gd_ rfl rfl rfl rfl rfl rfl) rfl rfl ?_
          refine wl rfl rfl rfl (p_pickT rfl rfl) ?_
          refine wl_nil ?_
          refine x_seq ?_
          refine wc_yes rfl (rfl) ?_
          refine wc_seq ?_
          refine wc_region ?_
          refine wl rfl rfl rfl (p_as rfl) ?_
          refine wl rfl rfl rfl (p_as rfl) ?_
          refine wl_nil ?_
          refine x_seq ?_
          refine wc_ret ?_
          refine x_then_ret ?_
          refine fin_run (res2 rfl rfl rfl) ?_
          first | rw [hst] | rw [rdS_bad (n := n) (a := a) (m := m) hoff (by omega)]
          first
            | exact ⟨_, _, _, by rw [hoff]; rfl, rfl, Sl.nil, HC⟩
            | exact ⟨_, _, _, rfl, rfl, Sl.nil, HC⟩
            | exact ⟨A, _, c, rfl, by rw [List.length_take, List.length_drop, hok.w]; omega, by rw [← hjy]; exact hW.sl.mono (fun k _ hk => by first | omega | (dsimp only at *; omega)), HC⟩
        ·
          have q29 := of_decide_eq_false q29
          refine wl_g (gd_ rfl rfl rfl rfl rfl rfl) rfl rfl (p_mv rfl) ?_
          refine wl_g (gd_ rfl rfl rfl rfl rfl rfl) rfl rfl (p_mv rfl) ?_
          refine wle_g (gd_ rfl rfl rfl rfl rfl rfl) (e_call ent28 rfl rfl (size_any ⟨_, _, _, _, _, _, _, _, _, hD, hR⟩ (by omega)) ?_)
          rintro _ w3 ⟨rfl, hc⟩
          refine ⟨_, rfl, ?_⟩
          have hzw3 := hc.size
          have HC := HC.tr hc
          have hD := hD.ch hc (fun h => h)
          first | have hR := hR.no hc | have hR := hR.ch hc (by intro k hz hk ht; first | omega | (dsimp only at *; omega))
          refine wl_g (gd_ rfl rfl rfl rfl rfl rfl) rfl rfl (p_mv rfl) ?_
          refine wl_g (gd_ rfl rfl rfl rfl rfl rfl) rfl rfl (p_sub rfl rfl (w64 (by omega))) ?_
          refine wl_g (gd_ rfl rfl rfl rfl rfl rfl) rfl rfl (p_gt rfl rfl) ?_
          refine wl rfl rfl rfl (p_pickF rfl rfl) ?_
          refine wl_nil ?_
          refine x_seq ?_
          refine wc_if rfl (fun c1 => ?_) (fun c1 => ?_)
          ·
            have c1 := of_decide_eq_true c1
            have hst := rdS_bad (n := n) (a := a) (m := m) hoff (by omega)
            refine wc_seq ?_
            refine wc_region ?_
            refine wl rfl rfl rfl (p_as rfl) ?_
            refine wl rfl rfl rfl (p_as rfl) ?_
            refine wl_nil ?_
            refine x_seq ?_
            refine wc_ret ?_
            refine x_then_ret ?_
            refine fin_run (res2 rfl rfl rfl) ?_
            first | rw [hst] | rw [rdS_bad (n := n) (a := a) (m := m) hoff (by omega)]
            first
              | exact ⟨_, _, _, by rw [hoff]; rfl, rfl, Sl.nil, HC⟩
              | exact ⟨_, _, _, rfl, rfl, Sl.nil, HC⟩
              | exact ⟨A, _, c, rfl, by rw [List.length_take, List.length_drop, hok.w]; omega, by rw [← hjy]; exact hW.sl.mono (fun k _ hk => by first | omega | (dsimp only at *; omega)), HC⟩
          ·
            have c1 := of_decide_eq_false c1
            have hst := rdS_good (n := n) (a := a) (m := m) hoff (by omega)
            obtain ⟨x, rfl⟩ := Int.eq_ofNat_of_zero_le (show 0 ≤ a by omega)
            obtain ⟨y, rfl⟩ := Int.eq_ofNat_of_zero_le (show 0 ≤ m by omega)
            rw [Int.toNat_natCast, Int.toNat_natCast] at hst
            refine wc_skip ?_
            refine x_seq ?_
            refine wc_seq ?_
            refine wc_region ?_
            refine wl rfl rfl rfl (p_mv rfl) ?_
            refine wle rfl (e_mk0 (v := .bool false) rfl Tryd.underlying22 (by rfl) rfl rfl (by omega) (fun w4 g38 hg38 hW hc hsz38 => ?_))
            have hzw4 := hc.size
            have HC := HC.tr hc
            have hD := hD.ch hc (fun h => h)
            first | have hR := hR.no hc | have hR := hR.ch hc (by intro k hz hk ht; first | omega | (dsimp only at *; omega))
            refine wl rfl rfl rfl (p_as rfl) ?_
            refine wl_nil ?_
            refine x_seq ?_
            refine wc_seq ?_
            refine wc_block ?_
            refine wc_loop (e' := [(0, .pointer (some ⟨g, 0, none⟩)), (1, i64 ((x + (0) : Nat) : Int)), (2, i64 (y : Int)), (9, .slice (_) (0) (_))]) (fun mz ez uz => ∃ j : Nat, ∃ A : Option Addr, ∃ c : Nat, mz = y - j ∧ ez = [(0, .pointer (some ⟨g, 0, none⟩)), (1, i64 ((x + j : Nat) : Int)), (2, i64 (y : Int)), (9, .slice A j c)] ∧ (j ≤ y) ∧ (Row uz (fun k => w.heap.size ≤ k) 5 1 (.slice A j c) j (((d.now.drop x).take j).map u8v)) ∧ (Blk uz g 47 (dcell gs n cs gm Ao lo co d.off d.armed Ak lk ck d.torn)) ∧ (DR TD uz (fun k => F k ∧ k < w.heap.size) g n gs gm Ao lo co Ak lk ck d.safe d.now d.ord d.keep d.ord) ∧ (Ch No w uz))
              ⟨rfl, rfl, rfl, rfl, trivial⟩ ⟨0, _, _, rfl, rfl, by omega, hW.mono (fun k _ hk => by first | omega | (dsimp only at *; omega)), hD, hR, HC⟩ ?_
            rintro m0 e w5 ⟨j, A, c, hm0, rfl, hj, hW, hD, hR, HC⟩
            have hzw5 := HC.size
            refine wc_seq ?_
            refine wc_seq ?_
            refine wc_region ?_
            refine wl rfl rfl rfl (p_mv rfl) ?_
            refine wl rfl rfl rfl (p_lenS Tryd.underlying22 rfl) ?_
            refine wl rfl rfl rfl (p_mv rfl) ?_
            refine wl rfl rfl rfl (p_lt rfl rfl) ?_
            refine wl_nil ?_
            refine x_seq ?_
            refine wc_if rfl (fun c2 => ?_) (fun c2 => ?_)
            ·
              have c2 := of_decide_eq_true c2
              have hin : (x + j) / 32 < n := by omega
              obtain ⟨q, hq⟩ : ∃ q, q = min (32 - ((x + j) % 32)) (y - j) := ⟨_, rfl⟩
              refine wc_skip ?_
              refine x_seq ?_
              refine wc_block ?_
              refine wc_seq ?_
              refine wc_region ?_
              refine wl rfl rfl rfl (p_mv rfl) ?_
              refine wl rfl rfl rfl (p_mv rfl) ?_
              refine wl rfl rfl rfl (p_quo (Z := (((x + j) / 32 : Nat) : Int)) rfl rfl (by omega) (by rw [show ((x + j : Nat) : Int).tdiv 32 = (((x + j) / 32 : Nat) : Int) from rfl, w64 (by omega)])) ?_
              refine wle rfl (e_call ent40 rfl rfl (now_any (F := (fun k => F k ∧ k < w.heap.size)) (i := (x + j) / 32) ⟨_, _, _, _, _, _, _, _, _, hD, hR⟩ hok hin hn) ?_)
              rintro _ w6 ⟨b46, o46, rfl, hrg, hbF, hc⟩
              refine ⟨_, rfl, ?_⟩
              have hzw6 := hc.size
              have HC := HC.tr hc
              have hD := hD.ch hc (fun h => h)
              first | have hR := hR.no hc | have hR := hR.ch hc (by intro k hz hk ht; first | omega | (dsimp only at *; omega))
              have hW := hW.after hc
              have hrg : w6.rangeAt b46 o46 ((sec d.now ((x + j) / 32)).map u8v) := fun j v hv => hc.cell (fun h => h) (hrg j v hv)
              have hsl := sec_len (i := (x + j) / 32) hok.w hin
              refine wl rfl rfl rfl (p_as rfl) ?_
              refine wl_nil ?_
              refine x_seq ?_
              refine wc_seq ?_
              refine wc_region ?_
              refine wl rfl rfl rfl (p_mv rfl) ?_
              refine wl rfl rfl rfl (p_nck rfl) ?_
              refine wl rfl rfl rfl (p_mv rfl) ?_
              refine wl rfl rfl rfl (p_rem (Z := ((((x + j) % 32) : Nat) : Int)) rfl rfl (by omega) rfl) ?_
              have hS51 := Sl.rng (r := ((x + j) % 32)) hrg hsl (by omega)
              refine wl rfl rfl rfl (p_slA2 (l := ((x + j) % 32)) Tryd.underlying71 sz5 rfl ⟨_, rfl⟩ (by omega)) ?_
              refine wl rfl rfl rfl (p_as rfl) ?_
              refine wl_nil ?_
              refine x_seq ?_
              refine wc_seq ?_
              refine wc_region ?_
              refine wl rfl rfl rfl (p_mv rfl) ?_
              refine wl rfl rfl rfl (p_mv rfl) ?_
              refine wl rfl rfl rfl (p_lenS Tryd.underlying22 rfl) ?_
              refine wl rfl rfl rfl (p_mv rfl) ?_
              refine wl rfl rfl rfl (p_mv rfl) ?_
              refine wl rfl rfl rfl (p_lenS Tryd.underlying22 rfl) ?_
              refine wl rfl rfl rfl (p_sub (Z := ((y - j : Nat) : Int)) rfl rfl (by rw [w64 (by omega)]; omega)) ?_
              refine wl rfl rfl rfl ((p_min rfl rfl).to (congrArg i64 (show (if ((y - j : Nat) : Int) < ((32 - ((x + j) % 32) : Nat) : Int) then ((y - j : Nat) : Int) else ((32 - ((x + j) % 32) : Nat) : Int)) = (q : Int) by rw [hq]; split <;> omega))) ?_
              have hS60 := hS51.cut (lo := 0) (hi := q) (q := q) (by omega) (by omega) rfl
              rw [List.drop_zero] at hS60
              refine wl rfl rfl rfl (p_slS (l := 0) (h := q) Tryd.underlying22 sz5 rfl rfl ⟨_, rfl⟩ (by omega) (by omega) (by omega) (q := q) rfl) ?_
              refine wl rfl rfl rfl (p_as rfl) ?_
              refine wl_nil ?_
              refine x_seq ?_
              refine wc_seq ?_
              refine wc_region ?_
              refine wl rfl rfl rfl (p_mv rfl) ?_
              refine wl rfl rfl rfl (p_mv rfl) ?_
              have hltg := hD.lt
              refine wle rfl (e_appS rfl el22 one_u8 rfl rfl hW hS60 (by omega) (by intro k hk; first | omega | (dsimp only at *; omega)) (fun w7 A63 c63 hW hc => ?_))
              have hzw7 := hc.size
              have HC := HC.trans hc (fun _ _ h => h) (fun k hk ht => absurd ht (by first | omega | (dsimp only at *; omega)))
              have hD := hD.ch hc (by first | omega | (dsimp only; omega))
              first | have hR := hR.no hc | have hR := hR.ch hc (by intro k hz hk ht; first | omega | (dsimp only at *; omega))
              refine wl rfl rfl rfl (p_as rfl) ?_
              refine wl_nil ?_
              refine x_seq ?_
              refine wc_region ?_
              refine wl rfl rfl rfl (p_mv rfl) ?_
              refine wl rfl rfl rfl (p_mv rfl) ?_
              refine wl rfl rfl rfl (p_lenS Tryd.underlying22 rfl) ?_
              refine wl rfl rfl rfl (p_add (Z := ((x + (j + q) : Nat) : Int)) rfl rfl (by rw [w64 (by omega)]; omega)) ?_
              refine wl rfl rfl rfl (p_as rfl) ?_
              refine wl_nil ?_
              refine x_in_normal ?_
              have hnx := rd_next (l := d.now) (a := x) (j := j) (q := q) hok.w (by omega) (by omega)
              refine x_round (e' := [(0, .pointer (some ⟨g, 0, none⟩)), (1, i64 ((x + (j + q) : Nat) : Int)), (2, i64 (y : Int)), (9, .slice (A63) (j + q) (c63))]) ⟨rfl, rfl, rfl, rfl, trivial⟩ (by rw [hm0]; omega) ⟨j + q, A63, c63, rfl, rfl, by omega, by rw [← hnx]; exact hW.mono (fun k _ hk => by first | omega | (dsimp only at *; omega)), hD, hR, HC⟩
            ·
              have c2 := of_decide_eq_false c2
              have hjy : j = y := by omega
              refine wc_exit ?_
              refine x_then_exit ?_
              refine x_then_exit ?_
              refine x_in_here ?_
              refine x_seq ?_
              refine wc_seq ?_
              refine wc_region ?_
              refine wl rfl rfl rfl (p_mv rfl) ?_
              refine wl rfl rfl rfl (p_as rfl) ?_
              refine wl rfl rfl rfl (p_as rfl) ?_
              refine wl_nil ?_
              refine x_seq ?_
              refine wc_ret ?_
              refine fin_run (res2 rfl rfl rfl) ?_
              first | rw [hst] | rw [rdS_bad (n := n) (a := a) (m := m) hoff (by omega)]
              first
                | exact ⟨_, _, _, by rw [hoff]; rfl, rfl, Sl.nil, HC⟩
                | exact ⟨_, _, _, rfl, rfl, Sl.nil, HC⟩
                | exact ⟨A, _, c, rfl, by rw [List.length_take, List.length_drop, hok.w]; omega, by rw [← hjy]; exact hW.sl.mono (fun k _ hk => by first | omega | (dsimp only at *; omega)), HC⟩

set_option maxHeartbeats 2000000 in
set_option maxRecDepth 20000 in
theorem write_any {w : World} {F : Nat → Prop} {g n : Nat} {d : DS}{Ab : Option Addr} {lb cb : Nat} {Fb : Nat → Prop} {b : List UInt8} {a : Int} (hd : DkAt TD w F g n d) (hok : d.Ok n) (hn : n ≤ 4096) (hF : ∀ k, w.heap.size ≤ k → F k) (harm : d.armed ≤ 9223372036854775807) (ha1 : -9223372036854775808 ≤ a) (ha2 : a ≤ 9223372036854775807) (hb : Sl w Fb u8v Ab lb cb b) (hFb : ∀ k, Fb k → ¬ F k) (hlb : lb ≤ 9223372036854775807) :
    Calls Tryd.prog 33 #[.pointer (some ⟨g, 0, none⟩), i64 a, .slice Ab lb cb] w fun e w' => e = .returned (i64 (wrS n d a b).1) ∧ DkAt TD w' F g n (wrS n d a b).2 ∧ Ch F w w' := by
  obtain ⟨gs, cs, gm, Ao, lo, co, Ak, lk, ck, hD, hR⟩ := hd
  have hbl := hb.len
  have hb1 : Sl w (fun k => k < w.heap.size ∧ ¬ F k) u8v Ab lb cb b := hb.mono (fun k h1 h2 => ⟨h1, hFb k h2⟩)
  have hgl0 := hD.lt
  have HC : Ch F w w := Ch.refl _ _
  refine enter' (args := [.pointer (some ⟨g, 0, none⟩), i64 a, .slice Ab lb cb]) (n := 92) Tryd.func33 rfl rfl rfl ?_
  refine wc_seq ?_
  refine wc_region ?_
  refine wl rfl rfl rfl (p_as rfl) ?_
  refine wl_nil ?_
  refine x_seq ?_
  refine wc_seq ?_
  refine wc_seq ?_
  refine wc_region ?_
  refine wl rfl rfl rfl (p_mv rfl) ?_
  refine wle rfl (e_call ent39 rfl rfl (may_any ⟨_, _, _, _, _, _, _, _, _, hD, hR⟩) ?_)
  rintro _ w1 ⟨rfl, hc⟩
  refine ⟨_, rfl, ?_⟩
  have hzw1 := hc.size
  have HC := HC.tr hc
  have hD := hD.ch hc (fun h => h)
  first | have hR := hR.no hc | have hR := hR.ch hc (by intro k hz hk ht; first | omega | (dsimp only at *; omega))
  first | have hb1 := hb1.no hc | have hb1 := hb1.ch hc (by rintro k ⟨h1, h2⟩ ht; first | omega | exact h2 (ht ▸ hR.fg))
  refine wl rfl rfl rfl (p_as rfl) ?_
  refine wl_nil ?_
  refine x_seq ?_
  refine wc_seq ?_
  refine wc_region ?_
  refine wl rfl rfl rfl (p_mv rfl) ?_
  refine wl rfl rfl rfl (p_ne rfl rfl) ?_
  refine wl_nil ?_
  refine x_seq ?_
  refine wc_if rfl (fun c0 => ?_) (fun c0 => ?_)
  ·
    have c0 := of_decide_eq_true c0
    have hoff := off_of c0
    have hst := wrS_off (n := n) (a := a) (b := b) hoff
    refine wc_seq ?_
    refine wc_region ?_
    refine wl rfl rfl rfl (p_mv rfl) ?_
    refine wl rfl rfl rfl (p_as rfl) ?_
    refine wl_nil ?_
    refine x_seq ?_
    refine wc_ret ?_
    refine x_then_ret ?_
    refine fin_run (res1 rfl rfl) ?_
    first | rw [hst] | rw [wrS_full (n := n) (b := b) hoff c1 (by omega)]
    first
      | exact ⟨rfl, ⟨_, _, _, _, _, _, _, _, _, hD, hR⟩, HC⟩
      | exact ⟨by rw [hoff]; rfl, ⟨_, _, _, _, _, _, _, _, _, hD, hR⟩, HC⟩
      | exact ⟨rfl, hd, HC⟩
      | (rw [hjl, List.take_of_length_le (by omega)] at hR; exact ⟨rfl, ⟨_, _, _, _, _, _, _, _, _, hD, by rw [← hbl] at hR; exact hR⟩, HC⟩)
  ·
    have c0 := of_decide_eq_false c0
    have hoff := on_of c0
    refine wc_skip ?_
    refine x_seq ?_
    refine wc_seq ?_
    refine wc_block ?_
    refine wc_seq ?_
    refine wc_region ?_
    refine wl rfl rfl rfl (p_mv rfl) ?_
    refine wl rfl rfl rfl (p_lt rfl rfl) ?_
    refine wl rfl rfl rfl (p_as rfl) ?_
    refine wl_nil ?_
    refine x_seq ?_
    refine wc_if rfl (fun c1 => ?_) (fun c1 => ?_)
    ·
      have c1 := of_decide_eq_true c1
      have hst := wrS_neg (n := n) (b := b) hoff c1
      refine wc_seq ?_
      refine wc_region ?_
      refine wl rfl rfl rfl (p_as rfl) ?_
      refine wl_nil ?_
      refine x_seq ?_
      refine wc_ret ?_
      refine x_in_ret ?_
      refine x_then_ret ?_
      refine fin_run (res1 rfl rfl) ?_
      first | rw [hst] | rw [wrS_full (n := n) (b := b) hoff c1 (by omega)]
      first
        | exact ⟨rfl, ⟨_, _, _, _, _, _, _, _, _, hD, hR⟩, HC⟩
        | exact ⟨by rw [hoff]; rfl, ⟨_, _, _, _, _, _, _, _, _, hD, hR⟩, HC⟩
        | exact ⟨rfl, hd, HC⟩
        | (rw [hjl, List.take_of_length_le (by omega)] at hR; exact ⟨rfl, ⟨_, _, _, _, _, _, _, _, _, hD, by rw [← hbl] at hR; exact hR⟩, HC⟩)
    ·
      have c1 := of_decide_eq_false c1
      refine wc_seq ?_
      refine wc_region ?_
      refine wl rfl rfl rfl (p_mv rfl) ?_
      refine wl rfl rfl rfl (p_mv rfl) ?_
      refine wle rfl (e_call ent28 rfl rfl (size_any ⟨_, _, _, _, _, _, _, _, _, hD, hR⟩ (by omega)) ?_)
      rintro _ w2 ⟨rfl, hc⟩
      refine ⟨_, rfl, ?_⟩
      have hzw2 := hc.size
      have HC := HC.tr hc
      have hD := hD.ch hc (fun h => h)
      first | have hR := hR.no hc | have hR := hR.ch hc (by intro k hz hk ht; first | omega | (dsimp only at *; omega))
      first | have hb1 := hb1.no hc | have hb1 := hb1.ch hc (by rintro k ⟨h1, h2⟩ ht; first | omega | exact h2 (ht ▸ hR.fg))
      refine wl rfl rfl rfl (p_gt rfl rfl) ?_
      refine wl rfl rfl rfl (p_mv rfl) ?_
      refine wl_split (d := 24) rfl (fun q24 => ?_) (fun q24 => ?_)
      ·
        have q24 := of_decide_eq_true q24
        refine wl_s (gd_ rfl rfl rfl rfl rfl rfl) rfl rfl ?_
        refine wl_s (gd_ rfl rfl rfl rfl rfl rfl) rfl rfl ?_
        refine wl_s (gd_ rfl rfl rfl rfl rfl rfl) rfl rfl ?_
        refine wl_s (gd_ rfl rfl rfl rfl rfl rfl) rfl rfl ?_
        refine wl_s (gd_ rfl rfl rfl rfl rfl rfl) rfl rfl ?_
        refine wl_s (gd_ rfl rfl rfl rfl rfl rfl) rfl rfl ?_
        refine wl_s (gd_ rfl rfl rfl rfl rfl rfl) rfl rfl ?_
        refine wl rfl rfl rfl (p_pickT rfl rfl) ?_
        refine wl rfl rfl rfl (p_as rfl) ?_
        refine wl_nil ?_
        refine x_seq ?_
        refine wc_yes rfl (rfl) ?_
        refine wc_seq ?_
        refine wc_region ?_
        refine wl rfl rfl rfl (p_as rfl) ?_
        refine wl_nil ?_
        refine x_seq ?_
        refine wc_ret ?_
        refine x_in_ret ?_
        refine x_then_ret ?_
        refine fin_run (res1 rfl rfl) ?_
        first | rw [hst] | rw [wrS_full (n := n) (b := b) hoff c1 (by omega)]
        first
          | exact ⟨rfl, ⟨_, _, _, _, _, _, _, _, _, hD, hR⟩, HC⟩
          | exact ⟨by rw [hoff]; rfl, ⟨_, _, _, _, _, _, _, _, _, hD, hR⟩, HC⟩
          | exact ⟨rfl, hd, HC⟩
          | (rw [hjl, List.take_of_length_le (by omega)] at hR; exact ⟨rfl, ⟨_, _, _, _, _, _, _, _, _, hD, by rw [← hbl] at hR; exact hR⟩, HC⟩)
      ·
        have q24 := of_decide_eq_false q24
        refine wl_g (gd_ rfl rfl rfl rfl rfl rfl) rfl rfl (p_mv rfl) ?_
        refine wl_g (gd_ rfl rfl rfl rfl rfl rfl) rfl rfl (p_lenS Tryd.underlying22 rfl) ?_
        refine wl_g (gd_ rfl rfl rfl rfl rfl rfl) rfl rfl (p_mv rfl) ?_
        refine wle_g (gd_ rfl rfl rfl rfl rfl rfl) (e_call ent28 rfl rfl (size_any ⟨_, _, _, _, _, _, _, _, _, hD, hR⟩ (by omega)) ?_)
        rintro _ w3 ⟨rfl, hc⟩
        refine ⟨_, rfl, ?_⟩
        have hzw3 := hc.size
        have HC := HC.tr hc
        have hD := hD.ch hc (fun h => h)
        first | have hR := hR.no hc | have hR := hR.ch hc (by intro k hz hk ht; first | omega | (dsimp only at *; omega))
        first | have hb1 := hb1.no hc | have hb1 := hb1.ch hc (by rintro k ⟨h1, h2⟩ ht; first | omega | exact h2 (ht ▸ hR.fg))
        refine wl_g (gd_ rfl rfl rfl rfl rfl rfl) rfl rfl (p_mv rfl) ?_
        refine wl_g (gd_ rfl rfl rfl rfl rfl rfl) rfl rfl (p_sub rfl rfl (w64 (by omega))) ?_
        refine wl_g (gd_ rfl rfl rfl rfl rfl rfl) rfl rfl (p_gt rfl rfl) ?_
        refine wl rfl rfl rfl (p_pickF rfl rfl) ?_
        refine wl rfl rfl rfl (p_as rfl) ?_
        refine wl_nil ?_
        refine x_seq ?_
        refine wc_if rfl (fun c2 => ?_) (fun c2 => ?_)
        ·
          have c2 := of_decide_eq_true c2
          have hst := wrS_full (n := n) (b := b) hoff c1 (by omega)
          refine wc_seq ?_
          refine wc_region ?_
          refine wl rfl rfl rfl (p_as rfl) ?_
          refine wl_nil ?_
          refine x_seq ?_
          refine wc_ret ?_
          refine x_in_ret ?_
          refine x_then_ret ?_
          refine fin_run (res1 rfl rfl) ?_
          first | rw [hst] | rw [wrS_full (n := n) (b := b) hoff c1 (by omega)]
          first
            | exact ⟨rfl, ⟨_, _, _, _, _, _, _, _, _, hD, hR⟩, HC⟩
            | exact ⟨by rw [hoff]; rfl, ⟨_, _, _, _, _, _, _, _, _, hD, hR⟩, HC⟩
            | exact ⟨rfl, hd, HC⟩
            | (rw [hjl, List.take_of_length_le (by omega)] at hR; exact ⟨rfl, ⟨_, _, _, _, _, _, _, _, _, hD, by rw [← hbl] at hR; exact hR⟩, HC⟩)
        ·
          have c2 := of_decide_eq_false c2
          have hfit : ¬ (a > 32 * n ∨ (b.length : Int) > 32 * n - a) := by omega
          refine wc_seq ?_
          refine wc_region ?_
          refine wl rfl rfl rfl (p_mv rfl) ?_
          refine wl rfl rfl rfl (p_lenS Tryd.underlying22 rfl) ?_
          refine wl rfl rfl rfl (p_eq rfl rfl) ?_
          refine wl rfl rfl rfl (p_as rfl) ?_
          refine wl_nil ?_
          refine x_seq ?_
          refine wc_if rfl (fun c3 => ?_) (fun c3 => ?_)
          ·
            have c3 := of_decide_eq_true c3
            have hst := wrS_nil (n := n) (b := b) hoff c1 hfit (List.eq_nil_of_length_eq_zero (by omega))
            refine wc_seq ?_
            refine wc_region ?_
            refine wl rfl rfl rfl (p_as rfl) ?_
            refine wl_nil ?_
            refine x_seq ?_
            refine wc_ret ?_
            refine x_in_ret ?_
            refine x_then_ret ?_
            refine fin_run (res1 rfl rfl) ?_
            first | rw [hst] | rw [wrS_full (n := n) (b := b) hoff c1 (by omega)]
            first
              | exact ⟨rfl, ⟨_, _, _, _, _, _, _, _, _, hD, hR⟩, HC⟩
              | exact ⟨by rw [hoff]; rfl, ⟨_, _, _, _, _, _, _, _, _, hD, hR⟩, HC⟩
              | exact ⟨rfl, hd, HC⟩
              | (rw [hjl, List.take_of_length_le (by omega)] at hR; exact ⟨rfl, ⟨_, _, _, _, _, _, _, _, _, hD, by rw [← hbl] at hR; exact hR⟩, HC⟩)
          ·
            have c3 := of_decide_eq_false c3
            have hbne0 : b ≠ [] := fun e => c3 (by rw [← hbl, e]; rfl)
            refine wc_seq ?_
            refine wc_region ?_
            refine wl rfl rfl rfl (p_mv rfl) ?_
            refine wle rfl (e_call ent48 rfl rfl (strikes_any ⟨_, _, _, _, _, _, _, _, _, hD, hR⟩ hok hn (by intro k hk; exact hF k (by omega)) hoff harm) ?_)
            rintro _ w4 ⟨rfl, hd, hc⟩
            refine ⟨_, rfl, ?_⟩
            have hb1 := hb1.ch hc (fun k h1 h2 => h1.2 h2)
            have HC := HC.trans hc (fun _ _ h => h) (fun _ _ h => h)
            have hzw4 := hc.size
            refine wl rfl rfl rfl (p_as rfl) ?_
            refine wl_nil ?_
            refine x_seq ?_
            refine wc_if rfl (fun c4 => ?_) (fun c4 => ?_)
            ·
              have hst := wrS_strk (n := n) (b := b) hoff c1 hfit hbne0 c4
              refine wc_seq ?_
              refine wc_region ?_
              refine wl rfl rfl rfl (p_as rfl) ?_
              refine wl_nil ?_
              refine x_seq ?_
              refine wc_ret ?_
              refine x_in_ret ?_
              refine x_then_ret ?_
              refine fin_run (res1 rfl rfl) ?_
              first | rw [hst] | rw [wrS_full (n := n) (b := b) hoff c1 (by omega)]
              first
                | exact ⟨rfl, ⟨_, _, _, _, _, _, _, _, _, hD, hR⟩, HC⟩
                | exact ⟨by rw [hoff]; rfl, ⟨_, _, _, _, _, _, _, _, _, hD, hR⟩, HC⟩
                | exact ⟨rfl, hd, HC⟩
                | (rw [hjl, List.take_of_length_le (by omega)] at hR; exact ⟨rfl, ⟨_, _, _, _, _, _, _, _, _, hD, by rw [← hbl] at hR; exact hR⟩, HC⟩)
            ·
              have hst := wrS_done (n := n) (b := b) hoff c1 hfit hbne0 c4
              obtain ⟨d2, hd2⟩ : ∃ x, x = (strk d).2 := ⟨_, rfl⟩
              rw [← hd2] at hd
              have hok2 : d2.Ok n := hd2 ▸ strk_ok hok
              obtain ⟨gs, cs, gm, Ao, lo, co, Ak, lk, ck, hD, hR⟩ := hd
              have hne1 : g ≠ gs := hR.neS hD (by decide)
              have hne2 : g ≠ gm := by obtain ⟨l, clk, h1, _⟩ := hR.ex; exact (h1.ne hD).symm
              have hgl := hD.lt
              have hol := hR.hO.sl.len
              have hom2 := ord_le hok2
              rw [← hd2] at hst
              obtain ⟨x, rfl⟩ := Int.eq_ofNat_of_zero_le (show 0 ≤ a by omega)
              have hxl : x + b.length ≤ 32 * n := by omega
              rw [Int.toNat_natCast] at hst
              refine wc_skip ?_
              refine x_in_normal ?_
              refine x_seq ?_
              refine wc_seq ?_
              refine wc_block ?_
              refine wc_loop (e' := [(0, .pointer (some ⟨g, 0, none⟩)), (1, i64 ((x + (0) : Nat) : Int)), (2, .slice (Ab) (lb - (0)) (cb))]) (fun mz ez uz => ∃ j : Nat, ∃ A1 : Option Addr, ∃ kc : Nat, mz = lb - j ∧ ez = [(0, .pointer (some ⟨g, 0, none⟩)), (1, i64 ((x + j : Nat) : Int)), (2, .slice A1 (lb - j) kc)] ∧ (j ≤ lb) ∧ (j = 0 ∨ j = lb ∨ (x + j) % 32 = 0) ∧ (∃ Ao lo co, Blk uz g 47 (dcell gs n cs gm Ao lo co d2.off d2.armed Ak lk ck d2.torn) ∧ DR TD uz F g n gs gm Ao lo co Ak lk ck d2.safe (spl d2.now x (b.take j)) (touch d2.ord (x / 32) (cnt x j)) d2.keep (touch d2.ord (x / 32) (cnt x j))) ∧ (Sl uz (fun k => k < w.heap.size ∧ ¬ F k) u8v A1 (lb - j) kc (b.drop j)) ∧ (Ch F w uz))
                ⟨rfl, rfl, rfl, trivial⟩ ⟨0, Ab, cb, rfl, rfl, by omega, by omega, ⟨_, _, _, hD, by rw [List.take_zero, spl_nil]; exact hR⟩, by simpa using hb1, HC⟩ ?_
              rintro m0 e w5 ⟨j, A1, kc, hm0, rfl, hj, hjm, hst2, hb1, HC⟩
              have hzw5 := HC.size
              obtain ⟨Ao, lo, co, hD, hR⟩ := hst2
              refine wc_seq ?_
              refine wc_seq ?_
              refine wc_region ?_
              refine wl rfl rfl rfl (p_mv rfl) ?_
              refine wl rfl rfl rfl (p_lenS Tryd.underlying22 rfl) ?_
              refine wl rfl rfl rfl (p_gt rfl rfl) ?_
              refine wl_nil ?_
              refine x_seq ?_
              refine wc_if rfl (fun c5 => ?_) (fun c5 => ?_)
              ·
                have c5 := of_decide_eq_true c5
                have hjm0 : j = 0 ∨ (x + j) % 32 = 0 := by omega
                have hin : ((x + j) / 32) < n := by omega
                obtain ⟨q, hq⟩ : ∃ q, q = min (lb - j) (32 - ((x + j) % 32)) := ⟨_, rfl⟩
                have hnl := wr_len (b := b) (j := j) hok2.w hxl
                have hls := sec_len (i := ((x + j) / 32)) hok2.s hin
                have hcl : ((b.drop j).take q).length = q := by rw [List.length_take, List.length_drop]; omega
                have hws := wr_step (l := d2.now) (b := b) (x := x) (j := j) (q := q) (by rw [hok2.w]; exact hxl) (by omega)
                have hsec : sec (spl d2.now x (b.take (j + q))) ((x + j) / 32) = spl (sec (spl d2.now x (b.take j)) ((x + j) / 32)) ((x + j) % 32) ((b.drop j).take q) := by have h1 := sec_spl_part (l := (spl d2.now x (b.take j))) (c := (b.drop j).take q) (r := ((x + j) % 32)) hnl hin (by rw [hcl]; omega); rw [show 32 * ((x + j) / 32) + ((x + j) % 32) = x + j by omega] at h1; rw [hws]; exact h1
                have hoth : ∀ k, k < n → k ≠ ((x + j) / 32) → sec (spl d2.now x (b.take (j + q))) k = sec (spl d2.now x (b.take j)) k := fun k hk hne => by rw [hws]; exact sec_spl_other hnl hk (by rw [hcl, hnl]; omega) (by rw [hcl]; omega)
                have hltn : ∀ k ∈ (touch d2.ord (x / 32) (cnt x j)), k < n := fun k hk => by rcases mem_touch.1 hk with h | h; exact hok2.lt k h; have := cnt_at hjm0; omega
                have hlo : lo ≤ n := by have h1 := hR.hO.sl.len; have h2 := nodup_le (nodup_touch (i := x / 32) hok2.nd (m := cnt x j)) hltn; omega
                refine wc_skip ?_
                refine x_seq ?_
                refine wc_block ?_
                refine wc_seq ?_
                refine wc_region ?_
                refine wl rfl rfl rfl (p_mv rfl) ?_
                refine wl rfl rfl rfl (p_quo (Z := ((((x + j) / 32) : Nat) : Int)) rfl rfl (by omega) (by rw [show ((x + j : Nat) : Int).tdiv 32 = ((((x + j) / 32) : Nat) : Int) from rfl, w64 (by omega)])) ?_
                refine wl rfl rfl rfl (p_as rfl) ?_
                refine wl_nil ?_
                refine x_seq ?_
                refine wc_seq ?_
                refine wc_seq ?_
                refine wc_region ?_
                refine wl rfl rfl rfl (p_mv rfl) ?_
                refine wl rfl rfl rfl (p_nck rfl) ?_
                refine wl rfl rfl rfl (p_fld (j := 1) Tryd.underlying47 rfl ⟨_, by rfl⟩ rfl rfl) ?_
                refine wl rfl rfl rfl (p_ld Tryd.underlying44 rfl rfl (ld (hD.cell rfl))) ?_
                refine wl rfl rfl rfl (p_mv rfl) ?_
                obtain ⟨p, hp, hpc⟩ := hR.find Tryd.underlying44 Tryd.underlying3 (by rfl) ((x + j) / 32)
                refine wl rfl rfl rfl (p_lookR rfl rfl (fun x e => by rw [e]; exact hp _ (Ch.refl _ _))) ?_
                refine wl rfl rfl rfl (p_eqPN rfl rfl Tryd.underlying72) ?_
                refine wl_nil ?_
                refine x_seq ?_
                refine wc_if rfl (fun c6 => ?_) (fun c6 => ?_)
                ·
                  have hni : ((x + j) / 32) ∉ (touch d2.ord (x / 32) (cnt x j)) := by rcases hpc with h | ⟨b0, hb0, _⟩; exact h.2; rw [hb0] at c6; cases c6
                  have hsm := wr_same hok2 hxl (by omega) hin hjm0 hni
                  have htn := touch_out (ord := d2.ord) (q := q) hjm0 (by omega) (by omega) hni
                  have hin2 : ((x + j) / 32) ∈ (touch d2.ord (x / 32) (cnt x j)) ++ [((x + j) / 32)] := by simp
                  have hoth : ∀ k, k ∈ (touch d2.ord (x / 32) (cnt x j)) ++ [((x + j) / 32)] → k ≠ ((x + j) / 32) → sec (spl d2.now x (b.take (j + q))) k = sec (spl d2.now x (b.take j)) k := fun k hk hne => by rcases List.mem_append.1 hk with h | h; exact hoth k (hltn k h) hne; simp at h; exact absurd h hne
                  refine wc_seq ?_
                  refine wc_region ?_
                  refine wl rfl rfl rfl (p_mv rfl) ?_
                  refine wl rfl rfl rfl (p_nck rfl) ?_
                  refine wl rfl rfl rfl (p_fld (j := 0) Tryd.underlying47 rfl ⟨_, by rfl⟩ rfl rfl) ?_
                  refine wl rfl rfl rfl (p_ld Tryd.underlying43 rfl rfl (ld (hD.cell rfl))) ?_
                  refine wl rfl rfl rfl (p_mv rfl) ?_
                  refine wl rfl rfl rfl (p_ixS (j := ((x + j) / 32) * 32) Tryd.underlying43 sz71 rfl rfl rfl (by omega) (by omega) (congrArg (· * 32) (Int.toNat_natCast _))) ?_
                  refine wl rfl rfl rfl (p_ldA (cs := List.map u8v (sec d2.safe ((x + j) / 32))) Tryd.underlying71 rfl (szL sz71 (by rw [List.length_map]; exact hls)) rfl (fun _ e => e ▸ hR.rng (by rw [hok2.s]; omega))) ?_
                  have hsz0 : ∃ W, W = w5.heap.size := ⟨_, rfl⟩
                  obtain ⟨W, hW0⟩ := hsz0
                  have hR := hR.mono (G := fun k => F k ∧ k < W) (fun k h1 h2 => ⟨h2, by omega⟩) hD.lt
                  have hgW : g < W := by have := hD.lt; omega
                  have hgsW : gs < W := hR.fs.2
                  refine wle rfl (e_alloc (cs := ((List.replicate 32 (0 : UInt8)).map u8v).toArray) rfl (by rfl) (by rfl) (fun w6 g9 hg9 hb9 hc hsz9 => ?_))
                  have hD := hD.ch hc (fun h => h)
                  have hR := hR.no hc
                  have hb1 := hb1.no hc
                  have HC := HC.tr hc
                  have hzw6 := hc.size
                  have hge9 : w.heap.size ≤ g9 := by have := HC.size; omega
                  refine wle rfl (e_stW (vs := List.map u8v (sec d2.safe ((x + j) / 32))) (szL sz71 (by rw [List.length_map]; exact hls)) (oneL one_u8 _) rfl rfl hb9 (by simp only [List.size_toArray, List.length_map, List.length_replicate]; exact hls.symm) (fun w7 hb9 hc hsz => ?_))
                  rw [← hsm] at hb9
                  have hD := hD.ch hc (by omega)
                  have hnew9 := hR.notin (b := g9) (fun h => by omega)
                  have hR := hR.ch hc (by rintro k hz ⟨hk1, hk2⟩ ht; omega)
                  have hnew9 := hR.notin (b := g9) (fun h => by have := h.2; omega)
                  have hR := hR.mono (fun k _ h => h.1) hD.lt
                  have hb1 := hb1.ch hc (by rintro k ⟨h1, h2⟩ ht; omega)
                  have HC := HC.trans hc (fun _ _ h => h) (fun k hk ht => absurd ht (by omega))
                  have hzw7 := hc.size
                  refine wl_nil ?_
                  refine x_seq ?_
                  refine wc_seq ?_
                  refine wc_region ?_
                  refine wl rfl rfl rfl (p_mv rfl) ?_
                  refine wl rfl rfl rfl (p_nck rfl) ?_
                  refine wl rfl rfl rfl (p_fld (j := 1) Tryd.underlying47 rfl ⟨_, by rfl⟩ rfl rfl) ?_
                  refine wl rfl rfl rfl (p_ld Tryd.underlying44 rfl rfl (ld (hD.cell rfl))) ?_
                  refine wl rfl rfl rfl (p_mv rfl) ?_
                  refine wle rfl (e_dIns Tryd.underlying44 Tryd.underlying3 rfl rfl rfl hR hni hb9 (by omega) (hF g9 hge9) hnew9 (fun w8 hR hc hsz => ?_))
                  have hD := hD.ch hc hne2
                  have hb1 := hb1.ch hc (by rintro k ⟨h1, h2⟩ ht; exact h2 (ht ▸ hR.fm))
                  have HC := HC.trans hc (fun _ _ h => h) (fun k hk ht => by rw [ht]; exact hR.fm)
                  have hzw8 := hc.size
                  refine wl_nil ?_
                  refine x_seq ?_
                  refine wc_region ?_
                  refine wl rfl rfl rfl (p_mv rfl) ?_
                  refine wl rfl rfl rfl (p_mv rfl) ?_
                  refine wl rfl rfl rfl (p_nck rfl) ?_
                  refine wl rfl rfl rfl (p_fld (j := 2) Tryd.underlying47 rfl ⟨_, by rfl⟩ rfl rfl) ?_
                  refine wl rfl rfl rfl (p_ld Tryd.underlying45 rfl rfl (ld (hD.cell rfl))) ?_
                  refine wl rfl rfl rfl (p_mv rfl) ?_
                  have hltg := hD.lt
                  refine wle rfl (e_bslV (E := 3) rfl rfl (fun _ => by kernel_rfl) (fun w9 g70 hg70 hb70 hc hsz70 => ?_))
                  have hzw9 := hc.size
                  have HC := HC.tr hc
                  first | have hb1 := hb1.no hc | have hb1 := hb1.ch hc (by rintro k ⟨h1, h2⟩ ht; first | omega | exact h2 (ht ▸ hR.fg))
                  have hD := hD.ch hc (fun h => h)
                  first | have hR := hR.no hc | have hR := hR.ch hc (by intro k hz hk ht; first | omega | (dsimp only at *; omega))
                  have hge70 : w.heap.size ≤ g70 := by have := HC.size; omega
                  have hS70 := Sl.lit1 (f := i64) hb70
                  have hSo := sl_one hS70
                  refine wle rfl (e_appS rfl el45 (fun _ => rfl) rfl rfl hR.oRow hSo (by have := hR.hO.sl.len; omega) (by intro k hk; exact .inr hk) (fun w10 A71 c71 hWo hc => ?_))
                  have hnO := hR.notO hD (by decide)
                  have hD := hD.ch hc hnO
                  have hb1 := hb1.ch hc (by rintro k ⟨h1, h2⟩ ht; rcases ht with ht | ht; exact h2 (hR.hO.at_ k ht); omega)
                  have HC := HC.trans hc (fun _ _ h => h) (fun k hk ht => by rcases ht with ht | ht; exact hR.hO.at_ k ht; exact hF k (by omega))
                  have hR := hR.app (fun k hk => hF k (by omega)) hWo hc
                  have hzw10 := hc.size
                  refine wl rfl rfl rfl (p_nck rfl) ?_
                  refine wl rfl rfl rfl (p_fld (j := 2) Tryd.underlying47 rfl ⟨_, by rfl⟩ rfl rfl) ?_
                  refine wle rfl (e_stD (T := TD) (j := 2) (by rfl) rfl rfl rfl hD hR (show 2 < 7 by decide) (fun w11 hD hR hc hsz => ?_))
                  have hzw11 := hc.size
                  have HC := HC.trans hc (fun _ _ h => h) (fun k hk ht => (by rw [ht]; exact hR.fg))
                  first | have hb1 := hb1.no hc | have hb1 := hb1.ch hc (by rintro k ⟨h1, h2⟩ ht; first | omega | exact h2 (ht ▸ hR.fg))
                  refine wl_nil ?_
                  refine x_seq ?_
                  refine wc_seq ?_
                  refine wc_region ?_
                  refine wl rfl rfl rfl (p_mv rfl) ?_
                  refine wl rfl rfl rfl (p_nck rfl) ?_
                  refine wl rfl rfl rfl (p_fld (j := 1) Tryd.underlying47 rfl ⟨_, by rfl⟩ rfl rfl) ?_
                  refine wl rfl rfl rfl (p_ld Tryd.underlying44 rfl rfl (ld (hD.cell rfl))) ?_
                  refine wl rfl rfl rfl (p_mv rfl) ?_
                  obtain ⟨p2, hp2, hpc2⟩ := hR.find Tryd.underlying44 Tryd.underlying3 (by rfl) ((x + j) / 32)
                  obtain ⟨b2, rfl, _, hbE, hbne, hbF, hbin⟩ := hpc2.resolve_left (fun h => h.2 hin2)
                  have hlE := sec_len hnl hin
                  refine wl rfl rfl rfl (p_lookR rfl rfl (fun x e => by rw [e]; exact hp2 _ (Ch.refl _ _))) ?_
                  refine wl rfl rfl rfl (p_nck rfl) ?_
                  refine wl rfl rfl rfl (p_mv rfl) ?_
                  refine wl rfl rfl rfl (p_rem (Z := ((((x + j) % 32) : Nat) : Int)) rfl rfl (by omega) rfl) ?_
                  refine wl rfl rfl rfl (p_slA2 (l := ((x + j) % 32)) Tryd.underlying71 sz5 rfl ⟨_, rfl⟩ (by omega)) ?_
                  refine wl rfl rfl rfl (p_mv rfl) ?_
                  refine wle rfl (e_copyP (o := 0 + ((x + j) % 32)) (L := sec (spl d2.now x (b.take j)) ((x + j) / 32)) rfl Tryd.underlying22 sz5 rfl rfl hbE hb1 (by rw [hlE]; omega) (fun w12 hb2 hc hsz => ?_))
                  rw [← hq] at hb2
                  rw [← hq]
                  have hgb := hD.ne_of hbE (by decide)
                  have hD := hD.ch hc hgb
                  have hb1 := hb1.ch hc (by rintro k ⟨h1, h2⟩ ht; exact h2 (ht ▸ hbF))
                  have HC := HC.trans hc (fun _ _ h => h) (fun k hk ht => by rw [ht]; exact hbF)
                  have hR := hR.dirty (nw' := spl d2.now x (b.take (j + q))) (k := ((x + j) / 32)) hbE hbin hbne hc (by rw [hsec]; rw [Nat.zero_add] at hb2; exact hb2) hoth
                  have hzw12 := hc.size
                  refine wl rfl rfl rfl (p_as rfl) ?_
                  refine wl_nil ?_
                  refine x_seq ?_
                  refine wc_draw (.st 0 0 (.st 1 0 (.st 2 0 (.st 3 0 (.st 4 0 (.st 5 0 (.st 6 0 (.st 7 0 .nil)))))))) 8 (by kernel_rfl) (by kernel_rfl) (by kernel_rfl) (by repeat (first | with_reducible exact pan_body | with_reducible apply pan_then | with_reducible apply pan_in)) (fun x => Ch No w12.drew x) (Ch.refl _ _) ?_
                  obtain ⟨w13, ew13⟩ : ∃ x, x = w12.drew := ⟨_, rfl⟩
                  rw [← ew13]
                  have hc : Ch No w12 w13 := by rw [ew13]; exact Ch.drew _
                  have hszw13 : w13.heap.size = w12.heap.size := by rw [ew13]; rfl
                  clear ew13
                  have hzw13 := hc.size
                  have HC := HC.tr hc
                  first | have hb1 := hb1.no hc | have hb1 := hb1.ch hc (by rintro k ⟨h1, h2⟩ ht; first | omega | exact h2 (ht ▸ hR.fg))
                  have hD := hD.ch hc (fun h => h)
                  first | have hR := hR.no hc | have hR := hR.ch hc (by intro k hz hk ht; first | omega | (dsimp only at *; omega))
                  refine ws_p rfl rfl rfl rfl (p_mv rfl) ?_
                  refine ws_p rfl rfl rfl rfl (p_mv rfl) ?_
                  refine ws_p rfl rfl rfl rfl (p_add (Z := ((x + (j + q) : Nat) : Int)) rfl rfl (by rw [w64 (by omega)]; omega)) ?_
                  refine ws_p rfl rfl rfl rfl (p_mv rfl) ?_
                  refine ws_p rfl rfl rfl rfl (p_mv rfl) ?_
                  have hS91 : Sl w13 (fun k => k < w.heap.size ∧ ¬ F k) u8v (cutA A1 kc q 1) (lb - (j + q)) (kc - q) (b.drop (j + q)) := by have := hb1.cutTo (lo := q) (by omega); rw [List.drop_drop, show lb - j - q = lb - (j + q) by omega] at this; exact this
                  refine ws_p rfl rfl rfl rfl (p_slS (l := q) (h := lb - j) Tryd.underlying22 sz5 rfl ⟨_, rfl⟩ rfl (by omega) (by have := hb1.cap; omega) hb1.cap (q := lb - (j + q)) (by omega)) ?_
                  refine ws_p rfl rfl rfl rfl (p_as rfl) ?_
                  refine ws_p rfl rfl rfl rfl (p_as rfl) ?_
                  refine ws_n ?_
                  refine x_in_normal ?_
                  refine x_round (e' := [(0, .pointer (some ⟨g, 0, none⟩)), (1, i64 ((x + (j + q) : Nat) : Int)), (2, .slice (cutA A1 kc q 1) (lb - (j + q)) (kc - q))]) ⟨rfl, rfl, rfl, trivial⟩ (by rw [hm0]; omega) ⟨j + q, cutA A1 kc q 1, kc - q, rfl, rfl, by omega, by omega, by rw [htn]; exact ⟨_, _, _, hD, hR⟩, hS91, HC⟩
                ·
                  have hin2 : ((x + j) / 32) ∈ (touch d2.ord (x / 32) (cnt x j)) := by rcases hpc with h | ⟨b0, hb0, h, _⟩; rw [h.1] at c6; cases c6; exact h
                  have htn := touch_in (ord := d2.ord) (q := q) hjm0 (by omega) (by omega) hin2
                  have hoth : ∀ k, k ∈ (touch d2.ord (x / 32) (cnt x j)) → k ≠ ((x + j) / 32) → sec (spl d2.now x (b.take (j + q))) k = sec (spl d2.now x (b.take j)) k := fun k hk hne => hoth k (hltn k hk) hne
                  refine wc_skip ?_
                  refine x_seq ?_
                  refine wc_seq ?_
                  refine wc_region ?_
                  refine wl rfl rfl rfl (p_mv rfl) ?_
                  refine wl rfl rfl rfl (p_nck rfl) ?_
                  refine wl rfl rfl rfl (p_fld (j := 1) Tryd.underlying47 rfl ⟨_, by rfl⟩ rfl rfl) ?_
                  refine wl rfl rfl rfl (p_ld Tryd.underlying44 rfl rfl (ld (hD.cell rfl))) ?_
                  refine wl rfl rfl rfl (p_mv rfl) ?_
                  obtain ⟨p2, hp2, hpc2⟩ := hR.find Tryd.underlying44 Tryd.underlying3 (by rfl) ((x + j) / 32)
                  obtain ⟨b2, rfl, _, hbE, hbne, hbF, hbin⟩ := hpc2.resolve_left (fun h => h.2 hin2)
                  have hlE := sec_len hnl hin
                  refine wl rfl rfl rfl (p_lookR rfl rfl (fun x e => by rw [e]; exact hp2 _ (Ch.refl _ _))) ?_
                  refine wl rfl rfl rfl (p_nck rfl) ?_
                  refine wl rfl rfl rfl (p_mv rfl) ?_
                  refine wl rfl rfl rfl (p_rem (Z := ((((x + j) % 32) : Nat) : Int)) rfl rfl (by omega) rfl) ?_
                  refine wl rfl rfl rfl (p_slA2 (l := ((x + j) % 32)) Tryd.underlying71 sz5 rfl ⟨_, rfl⟩ (by omega)) ?_
                  refine wl rfl rfl rfl (p_mv rfl) ?_
                  refine wle rfl (e_copyP (o := 0 + ((x + j) % 32)) (L := sec (spl d2.now x (b.take j)) ((x + j) / 32)) rfl Tryd.underlying22 sz5 rfl rfl hbE hb1 (by rw [hlE]; omega) (fun w14 hb2 hc hsz => ?_))
                  rw [← hq] at hb2
                  rw [← hq]
                  have hgb := hD.ne_of hbE (by decide)
                  have hD := hD.ch hc hgb
                  have hb1 := hb1.ch hc (by rintro k ⟨h1, h2⟩ ht; exact h2 (ht ▸ hbF))
                  have HC := HC.trans hc (fun _ _ h => h) (fun k hk ht => by rw [ht]; exact hbF)
                  have hR := hR.dirty (nw' := spl d2.now x (b.take (j + q))) (k := ((x + j) / 32)) hbE hbin hbne hc (by rw [hsec]; rw [Nat.zero_add] at hb2; exact hb2) hoth
                  have hzw14 := hc.size
                  refine wl rfl rfl rfl (p_as rfl) ?_
                  refine wl_nil ?_
                  refine x_seq ?_
                  refine wc_draw (.st 0 0 (.st 1 0 (.st 2 0 (.st 3 0 (.st 4 0 (.st 5 0 (.st 6 0 (.st 7 0 .nil)))))))) 8 (by kernel_rfl) (by kernel_rfl) (by kernel_rfl) (by repeat (first | with_reducible exact pan_body | with_reducible apply pan_then | with_reducible apply pan_in)) (fun x => Ch No w14.drew x) (Ch.refl _ _) ?_
                  obtain ⟨w15, ew15⟩ : ∃ x, x = w14.drew := ⟨_, rfl⟩
                  rw [← ew15]
                  have hc : Ch No w14 w15 := by rw [ew15]; exact Ch.drew _
                  have hszw15 : w15.heap.size = w14.heap.size := by rw [ew15]; rfl
                  clear ew15
                  have hzw15 := hc.size
                  have HC := HC.tr hc
                  first | have hb1 := hb1.no hc | have hb1 := hb1.ch hc (by rintro k ⟨h1, h2⟩ ht; first | omega | exact h2 (ht ▸ hR.fg))
                  have hD := hD.ch hc (fun h => h)
                  first | have hR := hR.no hc | have hR := hR.ch hc (by intro k hz hk ht; first | omega | (dsimp only at *; omega))
                  refine ws_p rfl rfl rfl rfl (p_mv rfl) ?_
                  refine ws_p rfl rfl rfl rfl (p_mv rfl) ?_
                  refine ws_p rfl rfl rfl rfl (p_add (Z := ((x + (j + q) : Nat) : Int)) rfl rfl (by rw [w64 (by omega)]; omega)) ?_
                  refine ws_p rfl rfl rfl rfl (p_mv rfl) ?_
                  refine ws_p rfl rfl rfl rfl (p_mv rfl) ?_
                  have hS91 : Sl w15 (fun k => k < w.heap.size ∧ ¬ F k) u8v (cutA A1 kc q 1) (lb - (j + q)) (kc - q) (b.drop (j + q)) := by have := hb1.cutTo (lo := q) (by omega); rw [List.drop_drop, show lb - j - q = lb - (j + q) by omega] at this; exact this
                  refine ws_p rfl rfl rfl rfl (p_slS (l := q) (h := lb - j) Tryd.underlying22 sz5 rfl ⟨_, rfl⟩ rfl (by omega) (by have := hb1.cap; omega) hb1.cap (q := lb - (j + q)) (by omega)) ?_
                  refine ws_p rfl rfl rfl rfl (p_as rfl) ?_
                  refine ws_p rfl rfl rfl rfl (p_as rfl) ?_
                  refine ws_n ?_
                  refine x_in_normal ?_
                  refine x_round (e' := [(0, .pointer (some ⟨g, 0, none⟩)), (1, i64 ((x + (j + q) : Nat) : Int)), (2, .slice (cutA A1 kc q 1) (lb - (j + q)) (kc - q))]) ⟨rfl, rfl, rfl, trivial⟩ (by rw [hm0]; omega) ⟨j + q, cutA A1 kc q 1, kc - q, rfl, rfl, by omega, by omega, by rw [htn]; exact ⟨_, _, _, hD, hR⟩, hS91, HC⟩
              ·
                have c5 := of_decide_eq_false c5
                have hjl : j = lb := by omega
                refine wc_exit ?_
                refine x_then_exit ?_
                refine x_then_exit ?_
                refine x_in_here ?_
                refine x_seq ?_
                refine wc_seq ?_
                refine wc_region ?_
                refine wl rfl rfl rfl (p_as rfl) ?_
                refine wl_nil ?_
                refine x_seq ?_
                refine wc_ret ?_
                refine fin_run (res1 rfl rfl) ?_
                first | rw [hst] | rw [wrS_full (n := n) (b := b) hoff c1 (by omega)]
                first
                  | exact ⟨rfl, ⟨_, _, _, _, _, _, _, _, _, hD, hR⟩, HC⟩
                  | exact ⟨by rw [hoff]; rfl, ⟨_, _, _, _, _, _, _, _, _, hD, hR⟩, HC⟩
                  | exact ⟨rfl, hd, HC⟩
                  | (rw [hjl, List.take_of_length_le (by omega)] at hR; exact ⟨rfl, ⟨_, _, _, _, _, _, _, _, _, hD, by rw [← hbl] at hR; exact hR⟩, HC⟩)
end Go.Proofs.YtcgapjieidmkpaaDoor
