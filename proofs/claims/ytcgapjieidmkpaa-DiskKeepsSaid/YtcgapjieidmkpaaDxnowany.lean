/-
  Own text, printed by a program of mine (wip/gx): what functions of the program do, walked operation by operation.
-/
import Derived.Test.YtcgapjieidmkpaaProg
import Derived.Test.YtcgapjieidmkpaaGxAgg
import Derived.Test.YtcgapjieidmkpaaTab
import Derived.Test.YtcgapjieidmkpaaPlDisk
import Derived.Test.YtcgapjieidmkpaaPlDiskSt
import Derived.Test.YtcgapjieidmkpaaDTb
import Derived.Test.YtcgapjieidmkpaaD3
set_option linter.unusedVariables false
namespace Go.Proofs.Ytcgapjieidmkpaa
open Go.RowKit Go.Gx
open Go.Plain
set_option maxHeartbeats 1000000 in
set_option maxRecDepth 20000 in
theorem now_any {w : World} {F : Nat → Prop} {g n : Nat} {d : DS} {i : Nat} (hd : DkAt TD w F g n d) (hok : d.Ok n) (hin : i < n) (hn : n ≤ 4096) :
    Calls Try.prog 29 #[.pointer (some ⟨g, 0, none⟩), nv i] w fun e w' => ∃ b o, e = .returned (.pointer (some ⟨b, o, none⟩)) ∧ w.rangeAt b o ((sec d.now i).map u8v) ∧ F b ∧ Ch No w w' := by
  obtain ⟨gs, cs, gm, Ao, lo, co, Ak, lk, ck, hD, hR⟩ := hd
  have hR0 := hR
  have hw0 : ∀ (b o : Nat) (l : List Value), w.rangeAt b o l → w.rangeAt b o l := fun _ _ _ h => h
  have HC : Ch No w w := Ch.refl _ _
  refine enter' (args := [.pointer (some ⟨g, 0, none⟩), nv i]) (n := 21) Try.func29 rfl rfl rfl ?_
  refine wc_seq ?_
  refine wc_region ?_
  refine wl rfl rfl rfl (p_as rfl) ?_
  refine wl_nil ?_
  refine x_seq ?_
  refine wc_seq ?_
  refine wc_seq ?_
  refine wc_region ?_
  refine wl rfl rfl rfl (p_mv rfl) ?_
  refine wl rfl rfl rfl (p_nck rfl) ?_
  refine wl rfl rfl rfl (p_fld (j := 1) Try.underlying49 rfl ⟨_, by rfl⟩ rfl rfl) ?_
  refine wl rfl rfl rfl (p_ld Try.underlying47 rfl rfl (ld (hD.cell rfl))) ?_
  refine wl rfl rfl rfl (p_mv rfl) ?_
  obtain ⟨p, hp, hpc⟩ := hR.find Try.underlying47 Try.underlying3 (by rfl) i
  refine wl rfl rfl rfl (p_lookR rfl rfl (fun x e => by rw [e]; exact hp _ (Ch.refl _ _))) ?_
  refine wl rfl rfl rfl (p_as rfl) ?_
  refine wl_nil ?_
  refine x_seq ?_
  refine wc_seq ?_
  refine wc_region ?_
  refine wl rfl rfl rfl (p_mv rfl) ?_
  refine wl rfl rfl rfl (p_nePN rfl rfl Try.underlying55) ?_
  refine wl_nil ?_
  refine x_seq ?_
  refine wc_if rfl (fun c0 => ?_) (fun c0 => ?_)
  ·
    obtain ⟨b, rfl, _, hbE, _, hbF, _⟩ := hpc.resolve_left (fun h => by rw [h.1] at c0; cases c0)
    have hrg : w.rangeAt b 0 ((sec d.now i).map u8v) := rng_blk hbE (by simp; exact List.take_of_length_le (by simp))
    refine wc_seq ?_
    refine wc_region ?_
    refine wl rfl rfl rfl (p_mv rfl) ?_
    refine wl rfl rfl rfl (p_as rfl) ?_
    refine wl_nil ?_
    refine x_seq ?_
    refine wc_ret ?_
    refine x_then_ret ?_
    refine fin_run (res1 rfl rfl) ?_
    first | exact ⟨_, _, rfl, hrg, hbF, HC⟩ | exact ⟨_, _, rfl, hrg, hR0.fs, HC⟩
  ·
    have hni : i ∉ d.ord := by rcases hpc with h | ⟨b, hb, _⟩; exact h.2; rw [hb] at c0; cases c0
    have hrg : w.rangeAt gs (0 + i * 32) ((sec d.now i).map u8v) := by rw [hok.same i hin hni]; exact hR0.rng (by rw [hok.s]; omega)
    refine wc_skip ?_
    refine x_seq ?_
    refine wc_seq ?_
    refine wc_region ?_
    refine wl rfl rfl rfl (p_mv rfl) ?_
    refine wl rfl rfl rfl (p_nck rfl) ?_
    refine wl rfl rfl rfl (p_fld (j := 0) Try.underlying49 rfl ⟨_, by rfl⟩ rfl rfl) ?_
    refine wl rfl rfl rfl (p_ld Try.underlying46 rfl rfl (ld (hD.cell rfl))) ?_
    refine wl rfl rfl rfl (p_mv rfl) ?_
    refine wl rfl rfl rfl (p_ixS (j := i * 32) Try.underlying46 sz57 rfl rfl rfl (by omega) (by omega) (congrArg (· * 32) (Int.toNat_natCast _))) ?_
    refine wl rfl rfl rfl (p_as rfl) ?_
    refine wl_nil ?_
    refine x_seq ?_
    refine wc_ret ?_
    refine fin_run (res1 rfl rfl) ?_
    first | exact ⟨_, _, rfl, hrg, hbF, HC⟩ | exact ⟨_, _, rfl, hrg, hR0.fs, HC⟩
end Go.Proofs.Ytcgapjieidmkpaa
