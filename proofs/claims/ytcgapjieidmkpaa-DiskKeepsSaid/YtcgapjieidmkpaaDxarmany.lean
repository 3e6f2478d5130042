/-
  Own text, printed by a program of mine (wip/gx): what functions of the program do, walked operation by operation.
-/
import Derived.Test.YtcgapjieidmkpaaProg
import Derived.Test.YtcgapjieidmkpaaGxAgg
import Derived.Test.YtcgapjieidmkpaaTab
import Derived.Test.YtcgapjieidmkpaaPlDisk
import Derived.Test.YtcgapjieidmkpaaPlDiskSt
import Derived.Test.YtcgapjieidmkpaaDTb
import Derived.Test.YtcgapjieidmkpaaD3
set_option linter.unusedVariables false
namespace Go.Proofs.Ytcgapjieidmkpaa
open Go.RowKit Go.Gx
open Go.Plain
set_option maxHeartbeats 1000000 in
set_option maxRecDepth 20000 in
theorem arm_any {w : World} {F : Nat → Prop} {g n : Nat} {d : DS} {Ax : Option Addr} {lx cx : Nat} {Fx : Nat → Prop} {x : List Int} {tn : Int} {v : Int} (hd : DkAt TD w F g n d) (hx : Sl w Fx i64 Ax lx cx x) (hlx : lx ≤ 17592186044416) (hF : ∀ k, w.heap.size ≤ k → F k) :
    Calls Try.prog 11 #[.pointer (some ⟨g, 0, none⟩), i64 v, .slice Ax lx cx, i64 tn] w fun e w' => e = .returned (.tuple #[]) ∧ DkAt TD w' F g n (armS d v x tn) ∧ Ch F w w' := by
  obtain ⟨gs, cs, gm, Ao, lo, co, Ak, lk, ck, hD, hR⟩ := hd
  have hgl := hD.lt
  have hool : ∀ k, (Value.slice Ao lo co).ownBlock = some k → k < w.heap.size := fun k hk => (hR.hO.own.lt k hk).2
  have HC : Ch F w w := Ch.refl _ _
  refine enter' (args := [.pointer (some ⟨g, 0, none⟩), i64 v, .slice Ax lx cx, i64 tn]) (n := 24) Try.func11 rfl rfl rfl ?_
  refine wc_seq ?_
  refine wc_region ?_
  refine wl rfl rfl rfl (p_mv rfl) ?_
  refine wle rfl (e_call ent25 rfl rfl (made_any ⟨_, _, _, _, _, _, _, _, _, hD, hR⟩) ?_)
  rintro _ w1 ⟨rfl, hc⟩
  refine ⟨_, rfl, ?_⟩
  have hzw1 := hc.size
  have HC := HC.tr hc
  have hD := hD.ch hc (fun h => h)
  first | have hR := hR.no hc | have hR := hR.ch hc (by intro k hz hk ht; first | omega | (dsimp only at *; omega))
  have hx := hx.no hc
  refine wl_nil ?_
  refine x_seq ?_
  refine wc_yes rfl (rfl) ?_
  refine wc_region ?_
  refine wl rfl rfl rfl (p_mv rfl) ?_
  refine wl rfl rfl rfl (p_mv rfl) ?_
  refine wl rfl rfl rfl (p_mv rfl) ?_
  refine wl rfl rfl rfl (p_mv rfl) ?_
  refine wl rfl rfl rfl ((p_max rfl rfl).to (congrArg i64 armS_max)) ?_
  refine wl rfl rfl rfl (p_mv rfl) ?_
  refine wle rfl (e_call ent26 rfl rfl (clonei_any (hx) (by first | omega | (have := (hx).cap; omega))) ?_)
  rintro _ w2 ⟨A16, c16, rfl, hW16, hc⟩
  refine ⟨_, rfl, ?_⟩
  have hzw2 := hc.size
  have HC := HC.tr hc
  have hD := hD.ch hc (fun h => h)
  first | have hR := hR.no hc | have hR := hR.ch hc (by intro k hz hk ht; first | omega | (dsimp only at *; omega))
  have hx := hx.no hc
  have hdk : ∀ k, (Value.slice Ao lo co).ownBlock = some k → (Value.slice A16 lx c16).ownBlock ≠ some k := fun k hk e => by have := hool k hk; have := hW16.at_ k e; have := HC.size; omega
  refine wl rfl rfl rfl (p_mv rfl) ?_
  refine wl rfl rfl rfl (p_nck rfl) ?_
  refine wl rfl rfl rfl (p_fld (j := 4) Try.underlying49 rfl ⟨_, by rfl⟩ rfl rfl) ?_
  refine wle rfl (e_stD (T := TD) (j := 4) (by rfl) rfl rfl rfl hD hR (show 4 < 7 by decide) (fun w3 hD hR hc hsz => ?_))
  have hzw3 := hc.size
  have HC := HC.trans hc (fun _ _ h => h) (fun k hk ht => (by rw [ht]; exact hR.fg))
  have hW16 := hW16.ch hc (by intro k hz hk ht; first | omega | (dsimp only at *; omega))
  refine wl rfl rfl rfl (p_nck rfl) ?_
  refine wl rfl rfl rfl (p_fld (j := 5) Try.underlying49 rfl ⟨_, by rfl⟩ rfl rfl) ?_
  refine wle rfl (e_stD (T := TD) (j := 5) (by rfl) rfl rfl rfl hD hR (show 5 < 7 by decide) (fun w4 hD hR hc hsz => ?_))
  have hzw4 := hc.size
  have HC := HC.trans hc (fun _ _ h => h) (fun k hk ht => (by rw [ht]; exact hR.fg))
  have hW16 := hW16.ch hc (by intro k hz hk ht; first | omega | (dsimp only at *; omega))
  refine wl rfl rfl rfl (p_nck rfl) ?_
  refine wl rfl rfl rfl (p_fld (j := 6) Try.underlying49 rfl ⟨_, by rfl⟩ rfl rfl) ?_
  refine wle rfl (e_stD (T := TD) (j := 6) (by rfl) rfl rfl rfl hD hR (show 6 < 7 by decide) (fun w5 hD hR hc hsz => ?_))
  have hzw5 := hc.size
  have HC := HC.trans hc (fun _ _ h => h) (fun k hk ht => (by rw [ht]; exact hR.fg))
  have hW16 := hW16.ch hc (by intro k hz hk ht; first | omega | (dsimp only at *; omega))
  refine wl_nil ?_
  refine fin_run_n (res0 rfl) ?_
  first | exact ⟨rfl, ⟨_, _, _, _, _, _, _, _, _, hD, hR.setKeep (hW16.mono (fun k _ hk => hF k (by first | omega | (dsimp only at *; omega)))) hdk⟩, HC⟩
end Go.Proofs.Ytcgapjieidmkpaa
