/-
  Own text, printed by a program of mine (wip/gx): what functions of the program do, walked operation by operation.
-/
import Derived.Test.YtcgapjieidmkpaaProg
import Derived.Test.YtcgapjieidmkpaaGxAgg
import Derived.Test.YtcgapjieidmkpaaTab
import Derived.Test.YtcgapjieidmkpaaPlDisk
import Derived.Test.YtcgapjieidmkpaaPlDiskSt
import Derived.Test.YtcgapjieidmkpaaDTb
import Derived.Test.YtcgapjieidmkpaaD1
set_option linter.unusedVariables false
namespace Go.Proofs.Ytcgapjieidmkpaa
open Go.RowKit Go.Gx
open Go.Plain
set_option maxHeartbeats 1000000 in
set_option maxRecDepth 20000 in
theorem dirty_any {w : World} {F : Nat → Prop} {g n : Nat} {d : DS} (hd : DkAt TD w F g n d) (hn : d.ord.length ≤ 4096) :
    Calls Try.prog 19 #[.pointer (some ⟨g, 0, none⟩)] w fun e w' => ∃ A c l, e = .returned (.slice A l c) ∧ l = d.ord.length ∧ Row w' (fun k => w.heap.size ≤ k) 3 1 (.slice A l c) l (d.ord.map nv) ∧ Ch No w w' := by
  obtain ⟨gs, cs, gm, Ao, lo, co, Ak, lk, ck, hD, hR⟩ := hd
  have HC : Ch No w w := Ch.refl _ _
  refine enter' (args := [.pointer (some ⟨g, 0, none⟩)]) (n := 11) Try.func19 rfl rfl rfl ?_
  refine wc_seq ?_
  refine wc_region ?_
  refine wl rfl rfl rfl (p_as rfl) ?_
  refine wl_nil ?_
  refine x_seq ?_
  refine wc_seq ?_
  refine wc_seq ?_
  refine wc_region ?_
  refine wl rfl rfl rfl (p_mv rfl) ?_
  refine wle rfl (e_call ent25 rfl rfl (made_any ⟨_, _, _, _, _, _, _, _, _, hD, hR⟩) ?_)
  rintro _ w1 ⟨rfl, hc⟩
  refine ⟨_, rfl, ?_⟩
  have hzw1 := hc.size
  have HC := HC.tr hc
  have hD := hD.ch hc (fun h => h)
  first | have hR := hR.no hc | have hR := hR.ch hc (by intro k hz hk ht; first | omega | (dsimp only at *; omega))
  refine wl rfl rfl rfl (p_not rfl) ?_
  refine wl_nil ?_
  refine x_seq ?_
  refine wc_no rfl (rfl) ?_
  refine wc_skip ?_
  refine x_seq ?_
  refine wc_seq ?_
  refine wc_region ?_
  refine wl rfl rfl rfl (p_mv rfl) ?_
  refine wl rfl rfl rfl (p_nck rfl) ?_
  refine wl rfl rfl rfl (p_fld (j := 2) Try.underlying49 rfl ⟨_, by rfl⟩ rfl rfl) ?_
  refine wl rfl rfl rfl (p_ld Try.underlying26 rfl rfl (ld (hD.cell rfl))) ?_
  have hol := hR.hO.sl.len
  have hon := sl_nv hR.hO.sl
  refine wle rfl (e_call ent26 rfl rfl (clonei_any hon (by omega)) ?_)
  rintro _ w2 ⟨A10, c10, rfl, hW10, hc⟩
  refine ⟨_, rfl, ?_⟩
  have hzw2 := hc.size
  have HC := HC.tr hc
  have hD := hD.ch hc (fun h => h)
  first | have hR := hR.no hc | have hR := hR.ch hc (by intro k hz hk ht; first | omega | (dsimp only at *; omega))
  refine wl rfl rfl rfl (p_as rfl) ?_
  refine wl_nil ?_
  refine x_seq ?_
  refine wc_ret ?_
  refine fin_run (res1 rfl rfl) ?_
  exact ⟨_, _, _, rfl, hol.symm, ((show _ = _ from map_nv _) ▸ hW10).mono (fun k _ hk => by first | omega | (dsimp only at *; omega)), HC⟩

set_option maxHeartbeats 1000000 in
set_option maxRecDepth 20000 in
theorem start_any {w : World} {F : Nat → Prop} {g n : Nat} {d : DS} (hd : DkAt TD w F g n d) :
    Calls Try.prog 15 #[.pointer (some ⟨g, 0, none⟩)] w fun e w' => e = .returned (.bool (stS d).1) ∧ DkAt TD w' F g n (stS d).2 ∧ Ch F w w' := by
  obtain ⟨gs, cs, gm, Ao, lo, co, Ak, lk, ck, hD, hR⟩ := hd
  have HC : Ch F w w := Ch.refl _ _
  refine enter' (args := [.pointer (some ⟨g, 0, none⟩)]) (n := 16) Try.func15 rfl rfl rfl ?_
  refine wc_seq ?_
  refine wc_region ?_
  refine wl rfl rfl rfl (p_as rfl) ?_
  refine wl_nil ?_
  refine x_seq ?_
  refine wc_seq ?_
  refine wc_seq ?_
  refine wc_region ?_
  refine wl rfl rfl rfl (p_mv rfl) ?_
  refine wle rfl (e_call ent25 rfl rfl (made_any ⟨_, _, _, _, _, _, _, _, _, hD, hR⟩) ?_)
  rintro _ w1 ⟨rfl, hc⟩
  refine ⟨_, rfl, ?_⟩
  have hzw1 := hc.size
  have HC := HC.tr hc
  have hD := hD.ch hc (fun h => h)
  first | have hR := hR.no hc | have hR := hR.ch hc (by intro k hz hk ht; first | omega | (dsimp only at *; omega))
  refine wl rfl rfl rfl (p_not rfl) ?_
  refine wl rfl rfl rfl (p_mv rfl) ?_
  refine wl_g (gd_ rfl rfl rfl rfl rfl rfl) rfl rfl (p_mv rfl) ?_
  refine wl_g (gd_ rfl rfl rfl rfl rfl rfl) rfl rfl (p_nck rfl) ?_
  refine wl_g (gd_ rfl rfl rfl rfl rfl rfl) rfl rfl (p_fld (j := 3) Try.underlying49 rfl ⟨_, by rfl⟩ rfl rfl) ?_
  refine wl_g (gd_ rfl rfl rfl rfl rfl rfl) rfl rfl (p_ld Try.underlying4 rfl rfl (ld (hD.cell rfl))) ?_
  refine wl_g (gd_ rfl rfl rfl rfl rfl rfl) rfl rfl (p_not rfl) ?_
  refine wl rfl rfl rfl (p_pickF rfl rfl) ?_
  refine wl_nil ?_
  refine x_seq ?_
  refine wc_if rfl (fun c0 => ?_) (fun c0 => ?_)
  ·
    have hst : stS d = (false, d) := stS_off (b_of_nt c0)
    refine wc_seq ?_
    refine wc_region ?_
    refine wl rfl rfl rfl (p_as rfl) ?_
    refine wl_nil ?_
    refine x_seq ?_
    refine wc_ret ?_
    refine x_then_ret ?_
    refine fin_run (res1 rfl rfl) ?_
    rw [hst]; exact ⟨rfl, ⟨_, _, _, _, _, _, _, _, _, hD, hR⟩, HC⟩
  ·
    have hst : stS d = (true, { d with off := false }) := stS_on (b_of_nf c0)
    refine wc_skip ?_
    refine x_seq ?_
    refine wc_seq ?_
    refine wc_region ?_
    refine wl rfl rfl rfl (p_mv rfl) ?_
    refine wl rfl rfl rfl (p_nck rfl) ?_
    refine wl rfl rfl rfl (p_fld (j := 3) Try.underlying49 rfl ⟨_, by rfl⟩ rfl rfl) ?_
    refine wle rfl (e_stD (T := TD) (j := 3) (by rfl) rfl rfl rfl hD hR (show 3 < 7 by decide) (fun w2 hD hR hc hsz => ?_))
    have hzw2 := hc.size
    have HC := HC.trans hc (fun _ _ h => h) (fun k hk ht => (by rw [ht]; exact hR.fg))
    refine wl_nil ?_
    refine x_seq ?_
    refine wc_seq ?_
    refine wc_region ?_
    refine wl rfl rfl rfl (p_as rfl) ?_
    refine wl_nil ?_
    refine x_seq ?_
    refine wc_ret ?_
    refine fin_run (res1 rfl rfl) ?_
    rw [hst]; exact ⟨rfl, ⟨_, _, _, _, _, _, _, _, _, hD, hR⟩, HC⟩

set_option maxHeartbeats 1000000 in
set_option maxRecDepth 20000 in
theorem settle_any {w : World} {F : Nat → Prop} {g n gs gm cs : Nat} {Ao : Option Addr} {lo co : Nat} {Ak : Option Addr} {lk ck : Nat} {sf nw : List UInt8} {ord : List Nat} {keep : List Int} {ks : List Nat} {off : Bool} {armed i : Nat} {torn : Int} (hD : Blk w g 49 (dcell gs n cs gm Ao lo co off armed Ak lk ck torn)) (hR : DR TD w F g n gs gm Ao lo co Ak lk ck sf nw ord keep ks) (hik : i ∈ ks) (hin : i < n) (hn : n ≤ 4096) (hsl : sf.length = 32 * n) (hnl : nw.length = 32 * n) :
    Calls Try.prog 30 #[.pointer (some ⟨g, 0, none⟩), nv i] w fun e w' => e = .returned (.tuple #[]) ∧ Ch (fun k => k = gs ∨ k = gm) w w' ∧ Blk w' g 49 (dcell gs n cs gm Ao lo co off armed Ak lk ck torn) ∧ DR TD w' F g n gs gm Ao lo co Ak lk ck (spl sf (32 * i) (sec nw i)) nw ord keep (ks.filter (· != i)) := by
  have hne1 : g ≠ gs := hR.neS hD (by decide)
  have hne2 : g ≠ gm := by obtain ⟨l, clk, h1, _⟩ := hR.ex; exact (h1.ne hD).symm
  have HC : Ch (fun k => k = gs ∨ k = gm) w w := Ch.refl _ _
  refine enter' (args := [.pointer (some ⟨g, 0, none⟩), nv i]) (n := 23) Try.func30 rfl rfl rfl ?_
  refine wc_seq ?_
  refine wc_draw (.st 0 0 (.st 1 0 (.st 2 0 (.st 3 1 (.st 4 0 (.st 5 0 (.st 6 0 (.st 7 0 (.st 8 1 (.st 9 0 (.st 10 1 (.st 11 0 (.st 12 1 (.st 13 0 (.st 14 3 .nil))))))))))))))) 14 (by kernel_rfl) (by kernel_rfl) (by kernel_rfl) (by repeat (first | with_reducible exact pan_body | with_reducible apply pan_then | with_reducible apply pan_in)) (fun x => Ch No w.drew x) (Ch.refl _ _) ?_
  obtain ⟨w1, ew1⟩ : ∃ x, x = w.drew := ⟨_, rfl⟩
  rw [← ew1]
  have hc : Ch No w w1 := by rw [ew1]; exact Ch.drew _
  have hszw1 : w1.heap.size = w.heap.size := by rw [ew1]; rfl
  clear ew1
  have hzw1 := hc.size
  have HC := HC.tr hc
  have hD := hD.ch hc (fun h => h)
  first | have hR := hR.no hc | have hR := hR.ch hc (by intro k hz hk ht; first | omega | (dsimp only at *; omega))
  have hS : Ch No w1 w1 := Ch.refl _ _
  refine ws_p rfl rfl rfl rfl (p_mv rfl) ?_
  refine ws_p rfl rfl rfl rfl (p_nck rfl) ?_
  refine ws_p rfl rfl rfl rfl (p_fld (j := 0) Try.underlying49 rfl ⟨_, by rfl⟩ rfl rfl) ?_
  refine ws_h rfl rfl rfl rfl (p_ld Try.underlying46 rfl rfl (fun _ h => h.cell (fun h => h) (hD.cell rfl))) ?_
  refine ws_p rfl rfl rfl rfl (p_mv rfl) ?_
  refine ws_p rfl rfl rfl rfl (p_mv rfl) ?_
  refine ws_p rfl rfl rfl rfl (p_nck rfl) ?_
  refine ws_p rfl rfl rfl rfl (p_fld (j := 1) Try.underlying49 rfl ⟨_, by rfl⟩ rfl rfl) ?_
  refine ws_h rfl rfl rfl rfl (p_ld Try.underlying47 rfl rfl (fun _ h => h.cell (fun h => h) (hD.cell rfl))) ?_
  refine ws_p rfl rfl rfl rfl (p_mv rfl) ?_
  obtain ⟨p, hp, hpc⟩ := hR.find Try.underlying47 Try.underlying3 (by rfl) i
  obtain ⟨b, rfl, _, hbE, hbne, hbF, hbin⟩ := hpc.resolve_left (fun h => h.2 hik)
  refine ws_h rfl rfl rfl rfl (p_lookR rfl rfl (fun x h => hp x h)) ?_
  refine ws_p rfl rfl rfl rfl (p_nck rfl) ?_
  refine ws_h rfl rfl rfl rfl (p_ldA (cs := List.map u8v (sec nw i)) Try.underlying57 rfl (szL sz57 (by rw [List.length_map]; exact (sec_len hnl hin))) rfl (fun _ h => (rngL (hbE.ch h (fun h => h))))) ?_
  refine ws_p rfl rfl rfl rfl (p_ixS (j := i * 32) Try.underlying46 sz57 rfl rfl rfl (by omega) (by omega) (congrArg (· * 32) (Int.toNat_natCast _))) ?_
  obtain ⟨zz, hS0⟩ := hR.hZ
  refine ws_l rfl rfl (e_stZ (o := 0 + i * 32) (L := sf) (v := sec nw i) (by rw [sec_len hnl hin]; exact sz57) rfl rfl hS0 (by rw [sec_len hnl hin]; omega) (fun w2 hs2 hc hsz => ?_))
  rw [show 0 + i * 32 = 32 * i by omega] at hs2
  have hD := hD.ch hc hne1
  have hR := hR.safe hc ⟨zz, hs2⟩
  have HC := HC.trans hc (fun _ _ h => h) (fun k hk ht => .inl ht)
  have hzw2 := hc.size
  refine ws_n ?_
  refine x_seq ?_
  refine wc_region ?_
  refine wl rfl rfl rfl (p_mv rfl) ?_
  refine wl rfl rfl rfl (p_nck rfl) ?_
  refine wl rfl rfl rfl (p_fld (j := 1) Try.underlying49 rfl ⟨_, by rfl⟩ rfl rfl) ?_
  refine wl rfl rfl rfl (p_ld Try.underlying47 rfl rfl (ld (hD.cell rfl))) ?_
  refine wl rfl rfl rfl (p_mv rfl) ?_
  refine wle rfl (e_dDel Try.underlying47 rfl Try.underlying3 rfl rfl hR hik (fun w3 hR hc hsz => ?_))
  have hD := hD.ch hc hne2
  have HC := HC.trans hc (fun _ _ h => h) (fun k hk ht => .inr ht)
  refine wl_nil ?_
  refine fin_run_n (res0 rfl) ?_
  exact ⟨rfl, HC, hD, hR⟩
end Go.Proofs.Ytcgapjieidmkpaa
