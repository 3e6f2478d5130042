/-
  Own text, printed by a program of mine (wip/gx): what functions of the program do, walked operation by operation.
-/
import Derived.Test.YtcgapjieidmkpaaProg
import Derived.Test.YtcgapjieidmkpaaGxAgg
import Derived.Test.YtcgapjieidmkpaaTab
import Derived.Test.YtcgapjieidmkpaaPlDisk
import Derived.Test.YtcgapjieidmkpaaPlDiskSt
import Derived.Test.YtcgapjieidmkpaaPlDiskOk
import Derived.Test.YtcgapjieidmkpaaPlDiskC
import Derived.Test.YtcgapjieidmkpaaPlActD
import Derived.Test.YtcgapjieidmkpaaPlActs
import Derived.Test.YtcgapjieidmkpaaPlDiskLaw
import Derived.Test.YtcgapjieidmkpaaDTb
import Derived.Test.YtcgapjieidmkpaaDX
import Derived.Test.YtcgapjieidmkpaaW0
import Derived.Test.YtcgapjieidmkpaaWN
set_option linter.unusedVariables false
namespace Go.Proofs.Ytcgapjieidmkpaa
open Go.RowKit Go.Gx
open Go.Plain
set_option maxHeartbeats 1000000 in
set_option maxRecDepth 20000 in
theorem diskNone_walk {w : World} {a : ActD} {bA kA : Option Addr} {bl bc kl kc : Nat} {FB FK : Nat → Prop} (hB : Sl w FB u8v bA bl bc a.b) (hK : Sl w FK i64 kA kl kc a.keep) (hbz : bc ≤ 140737488351232) (hkz : kc ≤ 17592186044416) (h1a : -9223372036854775808 ≤ a.a) (h2a : a.a ≤ 9223372036854775807) (h1n : -9223372036854775808 ≤ a.n) (h2n : a.n ≤ 9223372036854775807) :
    Calls Try.prog 8 #[.agg #[i64 a.kind, i64 a.a, i64 a.n, .slice bA bl bc, .slice kA kl kc]] w fun e w' => e = .returned (.bool true) ∧ Ch No w w' := by
  have hB := hB.old
  have hK := hK.old
  have HC : Ch No w w := Ch.refl _ _
  refine enter' (args := [.agg #[i64 a.kind, i64 a.a, i64 a.n, .slice bA bl bc, .slice kA kl kc]]) (n := 77) Try.func8 rfl rfl rfl ?_
  refine wc_seq ?_
  refine wc_region ?_
  refine wle rfl (e_box (cs := #[i64 a.kind, i64 a.a, i64 a.n, .slice bA bl bc, .slice kA kl kc]) rfl rfl rfl (fun w1 g1 hg1 hb1 hc hsz1 => ?_))
  have hzw1 := hc.size
  have HC := HC.tr hc
  have hB := hB.no hc
  have hK := hK.no hc
  have hge1 : w.heap.size ≤ g1 := by have := HC.size; omega
  refine wl rfl rfl rfl (p_as rfl) ?_
  refine wl_nil ?_
  refine x_seq ?_
  refine wc_seq ?_
  refine wc_region ?_
  have hltg1 := hb1.lt
  refine wle rfl (e_alloc (cs := #[.slice none 0 0, .map none, .slice none 0 0, .bool false, .int .i64 0, .slice none 0 0, .int .i64 0]) rfl (by rfl) rfl (fun w2 g3 hg3 hb3 hc hsz3 => ?_))
  have hzw2 := hc.size
  have HC := HC.tr hc
  have hB := hB.no hc
  have hK := hK.no hc
  have hb1 := hb1.ch hc (fun h => h)
  have hge3 : w.heap.size ≤ g3 := by have := HC.size; omega
  have neg1_3 : g1 < g3 := by omega
  refine wl_nil ?_
  refine x_seq ?_
  refine wc_seq ?_
  refine wc_seq ?_
  refine wc_region ?_
  refine wl rfl rfl rfl (p_bldV rfl (fun _ => by kernel_rfl)) ?_
  refine wl rfl rfl rfl (p_mv rfl) ?_
  refine wl_nil ?_
  refine x_seq ?_
  refine wc_block ?_
  refine wc_rounds 3 ?_
  refine wr_succ ?_
  refine wc_seq ?_
  refine wc_region ?_
  refine wl rfl rfl rfl (p_lt rfl rfl) ?_
  refine wl_nil ?_
  refine x_seq ?_
  refine wc_seq ?_
  refine wc_yes rfl (rfl) ?_
  refine wc_skip ?_
  refine x_seq ?_
  refine wc_seq ?_
  refine wc_block ?_
  refine wc_seq ?_
  refine wc_region ?_
  refine wl rfl rfl rfl ((p_ixG (f := fun v : Value => v) (L := [.pointer none, .pointer (some ⟨g3, 0, none⟩)]) (d0 := .pointer none) (j := 0) Try.underlying50 Try.underlying23 rfl sz23 rfl rfl (by omega) (by omega) rfl rfl).to (show _ = Value.pointer none from rfl)) ?_
  refine wl rfl rfl rfl (p_as rfl) ?_
  refine wl_nil ?_
  refine x_seq ?_
  refine wc_seq ?_
  refine wc_region ?_
  refine wl rfl rfl rfl (p_mv rfl) ?_
  refine wl rfl rfl rfl (p_fld (j := 2) Try.underlying37 rfl ⟨_, by rfl⟩ rfl rfl) ?_
  refine wl rfl rfl rfl (p_ld Try.underlying3 rfl rfl (ld (hb1.cell rfl))) ?_
  refine wl rfl rfl rfl (p_fld (j := 4) Try.underlying37 rfl ⟨_, by rfl⟩ rfl rfl) ?_
  refine wl rfl rfl rfl (p_ld Try.underlying26 rfl rfl (ld (hb1.cell rfl))) ?_
  refine wl rfl rfl rfl (p_fld (j := 1) Try.underlying37 rfl ⟨_, by rfl⟩ rfl rfl) ?_
  refine wl rfl rfl rfl (p_ld Try.underlying3 rfl rfl (ld (hb1.cell rfl))) ?_
  refine wle rfl (e_call ent11 rfl rfl (arm_no NoDk.nil) ?_)
  rintro _ w3 ⟨rfl, hc⟩
  refine ⟨_, rfl, ?_⟩
  have hzw3 := hc.size
  have HC := HC.tr hc
  have hB := hB.no hc
  have hK := hK.no hc
  have hb1 := hb1.ch hc (fun h => h)
  have hb3 := hb3.ch hc (fun h => h)
  refine wl_nil ?_
  refine x_seq ?_
  refine wc_seq ?_
  refine wc_region ?_
  refine wl rfl rfl rfl (p_mv rfl) ?_
  refine wl rfl rfl rfl (p_fld (j := 1) Try.underlying37 rfl ⟨_, by rfl⟩ rfl rfl) ?_
  refine wl rfl rfl rfl (p_ld Try.underlying3 rfl rfl (ld (hb1.cell rfl))) ?_
  refine wl rfl rfl rfl (p_fld (j := 2) Try.underlying37 rfl ⟨_, by rfl⟩ rfl rfl) ?_
  refine wl rfl rfl rfl (p_ld Try.underlying3 rfl rfl (ld (hb1.cell rfl))) ?_
  refine wle rfl (e_call ent14 rfl rfl (read_no NoDk.nil) ?_)
  rintro _ w4 ⟨rfl, hc⟩
  refine ⟨_, rfl, ?_⟩
  have hzw4 := hc.size
  have HC := HC.tr hc
  have hB := hB.no hc
  have hK := hK.no hc
  have hb1 := hb1.ch hc (fun h => h)
  have hb3 := hb3.ch hc (fun h => h)
  refine wl rfl rfl rfl (p_mv rfl) ?_
  refine wl rfl rfl rfl (p_ext rfl rfl) ?_
  refine wl rfl rfl rfl (p_ext rfl rfl) ?_
  refine wl rfl rfl rfl (p_as rfl) ?_
  refine wl rfl rfl rfl (p_as rfl) ?_
  refine wl_nil ?_
  refine x_seq ?_
  refine wc_seq ?_
  refine wc_region ?_
  refine wl rfl rfl rfl (p_mv rfl) ?_
  refine wl rfl rfl rfl (p_fld (j := 1) Try.underlying37 rfl ⟨_, by rfl⟩ rfl rfl) ?_
  refine wl rfl rfl rfl (p_ld Try.underlying3 rfl rfl (ld (hb1.cell rfl))) ?_
  refine wl rfl rfl rfl (p_fld (j := 3) Try.underlying37 rfl ⟨_, by rfl⟩ rfl rfl) ?_
  refine wl rfl rfl rfl (p_ld Try.underlying29 rfl rfl (ld (hb1.cell rfl))) ?_
  refine wle rfl (e_call ent12 rfl rfl (write_no NoDk.nil) ?_)
  rintro _ w5 ⟨rfl, hc⟩
  refine ⟨_, rfl, ?_⟩
  have hzw5 := hc.size
  have HC := HC.tr hc
  have hB := hB.no hc
  have hK := hK.no hc
  have hb1 := hb1.ch hc (fun h => h)
  have hb3 := hb3.ch hc (fun h => h)
  refine wl rfl rfl rfl (p_ne rfl rfl) ?_
  refine wl rfl rfl rfl (p_mv rfl) ?_
  refine wl_know (d := 36) (b' := false) rfl (rfl) ?_
  refine wl_g (gd_ rfl rfl rfl rfl rfl rfl) rfl rfl (p_mv rfl) ?_
  refine wl_g (gd_ rfl rfl rfl rfl rfl rfl) rfl rfl (p_ne rfl rfl) ?_
  refine wl rfl rfl rfl (p_pickF rfl rfl) ?_
  refine wl rfl rfl rfl (p_mv rfl) ?_
  refine wl_know (d := 40) (b' := false) rfl (rfl) ?_
  refine wl_g (gd_ rfl rfl rfl rfl rfl rfl) rfl rfl (p_mv rfl) ?_
  refine wle_g (gd_ rfl rfl rfl rfl rfl rfl) (e_call ent18 rfl rfl (sync_no NoDk.nil) ?_)
  rintro _ w6 ⟨rfl, hc⟩
  refine ⟨_, rfl, ?_⟩
  have hzw6 := hc.size
  have HC := HC.tr hc
  have hB := hB.no hc
  have hK := hK.no hc
  have hb1 := hb1.ch hc (fun h => h)
  have hb3 := hb3.ch hc (fun h => h)
  refine wl_g (gd_ rfl rfl rfl rfl rfl rfl) rfl rfl (p_ne rfl rfl) ?_
  refine wl rfl rfl rfl (p_pickF rfl rfl) ?_
  refine wl rfl rfl rfl (p_mv rfl) ?_
  refine wl_know (d := 45) (b' := false) rfl (rfl) ?_
  refine wl_g (gd_ rfl rfl rfl rfl rfl rfl) rfl rfl (p_mv rfl) ?_
  refine wl_g (gd_ rfl rfl rfl rfl rfl rfl) rfl rfl (p_fld (j := 4) Try.underlying37 rfl ⟨_, by rfl⟩ rfl rfl) ?_
  refine wl_g (gd_ rfl rfl rfl rfl rfl rfl) rfl rfl (p_ld Try.underlying26 rfl rfl (ld (hb1.cell rfl))) ?_
  refine wl_g (gd_ rfl rfl rfl rfl rfl rfl) rfl rfl (p_fld (j := 2) Try.underlying37 rfl ⟨_, by rfl⟩ rfl rfl) ?_
  refine wl_g (gd_ rfl rfl rfl rfl rfl rfl) rfl rfl (p_ld Try.underlying3 rfl rfl (ld (hb1.cell rfl))) ?_
  refine wle_g (gd_ rfl rfl rfl rfl rfl rfl) (e_call ent20 rfl rfl (crash_no NoDk.nil) ?_)
  rintro _ w7 ⟨rfl, hc⟩
  refine ⟨_, rfl, ?_⟩
  have hzw7 := hc.size
  have HC := HC.tr hc
  have hB := hB.no hc
  have hK := hK.no hc
  have hb1 := hb1.ch hc (fun h => h)
  have hb3 := hb3.ch hc (fun h => h)
  refine wl rfl rfl rfl (p_pickF rfl rfl) ?_
  refine wl rfl rfl rfl (p_mv rfl) ?_
  refine wl_g (gd_ rfl rfl rfl rfl rfl rfl) rfl rfl (p_mv rfl) ?_
  refine wle_g (gd_ rfl rfl rfl rfl rfl rfl) (e_call ent15 rfl rfl (start_no NoDk.nil) ?_)
  rintro _ w8 ⟨rfl, hc⟩
  refine ⟨_, rfl, ?_⟩
  have hzw8 := hc.size
  have HC := HC.tr hc
  have hB := hB.no hc
  have hK := hK.no hc
  have hb1 := hb1.ch hc (fun h => h)
  have hb3 := hb3.ch hc (fun h => h)
  refine wl rfl rfl rfl (p_pickF rfl rfl) ?_
  refine wl rfl rfl rfl (p_mv rfl) ?_
  refine wl_g (gd_ rfl rfl rfl rfl rfl rfl) rfl rfl (p_mv rfl) ?_
  refine wle_g (gd_ rfl rfl rfl rfl rfl rfl) (e_call ent13 rfl rfl (on_no NoDk.nil) ?_)
  rintro _ w9 ⟨rfl, hc⟩
  refine ⟨_, rfl, ?_⟩
  have hzw9 := hc.size
  have HC := HC.tr hc
  have hB := hB.no hc
  have hK := hK.no hc
  have hb1 := hb1.ch hc (fun h => h)
  have hb3 := hb3.ch hc (fun h => h)
  refine wl rfl rfl rfl (p_pickF rfl rfl) ?_
  refine wl rfl rfl rfl (p_mv rfl) ?_
  refine wl_g (gd_ rfl rfl rfl rfl rfl rfl) rfl rfl (p_mv rfl) ?_
  refine wle_g (gd_ rfl rfl rfl rfl rfl rfl) (e_call ent22 rfl rfl (size_no NoDk.nil) ?_)
  rintro _ w10 ⟨rfl, hc⟩
  refine ⟨_, rfl, ?_⟩
  have hzw10 := hc.size
  have HC := HC.tr hc
  have hB := hB.no hc
  have hK := hK.no hc
  have hb1 := hb1.ch hc (fun h => h)
  have hb3 := hb3.ch hc (fun h => h)
  refine wl_g (gd_ rfl rfl rfl rfl rfl rfl) rfl rfl (p_mv rfl) ?_
  refine wle_g (gd_ rfl rfl rfl rfl rfl rfl) (e_call ent19 rfl rfl (dirty_no NoDk.nil) ?_)
  rintro _ w11 ⟨rfl, hc⟩
  refine ⟨_, rfl, ?_⟩
  have hzw11 := hc.size
  have HC := HC.tr hc
  have hB := hB.no hc
  have hK := hK.no hc
  have hb1 := hb1.ch hc (fun h => h)
  have hb3 := hb3.ch hc (fun h => h)
  refine wl_g (gd_ rfl rfl rfl rfl rfl rfl) rfl rfl (p_lenS Try.underlying26 rfl) ?_
  refine wl_g (gd_ rfl rfl rfl rfl rfl rfl) rfl rfl (p_add rfl rfl (w64 (by omega))) ?_
  refine wl_g (gd_ rfl rfl rfl rfl rfl rfl) rfl rfl (p_ne rfl rfl) ?_
  refine wl rfl rfl rfl (p_pickF rfl rfl) ?_
  refine wl rfl rfl rfl (p_mv rfl) ?_
  refine wl_know (d := 70) (b' := false) rfl (rfl) ?_
  refine wl_g (gd_ rfl rfl rfl rfl rfl rfl) rfl rfl (p_mv rfl) ?_
  refine wle_g (gd_ rfl rfl rfl rfl rfl rfl) (e_call ent23 rfl rfl (copy_no NoDk.nil) ?_)
  rintro _ w12 ⟨rfl, hc⟩
  refine ⟨_, rfl, ?_⟩
  have hzw12 := hc.size
  have HC := HC.tr hc
  have hB := hB.no hc
  have hK := hK.no hc
  have hb1 := hb1.ch hc (fun h => h)
  have hb3 := hb3.ch hc (fun h => h)
  refine wl_g (gd_ rfl rfl rfl rfl rfl rfl) rfl rfl (p_nePN rfl rfl Try.underlying23) ?_
  refine wl rfl rfl rfl (p_pickF rfl rfl) ?_
  refine wl_nil ?_
  refine x_seq ?_
  refine wc_no rfl (rfl) ?_
  refine wc_skip ?_
  refine x_in_normal ?_
  refine x_seq ?_
  refine wc_region ?_
  refine wl rfl rfl rfl (p_add rfl rfl (w64 (by omega))) ?_
  refine wl rfl rfl rfl (p_mv rfl) ?_
  refine wl_nil ?_
  refine x_rounds ?_
  refine wr_succ ?_
  refine wc_seq ?_
  refine wc_region ?_
  refine wl rfl rfl rfl (p_lt rfl rfl) ?_
  refine wl_nil ?_
  refine x_seq ?_
  refine wc_seq ?_
  refine wc_yes rfl (rfl) ?_
  refine wc_skip ?_
  refine x_seq ?_
  refine wc_seq ?_
  refine wc_block ?_
  refine wc_seq ?_
  refine wc_region ?_
  refine wl rfl rfl rfl ((p_ixG (f := fun v : Value => v) (L := [.pointer none, .pointer (some ⟨g3, 0, none⟩)]) (d0 := .pointer none) (j := 1) Try.underlying50 Try.underlying23 rfl sz23 rfl rfl (by omega) (by omega) rfl rfl).to (show _ = Value.pointer (some ⟨g3, 0, none⟩) from rfl)) ?_
  refine wl rfl rfl rfl (p_as rfl) ?_
  refine wl_nil ?_
  refine x_seq ?_
  refine wc_seq ?_
  refine wc_region ?_
  refine wl rfl rfl rfl (p_mv rfl) ?_
  refine wl rfl rfl rfl (p_fld (j := 2) Try.underlying37 rfl ⟨_, by rfl⟩ rfl rfl) ?_
  refine wl rfl rfl rfl (p_ld Try.underlying3 rfl rfl (ld (hb1.cell rfl))) ?_
  refine wl rfl rfl rfl (p_fld (j := 4) Try.underlying37 rfl ⟨_, by rfl⟩ rfl rfl) ?_
  refine wl rfl rfl rfl (p_ld Try.underlying26 rfl rfl (ld (hb1.cell rfl))) ?_
  refine wl rfl rfl rfl (p_fld (j := 1) Try.underlying37 rfl ⟨_, by rfl⟩ rfl rfl) ?_
  refine wl rfl rfl rfl (p_ld Try.underlying3 rfl rfl (ld (hb1.cell rfl))) ?_
  refine wle rfl (e_call ent11 rfl rfl (arm_no (NoDk.zero hb3)) ?_)
  rintro _ w13 ⟨rfl, hc⟩
  refine ⟨_, rfl, ?_⟩
  have hzw13 := hc.size
  have HC := HC.tr hc
  have hB := hB.no hc
  have hK := hK.no hc
  have hb1 := hb1.ch hc (fun h => h)
  have hb3 := hb3.ch hc (fun h => h)
  refine wl_nil ?_
  refine x_seq ?_
  refine wc_seq ?_
  refine wc_region ?_
  refine wl rfl rfl rfl (p_mv rfl) ?_
  refine wl rfl rfl rfl (p_fld (j := 1) Try.underlying37 rfl ⟨_, by rfl⟩ rfl rfl) ?_
  refine wl rfl rfl rfl (p_ld Try.underlying3 rfl rfl (ld (hb1.cell rfl))) ?_
  refine wl rfl rfl rfl (p_fld (j := 2) Try.underlying37 rfl ⟨_, by rfl⟩ rfl rfl) ?_
  refine wl rfl rfl rfl (p_ld Try.underlying3 rfl rfl (ld (hb1.cell rfl))) ?_
  refine wle rfl (e_call ent14 rfl rfl (read_no (NoDk.zero hb3)) ?_)
  rintro _ w14 ⟨rfl, hc⟩
  refine ⟨_, rfl, ?_⟩
  have hzw14 := hc.size
  have HC := HC.tr hc
  have hB := hB.no hc
  have hK := hK.no hc
  have hb1 := hb1.ch hc (fun h => h)
  have hb3 := hb3.ch hc (fun h => h)
  refine wl rfl rfl rfl (p_mv rfl) ?_
  refine wl rfl rfl rfl (p_ext rfl rfl) ?_
  refine wl rfl rfl rfl (p_ext rfl rfl) ?_
  refine wl rfl rfl rfl (p_as rfl) ?_
  refine wl rfl rfl rfl (p_as rfl) ?_
  refine wl_nil ?_
  refine x_seq ?_
  refine wc_seq ?_
  refine wc_region ?_
  refine wl rfl rfl rfl (p_mv rfl) ?_
  refine wl rfl rfl rfl (p_fld (j := 1) Try.underlying37 rfl ⟨_, by rfl⟩ rfl rfl) ?_
  refine wl rfl rfl rfl (p_ld Try.underlying3 rfl rfl (ld (hb1.cell rfl))) ?_
  refine wl rfl rfl rfl (p_fld (j := 3) Try.underlying37 rfl ⟨_, by rfl⟩ rfl rfl) ?_
  refine wl rfl rfl rfl (p_ld Try.underlying29 rfl rfl (ld (hb1.cell rfl))) ?_
  refine wle rfl (e_call ent12 rfl rfl (write_no (NoDk.zero hb3)) ?_)
  rintro _ w15 ⟨rfl, hc⟩
  refine ⟨_, rfl, ?_⟩
  have hzw15 := hc.size
  have HC := HC.tr hc
  have hB := hB.no hc
  have hK := hK.no hc
  have hb1 := hb1.ch hc (fun h => h)
  have hb3 := hb3.ch hc (fun h => h)
  refine wl rfl rfl rfl (p_ne rfl rfl) ?_
  refine wl rfl rfl rfl (p_mv rfl) ?_
  refine wl_know (d := 36) (b' := false) rfl (rfl) ?_
  refine wl_g (gd_ rfl rfl rfl rfl rfl rfl) rfl rfl (p_mv rfl) ?_
  refine wl_g (gd_ rfl rfl rfl rfl rfl rfl) rfl rfl (p_ne rfl rfl) ?_
  refine wl rfl rfl rfl (p_pickF rfl rfl) ?_
  refine wl rfl rfl rfl (p_mv rfl) ?_
  refine wl_know (d := 40) (b' := false) rfl (rfl) ?_
  refine wl_g (gd_ rfl rfl rfl rfl rfl rfl) rfl rfl (p_mv rfl) ?_
  refine wle_g (gd_ rfl rfl rfl rfl rfl rfl) (e_call ent18 rfl rfl (sync_no (NoDk.zero hb3)) ?_)
  rintro _ w16 ⟨rfl, hc⟩
  refine ⟨_, rfl, ?_⟩
  have hzw16 := hc.size
  have HC := HC.tr hc
  have hB := hB.no hc
  have hK := hK.no hc
  have hb1 := hb1.ch hc (fun h => h)
  have hb3 := hb3.ch hc (fun h => h)
  refine wl_g (gd_ rfl rfl rfl rfl rfl rfl) rfl rfl (p_ne rfl rfl) ?_
  refine wl rfl rfl rfl (p_pickF rfl rfl) ?_
  refine wl rfl rfl rfl (p_mv rfl) ?_
  refine wl_know (d := 45) (b' := false) rfl (rfl) ?_
  refine wl_g (gd_ rfl rfl rfl rfl rfl rfl) rfl rfl (p_mv rfl) ?_
  refine wl_g (gd_ rfl rfl rfl rfl rfl rfl) rfl rfl (p_fld (j := 4) Try.underlying37 rfl ⟨_, by rfl⟩ rfl rfl) ?_
  refine wl_g (gd_ rfl rfl rfl rfl rfl rfl) rfl rfl (p_ld Try.underlying26 rfl rfl (ld (hb1.cell rfl))) ?_
  refine wl_g (gd_ rfl rfl rfl rfl rfl rfl) rfl rfl (p_fld (j := 2) Try.underlying37 rfl ⟨_, by rfl⟩ rfl rfl) ?_
  refine wl_g (gd_ rfl rfl rfl rfl rfl rfl) rfl rfl (p_ld Try.underlying3 rfl rfl (ld (hb1.cell rfl))) ?_
  refine wle_g (gd_ rfl rfl rfl rfl rfl rfl) (e_call ent20 rfl rfl (crash_no (NoDk.zero hb3)) ?_)
  rintro _ w17 ⟨rfl, hc⟩
  refine ⟨_, rfl, ?_⟩
  have hzw17 := hc.size
  have HC := HC.tr hc
  have hB := hB.no hc
  have hK := hK.no hc
  have hb1 := hb1.ch hc (fun h => h)
  have hb3 := hb3.ch hc (fun h => h)
  refine wl rfl rfl rfl (p_pickF rfl rfl) ?_
  refine wl rfl rfl rfl (p_mv rfl) ?_
  refine wl_g (gd_ rfl rfl rfl rfl rfl rfl) rfl rfl (p_mv rfl) ?_
  refine wle_g (gd_ rfl rfl rfl rfl rfl rfl) (e_call ent15 rfl rfl (start_no (NoDk.zero hb3)) ?_)
  rintro _ w18 ⟨rfl, hc⟩
  refine ⟨_, rfl, ?_⟩
  have hzw18 := hc.size
  have HC := HC.tr hc
  have hB := hB.no hc
  have hK := hK.no hc
  have hb1 := hb1.ch hc (fun h => h)
  have hb3 := hb3.ch hc (fun h => h)
  refine wl rfl rfl rfl (p_pickF rfl rfl) ?_
  refine wl rfl rfl rfl (p_mv rfl) ?_
  refine wl_g (gd_ rfl rfl rfl rfl rfl rfl) rfl rfl (p_mv rfl) ?_
  refine wle_g (gd_ rfl rfl rfl rfl rfl rfl) (e_call ent13 rfl rfl (on_no (NoDk.zero hb3)) ?_)
  rintro _ w19 ⟨rfl, hc⟩
  refine ⟨_, rfl, ?_⟩
  have hzw19 := hc.size
  have HC := HC.tr hc
  have hB := hB.no hc
  have hK := hK.no hc
  have hb1 := hb1.ch hc (fun h => h)
  have hb3 := hb3.ch hc (fun h => h)
  refine wl rfl rfl rfl (p_pickF rfl rfl) ?_
  refine wl rfl rfl rfl (p_mv rfl) ?_
  refine wl_g (gd_ rfl rfl rfl rfl rfl rfl) rfl rfl (p_mv rfl) ?_
  refine wle_g (gd_ rfl rfl rfl rfl rfl rfl) (e_call ent22 rfl rfl (size_no (NoDk.zero hb3)) ?_)
  rintro _ w20 ⟨rfl, hc⟩
  refine ⟨_, rfl, ?_⟩
  have hzw20 := hc.size
  have HC := HC.tr hc
  have hB := hB.no hc
  have hK := hK.no hc
  have hb1 := hb1.ch hc (fun h => h)
  have hb3 := hb3.ch hc (fun h => h)
  refine wl_g (gd_ rfl rfl rfl rfl rfl rfl) rfl rfl (p_mv rfl) ?_
  refine wle_g (gd_ rfl rfl rfl rfl rfl rfl) (e_call ent19 rfl rfl (dirty_no (NoDk.zero hb3)) ?_)
  rintro _ w21 ⟨rfl, hc⟩
  refine ⟨_, rfl, ?_⟩
  have hzw21 := hc.size
  have HC := HC.tr hc
  have hB := hB.no hc
  have hK := hK.no hc
  have hb1 := hb1.ch hc (fun h => h)
  have hb3 := hb3.ch hc (fun h => h)
  refine wl_g (gd_ rfl rfl rfl rfl rfl rfl) rfl rfl (p_lenS Try.underlying26 rfl) ?_
  refine wl_g (gd_ rfl rfl rfl rfl rfl rfl) rfl rfl (p_add rfl rfl (w64 (by omega))) ?_
  refine wl_g (gd_ rfl rfl rfl rfl rfl rfl) rfl rfl (p_ne rfl rfl) ?_
  refine wl rfl rfl rfl (p_pickF rfl rfl) ?_
  refine wl rfl rfl rfl (p_mv rfl) ?_
  refine wl_know (d := 70) (b' := false) rfl (rfl) ?_
  refine wl_g (gd_ rfl rfl rfl rfl rfl rfl) rfl rfl (p_mv rfl) ?_
  refine wle_g (gd_ rfl rfl rfl rfl rfl rfl) (e_call ent23 rfl rfl (copy_no (NoDk.zero hb3)) ?_)
  rintro _ w22 ⟨rfl, hc⟩
  refine ⟨_, rfl, ?_⟩
  have hzw22 := hc.size
  have HC := HC.tr hc
  have hB := hB.no hc
  have hK := hK.no hc
  have hb1 := hb1.ch hc (fun h => h)
  have hb3 := hb3.ch hc (fun h => h)
  refine wl_g (gd_ rfl rfl rfl rfl rfl rfl) rfl rfl (p_nePN rfl rfl Try.underlying23) ?_
  refine wl rfl rfl rfl (p_pickF rfl rfl) ?_
  refine wl_nil ?_
  refine x_seq ?_
  refine wc_no rfl (rfl) ?_
  refine wc_skip ?_
  refine x_in_normal ?_
  refine x_seq ?_
  refine wc_region ?_
  refine wl rfl rfl rfl (p_add rfl rfl (w64 (by omega))) ?_
  refine wl rfl rfl rfl (p_mv rfl) ?_
  refine wl_nil ?_
  refine x_rounds ?_
  refine wr_succ ?_
  refine wc_seq ?_
  refine wc_region ?_
  refine wl rfl rfl rfl (p_lt rfl rfl) ?_
  refine wl_nil ?_
  refine x_seq ?_
  refine wc_seq ?_
  refine wc_no rfl (rfl) ?_
  refine wc_exit ?_
  refine x_then_exit ?_
  refine x_then_exit ?_
  refine x_in_here ?_
  refine x_seq ?_
  refine wc_seq ?_
  refine wc_region ?_
  refine wle rfl (e_call ent16 rfl rfl (lives5_any) ?_)
  rintro _ w23 ⟨rfl, hc⟩
  refine ⟨_, rfl, ?_⟩
  have hzw23 := hc.size
  have HC := HC.tr hc
  have hB := hB.no hc
  have hK := hK.no hc
  have hb1 := hb1.ch hc (fun h => h)
  have hb3 := hb3.ch hc (fun h => h)
  refine wl rfl rfl rfl (p_as rfl) ?_
  refine wl_nil ?_
  refine x_seq ?_
  refine wc_ret ?_
  refine fin_run (res1 rfl rfl) ?_
  exact ⟨rfl, HC⟩
end Go.Proofs.Ytcgapjieidmkpaa
