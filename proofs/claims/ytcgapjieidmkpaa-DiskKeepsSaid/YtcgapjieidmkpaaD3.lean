/-
  Own text, printed by a program of mine (wip/gx): what functions of the program do, walked operation by operation.
-/
import Derived.Test.YtcgapjieidmkpaaProg
import Derived.Test.YtcgapjieidmkpaaGxAgg
import Derived.Test.YtcgapjieidmkpaaTab
import Derived.Test.YtcgapjieidmkpaaPlDisk
import Derived.Test.YtcgapjieidmkpaaPlDiskSt
import Derived.Test.YtcgapjieidmkpaaDTb
import Derived.Test.YtcgapjieidmkpaaD2
set_option linter.unusedVariables false
namespace Go.Proofs.Ytcgapjieidmkpaa
open Go.RowKit Go.Gx
open Go.Plain
set_option maxHeartbeats 2000000 in
set_option maxRecDepth 20000 in
theorem crash_any {w : World} {F : Nat → Prop} {g n : Nat} {d : DS} {Ax : Option Addr} {lx cx : Nat} {Fx : Nat → Prop} {x : List Int} {tn : Int} (hd : DkAt TD w F g n d) (hx : Sl w Fx i64 Ax lx cx x) (hlx : lx ≤ 9223372036854775807) (hdis : ∀ k, Fx k → ¬ F k ∨ ∃ cs, Blk w k 3 cs) (hok : d.Ok n) (hn : n ≤ 4096) (hF : ∀ k, w.heap.size ≤ k → F k) :
    Calls Try.prog 20 #[.pointer (some ⟨g, 0, none⟩), .slice Ax lx cx, i64 tn] w fun e w' => e = .returned (.bool (crS d x tn).1) ∧ DkAt TD w' F g n (crS d x tn).2 ∧ Ch F w w' := by
  obtain ⟨gs, cs, gm, Ao, lo, co, Ak, lk, ck, hD, hR⟩ := hd
  have hne1 : g ≠ gs := hR.neS hD (by decide)
  have hne2 : g ≠ gm := by obtain ⟨l, clk, h1, _⟩ := hR.ex; exact (h1.ne hD).symm
  have hne3 : gs ≠ gm := hR.neM
  have hgl := hD.lt
  have hol := hR.hO.sl.len
  have hx : Sl w (fun k => k ≠ g ∧ k ≠ gs ∧ k ≠ gm ∧ k < w.heap.size) i64 Ax lx cx x := hx.mono (fun k hk hf => by have h := dis_of hD hR (hdis k hf); exact ⟨h.1, h.2.1, h.2.2, hk⟩)
  have hxl := hx.len
  have hom := ord_le hok
  have hct := clampT_le tn
  have HC : Ch F w w := Ch.refl _ _
  refine enter' (args := [.pointer (some ⟨g, 0, none⟩), .slice Ax lx cx, i64 tn]) (n := 74) Try.func20 rfl rfl rfl ?_
  refine wc_seq ?_
  refine wc_region ?_
  refine wl rfl rfl rfl (p_as rfl) ?_
  refine wl_nil ?_
  refine x_seq ?_
  refine wc_seq ?_
  refine wc_seq ?_
  refine wc_region ?_
  refine wl rfl rfl rfl (p_mv rfl) ?_
  refine wle rfl (e_call ent25 rfl rfl (made_any ⟨_, _, _, _, _, _, _, _, _, hD, hR⟩) ?_)
  rintro _ w1 ⟨rfl, hc⟩
  refine ⟨_, rfl, ?_⟩
  have hzw1 := hc.size
  have HC := HC.tr hc
  have hD := hD.ch hc (fun h => h)
  first | have hR := hR.no hc | have hR := hR.ch hc (by intro k hz hk ht; first | omega | (dsimp only at *; omega))
  have hx := hx.no hc
  refine wl rfl rfl rfl (p_not rfl) ?_
  refine wl rfl rfl rfl (p_mv rfl) ?_
  refine wl_g (gd_ rfl rfl rfl rfl rfl rfl) rfl rfl (p_mv rfl) ?_
  refine wl_g (gd_ rfl rfl rfl rfl rfl rfl) rfl rfl (p_nck rfl) ?_
  refine wl_g (gd_ rfl rfl rfl rfl rfl rfl) rfl rfl (p_fld (j := 3) Try.underlying49 rfl ⟨_, by rfl⟩ rfl rfl) ?_
  refine wl_g (gd_ rfl rfl rfl rfl rfl rfl) rfl rfl (p_ld Try.underlying4 rfl rfl (ld (hD.cell rfl))) ?_
  refine wl rfl rfl rfl (p_pickF rfl rfl) ?_
  refine wl_nil ?_
  refine x_seq ?_
  refine wc_if rfl (fun c0 => ?_) (fun c0 => ?_)
  ·
    have hcr : crS d x tn = (false, d) := crS_off c0
    refine wc_seq ?_
    refine wc_region ?_
    refine wl rfl rfl rfl (p_as rfl) ?_
    refine wl_nil ?_
    refine x_seq ?_
    refine wc_ret ?_
    refine x_then_ret ?_
    refine fin_run (res1 rfl rfl) ?_
    rw [hcr]; first | exact ⟨rfl, ⟨_, _, _, _, _, _, _, _, _, hD, hR⟩, HC⟩ | exact ⟨rfl, ⟨_, _, _, _, _, _, _, _, _, hD, hR.fresh hm65 (hF g65 hge65)⟩, HC⟩
  ·
    have hoff := c0
    have hcr : crS d x tn = (true, crash d x tn) := crS_on c0
    refine wc_skip ?_
    refine x_seq ?_
    refine wc_seq ?_
    refine wc_region ?_
    refine wl rfl rfl rfl (p_as rfl) ?_
    refine wl_nil ?_
    refine x_seq ?_
    refine wc_seq ?_
    refine wc_seq ?_
    refine wc_region ?_
    refine wl rfl rfl rfl (p_mv rfl) ?_
    refine wl rfl rfl rfl (p_nck rfl) ?_
    refine wl rfl rfl rfl (p_fld (j := 2) Try.underlying49 rfl ⟨_, by rfl⟩ rfl rfl) ?_
    refine wl rfl rfl rfl (p_ld Try.underlying26 rfl rfl (ld (hD.cell rfl))) ?_
    refine wl rfl rfl rfl (p_lenS Try.underlying26 rfl) ?_
    refine wl rfl rfl rfl (p_mv rfl) ?_
    refine wl_nil ?_
    refine x_seq ?_
    refine wc_block ?_
    refine wc_loop (e' := [(0, .pointer (some ⟨g, 0, none⟩)), (1, .slice Ax lx cx), (2, i64 tn), (7, .bool (crK d x tn (0)).2), (23, .slice Ao lo co), (24, i64 (lo : Int)), (25, i64 ((0) : Int))]) (fun mz ez uz => ∃ k : Nat, mz = lo - k ∧ ez = [(0, .pointer (some ⟨g, 0, none⟩)), (1, .slice Ax lx cx), (2, i64 tn), (7, .bool (crK d x tn k).2), (23, .slice Ao lo co), (24, i64 (lo : Int)), (25, i64 (k : Int))] ∧ (k ≤ lo) ∧ (∃ ks, Blk uz g 49 (dcell gs n cs gm Ao lo co d.off d.armed Ak lk ck d.torn) ∧ DR TD uz F g n gs gm Ao lo co Ak lk ck (crK d x tn k).1 d.now d.ord d.keep ks ∧ ∀ i ∈ d.ord.drop k, i ∈ ks) ∧ (Sl uz (fun k => k ≠ g ∧ k ≠ gs ∧ k ≠ gm ∧ k < w.heap.size) i64 Ax lx cx x) ∧ (Ch F w uz))
      ⟨rfl, rfl, rfl, rfl, rfl, rfl, rfl, trivial⟩ ⟨0, rfl, rfl, by omega, ⟨d.ord, hD, hR, fun i hi => List.mem_of_mem_drop hi⟩, hx, HC⟩ ?_
    rintro m0 e w2 ⟨k, hm0, rfl, hk, hst, hx, HC⟩
    have hzw2 := HC.size
    obtain ⟨ks, hD, hR, hks⟩ := hst
    refine wc_seq ?_
    refine wc_region ?_
    refine wl rfl rfl rfl (p_lt rfl rfl) ?_
    refine wl_nil ?_
    refine x_seq ?_
    refine wc_seq ?_
    refine wc_if rfl (fun c1 => ?_) (fun c1 => ?_)
    ·
      have c1 := of_decide_eq_true c1
      have hkl : k < d.ord.length := by omega
      refine wc_skip ?_
      refine x_seq ?_
      refine wc_seq ?_
      refine wc_block ?_
      refine wc_seq ?_
      refine wc_region ?_
      obtain ⟨b3, o3, hA3, hF3, hc3⟩ := (hR.hO.sl).opn (d := 0) (by omega)
      refine wl rfl rfl rfl (p_ixS1 Try.underlying26 sz3 rfl hA3 rfl (by omega) (by omega) (Int.toNat_natCast _)) ?_
      refine wl rfl rfl rfl (p_ld Try.underlying3 rfl rfl (ld (hc3 _ (by omega)))) ?_
      obtain ⟨i, hi⟩ : ∃ i, i = d.ord.getD k 0 := ⟨_, rfl⟩
      rw [← hi]
      have hid : i ∈ d.ord.drop k := by rw [hi]; exact drop_head hkl
      have hin : i < n := hok.lt i (List.mem_of_mem_drop hid)
      have hnx := crK_next (d := d) (keep := x) (torn := tn) hkl
      rw [← hi] at hnx
      have hrest : ∀ j ∈ d.ord.drop (k + 1), j ∈ d.ord.drop k ∧ j ≠ i := fun j hj => by rw [hi]; exact drop_rest hkl hok.nd hj
      refine wl rfl rfl rfl (p_as rfl) ?_
      refine wl_nil ?_
      refine x_seq ?_
      refine wc_block ?_
      refine wc_seq ?_
      refine wc_region ?_
      refine wl rfl rfl rfl (p_mv rfl) ?_
      refine wl rfl rfl rfl (p_mv rfl) ?_
      refine wle rfl (e_call ent31 rfl rfl (contains_any (hx) (by have := (hx).cap; omega)) ?_)
      rintro _ w4 ⟨rfl, hc⟩
      refine ⟨_, rfl, ?_⟩
      have hzw4 := hc.size
      have HC := HC.tr hc
      have hx := hx.no hc
      have hD := hD.ch hc (fun h => h)
      first | have hR := hR.no hc | have hR := hR.ch hc (by intro k hz hk ht; first | omega | (dsimp only at *; omega))
      refine wl rfl rfl rfl (p_as rfl) ?_
      refine wl_nil ?_
      refine x_seq ?_
      refine wc_if rfl (fun c2 => ?_) (fun c2 => ?_)
      ·
        have c2 := of_decide_eq_true c2
        rw [crash1_keep c2] at hnx
        refine wc_region ?_
        refine wl rfl rfl rfl (p_mv rfl) ?_
        refine wl rfl rfl rfl (p_mv rfl) ?_
        refine wle rfl (e_call ent30 rfl rfl (settle_any hD hR (hks i hid) hin hn (crK_len hok x tn k) hok.w) ?_)
        rintro _ w5 ⟨rfl, hc, hD, hR⟩
        refine ⟨_, rfl, ?_⟩
        have HC := HC.trans hc (fun _ _ h => h) (fun k hk ht => by rcases ht with rfl | rfl; exact hR.fs; exact hR.fm)
        have hx := hx.ch hc (by intro k hk ht; omega)
        have hzw5 := hc.size
        refine wl_nil ?_
        refine x_in_normal ?_
        refine x_in_normal ?_
        refine x_seq ?_
        refine wc_region ?_
        refine wl rfl rfl rfl (p_add rfl rfl (w64 (by omega))) ?_
        refine wl rfl rfl rfl (p_mv rfl) ?_
        refine wl_nil ?_
        refine x_round (e' := [(0, .pointer (some ⟨g, 0, none⟩)), (1, .slice Ax lx cx), (2, i64 tn), (7, .bool (crK d x tn (k + 1)).2), (23, .slice Ao lo co), (24, i64 (lo : Int)), (25, i64 ((k + 1) : Int))]) ⟨rfl, rfl, rfl, (by rw [hnx]; first | rfl | (rw [b_of_nf c3]; rfl)), rfl, rfl, rfl, trivial⟩ (by rw [hm0]; omega) ⟨k + 1, rfl, rfl, by omega, by first | exact ⟨_, hD, by rw [hnx]; exact hR, fun j hj => List.mem_filter.2 ⟨hks j (hrest j hj).1, by simpa using (hrest j hj).2⟩⟩ | exact ⟨_, hD, by rw [hnx]; exact hR, fun j hj => hks j (hrest j hj).1⟩, hx, HC⟩
      ·
        have c2 := of_decide_eq_false c2
        refine wc_seq ?_
        refine wc_region ?_
        refine wl rfl rfl rfl (p_mv rfl) ?_
        refine wl rfl rfl rfl (p_not rfl) ?_
        refine wl rfl rfl rfl (p_as rfl) ?_
        refine wl_nil ?_
        refine x_seq ?_
        refine wc_if rfl (fun c3 => ?_) (fun c3 => ?_)
        ·
          rw [crash1_torn c2 (b_of_nt c3)] at hnx
          refine wc_seq ?_
          refine wc_region ?_
          refine wl rfl rfl rfl (p_as rfl) ?_
          refine wl_nil ?_
          refine x_seq ?_
          refine wc_seq ?_
          refine wc_region ?_
          refine wl rfl rfl rfl (p_mv rfl) ?_
          refine wl rfl rfl rfl ((p_min rfl rfl).to (congrArg i64 (show (if (32 : Int) < tn then 32 else tn) = min tn 32 by split <;> omega))) ?_
          refine wl rfl rfl rfl ((p_max rfl rfl).to (congrArg i64 (show (if (0 : Int) > min tn 32 then 0 else min tn 32) = ((clampT tn : Nat) : Int) by unfold clampT; split <;> omega))) ?_
          refine wl rfl rfl rfl (p_as rfl) ?_
          refine wl_nil ?_
          refine x_seq ?_
          refine wc_draw (.st 0 0 (.st 1 0 (.st 2 0 (.st 3 1 (.st 4 0 (.st 5 0 (.st 6 0 (.st 7 0 (.st 8 0 (.st 9 0 (.st 10 0 (.st 11 1 (.st 12 0 (.st 13 1 (.st 14 0 (.st 15 0 (.st 16 0 (.st 17 3 .nil)))))))))))))))))) 17 (by kernel_rfl) (by kernel_rfl) (by kernel_rfl) (by repeat (first | with_reducible exact pan_body | with_reducible apply pan_then | with_reducible apply pan_in)) (fun x => Ch No w4.drew x) (Ch.refl _ _) ?_
          obtain ⟨w6, ew6⟩ : ∃ x, x = w4.drew := ⟨_, rfl⟩
          rw [← ew6]
          have hc : Ch No w4 w6 := by rw [ew6]; exact Ch.drew _
          have hszw6 : w6.heap.size = w4.heap.size := by rw [ew6]; rfl
          clear ew6
          have hzw6 := hc.size
          have HC := HC.tr hc
          have hx := hx.no hc
          have hD := hD.ch hc (fun h => h)
          first | have hR := hR.no hc | have hR := hR.ch hc (by intro k hz hk ht; first | omega | (dsimp only at *; omega))
          have hS : Ch No w6 w6 := Ch.refl _ _
          refine ws_p rfl rfl rfl rfl (p_mv rfl) ?_
          refine ws_p rfl rfl rfl rfl (p_nck rfl) ?_
          refine ws_p rfl rfl rfl rfl (p_fld (j := 0) Try.underlying49 rfl ⟨_, by rfl⟩ rfl rfl) ?_
          refine ws_h rfl rfl rfl rfl (p_ld Try.underlying46 rfl rfl (fun _ h => h.cell (fun h => h) (hD.cell rfl))) ?_
          refine ws_p rfl rfl rfl rfl (p_mv rfl) ?_
          refine ws_p rfl rfl rfl rfl (p_ixS (j := i * 32) Try.underlying46 sz57 rfl rfl rfl (by omega) (by omega) (congrArg (· * 32) (Int.toNat_natCast _))) ?_
          refine ws_p rfl rfl rfl rfl (p_mv rfl) ?_
          refine ws_p rfl rfl rfl rfl (p_slTo (N := 31) (h := clampT tn) Try.underlying57 sz5 rfl rfl (clampT_le tn)) ?_
          refine ws_p rfl rfl rfl rfl (p_mv rfl) ?_
          refine ws_p rfl rfl rfl rfl (p_nck rfl) ?_
          refine ws_p rfl rfl rfl rfl (p_fld (j := 1) Try.underlying49 rfl ⟨_, by rfl⟩ rfl rfl) ?_
          refine ws_h rfl rfl rfl rfl (p_ld Try.underlying47 rfl rfl (fun _ h => h.cell (fun h => h) (hD.cell rfl))) ?_
          refine ws_p rfl rfl rfl rfl (p_mv rfl) ?_
          obtain ⟨p, hp, hpc⟩ := hR.find Try.underlying47 Try.underlying3 (by rfl) i
          obtain ⟨b, rfl, _, hbE, hbne, hbF, hbin⟩ := hpc.resolve_left (fun h => h.2 (hks i hid))
          refine ws_h rfl rfl rfl rfl (p_lookR rfl rfl (fun x h => hp x h)) ?_
          refine ws_p rfl rfl rfl rfl (p_nck rfl) ?_
          refine ws_p rfl rfl rfl rfl (p_mv rfl) ?_
          have hS58 := Sl.to (h := clampT tn) hbE (sec_len hok.w hin) (clampT_le tn)
          refine ws_p rfl rfl rfl rfl (p_slTo (N := 31) (h := clampT tn) Try.underlying57 sz5 rfl rfl (clampT_le tn)) ?_
          obtain ⟨zz, hS0⟩ := hR.hZ
          refine ws_l rfl rfl (e_copyZ (o := 0 + i * 32) (L := (crK d x tn k).1) rfl Try.underlying29 sz5 rfl rfl hS0 hS58 (by rw [crK_len hok]; omega) (fun w7 hs2 hc hsz => ?_))
          rw [show 0 + i * 32 = 32 * i by omega, Nat.min_self, List.take_take, Nat.min_self] at hs2
          have hD := hD.ch hc hne1
          have hR := hR.safe hc ⟨zz, hs2⟩
          have HC := HC.trans hc (fun _ _ h => h) (fun k hk ht => by rw [ht]; exact hR.fs)
          have hx := hx.ch hc (by intro k hk ht; omega)
          have hzw7 := hc.size
          refine ws_n ?_
          refine x_in_normal ?_
          refine x_in_normal ?_
          refine x_seq ?_
          refine wc_region ?_
          refine wl rfl rfl rfl (p_add rfl rfl (w64 (by omega))) ?_
          refine wl rfl rfl rfl (p_mv rfl) ?_
          refine wl_nil ?_
          refine x_round (e' := [(0, .pointer (some ⟨g, 0, none⟩)), (1, .slice Ax lx cx), (2, i64 tn), (7, .bool (crK d x tn (k + 1)).2), (23, .slice Ao lo co), (24, i64 (lo : Int)), (25, i64 ((k + 1) : Int))]) ⟨rfl, rfl, rfl, (by rw [hnx]; first | rfl | (rw [b_of_nf c3]; rfl)), rfl, rfl, rfl, trivial⟩ (by rw [hm0]; omega) ⟨k + 1, rfl, rfl, by omega, by first | exact ⟨_, hD, by rw [hnx]; exact hR, fun j hj => List.mem_filter.2 ⟨hks j (hrest j hj).1, by simpa using (hrest j hj).2⟩⟩ | exact ⟨_, hD, by rw [hnx]; exact hR, fun j hj => hks j (hrest j hj).1⟩, hx, HC⟩
        ·
          rw [crash1_two c2 (b_of_nf c3)] at hnx
          refine wc_skip ?_
          refine x_in_normal ?_
          refine x_in_normal ?_
          refine x_seq ?_
          refine wc_region ?_
          refine wl rfl rfl rfl (p_add rfl rfl (w64 (by omega))) ?_
          refine wl rfl rfl rfl (p_mv rfl) ?_
          refine wl_nil ?_
          refine x_round (e' := [(0, .pointer (some ⟨g, 0, none⟩)), (1, .slice Ax lx cx), (2, i64 tn), (7, .bool (crK d x tn (k + 1)).2), (23, .slice Ao lo co), (24, i64 (lo : Int)), (25, i64 ((k + 1) : Int))]) ⟨rfl, rfl, rfl, (by rw [hnx]; first | rfl | (rw [b_of_nf c3]; rfl)), rfl, rfl, rfl, trivial⟩ (by rw [hm0]; omega) ⟨k + 1, rfl, rfl, by omega, by first | exact ⟨_, hD, by rw [hnx]; exact hR, fun j hj => List.mem_filter.2 ⟨hks j (hrest j hj).1, by simpa using (hrest j hj).2⟩⟩ | exact ⟨_, hD, by rw [hnx]; exact hR, fun j hj => hks j (hrest j hj).1⟩, hx, HC⟩
    ·
      have c1 := of_decide_eq_false c1
      have hkl : k = d.ord.length := by omega
      subst hkl
      rw [crK_all] at hR
      refine wc_exit ?_
      refine x_then_exit ?_
      refine x_then_exit ?_
      refine x_in_here ?_
      refine x_seq ?_
      refine wc_seq ?_
      refine wc_region ?_
      refine wl rfl rfl rfl (p_mv rfl) ?_
      refine wl rfl rfl rfl (p_mv rfl) ?_
      refine wl rfl rfl rfl (p_mv rfl) ?_
      refine wl rfl rfl rfl (p_mv rfl) ?_
      refine wle rfl (e_mkMap rfl (fun w8 g65 hg65 hm65 hc hsz65 => ?_))
      have hzw8 := hc.size
      have HC := HC.tr hc
      have hx := hx.no hc
      have hD := hD.ch hc (fun h => h)
      first | have hR := hR.no hc | have hR := hR.ch hc (by intro k hz hk ht; first | omega | (dsimp only at *; omega))
      have hge65 : w.heap.size ≤ g65 := by have := HC.size; omega
      refine wl rfl rfl rfl (p_nck rfl) ?_
      refine wl rfl rfl rfl (p_fld (j := 1) Try.underlying49 rfl ⟨_, by rfl⟩ rfl rfl) ?_
      refine wle rfl (e_stD (T := TD) (j := 1) (by rfl) rfl rfl rfl hD hR (show 1 < 7 by decide) (fun w9 hD hR hc hsz => ?_))
      have hzw9 := hc.size
      have HC := HC.trans hc (fun _ _ h => h) (fun k hk ht => (by rw [ht]; exact hR.fg))
      first | have hx := hx.ch hc (by intro k hk ht; first | omega | (dsimp only at *; omega)) | have hx := hx.chT hc (by intro k hz hk ht; first | omega | (dsimp only at *; omega))
      first | have hm65 := hm65.ch hc (fun h => h) | have hm65 := hm65.ch hc (by omega)
      refine wl rfl rfl rfl (p_nck rfl) ?_
      refine wl rfl rfl rfl (p_fld (j := 2) Try.underlying49 rfl ⟨_, by rfl⟩ rfl rfl) ?_
      refine wle rfl (e_stD (T := TD) (j := 2) (by rfl) rfl rfl rfl hD hR (show 2 < 7 by decide) (fun w10 hD hR hc hsz => ?_))
      have hzw10 := hc.size
      have HC := HC.trans hc (fun _ _ h => h) (fun k hk ht => (by rw [ht]; exact hR.fg))
      first | have hx := hx.ch hc (by intro k hk ht; first | omega | (dsimp only at *; omega)) | have hx := hx.chT hc (by intro k hz hk ht; first | omega | (dsimp only at *; omega))
      first | have hm65 := hm65.ch hc (fun h => h) | have hm65 := hm65.ch hc (by omega)
      refine wl rfl rfl rfl (p_nck rfl) ?_
      refine wl rfl rfl rfl (p_fld (j := 3) Try.underlying49 rfl ⟨_, by rfl⟩ rfl rfl) ?_
      refine wle rfl (e_stD (T := TD) (j := 3) (by rfl) rfl rfl rfl hD hR (show 3 < 7 by decide) (fun w11 hD hR hc hsz => ?_))
      have hzw11 := hc.size
      have HC := HC.trans hc (fun _ _ h => h) (fun k hk ht => (by rw [ht]; exact hR.fg))
      first | have hx := hx.ch hc (by intro k hk ht; first | omega | (dsimp only at *; omega)) | have hx := hx.chT hc (by intro k hz hk ht; first | omega | (dsimp only at *; omega))
      first | have hm65 := hm65.ch hc (fun h => h) | have hm65 := hm65.ch hc (by omega)
      refine wl rfl rfl rfl (p_nck rfl) ?_
      refine wl rfl rfl rfl (p_fld (j := 4) Try.underlying49 rfl ⟨_, by rfl⟩ rfl rfl) ?_
      refine wle rfl (e_stD (T := TD) (j := 4) (by rfl) rfl rfl rfl hD hR (show 4 < 7 by decide) (fun w12 hD hR hc hsz => ?_))
      have hzw12 := hc.size
      have HC := HC.trans hc (fun _ _ h => h) (fun k hk ht => (by rw [ht]; exact hR.fg))
      first | have hx := hx.ch hc (by intro k hk ht; first | omega | (dsimp only at *; omega)) | have hx := hx.chT hc (by intro k hz hk ht; first | omega | (dsimp only at *; omega))
      first | have hm65 := hm65.ch hc (fun h => h) | have hm65 := hm65.ch hc (by omega)
      refine wl_nil ?_
      refine x_seq ?_
      refine wc_seq ?_
      refine wc_region ?_
      refine wl rfl rfl rfl (p_as rfl) ?_
      refine wl_nil ?_
      refine x_seq ?_
      refine wc_ret ?_
      refine fin_run (res1 rfl rfl) ?_
      rw [hcr]; first | exact ⟨rfl, ⟨_, _, _, _, _, _, _, _, _, hD, hR⟩, HC⟩ | exact ⟨rfl, ⟨_, _, _, _, _, _, _, _, _, hD, hR.fresh hm65 (hF g65 hge65)⟩, HC⟩
end Go.Proofs.Ytcgapjieidmkpaa
