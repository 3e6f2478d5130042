/-
  Own text, printed by a program of mine (wip/gx): what functions of the program do, walked operation by operation.
-/
import Derived.Test.YtcgapjieidmkpaaProg
import Derived.Test.YtcgapjieidmkpaaGxAgg
import Derived.Test.YtcgapjieidmkpaaTab
import Derived.Test.YtcgapjieidmkpaaPlDisk
import Derived.Test.YtcgapjieidmkpaaPlDiskSt
import Derived.Test.YtcgapjieidmkpaaDTb
import Derived.Test.YtcgapjieidmkpaaD3
set_option linter.unusedVariables false
namespace Go.Proofs.Ytcgapjieidmkpaa
open Go.RowKit Go.Gx
open Go.Plain
set_option maxHeartbeats 1000000 in
set_option maxRecDepth 20000 in
theorem clones_any {w : World} {n gs cs : Nat} {sf : List UInt8} {zz : List Value} (hb : Blk w gs 57 (sf.map u8v ++ zz).toArray) (hl : sf.length = 32 * n) (hn : n ≤ 4096) :
    Calls Try.prog 32 #[.slice (some ⟨gs, 0, none⟩) n cs] w fun e w' => ∃ A c, e = .returned (.slice A n c) ∧ Row w' (fun k => w.heap.size ≤ k) 57 32 (.slice A n c) n (sf.map u8v) ∧ Ch No w w' := by
  have HC : Ch No w w := Ch.refl _ _
  refine enter' (args := [.slice (some ⟨gs, 0, none⟩) n cs]) (n := 8) Try.func32 rfl rfl rfl ?_
  refine wc_seq ?_
  refine wc_region ?_
  refine wl rfl rfl rfl (p_as rfl) ?_
  refine wl_nil ?_
  refine x_seq ?_
  refine wc_seq ?_
  refine wc_seq ?_
  refine wc_region ?_
  refine wl rfl rfl rfl (p_mv rfl) ?_
  refine wl rfl rfl rfl (p_eqnil rfl rfl Try.underlying46) ?_
  refine wl_nil ?_
  refine x_seq ?_
  refine wc_no rfl (rfl) ?_
  refine wc_skip ?_
  refine x_seq ?_
  refine wc_seq ?_
  refine wc_region ?_
  have hltgs := hb.lt
  refine wle rfl (e_bslC (E := 57) rfl rfl (fun _ => by kernel_rfl) (fun w1 g5 hg5 hb5 hc hsz5 => ?_))
  have hzw1 := hc.size
  have HC := HC.tr hc
  have hb := hb.ch hc (fun h => h)
  have hge5 : w.heap.size ≤ g5 := by have := HC.size; omega
  refine wl rfl rfl rfl (p_mv rfl) ?_
  have hW5 : Row w1 (fun k => w.heap.size ≤ k) 57 32 (.slice (some ⟨g5, 0, none⟩) 0 0) 0 [] := Row.of_lit (l := 0) (sz := 32) hb5 (show w.heap.size ≤ g5 by omega) rfl (by simp [maxLen])
  have hXs : Rd w1 (fun k => k = gs) (some ⟨gs, 0, none⟩) (sf.map u8v) := by have h := Rd.of_blk (F := fun k => k = gs) hb rfl 0 sf.length; simpa using h
  have hltgs := hb.lt
  have hltg5 := hb5.lt
  refine wle rfl (e_app rfl el46 rfl rfl hW5 hXs (by rw [List.length_map, hl]; omega) (oneL one_u8 _) (by omega) (by unfold maxLen; omega) (fun k h => by omega) (fun w2 v7 hW7 hc => ?_))
  have hzw2 := hc.size
  have HC := HC.trans hc (fun _ _ h => h) (fun k hk ht => absurd ht (by first | omega | (dsimp only at *; omega)))
  have hb := hb.ch hc (by first | omega | (dsimp only; omega))
  refine wl rfl rfl rfl (p_as rfl) ?_
  refine wl_nil ?_
  refine x_seq ?_
  refine wc_ret ?_
  refine fin_run (res1 rfl rfl) ?_
  simp only [Nat.zero_add, List.nil_append] at hW7
  obtain ⟨A7, c7, rfl⟩ := hW7.shape
  exact ⟨_, _, rfl, hW7, HC⟩

set_option maxHeartbeats 4000000 in
set_option maxRecDepth 20000 in
theorem copy_any {w : World} {F : Nat → Prop} {g n : Nat} {d : DS} (hd : DkAt TD w F g n d) (hok : d.Ok n) (hn : n ≤ 4096) (hn1 : 0 < n) (hkp : d.keep.length ≤ 17592186044416) :
    Calls Try.prog 23 #[.pointer (some ⟨g, 0, none⟩)] w fun e w' => ∃ g2, e = .returned (.pointer (some ⟨g2, 0, none⟩)) ∧ DkAt TD w' (fun k => w.heap.size ≤ k) g2 n d ∧ Ch No w w' := by
  obtain ⟨gs, cs, gm, Ao, lo, co, Ak, lk, ck, hD, hR⟩ := hd
  have hol := hR.hO.sl.len
  have hkl := hR.hK.sl.len
  have hom := ord_le hok
  have hR := hR.mono (G := (fun k => F k ∧ k < w.heap.size)) (fun k h1 h2 => ⟨h2, h1⟩) hD.lt
  have HC : Ch No w w := Ch.refl _ _
  refine enter' (args := [.pointer (some ⟨g, 0, none⟩)]) (n := 59) Try.func23 rfl rfl rfl ?_
  refine wc_seq ?_
  refine wc_region ?_
  refine wl rfl rfl rfl (p_as rfl) ?_
  refine wl_nil ?_
  refine x_seq ?_
  refine wc_seq ?_
  refine wc_seq ?_
  refine wc_region ?_
  refine wl rfl rfl rfl (p_mv rfl) ?_
  refine wle rfl (e_call ent25 rfl rfl (made_any ⟨_, _, _, _, _, _, _, _, _, hD, hR⟩) ?_)
  rintro _ w1 ⟨rfl, hc⟩
  refine ⟨_, rfl, ?_⟩
  have hzw1 := hc.size
  have HC := HC.tr hc
  have hD := hD.ch hc (fun h => h)
  first | have hR := hR.no hc | have hR := hR.ch hc (by intro k hz hk ht; first | omega | (dsimp only at *; omega))
  refine wl rfl rfl rfl (p_not rfl) ?_
  refine wl_nil ?_
  refine x_seq ?_
  refine wc_no rfl (rfl) ?_
  refine wc_skip ?_
  refine x_seq ?_
  refine wc_cut (fun e w' => ∃ (A14 : Option Addr) (c14 : Nat) (g15 : Nat) (A20 : Option Addr) (c20 : Nat) (A33 : Option Addr) (c33 : Nat) (g39 : Nat), e = [(0, .pointer (some ⟨g, 0, none⟩)), (3, .pointer (some ⟨g39, 0, none⟩))] ∧ (Ch No w w') ∧ (Blk w' g 49 (dcell gs n cs gm Ao lo co d.off d.armed Ak lk ck d.torn)) ∧ (DR TD w' (fun k => F k ∧ k < w.heap.size) g n gs gm Ao lo co Ak lk ck d.safe d.now d.ord d.keep d.ord) ∧ (Row w' (fun k => w.heap.size ≤ k) 57 32 (.slice A14 n c14) n (d.safe.map u8v)) ∧ (KV w' g15 [] 0) ∧ (Row w' (fun k => w.heap.size ≤ k) 3 1 (.slice A20 lo c20) lo (d.ord.map nv)) ∧ (Row w' (fun k => w.heap.size ≤ k) 3 1 (.slice A33 lk c33) lk (d.keep.map i64)) ∧ (Blk w' g39 49 #[.slice A14 n c14, .map (some g15), .slice A20 lo c20, .bool d.off, i64 (d.armed : Int), .slice A33 lk c33, i64 d.torn]) ∧ (∀ k, (Value.slice A20 lo c20).ownBlock = some k → (Value.slice A33 lk c33).ownBlock ≠ some k) ∧ (w.heap.size ≤ g15) ∧ (w.heap.size ≤ g39)) ?_ ?_
  ·
    obtain ⟨zz, hS0⟩ := hR.hZ
    refine wc_draw (.st 0 0 (.st 1 0 (.st 2 0 (.st 3 1 (.st 6 0 (.st 7 0 (.st 8 0 (.st 9 1 (.st 11 0 (.st 12 0 (.st 13 0 (.st 14 1 (.st 15 0 (.st 16 0 (.st 17 0 (.st 18 1 (.st 19 0 (.st 20 0 (.st 21 0 (.st 22 1 (.st 24 0 (.st 25 0 (.st 26 0 (.st 27 1 (.alt (.st 4 2 (.alt (.st 5 2 (.st 10 2 (.st 23 2 (.st 28 0 (.st 29 2 (.st 30 0 .nil)))))) (.st 10 2 (.alt (.st 5 2 (.st 23 2 (.st 28 0 (.st 29 2 (.st 30 0 .nil))))) (.st 23 2 (.st 5 2 (.st 28 0 (.st 29 2 (.st 30 0 .nil))))))))) (.st 5 2 (.st 4 2 (.st 10 2 (.st 23 2 (.st 28 0 (.st 29 2 (.st 30 0 .nil)))))))))))))))))))))))))))))))) 31 (by kernel_rfl) (by kernel_rfl) (by kernel_rfl) (by repeat (first | with_reducible exact pan_body | with_reducible apply pan_then | with_reducible apply pan_in)) (fun x => Ch No w1.drew x) (Ch.refl _ _) ?_
    obtain ⟨w2, ew2⟩ : ∃ x, x = w1.drew := ⟨_, rfl⟩
    rw [← ew2]
    have hc : Ch No w1 w2 := by rw [ew2]; exact Ch.drew _
    have hszw2 : w2.heap.size = w1.heap.size := by rw [ew2]; rfl
    clear ew2
    have hzw2 := hc.size
    have HC := HC.tr hc
    have hD := hD.ch hc (fun h => h)
    first | have hR := hR.no hc | have hR := hR.ch hc (by intro k hz hk ht; first | omega | (dsimp only at *; omega))
    have hS0 := hS0.ch hc (fun h => h)
    have hS : Ch No w2 w2 := Ch.refl _ _
    refine ws_p rfl rfl rfl rfl (p_mv rfl) ?_
    refine ws_p rfl rfl rfl rfl (p_nck rfl) ?_
    refine ws_p rfl rfl rfl rfl (p_fld (j := 0) Try.underlying49 rfl ⟨_, by rfl⟩ rfl rfl) ?_
    refine ws_h rfl rfl rfl rfl (p_ld Try.underlying46 rfl rfl (fun _ h => h.cell (fun h => h) (hD.cell rfl))) ?_
    refine ws_p rfl rfl rfl rfl (p_mv rfl) ?_
    refine ws_p rfl rfl rfl rfl (p_nck rfl) ?_
    refine ws_p rfl rfl rfl rfl (p_fld (j := 2) Try.underlying49 rfl ⟨_, by rfl⟩ rfl rfl) ?_
    refine ws_h rfl rfl rfl rfl (p_ld Try.underlying26 rfl rfl (fun _ h => h.cell (fun h => h) (hD.cell rfl))) ?_
    refine ws_p rfl rfl rfl rfl (p_mv rfl) ?_
    refine ws_p rfl rfl rfl rfl (p_nck rfl) ?_
    refine ws_p rfl rfl rfl rfl (p_fld (j := 3) Try.underlying49 rfl ⟨_, by rfl⟩ rfl rfl) ?_
    refine ws_h rfl rfl rfl rfl (p_ld Try.underlying4 rfl rfl (fun _ h => h.cell (fun h => h) (hD.cell rfl))) ?_
    refine ws_p rfl rfl rfl rfl (p_mv rfl) ?_
    refine ws_p rfl rfl rfl rfl (p_nck rfl) ?_
    refine ws_p rfl rfl rfl rfl (p_fld (j := 4) Try.underlying49 rfl ⟨_, by rfl⟩ rfl rfl) ?_
    refine ws_h rfl rfl rfl rfl (p_ld Try.underlying3 rfl rfl (fun _ h => h.cell (fun h => h) (hD.cell rfl))) ?_
    refine ws_p rfl rfl rfl rfl (p_mv rfl) ?_
    refine ws_p rfl rfl rfl rfl (p_nck rfl) ?_
    refine ws_p rfl rfl rfl rfl (p_fld (j := 5) Try.underlying49 rfl ⟨_, by rfl⟩ rfl rfl) ?_
    refine ws_h rfl rfl rfl rfl (p_ld Try.underlying26 rfl rfl (fun _ h => h.cell (fun h => h) (hD.cell rfl))) ?_
    refine ws_p rfl rfl rfl rfl (p_mv rfl) ?_
    refine ws_p rfl rfl rfl rfl (p_nck rfl) ?_
    refine ws_p rfl rfl rfl rfl (p_fld (j := 6) Try.underlying49 rfl ⟨_, by rfl⟩ rfl rfl) ?_
    refine ws_h rfl rfl rfl rfl (p_ld Try.underlying3 rfl rfl (fun _ h => h.cell (fun h => h) (hD.cell rfl))) ?_
    refine ws_alt ?_ ?_
    ·
      refine ws_e rfl rfl (e_call ent32 rfl rfl (clones_any hS0 hok.s hn) ?_)
      rintro _ w3 ⟨A14, c14, rfl, hW14, hc⟩
      refine ⟨_, rfl, hc, ?_⟩
      have hzw3 := hc.size
      have HC := HC.tr hc
      have hD := hD.ch hc (fun h => h)
      first | have hR := hR.no hc | have hR := hR.ch hc (by intro k hz hk ht; first | omega | (dsimp only at *; omega))
      have hS0 := hS0.ch hc (fun h => h)
      refine ws_narrow (S' := fun x => Ch No w3 x) (Ch.refl _ _) (fun x h => hc.tr h) ?_
      refine ws_alt ?_ ?_
      ·
        refine ws_e rfl rfl (e_mkMap rfl (fun w4 g15 hg15 hm15 hc hsz15 => ⟨hc, ?_⟩))
        have hzw4 := hc.size
        have HC := HC.tr hc
        have hD := hD.ch hc (fun h => h)
        first | have hR := hR.no hc | have hR := hR.ch hc (by intro k hz hk ht; first | omega | (dsimp only at *; omega))
        have hS0 := hS0.ch hc (fun h => h)
        have hW14 := hW14.after hc
        have hge15 : w.heap.size ≤ g15 := by have := HC.size; omega
        refine ws_narrow (S' := fun x => Ch No w4 x) (Ch.refl _ _) (fun x h => hc.tr h) ?_
        refine ws_e rfl rfl (e_call ent26 rfl rfl (clonei_any (sl_nv hR.hO.sl) (by omega)) ?_)
        rintro _ w5 ⟨A20, c20, rfl, hW20, hc⟩
        refine ⟨_, rfl, hc, ?_⟩
        have hzw5 := hc.size
        have HC := HC.tr hc
        have hD := hD.ch hc (fun h => h)
        first | have hR := hR.no hc | have hR := hR.ch hc (by intro k hz hk ht; first | omega | (dsimp only at *; omega))
        have hS0 := hS0.ch hc (fun h => h)
        have hW14 := hW14.after hc
        first | have hm15 := hm15.ch hc (fun h => h) | have hm15 := hm15.ch hc (by omega)
        rw [map_nv] at hW20
        refine ws_narrow (S' := fun x => Ch No w5 x) (Ch.refl _ _) (fun x h => hc.tr h) ?_
        refine ws_e rfl rfl (e_call ent26 rfl rfl (clonei_any hR.hK.sl (by omega)) ?_)
        rintro _ w6 ⟨A33, c33, rfl, hW33, hc⟩
        refine ⟨_, rfl, hc, ?_⟩
        have hzw6 := hc.size
        have HC := HC.tr hc
        have hD := hD.ch hc (fun h => h)
        first | have hR := hR.no hc | have hR := hR.ch hc (by intro k hz hk ht; first | omega | (dsimp only at *; omega))
        have hS0 := hS0.ch hc (fun h => h)
        have hW14 := hW14.after hc
        first | have hm15 := hm15.ch hc (fun h => h) | have hm15 := hm15.ch hc (by omega)
        have hW20 := hW20.after hc
        refine ws_narrow (S' := fun x => Ch No w6 x) (Ch.refl _ _) (fun x h => hc.tr h) ?_
        have hdk : ∀ k, (Value.slice A20 lo c20).ownBlock = some k → (Value.slice A33 lk c33).ownBlock ≠ some k := fun k h1 h2 => by have h3 := hW20.at_ k h1; have h4 := hW33.at_ k h2; have h5 := (hW33.own.lt k h2).2; have h6 := (hW20.own.lt k h1).2; first | omega | (dsimp only at *; omega)
        refine ws_p rfl rfl rfl rfl (p_bldP (cs := #[.slice A14 n c14, .map (some g15), .slice A20 lo c20, .bool d.off, i64 (d.armed : Int), .slice A33 lk c33, i64 d.torn]) rfl (fun _ => by kernel_rfl)) ?_
        have hltg := hD.lt
        have hltgs := hS0.lt
        refine ws_e rfl rfl (e_box rfl rfl rfl (fun w7 g39 hg39 hb39 hc hsz39 => ⟨hc, ?_⟩))
        have hzw7 := hc.size
        have HC := HC.tr hc
        have hD := hD.ch hc (fun h => h)
        first | have hR := hR.no hc | have hR := hR.ch hc (by intro k hz hk ht; first | omega | (dsimp only at *; omega))
        have hS0 := hS0.ch hc (fun h => h)
        have hW14 := hW14.after hc
        first | have hm15 := hm15.ch hc (fun h => h) | have hm15 := hm15.ch hc (by omega)
        have hW20 := hW20.after hc
        have hW33 := hW33.after hc
        have hge39 : w.heap.size ≤ g39 := by have := HC.size; omega
        have neg_39 : g < g39 := by omega
        have negs_39 : gs < g39 := by omega
        refine ws_narrow (S' := fun x => Ch No w7 x) (Ch.refl _ _) (fun x h => hc.tr h) ?_
        refine ws_p rfl rfl rfl rfl (p_as rfl) ?_
        refine ws_n ?_
        exact x_meet (by repeat (first | exact trivial | refine ⟨rfl, ?_⟩)) ⟨A14, c14, g15, A20, c20, A33, c33, g39, rfl, HC, hD, hR, hW14.mono (fun k _ hk => by first | omega | (dsimp only at *; omega)), hm15, hW20.mono (fun k _ hk => by first | omega | (dsimp only at *; omega)), hW33.mono (fun k _ hk => by first | omega | (dsimp only at *; omega)), hb39, hdk, hge15, hge39⟩
      ·
        refine ws_e rfl rfl (e_call ent26 rfl rfl (clonei_any (sl_nv hR.hO.sl) (by omega)) ?_)
        rintro _ w8 ⟨A20, c20, rfl, hW20, hc⟩
        refine ⟨_, rfl, hc, ?_⟩
        have hzw8 := hc.size
        have HC := HC.tr hc
        have hD := hD.ch hc (fun h => h)
        first | have hR := hR.no hc | have hR := hR.ch hc (by intro k hz hk ht; first | omega | (dsimp only at *; omega))
        have hS0 := hS0.ch hc (fun h => h)
        have hW14 := hW14.after hc
        rw [map_nv] at hW20
        refine ws_narrow (S' := fun x => Ch No w8 x) (Ch.refl _ _) (fun x h => hc.tr h) ?_
        refine ws_alt ?_ ?_
        ·
          refine ws_e rfl rfl (e_mkMap rfl (fun w9 g15 hg15 hm15 hc hsz15 => ⟨hc, ?_⟩))
          have hzw9 := hc.size
          have HC := HC.tr hc
          have hD := hD.ch hc (fun h => h)
          first | have hR := hR.no hc | have hR := hR.ch hc (by intro k hz hk ht; first | omega | (dsimp only at *; omega))
          have hS0 := hS0.ch hc (fun h => h)
          have hW14 := hW14.after hc
          have hW20 := hW20.after hc
          have hge15 : w.heap.size ≤ g15 := by have := HC.size; omega
          refine ws_narrow (S' := fun x => Ch No w9 x) (Ch.refl _ _) (fun x h => hc.tr h) ?_
          refine ws_e rfl rfl (e_call ent26 rfl rfl (clonei_any hR.hK.sl (by omega)) ?_)
          rintro _ w10 ⟨A33, c33, rfl, hW33, hc⟩
          refine ⟨_, rfl, hc, ?_⟩
          have hzw10 := hc.size
          have HC := HC.tr hc
          have hD := hD.ch hc (fun h => h)
          first | have hR := hR.no hc | have hR := hR.ch hc (by intro k hz hk ht; first | omega | (dsimp only at *; omega))
          have hS0 := hS0.ch hc (fun h => h)
          have hW14 := hW14.after hc
          have hW20 := hW20.after hc
          first | have hm15 := hm15.ch hc (fun h => h) | have hm15 := hm15.ch hc (by omega)
          refine ws_narrow (S' := fun x => Ch No w10 x) (Ch.refl _ _) (fun x h => hc.tr h) ?_
          have hdk : ∀ k, (Value.slice A20 lo c20).ownBlock = some k → (Value.slice A33 lk c33).ownBlock ≠ some k := fun k h1 h2 => by have h3 := hW20.at_ k h1; have h4 := hW33.at_ k h2; have h5 := (hW33.own.lt k h2).2; have h6 := (hW20.own.lt k h1).2; first | omega | (dsimp only at *; omega)
          refine ws_p rfl rfl rfl rfl (p_bldP (cs := #[.slice A14 n c14, .map (some g15), .slice A20 lo c20, .bool d.off, i64 (d.armed : Int), .slice A33 lk c33, i64 d.torn]) rfl (fun _ => by kernel_rfl)) ?_
          have hltg := hD.lt
          have hltgs := hS0.lt
          refine ws_e rfl rfl (e_box rfl rfl rfl (fun w11 g39 hg39 hb39 hc hsz39 => ⟨hc, ?_⟩))
          have hzw11 := hc.size
          have HC := HC.tr hc
          have hD := hD.ch hc (fun h => h)
          first | have hR := hR.no hc | have hR := hR.ch hc (by intro k hz hk ht; first | omega | (dsimp only at *; omega))
          have hS0 := hS0.ch hc (fun h => h)
          have hW14 := hW14.after hc
          have hW20 := hW20.after hc
          first | have hm15 := hm15.ch hc (fun h => h) | have hm15 := hm15.ch hc (by omega)
          have hW33 := hW33.after hc
          have hge39 : w.heap.size ≤ g39 := by have := HC.size; omega
          have neg_39 : g < g39 := by omega
          have negs_39 : gs < g39 := by omega
          refine ws_narrow (S' := fun x => Ch No w11 x) (Ch.refl _ _) (fun x h => hc.tr h) ?_
          refine ws_p rfl rfl rfl rfl (p_as rfl) ?_
          refine ws_n ?_
          exact x_meet (by repeat (first | exact trivial | refine ⟨rfl, ?_⟩)) ⟨A14, c14, g15, A20, c20, A33, c33, g39, rfl, HC, hD, hR, hW14.mono (fun k _ hk => by first | omega | (dsimp only at *; omega)), hm15, hW20.mono (fun k _ hk => by first | omega | (dsimp only at *; omega)), hW33.mono (fun k _ hk => by first | omega | (dsimp only at *; omega)), hb39, hdk, hge15, hge39⟩
        ·
          refine ws_e rfl rfl (e_call ent26 rfl rfl (clonei_any hR.hK.sl (by omega)) ?_)
          rintro _ w12 ⟨A33, c33, rfl, hW33, hc⟩
          refine ⟨_, rfl, hc, ?_⟩
          have hzw12 := hc.size
          have HC := HC.tr hc
          have hD := hD.ch hc (fun h => h)
          first | have hR := hR.no hc | have hR := hR.ch hc (by intro k hz hk ht; first | omega | (dsimp only at *; omega))
          have hS0 := hS0.ch hc (fun h => h)
          have hW14 := hW14.after hc
          have hW20 := hW20.after hc
          refine ws_narrow (S' := fun x => Ch No w12 x) (Ch.refl _ _) (fun x h => hc.tr h) ?_
          have hdk : ∀ k, (Value.slice A20 lo c20).ownBlock = some k → (Value.slice A33 lk c33).ownBlock ≠ some k := fun k h1 h2 => by have h3 := hW20.at_ k h1; have h4 := hW33.at_ k h2; have h5 := (hW33.own.lt k h2).2; have h6 := (hW20.own.lt k h1).2; first | omega | (dsimp only at *; omega)
          refine ws_e rfl rfl (e_mkMap rfl (fun w13 g15 hg15 hm15 hc hsz15 => ⟨hc, ?_⟩))
          have hzw13 := hc.size
          have HC := HC.tr hc
          have hD := hD.ch hc (fun h => h)
          first | have hR := hR.no hc | have hR := hR.ch hc (by intro k hz hk ht; first | omega | (dsimp only at *; omega))
          have hS0 := hS0.ch hc (fun h => h)
          have hW14 := hW14.after hc
          have hW20 := hW20.after hc
          have hW33 := hW33.after hc
          have hge15 : w.heap.size ≤ g15 := by have := HC.size; omega
          refine ws_narrow (S' := fun x => Ch No w13 x) (Ch.refl _ _) (fun x h => hc.tr h) ?_
          refine ws_p rfl rfl rfl rfl (p_bldP (cs := #[.slice A14 n c14, .map (some g15), .slice A20 lo c20, .bool d.off, i64 (d.armed : Int), .slice A33 lk c33, i64 d.torn]) rfl (fun _ => by kernel_rfl)) ?_
          have hltg := hD.lt
          have hltgs := hS0.lt
          refine ws_e rfl rfl (e_box rfl rfl rfl (fun w14 g39 hg39 hb39 hc hsz39 => ⟨hc, ?_⟩))
          have hzw14 := hc.size
          have HC := HC.tr hc
          have hD := hD.ch hc (fun h => h)
          first | have hR := hR.no hc | have hR := hR.ch hc (by intro k hz hk ht; first | omega | (dsimp only at *; omega))
          have hS0 := hS0.ch hc (fun h => h)
          have hW14 := hW14.after hc
          have hW20 := hW20.after hc
          have hW33 := hW33.after hc
          first | have hm15 := hm15.ch hc (fun h => h) | have hm15 := hm15.ch hc (by omega)
          have hge39 : w.heap.size ≤ g39 := by have := HC.size; omega
          have neg_39 : g < g39 := by omega
          have negs_39 : gs < g39 := by omega
          refine ws_narrow (S' := fun x => Ch No w14 x) (Ch.refl _ _) (fun x h => hc.tr h) ?_
          refine ws_p rfl rfl rfl rfl (p_as rfl) ?_
          refine ws_n ?_
          exact x_meet (by repeat (first | exact trivial | refine ⟨rfl, ?_⟩)) ⟨A14, c14, g15, A20, c20, A33, c33, g39, rfl, HC, hD, hR, hW14.mono (fun k _ hk => by first | omega | (dsimp only at *; omega)), hm15, hW20.mono (fun k _ hk => by first | omega | (dsimp only at *; omega)), hW33.mono (fun k _ hk => by first | omega | (dsimp only at *; omega)), hb39, hdk, hge15, hge39⟩
    ·
      refine ws_e rfl rfl (e_mkMap rfl (fun w15 g15 hg15 hm15 hc hsz15 => ⟨hc, ?_⟩))
      have hzw15 := hc.size
      have HC := HC.tr hc
      have hD := hD.ch hc (fun h => h)
      first | have hR := hR.no hc | have hR := hR.ch hc (by intro k hz hk ht; first | omega | (dsimp only at *; omega))
      have hS0 := hS0.ch hc (fun h => h)
      have hge15 : w.heap.size ≤ g15 := by have := HC.size; omega
      refine ws_narrow (S' := fun x => Ch No w15 x) (Ch.refl _ _) (fun x h => hc.tr h) ?_
      refine ws_e rfl rfl (e_call ent32 rfl rfl (clones_any hS0 hok.s hn) ?_)
      rintro _ w16 ⟨A14, c14, rfl, hW14, hc⟩
      refine ⟨_, rfl, hc, ?_⟩
      have hzw16 := hc.size
      have HC := HC.tr hc
      have hD := hD.ch hc (fun h => h)
      first | have hR := hR.no hc | have hR := hR.ch hc (by intro k hz hk ht; first | omega | (dsimp only at *; omega))
      have hS0 := hS0.ch hc (fun h => h)
      first | have hm15 := hm15.ch hc (fun h => h) | have hm15 := hm15.ch hc (by omega)
      refine ws_narrow (S' := fun x => Ch No w16 x) (Ch.refl _ _) (fun x h => hc.tr h) ?_
      refine ws_e rfl rfl (e_call ent26 rfl rfl (clonei_any (sl_nv hR.hO.sl) (by omega)) ?_)
      rintro _ w17 ⟨A20, c20, rfl, hW20, hc⟩
      refine ⟨_, rfl, hc, ?_⟩
      have hzw17 := hc.size
      have HC := HC.tr hc
      have hD := hD.ch hc (fun h => h)
      first | have hR := hR.no hc | have hR := hR.ch hc (by intro k hz hk ht; first | omega | (dsimp only at *; omega))
      have hS0 := hS0.ch hc (fun h => h)
      first | have hm15 := hm15.ch hc (fun h => h) | have hm15 := hm15.ch hc (by omega)
      have hW14 := hW14.after hc
      rw [map_nv] at hW20
      refine ws_narrow (S' := fun x => Ch No w17 x) (Ch.refl _ _) (fun x h => hc.tr h) ?_
      refine ws_e rfl rfl (e_call ent26 rfl rfl (clonei_any hR.hK.sl (by omega)) ?_)
      rintro _ w18 ⟨A33, c33, rfl, hW33, hc⟩
      refine ⟨_, rfl, hc, ?_⟩
      have hzw18 := hc.size
      have HC := HC.tr hc
      have hD := hD.ch hc (fun h => h)
      first | have hR := hR.no hc | have hR := hR.ch hc (by intro k hz hk ht; first | omega | (dsimp only at *; omega))
      have hS0 := hS0.ch hc (fun h => h)
      first | have hm15 := hm15.ch hc (fun h => h) | have hm15 := hm15.ch hc (by omega)
      have hW14 := hW14.after hc
      have hW20 := hW20.after hc
      refine ws_narrow (S' := fun x => Ch No w18 x) (Ch.refl _ _) (fun x h => hc.tr h) ?_
      have hdk : ∀ k, (Value.slice A20 lo c20).ownBlock = some k → (Value.slice A33 lk c33).ownBlock ≠ some k := fun k h1 h2 => by have h3 := hW20.at_ k h1; have h4 := hW33.at_ k h2; have h5 := (hW33.own.lt k h2).2; have h6 := (hW20.own.lt k h1).2; first | omega | (dsimp only at *; omega)
      refine ws_p rfl rfl rfl rfl (p_bldP (cs := #[.slice A14 n c14, .map (some g15), .slice A20 lo c20, .bool d.off, i64 (d.armed : Int), .slice A33 lk c33, i64 d.torn]) rfl (fun _ => by kernel_rfl)) ?_
      have hltg := hD.lt
      have hltgs := hS0.lt
      refine ws_e rfl rfl (e_box rfl rfl rfl (fun w19 g39 hg39 hb39 hc hsz39 => ⟨hc, ?_⟩))
      have hzw19 := hc.size
      have HC := HC.tr hc
      have hD := hD.ch hc (fun h => h)
      first | have hR := hR.no hc | have hR := hR.ch hc (by intro k hz hk ht; first | omega | (dsimp only at *; omega))
      have hS0 := hS0.ch hc (fun h => h)
      first | have hm15 := hm15.ch hc (fun h => h) | have hm15 := hm15.ch hc (by omega)
      have hW14 := hW14.after hc
      have hW20 := hW20.after hc
      have hW33 := hW33.after hc
      have hge39 : w.heap.size ≤ g39 := by have := HC.size; omega
      have neg_39 : g < g39 := by omega
      have negs_39 : gs < g39 := by omega
      refine ws_narrow (S' := fun x => Ch No w19 x) (Ch.refl _ _) (fun x h => hc.tr h) ?_
      refine ws_p rfl rfl rfl rfl (p_as rfl) ?_
      refine ws_n ?_
      exact x_meet (by repeat (first | exact trivial | refine ⟨rfl, ?_⟩)) ⟨A14, c14, g15, A20, c20, A33, c33, g39, rfl, HC, hD, hR, hW14.mono (fun k _ hk => by first | omega | (dsimp only at *; omega)), hm15, hW20.mono (fun k _ hk => by first | omega | (dsimp only at *; omega)), hW33.mono (fun k _ hk => by first | omega | (dsimp only at *; omega)), hb39, hdk, hge15, hge39⟩
  ·
    rintro _ w20 ⟨A14, c14, g15, A20, c20, A33, c33, g39, rfl, HC, hD, hR, hW14, hm15, hW20, hW33, hb39, hdk, hge15, hge39⟩
    have hzw20 := HC.size
    refine wc_seq ?_
    refine wc_seq ?_
    refine wc_region ?_
    refine wl rfl rfl rfl (p_mv rfl) ?_
    refine wl rfl rfl rfl (p_nck rfl) ?_
    refine wl rfl rfl rfl (p_fld (j := 1) Try.underlying49 rfl ⟨_, by rfl⟩ rfl rfl) ?_
    refine wl rfl rfl rfl (p_ld Try.underlying47 rfl rfl (ld (hD.cell rfl))) ?_
    obtain ⟨gs2, cs2, zz2, hv14, hb14, hgs2, _⟩ := hW14.blk hn1
    cases hv14
    have hX : DR TD w20 (fun k => w.heap.size ≤ k) g39 n gs2 g15 A20 lo c20 A33 lk c33 d.safe d.now d.ord d.keep [] := ⟨⟨zz2, hb14⟩, ⟨[], 0, hm15, by simp, by simp, by simp, by simp⟩, hW20, hW33, hdk, hge39, hgs2, hge15⟩
    obtain ⟨l, clk, hKV, hnd, hks, hbk0, _⟩ := hR.ex
    have hbk : ∀ k b c, (k, b, c) ∈ l → Blk w20 b 57 ((sec d.now k).map u8v).toArray ∧ b < w.heap.size := fun k b c h => ⟨(hbk0 k b c h).1, (hbk0 k b c h).2.2.2⟩
    have hgmw : gm < w.heap.size := hR.fm.2
    have hne39 : g39 ≠ g15 := (hm15.ne hb39).symm
    have hlt15 := hm15.lt
    have hlt39 := hb39.lt
    have hX1 := hX.mono (G := fun k => w.heap.size ≤ k ∧ k < w20.heap.size) (fun k h1 h2 => ⟨h2, h1⟩) hb39.lt
    have hX0 : ∀ w2 r44, r44 = w20.heap.size → Ch No w20 w2 → DR TD w2 (fun k => w.heap.size ≤ k ∧ k ≠ r44) g39 n gs2 g15 A20 lo c20 A33 lk c33 d.safe d.now d.ord d.keep [] := fun w2 r44 hr hc => (hX1.no hc).mono (fun k _ h => ⟨h.1, by have h2 := h.2; omega⟩) (by have := hc.size; omega)
    refine wle rfl (e_range rfl Try.underlying47 rfl hKV (fun w21 r44 hr44 hIT hc hsz44 => ?_))
    have hzw21 := hc.size
    have HC := HC.tr hc
    have hD := hD.ch hc (fun h => h)
    first | have hR := hR.no hc | have hR := hR.ch hc (by intro k hz hk ht; first | omega | (dsimp only at *; omega))
    have hb39 := hb39.ch hc (fun h => h)
    first | have hX := hX.no hc | have hX := hX.ch hc (fun k hz hf ht => by have h1 : (w.heap.size ≤ k ∧ k ≠ r44) ∧ k < W := hf; have h2 : k = g6 := ht; omega)
    first | have hKV := hKV.ch hc (fun h => h) | have hKV := hKV.ch hc (fun ht => by have h2 : gm = g6 := ht; omega)
    first | have hbk := fun k b c h => (⟨(hbk k b c h).1.ch hc (fun h => h), (hbk k b c h).2⟩ : _ ∧ _) | have hbk := fun k b c h => (⟨(hbk k b c h).1.ch hc (fun ht => by have h1 := (hbk k b c h).2; have h2 : b = g6 := ht; omega), (hbk k b c h).2⟩ : _ ∧ _)
    have hX := hX0 w21 r44 hr44 hc
    refine wl_nil ?_
    refine x_seq ?_
    refine wc_block ?_
    refine wc_loop (e' := [(3, .pointer (some ⟨g39, 0, none⟩)), (44, ptr r44)]) (fun mz ez uz => ∃ seen : List KE, mz = l.length - seen.length ∧ ez = [(3, .pointer (some ⟨g39, 0, none⟩)), (44, ptr r44)] ∧ (DR TD uz (fun k => w.heap.size ≤ k ∧ k ≠ r44) g39 n gs2 g15 A20 lo c20 A33 lk c33 d.safe d.now d.ord d.keep (seen.map (·.1))) ∧ (KV uz gm l clk) ∧ (∀ k b c, (k, b, c) ∈ l → Blk uz b 57 ((sec d.now k).map u8v).toArray ∧ b < w.heap.size) ∧ (IT uz r44 gm seen clk) ∧ (seen.Nodup) ∧ (∀ y ∈ seen, y ∈ l) ∧ (Blk uz g39 49 #[.slice (some ⟨gs2, 0, none⟩) n c14, .map (some g15), .slice A20 lo c20, .bool d.off, i64 (d.armed : Int), .slice A33 lk c33, i64 d.torn]) ∧ (Ch No w uz))
      ⟨rfl, rfl, trivial⟩ ⟨[], rfl, rfl, hX, hKV, hbk, hIT, List.nodup_nil, (by simp), hb39, HC⟩ ?_
    rintro m0 e w22 ⟨seen, hm0, rfl, hX, hKV, hbk, hIT, hsn, hsl, hb39, HC⟩
    have hzw22 := HC.size
    refine wc_seq ?_
    refine wc_region ?_
    refine wle rfl (e_nextM rfl rfl hKV hIT hsl ?_ ?_)
    ·
      intro h0
      refine wl rfl rfl rfl (p_ext rfl rfl) ?_
      refine wl_nil ?_
      refine x_seq ?_
      refine wc_seq ?_
      refine wc_no rfl (rfl) ?_
      refine wc_exit ?_
      refine x_then_exit ?_
      refine x_then_exit ?_
      refine x_in_here ?_
      refine x_seq ?_
      refine wc_seq ?_
      refine wc_region ?_
      refine wl rfl rfl rfl (p_mv rfl) ?_
      refine wl rfl rfl rfl (p_as rfl) ?_
      refine wl_nil ?_
      refine x_seq ?_
      refine wc_ret ?_
      refine fin_run (res1 rfl rfl) ?_
      first | exact absurd rfl (by assumption) | skip
      refine ⟨g39, rfl, ⟨gs2, c14, g15, A20, lo, c20, A33, lk, c33, hb39, (hX.ksEq (fun k => ⟨fun h => ?_, fun h => ?_⟩)).mono (fun k _ h => h.1) hb39.lt⟩, HC⟩
      · obtain ⟨z, hz, rfl⟩ := List.mem_map.1 h; exact (hks _).1 ⟨z.2.1, z.2.2, hsl z hz⟩
      · obtain ⟨b, c, hm⟩ := (hks k).2 h; exact List.mem_map.2 ⟨_, h0 _ hm, rfl⟩
    ·
      intro y w24 hy hyn hIT hc hsz
      obtain ⟨yk, yb, yc⟩ := y
      have hzw24 := hc.size
      have HC := HC.trans hc (fun _ _ h => h) (fun k hk ht => absurd hk (by have h2 : k = r44 := ht; omega))
      have hb39 := hb39.ch hc (fun ht => by have h2 : g39 = r44 := ht; omega)
      have hX := hX.ch hc (fun k _ hf ht => hf.2 ht)
      have hKV := hKV.ch hc (fun ht => by have h2 : gm = r44 := ht; omega)
      have hbk := fun k b c h => (⟨(hbk k b c h).1.ch hc (fun ht => by have h1 := (hbk k b c h).2; have h2 : b = r44 := ht; omega), (hbk k b c h).2⟩ : _ ∧ _)
      have hykn : yk < n := hok.lt yk ((hks yk).1 ⟨yb, yc, hy⟩)
      have hE := (hbk yk yb yc hy).1
      have hEl := (hbk yk yb yc hy).2
      refine wl rfl rfl rfl (p_ext rfl rfl) ?_
      refine wl_nil ?_
      refine x_seq ?_
      refine wc_seq ?_
      refine wc_yes rfl (rfl) ?_
      refine wc_skip ?_
      refine x_seq ?_
      refine wc_block ?_
      refine wc_seq ?_
      refine wc_region ?_
      refine wl rfl rfl rfl (p_entryM (y := (yk, yb, yc)) rfl hy (fun x e => by rw [e]; exact ⟨hKV, hIT⟩)) ?_
      refine wl rfl rfl rfl (p_ext rfl rfl) ?_
      refine wl rfl rfl rfl (p_ext rfl rfl) ?_
      refine wl rfl rfl rfl (p_as rfl) ?_
      refine wl rfl rfl rfl (p_as rfl) ?_
      refine wl_nil ?_
      refine x_seq ?_
      refine wc_seq ?_
      refine wc_region ?_
      refine wl rfl rfl rfl (p_mv rfl) ?_
      refine wl rfl rfl rfl (p_nck rfl) ?_
      refine wl rfl rfl rfl (p_ldA (cs := List.map u8v (sec d.now yk)) Try.underlying57 rfl (szL sz57 (by rw [List.length_map]; exact (sec_len hok.w hykn))) rfl (fun _ e => e ▸ rngL hE)) ?_
      obtain ⟨W, hW0⟩ : ∃ W, W = w24.heap.size := ⟨_, rfl⟩
      have hX := hX.mono (G := fun k => (w.heap.size ≤ k ∧ k ≠ r44) ∧ k < W) (fun k h1 h2 => ⟨h2, by omega⟩) hb39.lt
      have hXfs := hX.fs
      have hITl := hIT.lt
      have hltyb := hE.lt
      have hltg39 := hb39.lt
      refine wle rfl (e_alloc (cs := ((List.replicate 32 (0 : UInt8)).map u8v).toArray) rfl (by rfl) rfl (fun w25 g6 hg6 hb6 hc hsz6 => ?_))
      have hzw25 := hc.size
      have HC := HC.tr hc
      have hE := hE.ch hc (fun h => h)
      first | have hX := hX.no hc | have hX := hX.ch hc (fun k hz hf ht => by have h1 : (w.heap.size ≤ k ∧ k ≠ r44) ∧ k < W := hf; have h2 : k = g6 := ht; omega)
      first | have hKV := hKV.ch hc (fun h => h) | have hKV := hKV.ch hc (fun ht => by have h2 : gm = g6 := ht; omega)
      first | have hbk := fun k b c h => (⟨(hbk k b c h).1.ch hc (fun h => h), (hbk k b c h).2⟩ : _ ∧ _) | have hbk := fun k b c h => (⟨(hbk k b c h).1.ch hc (fun ht => by have h1 := (hbk k b c h).2; have h2 : b = g6 := ht; omega), (hbk k b c h).2⟩ : _ ∧ _)
      first | have hIT := hIT.ch hc (fun h => h) | have hIT := hIT.ch hc (fun ht => by have h2 : r44 = g6 := ht; omega)
      have hb39 := hb39.ch hc (fun h => h)
      have hge6 : w.heap.size ≤ g6 := by have := HC.size; omega
      have neyb_6 : yb < g6 := by omega
      have neg39_6 : g39 < g6 := by omega
      refine wle rfl (e_stW (vs := List.map u8v (sec d.now yk)) (szL sz57 (by rw [List.length_map]; exact (sec_len hok.w hykn))) (oneL one_u8 _) rfl rfl hb6 (by simp only [List.size_toArray, List.length_map]; first | done | exact ((List.length_replicate ..)).trans ((sec_len hok.w hykn)).symm) (fun w26 hb6 hc hsz => ?_))
      have hzw26 := hc.size
      have HC := HC.trans hc (fun _ _ h => h) (fun k hk ht => absurd ht (by omega))
      have hE := hE.ch hc (by omega)
      first | have hX := hX.no hc | have hX := hX.ch hc (fun k hz hf ht => by have h1 : (w.heap.size ≤ k ∧ k ≠ r44) ∧ k < W := hf; have h2 : k = g6 := ht; omega)
      first | have hKV := hKV.ch hc (fun h => h) | have hKV := hKV.ch hc (fun ht => by have h2 : gm = g6 := ht; omega)
      first | have hbk := fun k b c h => (⟨(hbk k b c h).1.ch hc (fun h => h), (hbk k b c h).2⟩ : _ ∧ _) | have hbk := fun k b c h => (⟨(hbk k b c h).1.ch hc (fun ht => by have h1 := (hbk k b c h).2; have h2 : b = g6 := ht; omega), (hbk k b c h).2⟩ : _ ∧ _)
      first | have hIT := hIT.ch hc (fun h => h) | have hIT := hIT.ch hc (fun ht => by have h2 : r44 = g6 := ht; omega)
      have hb39 := hb39.ch hc (by omega)
      refine wl_nil ?_
      refine x_seq ?_
      refine wc_region ?_
      refine wl rfl rfl rfl (p_mv rfl) ?_
      refine wl rfl rfl rfl (p_nck rfl) ?_
      refine wl rfl rfl rfl (p_fld (j := 1) Try.underlying49 rfl ⟨_, by rfl⟩ rfl rfl) ?_
      refine wl rfl rfl rfl (p_ld Try.underlying47 rfl rfl (ld (hb39.cell rfl))) ?_
      refine wl rfl rfl rfl (p_mv rfl) ?_
      have hnew := hX.notin (b := g6) (fun h => by have h1 : (w.heap.size ≤ g6 ∧ g6 ≠ r44) ∧ g6 < W := h; omega)
      have hX := hX.mono (G := fun k => w.heap.size ≤ k ∧ k ≠ r44) (fun k _ h => h.1) hb39.lt
      have hgs3 : g6 ≠ gs2 := by have h9 : (w.heap.size ≤ gs2 ∧ gs2 ≠ r44) ∧ gs2 < W := hXfs; omega
      have hkin : yk ∉ seen.map (·.1) := fun h => by obtain ⟨z, hz, hzk⟩ := List.mem_map.1 h; have h2 := inj_of_nodup_map hnd (hsl z hz) hy hzk; exact hyn (h2 ▸ hz)
      refine wle rfl (e_dIns Try.underlying47 Try.underlying3 rfl rfl rfl hX hkin hb6 hgs3 ⟨by omega, by omega⟩ hnew (fun w27 hX hc hsz => ?_))
      have hzw27 := hc.size
      have HC := HC.trans hc (fun _ _ h => h) (fun k hk ht => absurd hk (by have h2 : k = g15 := ht; omega))
      have hb39 := hb39.ch hc (fun ht => hne39 ht)
      have hKV := hKV.ch hc (fun ht => by have h2 : gm = g15 := ht; omega)
      have hIT := hIT.ch hc (fun ht => by have h2 : r44 = g15 := ht; omega)
      have hbk := fun k b c h => (⟨(hbk k b c h).1.ch hc (fun ht => by have h1 := (hbk k b c h).2; have h2 : b = g15 := ht; omega), (hbk k b c h).2⟩ : _ ∧ _)
      refine wl_nil ?_
      refine x_in_normal ?_
      have hsn2 : (seen ++ [(yk, yb, yc)]).Nodup := by rw [List.nodup_append]; exact ⟨hsn, by simp, fun a ha b hb e => by simp at hb; subst hb; subst e; exact hyn ha⟩
      have hsl2 : ∀ z ∈ seen ++ [(yk, yb, yc)], z ∈ l := fun z hz => by rcases List.mem_append.1 hz with h | h; exact hsl z h; simp at h; rw [h]; exact hy
      have h7 := sub_len hsn2 hsl2
      rw [List.length_append, List.length_singleton] at h7
      refine x_round (e' := [(3, .pointer (some ⟨g39, 0, none⟩)), (44, ptr r44)]) ⟨rfl, rfl, trivial⟩ (by rw [hm0]; (rw [List.length_append, List.length_singleton]; omega)) ⟨seen ++ [(yk, yb, yc)], rfl, rfl, by rw [List.map_append]; exact hX, hKV, hbk, hIT, hsn2, hsl2, hb39, HC⟩
end Go.Proofs.Ytcgapjieidmkpaa
