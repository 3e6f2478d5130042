/-
  Own text, printed by a program of mine (wip/gx): what functions of the program do, walked operation by operation.
-/
import Derived.Test.YtdbdconmcgcooaaDoorProg
import Derived.Test.YtdbdconmcgcooaaDoorGxAgg
import Derived.Test.YtdbdconmcgcooaaDoorTab
import Derived.Test.YtdbdconmcgcooaaDoorPlPack
import Derived.Test.YtdbdconmcgcooaaDoorPlSum
import Derived.Test.YtdbdconmcgcooaaDoorPlSha
import Derived.Test.YtdbdconmcgcooaaDoorPlShaSt
import Derived.Test.YtdbdconmcgcooaaDoorPlShaB
import Derived.Test.YtdbdconmcgcooaaDoorS2
set_option linter.unusedVariables false
namespace Go.Proofs.YtdbdconmcgcooaaDoor
open Go.RowKit Go.Gx
open Go.Plain
set_option maxHeartbeats 4000000 in
set_option maxRecDepth 20000 in
theorem take_any {w : World} {Ab : Option Addr} {lb cb : Nat} {Fb : Nat → Prop} {b : List UInt8} {g : Nat} {m : List UInt8} {h : List W32} {rest : List UInt8} {made : Bool} (hs : Blk w g 69 (stt h rest m.length made)) (hrep : Rep m h rest) (hb : Sl w Fb u8v Ab lb cb b) (hFb : ∀ k, Fb k → k ≠ g) (hg1 : g ≠ 1) (hl : m.length + lb ≤ 4398046511104) (hrnd : Sl w (fun k => k = 1) u32v (some ⟨1, 0, none⟩) 64 64 rk) :
    Calls Tryd.prog 59 #[.pointer (some ⟨g, 0, none⟩), .slice Ab lb cb] w fun e w' => e = .returned (.tuple #[]) ∧ Ch (fun k => k = g) w w' ∧ ∃ h' r', Blk w' g 69 (stt h' r' (m ++ b).length made) ∧ Rep (m ++ b) h' r' := by
  have hbl := hb.len
  have hn1 : 1 < w.heap.size := hrnd.size (by omega) rfl
  have hb1 : Sl w (fun k => k < w.heap.size ∧ k ≠ g) u8v Ab lb cb b := hb.mono (fun k h1 h2 => ⟨h1, hFb k h2⟩)
  have HC : Ch (fun k => k = g) w w := Ch.refl _ _
  refine enter' (args := [.pointer (some ⟨g, 0, none⟩), .slice Ab lb cb]) (n := 38) Tryd.func59 rfl rfl rfl ?_
  refine wc_block ?_
  refine wc_loop (e' := [(0, .pointer (some ⟨g, 0, none⟩)), (1, .slice (Ab) (lb - (0)) (cb))]) (fun mz ez uz => ∃ j : Nat, ∃ A1 : Option Addr, ∃ kc : Nat, mz = lb - j ∧ ez = [(0, .pointer (some ⟨g, 0, none⟩)), (1, .slice A1 (lb - j) kc)] ∧ (j ≤ lb) ∧ (∃ h1 r1, Blk uz g 69 (stt h1 r1 (m.length + j) made) ∧ Rep (m ++ b.take j) h1 r1) ∧ (Sl uz (fun k => k < w.heap.size ∧ k ≠ g) u8v A1 (lb - j) kc (b.drop j)) ∧ (Sl uz (fun k => k = 1) u32v (some ⟨1, 0, none⟩) 64 64 rk) ∧ (Ch (fun k => k = g) w uz))
    ⟨rfl, rfl, trivial⟩ ⟨0, Ab, cb, rfl, rfl, by omega, ⟨h, rest, hs, by simpa using hrep⟩, by simpa using hb1, hrnd, HC⟩ ?_
  rintro m0 e w1 ⟨j, A1, kc, hm0, rfl, hj, hst, hb1, hrnd, HC⟩
  have hzw1 := HC.size
  obtain ⟨h1, r1, hs, hrep⟩ := hst
  have hh := hrep.hlen
  have hr := hrep.len
  have hml : (m ++ b.take j).length = m.length + j := by rw [List.length_append, List.length_take]; omega
  have hcl : ((b.drop j).take (min (lb - j) (64 - (m.length + j) % 64))).length = min (lb - j) (64 - (m.length + j) % 64) := by rw [List.length_take, List.length_drop]; omega
  refine wc_seq ?_
  refine wc_seq ?_
  refine wc_region ?_
  refine wl rfl rfl rfl (p_mv rfl) ?_
  refine wl rfl rfl rfl (p_lenS Tryd.underlying22 rfl) ?_
  refine wl rfl rfl rfl (p_gt rfl rfl) ?_
  refine wl_nil ?_
  refine x_seq ?_
  refine wc_if rfl (fun c0 => ?_) (fun c0 => ?_)
  ·
    have c0 := of_decide_eq_true c0
    refine wc_skip ?_
    refine x_seq ?_
    refine wc_block ?_
    refine wc_seq ?_
    refine wc_draw (.st 0 0 (.st 1 0 (.st 2 0 (.st 3 0 (.st 4 0 (.st 5 0 (.st 6 1 (.st 7 0 (.st 8 0 (.st 9 0 (.st 10 2 (.st 11 0 .nil)))))))))))) 12 (by kernel_rfl) (by kernel_rfl) (by kernel_rfl) (by repeat (first | with_reducible exact pan_body | with_reducible apply pan_then | with_reducible apply pan_in)) (fun x => x.cell? ⟨g, 72, none⟩ = some (i64 ((m.length + j : Nat) : Int))) (((hs.ch (Ch.drew _) (fun h => h)).cell (stt_n hh hr))) ?_
    obtain ⟨w2, ew2⟩ : ∃ x, x = w1.drew := ⟨_, rfl⟩
    rw [← ew2]
    have hc : Ch No w1 w2 := by rw [ew2]; exact Ch.drew _
    have hszw2 : w2.heap.size = w1.heap.size := by rw [ew2]; rfl
    clear ew2
    have hzw2 := hc.size
    have HC := HC.tr hc
    have hb1 := hb1.no hc
    have hrnd := hrnd.no hc
    have hs := hs.ch hc (fun h => h)
    have hS : Ch No w2 w2 := Ch.refl _ _
    refine ws_p rfl rfl rfl rfl (p_mv rfl) ?_
    refine ws_p rfl rfl rfl rfl (p_nck rfl) ?_
    refine ws_p rfl rfl rfl rfl (p_fld Tryd.underlying69 rfl ⟨_, by rfl⟩ rfl rfl) ?_
    refine ws_p rfl rfl rfl rfl (p_mv rfl) ?_
    refine ws_p rfl rfl rfl rfl (p_nck rfl) ?_
    refine ws_p rfl rfl rfl rfl (p_fld Tryd.underlying69 rfl ⟨_, by rfl⟩ rfl rfl) ?_
    refine ws_h rfl rfl rfl rfl (p_ld Tryd.underlying3 rfl rfl (fun _ hx => hx)) ?_
    refine ws_p rfl rfl rfl rfl (p_rem (Z := (((m.length + j) % 64 : Nat) : Int)) rfl rfl (by omega) rfl) ?_
    refine ws_p rfl rfl rfl rfl (p_slA2 (o := 8) (l := (m.length + j) % 64) Tryd.underlying67 sz5 rfl ⟨_, rfl⟩ (by omega)) ?_
    refine ws_p rfl rfl rfl rfl (p_mv rfl) ?_
    refine ws_e rfl rfl (e_copySt rfl Tryd.underlying22 sz5 rfl rfl hs hh hr hb1 (by omega) (fun w3 hs hc hsz => ⟨hs.cell (stt_n hh (lay_len hr (by omega))), ?_⟩))
    have hzw3 := hc.size
    have HC := HC.trans hc (fun _ _ h => h) (fun k hk ht => ht)
    first | have hb1 := hb1.ch hc (by intro k hk ht; first | omega | (dsimp only at *; omega)) | have hb1 := hb1.chT hc (by intro k hz hk ht; first | omega | (dsimp only at *; omega))
    first | have hrnd := hrnd.ch hc (by intro k hk ht; first | omega | (dsimp only at *; omega)) | have hrnd := hrnd.chT hc (by intro k hz hk ht; first | omega | (dsimp only at *; omega))
    have hr0 := hr
    have hr := lay_len (c := ((b.drop j).take (min (lb - j) (64 - (m.length + j) % 64)))) (r := (m.length + j) % 64) hr (by omega)
    refine ws_p rfl rfl rfl rfl (p_as rfl) ?_
    refine ws_n ?_
    refine x_seq ?_
    refine wc_seq ?_
    refine wc_region ?_
    refine wl rfl rfl rfl (p_mv rfl) ?_
    refine wl rfl rfl rfl (p_mv rfl) ?_
    have hS21 : Sl w3 (fun k => k < w.heap.size ∧ k ≠ g) u8v (cutA A1 kc (min (lb - j) (64 - (m.length + j) % 64)) 1) (lb - (j + min (lb - j) (64 - (m.length + j) % 64))) (kc - min (lb - j) (64 - (m.length + j) % 64)) (b.drop (j + min (lb - j) (64 - (m.length + j) % 64))) := by have := hb1.cutTo (lo := min (lb - j) (64 - (m.length + j) % 64)) (by omega); rw [List.drop_drop, show lb - j - min (lb - j) (64 - (m.length + j) % 64) = lb - (j + min (lb - j) (64 - (m.length + j) % 64)) by omega] at this; exact this
    refine wl rfl rfl rfl (p_slS (l := min (lb - j) (64 - (m.length + j) % 64)) (h := lb - j) Tryd.underlying22 sz5 rfl ⟨_, rfl⟩ rfl (by omega) (by have := hb1.cap; omega) hb1.cap (q := lb - (j + min (lb - j) (64 - (m.length + j) % 64))) (by omega)) ?_
    refine wl rfl rfl rfl (p_as rfl) ?_
    refine wl_nil ?_
    refine x_seq ?_
    refine wc_seq ?_
    refine wc_region ?_
    refine wl rfl rfl rfl (p_mv rfl) ?_
    refine wl rfl rfl rfl (p_nck rfl) ?_
    refine wl rfl rfl rfl (p_fld Tryd.underlying69 rfl ⟨_, by rfl⟩ rfl rfl) ?_
    refine wl rfl rfl rfl (p_ld Tryd.underlying3 rfl rfl (ld (hs.cell (stt_n hh hr)))) ?_
    refine wl rfl rfl rfl (p_mv rfl) ?_
    refine wl rfl rfl rfl (p_add (Z := ((m.length + (j + min (lb - j) (64 - (m.length + j) % 64)) : Nat) : Int)) rfl rfl (by rw [w64 (by omega)]; omega)) ?_
    refine wl rfl rfl rfl (p_nck rfl) ?_
    refine wl rfl rfl rfl (p_fld Tryd.underlying69 rfl ⟨_, by rfl⟩ rfl rfl) ?_
    refine wle rfl (e_stSn (m' := m.length + (j + min (lb - j) (64 - (m.length + j) % 64))) (by rfl) rfl rfl hs hh hr (fun w4 hs hc hsz => ?_))
    have hzw4 := hc.size
    have HC := HC.trans hc (fun _ _ h => h) (fun k hk ht => ht)
    first | have hb1 := hb1.ch hc (by intro k hk ht; first | omega | (dsimp only at *; omega)) | have hb1 := hb1.chT hc (by intro k hz hk ht; first | omega | (dsimp only at *; omega))
    first | have hrnd := hrnd.ch hc (by intro k hk ht; first | omega | (dsimp only at *; omega)) | have hrnd := hrnd.chT hc (by intro k hz hk ht; first | omega | (dsimp only at *; omega))
    first | have hS21 := hS21.ch hc (by intro k hk ht; first | omega | (dsimp only at *; omega)) | have hS21 := hS21.chT hc (by intro k hz hk ht; first | omega | (dsimp only at *; omega))
    refine wl_nil ?_
    refine x_seq ?_
    refine wc_seq ?_
    refine wc_region ?_
    refine wl rfl rfl rfl (p_mv rfl) ?_
    refine wl rfl rfl rfl (p_nck rfl) ?_
    refine wl rfl rfl rfl (p_fld Tryd.underlying69 rfl ⟨_, by rfl⟩ rfl rfl) ?_
    refine wl rfl rfl rfl (p_ld Tryd.underlying3 rfl rfl (ld (hs.cell (stt_n hh hr)))) ?_
    refine wl rfl rfl rfl (p_rem (Z := (((m.length + (j + min (lb - j) (64 - (m.length + j) % 64))) % 64 : Nat) : Int)) rfl rfl (by omega) rfl) ?_
    refine wl rfl rfl rfl (p_eq rfl rfl) ?_
    refine wl_nil ?_
    refine x_seq ?_
    refine wc_if rfl (fun c1 => ?_) (fun c1 => ?_)
    ·
      have c1 := of_decide_eq_true c1
      have hrep2 := hrep.full (c := ((b.drop j).take (min (lb - j) (64 - (m.length + j) % 64)))) (by rw [hml, hcl]; omega)
      rw [hml, List.append_assoc, ← List.take_add] at hrep2
      refine wc_region ?_
      refine wl rfl rfl rfl (p_mv rfl) ?_
      refine wle rfl (e_call ent75 rfl rfl (block_any hs hh hr hrnd) ?_)
      rintro _ w5 ⟨rfl, hc, hs⟩
      refine ⟨_, rfl, ?_⟩
      have hzw5 := hc.size
      have HC := HC.trans hc (fun _ _ h => h) (fun k hk ht => ht)
      first | have hb1 := hb1.ch hc (by intro k hk ht; first | omega | (dsimp only at *; omega)) | have hb1 := hb1.chT hc (by intro k hz hk ht; first | omega | (dsimp only at *; omega))
      first | have hrnd := hrnd.ch hc (by intro k hk ht; first | omega | (dsimp only at *; omega)) | have hrnd := hrnd.chT hc (by intro k hz hk ht; first | omega | (dsimp only at *; omega))
      first | have hS21 := hS21.ch hc (by intro k hk ht; first | omega | (dsimp only at *; omega)) | have hS21 := hS21.chT hc (by intro k hz hk ht; first | omega | (dsimp only at *; omega))
      refine wl_nil ?_
      refine x_in_normal ?_
      refine x_round (e' := [(0, .pointer (some ⟨g, 0, none⟩)), (1, .slice (cutA A1 kc (min (lb - j) (64 - (m.length + j) % 64)) 1) (lb - (j + min (lb - j) (64 - (m.length + j) % 64))) (kc - min (lb - j) (64 - (m.length + j) % 64)))]) ⟨rfl, rfl, trivial⟩ (by rw [hm0]; omega) ⟨j + min (lb - j) (64 - (m.length + j) % 64), cutA A1 kc (min (lb - j) (64 - (m.length + j) % 64)) 1, kc - min (lb - j) (64 - (m.length + j) % 64), rfl, rfl, by omega, ⟨_, _, hs, hrep2⟩, hS21, hrnd, HC⟩
    ·
      have c1 := of_decide_eq_false c1
      have hrep2 := hrep.more (c := ((b.drop j).take (min (lb - j) (64 - (m.length + j) % 64)))) (by rw [hml, hcl]; omega)
      rw [hml, List.append_assoc, ← List.take_add] at hrep2
      refine wc_skip ?_
      refine x_in_normal ?_
      refine x_round (e' := [(0, .pointer (some ⟨g, 0, none⟩)), (1, .slice (cutA A1 kc (min (lb - j) (64 - (m.length + j) % 64)) 1) (lb - (j + min (lb - j) (64 - (m.length + j) % 64))) (kc - min (lb - j) (64 - (m.length + j) % 64)))]) ⟨rfl, rfl, trivial⟩ (by rw [hm0]; omega) ⟨j + min (lb - j) (64 - (m.length + j) % 64), cutA A1 kc (min (lb - j) (64 - (m.length + j) % 64)) 1, kc - min (lb - j) (64 - (m.length + j) % 64), rfl, rfl, by omega, ⟨_, _, hs, hrep2⟩, hS21, hrnd, HC⟩
  ·
    have c0 := of_decide_eq_false c0
    have hjl : j = lb := by omega
    rw [List.take_of_length_le (by omega)] at hrep
    rw [hjl, ← hbl, ← List.length_append] at hs
    refine wc_exit ?_
    refine x_then_exit ?_
    refine x_then_exit ?_
    refine x_in_here ?_
    refine fin_run_n (res0 rfl) ?_
    exact ⟨rfl, HC, _, _, hs, hrep⟩
end Go.Proofs.YtdbdconmcgcooaaDoor
